import Derived.Test.YtfdjdnphbakjoaaK20
import Derived.Test.YtfdjdnphbakjoaaAb27
namespace Go.Proofs
open Go.Ab
set_option maxRecDepth 1000000
theorem Try.k16 : res (aCall Try.fb.get 5000 40 16 [] (nilH 0)) = some (.bool true) := by kernel_rfl
noncomputable def Try.tblB : FuncId → List AV → Option AV := lookF [(20, lookR Try.rows20), (16, look0 (.bool true))]
theorem Try.tblB_ok [Io] : ∀ f args v, Try.tblB f args = some v → Known Try.prog f args v :=
  fun f args v e => lookF_ok (tbl := [(20, lookR Try.rows20), (16, look0 (.bool true))]) (fun p hp I args v e => by
    rcases List.mem_cons.1 hp with rfl | hp
    · exact lookR_ok Try.rows20_ok I args v e
    rcases List.mem_cons.1 hp with rfl | hp
    · exact look0_ok (fun J => @Try.ok J 5000 40) Try.k16 I args v e
    · cases hp) _ f args v e
theorem Try.okB [Io] (n d : Nat) : CallOk Try.prog (oCall Try.fb.get Try.tblB n d) :=
  oCall_ok (draw_ok Try.mixed) (fun f b e => by simpa using Try.fbs.get f b e) Try.tblB_ok n d

/-- The law SwarBases, where the opcode lies between two numbers. -/
def Try.LawB (A B : Int) : Prop := ∀ (op : Int), A ≤ op → op ≤ B → ∀ (v1 v2 v3 v4 v5 : Value), v1.oneCell' = true → v2.oneCell' = true → v3.oneCell' = true → v4.oneCell' = true → v5.oneCell' = true →
  ∀ (base other : Int), -9223372036854775808 ≤ base → base ≤ 9223372036854775807 → -9223372036854775808 ≤ other → other ≤ 9223372036854775807 → ∀ w : World,
    Calls Try.prog 7 #[.agg #[.int .i64 op, v1, v2, v3, v4, v5], .int .i64 base, .int .i64 other] w fun e w' => e = .returned (.bool true) ∧ Go.RowKit.Below w.heap.size w w'
theorem Try.LawB.join {A B C D : Int} (h : Try.LawB A B) (k : Try.LawB C D) (hc : C ≤ B + 1) : Try.LawB A D :=
  fun op h1 h2 => if hb : op ≤ B then h op h1 hb else k op (by omega) h2
noncomputable def Try.runB (o : AV) : Bool := isT (oCall Try.fb.get Try.tblB 5000 40 7 [.agg [o, .any, .any, .any, .any, .any], .sym .i64 (.var 0) (-9223372036854775808) 9223372036854775807 0, .sym .i64 (.var 1) (-9223372036854775808) 9223372036854775807 0] (nilH 0))
theorem Try.lawB_of {A B : Int} {o : AV} (e : Try.runB o = true) (ho : ∀ op, A ≤ op → op ≤ B → ∀ (base other : Int) (g : G) (w : World), @VR ⟨fun i => if i = 0 then base else if i = 1 then other else op⟩ g w o (.int .i64 op)) : Try.LawB A B := by
  intro op h1 h2 v1 v2 v3 v4 v5 o1 o2 o3 o4 o5 base other b1 b2 t1 t2 w
  letI I : Io := ⟨fun i => if i = 0 then base else if i = 1 then other else op⟩
  refine law_ok (vs := [.agg #[.int .i64 op, v1, v2, v3, v4, v5], .int .i64 base, .int .i64 other]) (Try.okB 5000 40) e w ?_
  simp only [VRs, VR]
  refine ⟨_, _, rfl, ⟨_, rfl, _, _, rfl, ?_, _, _, rfl, o1, _, _, rfl, o2, _, _, rfl, o3, _, _, rfl, o4, _, _, rfl, o5, rfl⟩, _, _, rfl, ⟨?_, b1, b2⟩, _, _, rfl, ⟨?_, t1, t2⟩, rfl⟩
  · exact ho op h1 h2 base other _ _
  · show Value.int .i64 base = .int .i64 (base + 0); rw [Int.add_zero]
  · show Value.int .i64 other = .int .i64 (other + 0); rw [Int.add_zero]
theorem Try.lawB_int {A : Int} (e : Try.runB (.int .i64 A) = true) : Try.LawB A A :=
  Try.lawB_of e fun op h1 h2 base other g w => by
    obtain rfl : op = A := by omega
    simp only [VR]
theorem Try.lawB_sym {A B : Int} (e : Try.runB (.sym .i64 (.var 2) A B 0) = true) : Try.LawB A B :=
  Try.lawB_of e fun op h1 h2 base other g w => by
    simp only [VR]
    exact ⟨by show Value.int .i64 op = .int .i64 (op + 0); rw [Int.add_zero], h1, h2⟩
end Go.Proofs
