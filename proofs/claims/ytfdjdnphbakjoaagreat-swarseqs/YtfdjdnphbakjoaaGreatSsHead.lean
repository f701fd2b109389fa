import Derived.Test.YtfdjdnphbakjoaaGreatKZ
namespace Go.Proofs
open Go.Ab
set_option maxRecDepth 1000000
theorem Tryz.k4 : res (aCall Tryz.fb.get 5000 40 4 [] (nilH 0)) = some (.bool true) := by kernel_rfl
noncomputable def Tryz.tbl : FuncId → List AV → Option AV := lookF [(29, lookR Tryz.rows29), (27, lookR Tryz.rows27), (4, look0 (.bool true))]
theorem Tryz.tbl_ok [Io] : ∀ f args v, Tryz.tbl f args = some v → Known Tryz.prog f args v :=
  fun f args v e => lookF_ok (tbl := [(29, lookR Tryz.rows29), (27, lookR Tryz.rows27), (4, look0 (.bool true))]) (fun p hp I args v e => by
    rcases List.mem_cons.1 hp with rfl | hp
    · exact lookR_ok Tryz.rows29_ok I args v e
    rcases List.mem_cons.1 hp with rfl | hp
    · exact lookR_ok Tryz.rows27_ok I args v e
    rcases List.mem_cons.1 hp with rfl | hp
    · exact look0_ok (fun J => @Tryz.ok J 5000 40) Tryz.k4 I args v e
    · cases hp) _ f args v e
theorem Tryz.okS [Io] (n d : Nat) : CallOk Tryz.prog (oCall Tryz.fb.get Tryz.tbl n d) :=
  oCall_ok (draw_ok Tryz.mixed) (fun f b e => by simpa using Tryz.fbs.get f b e) Tryz.tbl_ok n d

/-- The law SwarSeqs, where the opcode and the base lie between two numbers. -/
def Tryz.LawR (A B C D : Int) : Prop := ∀ (op : Int), A ≤ op → op ≤ B → ∀ (base : Int), C ≤ base → base ≤ D → ∀ (v1 v2 v3 v4 v5 : Value), v1.oneCell' = true → v2.oneCell' = true → v3.oneCell' = true → v4.oneCell' = true → v5.oneCell' = true →
  ∀ w : World, Calls Tryz.prog 3 #[.agg #[.int .i64 op, v1, v2, v3, v4, v5], .int .i64 base] w fun e w' => e = .returned (.bool true) ∧ Go.RowKit.Below w.heap.size w w'
def Tryz.LawS (A B : Int) : Prop := Tryz.LawR A B (-9223372036854775808) 9223372036854775807
theorem Tryz.LawS.join {A B C D : Int} (h : Tryz.LawS A B) (k : Tryz.LawS C D) (hc : C ≤ B + 1) : Tryz.LawS A D :=
  fun op h1 h2 => if hb : op ≤ B then h op h1 hb else k op (by omega) h2
theorem Tryz.lawS_three {A B : Int} (h1 : Tryz.LawR A B (-9223372036854775808) (-1)) (h2 : Tryz.LawR A B 0 4032) (h3 : Tryz.LawR A B 4033 9223372036854775807) : Tryz.LawS A B :=
  fun op a b base c d => if hb : base ≤ -1 then h1 op a b base c hb else if hc : base ≤ 4032 then h2 op a b base (by omega) hc else h3 op a b base (by omega) d
noncomputable def Tryz.runS (o : AV) (C D : Int) : Bool := isT (oCall Tryz.fb.get Tryz.tbl 5000 40 3 [.agg [o, .any, .any, .any, .any, .any], .sym .i64 (.var 0) C D 0] (nilH 0))
theorem Tryz.lawR_of {A B C D : Int} {o : AV} (e : Tryz.runS o C D = true) (ho : ∀ op, A ≤ op → op ≤ B → ∀ (base : Int) (g : G) (w : World), @VR ⟨fun i => if i = 0 then base else op⟩ g w o (.int .i64 op)) : Tryz.LawR A B C D := by
  intro op h1 h2 base b1 b2 v1 v2 v3 v4 v5 o1 o2 o3 o4 o5 w
  letI I : Io := ⟨fun i => if i = 0 then base else op⟩
  refine law_ok (vs := [.agg #[.int .i64 op, v1, v2, v3, v4, v5], .int .i64 base]) (Tryz.okS 5000 40) e w ?_
  simp only [VRs, VR]
  refine ⟨_, _, rfl, ⟨_, rfl, _, _, rfl, ?_, _, _, rfl, o1, _, _, rfl, o2, _, _, rfl, o3, _, _, rfl, o4, _, _, rfl, o5, rfl⟩, _, _, rfl, ⟨?_, b1, b2⟩, rfl⟩
  · exact ho op h1 h2 base _ _
  · show Value.int .i64 base = .int .i64 (base + 0); rw [Int.add_zero]
theorem Tryz.lawR_int {A C D : Int} (e : Tryz.runS (.int .i64 A) C D = true) : Tryz.LawR A A C D :=
  Tryz.lawR_of e fun op h1 h2 base g w => by
    obtain rfl : op = A := by omega
    simp only [VR]
theorem Tryz.lawR_sym {A B C D : Int} (e : Tryz.runS (.sym .i64 (.var 1) A B 0) C D = true) : Tryz.LawR A B C D :=
  Tryz.lawR_of e fun op h1 h2 base g w => by
    simp only [VR]
    exact ⟨by show Value.int .i64 op = .int .i64 (op + 0); rw [Int.add_zero], h1, h2⟩
end Go.Proofs
