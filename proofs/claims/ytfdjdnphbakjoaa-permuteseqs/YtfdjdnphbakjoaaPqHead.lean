import Derived.Test.YtfdjdnphbakjoaaPbHead
import Derived.Test.YtfdjdnphbakjoaaOfAll
namespace Go.Proofs
open Go.Ab
set_option maxRecDepth 1000000

-- the document's Join
noncomputable def digA (i : Nat) : List Nat → List AV := List.rec [] fun p _ ih => .sym .u8 (.dig i p (bif Nat.beq p 72057594037927936 then 0 else 256)) 0 255 0 :: ih
theorem join29 : res (aCall Try.fb.get 1000 50 29 joinA (nilH 0)) = some (.agg (app (digA 2 pows) (digA 3 pows))) := by kernel_rfl

noncomputable def baseQ (C D : Int) : AV := .sym .i64 (.var 5) C D 0
noncomputable def baseE : AV := .sym .i64 (.var 5) 0 4032 4
noncomputable def Try.tblQ (sel : List AV) : FuncId → List AV → Option AV :=
  lookF [(10, lookR Try.rows10), (20, lookR Try.rows20), (21, lookA joinA (.agg sel)), (28, lookR Try.rows28), (29, lookA joinA (.agg sel)), (8, look0 (.bool true))]
noncomputable def wQ (l : List (Int × Int)) (c : CallF) : CallF := orc (Try.tblQ (selL l 0)) c
noncomputable def pqR (l : List (Int × Int)) (o a : AV) (C D : Int) : Bool := isT (gCall Try.fb.get (wQ l) 5000 40 3 [.agg [o, a, .any, u64A 2, u64A 3, .any], baseQ C D] (nilH 0))

-- the cells of a shuffle are straight
noncomputable def strRun (a b : AV) : Bool := isT (gCall Try.fb.get (fun c => orc (lookF [(28, lookR Try.rows28)]) c) 5000 40 13 [.agg [a, b, .any], shBase, baseE] (nilH 0))
noncomputable def strL : List (AV × AV) := [(.int .i64 33, .sym .i64 (.var 5) 0 4032 0), (.int .i64 33, .sym .i64 (.var 5) 0 4032 1), (.int .i64 33, .sym .i64 (.var 5) 0 4032 2), (.int .i64 33, .sym .i64 (.var 5) 0 4032 3),
  (.int .i64 32, .sym .i64 (.var 5) 0 4032 0), (.int .i64 32, .sym .i64 (.var 5) 0 4032 1), (.int .i64 32, .sym .i64 (.var 5) 0 4032 2), (.int .i64 32, .sym .i64 (.var 5) 0 4032 3),
  (.int .i64 66, .int .i64 0), (.int .i64 136, .int .i64 0), (.int .i64 131, .int .i64 0), (.int .i64 134, .int .i64 0), (.int .i64 132, .int .i64 0)]
theorem strL_ok : allB (fun p => strRun p.1 p.2) strL = true := by kernel_rfl
noncomputable def strIn (a b : AV) : Bool := List.rec false (fun p _ ih => bif eq1F p.1 a && eq1F p.2 b then true else ih) strL
/-- Every three of them are one of those. -/
noncomputable def str3 : List AV → Bool
  | [] => true
  | a :: b :: _ :: r => strIn a b && str3 r
  | _ => false
theorem str0_ok : str3 cells0 = true := by kernel_rfl
noncomputable def strChk : Bool := upto 16 fun j => upto 4 fun q => str3 (cells j q false) && str3 (cells j q true)
theorem strChk_ok : strChk = true := by kernel_rfl
theorem str_cells {j q : Nat} (hj : j < 16) (hq : q < 4) (nz : Bool) : str3 (cells j q nz) = true := by
  have := upto_ok (upto_ok strChk_ok j hj) q hq
  simp only [Bool.and_eq_true] at this
  cases nz
  · exact this.1
  · exact this.2
theorem str3_app : ∀ (l r : List AV), str3 l = true → str3 r = true → str3 (l ++ r) = true
  | [], r, _, h => h
  | a :: b :: c :: l, r, h1, h2 => by
    simp only [str3, Bool.and_eq_true] at h1
    simp only [List.cons_append, str3, Bool.and_eq_true]
    exact ⟨h1.1, str3_app l r h1.2 h2⟩
  | [_], _, h, _ => by cases h
  | [_, _], _, h, _ => by cases h
theorem Lp_str {s : Nat → Nat} (h : ∀ j, j < 16 → s j < 32) : ∀ j, j ≤ 16 → str3 (Lp s j) = true
  | 0, _ => str0_ok
  | j + 1, hj => str3_app _ _ (Lp_str h j (by omega)) (str_cells (by omega) (by have := h j (by omega); omega) _)
theorem str3_at : ∀ (k : Nat) (l : List AV), str3 l = true → 3 * k < l.length → ∃ a b c, l[3 * k]? = some a ∧ l[3 * k + 1]? = some b ∧ l[3 * k + 2]? = some c ∧ strIn a b = true
  | 0, a :: b :: c :: r, h, _ => by
    simp only [str3, Bool.and_eq_true] at h
    exact ⟨a, b, c, rfl, rfl, rfl, h.1⟩
  | k + 1, a :: b :: c :: r, h, hk => by
    simp only [str3, Bool.and_eq_true] at h
    obtain ⟨x, y, z, h1, h2, h3, h4⟩ := str3_at k r h.2 (by simp only [List.length_cons] at hk; omega)
    refine ⟨x, y, z, ?_, ?_, ?_, h4⟩
    · rw [show 3 * (k + 1) = 3 * k + 1 + 1 + 1 by omega]; simpa using h1
    · rw [show 3 * (k + 1) + 1 = 3 * k + 1 + 1 + 1 + 1 by omega]; simpa using h2
    · rw [show 3 * (k + 1) + 2 = 3 * k + 2 + 1 + 1 + 1 by omega]; simpa using h3
  | _, [], _, hk => by simp at hk
  | _, [_], h, _ => by cases h
  | _, [_, _], h, _ => by cases h
theorem strIn_run {a b : AV} (h : strIn a b = true) : strRun a b = true := by
  have all := strL_ok
  rw [allB_eq, List.all_eq_true] at all
  have key : ∀ l : List (AV × AV), (∀ p ∈ l, strRun p.1 p.2 = true) → (List.rec false (fun p _ ih => bif eq1F p.1 a && eq1F p.2 b then true else ih) l : Bool) = true → strRun a b = true := by
    intro l hl
    induction l with
    | nil => intro h; cases h
    | cons p l ih =>
      intro h
      cases hp : (eq1F p.1 a && eq1F p.2 b) with
      | true =>
        rw [Bool.and_eq_true] at hp
        rw [← eq1F_iff hp.1, ← eq1F_iff hp.2]
        exact hl p List.mem_cons_self
      | false =>
        simp only [hp, cond_false] at h
        exact ih (fun q hq => hl q (List.mem_cons_of_mem _ hq)) h
  exact key strL all h

/-- A cell of the numbered ones. -/
noncomputable def lookST (n : Nat) (args : List AV) : Option AV := match args with
  | [.agg [.sym k (.var i) lo hi o, b, c], x, y] => bif (Nat.ble 1000 i && (Nat.beq (Nat.mod (Nat.sub i 1000) 3) 0 && Nat.blt (Nat.div (Nat.sub i 1000) 3) n)) && (eq1F (.sym k (.var i) lo hi o) (atomK false i) && (eq1F b (atomK false (Nat.add i 1)) && (eq1F c (atomK true (Nat.add i 2)) && (eq1F x shBase && eq1F y baseE))))
      then some (.bool true) else none
  | _ => none
noncomputable def wS (z : Nat) (c : CallF) : CallF := orN 9 A9 (nOf 16 z) 3 (atoms (nOf 16 z) 1000) (.int .i64 4) (.int .i64 0) (orc (lookF [(13, lookST (nOf 16 z)), (10, lookR Try.rows10), (28, lookR Try.rows28), (29, lookA joinA (.agg (selL l31 0))), (8, look0 (.bool true))]) c)
noncomputable def pqS (z : Nat) : Bool := isT (gCall Try.fb.get (wS z) 5000 40 3 [shIn, shBase] (nilH 0))
end Go.Proofs
