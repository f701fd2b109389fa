import Derived.Test.YtfdjdnphbakjoaaPsStep
namespace Go.Proofs
open Go.Ab
set_option maxRecDepth 1000000

/-- The store at the call of shuffle. -/
noncomputable def H46 : Hp := ⟨24, (.node (.node (.node (.node (.node .nil (some [(.sym .i64 (.var 5) 0 4032 0), (.sym .i64 (.var 5) 0 4032 1), (.sym .i64 (.var 5) 0 4032 2), (.sym .i64 (.var 5) 0 4032 3)]) .nil) (some [(.sym .u8 (.var 20) 0 31 0), (.sym .u8 (.var 21) 0 31 0), (.sym .u8 (.var 22) 0 31 0), (.sym .u8 (.var 23) 0 31 0), (.sym .u8 (.var 24) 0 31 0), (.sym .u8 (.var 25) 0 31 0), (.sym .u8 (.var 26) 0 31 0), (.sym .u8 (.var 27) 0 31 0), (.sym .u8 (.var 28) 0 31 0), (.sym .u8 (.var 29) 0 31 0), (.sym .u8 (.var 30) 0 31 0), (.sym .u8 (.var 31) 0 31 0), (.sym .u8 (.var 32) 0 31 0), (.sym .u8 (.var 33) 0 31 0), (.sym .u8 (.var 34) 0 31 0), (.sym .u8 (.var 35) 0 31 0)]) (.node .nil (some [(.int .i64 33), (.sym .i64 (.var 5) 0 4032 3), (.int .u64 0), (.int .i64 33), (.sym .i64 (.var 5) 0 4032 2), (.int .u64 0), (.int .i64 33), (.sym .i64 (.var 5) 0 4032 1), (.int .u64 0), (.int .i64 33), (.sym .i64 (.var 5) 0 4032 0), (.int .u64 0)]) .nil)) (some [(.hsl 23 0 4 3), (.sym .i64 (.var 5) 0 4032 0), (.int .i64 4)]) (.node (.node .nil none .nil) none .nil)) (some [(.int .i64 12), (.int .i64 0), (.bool true), (.isl 2 [(.int .i64 123), (.int .i64 123)]), (.isl 1 [(.int .i64 123)])]) (.node (.node (.node .nil none .nil) none .nil) (some [(.int .i64 64781), .any, .any, (.sym .u64 (.var 2) 0 18446744073709551615 0), (.sym .u64 (.var 3) 0 18446744073709551615 0), .any]) (.node (.node .nil none .nil) none .nil))) (some [(.int .i64 64781), .any, .any, (.sym .u64 (.var 2) 0 18446744073709551615 0), (.sym .u64 (.var 3) 0 18446744073709551615 0), .any]) (.node (.node (.node (.node .nil (some [(.int .i64 33), (.sym .i64 (.var 5) 0 4032 3), (.int .u64 0)]) .nil) (some [(.sym .i64 (.var 5) 0 4032 0)]) .nil) (some [(.ref 3 0), (.hsl 15 0 4 1)]) (.node (.node .nil (some [(.int .i64 33), (.sym .i64 (.var 5) 0 4032 1), (.int .u64 0)]) .nil) (some [(.sym .i64 (.var 5) 0 4032 2)]) .nil)) (some [(.sym .u8 (.var 20) 0 31 0), (.sym .u8 (.var 21) 0 31 0), (.sym .u8 (.var 22) 0 31 0), (.sym .u8 (.var 23) 0 31 0), (.sym .u8 (.var 24) 0 31 0), (.sym .u8 (.var 25) 0 31 0), (.sym .u8 (.var 26) 0 31 0), (.sym .u8 (.var 27) 0 31 0), (.sym .u8 (.var 28) 0 31 0), (.sym .u8 (.var 29) 0 31 0), (.sym .u8 (.var 30) 0 31 0), (.sym .u8 (.var 31) 0 31 0), (.sym .u8 (.var 32) 0 31 0), (.sym .u8 (.var 33) 0 31 0), (.sym .u8 (.var 34) 0 31 0), (.sym .u8 (.var 35) 0 31 0)]) (.node (.node (.node .nil (some [(.int .i64 33), (.sym .i64 (.var 5) 0 4032 2), (.int .u64 0)]) .nil) (some [(.sym .i64 (.var 5) 0 4032 1)]) .nil) (some [(.int .i64 12), (.int .i64 0), (.bool true), (.isl 2 [(.int .i64 123), (.int .i64 123)]), (.isl 1 [(.int .i64 123)])]) (.node (.node .nil (some [(.int .i64 33), (.sym .i64 (.var 5) 0 4032 0), (.int .u64 0)]) .nil) (some [(.sym .i64 (.var 5) 0 4032 3)]) .nil))))⟩
noncomputable def shEnter : Bool := match runL [cCode Try.prog (cDraw Try.prog shCall 35) shCall 100 35 (seqL (bodyOf Try.f46)), cCode Try.prog (cDraw Try.prog shCall 35) shCall 100 35 (seqL (seqR (bodyOf Try.f46)))]
    (enterT [.ref 4 0, .agg (selA 31 16)] 0 Tm.none) H46 with
  | .norm t h => shIs (selA 31 16) 0 25 23 4 cells0 t h
  | _ => false
theorem shEnter_ok : shEnter = true := by kernel_rfl
theorem cells0_ok : okCs cells0 = true ∧ cells0.length = 3 * 4 := ⟨by kernel_rfl, rfl⟩
theorem body46 : Try.f46.body = some (bodyOf Try.f46) := by kernel_rfl
theorem nt46 : Try.f46.ntmps = 35 := by kernel_rfl
theorem res46 : cRVs Try.prog 35 Try.f46.results.toList = some [] := by kernel_rfl
variable [Io]

theorem shuf_ok {s : Nat → Nat} (hs : Sel s) : CallSt Try.prog 46 [.ref 4 0, .agg (selA 31 16)] H46 (.tup [])
    (shHp (nxOf 16 (cnt s 16)) (kOf 16 (cnt s 16)) (nOf 16 (cnt s 16)) (atoms (nOf 16 (cnt s 16)) 1000)) := by
  refine ⟨Try.call46, fun g w vs H hv => calls_of_wp Try.func46 body46 ?_⟩
  have hB := shEnter_ok
  unfold shEnter at hB
  cases hr : runL [cCode Try.prog (cDraw Try.prog shCall 35) shCall 100 35 (seqL (bodyOf Try.f46)), cCode Try.prog (cDraw Try.prog shCall 35) shCall 100 35 (seqL (seqR (bodyOf Try.f46)))]
    (enterT [.ref 4 0, .agg (selA 31 16)] 0 Tm.none) H46 with
  | bad => rw [hr] at hB; cases hB
  | ret t h => rw [hr] at hB; cases hB
  | exit i t h => rw [hr] at hB; cases hB
  | norm t h =>
  rw [hr] at hB
  have S := shIs_ok hB
  rw [shC, nt46]
  have T0 := enter_tr (nt := 35) (by decide) hv (by decide)
  refine pre_ok (Try.ok 5000 30) sh_hd 100 (.block 0 (.loop shB)) [seqL (bodyOf Try.f46), seqL (seqR (bodyOf Try.f46))] g w _ H46 _ t h _ H T0 rfl hr ?_
  intro g1 w1 a1 E1 H1 T1 D1
  have Fr := S.frame (sel' := selA 31 16) T1 fun vs hv => hv
  have St := S.store (cs' := atoms 4 1000) H1 (atoms_imp 4 cells0 1000 · cells0_ok.1 cells0_ok.2 hs.first)
  refine wp_block (wp_loop_rounds 17 ?_)
  refine sh_loop hs 16 0 rfl g1 w1 a1 _ St.2 Fr D1 ?_
  intro g2 w2 a2 E2 H2 T2 D2
  show Exit.inBlock 0 _ (.exit 0) a2 w2
  simp only [Exit.inBlock, if_true]
  have hf := fin_ok (F := Try.f46) (rvs := []) (v := .tup []) (h' := shHp (nxOf 16 (cnt s 16)) (kOf 16 (cnt s 16)) (nOf 16 (cnt s 16)) (atoms (nOf 16 (cnt s 16)) 1000)) H2 T2 res46 rfl
  obtain ⟨_, x, hx, hxv⟩ := hf
  exact ⟨D2, x, hx, x, g2, rfl, E1.trans (St.1.trans E2), H2, hxv⟩

-- the whole of Seq, at a shuffle
noncomputable def A9 : List AV := [shIn, shBase]
noncomputable def w9 (z : Nat) (c : CallF) : CallF := orAt 46 [.ref 4 0, .agg (selA 31 16)] H46 (.tup []) (shHp (nxOf 16 z) (kOf 16 z) (nOf 16 z) (atoms (nOf 16 z) 1000)) (orc (Try.tblP (selA 31 16)) c)
noncomputable def f9Chk (z : Nat) : Bool := match gCall Try.fb.get (w9 z) 5000 40 9 A9 (nilH 0) with
  | .ok (.tup [k, u, e]) h => eq1F k (.hsl (kOf 16 z) 0 (nOf 16 z) 3) && (eq1F u (.int .i64 4) && (eq1F e (.int .i64 0) && isR (h.objs.get (kOf 16 z)) (atoms (nOf 16 z) 1000)))
  | _ => false
omit [Io] in
theorem f9Chk_all : (upto 17 f9Chk) = true := by kernel_rfl
end Go.Proofs
