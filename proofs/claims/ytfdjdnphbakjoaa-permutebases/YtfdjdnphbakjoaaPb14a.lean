import Derived.Test.YtfdjdnphbakjoaaPbHead
namespace Go.Proofs
open Go.Ab
set_option maxRecDepth 1000000
noncomputable def in14 : AV := .agg [.int .i64 64782, .any, .any, u64A 2, u64A 3, .any]
noncomputable def chk14 : Bool := match gCall Try.fb.get (wP lFull) 5000 40 9 [in14, shBase] (nilH 0) with
  | .ok (.tup [.hsl K o n sz, u, e]) h => (Nat.beq o 0 && (Nat.beq n 474 && Nat.beq sz 3)) && (eq1F u (.int .i64 5) && (eq1F e (.int .i64 0) && (match h.objs.get K with
    | some cs => okCs cs && (allB lowA cs && Nat.beq (len cs) 1422)
    | none => false)))
  | _ => false
theorem chk14_ok : chk14 = true := by kernel_rfl
end Go.Proofs
