import Derived.Test.YtcnkojgmochcgaaGreatDoorEnvQ
import Derived.Test.YtcnkojgmochcgaaGreatDoorLfN
noncomputable section
namespace Go.Proofs.Vq
open Go.Ab Go.Ab.Lf Go.RowKit
set_option maxRecDepth 1000000
def asn(n d:Nat):mS:=vX Tryz.gt (fun c=>c) n d
theorem aak[Io](n d:Nat):nv Tryz.prog (asn n d):=vY (Be Tryz.mixed) Tryz.gts (fun _ hc=>hc) n d
def UH:List (Int×Int×Int):=[(32,0,1),(33,1,0),(34,1,1),(66,0,1),(124,2,1),(125,2,1),(126,2,1),(131,2,1),(132,2,1),(133,2,1),(136,2,1)]
theorem UI[Io]: ∀ p,p∈UH->oe Tryz.prog 309 [.int .i64 p.1] (.wZ [.int .i64 p.2.1,.int .i64 p.2.2]):=by
 unfold UH
 simp only[List.forall_mem_cons]
 refine⟨?_,?_,?_,?_,?_,?_,?_,?_,?_,?_,?_,?_⟩
 all_goals first|exact zO (aak 100 20) (by kernel_rfl) (by kernel_rfl)|(intro p h;cases h)
def UJ(x:Int):List (Int×Int×Int)->Option AV:=fun l=>List.rec none (fun p _ ih=>bif decide (p.1=x)then some (.wZ [.int .i64 p.2.1,.int .i64 p.2.2])else ih) l
def lkT(f:FuncId)(az:List AV):Option AV:=bif Nat.beq f 309 then(match az with| [.int .i64 x]=>UJ x UH| _=>none)else none
theorem UK[Io]: ∀ f az v,lkT f az=some v->oe Tryz.prog f az v:=by
 intro f az v h
 unfold lkT at h
 cases hc:Nat.beq f 309 with
 |false=>rw[hc]at h;cases h
 |true=>
  rw[hc,cond_true]at h
  obtain rfl:=Nat.eq_of_beq_eq_true hc
  split at h
  ·rename_i x
   have key: ∀ l:List (Int×Int×Int),(∀ p,p∈l->oe Tryz.prog 309 [.int .i64 p.1] (.wZ [.int .i64 p.2.1,.int .i64 p.2.2]))->UJ x l=some v->oe Tryz.prog 309 [.int .i64 x] v:=by
    intro l
    induction l with
    |nil=>intro _ h;cases h
    |cons p l ih=>
     intro hp h
     change (bif decide (p.1=x)then some (.wZ [.int .i64 p.2.1,.int .i64 p.2.2])else UJ x l)=some v at h
     by_cases e:p.1=x
     ·rw[decide_eq_true e,cond_true]at h
      cases h
      subst e
      exact hp p List.mem_cons_self
     ·rw[decide_eq_false e,cond_false]at h
      exact ih (fun q hq=>hp q (List.mem_cons_of_mem _ hq)) h
   exact key _ UI h
  ·cases h
def aso(n d:Nat):mS:=JC lkT (vX Tryz.gt (JC lkT) n d)
theorem aal[Io](n d:Nat):nv Tryz.prog (aso n d):=CV UK (vY (Be Tryz.mixed) Tryz.gts (fun _ hc=>CV UK hc) n d)
end Go.Proofs.Vq
