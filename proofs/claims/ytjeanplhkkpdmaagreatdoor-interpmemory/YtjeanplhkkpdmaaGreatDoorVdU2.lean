import Derived.Test.YtjeanplhkkpdmaaGreatDoorVdT6
import Derived.Test.YtjeanplhkkpdmaaGreatDoorLfG
noncomputable section
namespace Go.Proofs.Vd
open Go.Ab Go.Ab.Lf
set_option maxRecDepth 100000
def xj(y:cb tM):Nat:=y.2.1.length+y.2.2.1.length
def Z2(y:cb tM):Bool:=(List.range (xj y)).all (fun i=>jh y.1 (jj y.2.1 y.2.2.1 (i:Int)))
def XR(l:den cq):Bool:= !(bif !decide (l.2= -1)then decide (l.2<l.1)else false)
def pGl(g:den cI):Bool:=yQ g.2.2 g.1
def pTM(y:cb tM):Bool:=bif decide (1<(y.2.2.2.1.length:Int))then true else decide (1<(y.2.2.2.2.1.length:Int))
def pMx(y:cb tM):Bool:=bif decide ((y.2.2.2.2.1.length:Int)=1)then decide (65536<(y.2.2.2.2.1.getD 0 (cr cq)).2)else false
def Bh(y:cb tM):Bool:=Z2 y&&(!pTM y&&(List.all (y.2.2.2.1++y.2.2.2.2.1) XR&&(!pMx y&&(List.all y.2.2.2.2.2.1 pGl&&(mNm (y.1,y.2.1,y.2.2.1,y.2.2.2.1,y.2.2.2.2.1,y.2.2.2.2.2.1,y.2.2.2.2.2.2.1,y.2.2.2.2.2.2.2.1,y.2.2.2.2.2.2.2.2.1,y.2.2.2.2.2.2.2.2.2.1,y.2.2.2.2.2.2.2.2.2.2.1,(xj y:Int),())&&aeo y (xj y:Int))))))
set_option maxHeartbeats 2000000 in
theorem aiQ{y:cb tM}(h:MOk y):(t19 (y.1,y.2.1,y.2.2.1,y.2.2.2.1,y.2.2.2.2.1,y.2.2.2.2.2.1,y.2.2.2.2.2.2.1,y.2.2.2.2.2.2.2.1,y.2.2.2.2.2.2.2.2.1,y.2.2.2.2.2.2.2.2.2.1,y.2.2.2.2.2.2.2.2.2.2.1,())).val=some (cp yR (Bh y,())):=by
 have li:=h.li
 have lf:=h.lf
 have lb:=h.lb
 have lm:=h.lm
 have lg:=h.lg
 have hf:iA .i64 (y.2.1.length:Int) (y.2.2.1.length:Int)=(xj y:Int):=DI (by omega)
 have hpf:xj y<=1024:=by unfold xj;omega
 have r0:=sH (f:=f190) (l:=List.range (xj y)) (fun j=>cp rI ((xj y:Int),y.1,y.2.1,y.2.2.1,y.2.2.2.1,y.2.2.2.2.1,y.2.2.2.2.2.1,y.2.2.2.2.2.2.1,y.2.2.2.2.2.2.2.1,y.2.2.2.2.2.2.2.2.1,y.2.2.2.2.2.2.2.2.2.1,y.2.2.2.2.2.2.2.2.2.2.1,(xj y:Int),(j:Int),())) (fun i=>jh y.1 (jj y.2.1 y.2.2.1 (i:Int))) (cp py ((xj y:Int),y.1,y.2.1,y.2.2.1,y.2.2.2.1,y.2.2.2.2.1,y.2.2.2.2.2.1,y.2.2.2.2.2.2.1,y.2.2.2.2.2.2.2.1,y.2.2.2.2.2.2.2.2.1,y.2.2.2.2.2.2.2.2.2.1,y.2.2.2.2.2.2.2.2.2.2.1,())) (cp qv (false,())) (fun j x r e=>by
  obtain⟨e1,e2⟩:=iT e 0
  have e3:x=j:=by
   rw[<-e2,List.getD_eq_getElem?_getD,List.getElem?_eq_getElem e1]
   simp
  rw[e3]
  rw[List.length_range]at e1
  have c:(decide ((j:Int)<9223372036854775808)&&decide (y.2.1.length<=1099511627776))=true:=by
   rw[decide_eq_true (by omega),decide_eq_true (by omega)];rfl
  rw[ZZ _ _ (GG h.ty),jq e1,cond_true,c,nQ (by omega)]
  cases jh y.1 (jj y.2.1 y.2.2.1 (j:Int))<;>rfl) (by rw[ZZ _ _ (GG h.ty),List.length_range,iQ (Nat.le_refl _)];rfl)
 obtain⟨a1,a2,a3,a4⟩:=sI (ti:=rI) (t0:=py) (t1:=qv) (x:=((xj y:Int),y.1,y.2.1,y.2.2.1,y.2.2.2.1,y.2.2.2.2.1,y.2.2.2.2.2.1,y.2.2.2.2.2.2.1,y.2.2.2.2.2.2.2.1,y.2.2.2.2.2.2.2.2.1,y.2.2.2.2.2.2.2.2.2.1,y.2.2.2.2.2.2.2.2.2.2.1,(xj y:Int),0,())) (u:=((xj y:Int),y.1,y.2.1,y.2.2.1,y.2.2.2.1,y.2.2.2.2.1,y.2.2.2.2.2.1,y.2.2.2.2.2.2.1,y.2.2.2.2.2.2.2.1,y.2.2.2.2.2.2.2.2.1,y.2.2.2.2.2.2.2.2.2.1,y.2.2.2.2.2.2.2.2.2.2.1,())) (v:=(false,())) r0
 have s55:=mT (aiO [y.2.2.2.1,y.2.2.2.2.1] (by
  show 2+(y.2.2.2.1.length+(y.2.2.2.2.1.length+0))<=_
  omega))
 have e55:(m55 ([y.2.2.2.1,y.2.2.2.2.1],())).1=y.2.2.2.1++y.2.2.2.2.1:=by
  rw[show m55 ([y.2.2.2.1,y.2.2.2.2.1],())=_ from s55.2]
  simp
 have hll:(y.2.2.2.1++y.2.2.2.2.1).length<=1024:=by rw[List.length_append];omega
 have r2:=sH (f:=f192) (l:=y.2.2.2.1++y.2.2.2.2.1) (fun j=>cp ub ((xj y:Int),y.1,y.2.1,y.2.2.1,y.2.2.2.1,y.2.2.2.2.1,y.2.2.2.2.2.1,y.2.2.2.2.2.2.1,y.2.2.2.2.2.2.2.1,y.2.2.2.2.2.2.2.2.1,y.2.2.2.2.2.2.2.2.2.1,y.2.2.2.2.2.2.2.2.2.2.1,y.2.2.2.1++y.2.2.2.2.1,((y.2.2.2.1++y.2.2.2.2.1).length:Int),(j:Int),())) XR (cp qw ((xj y:Int),y.1,y.2.1,y.2.2.1,y.2.2.2.1,y.2.2.2.2.1,y.2.2.2.2.2.1,y.2.2.2.2.2.2.1,y.2.2.2.2.2.2.2.1,y.2.2.2.2.2.2.2.2.1,y.2.2.2.2.2.2.2.2.2.1,y.2.2.2.2.2.2.2.2.2.2.1,())) (cp sD (false,())) (fun j x r e=>by
  obtain⟨e1,e2⟩:=iT e (cr cq)
  rw[Z0 _ y _ _ _ x (by rw[Int.toNat_natCast];exact e2.symm),jq e1,cond_true,D6 e1,nQ (by omega)]
  unfold XR
  cases(bif !decide (x.2= -1)then decide (x.2<x.1)else false)<;>rfl) (by rw[Z0 _ y _ _ _ _ rfl,iQ (Nat.le_refl _)];rfl)
 obtain⟨b1,b2,b3,b4⟩:=sI (ti:=ub) (t0:=qw) (t1:=sD) (x:=((xj y:Int),y.1,y.2.1,y.2.2.1,y.2.2.2.1,y.2.2.2.2.1,y.2.2.2.2.2.1,y.2.2.2.2.2.2.1,y.2.2.2.2.2.2.2.1,y.2.2.2.2.2.2.2.2.1,y.2.2.2.2.2.2.2.2.2.1,y.2.2.2.2.2.2.2.2.2.2.1,y.2.2.2.1++y.2.2.2.2.1,((y.2.2.2.1++y.2.2.2.2.1).length:Int),0,())) (u:=((xj y:Int),y.1,y.2.1,y.2.2.1,y.2.2.2.1,y.2.2.2.2.1,y.2.2.2.2.2.1,y.2.2.2.2.2.2.1,y.2.2.2.2.2.2.2.1,y.2.2.2.2.2.2.2.2.1,y.2.2.2.2.2.2.2.2.2.1,y.2.2.2.2.2.2.2.2.2.2.1,())) (v:=(false,())) r2
 have r4:=sH (f:=f194) (l:=y.2.2.2.2.2.1) (fun j=>cp uc ((xj y:Int),y.1,y.2.1,y.2.2.1,y.2.2.2.1,y.2.2.2.2.1,y.2.2.2.2.2.1,y.2.2.2.2.2.2.1,y.2.2.2.2.2.2.2.1,y.2.2.2.2.2.2.2.2.1,y.2.2.2.2.2.2.2.2.2.1,y.2.2.2.2.2.2.2.2.2.2.1,y.2.2.2.2.2.1,(y.2.2.2.2.2.1.length:Int),(j:Int),())) pGl (cp qx ((xj y:Int),y.1,y.2.1,y.2.2.1,y.2.2.2.1,y.2.2.2.2.1,y.2.2.2.2.2.1,y.2.2.2.2.2.2.1,y.2.2.2.2.2.2.2.1,y.2.2.2.2.2.2.2.2.1,y.2.2.2.2.2.2.2.2.2.1,y.2.2.2.2.2.2.2.2.2.2.1,())) (cp sE (false,())) (fun j x r e=>by
  obtain⟨e1,e2⟩:=iT e (cr cI)
  rw[Z1 _ y _ _ _ x (by rw[Int.toNat_natCast];exact e2.symm),jq e1,cond_true,D6 e1,nQ (by omega)]
  unfold pGl
  cases yQ x.2.2 x.1<;>rfl) (by rw[Z1 _ y _ _ _ _ rfl,iQ (Nat.le_refl _)];rfl)
 obtain⟨c1,c2,c3,c4⟩:=sI (ti:=uc) (t0:=qx) (t1:=sE) (x:=((xj y:Int),y.1,y.2.1,y.2.2.1,y.2.2.2.1,y.2.2.2.2.1,y.2.2.2.2.2.1,y.2.2.2.2.2.2.1,y.2.2.2.2.2.2.2.1,y.2.2.2.2.2.2.2.2.1,y.2.2.2.2.2.2.2.2.2.1,y.2.2.2.2.2.2.2.2.2.2.1,y.2.2.2.2.2.1,(y.2.2.2.2.2.1.length:Int),0,())) (u:=((xj y:Int),y.1,y.2.1,y.2.2.1,y.2.2.2.1,y.2.2.2.2.1,y.2.2.2.2.2.1,y.2.2.2.2.2.2.1,y.2.2.2.2.2.2.2.1,y.2.2.2.2.2.2.2.2.1,y.2.2.2.2.2.2.2.2.2.1,y.2.2.2.2.2.2.2.2.2.2.1,())) (v:=(false,())) r4
 have s58:=mT (aiP y (xj y:Int) (by have:=h.le;omega) (by have:=h.ld;omega) (fun e he=>by have:=h.el e he;omega))
 have hN:Q3 (y.1,y.2.1,y.2.2.1,y.2.2.2.1,y.2.2.2.2.1,y.2.2.2.2.2.1,y.2.2.2.2.2.2.1,y.2.2.2.2.2.2.2.1,y.2.2.2.2.2.2.2.2.1,y.2.2.2.2.2.2.2.2.2.1,y.2.2.2.2.2.2.2.2.2.2.1,(xj y:Int),())=true:=by
  have k1:iD (fun e:den cQ=>decide (0<=e.2.1)&&decide (e.2.1<=3)) y.2.2.2.2.2.2.1=true:=by
   rw[kT,List.all_eq_true]
   intro e he
   obtain⟨q1,q2⟩:=h.ex e he
   rw[Bool.and_eq_true]
   exact⟨decide_eq_true q1,decide_eq_true q2⟩
  have k2:decide ((y.2.2.2.2.2.2.2.1:Int)<9223372036854775808)=true:=decide_eq_true (Int.lt_trans h.st.2 (by decide))
  have k3:decide (y.2.1.length<=1099511627776)=true:=decide_eq_true (by omega)
  have k4:decide (y.2.2.2.2.2.2.1.length<=1099511627776)=true:=decide_eq_true (by have:=h.lx;omega)
  show(((iD _ _&&((decide _&&decide _)&&decide _))&&gNx _)&&gT _)=true
  rw[k1,k2,k3,k4,h.x0,GG h.ty]
  rfl
 have hx:(bif decide ((y.2.2.2.2.1.length:Int)=1)then ij 0 (y.2.2.2.2.1.length:Int)else true)=true:=by
  by_cases q:(y.2.2.2.2.1.length:Int)=1
  ·rw[decide_eq_true q,cond_true];exact D6 (j:=0) (by omega)
  ·rw[decide_eq_false q];rfl
 unfold Bh
 cases hA:Z2 y with
 |false=>
  have hA':(List.range (xj y)).all (fun i=>jh y.1 (jj y.2.1 y.2.2.1 (i:Int)))=false:=hA
  rw[hA']at a2
  rw[XM y _ hf _ rfl _ rfl _ rfl _ rfl _ rfl _ rfl _ rfl,a1,a2,a4 hA']
  rfl
 |true=>
  have hA':(List.range (xj y)).all (fun i=>jh y.1 (jj y.2.1 y.2.2.1 (i:Int)))=true:=hA
  rw[hA']at a2
  cases hB:List.all (y.2.2.2.1++y.2.2.2.2.1) XR with
  |false=>
   rw[hB]at b2
   rw[XM y _ hf _ rfl _ (a3 hA').symm _ e55.symm _ rfl _ rfl _ rfl _ rfl,a1,a2]
   unfold pTM
   simp only[cond_true,cz]
   rw[show k55 ([y.2.2.2.1,y.2.2.2.2.1],())=true from s55.1,b1,b2,b4 hB]
   cases(bif decide (1<(y.2.2.2.1.length:Int))then true else decide (1<(y.2.2.2.2.1.length:Int)))<;>rfl
  |true=>
   rw[hB]at b2
   cases hC:List.all y.2.2.2.2.2.1 pGl with
   |false=>
    rw[hC]at c2
    rw[XM y _ hf _ rfl _ (a3 hA').symm _ e55.symm _ rfl _ (b3 hB).symm _ rfl _ rfl,a1,a2]
    unfold pTM pMx
    simp only[cond_true,cz]
    rw[show k55 ([y.2.2.2.1,y.2.2.2.2.1],())=true from s55.1,b1,b2,c1,c2,c4 hC,hx]
    cases(bif decide (1<(y.2.2.2.1.length:Int))then true else decide (1<(y.2.2.2.2.1.length:Int)))<;>cases(bif decide ((y.2.2.2.2.1.length:Int)=1)then decide (65536<(y.2.2.2.2.1.getD 0 (cr cq)).2)else false)<;>rfl
   |true=>
    rw[hC]at c2
    rw[XM y _ hf _ rfl _ (a3 hA').symm _ e55.symm _ rfl _ (b3 hB).symm _ rfl _ (c3 hC).symm,a1,a2]
    unfold pTM pMx
    simp only[cond_true,cz]
    rw[show k55 ([y.2.2.2.1,y.2.2.2.2.1],())=true from s55.1,b1,b2,c1,c2,hN,hx,show k58 (y.1,y.2.1,y.2.2.1,y.2.2.2.1,y.2.2.2.2.1,y.2.2.2.2.2.1,y.2.2.2.2.2.2.1,y.2.2.2.2.2.2.2.1,y.2.2.2.2.2.2.2.2.1,y.2.2.2.2.2.2.2.2.2.1,y.2.2.2.2.2.2.2.2.2.2.1,(xj y:Int),())=true from s58.1,show m58 (y.1,y.2.1,y.2.2.1,y.2.2.2.1,y.2.2.2.2.1,y.2.2.2.2.2.1,y.2.2.2.2.2.2.1,y.2.2.2.2.2.2.2.1,y.2.2.2.2.2.2.2.2.1,y.2.2.2.2.2.2.2.2.2.1,y.2.2.2.2.2.2.2.2.2.2.1,(xj y:Int),())=_ from s58.2]
    cases(bif decide (1<(y.2.2.2.1.length:Int))then true else decide (1<(y.2.2.2.2.1.length:Int)))<;>cases(bif decide ((y.2.2.2.2.1.length:Int)=1)then decide (65536<(y.2.2.2.2.1.getD 0 (cr cq)).2)else false)<;>cases mNm (y.1,y.2.1,y.2.2.1,y.2.2.2.1,y.2.2.2.2.1,y.2.2.2.2.2.1,y.2.2.2.2.2.2.1,y.2.2.2.2.2.2.2.1,y.2.2.2.2.2.2.2.2.1,y.2.2.2.2.2.2.2.2.2.1,y.2.2.2.2.2.2.2.2.2.2.1,(xj y:Int),())<;>rfl
def aeq(y:cb tM):Bool:=(List.range y.2.2.2.2.2.2.2.2.2.1.length).all (fun i=>(qQ y i).isSome)
def ue(V:ByteArray->Bool)(y:cb tM):Int:=bif !decide (rE V y=0)then rE V y else bif !Bh y then 12 else bif aeq y then 0 else 12
theorem Ru{V:ByteArray->Bool}{y:cb tM}(hE:Is V y=true)(hx:gNx y.2.2.2.2.2.2.1=true)(h:rE V y=0):MOk y:=by
 have e:=Ka hE
 unfold rE at h
 rw[e]at h
 cases hP:ZK V y with
 |false=>rw[hP]at h;cases h
 |true=>
  rw[hP]at h
  simp only[Bool.not_true,cond_false]at h
  by_cases q:(16384:Int)<((s0.1++enB V y).length:Int)
  ·rw[decide_eq_true q]at h;cases h
  ·rw[List.length_append]at q
   exact mok hE hP (by omega) hx
theorem De{y:cb tM}(h:MOk y){i:Nat}(hi:i<y.2.2.2.2.2.2.2.2.2.1.length):K6 (lj y i):=by
 refine(h.cd (lj y i) ?_).1
 unfold lj
 rw[List.getD_eq_getElem?_getD,List.getElem?_eq_getElem hi]
 exact List.getElem_mem hi
theorem aer{y:cb tM}(h:MOk y){i:Nat}(hi:i<y.2.2.2.2.2.2.2.2.2.1.length):k20 (y.1,y.2.1,y.2.2.1,y.2.2.2.1,y.2.2.2.2.1,y.2.2.2.2.2.1,y.2.2.2.2.2.2.1,y.2.2.2.2.2.2.2.1,y.2.2.2.2.2.2.2.2.1,y.2.2.2.2.2.2.2.2.2.1,y.2.2.2.2.2.2.2.2.2.2.1,(i:Int),())=true/\m20 (y.1,y.2.1,y.2.2.1,y.2.2.2.1,y.2.2.2.2.1,y.2.2.2.2.2.1,y.2.2.2.2.2.2.1,y.2.2.2.2.2.2.2.1,y.2.2.2.2.2.2.2.2.1,y.2.2.2.2.2.2.2.2.2.1,y.2.2.2.2.2.2.2.2.2.2.1,(i:Int),())=((qQ y i).getD [],(qQ y i).isSome,()):=
 mT (aiJ h.ty (by have:=h.li;omega) hi (by have:=h.lc;omega) (De h hi))
theorem an5{V:ByteArray->Bool}{y:cb tM}(hE:Is V y=true)(hx:gNx y.2.2.2.2.2.2.1=true):(t8 V (y.1,y.2.1,y.2.2.1,y.2.2.2.1,y.2.2.2.2.1,y.2.2.2.2.2.1,y.2.2.2.2.2.2.1,y.2.2.2.2.2.2.2.1,y.2.2.2.2.2.2.2.2.1,y.2.2.2.2.2.2.2.2.2.1,y.2.2.2.2.2.2.2.2.2.2.1,())).val=some (cp XB (ue V y,())):=by
 rw[eq8]
 have hE':Is V (y.1,y.2.1,y.2.2.1,y.2.2.2.1,y.2.2.2.2.1,y.2.2.2.2.2.1,y.2.2.2.2.2.2.1,y.2.2.2.2.2.2.2.1,y.2.2.2.2.2.2.2.2.1,y.2.2.2.2.2.2.2.2.2.1,y.2.2.2.2.2.2.2.2.2.2.1,())=true:=hE
 rw[hE']
 unfold ue
 have eY:rE V (y.1,y.2.1,y.2.2.1,y.2.2.2.1,y.2.2.2.2.1,y.2.2.2.2.2.1,y.2.2.2.2.2.2.1,y.2.2.2.2.2.2.2.1,y.2.2.2.2.2.2.2.2.1,y.2.2.2.2.2.2.2.2.2.1,y.2.2.2.2.2.2.2.2.2.2.1,())=rE V y:=rfl
 rw[eY]
 by_cases h0:rE V y=0
 ·rw[h0]
  have h:=Ru hE hx h0
  have s19:=mT (aiQ h)
  simp only[decide_true,Bool.not_true,cond_false,cz,cond_true]
  rw[show k19 (y.1,y.2.1,y.2.2.1,y.2.2.2.1,y.2.2.2.2.1,y.2.2.2.2.2.1,y.2.2.2.2.2.2.1,y.2.2.2.2.2.2.2.1,y.2.2.2.2.2.2.2.2.1,y.2.2.2.2.2.2.2.2.2.1,y.2.2.2.2.2.2.2.2.2.2.1,())=true from s19.1,show m19 (y.1,y.2.1,y.2.2.1,y.2.2.2.1,y.2.2.2.2.1,y.2.2.2.2.2.1,y.2.2.2.2.2.2.1,y.2.2.2.2.2.2.2.1,y.2.2.2.2.2.2.2.2.1,y.2.2.2.2.2.2.2.2.2.1,y.2.2.2.2.2.2.2.2.2.2.1,())=_ from s19.2,cond_true]
  cases ho:Bh y with
  |false=>rfl
  |true=>
   simp only[Bool.not_true,cond_false]
   have Zm:=h.lc
   have r0:=sH (f:=f8x) (l:=List.range y.2.2.2.2.2.2.2.2.2.1.length) (fun j=>cp D5 (y.1,y.2.1,y.2.2.1,y.2.2.2.1,y.2.2.2.2.1,y.2.2.2.2.2.1,y.2.2.2.2.2.2.1,y.2.2.2.2.2.2.2.1,y.2.2.2.2.2.2.2.2.1,y.2.2.2.2.2.2.2.2.2.1,y.2.2.2.2.2.2.2.2.2.2.1,(y.2.2.2.2.2.2.2.2.2.1.length:Int),(j:Int),())) (fun i=>(qQ y i).isSome) (cp xW ()) (cp vE (12,())) (fun j x r e=>by
    obtain⟨e1,e2⟩:=iT e 0
    have e3:x=j:=by
     rw[<-e2,List.getD_eq_getElem?_getD,List.getElem?_eq_getElem e1]
     simp
    rw[e3]
    rw[List.length_range]at e1
    obtain⟨q1,q2⟩:=aer h e1
    rw[aiL,jq e1,cond_true,q1,q2,nQ (by omega)]
    cases(qQ y j).isSome<;>rfl) (by rw[aiL,List.length_range,iQ (Nat.le_refl _)];rfl)
   obtain⟨a1,a2,a3,a4⟩:=sI (ti:=D5) (t0:=xW) (t1:=vE) (x:=(y.1,y.2.1,y.2.2.1,y.2.2.2.1,y.2.2.2.2.1,y.2.2.2.2.2.1,y.2.2.2.2.2.2.1,y.2.2.2.2.2.2.2.1,y.2.2.2.2.2.2.2.2.1,y.2.2.2.2.2.2.2.2.2.1,y.2.2.2.2.2.2.2.2.2.2.1,(y.2.2.2.2.2.2.2.2.2.1.length:Int),0,())) (u:=()) (v:=(12,())) r0
   rw[a1,a2]
   cases hb:aeq y with
   |true=>rw[show(List.range y.2.2.2.2.2.2.2.2.2.1.length).all (fun i=>(qQ y i).isSome)=true from hb];rfl
   |false=>rw[a4 hb,show(List.range y.2.2.2.2.2.2.2.2.2.1.length).all (fun i=>(qQ y i).isSome)=false from hb];rfl
 ·rw[decide_eq_false h0]
  rfl
end Go.Proofs.Vd

noncomputable section
namespace Go.Ab.Lf
def mu(t:Ty):iK:=kf (.cons (.im t) .nil) [] (.cons (.ow t) .nil) [.ca t] [.ca t] fun x=>.ck (decide (List.length x.1<=1099511627776)) (.ok (x.1,()))
theorem Rv{t:Ty}{x:List (den t)}{r:List Pl}{H:Hq}:j5 (.im t) (⟨.ca t,x⟩::r) H=some ([.c H.next (.ca t) x],r,⟨Nat.add H.next 1,H.cw⟩):=by
 unfold j5;simp only[qb]
theorem Mc{p:lV}{pl:List Pl}{H H':Hq}{v:List Sv}(h:j5 p pl H=some (v,[],H')):j5 (.cons p .nil) pl H=some (v,[],H'):=by
 show(match j5 p pl H with|some (v,r,H)=>(match j5 .nil r H with|some (w,r,H)=>some (app v w,r,H)|none=>none)|none=>none)=_
 rw[h]
 show some (app v [],([]:List Pl),H')=_
 rw[cX,List.append_nil]
def rN{α:Type}(a:α):α:=Classical.choose (⟨a,rfl⟩: ∃ x,x=a)
theorem iM{α:Type}(a:α):rN a=a:=Classical.choose_spec (⟨a,rfl⟩: ∃ x,x=a)
theorem CK{to:List Ty}{t:T (List Pl)}{y:cb to}{k:Bool}{m:cb to}(hk:k=nA to t)(hm:m=jP to t)(h:t.val=some (cp to y)):k=true/\m=y:=by
 rw[hk,hm]
 exact mT h
end Go.Ab.Lf

noncomputable section
namespace Go.Proofs.Vd
open Go.Ab Go.Ab.Lf
set_option maxRecDepth 100000
theorem qy{α:Type}{c:Bool}{x:Option α}(h:c=true):cz c x=x:=by rw[h];rfl
theorem df{p:Prop}[Decidable p](h: ¬ p):decide p=false:=decide_eq_false h
theorem dt{p:Prop}[Decidable p](h:p):decide p=true:=decide_eq_true h
theorem Z3{j:Nat}(h:j<=1099511627776):iA .i64 (j:Int) 1=((j+1:Nat):Int):=nQ (by omega)
theorem xY{f:List Pl->Lf.T Rs}(n:Nat)(st:Nat->List Pl)(o0:List Pl)
 (wP: ∀ j,j<n->(f (st j)).val=some (.next (st (j+1))))(DK:(f (st n)).val=some (.out 0 o0)):mm f (st 0) 0 o0:=by
 have key: ∀ (k j:Nat),j+k=n->mm f (st j) 0 o0:=by
  intro k
  induction k with
  |zero=>
   intro j h
   have:j=n:=by omega
   subst this
   exact .last DK
  |succ k ih=>exact fun j h=>.more (wP j (by omega)) (ih (j+1) (by omega))
 exact key n 0 (by omega)
theorem rO{α:Type}(l:List α)(j:Nat)(d:α)(h:j<l.length):l.set j (l.getD j d)=l:=by
 rw[List.getD_eq_getElem?_getD,List.getElem?_eq_getElem h]
 exact List.set_getElem_self h
theorem rP{α:Type}{l:List α}{j:Nat}(h:j<l.length)(d:α):l.getD j d∈l:=by
 rw[List.getD_eq_getElem?_getD,List.getElem?_eq_getElem h]
 exact List.getElem_mem h
theorem GJ{k:Nat}(h:k<18446744073709551616):cE .u64 (k:Int)=(k:Int):=by
 have:cE .u64 (k:Int)=(k:Int) % 18446744073709551616:=rfl
 rw[this];omega
end Go.Proofs.Vd

noncomputable section
namespace Go.Proofs.Vd
open Go.Ab Go.Ab.Lf
set_option maxRecDepth 100000
structure WorldS(V:ByteArray->Bool)(cf:cg):Prop extends WorldN V cf where
 c31:(mu cF).Ok 84 cf
 c33:(mu cR).Ok 86 cf
 c34:(mu cq).Ok 87 cf
 c35:(mu cI).Ok 88 cf
 c37:(mu cQ).Ok 90 cf
 c38:(mu cJ).Ok 91 cf
 c39:(mu cK).Ok 92 cf
 c40:(mu cN).Ok 93 cf
 c41:(mu u8).Ok 94 cf
 c79:(mu tI).Ok 144 cf
abbrev nC:List Ty:=[.ca tI,i64,i64]
abbrev lZ:List Ty:=[.ca tI]
def Ea:oF:=⟨0,kP Tryz.x89.code 0,[3,8,9],(Ps [.ow tI,.n .i64,.n .i64]),[⟨.qS,[3],(Ps [.ow tI])⟩]⟩
def Ry:List (Nat×iK):=[(85,ZH)]
theorem Md{V:ByteArray->Bool}{cf:cg}(W:WorldS V cf):jd cf Ry:=(.cons W.cl .nil)
def uf:List Pl->Lf.T Rs:=Ea.step (fun _=>none) (je Ry 3) 3
def Rz:kE:=wQ Ea uf nC lZ
theorem Me{V:ByteArray->Bool}{cf:cg}(W:WorldS V cf):jU Rx.w Rz (fun n d=>ly (cf n d) n (.bl 0 (.lp Ea.body))):=lW (W.toWorld.in (Md W) 3) (cu _) (m:=3) nC lZ
def an6:Nat->Option kE:=tO [(0,Rz)]
abbrev GK:List Ty:=[.ca tI]
abbrev GL:List Ty:=[.ca tI]
def aiR:List (Nat×iK):=[(144,mu tI)]
theorem XS{V:ByteArray->Bool}{cf:cg}(W:WorldS V cf):jd cf aiR:=(.cons W.c79 .nil)
def aes(x:cb GK):Lf.T (List Pl):=kO (Ps [.im tI]) [] (Ps [.ow tI]) an6 Tryz.x89 3 (je aiR 3) (cp GK x)
def Mf(x:cb GK):Bool:=rN (nA GL (aes x))
def Mg(x:cb GK):cb GL:=rN (jP GL (aes x))
def RA:iK:=kf (Ps [.im tI]) [] (Ps [.ow tI]) GK GL fun x=>.ck (Mf x) (.ok (Mg x))
theorem zy{V:ByteArray->Bool}{cf:cg}(W:WorldS V cf):RA.Ok 89 cf:=
 j4 (W.toWorld.in (XS W) 3) (W.toWorld.st 89 _ rfl) rfl (ku.nh (.cons (b:=Ea.body) (by kernel_rfl) (Me W) .nil)) (m:=3) rfl (fun _=>iM _) (fun _=>iM _)
abbrev nD:List Ty:=[.ca cF,.ca cR,.ca i64,.ca cq,.ca cq,.ca cI,.ca cQ,i64,.ca cJ,.ca cK,.ca cN,.ca cF,.ca cR,.ca i64,.ca cq,.ca cq,.ca cI,.ca cQ,i64,.ca cJ,.ca cK,.ca cN,i64,i64]
abbrev l8:List Ty:=[.ca cF,.ca cR,.ca i64,.ca cq,.ca cq,.ca cI,.ca cQ,i64,.ca cJ,.ca cK,.ca cN,.ca cF,.ca cR,.ca i64,.ca cq,.ca cq,.ca cI,.ca cQ,i64,.ca cJ,.ca cK,.ca cN]
def Eb:oF:=⟨0,kP Tryz.x51.code 0,[1,2,3,19,20,21],(Ps [.pt 0 (Ps [.im cF,.im cR,.im i64,.im cq,.im cq,.im cI,.im cQ,.n .i64,.im cJ,.im cK,.im cN]),.pt 0 (Ps [.av (.sc (.slice none 0 0)),.av (.sc (.slice none 0 0)),.av (.sc (.slice none 0 0)),.av (.sc (.slice none 0 0)),.av (.sc (.slice none 0 0)),.av (.sc (.slice none 0 0)),.av (.sc (.slice none 0 0)),.li .i64 0,.av (.sc (.slice none 0 0)),.av (.sc (.slice none 0 0)),.av (.sc (.slice none 0 0))]),.pt 0 (Ps [.ow cF,.im cR,.im i64,.im cq,.im cq,.im cI,.im cQ,.n .i64,.im cJ,.im cK,.im cN]),.oo 13 2,.n .i64,.n .i64]),[⟨.qS,[1,2,3],(Ps [.pt 0 (Ps [.im cF,.im cR,.im i64,.im cq,.im cq,.im cI,.im cQ,.n .i64,.im cJ,.im cK,.im cN]),.pt 0 (Ps [.av (.sc (.slice none 0 0)),.av (.sc (.slice none 0 0)),.av (.sc (.slice none 0 0)),.av (.sc (.slice none 0 0)),.av (.sc (.slice none 0 0)),.av (.sc (.slice none 0 0)),.av (.sc (.slice none 0 0)),.li .i64 0,.av (.sc (.slice none 0 0)),.av (.sc (.slice none 0 0)),.av (.sc (.slice none 0 0))]),.pt 0 (Ps [.ow cF,.im cR,.im i64,.im cq,.im cq,.im cI,.im cQ,.n .i64,.im cJ,.im cK,.im cN])])⟩]⟩
def RB:List (Nat×iK):=[(85,ZH)]
theorem Mh{V:ByteArray->Bool}{cf:cg}(W:WorldS V cf):jd cf RB:=(.cons W.cl .nil)
def vH:List Pl->Lf.T Rs:=Eb.step (fun _=>none) (je RB 3) 3
def RC:kE:=wQ Eb vH nD l8
theorem Mi{V:ByteArray->Bool}{cf:cg}(W:WorldS V cf):jU Rx.w RC (fun n d=>ly (cf n d) n (.bl 0 (.lp Eb.body))):=lW (W.toWorld.in (Mh W) 3) (cu _) (m:=3) nD l8
abbrev nE:List Ty:=[.ca cF,.ca cR,.ca i64,.ca cq,.ca cq,.ca cI,.ca cQ,i64,.ca cJ,.ca cK,.ca cN,.ca cF,.ca cR,.ca i64,.ca cq,.ca cq,.ca cI,.ca cQ,i64,.ca cJ,.ca cK,.ca cN,i64,i64]
abbrev mc:List Ty:=[.ca cF,.ca cR,.ca i64,.ca cq,.ca cq,.ca cI,.ca cQ,i64,.ca cJ,.ca cK,.ca cN,.ca cF,.ca cR,.ca i64,.ca cq,.ca cq,.ca cI,.ca cQ,i64,.ca cJ,.ca cK,.ca cN]
def Ec:oF:=⟨2,kP Tryz.x51.code 2,[1,2,3,60,61],(Ps [.pt 0 (Ps [.im cF,.im cR,.im i64,.im cq,.im cq,.im cI,.im cQ,.n .i64,.im cJ,.im cK,.im cN]),.pt 0 (Ps [.av (.sc (.slice none 0 0)),.av (.sc (.slice none 0 0)),.av (.sc (.slice none 0 0)),.av (.sc (.slice none 0 0)),.av (.sc (.slice none 0 0)),.av (.sc (.slice none 0 0)),.av (.sc (.slice none 0 0)),.li .i64 0,.av (.sc (.slice none 0 0)),.av (.sc (.slice none 0 0)),.av (.sc (.slice none 0 0))]),.pt 0 (Ps [.im cF,.im cR,.im i64,.im cq,.im cq,.ow cI,.im cQ,.n .i64,.im cJ,.im cK,.im cN]),.n .i64,.n .i64]),[⟨.qS,[1,2,3],(Ps [.pt 0 (Ps [.im cF,.im cR,.im i64,.im cq,.im cq,.im cI,.im cQ,.n .i64,.im cJ,.im cK,.im cN]),.pt 0 (Ps [.av (.sc (.slice none 0 0)),.av (.sc (.slice none 0 0)),.av (.sc (.slice none 0 0)),.av (.sc (.slice none 0 0)),.av (.sc (.slice none 0 0)),.av (.sc (.slice none 0 0)),.av (.sc (.slice none 0 0)),.li .i64 0,.av (.sc (.slice none 0 0)),.av (.sc (.slice none 0 0)),.av (.sc (.slice none 0 0))]),.pt 0 (Ps [.im cF,.im cR,.im i64,.im cq,.im cq,.ow cI,.im cQ,.n .i64,.im cJ,.im cK,.im cN])])⟩]⟩
def RD:List (Nat×iK):=[(89,RA)]
theorem Mj{V:ByteArray->Bool}{cf:cg}(W:WorldS V cf):jd cf RD:=(.cons (zy W) .nil)
def vI:List Pl->Lf.T Rs:=Ec.step (fun _=>none) (je RD 3) 3
def RE:kE:=wQ Ec vI nE mc
theorem Mk{V:ByteArray->Bool}{cf:cg}(W:WorldS V cf):jU Rx.w RE (fun n d=>ly (cf n d) n (.bl 2 (.lp Ec.body))):=lW (W.toWorld.in (Mj W) 3) (cu _) (m:=3) nE mc
abbrev nF:List Ty:=[.ca cF,.ca cR,.ca i64,.ca cq,.ca cq,.ca cI,.ca cQ,i64,.ca cJ,.ca cK,.ca cN,.ca cF,.ca cR,.ca i64,.ca cq,.ca cq,.ca cI,.ca cQ,i64,.ca cJ,.ca cK,.ca cN,i64,i64]
abbrev mf:List Ty:=[.ca cF,.ca cR,.ca i64,.ca cq,.ca cq,.ca cI,.ca cQ,i64,.ca cJ,.ca cK,.ca cN,.ca cF,.ca cR,.ca i64,.ca cq,.ca cq,.ca cI,.ca cQ,i64,.ca cJ,.ca cK,.ca cN]
def Ed:oF:=⟨4,kP Tryz.x51.code 4,[1,2,3,86,87,88],(Ps [.pt 0 (Ps [.im cF,.im cR,.im i64,.im cq,.im cq,.im cI,.im cQ,.n .i64,.im cJ,.im cK,.im cN]),.pt 0 (Ps [.av (.sc (.slice none 0 0)),.av (.sc (.slice none 0 0)),.av (.sc (.slice none 0 0)),.av (.sc (.slice none 0 0)),.av (.sc (.slice none 0 0)),.av (.sc (.slice none 0 0)),.av (.sc (.slice none 0 0)),.li .i64 0,.av (.sc (.slice none 0 0)),.av (.sc (.slice none 0 0)),.av (.sc (.slice none 0 0))]),.pt 0 (Ps [.im cF,.im cR,.im i64,.im cq,.im cq,.im cI,.im cQ,.n .i64,.ow cJ,.im cK,.im cN]),.oo 20 2,.n .i64,.n .i64]),[⟨.qS,[1,2,3],(Ps [.pt 0 (Ps [.im cF,.im cR,.im i64,.im cq,.im cq,.im cI,.im cQ,.n .i64,.im cJ,.im cK,.im cN]),.pt 0 (Ps [.av (.sc (.slice none 0 0)),.av (.sc (.slice none 0 0)),.av (.sc (.slice none 0 0)),.av (.sc (.slice none 0 0)),.av (.sc (.slice none 0 0)),.av (.sc (.slice none 0 0)),.av (.sc (.slice none 0 0)),.li .i64 0,.av (.sc (.slice none 0 0)),.av (.sc (.slice none 0 0)),.av (.sc (.slice none 0 0))]),.pt 0 (Ps [.im cF,.im cR,.im i64,.im cq,.im cq,.im cI,.im cQ,.n .i64,.ow cJ,.im cK,.im cN])])⟩]⟩
def RF:List (Nat×iK):=[(85,ZH),(89,RA)]
theorem Ml{V:ByteArray->Bool}{cf:cg}(W:WorldS V cf):jd cf RF:=(.cons W.cl (.cons (zy W) .nil))
def vK:List Pl->Lf.T Rs:=Ed.step (fun _=>none) (je RF 3) 3
def RG:kE:=wQ Ed vK nF mf
theorem Mm{V:ByteArray->Bool}{cf:cg}(W:WorldS V cf):jU Rx.w RG (fun n d=>ly (cf n d) n (.bl 4 (.lp Ed.body))):=lW (W.toWorld.in (Ml W) 3) (cu _) (m:=3) nF mf
abbrev nG:List Ty:=[.ca cF,.ca cR,.ca i64,.ca cq,.ca cq,.ca cI,.ca cQ,i64,.ca cJ,.ca cK,.ca cN,.ca cF,.ca cR,.ca i64,.ca cq,.ca cq,.ca cI,.ca cQ,i64,.ca cJ,.ca cK,.ca cN,i64,i64]
abbrev mg:List Ty:=[.ca cF,.ca cR,.ca i64,.ca cq,.ca cq,.ca cI,.ca cQ,i64,.ca cJ,.ca cK,.ca cN,.ca cF,.ca cR,.ca i64,.ca cq,.ca cq,.ca cI,.ca cQ,i64,.ca cJ,.ca cK,.ca cN]
def Ee:oF:=⟨6,kP Tryz.x51.code 6,[1,2,3,110,111,112],(Ps [.pt 0 (Ps [.im cF,.im cR,.im i64,.im cq,.im cq,.im cI,.im cQ,.n .i64,.im cJ,.im cK,.im cN]),.pt 0 (Ps [.av (.sc (.slice none 0 0)),.av (.sc (.slice none 0 0)),.av (.sc (.slice none 0 0)),.av (.sc (.slice none 0 0)),.av (.sc (.slice none 0 0)),.av (.sc (.slice none 0 0)),.av (.sc (.slice none 0 0)),.li .i64 0,.av (.sc (.slice none 0 0)),.av (.sc (.slice none 0 0)),.av (.sc (.slice none 0 0))]),.pt 0 (Ps [.im cF,.im cR,.im i64,.im cq,.im cq,.im cI,.im cQ,.n .i64,.im cJ,.ow cK,.im cN]),.oo 21 2,.n .i64,.n .i64]),[⟨.qS,[1,2,3],(Ps [.pt 0 (Ps [.im cF,.im cR,.im i64,.im cq,.im cq,.im cI,.im cQ,.n .i64,.im cJ,.im cK,.im cN]),.pt 0 (Ps [.av (.sc (.slice none 0 0)),.av (.sc (.slice none 0 0)),.av (.sc (.slice none 0 0)),.av (.sc (.slice none 0 0)),.av (.sc (.slice none 0 0)),.av (.sc (.slice none 0 0)),.av (.sc (.slice none 0 0)),.li .i64 0,.av (.sc (.slice none 0 0)),.av (.sc (.slice none 0 0)),.av (.sc (.slice none 0 0))]),.pt 0 (Ps [.im cF,.im cR,.im i64,.im cq,.im cq,.im cI,.im cQ,.n .i64,.im cJ,.ow cK,.im cN])])⟩]⟩
def RH:List (Nat×iK):=[(85,ZH),(89,RA)]
theorem Mn{V:ByteArray->Bool}{cf:cg}(W:WorldS V cf):jd cf RH:=(.cons W.cl (.cons (zy W) .nil))
def vL:List Pl->Lf.T Rs:=Ee.step (fun _=>none) (je RH 3) 3
def RI:kE:=wQ Ee vL nG mg
theorem Mo{V:ByteArray->Bool}{cf:cg}(W:WorldS V cf):jU Rx.w RI (fun n d=>ly (cf n d) n (.bl 6 (.lp Ee.body))):=lW (W.toWorld.in (Mn W) 3) (cu _) (m:=3) nG mg
abbrev nH:List Ty:=[.ca cF,.ca cR,.ca i64,.ca cq,.ca cq,.ca cI,.ca cQ,i64,.ca cJ,.ca cK,.ca cN,i64,i64]
abbrev mh:List Ty:=[.ca cF,.ca cR,.ca i64,.ca cq,.ca cq,.ca cI,.ca cQ,i64,.ca cJ,.ca cK,.ca cN]
def Ef:oF:=⟨8,kP Tryz.x51.code 8,[2,3,134,135,136],(Ps [.pt 0 (Ps [.av (.sc (.slice none 0 0)),.av (.sc (.slice none 0 0)),.av (.sc (.slice none 0 0)),.av (.sc (.slice none 0 0)),.av (.sc (.slice none 0 0)),.av (.sc (.slice none 0 0)),.av (.sc (.slice none 0 0)),.li .i64 0,.av (.sc (.slice none 0 0)),.av (.sc (.slice none 0 0)),.av (.sc (.slice none 0 0))]),.pt 0 (Ps [.im cF,.im cR,.im i64,.im cq,.im cq,.im cI,.im cQ,.n .i64,.im cJ,.im cK,.ow cN]),.oo 11 2,.n .i64,.n .i64]),[⟨.qS,[2,3],(Ps [.pt 0 (Ps [.av (.sc (.slice none 0 0)),.av (.sc (.slice none 0 0)),.av (.sc (.slice none 0 0)),.av (.sc (.slice none 0 0)),.av (.sc (.slice none 0 0)),.av (.sc (.slice none 0 0)),.av (.sc (.slice none 0 0)),.li .i64 0,.av (.sc (.slice none 0 0)),.av (.sc (.slice none 0 0)),.av (.sc (.slice none 0 0))]),.pt 0 (Ps [.im cF,.im cR,.im i64,.im cq,.im cq,.im cI,.im cQ,.n .i64,.im cJ,.im cK,.ow cN])])⟩]⟩
def RJ:List (Nat×iK):=[(89,RA),(94,mu u8)]
theorem Mp{V:ByteArray->Bool}{cf:cg}(W:WorldS V cf):jd cf RJ:=(.cons (zy W) (.cons W.c41 .nil))
def vM:List Pl->Lf.T Rs:=Ef.step (fun _=>none) (je RJ 3) 3
def RK:kE:=wQ Ef vM nH mh
theorem Mq{V:ByteArray->Bool}{cf:cg}(W:WorldS V cf):jU Rx.w RK (fun n d=>ly (cf n d) n (.bl 8 (.lp Ef.body))):=lW (W.toWorld.in (Mp W) 3) (cu _) (m:=3) nH mh
def an7:Nat->Option kE:=tO [(0,RC),(2,RE),(4,RG),(6,RI),(8,RK)]
abbrev Bi:List Ty:=[.ca cF,.ca cR,.ca i64,.ca cq,.ca cq,.ca cI,.ca cQ,i64,.ca cJ,.ca cK,.ca cN]
abbrev CM:List Ty:=[.ca cF,.ca cR,.ca i64,.ca cq,.ca cq,.ca cI,.ca cQ,i64,.ca cJ,.ca cK,.ca cN]
def aiS:List (Nat×iK):=[(84,mu cF),(86,mu cR),(85,ZH),(87,mu cq),(88,mu cI),(90,mu cQ),(91,mu cJ),(92,mu cK),(93,mu cN)]
theorem XT{V:ByteArray->Bool}{cf:cg}(W:WorldS V cf):jd cf aiS:=(.cons W.c31 (.cons W.c33 (.cons W.cl (.cons W.c34 (.cons W.c35 (.cons W.c37 (.cons W.c38 (.cons W.c39 (.cons W.c40 .nil)))))))))
def aet(x:cb Bi):Lf.T (List Pl):=kO (Ps [.ag (Ps [.im cF,.im cR,.im i64,.im cq,.im cq,.im cI,.im cQ,.n .i64,.im cJ,.im cK,.im cN])]) [] (Ps [.ag (Ps [.im cF,.im cR,.im i64,.im cq,.im cq,.im cI,.im cQ,.n .i64,.im cJ,.im cK,.im cN])]) an7 Tryz.x51 3 (je aiS 3) (cp Bi x)
def aeu(x:cb Bi):Bool:=rN (nA CM (aet x))
def aev(x:cb Bi):cb CM:=rN (jP CM (aet x))
def an8:iK:=kf (Ps [.ag (Ps [.im cF,.im cR,.im i64,.im cq,.im cq,.im cI,.im cQ,.n .i64,.im cJ,.im cK,.im cN])]) [] (Ps [.ag (Ps [.im cF,.im cR,.im i64,.im cq,.im cq,.im cI,.im cQ,.n .i64,.im cJ,.im cK,.im cN])]) Bi CM fun x=>.ck (aeu x) (.ok (aev x))
theorem XU{V:ByteArray->Bool}{cf:cg}(W:WorldS V cf):an8.Ok 51 cf:=
 j4 (W.toWorld.in (XT W) 3) (W.toWorld.st 51 _ rfl) rfl (ku.nh (.cons (b:=Eb.body) (by kernel_rfl) (Mi W) (.cons (b:=Ec.body) (by kernel_rfl) (Mk W) (.cons (b:=Ed.body) (by kernel_rfl) (Mm W) (.cons (b:=Ee.body) (by kernel_rfl) (Mo W) (.cons (b:=Ef.body) (by kernel_rfl) (Mq W) .nil)))))) (m:=3) rfl (fun _=>iM _) (fun _=>iM _)
end Go.Proofs.Vd

noncomputable section
namespace Go.Proofs.Vd
open Go.Ab Go.Ab.Lf
set_option maxRecDepth 100000
theorem Kh(l:List (den tI))(n i:Int):(uf (cp nC (l,n,i,()))).val=bif decide (i<n)then cz (ij i (l.length:Int)) (cz (decide (List.length (l.getD i.toNat (cr tI)).2.2.2.2.2<=1099511627776)) (cz (ij i (l.length:Int))
 (some (.next (cp nC (l.set i.toNat ((l.getD i.toNat (cr tI)).1,(l.getD i.toNat (cr tI)).2.1,(l.getD i.toNat (cr tI)).2.2.1,(l.getD i.toNat (cr tI)).2.2.2.1,(l.getD i.toNat (cr tI)).2.2.2.2.1,(l.getD i.toNat (cr tI)).2.2.2.2.2),n,iA .i64 i 1,()))))))else some (.out 0 (cp lZ (l,()))):=by kernel_rfl
theorem aiT(l:List (den tI)):(aes (l,())).val=cz (decide (l.length<=1099511627776)) (cz (xi uf nC lZ (l,(l.length:Int),0,())) (some (cp GL (oG uf nC lZ (l,(l.length:Int),0,()))))):=by kernel_rfl
theorem Ki(o1:List (den cF))(o2:List (den cR))(o3:List Int)(o4:List (den cq))(o5:List (den cq))(o6:List (den cI))(o7:List (den cQ))(o8:Int)(o9:List (den cJ))(sJ:List (den cK))(qO:List (den cN))(m1:List (den cF))(m2:List (den cR))(m3:List Int)(m4:List (den cq))(m5:List (den cq))(m6:List (den cI))(m7:List (den cQ))(m8:Int)(m9:List (den cJ))(jr:List (den cK))(js:List (den cN))(n i:Int):(vH (cp nD (o1,o2,o3,o4,o5,o6,o7,o8,o9,sJ,qO,m1,m2,m3,m4,m5,m6,m7,m8,m9,jr,js,n,i,()))).val=bif decide (i<n)then cz (ij i (m1.length:Int)) (cz (decide (List.length (m1.getD i.toNat (cr cF)).1<=1099511627776)) (cz (decide (List.length (m1.getD i.toNat (cr cF)).2<=1099511627776)) (cz (ij i (m1.length:Int)) (some (.next (cp nD (o1,o2,o3,o4,o5,o6,o7,o8,o9,sJ,qO,m1.set i.toNat ((m1.getD i.toNat (cr cF)).1,(m1.getD i.toNat (cr cF)).2),m2,m3,m4,m5,m6,m7,m8,m9,jr,js,n,iA .i64 i 1,())))))))else some (.out 0 (cp l8 (o1,o2,o3,o4,o5,o6,o7,o8,o9,sJ,qO,m1,m2,m3,m4,m5,m6,m7,m8,m9,jr,js,()))):=by kernel_rfl
theorem Kj(o1:List (den cF))(o2:List (den cR))(o3:List Int)(o4:List (den cq))(o5:List (den cq))(o6:List (den cI))(o7:List (den cQ))(o8:Int)(o9:List (den cJ))(sJ:List (den cK))(qO:List (den cN))(m1:List (den cF))(m2:List (den cR))(m3:List Int)(m4:List (den cq))(m5:List (den cq))(m6:List (den cI))(m7:List (den cQ))(m8:Int)(m9:List (den cJ))(jr:List (den cK))(js:List (den cN))(n i:Int):(vI (cp nE (o1,o2,o3,o4,o5,o6,o7,o8,o9,sJ,qO,m1,m2,m3,m4,m5,m6,m7,m8,m9,jr,js,n,i,()))).val=bif decide (i<n)then cz (ij i (m6.length:Int)) (cz (Mf ((m6.getD i.toNat (cr cI)).2.2,())) (cz (ij i (m6.length:Int)) (some (.next (cp nE (o1,o2,o3,o4,o5,o6,o7,o8,o9,sJ,qO,m1,m2,m3,m4,m5,m6.set i.toNat ((m6.getD i.toNat (cr cI)).1,(m6.getD i.toNat (cr cI)).2.1,(Mg ((m6.getD i.toNat (cr cI)).2.2,())).1),m7,m8,m9,jr,js,n,iA .i64 i 1,()))))))else some (.out 0 (cp mc (o1,o2,o3,o4,o5,o6,o7,o8,o9,sJ,qO,m1,m2,m3,m4,m5,m6,m7,m8,m9,jr,js,()))):=by kernel_rfl
theorem Kk(o1:List (den cF))(o2:List (den cR))(o3:List Int)(o4:List (den cq))(o5:List (den cq))(o6:List (den cI))(o7:List (den cQ))(o8:Int)(o9:List (den cJ))(sJ:List (den cK))(qO:List (den cN))(m1:List (den cF))(m2:List (den cR))(m3:List Int)(m4:List (den cq))(m5:List (den cq))(m6:List (den cI))(m7:List (den cQ))(m8:Int)(m9:List (den cJ))(jr:List (den cK))(js:List (den cN))(n i:Int):(vK (cp nF (o1,o2,o3,o4,o5,o6,o7,o8,o9,sJ,qO,m1,m2,m3,m4,m5,m6,m7,m8,m9,jr,js,n,i,()))).val=bif decide (i<n)then cz (ij i (m9.length:Int)) (cz (Mf ((m9.getD i.toNat (cr cJ)).1,())) (cz (decide (List.length (m9.getD i.toNat (cr cJ)).2<=1099511627776)) (cz (ij i (m9.length:Int)) (some (.next (cp nF (o1,o2,o3,o4,o5,o6,o7,o8,o9,sJ,qO,m1,m2,m3,m4,m5,m6,m7,m8,m9.set i.toNat ((Mg ((m9.getD i.toNat (cr cJ)).1,())).1,(m9.getD i.toNat (cr cJ)).2),jr,js,n,iA .i64 i 1,())))))))else some (.out 0 (cp mf (o1,o2,o3,o4,o5,o6,o7,o8,o9,sJ,qO,m1,m2,m3,m4,m5,m6,m7,m8,m9,jr,js,()))):=by kernel_rfl
theorem Km(o1:List (den cF))(o2:List (den cR))(o3:List Int)(o4:List (den cq))(o5:List (den cq))(o6:List (den cI))(o7:List (den cQ))(o8:Int)(o9:List (den cJ))(sJ:List (den cK))(qO:List (den cN))(m1:List (den cF))(m2:List (den cR))(m3:List Int)(m4:List (den cq))(m5:List (den cq))(m6:List (den cI))(m7:List (den cQ))(m8:Int)(m9:List (den cJ))(jr:List (den cK))(js:List (den cN))(n i:Int):(vL (cp nG (o1,o2,o3,o4,o5,o6,o7,o8,o9,sJ,qO,m1,m2,m3,m4,m5,m6,m7,m8,m9,jr,js,n,i,()))).val=bif decide (i<n)then cz (ij i (jr.length:Int)) (cz (decide (List.length (jr.getD i.toNat (cr cK)).1<=1099511627776)) (cz (Mf ((jr.getD i.toNat (cr cK)).2,())) (cz (ij i (jr.length:Int)) (some (.next (cp nG (o1,o2,o3,o4,o5,o6,o7,o8,o9,sJ,qO,m1,m2,m3,m4,m5,m6,m7,m8,m9,jr.set i.toNat ((jr.getD i.toNat (cr cK)).1,(Mg ((jr.getD i.toNat (cr cK)).2,())).1),js,n,iA .i64 i 1,())))))))else some (.out 0 (cp mg (o1,o2,o3,o4,o5,o6,o7,o8,o9,sJ,qO,m1,m2,m3,m4,m5,m6,m7,m8,m9,jr,js,()))):=by kernel_rfl
theorem Kn(m1:List (den cF))(m2:List (den cR))(m3:List Int)(m4:List (den cq))(m5:List (den cq))(m6:List (den cI))(m7:List (den cQ))(m8:Int)(m9:List (den cJ))(jr:List (den cK))(js:List (den cN))(n i:Int):(vM (cp nH (m1,m2,m3,m4,m5,m6,m7,m8,m9,jr,js,n,i,()))).val=bif decide (i<n)then cz (ij i (js.length:Int)) (cz (Mf ((js.getD i.toNat (cr cN)).1,())) (cz (decide (List.length (js.getD i.toNat (cr cN)).2<=1099511627776)) (cz (ij i (js.length:Int)) (some (.next (cp nH (m1,m2,m3,m4,m5,m6,m7,m8,m9,jr,js.set i.toNat ((Mg ((js.getD i.toNat (cr cN)).1,())).1,(js.getD i.toNat (cr cN)).2),n,iA .i64 i 1,())))))))else some (.out 0 (cp mh (m1,m2,m3,m4,m5,m6,m7,m8,m9,jr,js,()))):=by kernel_rfl
theorem aiU(m1:List (den cF))(m2:List (den cR))(m3:List Int)(m4:List (den cq))(m5:List (den cq))(m6:List (den cI))(m7:List (den cQ))(m8:Int)(m9:List (den cJ))(jr:List (den cK))(js:List (den cN))(X0:cb nD)(hX0:X0=(m1,m2,m3,m4,m5,m6,m7,m8,m9,jr,js,m1,m2,m3,m4,m5,m6,m7,m8,m9,jr,js,(m1.length:Int),0,()))(z0:cb l8)(hz0:z0=oG vH nD l8 X0)(X1:cb nE)(hX1:X1=(z0.1,z0.2.1,z0.2.2.1,z0.2.2.2.1,z0.2.2.2.2.1,z0.2.2.2.2.2.1,z0.2.2.2.2.2.2.1,z0.2.2.2.2.2.2.2.1,z0.2.2.2.2.2.2.2.2.1,z0.2.2.2.2.2.2.2.2.2.1,z0.2.2.2.2.2.2.2.2.2.2.1,z0.2.2.2.2.2.2.2.2.2.2.2.1,z0.2.1,z0.2.2.1,z0.2.2.2.1,z0.2.2.2.2.1,z0.2.2.2.2.2.1,z0.2.2.2.2.2.2.2.2.2.2.2.2.2.2.2.2.2.1,z0.2.2.2.2.2.2.2.2.2.2.2.2.2.2.2.2.2.2.1,z0.2.2.2.2.2.2.2.2.2.2.2.2.2.2.2.2.2.2.2.1,z0.2.2.2.2.2.2.2.2.2.2.2.2.2.2.2.2.2.2.2.2.1,z0.2.2.2.2.2.2.2.2.2.2.2.2.2.2.2.2.2.2.2.2.2.1,(List.length z0.2.2.2.2.2.1:Int),0,()))(z1:cb mc)(hz1:z1=oG vI nE mc X1)(X2:cb nF)(hX2:X2=(z1.1,z1.2.1,z1.2.2.1,z1.2.2.2.1,z1.2.2.2.2.1,z1.2.2.2.2.2.1,z1.2.2.2.2.2.2.1,z1.2.2.2.2.2.2.2.1,z1.2.2.2.2.2.2.2.2.1,z1.2.2.2.2.2.2.2.2.2.1,z1.2.2.2.2.2.2.2.2.2.2.1,z1.2.2.2.2.2.2.2.2.2.2.2.1,z1.2.2.2.2.2.2.2.2.2.2.2.2.1,z1.2.2.2.2.2.2.2.2.2.2.2.2.2.1,z1.2.2.2.2.2.2.2.2.2.2.2.2.2.2.1,z1.2.2.2.2.2.2.2.2.2.2.2.2.2.2.2.1,z1.2.2.2.2.2.2.2.2.2.2.2.2.2.2.2.2.1,z1.2.2.2.2.2.2.1,z1.2.2.2.2.2.2.2.2.2.2.2.2.2.2.2.2.2.2.1,z1.2.2.2.2.2.2.2.2.1,z1.2.2.2.2.2.2.2.2.2.2.2.2.2.2.2.2.2.2.2.2.1,z1.2.2.2.2.2.2.2.2.2.2.2.2.2.2.2.2.2.2.2.2.2.1,(List.length z1.2.2.2.2.2.2.2.2.1:Int),0,()))(z2:cb mf)(hz2:z2=oG vK nF mf X2)(X3:cb nG)(hX3:X3=(z2.1,z2.2.1,z2.2.2.1,z2.2.2.2.1,z2.2.2.2.2.1,z2.2.2.2.2.2.1,z2.2.2.2.2.2.2.1,z2.2.2.2.2.2.2.2.1,z2.2.2.2.2.2.2.2.2.1,z2.2.2.2.2.2.2.2.2.2.1,z2.2.2.2.2.2.2.2.2.2.2.1,z2.2.2.2.2.2.2.2.2.2.2.2.1,z2.2.2.2.2.2.2.2.2.2.2.2.2.1,z2.2.2.2.2.2.2.2.2.2.2.2.2.2.1,z2.2.2.2.2.2.2.2.2.2.2.2.2.2.2.1,z2.2.2.2.2.2.2.2.2.2.2.2.2.2.2.2.1,z2.2.2.2.2.2.2.2.2.2.2.2.2.2.2.2.2.1,z2.2.2.2.2.2.2.2.2.2.2.2.2.2.2.2.2.2.1,z2.2.2.2.2.2.2.2.2.2.2.2.2.2.2.2.2.2.2.1,z2.2.2.2.2.2.2.2.2.2.2.2.2.2.2.2.2.2.2.2.1,z2.2.2.2.2.2.2.2.2.2.1,z2.2.2.2.2.2.2.2.2.2.2.2.2.2.2.2.2.2.2.2.2.2.1,(List.length z2.2.2.2.2.2.2.2.2.2.1:Int),0,()))(z3:cb mg)(hz3:z3=oG vL nG mg X3)(X4:cb nH)(hX4:X4=(z3.2.2.2.2.2.2.2.2.2.2.2.1,z3.2.2.2.2.2.2.2.2.2.2.2.2.1,z3.2.2.2.2.2.2.2.2.2.2.2.2.2.1,z3.2.2.2.2.2.2.2.2.2.2.2.2.2.2.1,z3.2.2.2.2.2.2.2.2.2.2.2.2.2.2.2.1,z3.2.2.2.2.2.2.2.2.2.2.2.2.2.2.2.2.1,z3.2.2.2.2.2.2.2.2.2.2.2.2.2.2.2.2.2.1,z3.2.2.2.2.2.2.2.2.2.2.2.2.2.2.2.2.2.2.1,z3.2.2.2.2.2.2.2.2.2.2.2.2.2.2.2.2.2.2.2.1,z3.2.2.2.2.2.2.2.2.2.2.2.2.2.2.2.2.2.2.2.2.1,z3.2.2.2.2.2.2.2.2.2.2.1,(List.length z3.2.2.2.2.2.2.2.2.2.2.1:Int),0,()))(z4:cb mh)(hz4:z4=oG vM nH mh X4):(aet (m1,m2,m3,m4,m5,m6,m7,m8,m9,jr,js,())).val=cz (decide (List.length m1<=1099511627776)) (cz (xi vH nD l8 X0) (cz (decide (List.length z0.2.1<=1099511627776)) (cz (decide (List.length z0.2.2.1<=1099511627776)) (cz (decide (List.length z0.2.2.2.1<=1099511627776)) (cz (decide (List.length z0.2.2.2.2.1<=1099511627776)) (cz (decide (List.length z0.2.2.2.2.2.1<=1099511627776)) (cz (xi vI nE mc X1) (cz (decide (List.length z1.2.2.2.2.2.2.1<=1099511627776)) (cz (decide (List.length z1.2.2.2.2.2.2.2.2.1<=1099511627776)) (cz (xi vK nF mf X2) (cz (decide (List.length z2.2.2.2.2.2.2.2.2.2.1<=1099511627776)) (cz (xi vL nG mg X3) (cz (decide (List.length z3.2.2.2.2.2.2.2.2.2.2.1<=1099511627776)) (cz (xi vM nH mh X4) (some (cp CM z4)))))))))))))))):=by
 subst hz4;subst hX4
 subst hz3;subst hX3
 subst hz2;subst hX2
 subst hz1;subst hX1
 subst hz0;subst hX0
 kernel_rfl
end Go.Proofs.Vd

noncomputable section
namespace Go.Proofs.Vd
open Go.Ab Go.Ab.Lf
set_option maxRecDepth 100000
def LI(l:List (den tI)):Prop:=l.length<=1099511627776/\ ∀ x:den tI,x∈l->x.2.2.2.2.2.length<=1099511627776
theorem aew(l:List (den tI))(h:LI l):mm uf (cp nC (l,(l.length:Int),((0:Nat):Int),())) 0 (cp lZ (l,())):=by
 refine xY l.length (fun j=>cp nC (l,(l.length:Int),(j:Int),())) _ (fun j hj=>?_) ?_
 ·refine(Kh l (l.length:Int) (j:Int)).trans ?_
  rw[Int.toNat_natCast,dt (show(j:Int)<(l.length:Int) by omega),show ij (j:Int) (l.length:Int)=true from iX hj,Z3 (by have:=h.1;omega),dt (h.2 _ (rP hj _))]
  rw[show l.set j ((l.getD j (cr tI)).1,(l.getD j (cr tI)).2.1,(l.getD j (cr tI)).2.2.1,(l.getD j (cr tI)).2.2.2.1,(l.getD j (cr tI)).2.2.2.2.1,(l.getD j (cr tI)).2.2.2.2.2)=l from rO l j (cr tI) hj]
  rfl
 ·refine(Kh l (l.length:Int) (l.length:Int)).trans ?_
  rw[df (show ¬ (l.length:Int)<(l.length:Int) by omega)]
  rfl
theorem GM(l:List (den tI))(h:LI l):Mf (l,())=true/\Mg (l,())=(l,()):=by
 refine CK (iM _) (iM _) ?_
 have r:=aew l h
 obtain⟨q1,q2⟩:=ru (f:=uf) (ti:=nC) (to:=lZ) r
 refine(aiT l).trans ?_
 rw[dt h.1,show xi uf nC lZ (l,(l.length:Int),0,())=true from q1,show oG uf nC lZ (l,(l.length:Int),0,())=_ from q2]
 rfl
structure MB(m1:List (den cF))(m2:List (den cR))(m3:List Int)(m4:List (den cq))(m5:List (den cq))(m6:List (den cI))(m7:List (den cQ))(m8:Int)(m9:List (den cJ))(jr:List (den cK))(js:List (den cN)):Prop where
 l1:m1.length<=1099511627776
 l2:m2.length<=1099511627776
 l3:m3.length<=1099511627776
 l4:m4.length<=1099511627776
 l5:m5.length<=1099511627776
 l6:m6.length<=1099511627776
 l7:m7.length<=1099511627776
 l9:m9.length<=1099511627776
 l10:jr.length<=1099511627776
 M6:js.length<=1099511627776
 t: ∀ x:den cF,x∈m1->x.1.length<=1099511627776/\x.2.length<=1099511627776
 g: ∀ x:den cI,x∈m6->LI x.2.2
 e: ∀ x:den cJ,x∈m9->LI x.1/\x.2.length<=1099511627776
 c: ∀ x:den cK,x∈jr->x.1.length<=1099511627776/\LI x.2
 d: ∀ x:den cN,x∈js->LI x.1/\x.2.length<=1099511627776
section
variable (m1:List (den cF))(m2:List (den cR))(m3:List Int)(m4:List (den cq))(m5:List (den cq))(m6:List (den cI))(m7:List (den cQ))(m8:Int)(m9:List (den cJ))(jr:List (den cK))(js:List (den cN))
theorem aex(o1:List (den cF))(o2:List (den cR))(o3:List Int)(o4:List (den cq))(o5:List (den cq))(o6:List (den cI))(o7:List (den cQ))(o8:Int)(o9:List (den cJ))(sJ:List (den cK))(qO:List (den cN))(H:MB m1 m2 m3 m4 m5 m6 m7 m8 m9 jr js):mm vH (cp nD (o1,o2,o3,o4,o5,o6,o7,o8,o9,sJ,qO,m1,m2,m3,m4,m5,m6,m7,m8,m9,jr,js,(m1.length:Int),((0:Nat):Int),())) 0 (cp l8 (o1,o2,o3,o4,o5,o6,o7,o8,o9,sJ,qO,m1,m2,m3,m4,m5,m6,m7,m8,m9,jr,js,())):=by
 refine xY m1.length (fun j=>cp nD (o1,o2,o3,o4,o5,o6,o7,o8,o9,sJ,qO,m1,m2,m3,m4,m5,m6,m7,m8,m9,jr,js,(m1.length:Int),(j:Int),())) _ (fun j hj=>?_) ?_
 ·have hx:=H.t _ (rP hj (cr cF))
  refine(Ki o1 o2 o3 o4 o5 o6 o7 o8 o9 sJ qO m1 m2 m3 m4 m5 m6 m7 m8 m9 jr js (m1.length:Int) (j:Int)).trans ?_
  rw[Int.toNat_natCast,dt (show(j:Int)<(m1.length:Int) by omega),show ij (j:Int) (m1.length:Int)=true from iX hj,Z3 (by have:=H.l1;omega),dt hx.1,dt hx.2]
  rw[show m1.set j ((m1.getD j (cr cF)).1,(m1.getD j (cr cF)).2)=m1 from rO m1 j (cr cF) hj]
  rfl
 ·refine(Ki o1 o2 o3 o4 o5 o6 o7 o8 o9 sJ qO m1 m2 m3 m4 m5 m6 m7 m8 m9 jr js (m1.length:Int) (m1.length:Int)).trans ?_
  rw[df (show ¬ (m1.length:Int)<(m1.length:Int) by omega)]
  rfl
theorem aey(o1:List (den cF))(o2:List (den cR))(o3:List Int)(o4:List (den cq))(o5:List (den cq))(o6:List (den cI))(o7:List (den cQ))(o8:Int)(o9:List (den cJ))(sJ:List (den cK))(qO:List (den cN))(H:MB m1 m2 m3 m4 m5 m6 m7 m8 m9 jr js):mm vI (cp nE (o1,o2,o3,o4,o5,o6,o7,o8,o9,sJ,qO,m1,m2,m3,m4,m5,m6,m7,m8,m9,jr,js,(m6.length:Int),((0:Nat):Int),())) 0 (cp mc (o1,o2,o3,o4,o5,o6,o7,o8,o9,sJ,qO,m1,m2,m3,m4,m5,m6,m7,m8,m9,jr,js,())):=by
 refine xY m6.length (fun j=>cp nE (o1,o2,o3,o4,o5,o6,o7,o8,o9,sJ,qO,m1,m2,m3,m4,m5,m6,m7,m8,m9,jr,js,(m6.length:Int),(j:Int),())) _ (fun j hj=>?_) ?_
 ·have hx:=H.g _ (rP hj (cr cI))
  refine(Kj o1 o2 o3 o4 o5 o6 o7 o8 o9 sJ qO m1 m2 m3 m4 m5 m6 m7 m8 m9 jr js (m6.length:Int) (j:Int)).trans ?_
  rw[Int.toNat_natCast,dt (show(j:Int)<(m6.length:Int) by omega),show ij (j:Int) (m6.length:Int)=true from iX hj,Z3 (by have:=H.l6;omega),(GM _ hx).1,(GM _ hx).2]
  rw[show m6.set j ((m6.getD j (cr cI)).1,(m6.getD j (cr cI)).2.1,(m6.getD j (cr cI)).2.2)=m6 from rO m6 j (cr cI) hj]
  rfl
 ·refine(Kj o1 o2 o3 o4 o5 o6 o7 o8 o9 sJ qO m1 m2 m3 m4 m5 m6 m7 m8 m9 jr js (m6.length:Int) (m6.length:Int)).trans ?_
  rw[df (show ¬ (m6.length:Int)<(m6.length:Int) by omega)]
  rfl
theorem aez(o1:List (den cF))(o2:List (den cR))(o3:List Int)(o4:List (den cq))(o5:List (den cq))(o6:List (den cI))(o7:List (den cQ))(o8:Int)(o9:List (den cJ))(sJ:List (den cK))(qO:List (den cN))(H:MB m1 m2 m3 m4 m5 m6 m7 m8 m9 jr js):mm vK (cp nF (o1,o2,o3,o4,o5,o6,o7,o8,o9,sJ,qO,m1,m2,m3,m4,m5,m6,m7,m8,m9,jr,js,(m9.length:Int),((0:Nat):Int),())) 0 (cp mf (o1,o2,o3,o4,o5,o6,o7,o8,o9,sJ,qO,m1,m2,m3,m4,m5,m6,m7,m8,m9,jr,js,())):=by
 refine xY m9.length (fun j=>cp nF (o1,o2,o3,o4,o5,o6,o7,o8,o9,sJ,qO,m1,m2,m3,m4,m5,m6,m7,m8,m9,jr,js,(m9.length:Int),(j:Int),())) _ (fun j hj=>?_) ?_
 ·have hx:=H.e _ (rP hj (cr cJ))
  refine(Kk o1 o2 o3 o4 o5 o6 o7 o8 o9 sJ qO m1 m2 m3 m4 m5 m6 m7 m8 m9 jr js (m9.length:Int) (j:Int)).trans ?_
  rw[Int.toNat_natCast,dt (show(j:Int)<(m9.length:Int) by omega),show ij (j:Int) (m9.length:Int)=true from iX hj,Z3 (by have:=H.l9;omega),(GM _ hx.1).1,(GM _ hx.1).2,dt hx.2]
  rw[show m9.set j ((m9.getD j (cr cJ)).1,(m9.getD j (cr cJ)).2)=m9 from rO m9 j (cr cJ) hj]
  rfl
 ·refine(Kk o1 o2 o3 o4 o5 o6 o7 o8 o9 sJ qO m1 m2 m3 m4 m5 m6 m7 m8 m9 jr js (m9.length:Int) (m9.length:Int)).trans ?_
  rw[df (show ¬ (m9.length:Int)<(m9.length:Int) by omega)]
  rfl
theorem aeA(o1:List (den cF))(o2:List (den cR))(o3:List Int)(o4:List (den cq))(o5:List (den cq))(o6:List (den cI))(o7:List (den cQ))(o8:Int)(o9:List (den cJ))(sJ:List (den cK))(qO:List (den cN))(H:MB m1 m2 m3 m4 m5 m6 m7 m8 m9 jr js):mm vL (cp nG (o1,o2,o3,o4,o5,o6,o7,o8,o9,sJ,qO,m1,m2,m3,m4,m5,m6,m7,m8,m9,jr,js,(jr.length:Int),((0:Nat):Int),())) 0 (cp mg (o1,o2,o3,o4,o5,o6,o7,o8,o9,sJ,qO,m1,m2,m3,m4,m5,m6,m7,m8,m9,jr,js,())):=by
 refine xY jr.length (fun j=>cp nG (o1,o2,o3,o4,o5,o6,o7,o8,o9,sJ,qO,m1,m2,m3,m4,m5,m6,m7,m8,m9,jr,js,(jr.length:Int),(j:Int),())) _ (fun j hj=>?_) ?_
 ·have hx:=H.c _ (rP hj (cr cK))
  refine(Km o1 o2 o3 o4 o5 o6 o7 o8 o9 sJ qO m1 m2 m3 m4 m5 m6 m7 m8 m9 jr js (jr.length:Int) (j:Int)).trans ?_
  rw[Int.toNat_natCast,dt (show(j:Int)<(jr.length:Int) by omega),show ij (j:Int) (jr.length:Int)=true from iX hj,Z3 (by have:=H.l10;omega),(GM _ hx.2).1,(GM _ hx.2).2,dt hx.1]
  rw[show jr.set j ((jr.getD j (cr cK)).1,(jr.getD j (cr cK)).2)=jr from rO jr j (cr cK) hj]
  rfl
 ·refine(Km o1 o2 o3 o4 o5 o6 o7 o8 o9 sJ qO m1 m2 m3 m4 m5 m6 m7 m8 m9 jr js (jr.length:Int) (jr.length:Int)).trans ?_
  rw[df (show ¬ (jr.length:Int)<(jr.length:Int) by omega)]
  rfl
theorem aeB(H:MB m1 m2 m3 m4 m5 m6 m7 m8 m9 jr js):mm vM (cp nH (m1,m2,m3,m4,m5,m6,m7,m8,m9,jr,js,(js.length:Int),((0:Nat):Int),())) 0 (cp mh (m1,m2,m3,m4,m5,m6,m7,m8,m9,jr,js,())):=by
 refine xY js.length (fun j=>cp nH (m1,m2,m3,m4,m5,m6,m7,m8,m9,jr,js,(js.length:Int),(j:Int),())) _ (fun j hj=>?_) ?_
 ·have hx:=H.d _ (rP hj (cr cN))
  refine(Kn m1 m2 m3 m4 m5 m6 m7 m8 m9 jr js (js.length:Int) (j:Int)).trans ?_
  rw[Int.toNat_natCast,dt (show(j:Int)<(js.length:Int) by omega),show ij (j:Int) (js.length:Int)=true from iX hj,Z3 (by have:=H.M6;omega),(GM _ hx.1).1,(GM _ hx.1).2,dt hx.2]
  rw[show js.set j ((js.getD j (cr cN)).1,(js.getD j (cr cN)).2)=js from rO js j (cr cN) hj]
  rfl
 ·refine(Kn m1 m2 m3 m4 m5 m6 m7 m8 m9 jr js (js.length:Int) (js.length:Int)).trans ?_
  rw[df (show ¬ (js.length:Int)<(js.length:Int) by omega)]
  rfl
theorem an'(H:MB m1 m2 m3 m4 m5 m6 m7 m8 m9 jr js):aeu (m1,m2,m3,m4,m5,m6,m7,m8,m9,jr,js,())=true/\aev (m1,m2,m3,m4,m5,m6,m7,m8,m9,jr,js,())=(m1,m2,m3,m4,m5,m6,m7,m8,m9,jr,js,()):=by
 have q0:=ru (f:=vH) (ti:=nD) (to:=l8) (aex m1 m2 m3 m4 m5 m6 m7 m8 m9 jr js m1 m2 m3 m4 m5 m6 m7 m8 m9 jr js H)
 have q2:=ru (f:=vI) (ti:=nE) (to:=mc) (aey m1 m2 m3 m4 m5 m6 m7 m8 m9 jr js m1 m2 m3 m4 m5 m6 m7 m8 m9 jr js H)
 have q4:=ru (f:=vK) (ti:=nF) (to:=mf) (aez m1 m2 m3 m4 m5 m6 m7 m8 m9 jr js m1 m2 m3 m4 m5 m6 m7 m8 m9 jr js H)
 have q6:=ru (f:=vL) (ti:=nG) (to:=mg) (aeA m1 m2 m3 m4 m5 m6 m7 m8 m9 jr js m1 m2 m3 m4 m5 m6 m7 m8 m9 jr js H)
 have q8:=ru (f:=vM) (ti:=nH) (to:=mh) (aeB m1 m2 m3 m4 m5 m6 m7 m8 m9 jr js H)
 refine CK (iM _) (iM _) ?_
 refine(aiU m1 m2 m3 m4 m5 m6 m7 m8 m9 jr js _ rfl (m1,m2,m3,m4,m5,m6,m7,m8,m9,jr,js,m1,m2,m3,m4,m5,m6,m7,m8,m9,jr,js,()) q0.2.symm _ rfl (m1,m2,m3,m4,m5,m6,m7,m8,m9,jr,js,m1,m2,m3,m4,m5,m6,m7,m8,m9,jr,js,()) q2.2.symm _ rfl (m1,m2,m3,m4,m5,m6,m7,m8,m9,jr,js,m1,m2,m3,m4,m5,m6,m7,m8,m9,jr,js,()) q4.2.symm _ rfl (m1,m2,m3,m4,m5,m6,m7,m8,m9,jr,js,m1,m2,m3,m4,m5,m6,m7,m8,m9,jr,js,()) q6.2.symm _ rfl (m1,m2,m3,m4,m5,m6,m7,m8,m9,jr,js,()) q8.2.symm).trans ?_
 dsimp only
 rw[dt H.l1,dt H.l2,dt H.l3,dt H.l4,dt H.l5,dt H.l6,dt H.l7,dt H.l9,dt H.l10,dt H.M6,show xi vH nD l8 (m1,m2,m3,m4,m5,m6,m7,m8,m9,jr,js,m1,m2,m3,m4,m5,m6,m7,m8,m9,jr,js,(m1.length:Int),0,())=true from q0.1,show xi vI nE mc (m1,m2,m3,m4,m5,m6,m7,m8,m9,jr,js,m1,m2,m3,m4,m5,m6,m7,m8,m9,jr,js,(m6.length:Int),0,())=true from q2.1,show xi vK nF mf (m1,m2,m3,m4,m5,m6,m7,m8,m9,jr,js,m1,m2,m3,m4,m5,m6,m7,m8,m9,jr,js,(m9.length:Int),0,())=true from q4.1,show xi vL nG mg (m1,m2,m3,m4,m5,m6,m7,m8,m9,jr,js,m1,m2,m3,m4,m5,m6,m7,m8,m9,jr,js,(jr.length:Int),0,())=true from q6.1,show xi vM nH mh (m1,m2,m3,m4,m5,m6,m7,m8,m9,jr,js,(js.length:Int),0,())=true from q8.1]
 rfl
end
end Go.Proofs.Vd

noncomputable section
namespace Go.Proofs.Vd
open Go.Ab Go.Ab.Lf
set_option maxRecDepth 100000
theorem vN{P:lV}{ptr:List Nat}{Q:lV}{ti to:List Ty}{g:cb ti->Lf.T (cb to)}{pl q:List Pl}(h:((kf P ptr Q ti to g).f pl).val=some q): ∃ x y,pl=cp ti x/\(g x).val=some y/\q=cp to y:=by
 change (match toT ti pl with|some x=>(g x).map (cp to)|none=>.bad).val=some q at h
 split at h
 ·rename_i x hx
  obtain⟨y,h1,h2⟩:=T.DJ h
  exact⟨x,y,sj hx,h1,h2⟩
 ·cases h
theorem vO{P:lV}{ptr:List Nat}{Q:lV}{ti to:List Ty}{g:cb ti->Lf.T (cb to)}{x:cb ti}{y:cb to}(h:(g x).val=some y):((kf P ptr Q ti to g).f (cp ti x)).val=some (cp to y):=by
 show(match toT ti (cp ti x)with|some x=>(g x).map (cp to)|none=>.bad).val=_
 rw[qc]
 show((g x).bd fun a=>Lf.T.ok (cp to a)).val=_
 rw[Lf.T.Dv,h]
 rfl
def kCk(V:ByteArray->Bool)(y:cb tM):Bool:=Is V y&&gNx y.2.2.2.2.2.2.1
def s8c(V:ByteArray->Bool):iK:=kf (Ps [pM]) [] (Ps [.n .i64]) tM [i64] fun y=>.ck (kCk V y) (.ok (ue V y,()))
theorem aeD{V:ByteArray->Bool}{cf:cg}(W:WorldN V cf):(s8c V).Ok 50 cf:=by
 intro pl q args H0 E0 h az e hP hv hS
 obtain⟨x,y,rfl,h1,rfl⟩:=vN e
 obtain⟨h2,h3⟩:=Lf.T.cy h1
 injection h3 with h3
 obtain⟨y1,y2,y3,y4,y5,y6,y7,y8,y9,y10,y11,⟨⟩⟩:=x
 unfold kCk at h2
 rw[Bool.and_eq_true]at h2
 have s:=mT (an5 (V:=V) (y:=(y1,y2,y3,y4,y5,y6,y7,y8,y9,y10,y11,())) h2.1 h2.2)
 refine aio W _ _ args H0 E0 h az (vO (g:=fun x=>.ck (k8 V x) (.ok (m8 V x))) (y:=y) ?_) hP hv hS
 show(bif k8 V _ then some (m8 V _)else none)=some y
 rw[show k8 V (y1,y2,y3,y4,y5,y6,y7,y8,y9,y10,y11,())=true from s.1,show m8 V (y1,y2,y3,y4,y5,y6,y7,y8,y9,y10,y11,())=_ from s.2,<-h3]
 rfl
end Go.Proofs.Vd

noncomputable section
namespace Go.Proofs.Vd
open Go.Ab Go.Ab.Lf
set_option maxRecDepth 100000
end Go.Proofs.Vd

noncomputable section
namespace Go.Proofs.Vd
open Go.Ab Go.Ab.Lf
set_option maxRecDepth 100000
end Go.Proofs.Vd

noncomputable section
namespace Go.Proofs.Vd
open Go.Ab Go.Ab.Lf
set_option maxRecDepth 100000
end Go.Proofs.Vd

noncomputable section
namespace Go.Proofs.Vd
open Go.Ab Go.Ab.Lf
set_option maxRecDepth 100000
end Go.Proofs.Vd

noncomputable section
namespace Go.Proofs.Vd
open Go.Ab Go.Ab.Lf
set_option maxRecDepth 100000
abbrev iC(o lo hi:Int):den tI:=(o,0,0,lo,hi,[])
abbrev eC(o lo hi:Int):List (den tI):=[iC o lo hi,(11,0,0,0,0,[])]
end Go.Proofs.Vd

noncomputable section
namespace Go.Proofs.Vd
open Go.Ab Go.Ab.Lf
set_option maxRecDepth 100000
theorem IP{n:Nat}(h:n<4294967296):lB (n:Int)=true:=by
 unfold lB
 rw[decide_eq_true (by omega),decide_eq_true (by omega)]
 rfl
theorem aeE{α:Type}{A:Item α}(B:CG A){most:Int}{l:List α}(hl:(l.length:Int)<=most)(hl2:l.length<=65536)(ho:iD A.ok l=true)(hp: ∀ x,x∈l->B.p x=true)(hw:sx A.wt l<=4294960000):kS B most l=true:=by
 have hr:=Bb B l ho
 have hn:=sy (l.length:Int)
 unfold kS
 rw[decide_eq_true hl,IP (n:=l.length) (by omega),List.all_eq_true.2 hp,IP (n:=(nb (l.length:Int)++wY B l).length) (by rw[List.length_append];omega)]
 cases decide ((l.length:Int)=0)<;>rfl
structure cC(c:List (den tI))(t o lo hi:Int):Prop where
 c:c=eC o lo hi
 o:(o=65/\t=127/\0<=lo/\lo<4294967296/\hi=0)∨(o=66/\t=126/\hi=0)∨(o=64780/\t=123)
end Go.Proofs.Vd

noncomputable section
namespace Go.Proofs.Vd
open Go.Ab Go.Ab.Lf
set_option maxRecDepth 100000
end Go.Proofs.Vd

noncomputable section
namespace Go.Proofs.Vd
open Go.Ab Go.Ab.Lf
set_option maxRecDepth 100000
end Go.Proofs.Vd

noncomputable section
namespace Go.Proofs.Vd
open Go.Ab Go.Ab.Lf
set_option maxRecDepth 100000
end Go.Proofs.Vd

noncomputable section
namespace Go.Proofs.Vd
open Go.Ab Go.Ab.Lf
set_option maxRecDepth 100000
end Go.Proofs.Vd

noncomputable section
namespace Go.Proofs.Vd
open Go.Ab Go.Ab.Lf
set_option maxRecDepth 100000
theorem RL(o lo hi:Int):LI (eC o lo hi):=⟨(show 2<=1099511627776 by decide),fun x hx=>by
 rcases List.mem_cons.1 hx with q|q
 ·rw[q];exact Nat.zero_le _
 ·rw[show x=(11,0,0,0,0,[]) by simpa using q];exact Nat.zero_le _⟩
end Go.Proofs.Vd

noncomputable section
namespace Go.Proofs.Vd
open Go.Ab Go.Ab.Lf
set_option maxRecDepth 100000
abbrev iG(op B Lo:Int):den tI:=(op,0,B,Lo,0,[])
abbrev bL(op B Lo:Int)(two:Bool):List (den tI):=bif two then [(32,0,0,0,0,[]),(32,1,0,0,0,[]),iG op B Lo,iC 11 0 0]else [(32,0,0,0,0,[]),iG op B Lo,iC 11 0 0]
abbrev gI:List (den cI):=[(127,true,[iC 65 0 0,iC 11 0 0]),(126,true,[iC 66 0 0,iC 11 0 0]),(123,true,[iC 64780 0 0,iC 11 0 0])]
abbrev yI(op B Lo:Int)(two:Bool)(out:List Int):cb tM:=([([127,123],out)],[],[0],[],[((1:Int),(1:Int))],gI,[],-1,[],[([],bL op B Lo two)],[],())
end Go.Proofs.Vd

noncomputable section
namespace Go.Proofs.Vd
open Go.Ab Go.Ab.Lf
set_option maxRecDepth 100000
theorem GN: ∀ (c:List (den tI)) (out:List Int),(∀ x,x∈c->(lz (mI x)).2=true)->(su c out).isSome=true
 | [],out,_=>rfl
 |x::c,out,h=>by
  have h1:=h x List.mem_cons_self
  have e:su (x::c) out=(match(bif (lz (mI x)).2 then Sum.inl (out++(lz (mI x)).1)else Sum.inr none:List Int ⊕ Option (List Int))with| .inl q=>su c q| .inr r=>r):=by kernel_rfl
  rw[e,h1]
  exact GN c _ fun y hy=>h y (List.mem_cons_of_mem _ hy)
theorem wr0{c:List (den tI)}(hc:lY c=true)(h: ∀ x,x∈c->(lz (mI x)).2=true):rz c=0:=by
 unfold rz Ik
 rw[hc,cond_true,GN c [] h]
 rfl
theorem my{α:Type}{c:Bool}{X:Option α}{y:α}(h:cz c X=some y):X=some y:=by
 cases c
 ·cases h
 ·exact h
theorem RM{n:Int}(h0:0<=n)(h1:n<4294967296):nI n=true:=by
 unfold nI
 rw[decide_eq_true h0,cond_true,decide_eq_true h1]
theorem XV{op B Lo:Int}(h0:0<=B)(h1:B<4294967296)(hi:A0 op=true)(hr:(A1 (op,0,B,Lo,0,[],(kM op).1,())).1=true)
 (hf:(decide ((kM op).1=7)||(decide ((kM op).1=8)&&decide (Lo<256)))=true)(hv:decide (64768<=op)=true):(lz (mI (iG op B Lo))).2=true:=by
 have hm:=RM h0 h1
 have ha:nI 0=true:=RM (by decide) (by decide)
 obtain⟨Bs,O,_,hK⟩:=Gq op 0 B Lo 0 [] (by decide) (by decide) (by decide)
 have e1:lz (mI (iG op B Lo))=(Bs,O):=by
  show(u5 Prod.mk op 0 B Lo 0 []).getD ([],false)=_
  rw[show u5 Prod.mk op 0 B Lo 0 []=some (Bs,O)from hK _ Prod.mk]
  rfl
 rw[e1]
 have k:=hK Bool fun _ o=>o
 unfold u5 at k
 simp only at k
 rw[hi,hr,hv]at k
 simp only[Bool.not_true,cond_false,cond_true]at k
 have k:=my (my (my k))
 unfold u4 at k
 simp only at k
 rw[hm,ha]at k
 simp only[cond_true]at k
 show O=true
 simp only[Bool.or_eq_true,Bool.and_eq_true,decide_eq_true_eq]at hf
 rcases hf with hf|⟨hf,hl⟩
 ·rw[hf]at k
  have k:=my (my (my (my (my (my (my k))))))
  cases k
  rfl
 ·rw[hf,decide_eq_true hl]at k
  have k:=my (my (my (my (my (my k)))))
  cases k
  rfl
structure CI(op Lo:Int)(two:Bool)(out:List Int):Prop where
 is:A0 op=true
 r: ∀ B:Int,(A1 (op,0,B,Lo,0,[],(kM op).1,())).1=true
 f:(decide ((kM op).1=7)||(decide ((kM op).1=8)&&decide (Lo<256)))=true
 v:decide (64768<=op)=true
 ok: ∀ (V:ByteArray->Bool) (B:Int),ZD V (yI op B Lo two out)=true
 wt: ∀ (V:ByteArray->Bool) (B:Int),Nat.ble (8+QF V (yI op B Lo two out)) 16000=true
 cl: ∀ B:Int,lY (bL op B Lo two)=true
 bod: ∀ B:Int,aeq (yI op B Lo two out)=true
 aoc: ∀ B:Int,Bh (yI op B Lo two out)=true
 t30:kS QO 256 [([127,123],out)]=true
 o52: ∀ B:Int,(iD Ir.ok [(([]:List Int),bL op B Lo two)]&&Nat.ble (sx Ir.wt [(([]:List Int),bL op B Lo two)]) 16000)=true
theorem Eg(k:Int)(h:(decide (k=0)||decide (k=1))=true):(lz (mI (32,k,0,0,0,[]))).2=true:=by
 simp only[Bool.or_eq_true,decide_eq_true_eq]at h
 rcases h with rfl|rfl<;>kernel_rfl
theorem Ko:(lz (mI (iC 11 0 0))).2=true:=by kernel_rfl
theorem CI.wr{op Lo:Int}{two:Bool}{out:List Int}(C:CI op Lo two out){B:Int}(h0:0<=B)(h1:B<4294967296):rz (bL op B Lo two)=0:=by
 refine wr0 (C.cl B) fun x hx=>?_
 have hp:=XV h0 h1 C.is (C.r B) C.f C.v
 cases two with
 |true=>
  have hx:x∈[((32:Int),(0:Int),(0:Int),(0:Int),(0:Int),([]:List Int)),(32,1,0,0,0,[]),iG op B Lo,iC 11 0 0]:=hx
  simp only[List.mem_cons,List.not_mem_nil,or_false]at hx
  rcases hx with rfl|rfl|rfl|rfl
  ·exact Eg 0 rfl
  ·exact Eg 1 rfl
  ·exact hp
  ·exact Ko
 |false=>
  have hx:x∈[((32:Int),(0:Int),(0:Int),(0:Int),(0:Int),([]:List Int)),iG op B Lo,iC 11 0 0]:=hx
  simp only[List.mem_cons,List.not_mem_nil,or_false]at hx
  rcases hx with rfl|rfl|rfl
  ·exact Eg 0 rfl
  ·exact hp
  ·exact Ko
theorem aod(V:ByteArray->Bool){op Lo:Int}{two:Bool}{out:List Int}(C:CI op Lo two out){B:Int}(h0:0<=B)(h1:B<4294967296):ZK V (yI op B Lo two out)=true:=by
 have a35:kS (QP V) 512 []=true:=by kernel_rfl
 have a38:kS QQ 512 [0]=true:=by kernel_rfl
 have a40:kS QR 512 []=true:=by kernel_rfl
 have a42:kS QS 512 [((1:Int),(1:Int))]=true:=by kernel_rfl
 have a44:kS QT 512 gI=true:=by kernel_rfl
 have a46:kS (QU V) 512 []=true:=by kernel_rfl
 have st:stP (-1)=true:=by kernel_rfl
 have a49:kS L1 512 []=true:=by kernel_rfl
 have a54:kS L2 512 []=true:=by kernel_rfl
 have o:=C.o52 B
 rw[Bool.and_eq_true]at o
 have hw:sx Ir.wt [(([]:List Int),bL op B Lo two)]<=16000:=Nat.le_of_ble_eq_true o.2
 have a52:kS D2 512 [(([]:List Int),bL op B Lo two)]=true:=by
  refine aeE D2 (show(1:Int)<=512 by decide) (show 1<=65536 by decide) o.1 (fun x hx=>?_) (by omega)
  obtain rfl:x=(([]:List Int),bL op B Lo two):=by simpa using hx
  show(decide ((0:Int)<=512)&&(M8 (([]:List Int),bL op B Lo two)&&lB ((zx (([]:List Int),bL op B Lo two)).length:Int)))=true
  have hc:sw (bL op B Lo two)=true:=by
   have q:=o.1
   have q:(bif Ir.ok (([]:List Int),bL op B Lo two)then true else false)=true:=q
   cases hk:Ir.ok (([]:List Int),bL op B Lo two)with
   |false=>rw[hk]at q;cases q
   |true=>exact hk
  have hl:=A3 (bL op B Lo two) (by unfold sw at hc;rw[Bool.and_eq_true]at hc;exact hc.1)
  have hwt:uz (bL op B Lo two)<=16000:=by
   have e:sx Ir.wt [(([]:List Int),bL op B Lo two)]=DW (([]:List Int),bL op B Lo two,())+0:=rfl
   rw[e]at hw
   unfold DW at hw
   simp only at hw
   omega
  have hcd:(zx (([]:List Int),bL op B Lo two)).length<4294967296:=by
   have hn:=sy (jg ([]:List Int) 0)
   unfold zx
   have e0:(D0 ([]:List Int) 0 0).length=0:=rfl
   rw[List.length_append,List.length_append]
   show(nb (jg [] 0)).length+((D0 ([]:List Int) 0 0).length+(ry (bL op B Lo two)).length)<_
   omega
  rw[IP hcd]
  have e1:M8 (([]:List Int),bL op B Lo two)=(lB (jg [] 0)&&(Gx [] 0 0&&decide (rz (bL op B Lo two)=0))):=rfl
  rw[e1,C.wr h0 h1,show lB (jg [] 0)=true by kernel_rfl,show Gx [] 0 0=true by kernel_rfl]
  rfl
 have e:ZK V (yI op B Lo two out)=(decide (((1:Nat):Int)=((1:Nat):Int))&&((kS QO 256 [([127,123],out)]&&(kS (QP V) 512 []&&(kS QQ 512 [0]&&(kS QR 512 []&&(kS QS 512 [((1:Int),(1:Int))]&&(kS QT 512 gI&&kS (QU V) 512 []))))))&&(stP (-1)&&(kS L1 512 []&&(kS D2 512 [(([]:List Int),bL op B Lo two)]&&kS L2 512 []))))):=rfl
 rw[e,C.t30,a35,a38,a40,a42,a44,a46,st,a49,a52,a54,dt (rfl:((1:Nat):Int)=((1:Nat):Int))]
 rfl
theorem OL(V:ByteArray->Bool){op Lo:Int}{two:Bool}{out:List Int}(C:CI op Lo two out){B:Int}(h0:0<=B)(h1:B<4294967296):kCk V (yI op B Lo two out)=true/\ue V (yI op B Lo two out)=0:=by
 have hw:=Nat.le_of_ble_eq_true (C.wt V B)
 have hE:Is V (yI op B Lo two out)=true:=by
  unfold Is
  rw[C.ok V B,decide_eq_true (by omega)]
  rfl
 have hP:=aod V C h0 h1
 refine⟨by unfold kCk;rw[hE];rfl,?_⟩
 have h2:rE V (yI op B Lo two out)=0:=by
  have hl:=QI hE
  unfold rE
  have e:(yP V (yI op B Lo two out)).2=false:=by
   rw[Ka hE,hP]
   rfl
  rw[e,cond_false,df (by omega)]
  rfl
 unfold ue
 rw[h2,C.aoc B,C.bod B]
 rfl
end Go.Proofs.Vd

noncomputable section
namespace Go.Proofs.Vd
open Go.Ab Go.Ab.Lf
set_option maxRecDepth 100000
def U(z:Int):Prop:=0<=z/\z<=18446744073709551615
theorem aiW(n:Int):U (cE .u64 n):=⟨Int.emod_nonneg n (by decide),by have:=Int.emod_lt_of_pos n (show(0:Int)<18446744073709551616 by decide);show n % 18446744073709551616<=_;omega⟩
theorem aeF(n:Int):U (ja .u64 n):=aiW n
theorem U0:U 0:=⟨by decide,by decide⟩
theorem RO{x:Int}(h:U x): ∃ a:Nat,x=a/\a<18446744073709551616:=⟨x.toNat,by have:=h.1;omega,by have:=h.2;have:=h.1;omega⟩
theorem Kp(a b:Nat)(ha:a<18446744073709551616)(hb:b<18446744073709551616):FD .u64 (a:Int) (b:Int)=((a &&& b:Nat):Int):=by
 show intOf (bif Nat.blt a 18446744073709551616&&Nat.blt b 18446744073709551616 then some (.int .u64 (.ofNat (Nat.land a b)))else _)=_
 rw[show(Nat.blt a 18446744073709551616)=true by simpa using ha,show(Nat.blt b 18446744073709551616)=true by simpa using hb]
 rfl
theorem aiX{x y:Int}(hx:U x)(hy:U y):U (FD .u64 x y)/\U (xG .u64 x y)/\U (aaY .u64 x y):=by
 obtain⟨a,rfl,ha⟩:=RO hx
 obtain⟨b,rfl,hb⟩:=RO hy
 have hh:(Nat.blt a 18446744073709551616&&Nat.blt b 18446744073709551616)=true:=by
  rw[show(Nat.blt a 18446744073709551616)=true by simpa using ha,show(Nat.blt b 18446744073709551616)=true by simpa using hb];rfl
 have e1:FD .u64 (a:Int) (b:Int)=((a &&& b:Nat):Int):=Kp a b ha hb
 have e2:xG .u64 (a:Int) (b:Int)=((a ||| b:Nat):Int):=by
  show intOf (bif Nat.blt a 18446744073709551616&&Nat.blt b 18446744073709551616 then some (.int .u64 (.ofNat (Nat.lor a b)))else _)=_
  rw[hh];rfl
 have e3:aaY .u64 (a:Int) (b:Int)=((a ^^^ b:Nat):Int):=by
  show intOf (bif Nat.blt a 18446744073709551616&&Nat.blt b 18446744073709551616 then some (.int .u64 (.ofNat (Nat.xor a b)))else _)=_
  rw[hh];rfl
 have l1:a &&& b<2 ^ 64:=Nat.and_lt_two_pow _ (by omega)
 have l2:a ||| b<2 ^ 64:=Nat.or_lt_two_pow (by omega) (by omega)
 have l3:a ^^^ b<2 ^ 64:=Nat.xor_lt_two_pow (by omega) (by omega)
 rw[e1,e2,e3]
 exact⟨⟨by omega,by omega⟩,⟨by omega,by omega⟩,⟨by omega,by omega⟩⟩
theorem aiY{x n:Int}(hn:0<=n):U (BJ .u64 x n):=by
 obtain⟨k,rfl⟩: ∃ k:Nat,n=k:=⟨n.toNat,by omega⟩
 exact aeF _
abbrev GO:List Ty:=[.ca u8,i64,u64,i64]
abbrev vf:List Ty:=[u64,i64,.ca u8,i64]
def aiZ:List (Nat×iK):=[]
theorem XW{V:ByteArray->Bool}{cf:cg}(W:WorldS V cf):jd cf aiZ:=.nil
def XX(x:cb GO):Lf.T (List Pl):=kO (Ps [.pt 0 (Ps [.ow u8,.n .i64]),.n .u64,.n .i64]) [2] (Ps [.tu (Ps [.n .u64,.n .i64]),.pt 2 (Ps [.ow u8,.n .i64])]) (fun _=>none) Tryz.x38 9 (je aiZ 9) (cp GO x)
def IQ(x:cb GO):Bool:=rN (nA vf (XX x))
def IU(x:cb GO):cb vf:=rN (jP vf (XX x))
def ai0:iK:=kf (Ps [.pt 0 (Ps [.ow u8,.n .i64]),.n .u64,.n .i64]) [2] (Ps [.tu (Ps [.n .u64,.n .i64]),.pt 2 (Ps [.ow u8,.n .i64])]) GO vf fun x=>.ck (IQ x) (.ok (IU x))
theorem XY{V:ByteArray->Bool}{cf:cg}(W:WorldS V cf):ai0.Ok 38 cf:=
 j4 (W.toWorld.in (XW W) 9) (W.toWorld.st 38 _ rfl) rfl (cu _) (m:=9) rfl (fun _=>iM _) (fun _=>iM _)
abbrev CN:List Ty:=[.ca u8,i64,u64,i64,u64]
abbrev ug:List Ty:=[i64,.ca u8,i64]
def ai1:List (Nat×iK):=[]
theorem XZ{V:ByteArray->Bool}{cf:cg}(W:WorldS V cf):jd cf ai1:=.nil
def X5(x:cb CN):Lf.T (List Pl):=kO (Ps [.pt 0 (Ps [.ow u8,.n .i64]),.n .u64,.n .i64,.n .u64]) [2] (Ps [.n .i64,.pt 2 (Ps [.ow u8,.n .i64])]) (fun _=>none) Tryz.x16 9 (je ai1 9) (cp CN x)
def Eh(x:cb CN):Bool:=rN (nA ug (X5 x))
def yU(x:cb CN):cb ug:=rN (jP ug (X5 x))
def ai2:iK:=kf (Ps [.pt 0 (Ps [.ow u8,.n .i64]),.n .u64,.n .i64,.n .u64]) [2] (Ps [.n .i64,.pt 2 (Ps [.ow u8,.n .i64])]) CN ug fun x=>.ck (Eh x) (.ok (yU x))
theorem Kq{V:ByteArray->Bool}{cf:cg}(W:WorldS V cf):ai2.Ok 16 cf:=
 j4 (W.toWorld.in (XZ W) 9) (W.toWorld.st 16 _ rfl) rfl (cu _) (m:=9) rfl (fun _=>iM _) (fun _=>iM _)
section
variable (b:List Int)(mo at_:Int)
abbrev wid(n:Int):Bool:=bif decide (cE .u64 n<=cE .u64 (b.length:Int))then decide (at_<=il .u64 (cE .u64 (b.length:Int)) (cE .u64 n))else false
abbrev RP(n:Int):Bool:=bif !decide (n=1)then bif !decide (n=2)then bif !decide (n=4)then !decide (n=8)else false else false else false
def ldF(L:Nat):Nat->Int->Int->Option (List Pl)
 |0,_,_=>none
 |k+1,i,x=>bif decide (i<(L:Int))then cz (ij i (L:Int)) (cz (decide (0<=vt .i64 8 i)) (ldF L k (iA .i64 i 1) (xG .u64 x (BJ .u64 (cE .u64 (b.getD (at_.toNat+i.toNat) (cr u8))) (vt .i64 8 i)))))else some (cp vf (x,0,b,mo,()))
end
theorem Z4(b:List Int)(mo at_ n:Int):(XX (b,mo,at_,n,())).val=bif RP n then some (cp vf (0,1,b,mo,()))else bif !wid b at_ n then some (cp vf (0,23,b,mo,()))else
 cz (jy at_ (iA .u64 at_ (cE .u64 n)) (b.length:Int)) (ldF b mo at_ ((iA .u64 at_ (cE .u64 n)).toNat - at_.toNat) 9 0 0):=by
 kernel_rfl
section
variable (mo at_ n x:Int)
def stF:Nat->Int->List Int->Option (List Pl)
 |0,_,_=>none
 |k+1,i,b=>bif decide (i<n)then cz (ij (iA .u64 at_ (cE .u64 i)) (b.length:Int)) (cz (decide (0<=vt .i64 8 i)) (stF k (iA .i64 i 1) (b.set (iA .u64 at_ (cE .u64 i)).toNat (cE .u8 (pX .u64 x (vt .i64 8 i))))))else some (cp ug (0,b,mo,()))
end
theorem Z5(b:List Int)(mo at_ n x:Int):(X5 (b,mo,at_,n,x,())).val=bif RP n then some (cp ug (1,b,mo,()))else bif !wid b at_ n then some (cp ug (23,b,mo,()))else stF mo at_ n x 9 0 b:=by
 kernel_rfl
theorem ai3{i:Nat}(h:i<=1000):vt .i64 8 (i:Int)=((8*i:Nat):Int):=by
 have:vt .i64 8 (i:Int)=ja .i64 (8*(i:Int)):=rfl
 rw[this,show(8:Int)*(i:Int)=((8*i:Nat):Int) by omega]
 exact wrap_i64 (by omega) (by omega)
theorem ai4{a b:Nat}(h:b<=a)(ha:a<18446744073709551616):il .u64 (a:Int) (b:Int)=((a - b:Nat):Int):=by
 have:il .u64 (a:Int) (b:Int)=((a:Int) - (b:Int)) % 18446744073709551616:=rfl
 rw[this];omega
theorem ai5{a b:Nat}(h:a+b<18446744073709551616):iA .u64 (a:Int) (b:Int)=((a+b:Nat):Int):=by
 have:iA .u64 (a:Int) (b:Int)=((a:Int)+(b:Int)) % 18446744073709551616:=rfl
 rw[this];omega
theorem RQ{b:List Int}{at_:Nat}{n:Nat}(hb:b.length<=1099511627776)(hn:n<=8):wid b (at_:Int) (n:Int)=decide (at_+n<=b.length):=by
 show(bif decide (cE .u64 (n:Int)<=cE .u64 (b.length:Int))then decide ((at_:Int)<=il .u64 (cE .u64 (b.length:Int)) (cE .u64 (n:Int)))else false)=_
 rw[GJ (k:=n) (by omega),GJ (k:=b.length) (by omega)]
 by_cases h:n<=b.length
 ·rw[dt (show(n:Int)<=(b.length:Int) by omega),ai4 h (by omega)]
  by_cases h2:at_+n<=b.length
  ·rw[dt h2,dt (show(at_:Int)<=((b.length - n:Nat):Int) by omega)];rfl
  ·rw[df h2,df (show ¬ (at_:Int)<=((b.length - n:Nat):Int) by omega)];rfl
 ·rw[df (show ¬ (n:Int)<=(b.length:Int) by omega),df (show ¬ at_+n<=b.length by omega)];rfl
theorem RR(b:List Int)(mo at_:Int)(L:Nat)(hL:L<=8): ∀ (k i:Nat) (x:Int),L<i+k->i<=L->U x-> ∃ x',ldF b mo at_ L k (i:Int) x=some (cp vf (x',0,b,mo,()))/\U x'
 |0,i,x,h1,h2,_=>by omega
 |k+1,i,x,h1,h2,hx=>by
  show ∃ x',(bif decide ((i:Int)<(L:Int))then cz (ij (i:Int) (L:Int)) (cz (decide (0<=vt .i64 8 (i:Int))) (ldF b mo at_ L k (iA .i64 (i:Int) 1) (xG .u64 x (BJ .u64 (cE .u64 (b.getD (at_.toNat+(i:Int).toNat) (cr u8))) (vt .i64 8 (i:Int))))))else some (cp vf (x,0,b,mo,())))=_/\U x'
  by_cases h:i<L
  ·have hs:U (BJ .u64 (cE .u64 (b.getD (at_.toNat+(i:Int).toNat) (cr u8))) ((8*i:Nat):Int)):=aiY (by omega)
   obtain⟨x',q1,q2⟩:=RR b mo at_ L hL k (i+1) _ (by omega) (by omega) (aiX hx hs).2.1
   refine⟨x',?_,q2⟩
   rw[dt (show(i:Int)<(L:Int) by omega),show ij (i:Int) (L:Int)=true from iX h,ai3 (by omega),dt (show(0:Int)<=((8*i:Nat):Int) by omega),Z3 (by omega)]
   exact q1
  ·exact⟨x,by rw[df (show ¬ (i:Int)<(L:Int) by omega)];rfl,hx⟩
theorem Ks{n:Int}(h:n=1∨n=2∨n=4∨n=8):RP n=false:=by
 rcases h with rfl|rfl|rfl|rfl<;>rfl
theorem aoe(b:List Int)(mo:Int)(at_:Nat)(n:Nat)(hb:b.length<=1099511627776)(hn:n=0∨n=1∨n=2∨n=4∨n=8):IQ (b,mo,(at_:Int),(n:Int),())=true/\ ∃ x e,IU (b,mo,(at_:Int),(n:Int),())=(x,e,b,mo,())/\U x/\(e=0∨e=1/\n=0∨e=23):=by
 have key: ∃ x e,(XX (b,mo,(at_:Int),(n:Int),())).val=some (cp vf (x,e,b,mo,()))/\U x/\(e=0∨e=1/\n=0∨e=23):=by
  rcases hn with rfl|hn
  ·exact⟨0,1,Z4 b mo (at_:Int) 0,U0,.inr (.inl ⟨rfl,rfl⟩)⟩
  ·have hb8:RP (n:Int)=false:=Ks (by omega)
   have e:=Z4 b mo (at_:Int) (n:Int)
   rw[hb8,cond_false,RQ hb (by omega)]at e
   by_cases h:at_+n<=b.length
   ·rw[dt h,Bool.not_true,cond_false,GJ (k:=n) (by omega),ai5 (by omega)]at e
    rw[show jy (at_:Int) ((at_+n:Nat):Int) (b.length:Int)=true by unfold jy;simp;omega,qy rfl,Int.toNat_natCast,Int.toNat_natCast,show at_+n - at_=n by omega]at e
    obtain⟨x,q1,q2⟩:=RR b mo (at_:Int) n (by omega) 9 0 0 (by omega) (by omega) U0
    exact⟨x,0,e.trans q1,q2,.inl rfl⟩
   ·rw[df h]at e
    exact⟨0,23,e,U0,.inr (.inr rfl)⟩
 obtain⟨x,e,h1,h2,h3⟩:=key
 obtain⟨a1,a2⟩:=CK (iM _) (iM _) (k:=IQ (b,mo,(at_:Int),(n:Int),())) (m:=IU (b,mo,(at_:Int),(n:Int),())) h1
 exact⟨a1,x,e,a2,h2,h3⟩
theorem RS(mo:Int)(at_ n:Nat)(x:Int)(hn:n<=8): ∀ (k i:Nat) (b:List Int),n<i+k->i<=n->at_+n<=b.length->b.length<=1099511627776-> ∃ b',stF mo (at_:Int) (n:Int) x k (i:Int) b=some (cp ug (0,b',mo,()))/\b'.length=b.length
 |0,i,b,h1,h2,_,_=>by omega
 |k+1,i,b,h1,h2,h3,h4=>by
  show ∃ b',(bif decide ((i:Int)<(n:Int))then cz (ij (iA .u64 (at_:Int) (cE .u64 (i:Int))) (b.length:Int)) (cz (decide (0<=vt .i64 8 (i:Int))) (stF mo (at_:Int) (n:Int) x k (iA .i64 (i:Int) 1) (b.set (iA .u64 (at_:Int) (cE .u64 (i:Int))).toNat (cE .u8 (pX .u64 x (vt .i64 8 (i:Int)))))))else some (cp ug (0,b,mo,())))=_/\_
  by_cases h:i<n
  ·rw[GJ (k:=i) (by omega),ai5 (a:=at_) (b:=i) (by omega)]
   obtain⟨b',q1,q2⟩:=RS mo at_ n x hn k (i+1) (b.set ((at_+i:Nat):Int).toNat (cE .u8 (pX .u64 x (vt .i64 8 (i:Int))))) (by omega) (by omega) (by rw[List.length_set];exact h3) (by rw[List.length_set];exact h4)
   refine⟨b',?_,by rw[q2,List.length_set]⟩
   rw[dt (show(i:Int)<(n:Int) by omega),show ij ((at_+i:Nat):Int) (b.length:Int)=true from iX (by omega),dt (show(0:Int)<=vt .i64 8 (i:Int) by rw[ai3 (by omega)];omega),Z3 (by omega)]
   exact q1
  ·exact⟨b,by rw[df (show ¬ (i:Int)<(n:Int) by omega)];rfl,rfl⟩
theorem ai6(b:List Int)(mo:Int)(at_:Nat)(n:Nat)(x:Int)(hb:b.length<=1099511627776)(hn:n=0∨n=1∨n=2∨n=4∨n=8):Eh (b,mo,(at_:Int),(n:Int),x,())=true/\ ∃ e b',yU (b,mo,(at_:Int),(n:Int),x,())=(e,b',mo,())/\b'.length=b.length/\(e=0∨e=1/\n=0∨e=23):=by
 have key: ∃ e b',(X5 (b,mo,(at_:Int),(n:Int),x,())).val=some (cp ug (e,b',mo,()))/\b'.length=b.length/\(e=0∨e=1/\n=0∨e=23):=by
  rcases hn with rfl|hn
  ·exact⟨1,b,Z5 b mo (at_:Int) 0 x,rfl,.inr (.inl ⟨rfl,rfl⟩)⟩
  ·have hb8:RP (n:Int)=false:=Ks (by omega)
   have e:=Z5 b mo (at_:Int) (n:Int) x
   rw[hb8,cond_false,RQ hb (by omega)]at e
   by_cases h:at_+n<=b.length
   ·rw[dt h,Bool.not_true,cond_false]at e
    obtain⟨b',q1,q2⟩:=RS mo at_ n x (by omega) 9 0 b (by omega) (by omega) h hb
    exact⟨0,b',e.trans q1,q2,.inl rfl⟩
   ·rw[df h]at e
    exact⟨23,b,e,rfl,.inr (.inr rfl)⟩
 obtain⟨e,b',h1,h2,h3⟩:=key
 obtain⟨a1,a2⟩:=CK (iM _) (iM _) (k:=Eh (b,mo,(at_:Int),(n:Int),x,())) (m:=yU (b,mo,(at_:Int),(n:Int),x,())) h1
 exact⟨a1,e,b',a2,h2,h3⟩
end Go.Proofs.Vd
