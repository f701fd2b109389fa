import Derived.Test.YtbplobpobnagkaaGreatDoorVdT6
import Derived.Test.YtbplobpobnagkaaGreatDoorLfJ
noncomputable section
namespace Go.Proofs.Vd
open Go.Ab Go.Ab.Lf
set_option maxRecDepth 100000
def vp(y:aj tM):Nat:=y.2.1.length+y.2.2.1.length
def WK(y:aj tM):Bool:=(List.range (vp y)).all (fun i=>dM y.1 (dO y.2.1 y.2.2.1 (i:Int)))
def UG(l:den ak):Bool:= !(bif !decide (l.2= -1)then decide (l.2<l.1)else false)
def pGl(g:den aC):Bool:=v5 g.2.2 g.1
def pTM(y:aj tM):Bool:=bif decide (1<(y.2.2.2.1.length:Int))then true else decide (1<(y.2.2.2.2.1.length:Int))
def pMx(y:aj tM):Bool:=bif decide ((y.2.2.2.2.1.length:Int)=1)then decide (65536<(y.2.2.2.2.1.getD 0 (ao ak)).2)else false
def tK(y:aj tM):Bool:=WK y&&(!pTM y&&(List.all (y.2.2.2.1++y.2.2.2.2.1) UG&&(!pMx y&&(List.all y.2.2.2.2.2.1 pGl&&(mNm (y.1,y.2.1,y.2.2.1,y.2.2.2.1,y.2.2.2.2.1,y.2.2.2.2.2.1,y.2.2.2.2.2.2.1,y.2.2.2.2.2.2.2.1,y.2.2.2.2.2.2.2.2.1,y.2.2.2.2.2.2.2.2.2.1,y.2.2.2.2.2.2.2.2.2.2.1,(vp y:Int),())&&aaQ y (vp y:Int))))))
set_option maxHeartbeats 2000000 in
theorem aff{y:aj tM}(h:MOk y):(t19 (y.1,y.2.1,y.2.2.1,y.2.2.2.1,y.2.2.2.2.1,y.2.2.2.2.2.1,y.2.2.2.2.2.2.1,y.2.2.2.2.2.2.2.1,y.2.2.2.2.2.2.2.2.1,y.2.2.2.2.2.2.2.2.2.1,y.2.2.2.2.2.2.2.2.2.2.1,())).val=some (aA w8 (tK y,())):=by
 have li:=h.li
 have lf:=h.lf
 have lb:=h.lb
 have lm:=h.lm
 have lg:=h.lg
 have hf:bw .i64 (y.2.1.length:Int) (y.2.2.1.length:Int)=(vp y:Int):=BR (by omega)
 have hpf:vp y<=1024:=by unfold vp;omega
 have r0:=qg (f:=Ei) (l:=List.range (vp y)) (fun j=>aA pe ((vp y:Int),y.1,y.2.1,y.2.2.1,y.2.2.2.1,y.2.2.2.2.1,y.2.2.2.2.2.1,y.2.2.2.2.2.2.1,y.2.2.2.2.2.2.2.1,y.2.2.2.2.2.2.2.2.1,y.2.2.2.2.2.2.2.2.2.1,y.2.2.2.2.2.2.2.2.2.2.1,(vp y:Int),(j:Int),())) (fun i=>dM y.1 (dO y.2.1 y.2.2.1 (i:Int))) (aA mm ((vp y:Int),y.1,y.2.1,y.2.2.1,y.2.2.2.1,y.2.2.2.2.1,y.2.2.2.2.2.1,y.2.2.2.2.2.2.1,y.2.2.2.2.2.2.2.1,y.2.2.2.2.2.2.2.2.1,y.2.2.2.2.2.2.2.2.2.1,y.2.2.2.2.2.2.2.2.2.2.1,())) (aA nF (false,())) (fun j x r e=>by
  obtain⟨e1,e2⟩:=dr e 0
  have e3:x=j:=by
   rw[<-e2,List.getD_eq_getElem?_getD,List.getElem?_eq_getElem e1]
   simp
  rw[e3]
  rw[List.length_range]at e1
  have c:(decide ((j:Int)<9223372036854775808)&&decide (y.2.1.length<=1099511627776))=true:=by
   rw[decide_eq_true (by omega),decide_eq_true (by omega)];rfl
  rw[WH _ _ (Em h.ty),dX e1,cond_true,c,kE (by omega)]
  cases dM y.1 (dO y.2.1 y.2.2.1 (j:Int))<;>rfl) (by rw[WH _ _ (Em h.ty),List.length_range,dn (Nat.le_refl _)];rfl)
 obtain⟨a1,a2,a3,a4⟩:=qh (ti:=pe) (t0:=mm) (t1:=nF) (x:=((vp y:Int),y.1,y.2.1,y.2.2.1,y.2.2.2.1,y.2.2.2.2.1,y.2.2.2.2.2.1,y.2.2.2.2.2.2.1,y.2.2.2.2.2.2.2.1,y.2.2.2.2.2.2.2.2.1,y.2.2.2.2.2.2.2.2.2.1,y.2.2.2.2.2.2.2.2.2.2.1,(vp y:Int),0,())) (u:=((vp y:Int),y.1,y.2.1,y.2.2.1,y.2.2.2.1,y.2.2.2.2.1,y.2.2.2.2.2.1,y.2.2.2.2.2.2.1,y.2.2.2.2.2.2.2.1,y.2.2.2.2.2.2.2.2.1,y.2.2.2.2.2.2.2.2.2.1,y.2.2.2.2.2.2.2.2.2.2.1,())) (v:=(false,())) r0
 have s55:=jJ (afd [y.2.2.2.1,y.2.2.2.2.1] (by
  show 2+(y.2.2.2.1.length+(y.2.2.2.2.1.length+0))<=_
  omega))
 have e55:(m55 ([y.2.2.2.1,y.2.2.2.2.1],())).1=y.2.2.2.1++y.2.2.2.2.1:=by
  rw[show m55 ([y.2.2.2.1,y.2.2.2.2.1],())=_ from s55.2]
  simp
 have hll:(y.2.2.2.1++y.2.2.2.2.1).length<=1024:=by rw[List.length_append];omega
 have r2:=qg (f:=GQ) (l:=y.2.2.2.1++y.2.2.2.2.1) (fun j=>aA rG ((vp y:Int),y.1,y.2.1,y.2.2.1,y.2.2.2.1,y.2.2.2.2.1,y.2.2.2.2.2.1,y.2.2.2.2.2.2.1,y.2.2.2.2.2.2.2.1,y.2.2.2.2.2.2.2.2.1,y.2.2.2.2.2.2.2.2.2.1,y.2.2.2.2.2.2.2.2.2.2.1,y.2.2.2.1++y.2.2.2.2.1,((y.2.2.2.1++y.2.2.2.2.1).length:Int),(j:Int),())) UG (aA nG ((vp y:Int),y.1,y.2.1,y.2.2.1,y.2.2.2.1,y.2.2.2.2.1,y.2.2.2.2.2.1,y.2.2.2.2.2.2.1,y.2.2.2.2.2.2.2.1,y.2.2.2.2.2.2.2.2.1,y.2.2.2.2.2.2.2.2.2.1,y.2.2.2.2.2.2.2.2.2.2.1,())) (aA qc (false,())) (fun j x r e=>by
  obtain⟨e1,e2⟩:=dr e (ao ak)
  rw[WI _ y _ _ _ x (by rw[Int.toNat_natCast];exact e2.symm),dX e1,cond_true,Cc e1,kE (by omega)]
  unfold UG
  cases(bif !decide (x.2= -1)then decide (x.2<x.1)else false)<;>rfl) (by rw[WI _ y _ _ _ _ rfl,dn (Nat.le_refl _)];rfl)
 obtain⟨b1,b2,b3,b4⟩:=qh (ti:=rG) (t0:=nG) (t1:=qc) (x:=((vp y:Int),y.1,y.2.1,y.2.2.1,y.2.2.2.1,y.2.2.2.2.1,y.2.2.2.2.2.1,y.2.2.2.2.2.2.1,y.2.2.2.2.2.2.2.1,y.2.2.2.2.2.2.2.2.1,y.2.2.2.2.2.2.2.2.2.1,y.2.2.2.2.2.2.2.2.2.2.1,y.2.2.2.1++y.2.2.2.2.1,((y.2.2.2.1++y.2.2.2.2.1).length:Int),0,())) (u:=((vp y:Int),y.1,y.2.1,y.2.2.1,y.2.2.2.1,y.2.2.2.2.1,y.2.2.2.2.2.1,y.2.2.2.2.2.2.1,y.2.2.2.2.2.2.2.1,y.2.2.2.2.2.2.2.2.1,y.2.2.2.2.2.2.2.2.2.1,y.2.2.2.2.2.2.2.2.2.2.1,())) (v:=(false,())) r2
 have r4:=qg (f:=GR) (l:=y.2.2.2.2.2.1) (fun j=>aA rH ((vp y:Int),y.1,y.2.1,y.2.2.1,y.2.2.2.1,y.2.2.2.2.1,y.2.2.2.2.2.1,y.2.2.2.2.2.2.1,y.2.2.2.2.2.2.2.1,y.2.2.2.2.2.2.2.2.1,y.2.2.2.2.2.2.2.2.2.1,y.2.2.2.2.2.2.2.2.2.2.1,y.2.2.2.2.2.1,(y.2.2.2.2.2.1.length:Int),(j:Int),())) pGl (aA nH ((vp y:Int),y.1,y.2.1,y.2.2.1,y.2.2.2.1,y.2.2.2.2.1,y.2.2.2.2.2.1,y.2.2.2.2.2.2.1,y.2.2.2.2.2.2.2.1,y.2.2.2.2.2.2.2.2.1,y.2.2.2.2.2.2.2.2.2.1,y.2.2.2.2.2.2.2.2.2.2.1,())) (aA qd (false,())) (fun j x r e=>by
  obtain⟨e1,e2⟩:=dr e (ao aC)
  rw[WJ _ y _ _ _ x (by rw[Int.toNat_natCast];exact e2.symm),dX e1,cond_true,Cc e1,kE (by omega)]
  unfold pGl
  cases v5 x.2.2 x.1<;>rfl) (by rw[WJ _ y _ _ _ _ rfl,dn (Nat.le_refl _)];rfl)
 obtain⟨c1,c2,c3,c4⟩:=qh (ti:=rH) (t0:=nH) (t1:=qd) (x:=((vp y:Int),y.1,y.2.1,y.2.2.1,y.2.2.2.1,y.2.2.2.2.1,y.2.2.2.2.2.1,y.2.2.2.2.2.2.1,y.2.2.2.2.2.2.2.1,y.2.2.2.2.2.2.2.2.1,y.2.2.2.2.2.2.2.2.2.1,y.2.2.2.2.2.2.2.2.2.2.1,y.2.2.2.2.2.1,(y.2.2.2.2.2.1.length:Int),0,())) (u:=((vp y:Int),y.1,y.2.1,y.2.2.1,y.2.2.2.1,y.2.2.2.2.1,y.2.2.2.2.2.1,y.2.2.2.2.2.2.1,y.2.2.2.2.2.2.2.1,y.2.2.2.2.2.2.2.2.1,y.2.2.2.2.2.2.2.2.2.1,y.2.2.2.2.2.2.2.2.2.2.1,())) (v:=(false,())) r4
 have s58:=jJ (afe y (vp y:Int) (by have:=h.le;omega) (by have:=h.ld;omega) (fun e he=>by have:=h.el e he;omega))
 have hN:OB (y.1,y.2.1,y.2.2.1,y.2.2.2.1,y.2.2.2.2.1,y.2.2.2.2.2.1,y.2.2.2.2.2.2.1,y.2.2.2.2.2.2.2.1,y.2.2.2.2.2.2.2.2.1,y.2.2.2.2.2.2.2.2.2.1,y.2.2.2.2.2.2.2.2.2.2.1,(vp y:Int),())=true:=by
  have k1:cu (fun e:den aR=>decide (0<=e.2.1)&&decide (e.2.1<=3)) y.2.2.2.2.2.2.1=true:=by
   rw[g5,List.all_eq_true]
   intro e he
   obtain⟨q1,q2⟩:=h.ex e he
   rw[Bool.and_eq_true]
   exact⟨decide_eq_true q1,decide_eq_true q2⟩
  have k2:decide ((y.2.2.2.2.2.2.2.1:Int)<9223372036854775808)=true:=decide_eq_true (Int.lt_trans h.st.2 (by decide))
  have k3:decide (y.2.1.length<=1099511627776)=true:=decide_eq_true (by omega)
  have k4:decide (y.2.2.2.2.2.2.1.length<=1099511627776)=true:=decide_eq_true (by have:=h.lx;omega)
  show(((cu _ _&&((decide _&&decide _)&&decide _))&&gNx _)&&gT _)=true
  rw[k1,k2,k3,k4,h.x0,Em h.ty]
  rfl
 have hx:(bif decide ((y.2.2.2.2.1.length:Int)=1)then aU 0 (y.2.2.2.2.1.length:Int)else true)=true:=by
  by_cases q:(y.2.2.2.2.1.length:Int)=1
  ·rw[decide_eq_true q,cond_true];exact Cc (j:=0) (by omega)
  ·rw[decide_eq_false q];rfl
 unfold tK
 cases hA:WK y with
 |false=>
  have hA':(List.range (vp y)).all (fun i=>dM y.1 (dO y.2.1 y.2.2.1 (i:Int)))=false:=hA
  rw[hA']at a2
  rw[UA y _ hf _ rfl _ rfl _ rfl _ rfl _ rfl _ rfl _ rfl,a1,a2,a4 hA']
  rfl
 |true=>
  have hA':(List.range (vp y)).all (fun i=>dM y.1 (dO y.2.1 y.2.2.1 (i:Int)))=true:=hA
  rw[hA']at a2
  cases hB:List.all (y.2.2.2.1++y.2.2.2.2.1) UG with
  |false=>
   rw[hB]at b2
   rw[UA y _ hf _ rfl _ (a3 hA').symm _ e55.symm _ rfl _ rfl _ rfl _ rfl,a1,a2]
   unfold pTM
   simp only[cond_true,aM]
   rw[show k55 ([y.2.2.2.1,y.2.2.2.2.1],())=true from s55.1,b1,b2,b4 hB]
   cases(bif decide (1<(y.2.2.2.1.length:Int))then true else decide (1<(y.2.2.2.2.1.length:Int)))<;>rfl
  |true=>
   rw[hB]at b2
   cases hC:List.all y.2.2.2.2.2.1 pGl with
   |false=>
    rw[hC]at c2
    rw[UA y _ hf _ rfl _ (a3 hA').symm _ e55.symm _ rfl _ (b3 hB).symm _ rfl _ rfl,a1,a2]
    unfold pTM pMx
    simp only[cond_true,aM]
    rw[show k55 ([y.2.2.2.1,y.2.2.2.2.1],())=true from s55.1,b1,b2,c1,c2,c4 hC,hx]
    cases(bif decide (1<(y.2.2.2.1.length:Int))then true else decide (1<(y.2.2.2.2.1.length:Int)))<;>cases(bif decide ((y.2.2.2.2.1.length:Int)=1)then decide (65536<(y.2.2.2.2.1.getD 0 (ao ak)).2)else false)<;>rfl
   |true=>
    rw[hC]at c2
    rw[UA y _ hf _ rfl _ (a3 hA').symm _ e55.symm _ rfl _ (b3 hB).symm _ rfl _ (c3 hC).symm,a1,a2]
    unfold pTM pMx
    simp only[cond_true,aM]
    rw[show k55 ([y.2.2.2.1,y.2.2.2.2.1],())=true from s55.1,b1,b2,c1,c2,hN,hx,show k58 (y.1,y.2.1,y.2.2.1,y.2.2.2.1,y.2.2.2.2.1,y.2.2.2.2.2.1,y.2.2.2.2.2.2.1,y.2.2.2.2.2.2.2.1,y.2.2.2.2.2.2.2.2.1,y.2.2.2.2.2.2.2.2.2.1,y.2.2.2.2.2.2.2.2.2.2.1,(vp y:Int),())=true from s58.1,show m58 (y.1,y.2.1,y.2.2.1,y.2.2.2.1,y.2.2.2.2.1,y.2.2.2.2.2.1,y.2.2.2.2.2.2.1,y.2.2.2.2.2.2.2.1,y.2.2.2.2.2.2.2.2.1,y.2.2.2.2.2.2.2.2.2.1,y.2.2.2.2.2.2.2.2.2.2.1,(vp y:Int),())=_ from s58.2]
    cases(bif decide (1<(y.2.2.2.1.length:Int))then true else decide (1<(y.2.2.2.2.1.length:Int)))<;>cases(bif decide ((y.2.2.2.2.1.length:Int)=1)then decide (65536<(y.2.2.2.2.1.getD 0 (ao ak)).2)else false)<;>cases mNm (y.1,y.2.1,y.2.2.1,y.2.2.2.1,y.2.2.2.2.1,y.2.2.2.2.2.1,y.2.2.2.2.2.2.1,y.2.2.2.2.2.2.2.1,y.2.2.2.2.2.2.2.2.1,y.2.2.2.2.2.2.2.2.2.1,y.2.2.2.2.2.2.2.2.2.2.1,(vp y:Int),())<;>rfl
def UH(y:aj tM):Bool:=(List.range y.2.2.2.2.2.2.2.2.2.1.length).all (fun i=>(n7 y i).isSome)
def iM(V:ByteArray->Bool)(y:aj tM):Int:=bif !decide (nB V y=0)then nB V y else bif !tK y then 12 else bif UH y then 0 else 12
theorem OX{V:ByteArray->Bool}{y:aj tM}(hE:GA V y=true)(hx:gNx y.2.2.2.2.2.2.1=true)(h:nB V y=0):MOk y:=by
 have e:=Il hE
 unfold nB at h
 rw[e]at h
 cases hP:Qo V y with
 |false=>rw[hP]at h;cases h
 |true=>
  rw[hP]at h
  simp only[Bool.not_true,cond_false]at h
  by_cases q:(16384:Int)<((s0.1++Qp V y).length:Int)
  ·rw[decide_eq_true q]at h;cases h
  ·rw[List.length_append]at q
   exact mok hE hP (by omega) hx
theorem Bn{y:aj tM}(h:MOk y){i:Nat}(hi:i<y.2.2.2.2.2.2.2.2.2.1.length):Je (ik y i):=by
 refine(h.cd (ik y i) ?_).1
 unfold ik
 rw[List.getD_eq_getElem?_getD,List.getElem?_eq_getElem hi]
 exact List.getElem_mem hi
theorem aaS{y:aj tM}(h:MOk y){i:Nat}(hi:i<y.2.2.2.2.2.2.2.2.2.1.length):k20 (y.1,y.2.1,y.2.2.1,y.2.2.2.1,y.2.2.2.2.1,y.2.2.2.2.2.1,y.2.2.2.2.2.2.1,y.2.2.2.2.2.2.2.1,y.2.2.2.2.2.2.2.2.1,y.2.2.2.2.2.2.2.2.2.1,y.2.2.2.2.2.2.2.2.2.2.1,(i:Int),())=true/\m20 (y.1,y.2.1,y.2.2.1,y.2.2.2.1,y.2.2.2.2.1,y.2.2.2.2.2.1,y.2.2.2.2.2.2.1,y.2.2.2.2.2.2.2.1,y.2.2.2.2.2.2.2.2.1,y.2.2.2.2.2.2.2.2.2.1,y.2.2.2.2.2.2.2.2.2.2.1,(i:Int),())=((n7 y i).getD [],(n7 y i).isSome,()):=
 jJ (ae9 h.ty (by have:=h.li;omega) hi (by have:=h.lc;omega) (Bn h hi))
theorem ake{V:ByteArray->Bool}{y:aj tM}(hE:GA V y=true)(hx:gNx y.2.2.2.2.2.2.1=true):(t8 V (y.1,y.2.1,y.2.2.1,y.2.2.2.1,y.2.2.2.2.1,y.2.2.2.2.2.1,y.2.2.2.2.2.2.1,y.2.2.2.2.2.2.2.1,y.2.2.2.2.2.2.2.2.1,y.2.2.2.2.2.2.2.2.2.1,y.2.2.2.2.2.2.2.2.2.2.1,())).val=some (aA Up (iM V y,())):=by
 rw[eq8]
 have hE':GA V (y.1,y.2.1,y.2.2.1,y.2.2.2.1,y.2.2.2.2.1,y.2.2.2.2.2.1,y.2.2.2.2.2.2.1,y.2.2.2.2.2.2.2.1,y.2.2.2.2.2.2.2.2.1,y.2.2.2.2.2.2.2.2.2.1,y.2.2.2.2.2.2.2.2.2.2.1,())=true:=hE
 rw[hE']
 unfold iM
 have eY:nB V (y.1,y.2.1,y.2.2.1,y.2.2.2.1,y.2.2.2.2.1,y.2.2.2.2.2.1,y.2.2.2.2.2.2.1,y.2.2.2.2.2.2.2.1,y.2.2.2.2.2.2.2.2.1,y.2.2.2.2.2.2.2.2.2.1,y.2.2.2.2.2.2.2.2.2.2.1,())=nB V y:=rfl
 rw[eY]
 by_cases h0:nB V y=0
 ·rw[h0]
  have h:=OX hE hx h0
  have s19:=jJ (aff h)
  simp only[decide_true,Bool.not_true,cond_false,aM,cond_true]
  rw[show k19 (y.1,y.2.1,y.2.2.1,y.2.2.2.1,y.2.2.2.2.1,y.2.2.2.2.2.1,y.2.2.2.2.2.2.1,y.2.2.2.2.2.2.2.1,y.2.2.2.2.2.2.2.2.1,y.2.2.2.2.2.2.2.2.2.1,y.2.2.2.2.2.2.2.2.2.2.1,())=true from s19.1,show m19 (y.1,y.2.1,y.2.2.1,y.2.2.2.1,y.2.2.2.2.1,y.2.2.2.2.2.1,y.2.2.2.2.2.2.1,y.2.2.2.2.2.2.2.1,y.2.2.2.2.2.2.2.2.1,y.2.2.2.2.2.2.2.2.2.1,y.2.2.2.2.2.2.2.2.2.2.1,())=_ from s19.2,cond_true]
  cases ho:tK y with
  |false=>rfl
  |true=>
   simp only[Bool.not_true,cond_false]
   have V0:=h.lc
   have r0:=qg (f:=f8x) (l:=List.range y.2.2.2.2.2.2.2.2.2.1.length) (fun j=>aA Cb (y.1,y.2.1,y.2.2.1,y.2.2.2.1,y.2.2.2.2.1,y.2.2.2.2.2.1,y.2.2.2.2.2.2.1,y.2.2.2.2.2.2.2.1,y.2.2.2.2.2.2.2.2.1,y.2.2.2.2.2.2.2.2.2.1,y.2.2.2.2.2.2.2.2.2.2.1,(y.2.2.2.2.2.2.2.2.2.1.length:Int),(j:Int),())) (fun i=>(n7 y i).isSome) (aA v7 ()) (aA tG (12,())) (fun j x r e=>by
    obtain⟨e1,e2⟩:=dr e 0
    have e3:x=j:=by
     rw[<-e2,List.getD_eq_getElem?_getD,List.getElem?_eq_getElem e1]
     simp
    rw[e3]
    rw[List.length_range]at e1
    obtain⟨q1,q2⟩:=aaS h e1
    rw[afa,dX e1,cond_true,q1,q2,kE (by omega)]
    cases(n7 y j).isSome<;>rfl) (by rw[afa,List.length_range,dn (Nat.le_refl _)];rfl)
   obtain⟨a1,a2,a3,a4⟩:=qh (ti:=Cb) (t0:=v7) (t1:=tG) (x:=(y.1,y.2.1,y.2.2.1,y.2.2.2.1,y.2.2.2.2.1,y.2.2.2.2.2.1,y.2.2.2.2.2.2.1,y.2.2.2.2.2.2.2.1,y.2.2.2.2.2.2.2.2.1,y.2.2.2.2.2.2.2.2.2.1,y.2.2.2.2.2.2.2.2.2.2.1,(y.2.2.2.2.2.2.2.2.2.1.length:Int),0,())) (u:=()) (v:=(12,())) r0
   rw[a1,a2]
   cases hb:UH y with
   |true=>rw[show(List.range y.2.2.2.2.2.2.2.2.2.1.length).all (fun i=>(n7 y i).isSome)=true from hb];rfl
   |false=>rw[a4 hb,show(List.range y.2.2.2.2.2.2.2.2.2.1.length).all (fun i=>(n7 y i).isSome)=false from hb];rfl
 ·rw[decide_eq_false h0]
  rfl
end Go.Proofs.Vd

noncomputable section
namespace Go.Ab.Lf
def jV(t:Ty):cR:=hU (.cons (.im t) .nil) [] (.cons (.ow t) .nil) [.ae t] [.ae t] fun x=>.ck (decide (List.length x.1<=1099511627776)) (.ok (x.1,()))
theorem OY{t:Ty}{x:List (den t)}{r:List Pl}{H:Hq}:gp (.im t) (⟨.ae t,x⟩::r) H=some ([.c H.next (.ae t) x],r,⟨Nat.add H.next 1,H.aP⟩):=by
 unfold gp;simp only[mU]
theorem J'{p:jW}{pl:List Pl}{H H':Hq}{v:List Sv}(h:gp p pl H=some (v,[],H')):gp (.cons p .nil) pl H=some (v,[],H'):=by
 show(match gp p pl H with|some (v,r,H)=>(match gp .nil r H with|some (w,r,H)=>some (app v w,r,H)|none=>none)|none=>none)=_
 rw[h]
 show some (app v [],([]:List Pl),H')=_
 rw[bp,List.append_nil]
def ke{α:Type}(a:α):α:=Classical.choose (⟨a,rfl⟩: ∃ x,x=a)
theorem bR{α:Type}(a:α):ke a=a:=Classical.choose_spec (⟨a,rfl⟩: ∃ x,x=a)
theorem vi{to:List Ty}{t:T (List Pl)}{y:aj to}{k:Bool}{m:aj to}(hk:k=jr to t)(hm:m=eA to t)(h:t.val=some (aA to y)):k=true/\m=y:=by
 rw[hk,hm]
 exact jJ h
end Go.Ab.Lf

noncomputable section
namespace Go.Proofs.Vd
open Go.Ab Go.Ab.Lf
set_option maxRecDepth 100000
theorem kt{α:Type}{c:Bool}{x:Option α}(h:c=true):aM c x=x:=by rw[h];rfl
theorem df{p:Prop}[Decidable p](h: ¬ p):decide p=false:=decide_eq_false h
theorem dt{p:Prop}[Decidable p](h:p):decide p=true:=decide_eq_true h
theorem Ep{j:Nat}(h:j<=1099511627776):bw .i64 (j:Int) 1=((j+1:Nat):Int):=kE (by omega)
theorem nc{f:List Pl->Lf.T Rs}(n:Nat)(st:Nat->List Pl)(o0:List Pl)
 (uP: ∀ j,j<n->(f (st j)).val=some (.next (st (j+1))))(BS:(f (st n)).val=some (.out 0 o0)):gG f (st 0) 0 o0:=by
 have key: ∀ (k j:Nat),j+k=n->gG f (st j) 0 o0:=by
  intro k
  induction k with
  |zero=>
   intro j h
   have:j=n:=by omega
   subst this
   exact .last BS
  |succ k ih=>exact fun j h=>.more (uP j (by omega)) (ih (j+1) (by omega))
 exact key n 0 (by omega)
theorem pn{α:Type}(l:List α)(j:Nat)(d:α)(h:j<l.length):l.set j (l.getD j d)=l:=by
 rw[List.getD_eq_getElem?_getD,List.getElem?_eq_getElem h]
 exact List.set_getElem_self h
theorem kf{α:Type}{l:List α}{j:Nat}(h:j<l.length)(d:α):l.getD j d∈l:=by
 rw[List.getD_eq_getElem?_getD,List.getElem?_eq_getElem h]
 exact List.getElem_mem h
theorem UI{k:Nat}(h:k<18446744073709551616):bq .u64 (k:Int)=(k:Int):=by
 have:bq .u64 (k:Int)=(k:Int) % 18446744073709551616:=rfl
 rw[this];omega
end Go.Proofs.Vd

noncomputable section
namespace Go.Proofs.Vd
open Go.Ab Go.Ab.Lf
set_option maxRecDepth 100000
structure WorldS(V:ByteArray->Bool)(aq:aB):Prop extends WorldN V aq where
 c31:(jV aH).Ok 31 aq
 c33:(jV aS).Ok 33 aq
 c34:(jV ak).Ok 34 aq
 c35:(jV aC).Ok 35 aq
 c37:(jV aR).Ok 37 aq
 c38:(jV aG).Ok 38 aq
 c39:(jV aL).Ok 39 aq
 c40:(jV aJ).Ok 40 aq
 c41:(jV u8).Ok 41 aq
 c79:(jV tI).Ok 79 aq
abbrev kg:List Ty:=[.ae tI,i64,i64]
abbrev iW:List Ty:=[.ae tI]
def Cg:jX:=⟨0,fE Tryz.x36.code 0,[3,8,9],(Ps [.ow tI,.n .i64,.n .i64]),[⟨.lL,[3],(Ps [.ow tI])⟩]⟩
def OZ:List (Nat×cR):=[(32,Wn)]
theorem Ka{V:ByteArray->Bool}{aq:aB}(W:WorldS V aq):db aq OZ:=(.cons W.cl .nil)
def rJ:List Pl->Lf.T Rs:=Cg.step (fun _=>none) (dH OZ 3) 3
def O0:fA:=rm Cg rJ kg iW
theorem Kb{V:ByteArray->Bool}{aq:aB}(W:WorldS V aq):dZ Rx.w O0 (fun n d=>gD (aq n d) n (.bl 0 (.lp Cg.body))):=gb (W.toWorld.in (Ka W) 3) (aE _) (m:=3) kg iW
def akf:Nat->Option fA:=pX [(0,O0)]
abbrev Er:List Ty:=[.ae tI]
abbrev Es:List Ty:=[.ae tI]
def afg:List (Nat×cR):=[(79,jV tI)]
theorem UJ{V:ByteArray->Bool}{aq:aB}(W:WorldS V aq):db aq afg:=(.cons W.c79 .nil)
def aaT(x:aj Er):Lf.T (List Pl):=iN (Ps [.im tI]) [] (Ps [.ow tI]) akf Tryz.x36 3 (dH afg 3) (aA Er x)
def Kc(x:aj Er):Bool:=ke (jr Es (aaT x))
def Ke(x:aj Er):aj Es:=ke (eA Es (aaT x))
def O1:cR:=hU (Ps [.im tI]) [] (Ps [.ow tI]) Er Es fun x=>.ck (Kc x) (.ok (Ke x))
theorem xB{V:ByteArray->Bool}{aq:aB}(W:WorldS V aq):O1.Ok 36 aq:=
 eg (W.toWorld.in (UJ W) 3) (W.toWorld.st 36 _ rfl) rfl (fq.jl (.cons (b:=Cg.body) (by kernel_rfl) (Kb W) .nil)) (m:=3) rfl (fun _=>bR _) (fun _=>bR _)
abbrev kh:List Ty:=[.ae aH,.ae aS,.ae i64,.ae ak,.ae ak,.ae aC,.ae aR,i64,.ae aG,.ae aL,.ae aJ,.ae aH,.ae aS,.ae i64,.ae ak,.ae ak,.ae aC,.ae aR,i64,.ae aG,.ae aL,.ae aJ,i64,i64]
abbrev iX:List Ty:=[.ae aH,.ae aS,.ae i64,.ae ak,.ae ak,.ae aC,.ae aR,i64,.ae aG,.ae aL,.ae aJ,.ae aH,.ae aS,.ae i64,.ae ak,.ae ak,.ae aC,.ae aR,i64,.ae aG,.ae aL,.ae aJ]
def Ch:jX:=⟨0,fE Tryz.V7.code 0,[1,2,3,19,20,21],(Ps [.pt 0 (Ps [.im aH,.im aS,.im i64,.im ak,.im ak,.im aC,.im aR,.n .i64,.im aG,.im aL,.im aJ]),.pt 0 (Ps [.av (.sc (.slice none 0 0)),.av (.sc (.slice none 0 0)),.av (.sc (.slice none 0 0)),.av (.sc (.slice none 0 0)),.av (.sc (.slice none 0 0)),.av (.sc (.slice none 0 0)),.av (.sc (.slice none 0 0)),.li .i64 0,.av (.sc (.slice none 0 0)),.av (.sc (.slice none 0 0)),.av (.sc (.slice none 0 0))]),.pt 0 (Ps [.ow aH,.im aS,.im i64,.im ak,.im ak,.im aC,.im aR,.n .i64,.im aG,.im aL,.im aJ]),.oo 13 2,.n .i64,.n .i64]),[⟨.lL,[1,2,3],(Ps [.pt 0 (Ps [.im aH,.im aS,.im i64,.im ak,.im ak,.im aC,.im aR,.n .i64,.im aG,.im aL,.im aJ]),.pt 0 (Ps [.av (.sc (.slice none 0 0)),.av (.sc (.slice none 0 0)),.av (.sc (.slice none 0 0)),.av (.sc (.slice none 0 0)),.av (.sc (.slice none 0 0)),.av (.sc (.slice none 0 0)),.av (.sc (.slice none 0 0)),.li .i64 0,.av (.sc (.slice none 0 0)),.av (.sc (.slice none 0 0)),.av (.sc (.slice none 0 0))]),.pt 0 (Ps [.ow aH,.im aS,.im i64,.im ak,.im ak,.im aC,.im aR,.n .i64,.im aG,.im aL,.im aJ])])⟩]⟩
def O2:List (Nat×cR):=[(32,Wn)]
theorem Kf{V:ByteArray->Bool}{aq:aB}(W:WorldS V aq):db aq O2:=(.cons W.cl .nil)
def tL:List Pl->Lf.T Rs:=Ch.step (fun _=>none) (dH O2 3) 3
def O3:fA:=rm Ch tL kh iX
theorem Kg{V:ByteArray->Bool}{aq:aB}(W:WorldS V aq):dZ Rx.w O3 (fun n d=>gD (aq n d) n (.bl 0 (.lp Ch.body))):=gb (W.toWorld.in (Kf W) 3) (aE _) (m:=3) kh iX
abbrev ki:List Ty:=[.ae aH,.ae aS,.ae i64,.ae ak,.ae ak,.ae aC,.ae aR,i64,.ae aG,.ae aL,.ae aJ,.ae aH,.ae aS,.ae i64,.ae ak,.ae ak,.ae aC,.ae aR,i64,.ae aG,.ae aL,.ae aJ,i64,i64]
abbrev iY:List Ty:=[.ae aH,.ae aS,.ae i64,.ae ak,.ae ak,.ae aC,.ae aR,i64,.ae aG,.ae aL,.ae aJ,.ae aH,.ae aS,.ae i64,.ae ak,.ae ak,.ae aC,.ae aR,i64,.ae aG,.ae aL,.ae aJ]
def Ci:jX:=⟨2,fE Tryz.V7.code 2,[1,2,3,60,61],(Ps [.pt 0 (Ps [.im aH,.im aS,.im i64,.im ak,.im ak,.im aC,.im aR,.n .i64,.im aG,.im aL,.im aJ]),.pt 0 (Ps [.av (.sc (.slice none 0 0)),.av (.sc (.slice none 0 0)),.av (.sc (.slice none 0 0)),.av (.sc (.slice none 0 0)),.av (.sc (.slice none 0 0)),.av (.sc (.slice none 0 0)),.av (.sc (.slice none 0 0)),.li .i64 0,.av (.sc (.slice none 0 0)),.av (.sc (.slice none 0 0)),.av (.sc (.slice none 0 0))]),.pt 0 (Ps [.im aH,.im aS,.im i64,.im ak,.im ak,.ow aC,.im aR,.n .i64,.im aG,.im aL,.im aJ]),.n .i64,.n .i64]),[⟨.lL,[1,2,3],(Ps [.pt 0 (Ps [.im aH,.im aS,.im i64,.im ak,.im ak,.im aC,.im aR,.n .i64,.im aG,.im aL,.im aJ]),.pt 0 (Ps [.av (.sc (.slice none 0 0)),.av (.sc (.slice none 0 0)),.av (.sc (.slice none 0 0)),.av (.sc (.slice none 0 0)),.av (.sc (.slice none 0 0)),.av (.sc (.slice none 0 0)),.av (.sc (.slice none 0 0)),.li .i64 0,.av (.sc (.slice none 0 0)),.av (.sc (.slice none 0 0)),.av (.sc (.slice none 0 0))]),.pt 0 (Ps [.im aH,.im aS,.im i64,.im ak,.im ak,.ow aC,.im aR,.n .i64,.im aG,.im aL,.im aJ])])⟩]⟩
def O4:List (Nat×cR):=[(36,O1)]
theorem Kh{V:ByteArray->Bool}{aq:aB}(W:WorldS V aq):db aq O4:=(.cons (xB W) .nil)
def tN:List Pl->Lf.T Rs:=Ci.step (fun _=>none) (dH O4 3) 3
def O5:fA:=rm Ci tN ki iY
theorem Ki{V:ByteArray->Bool}{aq:aB}(W:WorldS V aq):dZ Rx.w O5 (fun n d=>gD (aq n d) n (.bl 2 (.lp Ci.body))):=gb (W.toWorld.in (Kh W) 3) (aE _) (m:=3) ki iY
abbrev kj:List Ty:=[.ae aH,.ae aS,.ae i64,.ae ak,.ae ak,.ae aC,.ae aR,i64,.ae aG,.ae aL,.ae aJ,.ae aH,.ae aS,.ae i64,.ae ak,.ae ak,.ae aC,.ae aR,i64,.ae aG,.ae aL,.ae aJ,i64,i64]
abbrev iZ:List Ty:=[.ae aH,.ae aS,.ae i64,.ae ak,.ae ak,.ae aC,.ae aR,i64,.ae aG,.ae aL,.ae aJ,.ae aH,.ae aS,.ae i64,.ae ak,.ae ak,.ae aC,.ae aR,i64,.ae aG,.ae aL,.ae aJ]
def Cj:jX:=⟨4,fE Tryz.V7.code 4,[1,2,3,86,87,88],(Ps [.pt 0 (Ps [.im aH,.im aS,.im i64,.im ak,.im ak,.im aC,.im aR,.n .i64,.im aG,.im aL,.im aJ]),.pt 0 (Ps [.av (.sc (.slice none 0 0)),.av (.sc (.slice none 0 0)),.av (.sc (.slice none 0 0)),.av (.sc (.slice none 0 0)),.av (.sc (.slice none 0 0)),.av (.sc (.slice none 0 0)),.av (.sc (.slice none 0 0)),.li .i64 0,.av (.sc (.slice none 0 0)),.av (.sc (.slice none 0 0)),.av (.sc (.slice none 0 0))]),.pt 0 (Ps [.im aH,.im aS,.im i64,.im ak,.im ak,.im aC,.im aR,.n .i64,.ow aG,.im aL,.im aJ]),.oo 20 2,.n .i64,.n .i64]),[⟨.lL,[1,2,3],(Ps [.pt 0 (Ps [.im aH,.im aS,.im i64,.im ak,.im ak,.im aC,.im aR,.n .i64,.im aG,.im aL,.im aJ]),.pt 0 (Ps [.av (.sc (.slice none 0 0)),.av (.sc (.slice none 0 0)),.av (.sc (.slice none 0 0)),.av (.sc (.slice none 0 0)),.av (.sc (.slice none 0 0)),.av (.sc (.slice none 0 0)),.av (.sc (.slice none 0 0)),.li .i64 0,.av (.sc (.slice none 0 0)),.av (.sc (.slice none 0 0)),.av (.sc (.slice none 0 0))]),.pt 0 (Ps [.im aH,.im aS,.im i64,.im ak,.im ak,.im aC,.im aR,.n .i64,.ow aG,.im aL,.im aJ])])⟩]⟩
def O6:List (Nat×cR):=[(32,Wn),(36,O1)]
theorem Kj{V:ByteArray->Bool}{aq:aB}(W:WorldS V aq):db aq O6:=(.cons W.cl (.cons (xB W) .nil))
def tO:List Pl->Lf.T Rs:=Cj.step (fun _=>none) (dH O6 3) 3
def O7:fA:=rm Cj tO kj iZ
theorem Kk{V:ByteArray->Bool}{aq:aB}(W:WorldS V aq):dZ Rx.w O7 (fun n d=>gD (aq n d) n (.bl 4 (.lp Cj.body))):=gb (W.toWorld.in (Kj W) 3) (aE _) (m:=3) kj iZ
abbrev km:List Ty:=[.ae aH,.ae aS,.ae i64,.ae ak,.ae ak,.ae aC,.ae aR,i64,.ae aG,.ae aL,.ae aJ,.ae aH,.ae aS,.ae i64,.ae ak,.ae ak,.ae aC,.ae aR,i64,.ae aG,.ae aL,.ae aJ,i64,i64]
abbrev ja:List Ty:=[.ae aH,.ae aS,.ae i64,.ae ak,.ae ak,.ae aC,.ae aR,i64,.ae aG,.ae aL,.ae aJ,.ae aH,.ae aS,.ae i64,.ae ak,.ae ak,.ae aC,.ae aR,i64,.ae aG,.ae aL,.ae aJ]
def Ck:jX:=⟨6,fE Tryz.V7.code 6,[1,2,3,110,111,112],(Ps [.pt 0 (Ps [.im aH,.im aS,.im i64,.im ak,.im ak,.im aC,.im aR,.n .i64,.im aG,.im aL,.im aJ]),.pt 0 (Ps [.av (.sc (.slice none 0 0)),.av (.sc (.slice none 0 0)),.av (.sc (.slice none 0 0)),.av (.sc (.slice none 0 0)),.av (.sc (.slice none 0 0)),.av (.sc (.slice none 0 0)),.av (.sc (.slice none 0 0)),.li .i64 0,.av (.sc (.slice none 0 0)),.av (.sc (.slice none 0 0)),.av (.sc (.slice none 0 0))]),.pt 0 (Ps [.im aH,.im aS,.im i64,.im ak,.im ak,.im aC,.im aR,.n .i64,.im aG,.ow aL,.im aJ]),.oo 21 2,.n .i64,.n .i64]),[⟨.lL,[1,2,3],(Ps [.pt 0 (Ps [.im aH,.im aS,.im i64,.im ak,.im ak,.im aC,.im aR,.n .i64,.im aG,.im aL,.im aJ]),.pt 0 (Ps [.av (.sc (.slice none 0 0)),.av (.sc (.slice none 0 0)),.av (.sc (.slice none 0 0)),.av (.sc (.slice none 0 0)),.av (.sc (.slice none 0 0)),.av (.sc (.slice none 0 0)),.av (.sc (.slice none 0 0)),.li .i64 0,.av (.sc (.slice none 0 0)),.av (.sc (.slice none 0 0)),.av (.sc (.slice none 0 0))]),.pt 0 (Ps [.im aH,.im aS,.im i64,.im ak,.im ak,.im aC,.im aR,.n .i64,.im aG,.ow aL,.im aJ])])⟩]⟩
def O8:List (Nat×cR):=[(32,Wn),(36,O1)]
theorem Km{V:ByteArray->Bool}{aq:aB}(W:WorldS V aq):db aq O8:=(.cons W.cl (.cons (xB W) .nil))
def tP:List Pl->Lf.T Rs:=Ck.step (fun _=>none) (dH O8 3) 3
def O9:fA:=rm Ck tP km ja
theorem Kn{V:ByteArray->Bool}{aq:aB}(W:WorldS V aq):dZ Rx.w O9 (fun n d=>gD (aq n d) n (.bl 6 (.lp Ck.body))):=gb (W.toWorld.in (Km W) 3) (aE _) (m:=3) km ja
abbrev ko:List Ty:=[.ae aH,.ae aS,.ae i64,.ae ak,.ae ak,.ae aC,.ae aR,i64,.ae aG,.ae aL,.ae aJ,i64,i64]
abbrev jb:List Ty:=[.ae aH,.ae aS,.ae i64,.ae ak,.ae ak,.ae aC,.ae aR,i64,.ae aG,.ae aL,.ae aJ]
def Cm:jX:=⟨8,fE Tryz.V7.code 8,[2,3,134,135,136],(Ps [.pt 0 (Ps [.av (.sc (.slice none 0 0)),.av (.sc (.slice none 0 0)),.av (.sc (.slice none 0 0)),.av (.sc (.slice none 0 0)),.av (.sc (.slice none 0 0)),.av (.sc (.slice none 0 0)),.av (.sc (.slice none 0 0)),.li .i64 0,.av (.sc (.slice none 0 0)),.av (.sc (.slice none 0 0)),.av (.sc (.slice none 0 0))]),.pt 0 (Ps [.im aH,.im aS,.im i64,.im ak,.im ak,.im aC,.im aR,.n .i64,.im aG,.im aL,.ow aJ]),.oo 11 2,.n .i64,.n .i64]),[⟨.lL,[2,3],(Ps [.pt 0 (Ps [.av (.sc (.slice none 0 0)),.av (.sc (.slice none 0 0)),.av (.sc (.slice none 0 0)),.av (.sc (.slice none 0 0)),.av (.sc (.slice none 0 0)),.av (.sc (.slice none 0 0)),.av (.sc (.slice none 0 0)),.li .i64 0,.av (.sc (.slice none 0 0)),.av (.sc (.slice none 0 0)),.av (.sc (.slice none 0 0))]),.pt 0 (Ps [.im aH,.im aS,.im i64,.im ak,.im ak,.im aC,.im aR,.n .i64,.im aG,.im aL,.ow aJ])])⟩]⟩
def O':List (Nat×cR):=[(36,O1),(41,jV u8)]
theorem Ko{V:ByteArray->Bool}{aq:aB}(W:WorldS V aq):db aq O':=(.cons (xB W) (.cons W.c41 .nil))
def tQ:List Pl->Lf.T Rs:=Cm.step (fun _=>none) (dH O' 3) 3
def Pa:fA:=rm Cm tQ ko jb
theorem Kp{V:ByteArray->Bool}{aq:aB}(W:WorldS V aq):dZ Rx.w Pa (fun n d=>gD (aq n d) n (.bl 8 (.lp Cm.body))):=gb (W.toWorld.in (Ko W) 3) (aE _) (m:=3) ko jb
def akg:Nat->Option fA:=pX [(0,O3),(2,O5),(4,O7),(6,O9),(8,Pa)]
abbrev Et:List Ty:=[.ae aH,.ae aS,.ae i64,.ae ak,.ae ak,.ae aC,.ae aR,i64,.ae aG,.ae aL,.ae aJ]
abbrev zj:List Ty:=[.ae aH,.ae aS,.ae i64,.ae ak,.ae ak,.ae aC,.ae aR,i64,.ae aG,.ae aL,.ae aJ]
def afh:List (Nat×cR):=[(31,jV aH),(33,jV aS),(32,Wn),(34,jV ak),(35,jV aC),(37,jV aR),(38,jV aG),(39,jV aL),(40,jV aJ)]
theorem UK{V:ByteArray->Bool}{aq:aB}(W:WorldS V aq):db aq afh:=(.cons W.c31 (.cons W.c33 (.cons W.cl (.cons W.c34 (.cons W.c35 (.cons W.c37 (.cons W.c38 (.cons W.c39 (.cons W.c40 .nil)))))))))
def aaU(x:aj Et):Lf.T (List Pl):=iN (Ps [.ag (Ps [.im aH,.im aS,.im i64,.im ak,.im ak,.im aC,.im aR,.n .i64,.im aG,.im aL,.im aJ])]) [] (Ps [.ag (Ps [.im aH,.im aS,.im i64,.im ak,.im ak,.im aC,.im aR,.n .i64,.im aG,.im aL,.im aJ])]) akg Tryz.V7 3 (dH afh 3) (aA Et x)
def UL(x:aj Et):Bool:=ke (jr zj (aaU x))
def UM(x:aj Et):aj zj:=ke (eA zj (aaU x))
def aaV:cR:=hU (Ps [.ag (Ps [.im aH,.im aS,.im i64,.im ak,.im ak,.im aC,.im aR,.n .i64,.im aG,.im aL,.im aJ])]) [] (Ps [.ag (Ps [.im aH,.im aS,.im i64,.im ak,.im ak,.im aC,.im aR,.n .i64,.im aG,.im aL,.im aJ])]) Et zj fun x=>.ck (UL x) (.ok (UM x))
theorem It{V:ByteArray->Bool}{aq:aB}(W:WorldS V aq):aaV.Ok 19 aq:=
 eg (W.toWorld.in (UK W) 3) (W.toWorld.st 19 _ rfl) rfl (fq.jl (.cons (b:=Ch.body) (by kernel_rfl) (Kg W) (.cons (b:=Ci.body) (by kernel_rfl) (Ki W) (.cons (b:=Cj.body) (by kernel_rfl) (Kk W) (.cons (b:=Ck.body) (by kernel_rfl) (Kn W) (.cons (b:=Cm.body) (by kernel_rfl) (Kp W) .nil)))))) (m:=3) rfl (fun _=>bR _) (fun _=>bR _)
end Go.Proofs.Vd

noncomputable section
namespace Go.Proofs.Vd
open Go.Ab Go.Ab.Lf
set_option maxRecDepth 100000
theorem Iu(l:List (den tI))(n i:Int):(rJ (aA kg (l,n,i,()))).val=bif decide (i<n)then aM (aU i (l.length:Int)) (aM (decide (List.length (l.getD i.toNat (ao tI)).2.2.2.2.2<=1099511627776)) (aM (aU i (l.length:Int))
 (some (.next (aA kg (l.set i.toNat ((l.getD i.toNat (ao tI)).1,(l.getD i.toNat (ao tI)).2.1,(l.getD i.toNat (ao tI)).2.2.1,(l.getD i.toNat (ao tI)).2.2.2.1,(l.getD i.toNat (ao tI)).2.2.2.2.1,(l.getD i.toNat (ao tI)).2.2.2.2.2),n,bw .i64 i 1,()))))))else some (.out 0 (aA iW (l,()))):=by kernel_rfl
theorem afi(l:List (den tI)):(aaT (l,())).val=aM (decide (l.length<=1099511627776)) (aM (rk rJ kg iW (l,(l.length:Int),0,())) (some (aA Es (gM rJ kg iW (l,(l.length:Int),0,()))))):=by kernel_rfl
theorem Iv(o1:List (den aH))(o2:List (den aS))(o3:List Int)(o4:List (den ak))(o5:List (den ak))(o6:List (den aC))(o7:List (den aR))(o8:Int)(o9:List (den aG))(jj:List (den aL))(iH:List (den aJ))(m1:List (den aH))(m2:List (den aS))(m3:List Int)(m4:List (den ak))(m5:List (den ak))(m6:List (den aC))(m7:List (den aR))(m8:Int)(m9:List (den aG))(bD:List (den aL))(bE:List (den aJ))(n i:Int):(tL (aA kh (o1,o2,o3,o4,o5,o6,o7,o8,o9,jj,iH,m1,m2,m3,m4,m5,m6,m7,m8,m9,bD,bE,n,i,()))).val=bif decide (i<n)then aM (aU i (m1.length:Int)) (aM (decide (List.length (m1.getD i.toNat (ao aH)).1<=1099511627776)) (aM (decide (List.length (m1.getD i.toNat (ao aH)).2<=1099511627776)) (aM (aU i (m1.length:Int)) (some (.next (aA kh (o1,o2,o3,o4,o5,o6,o7,o8,o9,jj,iH,m1.set i.toNat ((m1.getD i.toNat (ao aH)).1,(m1.getD i.toNat (ao aH)).2),m2,m3,m4,m5,m6,m7,m8,m9,bD,bE,n,bw .i64 i 1,())))))))else some (.out 0 (aA iX (o1,o2,o3,o4,o5,o6,o7,o8,o9,jj,iH,m1,m2,m3,m4,m5,m6,m7,m8,m9,bD,bE,()))):=by kernel_rfl
theorem Iw(o1:List (den aH))(o2:List (den aS))(o3:List Int)(o4:List (den ak))(o5:List (den ak))(o6:List (den aC))(o7:List (den aR))(o8:Int)(o9:List (den aG))(jj:List (den aL))(iH:List (den aJ))(m1:List (den aH))(m2:List (den aS))(m3:List Int)(m4:List (den ak))(m5:List (den ak))(m6:List (den aC))(m7:List (den aR))(m8:Int)(m9:List (den aG))(bD:List (den aL))(bE:List (den aJ))(n i:Int):(tN (aA ki (o1,o2,o3,o4,o5,o6,o7,o8,o9,jj,iH,m1,m2,m3,m4,m5,m6,m7,m8,m9,bD,bE,n,i,()))).val=bif decide (i<n)then aM (aU i (m6.length:Int)) (aM (Kc ((m6.getD i.toNat (ao aC)).2.2,())) (aM (aU i (m6.length:Int)) (some (.next (aA ki (o1,o2,o3,o4,o5,o6,o7,o8,o9,jj,iH,m1,m2,m3,m4,m5,m6.set i.toNat ((m6.getD i.toNat (ao aC)).1,(m6.getD i.toNat (ao aC)).2.1,(Ke ((m6.getD i.toNat (ao aC)).2.2,())).1),m7,m8,m9,bD,bE,n,bw .i64 i 1,()))))))else some (.out 0 (aA iY (o1,o2,o3,o4,o5,o6,o7,o8,o9,jj,iH,m1,m2,m3,m4,m5,m6,m7,m8,m9,bD,bE,()))):=by kernel_rfl
theorem Ix(o1:List (den aH))(o2:List (den aS))(o3:List Int)(o4:List (den ak))(o5:List (den ak))(o6:List (den aC))(o7:List (den aR))(o8:Int)(o9:List (den aG))(jj:List (den aL))(iH:List (den aJ))(m1:List (den aH))(m2:List (den aS))(m3:List Int)(m4:List (den ak))(m5:List (den ak))(m6:List (den aC))(m7:List (den aR))(m8:Int)(m9:List (den aG))(bD:List (den aL))(bE:List (den aJ))(n i:Int):(tO (aA kj (o1,o2,o3,o4,o5,o6,o7,o8,o9,jj,iH,m1,m2,m3,m4,m5,m6,m7,m8,m9,bD,bE,n,i,()))).val=bif decide (i<n)then aM (aU i (m9.length:Int)) (aM (Kc ((m9.getD i.toNat (ao aG)).1,())) (aM (decide (List.length (m9.getD i.toNat (ao aG)).2<=1099511627776)) (aM (aU i (m9.length:Int)) (some (.next (aA kj (o1,o2,o3,o4,o5,o6,o7,o8,o9,jj,iH,m1,m2,m3,m4,m5,m6,m7,m8,m9.set i.toNat ((Ke ((m9.getD i.toNat (ao aG)).1,())).1,(m9.getD i.toNat (ao aG)).2),bD,bE,n,bw .i64 i 1,())))))))else some (.out 0 (aA iZ (o1,o2,o3,o4,o5,o6,o7,o8,o9,jj,iH,m1,m2,m3,m4,m5,m6,m7,m8,m9,bD,bE,()))):=by kernel_rfl
theorem Iy(o1:List (den aH))(o2:List (den aS))(o3:List Int)(o4:List (den ak))(o5:List (den ak))(o6:List (den aC))(o7:List (den aR))(o8:Int)(o9:List (den aG))(jj:List (den aL))(iH:List (den aJ))(m1:List (den aH))(m2:List (den aS))(m3:List Int)(m4:List (den ak))(m5:List (den ak))(m6:List (den aC))(m7:List (den aR))(m8:Int)(m9:List (den aG))(bD:List (den aL))(bE:List (den aJ))(n i:Int):(tP (aA km (o1,o2,o3,o4,o5,o6,o7,o8,o9,jj,iH,m1,m2,m3,m4,m5,m6,m7,m8,m9,bD,bE,n,i,()))).val=bif decide (i<n)then aM (aU i (bD.length:Int)) (aM (decide (List.length (bD.getD i.toNat (ao aL)).1<=1099511627776)) (aM (Kc ((bD.getD i.toNat (ao aL)).2,())) (aM (aU i (bD.length:Int)) (some (.next (aA km (o1,o2,o3,o4,o5,o6,o7,o8,o9,jj,iH,m1,m2,m3,m4,m5,m6,m7,m8,m9,bD.set i.toNat ((bD.getD i.toNat (ao aL)).1,(Ke ((bD.getD i.toNat (ao aL)).2,())).1),bE,n,bw .i64 i 1,())))))))else some (.out 0 (aA ja (o1,o2,o3,o4,o5,o6,o7,o8,o9,jj,iH,m1,m2,m3,m4,m5,m6,m7,m8,m9,bD,bE,()))):=by kernel_rfl
theorem Iz(m1:List (den aH))(m2:List (den aS))(m3:List Int)(m4:List (den ak))(m5:List (den ak))(m6:List (den aC))(m7:List (den aR))(m8:Int)(m9:List (den aG))(bD:List (den aL))(bE:List (den aJ))(n i:Int):(tQ (aA ko (m1,m2,m3,m4,m5,m6,m7,m8,m9,bD,bE,n,i,()))).val=bif decide (i<n)then aM (aU i (bE.length:Int)) (aM (Kc ((bE.getD i.toNat (ao aJ)).1,())) (aM (decide (List.length (bE.getD i.toNat (ao aJ)).2<=1099511627776)) (aM (aU i (bE.length:Int)) (some (.next (aA ko (m1,m2,m3,m4,m5,m6,m7,m8,m9,bD,bE.set i.toNat ((Ke ((bE.getD i.toNat (ao aJ)).1,())).1,(bE.getD i.toNat (ao aJ)).2),n,bw .i64 i 1,())))))))else some (.out 0 (aA jb (m1,m2,m3,m4,m5,m6,m7,m8,m9,bD,bE,()))):=by kernel_rfl
theorem afj(m1:List (den aH))(m2:List (den aS))(m3:List Int)(m4:List (den ak))(m5:List (den ak))(m6:List (den aC))(m7:List (den aR))(m8:Int)(m9:List (den aG))(bD:List (den aL))(bE:List (den aJ))(X0:aj kh)(hX0:X0=(m1,m2,m3,m4,m5,m6,m7,m8,m9,bD,bE,m1,m2,m3,m4,m5,m6,m7,m8,m9,bD,bE,(m1.length:Int),0,()))(z0:aj iX)(hz0:z0=gM tL kh iX X0)(X1:aj ki)(hX1:X1=(z0.1,z0.2.1,z0.2.2.1,z0.2.2.2.1,z0.2.2.2.2.1,z0.2.2.2.2.2.1,z0.2.2.2.2.2.2.1,z0.2.2.2.2.2.2.2.1,z0.2.2.2.2.2.2.2.2.1,z0.2.2.2.2.2.2.2.2.2.1,z0.2.2.2.2.2.2.2.2.2.2.1,z0.2.2.2.2.2.2.2.2.2.2.2.1,z0.2.1,z0.2.2.1,z0.2.2.2.1,z0.2.2.2.2.1,z0.2.2.2.2.2.1,z0.2.2.2.2.2.2.2.2.2.2.2.2.2.2.2.2.2.1,z0.2.2.2.2.2.2.2.2.2.2.2.2.2.2.2.2.2.2.1,z0.2.2.2.2.2.2.2.2.2.2.2.2.2.2.2.2.2.2.2.1,z0.2.2.2.2.2.2.2.2.2.2.2.2.2.2.2.2.2.2.2.2.1,z0.2.2.2.2.2.2.2.2.2.2.2.2.2.2.2.2.2.2.2.2.2.1,(List.length z0.2.2.2.2.2.1:Int),0,()))(z1:aj iY)(hz1:z1=gM tN ki iY X1)(X2:aj kj)(WL:X2=(z1.1,z1.2.1,z1.2.2.1,z1.2.2.2.1,z1.2.2.2.2.1,z1.2.2.2.2.2.1,z1.2.2.2.2.2.2.1,z1.2.2.2.2.2.2.2.1,z1.2.2.2.2.2.2.2.2.1,z1.2.2.2.2.2.2.2.2.2.1,z1.2.2.2.2.2.2.2.2.2.2.1,z1.2.2.2.2.2.2.2.2.2.2.2.1,z1.2.2.2.2.2.2.2.2.2.2.2.2.1,z1.2.2.2.2.2.2.2.2.2.2.2.2.2.1,z1.2.2.2.2.2.2.2.2.2.2.2.2.2.2.1,z1.2.2.2.2.2.2.2.2.2.2.2.2.2.2.2.1,z1.2.2.2.2.2.2.2.2.2.2.2.2.2.2.2.2.1,z1.2.2.2.2.2.2.1,z1.2.2.2.2.2.2.2.2.2.2.2.2.2.2.2.2.2.2.1,z1.2.2.2.2.2.2.2.2.1,z1.2.2.2.2.2.2.2.2.2.2.2.2.2.2.2.2.2.2.2.2.1,z1.2.2.2.2.2.2.2.2.2.2.2.2.2.2.2.2.2.2.2.2.2.1,(List.length z1.2.2.2.2.2.2.2.2.1:Int),0,()))(z2:aj iZ)(hz2:z2=gM tO kj iZ X2)(X3:aj km)(hX3:X3=(z2.1,z2.2.1,z2.2.2.1,z2.2.2.2.1,z2.2.2.2.2.1,z2.2.2.2.2.2.1,z2.2.2.2.2.2.2.1,z2.2.2.2.2.2.2.2.1,z2.2.2.2.2.2.2.2.2.1,z2.2.2.2.2.2.2.2.2.2.1,z2.2.2.2.2.2.2.2.2.2.2.1,z2.2.2.2.2.2.2.2.2.2.2.2.1,z2.2.2.2.2.2.2.2.2.2.2.2.2.1,z2.2.2.2.2.2.2.2.2.2.2.2.2.2.1,z2.2.2.2.2.2.2.2.2.2.2.2.2.2.2.1,z2.2.2.2.2.2.2.2.2.2.2.2.2.2.2.2.1,z2.2.2.2.2.2.2.2.2.2.2.2.2.2.2.2.2.1,z2.2.2.2.2.2.2.2.2.2.2.2.2.2.2.2.2.2.1,z2.2.2.2.2.2.2.2.2.2.2.2.2.2.2.2.2.2.2.1,z2.2.2.2.2.2.2.2.2.2.2.2.2.2.2.2.2.2.2.2.1,z2.2.2.2.2.2.2.2.2.2.1,z2.2.2.2.2.2.2.2.2.2.2.2.2.2.2.2.2.2.2.2.2.2.1,(List.length z2.2.2.2.2.2.2.2.2.2.1:Int),0,()))(z3:aj ja)(hz3:z3=gM tP km ja X3)(X4:aj ko)(WM:X4=(z3.2.2.2.2.2.2.2.2.2.2.2.1,z3.2.2.2.2.2.2.2.2.2.2.2.2.1,z3.2.2.2.2.2.2.2.2.2.2.2.2.2.1,z3.2.2.2.2.2.2.2.2.2.2.2.2.2.2.1,z3.2.2.2.2.2.2.2.2.2.2.2.2.2.2.2.1,z3.2.2.2.2.2.2.2.2.2.2.2.2.2.2.2.2.1,z3.2.2.2.2.2.2.2.2.2.2.2.2.2.2.2.2.2.1,z3.2.2.2.2.2.2.2.2.2.2.2.2.2.2.2.2.2.2.1,z3.2.2.2.2.2.2.2.2.2.2.2.2.2.2.2.2.2.2.2.1,z3.2.2.2.2.2.2.2.2.2.2.2.2.2.2.2.2.2.2.2.2.1,z3.2.2.2.2.2.2.2.2.2.2.1,(List.length z3.2.2.2.2.2.2.2.2.2.2.1:Int),0,()))(z4:aj jb)(hz4:z4=gM tQ ko jb X4):(aaU (m1,m2,m3,m4,m5,m6,m7,m8,m9,bD,bE,())).val=aM (decide (List.length m1<=1099511627776)) (aM (rk tL kh iX X0) (aM (decide (List.length z0.2.1<=1099511627776)) (aM (decide (List.length z0.2.2.1<=1099511627776)) (aM (decide (List.length z0.2.2.2.1<=1099511627776)) (aM (decide (List.length z0.2.2.2.2.1<=1099511627776)) (aM (decide (List.length z0.2.2.2.2.2.1<=1099511627776)) (aM (rk tN ki iY X1) (aM (decide (List.length z1.2.2.2.2.2.2.1<=1099511627776)) (aM (decide (List.length z1.2.2.2.2.2.2.2.2.1<=1099511627776)) (aM (rk tO kj iZ X2) (aM (decide (List.length z2.2.2.2.2.2.2.2.2.2.1<=1099511627776)) (aM (rk tP km ja X3) (aM (decide (List.length z3.2.2.2.2.2.2.2.2.2.2.1<=1099511627776)) (aM (rk tQ ko jb X4) (some (aA zj z4)))))))))))))))):=by
 subst hz4;subst WM
 subst hz3;subst hX3
 subst hz2;subst WL
 subst hz1;subst hX1
 subst hz0;subst hX0
 kernel_rfl
end Go.Proofs.Vd

noncomputable section
namespace Go.Proofs.Vd
open Go.Ab Go.Ab.Lf
set_option maxRecDepth 100000
def LI(l:List (den tI)):Prop:=l.length<=1099511627776/\ ∀ x:den tI,x∈l->x.2.2.2.2.2.length<=1099511627776
theorem aaW(l:List (den tI))(h:LI l):gG rJ (aA kg (l,(l.length:Int),((0:Nat):Int),())) 0 (aA iW (l,())):=by
 refine nc l.length (fun j=>aA kg (l,(l.length:Int),(j:Int),())) _ (fun j hj=>?_) ?_
 ·refine(Iu l (l.length:Int) (j:Int)).trans ?_
  rw[Int.toNat_natCast,dt (show(j:Int)<(l.length:Int) by omega),show aU (j:Int) (l.length:Int)=true from bX hj,Ep (by have:=h.1;omega),dt (h.2 _ (kf hj _))]
  rw[show l.set j ((l.getD j (ao tI)).1,(l.getD j (ao tI)).2.1,(l.getD j (ao tI)).2.2.1,(l.getD j (ao tI)).2.2.2.1,(l.getD j (ao tI)).2.2.2.2.1,(l.getD j (ao tI)).2.2.2.2.2)=l from pn l j (ao tI) hj]
  rfl
 ·refine(Iu l (l.length:Int) (l.length:Int)).trans ?_
  rw[df (show ¬ (l.length:Int)<(l.length:Int) by omega)]
  rfl
theorem Eu(l:List (den tI))(h:LI l):Kc (l,())=true/\Ke (l,())=(l,()):=by
 refine vi (bR _) (bR _) ?_
 have r:=aaW l h
 obtain⟨q1,q2⟩:=lM (f:=rJ) (ti:=kg) (to:=iW) r
 refine(afi l).trans ?_
 rw[dt h.1,show rk rJ kg iW (l,(l.length:Int),0,())=true from q1,show gM rJ kg iW (l,(l.length:Int),0,())=_ from q2]
 rfl
structure MB(m1:List (den aH))(m2:List (den aS))(m3:List Int)(m4:List (den ak))(m5:List (den ak))(m6:List (den aC))(m7:List (den aR))(m8:Int)(m9:List (den aG))(bD:List (den aL))(bE:List (den aJ)):Prop where
 l1:m1.length<=1099511627776
 l2:m2.length<=1099511627776
 l3:m3.length<=1099511627776
 l4:m4.length<=1099511627776
 l5:m5.length<=1099511627776
 l6:m6.length<=1099511627776
 l7:m7.length<=1099511627776
 l9:m9.length<=1099511627776
 l10:bD.length<=1099511627776
 KJ:bE.length<=1099511627776
 t: ∀ x:den aH,x∈m1->x.1.length<=1099511627776/\x.2.length<=1099511627776
 g: ∀ x:den aC,x∈m6->LI x.2.2
 e: ∀ x:den aG,x∈m9->LI x.1/\x.2.length<=1099511627776
 c: ∀ x:den aL,x∈bD->x.1.length<=1099511627776/\LI x.2
 d: ∀ x:den aJ,x∈bE->LI x.1/\x.2.length<=1099511627776
section
variable (m1:List (den aH))(m2:List (den aS))(m3:List Int)(m4:List (den ak))(m5:List (den ak))(m6:List (den aC))(m7:List (den aR))(m8:Int)(m9:List (den aG))(bD:List (den aL))(bE:List (den aJ))
theorem aaX(o1:List (den aH))(o2:List (den aS))(o3:List Int)(o4:List (den ak))(o5:List (den ak))(o6:List (den aC))(o7:List (den aR))(o8:Int)(o9:List (den aG))(jj:List (den aL))(iH:List (den aJ))(H:MB m1 m2 m3 m4 m5 m6 m7 m8 m9 bD bE):gG tL (aA kh (o1,o2,o3,o4,o5,o6,o7,o8,o9,jj,iH,m1,m2,m3,m4,m5,m6,m7,m8,m9,bD,bE,(m1.length:Int),((0:Nat):Int),())) 0 (aA iX (o1,o2,o3,o4,o5,o6,o7,o8,o9,jj,iH,m1,m2,m3,m4,m5,m6,m7,m8,m9,bD,bE,())):=by
 refine nc m1.length (fun j=>aA kh (o1,o2,o3,o4,o5,o6,o7,o8,o9,jj,iH,m1,m2,m3,m4,m5,m6,m7,m8,m9,bD,bE,(m1.length:Int),(j:Int),())) _ (fun j hj=>?_) ?_
 ·have hx:=H.t _ (kf hj (ao aH))
  refine(Iv o1 o2 o3 o4 o5 o6 o7 o8 o9 jj iH m1 m2 m3 m4 m5 m6 m7 m8 m9 bD bE (m1.length:Int) (j:Int)).trans ?_
  rw[Int.toNat_natCast,dt (show(j:Int)<(m1.length:Int) by omega),show aU (j:Int) (m1.length:Int)=true from bX hj,Ep (by have:=H.l1;omega),dt hx.1,dt hx.2]
  rw[show m1.set j ((m1.getD j (ao aH)).1,(m1.getD j (ao aH)).2)=m1 from pn m1 j (ao aH) hj]
  rfl
 ·refine(Iv o1 o2 o3 o4 o5 o6 o7 o8 o9 jj iH m1 m2 m3 m4 m5 m6 m7 m8 m9 bD bE (m1.length:Int) (m1.length:Int)).trans ?_
  rw[df (show ¬ (m1.length:Int)<(m1.length:Int) by omega)]
  rfl
theorem aaY(o1:List (den aH))(o2:List (den aS))(o3:List Int)(o4:List (den ak))(o5:List (den ak))(o6:List (den aC))(o7:List (den aR))(o8:Int)(o9:List (den aG))(jj:List (den aL))(iH:List (den aJ))(H:MB m1 m2 m3 m4 m5 m6 m7 m8 m9 bD bE):gG tN (aA ki (o1,o2,o3,o4,o5,o6,o7,o8,o9,jj,iH,m1,m2,m3,m4,m5,m6,m7,m8,m9,bD,bE,(m6.length:Int),((0:Nat):Int),())) 0 (aA iY (o1,o2,o3,o4,o5,o6,o7,o8,o9,jj,iH,m1,m2,m3,m4,m5,m6,m7,m8,m9,bD,bE,())):=by
 refine nc m6.length (fun j=>aA ki (o1,o2,o3,o4,o5,o6,o7,o8,o9,jj,iH,m1,m2,m3,m4,m5,m6,m7,m8,m9,bD,bE,(m6.length:Int),(j:Int),())) _ (fun j hj=>?_) ?_
 ·have hx:=H.g _ (kf hj (ao aC))
  refine(Iw o1 o2 o3 o4 o5 o6 o7 o8 o9 jj iH m1 m2 m3 m4 m5 m6 m7 m8 m9 bD bE (m6.length:Int) (j:Int)).trans ?_
  rw[Int.toNat_natCast,dt (show(j:Int)<(m6.length:Int) by omega),show aU (j:Int) (m6.length:Int)=true from bX hj,Ep (by have:=H.l6;omega),(Eu _ hx).1,(Eu _ hx).2]
  rw[show m6.set j ((m6.getD j (ao aC)).1,(m6.getD j (ao aC)).2.1,(m6.getD j (ao aC)).2.2)=m6 from pn m6 j (ao aC) hj]
  rfl
 ·refine(Iw o1 o2 o3 o4 o5 o6 o7 o8 o9 jj iH m1 m2 m3 m4 m5 m6 m7 m8 m9 bD bE (m6.length:Int) (m6.length:Int)).trans ?_
  rw[df (show ¬ (m6.length:Int)<(m6.length:Int) by omega)]
  rfl
theorem aaZ(o1:List (den aH))(o2:List (den aS))(o3:List Int)(o4:List (den ak))(o5:List (den ak))(o6:List (den aC))(o7:List (den aR))(o8:Int)(o9:List (den aG))(jj:List (den aL))(iH:List (den aJ))(H:MB m1 m2 m3 m4 m5 m6 m7 m8 m9 bD bE):gG tO (aA kj (o1,o2,o3,o4,o5,o6,o7,o8,o9,jj,iH,m1,m2,m3,m4,m5,m6,m7,m8,m9,bD,bE,(m9.length:Int),((0:Nat):Int),())) 0 (aA iZ (o1,o2,o3,o4,o5,o6,o7,o8,o9,jj,iH,m1,m2,m3,m4,m5,m6,m7,m8,m9,bD,bE,())):=by
 refine nc m9.length (fun j=>aA kj (o1,o2,o3,o4,o5,o6,o7,o8,o9,jj,iH,m1,m2,m3,m4,m5,m6,m7,m8,m9,bD,bE,(m9.length:Int),(j:Int),())) _ (fun j hj=>?_) ?_
 ·have hx:=H.e _ (kf hj (ao aG))
  refine(Ix o1 o2 o3 o4 o5 o6 o7 o8 o9 jj iH m1 m2 m3 m4 m5 m6 m7 m8 m9 bD bE (m9.length:Int) (j:Int)).trans ?_
  rw[Int.toNat_natCast,dt (show(j:Int)<(m9.length:Int) by omega),show aU (j:Int) (m9.length:Int)=true from bX hj,Ep (by have:=H.l9;omega),(Eu _ hx.1).1,(Eu _ hx.1).2,dt hx.2]
  rw[show m9.set j ((m9.getD j (ao aG)).1,(m9.getD j (ao aG)).2)=m9 from pn m9 j (ao aG) hj]
  rfl
 ·refine(Ix o1 o2 o3 o4 o5 o6 o7 o8 o9 jj iH m1 m2 m3 m4 m5 m6 m7 m8 m9 bD bE (m9.length:Int) (m9.length:Int)).trans ?_
  rw[df (show ¬ (m9.length:Int)<(m9.length:Int) by omega)]
  rfl
theorem aa0(o1:List (den aH))(o2:List (den aS))(o3:List Int)(o4:List (den ak))(o5:List (den ak))(o6:List (den aC))(o7:List (den aR))(o8:Int)(o9:List (den aG))(jj:List (den aL))(iH:List (den aJ))(H:MB m1 m2 m3 m4 m5 m6 m7 m8 m9 bD bE):gG tP (aA km (o1,o2,o3,o4,o5,o6,o7,o8,o9,jj,iH,m1,m2,m3,m4,m5,m6,m7,m8,m9,bD,bE,(bD.length:Int),((0:Nat):Int),())) 0 (aA ja (o1,o2,o3,o4,o5,o6,o7,o8,o9,jj,iH,m1,m2,m3,m4,m5,m6,m7,m8,m9,bD,bE,())):=by
 refine nc bD.length (fun j=>aA km (o1,o2,o3,o4,o5,o6,o7,o8,o9,jj,iH,m1,m2,m3,m4,m5,m6,m7,m8,m9,bD,bE,(bD.length:Int),(j:Int),())) _ (fun j hj=>?_) ?_
 ·have hx:=H.c _ (kf hj (ao aL))
  refine(Iy o1 o2 o3 o4 o5 o6 o7 o8 o9 jj iH m1 m2 m3 m4 m5 m6 m7 m8 m9 bD bE (bD.length:Int) (j:Int)).trans ?_
  rw[Int.toNat_natCast,dt (show(j:Int)<(bD.length:Int) by omega),show aU (j:Int) (bD.length:Int)=true from bX hj,Ep (by have:=H.l10;omega),(Eu _ hx.2).1,(Eu _ hx.2).2,dt hx.1]
  rw[show bD.set j ((bD.getD j (ao aL)).1,(bD.getD j (ao aL)).2)=bD from pn bD j (ao aL) hj]
  rfl
 ·refine(Iy o1 o2 o3 o4 o5 o6 o7 o8 o9 jj iH m1 m2 m3 m4 m5 m6 m7 m8 m9 bD bE (bD.length:Int) (bD.length:Int)).trans ?_
  rw[df (show ¬ (bD.length:Int)<(bD.length:Int) by omega)]
  rfl
theorem aa1(H:MB m1 m2 m3 m4 m5 m6 m7 m8 m9 bD bE):gG tQ (aA ko (m1,m2,m3,m4,m5,m6,m7,m8,m9,bD,bE,(bE.length:Int),((0:Nat):Int),())) 0 (aA jb (m1,m2,m3,m4,m5,m6,m7,m8,m9,bD,bE,())):=by
 refine nc bE.length (fun j=>aA ko (m1,m2,m3,m4,m5,m6,m7,m8,m9,bD,bE,(bE.length:Int),(j:Int),())) _ (fun j hj=>?_) ?_
 ·have hx:=H.d _ (kf hj (ao aJ))
  refine(Iz m1 m2 m3 m4 m5 m6 m7 m8 m9 bD bE (bE.length:Int) (j:Int)).trans ?_
  rw[Int.toNat_natCast,dt (show(j:Int)<(bE.length:Int) by omega),show aU (j:Int) (bE.length:Int)=true from bX hj,Ep (by have:=H.KJ;omega),(Eu _ hx.1).1,(Eu _ hx.1).2,dt hx.2]
  rw[show bE.set j ((bE.getD j (ao aJ)).1,(bE.getD j (ao aJ)).2)=bE from pn bE j (ao aJ) hj]
  rfl
 ·refine(Iz m1 m2 m3 m4 m5 m6 m7 m8 m9 bD bE (bE.length:Int) (bE.length:Int)).trans ?_
  rw[df (show ¬ (bE.length:Int)<(bE.length:Int) by omega)]
  rfl
theorem akh(H:MB m1 m2 m3 m4 m5 m6 m7 m8 m9 bD bE):UL (m1,m2,m3,m4,m5,m6,m7,m8,m9,bD,bE,())=true/\UM (m1,m2,m3,m4,m5,m6,m7,m8,m9,bD,bE,())=(m1,m2,m3,m4,m5,m6,m7,m8,m9,bD,bE,()):=by
 have q0:=lM (f:=tL) (ti:=kh) (to:=iX) (aaX m1 m2 m3 m4 m5 m6 m7 m8 m9 bD bE m1 m2 m3 m4 m5 m6 m7 m8 m9 bD bE H)
 have q2:=lM (f:=tN) (ti:=ki) (to:=iY) (aaY m1 m2 m3 m4 m5 m6 m7 m8 m9 bD bE m1 m2 m3 m4 m5 m6 m7 m8 m9 bD bE H)
 have q4:=lM (f:=tO) (ti:=kj) (to:=iZ) (aaZ m1 m2 m3 m4 m5 m6 m7 m8 m9 bD bE m1 m2 m3 m4 m5 m6 m7 m8 m9 bD bE H)
 have q6:=lM (f:=tP) (ti:=km) (to:=ja) (aa0 m1 m2 m3 m4 m5 m6 m7 m8 m9 bD bE m1 m2 m3 m4 m5 m6 m7 m8 m9 bD bE H)
 have q8:=lM (f:=tQ) (ti:=ko) (to:=jb) (aa1 m1 m2 m3 m4 m5 m6 m7 m8 m9 bD bE H)
 refine vi (bR _) (bR _) ?_
 refine(afj m1 m2 m3 m4 m5 m6 m7 m8 m9 bD bE _ rfl (m1,m2,m3,m4,m5,m6,m7,m8,m9,bD,bE,m1,m2,m3,m4,m5,m6,m7,m8,m9,bD,bE,()) q0.2.symm _ rfl (m1,m2,m3,m4,m5,m6,m7,m8,m9,bD,bE,m1,m2,m3,m4,m5,m6,m7,m8,m9,bD,bE,()) q2.2.symm _ rfl (m1,m2,m3,m4,m5,m6,m7,m8,m9,bD,bE,m1,m2,m3,m4,m5,m6,m7,m8,m9,bD,bE,()) q4.2.symm _ rfl (m1,m2,m3,m4,m5,m6,m7,m8,m9,bD,bE,m1,m2,m3,m4,m5,m6,m7,m8,m9,bD,bE,()) q6.2.symm _ rfl (m1,m2,m3,m4,m5,m6,m7,m8,m9,bD,bE,()) q8.2.symm).trans ?_
 dsimp only
 rw[dt H.l1,dt H.l2,dt H.l3,dt H.l4,dt H.l5,dt H.l6,dt H.l7,dt H.l9,dt H.l10,dt H.KJ,show rk tL kh iX (m1,m2,m3,m4,m5,m6,m7,m8,m9,bD,bE,m1,m2,m3,m4,m5,m6,m7,m8,m9,bD,bE,(m1.length:Int),0,())=true from q0.1,show rk tN ki iY (m1,m2,m3,m4,m5,m6,m7,m8,m9,bD,bE,m1,m2,m3,m4,m5,m6,m7,m8,m9,bD,bE,(m6.length:Int),0,())=true from q2.1,show rk tO kj iZ (m1,m2,m3,m4,m5,m6,m7,m8,m9,bD,bE,m1,m2,m3,m4,m5,m6,m7,m8,m9,bD,bE,(m9.length:Int),0,())=true from q4.1,show rk tP km ja (m1,m2,m3,m4,m5,m6,m7,m8,m9,bD,bE,m1,m2,m3,m4,m5,m6,m7,m8,m9,bD,bE,(bD.length:Int),0,())=true from q6.1,show rk tQ ko jb (m1,m2,m3,m4,m5,m6,m7,m8,m9,bD,bE,(bE.length:Int),0,())=true from q8.1]
 rfl
end
end Go.Proofs.Vd

noncomputable section
namespace Go.Proofs.Vd
open Go.Ab Go.Ab.Lf
set_option maxRecDepth 100000
theorem zk{P:jW}{ptr:List Nat}{Q:jW}{ti to:List Ty}{g:aj ti->Lf.T (aj to)}{pl q:List Pl}(h:((hU P ptr Q ti to g).f pl).val=some q): ∃ x y,pl=aA ti x/\(g x).val=some y/\q=aA to y:=by
 change (match toT ti pl with|some x=>(g x).map (aA to)|none=>.bad).val=some q at h
 split at h
 ·rename_i x hx
  obtain⟨y,h1,h2⟩:=T.H5 h
  exact⟨x,y,mV hx,h1,h2⟩
 ·cases h
theorem v9{P:jW}{ptr:List Nat}{Q:jW}{ti to:List Ty}{g:aj ti->Lf.T (aj to)}{x:aj ti}{y:aj to}(h:(g x).val=some y):((hU P ptr Q ti to g).f (aA ti x)).val=some (aA to y):=by
 show(match toT ti (aA ti x)with|some x=>(g x).map (aA to)|none=>.bad).val=_
 rw[pY]
 show((g x).bd fun a=>Lf.T.ok (aA to a)).val=_
 rw[Lf.T.MO,h]
 rfl
def WN(V:ByteArray->Bool)(y:aj tM):Bool:=GA V y&&gNx y.2.2.2.2.2.2.1
def s8c(V:ByteArray->Bool):cR:=hU (Ps [pM]) [] (Ps [.n .i64]) tM [i64] fun y=>.ck (WN V y) (.ok (iM V y,()))
theorem Cn{V:ByteArray->Bool}{aq:aB}(W:WorldN V aq):(s8c V).Ok 9 aq:=by
 intro pl q args H0 E0 h az e hP hv hS
 obtain⟨x,y,rfl,h1,rfl⟩:=zk e
 obtain⟨h2,h3⟩:=Lf.T.ba h1
 injection h3 with h3
 obtain⟨y1,y2,y3,y4,y5,y6,y7,y8,y9,y10,y11,⟨⟩⟩:=x
 unfold WN at h2
 rw[Bool.and_eq_true]at h2
 have s:=jJ (ake (V:=V) (y:=(y1,y2,y3,y4,y5,y6,y7,y8,y9,y10,y11,())) h2.1 h2.2)
 refine aeO W _ _ args H0 E0 h az (v9 (g:=fun x=>.ck (k8 V x) (.ok (m8 V x))) (y:=y) ?_) hP hv hS
 show(bif k8 V _ then some (m8 V _)else none)=some y
 rw[show k8 V (y1,y2,y3,y4,y5,y6,y7,y8,y9,y10,y11,())=true from s.1,show m8 V (y1,y2,y3,y4,y5,y6,y7,y8,y9,y10,y11,())=_ from s.2,<-h3]
 rfl
end Go.Proofs.Vd

noncomputable section
namespace Go.Proofs.Vd
open Go.Ab Go.Ab.Lf
set_option maxRecDepth 100000
abbrev qi:List Ty:=[.ae i64,i64]
abbrev po:List Ty:=[.ae i64]
def Co:jX:=⟨0,fE Tryz.x21.code 0,[7,8],(Ps [.ow i64,.n .i64]),[⟨.lL,[7],(Ps [.ow i64])⟩]⟩
def Pb:List (Nat×cR):=[]
theorem Kq{V:ByteArray->Bool}{aq:aB}(W:WorldS V aq):db aq Pb:=.nil
def Cp:List Pl->Lf.T Rs:=Co.step (fun _=>none) (dH Pb 3) 3
def Pc:fA:=rm Co Cp qi po
theorem Ks{V:ByteArray->Bool}{aq:aB}(W:WorldS V aq):dZ Rx.w Pc (fun n d=>gD (aq n d) n (.bl 0 (.lp Co.body))):=gb (W.toWorld.in (Kq W) 3) (aE _) (m:=3) qi po
def akk:Nat->Option fA:=pX [(0,Pc)]
abbrev Ew:List Ty:=[.ae i64,i64]
abbrev Ex:List Ty:=[.ae i64]
def afm:List (Nat×cR):=[]
theorem UN{V:ByteArray->Bool}{aq:aB}(W:WorldS V aq):db aq afm:=.nil
def aa2(x:aj Ew):Lf.T (List Pl):=iN (Ps [.im i64,.n .i64]) [] (Ps [.ow i64]) akk Tryz.x21 3 (dH afm 3) (aA Ew x)
def Kt(x:aj Ew):Bool:=ke (jr Ex (aa2 x))
def Ku(x:aj Ew):aj Ex:=ke (eA Ex (aa2 x))
def aa3:cR:=hU (Ps [.im i64,.n .i64]) [] (Ps [.ow i64]) Ew Ex fun x=>.ck (Kt x) (.ok (Ku x))
theorem IA{V:ByteArray->Bool}{aq:aB}(W:WorldS V aq):aa3.Ok 21 aq:=
 eg (W.toWorld.in (UN W) 3) (W.toWorld.st 21 _ rfl) rfl (fq.jl (.cons (b:=Co.body) (by kernel_rfl) (Ks W) .nil)) (m:=3) rfl (fun _=>bR _) (fun _=>bR _)
abbrev gX:List Ty:=[.ae aH,.ae aS,.ae i64,.ae ak,.ae ak,.ae aC,.ae aR,i64,.ae aG,.ae aL,.ae aJ,.ae u64,.ae i64,.ae i64,.ae aH,.ae aS,.ae i64,.ae ak,.ae ak,.ae aC,.ae aR,i64,.ae aG,.ae aL,.ae aJ,.ae aC,i64,i64]
abbrev gx:List Ty:=[.ae aH,.ae aS,.ae i64,.ae ak,.ae ak,.ae aC,.ae aR,i64,.ae aG,.ae aL,.ae aJ,.ae u64,.ae i64,.ae i64,.ae aH,.ae aS,.ae i64,.ae ak,.ae ak,.ae aC,.ae aR,i64,.ae aG,.ae aL,.ae aJ]
def Ey:jX:=⟨0,fE Tryz.x8.code 0,[1,5,22,23,24],(Ps [.pt 0 (Ps [.im aH,.im aS,.im i64,.im ak,.im ak,.im aC,.im aR,.n .i64,.im aG,.im aL,.im aJ]),.pt 0 (Ps [.ow u64,.ow i64,.ow i64,.av (.sc (.slice none 0 0)),.im aH,.im aS,.im i64,.im ak,.im ak,.im aC,.im aR,.n .i64,.im aG,.im aL,.im aJ,.av (.sc (.pointer none))]),.im aC,.n .i64,.n .i64]),[⟨.lL,[1,5],(Ps [.pt 0 (Ps [.im aH,.im aS,.im i64,.im ak,.im ak,.im aC,.im aR,.n .i64,.im aG,.im aL,.im aJ]),.pt 0 (Ps [.ow u64,.ow i64,.ow i64,.av (.sc (.slice none 0 0)),.im aH,.im aS,.im i64,.im ak,.im ak,.im aC,.im aR,.n .i64,.im aG,.im aL,.im aJ,.av (.sc (.pointer none))])])⟩]⟩
def WO:List (Nat×cR):=[]
theorem Pd{V:ByteArray->Bool}{aq:aB}(W:WorldS V aq):db aq WO:=.nil
def wI:List Pl->Lf.T Rs:=Ey.step (fun _=>none) (dH WO 3) 3
def WQ:fA:=rm Ey wI gX gx
theorem Ez{V:ByteArray->Bool}{aq:aB}(W:WorldS V aq):dZ Rx.w WQ (fun n d=>gD (aq n d) n (.bl 0 (.lp Ey.body))):=gb (W.toWorld.in (Pd W) 3) (aE _) (m:=3) gX gx
abbrev eU:List Ty:=[.ae aH,.ae aS,.ae i64,.ae ak,.ae ak,.ae aC,.ae aR,i64,.ae aG,.ae aL,.ae aJ,.ae u64,.ae i64,.ae i64,.ae i64,.ae aH,.ae aS,.ae i64,.ae ak,.ae ak,.ae aC,.ae aR,i64,.ae aG,.ae aL,.ae aJ,.ae u8,i64,.ae aG,i64,i64]
abbrev fM:List Ty:=[.ae aH,.ae aS,.ae i64,.ae ak,.ae ak,.ae aC,.ae aR,i64,.ae aG,.ae aL,.ae aJ,.ae u64,.ae i64,.ae i64,.ae i64,.ae aH,.ae aS,.ae i64,.ae ak,.ae ak,.ae aC,.ae aR,i64,.ae aG,.ae aL,.ae aJ,.ae u8,i64]
abbrev jw:List Ty:=[i64]
def EA:jX:=⟨2,fE Tryz.x8.code 2,[1,5,76,77,78],(Ps [.pt 0 (Ps [.im aH,.im aS,.im i64,.im ak,.im ak,.im aC,.im aR,.n .i64,.im aG,.im aL,.im aJ]),.pt 0 (Ps [.ow u64,.ow i64,.ow i64,.ow i64,.im aH,.im aS,.im i64,.im ak,.im ak,.im aC,.im aR,.n .i64,.im aG,.im aL,.im aJ,.pt 0 (Ps [.ow u8,.n .i64])]),.im aG,.n .i64,.n .i64]),[⟨.lL,[1,5],(Ps [.pt 0 (Ps [.im aH,.im aS,.im i64,.im ak,.im ak,.im aC,.im aR,.n .i64,.im aG,.im aL,.im aJ]),.pt 0 (Ps [.ow u64,.ow i64,.ow i64,.ow i64,.im aH,.im aS,.im i64,.im ak,.im ak,.im aC,.im aR,.n .i64,.im aG,.im aL,.im aJ,.pt 0 (Ps [.ow u8,.n .i64])])])⟩,⟨.rt,[2,3],(Ps [.av (.sc (.pointer none)),.n .i64])⟩]⟩
def WR:List (Nat×cR):=[]
theorem Pe{V:ByteArray->Bool}{aq:aB}(W:WorldS V aq):db aq WR:=.nil
def ku:List Pl->Lf.T Rs:=EA.step (fun _=>none) (dH WR 3) 3
def WS:fA:=tA EA ku eU fM jw
theorem EB{V:ByteArray->Bool}{aq:aB}(W:WorldS V aq):dZ Rx.w WS (fun n d=>gD (aq n d) n (.bl 2 (.lp EA.body))):=hY (W.toWorld.in (Pe W) 3) (aE _) (m:=3) eU fM jw
abbrev eX:List Ty:=[.ae u64,.ae i64,.ae i64,.ae i64,.ae aH,.ae aS,.ae i64,.ae ak,.ae ak,.ae aC,.ae aR,i64,.ae aG,.ae aL,.ae aJ,.ae u8,i64,.ae aJ,i64,i64]
abbrev fN:List Ty:=[.ae u64,.ae i64,.ae i64,.ae i64,.ae aH,.ae aS,.ae i64,.ae ak,.ae ak,.ae aC,.ae aR,i64,.ae aG,.ae aL,.ae aJ,.ae u8,i64]
abbrev jx:List Ty:=[i64]
def EC:jX:=⟨4,fE Tryz.x8.code 4,[5,96,97,98],(Ps [.pt 0 (Ps [.ow u64,.ow i64,.ow i64,.ow i64,.im aH,.im aS,.im i64,.im ak,.im ak,.im aC,.im aR,.n .i64,.im aG,.im aL,.im aJ,.pt 0 (Ps [.ow u8,.n .i64])]),.im aJ,.n .i64,.n .i64]),[⟨.lL,[5],(Ps [.pt 0 (Ps [.ow u64,.ow i64,.ow i64,.ow i64,.im aH,.im aS,.im i64,.im ak,.im ak,.im aC,.im aR,.n .i64,.im aG,.im aL,.im aJ,.pt 0 (Ps [.ow u8,.n .i64])])])⟩,⟨.rt,[2,3],(Ps [.av (.sc (.pointer none)),.n .i64])⟩]⟩
def WT:List (Nat×cR):=[]
theorem Pf{V:ByteArray->Bool}{aq:aB}(W:WorldS V aq):db aq WT:=.nil
def kA:List Pl->Lf.T Rs:=EC.step (fun _=>none) (dH WT 3) 3
def WU:fA:=tA EC kA eX fN jx
theorem ED{V:ByteArray->Bool}{aq:aB}(W:WorldS V aq):dZ Rx.w WU (fun n d=>gD (aq n d) n (.bl 4 (.lp EC.body))):=hY (W.toWorld.in (Pf W) 3) (aE _) (m:=3) eX fN jx
def Lz8:Nat->Option fA:=pX [(0,WQ),(2,WS),(4,WU)]
abbrev Pg:List Ty:=[.ae aH,.ae aS,.ae i64,.ae ak,.ae ak,.ae aC,.ae aR,i64,.ae aG,.ae aL,.ae aJ]
abbrev G1:List Ty:=[.ae u64,.ae i64,.ae i64,.ae i64,.ae aH,.ae aS,.ae i64,.ae ak,.ae ak,.ae aC,.ae aR,i64,.ae aG,.ae aL,.ae aJ,.ae u8,i64,i64]
def ez8(V:ByteArray->Bool):List (Nat×cR):=[(9,s8c V),(19,aaV),(21,aa3)]
theorem aa4{V:ByteArray->Bool}{aq:aB}(W:WorldS V aq):db aq (ez8 V):=(.cons (Cn W.toWorldN) (.cons (It W) (.cons (IA W) .nil)))
def tz8(V:ByteArray->Bool)(x:aj Pg):Lf.T (List Pl):=iN (Ps [.ag (Ps [.im aH,.im aS,.im i64,.im ak,.im ak,.im aC,.im aR,.n .i64,.im aG,.im aL,.im aJ])]) [] (Ps [.tu (Ps [.pt 0 (Ps [.ow u64,.im i64,.im i64,.ow i64,.im aH,.im aS,.im i64,.im ak,.im ak,.im aC,.im aR,.n .i64,.im aG,.im aL,.im aJ,.pt 0 (Ps [.ow u8,.n .i64])]),.n .i64])]) Lz8 Tryz.x8 3 (dH (ez8 V) 3) (aA Pg x)
def kz8(V:ByteArray->Bool)(x:aj Pg):Bool:=ke (jr G1 (tz8 V x))
def mz8(V:ByteArray->Bool)(x:aj Pg):aj G1:=ke (eA G1 (tz8 V x))
def sz8(V:ByteArray->Bool):cR:=hU (Ps [.ag (Ps [.im aH,.im aS,.im i64,.im ak,.im ak,.im aC,.im aR,.n .i64,.im aG,.im aL,.im aJ])]) [] (Ps [.tu (Ps [.pt 0 (Ps [.ow u64,.im i64,.im i64,.ow i64,.im aH,.im aS,.im i64,.im ak,.im ak,.im aC,.im aR,.n .i64,.im aG,.im aL,.im aJ,.pt 0 (Ps [.ow u8,.n .i64])]),.n .i64])]) Pg G1 fun x=>.ck (kz8 V x) (.ok (mz8 V x))
theorem aa5{V:ByteArray->Bool}{aq:aB}(W:WorldS V aq):(sz8 V).Ok 8 aq:=
 eg (W.toWorld.in (aa4 W) 3) (W.toWorld.st 8 _ rfl) rfl (fq.jl (.cons (b:=Ey.body) (by kernel_rfl) (Ez W) (.cons (b:=EA.body) (by kernel_rfl) (EB W) (.cons (b:=EC.body) (by kernel_rfl) (ED W) .nil)))) (m:=3) rfl (fun _=>bR _) (fun _=>bR _)
abbrev Ph:List Ty:=[.ae aH,.ae aS,.ae i64,.ae ak,.ae ak,.ae aC,.ae aR,i64,.ae aG,.ae aL,.ae aJ]
abbrev G2:List Ty:=[i64]
def ey8(V:ByteArray->Bool):List (Nat×cR):=[(9,s8c V),(19,aaV),(21,aa3)]
theorem aa6{V:ByteArray->Bool}{aq:aB}(W:WorldS V aq):db aq (ey8 V):=(.cons (Cn W.toWorldN) (.cons (It W) (.cons (IA W) .nil)))
def ty8(V:ByteArray->Bool)(x:aj Ph):Lf.T (List Pl):=iN (Ps [.ag (Ps [.im aH,.im aS,.im i64,.im ak,.im ak,.im aC,.im aR,.n .i64,.im aG,.im aL,.im aJ])]) [] (Ps [.tu (Ps [.av (.sc (.pointer none)),.n .i64])]) Lz8 Tryz.x8 3 (dH (ey8 V) 3) (aA Ph x)
def ky8(V:ByteArray->Bool)(x:aj Ph):Bool:=ke (jr G2 (ty8 V x))
def my8(V:ByteArray->Bool)(x:aj Ph):aj G2:=ke (eA G2 (ty8 V x))
def sy8(V:ByteArray->Bool):cR:=hU (Ps [.ag (Ps [.im aH,.im aS,.im i64,.im ak,.im ak,.im aC,.im aR,.n .i64,.im aG,.im aL,.im aJ])]) [] (Ps [.tu (Ps [.av (.sc (.pointer none)),.n .i64])]) Ph G2 fun x=>.ck (ky8 V x) (.ok (my8 V x))
theorem aa7{V:ByteArray->Bool}{aq:aB}(W:WorldS V aq):(sy8 V).Ok 8 aq:=
 eg (W.toWorld.in (aa6 W) 3) (W.toWorld.st 8 _ rfl) rfl (fq.jl (.cons (b:=Ey.body) (by kernel_rfl) (Ez W) (.cons (b:=EA.body) (by kernel_rfl) (EB W) (.cons (b:=EC.body) (by kernel_rfl) (ED W) .nil)))) (m:=3) rfl (fun _=>bR _) (fun _=>bR _)
end Go.Proofs.Vd

noncomputable section
namespace Go.Proofs.Vd
open Go.Ab Go.Ab.Lf
set_option maxRecDepth 100000
abbrev KM{α:Type}(x:List α)(p:Nat)(n:Nat)(y:List α):List α:=app (List.take p x) (app (List.take (min y.length n) y) (List.drop (Nat.add p (min y.length n)) x))
theorem Pj(o1:List (den aH))(o2:List (den aS))(o3:List Int)(o4:List (den ak))(o5:List (den ak))(o6:List (den aC))(o7:List (den aR))(o8:Int)(o9:List (den aG))(jj:List (den aL))(iH:List (den aJ))(m1:List (den aH))(m2:List (den aS))(m3:List Int)(m4:List (den ak))(m5:List (den ak))(m6:List (den aC))(m7:List (den aR))(m8:Int)(m9:List (den aG))(bD:List (den aL))(bE:List (den aJ))(v a b:List Int)(G:List (den aC))(n i:Int):(wI (aA gX (o1,o2,o3,o4,o5,o6,o7,o8,o9,jj,iH,v,a,b,m1,m2,m3,m4,m5,m6,m7,m8,m9,bD,bE,G,n,i,()))).val=bif decide (i<n)then aM (aU i (G.length:Int)) (aM (aU 0 (List.length (G.getD i.toNat (ao aC)).2.2:Int)) (aM (roomy 8 (b.length+[(v.length:Int)].length)) (bif decide ((G.getD i.toNat (ao aC)).1=127)then aM (roomy 8 (v.length+[(List.getD (G.getD i.toNat (ao aC)).2.2 (0:Int).toNat (ao tI)).2.2.2.1].length)) (aM (roomy 8 (a.length+[(1:Int)].length)) (bif decide ((G.getD i.toNat (ao aC)).1=123)then aM (roomy 8 ((app v [(List.getD (G.getD i.toNat (ao aC)).2.2 (0:Int).toNat (ao tI)).2.2.2.1]).length+[(List.getD (G.getD i.toNat (ao aC)).2.2 (0:Int).toNat (ao tI)).2.2.2.2.1].length)) (aM (roomy 8 ((app a [1]).length+[(0:Int)].length)) (some (.next (aA gX (o1,o2,o3,o4,o5,o6,o7,o8,o9,jj,iH,app (app v [(List.getD (G.getD i.toNat (ao aC)).2.2 (0:Int).toNat (ao tI)).2.2.2.1]) [(List.getD (G.getD i.toNat (ao aC)).2.2 (0:Int).toNat (ao tI)).2.2.2.2.1],app (app a [1]) [0],app b [(v.length:Int)],m1,m2,m3,m4,m5,m6,m7,m8,m9,bD,bE,G,n,bw .i64 i 1,())))))else some (.next (aA gX (o1,o2,o3,o4,o5,o6,o7,o8,o9,jj,iH,app v [(List.getD (G.getD i.toNat (ao aC)).2.2 (0:Int).toNat (ao tI)).2.2.2.1],app a [1],app b [(v.length:Int)],m1,m2,m3,m4,m5,m6,m7,m8,m9,bD,bE,G,n,bw .i64 i 1,())))))else aM (roomy 8 (v.length+[(List.getD (G.getD i.toNat (ao aC)).2.2 (0:Int).toNat (ao tI)).2.2.2.1].length)) (aM (roomy 8 (a.length+[(0:Int)].length)) (bif decide ((G.getD i.toNat (ao aC)).1=123)then aM (roomy 8 ((app v [(List.getD (G.getD i.toNat (ao aC)).2.2 (0:Int).toNat (ao tI)).2.2.2.1]).length+[(List.getD (G.getD i.toNat (ao aC)).2.2 (0:Int).toNat (ao tI)).2.2.2.2.1].length)) (aM (roomy 8 ((app a [0]).length+[(0:Int)].length)) (some (.next (aA gX (o1,o2,o3,o4,o5,o6,o7,o8,o9,jj,iH,app (app v [(List.getD (G.getD i.toNat (ao aC)).2.2 (0:Int).toNat (ao tI)).2.2.2.1]) [(List.getD (G.getD i.toNat (ao aC)).2.2 (0:Int).toNat (ao tI)).2.2.2.2.1],app (app a [0]) [0],app b [(v.length:Int)],m1,m2,m3,m4,m5,m6,m7,m8,m9,bD,bE,G,n,bw .i64 i 1,())))))else some (.next (aA gX (o1,o2,o3,o4,o5,o6,o7,o8,o9,jj,iH,app v [(List.getD (G.getD i.toNat (ao aC)).2.2 (0:Int).toNat (ao tI)).2.2.2.1],app a [0],app b [(v.length:Int)],m1,m2,m3,m4,m5,m6,m7,m8,m9,bD,bE,G,n,bw .i64 i 1,()))))))))else some (.out 0 (aA gx (o1,o2,o3,o4,o5,o6,o7,o8,o9,jj,iH,v,a,b,m1,m2,m3,m4,m5,m6,m7,m8,m9,bD,bE,()))):=by kernel_rfl
theorem Pk(o1:List (den aH))(o2:List (den aS))(o3:List Int)(o4:List (den ak))(o5:List (den ak))(o6:List (den aC))(o7:List (den aR))(o8:Int)(o9:List (den aG))(jj:List (den aL))(iH:List (den aJ))(m1:List (den aH))(m2:List (den aS))(m3:List Int)(m4:List (den ak))(m5:List (den ak))(m6:List (den aC))(m7:List (den aR))(m8:Int)(m9:List (den aG))(bD:List (den aL))(bE:List (den aJ))(v a b tab bs:List Int)(mo:Int)(G:List (den aG))(n i:Int):(ku (aA eU (o1,o2,o3,o4,o5,o6,o7,o8,o9,jj,iH,v,a,b,tab,m1,m2,m3,m4,m5,m6,m7,m8,m9,bD,bE,bs,mo,G,n,i,()))).val=bif decide (i<n)then aM (aU i (G.length:Int)) (aM (aU 0 (List.length (G.getD i.toNat (ao aG)).1:Int)) (bif decide (bq .u64 (tab.length:Int)<bw .u64 (List.getD (G.getD i.toNat (ao aG)).1 (0:Int).toNat (ao tI)).2.2.2.1 (bq .u64 (List.length (G.getD i.toNat (ao aG)).2:Int)))then some (.out 1 (aA jw (13,())))else aM (eK (List.getD (G.getD i.toNat (ao aG)).1 (0:Int).toNat (ao tI)).2.2.2.1 (tab.length:Int) (tab.length:Int)) (some (.next (aA eU (o1,o2,o3,o4,o5,o6,o7,o8,o9,jj,iH,v,a,b,KM tab (Int.toNat (List.getD (G.getD i.toNat (ao aG)).1 (0:Int).toNat (ao tI)).2.2.2.1) ((tab.length:Int).toNat - Int.toNat (List.getD (G.getD i.toNat (ao aG)).1 (0:Int).toNat (ao tI)).2.2.2.1) (G.getD i.toNat (ao aG)).2,m1,m2,m3,m4,m5,m6,m7,m8,m9,bD,bE,bs,mo,G,n,bw .i64 i 1,()))))))else some (.out 0 (aA fM (o1,o2,o3,o4,o5,o6,o7,o8,o9,jj,iH,v,a,b,tab,m1,m2,m3,m4,m5,m6,m7,m8,m9,bD,bE,bs,mo,()))):=by kernel_rfl
theorem Pm(m1:List (den aH))(m2:List (den aS))(m3:List Int)(m4:List (den ak))(m5:List (den ak))(m6:List (den aC))(m7:List (den aR))(m8:Int)(m9:List (den aG))(bD:List (den aL))(bE:List (den aJ))(v a b tab bs:List Int)(mo:Int)(G:List (den aJ))(n i:Int):(kA (aA eX (v,a,b,tab,m1,m2,m3,m4,m5,m6,m7,m8,m9,bD,bE,bs,mo,G,n,i,()))).val=bif decide (i<n)then aM (aU i (G.length:Int)) (aM (aU 0 (List.length (G.getD i.toNat (ao aJ)).1:Int)) (bif !(bif decide (bq .u64 (List.length (G.getD i.toNat (ao aJ)).2:Int)<=bq .u64 (bs.length:Int))then decide ((List.getD (G.getD i.toNat (ao aJ)).1 (0:Int).toNat (ao tI)).2.2.2.1<=bQ .u64 (bq .u64 (bs.length:Int)) (bq .u64 (List.length (G.getD i.toNat (ao aJ)).2:Int)))else false)then some (.out 1 (aA jx (14,())))else aM (eK (List.getD (G.getD i.toNat (ao aJ)).1 (0:Int).toNat (ao tI)).2.2.2.1 (bs.length:Int) (bs.length:Int)) (some (.next (aA eX (v,a,b,tab,m1,m2,m3,m4,m5,m6,m7,m8,m9,bD,bE,KM bs (Int.toNat (List.getD (G.getD i.toNat (ao aJ)).1 (0:Int).toNat (ao tI)).2.2.2.1) ((bs.length:Int).toNat - Int.toNat (List.getD (G.getD i.toNat (ao aJ)).1 (0:Int).toNat (ao tI)).2.2.2.1) (G.getD i.toNat (ao aJ)).2,mo,G,n,bw .i64 i 1,()))))))else some (.out 0 (aA fN (v,a,b,tab,m1,m2,m3,m4,m5,m6,m7,m8,m9,bD,bE,bs,mo,()))):=by kernel_rfl
end Go.Proofs.Vd

noncomputable section
namespace Go.Proofs.Vd
open Go.Ab Go.Ab.Lf
set_option maxRecDepth 100000
abbrev Cq(V:ByteArray->Bool)(m1:List (den aH))(m2:List (den aS))(m3:List Int)(m4:List (den ak))(m5:List (den ak))(m6:List (den aC))(m7:List (den aR))(m8:Int)(m9:List (den aG))(bD:List (den aL))(bE:List (den aJ))(z:aj gx)(jf:den ak)(tab:List Int):Option (List Pl):=
 let X2:aj eU:=(z.1,z.2.1,z.2.2.1,z.2.2.2.1,z.2.2.2.2.1,z.2.2.2.2.2.1,z.2.2.2.2.2.2.1,z.2.2.2.2.2.2.2.1,z.2.2.2.2.2.2.2.2.1,z.2.2.2.2.2.2.2.2.2.1,z.2.2.2.2.2.2.2.2.2.2.1,z.2.2.2.2.2.2.2.2.2.2.2.1,z.2.2.2.2.2.2.2.2.2.2.2.2.1,z.2.2.2.2.2.2.2.2.2.2.2.2.2.1,tab,z.2.2.2.2.2.2.2.2.2.2.2.2.2.2.1,z.2.2.2.2.2.2.2.2.2.2.2.2.2.2.2.1,z.2.2.2.2.2.2.2.2.2.2.2.2.2.2.2.2.1,z.2.2.2.2.2.2.2.2.2.2.2.2.2.2.2.2.2.1,z.2.2.2.2.2.2.2.2.2.2.2.2.2.2.2.2.2.2.1,z.2.2.2.2.2.2.2.2.2.2.2.2.2.2.2.2.2.2.2.1,z.2.2.2.2.2.2.2.2.2.2.2.2.2.2.2.2.2.2.2.2.1,z.2.2.2.2.2.2.2.2.2.2.2.2.2.2.2.2.2.2.2.2.2.1,z.2.2.2.2.2.2.2.2.2.2.2.2.2.2.2.2.2.2.2.2.2.2.1,z.2.2.2.2.2.2.2.2.2.2.2.2.2.2.2.2.2.2.2.2.2.2.2.1,z.2.2.2.2.2.2.2.2.2.2.2.2.2.2.2.2.2.2.2.2.2.2.2.2.1,List.replicate (yj .i64 jf.1 65536).toNat 0,jf.2,z.2.2.2.2.2.2.2.2.1,(List.length z.2.2.2.2.2.2.2.2.1:Int),0,())
 let w:=gM ku eU fM X2
 let X4:aj eX:=(w.2.2.2.2.2.2.2.2.2.2.2.1,w.2.2.2.2.2.2.2.2.2.2.2.2.1,w.2.2.2.2.2.2.2.2.2.2.2.2.2.1,w.2.2.2.2.2.2.2.2.2.2.2.2.2.2.1,w.2.2.2.2.2.2.2.2.2.2.2.2.2.2.2.1,w.2.2.2.2.2.2.2.2.2.2.2.2.2.2.2.2.1,w.2.2.2.2.2.2.2.2.2.2.2.2.2.2.2.2.2.1,w.2.2.2.2.2.2.2.2.2.2.2.2.2.2.2.2.2.2.1,w.2.2.2.2.2.2.2.2.2.2.2.2.2.2.2.2.2.2.2.1,w.2.2.2.2.2.2.2.2.2.2.2.2.2.2.2.2.2.2.2.2.1,w.2.2.2.2.2.2.2.2.2.2.2.2.2.2.2.2.2.2.2.2.2.1,w.2.2.2.2.2.2.2.2.2.2.2.2.2.2.2.2.2.2.2.2.2.2.1,w.2.2.2.2.2.2.2.2.2.2.2.2.2.2.2.2.2.2.2.2.2.2.2.1,w.2.2.2.2.2.2.2.2.2.2.2.2.2.2.2.2.2.2.2.2.2.2.2.2.1,w.2.2.2.2.2.2.2.2.2.2.2.2.2.2.2.2.2.2.2.2.2.2.2.2.2.1,w.2.2.2.2.2.2.2.2.2.2.2.2.2.2.2.2.2.2.2.2.2.2.2.2.2.2.1,w.2.2.2.2.2.2.2.2.2.2.2.2.2.2.2.2.2.2.2.2.2.2.2.2.2.2.2.1,w.2.2.2.2.2.2.2.2.2.2.1,(List.length w.2.2.2.2.2.2.2.2.2.2.1:Int),0,())
 let u:=gM kA eX fN X4
 bif decide ((0:Int)<(List.length z.2.2.2.2.1:Int))then aM (aU 0 (List.length z.2.2.2.2.1:Int)) (aM (aU 0 (List.length z.2.2.2.2.1:Int)) (
  bif decide (jf.1<0)then none else bif decide (jf.2< -1)then none else bif (bif decide ((0:Int)<=jf.2)then decide (jf.2<jf.1)else false)then none else bif decide (16<jf.1)then none else
  aM (decide ((0:Int)<=yj .i64 jf.1 65536)&&decide (yj .i64 jf.1 65536<=yj .i64 jf.1 65536)&&decide ((yj .i64 jf.1 65536).toNat*1<=70368744177664)) (
  aM (r5 ku eU fM jw X2) (bif qK ku eU X2 then aM (r5 kA eX fN jx X4) (bif qK kA eX X4 then some (aA G1 (u.1,u.2.1,u.2.2.1,u.2.2.2.1,u.2.2.2.2.1,u.2.2.2.2.2.1,u.2.2.2.2.2.2.1,u.2.2.2.2.2.2.2.1,u.2.2.2.2.2.2.2.2.1,u.2.2.2.2.2.2.2.2.2.1,u.2.2.2.2.2.2.2.2.2.2.1,u.2.2.2.2.2.2.2.2.2.2.2.1,u.2.2.2.2.2.2.2.2.2.2.2.2.1,u.2.2.2.2.2.2.2.2.2.2.2.2.2.1,u.2.2.2.2.2.2.2.2.2.2.2.2.2.2.1,u.2.2.2.2.2.2.2.2.2.2.2.2.2.2.2.1,u.2.2.2.2.2.2.2.2.2.2.2.2.2.2.2.2.1,0,()))else none)else none))))
 else none
theorem akr(V:ByteArray->Bool)(m1:List (den aH))(m2:List (den aS))(m3:List Int)(m4:List (den ak))(m5:List (den ak))(m6:List (den aC))(m7:List (den aR))(m8:Int)(m9:List (den aG))(bD:List (den aL))(bE:List (den aJ))(c:aj zj)(hc:c=UM (m1,m2,m3,m4,m5,m6,m7,m8,m9,bD,bE,()))(X0:aj gX)(hX0:X0=(m1,m2,m3,m4,m5,m6,m7,m8,m9,bD,bE,[],[],[],c.1,c.2.1,c.2.2.1,c.2.2.2.1,c.2.2.2.2.1,c.2.2.2.2.2.1,c.2.2.2.2.2.2.1,c.2.2.2.2.2.2.2.1,c.2.2.2.2.2.2.2.2.1,c.2.2.2.2.2.2.2.2.2.1,c.2.2.2.2.2.2.2.2.2.2.1,m6,(m6.length:Int),0,()))(z:aj gx)(hz:z=gM wI gX gx X0)(jf:den ak)(aa8:jf=List.getD z.2.2.2.2.1 (0:Int).toNat (ao ak)):(tz8 V (m1,m2,m3,m4,m5,m6,m7,m8,m9,bD,bE,())).val=aM (WN V (m1,m2,m3,m4,m5,m6,m7,m8,m9,bD,bE,())) (bif !decide (iM V (m1,m2,m3,m4,m5,m6,m7,m8,m9,bD,bE,())=0)then none else aM (UL (m1,m2,m3,m4,m5,m6,m7,m8,m9,bD,bE,())) (aM (rk wI gX gx X0) (
 bif decide ((0:Int)<(List.length z.2.2.2.1:Int))then aM (aU 0 (List.length z.2.2.2.1:Int)) (aM (Kt ([-1],(List.getD z.2.2.2.1 (0:Int).toNat (ao ak)).1,())) (Cq V m1 m2 m3 m4 m5 m6 m7 m8 m9 bD bE z jf (Ku ([-1],(List.getD z.2.2.2.1 (0:Int).toNat (ao ak)).1,())).1))else Cq V m1 m2 m3 m4 m5 m6 m7 m8 m9 bD bE z jf []))):=by
 subst aa8;subst hz;subst hX0;subst hc
 kernel_rfl
end Go.Proofs.Vd

noncomputable section
namespace Go.Proofs.Vd
open Go.Ab Go.Ab.Lf
set_option maxRecDepth 100000
abbrev Pn(V:ByteArray->Bool)(m1:List (den aH))(m2:List (den aS))(m3:List Int)(m4:List (den ak))(m5:List (den ak))(m6:List (den aC))(m7:List (den aR))(m8:Int)(m9:List (den aG))(bD:List (den aL))(bE:List (den aJ))(z:aj gx)(jf:den ak)(tab:List Int):Option (List Pl):=
 let X2:aj eU:=(z.1,z.2.1,z.2.2.1,z.2.2.2.1,z.2.2.2.2.1,z.2.2.2.2.2.1,z.2.2.2.2.2.2.1,z.2.2.2.2.2.2.2.1,z.2.2.2.2.2.2.2.2.1,z.2.2.2.2.2.2.2.2.2.1,z.2.2.2.2.2.2.2.2.2.2.1,z.2.2.2.2.2.2.2.2.2.2.2.1,z.2.2.2.2.2.2.2.2.2.2.2.2.1,z.2.2.2.2.2.2.2.2.2.2.2.2.2.1,tab,z.2.2.2.2.2.2.2.2.2.2.2.2.2.2.1,z.2.2.2.2.2.2.2.2.2.2.2.2.2.2.2.1,z.2.2.2.2.2.2.2.2.2.2.2.2.2.2.2.2.1,z.2.2.2.2.2.2.2.2.2.2.2.2.2.2.2.2.2.1,z.2.2.2.2.2.2.2.2.2.2.2.2.2.2.2.2.2.2.1,z.2.2.2.2.2.2.2.2.2.2.2.2.2.2.2.2.2.2.2.1,z.2.2.2.2.2.2.2.2.2.2.2.2.2.2.2.2.2.2.2.2.1,z.2.2.2.2.2.2.2.2.2.2.2.2.2.2.2.2.2.2.2.2.2.1,z.2.2.2.2.2.2.2.2.2.2.2.2.2.2.2.2.2.2.2.2.2.2.1,z.2.2.2.2.2.2.2.2.2.2.2.2.2.2.2.2.2.2.2.2.2.2.2.1,z.2.2.2.2.2.2.2.2.2.2.2.2.2.2.2.2.2.2.2.2.2.2.2.2.1,List.replicate (yj .i64 jf.1 65536).toNat 0,jf.2,z.2.2.2.2.2.2.2.2.1,(List.length z.2.2.2.2.2.2.2.2.1:Int),0,())
 let w:=gM ku eU fM X2
 let X4:aj eX:=(w.2.2.2.2.2.2.2.2.2.2.2.1,w.2.2.2.2.2.2.2.2.2.2.2.2.1,w.2.2.2.2.2.2.2.2.2.2.2.2.2.1,w.2.2.2.2.2.2.2.2.2.2.2.2.2.2.1,w.2.2.2.2.2.2.2.2.2.2.2.2.2.2.2.1,w.2.2.2.2.2.2.2.2.2.2.2.2.2.2.2.2.1,w.2.2.2.2.2.2.2.2.2.2.2.2.2.2.2.2.2.1,w.2.2.2.2.2.2.2.2.2.2.2.2.2.2.2.2.2.2.1,w.2.2.2.2.2.2.2.2.2.2.2.2.2.2.2.2.2.2.2.1,w.2.2.2.2.2.2.2.2.2.2.2.2.2.2.2.2.2.2.2.2.1,w.2.2.2.2.2.2.2.2.2.2.2.2.2.2.2.2.2.2.2.2.2.1,w.2.2.2.2.2.2.2.2.2.2.2.2.2.2.2.2.2.2.2.2.2.2.1,w.2.2.2.2.2.2.2.2.2.2.2.2.2.2.2.2.2.2.2.2.2.2.2.1,w.2.2.2.2.2.2.2.2.2.2.2.2.2.2.2.2.2.2.2.2.2.2.2.2.1,w.2.2.2.2.2.2.2.2.2.2.2.2.2.2.2.2.2.2.2.2.2.2.2.2.2.1,w.2.2.2.2.2.2.2.2.2.2.2.2.2.2.2.2.2.2.2.2.2.2.2.2.2.2.1,w.2.2.2.2.2.2.2.2.2.2.2.2.2.2.2.2.2.2.2.2.2.2.2.2.2.2.2.1,w.2.2.2.2.2.2.2.2.2.2.1,(List.length w.2.2.2.2.2.2.2.2.2.2.1:Int),0,())
 let u:=gM kA eX fN X4
 bif decide ((0:Int)<(List.length z.2.2.2.2.1:Int))then aM (aU 0 (List.length z.2.2.2.2.1:Int)) (aM (aU 0 (List.length z.2.2.2.2.1:Int)) (
  bif decide (jf.1<0)then none else bif decide (jf.2< -1)then none else bif (bif decide ((0:Int)<=jf.2)then decide (jf.2<jf.1)else false)then none else bif decide (16<jf.1)then none else
  aM (decide ((0:Int)<=yj .i64 jf.1 65536)&&decide (yj .i64 jf.1 65536<=yj .i64 jf.1 65536)&&decide ((yj .i64 jf.1 65536).toNat*1<=70368744177664)) (
  aM (r5 ku eU fM jw X2) (bif qK ku eU X2 then aM (r5 kA eX fN jx X4) (bif qK kA eX X4 then none else some (aA G2 (gM kA eX jx X4)))else some (aA G2 (gM ku eU jw X2))))))
 else none
theorem aks(V:ByteArray->Bool)(m1:List (den aH))(m2:List (den aS))(m3:List Int)(m4:List (den ak))(m5:List (den ak))(m6:List (den aC))(m7:List (den aR))(m8:Int)(m9:List (den aG))(bD:List (den aL))(bE:List (den aJ))(c:aj zj)(hc:c=UM (m1,m2,m3,m4,m5,m6,m7,m8,m9,bD,bE,()))(X0:aj gX)(hX0:X0=(m1,m2,m3,m4,m5,m6,m7,m8,m9,bD,bE,[],[],[],c.1,c.2.1,c.2.2.1,c.2.2.2.1,c.2.2.2.2.1,c.2.2.2.2.2.1,c.2.2.2.2.2.2.1,c.2.2.2.2.2.2.2.1,c.2.2.2.2.2.2.2.2.1,c.2.2.2.2.2.2.2.2.2.1,c.2.2.2.2.2.2.2.2.2.2.1,m6,(m6.length:Int),0,()))(z:aj gx)(hz:z=gM wI gX gx X0)(jf:den ak)(aa8:jf=List.getD z.2.2.2.2.1 (0:Int).toNat (ao ak)):(ty8 V (m1,m2,m3,m4,m5,m6,m7,m8,m9,bD,bE,())).val=aM (WN V (m1,m2,m3,m4,m5,m6,m7,m8,m9,bD,bE,())) (bif !decide (iM V (m1,m2,m3,m4,m5,m6,m7,m8,m9,bD,bE,())=0)then some (aA G2 (iM V (m1,m2,m3,m4,m5,m6,m7,m8,m9,bD,bE,()),()))else aM (UL (m1,m2,m3,m4,m5,m6,m7,m8,m9,bD,bE,())) (aM (rk wI gX gx X0) (
 bif decide ((0:Int)<(List.length z.2.2.2.1:Int))then aM (aU 0 (List.length z.2.2.2.1:Int)) (aM (Kt ([-1],(List.getD z.2.2.2.1 (0:Int).toNat (ao ak)).1,())) (Pn V m1 m2 m3 m4 m5 m6 m7 m8 m9 bD bE z jf (Ku ([-1],(List.getD z.2.2.2.1 (0:Int).toNat (ao ak)).1,())).1))else Pn V m1 m2 m3 m4 m5 m6 m7 m8 m9 bD bE z jf []))):=by
 subst aa8;subst hz;subst hX0;subst hc
 kernel_rfl
end Go.Proofs.Vd
