import Derived.Test.YtbplobpobnagkaaGreatDoorVdT6
import Derived.Test.YtbplobpobnagkaaGreatDoorLfJ
noncomputable section
namespace Go.Proofs.Vd
open Go.Ab Go.Ab.Lf
set_option maxRecDepth 100000
def uY(y:ak tM):Nat:=y.2.1.length+y.2.2.1.length
def Wg(y:ak tM):Bool:=(List.range (uY y)).all (fun i=>dN y.1 (dP y.2.1 y.2.2.1 (i:Int)))
def Uv(l:den aj):Bool:= !(bif !decide (l.2= -1)then decide (l.2<l.1)else false)
def pGl(g:den aC):Bool:=uM g.2.2 g.1
def pTM(y:ak tM):Bool:=bif decide (1<(y.2.2.2.1.length:Int))then true else decide (1<(y.2.2.2.2.1.length:Int))
def pMx(y:ak tM):Bool:=bif decide ((y.2.2.2.2.1.length:Int)=1)then decide (65536<(y.2.2.2.2.1.getD 0 (ao aj)).2)else false
def th(y:ak tM):Bool:=Wg y&&(!pTM y&&(List.all (y.2.2.2.1++y.2.2.2.2.1) Uv&&(!pMx y&&(List.all y.2.2.2.2.2.1 pGl&&(mNm (y.1,y.2.1,y.2.2.1,y.2.2.2.1,y.2.2.2.2.1,y.2.2.2.2.2.1,y.2.2.2.2.2.2.1,y.2.2.2.2.2.2.2.1,y.2.2.2.2.2.2.2.2.1,y.2.2.2.2.2.2.2.2.2.1,y.2.2.2.2.2.2.2.2.2.2.1,(uY y:Int),())&&aaj y (uY y:Int))))))
set_option maxHeartbeats 2000000 in
theorem aeE{y:ak tM}(h:MOk y):(t19 (y.1,y.2.1,y.2.2.1,y.2.2.2.1,y.2.2.2.2.1,y.2.2.2.2.2.1,y.2.2.2.2.2.2.1,y.2.2.2.2.2.2.2.1,y.2.2.2.2.2.2.2.2.1,y.2.2.2.2.2.2.2.2.2.1,y.2.2.2.2.2.2.2.2.2.2.1,())).val=some (aA wE (th y,())):=by
 have li:=h.li
 have lf:=h.lf
 have lb:=h.lb
 have lm:=h.lm
 have lg:=h.lg
 have hf:cf .i64 (y.2.1.length:Int) (y.2.2.1.length:Int)=(uY y:Int):=Bu (by omega)
 have hpf:uY y<=1024:=by unfold uY;omega
 have r0:=qa (f:=D5) (l:=List.range (uY y)) (fun j=>aA oS ((uY y:Int),y.1,y.2.1,y.2.2.1,y.2.2.2.1,y.2.2.2.2.1,y.2.2.2.2.2.1,y.2.2.2.2.2.2.1,y.2.2.2.2.2.2.2.1,y.2.2.2.2.2.2.2.2.1,y.2.2.2.2.2.2.2.2.2.1,y.2.2.2.2.2.2.2.2.2.2.1,(uY y:Int),(j:Int),())) (fun i=>dN y.1 (dP y.2.1 y.2.2.1 (i:Int))) (aA mg ((uY y:Int),y.1,y.2.1,y.2.2.1,y.2.2.2.1,y.2.2.2.2.1,y.2.2.2.2.2.1,y.2.2.2.2.2.2.1,y.2.2.2.2.2.2.2.1,y.2.2.2.2.2.2.2.2.1,y.2.2.2.2.2.2.2.2.2.1,y.2.2.2.2.2.2.2.2.2.2.1,())) (aA nC (false,())) (fun j x r e=>by
  obtain⟨e1,e2⟩:=dn e 0
  have e3:x=j:=by
   rw[<-e2,List.getD_eq_getElem?_getD,List.getElem?_eq_getElem e1]
   simp
  rw[e3]
  rw[List.length_range]at e1
  have c:(decide ((j:Int)<9223372036854775808)&&decide (y.2.1.length<=1099511627776))=true:=by
   rw[decide_eq_true (by omega),decide_eq_true (by omega)];rfl
  rw[Wd _ _ (D9 h.ty),dY e1,cond_true,c,kA (by omega)]
  cases dN y.1 (dP y.2.1 y.2.2.1 (j:Int))<;>rfl) (by rw[Wd _ _ (D9 h.ty),List.length_range,dj (Nat.le_refl _)];rfl)
 obtain⟨a1,a2,a3,a4⟩:=qb (ti:=oS) (t0:=mg) (t1:=nC) (x:=((uY y:Int),y.1,y.2.1,y.2.2.1,y.2.2.2.1,y.2.2.2.2.1,y.2.2.2.2.2.1,y.2.2.2.2.2.2.1,y.2.2.2.2.2.2.2.1,y.2.2.2.2.2.2.2.2.1,y.2.2.2.2.2.2.2.2.2.1,y.2.2.2.2.2.2.2.2.2.2.1,(uY y:Int),0,())) (u:=((uY y:Int),y.1,y.2.1,y.2.2.1,y.2.2.2.1,y.2.2.2.2.1,y.2.2.2.2.2.1,y.2.2.2.2.2.2.1,y.2.2.2.2.2.2.2.1,y.2.2.2.2.2.2.2.2.1,y.2.2.2.2.2.2.2.2.2.1,y.2.2.2.2.2.2.2.2.2.2.1,())) (v:=(false,())) r0
 have ZW:=jF (aeB [y.2.2.2.1,y.2.2.2.2.1] (by
  show 2+(y.2.2.2.1.length+(y.2.2.2.2.1.length+0))<=_
  omega))
 have e55:(m55 ([y.2.2.2.1,y.2.2.2.2.1],())).1=y.2.2.2.1++y.2.2.2.2.1:=by
  rw[show m55 ([y.2.2.2.1,y.2.2.2.2.1],())=_ from ZW.2]
  simp
 have hll:(y.2.2.2.1++y.2.2.2.2.1).length<=1024:=by rw[List.length_append];omega
 have r2:=qa (f:=Gw) (l:=y.2.2.2.1++y.2.2.2.2.1) (fun j=>aA rb ((uY y:Int),y.1,y.2.1,y.2.2.1,y.2.2.2.1,y.2.2.2.2.1,y.2.2.2.2.2.1,y.2.2.2.2.2.2.1,y.2.2.2.2.2.2.2.1,y.2.2.2.2.2.2.2.2.1,y.2.2.2.2.2.2.2.2.2.1,y.2.2.2.2.2.2.2.2.2.2.1,y.2.2.2.1++y.2.2.2.2.1,((y.2.2.2.1++y.2.2.2.2.1).length:Int),(j:Int),())) Uv (aA nD ((uY y:Int),y.1,y.2.1,y.2.2.1,y.2.2.2.1,y.2.2.2.2.1,y.2.2.2.2.2.1,y.2.2.2.2.2.2.1,y.2.2.2.2.2.2.2.1,y.2.2.2.2.2.2.2.2.1,y.2.2.2.2.2.2.2.2.2.1,y.2.2.2.2.2.2.2.2.2.2.1,())) (aA pZ (false,())) (fun j x r e=>by
  obtain⟨e1,e2⟩:=dn e (ao aj)
  rw[We _ y _ _ _ x (by rw[Int.toNat_natCast];exact e2.symm),dY e1,cond_true,BR e1,kA (by omega)]
  unfold Uv
  cases(bif !decide (x.2= -1)then decide (x.2<x.1)else false)<;>rfl) (by rw[We _ y _ _ _ _ rfl,dj (Nat.le_refl _)];rfl)
 obtain⟨b1,b2,b3,b4⟩:=qb (ti:=rb) (t0:=nD) (t1:=pZ) (x:=((uY y:Int),y.1,y.2.1,y.2.2.1,y.2.2.2.1,y.2.2.2.2.1,y.2.2.2.2.2.1,y.2.2.2.2.2.2.1,y.2.2.2.2.2.2.2.1,y.2.2.2.2.2.2.2.2.1,y.2.2.2.2.2.2.2.2.2.1,y.2.2.2.2.2.2.2.2.2.2.1,y.2.2.2.1++y.2.2.2.2.1,((y.2.2.2.1++y.2.2.2.2.1).length:Int),0,())) (u:=((uY y:Int),y.1,y.2.1,y.2.2.1,y.2.2.2.1,y.2.2.2.2.1,y.2.2.2.2.2.1,y.2.2.2.2.2.2.1,y.2.2.2.2.2.2.2.1,y.2.2.2.2.2.2.2.2.1,y.2.2.2.2.2.2.2.2.2.1,y.2.2.2.2.2.2.2.2.2.2.1,())) (v:=(false,())) r2
 have r4:=qa (f:=Gx) (l:=y.2.2.2.2.2.1) (fun j=>aA rh ((uY y:Int),y.1,y.2.1,y.2.2.1,y.2.2.2.1,y.2.2.2.2.1,y.2.2.2.2.2.1,y.2.2.2.2.2.2.1,y.2.2.2.2.2.2.2.1,y.2.2.2.2.2.2.2.2.1,y.2.2.2.2.2.2.2.2.2.1,y.2.2.2.2.2.2.2.2.2.2.1,y.2.2.2.2.2.1,(y.2.2.2.2.2.1.length:Int),(j:Int),())) pGl (aA nE ((uY y:Int),y.1,y.2.1,y.2.2.1,y.2.2.2.1,y.2.2.2.2.1,y.2.2.2.2.2.1,y.2.2.2.2.2.2.1,y.2.2.2.2.2.2.2.1,y.2.2.2.2.2.2.2.2.1,y.2.2.2.2.2.2.2.2.2.1,y.2.2.2.2.2.2.2.2.2.2.1,())) (aA p8 (false,())) (fun j x r e=>by
  obtain⟨e1,e2⟩:=dn e (ao aC)
  rw[Wf _ y _ _ _ x (by rw[Int.toNat_natCast];exact e2.symm),dY e1,cond_true,BR e1,kA (by omega)]
  unfold pGl
  cases uM x.2.2 x.1<;>rfl) (by rw[Wf _ y _ _ _ _ rfl,dj (Nat.le_refl _)];rfl)
 obtain⟨c1,c2,c3,c4⟩:=qb (ti:=rh) (t0:=nE) (t1:=p8) (x:=((uY y:Int),y.1,y.2.1,y.2.2.1,y.2.2.2.1,y.2.2.2.2.1,y.2.2.2.2.2.1,y.2.2.2.2.2.2.1,y.2.2.2.2.2.2.2.1,y.2.2.2.2.2.2.2.2.1,y.2.2.2.2.2.2.2.2.2.1,y.2.2.2.2.2.2.2.2.2.2.1,y.2.2.2.2.2.1,(y.2.2.2.2.2.1.length:Int),0,())) (u:=((uY y:Int),y.1,y.2.1,y.2.2.1,y.2.2.2.1,y.2.2.2.2.1,y.2.2.2.2.2.1,y.2.2.2.2.2.2.1,y.2.2.2.2.2.2.2.1,y.2.2.2.2.2.2.2.2.1,y.2.2.2.2.2.2.2.2.2.1,y.2.2.2.2.2.2.2.2.2.2.1,())) (v:=(false,())) r4
 have s58:=jF (aeC y (uY y:Int) (by have:=h.le;omega) (by have:=h.ld;omega) (fun e he=>by have:=h.el e he;omega))
 have hN:On (y.1,y.2.1,y.2.2.1,y.2.2.2.1,y.2.2.2.2.1,y.2.2.2.2.2.1,y.2.2.2.2.2.2.1,y.2.2.2.2.2.2.2.1,y.2.2.2.2.2.2.2.2.1,y.2.2.2.2.2.2.2.2.2.1,y.2.2.2.2.2.2.2.2.2.2.1,(uY y:Int),())=true:=by
  have k1:cb (fun e:den aO=>decide (0<=e.2.1)&&decide (e.2.1<=3)) y.2.2.2.2.2.2.1=true:=by
   rw[g7,List.all_eq_true]
   intro e he
   obtain⟨q1,q2⟩:=h.ex e he
   rw[Bool.and_eq_true]
   exact⟨decide_eq_true q1,decide_eq_true q2⟩
  have k2:decide ((y.2.2.2.2.2.2.2.1:Int)<9223372036854775808)=true:=decide_eq_true (Int.lt_trans h.st.2 (by decide))
  have k3:decide (y.2.1.length<=1099511627776)=true:=decide_eq_true (by omega)
  have k4:decide (y.2.2.2.2.2.2.1.length<=1099511627776)=true:=decide_eq_true (by have:=h.lx;omega)
  show(((cb _ _&&((decide _&&decide _)&&decide _))&&Z3 _)&&gT _)=true
  rw[k1,k2,k3,k4,h.x0,D9 h.ty]
  rfl
 have hx:(bif decide ((y.2.2.2.2.1.length:Int)=1)then bg 0 (y.2.2.2.2.1.length:Int)else true)=true:=by
  by_cases q:(y.2.2.2.2.1.length:Int)=1
  ·rw[decide_eq_true q,cond_true];exact BR (j:=0) (by omega)
  ·rw[decide_eq_false q];rfl
 unfold th
 cases hA:Wg y with
 |false=>
  have hA':(List.range (uY y)).all (fun i=>dN y.1 (dP y.2.1 y.2.2.1 (i:Int)))=false:=hA
  rw[hA']at a2
  rw[Ur y _ hf _ rfl _ rfl _ rfl _ rfl _ rfl _ rfl _ rfl,a1,a2,a4 hA']
  rfl
 |true=>
  have hA':(List.range (uY y)).all (fun i=>dN y.1 (dP y.2.1 y.2.2.1 (i:Int)))=true:=hA
  rw[hA']at a2
  cases hB:List.all (y.2.2.2.1++y.2.2.2.2.1) Uv with
  |false=>
   rw[hB]at b2
   rw[Ur y _ hf _ rfl _ (a3 hA').symm _ e55.symm _ rfl _ rfl _ rfl _ rfl,a1,a2]
   unfold pTM
   simp only[cond_true,aS]
   rw[show k55 ([y.2.2.2.1,y.2.2.2.2.1],())=true from ZW.1,b1,b2,b4 hB]
   cases(bif decide (1<(y.2.2.2.1.length:Int))then true else decide (1<(y.2.2.2.2.1.length:Int)))<;>rfl
  |true=>
   rw[hB]at b2
   cases hC:List.all y.2.2.2.2.2.1 pGl with
   |false=>
    rw[hC]at c2
    rw[Ur y _ hf _ rfl _ (a3 hA').symm _ e55.symm _ rfl _ (b3 hB).symm _ rfl _ rfl,a1,a2]
    unfold pTM pMx
    simp only[cond_true,aS]
    rw[show k55 ([y.2.2.2.1,y.2.2.2.2.1],())=true from ZW.1,b1,b2,c1,c2,c4 hC,hx]
    cases(bif decide (1<(y.2.2.2.1.length:Int))then true else decide (1<(y.2.2.2.2.1.length:Int)))<;>cases(bif decide ((y.2.2.2.2.1.length:Int)=1)then decide (65536<(y.2.2.2.2.1.getD 0 (ao aj)).2)else false)<;>rfl
   |true=>
    rw[hC]at c2
    rw[Ur y _ hf _ rfl _ (a3 hA').symm _ e55.symm _ rfl _ (b3 hB).symm _ rfl _ (c3 hC).symm,a1,a2]
    unfold pTM pMx
    simp only[cond_true,aS]
    rw[show k55 ([y.2.2.2.1,y.2.2.2.2.1],())=true from ZW.1,b1,b2,c1,c2,hN,hx,show k58 (y.1,y.2.1,y.2.2.1,y.2.2.2.1,y.2.2.2.2.1,y.2.2.2.2.2.1,y.2.2.2.2.2.2.1,y.2.2.2.2.2.2.2.1,y.2.2.2.2.2.2.2.2.1,y.2.2.2.2.2.2.2.2.2.1,y.2.2.2.2.2.2.2.2.2.2.1,(uY y:Int),())=true from s58.1,show m58 (y.1,y.2.1,y.2.2.1,y.2.2.2.1,y.2.2.2.2.1,y.2.2.2.2.2.1,y.2.2.2.2.2.2.1,y.2.2.2.2.2.2.2.1,y.2.2.2.2.2.2.2.2.1,y.2.2.2.2.2.2.2.2.2.1,y.2.2.2.2.2.2.2.2.2.2.1,(uY y:Int),())=_ from s58.2]
    cases(bif decide (1<(y.2.2.2.1.length:Int))then true else decide (1<(y.2.2.2.2.1.length:Int)))<;>cases(bif decide ((y.2.2.2.2.1.length:Int)=1)then decide (65536<(y.2.2.2.2.1.getD 0 (ao aj)).2)else false)<;>cases mNm (y.1,y.2.1,y.2.2.1,y.2.2.2.1,y.2.2.2.2.1,y.2.2.2.2.2.1,y.2.2.2.2.2.2.1,y.2.2.2.2.2.2.2.1,y.2.2.2.2.2.2.2.2.1,y.2.2.2.2.2.2.2.2.2.1,y.2.2.2.2.2.2.2.2.2.2.1,(uY y:Int),())<;>rfl
def Uw(y:ak tM):Bool:=(List.range y.2.2.2.2.2.2.2.2.2.1.length).all (fun i=>(kF y i).isSome)
def gP(V:ByteArray->Bool)(y:ak tM):Int:=bif !decide (ny V y=0)then ny V y else bif !th y then 12 else bif Uw y then 0 else 12
theorem OO{V:ByteArray->Bool}{y:ak tM}(hE:Gh V y=true)(hx:Z3 y.2.2.2.2.2.2.1=true)(h:ny V y=0):MOk y:=by
 have e:=H7 hE
 unfold ny at h
 rw[e]at h
 cases hP:Ky V y with
 |false=>rw[hP]at h;cases h
 |true=>
  rw[hP]at h
  simp only[Bool.not_true,cond_false]at h
  by_cases q:(16384:Int)<((s0.1++Qi V y).length:Int)
  ·rw[decide_eq_true q]at h;cases h
  ·rw[List.length_append]at q
   exact mok hE hP (by omega) hx
theorem A1{y:ak tM}(h:MOk y){i:Nat}(hi:i<y.2.2.2.2.2.2.2.2.2.1.length):I2 (iq y i):=by
 refine(h.cd (iq y i) ?_).1
 unfold iq
 rw[List.getD_eq_getElem?_getD,List.getElem?_eq_getElem hi]
 exact List.getElem_mem hi
theorem aal{y:ak tM}(h:MOk y){i:Nat}(hi:i<y.2.2.2.2.2.2.2.2.2.1.length):k20 (y.1,y.2.1,y.2.2.1,y.2.2.2.1,y.2.2.2.2.1,y.2.2.2.2.2.1,y.2.2.2.2.2.2.1,y.2.2.2.2.2.2.2.1,y.2.2.2.2.2.2.2.2.1,y.2.2.2.2.2.2.2.2.2.1,y.2.2.2.2.2.2.2.2.2.2.1,(i:Int),())=true/\m20 (y.1,y.2.1,y.2.2.1,y.2.2.2.1,y.2.2.2.2.1,y.2.2.2.2.2.1,y.2.2.2.2.2.2.1,y.2.2.2.2.2.2.2.1,y.2.2.2.2.2.2.2.2.1,y.2.2.2.2.2.2.2.2.2.1,y.2.2.2.2.2.2.2.2.2.2.1,(i:Int),())=((kF y i).getD [],(kF y i).isSome,()):=
 jF (aew h.ty (by have:=h.li;omega) hi (by have:=h.lc;omega) (A1 h hi))
theorem ajL{V:ByteArray->Bool}{y:ak tM}(hE:Gh V y=true)(hx:Z3 y.2.2.2.2.2.2.1=true):(t8 V (y.1,y.2.1,y.2.2.1,y.2.2.2.1,y.2.2.2.2.1,y.2.2.2.2.2.1,y.2.2.2.2.2.2.1,y.2.2.2.2.2.2.2.1,y.2.2.2.2.2.2.2.2.1,y.2.2.2.2.2.2.2.2.2.1,y.2.2.2.2.2.2.2.2.2.2.1,())).val=some (aA Ug (gP V y,())):=by
 rw[eq8]
 have hE':Gh V (y.1,y.2.1,y.2.2.1,y.2.2.2.1,y.2.2.2.2.1,y.2.2.2.2.2.1,y.2.2.2.2.2.2.1,y.2.2.2.2.2.2.2.1,y.2.2.2.2.2.2.2.2.1,y.2.2.2.2.2.2.2.2.2.1,y.2.2.2.2.2.2.2.2.2.2.1,())=true:=hE
 rw[hE']
 unfold gP
 have eY:ny V (y.1,y.2.1,y.2.2.1,y.2.2.2.1,y.2.2.2.2.1,y.2.2.2.2.2.1,y.2.2.2.2.2.2.1,y.2.2.2.2.2.2.2.1,y.2.2.2.2.2.2.2.2.1,y.2.2.2.2.2.2.2.2.2.1,y.2.2.2.2.2.2.2.2.2.2.1,())=ny V y:=rfl
 rw[eY]
 by_cases h0:ny V y=0
 ·rw[h0]
  have h:=OO hE hx h0
  have s19:=jF (aeE h)
  simp only[decide_true,Bool.not_true,cond_false,aS,cond_true]
  rw[show k19 (y.1,y.2.1,y.2.2.1,y.2.2.2.1,y.2.2.2.2.1,y.2.2.2.2.2.1,y.2.2.2.2.2.2.1,y.2.2.2.2.2.2.2.1,y.2.2.2.2.2.2.2.2.1,y.2.2.2.2.2.2.2.2.2.1,y.2.2.2.2.2.2.2.2.2.2.1,())=true from s19.1,show m19 (y.1,y.2.1,y.2.2.1,y.2.2.2.1,y.2.2.2.2.1,y.2.2.2.2.2.1,y.2.2.2.2.2.2.1,y.2.2.2.2.2.2.2.1,y.2.2.2.2.2.2.2.2.1,y.2.2.2.2.2.2.2.2.2.1,y.2.2.2.2.2.2.2.2.2.2.1,())=_ from s19.2,cond_true]
  cases ho:th y with
  |false=>rfl
  |true=>
   simp only[Bool.not_true,cond_false]
   have VC:=h.lc
   have r0:=qa (f:=f8x) (l:=List.range y.2.2.2.2.2.2.2.2.2.1.length) (fun j=>aA BQ (y.1,y.2.1,y.2.2.1,y.2.2.2.1,y.2.2.2.2.1,y.2.2.2.2.2.1,y.2.2.2.2.2.2.1,y.2.2.2.2.2.2.2.1,y.2.2.2.2.2.2.2.2.1,y.2.2.2.2.2.2.2.2.2.1,y.2.2.2.2.2.2.2.2.2.2.1,(y.2.2.2.2.2.2.2.2.2.1.length:Int),(j:Int),())) (fun i=>(kF y i).isSome) (aA vF ()) (aA s9 (12,())) (fun j x r e=>by
    obtain⟨e1,e2⟩:=dn e 0
    have e3:x=j:=by
     rw[<-e2,List.getD_eq_getElem?_getD,List.getElem?_eq_getElem e1]
     simp
    rw[e3]
    rw[List.length_range]at e1
    obtain⟨q1,q2⟩:=aal h e1
    rw[aey,dY e1,cond_true,q1,q2,kA (by omega)]
    cases(kF y j).isSome<;>rfl) (by rw[aey,List.length_range,dj (Nat.le_refl _)];rfl)
   obtain⟨a1,a2,a3,a4⟩:=qb (ti:=BQ) (t0:=vF) (t1:=s9) (x:=(y.1,y.2.1,y.2.2.1,y.2.2.2.1,y.2.2.2.2.1,y.2.2.2.2.2.1,y.2.2.2.2.2.2.1,y.2.2.2.2.2.2.2.1,y.2.2.2.2.2.2.2.2.1,y.2.2.2.2.2.2.2.2.2.1,y.2.2.2.2.2.2.2.2.2.2.1,(y.2.2.2.2.2.2.2.2.2.1.length:Int),0,())) (u:=()) (v:=(12,())) r0
   rw[a1,a2]
   cases hb:Uw y with
   |true=>rw[show(List.range y.2.2.2.2.2.2.2.2.2.1.length).all (fun i=>(kF y i).isSome)=true from hb];rfl
   |false=>rw[a4 hb,show(List.range y.2.2.2.2.2.2.2.2.2.1.length).all (fun i=>(kF y i).isSome)=false from hb];rfl
 ·rw[decide_eq_false h0]
  rfl
end Go.Proofs.Vd

noncomputable section
namespace Go.Ab.Lf
def jU(t:Ty):cQ:=iy (.cons (.im t) .nil) [] (.cons (.ow t) .nil) [.ae t] [.ae t] fun x=>.ck (decide (List.length x.1<=1099511627776)) (.ok (x.1,()))
theorem OP{t:Ty}{x:List (den t)}{r:List Pl}{H:Hq}:gp (.im t) (⟨.ae t,x⟩::r) H=some ([.c H.next (.ae t) x],r,⟨Nat.add H.next 1,H.aL⟩):=by
 unfold gp;simp only[mP]
theorem JW{p:jV}{pl:List Pl}{H H':Hq}{v:List Sv}(h:gp p pl H=some (v,[],H')):gp (.cons p .nil) pl H=some (v,[],H'):=by
 show(match gp p pl H with|some (v,r,H)=>(match gp .nil r H with|some (w,r,H)=>some (app v w,r,H)|none=>none)|none=>none)=_
 rw[h]
 show some (app v [],([]:List Pl),H')=_
 rw[bp,List.append_nil]
def mV{α:Type}(a:α):α:=Classical.choose (⟨a,rfl⟩: ∃ x,x=a)
theorem bW{α:Type}(a:α):mV a=a:=Classical.choose_spec (⟨a,rfl⟩: ∃ x,x=a)
theorem uV{to:List Ty}{t:T (List Pl)}{y:ak to}{k:Bool}{m:ak to}(hk:k=jS to t)(hm:m=e9 to t)(h:t.val=some (aA to y)):k=true/\m=y:=by
 rw[hk,hm]
 exact jF h
end Go.Ab.Lf

noncomputable section
namespace Go.Proofs.Vd
open Go.Ab Go.Ab.Lf
set_option maxRecDepth 100000
theorem kt{α:Type}{c:Bool}{x:Option α}(h:c=true):aS c x=x:=by rw[h];rfl
theorem df{p:Prop}[Decidable p](h: ¬ p):decide p=false:=decide_eq_false h
theorem dt{p:Prop}[Decidable p](h:p):decide p=true:=decide_eq_true h
theorem JX{j:Nat}(h:j<=1099511627776):cf .i64 (j:Int) 1=((j+1:Nat):Int):=kA (by omega)
theorem mX{f:List Pl->Lf.T Rs}(n:Nat)(st:Nat->List Pl)(o0:List Pl)
 (uy: ∀ j,j<n->(f (st j)).val=some (.next (st (j+1))))(Bv:(f (st n)).val=some (.out 0 o0)):gQ f (st 0) 0 o0:=by
 have key: ∀ (k j:Nat),j+k=n->gQ f (st j) 0 o0:=by
  intro k
  induction k with
  |zero=>
   intro j h
   have:j=n:=by omega
   subst this
   exact .last Bv
  |succ k ih=>exact fun j h=>.more (uy j (by omega)) (ih (j+1) (by omega))
 exact key n 0 (by omega)
theorem pd{α:Type}(l:List α)(j:Nat)(d:α)(h:j<l.length):l.set j (l.getD j d)=l:=by
 rw[List.getD_eq_getElem?_getD,List.getElem?_eq_getElem h]
 exact List.set_getElem_self h
theorem gy{α:Type}{l:List α}{j:Nat}(h:j<l.length)(d:α):l.getD j d∈l:=by
 rw[List.getD_eq_getElem?_getD,List.getElem?_eq_getElem h]
 exact List.getElem_mem h
theorem zG{k:Nat}(h:k<18446744073709551616):aV .u64 (k:Int)=(k:Int):=by
 have:aV .u64 (k:Int)=(k:Int) % 18446744073709551616:=rfl
 rw[this];omega
def EqI(a b:Int):Prop:=a=b
end Go.Proofs.Vd

noncomputable section
namespace Go.Proofs.Vd
open Go.Ab Go.Ab.Lf
set_option maxRecDepth 100000
structure WorldS(V:ByteArray->Bool)(aq:aB):Prop extends WorldN V aq where
 c31:(jU aI).Ok 31 aq
 c33:(jU aP).Ok 33 aq
 c34:(jU aj).Ok 34 aq
 c35:(jU aC).Ok 35 aq
 c37:(jU aO).Ok 37 aq
 c38:(jU aD).Ok 38 aq
 c39:(jU aK).Ok 39 aq
 c40:(jU aH).Ok 40 aq
 c41:(jU u8).Ok 41 aq
 c79:(jU tI).Ok 79 aq
abbrev ka:List Ty:=[.ae tI,i64,i64]
abbrev iX:List Ty:=[.ae tI]
def BW:jW:=⟨0,fI Tryz.x36.code 0,[3,8,9],(Ps [.ow tI,.n .i64,.n .i64]),[⟨.lL,[3],(Ps [.ow tI])⟩]⟩
def OQ:List (Nat×cQ):=[(32,VX)]
theorem JY{V:ByteArray->Bool}{aq:aB}(W:WorldS V aq):dh aq OQ:=(.cons W.cl .nil)
def rj:List Pl->Lf.T Rs:=BW.step (fun _=>none) (dH OQ 3) 3
def OR:fE:=pR BW rj ka iX
theorem JZ{V:ByteArray->Bool}{aq:aB}(W:WorldS V aq):ed Rx.w OR (fun n d=>gG (aq n d) n (.bl 0 (.lp BW.body))):=fC (W.toWorld.in (JY W) 3) (aE _) (m:=3) ka iX
def ajM:Nat->Option fE:=pP [(0,OR)]
abbrev Eb:List Ty:=[.ae tI]
abbrev Ec:List Ty:=[.ae tI]
def aeF:List (Nat×cQ):=[(79,jU tI)]
theorem Ux{V:ByteArray->Bool}{aq:aB}(W:WorldS V aq):dh aq aeF:=(.cons W.c79 .nil)
def aan(x:ak Eb):Lf.T (List Pl):=je (Ps [.im tI]) [] (Ps [.ow tI]) ajM Tryz.x36 3 (dH aeF 3) (aA Eb x)
def J0(x:ak Eb):Bool:=mV (jS Ec (aan x))
def J1(x:ak Eb):ak Ec:=mV (e9 Ec (aan x))
def OS:cQ:=iy (Ps [.im tI]) [] (Ps [.ow tI]) Eb Ec fun x=>.ck (J0 x) (.ok (J1 x))
theorem xe{V:ByteArray->Bool}{aq:aB}(W:WorldS V aq):OS.Ok 36 aq:=
 eX (W.toWorld.in (Ux W) 3) (W.toWorld.st 36 _ rfl) rfl (fq.jm (.cons (b:=BW.body) (by kernel_rfl) (JZ W) .nil)) (m:=3) rfl (fun _=>bW _) (fun _=>bW _)
abbrev kb:List Ty:=[.ae aI,.ae aP,.ae i64,.ae aj,.ae aj,.ae aC,.ae aO,i64,.ae aD,.ae aK,.ae aH,.ae aI,.ae aP,.ae i64,.ae aj,.ae aj,.ae aC,.ae aO,i64,.ae aD,.ae aK,.ae aH,i64,i64]
abbrev iY:List Ty:=[.ae aI,.ae aP,.ae i64,.ae aj,.ae aj,.ae aC,.ae aO,i64,.ae aD,.ae aK,.ae aH,.ae aI,.ae aP,.ae i64,.ae aj,.ae aj,.ae aC,.ae aO,i64,.ae aD,.ae aK,.ae aH]
def BX:jW:=⟨0,fI Tryz.VJ.code 0,[1,2,3,19,20,21],(Ps [.pt 0 (Ps [.im aI,.im aP,.im i64,.im aj,.im aj,.im aC,.im aO,.n .i64,.im aD,.im aK,.im aH]),.pt 0 (Ps [.av (.sc (.slice none 0 0)),.av (.sc (.slice none 0 0)),.av (.sc (.slice none 0 0)),.av (.sc (.slice none 0 0)),.av (.sc (.slice none 0 0)),.av (.sc (.slice none 0 0)),.av (.sc (.slice none 0 0)),.li .i64 0,.av (.sc (.slice none 0 0)),.av (.sc (.slice none 0 0)),.av (.sc (.slice none 0 0))]),.pt 0 (Ps [.ow aI,.im aP,.im i64,.im aj,.im aj,.im aC,.im aO,.n .i64,.im aD,.im aK,.im aH]),.oo 13 2,.n .i64,.n .i64]),[⟨.lL,[1,2,3],(Ps [.pt 0 (Ps [.im aI,.im aP,.im i64,.im aj,.im aj,.im aC,.im aO,.n .i64,.im aD,.im aK,.im aH]),.pt 0 (Ps [.av (.sc (.slice none 0 0)),.av (.sc (.slice none 0 0)),.av (.sc (.slice none 0 0)),.av (.sc (.slice none 0 0)),.av (.sc (.slice none 0 0)),.av (.sc (.slice none 0 0)),.av (.sc (.slice none 0 0)),.li .i64 0,.av (.sc (.slice none 0 0)),.av (.sc (.slice none 0 0)),.av (.sc (.slice none 0 0))]),.pt 0 (Ps [.ow aI,.im aP,.im i64,.im aj,.im aj,.im aC,.im aO,.n .i64,.im aD,.im aK,.im aH])])⟩]⟩
def OT:List (Nat×cQ):=[(32,VX)]
theorem J2{V:ByteArray->Bool}{aq:aB}(W:WorldS V aq):dh aq OT:=(.cons W.cl .nil)
def tj:List Pl->Lf.T Rs:=BX.step (fun _=>none) (dH OT 3) 3
def OU:fE:=pR BX tj kb iY
theorem J3{V:ByteArray->Bool}{aq:aB}(W:WorldS V aq):ed Rx.w OU (fun n d=>gG (aq n d) n (.bl 0 (.lp BX.body))):=fC (W.toWorld.in (J2 W) 3) (aE _) (m:=3) kb iY
abbrev ke:List Ty:=[.ae aI,.ae aP,.ae i64,.ae aj,.ae aj,.ae aC,.ae aO,i64,.ae aD,.ae aK,.ae aH,.ae aI,.ae aP,.ae i64,.ae aj,.ae aj,.ae aC,.ae aO,i64,.ae aD,.ae aK,.ae aH,i64,i64]
abbrev iZ:List Ty:=[.ae aI,.ae aP,.ae i64,.ae aj,.ae aj,.ae aC,.ae aO,i64,.ae aD,.ae aK,.ae aH,.ae aI,.ae aP,.ae i64,.ae aj,.ae aj,.ae aC,.ae aO,i64,.ae aD,.ae aK,.ae aH]
def BZ:jW:=⟨2,fI Tryz.VJ.code 2,[1,2,3,60,61],(Ps [.pt 0 (Ps [.im aI,.im aP,.im i64,.im aj,.im aj,.im aC,.im aO,.n .i64,.im aD,.im aK,.im aH]),.pt 0 (Ps [.av (.sc (.slice none 0 0)),.av (.sc (.slice none 0 0)),.av (.sc (.slice none 0 0)),.av (.sc (.slice none 0 0)),.av (.sc (.slice none 0 0)),.av (.sc (.slice none 0 0)),.av (.sc (.slice none 0 0)),.li .i64 0,.av (.sc (.slice none 0 0)),.av (.sc (.slice none 0 0)),.av (.sc (.slice none 0 0))]),.pt 0 (Ps [.im aI,.im aP,.im i64,.im aj,.im aj,.ow aC,.im aO,.n .i64,.im aD,.im aK,.im aH]),.n .i64,.n .i64]),[⟨.lL,[1,2,3],(Ps [.pt 0 (Ps [.im aI,.im aP,.im i64,.im aj,.im aj,.im aC,.im aO,.n .i64,.im aD,.im aK,.im aH]),.pt 0 (Ps [.av (.sc (.slice none 0 0)),.av (.sc (.slice none 0 0)),.av (.sc (.slice none 0 0)),.av (.sc (.slice none 0 0)),.av (.sc (.slice none 0 0)),.av (.sc (.slice none 0 0)),.av (.sc (.slice none 0 0)),.li .i64 0,.av (.sc (.slice none 0 0)),.av (.sc (.slice none 0 0)),.av (.sc (.slice none 0 0))]),.pt 0 (Ps [.im aI,.im aP,.im i64,.im aj,.im aj,.ow aC,.im aO,.n .i64,.im aD,.im aK,.im aH])])⟩]⟩
def OV:List (Nat×cQ):=[(36,OS)]
theorem J4{V:ByteArray->Bool}{aq:aB}(W:WorldS V aq):dh aq OV:=(.cons (xe W) .nil)
def tp:List Pl->Lf.T Rs:=BZ.step (fun _=>none) (dH OV 3) 3
def OW:fE:=pR BZ tp ke iZ
theorem J5{V:ByteArray->Bool}{aq:aB}(W:WorldS V aq):ed Rx.w OW (fun n d=>gG (aq n d) n (.bl 2 (.lp BZ.body))):=fC (W.toWorld.in (J4 W) 3) (aE _) (m:=3) ke iZ
abbrev kf:List Ty:=[.ae aI,.ae aP,.ae i64,.ae aj,.ae aj,.ae aC,.ae aO,i64,.ae aD,.ae aK,.ae aH,.ae aI,.ae aP,.ae i64,.ae aj,.ae aj,.ae aC,.ae aO,i64,.ae aD,.ae aK,.ae aH,i64,i64]
abbrev ja:List Ty:=[.ae aI,.ae aP,.ae i64,.ae aj,.ae aj,.ae aC,.ae aO,i64,.ae aD,.ae aK,.ae aH,.ae aI,.ae aP,.ae i64,.ae aj,.ae aj,.ae aC,.ae aO,i64,.ae aD,.ae aK,.ae aH]
def B0:jW:=⟨4,fI Tryz.VJ.code 4,[1,2,3,86,87,88],(Ps [.pt 0 (Ps [.im aI,.im aP,.im i64,.im aj,.im aj,.im aC,.im aO,.n .i64,.im aD,.im aK,.im aH]),.pt 0 (Ps [.av (.sc (.slice none 0 0)),.av (.sc (.slice none 0 0)),.av (.sc (.slice none 0 0)),.av (.sc (.slice none 0 0)),.av (.sc (.slice none 0 0)),.av (.sc (.slice none 0 0)),.av (.sc (.slice none 0 0)),.li .i64 0,.av (.sc (.slice none 0 0)),.av (.sc (.slice none 0 0)),.av (.sc (.slice none 0 0))]),.pt 0 (Ps [.im aI,.im aP,.im i64,.im aj,.im aj,.im aC,.im aO,.n .i64,.ow aD,.im aK,.im aH]),.oo 20 2,.n .i64,.n .i64]),[⟨.lL,[1,2,3],(Ps [.pt 0 (Ps [.im aI,.im aP,.im i64,.im aj,.im aj,.im aC,.im aO,.n .i64,.im aD,.im aK,.im aH]),.pt 0 (Ps [.av (.sc (.slice none 0 0)),.av (.sc (.slice none 0 0)),.av (.sc (.slice none 0 0)),.av (.sc (.slice none 0 0)),.av (.sc (.slice none 0 0)),.av (.sc (.slice none 0 0)),.av (.sc (.slice none 0 0)),.li .i64 0,.av (.sc (.slice none 0 0)),.av (.sc (.slice none 0 0)),.av (.sc (.slice none 0 0))]),.pt 0 (Ps [.im aI,.im aP,.im i64,.im aj,.im aj,.im aC,.im aO,.n .i64,.ow aD,.im aK,.im aH])])⟩]⟩
def OX:List (Nat×cQ):=[(32,VX),(36,OS)]
theorem J6{V:ByteArray->Bool}{aq:aB}(W:WorldS V aq):dh aq OX:=(.cons W.cl (.cons (xe W) .nil))
def tt:List Pl->Lf.T Rs:=B0.step (fun _=>none) (dH OX 3) 3
def OY:fE:=pR B0 tt kf ja
theorem J7{V:ByteArray->Bool}{aq:aB}(W:WorldS V aq):ed Rx.w OY (fun n d=>gG (aq n d) n (.bl 4 (.lp B0.body))):=fC (W.toWorld.in (J6 W) 3) (aE _) (m:=3) kf ja
abbrev kg:List Ty:=[.ae aI,.ae aP,.ae i64,.ae aj,.ae aj,.ae aC,.ae aO,i64,.ae aD,.ae aK,.ae aH,.ae aI,.ae aP,.ae i64,.ae aj,.ae aj,.ae aC,.ae aO,i64,.ae aD,.ae aK,.ae aH,i64,i64]
abbrev jb:List Ty:=[.ae aI,.ae aP,.ae i64,.ae aj,.ae aj,.ae aC,.ae aO,i64,.ae aD,.ae aK,.ae aH,.ae aI,.ae aP,.ae i64,.ae aj,.ae aj,.ae aC,.ae aO,i64,.ae aD,.ae aK,.ae aH]
def B1:jW:=⟨6,fI Tryz.VJ.code 6,[1,2,3,110,111,112],(Ps [.pt 0 (Ps [.im aI,.im aP,.im i64,.im aj,.im aj,.im aC,.im aO,.n .i64,.im aD,.im aK,.im aH]),.pt 0 (Ps [.av (.sc (.slice none 0 0)),.av (.sc (.slice none 0 0)),.av (.sc (.slice none 0 0)),.av (.sc (.slice none 0 0)),.av (.sc (.slice none 0 0)),.av (.sc (.slice none 0 0)),.av (.sc (.slice none 0 0)),.li .i64 0,.av (.sc (.slice none 0 0)),.av (.sc (.slice none 0 0)),.av (.sc (.slice none 0 0))]),.pt 0 (Ps [.im aI,.im aP,.im i64,.im aj,.im aj,.im aC,.im aO,.n .i64,.im aD,.ow aK,.im aH]),.oo 21 2,.n .i64,.n .i64]),[⟨.lL,[1,2,3],(Ps [.pt 0 (Ps [.im aI,.im aP,.im i64,.im aj,.im aj,.im aC,.im aO,.n .i64,.im aD,.im aK,.im aH]),.pt 0 (Ps [.av (.sc (.slice none 0 0)),.av (.sc (.slice none 0 0)),.av (.sc (.slice none 0 0)),.av (.sc (.slice none 0 0)),.av (.sc (.slice none 0 0)),.av (.sc (.slice none 0 0)),.av (.sc (.slice none 0 0)),.li .i64 0,.av (.sc (.slice none 0 0)),.av (.sc (.slice none 0 0)),.av (.sc (.slice none 0 0))]),.pt 0 (Ps [.im aI,.im aP,.im i64,.im aj,.im aj,.im aC,.im aO,.n .i64,.im aD,.ow aK,.im aH])])⟩]⟩
def OZ:List (Nat×cQ):=[(32,VX),(36,OS)]
theorem J8{V:ByteArray->Bool}{aq:aB}(W:WorldS V aq):dh aq OZ:=(.cons W.cl (.cons (xe W) .nil))
def tv:List Pl->Lf.T Rs:=B1.step (fun _=>none) (dH OZ 3) 3
def O0:fE:=pR B1 tv kg jb
theorem J9{V:ByteArray->Bool}{aq:aB}(W:WorldS V aq):ed Rx.w O0 (fun n d=>gG (aq n d) n (.bl 6 (.lp B1.body))):=fC (W.toWorld.in (J8 W) 3) (aE _) (m:=3) kg jb
abbrev kh:List Ty:=[.ae aI,.ae aP,.ae i64,.ae aj,.ae aj,.ae aC,.ae aO,i64,.ae aD,.ae aK,.ae aH,i64,i64]
abbrev jd:List Ty:=[.ae aI,.ae aP,.ae i64,.ae aj,.ae aj,.ae aC,.ae aO,i64,.ae aD,.ae aK,.ae aH]
def B3:jW:=⟨8,fI Tryz.VJ.code 8,[2,3,134,135,136],(Ps [.pt 0 (Ps [.av (.sc (.slice none 0 0)),.av (.sc (.slice none 0 0)),.av (.sc (.slice none 0 0)),.av (.sc (.slice none 0 0)),.av (.sc (.slice none 0 0)),.av (.sc (.slice none 0 0)),.av (.sc (.slice none 0 0)),.li .i64 0,.av (.sc (.slice none 0 0)),.av (.sc (.slice none 0 0)),.av (.sc (.slice none 0 0))]),.pt 0 (Ps [.im aI,.im aP,.im i64,.im aj,.im aj,.im aC,.im aO,.n .i64,.im aD,.im aK,.ow aH]),.oo 11 2,.n .i64,.n .i64]),[⟨.lL,[2,3],(Ps [.pt 0 (Ps [.av (.sc (.slice none 0 0)),.av (.sc (.slice none 0 0)),.av (.sc (.slice none 0 0)),.av (.sc (.slice none 0 0)),.av (.sc (.slice none 0 0)),.av (.sc (.slice none 0 0)),.av (.sc (.slice none 0 0)),.li .i64 0,.av (.sc (.slice none 0 0)),.av (.sc (.slice none 0 0)),.av (.sc (.slice none 0 0))]),.pt 0 (Ps [.im aI,.im aP,.im i64,.im aj,.im aj,.im aC,.im aO,.n .i64,.im aD,.im aK,.ow aH])])⟩]⟩
def O1:List (Nat×cQ):=[(36,OS),(41,jU u8)]
theorem J'{V:ByteArray->Bool}{aq:aB}(W:WorldS V aq):dh aq O1:=(.cons (xe W) (.cons W.c41 .nil))
def tw:List Pl->Lf.T Rs:=B3.step (fun _=>none) (dH O1 3) 3
def O2:fE:=pR B3 tw kh jd
theorem Ka{V:ByteArray->Bool}{aq:aB}(W:WorldS V aq):ed Rx.w O2 (fun n d=>gG (aq n d) n (.bl 8 (.lp B3.body))):=fC (W.toWorld.in (J' W) 3) (aE _) (m:=3) kh jd
def ajN:Nat->Option fE:=pP [(0,OU),(2,OW),(4,OY),(6,O0),(8,O2)]
abbrev Ed:List Ty:=[.ae aI,.ae aP,.ae i64,.ae aj,.ae aj,.ae aC,.ae aO,i64,.ae aD,.ae aK,.ae aH]
abbrev yO:List Ty:=[.ae aI,.ae aP,.ae i64,.ae aj,.ae aj,.ae aC,.ae aO,i64,.ae aD,.ae aK,.ae aH]
def aeG:List (Nat×cQ):=[(31,jU aI),(33,jU aP),(32,VX),(34,jU aj),(35,jU aC),(37,jU aO),(38,jU aD),(39,jU aK),(40,jU aH)]
theorem Uy{V:ByteArray->Bool}{aq:aB}(W:WorldS V aq):dh aq aeG:=(.cons W.c31 (.cons W.c33 (.cons W.cl (.cons W.c34 (.cons W.c35 (.cons W.c37 (.cons W.c38 (.cons W.c39 (.cons W.c40 .nil)))))))))
def aao(x:ak Ed):Lf.T (List Pl):=je (Ps [.ag (Ps [.im aI,.im aP,.im i64,.im aj,.im aj,.im aC,.im aO,.n .i64,.im aD,.im aK,.im aH])]) [] (Ps [.ag (Ps [.im aI,.im aP,.im i64,.im aj,.im aj,.im aC,.im aO,.n .i64,.im aD,.im aK,.im aH])]) ajN Tryz.VJ 3 (dH aeG 3) (aA Ed x)
def Uz(x:ak Ed):Bool:=mV (jS yO (aao x))
def UA(x:ak Ed):ak yO:=mV (e9 yO (aao x))
def aap:cQ:=iy (Ps [.ag (Ps [.im aI,.im aP,.im i64,.im aj,.im aj,.im aC,.im aO,.n .i64,.im aD,.im aK,.im aH])]) [] (Ps [.ag (Ps [.im aI,.im aP,.im i64,.im aj,.im aj,.im aC,.im aO,.n .i64,.im aD,.im aK,.im aH])]) Ed yO fun x=>.ck (Uz x) (.ok (UA x))
theorem Ie{V:ByteArray->Bool}{aq:aB}(W:WorldS V aq):aap.Ok 19 aq:=
 eX (W.toWorld.in (Uy W) 3) (W.toWorld.st 19 _ rfl) rfl (fq.jm (.cons (b:=BX.body) (by kernel_rfl) (J3 W) (.cons (b:=BZ.body) (by kernel_rfl) (J5 W) (.cons (b:=B0.body) (by kernel_rfl) (J7 W) (.cons (b:=B1.body) (by kernel_rfl) (J9 W) (.cons (b:=B3.body) (by kernel_rfl) (Ka W) .nil)))))) (m:=3) rfl (fun _=>bW _) (fun _=>bW _)
end Go.Proofs.Vd

noncomputable section
namespace Go.Proofs.Vd
open Go.Ab Go.Ab.Lf
set_option maxRecDepth 100000
theorem Ig(l:List (den tI))(n i:Int):(rj (aA ka (l,n,i,()))).val=bif decide (i<n)then aS (bg i (l.length:Int)) (aS (decide (List.length (l.getD i.toNat (ao tI)).2.2.2.2.2<=1099511627776)) (aS (bg i (l.length:Int))
 (some (.next (aA ka (l.set i.toNat ((l.getD i.toNat (ao tI)).1,(l.getD i.toNat (ao tI)).2.1,(l.getD i.toNat (ao tI)).2.2.1,(l.getD i.toNat (ao tI)).2.2.2.1,(l.getD i.toNat (ao tI)).2.2.2.2.1,(l.getD i.toNat (ao tI)).2.2.2.2.2),n,cf .i64 i 1,()))))))else some (.out 0 (aA iX (l,()))):=by kernel_rfl
theorem aeH(l:List (den tI)):(aan (l,())).val=aS (decide (l.length<=1099511627776)) (aS (oB rj ka iX (l,(l.length:Int),0,())) (some (aA Ec (gH rj ka iX (l,(l.length:Int),0,()))))):=by kernel_rfl
theorem Ih(o1:List (den aI))(o2:List (den aP))(o3:List Int)(o4:List (den aj))(o5:List (den aj))(o6:List (den aC))(o7:List (den aO))(o8:Int)(o9:List (den aD))(iR:List (den aK))(ic:List (den aH))(m1:List (den aI))(m2:List (den aP))(m3:List Int)(m4:List (den aj))(m5:List (den aj))(m6:List (den aC))(m7:List (den aO))(m8:Int)(m9:List (den aD))(bK:List (den aK))(bL:List (den aH))(n i:Int):(tj (aA kb (o1,o2,o3,o4,o5,o6,o7,o8,o9,iR,ic,m1,m2,m3,m4,m5,m6,m7,m8,m9,bK,bL,n,i,()))).val=bif decide (i<n)then aS (bg i (m1.length:Int)) (aS (decide (List.length (m1.getD i.toNat (ao aI)).1<=1099511627776)) (aS (decide (List.length (m1.getD i.toNat (ao aI)).2<=1099511627776)) (aS (bg i (m1.length:Int)) (some (.next (aA kb (o1,o2,o3,o4,o5,o6,o7,o8,o9,iR,ic,m1.set i.toNat ((m1.getD i.toNat (ao aI)).1,(m1.getD i.toNat (ao aI)).2),m2,m3,m4,m5,m6,m7,m8,m9,bK,bL,n,cf .i64 i 1,())))))))else some (.out 0 (aA iY (o1,o2,o3,o4,o5,o6,o7,o8,o9,iR,ic,m1,m2,m3,m4,m5,m6,m7,m8,m9,bK,bL,()))):=by kernel_rfl
theorem Ii(o1:List (den aI))(o2:List (den aP))(o3:List Int)(o4:List (den aj))(o5:List (den aj))(o6:List (den aC))(o7:List (den aO))(o8:Int)(o9:List (den aD))(iR:List (den aK))(ic:List (den aH))(m1:List (den aI))(m2:List (den aP))(m3:List Int)(m4:List (den aj))(m5:List (den aj))(m6:List (den aC))(m7:List (den aO))(m8:Int)(m9:List (den aD))(bK:List (den aK))(bL:List (den aH))(n i:Int):(tp (aA ke (o1,o2,o3,o4,o5,o6,o7,o8,o9,iR,ic,m1,m2,m3,m4,m5,m6,m7,m8,m9,bK,bL,n,i,()))).val=bif decide (i<n)then aS (bg i (m6.length:Int)) (aS (J0 ((m6.getD i.toNat (ao aC)).2.2,())) (aS (bg i (m6.length:Int)) (some (.next (aA ke (o1,o2,o3,o4,o5,o6,o7,o8,o9,iR,ic,m1,m2,m3,m4,m5,m6.set i.toNat ((m6.getD i.toNat (ao aC)).1,(m6.getD i.toNat (ao aC)).2.1,(J1 ((m6.getD i.toNat (ao aC)).2.2,())).1),m7,m8,m9,bK,bL,n,cf .i64 i 1,()))))))else some (.out 0 (aA iZ (o1,o2,o3,o4,o5,o6,o7,o8,o9,iR,ic,m1,m2,m3,m4,m5,m6,m7,m8,m9,bK,bL,()))):=by kernel_rfl
theorem Ij(o1:List (den aI))(o2:List (den aP))(o3:List Int)(o4:List (den aj))(o5:List (den aj))(o6:List (den aC))(o7:List (den aO))(o8:Int)(o9:List (den aD))(iR:List (den aK))(ic:List (den aH))(m1:List (den aI))(m2:List (den aP))(m3:List Int)(m4:List (den aj))(m5:List (den aj))(m6:List (den aC))(m7:List (den aO))(m8:Int)(m9:List (den aD))(bK:List (den aK))(bL:List (den aH))(n i:Int):(tt (aA kf (o1,o2,o3,o4,o5,o6,o7,o8,o9,iR,ic,m1,m2,m3,m4,m5,m6,m7,m8,m9,bK,bL,n,i,()))).val=bif decide (i<n)then aS (bg i (m9.length:Int)) (aS (J0 ((m9.getD i.toNat (ao aD)).1,())) (aS (decide (List.length (m9.getD i.toNat (ao aD)).2<=1099511627776)) (aS (bg i (m9.length:Int)) (some (.next (aA kf (o1,o2,o3,o4,o5,o6,o7,o8,o9,iR,ic,m1,m2,m3,m4,m5,m6,m7,m8,m9.set i.toNat ((J1 ((m9.getD i.toNat (ao aD)).1,())).1,(m9.getD i.toNat (ao aD)).2),bK,bL,n,cf .i64 i 1,())))))))else some (.out 0 (aA ja (o1,o2,o3,o4,o5,o6,o7,o8,o9,iR,ic,m1,m2,m3,m4,m5,m6,m7,m8,m9,bK,bL,()))):=by kernel_rfl
theorem Ik(o1:List (den aI))(o2:List (den aP))(o3:List Int)(o4:List (den aj))(o5:List (den aj))(o6:List (den aC))(o7:List (den aO))(o8:Int)(o9:List (den aD))(iR:List (den aK))(ic:List (den aH))(m1:List (den aI))(m2:List (den aP))(m3:List Int)(m4:List (den aj))(m5:List (den aj))(m6:List (den aC))(m7:List (den aO))(m8:Int)(m9:List (den aD))(bK:List (den aK))(bL:List (den aH))(n i:Int):(tv (aA kg (o1,o2,o3,o4,o5,o6,o7,o8,o9,iR,ic,m1,m2,m3,m4,m5,m6,m7,m8,m9,bK,bL,n,i,()))).val=bif decide (i<n)then aS (bg i (bK.length:Int)) (aS (decide (List.length (bK.getD i.toNat (ao aK)).1<=1099511627776)) (aS (J0 ((bK.getD i.toNat (ao aK)).2,())) (aS (bg i (bK.length:Int)) (some (.next (aA kg (o1,o2,o3,o4,o5,o6,o7,o8,o9,iR,ic,m1,m2,m3,m4,m5,m6,m7,m8,m9,bK.set i.toNat ((bK.getD i.toNat (ao aK)).1,(J1 ((bK.getD i.toNat (ao aK)).2,())).1),bL,n,cf .i64 i 1,())))))))else some (.out 0 (aA jb (o1,o2,o3,o4,o5,o6,o7,o8,o9,iR,ic,m1,m2,m3,m4,m5,m6,m7,m8,m9,bK,bL,()))):=by kernel_rfl
theorem Il(m1:List (den aI))(m2:List (den aP))(m3:List Int)(m4:List (den aj))(m5:List (den aj))(m6:List (den aC))(m7:List (den aO))(m8:Int)(m9:List (den aD))(bK:List (den aK))(bL:List (den aH))(n i:Int):(tw (aA kh (m1,m2,m3,m4,m5,m6,m7,m8,m9,bK,bL,n,i,()))).val=bif decide (i<n)then aS (bg i (bL.length:Int)) (aS (J0 ((bL.getD i.toNat (ao aH)).1,())) (aS (decide (List.length (bL.getD i.toNat (ao aH)).2<=1099511627776)) (aS (bg i (bL.length:Int)) (some (.next (aA kh (m1,m2,m3,m4,m5,m6,m7,m8,m9,bK,bL.set i.toNat ((J1 ((bL.getD i.toNat (ao aH)).1,())).1,(bL.getD i.toNat (ao aH)).2),n,cf .i64 i 1,())))))))else some (.out 0 (aA jd (m1,m2,m3,m4,m5,m6,m7,m8,m9,bK,bL,()))):=by kernel_rfl
theorem aeI(m1:List (den aI))(m2:List (den aP))(m3:List Int)(m4:List (den aj))(m5:List (den aj))(m6:List (den aC))(m7:List (den aO))(m8:Int)(m9:List (den aD))(bK:List (den aK))(bL:List (den aH))(X0:ak kb)(hX0:X0=(m1,m2,m3,m4,m5,m6,m7,m8,m9,bK,bL,m1,m2,m3,m4,m5,m6,m7,m8,m9,bK,bL,(m1.length:Int),0,()))(z0:ak iY)(hz0:z0=gH tj kb iY X0)(X1:ak ke)(hX1:X1=(z0.1,z0.2.1,z0.2.2.1,z0.2.2.2.1,z0.2.2.2.2.1,z0.2.2.2.2.2.1,z0.2.2.2.2.2.2.1,z0.2.2.2.2.2.2.2.1,z0.2.2.2.2.2.2.2.2.1,z0.2.2.2.2.2.2.2.2.2.1,z0.2.2.2.2.2.2.2.2.2.2.1,z0.2.2.2.2.2.2.2.2.2.2.2.1,z0.2.1,z0.2.2.1,z0.2.2.2.1,z0.2.2.2.2.1,z0.2.2.2.2.2.1,z0.2.2.2.2.2.2.2.2.2.2.2.2.2.2.2.2.2.1,z0.2.2.2.2.2.2.2.2.2.2.2.2.2.2.2.2.2.2.1,z0.2.2.2.2.2.2.2.2.2.2.2.2.2.2.2.2.2.2.2.1,z0.2.2.2.2.2.2.2.2.2.2.2.2.2.2.2.2.2.2.2.2.1,z0.2.2.2.2.2.2.2.2.2.2.2.2.2.2.2.2.2.2.2.2.2.1,(List.length z0.2.2.2.2.2.1:Int),0,()))(z1:ak iZ)(hz1:z1=gH tp ke iZ X1)(X2:ak kf)(Av:X2=(z1.1,z1.2.1,z1.2.2.1,z1.2.2.2.1,z1.2.2.2.2.1,z1.2.2.2.2.2.1,z1.2.2.2.2.2.2.1,z1.2.2.2.2.2.2.2.1,z1.2.2.2.2.2.2.2.2.1,z1.2.2.2.2.2.2.2.2.2.1,z1.2.2.2.2.2.2.2.2.2.2.1,z1.2.2.2.2.2.2.2.2.2.2.2.1,z1.2.2.2.2.2.2.2.2.2.2.2.2.1,z1.2.2.2.2.2.2.2.2.2.2.2.2.2.1,z1.2.2.2.2.2.2.2.2.2.2.2.2.2.2.1,z1.2.2.2.2.2.2.2.2.2.2.2.2.2.2.2.1,z1.2.2.2.2.2.2.2.2.2.2.2.2.2.2.2.2.1,z1.2.2.2.2.2.2.1,z1.2.2.2.2.2.2.2.2.2.2.2.2.2.2.2.2.2.2.1,z1.2.2.2.2.2.2.2.2.1,z1.2.2.2.2.2.2.2.2.2.2.2.2.2.2.2.2.2.2.2.2.1,z1.2.2.2.2.2.2.2.2.2.2.2.2.2.2.2.2.2.2.2.2.2.1,(List.length z1.2.2.2.2.2.2.2.2.1:Int),0,()))(z2:ak ja)(hz2:z2=gH tt kf ja X2)(X3:ak kg)(hX3:X3=(z2.1,z2.2.1,z2.2.2.1,z2.2.2.2.1,z2.2.2.2.2.1,z2.2.2.2.2.2.1,z2.2.2.2.2.2.2.1,z2.2.2.2.2.2.2.2.1,z2.2.2.2.2.2.2.2.2.1,z2.2.2.2.2.2.2.2.2.2.1,z2.2.2.2.2.2.2.2.2.2.2.1,z2.2.2.2.2.2.2.2.2.2.2.2.1,z2.2.2.2.2.2.2.2.2.2.2.2.2.1,z2.2.2.2.2.2.2.2.2.2.2.2.2.2.1,z2.2.2.2.2.2.2.2.2.2.2.2.2.2.2.1,z2.2.2.2.2.2.2.2.2.2.2.2.2.2.2.2.1,z2.2.2.2.2.2.2.2.2.2.2.2.2.2.2.2.2.1,z2.2.2.2.2.2.2.2.2.2.2.2.2.2.2.2.2.2.1,z2.2.2.2.2.2.2.2.2.2.2.2.2.2.2.2.2.2.2.1,z2.2.2.2.2.2.2.2.2.2.2.2.2.2.2.2.2.2.2.2.1,z2.2.2.2.2.2.2.2.2.2.1,z2.2.2.2.2.2.2.2.2.2.2.2.2.2.2.2.2.2.2.2.2.2.1,(List.length z2.2.2.2.2.2.2.2.2.2.1:Int),0,()))(z3:ak jb)(hz3:z3=gH tv kg jb X3)(X4:ak kh)(GG:X4=(z3.2.2.2.2.2.2.2.2.2.2.2.1,z3.2.2.2.2.2.2.2.2.2.2.2.2.1,z3.2.2.2.2.2.2.2.2.2.2.2.2.2.1,z3.2.2.2.2.2.2.2.2.2.2.2.2.2.2.1,z3.2.2.2.2.2.2.2.2.2.2.2.2.2.2.2.1,z3.2.2.2.2.2.2.2.2.2.2.2.2.2.2.2.2.1,z3.2.2.2.2.2.2.2.2.2.2.2.2.2.2.2.2.2.1,z3.2.2.2.2.2.2.2.2.2.2.2.2.2.2.2.2.2.2.1,z3.2.2.2.2.2.2.2.2.2.2.2.2.2.2.2.2.2.2.2.1,z3.2.2.2.2.2.2.2.2.2.2.2.2.2.2.2.2.2.2.2.2.1,z3.2.2.2.2.2.2.2.2.2.2.1,(List.length z3.2.2.2.2.2.2.2.2.2.2.1:Int),0,()))(z4:ak jd)(hz4:z4=gH tw kh jd X4):(aao (m1,m2,m3,m4,m5,m6,m7,m8,m9,bK,bL,())).val=aS (decide (List.length m1<=1099511627776)) (aS (oB tj kb iY X0) (aS (decide (List.length z0.2.1<=1099511627776)) (aS (decide (List.length z0.2.2.1<=1099511627776)) (aS (decide (List.length z0.2.2.2.1<=1099511627776)) (aS (decide (List.length z0.2.2.2.2.1<=1099511627776)) (aS (decide (List.length z0.2.2.2.2.2.1<=1099511627776)) (aS (oB tp ke iZ X1) (aS (decide (List.length z1.2.2.2.2.2.2.1<=1099511627776)) (aS (decide (List.length z1.2.2.2.2.2.2.2.2.1<=1099511627776)) (aS (oB tt kf ja X2) (aS (decide (List.length z2.2.2.2.2.2.2.2.2.2.1<=1099511627776)) (aS (oB tv kg jb X3) (aS (decide (List.length z3.2.2.2.2.2.2.2.2.2.2.1<=1099511627776)) (aS (oB tw kh jd X4) (some (aA yO z4)))))))))))))))):=by
 subst hz4;subst GG
 subst hz3;subst hX3
 subst hz2;subst Av
 subst hz1;subst hX1
 subst hz0;subst hX0
 kernel_rfl
end Go.Proofs.Vd

noncomputable section
namespace Go.Proofs.Vd
open Go.Ab Go.Ab.Lf
set_option maxRecDepth 100000
def LI(l:List (den tI)):Prop:=l.length<=1099511627776/\ ∀ x:den tI,x∈l->x.2.2.2.2.2.length<=1099511627776
theorem aaq(l:List (den tI))(h:LI l):gQ rj (aA ka (l,(l.length:Int),((0:Nat):Int),())) 0 (aA iX (l,())):=by
 refine mX l.length (fun j=>aA ka (l,(l.length:Int),(j:Int),())) _ (fun j hj=>?_) ?_
 ·refine(Ig l (l.length:Int) (j:Int)).trans ?_
  rw[Int.toNat_natCast,dt (show(j:Int)<(l.length:Int) by omega),show bg (j:Int) (l.length:Int)=true from bZ hj,JX (by have:=h.1;omega),dt (h.2 _ (gy hj _))]
  rw[show l.set j ((l.getD j (ao tI)).1,(l.getD j (ao tI)).2.1,(l.getD j (ao tI)).2.2.1,(l.getD j (ao tI)).2.2.2.1,(l.getD j (ao tI)).2.2.2.2.1,(l.getD j (ao tI)).2.2.2.2.2)=l from pd l j (ao tI) hj]
  rfl
 ·refine(Ig l (l.length:Int) (l.length:Int)).trans ?_
  rw[df (show ¬ (l.length:Int)<(l.length:Int) by omega)]
  rfl
theorem Ee(l:List (den tI))(h:LI l):J0 (l,())=true/\J1 (l,())=(l,()):=by
 refine uV (bW _) (bW _) ?_
 have r:=aaq l h
 obtain⟨q1,q2⟩:=jN (f:=rj) (ti:=ka) (to:=iX) r
 refine(aeH l).trans ?_
 rw[dt h.1,show oB rj ka iX (l,(l.length:Int),0,())=true from q1,show gH rj ka iX (l,(l.length:Int),0,())=_ from q2]
 rfl
structure MB(m1:List (den aI))(m2:List (den aP))(m3:List Int)(m4:List (den aj))(m5:List (den aj))(m6:List (den aC))(m7:List (den aO))(m8:Int)(m9:List (den aD))(bK:List (den aK))(bL:List (den aH)):Prop where
 l1:m1.length<=1099511627776
 l2:m2.length<=1099511627776
 l3:m3.length<=1099511627776
 l4:m4.length<=1099511627776
 l5:m5.length<=1099511627776
 l6:m6.length<=1099511627776
 l7:m7.length<=1099511627776
 l9:m9.length<=1099511627776
 l10:bK.length<=1099511627776
 Kv:bL.length<=1099511627776
 t: ∀ x:den aI,x∈m1->x.1.length<=1099511627776/\x.2.length<=1099511627776
 g: ∀ x:den aC,x∈m6->LI x.2.2
 e: ∀ x:den aD,x∈m9->LI x.1/\x.2.length<=1099511627776
 c: ∀ x:den aK,x∈bK->x.1.length<=1099511627776/\LI x.2
 d: ∀ x:den aH,x∈bL->LI x.1/\x.2.length<=1099511627776
section
variable (m1:List (den aI))(m2:List (den aP))(m3:List Int)(m4:List (den aj))(m5:List (den aj))(m6:List (den aC))(m7:List (den aO))(m8:Int)(m9:List (den aD))(bK:List (den aK))(bL:List (den aH))
theorem aar(o1:List (den aI))(o2:List (den aP))(o3:List Int)(o4:List (den aj))(o5:List (den aj))(o6:List (den aC))(o7:List (den aO))(o8:Int)(o9:List (den aD))(iR:List (den aK))(ic:List (den aH))(H:MB m1 m2 m3 m4 m5 m6 m7 m8 m9 bK bL):gQ tj (aA kb (o1,o2,o3,o4,o5,o6,o7,o8,o9,iR,ic,m1,m2,m3,m4,m5,m6,m7,m8,m9,bK,bL,(m1.length:Int),((0:Nat):Int),())) 0 (aA iY (o1,o2,o3,o4,o5,o6,o7,o8,o9,iR,ic,m1,m2,m3,m4,m5,m6,m7,m8,m9,bK,bL,())):=by
 refine mX m1.length (fun j=>aA kb (o1,o2,o3,o4,o5,o6,o7,o8,o9,iR,ic,m1,m2,m3,m4,m5,m6,m7,m8,m9,bK,bL,(m1.length:Int),(j:Int),())) _ (fun j hj=>?_) ?_
 ·have hx:=H.t _ (gy hj (ao aI))
  refine(Ih o1 o2 o3 o4 o5 o6 o7 o8 o9 iR ic m1 m2 m3 m4 m5 m6 m7 m8 m9 bK bL (m1.length:Int) (j:Int)).trans ?_
  rw[Int.toNat_natCast,dt (show(j:Int)<(m1.length:Int) by omega),show bg (j:Int) (m1.length:Int)=true from bZ hj,JX (by have:=H.l1;omega),dt hx.1,dt hx.2]
  rw[show m1.set j ((m1.getD j (ao aI)).1,(m1.getD j (ao aI)).2)=m1 from pd m1 j (ao aI) hj]
  rfl
 ·refine(Ih o1 o2 o3 o4 o5 o6 o7 o8 o9 iR ic m1 m2 m3 m4 m5 m6 m7 m8 m9 bK bL (m1.length:Int) (m1.length:Int)).trans ?_
  rw[df (show ¬ (m1.length:Int)<(m1.length:Int) by omega)]
  rfl
theorem aas(o1:List (den aI))(o2:List (den aP))(o3:List Int)(o4:List (den aj))(o5:List (den aj))(o6:List (den aC))(o7:List (den aO))(o8:Int)(o9:List (den aD))(iR:List (den aK))(ic:List (den aH))(H:MB m1 m2 m3 m4 m5 m6 m7 m8 m9 bK bL):gQ tp (aA ke (o1,o2,o3,o4,o5,o6,o7,o8,o9,iR,ic,m1,m2,m3,m4,m5,m6,m7,m8,m9,bK,bL,(m6.length:Int),((0:Nat):Int),())) 0 (aA iZ (o1,o2,o3,o4,o5,o6,o7,o8,o9,iR,ic,m1,m2,m3,m4,m5,m6,m7,m8,m9,bK,bL,())):=by
 refine mX m6.length (fun j=>aA ke (o1,o2,o3,o4,o5,o6,o7,o8,o9,iR,ic,m1,m2,m3,m4,m5,m6,m7,m8,m9,bK,bL,(m6.length:Int),(j:Int),())) _ (fun j hj=>?_) ?_
 ·have hx:=H.g _ (gy hj (ao aC))
  refine(Ii o1 o2 o3 o4 o5 o6 o7 o8 o9 iR ic m1 m2 m3 m4 m5 m6 m7 m8 m9 bK bL (m6.length:Int) (j:Int)).trans ?_
  rw[Int.toNat_natCast,dt (show(j:Int)<(m6.length:Int) by omega),show bg (j:Int) (m6.length:Int)=true from bZ hj,JX (by have:=H.l6;omega),(Ee _ hx).1,(Ee _ hx).2]
  rw[show m6.set j ((m6.getD j (ao aC)).1,(m6.getD j (ao aC)).2.1,(m6.getD j (ao aC)).2.2)=m6 from pd m6 j (ao aC) hj]
  rfl
 ·refine(Ii o1 o2 o3 o4 o5 o6 o7 o8 o9 iR ic m1 m2 m3 m4 m5 m6 m7 m8 m9 bK bL (m6.length:Int) (m6.length:Int)).trans ?_
  rw[df (show ¬ (m6.length:Int)<(m6.length:Int) by omega)]
  rfl
theorem aau(o1:List (den aI))(o2:List (den aP))(o3:List Int)(o4:List (den aj))(o5:List (den aj))(o6:List (den aC))(o7:List (den aO))(o8:Int)(o9:List (den aD))(iR:List (den aK))(ic:List (den aH))(H:MB m1 m2 m3 m4 m5 m6 m7 m8 m9 bK bL):gQ tt (aA kf (o1,o2,o3,o4,o5,o6,o7,o8,o9,iR,ic,m1,m2,m3,m4,m5,m6,m7,m8,m9,bK,bL,(m9.length:Int),((0:Nat):Int),())) 0 (aA ja (o1,o2,o3,o4,o5,o6,o7,o8,o9,iR,ic,m1,m2,m3,m4,m5,m6,m7,m8,m9,bK,bL,())):=by
 refine mX m9.length (fun j=>aA kf (o1,o2,o3,o4,o5,o6,o7,o8,o9,iR,ic,m1,m2,m3,m4,m5,m6,m7,m8,m9,bK,bL,(m9.length:Int),(j:Int),())) _ (fun j hj=>?_) ?_
 ·have hx:=H.e _ (gy hj (ao aD))
  refine(Ij o1 o2 o3 o4 o5 o6 o7 o8 o9 iR ic m1 m2 m3 m4 m5 m6 m7 m8 m9 bK bL (m9.length:Int) (j:Int)).trans ?_
  rw[Int.toNat_natCast,dt (show(j:Int)<(m9.length:Int) by omega),show bg (j:Int) (m9.length:Int)=true from bZ hj,JX (by have:=H.l9;omega),(Ee _ hx.1).1,(Ee _ hx.1).2,dt hx.2]
  rw[show m9.set j ((m9.getD j (ao aD)).1,(m9.getD j (ao aD)).2)=m9 from pd m9 j (ao aD) hj]
  rfl
 ·refine(Ij o1 o2 o3 o4 o5 o6 o7 o8 o9 iR ic m1 m2 m3 m4 m5 m6 m7 m8 m9 bK bL (m9.length:Int) (m9.length:Int)).trans ?_
  rw[df (show ¬ (m9.length:Int)<(m9.length:Int) by omega)]
  rfl
theorem aav(o1:List (den aI))(o2:List (den aP))(o3:List Int)(o4:List (den aj))(o5:List (den aj))(o6:List (den aC))(o7:List (den aO))(o8:Int)(o9:List (den aD))(iR:List (den aK))(ic:List (den aH))(H:MB m1 m2 m3 m4 m5 m6 m7 m8 m9 bK bL):gQ tv (aA kg (o1,o2,o3,o4,o5,o6,o7,o8,o9,iR,ic,m1,m2,m3,m4,m5,m6,m7,m8,m9,bK,bL,(bK.length:Int),((0:Nat):Int),())) 0 (aA jb (o1,o2,o3,o4,o5,o6,o7,o8,o9,iR,ic,m1,m2,m3,m4,m5,m6,m7,m8,m9,bK,bL,())):=by
 refine mX bK.length (fun j=>aA kg (o1,o2,o3,o4,o5,o6,o7,o8,o9,iR,ic,m1,m2,m3,m4,m5,m6,m7,m8,m9,bK,bL,(bK.length:Int),(j:Int),())) _ (fun j hj=>?_) ?_
 ·have hx:=H.c _ (gy hj (ao aK))
  refine(Ik o1 o2 o3 o4 o5 o6 o7 o8 o9 iR ic m1 m2 m3 m4 m5 m6 m7 m8 m9 bK bL (bK.length:Int) (j:Int)).trans ?_
  rw[Int.toNat_natCast,dt (show(j:Int)<(bK.length:Int) by omega),show bg (j:Int) (bK.length:Int)=true from bZ hj,JX (by have:=H.l10;omega),(Ee _ hx.2).1,(Ee _ hx.2).2,dt hx.1]
  rw[show bK.set j ((bK.getD j (ao aK)).1,(bK.getD j (ao aK)).2)=bK from pd bK j (ao aK) hj]
  rfl
 ·refine(Ik o1 o2 o3 o4 o5 o6 o7 o8 o9 iR ic m1 m2 m3 m4 m5 m6 m7 m8 m9 bK bL (bK.length:Int) (bK.length:Int)).trans ?_
  rw[df (show ¬ (bK.length:Int)<(bK.length:Int) by omega)]
  rfl
theorem aaw(H:MB m1 m2 m3 m4 m5 m6 m7 m8 m9 bK bL):gQ tw (aA kh (m1,m2,m3,m4,m5,m6,m7,m8,m9,bK,bL,(bL.length:Int),((0:Nat):Int),())) 0 (aA jd (m1,m2,m3,m4,m5,m6,m7,m8,m9,bK,bL,())):=by
 refine mX bL.length (fun j=>aA kh (m1,m2,m3,m4,m5,m6,m7,m8,m9,bK,bL,(bL.length:Int),(j:Int),())) _ (fun j hj=>?_) ?_
 ·have hx:=H.d _ (gy hj (ao aH))
  refine(Il m1 m2 m3 m4 m5 m6 m7 m8 m9 bK bL (bL.length:Int) (j:Int)).trans ?_
  rw[Int.toNat_natCast,dt (show(j:Int)<(bL.length:Int) by omega),show bg (j:Int) (bL.length:Int)=true from bZ hj,JX (by have:=H.Kv;omega),(Ee _ hx.1).1,(Ee _ hx.1).2,dt hx.2]
  rw[show bL.set j ((bL.getD j (ao aH)).1,(bL.getD j (ao aH)).2)=bL from pd bL j (ao aH) hj]
  rfl
 ·refine(Il m1 m2 m3 m4 m5 m6 m7 m8 m9 bK bL (bL.length:Int) (bL.length:Int)).trans ?_
  rw[df (show ¬ (bL.length:Int)<(bL.length:Int) by omega)]
  rfl
theorem aax(H:MB m1 m2 m3 m4 m5 m6 m7 m8 m9 bK bL):Uz (m1,m2,m3,m4,m5,m6,m7,m8,m9,bK,bL,())=true/\UA (m1,m2,m3,m4,m5,m6,m7,m8,m9,bK,bL,())=(m1,m2,m3,m4,m5,m6,m7,m8,m9,bK,bL,()):=by
 have q0:=jN (f:=tj) (ti:=kb) (to:=iY) (aar m1 m2 m3 m4 m5 m6 m7 m8 m9 bK bL m1 m2 m3 m4 m5 m6 m7 m8 m9 bK bL H)
 have q2:=jN (f:=tp) (ti:=ke) (to:=iZ) (aas m1 m2 m3 m4 m5 m6 m7 m8 m9 bK bL m1 m2 m3 m4 m5 m6 m7 m8 m9 bK bL H)
 have q4:=jN (f:=tt) (ti:=kf) (to:=ja) (aau m1 m2 m3 m4 m5 m6 m7 m8 m9 bK bL m1 m2 m3 m4 m5 m6 m7 m8 m9 bK bL H)
 have q6:=jN (f:=tv) (ti:=kg) (to:=jb) (aav m1 m2 m3 m4 m5 m6 m7 m8 m9 bK bL m1 m2 m3 m4 m5 m6 m7 m8 m9 bK bL H)
 have q8:=jN (f:=tw) (ti:=kh) (to:=jd) (aaw m1 m2 m3 m4 m5 m6 m7 m8 m9 bK bL H)
 refine uV (bW _) (bW _) ?_
 refine(aeI m1 m2 m3 m4 m5 m6 m7 m8 m9 bK bL _ rfl (m1,m2,m3,m4,m5,m6,m7,m8,m9,bK,bL,m1,m2,m3,m4,m5,m6,m7,m8,m9,bK,bL,()) q0.2.symm _ rfl (m1,m2,m3,m4,m5,m6,m7,m8,m9,bK,bL,m1,m2,m3,m4,m5,m6,m7,m8,m9,bK,bL,()) q2.2.symm _ rfl (m1,m2,m3,m4,m5,m6,m7,m8,m9,bK,bL,m1,m2,m3,m4,m5,m6,m7,m8,m9,bK,bL,()) q4.2.symm _ rfl (m1,m2,m3,m4,m5,m6,m7,m8,m9,bK,bL,m1,m2,m3,m4,m5,m6,m7,m8,m9,bK,bL,()) q6.2.symm _ rfl (m1,m2,m3,m4,m5,m6,m7,m8,m9,bK,bL,()) q8.2.symm).trans ?_
 dsimp only
 rw[dt H.l1,dt H.l2,dt H.l3,dt H.l4,dt H.l5,dt H.l6,dt H.l7,dt H.l9,dt H.l10,dt H.Kv,show oB tj kb iY (m1,m2,m3,m4,m5,m6,m7,m8,m9,bK,bL,m1,m2,m3,m4,m5,m6,m7,m8,m9,bK,bL,(m1.length:Int),0,())=true from q0.1,show oB tp ke iZ (m1,m2,m3,m4,m5,m6,m7,m8,m9,bK,bL,m1,m2,m3,m4,m5,m6,m7,m8,m9,bK,bL,(m6.length:Int),0,())=true from q2.1,show oB tt kf ja (m1,m2,m3,m4,m5,m6,m7,m8,m9,bK,bL,m1,m2,m3,m4,m5,m6,m7,m8,m9,bK,bL,(m9.length:Int),0,())=true from q4.1,show oB tv kg jb (m1,m2,m3,m4,m5,m6,m7,m8,m9,bK,bL,m1,m2,m3,m4,m5,m6,m7,m8,m9,bK,bL,(bK.length:Int),0,())=true from q6.1,show oB tw kh jd (m1,m2,m3,m4,m5,m6,m7,m8,m9,bK,bL,(bL.length:Int),0,())=true from q8.1]
 rfl
end
end Go.Proofs.Vd

noncomputable section
namespace Go.Proofs.Vd
open Go.Ab Go.Ab.Lf
set_option maxRecDepth 100000
theorem yP{P:jV}{ptr:List Nat}{Q:jV}{ti to:List Ty}{g:ak ti->Lf.T (ak to)}{pl q:List Pl}(h:((iy P ptr Q ti to g).f pl).val=some q): ∃ x y,pl=aA ti x/\(g x).val=some y/\q=aA to y:=by
 change (match toT ti pl with|some x=>(g x).map (aA to)|none=>.bad).val=some q at h
 split at h
 ·rename_i x hx
  obtain⟨y,h1,h2⟩:=T.HM h
  exact⟨x,y,qS hx,h1,h2⟩
 ·cases h
theorem vH{P:jV}{ptr:List Nat}{Q:jV}{ti to:List Ty}{g:ak ti->Lf.T (ak to)}{x:ak ti}{y:ak to}(h:(g x).val=some y):((iy P ptr Q ti to g).f (aA ti x)).val=some (aA to y):=by
 show(match toT ti (aA ti x)with|some x=>(g x).map (aA to)|none=>.bad).val=_
 rw[pQ]
 show((g x).bd fun a=>Lf.T.ok (aA to a)).val=_
 rw[Lf.T.Mx,h]
 rfl
def Wh(V:ByteArray->Bool)(y:ak tM):Bool:=Gh V y&&Z3 y.2.2.2.2.2.2.1
def s8c(V:ByteArray->Bool):cQ:=iy (Ps [pM]) [] (Ps [.n .i64]) tM [i64] fun y=>.ck (Wh V y) (.ok (gP V y,()))
theorem B4{V:ByteArray->Bool}{aq:aB}(W:WorldN V aq):(s8c V).Ok 9 aq:=by
 intro pl q args H0 E0 h az e hP hv hS
 obtain⟨x,y,rfl,h1,rfl⟩:=yP e
 obtain⟨h2,h3⟩:=Lf.T.aY h1
 injection h3 with h3
 obtain⟨y1,y2,y3,y4,y5,y6,y7,y8,y9,y10,y11,⟨⟩⟩:=x
 unfold Wh at h2
 rw[Bool.and_eq_true]at h2
 have s:=jF (ajL (V:=V) (y:=(y1,y2,y3,y4,y5,y6,y7,y8,y9,y10,y11,())) h2.1 h2.2)
 refine aeb W _ _ args H0 E0 h az (vH (g:=fun x=>.ck (k8 V x) (.ok (m8 V x))) (y:=y) ?_) hP hv hS
 show(bif k8 V _ then some (m8 V _)else none)=some y
 rw[show k8 V (y1,y2,y3,y4,y5,y6,y7,y8,y9,y10,y11,())=true from s.1,show m8 V (y1,y2,y3,y4,y5,y6,y7,y8,y9,y10,y11,())=_ from s.2,<-h3]
 rfl
end Go.Proofs.Vd

noncomputable section
namespace Go.Proofs.Vd
open Go.Ab Go.Ab.Lf
set_option maxRecDepth 100000
abbrev kO:List Ty:=[.ae i64,i64]
abbrev pe:List Ty:=[.ae i64]
def B5:jW:=⟨0,fI Tryz.x21.code 0,[7,8],(Ps [.ow i64,.n .i64]),[⟨.lL,[7],(Ps [.ow i64])⟩]⟩
def O3:List (Nat×cQ):=[]
theorem Kb{V:ByteArray->Bool}{aq:aB}(W:WorldS V aq):dh aq O3:=.nil
def B6:List Pl->Lf.T Rs:=B5.step (fun _=>none) (dH O3 3) 3
def O4:fE:=pR B5 B6 kO pe
theorem Kc{V:ByteArray->Bool}{aq:aB}(W:WorldS V aq):ed Rx.w O4 (fun n d=>gG (aq n d) n (.bl 0 (.lp B5.body))):=fC (W.toWorld.in (Kb W) 3) (aE _) (m:=3) kO pe
def ajQ:Nat->Option fE:=pP [(0,O4)]
abbrev Ef:List Ty:=[.ae i64,i64]
abbrev Eg:List Ty:=[.ae i64]
def aeL:List (Nat×cQ):=[]
theorem UB{V:ByteArray->Bool}{aq:aB}(W:WorldS V aq):dh aq aeL:=.nil
def aay(x:ak Ef):Lf.T (List Pl):=je (Ps [.im i64,.n .i64]) [] (Ps [.ow i64]) ajQ Tryz.x21 3 (dH aeL 3) (aA Ef x)
def Ke(x:ak Ef):Bool:=mV (jS Eg (aay x))
def Kf(x:ak Ef):ak Eg:=mV (e9 Eg (aay x))
def aaz:cQ:=iy (Ps [.im i64,.n .i64]) [] (Ps [.ow i64]) Ef Eg fun x=>.ck (Ke x) (.ok (Kf x))
theorem Im{V:ByteArray->Bool}{aq:aB}(W:WorldS V aq):aaz.Ok 21 aq:=
 eX (W.toWorld.in (UB W) 3) (W.toWorld.st 21 _ rfl) rfl (fq.jm (.cons (b:=B5.body) (by kernel_rfl) (Kc W) .nil)) (m:=3) rfl (fun _=>bW _) (fun _=>bW _)
abbrev gz:List Ty:=[.ae aI,.ae aP,.ae i64,.ae aj,.ae aj,.ae aC,.ae aO,i64,.ae aD,.ae aK,.ae aH,.ae u64,.ae i64,.ae i64,.ae aI,.ae aP,.ae i64,.ae aj,.ae aj,.ae aC,.ae aO,i64,.ae aD,.ae aK,.ae aH,.ae aC,i64,i64]
abbrev fx:List Ty:=[.ae aI,.ae aP,.ae i64,.ae aj,.ae aj,.ae aC,.ae aO,i64,.ae aD,.ae aK,.ae aH,.ae u64,.ae i64,.ae i64,.ae aI,.ae aP,.ae i64,.ae aj,.ae aj,.ae aC,.ae aO,i64,.ae aD,.ae aK,.ae aH]
def Eh:jW:=⟨0,fI Tryz.x8.code 0,[1,5,22,23,24],(Ps [.pt 0 (Ps [.im aI,.im aP,.im i64,.im aj,.im aj,.im aC,.im aO,.n .i64,.im aD,.im aK,.im aH]),.pt 0 (Ps [.ow u64,.ow i64,.ow i64,.av (.sc (.slice none 0 0)),.im aI,.im aP,.im i64,.im aj,.im aj,.im aC,.im aO,.n .i64,.im aD,.im aK,.im aH,.av (.sc (.pointer none))]),.im aC,.n .i64,.n .i64]),[⟨.lL,[1,5],(Ps [.pt 0 (Ps [.im aI,.im aP,.im i64,.im aj,.im aj,.im aC,.im aO,.n .i64,.im aD,.im aK,.im aH]),.pt 0 (Ps [.ow u64,.ow i64,.ow i64,.av (.sc (.slice none 0 0)),.im aI,.im aP,.im i64,.im aj,.im aj,.im aC,.im aO,.n .i64,.im aD,.im aK,.im aH,.av (.sc (.pointer none))])])⟩]⟩
def Wi:List (Nat×cQ):=[]
theorem O5{V:ByteArray->Bool}{aq:aB}(W:WorldS V aq):dh aq Wi:=.nil
def sC:List Pl->Lf.T Rs:=Eh.step (fun _=>none) (dH Wi 3) 3
def Wj:fE:=pR Eh sC gz fx
theorem Ei{V:ByteArray->Bool}{aq:aB}(W:WorldS V aq):ed Rx.w Wj (fun n d=>gG (aq n d) n (.bl 0 (.lp Eh.body))):=fC (W.toWorld.in (O5 W) 3) (aE _) (m:=3) gz fx
abbrev cN:List Ty:=[.ae aI,.ae aP,.ae i64,.ae aj,.ae aj,.ae aC,.ae aO,i64,.ae aD,.ae aK,.ae aH,.ae u64,.ae i64,.ae i64,.ae i64,.ae aI,.ae aP,.ae i64,.ae aj,.ae aj,.ae aC,.ae aO,i64,.ae aD,.ae aK,.ae aH,.ae u8,i64,.ae aD,i64,i64]
abbrev dD:List Ty:=[.ae aI,.ae aP,.ae i64,.ae aj,.ae aj,.ae aC,.ae aO,i64,.ae aD,.ae aK,.ae aH,.ae u64,.ae i64,.ae i64,.ae i64,.ae aI,.ae aP,.ae i64,.ae aj,.ae aj,.ae aC,.ae aO,i64,.ae aD,.ae aK,.ae aH,.ae u8,i64]
abbrev ey:List Ty:=[i64]
def Ej:jW:=⟨2,fI Tryz.x8.code 2,[1,5,76,77,78],(Ps [.pt 0 (Ps [.im aI,.im aP,.im i64,.im aj,.im aj,.im aC,.im aO,.n .i64,.im aD,.im aK,.im aH]),.pt 0 (Ps [.ow u64,.ow i64,.ow i64,.ow i64,.im aI,.im aP,.im i64,.im aj,.im aj,.im aC,.im aO,.n .i64,.im aD,.im aK,.im aH,.pt 0 (Ps [.ow u8,.n .i64])]),.im aD,.n .i64,.n .i64]),[⟨.lL,[1,5],(Ps [.pt 0 (Ps [.im aI,.im aP,.im i64,.im aj,.im aj,.im aC,.im aO,.n .i64,.im aD,.im aK,.im aH]),.pt 0 (Ps [.ow u64,.ow i64,.ow i64,.ow i64,.im aI,.im aP,.im i64,.im aj,.im aj,.im aC,.im aO,.n .i64,.im aD,.im aK,.im aH,.pt 0 (Ps [.ow u8,.n .i64])])])⟩,⟨.rt,[2,3],(Ps [.av (.sc (.pointer none)),.n .i64])⟩]⟩
def Wk:List (Nat×cQ):=[]
theorem O6{V:ByteArray->Bool}{aq:aB}(W:WorldS V aq):dh aq Wk:=.nil
def fH:List Pl->Lf.T Rs:=Ej.step (fun _=>none) (dH Wk 3) 3
def Wl:fE:=vw Ej fH cN dD ey
theorem Ek{V:ByteArray->Bool}{aq:aB}(W:WorldS V aq):ed Rx.w Wl (fun n d=>gG (aq n d) n (.bl 2 (.lp Ej.body))):=jx (W.toWorld.in (O6 W) 3) (aE _) (m:=3) cN dD ey
abbrev dz:List Ty:=[.ae u64,.ae i64,.ae i64,.ae i64,.ae aI,.ae aP,.ae i64,.ae aj,.ae aj,.ae aC,.ae aO,i64,.ae aD,.ae aK,.ae aH,.ae u8,i64,.ae aH,i64,i64]
abbrev dV:List Ty:=[.ae u64,.ae i64,.ae i64,.ae i64,.ae aI,.ae aP,.ae i64,.ae aj,.ae aj,.ae aC,.ae aO,i64,.ae aD,.ae aK,.ae aH,.ae u8,i64]
abbrev fy:List Ty:=[i64]
def El:jW:=⟨4,fI Tryz.x8.code 4,[5,96,97,98],(Ps [.pt 0 (Ps [.ow u64,.ow i64,.ow i64,.ow i64,.im aI,.im aP,.im i64,.im aj,.im aj,.im aC,.im aO,.n .i64,.im aD,.im aK,.im aH,.pt 0 (Ps [.ow u8,.n .i64])]),.im aH,.n .i64,.n .i64]),[⟨.lL,[5],(Ps [.pt 0 (Ps [.ow u64,.ow i64,.ow i64,.ow i64,.im aI,.im aP,.im i64,.im aj,.im aj,.im aC,.im aO,.n .i64,.im aD,.im aK,.im aH,.pt 0 (Ps [.ow u8,.n .i64])])])⟩,⟨.rt,[2,3],(Ps [.av (.sc (.pointer none)),.n .i64])⟩]⟩
def Wm:List (Nat×cQ):=[]
theorem O7{V:ByteArray->Bool}{aq:aB}(W:WorldS V aq):dh aq Wm:=.nil
def gJ:List Pl->Lf.T Rs:=El.step (fun _=>none) (dH Wm 3) 3
def Wn:fE:=vw El gJ dz dV fy
theorem Em{V:ByteArray->Bool}{aq:aB}(W:WorldS V aq):ed Rx.w Wn (fun n d=>gG (aq n d) n (.bl 4 (.lp El.body))):=jx (W.toWorld.in (O7 W) 3) (aE _) (m:=3) dz dV fy
def Lz8:Nat->Option fE:=pP [(0,Wj),(2,Wl),(4,Wn)]
abbrev O8:List Ty:=[.ae aI,.ae aP,.ae i64,.ae aj,.ae aj,.ae aC,.ae aO,i64,.ae aD,.ae aK,.ae aH]
abbrev GH:List Ty:=[.ae u64,.ae i64,.ae i64,.ae i64,.ae aI,.ae aP,.ae i64,.ae aj,.ae aj,.ae aC,.ae aO,i64,.ae aD,.ae aK,.ae aH,.ae u8,i64,i64]
def ez8(V:ByteArray->Bool):List (Nat×cQ):=[(9,s8c V),(19,aap),(21,aaz)]
theorem aaA{V:ByteArray->Bool}{aq:aB}(W:WorldS V aq):dh aq (ez8 V):=(.cons (B4 W.toWorldN) (.cons (Ie W) (.cons (Im W) .nil)))
def tz8(V:ByteArray->Bool)(x:ak O8):Lf.T (List Pl):=je (Ps [.ag (Ps [.im aI,.im aP,.im i64,.im aj,.im aj,.im aC,.im aO,.n .i64,.im aD,.im aK,.im aH])]) [] (Ps [.tu (Ps [.pt 0 (Ps [.ow u64,.im i64,.im i64,.ow i64,.im aI,.im aP,.im i64,.im aj,.im aj,.im aC,.im aO,.n .i64,.im aD,.im aK,.im aH,.pt 0 (Ps [.ow u8,.n .i64])]),.n .i64])]) Lz8 Tryz.x8 3 (dH (ez8 V) 3) (aA O8 x)
def kz8(V:ByteArray->Bool)(x:ak O8):Bool:=mV (jS GH (tz8 V x))
def mz8(V:ByteArray->Bool)(x:ak O8):ak GH:=mV (e9 GH (tz8 V x))
def sz8(V:ByteArray->Bool):cQ:=iy (Ps [.ag (Ps [.im aI,.im aP,.im i64,.im aj,.im aj,.im aC,.im aO,.n .i64,.im aD,.im aK,.im aH])]) [] (Ps [.tu (Ps [.pt 0 (Ps [.ow u64,.im i64,.im i64,.ow i64,.im aI,.im aP,.im i64,.im aj,.im aj,.im aC,.im aO,.n .i64,.im aD,.im aK,.im aH,.pt 0 (Ps [.ow u8,.n .i64])]),.n .i64])]) O8 GH fun x=>.ck (kz8 V x) (.ok (mz8 V x))
theorem aaB{V:ByteArray->Bool}{aq:aB}(W:WorldS V aq):(sz8 V).Ok 8 aq:=
 eX (W.toWorld.in (aaA W) 3) (W.toWorld.st 8 _ rfl) rfl (fq.jm (.cons (b:=Eh.body) (by kernel_rfl) (Ei W) (.cons (b:=Ej.body) (by kernel_rfl) (Ek W) (.cons (b:=El.body) (by kernel_rfl) (Em W) .nil)))) (m:=3) rfl (fun _=>bW _) (fun _=>bW _)
abbrev O9:List Ty:=[.ae aI,.ae aP,.ae i64,.ae aj,.ae aj,.ae aC,.ae aO,i64,.ae aD,.ae aK,.ae aH]
abbrev B7:List Ty:=[i64]
def ey8(V:ByteArray->Bool):List (Nat×cQ):=[(9,s8c V),(19,aap),(21,aaz)]
theorem aaC{V:ByteArray->Bool}{aq:aB}(W:WorldS V aq):dh aq (ey8 V):=(.cons (B4 W.toWorldN) (.cons (Ie W) (.cons (Im W) .nil)))
def ty8(V:ByteArray->Bool)(x:ak O9):Lf.T (List Pl):=je (Ps [.ag (Ps [.im aI,.im aP,.im i64,.im aj,.im aj,.im aC,.im aO,.n .i64,.im aD,.im aK,.im aH])]) [] (Ps [.tu (Ps [.av (.sc (.pointer none)),.n .i64])]) Lz8 Tryz.x8 3 (dH (ey8 V) 3) (aA O9 x)
def ky8(V:ByteArray->Bool)(x:ak O9):Bool:=mV (jS B7 (ty8 V x))
def my8(V:ByteArray->Bool)(x:ak O9):ak B7:=mV (e9 B7 (ty8 V x))
def sy8(V:ByteArray->Bool):cQ:=iy (Ps [.ag (Ps [.im aI,.im aP,.im i64,.im aj,.im aj,.im aC,.im aO,.n .i64,.im aD,.im aK,.im aH])]) [] (Ps [.tu (Ps [.av (.sc (.pointer none)),.n .i64])]) O9 B7 fun x=>.ck (ky8 V x) (.ok (my8 V x))
theorem aaE{V:ByteArray->Bool}{aq:aB}(W:WorldS V aq):(sy8 V).Ok 8 aq:=
 eX (W.toWorld.in (aaC W) 3) (W.toWorld.st 8 _ rfl) rfl (fq.jm (.cons (b:=Eh.body) (by kernel_rfl) (Ei W) (.cons (b:=Ej.body) (by kernel_rfl) (Ek W) (.cons (b:=El.body) (by kernel_rfl) (Em W) .nil)))) (m:=3) rfl (fun _=>bW _) (fun _=>bW _)
end Go.Proofs.Vd

noncomputable section
namespace Go.Proofs.Vd
open Go.Ab Go.Ab.Lf
set_option maxRecDepth 100000
abbrev B8{α:Type}(x:List α)(p:Nat)(n:Nat)(y:List α):List α:=app (List.take p x) (app (List.take (min y.length n) y) (List.drop (Nat.add p (min y.length n)) x))
theorem O'(o1:List (den aI))(o2:List (den aP))(o3:List Int)(o4:List (den aj))(o5:List (den aj))(o6:List (den aC))(o7:List (den aO))(o8:Int)(o9:List (den aD))(iR:List (den aK))(ic:List (den aH))(m1:List (den aI))(m2:List (den aP))(m3:List Int)(m4:List (den aj))(m5:List (den aj))(m6:List (den aC))(m7:List (den aO))(m8:Int)(m9:List (den aD))(bK:List (den aK))(bL:List (den aH))(v a b:List Int)(G:List (den aC))(n i:Int):(sC (aA gz (o1,o2,o3,o4,o5,o6,o7,o8,o9,iR,ic,v,a,b,m1,m2,m3,m4,m5,m6,m7,m8,m9,bK,bL,G,n,i,()))).val=bif decide (i<n)then aS (bg i (G.length:Int)) (aS (bg 0 (List.length (G.getD i.toNat (ao aC)).2.2:Int)) (aS (roomy 8 (b.length+[(v.length:Int)].length)) (bif decide ((G.getD i.toNat (ao aC)).1=127)then aS (roomy 8 (v.length+[(List.getD (G.getD i.toNat (ao aC)).2.2 (0:Int).toNat (ao tI)).2.2.2.1].length)) (aS (roomy 8 (a.length+[(1:Int)].length)) (bif decide ((G.getD i.toNat (ao aC)).1=123)then aS (roomy 8 ((app v [(List.getD (G.getD i.toNat (ao aC)).2.2 (0:Int).toNat (ao tI)).2.2.2.1]).length+[(List.getD (G.getD i.toNat (ao aC)).2.2 (0:Int).toNat (ao tI)).2.2.2.2.1].length)) (aS (roomy 8 ((app a [1]).length+[(0:Int)].length)) (some (.next (aA gz (o1,o2,o3,o4,o5,o6,o7,o8,o9,iR,ic,app (app v [(List.getD (G.getD i.toNat (ao aC)).2.2 (0:Int).toNat (ao tI)).2.2.2.1]) [(List.getD (G.getD i.toNat (ao aC)).2.2 (0:Int).toNat (ao tI)).2.2.2.2.1],app (app a [1]) [0],app b [(v.length:Int)],m1,m2,m3,m4,m5,m6,m7,m8,m9,bK,bL,G,n,cf .i64 i 1,())))))else some (.next (aA gz (o1,o2,o3,o4,o5,o6,o7,o8,o9,iR,ic,app v [(List.getD (G.getD i.toNat (ao aC)).2.2 (0:Int).toNat (ao tI)).2.2.2.1],app a [1],app b [(v.length:Int)],m1,m2,m3,m4,m5,m6,m7,m8,m9,bK,bL,G,n,cf .i64 i 1,())))))else aS (roomy 8 (v.length+[(List.getD (G.getD i.toNat (ao aC)).2.2 (0:Int).toNat (ao tI)).2.2.2.1].length)) (aS (roomy 8 (a.length+[(0:Int)].length)) (bif decide ((G.getD i.toNat (ao aC)).1=123)then aS (roomy 8 ((app v [(List.getD (G.getD i.toNat (ao aC)).2.2 (0:Int).toNat (ao tI)).2.2.2.1]).length+[(List.getD (G.getD i.toNat (ao aC)).2.2 (0:Int).toNat (ao tI)).2.2.2.2.1].length)) (aS (roomy 8 ((app a [0]).length+[(0:Int)].length)) (some (.next (aA gz (o1,o2,o3,o4,o5,o6,o7,o8,o9,iR,ic,app (app v [(List.getD (G.getD i.toNat (ao aC)).2.2 (0:Int).toNat (ao tI)).2.2.2.1]) [(List.getD (G.getD i.toNat (ao aC)).2.2 (0:Int).toNat (ao tI)).2.2.2.2.1],app (app a [0]) [0],app b [(v.length:Int)],m1,m2,m3,m4,m5,m6,m7,m8,m9,bK,bL,G,n,cf .i64 i 1,())))))else some (.next (aA gz (o1,o2,o3,o4,o5,o6,o7,o8,o9,iR,ic,app v [(List.getD (G.getD i.toNat (ao aC)).2.2 (0:Int).toNat (ao tI)).2.2.2.1],app a [0],app b [(v.length:Int)],m1,m2,m3,m4,m5,m6,m7,m8,m9,bK,bL,G,n,cf .i64 i 1,()))))))))else some (.out 0 (aA fx (o1,o2,o3,o4,o5,o6,o7,o8,o9,iR,ic,v,a,b,m1,m2,m3,m4,m5,m6,m7,m8,m9,bK,bL,()))):=by kernel_rfl
theorem Pa(o1:List (den aI))(o2:List (den aP))(o3:List Int)(o4:List (den aj))(o5:List (den aj))(o6:List (den aC))(o7:List (den aO))(o8:Int)(o9:List (den aD))(iR:List (den aK))(ic:List (den aH))(m1:List (den aI))(m2:List (den aP))(m3:List Int)(m4:List (den aj))(m5:List (den aj))(m6:List (den aC))(m7:List (den aO))(m8:Int)(m9:List (den aD))(bK:List (den aK))(bL:List (den aH))(v a b tab bs:List Int)(mo:Int)(G:List (den aD))(n i:Int):(fH (aA cN (o1,o2,o3,o4,o5,o6,o7,o8,o9,iR,ic,v,a,b,tab,m1,m2,m3,m4,m5,m6,m7,m8,m9,bK,bL,bs,mo,G,n,i,()))).val=bif decide (i<n)then aS (bg i (G.length:Int)) (aS (bg 0 (List.length (G.getD i.toNat (ao aD)).1:Int)) (bif decide (aV .u64 (tab.length:Int)<cf .u64 (List.getD (G.getD i.toNat (ao aD)).1 (0:Int).toNat (ao tI)).2.2.2.1 (aV .u64 (List.length (G.getD i.toNat (ao aD)).2:Int)))then some (.out 1 (aA ey (13,())))else aS (eL (List.getD (G.getD i.toNat (ao aD)).1 (0:Int).toNat (ao tI)).2.2.2.1 (tab.length:Int) (tab.length:Int)) (some (.next (aA cN (o1,o2,o3,o4,o5,o6,o7,o8,o9,iR,ic,v,a,b,B8 tab (Int.toNat (List.getD (G.getD i.toNat (ao aD)).1 (0:Int).toNat (ao tI)).2.2.2.1) ((tab.length:Int).toNat - Int.toNat (List.getD (G.getD i.toNat (ao aD)).1 (0:Int).toNat (ao tI)).2.2.2.1) (G.getD i.toNat (ao aD)).2,m1,m2,m3,m4,m5,m6,m7,m8,m9,bK,bL,bs,mo,G,n,cf .i64 i 1,()))))))else some (.out 0 (aA dD (o1,o2,o3,o4,o5,o6,o7,o8,o9,iR,ic,v,a,b,tab,m1,m2,m3,m4,m5,m6,m7,m8,m9,bK,bL,bs,mo,()))):=by kernel_rfl
theorem Pb(m1:List (den aI))(m2:List (den aP))(m3:List Int)(m4:List (den aj))(m5:List (den aj))(m6:List (den aC))(m7:List (den aO))(m8:Int)(m9:List (den aD))(bK:List (den aK))(bL:List (den aH))(v a b tab bs:List Int)(mo:Int)(G:List (den aH))(n i:Int):(gJ (aA dz (v,a,b,tab,m1,m2,m3,m4,m5,m6,m7,m8,m9,bK,bL,bs,mo,G,n,i,()))).val=bif decide (i<n)then aS (bg i (G.length:Int)) (aS (bg 0 (List.length (G.getD i.toNat (ao aH)).1:Int)) (bif !(bif decide (aV .u64 (List.length (G.getD i.toNat (ao aH)).2:Int)<=aV .u64 (bs.length:Int))then decide ((List.getD (G.getD i.toNat (ao aH)).1 (0:Int).toNat (ao tI)).2.2.2.1<=bO .u64 (aV .u64 (bs.length:Int)) (aV .u64 (List.length (G.getD i.toNat (ao aH)).2:Int)))else false)then some (.out 1 (aA fy (14,())))else aS (eL (List.getD (G.getD i.toNat (ao aH)).1 (0:Int).toNat (ao tI)).2.2.2.1 (bs.length:Int) (bs.length:Int)) (some (.next (aA dz (v,a,b,tab,m1,m2,m3,m4,m5,m6,m7,m8,m9,bK,bL,B8 bs (Int.toNat (List.getD (G.getD i.toNat (ao aH)).1 (0:Int).toNat (ao tI)).2.2.2.1) ((bs.length:Int).toNat - Int.toNat (List.getD (G.getD i.toNat (ao aH)).1 (0:Int).toNat (ao tI)).2.2.2.1) (G.getD i.toNat (ao aH)).2,mo,G,n,cf .i64 i 1,()))))))else some (.out 0 (aA dV (v,a,b,tab,m1,m2,m3,m4,m5,m6,m7,m8,m9,bK,bL,bs,mo,()))):=by kernel_rfl
end Go.Proofs.Vd

noncomputable section
namespace Go.Proofs.Vd
open Go.Ab Go.Ab.Lf
set_option maxRecDepth 100000
abbrev B9(V:ByteArray->Bool)(m1:List (den aI))(m2:List (den aP))(m3:List Int)(m4:List (den aj))(m5:List (den aj))(m6:List (den aC))(m7:List (den aO))(m8:Int)(m9:List (den aD))(bK:List (den aK))(bL:List (den aH))(z:ak fx)(jg:den aj)(tab:List Int):Option (List Pl):=
 let X2:ak cN:=(z.1,z.2.1,z.2.2.1,z.2.2.2.1,z.2.2.2.2.1,z.2.2.2.2.2.1,z.2.2.2.2.2.2.1,z.2.2.2.2.2.2.2.1,z.2.2.2.2.2.2.2.2.1,z.2.2.2.2.2.2.2.2.2.1,z.2.2.2.2.2.2.2.2.2.2.1,z.2.2.2.2.2.2.2.2.2.2.2.1,z.2.2.2.2.2.2.2.2.2.2.2.2.1,z.2.2.2.2.2.2.2.2.2.2.2.2.2.1,tab,z.2.2.2.2.2.2.2.2.2.2.2.2.2.2.1,z.2.2.2.2.2.2.2.2.2.2.2.2.2.2.2.1,z.2.2.2.2.2.2.2.2.2.2.2.2.2.2.2.2.1,z.2.2.2.2.2.2.2.2.2.2.2.2.2.2.2.2.2.1,z.2.2.2.2.2.2.2.2.2.2.2.2.2.2.2.2.2.2.1,z.2.2.2.2.2.2.2.2.2.2.2.2.2.2.2.2.2.2.2.1,z.2.2.2.2.2.2.2.2.2.2.2.2.2.2.2.2.2.2.2.2.1,z.2.2.2.2.2.2.2.2.2.2.2.2.2.2.2.2.2.2.2.2.2.1,z.2.2.2.2.2.2.2.2.2.2.2.2.2.2.2.2.2.2.2.2.2.2.1,z.2.2.2.2.2.2.2.2.2.2.2.2.2.2.2.2.2.2.2.2.2.2.2.1,z.2.2.2.2.2.2.2.2.2.2.2.2.2.2.2.2.2.2.2.2.2.2.2.2.1,List.replicate (xQ .i64 jg.1 65536).toNat 0,jg.2,z.2.2.2.2.2.2.2.2.1,(List.length z.2.2.2.2.2.2.2.2.1:Int),0,())
 let w:=gH fH cN dD X2
 let X4:ak dz:=(w.2.2.2.2.2.2.2.2.2.2.2.1,w.2.2.2.2.2.2.2.2.2.2.2.2.1,w.2.2.2.2.2.2.2.2.2.2.2.2.2.1,w.2.2.2.2.2.2.2.2.2.2.2.2.2.2.1,w.2.2.2.2.2.2.2.2.2.2.2.2.2.2.2.1,w.2.2.2.2.2.2.2.2.2.2.2.2.2.2.2.2.1,w.2.2.2.2.2.2.2.2.2.2.2.2.2.2.2.2.2.1,w.2.2.2.2.2.2.2.2.2.2.2.2.2.2.2.2.2.2.1,w.2.2.2.2.2.2.2.2.2.2.2.2.2.2.2.2.2.2.2.1,w.2.2.2.2.2.2.2.2.2.2.2.2.2.2.2.2.2.2.2.2.1,w.2.2.2.2.2.2.2.2.2.2.2.2.2.2.2.2.2.2.2.2.2.1,w.2.2.2.2.2.2.2.2.2.2.2.2.2.2.2.2.2.2.2.2.2.2.1,w.2.2.2.2.2.2.2.2.2.2.2.2.2.2.2.2.2.2.2.2.2.2.2.1,w.2.2.2.2.2.2.2.2.2.2.2.2.2.2.2.2.2.2.2.2.2.2.2.2.1,w.2.2.2.2.2.2.2.2.2.2.2.2.2.2.2.2.2.2.2.2.2.2.2.2.2.1,w.2.2.2.2.2.2.2.2.2.2.2.2.2.2.2.2.2.2.2.2.2.2.2.2.2.2.1,w.2.2.2.2.2.2.2.2.2.2.2.2.2.2.2.2.2.2.2.2.2.2.2.2.2.2.2.1,w.2.2.2.2.2.2.2.2.2.2.1,(List.length w.2.2.2.2.2.2.2.2.2.2.1:Int),0,())
 let u:=gH gJ dz dV X4
 bif decide ((0:Int)<(List.length z.2.2.2.2.1:Int))then aS (bg 0 (List.length z.2.2.2.2.1:Int)) (aS (bg 0 (List.length z.2.2.2.2.1:Int)) (
  bif decide (jg.1<0)then none else bif decide (jg.2< -1)then none else bif (bif decide ((0:Int)<=jg.2)then decide (jg.2<jg.1)else false)then none else bif decide (16<jg.1)then none else
  aS (decide ((0:Int)<=xQ .i64 jg.1 65536)&&decide (xQ .i64 jg.1 65536<=xQ .i64 jg.1 65536)&&decide ((xQ .i64 jg.1 65536).toNat*1<=70368744177664)) (
  aS (rG fH cN dD ey X2) (bif qw fH cN X2 then aS (rG gJ dz dV fy X4) (bif qw gJ dz X4 then some (aA GH (u.1,u.2.1,u.2.2.1,u.2.2.2.1,u.2.2.2.2.1,u.2.2.2.2.2.1,u.2.2.2.2.2.2.1,u.2.2.2.2.2.2.2.1,u.2.2.2.2.2.2.2.2.1,u.2.2.2.2.2.2.2.2.2.1,u.2.2.2.2.2.2.2.2.2.2.1,u.2.2.2.2.2.2.2.2.2.2.2.1,u.2.2.2.2.2.2.2.2.2.2.2.2.1,u.2.2.2.2.2.2.2.2.2.2.2.2.2.1,u.2.2.2.2.2.2.2.2.2.2.2.2.2.2.1,u.2.2.2.2.2.2.2.2.2.2.2.2.2.2.2.1,u.2.2.2.2.2.2.2.2.2.2.2.2.2.2.2.2.1,0,()))else none)else none))))
 else none
theorem ajV(V:ByteArray->Bool)(m1:List (den aI))(m2:List (den aP))(m3:List Int)(m4:List (den aj))(m5:List (den aj))(m6:List (den aC))(m7:List (den aO))(m8:Int)(m9:List (den aD))(bK:List (den aK))(bL:List (den aH))(c:ak yO)(hc:c=UA (m1,m2,m3,m4,m5,m6,m7,m8,m9,bK,bL,()))(X0:ak gz)(hX0:X0=(m1,m2,m3,m4,m5,m6,m7,m8,m9,bK,bL,[],[],[],c.1,c.2.1,c.2.2.1,c.2.2.2.1,c.2.2.2.2.1,c.2.2.2.2.2.1,c.2.2.2.2.2.2.1,c.2.2.2.2.2.2.2.1,c.2.2.2.2.2.2.2.2.1,c.2.2.2.2.2.2.2.2.2.1,c.2.2.2.2.2.2.2.2.2.2.1,m6,(m6.length:Int),0,()))(z:ak fx)(hz:z=gH sC gz fx X0)(jg:den aj)(aaF:jg=List.getD z.2.2.2.2.1 (0:Int).toNat (ao aj)):(tz8 V (m1,m2,m3,m4,m5,m6,m7,m8,m9,bK,bL,())).val=aS (Wh V (m1,m2,m3,m4,m5,m6,m7,m8,m9,bK,bL,())) (bif !decide (gP V (m1,m2,m3,m4,m5,m6,m7,m8,m9,bK,bL,())=0)then none else aS (Uz (m1,m2,m3,m4,m5,m6,m7,m8,m9,bK,bL,())) (aS (oB sC gz fx X0) (
 bif decide ((0:Int)<(List.length z.2.2.2.1:Int))then aS (bg 0 (List.length z.2.2.2.1:Int)) (aS (Ke ([-1],(List.getD z.2.2.2.1 (0:Int).toNat (ao aj)).1,())) (B9 V m1 m2 m3 m4 m5 m6 m7 m8 m9 bK bL z jg (Kf ([-1],(List.getD z.2.2.2.1 (0:Int).toNat (ao aj)).1,())).1))else B9 V m1 m2 m3 m4 m5 m6 m7 m8 m9 bK bL z jg []))):=by
 subst aaF;subst hz;subst hX0;subst hc
 kernel_rfl
end Go.Proofs.Vd

noncomputable section
namespace Go.Proofs.Vd
open Go.Ab Go.Ab.Lf
set_option maxRecDepth 100000
abbrev yQ(V:ByteArray->Bool)(m1:List (den aI))(m2:List (den aP))(m3:List Int)(m4:List (den aj))(m5:List (den aj))(m6:List (den aC))(m7:List (den aO))(m8:Int)(m9:List (den aD))(bK:List (den aK))(bL:List (den aH))(z:ak fx)(jg:den aj)(tab:List Int):Option (List Pl):=
 let X2:ak cN:=(z.1,z.2.1,z.2.2.1,z.2.2.2.1,z.2.2.2.2.1,z.2.2.2.2.2.1,z.2.2.2.2.2.2.1,z.2.2.2.2.2.2.2.1,z.2.2.2.2.2.2.2.2.1,z.2.2.2.2.2.2.2.2.2.1,z.2.2.2.2.2.2.2.2.2.2.1,z.2.2.2.2.2.2.2.2.2.2.2.1,z.2.2.2.2.2.2.2.2.2.2.2.2.1,z.2.2.2.2.2.2.2.2.2.2.2.2.2.1,tab,z.2.2.2.2.2.2.2.2.2.2.2.2.2.2.1,z.2.2.2.2.2.2.2.2.2.2.2.2.2.2.2.1,z.2.2.2.2.2.2.2.2.2.2.2.2.2.2.2.2.1,z.2.2.2.2.2.2.2.2.2.2.2.2.2.2.2.2.2.1,z.2.2.2.2.2.2.2.2.2.2.2.2.2.2.2.2.2.2.1,z.2.2.2.2.2.2.2.2.2.2.2.2.2.2.2.2.2.2.2.1,z.2.2.2.2.2.2.2.2.2.2.2.2.2.2.2.2.2.2.2.2.1,z.2.2.2.2.2.2.2.2.2.2.2.2.2.2.2.2.2.2.2.2.2.1,z.2.2.2.2.2.2.2.2.2.2.2.2.2.2.2.2.2.2.2.2.2.2.1,z.2.2.2.2.2.2.2.2.2.2.2.2.2.2.2.2.2.2.2.2.2.2.2.1,z.2.2.2.2.2.2.2.2.2.2.2.2.2.2.2.2.2.2.2.2.2.2.2.2.1,List.replicate (xQ .i64 jg.1 65536).toNat 0,jg.2,z.2.2.2.2.2.2.2.2.1,(List.length z.2.2.2.2.2.2.2.2.1:Int),0,())
 let w:=gH fH cN dD X2
 let X4:ak dz:=(w.2.2.2.2.2.2.2.2.2.2.2.1,w.2.2.2.2.2.2.2.2.2.2.2.2.1,w.2.2.2.2.2.2.2.2.2.2.2.2.2.1,w.2.2.2.2.2.2.2.2.2.2.2.2.2.2.1,w.2.2.2.2.2.2.2.2.2.2.2.2.2.2.2.1,w.2.2.2.2.2.2.2.2.2.2.2.2.2.2.2.2.1,w.2.2.2.2.2.2.2.2.2.2.2.2.2.2.2.2.2.1,w.2.2.2.2.2.2.2.2.2.2.2.2.2.2.2.2.2.2.1,w.2.2.2.2.2.2.2.2.2.2.2.2.2.2.2.2.2.2.2.1,w.2.2.2.2.2.2.2.2.2.2.2.2.2.2.2.2.2.2.2.2.1,w.2.2.2.2.2.2.2.2.2.2.2.2.2.2.2.2.2.2.2.2.2.1,w.2.2.2.2.2.2.2.2.2.2.2.2.2.2.2.2.2.2.2.2.2.2.1,w.2.2.2.2.2.2.2.2.2.2.2.2.2.2.2.2.2.2.2.2.2.2.2.1,w.2.2.2.2.2.2.2.2.2.2.2.2.2.2.2.2.2.2.2.2.2.2.2.2.1,w.2.2.2.2.2.2.2.2.2.2.2.2.2.2.2.2.2.2.2.2.2.2.2.2.2.1,w.2.2.2.2.2.2.2.2.2.2.2.2.2.2.2.2.2.2.2.2.2.2.2.2.2.2.1,w.2.2.2.2.2.2.2.2.2.2.2.2.2.2.2.2.2.2.2.2.2.2.2.2.2.2.2.1,w.2.2.2.2.2.2.2.2.2.2.1,(List.length w.2.2.2.2.2.2.2.2.2.2.1:Int),0,())
 let u:=gH gJ dz dV X4
 bif decide ((0:Int)<(List.length z.2.2.2.2.1:Int))then aS (bg 0 (List.length z.2.2.2.2.1:Int)) (aS (bg 0 (List.length z.2.2.2.2.1:Int)) (
  bif decide (jg.1<0)then none else bif decide (jg.2< -1)then none else bif (bif decide ((0:Int)<=jg.2)then decide (jg.2<jg.1)else false)then none else bif decide (16<jg.1)then none else
  aS (decide ((0:Int)<=xQ .i64 jg.1 65536)&&decide (xQ .i64 jg.1 65536<=xQ .i64 jg.1 65536)&&decide ((xQ .i64 jg.1 65536).toNat*1<=70368744177664)) (
  aS (rG fH cN dD ey X2) (bif qw fH cN X2 then aS (rG gJ dz dV fy X4) (bif qw gJ dz X4 then none else some (aA B7 (gH gJ dz fy X4)))else some (aA B7 (gH fH cN ey X2))))))
 else none
theorem aaG(V:ByteArray->Bool)(m1:List (den aI))(m2:List (den aP))(m3:List Int)(m4:List (den aj))(m5:List (den aj))(m6:List (den aC))(m7:List (den aO))(m8:Int)(m9:List (den aD))(bK:List (den aK))(bL:List (den aH))(c:ak yO)(hc:c=UA (m1,m2,m3,m4,m5,m6,m7,m8,m9,bK,bL,()))(X0:ak gz)(hX0:X0=(m1,m2,m3,m4,m5,m6,m7,m8,m9,bK,bL,[],[],[],c.1,c.2.1,c.2.2.1,c.2.2.2.1,c.2.2.2.2.1,c.2.2.2.2.2.1,c.2.2.2.2.2.2.1,c.2.2.2.2.2.2.2.1,c.2.2.2.2.2.2.2.2.1,c.2.2.2.2.2.2.2.2.2.1,c.2.2.2.2.2.2.2.2.2.2.1,m6,(m6.length:Int),0,()))(z:ak fx)(hz:z=gH sC gz fx X0)(jg:den aj)(aaF:jg=List.getD z.2.2.2.2.1 (0:Int).toNat (ao aj)):(ty8 V (m1,m2,m3,m4,m5,m6,m7,m8,m9,bK,bL,())).val=aS (Wh V (m1,m2,m3,m4,m5,m6,m7,m8,m9,bK,bL,())) (bif !decide (gP V (m1,m2,m3,m4,m5,m6,m7,m8,m9,bK,bL,())=0)then some (aA B7 (gP V (m1,m2,m3,m4,m5,m6,m7,m8,m9,bK,bL,()),()))else aS (Uz (m1,m2,m3,m4,m5,m6,m7,m8,m9,bK,bL,())) (aS (oB sC gz fx X0) (
 bif decide ((0:Int)<(List.length z.2.2.2.1:Int))then aS (bg 0 (List.length z.2.2.2.1:Int)) (aS (Ke ([-1],(List.getD z.2.2.2.1 (0:Int).toNat (ao aj)).1,())) (yQ V m1 m2 m3 m4 m5 m6 m7 m8 m9 bK bL z jg (Kf ([-1],(List.getD z.2.2.2.1 (0:Int).toNat (ao aj)).1,())).1))else yQ V m1 m2 m3 m4 m5 m6 m7 m8 m9 bK bL z jg []))):=by
 subst aaF;subst hz;subst hX0;subst hc
 kernel_rfl
end Go.Proofs.Vd
