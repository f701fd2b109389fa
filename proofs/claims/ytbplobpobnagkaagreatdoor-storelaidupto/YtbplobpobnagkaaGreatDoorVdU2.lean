import Derived.Test.YtbplobpobnagkaaGreatDoorVdT6
import Derived.Test.YtbplobpobnagkaaGreatDoorLfJ
noncomputable section
namespace Go.Proofs.Vd
open Go.Ab Go.Ab.Lf
set_option maxRecDepth 100000
def uU(y:aj tM):Nat:=y.2.1.length+y.2.2.1.length
def Wj(y:aj tM):Bool:=(List.range (uU y)).all (fun i=>dP y.1 (dR y.2.1 y.2.2.1 (i:Int)))
def Uw(l:den ak):Bool:= !(bif !decide (l.2= -1)then decide (l.2<l.1)else false)
def pGl(g:den aC):Bool:=uD g.2.2 g.1
def pTM(y:aj tM):Bool:=bif decide (1<(y.2.2.2.1.length:Int))then true else decide (1<(y.2.2.2.2.1.length:Int))
def pMx(y:aj tM):Bool:=bif decide ((y.2.2.2.2.1.length:Int)=1)then decide (65536<(y.2.2.2.2.1.getD 0 (aq ak)).2)else false
def s6(y:aj tM):Bool:=Wj y&&(!pTM y&&(List.all (y.2.2.2.1++y.2.2.2.2.1) Uw&&(!pMx y&&(List.all y.2.2.2.2.2.1 pGl&&(mNm (y.1,y.2.1,y.2.2.1,y.2.2.2.1,y.2.2.2.2.1,y.2.2.2.2.2.1,y.2.2.2.2.2.2.1,y.2.2.2.2.2.2.2.1,y.2.2.2.2.2.2.2.2.1,y.2.2.2.2.2.2.2.2.2.1,y.2.2.2.2.2.2.2.2.2.2.1,(uU y:Int),())&&aap y (uU y:Int))))))
set_option maxHeartbeats 2000000 in
theorem aeA{y:aj tM}(h:MOk y):(t19 (y.1,y.2.1,y.2.2.1,y.2.2.2.1,y.2.2.2.2.1,y.2.2.2.2.2.1,y.2.2.2.2.2.2.1,y.2.2.2.2.2.2.2.1,y.2.2.2.2.2.2.2.2.1,y.2.2.2.2.2.2.2.2.2.1,y.2.2.2.2.2.2.2.2.2.2.1,())).val=some (aB wK (s6 y,())):=by
 have li:=h.li
 have lf:=h.lf
 have lb:=h.lb
 have lm:=h.lm
 have lg:=h.lg
 have hf:cr .i64 (y.2.1.length:Int) (y.2.2.1.length:Int)=(uU y:Int):=Bz (by omega)
 have hpf:uU y<=1024:=by unfold uU;omega
 have r0:=pY (f:=f190) (l:=List.range (uU y)) (fun j=>aB oP ((uU y:Int),y.1,y.2.1,y.2.2.1,y.2.2.2.1,y.2.2.2.2.1,y.2.2.2.2.2.1,y.2.2.2.2.2.2.1,y.2.2.2.2.2.2.2.1,y.2.2.2.2.2.2.2.2.1,y.2.2.2.2.2.2.2.2.2.1,y.2.2.2.2.2.2.2.2.2.2.1,(uU y:Int),(j:Int),())) (fun i=>dP y.1 (dR y.2.1 y.2.2.1 (i:Int))) (aB lZ ((uU y:Int),y.1,y.2.1,y.2.2.1,y.2.2.2.1,y.2.2.2.2.1,y.2.2.2.2.2.1,y.2.2.2.2.2.2.1,y.2.2.2.2.2.2.2.1,y.2.2.2.2.2.2.2.2.1,y.2.2.2.2.2.2.2.2.2.1,y.2.2.2.2.2.2.2.2.2.2.1,())) (aB nu (false,())) (fun j x r e=>by
  obtain⟨e1,e2⟩:=dm e 0
  have e3:x=j:=by
   rw[<-e2,List.getD_eq_getElem?_getD,List.getElem?_eq_getElem e1]
   simp
  rw[e3]
  rw[List.length_range]at e1
  have c:(decide ((j:Int)<9223372036854775808)&&decide (y.2.1.length<=1099511627776))=true:=by
   rw[decide_eq_true (by omega),decide_eq_true (by omega)];rfl
  rw[Wg _ _ (D9 h.ty),ed e1,cond_true,c,kv (by omega)]
  cases dP y.1 (dR y.2.1 y.2.2.1 (j:Int))<;>rfl) (by rw[Wg _ _ (D9 h.ty),List.length_range,di (Nat.le_refl _)];rfl)
 obtain⟨a1,a2,a3,a4⟩:=pZ (ti:=oP) (t0:=lZ) (t1:=nu) (x:=((uU y:Int),y.1,y.2.1,y.2.2.1,y.2.2.2.1,y.2.2.2.2.1,y.2.2.2.2.2.1,y.2.2.2.2.2.2.1,y.2.2.2.2.2.2.2.1,y.2.2.2.2.2.2.2.2.1,y.2.2.2.2.2.2.2.2.2.1,y.2.2.2.2.2.2.2.2.2.2.1,(uU y:Int),0,())) (u:=((uU y:Int),y.1,y.2.1,y.2.2.1,y.2.2.2.1,y.2.2.2.2.1,y.2.2.2.2.2.1,y.2.2.2.2.2.2.1,y.2.2.2.2.2.2.2.1,y.2.2.2.2.2.2.2.2.1,y.2.2.2.2.2.2.2.2.2.1,y.2.2.2.2.2.2.2.2.2.2.1,())) (v:=(false,())) r0
 have Z2:=jE (aex [y.2.2.2.1,y.2.2.2.2.1] (by
  show 2+(y.2.2.2.1.length+(y.2.2.2.2.1.length+0))<=_
  omega))
 have e55:(m55 ([y.2.2.2.1,y.2.2.2.2.1],())).1=y.2.2.2.1++y.2.2.2.2.1:=by
  rw[show m55 ([y.2.2.2.1,y.2.2.2.2.1],())=_ from Z2.2]
  simp
 have hll:(y.2.2.2.1++y.2.2.2.2.1).length<=1024:=by rw[List.length_append];omega
 have r2:=pY (f:=f192) (l:=y.2.2.2.1++y.2.2.2.2.1) (fun j=>aB q9 ((uU y:Int),y.1,y.2.1,y.2.2.1,y.2.2.2.1,y.2.2.2.2.1,y.2.2.2.2.2.1,y.2.2.2.2.2.2.1,y.2.2.2.2.2.2.2.1,y.2.2.2.2.2.2.2.2.1,y.2.2.2.2.2.2.2.2.2.1,y.2.2.2.2.2.2.2.2.2.2.1,y.2.2.2.1++y.2.2.2.2.1,((y.2.2.2.1++y.2.2.2.2.1).length:Int),(j:Int),())) Uw (aB nv ((uU y:Int),y.1,y.2.1,y.2.2.1,y.2.2.2.1,y.2.2.2.2.1,y.2.2.2.2.2.1,y.2.2.2.2.2.2.1,y.2.2.2.2.2.2.2.1,y.2.2.2.2.2.2.2.2.1,y.2.2.2.2.2.2.2.2.2.1,y.2.2.2.2.2.2.2.2.2.2.1,())) (aB pT (false,())) (fun j x r e=>by
  obtain⟨e1,e2⟩:=dm e (aq ak)
  rw[Wh _ y _ _ _ x (by rw[Int.toNat_natCast];exact e2.symm),ed e1,cond_true,BR e1,kv (by omega)]
  unfold Uw
  cases(bif !decide (x.2= -1)then decide (x.2<x.1)else false)<;>rfl) (by rw[Wh _ y _ _ _ _ rfl,di (Nat.le_refl _)];rfl)
 obtain⟨b1,b2,b3,b4⟩:=pZ (ti:=q9) (t0:=nv) (t1:=pT) (x:=((uU y:Int),y.1,y.2.1,y.2.2.1,y.2.2.2.1,y.2.2.2.2.1,y.2.2.2.2.2.1,y.2.2.2.2.2.2.1,y.2.2.2.2.2.2.2.1,y.2.2.2.2.2.2.2.2.1,y.2.2.2.2.2.2.2.2.2.1,y.2.2.2.2.2.2.2.2.2.2.1,y.2.2.2.1++y.2.2.2.2.1,((y.2.2.2.1++y.2.2.2.2.1).length:Int),0,())) (u:=((uU y:Int),y.1,y.2.1,y.2.2.1,y.2.2.2.1,y.2.2.2.2.1,y.2.2.2.2.2.1,y.2.2.2.2.2.2.1,y.2.2.2.2.2.2.2.1,y.2.2.2.2.2.2.2.2.1,y.2.2.2.2.2.2.2.2.2.1,y.2.2.2.2.2.2.2.2.2.2.1,())) (v:=(false,())) r2
 have r4:=pY (f:=f194) (l:=y.2.2.2.2.2.1) (fun j=>aB ra ((uU y:Int),y.1,y.2.1,y.2.2.1,y.2.2.2.1,y.2.2.2.2.1,y.2.2.2.2.2.1,y.2.2.2.2.2.2.1,y.2.2.2.2.2.2.2.1,y.2.2.2.2.2.2.2.2.1,y.2.2.2.2.2.2.2.2.2.1,y.2.2.2.2.2.2.2.2.2.2.1,y.2.2.2.2.2.1,(y.2.2.2.2.2.1.length:Int),(j:Int),())) pGl (aB ny ((uU y:Int),y.1,y.2.1,y.2.2.1,y.2.2.2.1,y.2.2.2.2.1,y.2.2.2.2.2.1,y.2.2.2.2.2.2.1,y.2.2.2.2.2.2.2.1,y.2.2.2.2.2.2.2.2.1,y.2.2.2.2.2.2.2.2.2.1,y.2.2.2.2.2.2.2.2.2.2.1,())) (aB pU (false,())) (fun j x r e=>by
  obtain⟨e1,e2⟩:=dm e (aq aC)
  rw[Wi _ y _ _ _ x (by rw[Int.toNat_natCast];exact e2.symm),ed e1,cond_true,BR e1,kv (by omega)]
  unfold pGl
  cases uD x.2.2 x.1<;>rfl) (by rw[Wi _ y _ _ _ _ rfl,di (Nat.le_refl _)];rfl)
 obtain⟨c1,c2,c3,c4⟩:=pZ (ti:=ra) (t0:=ny) (t1:=pU) (x:=((uU y:Int),y.1,y.2.1,y.2.2.1,y.2.2.2.1,y.2.2.2.2.1,y.2.2.2.2.2.1,y.2.2.2.2.2.2.1,y.2.2.2.2.2.2.2.1,y.2.2.2.2.2.2.2.2.1,y.2.2.2.2.2.2.2.2.2.1,y.2.2.2.2.2.2.2.2.2.2.1,y.2.2.2.2.2.1,(y.2.2.2.2.2.1.length:Int),0,())) (u:=((uU y:Int),y.1,y.2.1,y.2.2.1,y.2.2.2.1,y.2.2.2.2.1,y.2.2.2.2.2.1,y.2.2.2.2.2.2.1,y.2.2.2.2.2.2.2.1,y.2.2.2.2.2.2.2.2.1,y.2.2.2.2.2.2.2.2.2.1,y.2.2.2.2.2.2.2.2.2.2.1,())) (v:=(false,())) r4
 have s58:=jE (aey y (uU y:Int) (by have:=h.le;omega) (by have:=h.ld;omega) (fun e he=>by have:=h.el e he;omega))
 have hN:On (y.1,y.2.1,y.2.2.1,y.2.2.2.1,y.2.2.2.2.1,y.2.2.2.2.2.1,y.2.2.2.2.2.2.1,y.2.2.2.2.2.2.2.1,y.2.2.2.2.2.2.2.2.1,y.2.2.2.2.2.2.2.2.2.1,y.2.2.2.2.2.2.2.2.2.2.1,(uU y:Int),())=true:=by
  have k1:cf (fun e:den aP=>decide (0<=e.2.1)&&decide (e.2.1<=3)) y.2.2.2.2.2.2.1=true:=by
   rw[hU,List.all_eq_true]
   intro e he
   obtain⟨q1,q2⟩:=h.ex e he
   rw[Bool.and_eq_true]
   exact⟨decide_eq_true q1,decide_eq_true q2⟩
  have k2:decide ((y.2.2.2.2.2.2.2.1:Int)<9223372036854775808)=true:=decide_eq_true (Int.lt_trans h.st.2 (by decide))
  have k3:decide (y.2.1.length<=1099511627776)=true:=decide_eq_true (by omega)
  have k4:decide (y.2.2.2.2.2.2.1.length<=1099511627776)=true:=decide_eq_true (by have:=h.lx;omega)
  show(((cf _ _&&((decide _&&decide _)&&decide _))&&Z9 _)&&gT _)=true
  rw[k1,k2,k3,k4,h.x0,D9 h.ty]
  rfl
 have hx:(bif decide ((y.2.2.2.2.1.length:Int)=1)then bm 0 (y.2.2.2.2.1.length:Int)else true)=true:=by
  by_cases q:(y.2.2.2.2.1.length:Int)=1
  ·rw[decide_eq_true q,cond_true];exact BR (j:=0) (by omega)
  ·rw[decide_eq_false q];rfl
 unfold s6
 cases hA:Wj y with
 |false=>
  have hA':(List.range (uU y)).all (fun i=>dP y.1 (dR y.2.1 y.2.2.1 (i:Int)))=false:=hA
  rw[hA']at a2
  rw[Us y _ hf _ rfl _ rfl _ rfl _ rfl _ rfl _ rfl _ rfl,a1,a2,a4 hA']
  rfl
 |true=>
  have hA':(List.range (uU y)).all (fun i=>dP y.1 (dR y.2.1 y.2.2.1 (i:Int)))=true:=hA
  rw[hA']at a2
  cases hB:List.all (y.2.2.2.1++y.2.2.2.2.1) Uw with
  |false=>
   rw[hB]at b2
   rw[Us y _ hf _ rfl _ (a3 hA').symm _ e55.symm _ rfl _ rfl _ rfl _ rfl,a1,a2]
   unfold pTM
   simp only[cond_true,aT]
   rw[show k55 ([y.2.2.2.1,y.2.2.2.2.1],())=true from Z2.1,b1,b2,b4 hB]
   cases(bif decide (1<(y.2.2.2.1.length:Int))then true else decide (1<(y.2.2.2.2.1.length:Int)))<;>rfl
  |true=>
   rw[hB]at b2
   cases hC:List.all y.2.2.2.2.2.1 pGl with
   |false=>
    rw[hC]at c2
    rw[Us y _ hf _ rfl _ (a3 hA').symm _ e55.symm _ rfl _ (b3 hB).symm _ rfl _ rfl,a1,a2]
    unfold pTM pMx
    simp only[cond_true,aT]
    rw[show k55 ([y.2.2.2.1,y.2.2.2.2.1],())=true from Z2.1,b1,b2,c1,c2,c4 hC,hx]
    cases(bif decide (1<(y.2.2.2.1.length:Int))then true else decide (1<(y.2.2.2.2.1.length:Int)))<;>cases(bif decide ((y.2.2.2.2.1.length:Int)=1)then decide (65536<(y.2.2.2.2.1.getD 0 (aq ak)).2)else false)<;>rfl
   |true=>
    rw[hC]at c2
    rw[Us y _ hf _ rfl _ (a3 hA').symm _ e55.symm _ rfl _ (b3 hB).symm _ rfl _ (c3 hC).symm,a1,a2]
    unfold pTM pMx
    simp only[cond_true,aT]
    rw[show k55 ([y.2.2.2.1,y.2.2.2.2.1],())=true from Z2.1,b1,b2,c1,c2,hN,hx,show k58 (y.1,y.2.1,y.2.2.1,y.2.2.2.1,y.2.2.2.2.1,y.2.2.2.2.2.1,y.2.2.2.2.2.2.1,y.2.2.2.2.2.2.2.1,y.2.2.2.2.2.2.2.2.1,y.2.2.2.2.2.2.2.2.2.1,y.2.2.2.2.2.2.2.2.2.2.1,(uU y:Int),())=true from s58.1,show m58 (y.1,y.2.1,y.2.2.1,y.2.2.2.1,y.2.2.2.2.1,y.2.2.2.2.2.1,y.2.2.2.2.2.2.1,y.2.2.2.2.2.2.2.1,y.2.2.2.2.2.2.2.2.1,y.2.2.2.2.2.2.2.2.2.1,y.2.2.2.2.2.2.2.2.2.2.1,(uU y:Int),())=_ from s58.2]
    cases(bif decide (1<(y.2.2.2.1.length:Int))then true else decide (1<(y.2.2.2.2.1.length:Int)))<;>cases(bif decide ((y.2.2.2.2.1.length:Int)=1)then decide (65536<(y.2.2.2.2.1.getD 0 (aq ak)).2)else false)<;>cases mNm (y.1,y.2.1,y.2.2.1,y.2.2.2.1,y.2.2.2.2.1,y.2.2.2.2.2.1,y.2.2.2.2.2.2.1,y.2.2.2.2.2.2.2.1,y.2.2.2.2.2.2.2.2.1,y.2.2.2.2.2.2.2.2.2.1,y.2.2.2.2.2.2.2.2.2.2.1,(uU y:Int),())<;>rfl
def Ux(y:aj tM):Bool:=(List.range y.2.2.2.2.2.2.2.2.2.1.length).all (fun i=>(mR y i).isSome)
def gY(V:ByteArray->Bool)(y:aj tM):Int:=bif !decide (nh V y=0)then nh V y else bif !s6 y then 12 else bif Ux y then 0 else 12
theorem OO{V:ByteArray->Bool}{y:aj tM}(hE:Ge V y=true)(hx:Z9 y.2.2.2.2.2.2.1=true)(h:nh V y=0):MOk y:=by
 have e:=HZ hE
 unfold nh at h
 rw[e]at h
 cases hP:Oe V y with
 |false=>rw[hP]at h;cases h
 |true=>
  rw[hP]at h
  simp only[Bool.not_true,cond_false]at h
  by_cases q:(16384:Int)<((s0.1++Qh V y).length:Int)
  ·rw[decide_eq_true q]at h;cases h
  ·rw[List.length_append]at q
   exact mok hE hP (by omega) hx
theorem A7{y:aj tM}(h:MOk y){i:Nat}(hi:i<y.2.2.2.2.2.2.2.2.2.1.length):I0 (iq y i):=by
 refine(h.cd (iq y i) ?_).1
 unfold iq
 rw[List.getD_eq_getElem?_getD,List.getElem?_eq_getElem hi]
 exact List.getElem_mem hi
theorem aar{y:aj tM}(h:MOk y){i:Nat}(hi:i<y.2.2.2.2.2.2.2.2.2.1.length):k20 (y.1,y.2.1,y.2.2.1,y.2.2.2.1,y.2.2.2.2.1,y.2.2.2.2.2.1,y.2.2.2.2.2.2.1,y.2.2.2.2.2.2.2.1,y.2.2.2.2.2.2.2.2.1,y.2.2.2.2.2.2.2.2.2.1,y.2.2.2.2.2.2.2.2.2.2.1,(i:Int),())=true/\m20 (y.1,y.2.1,y.2.2.1,y.2.2.2.1,y.2.2.2.2.1,y.2.2.2.2.2.1,y.2.2.2.2.2.2.1,y.2.2.2.2.2.2.2.1,y.2.2.2.2.2.2.2.2.1,y.2.2.2.2.2.2.2.2.2.1,y.2.2.2.2.2.2.2.2.2.2.1,(i:Int),())=((mR y i).getD [],(mR y i).isSome,()):=
 jE (aes h.ty (by have:=h.li;omega) hi (by have:=h.lc;omega) (A7 h hi))
theorem ajF{V:ByteArray->Bool}{y:aj tM}(hE:Ge V y=true)(hx:Z9 y.2.2.2.2.2.2.1=true):(t8 V (y.1,y.2.1,y.2.2.1,y.2.2.2.1,y.2.2.2.2.1,y.2.2.2.2.2.1,y.2.2.2.2.2.2.1,y.2.2.2.2.2.2.2.1,y.2.2.2.2.2.2.2.2.1,y.2.2.2.2.2.2.2.2.2.1,y.2.2.2.2.2.2.2.2.2.2.1,())).val=some (aB Uh (gY V y,())):=by
 rw[eq8]
 have hE':Ge V (y.1,y.2.1,y.2.2.1,y.2.2.2.1,y.2.2.2.2.1,y.2.2.2.2.2.1,y.2.2.2.2.2.2.1,y.2.2.2.2.2.2.2.1,y.2.2.2.2.2.2.2.2.1,y.2.2.2.2.2.2.2.2.2.1,y.2.2.2.2.2.2.2.2.2.2.1,())=true:=hE
 rw[hE']
 unfold gY
 have eY:nh V (y.1,y.2.1,y.2.2.1,y.2.2.2.1,y.2.2.2.2.1,y.2.2.2.2.2.1,y.2.2.2.2.2.2.1,y.2.2.2.2.2.2.2.1,y.2.2.2.2.2.2.2.2.1,y.2.2.2.2.2.2.2.2.2.1,y.2.2.2.2.2.2.2.2.2.2.1,())=nh V y:=rfl
 rw[eY]
 by_cases h0:nh V y=0
 ·rw[h0]
  have h:=OO hE hx h0
  have s19:=jE (aeA h)
  simp only[decide_true,Bool.not_true,cond_false,aT,cond_true]
  rw[show k19 (y.1,y.2.1,y.2.2.1,y.2.2.2.1,y.2.2.2.2.1,y.2.2.2.2.2.1,y.2.2.2.2.2.2.1,y.2.2.2.2.2.2.2.1,y.2.2.2.2.2.2.2.2.1,y.2.2.2.2.2.2.2.2.2.1,y.2.2.2.2.2.2.2.2.2.2.1,())=true from s19.1,show m19 (y.1,y.2.1,y.2.2.1,y.2.2.2.1,y.2.2.2.2.1,y.2.2.2.2.2.1,y.2.2.2.2.2.2.1,y.2.2.2.2.2.2.2.1,y.2.2.2.2.2.2.2.2.1,y.2.2.2.2.2.2.2.2.2.1,y.2.2.2.2.2.2.2.2.2.2.1,())=_ from s19.2,cond_true]
  cases ho:s6 y with
  |false=>rfl
  |true=>
   simp only[Bool.not_true,cond_false]
   have VF:=h.lc
   have r0:=pY (f:=f8x) (l:=List.range y.2.2.2.2.2.2.2.2.2.1.length) (fun j=>aB BQ (y.1,y.2.1,y.2.2.1,y.2.2.2.1,y.2.2.2.2.1,y.2.2.2.2.2.1,y.2.2.2.2.2.2.1,y.2.2.2.2.2.2.2.1,y.2.2.2.2.2.2.2.2.1,y.2.2.2.2.2.2.2.2.2.1,y.2.2.2.2.2.2.2.2.2.2.1,(y.2.2.2.2.2.2.2.2.2.1.length:Int),(j:Int),())) (fun i=>(mR y i).isSome) (aB vB ()) (aB sY (12,())) (fun j x r e=>by
    obtain⟨e1,e2⟩:=dm e 0
    have e3:x=j:=by
     rw[<-e2,List.getD_eq_getElem?_getD,List.getElem?_eq_getElem e1]
     simp
    rw[e3]
    rw[List.length_range]at e1
    obtain⟨q1,q2⟩:=aar h e1
    rw[aeu,ed e1,cond_true,q1,q2,kv (by omega)]
    cases(mR y j).isSome<;>rfl) (by rw[aeu,List.length_range,di (Nat.le_refl _)];rfl)
   obtain⟨a1,a2,a3,a4⟩:=pZ (ti:=BQ) (t0:=vB) (t1:=sY) (x:=(y.1,y.2.1,y.2.2.1,y.2.2.2.1,y.2.2.2.2.1,y.2.2.2.2.2.1,y.2.2.2.2.2.2.1,y.2.2.2.2.2.2.2.1,y.2.2.2.2.2.2.2.2.1,y.2.2.2.2.2.2.2.2.2.1,y.2.2.2.2.2.2.2.2.2.2.1,(y.2.2.2.2.2.2.2.2.2.1.length:Int),0,())) (u:=()) (v:=(12,())) r0
   rw[a1,a2]
   cases hb:Ux y with
   |true=>rw[show(List.range y.2.2.2.2.2.2.2.2.2.1.length).all (fun i=>(mR y i).isSome)=true from hb];rfl
   |false=>rw[a4 hb,show(List.range y.2.2.2.2.2.2.2.2.2.1.length).all (fun i=>(mR y i).isSome)=false from hb];rfl
 ·rw[decide_eq_false h0]
  rfl
end Go.Proofs.Vd

noncomputable section
namespace Go.Ab.Lf
def jR(t:Ty):cQ:=iw (.cons (.im t) .nil) [] (.cons (.ow t) .nil) [.ae t] [.ae t] fun x=>.ck (decide (List.length x.1<=1099511627776)) (.ok (x.1,()))
theorem OP{t:Ty}{x:List (den t)}{r:List Pl}{H:Hq}:gp (.im t) (⟨.ae t,x⟩::r) H=some ([.c H.next (.ae t) x],r,⟨Nat.add H.next 1,H.aL⟩):=by
 unfold gp;simp only[mK]
theorem JV{p:jT}{pl:List Pl}{H H':Hq}{v:List Sv}(h:gp p pl H=some (v,[],H')):gp (.cons p .nil) pl H=some (v,[],H'):=by
 show(match gp p pl H with|some (v,r,H)=>(match gp .nil r H with|some (w,r,H)=>some (app v w,r,H)|none=>none)|none=>none)=_
 rw[h]
 show some (app v [],([]:List Pl),H')=_
 rw[bp,List.append_nil]
def mS{α:Type}(a:α):α:=Classical.choose (⟨a,rfl⟩: ∃ x,x=a)
theorem cg{α:Type}(a:α):mS a=a:=Classical.choose_spec (⟨a,rfl⟩: ∃ x,x=a)
theorem we{to:List Ty}{t:T (List Pl)}{y:aj to}{k:Bool}{m:aj to}(hk:k=jP to t)(hm:m=e7 to t)(h:t.val=some (aB to y)):k=true/\m=y:=by
 rw[hk,hm]
 exact jE h
end Go.Ab.Lf

noncomputable section
namespace Go.Proofs.Vd
open Go.Ab Go.Ab.Lf
set_option maxRecDepth 100000
theorem nz{α:Type}{c:Bool}{x:Option α}(h:c=true):aT c x=x:=by rw[h];rfl
theorem df{p:Prop}[Decidable p](h: ¬ p):decide p=false:=decide_eq_false h
theorem dt{p:Prop}[Decidable p](h:p):decide p=true:=decide_eq_true h
theorem OQ{j:Nat}(h:j<=1099511627776):cr .i64 (j:Int) 1=((j+1:Nat):Int):=kv (by omega)
theorem p8{f:List Pl->Lf.T Rs}(n:Nat)(st:Nat->List Pl)(o0:List Pl)
 (uo: ∀ j,j<n->(f (st j)).val=some (.next (st (j+1))))(BA:(f (st n)).val=some (.out 0 o0)):gM f (st 0) 0 o0:=by
 have key: ∀ (k j:Nat),j+k=n->gM f (st j) 0 o0:=by
  intro k
  induction k with
  |zero=>
   intro j h
   have:j=n:=by omega
   subst this
   exact .last BA
  |succ k ih=>exact fun j h=>.more (uo j (by omega)) (ih (j+1) (by omega))
 exact key n 0 (by omega)
theorem oW{α:Type}(l:List α)(j:Nat)(d:α)(h:j<l.length):l.set j (l.getD j d)=l:=by
 rw[List.getD_eq_getElem?_getD,List.getElem?_eq_getElem h]
 exact List.set_getElem_self h
theorem jt{α:Type}{l:List α}{j:Nat}(h:j<l.length)(d:α):l.getD j d∈l:=by
 rw[List.getD_eq_getElem?_getD,List.getElem?_eq_getElem h]
 exact List.getElem_mem h
theorem GB{k:Nat}(h:k<18446744073709551616):bf .u64 (k:Int)=(k:Int):=by
 have:bf .u64 (k:Int)=(k:Int) % 18446744073709551616:=rfl
 rw[this];omega
end Go.Proofs.Vd

noncomputable section
namespace Go.Proofs.Vd
open Go.Ab Go.Ab.Lf
set_option maxRecDepth 100000
structure WorldS(V:ByteArray->Bool)(ao:aA):Prop extends WorldN V ao where
 c31:(jR aI).Ok 31 ao
 c33:(jR aQ).Ok 33 ao
 c34:(jR ak).Ok 34 ao
 c35:(jR aC).Ok 35 ao
 c37:(jR aP).Ok 37 ao
 c38:(jR aG).Ok 38 ao
 c39:(jR aK).Ok 39 ao
 c40:(jR aD).Ok 40 ao
 c41:(jR u8).Ok 41 ao
 c79:(jR tI).Ok 79 ao
abbrev j9:List Ty:=[.ae tI,i64,i64]
abbrev iU:List Ty:=[.ae tI]
def BW:j4:=⟨0,fK Tryz.x36.code 0,[3,8,9],(Ps [.ow tI,.n .i64,.n .i64]),[⟨.lN,[3],(Ps [.ow tI])⟩]⟩
def OR:List (Nat×cQ):=[(32,V0)]
theorem JW{V:ByteArray->Bool}{ao:aA}(W:WorldS V ao):dc ao OR:=(.cons W.cl .nil)
def rh:List Pl->Lf.T Rs:=BW.step (fun _=>none) (dG OR 3) 3
def OS:fD:=qn BW rh j9 iU
theorem JX{V:ByteArray->Bool}{ao:aA}(W:WorldS V ao):ep Rx.w OS (fun n d=>gy (ao n d) n (.bl 0 (.lp BW.body))):=fL (W.toWorld.in (JW W) 3) (aE _) (m:=3) j9 iU
def ajG:Nat->Option fD:=qg [(0,OS)]
abbrev Eb:List Ty:=[.ae tI]
abbrev Ec:List Ty:=[.ae tI]
def aeB:List (Nat×cQ):=[(79,jR tI)]
theorem Uy{V:ByteArray->Bool}{ao:aA}(W:WorldS V ao):dc ao aeB:=(.cons W.c79 .nil)
def aas(x:aj Eb):Lf.T (List Pl):=ja (Ps [.im tI]) [] (Ps [.ow tI]) ajG Tryz.x36 3 (dG aeB 3) (aB Eb x)
def JY(x:aj Eb):Bool:=mS (jP Ec (aas x))
def JZ(x:aj Eb):aj Ec:=mS (e7 Ec (aas x))
def OT:cQ:=iw (Ps [.im tI]) [] (Ps [.ow tI]) Eb Ec fun x=>.ck (JY x) (.ok (JZ x))
theorem xj{V:ByteArray->Bool}{ao:aA}(W:WorldS V ao):OT.Ok 36 ao:=
 eU (W.toWorld.in (Uy W) 3) (W.toWorld.st 36 _ rfl) rfl (fx.jq (.cons (b:=BW.body) (by kernel_rfl) (JX W) .nil)) (m:=3) rfl (fun _=>cg _) (fun _=>cg _)
abbrev ka:List Ty:=[.ae aI,.ae aQ,.ae i64,.ae ak,.ae ak,.ae aC,.ae aP,i64,.ae aG,.ae aK,.ae aD,.ae aI,.ae aQ,.ae i64,.ae ak,.ae ak,.ae aC,.ae aP,i64,.ae aG,.ae aK,.ae aD,i64,i64]
abbrev iV:List Ty:=[.ae aI,.ae aQ,.ae i64,.ae ak,.ae ak,.ae aC,.ae aP,i64,.ae aG,.ae aK,.ae aD,.ae aI,.ae aQ,.ae i64,.ae ak,.ae ak,.ae aC,.ae aP,i64,.ae aG,.ae aK,.ae aD]
def BX:j4:=⟨0,fK Tryz.VM.code 0,[1,2,3,19,20,21],(Ps [.pt 0 (Ps [.im aI,.im aQ,.im i64,.im ak,.im ak,.im aC,.im aP,.n .i64,.im aG,.im aK,.im aD]),.pt 0 (Ps [.av (.sc (.slice none 0 0)),.av (.sc (.slice none 0 0)),.av (.sc (.slice none 0 0)),.av (.sc (.slice none 0 0)),.av (.sc (.slice none 0 0)),.av (.sc (.slice none 0 0)),.av (.sc (.slice none 0 0)),.li .i64 0,.av (.sc (.slice none 0 0)),.av (.sc (.slice none 0 0)),.av (.sc (.slice none 0 0))]),.pt 0 (Ps [.ow aI,.im aQ,.im i64,.im ak,.im ak,.im aC,.im aP,.n .i64,.im aG,.im aK,.im aD]),.oo 13 2,.n .i64,.n .i64]),[⟨.lN,[1,2,3],(Ps [.pt 0 (Ps [.im aI,.im aQ,.im i64,.im ak,.im ak,.im aC,.im aP,.n .i64,.im aG,.im aK,.im aD]),.pt 0 (Ps [.av (.sc (.slice none 0 0)),.av (.sc (.slice none 0 0)),.av (.sc (.slice none 0 0)),.av (.sc (.slice none 0 0)),.av (.sc (.slice none 0 0)),.av (.sc (.slice none 0 0)),.av (.sc (.slice none 0 0)),.li .i64 0,.av (.sc (.slice none 0 0)),.av (.sc (.slice none 0 0)),.av (.sc (.slice none 0 0))]),.pt 0 (Ps [.ow aI,.im aQ,.im i64,.im ak,.im ak,.im aC,.im aP,.n .i64,.im aG,.im aK,.im aD])])⟩]⟩
def OU:List (Nat×cQ):=[(32,V0)]
theorem J0{V:ByteArray->Bool}{ao:aA}(W:WorldS V ao):dc ao OU:=(.cons W.cl .nil)
def s7:List Pl->Lf.T Rs:=BX.step (fun _=>none) (dG OU 3) 3
def OV:fD:=qn BX s7 ka iV
theorem J1{V:ByteArray->Bool}{ao:aA}(W:WorldS V ao):ep Rx.w OV (fun n d=>gy (ao n d) n (.bl 0 (.lp BX.body))):=fL (W.toWorld.in (J0 W) 3) (aE _) (m:=3) ka iV
abbrev kb:List Ty:=[.ae aI,.ae aQ,.ae i64,.ae ak,.ae ak,.ae aC,.ae aP,i64,.ae aG,.ae aK,.ae aD,.ae aI,.ae aQ,.ae i64,.ae ak,.ae ak,.ae aC,.ae aP,i64,.ae aG,.ae aK,.ae aD,i64,i64]
abbrev iW:List Ty:=[.ae aI,.ae aQ,.ae i64,.ae ak,.ae ak,.ae aC,.ae aP,i64,.ae aG,.ae aK,.ae aD,.ae aI,.ae aQ,.ae i64,.ae ak,.ae ak,.ae aC,.ae aP,i64,.ae aG,.ae aK,.ae aD]
def BZ:j4:=⟨2,fK Tryz.VM.code 2,[1,2,3,60,61],(Ps [.pt 0 (Ps [.im aI,.im aQ,.im i64,.im ak,.im ak,.im aC,.im aP,.n .i64,.im aG,.im aK,.im aD]),.pt 0 (Ps [.av (.sc (.slice none 0 0)),.av (.sc (.slice none 0 0)),.av (.sc (.slice none 0 0)),.av (.sc (.slice none 0 0)),.av (.sc (.slice none 0 0)),.av (.sc (.slice none 0 0)),.av (.sc (.slice none 0 0)),.li .i64 0,.av (.sc (.slice none 0 0)),.av (.sc (.slice none 0 0)),.av (.sc (.slice none 0 0))]),.pt 0 (Ps [.im aI,.im aQ,.im i64,.im ak,.im ak,.ow aC,.im aP,.n .i64,.im aG,.im aK,.im aD]),.n .i64,.n .i64]),[⟨.lN,[1,2,3],(Ps [.pt 0 (Ps [.im aI,.im aQ,.im i64,.im ak,.im ak,.im aC,.im aP,.n .i64,.im aG,.im aK,.im aD]),.pt 0 (Ps [.av (.sc (.slice none 0 0)),.av (.sc (.slice none 0 0)),.av (.sc (.slice none 0 0)),.av (.sc (.slice none 0 0)),.av (.sc (.slice none 0 0)),.av (.sc (.slice none 0 0)),.av (.sc (.slice none 0 0)),.li .i64 0,.av (.sc (.slice none 0 0)),.av (.sc (.slice none 0 0)),.av (.sc (.slice none 0 0))]),.pt 0 (Ps [.im aI,.im aQ,.im i64,.im ak,.im ak,.ow aC,.im aP,.n .i64,.im aG,.im aK,.im aD])])⟩]⟩
def OW:List (Nat×cQ):=[(36,OT)]
theorem J2{V:ByteArray->Bool}{ao:aA}(W:WorldS V ao):dc ao OW:=(.cons (xj W) .nil)
def s9:List Pl->Lf.T Rs:=BZ.step (fun _=>none) (dG OW 3) 3
def OX:fD:=qn BZ s9 kb iW
theorem J3{V:ByteArray->Bool}{ao:aA}(W:WorldS V ao):ep Rx.w OX (fun n d=>gy (ao n d) n (.bl 2 (.lp BZ.body))):=fL (W.toWorld.in (J2 W) 3) (aE _) (m:=3) kb iW
abbrev ke:List Ty:=[.ae aI,.ae aQ,.ae i64,.ae ak,.ae ak,.ae aC,.ae aP,i64,.ae aG,.ae aK,.ae aD,.ae aI,.ae aQ,.ae i64,.ae ak,.ae ak,.ae aC,.ae aP,i64,.ae aG,.ae aK,.ae aD,i64,i64]
abbrev iX:List Ty:=[.ae aI,.ae aQ,.ae i64,.ae ak,.ae ak,.ae aC,.ae aP,i64,.ae aG,.ae aK,.ae aD,.ae aI,.ae aQ,.ae i64,.ae ak,.ae ak,.ae aC,.ae aP,i64,.ae aG,.ae aK,.ae aD]
def B0:j4:=⟨4,fK Tryz.VM.code 4,[1,2,3,86,87,88],(Ps [.pt 0 (Ps [.im aI,.im aQ,.im i64,.im ak,.im ak,.im aC,.im aP,.n .i64,.im aG,.im aK,.im aD]),.pt 0 (Ps [.av (.sc (.slice none 0 0)),.av (.sc (.slice none 0 0)),.av (.sc (.slice none 0 0)),.av (.sc (.slice none 0 0)),.av (.sc (.slice none 0 0)),.av (.sc (.slice none 0 0)),.av (.sc (.slice none 0 0)),.li .i64 0,.av (.sc (.slice none 0 0)),.av (.sc (.slice none 0 0)),.av (.sc (.slice none 0 0))]),.pt 0 (Ps [.im aI,.im aQ,.im i64,.im ak,.im ak,.im aC,.im aP,.n .i64,.ow aG,.im aK,.im aD]),.oo 20 2,.n .i64,.n .i64]),[⟨.lN,[1,2,3],(Ps [.pt 0 (Ps [.im aI,.im aQ,.im i64,.im ak,.im ak,.im aC,.im aP,.n .i64,.im aG,.im aK,.im aD]),.pt 0 (Ps [.av (.sc (.slice none 0 0)),.av (.sc (.slice none 0 0)),.av (.sc (.slice none 0 0)),.av (.sc (.slice none 0 0)),.av (.sc (.slice none 0 0)),.av (.sc (.slice none 0 0)),.av (.sc (.slice none 0 0)),.li .i64 0,.av (.sc (.slice none 0 0)),.av (.sc (.slice none 0 0)),.av (.sc (.slice none 0 0))]),.pt 0 (Ps [.im aI,.im aQ,.im i64,.im ak,.im ak,.im aC,.im aP,.n .i64,.ow aG,.im aK,.im aD])])⟩]⟩
def OY:List (Nat×cQ):=[(32,V0),(36,OT)]
theorem J4{V:ByteArray->Bool}{ao:aA}(W:WorldS V ao):dc ao OY:=(.cons W.cl (.cons (xj W) .nil))
def tc:List Pl->Lf.T Rs:=B0.step (fun _=>none) (dG OY 3) 3
def OZ:fD:=qn B0 tc ke iX
theorem J5{V:ByteArray->Bool}{ao:aA}(W:WorldS V ao):ep Rx.w OZ (fun n d=>gy (ao n d) n (.bl 4 (.lp B0.body))):=fL (W.toWorld.in (J4 W) 3) (aE _) (m:=3) ke iX
abbrev kf:List Ty:=[.ae aI,.ae aQ,.ae i64,.ae ak,.ae ak,.ae aC,.ae aP,i64,.ae aG,.ae aK,.ae aD,.ae aI,.ae aQ,.ae i64,.ae ak,.ae ak,.ae aC,.ae aP,i64,.ae aG,.ae aK,.ae aD,i64,i64]
abbrev iY:List Ty:=[.ae aI,.ae aQ,.ae i64,.ae ak,.ae ak,.ae aC,.ae aP,i64,.ae aG,.ae aK,.ae aD,.ae aI,.ae aQ,.ae i64,.ae ak,.ae ak,.ae aC,.ae aP,i64,.ae aG,.ae aK,.ae aD]
def B1:j4:=⟨6,fK Tryz.VM.code 6,[1,2,3,110,111,112],(Ps [.pt 0 (Ps [.im aI,.im aQ,.im i64,.im ak,.im ak,.im aC,.im aP,.n .i64,.im aG,.im aK,.im aD]),.pt 0 (Ps [.av (.sc (.slice none 0 0)),.av (.sc (.slice none 0 0)),.av (.sc (.slice none 0 0)),.av (.sc (.slice none 0 0)),.av (.sc (.slice none 0 0)),.av (.sc (.slice none 0 0)),.av (.sc (.slice none 0 0)),.li .i64 0,.av (.sc (.slice none 0 0)),.av (.sc (.slice none 0 0)),.av (.sc (.slice none 0 0))]),.pt 0 (Ps [.im aI,.im aQ,.im i64,.im ak,.im ak,.im aC,.im aP,.n .i64,.im aG,.ow aK,.im aD]),.oo 21 2,.n .i64,.n .i64]),[⟨.lN,[1,2,3],(Ps [.pt 0 (Ps [.im aI,.im aQ,.im i64,.im ak,.im ak,.im aC,.im aP,.n .i64,.im aG,.im aK,.im aD]),.pt 0 (Ps [.av (.sc (.slice none 0 0)),.av (.sc (.slice none 0 0)),.av (.sc (.slice none 0 0)),.av (.sc (.slice none 0 0)),.av (.sc (.slice none 0 0)),.av (.sc (.slice none 0 0)),.av (.sc (.slice none 0 0)),.li .i64 0,.av (.sc (.slice none 0 0)),.av (.sc (.slice none 0 0)),.av (.sc (.slice none 0 0))]),.pt 0 (Ps [.im aI,.im aQ,.im i64,.im ak,.im ak,.im aC,.im aP,.n .i64,.im aG,.ow aK,.im aD])])⟩]⟩
def O0:List (Nat×cQ):=[(32,V0),(36,OT)]
theorem J6{V:ByteArray->Bool}{ao:aA}(W:WorldS V ao):dc ao O0:=(.cons W.cl (.cons (xj W) .nil))
def tf:List Pl->Lf.T Rs:=B1.step (fun _=>none) (dG O0 3) 3
def O1:fD:=qn B1 tf kf iY
theorem J7{V:ByteArray->Bool}{ao:aA}(W:WorldS V ao):ep Rx.w O1 (fun n d=>gy (ao n d) n (.bl 6 (.lp B1.body))):=fL (W.toWorld.in (J6 W) 3) (aE _) (m:=3) kf iY
abbrev kg:List Ty:=[.ae aI,.ae aQ,.ae i64,.ae ak,.ae ak,.ae aC,.ae aP,i64,.ae aG,.ae aK,.ae aD,i64,i64]
abbrev iZ:List Ty:=[.ae aI,.ae aQ,.ae i64,.ae ak,.ae ak,.ae aC,.ae aP,i64,.ae aG,.ae aK,.ae aD]
def B3:j4:=⟨8,fK Tryz.VM.code 8,[2,3,134,135,136],(Ps [.pt 0 (Ps [.av (.sc (.slice none 0 0)),.av (.sc (.slice none 0 0)),.av (.sc (.slice none 0 0)),.av (.sc (.slice none 0 0)),.av (.sc (.slice none 0 0)),.av (.sc (.slice none 0 0)),.av (.sc (.slice none 0 0)),.li .i64 0,.av (.sc (.slice none 0 0)),.av (.sc (.slice none 0 0)),.av (.sc (.slice none 0 0))]),.pt 0 (Ps [.im aI,.im aQ,.im i64,.im ak,.im ak,.im aC,.im aP,.n .i64,.im aG,.im aK,.ow aD]),.oo 11 2,.n .i64,.n .i64]),[⟨.lN,[2,3],(Ps [.pt 0 (Ps [.av (.sc (.slice none 0 0)),.av (.sc (.slice none 0 0)),.av (.sc (.slice none 0 0)),.av (.sc (.slice none 0 0)),.av (.sc (.slice none 0 0)),.av (.sc (.slice none 0 0)),.av (.sc (.slice none 0 0)),.li .i64 0,.av (.sc (.slice none 0 0)),.av (.sc (.slice none 0 0)),.av (.sc (.slice none 0 0))]),.pt 0 (Ps [.im aI,.im aQ,.im i64,.im ak,.im ak,.im aC,.im aP,.n .i64,.im aG,.im aK,.ow aD])])⟩]⟩
def O2:List (Nat×cQ):=[(36,OT),(41,jR u8)]
theorem J8{V:ByteArray->Bool}{ao:aA}(W:WorldS V ao):dc ao O2:=(.cons (xj W) (.cons W.c41 .nil))
def th:List Pl->Lf.T Rs:=B3.step (fun _=>none) (dG O2 3) 3
def O3:fD:=qn B3 th kg iZ
theorem J9{V:ByteArray->Bool}{ao:aA}(W:WorldS V ao):ep Rx.w O3 (fun n d=>gy (ao n d) n (.bl 8 (.lp B3.body))):=fL (W.toWorld.in (J8 W) 3) (aE _) (m:=3) kg iZ
def ajH:Nat->Option fD:=qg [(0,OV),(2,OX),(4,OZ),(6,O1),(8,O3)]
abbrev Ed:List Ty:=[.ae aI,.ae aQ,.ae i64,.ae ak,.ae ak,.ae aC,.ae aP,i64,.ae aG,.ae aK,.ae aD]
abbrev yZ:List Ty:=[.ae aI,.ae aQ,.ae i64,.ae ak,.ae ak,.ae aC,.ae aP,i64,.ae aG,.ae aK,.ae aD]
def aeC:List (Nat×cQ):=[(31,jR aI),(33,jR aQ),(32,V0),(34,jR ak),(35,jR aC),(37,jR aP),(38,jR aG),(39,jR aK),(40,jR aD)]
theorem Uz{V:ByteArray->Bool}{ao:aA}(W:WorldS V ao):dc ao aeC:=(.cons W.c31 (.cons W.c33 (.cons W.cl (.cons W.c34 (.cons W.c35 (.cons W.c37 (.cons W.c38 (.cons W.c39 (.cons W.c40 .nil)))))))))
def aau(x:aj Ed):Lf.T (List Pl):=ja (Ps [.ag (Ps [.im aI,.im aQ,.im i64,.im ak,.im ak,.im aC,.im aP,.n .i64,.im aG,.im aK,.im aD])]) [] (Ps [.ag (Ps [.im aI,.im aQ,.im i64,.im ak,.im ak,.im aC,.im aP,.n .i64,.im aG,.im aK,.im aD])]) ajH Tryz.VM 3 (dG aeC 3) (aB Ed x)
def UA(x:aj Ed):Bool:=mS (jP yZ (aau x))
def UB(x:aj Ed):aj yZ:=mS (e7 yZ (aau x))
def aav:cQ:=iw (Ps [.ag (Ps [.im aI,.im aQ,.im i64,.im ak,.im ak,.im aC,.im aP,.n .i64,.im aG,.im aK,.im aD])]) [] (Ps [.ag (Ps [.im aI,.im aQ,.im i64,.im ak,.im ak,.im aC,.im aP,.n .i64,.im aG,.im aK,.im aD])]) Ed yZ fun x=>.ck (UA x) (.ok (UB x))
theorem Ia{V:ByteArray->Bool}{ao:aA}(W:WorldS V ao):aav.Ok 19 ao:=
 eU (W.toWorld.in (Uz W) 3) (W.toWorld.st 19 _ rfl) rfl (fx.jq (.cons (b:=BX.body) (by kernel_rfl) (J1 W) (.cons (b:=BZ.body) (by kernel_rfl) (J3 W) (.cons (b:=B0.body) (by kernel_rfl) (J5 W) (.cons (b:=B1.body) (by kernel_rfl) (J7 W) (.cons (b:=B3.body) (by kernel_rfl) (J9 W) .nil)))))) (m:=3) rfl (fun _=>cg _) (fun _=>cg _)
end Go.Proofs.Vd

noncomputable section
namespace Go.Proofs.Vd
open Go.Ab Go.Ab.Lf
set_option maxRecDepth 100000
theorem Ib(l:List (den tI))(n i:Int):(rh (aB j9 (l,n,i,()))).val=bif decide (i<n)then aT (bm i (l.length:Int)) (aT (decide (List.length (l.getD i.toNat (aq tI)).2.2.2.2.2<=1099511627776)) (aT (bm i (l.length:Int))
 (some (.next (aB j9 (l.set i.toNat ((l.getD i.toNat (aq tI)).1,(l.getD i.toNat (aq tI)).2.1,(l.getD i.toNat (aq tI)).2.2.1,(l.getD i.toNat (aq tI)).2.2.2.1,(l.getD i.toNat (aq tI)).2.2.2.2.1,(l.getD i.toNat (aq tI)).2.2.2.2.2),n,cr .i64 i 1,()))))))else some (.out 0 (aB iU (l,()))):=by kernel_rfl
theorem aeD(l:List (den tI)):(aas (l,())).val=aT (decide (l.length<=1099511627776)) (aT (qh rh j9 iU (l,(l.length:Int),0,())) (some (aB Ec (gP rh j9 iU (l,(l.length:Int),0,()))))):=by kernel_rfl
theorem Ic(o1:List (den aI))(o2:List (den aQ))(o3:List Int)(o4:List (den ak))(o5:List (den ak))(o6:List (den aC))(o7:List (den aP))(o8:Int)(o9:List (den aG))(iN:List (den aK))(ig:List (den aD))(m1:List (den aI))(m2:List (den aQ))(m3:List Int)(m4:List (den ak))(m5:List (den ak))(m6:List (den aC))(m7:List (den aP))(m8:Int)(m9:List (den aG))(bT:List (den aK))(bX:List (den aD))(n i:Int):(s7 (aB ka (o1,o2,o3,o4,o5,o6,o7,o8,o9,iN,ig,m1,m2,m3,m4,m5,m6,m7,m8,m9,bT,bX,n,i,()))).val=bif decide (i<n)then aT (bm i (m1.length:Int)) (aT (decide (List.length (m1.getD i.toNat (aq aI)).1<=1099511627776)) (aT (decide (List.length (m1.getD i.toNat (aq aI)).2<=1099511627776)) (aT (bm i (m1.length:Int)) (some (.next (aB ka (o1,o2,o3,o4,o5,o6,o7,o8,o9,iN,ig,m1.set i.toNat ((m1.getD i.toNat (aq aI)).1,(m1.getD i.toNat (aq aI)).2),m2,m3,m4,m5,m6,m7,m8,m9,bT,bX,n,cr .i64 i 1,())))))))else some (.out 0 (aB iV (o1,o2,o3,o4,o5,o6,o7,o8,o9,iN,ig,m1,m2,m3,m4,m5,m6,m7,m8,m9,bT,bX,()))):=by kernel_rfl
theorem Ie(o1:List (den aI))(o2:List (den aQ))(o3:List Int)(o4:List (den ak))(o5:List (den ak))(o6:List (den aC))(o7:List (den aP))(o8:Int)(o9:List (den aG))(iN:List (den aK))(ig:List (den aD))(m1:List (den aI))(m2:List (den aQ))(m3:List Int)(m4:List (den ak))(m5:List (den ak))(m6:List (den aC))(m7:List (den aP))(m8:Int)(m9:List (den aG))(bT:List (den aK))(bX:List (den aD))(n i:Int):(s9 (aB kb (o1,o2,o3,o4,o5,o6,o7,o8,o9,iN,ig,m1,m2,m3,m4,m5,m6,m7,m8,m9,bT,bX,n,i,()))).val=bif decide (i<n)then aT (bm i (m6.length:Int)) (aT (JY ((m6.getD i.toNat (aq aC)).2.2,())) (aT (bm i (m6.length:Int)) (some (.next (aB kb (o1,o2,o3,o4,o5,o6,o7,o8,o9,iN,ig,m1,m2,m3,m4,m5,m6.set i.toNat ((m6.getD i.toNat (aq aC)).1,(m6.getD i.toNat (aq aC)).2.1,(JZ ((m6.getD i.toNat (aq aC)).2.2,())).1),m7,m8,m9,bT,bX,n,cr .i64 i 1,()))))))else some (.out 0 (aB iW (o1,o2,o3,o4,o5,o6,o7,o8,o9,iN,ig,m1,m2,m3,m4,m5,m6,m7,m8,m9,bT,bX,()))):=by kernel_rfl
theorem Ig(o1:List (den aI))(o2:List (den aQ))(o3:List Int)(o4:List (den ak))(o5:List (den ak))(o6:List (den aC))(o7:List (den aP))(o8:Int)(o9:List (den aG))(iN:List (den aK))(ig:List (den aD))(m1:List (den aI))(m2:List (den aQ))(m3:List Int)(m4:List (den ak))(m5:List (den ak))(m6:List (den aC))(m7:List (den aP))(m8:Int)(m9:List (den aG))(bT:List (den aK))(bX:List (den aD))(n i:Int):(tc (aB ke (o1,o2,o3,o4,o5,o6,o7,o8,o9,iN,ig,m1,m2,m3,m4,m5,m6,m7,m8,m9,bT,bX,n,i,()))).val=bif decide (i<n)then aT (bm i (m9.length:Int)) (aT (JY ((m9.getD i.toNat (aq aG)).1,())) (aT (decide (List.length (m9.getD i.toNat (aq aG)).2<=1099511627776)) (aT (bm i (m9.length:Int)) (some (.next (aB ke (o1,o2,o3,o4,o5,o6,o7,o8,o9,iN,ig,m1,m2,m3,m4,m5,m6,m7,m8,m9.set i.toNat ((JZ ((m9.getD i.toNat (aq aG)).1,())).1,(m9.getD i.toNat (aq aG)).2),bT,bX,n,cr .i64 i 1,())))))))else some (.out 0 (aB iX (o1,o2,o3,o4,o5,o6,o7,o8,o9,iN,ig,m1,m2,m3,m4,m5,m6,m7,m8,m9,bT,bX,()))):=by kernel_rfl
theorem Ih(o1:List (den aI))(o2:List (den aQ))(o3:List Int)(o4:List (den ak))(o5:List (den ak))(o6:List (den aC))(o7:List (den aP))(o8:Int)(o9:List (den aG))(iN:List (den aK))(ig:List (den aD))(m1:List (den aI))(m2:List (den aQ))(m3:List Int)(m4:List (den ak))(m5:List (den ak))(m6:List (den aC))(m7:List (den aP))(m8:Int)(m9:List (den aG))(bT:List (den aK))(bX:List (den aD))(n i:Int):(tf (aB kf (o1,o2,o3,o4,o5,o6,o7,o8,o9,iN,ig,m1,m2,m3,m4,m5,m6,m7,m8,m9,bT,bX,n,i,()))).val=bif decide (i<n)then aT (bm i (bT.length:Int)) (aT (decide (List.length (bT.getD i.toNat (aq aK)).1<=1099511627776)) (aT (JY ((bT.getD i.toNat (aq aK)).2,())) (aT (bm i (bT.length:Int)) (some (.next (aB kf (o1,o2,o3,o4,o5,o6,o7,o8,o9,iN,ig,m1,m2,m3,m4,m5,m6,m7,m8,m9,bT.set i.toNat ((bT.getD i.toNat (aq aK)).1,(JZ ((bT.getD i.toNat (aq aK)).2,())).1),bX,n,cr .i64 i 1,())))))))else some (.out 0 (aB iY (o1,o2,o3,o4,o5,o6,o7,o8,o9,iN,ig,m1,m2,m3,m4,m5,m6,m7,m8,m9,bT,bX,()))):=by kernel_rfl
theorem Ii(m1:List (den aI))(m2:List (den aQ))(m3:List Int)(m4:List (den ak))(m5:List (den ak))(m6:List (den aC))(m7:List (den aP))(m8:Int)(m9:List (den aG))(bT:List (den aK))(bX:List (den aD))(n i:Int):(th (aB kg (m1,m2,m3,m4,m5,m6,m7,m8,m9,bT,bX,n,i,()))).val=bif decide (i<n)then aT (bm i (bX.length:Int)) (aT (JY ((bX.getD i.toNat (aq aD)).1,())) (aT (decide (List.length (bX.getD i.toNat (aq aD)).2<=1099511627776)) (aT (bm i (bX.length:Int)) (some (.next (aB kg (m1,m2,m3,m4,m5,m6,m7,m8,m9,bT,bX.set i.toNat ((JZ ((bX.getD i.toNat (aq aD)).1,())).1,(bX.getD i.toNat (aq aD)).2),n,cr .i64 i 1,())))))))else some (.out 0 (aB iZ (m1,m2,m3,m4,m5,m6,m7,m8,m9,bT,bX,()))):=by kernel_rfl
theorem aeE(m1:List (den aI))(m2:List (den aQ))(m3:List Int)(m4:List (den ak))(m5:List (den ak))(m6:List (den aC))(m7:List (den aP))(m8:Int)(m9:List (den aG))(bT:List (den aK))(bX:List (den aD))(X0:aj ka)(hX0:X0=(m1,m2,m3,m4,m5,m6,m7,m8,m9,bT,bX,m1,m2,m3,m4,m5,m6,m7,m8,m9,bT,bX,(m1.length:Int),0,()))(z0:aj iV)(hz0:z0=gP s7 ka iV X0)(X1:aj kb)(hX1:X1=(z0.1,z0.2.1,z0.2.2.1,z0.2.2.2.1,z0.2.2.2.2.1,z0.2.2.2.2.2.1,z0.2.2.2.2.2.2.1,z0.2.2.2.2.2.2.2.1,z0.2.2.2.2.2.2.2.2.1,z0.2.2.2.2.2.2.2.2.2.1,z0.2.2.2.2.2.2.2.2.2.2.1,z0.2.2.2.2.2.2.2.2.2.2.2.1,z0.2.1,z0.2.2.1,z0.2.2.2.1,z0.2.2.2.2.1,z0.2.2.2.2.2.1,z0.2.2.2.2.2.2.2.2.2.2.2.2.2.2.2.2.2.1,z0.2.2.2.2.2.2.2.2.2.2.2.2.2.2.2.2.2.2.1,z0.2.2.2.2.2.2.2.2.2.2.2.2.2.2.2.2.2.2.2.1,z0.2.2.2.2.2.2.2.2.2.2.2.2.2.2.2.2.2.2.2.2.1,z0.2.2.2.2.2.2.2.2.2.2.2.2.2.2.2.2.2.2.2.2.2.1,(List.length z0.2.2.2.2.2.1:Int),0,()))(z1:aj iW)(hz1:z1=gP s9 kb iW X1)(X2:aj ke)(zM:X2=(z1.1,z1.2.1,z1.2.2.1,z1.2.2.2.1,z1.2.2.2.2.1,z1.2.2.2.2.2.1,z1.2.2.2.2.2.2.1,z1.2.2.2.2.2.2.2.1,z1.2.2.2.2.2.2.2.2.1,z1.2.2.2.2.2.2.2.2.2.1,z1.2.2.2.2.2.2.2.2.2.2.1,z1.2.2.2.2.2.2.2.2.2.2.2.1,z1.2.2.2.2.2.2.2.2.2.2.2.2.1,z1.2.2.2.2.2.2.2.2.2.2.2.2.2.1,z1.2.2.2.2.2.2.2.2.2.2.2.2.2.2.1,z1.2.2.2.2.2.2.2.2.2.2.2.2.2.2.2.1,z1.2.2.2.2.2.2.2.2.2.2.2.2.2.2.2.2.1,z1.2.2.2.2.2.2.1,z1.2.2.2.2.2.2.2.2.2.2.2.2.2.2.2.2.2.2.1,z1.2.2.2.2.2.2.2.2.1,z1.2.2.2.2.2.2.2.2.2.2.2.2.2.2.2.2.2.2.2.2.1,z1.2.2.2.2.2.2.2.2.2.2.2.2.2.2.2.2.2.2.2.2.2.1,(List.length z1.2.2.2.2.2.2.2.2.1:Int),0,()))(z2:aj iX)(hz2:z2=gP tc ke iX X2)(X3:aj kf)(hX3:X3=(z2.1,z2.2.1,z2.2.2.1,z2.2.2.2.1,z2.2.2.2.2.1,z2.2.2.2.2.2.1,z2.2.2.2.2.2.2.1,z2.2.2.2.2.2.2.2.1,z2.2.2.2.2.2.2.2.2.1,z2.2.2.2.2.2.2.2.2.2.1,z2.2.2.2.2.2.2.2.2.2.2.1,z2.2.2.2.2.2.2.2.2.2.2.2.1,z2.2.2.2.2.2.2.2.2.2.2.2.2.1,z2.2.2.2.2.2.2.2.2.2.2.2.2.2.1,z2.2.2.2.2.2.2.2.2.2.2.2.2.2.2.1,z2.2.2.2.2.2.2.2.2.2.2.2.2.2.2.2.1,z2.2.2.2.2.2.2.2.2.2.2.2.2.2.2.2.2.1,z2.2.2.2.2.2.2.2.2.2.2.2.2.2.2.2.2.2.1,z2.2.2.2.2.2.2.2.2.2.2.2.2.2.2.2.2.2.2.1,z2.2.2.2.2.2.2.2.2.2.2.2.2.2.2.2.2.2.2.2.1,z2.2.2.2.2.2.2.2.2.2.1,z2.2.2.2.2.2.2.2.2.2.2.2.2.2.2.2.2.2.2.2.2.2.1,(List.length z2.2.2.2.2.2.2.2.2.2.1:Int),0,()))(z3:aj iY)(hz3:z3=gP tf kf iY X3)(X4:aj kg)(zN:X4=(z3.2.2.2.2.2.2.2.2.2.2.2.1,z3.2.2.2.2.2.2.2.2.2.2.2.2.1,z3.2.2.2.2.2.2.2.2.2.2.2.2.2.1,z3.2.2.2.2.2.2.2.2.2.2.2.2.2.2.1,z3.2.2.2.2.2.2.2.2.2.2.2.2.2.2.2.1,z3.2.2.2.2.2.2.2.2.2.2.2.2.2.2.2.2.1,z3.2.2.2.2.2.2.2.2.2.2.2.2.2.2.2.2.2.1,z3.2.2.2.2.2.2.2.2.2.2.2.2.2.2.2.2.2.2.1,z3.2.2.2.2.2.2.2.2.2.2.2.2.2.2.2.2.2.2.2.1,z3.2.2.2.2.2.2.2.2.2.2.2.2.2.2.2.2.2.2.2.2.1,z3.2.2.2.2.2.2.2.2.2.2.1,(List.length z3.2.2.2.2.2.2.2.2.2.2.1:Int),0,()))(z4:aj iZ)(hz4:z4=gP th kg iZ X4):(aau (m1,m2,m3,m4,m5,m6,m7,m8,m9,bT,bX,())).val=aT (decide (List.length m1<=1099511627776)) (aT (qh s7 ka iV X0) (aT (decide (List.length z0.2.1<=1099511627776)) (aT (decide (List.length z0.2.2.1<=1099511627776)) (aT (decide (List.length z0.2.2.2.1<=1099511627776)) (aT (decide (List.length z0.2.2.2.2.1<=1099511627776)) (aT (decide (List.length z0.2.2.2.2.2.1<=1099511627776)) (aT (qh s9 kb iW X1) (aT (decide (List.length z1.2.2.2.2.2.2.1<=1099511627776)) (aT (decide (List.length z1.2.2.2.2.2.2.2.2.1<=1099511627776)) (aT (qh tc ke iX X2) (aT (decide (List.length z2.2.2.2.2.2.2.2.2.2.1<=1099511627776)) (aT (qh tf kf iY X3) (aT (decide (List.length z3.2.2.2.2.2.2.2.2.2.2.1<=1099511627776)) (aT (qh th kg iZ X4) (some (aB yZ z4)))))))))))))))):=by
 subst hz4;subst zN
 subst hz3;subst hX3
 subst hz2;subst zM
 subst hz1;subst hX1
 subst hz0;subst hX0
 kernel_rfl
end Go.Proofs.Vd

noncomputable section
namespace Go.Proofs.Vd
open Go.Ab Go.Ab.Lf
set_option maxRecDepth 100000
def LI(l:List (den tI)):Prop:=l.length<=1099511627776/\ ∀ x:den tI,x∈l->x.2.2.2.2.2.length<=1099511627776
theorem aaw(l:List (den tI))(h:LI l):gM rh (aB j9 (l,(l.length:Int),((0:Nat):Int),())) 0 (aB iU (l,())):=by
 refine p8 l.length (fun j=>aB j9 (l,(l.length:Int),(j:Int),())) _ (fun j hj=>?_) ?_
 ·refine(Ib l (l.length:Int) (j:Int)).trans ?_
  rw[Int.toNat_natCast,dt (show(j:Int)<(l.length:Int) by omega),show bm (j:Int) (l.length:Int)=true from cN hj,OQ (by have:=h.1;omega),dt (h.2 _ (jt hj _))]
  rw[show l.set j ((l.getD j (aq tI)).1,(l.getD j (aq tI)).2.1,(l.getD j (aq tI)).2.2.1,(l.getD j (aq tI)).2.2.2.1,(l.getD j (aq tI)).2.2.2.2.1,(l.getD j (aq tI)).2.2.2.2.2)=l from oW l j (aq tI) hj]
  rfl
 ·refine(Ib l (l.length:Int) (l.length:Int)).trans ?_
  rw[df (show ¬ (l.length:Int)<(l.length:Int) by omega)]
  rfl
theorem Ee(l:List (den tI))(h:LI l):JY (l,())=true/\JZ (l,())=(l,()):=by
 refine we (cg _) (cg _) ?_
 have r:=aaw l h
 obtain⟨q1,q2⟩:=kq (f:=rh) (ti:=j9) (to:=iU) r
 refine(aeD l).trans ?_
 rw[dt h.1,show qh rh j9 iU (l,(l.length:Int),0,())=true from q1,show gP rh j9 iU (l,(l.length:Int),0,())=_ from q2]
 rfl
structure MB(m1:List (den aI))(m2:List (den aQ))(m3:List Int)(m4:List (den ak))(m5:List (den ak))(m6:List (den aC))(m7:List (den aP))(m8:Int)(m9:List (den aG))(bT:List (den aK))(bX:List (den aD)):Prop where
 l1:m1.length<=1099511627776
 l2:m2.length<=1099511627776
 l3:m3.length<=1099511627776
 l4:m4.length<=1099511627776
 l5:m5.length<=1099511627776
 l6:m6.length<=1099511627776
 l7:m7.length<=1099511627776
 l9:m9.length<=1099511627776
 l10:bT.length<=1099511627776
 Kt:bX.length<=1099511627776
 t: ∀ x:den aI,x∈m1->x.1.length<=1099511627776/\x.2.length<=1099511627776
 g: ∀ x:den aC,x∈m6->LI x.2.2
 e: ∀ x:den aG,x∈m9->LI x.1/\x.2.length<=1099511627776
 c: ∀ x:den aK,x∈bT->x.1.length<=1099511627776/\LI x.2
 d: ∀ x:den aD,x∈bX->LI x.1/\x.2.length<=1099511627776
section
variable (m1:List (den aI))(m2:List (den aQ))(m3:List Int)(m4:List (den ak))(m5:List (den ak))(m6:List (den aC))(m7:List (den aP))(m8:Int)(m9:List (den aG))(bT:List (den aK))(bX:List (den aD))
theorem aax(o1:List (den aI))(o2:List (den aQ))(o3:List Int)(o4:List (den ak))(o5:List (den ak))(o6:List (den aC))(o7:List (den aP))(o8:Int)(o9:List (den aG))(iN:List (den aK))(ig:List (den aD))(H:MB m1 m2 m3 m4 m5 m6 m7 m8 m9 bT bX):gM s7 (aB ka (o1,o2,o3,o4,o5,o6,o7,o8,o9,iN,ig,m1,m2,m3,m4,m5,m6,m7,m8,m9,bT,bX,(m1.length:Int),((0:Nat):Int),())) 0 (aB iV (o1,o2,o3,o4,o5,o6,o7,o8,o9,iN,ig,m1,m2,m3,m4,m5,m6,m7,m8,m9,bT,bX,())):=by
 refine p8 m1.length (fun j=>aB ka (o1,o2,o3,o4,o5,o6,o7,o8,o9,iN,ig,m1,m2,m3,m4,m5,m6,m7,m8,m9,bT,bX,(m1.length:Int),(j:Int),())) _ (fun j hj=>?_) ?_
 ·have hx:=H.t _ (jt hj (aq aI))
  refine(Ic o1 o2 o3 o4 o5 o6 o7 o8 o9 iN ig m1 m2 m3 m4 m5 m6 m7 m8 m9 bT bX (m1.length:Int) (j:Int)).trans ?_
  rw[Int.toNat_natCast,dt (show(j:Int)<(m1.length:Int) by omega),show bm (j:Int) (m1.length:Int)=true from cN hj,OQ (by have:=H.l1;omega),dt hx.1,dt hx.2]
  rw[show m1.set j ((m1.getD j (aq aI)).1,(m1.getD j (aq aI)).2)=m1 from oW m1 j (aq aI) hj]
  rfl
 ·refine(Ic o1 o2 o3 o4 o5 o6 o7 o8 o9 iN ig m1 m2 m3 m4 m5 m6 m7 m8 m9 bT bX (m1.length:Int) (m1.length:Int)).trans ?_
  rw[df (show ¬ (m1.length:Int)<(m1.length:Int) by omega)]
  rfl
theorem aay(o1:List (den aI))(o2:List (den aQ))(o3:List Int)(o4:List (den ak))(o5:List (den ak))(o6:List (den aC))(o7:List (den aP))(o8:Int)(o9:List (den aG))(iN:List (den aK))(ig:List (den aD))(H:MB m1 m2 m3 m4 m5 m6 m7 m8 m9 bT bX):gM s9 (aB kb (o1,o2,o3,o4,o5,o6,o7,o8,o9,iN,ig,m1,m2,m3,m4,m5,m6,m7,m8,m9,bT,bX,(m6.length:Int),((0:Nat):Int),())) 0 (aB iW (o1,o2,o3,o4,o5,o6,o7,o8,o9,iN,ig,m1,m2,m3,m4,m5,m6,m7,m8,m9,bT,bX,())):=by
 refine p8 m6.length (fun j=>aB kb (o1,o2,o3,o4,o5,o6,o7,o8,o9,iN,ig,m1,m2,m3,m4,m5,m6,m7,m8,m9,bT,bX,(m6.length:Int),(j:Int),())) _ (fun j hj=>?_) ?_
 ·have hx:=H.g _ (jt hj (aq aC))
  refine(Ie o1 o2 o3 o4 o5 o6 o7 o8 o9 iN ig m1 m2 m3 m4 m5 m6 m7 m8 m9 bT bX (m6.length:Int) (j:Int)).trans ?_
  rw[Int.toNat_natCast,dt (show(j:Int)<(m6.length:Int) by omega),show bm (j:Int) (m6.length:Int)=true from cN hj,OQ (by have:=H.l6;omega),(Ee _ hx).1,(Ee _ hx).2]
  rw[show m6.set j ((m6.getD j (aq aC)).1,(m6.getD j (aq aC)).2.1,(m6.getD j (aq aC)).2.2)=m6 from oW m6 j (aq aC) hj]
  rfl
 ·refine(Ie o1 o2 o3 o4 o5 o6 o7 o8 o9 iN ig m1 m2 m3 m4 m5 m6 m7 m8 m9 bT bX (m6.length:Int) (m6.length:Int)).trans ?_
  rw[df (show ¬ (m6.length:Int)<(m6.length:Int) by omega)]
  rfl
theorem aaz(o1:List (den aI))(o2:List (den aQ))(o3:List Int)(o4:List (den ak))(o5:List (den ak))(o6:List (den aC))(o7:List (den aP))(o8:Int)(o9:List (den aG))(iN:List (den aK))(ig:List (den aD))(H:MB m1 m2 m3 m4 m5 m6 m7 m8 m9 bT bX):gM tc (aB ke (o1,o2,o3,o4,o5,o6,o7,o8,o9,iN,ig,m1,m2,m3,m4,m5,m6,m7,m8,m9,bT,bX,(m9.length:Int),((0:Nat):Int),())) 0 (aB iX (o1,o2,o3,o4,o5,o6,o7,o8,o9,iN,ig,m1,m2,m3,m4,m5,m6,m7,m8,m9,bT,bX,())):=by
 refine p8 m9.length (fun j=>aB ke (o1,o2,o3,o4,o5,o6,o7,o8,o9,iN,ig,m1,m2,m3,m4,m5,m6,m7,m8,m9,bT,bX,(m9.length:Int),(j:Int),())) _ (fun j hj=>?_) ?_
 ·have hx:=H.e _ (jt hj (aq aG))
  refine(Ig o1 o2 o3 o4 o5 o6 o7 o8 o9 iN ig m1 m2 m3 m4 m5 m6 m7 m8 m9 bT bX (m9.length:Int) (j:Int)).trans ?_
  rw[Int.toNat_natCast,dt (show(j:Int)<(m9.length:Int) by omega),show bm (j:Int) (m9.length:Int)=true from cN hj,OQ (by have:=H.l9;omega),(Ee _ hx.1).1,(Ee _ hx.1).2,dt hx.2]
  rw[show m9.set j ((m9.getD j (aq aG)).1,(m9.getD j (aq aG)).2)=m9 from oW m9 j (aq aG) hj]
  rfl
 ·refine(Ig o1 o2 o3 o4 o5 o6 o7 o8 o9 iN ig m1 m2 m3 m4 m5 m6 m7 m8 m9 bT bX (m9.length:Int) (m9.length:Int)).trans ?_
  rw[df (show ¬ (m9.length:Int)<(m9.length:Int) by omega)]
  rfl
theorem aaA(o1:List (den aI))(o2:List (den aQ))(o3:List Int)(o4:List (den ak))(o5:List (den ak))(o6:List (den aC))(o7:List (den aP))(o8:Int)(o9:List (den aG))(iN:List (den aK))(ig:List (den aD))(H:MB m1 m2 m3 m4 m5 m6 m7 m8 m9 bT bX):gM tf (aB kf (o1,o2,o3,o4,o5,o6,o7,o8,o9,iN,ig,m1,m2,m3,m4,m5,m6,m7,m8,m9,bT,bX,(bT.length:Int),((0:Nat):Int),())) 0 (aB iY (o1,o2,o3,o4,o5,o6,o7,o8,o9,iN,ig,m1,m2,m3,m4,m5,m6,m7,m8,m9,bT,bX,())):=by
 refine p8 bT.length (fun j=>aB kf (o1,o2,o3,o4,o5,o6,o7,o8,o9,iN,ig,m1,m2,m3,m4,m5,m6,m7,m8,m9,bT,bX,(bT.length:Int),(j:Int),())) _ (fun j hj=>?_) ?_
 ·have hx:=H.c _ (jt hj (aq aK))
  refine(Ih o1 o2 o3 o4 o5 o6 o7 o8 o9 iN ig m1 m2 m3 m4 m5 m6 m7 m8 m9 bT bX (bT.length:Int) (j:Int)).trans ?_
  rw[Int.toNat_natCast,dt (show(j:Int)<(bT.length:Int) by omega),show bm (j:Int) (bT.length:Int)=true from cN hj,OQ (by have:=H.l10;omega),(Ee _ hx.2).1,(Ee _ hx.2).2,dt hx.1]
  rw[show bT.set j ((bT.getD j (aq aK)).1,(bT.getD j (aq aK)).2)=bT from oW bT j (aq aK) hj]
  rfl
 ·refine(Ih o1 o2 o3 o4 o5 o6 o7 o8 o9 iN ig m1 m2 m3 m4 m5 m6 m7 m8 m9 bT bX (bT.length:Int) (bT.length:Int)).trans ?_
  rw[df (show ¬ (bT.length:Int)<(bT.length:Int) by omega)]
  rfl
theorem aaB(H:MB m1 m2 m3 m4 m5 m6 m7 m8 m9 bT bX):gM th (aB kg (m1,m2,m3,m4,m5,m6,m7,m8,m9,bT,bX,(bX.length:Int),((0:Nat):Int),())) 0 (aB iZ (m1,m2,m3,m4,m5,m6,m7,m8,m9,bT,bX,())):=by
 refine p8 bX.length (fun j=>aB kg (m1,m2,m3,m4,m5,m6,m7,m8,m9,bT,bX,(bX.length:Int),(j:Int),())) _ (fun j hj=>?_) ?_
 ·have hx:=H.d _ (jt hj (aq aD))
  refine(Ii m1 m2 m3 m4 m5 m6 m7 m8 m9 bT bX (bX.length:Int) (j:Int)).trans ?_
  rw[Int.toNat_natCast,dt (show(j:Int)<(bX.length:Int) by omega),show bm (j:Int) (bX.length:Int)=true from cN hj,OQ (by have:=H.Kt;omega),(Ee _ hx.1).1,(Ee _ hx.1).2,dt hx.2]
  rw[show bX.set j ((bX.getD j (aq aD)).1,(bX.getD j (aq aD)).2)=bX from oW bX j (aq aD) hj]
  rfl
 ·refine(Ii m1 m2 m3 m4 m5 m6 m7 m8 m9 bT bX (bX.length:Int) (bX.length:Int)).trans ?_
  rw[df (show ¬ (bX.length:Int)<(bX.length:Int) by omega)]
  rfl
theorem aeG(H:MB m1 m2 m3 m4 m5 m6 m7 m8 m9 bT bX):UA (m1,m2,m3,m4,m5,m6,m7,m8,m9,bT,bX,())=true/\UB (m1,m2,m3,m4,m5,m6,m7,m8,m9,bT,bX,())=(m1,m2,m3,m4,m5,m6,m7,m8,m9,bT,bX,()):=by
 have q0:=kq (f:=s7) (ti:=ka) (to:=iV) (aax m1 m2 m3 m4 m5 m6 m7 m8 m9 bT bX m1 m2 m3 m4 m5 m6 m7 m8 m9 bT bX H)
 have q2:=kq (f:=s9) (ti:=kb) (to:=iW) (aay m1 m2 m3 m4 m5 m6 m7 m8 m9 bT bX m1 m2 m3 m4 m5 m6 m7 m8 m9 bT bX H)
 have q4:=kq (f:=tc) (ti:=ke) (to:=iX) (aaz m1 m2 m3 m4 m5 m6 m7 m8 m9 bT bX m1 m2 m3 m4 m5 m6 m7 m8 m9 bT bX H)
 have q6:=kq (f:=tf) (ti:=kf) (to:=iY) (aaA m1 m2 m3 m4 m5 m6 m7 m8 m9 bT bX m1 m2 m3 m4 m5 m6 m7 m8 m9 bT bX H)
 have q8:=kq (f:=th) (ti:=kg) (to:=iZ) (aaB m1 m2 m3 m4 m5 m6 m7 m8 m9 bT bX H)
 refine we (cg _) (cg _) ?_
 refine(aeE m1 m2 m3 m4 m5 m6 m7 m8 m9 bT bX _ rfl (m1,m2,m3,m4,m5,m6,m7,m8,m9,bT,bX,m1,m2,m3,m4,m5,m6,m7,m8,m9,bT,bX,()) q0.2.symm _ rfl (m1,m2,m3,m4,m5,m6,m7,m8,m9,bT,bX,m1,m2,m3,m4,m5,m6,m7,m8,m9,bT,bX,()) q2.2.symm _ rfl (m1,m2,m3,m4,m5,m6,m7,m8,m9,bT,bX,m1,m2,m3,m4,m5,m6,m7,m8,m9,bT,bX,()) q4.2.symm _ rfl (m1,m2,m3,m4,m5,m6,m7,m8,m9,bT,bX,m1,m2,m3,m4,m5,m6,m7,m8,m9,bT,bX,()) q6.2.symm _ rfl (m1,m2,m3,m4,m5,m6,m7,m8,m9,bT,bX,()) q8.2.symm).trans ?_
 dsimp only
 rw[dt H.l1,dt H.l2,dt H.l3,dt H.l4,dt H.l5,dt H.l6,dt H.l7,dt H.l9,dt H.l10,dt H.Kt,show qh s7 ka iV (m1,m2,m3,m4,m5,m6,m7,m8,m9,bT,bX,m1,m2,m3,m4,m5,m6,m7,m8,m9,bT,bX,(m1.length:Int),0,())=true from q0.1,show qh s9 kb iW (m1,m2,m3,m4,m5,m6,m7,m8,m9,bT,bX,m1,m2,m3,m4,m5,m6,m7,m8,m9,bT,bX,(m6.length:Int),0,())=true from q2.1,show qh tc ke iX (m1,m2,m3,m4,m5,m6,m7,m8,m9,bT,bX,m1,m2,m3,m4,m5,m6,m7,m8,m9,bT,bX,(m9.length:Int),0,())=true from q4.1,show qh tf kf iY (m1,m2,m3,m4,m5,m6,m7,m8,m9,bT,bX,m1,m2,m3,m4,m5,m6,m7,m8,m9,bT,bX,(bT.length:Int),0,())=true from q6.1,show qh th kg iZ (m1,m2,m3,m4,m5,m6,m7,m8,m9,bT,bX,(bX.length:Int),0,())=true from q8.1]
 rfl
end
end Go.Proofs.Vd

noncomputable section
namespace Go.Proofs.Vd
open Go.Ab Go.Ab.Lf
set_option maxRecDepth 100000
theorem y0{P:jT}{ptr:List Nat}{Q:jT}{ti to:List Ty}{g:aj ti->Lf.T (aj to)}{pl q:List Pl}(h:((iw P ptr Q ti to g).f pl).val=some q): ∃ x y,pl=aB ti x/\(g x).val=some y/\q=aB to y:=by
 change (match toT ti pl with|some x=>(g x).map (aB to)|none=>.bad).val=some q at h
 split at h
 ·rename_i x hx
  obtain⟨y,h1,h2⟩:=T.HJ h
  exact⟨x,y,mL hx,h1,h2⟩
 ·cases h
theorem vD{P:jT}{ptr:List Nat}{Q:jT}{ti to:List Ty}{g:aj ti->Lf.T (aj to)}{x:aj ti}{y:aj to}(h:(g x).val=some y):((iw P ptr Q ti to g).f (aB ti x)).val=some (aB to y):=by
 show(match toT ti (aB ti x)with|some x=>(g x).map (aB to)|none=>.bad).val=_
 rw[pL]
 show((g x).bd fun a=>Lf.T.ok (aB to a)).val=_
 rw[Lf.T.Mu,h]
 rfl
def Wk(V:ByteArray->Bool)(y:aj tM):Bool:=Ge V y&&Z9 y.2.2.2.2.2.2.1
def s8c(V:ByteArray->Bool):cQ:=iw (Ps [pM]) [] (Ps [.n .i64]) tM [i64] fun y=>.ck (Wk V y) (.ok (gY V y,()))
theorem B4{V:ByteArray->Bool}{ao:aA}(W:WorldN V ao):(s8c V).Ok 9 ao:=by
 intro pl q args H0 E0 h az e hP hv hS
 obtain⟨x,y,rfl,h1,rfl⟩:=y0 e
 obtain⟨h2,h3⟩:=Lf.T.aX h1
 injection h3 with h3
 obtain⟨y1,y2,y3,y4,y5,y6,y7,y8,y9,y10,y11,⟨⟩⟩:=x
 unfold Wk at h2
 rw[Bool.and_eq_true]at h2
 have s:=jE (ajF (V:=V) (y:=(y1,y2,y3,y4,y5,y6,y7,y8,y9,y10,y11,())) h2.1 h2.2)
 refine ad8 W _ _ args H0 E0 h az (vD (g:=fun x=>.ck (k8 V x) (.ok (m8 V x))) (y:=y) ?_) hP hv hS
 show(bif k8 V _ then some (m8 V _)else none)=some y
 rw[show k8 V (y1,y2,y3,y4,y5,y6,y7,y8,y9,y10,y11,())=true from s.1,show m8 V (y1,y2,y3,y4,y5,y6,y7,y8,y9,y10,y11,())=_ from s.2,<-h3]
 rfl
end Go.Proofs.Vd

noncomputable section
namespace Go.Proofs.Vd
open Go.Ab Go.Ab.Lf
set_option maxRecDepth 100000
abbrev p9:List Ty:=[.ae i64,i64]
abbrev oY:List Ty:=[.ae i64]
def B5:j4:=⟨0,fK Tryz.x21.code 0,[7,8],(Ps [.ow i64,.n .i64]),[⟨.lN,[7],(Ps [.ow i64])⟩]⟩
def O4:List (Nat×cQ):=[]
theorem J'{V:ByteArray->Bool}{ao:aA}(W:WorldS V ao):dc ao O4:=.nil
def B6:List Pl->Lf.T Rs:=B5.step (fun _=>none) (dG O4 3) 3
def O5:fD:=qn B5 B6 p9 oY
theorem Ka{V:ByteArray->Bool}{ao:aA}(W:WorldS V ao):ep Rx.w O5 (fun n d=>gy (ao n d) n (.bl 0 (.lp B5.body))):=fL (W.toWorld.in (J' W) 3) (aE _) (m:=3) p9 oY
def ajK:Nat->Option fD:=qg [(0,O5)]
abbrev Ef:List Ty:=[.ae i64,i64]
abbrev Eg:List Ty:=[.ae i64]
def aeI:List (Nat×cQ):=[]
theorem UC{V:ByteArray->Bool}{ao:aA}(W:WorldS V ao):dc ao aeI:=.nil
def aaC(x:aj Ef):Lf.T (List Pl):=ja (Ps [.im i64,.n .i64]) [] (Ps [.ow i64]) ajK Tryz.x21 3 (dG aeI 3) (aB Ef x)
def Kb(x:aj Ef):Bool:=mS (jP Eg (aaC x))
def Kc(x:aj Ef):aj Eg:=mS (e7 Eg (aaC x))
def aaD:cQ:=iw (Ps [.im i64,.n .i64]) [] (Ps [.ow i64]) Ef Eg fun x=>.ck (Kb x) (.ok (Kc x))
theorem Ij{V:ByteArray->Bool}{ao:aA}(W:WorldS V ao):aaD.Ok 21 ao:=
 eU (W.toWorld.in (UC W) 3) (W.toWorld.st 21 _ rfl) rfl (fx.jq (.cons (b:=B5.body) (by kernel_rfl) (Ka W) .nil)) (m:=3) rfl (fun _=>cg _) (fun _=>cg _)
abbrev gL:List Ty:=[.ae aI,.ae aQ,.ae i64,.ae ak,.ae ak,.ae aC,.ae aP,i64,.ae aG,.ae aK,.ae aD,.ae u64,.ae i64,.ae i64,.ae aI,.ae aQ,.ae i64,.ae ak,.ae ak,.ae aC,.ae aP,i64,.ae aG,.ae aK,.ae aD,.ae aC,i64,i64]
abbrev fO:List Ty:=[.ae aI,.ae aQ,.ae i64,.ae ak,.ae ak,.ae aC,.ae aP,i64,.ae aG,.ae aK,.ae aD,.ae u64,.ae i64,.ae i64,.ae aI,.ae aQ,.ae i64,.ae ak,.ae ak,.ae aC,.ae aP,i64,.ae aG,.ae aK,.ae aD]
def Eh:j4:=⟨0,fK Tryz.x8.code 0,[1,5,22,23,24],(Ps [.pt 0 (Ps [.im aI,.im aQ,.im i64,.im ak,.im ak,.im aC,.im aP,.n .i64,.im aG,.im aK,.im aD]),.pt 0 (Ps [.ow u64,.ow i64,.ow i64,.av (.sc (.slice none 0 0)),.im aI,.im aQ,.im i64,.im ak,.im ak,.im aC,.im aP,.n .i64,.im aG,.im aK,.im aD,.av (.sc (.pointer none))]),.im aC,.n .i64,.n .i64]),[⟨.lN,[1,5],(Ps [.pt 0 (Ps [.im aI,.im aQ,.im i64,.im ak,.im ak,.im aC,.im aP,.n .i64,.im aG,.im aK,.im aD]),.pt 0 (Ps [.ow u64,.ow i64,.ow i64,.av (.sc (.slice none 0 0)),.im aI,.im aQ,.im i64,.im ak,.im ak,.im aC,.im aP,.n .i64,.im aG,.im aK,.im aD,.av (.sc (.pointer none))])])⟩]⟩
def Wl:List (Nat×cQ):=[]
theorem O6{V:ByteArray->Bool}{ao:aA}(W:WorldS V ao):dc ao Wl:=.nil
def uN:List Pl->Lf.T Rs:=Eh.step (fun _=>none) (dG Wl 3) 3
def Wm:fD:=qn Eh uN gL fO
theorem Ei{V:ByteArray->Bool}{ao:aA}(W:WorldS V ao):ep Rx.w Wm (fun n d=>gy (ao n d) n (.bl 0 (.lp Eh.body))):=fL (W.toWorld.in (O6 W) 3) (aE _) (m:=3) gL fO
abbrev dz:List Ty:=[.ae aI,.ae aQ,.ae i64,.ae ak,.ae ak,.ae aC,.ae aP,i64,.ae aG,.ae aK,.ae aD,.ae u64,.ae i64,.ae i64,.ae i64,.ae aI,.ae aQ,.ae i64,.ae ak,.ae ak,.ae aC,.ae aP,i64,.ae aG,.ae aK,.ae aD,.ae u8,i64,.ae aG,i64,i64]
abbrev dK:List Ty:=[.ae aI,.ae aQ,.ae i64,.ae ak,.ae ak,.ae aC,.ae aP,i64,.ae aG,.ae aK,.ae aD,.ae u64,.ae i64,.ae i64,.ae i64,.ae aI,.ae aQ,.ae i64,.ae ak,.ae ak,.ae aC,.ae aP,i64,.ae aG,.ae aK,.ae aD,.ae u8,i64]
abbrev fP:List Ty:=[i64]
def Ej:j4:=⟨2,fK Tryz.x8.code 2,[1,5,76,77,78],(Ps [.pt 0 (Ps [.im aI,.im aQ,.im i64,.im ak,.im ak,.im aC,.im aP,.n .i64,.im aG,.im aK,.im aD]),.pt 0 (Ps [.ow u64,.ow i64,.ow i64,.ow i64,.im aI,.im aQ,.im i64,.im ak,.im ak,.im aC,.im aP,.n .i64,.im aG,.im aK,.im aD,.pt 0 (Ps [.ow u8,.n .i64])]),.im aG,.n .i64,.n .i64]),[⟨.lN,[1,5],(Ps [.pt 0 (Ps [.im aI,.im aQ,.im i64,.im ak,.im ak,.im aC,.im aP,.n .i64,.im aG,.im aK,.im aD]),.pt 0 (Ps [.ow u64,.ow i64,.ow i64,.ow i64,.im aI,.im aQ,.im i64,.im ak,.im ak,.im aC,.im aP,.n .i64,.im aG,.im aK,.im aD,.pt 0 (Ps [.ow u8,.n .i64])])])⟩,⟨.rt,[2,3],(Ps [.av (.sc (.pointer none)),.n .i64])⟩]⟩
def Wn:List (Nat×cQ):=[]
theorem O7{V:ByteArray->Bool}{ao:aA}(W:WorldS V ao):dc ao Wn:=.nil
def gA:List Pl->Lf.T Rs:=Ej.step (fun _=>none) (dG Wn 3) 3
def Wo:fD:=vq Ej gA dz dK fP
theorem Ek{V:ByteArray->Bool}{ao:aA}(W:WorldS V ao):ep Rx.w Wo (fun n d=>gy (ao n d) n (.bl 2 (.lp Ej.body))):=jx (W.toWorld.in (O7 W) 3) (aE _) (m:=3) dz dK fP
abbrev dA:List Ty:=[.ae u64,.ae i64,.ae i64,.ae i64,.ae aI,.ae aQ,.ae i64,.ae ak,.ae ak,.ae aC,.ae aP,i64,.ae aG,.ae aK,.ae aD,.ae u8,i64,.ae aD,i64,i64]
abbrev dX:List Ty:=[.ae u64,.ae i64,.ae i64,.ae i64,.ae aI,.ae aQ,.ae i64,.ae ak,.ae ak,.ae aC,.ae aP,i64,.ae aG,.ae aK,.ae aD,.ae u8,i64]
abbrev fu:List Ty:=[i64]
def El:j4:=⟨4,fK Tryz.x8.code 4,[5,96,97,98],(Ps [.pt 0 (Ps [.ow u64,.ow i64,.ow i64,.ow i64,.im aI,.im aQ,.im i64,.im ak,.im ak,.im aC,.im aP,.n .i64,.im aG,.im aK,.im aD,.pt 0 (Ps [.ow u8,.n .i64])]),.im aD,.n .i64,.n .i64]),[⟨.lN,[5],(Ps [.pt 0 (Ps [.ow u64,.ow i64,.ow i64,.ow i64,.im aI,.im aQ,.im i64,.im ak,.im ak,.im aC,.im aP,.n .i64,.im aG,.im aK,.im aD,.pt 0 (Ps [.ow u8,.n .i64])])])⟩,⟨.rt,[2,3],(Ps [.av (.sc (.pointer none)),.n .i64])⟩]⟩
def Wp:List (Nat×cQ):=[]
theorem O8{V:ByteArray->Bool}{ao:aA}(W:WorldS V ao):dc ao Wp:=.nil
def gB:List Pl->Lf.T Rs:=El.step (fun _=>none) (dG Wp 3) 3
def Wq:fD:=vq El gB dA dX fu
theorem Em{V:ByteArray->Bool}{ao:aA}(W:WorldS V ao):ep Rx.w Wq (fun n d=>gy (ao n d) n (.bl 4 (.lp El.body))):=jx (W.toWorld.in (O8 W) 3) (aE _) (m:=3) dA dX fu
def Lz8:Nat->Option fD:=qg [(0,Wm),(2,Wo),(4,Wq)]
abbrev O9:List Ty:=[.ae aI,.ae aQ,.ae i64,.ae ak,.ae ak,.ae aC,.ae aP,i64,.ae aG,.ae aK,.ae aD]
abbrev GC:List Ty:=[.ae u64,.ae i64,.ae i64,.ae i64,.ae aI,.ae aQ,.ae i64,.ae ak,.ae ak,.ae aC,.ae aP,i64,.ae aG,.ae aK,.ae aD,.ae u8,i64,i64]
def ez8(V:ByteArray->Bool):List (Nat×cQ):=[(9,s8c V),(19,aav),(21,aaD)]
theorem aaE{V:ByteArray->Bool}{ao:aA}(W:WorldS V ao):dc ao (ez8 V):=(.cons (B4 W.toWorldN) (.cons (Ia W) (.cons (Ij W) .nil)))
def tz8(V:ByteArray->Bool)(x:aj O9):Lf.T (List Pl):=ja (Ps [.ag (Ps [.im aI,.im aQ,.im i64,.im ak,.im ak,.im aC,.im aP,.n .i64,.im aG,.im aK,.im aD])]) [] (Ps [.tu (Ps [.pt 0 (Ps [.ow u64,.im i64,.im i64,.ow i64,.im aI,.im aQ,.im i64,.im ak,.im ak,.im aC,.im aP,.n .i64,.im aG,.im aK,.im aD,.pt 0 (Ps [.ow u8,.n .i64])]),.n .i64])]) Lz8 Tryz.x8 3 (dG (ez8 V) 3) (aB O9 x)
def kz8(V:ByteArray->Bool)(x:aj O9):Bool:=mS (jP GC (tz8 V x))
def mz8(V:ByteArray->Bool)(x:aj O9):aj GC:=mS (e7 GC (tz8 V x))
def sz8(V:ByteArray->Bool):cQ:=iw (Ps [.ag (Ps [.im aI,.im aQ,.im i64,.im ak,.im ak,.im aC,.im aP,.n .i64,.im aG,.im aK,.im aD])]) [] (Ps [.tu (Ps [.pt 0 (Ps [.ow u64,.im i64,.im i64,.ow i64,.im aI,.im aQ,.im i64,.im ak,.im ak,.im aC,.im aP,.n .i64,.im aG,.im aK,.im aD,.pt 0 (Ps [.ow u8,.n .i64])]),.n .i64])]) O9 GC fun x=>.ck (kz8 V x) (.ok (mz8 V x))
theorem aaF{V:ByteArray->Bool}{ao:aA}(W:WorldS V ao):(sz8 V).Ok 8 ao:=
 eU (W.toWorld.in (aaE W) 3) (W.toWorld.st 8 _ rfl) rfl (fx.jq (.cons (b:=Eh.body) (by kernel_rfl) (Ei W) (.cons (b:=Ej.body) (by kernel_rfl) (Ek W) (.cons (b:=El.body) (by kernel_rfl) (Em W) .nil)))) (m:=3) rfl (fun _=>cg _) (fun _=>cg _)
abbrev O':List Ty:=[.ae aI,.ae aQ,.ae i64,.ae ak,.ae ak,.ae aC,.ae aP,i64,.ae aG,.ae aK,.ae aD]
abbrev B7:List Ty:=[i64]
def ey8(V:ByteArray->Bool):List (Nat×cQ):=[(9,s8c V),(19,aav),(21,aaD)]
theorem aaG{V:ByteArray->Bool}{ao:aA}(W:WorldS V ao):dc ao (ey8 V):=(.cons (B4 W.toWorldN) (.cons (Ia W) (.cons (Ij W) .nil)))
def ty8(V:ByteArray->Bool)(x:aj O'):Lf.T (List Pl):=ja (Ps [.ag (Ps [.im aI,.im aQ,.im i64,.im ak,.im ak,.im aC,.im aP,.n .i64,.im aG,.im aK,.im aD])]) [] (Ps [.tu (Ps [.av (.sc (.pointer none)),.n .i64])]) Lz8 Tryz.x8 3 (dG (ey8 V) 3) (aB O' x)
def ky8(V:ByteArray->Bool)(x:aj O'):Bool:=mS (jP B7 (ty8 V x))
def my8(V:ByteArray->Bool)(x:aj O'):aj B7:=mS (e7 B7 (ty8 V x))
def sy8(V:ByteArray->Bool):cQ:=iw (Ps [.ag (Ps [.im aI,.im aQ,.im i64,.im ak,.im ak,.im aC,.im aP,.n .i64,.im aG,.im aK,.im aD])]) [] (Ps [.tu (Ps [.av (.sc (.pointer none)),.n .i64])]) O' B7 fun x=>.ck (ky8 V x) (.ok (my8 V x))
theorem aaH{V:ByteArray->Bool}{ao:aA}(W:WorldS V ao):(sy8 V).Ok 8 ao:=
 eU (W.toWorld.in (aaG W) 3) (W.toWorld.st 8 _ rfl) rfl (fx.jq (.cons (b:=Eh.body) (by kernel_rfl) (Ei W) (.cons (b:=Ej.body) (by kernel_rfl) (Ek W) (.cons (b:=El.body) (by kernel_rfl) (Em W) .nil)))) (m:=3) rfl (fun _=>cg _) (fun _=>cg _)
end Go.Proofs.Vd

noncomputable section
namespace Go.Proofs.Vd
open Go.Ab Go.Ab.Lf
set_option maxRecDepth 100000
abbrev GD{α:Type}(x:List α)(p:Nat)(n:Nat)(y:List α):List α:=app (List.take p x) (app (List.take (min y.length n) y) (List.drop (Nat.add p (min y.length n)) x))
theorem Pa(o1:List (den aI))(o2:List (den aQ))(o3:List Int)(o4:List (den ak))(o5:List (den ak))(o6:List (den aC))(o7:List (den aP))(o8:Int)(o9:List (den aG))(iN:List (den aK))(ig:List (den aD))(m1:List (den aI))(m2:List (den aQ))(m3:List Int)(m4:List (den ak))(m5:List (den ak))(m6:List (den aC))(m7:List (den aP))(m8:Int)(m9:List (den aG))(bT:List (den aK))(bX:List (den aD))(v a b:List Int)(G:List (den aC))(n i:Int):(uN (aB gL (o1,o2,o3,o4,o5,o6,o7,o8,o9,iN,ig,v,a,b,m1,m2,m3,m4,m5,m6,m7,m8,m9,bT,bX,G,n,i,()))).val=bif decide (i<n)then aT (bm i (G.length:Int)) (aT (bm 0 (List.length (G.getD i.toNat (aq aC)).2.2:Int)) (aT (roomy 8 (b.length+[(v.length:Int)].length)) (bif decide ((G.getD i.toNat (aq aC)).1=127)then aT (roomy 8 (v.length+[(List.getD (G.getD i.toNat (aq aC)).2.2 (0:Int).toNat (aq tI)).2.2.2.1].length)) (aT (roomy 8 (a.length+[(1:Int)].length)) (bif decide ((G.getD i.toNat (aq aC)).1=123)then aT (roomy 8 ((app v [(List.getD (G.getD i.toNat (aq aC)).2.2 (0:Int).toNat (aq tI)).2.2.2.1]).length+[(List.getD (G.getD i.toNat (aq aC)).2.2 (0:Int).toNat (aq tI)).2.2.2.2.1].length)) (aT (roomy 8 ((app a [1]).length+[(0:Int)].length)) (some (.next (aB gL (o1,o2,o3,o4,o5,o6,o7,o8,o9,iN,ig,app (app v [(List.getD (G.getD i.toNat (aq aC)).2.2 (0:Int).toNat (aq tI)).2.2.2.1]) [(List.getD (G.getD i.toNat (aq aC)).2.2 (0:Int).toNat (aq tI)).2.2.2.2.1],app (app a [1]) [0],app b [(v.length:Int)],m1,m2,m3,m4,m5,m6,m7,m8,m9,bT,bX,G,n,cr .i64 i 1,())))))else some (.next (aB gL (o1,o2,o3,o4,o5,o6,o7,o8,o9,iN,ig,app v [(List.getD (G.getD i.toNat (aq aC)).2.2 (0:Int).toNat (aq tI)).2.2.2.1],app a [1],app b [(v.length:Int)],m1,m2,m3,m4,m5,m6,m7,m8,m9,bT,bX,G,n,cr .i64 i 1,())))))else aT (roomy 8 (v.length+[(List.getD (G.getD i.toNat (aq aC)).2.2 (0:Int).toNat (aq tI)).2.2.2.1].length)) (aT (roomy 8 (a.length+[(0:Int)].length)) (bif decide ((G.getD i.toNat (aq aC)).1=123)then aT (roomy 8 ((app v [(List.getD (G.getD i.toNat (aq aC)).2.2 (0:Int).toNat (aq tI)).2.2.2.1]).length+[(List.getD (G.getD i.toNat (aq aC)).2.2 (0:Int).toNat (aq tI)).2.2.2.2.1].length)) (aT (roomy 8 ((app a [0]).length+[(0:Int)].length)) (some (.next (aB gL (o1,o2,o3,o4,o5,o6,o7,o8,o9,iN,ig,app (app v [(List.getD (G.getD i.toNat (aq aC)).2.2 (0:Int).toNat (aq tI)).2.2.2.1]) [(List.getD (G.getD i.toNat (aq aC)).2.2 (0:Int).toNat (aq tI)).2.2.2.2.1],app (app a [0]) [0],app b [(v.length:Int)],m1,m2,m3,m4,m5,m6,m7,m8,m9,bT,bX,G,n,cr .i64 i 1,())))))else some (.next (aB gL (o1,o2,o3,o4,o5,o6,o7,o8,o9,iN,ig,app v [(List.getD (G.getD i.toNat (aq aC)).2.2 (0:Int).toNat (aq tI)).2.2.2.1],app a [0],app b [(v.length:Int)],m1,m2,m3,m4,m5,m6,m7,m8,m9,bT,bX,G,n,cr .i64 i 1,()))))))))else some (.out 0 (aB fO (o1,o2,o3,o4,o5,o6,o7,o8,o9,iN,ig,v,a,b,m1,m2,m3,m4,m5,m6,m7,m8,m9,bT,bX,()))):=by kernel_rfl
theorem Pb(o1:List (den aI))(o2:List (den aQ))(o3:List Int)(o4:List (den ak))(o5:List (den ak))(o6:List (den aC))(o7:List (den aP))(o8:Int)(o9:List (den aG))(iN:List (den aK))(ig:List (den aD))(m1:List (den aI))(m2:List (den aQ))(m3:List Int)(m4:List (den ak))(m5:List (den ak))(m6:List (den aC))(m7:List (den aP))(m8:Int)(m9:List (den aG))(bT:List (den aK))(bX:List (den aD))(v a b tab bs:List Int)(mo:Int)(G:List (den aG))(n i:Int):(gA (aB dz (o1,o2,o3,o4,o5,o6,o7,o8,o9,iN,ig,v,a,b,tab,m1,m2,m3,m4,m5,m6,m7,m8,m9,bT,bX,bs,mo,G,n,i,()))).val=bif decide (i<n)then aT (bm i (G.length:Int)) (aT (bm 0 (List.length (G.getD i.toNat (aq aG)).1:Int)) (bif decide (bf .u64 (tab.length:Int)<cr .u64 (List.getD (G.getD i.toNat (aq aG)).1 (0:Int).toNat (aq tI)).2.2.2.1 (bf .u64 (List.length (G.getD i.toNat (aq aG)).2:Int)))then some (.out 1 (aB fP (13,())))else aT (dV (List.getD (G.getD i.toNat (aq aG)).1 (0:Int).toNat (aq tI)).2.2.2.1 (tab.length:Int) (tab.length:Int)) (some (.next (aB dz (o1,o2,o3,o4,o5,o6,o7,o8,o9,iN,ig,v,a,b,GD tab (Int.toNat (List.getD (G.getD i.toNat (aq aG)).1 (0:Int).toNat (aq tI)).2.2.2.1) ((tab.length:Int).toNat - Int.toNat (List.getD (G.getD i.toNat (aq aG)).1 (0:Int).toNat (aq tI)).2.2.2.1) (G.getD i.toNat (aq aG)).2,m1,m2,m3,m4,m5,m6,m7,m8,m9,bT,bX,bs,mo,G,n,cr .i64 i 1,()))))))else some (.out 0 (aB dK (o1,o2,o3,o4,o5,o6,o7,o8,o9,iN,ig,v,a,b,tab,m1,m2,m3,m4,m5,m6,m7,m8,m9,bT,bX,bs,mo,()))):=by kernel_rfl
theorem Pc(m1:List (den aI))(m2:List (den aQ))(m3:List Int)(m4:List (den ak))(m5:List (den ak))(m6:List (den aC))(m7:List (den aP))(m8:Int)(m9:List (den aG))(bT:List (den aK))(bX:List (den aD))(v a b tab bs:List Int)(mo:Int)(G:List (den aD))(n i:Int):(gB (aB dA (v,a,b,tab,m1,m2,m3,m4,m5,m6,m7,m8,m9,bT,bX,bs,mo,G,n,i,()))).val=bif decide (i<n)then aT (bm i (G.length:Int)) (aT (bm 0 (List.length (G.getD i.toNat (aq aD)).1:Int)) (bif !(bif decide (bf .u64 (List.length (G.getD i.toNat (aq aD)).2:Int)<=bf .u64 (bs.length:Int))then decide ((List.getD (G.getD i.toNat (aq aD)).1 (0:Int).toNat (aq tI)).2.2.2.1<=bN .u64 (bf .u64 (bs.length:Int)) (bf .u64 (List.length (G.getD i.toNat (aq aD)).2:Int)))else false)then some (.out 1 (aB fu (14,())))else aT (dV (List.getD (G.getD i.toNat (aq aD)).1 (0:Int).toNat (aq tI)).2.2.2.1 (bs.length:Int) (bs.length:Int)) (some (.next (aB dA (v,a,b,tab,m1,m2,m3,m4,m5,m6,m7,m8,m9,bT,bX,GD bs (Int.toNat (List.getD (G.getD i.toNat (aq aD)).1 (0:Int).toNat (aq tI)).2.2.2.1) ((bs.length:Int).toNat - Int.toNat (List.getD (G.getD i.toNat (aq aD)).1 (0:Int).toNat (aq tI)).2.2.2.1) (G.getD i.toNat (aq aD)).2,mo,G,n,cr .i64 i 1,()))))))else some (.out 0 (aB dX (v,a,b,tab,m1,m2,m3,m4,m5,m6,m7,m8,m9,bT,bX,bs,mo,()))):=by kernel_rfl
end Go.Proofs.Vd

noncomputable section
namespace Go.Proofs.Vd
open Go.Ab Go.Ab.Lf
set_option maxRecDepth 100000
abbrev B8(V:ByteArray->Bool)(m1:List (den aI))(m2:List (den aQ))(m3:List Int)(m4:List (den ak))(m5:List (den ak))(m6:List (den aC))(m7:List (den aP))(m8:Int)(m9:List (den aG))(bT:List (den aK))(bX:List (den aD))(z:aj fO)(je:den ak)(tab:List Int):Option (List Pl):=
 let X2:aj dz:=(z.1,z.2.1,z.2.2.1,z.2.2.2.1,z.2.2.2.2.1,z.2.2.2.2.2.1,z.2.2.2.2.2.2.1,z.2.2.2.2.2.2.2.1,z.2.2.2.2.2.2.2.2.1,z.2.2.2.2.2.2.2.2.2.1,z.2.2.2.2.2.2.2.2.2.2.1,z.2.2.2.2.2.2.2.2.2.2.2.1,z.2.2.2.2.2.2.2.2.2.2.2.2.1,z.2.2.2.2.2.2.2.2.2.2.2.2.2.1,tab,z.2.2.2.2.2.2.2.2.2.2.2.2.2.2.1,z.2.2.2.2.2.2.2.2.2.2.2.2.2.2.2.1,z.2.2.2.2.2.2.2.2.2.2.2.2.2.2.2.2.1,z.2.2.2.2.2.2.2.2.2.2.2.2.2.2.2.2.2.1,z.2.2.2.2.2.2.2.2.2.2.2.2.2.2.2.2.2.2.1,z.2.2.2.2.2.2.2.2.2.2.2.2.2.2.2.2.2.2.2.1,z.2.2.2.2.2.2.2.2.2.2.2.2.2.2.2.2.2.2.2.2.1,z.2.2.2.2.2.2.2.2.2.2.2.2.2.2.2.2.2.2.2.2.2.1,z.2.2.2.2.2.2.2.2.2.2.2.2.2.2.2.2.2.2.2.2.2.2.1,z.2.2.2.2.2.2.2.2.2.2.2.2.2.2.2.2.2.2.2.2.2.2.2.1,z.2.2.2.2.2.2.2.2.2.2.2.2.2.2.2.2.2.2.2.2.2.2.2.2.1,List.replicate (xX .i64 je.1 65536).toNat 0,je.2,z.2.2.2.2.2.2.2.2.1,(List.length z.2.2.2.2.2.2.2.2.1:Int),0,())
 let w:=gP gA dz dK X2
 let X4:aj dA:=(w.2.2.2.2.2.2.2.2.2.2.2.1,w.2.2.2.2.2.2.2.2.2.2.2.2.1,w.2.2.2.2.2.2.2.2.2.2.2.2.2.1,w.2.2.2.2.2.2.2.2.2.2.2.2.2.2.1,w.2.2.2.2.2.2.2.2.2.2.2.2.2.2.2.1,w.2.2.2.2.2.2.2.2.2.2.2.2.2.2.2.2.1,w.2.2.2.2.2.2.2.2.2.2.2.2.2.2.2.2.2.1,w.2.2.2.2.2.2.2.2.2.2.2.2.2.2.2.2.2.2.1,w.2.2.2.2.2.2.2.2.2.2.2.2.2.2.2.2.2.2.2.1,w.2.2.2.2.2.2.2.2.2.2.2.2.2.2.2.2.2.2.2.2.1,w.2.2.2.2.2.2.2.2.2.2.2.2.2.2.2.2.2.2.2.2.2.1,w.2.2.2.2.2.2.2.2.2.2.2.2.2.2.2.2.2.2.2.2.2.2.1,w.2.2.2.2.2.2.2.2.2.2.2.2.2.2.2.2.2.2.2.2.2.2.2.1,w.2.2.2.2.2.2.2.2.2.2.2.2.2.2.2.2.2.2.2.2.2.2.2.2.1,w.2.2.2.2.2.2.2.2.2.2.2.2.2.2.2.2.2.2.2.2.2.2.2.2.2.1,w.2.2.2.2.2.2.2.2.2.2.2.2.2.2.2.2.2.2.2.2.2.2.2.2.2.2.1,w.2.2.2.2.2.2.2.2.2.2.2.2.2.2.2.2.2.2.2.2.2.2.2.2.2.2.2.1,w.2.2.2.2.2.2.2.2.2.2.1,(List.length w.2.2.2.2.2.2.2.2.2.2.1:Int),0,())
 let u:=gP gB dA dX X4
 bif decide ((0:Int)<(List.length z.2.2.2.2.1:Int))then aT (bm 0 (List.length z.2.2.2.2.1:Int)) (aT (bm 0 (List.length z.2.2.2.2.1:Int)) (
  bif decide (je.1<0)then none else bif decide (je.2< -1)then none else bif (bif decide ((0:Int)<=je.2)then decide (je.2<je.1)else false)then none else bif decide (16<je.1)then none else
  aT (decide ((0:Int)<=xX .i64 je.1 65536)&&decide (xX .i64 je.1 65536<=xX .i64 je.1 65536)&&decide ((xX .i64 je.1 65536).toNat*1<=70368744177664)) (
  aT (rP gA dz dK fP X2) (bif qQ gA dz X2 then aT (rP gB dA dX fu X4) (bif qQ gB dA X4 then some (aB GC (u.1,u.2.1,u.2.2.1,u.2.2.2.1,u.2.2.2.2.1,u.2.2.2.2.2.1,u.2.2.2.2.2.2.1,u.2.2.2.2.2.2.2.1,u.2.2.2.2.2.2.2.2.1,u.2.2.2.2.2.2.2.2.2.1,u.2.2.2.2.2.2.2.2.2.2.1,u.2.2.2.2.2.2.2.2.2.2.2.1,u.2.2.2.2.2.2.2.2.2.2.2.2.1,u.2.2.2.2.2.2.2.2.2.2.2.2.2.1,u.2.2.2.2.2.2.2.2.2.2.2.2.2.2.1,u.2.2.2.2.2.2.2.2.2.2.2.2.2.2.2.1,u.2.2.2.2.2.2.2.2.2.2.2.2.2.2.2.2.1,0,()))else none)else none))))
 else none
theorem ajP(V:ByteArray->Bool)(m1:List (den aI))(m2:List (den aQ))(m3:List Int)(m4:List (den ak))(m5:List (den ak))(m6:List (den aC))(m7:List (den aP))(m8:Int)(m9:List (den aG))(bT:List (den aK))(bX:List (den aD))(c:aj yZ)(hc:c=UB (m1,m2,m3,m4,m5,m6,m7,m8,m9,bT,bX,()))(X0:aj gL)(hX0:X0=(m1,m2,m3,m4,m5,m6,m7,m8,m9,bT,bX,[],[],[],c.1,c.2.1,c.2.2.1,c.2.2.2.1,c.2.2.2.2.1,c.2.2.2.2.2.1,c.2.2.2.2.2.2.1,c.2.2.2.2.2.2.2.1,c.2.2.2.2.2.2.2.2.1,c.2.2.2.2.2.2.2.2.2.1,c.2.2.2.2.2.2.2.2.2.2.1,m6,(m6.length:Int),0,()))(z:aj fO)(hz:z=gP uN gL fO X0)(je:den ak)(aaI:je=List.getD z.2.2.2.2.1 (0:Int).toNat (aq ak)):(tz8 V (m1,m2,m3,m4,m5,m6,m7,m8,m9,bT,bX,())).val=aT (Wk V (m1,m2,m3,m4,m5,m6,m7,m8,m9,bT,bX,())) (bif !decide (gY V (m1,m2,m3,m4,m5,m6,m7,m8,m9,bT,bX,())=0)then none else aT (UA (m1,m2,m3,m4,m5,m6,m7,m8,m9,bT,bX,())) (aT (qh uN gL fO X0) (
 bif decide ((0:Int)<(List.length z.2.2.2.1:Int))then aT (bm 0 (List.length z.2.2.2.1:Int)) (aT (Kb ([-1],(List.getD z.2.2.2.1 (0:Int).toNat (aq ak)).1,())) (B8 V m1 m2 m3 m4 m5 m6 m7 m8 m9 bT bX z je (Kc ([-1],(List.getD z.2.2.2.1 (0:Int).toNat (aq ak)).1,())).1))else B8 V m1 m2 m3 m4 m5 m6 m7 m8 m9 bT bX z je []))):=by
 subst aaI;subst hz;subst hX0;subst hc
 kernel_rfl
end Go.Proofs.Vd

noncomputable section
namespace Go.Proofs.Vd
open Go.Ab Go.Ab.Lf
set_option maxRecDepth 100000
abbrev B9(V:ByteArray->Bool)(m1:List (den aI))(m2:List (den aQ))(m3:List Int)(m4:List (den ak))(m5:List (den ak))(m6:List (den aC))(m7:List (den aP))(m8:Int)(m9:List (den aG))(bT:List (den aK))(bX:List (den aD))(z:aj fO)(je:den ak)(tab:List Int):Option (List Pl):=
 let X2:aj dz:=(z.1,z.2.1,z.2.2.1,z.2.2.2.1,z.2.2.2.2.1,z.2.2.2.2.2.1,z.2.2.2.2.2.2.1,z.2.2.2.2.2.2.2.1,z.2.2.2.2.2.2.2.2.1,z.2.2.2.2.2.2.2.2.2.1,z.2.2.2.2.2.2.2.2.2.2.1,z.2.2.2.2.2.2.2.2.2.2.2.1,z.2.2.2.2.2.2.2.2.2.2.2.2.1,z.2.2.2.2.2.2.2.2.2.2.2.2.2.1,tab,z.2.2.2.2.2.2.2.2.2.2.2.2.2.2.1,z.2.2.2.2.2.2.2.2.2.2.2.2.2.2.2.1,z.2.2.2.2.2.2.2.2.2.2.2.2.2.2.2.2.1,z.2.2.2.2.2.2.2.2.2.2.2.2.2.2.2.2.2.1,z.2.2.2.2.2.2.2.2.2.2.2.2.2.2.2.2.2.2.1,z.2.2.2.2.2.2.2.2.2.2.2.2.2.2.2.2.2.2.2.1,z.2.2.2.2.2.2.2.2.2.2.2.2.2.2.2.2.2.2.2.2.1,z.2.2.2.2.2.2.2.2.2.2.2.2.2.2.2.2.2.2.2.2.2.1,z.2.2.2.2.2.2.2.2.2.2.2.2.2.2.2.2.2.2.2.2.2.2.1,z.2.2.2.2.2.2.2.2.2.2.2.2.2.2.2.2.2.2.2.2.2.2.2.1,z.2.2.2.2.2.2.2.2.2.2.2.2.2.2.2.2.2.2.2.2.2.2.2.2.1,List.replicate (xX .i64 je.1 65536).toNat 0,je.2,z.2.2.2.2.2.2.2.2.1,(List.length z.2.2.2.2.2.2.2.2.1:Int),0,())
 let w:=gP gA dz dK X2
 let X4:aj dA:=(w.2.2.2.2.2.2.2.2.2.2.2.1,w.2.2.2.2.2.2.2.2.2.2.2.2.1,w.2.2.2.2.2.2.2.2.2.2.2.2.2.1,w.2.2.2.2.2.2.2.2.2.2.2.2.2.2.1,w.2.2.2.2.2.2.2.2.2.2.2.2.2.2.2.1,w.2.2.2.2.2.2.2.2.2.2.2.2.2.2.2.2.1,w.2.2.2.2.2.2.2.2.2.2.2.2.2.2.2.2.2.1,w.2.2.2.2.2.2.2.2.2.2.2.2.2.2.2.2.2.2.1,w.2.2.2.2.2.2.2.2.2.2.2.2.2.2.2.2.2.2.2.1,w.2.2.2.2.2.2.2.2.2.2.2.2.2.2.2.2.2.2.2.2.1,w.2.2.2.2.2.2.2.2.2.2.2.2.2.2.2.2.2.2.2.2.2.1,w.2.2.2.2.2.2.2.2.2.2.2.2.2.2.2.2.2.2.2.2.2.2.1,w.2.2.2.2.2.2.2.2.2.2.2.2.2.2.2.2.2.2.2.2.2.2.2.1,w.2.2.2.2.2.2.2.2.2.2.2.2.2.2.2.2.2.2.2.2.2.2.2.2.1,w.2.2.2.2.2.2.2.2.2.2.2.2.2.2.2.2.2.2.2.2.2.2.2.2.2.1,w.2.2.2.2.2.2.2.2.2.2.2.2.2.2.2.2.2.2.2.2.2.2.2.2.2.2.1,w.2.2.2.2.2.2.2.2.2.2.2.2.2.2.2.2.2.2.2.2.2.2.2.2.2.2.2.1,w.2.2.2.2.2.2.2.2.2.2.1,(List.length w.2.2.2.2.2.2.2.2.2.2.1:Int),0,())
 let u:=gP gB dA dX X4
 bif decide ((0:Int)<(List.length z.2.2.2.2.1:Int))then aT (bm 0 (List.length z.2.2.2.2.1:Int)) (aT (bm 0 (List.length z.2.2.2.2.1:Int)) (
  bif decide (je.1<0)then none else bif decide (je.2< -1)then none else bif (bif decide ((0:Int)<=je.2)then decide (je.2<je.1)else false)then none else bif decide (16<je.1)then none else
  aT (decide ((0:Int)<=xX .i64 je.1 65536)&&decide (xX .i64 je.1 65536<=xX .i64 je.1 65536)&&decide ((xX .i64 je.1 65536).toNat*1<=70368744177664)) (
  aT (rP gA dz dK fP X2) (bif qQ gA dz X2 then aT (rP gB dA dX fu X4) (bif qQ gB dA X4 then none else some (aB B7 (gP gB dA fu X4)))else some (aB B7 (gP gA dz fP X2))))))
 else none
theorem aeK(V:ByteArray->Bool)(m1:List (den aI))(m2:List (den aQ))(m3:List Int)(m4:List (den ak))(m5:List (den ak))(m6:List (den aC))(m7:List (den aP))(m8:Int)(m9:List (den aG))(bT:List (den aK))(bX:List (den aD))(c:aj yZ)(hc:c=UB (m1,m2,m3,m4,m5,m6,m7,m8,m9,bT,bX,()))(X0:aj gL)(hX0:X0=(m1,m2,m3,m4,m5,m6,m7,m8,m9,bT,bX,[],[],[],c.1,c.2.1,c.2.2.1,c.2.2.2.1,c.2.2.2.2.1,c.2.2.2.2.2.1,c.2.2.2.2.2.2.1,c.2.2.2.2.2.2.2.1,c.2.2.2.2.2.2.2.2.1,c.2.2.2.2.2.2.2.2.2.1,c.2.2.2.2.2.2.2.2.2.2.1,m6,(m6.length:Int),0,()))(z:aj fO)(hz:z=gP uN gL fO X0)(je:den ak)(aaI:je=List.getD z.2.2.2.2.1 (0:Int).toNat (aq ak)):(ty8 V (m1,m2,m3,m4,m5,m6,m7,m8,m9,bT,bX,())).val=aT (Wk V (m1,m2,m3,m4,m5,m6,m7,m8,m9,bT,bX,())) (bif !decide (gY V (m1,m2,m3,m4,m5,m6,m7,m8,m9,bT,bX,())=0)then some (aB B7 (gY V (m1,m2,m3,m4,m5,m6,m7,m8,m9,bT,bX,()),()))else aT (UA (m1,m2,m3,m4,m5,m6,m7,m8,m9,bT,bX,())) (aT (qh uN gL fO X0) (
 bif decide ((0:Int)<(List.length z.2.2.2.1:Int))then aT (bm 0 (List.length z.2.2.2.1:Int)) (aT (Kb ([-1],(List.getD z.2.2.2.1 (0:Int).toNat (aq ak)).1,())) (B9 V m1 m2 m3 m4 m5 m6 m7 m8 m9 bT bX z je (Kc ([-1],(List.getD z.2.2.2.1 (0:Int).toNat (aq ak)).1,())).1))else B9 V m1 m2 m3 m4 m5 m6 m7 m8 m9 bT bX z je []))):=by
 subst aaI;subst hz;subst hX0;subst hc
 kernel_rfl
end Go.Proofs.Vd
