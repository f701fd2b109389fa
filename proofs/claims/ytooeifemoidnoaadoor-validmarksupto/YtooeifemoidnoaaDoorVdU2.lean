import Derived.Test.YtooeifemoidnoaaDoorVdT8
noncomputable section
variable {V:ByteArray→Bool}
namespace Go.Proofs.Vd
open Go.Ab Go.Ab.Lf
set_option maxRecDepth 100000
def pFn(y:denT tM):Nat:=y.2.1.length+y.2.2.1.length
def pSigs(y:denT tM):Bool:=(List.range (pFn y)).all (fun i=>mKindO y.1 (mSigK y.2.1 y.2.2.1 (i:Int)))
def pLim(l:den tLim):Bool:= !(bif !decide (l.2= -1)then decide (l.2<l.1)else false)
def pGl(g:den tGlo):Bool:=mOne g.2.2 g.1
def pTM(y:denT tM):Bool:=bif decide (1<(y.2.2.2.1.length:Int))then true else decide (1<(y.2.2.2.2.1.length:Int))
def pMx(y:denT tM):Bool:=bif decide ((y.2.2.2.2.1.length:Int)=1)then decide (65536<(y.2.2.2.2.1.getD 0 (dflt tLim)).2)else false
def pOuter(y:denT tM):Bool:=pSigs y&&(!pTM y&&(List.all (y.2.2.2.1++y.2.2.2.2.1) pLim&&(!pMx y&&(List.all y.2.2.2.2.2.1 pGl&&(mNm (y.1,y.2.1,y.2.2.1,y.2.2.2.1,y.2.2.2.2.1,y.2.2.2.2.2.1,y.2.2.2.2.2.2.1,y.2.2.2.2.2.2.2.1,y.2.2.2.2.2.2.2.2.1,y.2.2.2.2.2.2.2.2.2.1,y.2.2.2.2.2.2.2.2.2.2.1,(pFn y:Int),())&&pSeg y (pFn y:Int))))))
set_option maxHeartbeats 2000000 in
theorem sem19{y:denT tM}(h:MOk y):(t19 (y.1,y.2.1,y.2.2.1,y.2.2.2.1,y.2.2.2.2.1,y.2.2.2.2.2.1,y.2.2.2.2.2.2.1,y.2.2.2.2.2.2.2.1,y.2.2.2.2.2.2.2.2.1,y.2.2.2.2.2.2.2.2.2.1,y.2.2.2.2.2.2.2.2.2.2.1,())).val=some (ofT to19 (pOuter y,())):=by
 have li:=h.li
 have lf:=h.lf
 have lb:=h.lb
 have lm:=h.lm
 have lg:=h.lg
 have hf:addW .i64 (y.2.1.length:Int) (y.2.2.1.length:Int)=(pFn y:Int):=addN (by omega)
 have hpf:pFn y<=1024:=by unfold pFn;omega
 have r0:=rng_all (f:=f190) (l:=List.range (pFn y)) (fun j=>ofT ti190 ((pFn y:Int),y.1,y.2.1,y.2.2.1,y.2.2.2.1,y.2.2.2.2.1,y.2.2.2.2.2.1,y.2.2.2.2.2.2.1,y.2.2.2.2.2.2.2.1,y.2.2.2.2.2.2.2.2.1,y.2.2.2.2.2.2.2.2.2.1,y.2.2.2.2.2.2.2.2.2.2.1,(pFn y:Int),(j:Int),())) (fun i=>mKindO y.1 (mSigK y.2.1 y.2.2.1 (i:Int))) (ofT to190_0 ((pFn y:Int),y.1,y.2.1,y.2.2.1,y.2.2.2.1,y.2.2.2.2.1,y.2.2.2.2.2.1,y.2.2.2.2.2.2.1,y.2.2.2.2.2.2.2.1,y.2.2.2.2.2.2.2.2.1,y.2.2.2.2.2.2.2.2.2.1,y.2.2.2.2.2.2.2.2.2.2.1,())) (ofT to190_1 (false,())) (fun j x r e=>by
  obtain⟨e1,e2⟩:=drop_get e 0
  have e3:x=j:=by
   rw[<-e2,List.getD_eq_getElem?_getD,List.getElem?_eq_getElem e1]
   simp
  rw[e3]
  rw[List.length_range]at e1
  have c:(decide ((j:Int)<9223372036854775808)&&decide (y.2.1.length<=1099511627776))=true:=by
   rw[decide_eq_true (by omega),decide_eq_true (by omega)];rfl
  rw[eq190 _ _ (gT_of h.ty),lt_nat e1,cond_true,c,add1 (by omega)]
  cases mKindO y.1 (mSigK y.2.1 y.2.2.1 (j:Int))<;>rfl) (by rw[eq190 _ _ (gT_of h.ty),List.length_range,lt_natF (Nat.le_refl _)];rfl)
 obtain⟨a1,a2,a3,a4⟩:=all_out (ti:=ti190) (t0:=to190_0) (t1:=to190_1) (x:=((pFn y:Int),y.1,y.2.1,y.2.2.1,y.2.2.2.1,y.2.2.2.2.1,y.2.2.2.2.2.1,y.2.2.2.2.2.2.1,y.2.2.2.2.2.2.2.1,y.2.2.2.2.2.2.2.2.1,y.2.2.2.2.2.2.2.2.2.1,y.2.2.2.2.2.2.2.2.2.2.1,(pFn y:Int),0,())) (u:=((pFn y:Int),y.1,y.2.1,y.2.2.1,y.2.2.2.1,y.2.2.2.2.1,y.2.2.2.2.2.1,y.2.2.2.2.2.2.1,y.2.2.2.2.2.2.2.1,y.2.2.2.2.2.2.2.2.1,y.2.2.2.2.2.2.2.2.2.1,y.2.2.2.2.2.2.2.2.2.2.1,())) (v:=(false,())) r0
 have s55:=sem_of (sem55 [y.2.2.2.1,y.2.2.2.2.1] (by
  show 2+(y.2.2.2.1.length+(y.2.2.2.2.1.length+0))<=_
  omega))
 have e55:(m55 ([y.2.2.2.1,y.2.2.2.2.1],())).1=y.2.2.2.1++y.2.2.2.2.1:=by
  rw[show m55 ([y.2.2.2.1,y.2.2.2.2.1],())=_ from s55.2]
  simp
 have hll:(y.2.2.2.1++y.2.2.2.2.1).length<=1024:=by rw[List.length_append];omega
 have r2:=rng_all (f:=f192) (l:=y.2.2.2.1++y.2.2.2.2.1) (fun j=>ofT ti192 ((pFn y:Int),y.1,y.2.1,y.2.2.1,y.2.2.2.1,y.2.2.2.2.1,y.2.2.2.2.2.1,y.2.2.2.2.2.2.1,y.2.2.2.2.2.2.2.1,y.2.2.2.2.2.2.2.2.1,y.2.2.2.2.2.2.2.2.2.1,y.2.2.2.2.2.2.2.2.2.2.1,y.2.2.2.1++y.2.2.2.2.1,((y.2.2.2.1++y.2.2.2.2.1).length:Int),(j:Int),())) pLim (ofT to192_0 ((pFn y:Int),y.1,y.2.1,y.2.2.1,y.2.2.2.1,y.2.2.2.2.1,y.2.2.2.2.2.1,y.2.2.2.2.2.2.1,y.2.2.2.2.2.2.2.1,y.2.2.2.2.2.2.2.2.1,y.2.2.2.2.2.2.2.2.2.1,y.2.2.2.2.2.2.2.2.2.2.1,())) (ofT to192_1 (false,())) (fun j x r e=>by
  obtain⟨e1,e2⟩:=drop_get e (dflt tLim)
  rw[eq192 _ y _ _ _ x (by rw[Int.toNat_natCast];exact e2.symm),lt_nat e1,cond_true,ixc e1,add1 (by omega)]
  unfold pLim
  cases(bif !decide (x.2= -1)then decide (x.2<x.1)else false)<;>rfl) (by rw[eq192 _ y _ _ _ _ rfl,lt_natF (Nat.le_refl _)];rfl)
 obtain⟨b1,b2,b3,b4⟩:=all_out (ti:=ti192) (t0:=to192_0) (t1:=to192_1) (x:=((pFn y:Int),y.1,y.2.1,y.2.2.1,y.2.2.2.1,y.2.2.2.2.1,y.2.2.2.2.2.1,y.2.2.2.2.2.2.1,y.2.2.2.2.2.2.2.1,y.2.2.2.2.2.2.2.2.1,y.2.2.2.2.2.2.2.2.2.1,y.2.2.2.2.2.2.2.2.2.2.1,y.2.2.2.1++y.2.2.2.2.1,((y.2.2.2.1++y.2.2.2.2.1).length:Int),0,())) (u:=((pFn y:Int),y.1,y.2.1,y.2.2.1,y.2.2.2.1,y.2.2.2.2.1,y.2.2.2.2.2.1,y.2.2.2.2.2.2.1,y.2.2.2.2.2.2.2.1,y.2.2.2.2.2.2.2.2.1,y.2.2.2.2.2.2.2.2.2.1,y.2.2.2.2.2.2.2.2.2.2.1,())) (v:=(false,())) r2
 have r4:=rng_all (f:=f194) (l:=y.2.2.2.2.2.1) (fun j=>ofT ti194 ((pFn y:Int),y.1,y.2.1,y.2.2.1,y.2.2.2.1,y.2.2.2.2.1,y.2.2.2.2.2.1,y.2.2.2.2.2.2.1,y.2.2.2.2.2.2.2.1,y.2.2.2.2.2.2.2.2.1,y.2.2.2.2.2.2.2.2.2.1,y.2.2.2.2.2.2.2.2.2.2.1,y.2.2.2.2.2.1,(y.2.2.2.2.2.1.length:Int),(j:Int),())) pGl (ofT to194_0 ((pFn y:Int),y.1,y.2.1,y.2.2.1,y.2.2.2.1,y.2.2.2.2.1,y.2.2.2.2.2.1,y.2.2.2.2.2.2.1,y.2.2.2.2.2.2.2.1,y.2.2.2.2.2.2.2.2.1,y.2.2.2.2.2.2.2.2.2.1,y.2.2.2.2.2.2.2.2.2.2.1,())) (ofT to194_1 (false,())) (fun j x r e=>by
  obtain⟨e1,e2⟩:=drop_get e (dflt tGlo)
  rw[eq194 _ y _ _ _ x (by rw[Int.toNat_natCast];exact e2.symm),lt_nat e1,cond_true,ixc e1,add1 (by omega)]
  unfold pGl
  cases mOne x.2.2 x.1<;>rfl) (by rw[eq194 _ y _ _ _ _ rfl,lt_natF (Nat.le_refl _)];rfl)
 obtain⟨c1,c2,c3,c4⟩:=all_out (ti:=ti194) (t0:=to194_0) (t1:=to194_1) (x:=((pFn y:Int),y.1,y.2.1,y.2.2.1,y.2.2.2.1,y.2.2.2.2.1,y.2.2.2.2.2.1,y.2.2.2.2.2.2.1,y.2.2.2.2.2.2.2.1,y.2.2.2.2.2.2.2.2.1,y.2.2.2.2.2.2.2.2.2.1,y.2.2.2.2.2.2.2.2.2.2.1,y.2.2.2.2.2.1,(y.2.2.2.2.2.1.length:Int),0,())) (u:=((pFn y:Int),y.1,y.2.1,y.2.2.1,y.2.2.2.1,y.2.2.2.2.1,y.2.2.2.2.2.1,y.2.2.2.2.2.2.1,y.2.2.2.2.2.2.2.1,y.2.2.2.2.2.2.2.2.1,y.2.2.2.2.2.2.2.2.2.1,y.2.2.2.2.2.2.2.2.2.2.1,())) (v:=(false,())) r4
 have s58:=sem_of (sem58 y (pFn y:Int) (by have:=h.le;omega) (by have:=h.ld;omega) (fun e he=>by have:=h.el e he;omega))
 have hN:okNm (y.1,y.2.1,y.2.2.1,y.2.2.2.1,y.2.2.2.2.1,y.2.2.2.2.2.1,y.2.2.2.2.2.2.1,y.2.2.2.2.2.2.2.1,y.2.2.2.2.2.2.2.2.1,y.2.2.2.2.2.2.2.2.2.1,y.2.2.2.2.2.2.2.2.2.2.1,(pFn y:Int),())=true:=by
  have k1:allB (fun e:den tExp=>decide (0<=e.2.1)&&decide (e.2.1<=3)) y.2.2.2.2.2.2.1=true:=by
   rw[allB_eq,List.all_eq_true]
   intro e he
   obtain⟨q1,q2⟩:=h.ex e he
   rw[Bool.and_eq_true]
   exact⟨decide_eq_true q1,decide_eq_true q2⟩
  have k2:decide ((y.2.2.2.2.2.2.2.1:Int)<9223372036854775808)=true:=decide_eq_true (Int.lt_trans h.st.2 (by decide))
  have k3:decide (y.2.1.length<=1099511627776)=true:=decide_eq_true (by omega)
  have k4:decide (y.2.2.2.2.2.2.1.length<=1099511627776)=true:=decide_eq_true (by have:=h.lx;omega)
  show(((allB _ _&&((decide _&&decide _)&&decide _))&&gNx _)&&gT _)=true
  rw[k1,k2,k3,k4,h.x0,gT_of h.ty]
  rfl
 have hx:(bif decide ((y.2.2.2.2.1.length:Int)=1)then ixOk 0 (y.2.2.2.2.1.length:Int)else true)=true:=by
  by_cases q:(y.2.2.2.2.1.length:Int)=1
  ·rw[decide_eq_true q,cond_true];exact ixc (j:=0) (by omega)
  ·rw[decide_eq_false q];rfl
 unfold pOuter
 cases hA:pSigs y with
 |false=>
  have hA':(List.range (pFn y)).all (fun i=>mKindO y.1 (mSigK y.2.1 y.2.2.1 (i:Int)))=false:=hA
  rw[hA']at a2
  rw[eq19 y _ hf _ rfl _ rfl _ rfl _ rfl _ rfl _ rfl _ rfl,a1,a2,a4 hA']
  rfl
 |true=>
  have hA':(List.range (pFn y)).all (fun i=>mKindO y.1 (mSigK y.2.1 y.2.2.1 (i:Int)))=true:=hA
  rw[hA']at a2
  cases hB:List.all (y.2.2.2.1++y.2.2.2.2.1) pLim with
  |false=>
   rw[hB]at b2
   rw[eq19 y _ hf _ rfl _ (a3 hA').symm _ e55.symm _ rfl _ rfl _ rfl _ rfl,a1,a2]
   unfold pTM
   simp only[cond_true,ckO]
   rw[show k55 ([y.2.2.2.1,y.2.2.2.2.1],())=true from s55.1,b1,b2,b4 hB]
   cases(bif decide (1<(y.2.2.2.1.length:Int))then true else decide (1<(y.2.2.2.2.1.length:Int)))<;>rfl
  |true=>
   rw[hB]at b2
   cases hC:List.all y.2.2.2.2.2.1 pGl with
   |false=>
    rw[hC]at c2
    rw[eq19 y _ hf _ rfl _ (a3 hA').symm _ e55.symm _ rfl _ (b3 hB).symm _ rfl _ rfl,a1,a2]
    unfold pTM pMx
    simp only[cond_true,ckO]
    rw[show k55 ([y.2.2.2.1,y.2.2.2.2.1],())=true from s55.1,b1,b2,c1,c2,c4 hC,hx]
    cases(bif decide (1<(y.2.2.2.1.length:Int))then true else decide (1<(y.2.2.2.2.1.length:Int)))<;>cases(bif decide ((y.2.2.2.2.1.length:Int)=1)then decide (65536<(y.2.2.2.2.1.getD 0 (dflt tLim)).2)else false)<;>rfl
   |true=>
    rw[hC]at c2
    rw[eq19 y _ hf _ rfl _ (a3 hA').symm _ e55.symm _ rfl _ (b3 hB).symm _ rfl _ (c3 hC).symm,a1,a2]
    unfold pTM pMx
    simp only[cond_true,ckO]
    rw[show k55 ([y.2.2.2.1,y.2.2.2.2.1],())=true from s55.1,b1,b2,c1,c2,hN,hx,show k58 (y.1,y.2.1,y.2.2.1,y.2.2.2.1,y.2.2.2.2.1,y.2.2.2.2.2.1,y.2.2.2.2.2.2.1,y.2.2.2.2.2.2.2.1,y.2.2.2.2.2.2.2.2.1,y.2.2.2.2.2.2.2.2.2.1,y.2.2.2.2.2.2.2.2.2.2.1,(pFn y:Int),())=true from s58.1,show m58 (y.1,y.2.1,y.2.2.1,y.2.2.2.1,y.2.2.2.2.1,y.2.2.2.2.2.1,y.2.2.2.2.2.2.1,y.2.2.2.2.2.2.2.1,y.2.2.2.2.2.2.2.2.1,y.2.2.2.2.2.2.2.2.2.1,y.2.2.2.2.2.2.2.2.2.2.1,(pFn y:Int),())=_ from s58.2]
    cases(bif decide (1<(y.2.2.2.1.length:Int))then true else decide (1<(y.2.2.2.2.1.length:Int)))<;>cases(bif decide ((y.2.2.2.2.1.length:Int)=1)then decide (65536<(y.2.2.2.2.1.getD 0 (dflt tLim)).2)else false)<;>cases mNm (y.1,y.2.1,y.2.2.1,y.2.2.2.1,y.2.2.2.2.1,y.2.2.2.2.2.1,y.2.2.2.2.2.2.1,y.2.2.2.2.2.2.2.1,y.2.2.2.2.2.2.2.2.1,y.2.2.2.2.2.2.2.2.2.1,y.2.2.2.2.2.2.2.2.2.2.1,(pFn y:Int),())<;>rfl
def pBod(y:denT tM):Bool:=(List.range y.2.2.2.2.2.2.2.2.2.1.length).all (fun i=>(pTyped y i).isSome)
def pCheck(V:ByteArray->Bool)(y:denT tM):Int:=bif !decide (mEncE V y=0)then mEncE V y else bif !pOuter y then 12 else bif pBod y then 0 else 12
theorem mEncE_ok{y:denT tM}(hE:okE V y=true)(hx:gNx y.2.2.2.2.2.2.1=true)(h:mEncE V y=0):MOk y:=by
 have e:=mEnc_eq hE
 unfold mEncE at h
 rw[e]at h
 cases hP:enP V y with
 |false=>rw[hP]at h;cases h
 |true=>
  rw[hP]at h
  simp only[Bool.not_true,cond_false]at h
  by_cases q:(16384:Int)<((s0.1++enB V y).length:Int)
  ·rw[decide_eq_true q]at h;cases h
  ·rw[List.length_append]at q
   exact mok hE hP (by omega) hx
theorem code_ok{y:denT tM}(h:MOk y){i:Nat}(hi:i<y.2.2.2.2.2.2.2.2.2.1.length):CdOk (pCode y i):=by
 refine(h.cd (pCode y i) ?_).1
 unfold pCode
 rw[List.getD_eq_getElem?_getD,List.getElem?_eq_getElem hi]
 exact List.getElem_mem hi
theorem sem20'{y:denT tM}(h:MOk y){i:Nat}(hi:i<y.2.2.2.2.2.2.2.2.2.1.length):k20 (y.1,y.2.1,y.2.2.1,y.2.2.2.1,y.2.2.2.2.1,y.2.2.2.2.2.1,y.2.2.2.2.2.2.1,y.2.2.2.2.2.2.2.1,y.2.2.2.2.2.2.2.2.1,y.2.2.2.2.2.2.2.2.2.1,y.2.2.2.2.2.2.2.2.2.2.1,(i:Int),())=true/\m20 (y.1,y.2.1,y.2.2.1,y.2.2.2.1,y.2.2.2.2.1,y.2.2.2.2.2.1,y.2.2.2.2.2.2.1,y.2.2.2.2.2.2.2.1,y.2.2.2.2.2.2.2.2.1,y.2.2.2.2.2.2.2.2.2.1,y.2.2.2.2.2.2.2.2.2.2.1,(i:Int),())=((pTyped y i).getD [],(pTyped y i).isSome,()):=
 sem_of (sem20 h.ty (by have:=h.li;omega) hi (by have:=h.lc;omega) (code_ok h hi))
theorem sem8{y:denT tM}(hE:okE V y=true)(hx:gNx y.2.2.2.2.2.2.1=true):(t8 V (y.1,y.2.1,y.2.2.1,y.2.2.2.1,y.2.2.2.2.1,y.2.2.2.2.2.1,y.2.2.2.2.2.2.1,y.2.2.2.2.2.2.2.1,y.2.2.2.2.2.2.2.2.1,y.2.2.2.2.2.2.2.2.2.1,y.2.2.2.2.2.2.2.2.2.2.1,())).val=some (ofT to8 (pCheck V y,())):=by
 rw[eq8]
 have hE':okE V (y.1,y.2.1,y.2.2.1,y.2.2.2.1,y.2.2.2.2.1,y.2.2.2.2.2.1,y.2.2.2.2.2.2.1,y.2.2.2.2.2.2.2.1,y.2.2.2.2.2.2.2.2.1,y.2.2.2.2.2.2.2.2.2.1,y.2.2.2.2.2.2.2.2.2.2.1,())=true:=hE
 rw[hE']
 unfold pCheck
 have eY:mEncE V (y.1,y.2.1,y.2.2.1,y.2.2.2.1,y.2.2.2.2.1,y.2.2.2.2.2.1,y.2.2.2.2.2.2.1,y.2.2.2.2.2.2.2.1,y.2.2.2.2.2.2.2.2.1,y.2.2.2.2.2.2.2.2.2.1,y.2.2.2.2.2.2.2.2.2.2.1,())=mEncE V y:=rfl
 rw[eY]
 by_cases h0:mEncE V y=0
 ·rw[h0]
  have h:=mEncE_ok hE hx h0
  have s19:=sem_of (sem19 h)
  simp only[decide_true,Bool.not_true,cond_false,ckO,cond_true]
  rw[show k19 (y.1,y.2.1,y.2.2.1,y.2.2.2.1,y.2.2.2.2.1,y.2.2.2.2.2.1,y.2.2.2.2.2.2.1,y.2.2.2.2.2.2.2.1,y.2.2.2.2.2.2.2.2.1,y.2.2.2.2.2.2.2.2.2.1,y.2.2.2.2.2.2.2.2.2.2.1,())=true from s19.1,show m19 (y.1,y.2.1,y.2.2.1,y.2.2.2.1,y.2.2.2.2.1,y.2.2.2.2.2.1,y.2.2.2.2.2.2.1,y.2.2.2.2.2.2.2.1,y.2.2.2.2.2.2.2.2.1,y.2.2.2.2.2.2.2.2.2.1,y.2.2.2.2.2.2.2.2.2.2.1,())=_ from s19.2,cond_true]
  cases ho:pOuter y with
  |false=>rfl
  |true=>
   simp only[Bool.not_true,cond_false]
   have hlc:=h.lc
   have r0:=rng_all (f:=f8x) (l:=List.range y.2.2.2.2.2.2.2.2.2.1.length) (fun j=>ofT ti8x (y.1,y.2.1,y.2.2.1,y.2.2.2.1,y.2.2.2.2.1,y.2.2.2.2.2.1,y.2.2.2.2.2.2.1,y.2.2.2.2.2.2.2.1,y.2.2.2.2.2.2.2.2.1,y.2.2.2.2.2.2.2.2.2.1,y.2.2.2.2.2.2.2.2.2.2.1,(y.2.2.2.2.2.2.2.2.2.1.length:Int),(j:Int),())) (fun i=>(pTyped y i).isSome) (ofT to8x_0 ()) (ofT to8x_1 (12,())) (fun j x r e=>by
    obtain⟨e1,e2⟩:=drop_get e 0
    have e3:x=j:=by
     rw[<-e2,List.getD_eq_getElem?_getD,List.getElem?_eq_getElem e1]
     simp
    rw[e3]
    rw[List.length_range]at e1
    obtain⟨q1,q2⟩:=sem20' h e1
    rw[eq8x,lt_nat e1,cond_true,q1,q2,add1 (by omega)]
    cases(pTyped y j).isSome<;>rfl) (by rw[eq8x,List.length_range,lt_natF (Nat.le_refl _)];rfl)
   obtain⟨a1,a2,a3,a4⟩:=all_out (ti:=ti8x) (t0:=to8x_0) (t1:=to8x_1) (x:=(y.1,y.2.1,y.2.2.1,y.2.2.2.1,y.2.2.2.2.1,y.2.2.2.2.2.1,y.2.2.2.2.2.2.1,y.2.2.2.2.2.2.2.1,y.2.2.2.2.2.2.2.2.1,y.2.2.2.2.2.2.2.2.2.1,y.2.2.2.2.2.2.2.2.2.2.1,(y.2.2.2.2.2.2.2.2.2.1.length:Int),0,())) (u:=()) (v:=(12,())) r0
   rw[a1,a2]
   cases hb:pBod y with
   |true=>rw[show(List.range y.2.2.2.2.2.2.2.2.2.1.length).all (fun i=>(pTyped y i).isSome)=true from hb];rfl
   |false=>rw[a4 hb,show(List.range y.2.2.2.2.2.2.2.2.2.1.length).all (fun i=>(pTyped y i).isSome)=false from hb];rfl
 ·rw[decide_eq_false h0]
  rfl
def pMarks(V:ByteArray->Bool)(y:denT tM)(f:Int):List (den tMk)×Int:=
 bif (bif decide (pCheck V y=1)then true else bif decide (f<0)then true else decide ((y.2.2.2.2.2.2.2.2.2.1.length:Int)<=f))then([],1)else bif !decide (pCheck V y=0)then([],pCheck V y)else((pTyped y f.toNat).getD [],0)
theorem pCheck_ok{y:denT tM}(hE:okE V y=true)(hx:gNx y.2.2.2.2.2.2.1=true)(h:pCheck V y=0):MOk y/\pOuter y=true/\pBod y=true:=by
 unfold pCheck at h
 by_cases h0:mEncE V y=0
 ·rw[decide_eq_true h0]at h
  simp only[Bool.not_true,cond_false]at h
  cases ho:pOuter y with
  |false=>rw[ho]at h;cases h
  |true=>
   rw[ho]at h
   cases hb:pBod y with
   |false=>rw[hb]at h;cases h
   |true=>exact⟨mEncE_ok hE hx h0,rfl,rfl⟩
 ·rw[decide_eq_false h0]at h
  exact(h0 h).elim
theorem sem9{y:denT tM}(hE:okE V y=true)(hx:gNx y.2.2.2.2.2.2.1=true)(f:Int):(t9 V (y.1,y.2.1,y.2.2.1,y.2.2.2.1,y.2.2.2.2.1,y.2.2.2.2.2.1,y.2.2.2.2.2.2.1,y.2.2.2.2.2.2.2.1,y.2.2.2.2.2.2.2.2.1,y.2.2.2.2.2.2.2.2.2.1,y.2.2.2.2.2.2.2.2.2.2.1,f,())).val=some (ofT to9 ((pMarks V y f).1,(pMarks V y f).2,())):=by
 have s8:=sem_of (sem8 hE hx)
 have e8:(m8 V (y.1,y.2.1,y.2.2.1,y.2.2.2.1,y.2.2.2.2.1,y.2.2.2.2.2.1,y.2.2.2.2.2.2.1,y.2.2.2.2.2.2.2.1,y.2.2.2.2.2.2.2.2.1,y.2.2.2.2.2.2.2.2.2.1,y.2.2.2.2.2.2.2.2.2.2.1,())).1=pCheck V y:=by rw[show m8 V (y.1,y.2.1,y.2.2.1,y.2.2.2.1,y.2.2.2.2.1,y.2.2.2.2.2.1,y.2.2.2.2.2.2.1,y.2.2.2.2.2.2.2.1,y.2.2.2.2.2.2.2.2.1,y.2.2.2.2.2.2.2.2.2.1,y.2.2.2.2.2.2.2.2.2.2.1,())=_ from s8.2]
 rw[eq9 V y f _ e8.symm,show k8 V (y.1,y.2.1,y.2.2.1,y.2.2.2.1,y.2.2.2.2.1,y.2.2.2.2.2.1,y.2.2.2.2.2.2.1,y.2.2.2.2.2.2.2.1,y.2.2.2.2.2.2.2.2.1,y.2.2.2.2.2.2.2.2.2.1,y.2.2.2.2.2.2.2.2.2.2.1,())=true from s8.1]
 unfold pMarks
 simp only[ckO,cond_true]
 cases hc:(bif decide (pCheck V y=1)then true else bif decide (f<0)then true else decide ((y.2.2.2.2.2.2.2.2.2.1.length:Int)<=f))with
 |true=>rfl
 |false=>
  by_cases h0:pCheck V y=0
  ·rw[h0]at hc ⊢
   have hc:(bif decide (f<0)then true else decide ((y.2.2.2.2.2.2.2.2.2.1.length:Int)<=f))=false:=hc
   have f0: ¬ f<0:=fun e=>by rw[decide_eq_true e]at hc;cases hc
   rw[decide_eq_false f0,cond_false]at hc
   have f1:=of_decide_eq_false hc
   have hi:f.toNat<y.2.2.2.2.2.2.2.2.2.1.length:=by omega
   obtain⟨q1,q2⟩:=sem20' (pCheck_ok hE hx h0).1 hi
   have ef:((f.toNat:Nat):Int)=f:=by omega
   rw[ef]at q1 q2
   rw[q1,q2]
   rfl
  ·rw[decide_eq_false h0]
   rfl
end Go.Proofs.Vd
