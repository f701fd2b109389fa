import Derived.Test.YtooeifemoidnoaaDoorVdT0
noncomputable section
namespace Go.Proofs.Vd
open Go.Ab Go.Ab.Lf
set_option maxRecDepth 100000
def pShuf(w:W3)(i:den tI):W3:=(mVL i.2.2.2.1 i.2.2.2.2.1).foldl (fun w c=>pMst w (decide (c<32))) w
theorem eq70(y:denT tM)(lo:List Int)(w:W3)(i:den tI)(f:denT tInf):(t70 (wkF y lo w i f)).val=
 (let ret:=fun v:W3=>some (ofT tWk (wk y lo v))
 let M2:=fun v:W3=>bif !decide (f.1=8)then ret (pMst v true)else ckO (decide (0<=f.2.1)) (ret (pMst v (decide (i.2.2.2.1<shrW .u64 16 f.2.1))))
 let M:=bif decide (0<(y.2.2.2.2.1.length:Int))then M2 (pMst w (decide (i.2.1<=f.2.1)))else M2 (pMst w false)
 bif decide (f.1=7)then M else bif decide (f.1=8)then M else bif decide (f.1=14)then M else
 bif decide (f.1=13)then ret (pMst w (decide (i.2.1<f.2.1)))else
 bif decide (f.1=12)then ret (pShuf w i)else ret w):=by kernel_rfl
def pFld(y:denT tM)(w:W3)(i:den tI)(f:denT tInf):W3:=
 let M:=pMst (pMst w (bif decide (0<(y.2.2.2.2.1.length:Int))then decide (i.2.1<=f.2.1)else false)) (bif !decide (f.1=8)then true else decide (i.2.2.2.1<shrW .u64 16 f.2.1))
 bif decide (f.1=7)then M else bif decide (f.1=8)then M else bif decide (f.1=14)then M else
 bif decide (f.1=13)then pMst w (decide (i.2.1<f.2.1))else bif decide (f.1=12)then pShuf w i else w
theorem sem70(y:denT tM)(lo:List Int)(w:W3)(i:den tI)(f:denT tInf)(hf:(0:Int)<=f.2.1):mFld (wkF y lo w i f)=wk y lo (pFld y w i f):=by
 refine(sem_of (t:=t70 (wkF y lo w i f)) ?_).2
 rw[eq70]
 unfold pFld
 dsimp only
 rw[decide_eq_true hf]
 generalize decide (f.1=7)=c1
 generalize decide (f.1=8)=c2
 generalize decide (f.1=14)=c3
 generalize decide (f.1=13)=c4
 generalize decide (f.1=12)=c5
 generalize decide (0<(y.2.2.2.2.1.length:Int))=c6
 cases c1<;>cases c2<;>cases c3<;>cases c4<;>cases c5<;>cases c6<;>rfl
theorem pShuf_same(w:W3)(i:den tI): ∃ b,pShuf w i=(w.1,w.2.1,b):=by
 unfold pShuf
 have key: ∀ (l:List Int) (v:W3),(∃ b,v=(w.1,w.2.1,b))-> ∃ b,l.foldl (fun w c=>pMst w (decide (c<32))) v=(w.1,w.2.1,b):=by
  intro l
  induction l with
  |nil=>intro v h;exact h
  |cons x l ih=>
   intro v h
   obtain⟨b,rfl⟩:=h
   exact ih _ ⟨_,rfl⟩
 exact key _ w ⟨_,rfl⟩
theorem pFld_same(y:denT tM)(w:W3)(i:den tI)(f:denT tInf): ∃ b,pFld y w i f=(w.1,w.2.1,b):=by
 unfold pFld
 dsimp only
 cases decide (f.1=7)with
 |true=>exact⟨_,rfl⟩
 |false=>
  cases decide (f.1=8)with
  |true=>exact⟨_,rfl⟩
  |false=>
   cases decide (f.1=14)with
   |true=>exact⟨_,rfl⟩
   |false=>
    cases decide (f.1=13)with
    |true=>exact⟨_,rfl⟩
    |false=>
     cases decide (f.1=12)with
     |true=>exact pShuf_same w i
     |false=>exact⟨_,rfl⟩
theorem Inv.fld{k m:Nat}{w:W3}(h:Inv k m w)(y:denT tM)(i:den tI)(f:denT tInf):Inv k m (pFld y w i f):=by
 obtain⟨b,e⟩:=pFld_same y w i f
 rw[e]
 exact h.bad b
def pBlk(y:denT tM)(i:den tI)(v:W3):W3:=
 let g:=mSgS y.1 i.2.1
 let S:=pTks (v.1,v.2.1,mSgB y.1 i.2.1 v.2.2) g.1
 pGiv (S.1,mOpen S.1 S.2.1 i.1 g.1 g.2,S.2.2) g.1
def pSel(w:W3):W3:=
 let v:=pTake w 127
 let t:=(mTake v.1 v.2.1 v.2.2 0).1
 let u:=pTake v 0
 pGiv (pTake u t) [(mTake u.1 u.2.1 u.2.2 t).1]
def pPln(y:denT tM)(w:W3)(i:den tI):W3:=pGiv (pTks (pFld y w i (mOf i.1)) (mOf i.1).2.2.2.1) (mOf i.1).2.2.2.2.1
def pStep(y:denT tM)(lo:List Int)(w:W3)(i:den tI):W3:=
 bif (mOf i.1).2.2.1 then pPln y w i else
 bif decide (i.1=2)||(decide (i.1=3)||decide (i.1=4))then pBlk y i (bif decide (i.1=4)then pTake w 127 else w)else
 bif decide (i.1=5)||decide (i.1=11)then pClose w i.1 else
 bif decide (i.1=26)then pTake w 0 else
 bif decide (i.1=27)then pSel w else
 bif decide (i.1=16)then(let c:=mKindS y.1 (mSigK y.2.1 y.2.2.1 i.2.1);pGiv (pTks (pMst w (mKindO y.1 (mSigK y.2.1 y.2.2.1 i.2.1))) c.1) c.2)else
 bif decide (i.1=17)then(let d:=mKindS y.1 i.2.1;pGiv (pTks (pTake (pMst w (bif mKindO y.1 i.2.1 then(bif decide (0<(y.2.2.2.1.length:Int))then decide (i.2.2.1=0)else false)else false)) 127) d.1) d.2)else
 pJump y lo w i
def TyOk(y:denT tM):Prop:= ∀ s:den tSig,s∈y.1->List.length s.1<=32/\List.length s.2<=32
theorem gT_of{y:denT tM}(h:TyOk y):gT y.1=true:=by
 unfold gT
 rw[List.all_eq_true]
 intro s hs
 obtain⟨h1,h2⟩:=h s hs
 rw[decide_eq_true (by omega),decide_eq_true (by omega)]
 rfl
theorem kind_len{y:denT tM}(h:TyOk y)(k:Int):List.length (mKindS y.1 k).1<=32/\List.length (mKindS y.1 k).2<=32:=by
 unfold mKindS
 cases hk:mKindO y.1 k with
 |false=>exact⟨Nat.zero_le _,Nat.zero_le _⟩
 |true=>
  unfold mKindO at hk
  have h1: ¬ k<0:=fun e=>by rw[decide_eq_true e]at hk;cases hk
  have h2: ¬ (y.1.length:Int)<=k:=fun e=>by rw[decide_eq_false h1,decide_eq_true e]at hk;cases hk
  have hj:k.toNat<y.1.length:=by omega
  refine h _ ?_
  rw[List.getD_eq_getElem?_getD,List.getElem?_eq_getElem hj]
  exact List.getElem_mem hj
theorem sgs_len{y:denT tM}(h:TyOk y)(a:Int):List.length (mSgS y.1 a).1<=32/\List.length (mSgS y.1 a).2<=32:=by
 unfold mSgS
 cases decide (0<=a)with
 |true=>exact kind_len h a
 |false=>
  cases decide (a= -64)with
  |true=>exact⟨Nat.zero_le _,Nat.zero_le _⟩
  |false=>exact⟨Nat.zero_le _,by show List.length [_]<=32;simp⟩
theorem Inv.blk{k m:Nat}{w:W3}(h:Inv k m w){y:denT tM}(ht:TyOk y)(i:den tI):Inv (k+32) (m+1) (pBlk y i w):=by
 obtain⟨a,b⟩:=sgs_len ht i.2.1
 have q:=((h.bad (mSgB y.1 i.2.1 w.2.2)).tks (mSgS y.1 i.2.1).1).opn i.1 a b
 exact(q.giv (mSgS y.1 i.2.1).1).le (by omega) (Nat.le_refl _)
theorem Inv.sel{k m:Nat}{w:W3}(h:Inv k m w):Inv (k+1) m (pSel w):=(((h.take 127).take 0).take _).giv [_]
theorem Inv.pln{k m:Nat}{w:W3}(h:Inv k m w)(y:denT tM)(i:den tI):Inv (k+16) m (pPln y w i):=
 (((h.fld y i (mOf i.1)).tks _).giv _).le (by have:=(of_lim i.1).2.2.1;omega) (Nat.le_refl _)
theorem Inv.close{k m:Nat}{w:W3}(h:Inv k m w)(n:Int)(hne:(pClose w n).2.1≠[]):Inv (k+32) m (pClose w n):=by
 have hio:=h.io _ h.mem
 have hS:Inv k m ((pClS w).1,w.2.1,(pClS w).2):=h.tks (mTop w.2.1).2.2.2.1
 unfold pClose at hne ⊢
 obtain⟨r,B,e⟩:=snoc_of h.ne
 have ec:pCut w=r:=by unfold pCut;rw[e];simp
 have et:mTop w.2.1=B:=by rw[e,mTop_snoc]
 cases hb:pClB w with
 |true=>
  rw[ec,et,cond_true,<-e]
  exact(hS.bad true).le (by omega) (Nat.le_refl _)
 |false=>
  rw[hb]at hne
  simp only[cond_false]at hne ⊢
  have hh:((pClS w).1.length:Int)=(mTop w.2.1).2.1:=by
   unfold pClB at hb
   rw[Bool.or_eq_false_iff]at hb
   have:=hb.2
   simpa using this
  have hp:=h.pw
  have hht:=h.ht
  have hioo:=h.io
  have hsb:=h.sb
  have hsk:=hS.sk
  rw[e]at hp hht hioo hsb
  rw[List.pairwise_append]at hp
  rw[ec]at hne ⊢
  have hr: ∀ b,b∈r->(b.2.1:Int)<=((pClS w).1.length:Int):=fun b hb=>by rw[hh,et];exact hp.2.2 b hb B (by simp)
  have hsk:(pClS w).1.length<=k:=hsk
  cases hn5:decide (n=5)with
  |true=>
   rw[hn5]at hne
   simp only[cond_true]at hne ⊢
   refine⟨hne,?_,?_,?_,?_,?_⟩
   ·show(mOpen _ _ _ _ _).Pairwise _
    unfold mOpen
    rw[List.pairwise_append]
    refine⟨hp.1,List.pairwise_singleton _ _,fun a ha b hb=>?_⟩
    have:b=(5,((pClS w).1.length:Int),(mTop w.2.1).2.2.1,(mTop w.2.1).2.2.2.1,false,mLive r):=by simpa using hb
    rw[this]
    exact hr a ha
   ·intro b hb
    unfold mOpen at hb
    rcases List.mem_append.1 hb with hb|hb
    ·exact⟨(hht b (List.mem_append_left _ hb)).1,Int.le_trans (hr b hb) (by show _<=(((pClS w).1++(mTop w.2.1).2.2.1).length:Int);rw[List.length_append];omega)⟩
    ·have:b=(5,((pClS w).1.length:Int),(mTop w.2.1).2.2.1,(mTop w.2.1).2.2.2.1,false,mLive r):=by simpa using hb
     rw[this]
     exact⟨Int.natCast_nonneg _,by show((pClS w).1.length:Int)<=(((pClS w).1++(mTop w.2.1).2.2.1).length:Int);rw[List.length_append];omega⟩
   ·intro b hb
    unfold mOpen at hb
    rcases List.mem_append.1 hb with hb|hb
    ·exact hioo b (List.mem_append_left _ hb)
    ·have:b=(5,((pClS w).1.length:Int),(mTop w.2.1).2.2.1,(mTop w.2.1).2.2.2.1,false,mLive r):=by simpa using hb
     rw[this]
     exact hio
   ·show((pClS w).1++(mTop w.2.1).2.2.1).length<=_
    rw[List.length_append]
    omega
   ·show(mOpen _ _ _ _ _).length<=_
    unfold mOpen
    simpa using hsb
  |false=>
   rw[hn5]at hne
   simp only[cond_false]at hne ⊢
   refine⟨hne,hp.1,fun b hb=>?_,fun b hb=>hioo b (List.mem_append_left _ hb),?_,?_⟩
   ·exact⟨(hht b (List.mem_append_left _ hb)).1,Int.le_trans (hr b hb) (by show _<=(((pClS w).1++(mTop w.2.1).2.2.2.1).length:Int);rw[List.length_append];omega)⟩
   ·show((pClS w).1++(mTop w.2.1).2.2.2.1).length<=_
    rw[List.length_append]
    omega
   ·have:(r++[B]).length<=m:=hsb
    rw[List.length_append]at this
    show r.length<=m
    omega
end Go.Proofs.Vd

noncomputable section
namespace Go.Proofs.Vd
open Go.Ab Go.Ab.Lf
set_option maxRecDepth 100000
theorem IOk.np{i:den tI}(h:IOk i)(hp:(mOf i.1).2.2.1=false):(¬ (2<=(i.1:Int)/\(i.1:Int)<=5)-> ¬ (i.1:Int)=0-> ¬ (i.1:Int)=11-> ¬ (i.1:Int)=15-> ¬ (i.1:Int)=26-> ¬ (i.1:Int)=27->(0:Int)<=i.2.1/\(i.2.1:Int)<4294967296)/\((i.1:Int)=14-> ∀ x,x∈i.2.2.2.2.2->(0:Int)<=x):=by
 have hn:=of_np h.is hp
 have key: ∀ (o f:Int),npP o f=true->(f=3∨f=4∨f=5∨f=6∨((2<=o/\o<=5)∨o=0∨o=11∨o=15∨o=26∨o=27))/\(o=14->f=4):=by
  intro o f h
  unfold npP at h
  by_cases f1:f=1
  ·rw[decide_eq_true f1]at h
   simp only[cond_true,Bool.or_eq_true,decide_eq_true_eq]at h
   omega
  rw[decide_eq_false f1,cond_false]at h
  by_cases f2:f=2
  ·rw[decide_eq_true f2]at h
   simp only[cond_true,Bool.or_eq_true,decide_eq_true_eq]at h
   omega
  rw[decide_eq_false f2,cond_false]at h
  by_cases f3:f=3
  ·rw[decide_eq_true f3]at h
   simp only[cond_true,Bool.or_eq_true,decide_eq_true_eq]at h
   omega
  rw[decide_eq_false f3,cond_false]at h
  by_cases f4:f=4
  ·rw[decide_eq_true f4]at h
   simp only[cond_true,decide_eq_true_eq]at h
   omega
  rw[decide_eq_false f4,cond_false]at h
  by_cases f5:f=5
  ·rw[decide_eq_true f5]at h
   simp only[cond_true,Bool.or_eq_true,Bool.and_eq_true,decide_eq_true_eq]at h
   omega
  rw[decide_eq_false f5,cond_false]at h
  by_cases f6:f=6
  ·rw[decide_eq_true f6]at h
   simp only[cond_true,decide_eq_true_eq]at h
   omega
  rw[decide_eq_false f6]at h
  cases h
 obtain⟨k1,k2⟩:=key _ _ hn
 refine⟨fun a b c d e f=>?_,fun e=>h.l (k2 e)⟩
 rcases k1 with q|q|q|q|q|q|q|q|q|q
 ·exact h.a _ rfl (.inl q)
 ·exact h.a _ rfl (.inr (.inl q))
 ·exact h.a _ rfl (.inr (.inr (.inl q)))
 ·exact h.a _ rfl (.inr (.inr (.inr q)))
 ·exact(a q).elim
 ·exact(b q).elim
 ·exact(c q).elim
 ·exact(d q).elim
 ·exact(e q).elim
 ·exact(f q).elim
theorem Inv.step{k m:Nat}{w:W3}(h:Inv k m w){y:denT tM}(ht:TyOk y)(lo:List Int){i:den tI}(hi:IOk i)(hk:k+32*i.2.2.2.2.2.length<=1073741824)(hm:m<=1073741824)(hne:(pStep y lo w i).2.1≠[]):Inv (k+32) (m+1) (pStep y lo w i):=by
 unfold pStep at hne ⊢
 cases hp:(mOf i.1).2.2.1 with
 |true=>exact(h.pln y i).le (by omega) (by omega)
 |false=>
  rw[hp]at hne
  simp only[cond_false]at hne ⊢
  obtain⟨n1,n2⟩:=hi.np hp
  cases c1:decide (i.1=2)||(decide (i.1=3)||decide (i.1=4))with
  |true=>
   simp only[cond_true]
   cases decide (i.1=4)with
   |true=>exact(h.take 127).blk ht i
   |false=>exact h.blk ht i
  |false=>
   rw[c1]at hne
   simp only[cond_false]at hne ⊢
   cases c2:decide (i.1=5)||decide (i.1=11)with
   |true=>
    rw[c2]at hne
    exact(h.close i.1 hne).le (by omega) (by omega)
   |false=>
    rw[c2]at hne
    simp only[cond_false]at hne ⊢
    cases c3:decide (i.1=26)with
    |true=>exact(h.take 0).le (by omega) (by omega)
    |false=>
     simp only[cond_false]
     cases c4:decide (i.1=27)with
     |true=>exact h.sel.le (by omega) (by omega)
     |false=>
      simp only[cond_false]
      cases c5:decide (i.1=16)with
      |true=>
       have:=kind_len ht (mSigK y.2.1 y.2.2.1 i.2.1)
       exact(((h.mst _).tks _).giv _).le (by omega) (by omega)
      |false=>
       simp only[cond_false]
       cases c6:decide (i.1=17)with
       |true=>
        have:=kind_len ht i.2.1
        exact((((h.mst _).take 127).tks _).giv _).le (by omega) (by omega)
       |false=>
        simp only[cond_false]
        simp only[Bool.or_eq_false_iff,decide_eq_false_iff_not]at c1 c2 c3 c4 c5 c6
        have key: ∀ o:Int,(¬ o=2/\ ¬ o=3/\ ¬ o=4)->(¬ o=5/\ ¬ o=11)-> ¬ (2<=o/\o<=5):=fun o _ _=>by omega
        refine(h.jump hm y lo i (fun e=>?_) n2 hk hi.n).le (Nat.le_refl _) (Nat.le_succ _)
        have ne0: ∀ o:Int,o=12∨o=13∨o=14-> ¬ o=0/\ ¬ o=15:=fun o _=>by omega
        exact(n1 (key _ c1 c2) (ne0 _ e).1 c2.2 (ne0 _ e).2 c3 c4).1
theorem sem62{k m:Nat}{w:W3}(h:Inv k m w){y:denT tM}(ht:TyOk y)(lo:List Int){i:den tI}(hi:IOk i)(hk:k+32*i.2.2.2.2.2.length<=1073741823)(hm:m<=1073741823)(him:y.2.1.length<=1099511627776):(t62 (wkI y lo w i)).val=some (ofT to62 (wk y lo (pStep y lo w i))):=by
 obtain⟨l1,l2,l3,_,_⟩:=of_lim i.1
 have k0:k<=1073741823:=by omega
 have hz:=sem70 y lo w i (mOf i.1) l1
 rw[eq62 y (gT_of ht) lo w i _ rfl _ hz.symm _ rfl _ rfl _ rfl]
 unfold pStep
 dsimp only
 cases hp:(mOf i.1).2.2.1 with
 |true=>
  have q:=h.fld y i (mOf i.1)
  have e:gFld (wkF y lo w i (mOf i.1))=true:=decide_eq_true l1
  simp only[cond_true]
  rw[e]
  obtain⟨b,eb⟩:=pFld_same y w i (mOf i.1)
  have c1:=q.cT (L:=(mOf i.1).2.2.2.1) (by omega) (by omega) (by omega)
  have c2:=(q.tks (mOf i.1).2.2.2.1).cG (by omega) (L:=(mOf i.1).2.2.2.2.1) (by omega)
  refine Eq.trans (b:=bif cT (pFld y w i (mOf i.1)) (mOf i.1).2.2.2.1 then _ else none) rfl ?_
  rw[c1,cond_true]
  refine Eq.trans (b:=bif cG (pTks (pFld y w i (mOf i.1)) (mOf i.1).2.2.2.1) (mOf i.1).2.2.2.2.1 then _ else none) rfl ?_
  rw[c2,cond_true]
  rfl
 |false=>
  simp only[cond_false]
  obtain⟨n1,n2⟩:=hi.np hp
  have B2: ∀ {k m:Nat} {v:W3},Inv k m v->k<=1073741823->m<=1073741823->ckO (cT (v.1,v.2.1,mSgB y.1 i.2.1 v.2.2) (mSgS y.1 i.2.1).1) (
   ckO (decide ((pTks (v.1,v.2.1,mSgB y.1 i.2.1 v.2.2) (mSgS y.1 i.2.1).1).2.1.length+1<=549755813888)) (
    ckO (cG ((pTks (v.1,v.2.1,mSgB y.1 i.2.1 v.2.2) (mSgS y.1 i.2.1).1).1,mOpen (pTks (v.1,v.2.1,mSgB y.1 i.2.1 v.2.2) (mSgS y.1 i.2.1).1).1 (pTks (v.1,v.2.1,mSgB y.1 i.2.1 v.2.2) (mSgS y.1 i.2.1).1).2.1 i.1 (mSgS y.1 i.2.1).1 (mSgS y.1 i.2.1).2,(pTks (v.1,v.2.1,mSgB y.1 i.2.1 v.2.2) (mSgS y.1 i.2.1).1).2.2) (mSgS y.1 i.2.1).1)
     (some (ofT to62 (wk y lo (pBlk y i v))))))=some (ofT to62 (wk y lo (pBlk y i v))):=by
   intro k m v q hk hm
   obtain⟨a,b⟩:=sgs_len ht i.2.1
   have q1:=q.bad (mSgB y.1 i.2.1 v.2.2)
   have q2:=q1.tks (mSgS y.1 i.2.1).1
   have q3:=q2.opn i.1 a b
   have hb:v.2.1.length<=m:=q.sb
   have c0:decide ((pTks (v.1,v.2.1,mSgB y.1 i.2.1 v.2.2) (mSgS y.1 i.2.1).1).2.1.length+1<=549755813888)=true:=decide_eq_true (by show v.2.1.length+1<=_;omega)
   rw[q1.cT (by omega) (by omega) (L:=(mSgS y.1 i.2.1).1) (by omega),c0,q3.cG (by omega) (L:=(mSgS y.1 i.2.1).1) (by omega)]
   rfl
  have BODY:(bif decide (i.1=4)then ckO (cW w) (ckO (cT ((pTake w 127).1,(pTake w 127).2.1,mSgB y.1 i.2.1 (pTake w 127).2.2) (mSgS y.1 i.2.1).1) (
   ckO (decide ((pTks ((pTake w 127).1,(pTake w 127).2.1,mSgB y.1 i.2.1 (pTake w 127).2.2) (mSgS y.1 i.2.1).1).2.1.length+1<=549755813888)) (
    ckO (cG ((pTks ((pTake w 127).1,(pTake w 127).2.1,mSgB y.1 i.2.1 (pTake w 127).2.2) (mSgS y.1 i.2.1).1).1,mOpen (pTks ((pTake w 127).1,(pTake w 127).2.1,mSgB y.1 i.2.1 (pTake w 127).2.2) (mSgS y.1 i.2.1).1).1 (pTks ((pTake w 127).1,(pTake w 127).2.1,mSgB y.1 i.2.1 (pTake w 127).2.2) (mSgS y.1 i.2.1).1).2.1 i.1 (mSgS y.1 i.2.1).1 (mSgS y.1 i.2.1).2,(pTks ((pTake w 127).1,(pTake w 127).2.1,mSgB y.1 i.2.1 (pTake w 127).2.2) (mSgS y.1 i.2.1).1).2.2) (mSgS y.1 i.2.1).1)
     (some (ofT to62 (wk y lo (pBlk y i (pTake w 127))))))))else ckO (cT (w.1,w.2.1,mSgB y.1 i.2.1 w.2.2) (mSgS y.1 i.2.1).1) (
   ckO (decide ((pTks (w.1,w.2.1,mSgB y.1 i.2.1 w.2.2) (mSgS y.1 i.2.1).1).2.1.length+1<=549755813888)) (
    ckO (cG ((pTks (w.1,w.2.1,mSgB y.1 i.2.1 w.2.2) (mSgS y.1 i.2.1).1).1,mOpen (pTks (w.1,w.2.1,mSgB y.1 i.2.1 w.2.2) (mSgS y.1 i.2.1).1).1 (pTks (w.1,w.2.1,mSgB y.1 i.2.1 w.2.2) (mSgS y.1 i.2.1).1).2.1 i.1 (mSgS y.1 i.2.1).1 (mSgS y.1 i.2.1).2,(pTks (w.1,w.2.1,mSgB y.1 i.2.1 w.2.2) (mSgS y.1 i.2.1).1).2.2) (mSgS y.1 i.2.1).1)
     (some (ofT to62 (wk y lo (pBlk y i w)))))))=some (ofT to62 (wk y lo (pBlk y i (bif decide (i.1=4)then pTake w 127 else w)))):=by
   cases decide (i.1=4)with
   |true=>rw[cond_true,cond_true,h.cW (by omega) (by omega)];exact B2 (h.take 127) k0 hm
   |false=>exact B2 h k0 hm
  by_cases d2:(i.1:Int)=2
  ·rw[decide_eq_true d2,cond_true];exact BODY
  rw[decide_eq_false d2,cond_false]
  by_cases d3:(i.1:Int)=3
  ·rw[decide_eq_true d3,cond_true];exact BODY
  rw[decide_eq_false d3,cond_false]
  by_cases d4:(i.1:Int)=4
  ·have:=BODY
   rw[decide_eq_true d4]at this ⊢
   exact this
  rw[decide_eq_false d4,cond_false]
  simp only[Bool.false_or,cond_false]
  have s75:=sem_of (sem75 h (by omega) (by omega) y lo i.1)
  have e75:ckO (k75 (wkN y lo w i.1)) (some (ofT to62 (m75 (wkN y lo w i.1))))=some (ofT to62 (wk y lo (pClose w i.1))):=by
   rw[show k75 (wkN y lo w i.1)=true from s75.1,show m75 (wkN y lo w i.1)=_ from s75.2]
   rfl
  by_cases d5:(i.1:Int)=5
  ·rw[decide_eq_true d5,cond_true];exact e75
  rw[decide_eq_false d5,cond_false]
  by_cases d11:(i.1:Int)=11
  ·rw[decide_eq_true d11,cond_true];exact e75
  rw[decide_eq_false d11,cond_false]
  simp only[Bool.false_or,cond_false]
  by_cases d26:(i.1:Int)=26
  ·rw[decide_eq_true d26,h.cW (by omega) (by omega)];rfl
  rw[decide_eq_false d26]
  simp only[cond_false]
  by_cases d27:(i.1:Int)=27
  ·have q1:=h.take 127
   have q2:=q1.take 0
   have q3:=q2.take ((mTake (pTake w 127).1 (pTake w 127).2.1 (pTake w 127).2.2 0).1)
   rw[decide_eq_true d27,h.cW (by omega) (by omega),q1.cW (by omega) (by omega),q2.cW (by omega) (by omega),q3.cG (by omega) (L:=[_]) (by simp)]
   rfl
  rw[decide_eq_false d27]
  simp only[cond_false]
  have key: ∀ o:Int,¬ o=2-> ¬ o=3-> ¬ o=4-> ¬ o=5-> ¬ (2<=o/\o<=5):=fun o _ _ _ _=>by omega
  by_cases d16:(i.1:Int)=16
  ·have ha:=n1 (key _ d2 d3 d4 d5) (ne_of d16 (by decide)) (ne_of d16 (by decide)) (ne_of d16 (by decide)) d26 d27
   obtain⟨a,b⟩:=kind_len ht (mSigK y.2.1 y.2.2.1 i.2.1)
   have q:=h.mst (mKindO y.1 (mSigK y.2.1 y.2.2.1 i.2.1))
   have c0:(decide (i.2.1<9223372036854775808)&&decide (y.2.1.length<=1099511627776))=true:=by
    rw[decide_eq_true (show(i.2.1:Int)<9223372036854775808 from Int.lt_trans ha.2 (by decide)),decide_eq_true him];rfl
   rw[decide_eq_true d16,c0,q.cT (by omega) (by omega) (L:=(mKindS y.1 (mSigK y.2.1 y.2.2.1 i.2.1)).1) (by omega),(q.tks _).cG (by omega) (L:=(mKindS y.1 (mSigK y.2.1 y.2.2.1 i.2.1)).2) (by omega)]
   rfl
  rw[decide_eq_false d16]
  simp only[cond_false]
  by_cases d17:(i.1:Int)=17
  ·obtain⟨a,b⟩:=kind_len ht i.2.1
   have I: ∀ ok:Bool,ckO (cW w) (ckO (cT (pTake (pMst w ok) 127) (mKindS y.1 i.2.1).1) (ckO (cG (pTks (pTake (pMst w ok) 127) (mKindS y.1 i.2.1).1) (mKindS y.1 i.2.1).2) (some (ofT to62 (wk y lo (pGiv (pTks (pTake (pMst w ok) 127) (mKindS y.1 i.2.1).1) (mKindS y.1 i.2.1).2))))))=some (ofT to62 (wk y lo (pGiv (pTks (pTake (pMst w ok) 127) (mKindS y.1 i.2.1).1) (mKindS y.1 i.2.1).2))):=by
    intro ok
    have q:=(h.mst ok).take 127
    rw[h.cW (by omega) (by omega),q.cT (by omega) (by omega) (L:=(mKindS y.1 i.2.1).1) (by omega),(q.tks _).cG (by omega) (L:=(mKindS y.1 i.2.1).2) (by omega)]
    rfl
   rw[decide_eq_true d17]
   simp only[cond_true,I]
   cases mKindO y.1 i.2.1 with
   |false=>rfl
   |true=>cases decide (0<(y.2.2.2.1.length:Int))<;>rfl
  rw[decide_eq_false d17]
  simp only[cond_false]
  have s77:=sem_of (sem77 h (by omega) y lo i (by omega) hi.n (fun e=>?_) n2 (fun e0 e15=>(n1 (key _ d2 d3 d4 d5) e0 d11 e15 d26 d27).1))
  ·rw[show k77 (wkI y lo w i)=true from s77.1,show m77 (wkI y lo w i)=_ from s77.2]
   rfl
  ·have ne0: ∀ o:Int,o=12∨o=13∨o=14-> ¬ o=0/\ ¬ o=15:=fun o _=>by omega
   exact(n1 (key _ d2 d3 d4 d5) (ne0 _ e).1 d11 (ne0 _ e).2 d26 d27).1
end Go.Proofs.Vd

noncomputable section
namespace Go.Proofs.Vd
open Go.Ab Go.Ab.Lf
set_option maxRecDepth 100000
def vc1(v t:Int):Int:=bif decide (t=123)then addW .i64 v 1 else v
def vcs(l:List Int):Int:=l.foldl vc1 0
theorem rch202(y:denT tM)(lo:List Int)(w:W3)(mk:List (den tMk))(k:Int)(x:den tI)(c:List (den tI))(n1 i1:Int)(hw:w.1.length<=1073741824):
 Rch f202 (ofT ti202 (wkV y lo w mk k x c n1 i1 0 (w.1.length:Int) 0)) 0 (ofT to202_0 (wkV0 y lo w mk k x c n1 i1 (vcs w.1))):=by
 have:=rng (f:=f202) (l:=w.1) (fun(v:Int) j=>ofT ti202 (wkV y lo w mk k x c n1 i1 v (w.1.length:Int) (j:Int))) (fun v t=>.inl (vc1 v t)) (fun v=>(0,ofT to202_0 (wkV0 y lo w mk k x c n1 i1 v))) (fun _ _=>True) (fun v j t r e _=>by
  obtain⟨e1,e2⟩:=drop_get e (dflt i64)
  refine⟨?_,fun _ _=>trivial⟩
  rw[eq202,lt_nat e1,cond_true,ixc e1,Int.toNat_natCast,e2,add1 (by omega)]
  unfold vc1
  cases decide (t=123)<;>rfl) (fun v j e hj _=>by
  have:j=w.1.length:=by have:=List.drop_eq_nil_iff.1 e;omega
  subst this
  rw[eq202,lt_natF (Nat.le_refl _)]
  rfl) w.1 0 0 rfl (by omega) trivial
 rw[foldX_inl]at this
 exact this
def pLive(w:W3):Bool:=bif (mTop w.2.1).2.2.2.2.2 then !(mTop w.2.1).2.2.2.2.1 else false
def pMk(w:W3):den tMk:=bif pLive w then(true,(w.1.length:Int),vcs w.1)else(false,0,0)
def pTyp(y:denT tM)(lo:List Int):W3->List (den tI)->Option (List (den tMk))
 | _,[]=>some []
 |w,x::r=>bif (pStep y lo w x).2.2 then none else(pTyp y lo (pStep y lo w x) r).map (pMk w:: ·)
def Clo(op:List Int)(r:List (den tI)):Prop:=foldR mClG (fun _=>(none:Option Bool)) r op=some true
def nbl(o:Int)(L:Nat):Nat:=if 2<=o/\o<=4 then L+1 else if o=11 then L - 1 else L
theorem clo_cons{op:List Int}{x:den tI}{r:List (den tI)}(h:Clo op (x::r)):((x.1:Int)=11/\op=[]/\r=[])∨ ∃ op',Clo op' r/\op'.length+1=nbl x.1 (op.length+1)/\((x.1:Int)=11->op≠[]):=by
 have e:foldR mClG (fun _=>(none:Option Bool)) (x::r) op=(match mClG op x r with| .inl s=>foldR mClG (fun _=>none) r s| .inr o=>o):=by
  rw[foldR]
  cases mClG op x r<;>rfl
 unfold Clo at h
 rw[e]at h
 unfold mClG at h
 unfold nbl
 by_cases h2:x.1=2∨x.1=3∨x.1=4
 ·have k2:(2:Int)<=x.1/\(x.1:Int)<=4:=by
   have: ∀ o:Int,o=2∨o=3∨o=4->2<=o/\o<=4:=fun o _=>by omega
   exact this _ h2
  rw[if_pos h2]at h
  by_cases q:op.length=128
  ·rw[if_pos q]at h;cases h
  ·rw[if_neg q]at h
   refine .inr ⟨op++[x.1],h,?_,fun e=>?_⟩
   ·rw[if_pos k2];simp
   ·have: ∀ o:Int,o=11-> ¬ (o=2∨o=3∨o=4):=fun o _=>by omega
    exact(this _ e h2).elim
 ·have k2: ¬ ((2:Int)<=x.1/\(x.1:Int)<=4):=by
   have: ∀ o:Int,¬ (o=2∨o=3∨o=4)-> ¬ (2<=o/\o<=4):=fun o _=>by omega
   exact this _ h2
  rw[if_neg h2]at h
  rw[if_neg k2]
  by_cases h5:(x.1:Int)=5
  ·rw[if_pos h5]at h
   rw[if_neg (ne_of h5 (by decide))]
   by_cases q:op.length=0∨ ¬ op.getD (op.length - 1) 0=4
   ·rw[if_pos q]at h;cases h
   ·rw[if_neg q]at h
    refine .inr ⟨op.set (op.length - 1) 5,h,by simp,fun e=>(ne_of h5 (c:=11) (by decide) e).elim⟩
  ·rw[if_neg h5]at h
   by_cases h11:(x.1:Int)=11
   ·rw[if_pos h11]at h
    rw[if_pos h11]
    by_cases h0:op.length=0
    ·rw[if_pos h0]at h
     refine .inl ⟨h11,List.eq_nil_of_length_eq_zero h0,?_⟩
     have h:some (decide (r.length=0))=some true:=h
     injection h with h
     exact List.eq_nil_of_length_eq_zero (of_decide_eq_true h)
    ·rw[if_neg h0]at h
     refine .inr ⟨op.take (op.length - 1),h,by simp;omega,fun _ e=>h0 (by rw[e];rfl)⟩
   ·rw[if_neg h11]at h
    rw[if_neg h11]
    exact .inr ⟨op,h,rfl,fun e=>(h11 e).elim⟩
theorem pTab_bl(w:W3)(i:den tI):(pTab w i).2.1=w.2.1:=by
 have eb: ∀ (T:List Int) (L:List Int) (v:W3),(L.foldl (pJ T) v).2.1=v.2.1:=by
  intro T L
  induction L with
  |nil=>intro v;rfl
  |cons x L ih=>intro v;exact(ih (pJ T v x)).trans rfl
 exact eb _ _ _
theorem die_bl(w:W3):(pDie w).2.1.length=w.2.1.length:=by
 show(w.2.1.set _ _).length=_
 rw[List.length_set]
theorem jump_bl(y:denT tM)(lo:List Int)(w:W3)(i:den tI):(pJump y lo w i).2.1.length=w.2.1.length:=by
 unfold pJump
 dsimp only
 cases decide (i.1=0)with
 |true=>exact die_bl w
 |false=>
  cases decide (i.1=12)with
  |true=>exact die_bl _
  |false=>
   cases decide (i.1=13)with
   |true=>rfl
   |false=>
    cases decide (i.1=14)with
    |true=>
     show(pDie (pTks (pTab w i) _)).2.1.length=_
     rw[die_bl]
     show(pTab w i).2.1.length=_
     rw[pTab_bl]
    |false=>
     cases decide (i.1=15)with
     |true=>exact die_bl _
     |false=>
      simp only[cond_false]
      unfold pVar
      dsimp only
      cases(bif !decide (i.1=33)then !decide (i.1=36)else false)<;>cases(bif !decide (i.1=32)then !decide (i.1=35)else false)<;>rfl
theorem close_bl{w:W3}(h:w.2.1≠[])(n:Int)(hb:(pClose w n).2.2=false):(pClose w n).2.1.length=if n=5 then w.2.1.length else w.2.1.length - 1:=by
 obtain⟨r,B,e⟩:=snoc_of h
 have ec:pCut w=r:=by unfold pCut;rw[e];simp
 unfold pClose at hb ⊢
 cases hB:pClB w with
 |true=>rw[hB]at hb;cases hb
 |false=>
  by_cases h5:n=5
  ·rw[decide_eq_true h5,if_pos h5]
   show(mOpen _ (pCut w) _ _ _).length=_
   unfold mOpen
   rw[ec,e]
   simp
  ·rw[decide_eq_false h5,if_neg h5]
   show(pCut w).length=_
   rw[ec,e]
   simp
theorem step_bl{y:denT tM}{lo:List Int}{w:W3}{i:den tI}(h:w.2.1≠[])(hb:(pStep y lo w i).2.2=false):(pStep y lo w i).2.1.length=nbl i.1 w.2.1.length:=by
 unfold pStep at hb ⊢
 unfold nbl
 cases hp:(mOf i.1).2.2.1 with
 |true=>
  obtain⟨a,b⟩:=of_pl hp
  have: ∀ o:Int,¬ (2<=o/\o<=5)-> ¬ (2<=o/\o<=4):=fun o _=>by omega
  rw[if_neg (this _ a),if_neg b]
  simp only[cond_true]
  unfold pPln
  obtain⟨q,e⟩:=pFld_same y w i (mOf i.1)
  rw[e]
 |false=>
  rw[hp]at hb
  simp only[cond_false]at hb ⊢
  by_cases h2:(i.1:Int)=2∨(i.1:Int)=3∨(i.1:Int)=4
  ·have k2:(2:Int)<=i.1/\(i.1:Int)<=4:=by
    have: ∀ o:Int,o=2∨o=3∨o=4->2<=o/\o<=4:=fun o _=>by omega
    exact this _ h2
   have c:(decide (i.1=2)||(decide (i.1=3)||decide (i.1=4)))=true:=by simp only[Bool.or_eq_true,decide_eq_true_eq];exact h2
   rw[c,if_pos k2]
   simp only[cond_true]
   unfold pBlk
   dsimp only
   show(mOpen _ _ _ _ _).length=_
   unfold mOpen
   cases decide (i.1=4)<;>simp
  ·have k2: ¬ ((2:Int)<=i.1/\(i.1:Int)<=4):=by
    have: ∀ o:Int,¬ (o=2∨o=3∨o=4)-> ¬ (2<=o/\o<=4):=fun o _=>by omega
    exact this _ h2
   have c:(decide (i.1=2)||(decide (i.1=3)||decide (i.1=4)))=false:=by rw[Bool.eq_false_iff];intro q;simp only[Bool.or_eq_true,decide_eq_true_eq]at q;exact h2 q
   rw[c]at hb ⊢
   rw[if_neg k2]
   simp only[cond_false]at hb ⊢
   by_cases h5:(i.1:Int)=5∨(i.1:Int)=11
   ·have c:(decide (i.1=5)||decide (i.1=11))=true:=by simp only[Bool.or_eq_true,decide_eq_true_eq];exact h5
    rw[c]at hb ⊢
    simp only[cond_true]at hb ⊢
    rw[close_bl h i.1 hb]
    rcases h5 with h5|h5
    ·rw[if_pos h5,if_neg (ne_of h5 (by decide))]
    ·rw[if_neg (ne_of h5 (by decide)),if_pos h5]
   ·have c:(decide (i.1=5)||decide (i.1=11))=false:=by rw[Bool.eq_false_iff];intro q;simp only[Bool.or_eq_true,decide_eq_true_eq]at q;exact h5 q
    rw[c,if_neg (fun e=>h5 (.inr e))]
    simp only[cond_false]
    cases decide (i.1=26)with
    |true=>rfl
    |false=>
     cases decide (i.1=27)with
     |true=>rfl
     |false=>
      cases decide (i.1=16)with
      |true=>rfl
      |false=>
       cases decide (i.1=17)with
       |true=>rfl
       |false=>exact jump_bl y lo w i
structure BOk(c:List (den tI)):Prop where
 ok: ∀ x,x∈c->IOk x
 n:c.length<=1048576
theorem set_mid{α:Type}(d:List α)(a b:α)(r:List α):(d++a::r).set d.length b=(d++[b])++r:=by
 rw[List.set_append_right _ _ (Nat.le_refl _)]
 simp
def oT(d:List (den tMk)):Option (List (den tMk))->Nat×List Pl
 |some l=>(0,ofT to200_0 (d++l,()))
 |none=>(1,ofT to200_1 ([],false,()))
theorem rch200{y:denT tM}(ht:TyOk y)(him:y.2.1.length<=1099511627776)(lo:List Int){c:List (den tI)}(hc:BOk c): ∀ (r:List (den tI)) (j:Nat) (w:W3) (d:List (den tMk)),c.drop j=r->d.length=j->(r=[]∨(Inv (32*j) (j+1) w/\ ∃ op,Clo op r/\w.2.1.length=op.length+1))->
 Rch f200 (ofT ti200 (wkT y lo w (d++List.replicate r.length (false,0,0)) c (c.length:Int) (j:Int))) (oT d (pTyp y lo w r)).1 (oT d (pTyp y lo w r)).2
 | [],j,w,d,e,hd,_=>by
  have hj:c.length<=j:=List.drop_eq_nil_iff.1 e
  refine .last ?_
  rw[eq200 y lo w _ c _ _ _ rfl _ rfl _ rfl _ rfl _ rfl _ rfl,lt_natF hj]
  simp only[cond_false,List.length_nil,List.replicate_zero,List.append_nil]
  show some (Rs.out 0 (ofT to200_0 (d,())))=some (Rs.out 0 (ofT to200_0 (d++[],())))
  rw[List.append_nil]
 |x::r,j,w,d,e,hd,hi=>by
  obtain⟨hi,op,hcl,hbl⟩:Inv (32*j) (j+1) w/\ ∃ op,Clo op (x::r)/\w.2.1.length=op.length+1:=by
   rcases hi with hi|hi
   ·cases hi
   ·exact hi
  obtain⟨e1,e2⟩:=drop_get e (dflt tI)
  have hx:x∈c:=by
   have:x∈c.drop j:=by rw[e];exact List.mem_cons_self
   exact List.mem_of_mem_drop this
  have hI:=hc.ok x hx
  have hn:=hc.n
  have hs:=hi.sub (by omega)
  have eB:mTop w.2.1=w.2.1.getD (subW .i64 (w.2.1.length:Int) 1).toNat (dflt tBlk):=by rw[hs,Int.toNat_natCast];rfl
  have s62:=sem_of (sem62 hi ht lo hI (by have:=hI.n;omega) (by omega) him)
  have er:c.drop (j+1)=r:=by rw[<-List.tail_drop,e];rfl
  have hsk:=hi.sk
  have v:=l1_eq (rch202 y lo w (d++List.replicate (x::r).length (false,0,0)) (j:Int) x c (c.length:Int) (j:Int) (by omega))
  have hmk:(d++List.replicate (x::r).length ((false,0,0):den tMk)).set j (true,(w.1.length:Int),vcs w.1)=(d++[(true,(w.1.length:Int),vcs w.1)])++List.replicate r.length (false,0,0):=by
   rw[List.length_cons,List.replicate_succ,<-hd]
   exact set_mid d _ _ _
  have hmk0:d++List.replicate (x::r).length ((false,0,0):den tMk)=(d++[(false,0,0)])++List.replicate r.length (false,0,0):=by
   rw[List.length_cons,List.replicate_succ]
   simp
  have hlen:(d++List.replicate (x::r).length ((false,0,0):den tMk)).length=j+(r.length+1):=by simp[hd]
  have step: ∀ (hb:(pStep y lo w x).2.2=false),r=[]∨(Inv (32*(j+1)) (j+1+1) (pStep y lo w x)/\ ∃ op,Clo op r/\(pStep y lo w x).2.1.length=op.length+1):=by
   intro hb
   rcases clo_cons hcl with⟨_,_,q⟩|⟨op',q1,q2,q3⟩
   ·exact .inl q
   ·have hl:=step_bl hi.ne hb
    rw[hbl,<-q2]at hl
    have hne:(pStep y lo w x).2.1≠[]:=fun e0=>by rw[e0]at hl;simp at hl
    exact .inr ⟨(hi.step ht lo hI (by have:=hI.n;omega) (by omega) hne).le (by omega) (Nat.le_refl _),op',q1,hl⟩
  have hq:=eq200 y lo w (d++List.replicate (x::r).length (false,0,0)) c (c.length:Int) (j:Int) x (by rw[Int.toNat_natCast];exact e2.symm) (mTop w.2.1) eB _ v.2.symm _ s62.2.symm _ rfl _ rfl
  rw[lt_nat e1,cond_true,ixc e1,hs,hi.ix]at hq
  simp only[ckO,cond_true]at hq
  have hlv:(bif (mTop w.2.1).2.2.2.2.2 then !(mTop w.2.1).2.2.2.2.1 else false)=pLive w:=rfl
  rw[hlv]at hq
  cases hL:pLive w with
  |true=>
   rw[hL,v.1]at hq
   simp only[cond_true]at hq
   have hq2:(f200 (ofT ti200 (wkT y lo w (d++List.replicate (x::r).length (false,0,0)) c (c.length:Int) (j:Int)))).val=bif ixOk (j:Int) ((d++List.replicate (x::r).length ((false,0,0):den tMk)).length:Int)then(bif k62 (wkI y lo w x)then(bif (m62 (wkI y lo w x)).2.2.2.2.2.2.2.2.2.2.2.2.2.2.1 then some (Rs.out 1 (ofT to200_1 ([],false,())))else some (Rs.next (ofT ti200 ((m62 (wkI y lo w x)).1,(m62 (wkI y lo w x)).2.1,(m62 (wkI y lo w x)).2.2.1,(m62 (wkI y lo w x)).2.2.2.1,(m62 (wkI y lo w x)).2.2.2.2.1,(m62 (wkI y lo w x)).2.2.2.2.2.1,(m62 (wkI y lo w x)).2.2.2.2.2.2.1,(m62 (wkI y lo w x)).2.2.2.2.2.2.2.1,(m62 (wkI y lo w x)).2.2.2.2.2.2.2.2.1,(m62 (wkI y lo w x)).2.2.2.2.2.2.2.2.2.1,(m62 (wkI y lo w x)).2.2.2.2.2.2.2.2.2.2.1,(m62 (wkI y lo w x)).2.2.2.2.2.2.2.2.2.2.2.1,(m62 (wkI y lo w x)).2.2.2.2.2.2.2.2.2.2.2.2.1,(m62 (wkI y lo w x)).2.2.2.2.2.2.2.2.2.2.2.2.2.1,(m62 (wkI y lo w x)).2.2.2.2.2.2.2.2.2.2.2.2.2.2.1,(d++List.replicate (x::r).length ((false,0,0):den tMk)).set (j:Int).toNat (true,(w.1.length:Int),vcs w.1),c,(c.length:Int),addW .i64 (j:Int) 1,()))))else none)else none:=hq
   rw[hlen,ixc (show j<j+(r.length+1) by omega),show k62 (wkI y lo w x)=true from s62.1,Int.toNat_natCast,hmk,add1 (by omega),show m62 (wkI y lo w x)=_ from s62.2]at hq2
   simp only[cond_true]at hq2
   have hp:pTyp y lo w (x::r)=bif (pStep y lo w x).2.2 then none else(pTyp y lo (pStep y lo w x) r).map (pMk w:: ·):=rfl
   rw[hp]
   cases hb:(pStep y lo w x).2.2 with
   |true=>
    rw[hb]at hq2
    exact .last hq2
   |false=>
    rw[hb]at hq2
    have ih:=rch200 ht him lo hc r (j+1) (pStep y lo w x) (d++[pMk w]) er (by simp[hd]) (step hb)
    have em:pMk w=(true,(w.1.length:Int),vcs w.1):=by unfold pMk;rw[hL];rfl
    rw[em]at ih
    rw[em]
    simp only[cond_false]
    have eo:oT d ((pTyp y lo (pStep y lo w x) r).map ((true,(w.1.length:Int),vcs w.1):: ·))=oT (d++[(true,(w.1.length:Int),vcs w.1)]) (pTyp y lo (pStep y lo w x) r):=by
     cases pTyp y lo (pStep y lo w x) r with
     |none=>rfl
     |some l=>show((0:Nat),ofT to200_0 (d++_::l,()))=(0,ofT to200_0 ((d++[_])++l,()));simp
    rw[eo]
    refine .more (pl':=ofT ti200 (wkT y lo (pStep y lo w x) ((d++[(true,(w.1.length:Int),vcs w.1)])++List.replicate r.length (false,0,0)) c (c.length:Int) ((j+1:Nat):Int))) ?_ ih
    refine hq2.trans ?_
    show some _=some _
    rw[<-hb]
  |false=>
   rw[hL,show k62 (wkI y lo w x)=true from s62.1]at hq
   simp only[cond_false,cond_true]at hq
   rw[add1 (by omega),hmk0]at hq
   have hp:pTyp y lo w (x::r)=bif (pStep y lo w x).2.2 then none else(pTyp y lo (pStep y lo w x) r).map (pMk w:: ·):=rfl
   rw[hp]
   have em:pMk w=(false,0,0):=by unfold pMk;rw[hL];rfl
   rw[hmk0]
   cases hb:(pStep y lo w x).2.2 with
   |true=>
    rw[hb]at hq
    exact .last hq
   |false=>
    rw[hb]at hq
    have ih:=rch200 ht him lo hc r (j+1) (pStep y lo w x) (d++[pMk w]) er (by simp[hd]) (step hb)
    rw[em]at ih
    rw[em]
    simp only[cond_false]
    have eo:oT d ((pTyp y lo (pStep y lo w x) r).map ((false,0,0):: ·))=oT (d++[(false,0,0)]) (pTyp y lo (pStep y lo w x) r):=by
     cases pTyp y lo (pStep y lo w x) r with
     |none=>rfl
     |some l=>show((0:Nat),ofT to200_0 (d++_::l,()))=(0,ofT to200_0 ((d++[_])++l,()));simp
    rw[eo]
    refine .more (pl':=ofT ti200 (wkT y lo (pStep y lo w x) ((d++[(false,0,0)])++List.replicate r.length (false,0,0)) c (c.length:Int) ((j+1:Nat):Int))) ?_ ih
    refine hq.trans ?_
    show some _=some _
    rw[<-hb]
end Go.Proofs.Vd

noncomputable section
namespace Go.Proofs.Vd
open Go.Ab Go.Ab.Lf
set_option maxRecDepth 100000
theorem addN{a b:Nat}(h:a+b<4611686018427387904):addW .i64 (a:Int) (b:Int)=((a+b:Nat):Int):=add2 h
def sumL(l:List (List Int)):Nat:=l.foldr (fun x n=>x.length+n) 0
theorem foldl_app(l:List (List Int)): ∀ (s:List Int),l.foldl (fun s x=>s++x) s=s++l.flatten:=by
 induction l with
 |nil=>intro s;simp
 |cons x l ih=>intro s;show l.foldl _ (s++x)=_;rw[ih];simp
theorem foldl_sum(l:List (List Int)): ∀ (s:Nat),l.foldl (fun s x=>s+x.length) s=s+sumL l:=by
 induction l with
 |nil=>intro s;rfl
 |cons x l ih=>intro s;show l.foldl _ (s+x.length)=s+(x.length+sumL l);rw[ih];omega
theorem rch590(c:List (List Int))(hc:c.length+sumL c<=1073741824):Rch f590 (ofT ti590 (c,((0:Nat):Int),c,(c.length:Int),((0:Nat):Int),())) 0 (ofT to590_0 (c,(sumL c:Int),())):=by
 have r0:=rng (f:=f590) (l:=c) (fun(s:Nat) j=>ofT ti590 (c,(s:Int),c,(c.length:Int),(j:Int),())) (fun s x=>.inl (s+x.length)) (fun s=>(0,ofT to590_0 (c,(s:Int),()))) (fun s r=>s+sumL r<=1073741824) (fun s j x r e hi=>by
  obtain⟨e1,e2⟩:=drop_get e (dflt (.sli i64))
  have e2:c.getD j (dflt (.sli i64))=x:=e2
  have hi1:s+(x.length+sumL r)<=1073741824:=hi
  have hneg:decide (((s+x.length:Nat):Int)<0)=false:=decide_eq_false (by omega)
  have hq:addW .i64 (s:Int) (x.length:Int)=((s+x.length:Nat):Int):=addN (by omega)
  refine⟨?_,fun s' e=>by cases e;exact(by omega:s+x.length+sumL r<=1073741824)⟩
  rw[eq590 c c (s:Int) (c.length:Int) (j:Int) ((s+x.length:Nat):Int) (by rw[Int.toNat_natCast,e2];exact hq.symm),lt_nat e1,cond_true,ixc e1,hneg,add1 (by omega)]
  rfl) (fun s j e hj _=>by
  have:j=c.length:=by have:=List.drop_eq_nil_iff.1 e;omega
  subst this
  rw[eq590 c c (s:Int) (c.length:Int) (c.length:Int) _ rfl,lt_natF (Nat.le_refl _)]
  rfl) c 0 0 rfl (by omega) (by omega)
 rw[foldX_inl,foldl_sum,Nat.zero_add]at r0
 exact r0
theorem rch592(c:List (List Int))(hc:c.length+sumL c<=1073741824):Rch f592 (ofT ti592 ([],c,(c.length:Int),((0:Nat):Int),())) 0 (ofT to592_0 (c.flatten,())):=by
 have r2:=rng (f:=f592) (l:=c) (fun(s:List Int) j=>ofT ti592 (s,c,(c.length:Int),(j:Int),())) (fun s x=>.inl (s++x)) (fun s=>(0,ofT to592_0 (s,()))) (fun s r=>s.length+sumL r<=1073741824) (fun s j x r e hi=>by
  obtain⟨e1,e2⟩:=drop_get e (dflt (.sli i64))
  have e2:c.getD j (dflt (.sli i64))=x:=e2
  have hi1:s.length+(x.length+sumL r)<=1073741824:=hi
  refine⟨?_,fun s' e=>by cases e;rw[List.length_append];omega⟩
  rw[eq592 s c (c.length:Int) (j:Int) x (by rw[Int.toNat_natCast];exact e2.symm),lt_nat e1,cond_true,ixc e1,roomy_le (by omega) (by omega),app_eq,add1 (by omega)]
  rfl) (fun s j e hj _=>by
  have:j=c.length:=by have:=List.drop_eq_nil_iff.1 e;omega
  subst this
  rw[eq592 s c (c.length:Int) (c.length:Int) _ rfl,lt_natF (Nat.le_refl _)]
  rfl) c 0 [] rfl (by omega) (by simp;omega)
 rw[foldX_inl,foldl_app,List.nil_append]at r2
 exact r2
theorem sem59(c:List (List Int))(hc:c.length+sumL c<=1073741824):(t59 (c,())).val=some (ofT to59 (c.flatten,())):=by
 have v0:=l1_eq (rch590 c hc)
 have v2:=l1_eq (rch592 c hc)
 have hw:subW .i64 (sumL c:Int) 0=(sumL c:Int):=by
  show wrapF .i64 ((sumL c:Int) - 0)=_
  rw[wrap_i64 (by omega) (by omega)]
  omega
 have hneg:decide ((sumL c:Int)<0)=false:=decide_eq_false (by omega)
 have c1:roomy 8 (0+(List.replicate (sumL c:Int).toNat (0:Int)).length)=true:=roomy_le (by omega) (by rw[List.length_replicate,Int.toNat_natCast];omega)
 have c2:cutOk 0 0 ((app [] (List.replicate (sumL c:Int).toNat (0:Int))).length:Int)=true:=cut_nat (j:=0) (Nat.zero_le _)
 have a1:lk1 f590 ti590 to590_0 (c,0,c,(c.length:Int),0,())=true:=v0.1
 have a3:lk1 f592 ti592 to592_0 ([],c,(c.length:Int),0,())=true:=v2.1
 have a4:lo1 f592 ti592 to592_0 ([],c,(c.length:Int),0,())=(c.flatten,()):=v2.2
 rw[eq59 c (c,(sumL c:Int),()) v0.2.symm,a1]
 dsimp only
 rw[a3,a4,hneg,hw]
 generalize ofT to59 (c.flatten,())=R
 have c3:decide ((0:Int)<=(sumL c:Int))=true:=decide_eq_true (by omega)
 rw[c1,c2,c3]
 cases decide ((0:Int)<(sumL c:Int))<;>rfl
def pSig(y:denT tM)(k:Int):den tSig:=mKindS y.1 (mSigK y.2.1 y.2.2.1 k)
def pCode(y:denT tM)(i:Nat):den tCod:=y.2.2.2.2.2.2.2.2.2.1.getD i (dflt tCod)
def pLo(y:denT tM)(i:Nat):List Int:=(pSig y ((y.2.1.length+i:Nat):Int)).1++(pCode y i).1
def pW0(y:denT tM)(i:Nat):W3:=([],mOpen [] [] 2 [] (pSig y ((y.2.1.length+i:Nat):Int)).2,false)
def pTyped(y:denT tM)(i:Nat):Option (List (den tMk)):=pTyp y (pLo y i) (pW0 y i) (pCode y i).2
theorem inv0{y:denT tM}(ht:TyOk y)(i:Nat):Inv 0 1 (pW0 y i):=by
 have hs:=(kind_len ht (mSigK y.2.1 y.2.2.1 ((y.2.1.length+i:Nat):Int))).2
 have e:(pW0 y i).2.1=[(2,0,[],(pSig y ((y.2.1.length+i:Nat):Int)).2,false,true)]:=rfl
 refine⟨by rw[e];simp,by rw[e];exact List.pairwise_singleton _ _,fun b hb=>?_,fun b hb=>?_,Nat.le_refl _,by rw[e];simp⟩
 ·rw[e]at hb
  have:b=(2,0,[],(pSig y ((y.2.1.length+i:Nat):Int)).2,false,true):=by simpa using hb
  rw[this]
  exact⟨Int.le_refl _,Int.le_refl _⟩
 ·rw[e]at hb
  have:b=(2,0,[],(pSig y ((y.2.1.length+i:Nat):Int)).2,false,true):=by simpa using hb
  rw[this]
  exact⟨Nat.zero_le _,hs⟩
structure CdOk(C:den tCod):Prop where
 b:BOk C.2
 c:Clo [] C.2
 l:List.length C.1<=512
theorem sem20{y:denT tM}(ht:TyOk y)(him:y.2.1.length<=1048576){i:Nat}(hi:i<y.2.2.2.2.2.2.2.2.2.1.length)(hi2:i<=1048576)(hC:CdOk (pCode y i)):
 (t20 (y.1,y.2.1,y.2.2.1,y.2.2.2.1,y.2.2.2.2.1,y.2.2.2.2.2.1,y.2.2.2.2.2.2.1,y.2.2.2.2.2.2.2.1,y.2.2.2.2.2.2.2.2.1,y.2.2.2.2.2.2.2.2.2.1,y.2.2.2.2.2.2.2.2.2.2.1,(i:Int),())).val=some (ofT to20 ((pTyped y i).getD [],(pTyped y i).isSome,())):=by
 have hk:addW .i64 (y.2.1.length:Int) (i:Int)=((y.2.1.length+i:Nat):Int):=addN (by omega)
 have hs:=(kind_len ht (mSigK y.2.1 y.2.2.1 ((y.2.1.length+i:Nat):Int))).1
 have hl:=hC.l
 have hn:=hC.b.n
 have s59:=sem_of (sem59 [(pSig y ((y.2.1.length+i:Nat):Int)).1,(pCode y i).1] (by
  show 2+((mKindS y.1 (mSigK y.2.1 y.2.2.1 ((y.2.1.length+i:Nat):Int))).1.length+((pCode y i).1.length+0))<=_
  omega))
 have e59:(m59 ([(pSig y ((y.2.1.length+i:Nat):Int)).1,(pCode y i).1],())).1=pLo y i:=by
  rw[show m59 ([(pSig y ((y.2.1.length+i:Nat):Int)).1,(pCode y i).1],())=_ from s59.2]
  unfold pLo
  simp
 have hlen:(pW0 y i).2.1.length=([]:List Int).length+1:=rfl
 have r:=rch200 ht (by omega) (pLo y i) hC.b (pCode y i).2 0 (pW0 y i) [] rfl rfl (.inr ⟨(inv0 ht i).le (Nat.le_refl _) (Nat.le_refl _),[],hC.c,hlen⟩)
 rw[eq20 y (gT_of ht) (i:Int) _ hk.symm _ rfl (pCode y i) (by rw[Int.toNat_natCast];rfl) (pLo y i) e59.symm (pW0 y i) rfl _ rfl,ixc hi]
 have c1:(decide (((y.2.1.length+i:Nat):Int)<9223372036854775808)&&decide (y.2.1.length<=1099511627776))=true:=by
  rw[decide_eq_true (by omega),decide_eq_true (by omega)];rfl
 have c2:((decide (0<=((pCode y i).2.length:Int))&&decide (((pCode y i).2.length:Int)<=((pCode y i).2.length:Int)))&&decide (((pCode y i).2.length:Int).toNat*24<=70368744177664))=true:=by
  rw[decide_eq_true (by omega),decide_eq_true (by omega),decide_eq_true (by rw[Int.toNat_natCast];omega)];rfl
 rw[c1,c2,show k59 ([(mKindS y.1 (mSigK y.2.1 y.2.2.1 ((y.2.1.length+i:Nat):Int))).1,(pCode y i).1],())=true from s59.1,decide_eq_true (show y.2.2.2.2.2.2.2.1=y.2.2.2.2.2.2.2.1 from rfl)]
 simp only[ckO,cond_true]
 have c3:decide (([]:List (den tBlk)).length+1<=549755813888)=true:=decide_eq_true (by simp)
 rw[c3,cond_true]
 have hp:pTyped y i=pTyp y (pLo y i) (pW0 y i) (pCode y i).2:=rfl
 rw[hp]
 have r:Rch f200 (ofT ti200 (wkT y (pLo y i) (pW0 y i) (List.replicate (pCode y i).2.length (false,0,0)) (pCode y i).2 ((pCode y i).2.length:Int) 0)) (oT [] (pTyp y (pLo y i) (pW0 y i) (pCode y i).2)).1 (oT [] (pTyp y (pLo y i) (pW0 y i) (pCode y i).2)).2:=r
 cases hq:pTyp y (pLo y i) (pW0 y i) (pCode y i).2 with
 |none=>
  rw[hq]at r
  have v:=l2_eq1 (t0:=to200_0) (t1:=to200_1) (y:=([],false,())) r
  rw[v.1,v.2.1,v.2.2]
  rfl
 |some l=>
  rw[hq]at r
  have v:=l2_eq0 (t0:=to200_0) (t1:=to200_1) (y:=(l,())) r
  rw[v.1,v.2.1,v.2.2]
  rfl
end Go.Proofs.Vd
