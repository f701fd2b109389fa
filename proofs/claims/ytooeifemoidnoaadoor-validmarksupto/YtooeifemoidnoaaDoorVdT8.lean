import Derived.Test.YtooeifemoidnoaaDoorVdS4
noncomputable section
namespace Go.Proofs.Vd
open Go.Ab Go.Ab.Lf
set_option maxRecDepth 100000
abbrev zb(x:Int)(r:Bool):Bool:=bif decide (x=0)then r else false
theorem rest_l(o a b lo hi:Int)(l:List Int)(f:Int)(h:(mRest (o,a,b,lo,hi,l,f,())).1=true):f=4∨l=[]:=by
 by_cases h4:f=4
 ·exact .inl h4
 ·refine .inr ?_
  have e:(fnT (Ps [pI,.n .i64]) [] (Ps [.bo]) (fun _=>none) Tryd.x87 3 (inD [] 3) (ofT t87 (o,a,b,lo,hi,l,f,()))).val=
   (let R:=fun(x:Bool)=>some (ofT [.bool] (x,()))
   bif (bif !decide (f=4)then decide (0<(l.length:Int))else false)then R false else
   bif decide (f=2)then R (zb b (zb lo (decide (hi=0))))else bif decide (f=3)then R (zb b (zb lo (decide (hi=0))))else bif decide (f=5)then R (zb b (zb lo (decide (hi=0))))else bif decide (f=4)then R (zb b (zb lo (decide (hi=0))))else bif decide (f=13)then R (zb b (zb lo (decide (hi=0))))else
   bif decide (f=6)then R (zb lo (decide (hi=0)))else bif decide (f=7)then R (zb lo (decide (hi=0)))else
   bif decide (f=8)then R (decide (hi=0))else
   bif decide (f=9)then R (zb a (zb b (decide (hi=0))))else bif decide (f=10)then R (zb a (zb b (decide (hi=0))))else
   bif decide (f=11)then R (zb a (zb b true))else bif decide (f=12)then R (zb a (zb b true))else R (zb a (zb b (zb lo (decide (hi=0)))))):=by kernel_rfl
  cases l with
  |nil=>rfl
  |cons x l=>
   exfalso
   have c:(bif !decide (f=4)then decide (0<((x::l).length:Int))else false)=true:=by
    rw[decide_eq_false h4]
    exact decide_eq_true (by simp only[List.length_cons];omega)
   dsimp only at e
   rw[c,cond_true]at e
   have:=(sem_of (to:=[.bool]) (y:=(false,())) e).2
   unfold mRest at h
   rw[this]at h
   cases h
theorem ckO_some{α:Type}{c:Bool}{x:Option α}{y:α}(h:ckO c x=some y):c=true/\x=some y:=by
 unfold ckO at h
 cases c with
 |true=>exact⟨rfl,h⟩
 |false=>cases h
theorem mTab_eq(l:List Int): ∀ (s:List Int) (k:Bool),(mTab (s,k) l).2=(k&&l.all mNum)/\s.length+l.length<=(mTab (s,k) l).1.length:=by
 induction l with
 |nil=>intro s k;exact⟨by simp[mTab],by simp[mTab]⟩
 |cons x l ih=>
  intro s k
  obtain⟨h1,h2⟩:=ih (s++putU (cvtW .u64 x)) (bif k then mNum x else false)
  have e:mTab (s,k) (x::l)=mTab (s++putU (cvtW .u64 x),bif k then mNum x else false) l:=rfl
  have hp:1<=(putU (cvtW .u64 x)).length:=by unfold putU;simp
  rw[e]
  refine⟨?_,?_⟩
  ·rw[h1,List.all_cons]
   cases k<;>cases mNum x<;>rfl
  ·rw[List.length_append]at h2
   simp only[List.length_cons]
   omega
theorem mNum_iff{n:Int}(h:mNum n=true):0<=n/\n<4294967296:=by
 unfold mNum at h
 rw[Bool.cond_false_right,Bool.and_eq_true,decide_eq_true_eq,decide_eq_true_eq]at h
 exact h
theorem putT_ok{p:List Int}{o a b lo hi:Int}{l B:List Int}(hp:1<=p.length)(h:mPutT Prod.mk p o a b lo hi l=some (B,true)):
 (∀ f,f=(mOf o).1->(f=3∨f=4∨f=5∨f=6)->0<=a/\a<4294967296)/\((mOf o).1=4-> ∀ x,x∈l->(0:Int)<=x)/\1<=B.length/\((mOf o).1=4->l.length<=B.length):=by
 unfold mPutT at h
 dsimp only at h
 obtain⟨f,hf⟩: ∃ f:Int,(mOf o).1=f:=⟨_,rfl⟩
 rw[hf]at h ⊢
 have no: ∀ (g:Int),g=f->(g=3∨g=4∨g=5∨g=6)-> ¬ (f=3∨f=4∨f=5∨f=6)->False:=fun g hg k c=>by subst hg;exact c k
 have no4:f=4-> ¬ f=4->False:=fun k c=>c k
 have base: ∀ {u:List Int} {v:Bool},some (app p u,v)=some (B,true)->v=true/\1<=B.length:=by
  intro u v e
  cases e
  exact⟨rfl,by rw[app_eq,List.length_append];omega⟩
 by_cases f1:f=1
 ·rw[decide_eq_true f1]at h
  cases h
  exact⟨fun g hg k=>(no g hg k (by omega)).elim,fun k=>(no4 k (by omega)).elim,hp,fun k=>(no4 k (by omega)).elim⟩
 rw[decide_eq_false f1,cond_false]at h
 by_cases f2:f=2
 ·rw[decide_eq_true f2,cond_true]at h
  have hB:1<=B.length:=by
   have one: ∀ {u:List Int},ckO (roomy 1 (p.length+1)) (some (app p u,true))=some (B,true)->1<=B.length:=fun e=>(base (ckO_some e).2).2
   cases d1:decide (a= -64)with
   |true=>rw[d1]at h;exact(base (ckO_some h).2).2
   |false=>
    rw[d1,cond_false]at h
    cases d2:decide (a= -1)with
    |true=>rw[d2]at h;exact(base (ckO_some h).2).2
    |false=>
     rw[d2,cond_false]at h
     cases d3:decide (a= -2)with
     |true=>rw[d3]at h;exact(base (ckO_some h).2).2
     |false=>
      rw[d3,cond_false]at h
      cases d4:decide (a= -5)with
      |true=>rw[d4]at h;exact(base (ckO_some h).2).2
      |false=>
       rw[d4,cond_false]at h
       exact(base (ckO_some (ckO_some (ckO_some (ckO_some h).2).2).2).2).2
  exact⟨fun g hg k=>(no g hg k (by omega)).elim,fun k=>(no4 k (by omega)).elim,hB,fun k=>(no4 k (by omega)).elim⟩
 rw[decide_eq_false f2,cond_false]at h
 by_cases f3:f=3
 ·rw[decide_eq_true f3,cond_true]at h
  obtain⟨q1,q2⟩:=base (ckO_some (ckO_some h).2).2
  exact⟨fun g hg k=>mNum_iff q1,fun k=>(no4 k (by omega)).elim,q2,fun k=>(no4 k (by omega)).elim⟩
 rw[decide_eq_false f3,cond_false]at h
 by_cases f5:f=5
 ·rw[decide_eq_true f5,cond_true]at h
  obtain⟨q1,q2⟩:=base (ckO_some (ckO_some h).2).2
  exact⟨fun g hg k=>mNum_iff q1,fun k=>(no4 k (by omega)).elim,q2,fun k=>(no4 k (by omega)).elim⟩
 rw[decide_eq_false f5,cond_false]at h
 by_cases f4:f=4
 ·rw[decide_eq_true f4,cond_true]at h
  have h:=(ckO_some (ckO_some (ckO_some (ckO_some h).2).2).2).2
  obtain⟨t1,t2⟩:=mTab_eq l (app p (putU (cvtW .u64 (Int.ofNat l.length)))) (mIs o)
  cases ht:(mTab (app p (putU (cvtW .u64 (Int.ofNat l.length))),mIs o) l).2 with
  |false=>rw[ht]at h;cases h
  |true=>
   rw[ht,cond_true]at h
   have hB:(mTab (app p (putU (cvtW .u64 (Int.ofNat l.length))),mIs o) l).1.length<=B.length/\mNum a=true:=by
    injection h with h
    have e1:app _ _=B:=congrArg Prod.fst h
    have e2:mNum a=true:=congrArg Prod.snd h
    exact⟨by rw[<-e1];simp only[app_eq,List.length_append];omega,e2⟩
   rw[ht]at t1
   have t1:=t1.symm
   rw[Bool.and_eq_true,List.all_eq_true]at t1
   have hpl:1<=(app p (putU (cvtW .u64 (Int.ofNat l.length)))).length:=by rw[app_eq,List.length_append];omega
   exact⟨fun g hg k=>mNum_iff hB.2,fun k x hx=>(mNum_iff (t1.2 x hx)).1,by omega,fun _=>by omega⟩
 rw[decide_eq_false f4,cond_false]at h
 by_cases f6:f=6
 ·rw[decide_eq_true f6,cond_true]at h
  have h:=(ckO_some (ckO_some (ckO_some (ckO_some (ckO_some (ckO_some (ckO_some h).2).2).2).2).2).2).2
  cases hn:mNum a with
  |false=>rw[hn]at h;cases h
  |true=>
   rw[hn,cond_true]at h
   have hB:1<=B.length:=by
    injection h with h
    have e1:app (app p _) _=B:=congrArg Prod.fst h
    rw[<-e1]
    simp only[app_eq,List.length_append]
    omega
   exact⟨fun g hg k=>mNum_iff hn,fun k=>(no4 k (by omega)).elim,hB,fun k=>(no4 k (by omega)).elim⟩
 rw[decide_eq_false f6,cond_false]at h
 have hB:1<=B.length:=by
  by_cases f7:f=7
  ·rw[decide_eq_true f7,cond_true]at h
   have h:=(ckO_some (ckO_some (ckO_some (ckO_some (ckO_some (ckO_some (ckO_some h).2).2).2).2).2).2).2
   cases hn:mNum a with
   |false=>rw[hn]at h;cases h
   |true=>
    rw[hn,cond_true]at h
    injection h with h
    have e1:app (app p _) _=B:=congrArg Prod.fst h
    rw[<-e1]
    simp only[app_eq,List.length_append]
    omega
  rw[decide_eq_false f7,cond_false]at h
  by_cases f8:f=8
  ·rw[decide_eq_true f8,cond_true]at h
   have h:=(ckO_some (ckO_some (ckO_some (ckO_some (ckO_some (ckO_some h).2).2).2).2).2).2
   cases hn:mNum a with
   |false=>rw[hn]at h;cases h
   |true=>
    rw[hn,cond_true]at h
    cases hm:mNum b with
    |false=>rw[hm]at h;cases h
    |true=>
     rw[hm,cond_true]at h
     injection h with h
     have e1:app (app (app p _) _) _=B:=congrArg Prod.fst h
     rw[<-e1]
     simp only[app_eq,List.length_append]
     omega
  rw[decide_eq_false f8,cond_false]at h
  have h:=(ckO_some h).2
  injection h with h
  have e1:p++_=B:=congrArg Prod.fst h
  rw[<-e1]
  rw[List.length_append]
  omega
 exact⟨fun g hg k=>(no g hg k (by omega)).elim,fun k=>(no4 k (by omega)).elim,hB,fun k=>(no4 k (by omega)).elim⟩
theorem putT_blk{p:List Int}{o a b lo hi:Int}{l B:List Int}(h:mPutT Prod.mk p o a b lo hi l=some (B,true))(f2:(mOf o).1=2):BkA a:=by
 unfold mPutT at h
 dsimp only at h
 rw[f2]at h
 have h:(bif decide (a= -64)then _ else bif decide (a= -1)then _ else bif decide (a= -2)then _ else bif decide (a= -5)then _ else ckO _ (ckO _ (ckO _ (ckO _ (some (app p (putS a),mNum a))))))=some (B,true):=h
 by_cases e1:a= -64
 ·exact .inl e1
 by_cases e2:a= -1
 ·exact .inr (.inl e2)
 by_cases e3:a= -2
 ·exact .inr (.inr (.inl e3))
 by_cases e4:a= -5
 ·exact .inr (.inr (.inr (.inl e4)))
 rw[decide_eq_false e1,decide_eq_false e2,decide_eq_false e3,decide_eq_false e4]at h
 simp only[cond_false]at h
 have e:=(ckO_some (ckO_some (ckO_some (ckO_some h).2).2).2).2
 injection e with e
 have e:mNum a=true:=congrArg Prod.snd e
 unfold mNum at e
 by_cases e5:(0:Int)<=a
 ·exact .inr (.inr (.inr (.inr e5)))
 ·rw[decide_eq_false e5]at e
  cases e
theorem put_ok{x:den tI}(hI:okI (mI x)=true)(h:(mPut (mI x)).2=true):mIs x.1=true/\((mOf x.1).1=4∨x.2.2.2.2.2=[])/\(∀ f,f=(mOf x.1).1->(f=3∨f=4∨f=5∨f=6)->(0:Int)<=x.2.1/\(x.2.1:Int)<4294967296)/\((mOf x.1).1=4-> ∀ l,l∈x.2.2.2.2.2->(0:Int)<=l)/\1<=(mPut (mI x)).1.length/\((mOf x.1).1=4->List.length x.2.2.2.2.2<=(mPut (mI x)).1.length)/\((mOf x.1).1=2->BkA x.2.1):=by
 have e:=(mPut_gd hI).2 (List Int×Bool) Prod.mk
 rw[h]at e
 have e:mPutX Prod.mk x.1 x.2.1 x.2.2.1 x.2.2.2.1 x.2.2.2.2.1 x.2.2.2.2.2=some ((mPut (mI x)).1,true):=e
 unfold mPutX at e
 dsimp only at e
 cases h1:mIs x.1 with
 |false=>
  rw[h1]at e
  injection e with e
  have e2:false=true:=congrArg Prod.snd e
  cases e2
 |true=>
  rw[h1]at e
  simp only[Bool.not_true,cond_false]at e
  cases h2:(mRest (x.1,x.2.1,x.2.2.1,x.2.2.2.1,x.2.2.2.2.1,x.2.2.2.2.2,(mOf x.1).1,())).1 with
  |false=>
   rw[h2]at e
   injection e with e
   have e2:false=true:=congrArg Prod.snd e
   cases e2
  |true=>
   rw[h2]at e
   simp only[Bool.not_true,cond_false]at e
   have hr:=rest_l _ _ _ _ _ _ _ h2
   have hT: ∃ p:List Int,1<=p.length/\mPutT Prod.mk p x.1 x.2.1 x.2.2.1 x.2.2.2.1 x.2.2.2.2.1 x.2.2.2.2.2=some ((mPut (mI x)).1,true):=by
    cases hd:decide (64768<=x.1)with
    |true=>
     rw[hd]at e
     exact⟨_,by rw[app_eq,List.length_append];simp,(ckO_some (ckO_some (ckO_some e).2).2).2⟩
    |false=>
     rw[hd]at e
     exact⟨_,by simp,(ckO_some e).2⟩
   obtain⟨p,p1,p2⟩:=hT
   obtain⟨q1,q2,q3,q4⟩:=putT_ok p1 p2
   exact⟨rfl,hr,q1,q2,q3,q4,putT_blk p2⟩
end Go.Proofs.Vd

noncomputable section
variable {V:ByteArray→Bool}
namespace Go.Proofs.Vd
open Go.Ab Go.Ab.Lf
set_option maxRecDepth 100000
theorem wrX_cons(x:den tI)(c:List (den tI))(out:List Int):mWrX (x::c) out=bif (mPut (mI x)).2 then mWrX c (out++(mPut (mI x)).1)else none:=by
 show foldR mWrG some (x::c) out=_
 rw[foldR]
 unfold mWrG
 cases(mPut (mI x)).2<;>rfl
theorem wrX_ok: ∀ (c:List (den tI)) (out B:List Int),okIs c=true->mWrX c out=some B->(∀ x,x∈c->(mPut (mI x)).2=true)/\out.length+c.length<=B.length/\ ∀ x,x∈c->List.length x.2.2.2.2.2<=B.length
 | [],out,B,_,h=>by cases h;exact⟨(fun x hx=>by cases hx),(by simp),(fun x hx=>by cases hx)⟩
 |x::c,out,B,hc,h=>by
  obtain⟨h1,h2⟩:=allB_cons hc
  rw[wrX_cons]at h
  cases hp:(mPut (mI x)).2 with
  |false=>rw[hp]at h;cases h
  |true=>
   rw[hp,cond_true]at h
   obtain⟨a,b,d⟩:=wrX_ok c _ B h2 h
   obtain⟨_,p2,_,_,p5,p6,_⟩:=put_ok h1 hp
   rw[List.length_append]at b
   refine⟨fun z hz=>?_,by simp only[List.length_cons];omega,fun z hz=>?_⟩
   ·rcases List.mem_cons.1 hz with e|e
    ·subst e;exact hp
    ·exact a z e
   ·rcases List.mem_cons.1 hz with e|e
    ·subst e
     rcases p2 with p2|p2
     ·have:=p6 p2;omega
     ·rw[p2];exact Nat.zero_le _
    ·exact d z e
theorem wr_ok{c:List (den tI)}(hc:okC c=true)(h:mWrE c=0)(hl:(mWrB c).length<=1048576):BOk c/\Clo [] c:=by
 have hi:okIs c=true:=by simp only[okC,Bool.and_eq_true]at hc;exact hc.1
 unfold mWrE at h
 unfold mWrB at hl
 cases ho:mWrO c with
 |none=>rw[ho]at h;cases h
 |some B=>
  rw[ho]at hl
  have hl:B.length<=1048576:=hl
  unfold mWrO at ho
  cases hcl:mClosed c with
  |false=>rw[hcl]at ho;cases ho
  |true=>
   rw[hcl,cond_true]at ho
   obtain⟨a,b,d⟩:=wrX_ok c [] B hi ho
   refine⟨⟨fun x hx=>?_,by simp only[List.length_nil]at b;omega⟩,?_⟩
   ·obtain⟨p1,p2,p3,p4,_,_,p7⟩:=put_ok (allB_mem hi x hx) (a x hx)
    exact⟨p3,p4,by have:=d x hx;omega,p1,p7⟩
   ·unfold mClosed mClX at hcl
    unfold Clo
    cases hf:foldR mClG (fun _=>(none:Option Bool)) c []with
    |none=>rw[hf]at hcl;cases hcl
    |some t=>rw[hf]at hcl;exact congrArg some hcl
theorem secP_ok{t:Ty}{A:Item (den t)}{B:Itx A}{most:Int}{l:List (den t)}(h:secP B most l=true):(l.length:Int)<=most/\ ∀ x,x∈l->B.p x=true:=by
 unfold secP at h
 rw[Bool.and_eq_true]at h
 refine⟨of_decide_eq_true h.1,fun x hx=>?_⟩
 have h2:=h.2
 have hne: ¬ (l.length:Int)=0:=by
  have:=List.length_pos_of_mem hx
  omega
 rw[decide_eq_false hne,cond_false,Bool.and_eq_true,Bool.and_eq_true,List.all_eq_true]at h2
 exact h2.1.2 x hx
theorem secB_len{t:Ty}{A:Item (den t)}{B:Itx A}{id:Int}{l:List (den t)}{x:den t}(hx:x∈l):(B.bs x).length<=(secB B id l).length:=by
 have h1: ∀ l:List (den t),x∈l->(B.bs x).length<=(rowB B l).length:=by
  intro l
  induction l with
  |nil=>intro h;cases h
  |cons a l ih=>
   intro h
   show _<=(B.bs a++rowB B l).length
   rw[List.length_append]
   rcases List.mem_cons.1 h with e|e
   ·subst e;omega
   ·have:=ih e;omega
 have h2:=h1 l hx
 have hne: ¬ (l.length:Int)=0:=by
  have:=List.length_pos_of_mem hx
  omega
 unfold secB
 rw[decide_eq_false hne,cond_false]
 simp only[List.length_cons,List.length_append]
 omega
theorem runF_same(L:List Int)(i:Nat): ∀ (k n t:Nat),(∀ t,1<=t->t<n->L.getD (i+t) (dflt i64)=L.getD i (dflt i64))->1<=t->t<mRunF L i k n->L.getD (i+t) (dflt i64)=L.getD i (dflt i64)
 |0,n,t,h,a,b=>h t a b
 |k+1,n,t,h,a,b=>by
  unfold mRunF at b
  split at b
  ·rename_i hc
   refine runF_same L i k (n+1) t (fun t a b=>?_) a b
   by_cases e:t=n
   ·subst e;exact hc.2
   ·exact h t a (by omega)
  ·exact h t a b
theorem lcP_ok(L:List Int): ∀ (k i:Nat),L.length<=i+k->lcP L k i=true-> ∀ j,i<=j->j<L.length->kOk (L.getD j (dflt i64))=true
 |0,i,h,_,j,a,b=>by omega
 |k+1,i,h,hp,j,a,b=>by
  unfold lcP at hp
  rw[if_pos (by omega),Bool.and_eq_true,Bool.and_eq_true]at hp
  obtain⟨r1,r2⟩:=mRun_le L i (by omega)
  by_cases e:j<i+mRun L (i:Int)
  ·by_cases e2:j=i
   ·subst e2;exact hp.2.1
   ·have e3:mRun L (i:Int)=mRunF L i L.length 1:=rfl
    have:=runF_same L i L.length 1 (j - i) (fun t a b=>by omega) (by omega) (by omega)
    rw[show i+(j - i)=j by omega]at this
    rw[this]
    exact hp.2.1
  ·exact lcP_ok L k (i+mRun L (i:Int)) (by omega) hp.2.2 j (by omega) b
structure MOk(y:denT tM):Prop where
 ty:TyOk y
 tk: ∀ s:den tSig,s∈y.1->List.all s.1 kOk=true/\List.all s.2 kOk=true
 lt:y.1.length<=512
 li:y.2.1.length<=512
 lf:y.2.2.1.length<=512
 lb:y.2.2.2.1.length<=512
 lm:y.2.2.2.2.1.length<=512
 lg:y.2.2.2.2.2.1.length<=512
 lx:y.2.2.2.2.2.2.1.length<=512
 le:y.2.2.2.2.2.2.2.2.1.length<=512
 lc:y.2.2.2.2.2.2.2.2.2.1.length<=512
 ld:y.2.2.2.2.2.2.2.2.2.2.1.length<=512
 fc:y.2.2.1.length=y.2.2.2.2.2.2.2.2.2.1.length
 cd: ∀ C:den tCod,C∈y.2.2.2.2.2.2.2.2.2.1->CdOk C/\List.all C.1 kOk=true
 ex: ∀ e:den tExp,e∈y.2.2.2.2.2.2.1->(0:Int)<=e.2.1/\(e.2.1:Int)<=3
 st:(-1:Int)<=y.2.2.2.2.2.2.2.1/\(y.2.2.2.2.2.2.2.1:Int)<4294967296
 gk: ∀ g:den tGlo,g∈y.2.2.2.2.2.1->kOk g.1=true
 el: ∀ e:den tEle,e∈y.2.2.2.2.2.2.2.2.1->List.length e.2<=1024
 x0:gNx y.2.2.2.2.2.2.1=true
theorem mok{y:denT tM}(hE:okE V y=true)(hP:enP V y=true)(hB:(enB V y).length<=1048576)(hx:gNx y.2.2.2.2.2.2.1=true):MOk y:=by
 have hM:okM V y=true:=by unfold okE at hE;rw[Bool.and_eq_true]at hE;exact hE.1
 unfold okM at hM
 simp only[Bool.and_eq_true]at hM
 obtain⟨_,_,_,_,_,g6,_,g8,g9,g10⟩:=hM
 unfold enP at hP
 rw[Bool.and_eq_true,Bool.and_eq_true,Bool.and_eq_true]at hP
 obtain⟨p0,p1,p2,p3⟩:=hP
 unfold enP1 at p1
 unfold enP3 at p3
 simp only[Bool.and_eq_true]at p1 p3
 obtain⟨a1,a2,a3,a4,a5,a6,a7⟩:=p1
 obtain⟨a9,a10,a11⟩:=p3
 have b1:=secP_ok a1
 have b2:=secP_ok a2
 have b3:=secP_ok a3
 have b4:=secP_ok a4
 have b5:=secP_ok a5
 have b6:=secP_ok a6
 have b7:=secP_ok a7
 have b9:=secP_ok a9
 have b10:=secP_ok a10
 have b11:=secP_ok a11
 have hb10:(secB A52x 10 y.2.2.2.2.2.2.2.2.2.1).length<=1048576:=by
  have:(enB V y).length=(enB1 V y).length+((stB y.2.2.2.2.2.2.2.1).length+(enB3 y).length):=by unfold enB;rw[List.length_append,List.length_append]
  have:(enB3 y).length=(secB A49x 9 y.2.2.2.2.2.2.2.2.1).length+((secB A52x 10 y.2.2.2.2.2.2.2.2.2.1).length+(secB A54x 11 y.2.2.2.2.2.2.2.2.2.2.1).length):=by unfold enB3;rw[List.length_append,List.length_append]
  omega
 have ty: ∀ s:den tSig,s∈y.1->(List.length s.1<=32/\List.length s.2<=32)/\List.all s.1 kOk=true/\List.all s.2 kOk=true:=by
  intro s hs
  have h:=b1.2 s hs
  have h:(bif decide ((List.length s.1:Int)<=32)then decide ((List.length s.2:Int)<=32)&&(true&&([(List.length s.1:Int)].all nOk&&(List.all s.1 kOk&&([(List.length s.2:Int)].all nOk&&List.all s.2 kOk))))else false&&(true&&([(List.length s.1:Int)].all nOk&&(List.all s.1 kOk&&([(List.length s.2:Int)].all nOk&&List.all s.2 kOk)))))=true:=h
  by_cases q:(List.length s.1:Int)<=32
  ·rw[decide_eq_true q,cond_true]at h
   simp only[Bool.and_eq_true,decide_eq_true_eq]at h
   exact⟨⟨by omega,by have:=h.1;omega⟩,h.2.2.2.1,h.2.2.2.2.2⟩
  ·rw[decide_eq_false q]at h
   cases h
 refine⟨fun s hs=>(ty s hs).1,fun s hs=>(ty s hs).2,by omega,by omega,by omega,by omega,by omega,by omega,by omega,by omega,by omega,by omega,by have:=of_decide_eq_true p0;omega,fun C hC=>?_,fun e he=>?_,?_,fun g hg=>?_,fun e he=>?_,hx⟩
 ·have h:=b10.2 C hC
  have h:(decide ((List.length C.1:Int)<=512)&&(cdP C&&nOk ((cdB C).length:Int)))=true:=h
  rw[Bool.and_eq_true,Bool.and_eq_true]at h
  obtain⟨h1,h2,h3⟩:=h
  unfold cdP at h2
  rw[Bool.and_eq_true,Bool.and_eq_true]at h2
  have hl:(mWrB C.2).length<=1048576:=by
   have h4:(nb ((cdB C).length:Int)++cdB C).length<=_:=secB_len (B:=A52x) (id:=10) hC
   have h5:(cdB C).length=(nb (mRuns C.1 0)).length+((lcB C.1 (List.length C.1) 0).length+(mWrB C.2).length):=by unfold cdB;rw[List.length_append,List.length_append]
   rw[List.length_append]at h4
   omega
  have hok:okC C.2=true:=allB_mem g9 C hC
  obtain⟨q1,q2⟩:=wr_ok hok (of_decide_eq_true h2.2.2) hl
  refine⟨⟨q1,q2,by have:=of_decide_eq_true h1;omega⟩,?_⟩
  rw[List.all_eq_true]
  intro t ht
  obtain⟨j,hj,e⟩:=List.getElem_of_mem ht
  have:=lcP_ok C.1 (List.length C.1) 0 (by omega) h2.2.1 j (Nat.zero_le _) hj
  rw[List.getD_eq_getElem?_getD,List.getElem?_eq_getElem hj]at this
  rw[<-e]
  exact this
 ·have h:=b7.2 e he
  have h:(bif decide ((0:Int)<=e.2.1)then decide ((e.2.1:Int)<=3)&&(p36 V e.1&&(true&&[e.2.2].all nOk))else false&&(p36 V e.1&&(true&&[e.2.2].all nOk)))=true:=h
  by_cases q:(0:Int)<=e.2.1
  ·rw[decide_eq_true q,cond_true,Bool.and_eq_true]at h
   exact⟨q,of_decide_eq_true h.1⟩
  ·rw[decide_eq_false q]at h
   cases h
 ·unfold stP at p2
  rw[Bool.and_eq_true]at p2
  refine⟨of_decide_eq_true p2.1,?_⟩
  by_cases q:(0:Int)<=y.2.2.2.2.2.2.2.1
  ·have h:=p2.2
   rw[decide_eq_true q,cond_true,Bool.and_eq_true]at h
   have h:=h.1
   unfold nOk at h
   rw[Bool.and_eq_true]at h
   exact of_decide_eq_true h.2
  ·have key: ∀ a:Int,¬ 0<=a->a<4294967296:=fun a _=>by omega
   exact key _ q
 ·have h:=b6.2 g hg
  have h:([(g.1:Int)].all kOk&&bif g.2.1 then true&&decide (mWrE g.2.2=0)else true&&decide (mWrE g.2.2=0))=true:=h
  rw[Bool.and_eq_true]at h
  have h:=h.1
  simpa using h
 ·have h:=b9.2 e he
  have h:(decide ((List.length e.2:Int)<=1024)&&_)=true:=h
  rw[Bool.and_eq_true]at h
  have:=of_decide_eq_true h.1
  omega
end Go.Proofs.Vd

noncomputable section
namespace Go.Proofs.Vd
open Go.Ab Go.Ab.Lf
set_option maxRecDepth 100000
theorem rng_all{α:Type}{f:List Pl->T Rs}{l:List α}(st:Nat->List Pl)(p:α->Bool)(o0 o1:List Pl)
 (hstep: ∀ j x r,l.drop j=x::r->(f (st j)).val=some (bif p x then .next (st (j+1))else .out 1 o1))(hend:(f (st l.length)).val=some (.out 0 o0)):Rch f (st 0) (bif l.all p then 0 else 1) (bif l.all p then o0 else o1):=by
 have key: ∀ (r:List α) (j:Nat),l.drop j=r->j<=l.length->Rch f (st j) (bif r.all p then 0 else 1) (bif r.all p then o0 else o1):=by
  intro r
  induction r with
  |nil=>
   intro j h hj
   have:j=l.length:=by have:=List.drop_eq_nil_iff.1 h;omega
   subst this
   exact .last hend
  |cons x r ih=>
   intro j h hj
   have hlt:j<l.length:=by
    rcases Nat.lt_or_ge j l.length with k|k
    ·exact k
    ·rw[List.drop_eq_nil_of_le k]at h;cases h
   have hr:l.drop (j+1)=r:=by rw[<-List.tail_drop,h];rfl
   have hs:=hstep j x r h
   rw[List.all_cons]
   cases hp:p x with
   |true=>rw[hp]at hs;rw[Bool.true_and];exact .more hs (ih (j+1) hr hlt)
   |false=>rw[hp]at hs;exact .last hs
 exact key l 0 rfl (Nat.zero_le _)
def sumM(l:List (List (den tLim))):Nat:=l.foldr (fun x n=>x.length+n) 0
theorem foldl_appM(l:List (List (den tLim))): ∀ (s:List (den tLim)),l.foldl (fun s x=>s++x) s=s++l.flatten:=by
 induction l with
 |nil=>intro s;simp
 |cons x l ih=>intro s;show l.foldl _ (s++x)=_;rw[ih];simp
theorem foldl_sumM(l:List (List (den tLim))): ∀ (s:Nat),l.foldl (fun s x=>s+x.length) s=s+sumM l:=by
 induction l with
 |nil=>intro s;rfl
 |cons x l ih=>intro s;show l.foldl _ (s+x.length)=s+(x.length+sumM l);rw[ih];omega
theorem rch550(c:List (List (den tLim)))(hc:c.length+sumM c<=1073741824):Rch f550 (ofT ti550 (c,((0:Nat):Int),c,(c.length:Int),((0:Nat):Int),())) 0 (ofT to550_0 (c,(sumM c:Int),())):=by
 have r0:=rng (f:=f550) (l:=c) (fun(s:Nat) j=>ofT ti550 (c,(s:Int),c,(c.length:Int),(j:Int),())) (fun s x=>.inl (s+x.length)) (fun s=>(0,ofT to550_0 (c,(s:Int),()))) (fun s r=>s+sumM r<=1073741824) (fun s j x r e hi=>by
  obtain⟨e1,e2⟩:=drop_get e (dflt (.sli tLim))
  have e2:c.getD j (dflt (.sli tLim))=x:=e2
  have hi1:s+(x.length+sumM r)<=1073741824:=hi
  have hneg:decide (((s+x.length:Nat):Int)<0)=false:=decide_eq_false (by omega)
  have hq:addW .i64 (s:Int) (x.length:Int)=((s+x.length:Nat):Int):=addN (by omega)
  refine⟨?_,fun s' e=>by cases e;exact(by omega:s+x.length+sumM r<=1073741824)⟩
  rw[eq550 c c (s:Int) (c.length:Int) (j:Int) ((s+x.length:Nat):Int) (by rw[Int.toNat_natCast,e2];exact hq.symm),lt_nat e1,cond_true,ixc e1,hneg,add1 (by omega)]
  rfl) (fun s j e hj _=>by
  have:j=c.length:=by have:=List.drop_eq_nil_iff.1 e;omega
  subst this
  rw[eq550 c c (s:Int) (c.length:Int) (c.length:Int) _ rfl,lt_natF (Nat.le_refl _)]
  rfl) c 0 0 rfl (by omega) (by omega)
 rw[foldX_inl,foldl_sumM,Nat.zero_add]at r0
 exact r0
theorem rch552(c:List (List (den tLim)))(hc:c.length+sumM c<=1073741824):Rch f552 (ofT ti552 ([],c,(c.length:Int),((0:Nat):Int),())) 0 (ofT to552_0 (c.flatten,())):=by
 have r2:=rng (f:=f552) (l:=c) (fun(s:List (den tLim)) j=>ofT ti552 (s,c,(c.length:Int),(j:Int),())) (fun s x=>.inl (s++x)) (fun s=>(0,ofT to552_0 (s,()))) (fun s r=>s.length+sumM r<=1073741824) (fun s j x r e hi=>by
  obtain⟨e1,e2⟩:=drop_get e (dflt (.sli tLim))
  have e2:c.getD j (dflt (.sli tLim))=x:=e2
  have hi1:s.length+(x.length+sumM r)<=1073741824:=hi
  refine⟨?_,fun s' e=>by cases e;rw[List.length_append];omega⟩
  rw[eq552 s c (c.length:Int) (j:Int) x (by rw[Int.toNat_natCast];exact e2.symm),lt_nat e1,cond_true,ixc e1,roomy_le (by omega) (by omega),app_eq,add1 (by omega)]
  rfl) (fun s j e hj _=>by
  have:j=c.length:=by have:=List.drop_eq_nil_iff.1 e;omega
  subst this
  rw[eq552 s c (c.length:Int) (c.length:Int) _ rfl,lt_natF (Nat.le_refl _)]
  rfl) c 0 [] rfl (by omega) (by simp;omega)
 rw[foldX_inl,foldl_appM,List.nil_append]at r2
 exact r2
theorem sem55(c:List (List (den tLim)))(hc:c.length+sumM c<=1073741824):(t55 (c,())).val=some (ofT to55 (c.flatten,())):=by
 have v0:=l1_eq (rch550 c hc)
 have v2:=l1_eq (rch552 c hc)
 have hw:subW .i64 (sumM c:Int) 0=(sumM c:Int):=by
  show wrapF .i64 ((sumM c:Int) - 0)=_
  rw[wrap_i64 (by omega) (by omega)]
  omega
 have hneg:decide ((sumM c:Int)<0)=false:=decide_eq_false (by omega)
 have c1:roomy 16 (0+(List.replicate (sumM c:Int).toNat ((0,0):den tLim)).length)=true:=roomy_le (by omega) (by rw[List.length_replicate,Int.toNat_natCast];omega)
 have c2:cutOk 0 0 ((app [] (List.replicate (sumM c:Int).toNat ((0,0):den tLim))).length:Int)=true:=cut_nat (j:=0) (Nat.zero_le _)
 have a1:lk1 f550 ti550 to550_0 (c,0,c,(c.length:Int),0,())=true:=v0.1
 have a3:lk1 f552 ti552 to552_0 ([],c,(c.length:Int),0,())=true:=v2.1
 have a4:lo1 f552 ti552 to552_0 ([],c,(c.length:Int),0,())=(c.flatten,()):=v2.2
 rw[eq55 c (c,(sumM c:Int),()) v0.2.symm,a1]
 dsimp only
 rw[a3,a4,hneg,hw]
 generalize ofT to55 (c.flatten,())=R
 have c3:decide ((0:Int)<=(sumM c:Int))=true:=decide_eq_true (by omega)
 rw[c1,c2,c3]
 cases decide ((0:Int)<(sumM c:Int))<;>rfl
theorem all_out{f:List Pl->T Rs}{ti t0 t1:List Ty}{x:denT ti}{b:Bool}{u:denT t0}{v:denT t1}(h:Rch f (ofT ti x) (bif b then 0 else 1) (bif b then ofT t0 u else ofT t1 v)):lk2 f ti t0 t1 x=true/\lb2 f ti x=b/\(b=true->lo1 f ti t0 x=u)/\(b=false->lo1 f ti t1 x=v):=by
 cases b with
 |true=>obtain⟨a,b,c⟩:=l2_eq0 (t0:=t0) (t1:=t1) (y:=u) h;exact⟨a,b,(fun _=>c),(fun e=>by cases e)⟩
 |false=>obtain⟨a,b,c⟩:=l2_eq1 (t0:=t0) (t1:=t1) (y:=v) h;exact⟨a,b,(fun e=>by cases e),(fun _=>c)⟩
def pEle(y:denT tM)(fn:Int)(x:den tEle):Bool:= !decide ((y.2.2.2.1.length:Int)=0)&&(mOne x.1 127&&List.all x.2 (fun f=> !decide (fn<=f)))
def pDat(y:denT tM)(x:den tDat):Bool:= !decide ((y.2.2.2.2.1.length:Int)=0)&&mOne x.1 127
def pSeg(y:denT tM)(fn:Int):Bool:=List.all y.2.2.2.2.2.2.2.2.1 (pEle y fn)&&List.all y.2.2.2.2.2.2.2.2.2.2.1 (pDat y)
theorem sem58(y:denT tM)(fn:Int)(h1:y.2.2.2.2.2.2.2.2.1.length<=1048576)(h2:y.2.2.2.2.2.2.2.2.2.2.1.length<=1048576)(h3: ∀ e:den tEle,e∈y.2.2.2.2.2.2.2.2.1->List.length e.2<=1048576):(t58 (y.1,y.2.1,y.2.2.1,y.2.2.2.1,y.2.2.2.2.1,y.2.2.2.2.2.1,y.2.2.2.2.2.2.1,y.2.2.2.2.2.2.2.1,y.2.2.2.2.2.2.2.2.1,y.2.2.2.2.2.2.2.2.2.1,y.2.2.2.2.2.2.2.2.2.2.1,fn,())).val=some (ofT to58 (pSeg y fn,())):=by
 have r0:=rng_all (f:=f580) (l:=y.2.2.2.2.2.2.2.2.1) (fun j=>ofT ti580 (fn,y.1,y.2.1,y.2.2.1,y.2.2.2.1,y.2.2.2.2.1,y.2.2.2.2.2.1,y.2.2.2.2.2.2.1,y.2.2.2.2.2.2.2.1,y.2.2.2.2.2.2.2.2.1,y.2.2.2.2.2.2.2.2.2.1,y.2.2.2.2.2.2.2.2.2.2.1,y.2.2.2.2.2.2.2.2.1,(y.2.2.2.2.2.2.2.2.1.length:Int),(j:Int),())) (pEle y fn) (ofT to580_0 (y.1,y.2.1,y.2.2.1,y.2.2.2.1,y.2.2.2.2.1,y.2.2.2.2.2.1,y.2.2.2.2.2.2.1,y.2.2.2.2.2.2.2.1,y.2.2.2.2.2.2.2.2.1,y.2.2.2.2.2.2.2.2.2.1,y.2.2.2.2.2.2.2.2.2.2.1,())) (ofT to580_1 (false,())) (fun j x r e=>by
  obtain⟨e1,e2⟩:=drop_get e (dflt tEle)
  have hx:x∈y.2.2.2.2.2.2.2.2.1:=by
   have:x∈y.2.2.2.2.2.2.2.2.1.drop j:=by rw[e];exact List.mem_cons_self
   exact List.mem_of_mem_drop this
  have hl:=h3 x hx
  have r2:=rng_all (f:=f582) (l:=x.2) (fun k=>ofT ti582 (fn,y.1,y.2.1,y.2.2.1,y.2.2.2.1,y.2.2.2.2.1,y.2.2.2.2.2.1,y.2.2.2.2.2.2.1,y.2.2.2.2.2.2.2.1,y.2.2.2.2.2.2.2.2.1,y.2.2.2.2.2.2.2.2.2.1,y.2.2.2.2.2.2.2.2.2.2.1,y.2.2.2.2.2.2.2.2.1,(y.2.2.2.2.2.2.2.2.1.length:Int),(j:Int),x.2,(List.length x.2:Int),(k:Int),())) (fun f=> !decide (fn<=f)) _ _ (fun k f r e=>by
   obtain⟨e1,e2⟩:=drop_get e (dflt i64)
   rw[eq582,lt_nat e1,cond_true,ixc e1,Int.toNat_natCast,e2,add1 (by omega)]
   cases decide (fn<=f)<;>rfl) (by rw[eq582,lt_natF (Nat.le_refl _)];rfl)
  have q:=all_out (ti:=ti582) (t0:=to582_0) (t1:=to582_1) (x:=(fn,y.1,y.2.1,y.2.2.1,y.2.2.2.1,y.2.2.2.2.1,y.2.2.2.2.2.1,y.2.2.2.2.2.2.1,y.2.2.2.2.2.2.2.1,y.2.2.2.2.2.2.2.2.1,y.2.2.2.2.2.2.2.2.2.1,y.2.2.2.2.2.2.2.2.2.2.1,y.2.2.2.2.2.2.2.2.1,(y.2.2.2.2.2.2.2.2.1.length:Int),(j:Int),x.2,(List.length x.2:Int),0,())) (u:=(fn,y.1,y.2.1,y.2.2.1,y.2.2.2.1,y.2.2.2.2.1,y.2.2.2.2.2.1,y.2.2.2.2.2.2.1,y.2.2.2.2.2.2.2.1,y.2.2.2.2.2.2.2.2.1,y.2.2.2.2.2.2.2.2.2.1,y.2.2.2.2.2.2.2.2.2.2.1,y.2.2.2.2.2.2.2.2.1,(y.2.2.2.2.2.2.2.2.1.length:Int),(j:Int),())) (v:=(false,())) r2
  obtain⟨q1,q2,q3,q4⟩:=q
  rw[eq580 fn y _ _ _ x (by rw[Int.toNat_natCast];exact e2.symm) _ rfl _ rfl,lt_nat e1,cond_true,ixc e1,q1,q2]
  unfold pEle
  cases decide ((y.2.2.2.1.length:Int)=0)with
  |true=>rfl
  |false=>
   cases mOne x.1 127 with
   |false=>rfl
   |true=>
    cases ha:List.all x.2 (fun f=> !decide (fn<=f))with
    |true=>rw[q3 ha];show some (Rs.next (ofT ti580 (fn,y.1,y.2.1,y.2.2.1,y.2.2.2.1,y.2.2.2.2.1,y.2.2.2.2.2.1,y.2.2.2.2.2.2.1,y.2.2.2.2.2.2.2.1,y.2.2.2.2.2.2.2.2.1,y.2.2.2.2.2.2.2.2.2.1,y.2.2.2.2.2.2.2.2.2.2.1,y.2.2.2.2.2.2.2.2.1,(y.2.2.2.2.2.2.2.2.1.length:Int),addW .i64 (j:Int) 1,())))=_;rw[add1 (by omega)];rfl
    |false=>rw[q4 ha];rfl) (by rw[eq580 fn y _ _ _ _ rfl _ rfl _ rfl,lt_natF (Nat.le_refl _)];rfl)
 obtain⟨a1,a2,a3,a4⟩:=all_out (ti:=ti580) (t0:=to580_0) (t1:=to580_1) (x:=(fn,y.1,y.2.1,y.2.2.1,y.2.2.2.1,y.2.2.2.2.1,y.2.2.2.2.2.1,y.2.2.2.2.2.2.1,y.2.2.2.2.2.2.2.1,y.2.2.2.2.2.2.2.2.1,y.2.2.2.2.2.2.2.2.2.1,y.2.2.2.2.2.2.2.2.2.2.1,y.2.2.2.2.2.2.2.2.1,(y.2.2.2.2.2.2.2.2.1.length:Int),0,())) (u:=(y.1,y.2.1,y.2.2.1,y.2.2.2.1,y.2.2.2.2.1,y.2.2.2.2.2.1,y.2.2.2.2.2.2.1,y.2.2.2.2.2.2.2.1,y.2.2.2.2.2.2.2.2.1,y.2.2.2.2.2.2.2.2.2.1,y.2.2.2.2.2.2.2.2.2.2.1,())) (v:=(false,())) r0
 have r4:=rng_all (f:=f584) (l:=y.2.2.2.2.2.2.2.2.2.2.1) (fun j=>ofT ti584 (y.1,y.2.1,y.2.2.1,y.2.2.2.1,y.2.2.2.2.1,y.2.2.2.2.2.1,y.2.2.2.2.2.2.1,y.2.2.2.2.2.2.2.1,y.2.2.2.2.2.2.2.2.1,y.2.2.2.2.2.2.2.2.2.1,y.2.2.2.2.2.2.2.2.2.2.1,y.2.2.2.2.2.2.2.2.2.2.1,(y.2.2.2.2.2.2.2.2.2.2.1.length:Int),(j:Int),())) (pDat y) (ofT to584_0 ()) (ofT to584_1 (false,())) (fun j x r e=>by
  obtain⟨e1,e2⟩:=drop_get e (dflt tDat)
  rw[eq584 y _ _ _ x (by rw[Int.toNat_natCast];exact e2.symm),lt_nat e1,cond_true,ixc e1,add1 (by omega)]
  unfold pDat
  cases decide ((y.2.2.2.2.1.length:Int)=0)<;>cases mOne x.1 127<;>rfl) (by rw[eq584 y _ _ _ _ rfl,lt_natF (Nat.le_refl _)];rfl)
 obtain⟨b1,b2,b3,b4⟩:=all_out (ti:=ti584) (t0:=to584_0) (t1:=to584_1) (x:=(y.1,y.2.1,y.2.2.1,y.2.2.2.1,y.2.2.2.2.1,y.2.2.2.2.2.1,y.2.2.2.2.2.2.1,y.2.2.2.2.2.2.2.1,y.2.2.2.2.2.2.2.2.1,y.2.2.2.2.2.2.2.2.2.1,y.2.2.2.2.2.2.2.2.2.2.1,y.2.2.2.2.2.2.2.2.2.2.1,(y.2.2.2.2.2.2.2.2.2.2.1.length:Int),0,())) (u:=()) (v:=(false,())) r4
 unfold pSeg
 cases hA:List.all y.2.2.2.2.2.2.2.2.1 (pEle y fn)with
 |false=>
  rw[hA]at a2
  rw[eq58 y fn _ rfl _ rfl _ rfl,a1,a2,a4 hA]
  rfl
 |true=>
  rw[hA]at a2
  rw[eq58 y fn _ rfl _ (a3 hA).symm _ rfl,a1,a2]
  cases hB:List.all y.2.2.2.2.2.2.2.2.2.2.1 (pDat y)with
  |true=>rw[hB]at b2;simp only[ckO,cond_true];rw[b1,b2];rfl
  |false=>rw[hB]at b2;simp only[ckO,cond_true];rw[b1,b2,b4 hB];rfl
end Go.Proofs.Vd
