import Derived.Test.YtooeifemoidnoaaDoorVdS0
noncomputable section
namespace Go.Proofs.Vd
open Go.Ab Go.Ab.Lf
set_option maxRecDepth 100000
theorem mOfX_spec{op:Int}{f:denT tInf}: ∀ {rs:List (den tRow)},mOfX op rs=some f-> ∃ r,r∈rs/\(r.1<=op/\op<=r.2.1)/\f=mInf r
 | [],h=>by cases h
 |r::rs,h=>by
  have h:(match mOfG op () r rs with| .inl s=>foldR (mOfG op) (fun _=>none) rs s| .inr o=>o)=some f:=by
   have e:mOfX op (r::rs)=(match mOfG op () r rs with| .inl s=>foldR (mOfG op) (fun _=>none) rs s| .inr o=>o):=by
    show foldR (mOfG op) (fun _=>none) (r::rs) ()=_
    rw[foldR]
    cases mOfG op () r rs<;>rfl
   rw[<-e];exact h
  unfold mOfG at h
  by_cases h1:op<r.1
  ·rw[decide_eq_true h1]at h
   obtain⟨q,a,b⟩:=mOfX_spec (rs:=rs) h
   exact⟨q,List.mem_cons_of_mem _ a,b⟩
  ·by_cases h2:r.2.1<op
   ·rw[decide_eq_false h1,decide_eq_true h2]at h
    obtain⟨q,a,b⟩:=mOfX_spec (rs:=rs) h
    exact⟨q,List.mem_cons_of_mem _ a,b⟩
   ·rw[decide_eq_false h1,decide_eq_false h2]at h
    cases h
    exact⟨r,List.mem_cons_self,⟨Int.not_lt.1 h1,Int.not_lt.1 h2⟩,rfl⟩
theorem allB_mem{α:Type}{p:α->Bool}: ∀ {l:List α},allB p l=true-> ∀ x,x∈l->p x=true
 | [],_,x,hx=>by cases hx
 |a::l,h,x,hx=>by
  obtain⟨h1,h2⟩:=allB_cons h
  rcases List.mem_cons.1 hx with e|e
  ·subst e;exact h1
  ·exact allB_mem h2 x e
def npP(o f:Int):Bool:=
 bif decide (f=1)then decide (o=0)||(decide (o=5)||(decide (o=11)||(decide (o=15)||(decide (o=26)||decide (o=27)))))else
 bif decide (f=2)then decide (o=2)||(decide (o=3)||decide (o=4))else
 bif decide (f=3)then decide (o=12)||decide (o=13)else
 bif decide (f=4)then decide (o=14)else
 bif decide (f=5)then decide (o=16)||(decide (32<=o)&&decide (o<=36))else
 bif decide (f=6)then decide (o=17)else false
def plP(lo hi:Int):Bool:=(decide (hi<2)||decide (5<lo))&&(decide (hi<11)||decide (11<lo))
def rowP(r:den tRow):Bool:=
 (decide (0<=r.2.2.2.1)&&(decide ((mSig (mBy r)).1.length<=16)&&decide ((mSig (mBy r)).2.length<=16)))&&(((mSig (mBy r)).1.all kOk&&(mSig (mBy r)).2.all kOk)&&
  bif eqStr r.2.2.2.2 ⟨#[]⟩then allB (fun k:Nat=>npP (r.1+(k:Int)) r.2.2.1) (List.range (r.2.1 - r.1+1).toNat)else plP r.1 r.2.1)
theorem rows_ok:(allB rowP mSca&&allB rowP mVec)=true:=by kernel_rfl
theorem of_row{o:Int}(h:mIs o=true): ∃ r,rowP r=true/\(r.1<=o/\o<=r.2.1)/\mOf o=mInf r:=by
 unfold mIs at h
 unfold mOf
 cases hf:mOfO o with
 |none=>rw[hf]at h;cases h
 |some f=>
  have hr:=rows_ok
  rw[Bool.and_eq_true]at hr
  unfold mOfO at hf
  cases hc:decide (64768<=o)with
  |true=>
   rw[hc]at hf
   obtain⟨r,a,b,c⟩:=mOfX_spec hf
   exact⟨r,allB_mem hr.2 r a,b,c⟩
  |false=>
   rw[hc]at hf
   obtain⟨r,a,b,c⟩:=mOfX_spec hf
   exact⟨r,allB_mem hr.1 r a,b,c⟩
theorem of_not{o:Int}(h:mIs o=false):mOf o=(0,0,false,[],[],()):=by
 unfold mIs at h
 unfold mOf
 cases hf:mOfO o with
 |none=>rfl
 |some f=>rw[hf]at h;cases h
theorem of_lim(o:Int):0<=(mOf o).2.1/\(mOf o).2.2.2.1.length<=16/\(mOf o).2.2.2.2.1.length<=16/\(mOf o).2.2.2.1.all kOk=true/\(mOf o).2.2.2.2.1.all kOk=true:=by
 cases h:mIs o with
 |false=>rw[of_not h];decide
 |true=>
  obtain⟨r,a,_,c⟩:=of_row h
  rw[c]
  unfold rowP at a
  simp only[Bool.and_eq_true,decide_eq_true_eq]at a
  obtain⟨⟨a1,a2,a3⟩,⟨a4,a5⟩,_⟩:=a
  exact⟨a1,a2,a3,a4,a5⟩
theorem of_np{o:Int}(h:mIs o=true)(hp:(mOf o).2.2.1=false):npP o (mOf o).1=true:=by
 obtain⟨r,a,b,c⟩:=of_row h
 rw[c]at hp ⊢
 unfold rowP at a
 rw[Bool.and_eq_true,Bool.and_eq_true (_&&_)]at a
 have a:=a.2.2
 have hp:(!eqStr r.2.2.2.2 ⟨#[]⟩)=false:=hp
 have hq:eqStr r.2.2.2.2 ⟨#[]⟩=true:=by revert hp;cases eqStr r.2.2.2.2 ⟨#[]⟩<;>simp
 rw[hq,cond_true]at a
 have key: ∀ lo hi:Int,lo<=o->o<=hi->(o - lo).toNat<(hi - lo+1).toNat/\lo+(((o - lo).toNat:Nat):Int)=o:=fun lo hi _ _=>by omega
 obtain⟨k1,k2⟩:=key r.1 r.2.1 b.1 b.2
 have:=allB_mem a (o - r.1).toNat (List.mem_range.2 k1)
 rw[k2]at this
 exact this
theorem of_pl{o:Int}(hp:(mOf o).2.2.1=true): ¬ (2<=o/\o<=5)/\o≠11:=by
 cases h:mIs o with
 |false=>rw[of_not h]at hp;cases hp
 |true=>
  obtain⟨r,a,b,c⟩:=of_row h
  rw[c]at hp
  unfold rowP at a
  rw[Bool.and_eq_true,Bool.and_eq_true (_&&_)]at a
  have a:=a.2.2
  have hp:(!eqStr r.2.2.2.2 ⟨#[]⟩)=true:=hp
  have hq:eqStr r.2.2.2.2 ⟨#[]⟩=false:=by revert hp;cases eqStr r.2.2.2.2 ⟨#[]⟩<;>simp
  rw[hq,cond_false]at a
  unfold plP at a
  simp only[Bool.and_eq_true,Bool.or_eq_true,decide_eq_true_eq]at a
  have key: ∀ lo hi:Int,lo<=o->o<=hi->((hi<2∨5<lo)/\(hi<11∨11<lo))-> ¬ (2<=o/\o<=5)/\o≠11:=fun lo hi _ _ _=>by omega
  exact key r.1 r.2.1 b.1 b.2 a
end Go.Proofs.Vd

noncomputable section
namespace Go.Proofs.Vd
open Go.Ab Go.Ab.Lf
set_option maxRecDepth 100000
structure Inv(k m:Nat)(w:W3):Prop where
 ne:w.2.1≠[]
 pw:w.2.1.Pairwise (fun a b=>(a.2.1:Int)<=b.2.1)
 ht: ∀ b,b∈w.2.1->(0:Int)<=b.2.1/\(b.2.1:Int)<=(w.1.length:Int)
 io: ∀ b,b∈w.2.1->b.2.2.1.length<=32/\b.2.2.2.1.length<=32
 sk:w.1.length<=k
 sb:w.2.1.length<=m
theorem mTop_snoc(l:List (den tBlk))(B:den tBlk):mTop (l++[B])=B:=by
 unfold mTop
 simp
theorem snoc_of{l:List (den tBlk)}(h:l≠[]): ∃ r B,l=r++[B]:=⟨l.dropLast,l.getLast h,(List.dropLast_concat_getLast h).symm⟩
theorem cut_key{a:Int}{n:Nat}(h1:0<=a)(h2:a<=(n:Int))(h3: ¬ (n:Int)=a):a<=((n - 1:Nat):Int):=by omega
theorem tk_key{a:Int}{n:Nat}(h1:0<=a)(h2:a<=(n:Int)):((min a.toNat n:Nat):Int)=a:=by omega
section
variable {k m:Nat}{w:W3}
theorem Inv.mem(h:Inv k m w):mTop w.2.1∈w.2.1:=by
 obtain⟨r,B,e⟩:=snoc_of h.ne
 rw[e,mTop_snoc]
 simp
theorem Inv.top(h:Inv k m w): ∀ b,b∈w.2.1->(b.2.1:Int)<=(mTop w.2.1).2.1:=by
 obtain⟨r,B,e⟩:=snoc_of h.ne
 have hp:=h.pw
 rw[e]at hp ⊢
 rw[mTop_snoc]
 intro b hb
 rw[List.pairwise_append]at hp
 rcases List.mem_append.1 hb with hb|hb
 ·exact hp.2.2 b hb B (by simp)
 ·have:b=B:=by simpa using hb
  rw[this]
  exact Int.le_refl _
theorem Inv.len(h:Inv k m w):0<w.2.1.length:=List.length_pos_iff.2 h.ne
theorem Inv.cW(h:Inv k m w)(hk:k<=1099511627776)(hm:m<=1099511627776):cW w=true:=by
 obtain⟨h1,h2⟩:=h.ht _ h.mem
 have h3:=h.len
 have h4:=h.sk
 have h5:=h.sb
 unfold Vd.cW okW
 simp only[Bool.and_eq_true,decide_eq_true_eq]
 exact⟨⟨h3,by omega,by omega⟩,h1,h2⟩
theorem Inv.cT(h:Inv k m w)(hk:k<=1099511627776)(hm:m<=1099511627776){L:List Int}(hL:L.length<=1099511627776):cT w L=true:=by
 have:=h.cW hk hm
 unfold Vd.cW at this
 unfold Vd.cT
 rw[this,decide_eq_true hL]
 rfl
theorem Inv.bad(h:Inv k m w)(b:Bool):Inv k m (w.1,w.2.1,b):=⟨h.ne,h.pw,h.ht,h.io,h.sk,h.sb⟩
theorem Inv.cut(h:Inv k m w){s:List Int}(h1:((mTop w.2.1).2.1:Int)<=(s.length:Int))(h2:s.length<=w.1.length)(b:Bool):Inv k m (s,w.2.1,b):=
 ⟨h.ne,h.pw,fun c hc=>⟨(h.ht c hc).1,Int.le_trans (h.top c hc) h1⟩,h.io,Nat.le_trans h2 h.sk,h.sb⟩
theorem Inv.take(h:Inv k m w)(t:Int):Inv k m (pTake w t):=by
 obtain⟨h1,h2⟩:=h.ht _ h.mem
 unfold pTake mTake
 cases hh:decide ((w.1.length:Int)=(mTop w.2.1).2.1)with
 |true=>exact h.bad _
 |false=>
  have hne: ¬ (w.1.length:Int)=(mTop w.2.1).2.1:=of_decide_eq_false hh
  have e:(w.1.take (w.1.length - 1)).length=w.1.length - 1:=by rw[List.length_take];omega
  exact h.cut (by show _<=((w.1.take (w.1.length - 1)).length:Int);rw[e];exact cut_key h1 h2 hne) (by show(w.1.take (w.1.length - 1)).length<=_;rw[e];omega) _
theorem Inv.tksN(L:List Int): ∀ (n:Nat) {w:W3},Inv k m w->Inv k m ((mTks L w.2.1 n w.1 w.2.2).1,w.2.1,(mTks L w.2.1 n w.1 w.2.2).2)
 |0,_,h=>h
 |n+1,w,h=>Inv.tksN L n (h.take (L.getD n (dflt i64)))
theorem Inv.tks(h:Inv k m w)(L:List Int):Inv k m (pTks w L):=Inv.tksN L L.length h
theorem Inv.giv(h:Inv k m w)(L:List Int):Inv (k+L.length) m (pGiv w L):=by
 have:=h.sk
 exact⟨h.ne,h.pw,fun b hb=>⟨(h.ht b hb).1,Int.le_trans (h.ht b hb).2 (by show(w.1.length:Int)<=((w.1++L).length:Int);rw[List.length_append];omega)⟩,h.io,by show(w.1++L).length<=_;rw[List.length_append];omega,h.sb⟩
theorem Inv.le(h:Inv k m w){k' m':Nat}(hk:k<=k')(hm:m<=m'):Inv k' m' w:=⟨h.ne,h.pw,h.ht,h.io,Nat.le_trans h.sk hk,Nat.le_trans h.sb hm⟩
theorem Inv.opn(h:Inv k m w)(op:Int){i o:List Int}(hi:i.length<=32)(ho:o.length<=32):Inv k (m+1) (w.1,mOpen w.1 w.2.1 op i o,w.2.2):=by
 have:=h.sb
 refine⟨by unfold mOpen;simp,?_,?_,?_,h.sk,by show(mOpen _ _ _ _ _).length<=_;unfold mOpen;simp;exact this⟩
 ·show(mOpen _ _ _ _ _).Pairwise _
  unfold mOpen
  rw[List.pairwise_append]
  refine⟨h.pw,List.pairwise_singleton _ _,fun a ha b hb=>?_⟩
  have:b=(op,(w.1.length:Int),i,o,false,mLive w.2.1):=by simpa using hb
  rw[this]
  exact(h.ht a ha).2
 ·intro b hb
  unfold mOpen at hb
  rcases List.mem_append.1 hb with hb|hb
  ·exact h.ht b hb
  ·have:b=(op,(w.1.length:Int),i,o,false,mLive w.2.1):=by simpa using hb
   rw[this]
   exact⟨Int.natCast_nonneg _,Int.le_refl _⟩
 ·intro b hb
  unfold mOpen at hb
  rcases List.mem_append.1 hb with hb|hb
  ·exact h.io b hb
  ·have:b=(op,(w.1.length:Int),i,o,false,mLive w.2.1):=by simpa using hb
   rw[this]
   exact⟨hi,ho⟩
theorem set_snoc(l:List (den tBlk))(B C:den tBlk):(l++[B]).set ((l++[B]).length - 1) C=l++[C]:=by
 simp
theorem Inv.die(h:Inv k m w):Inv k m (pDie w):=by
 obtain⟨h1,h2⟩:=h.ht _ h.mem
 obtain⟨s,bl,bad⟩:=w
 obtain⟨r,B,e⟩:=snoc_of h.ne
 have e:bl=r++[B]:=e
 subst e
 have ht:=h.top
 have hp:=h.pw
 have hi:=h.io
 have hh:=h.ht
 have eT:mTop (r++[B])=B:=mTop_snoc r B
 have ht: ∀ b,b∈r++[B]->(b.2.1:Int)<=B.2.1:=fun b hb=>by have:=ht b hb;rw[show(s,r++[B],bad).2.1=r++[B]from rfl,eT]at this;exact this
 have h1:(0:Int)<=B.2.1:=by rw[show(s,r++[B],bad).2.1=r++[B]from rfl,eT]at h1;exact h1
 have h2:(B.2.1:Int)<=(s.length:Int):=by rw[show(s,r++[B],bad).2.1=r++[B]from rfl,eT]at h2;exact h2
 have hl:((s.take B.2.1.toNat).length:Int)=B.2.1:=by rw[List.length_take];exact tk_key h1 h2
 have eD:pDie (s,r++[B],bad)=(s.take B.2.1.toNat,r++[mDead B],bad):=by
  show(s.take (mTop (r++[B])).2.1.toNat,(r++[B]).set ((r++[B]).length - 1) (mDead (mTop (r++[B]))),bad)=_
  rw[eT,set_snoc]
 rw[eD]
 have hm: ∀ b,b∈r++[mDead B]-> ∃ c,c∈r++[B]/\(b.2.1:Int)=c.2.1/\b.2.2.1=c.2.2.1/\b.2.2.2.1=c.2.2.2.1:=by
  intro b hb
  rcases List.mem_append.1 hb with hb|hb
  ·exact⟨b,List.mem_append_left _ hb,rfl,rfl,rfl⟩
  ·have:b=mDead B:=by simpa using hb
   rw[this]
   exact⟨B,by simp,rfl,rfl,rfl⟩
 refine⟨by simp,?_,?_,?_,?_,?_⟩
 ·show(r++[mDead B]).Pairwise _
  have hp:(r++[B]).Pairwise _:=hp
  rw[List.pairwise_append]at hp ⊢
  refine⟨hp.1,List.pairwise_singleton _ _,fun a ha b hb=>?_⟩
  have:b=mDead B:=by simpa using hb
  rw[this]
  exact hp.2.2 a ha B (by simp)
 ·intro b hb
  obtain⟨c,c1,c2,_,_⟩:=hm b hb
  rw[c2]
  exact⟨(hh c c1).1,by show(c.2.1:Int)<=((s.take B.2.1.toNat).length:Int);rw[hl];exact ht c c1⟩
 ·intro b hb
  obtain⟨c,c1,_,c3,c4⟩:=hm b hb
  rw[c3,c4]
  exact hi c c1
 ·have:=h.sk
  show(s.take _).length<=_
  rw[List.length_take]
  have this:s.length<=k:=this
  omega
 ·have:=h.sb
  simpa using this
end
theorem tks_len(L:List Int)(bl:List (den tBlk)): ∀ (n:Nat) (s:List Int) (b:Bool),(mTks L bl n s b).1.length<=s.length
 |0,_,_=>Nat.le_refl _
 |n+1,s,b=>by
  refine Nat.le_trans (tks_len L bl n _ _) ?_
  unfold mTake
  cases decide ((s.length:Int)=(mTop bl).2.1)with
  |true=>exact Nat.le_refl _
  |false=>show(s.take _).length<=_;rw[List.length_take];omega
end Go.Proofs.Vd

noncomputable section
namespace Go.Proofs.Vd
open Go.Ab Go.Ab.Lf
set_option maxRecDepth 100000
section
variable {k m:Nat}{w:W3}
theorem Inv.sub(h:Inv k m w)(hm:m<=1073741824):subW .i64 (w.2.1.length:Int) 1=((w.2.1.length - 1:Nat):Int):=sub1 h.len (by have:=h.sb;omega)
theorem Inv.ix(h:Inv k m w):ixOk ((w.2.1.length - 1:Nat):Int) (w.2.1.length:Int)=true:=ix_nat (by have:=h.len;omega)
end
theorem ixc{j n:Nat}(h:j<n):ixOk (j:Int) (n:Int)=true:=ix_nat h
theorem cut_nat{j n:Nat}(h:j<=n):cutOk 0 (j:Int) (n:Int)=true:=by
 unfold cutOk
 simp only[Bool.and_eq_true,decide_eq_true_eq]
 omega
def pClS(w:W3):List Int×Bool:=mTks (mTop w.2.1).2.2.2.1 w.2.1 (mTop w.2.1).2.2.2.1.length w.1 w.2.2
def pClB(w:W3):Bool:=(pClS w).2|| !decide (((pClS w).1.length:Int)=(mTop w.2.1).2.1)
def pCut(w:W3):List (den tBlk):=w.2.1.take (w.2.1.length - 1)
def pClose(w:W3)(n:Int):W3:=bif pClB w then((pClS w).1,pCut w++[mTop w.2.1],pClB w)else
 bif decide (n=5)then((pClS w).1++(mTop w.2.1).2.2.1,mOpen (pClS w).1 (pCut w) 5 (mTop w.2.1).2.2.1 (mTop w.2.1).2.2.2.1,pClB w)else
 ((pClS w).1++(mTop w.2.1).2.2.2.1,pCut w,pClB w|| !(bif !decide ((mTop w.2.1).1=4)then true else decide ((mTop w.2.1).2.2.1=(mTop w.2.1).2.2.2.1)))
theorem pClS_len(w:W3):(pClS w).1.length<=w.1.length:=tks_len _ _ _ _ _
theorem pCut_len(w:W3):(pCut w).length<=w.2.1.length:=by unfold pCut;rw[List.length_take];omega
theorem sem75{k m:Nat}{w:W3}(h:Inv k m w)(hk:k<=1073741824)(hm:m<=1073741824)(y:denT tM)(lo:List Int)(n:Int):(t75 (wkN y lo w n)).val=some (ofT to75 (wk y lo (pClose w n))):=by
 have hs:=h.sub hm
 have hio:=h.io _ h.mem
 have hsk:=h.sk
 have hsb:=h.sb
 have l1:=pClS_len w
 have l2:=pCut_len w
 have eB:mTop w.2.1=w.2.1.getD (subW .i64 (w.2.1.length:Int) 1).toNat (dflt tBlk):=by rw[hs,Int.toNat_natCast];rfl
 have eC:pCut w=(w.2.1.drop 0).take ((subW .i64 (w.2.1.length:Int) 1).toNat - 0):=by rw[hs,Int.toNat_natCast];rfl
 rw[eq75 y lo w n (mTop w.2.1) eB (pCut w) eC (pClS w) rfl (pClB w) rfl,hs,h.ix,cut_nat (Nat.sub_le _ _)]
 have c1:(decide ((mTop w.2.1).2.2.2.1.length<=1099511627776)&&okW w.1 w.2.1)=true:=h.cT (by omega) (by omega) (by omega)
 have c2:roomy 72 ((pCut w).length+1)=true:=by rw[roomy_iff];constructor<;>omega
 have c3:decide ((pCut w).length+1<=549755813888)=true:=decide_eq_true (by omega)
 have c4:decide ((pClS w).1.length+(mTop w.2.1).2.2.1.length<=1099511627776)=true:=decide_eq_true (by omega)
 have c5:decide ((pClS w).1.length+(mTop w.2.1).2.2.2.1.length<=1099511627776)=true:=decide_eq_true (by omega)
 have c6:decide ((mTop w.2.1).2.2.1.length<=1099511627776)=true:=decide_eq_true (by omega)
 rw[c1,c2,c3,c4,c5,c6]
 simp only[ckO,cond_true,app_eq]
 unfold pClose
 cases pClB w with
 |true=>rfl
 |false=>
  cases decide (n=5)with
  |true=>rfl
  |false=>cases decide ((mTop w.2.1).1=4)<;>rfl
def pAgF(L:List Int)(bl:List (den tBlk)):Nat->List Int->List Int->Bool->List Int×List Int×Bool
 |0,s,was,bad=>(s,was,bad)
 |n+1,s,was,bad=>pAgF L bl n (mTake s bl bad (L.getD n (dflt i64))).2.1 (was++[(mTake s bl bad (L.getD n (dflt i64))).1]) (mTake s bl bad (L.getD n (dflt i64))).2.2
def pAgain(w:W3)(L:List Int):W3:=let z:=pAgF L w.2.1 L.length w.1 [] w.2.2
 (z.1++z.2.1.reverse,w.2.1,z.2.2)
theorem pAgF_len(L:List Int)(bl:List (den tBlk)): ∀ (n:Nat) (s was:List Int) (b:Bool),(pAgF L bl n s was b).2.1.length=was.length+n
 |0,_,_,_=>rfl
 |n+1,s,was,b=>by
  show(pAgF L bl n _ _ _).2.1.length=_
  rw[pAgF_len L bl n]
  simp only[List.length_append,List.length_cons,List.length_nil]
  omega
theorem Inv.agF{k m:Nat}(L:List Int): ∀ (n:Nat) (was:List Int) {w:W3},Inv k m w->Inv k m ((pAgF L w.2.1 n w.1 was w.2.2).1,w.2.1,(pAgF L w.2.1 n w.1 was w.2.2).2.2)
 |0,_,_,h=>h
 |n+1,was,w,h=>Inv.agF L n (was++[(mTake w.1 w.2.1 w.2.2 (L.getD n (dflt i64))).1]) (h.take (L.getD n (dflt i64)))
theorem Inv.again{k m:Nat}{w:W3}(h:Inv k m w)(L:List Int):Inv (k+L.length) m (pAgain w L):=by
 have h1:=(h.agF L L.length []).giv (pAgF L w.2.1 L.length w.1 [] w.2.2).2.1.reverse
 refine h1.le ?_ (Nat.le_refl _)
 rw[List.length_reverse,pAgF_len]
 simp
theorem rch850{k m:Nat}(y:denT tM)(lo L:List Int)(hk:k<=1073741824)(hm:m<=1073741824)(hL:L.length<=1073741824): ∀ (n:Nat) {w:W3} (was:List Int),n<=L.length->was.length+n<=L.length->Inv k m w->
 Rch f850 (ofT ti850 (wkA y lo w L was ((n:Int) - 1))) 0 (ofT to850_0 (wkL y lo ((pAgF L w.2.1 n w.1 was w.2.2).1,w.2.1,(pAgF L w.2.1 n w.1 was w.2.2).2.2) (pAgF L w.2.1 n w.1 was w.2.2).2.1))
 |0,w,was,_,_,_=>by
  refine .last ?_
  rw[eq850,decide_eq_false (by omega)]
  rfl
 |n+1,w,was,hn,hw,h=>by
  have e:((n+1:Nat):Int) - 1=(n:Int):=by omega
  rw[e]
  have es:subW .i64 (n:Int) 1=(n:Int) - 1:=by
   show wrapF .i64 ((n:Int) - 1)=_
   exact wrap_i64 (by omega) (by omega)
  refine .more ?_ (rch850 y lo L hk hm hL n (was++[(mTake w.1 w.2.1 w.2.2 (L.getD n (dflt i64))).1]) (by omega) (by simp only[List.length_append,List.length_cons,List.length_nil];omega) (h.take (L.getD n (dflt i64))))
  have c:okW w.1 w.2.1=true:=h.cW (by omega) (by omega)
  have r:roomy 8 (was.length+1)=true:=roomy_le (by omega) (by omega)
  rw[eq850,decide_eq_true (show(0:Int)<=(n:Int) by omega),ixc (show n<L.length by omega),c,r,Int.toNat_natCast,es,app_eq]
  rfl
theorem revK_eq{β:Type}(K:List Int->Option β): ∀ (f:Nat) (a mid b:List Int),a.length=b.length->mid.length<2*f->a.length+mid.length+b.length<=1073741824->revK K f a.length (((a.length+mid.length:Nat):Int) - 1) (a++mid++b)=K (a++mid.reverse++b)
 |0,a,mid,b,_,h,_=>by omega
 |f+1,a,mid,b,hab,h,hs=>by
  by_cases h2:mid.length<2
  ·have e:decide ((a.length:Int)<(((a.length+mid.length:Nat):Int) - 1))=false:=decide_eq_false (by omega)
   have er:mid.reverse=mid:=by
    match mid,h2 with
    | [],_=>rfl
    | [x],_=>rfl
   unfold revK
   rw[e,er]
   rfl
  ·match mid with
   | []=>simp at h2
   |c::t=>
    obtain⟨m',d,rfl⟩: ∃ m' d,t=m'++[d]:=by
     have:t≠[]:=fun e=>by subst e;simp at h2
     exact⟨t.dropLast,t.getLast this,(List.dropLast_concat_getLast this).symm⟩
    simp only[List.length_cons,List.length_append,List.length_nil]at h hs
    have el:(a++(c::(m'++[d]))++b).length=a.length+(m'.length+2)+b.length:=by simp;omega
    have ej:(((a.length+(c::(m'++[d])).length:Nat):Int) - 1)=((a.length+m'.length+1:Nat):Int):=by simp;omega
    have gi:(a++(c::(m'++[d]))++b).getD a.length (dflt i64)=c:=by
     rw[List.getD_eq_getElem?_getD,List.append_assoc,List.getElem?_append_right (Nat.le_refl _)]
     simp
    have gj:(a++(c::(m'++[d]))++b).getD (a.length+m'.length+1) (dflt i64)=d:=by
     have e:a++(c::(m'++[d]))++b=(a++(c::m'))++(d::b):=by simp
     rw[e,List.getD_eq_getElem?_getD,List.getElem?_append_right (by simp;omega)]
     have:a.length+m'.length+1 - (a++(c::m')).length=0:=by simp;omega
     rw[this]
     rfl
    have s1:(a++(c::(m'++[d]))++b).set a.length d=a++(d::(m'++[d]))++b:=by
     rw[List.append_assoc,List.set_append_right _ _ (Nat.le_refl _)]
     simp
    have s2:(a++(d::(m'++[d]))++b).set (a.length+m'.length+1) c=(a++[d])++m'++(c::b):=by
     have e:a++(d::(m'++[d]))++b=(a++(d::m'))++(d::b):=by simp
     rw[e,List.set_append_right _ _ (by simp;omega)]
     have:a.length+m'.length+1 - (a++(d::m')).length=0:=by simp;omega
     rw[this]
     simp
    have es:subW .i64 ((a.length+m'.length+1:Nat):Int) 1=(((a++[d]).length+m'.length:Nat):Int) - 1:=by
     rw[sub1 (by omega) (by omega)]
     simp
     omega
    have ih:=revK_eq K f (a++[d]) m' (c::b) (by simp;omega) (by omega) (by simp;omega)
    have sl:((a++(c::(m'++[d]))++b).set a.length d).length=a.length+(m'.length+2)+b.length:=by rw[List.length_set,el]
    rw[ej]
    unfold revK
    rw[decide_eq_true (by omega),Int.toNat_natCast,gj,gi,sl,el,s1,s2,ixc (show a.length+m'.length+1<a.length+(m'.length+2)+b.length by omega),ixc (show a.length<a.length+(m'.length+2)+b.length by omega),es]
    simp only[ckO,cond_true]
    have e0:(a++[d]).length=a.length+1:=by simp
    rw[e0]at ih
    rw[e0,ih]
    simp
theorem sem85{k m:Nat}{w:W3}(h:Inv k m w)(hk:k<=1073741824)(hm:m<=1073741824)(y:denT tM)(lo L:List Int)(hL:L.length<=32):(t85 (wkL y lo w L)).val=some (ofT to85 (wk y lo (pAgain w L))):=by
 have es:subW .i64 (L.length:Int) 1=(L.length:Int) - 1:=by
  show wrapF .i64 ((L.length:Int) - 1)=_
  exact wrap_i64 (by omega) (by omega)
 have r:=rch850 y lo L hk hm (by omega) L.length [] (Nat.le_refl _) (by simp) h
 rw[<-es]at r
 obtain⟨a,b⟩:=l1_eq r
 rw[eq85 y lo w L _ b.symm,a]
 have hl:=pAgF_len L w.2.1 L.length w.1 [] w.2.2
 have hi:=(h.agF L L.length []).sk
 have e2:subW .i64 ((pAgF L w.2.1 L.length w.1 [] w.2.2).2.1.length:Int) 1=((([]:List Int).length+(pAgF L w.2.1 L.length w.1 [] w.2.2).2.1.length:Nat):Int) - 1:=by
  rw[hl]
  simp only[List.length_nil,Nat.zero_add]
  exact es
 have e3:=revK_eq (fun x=>ckO (decide ((pAgF L w.2.1 L.length w.1 [] w.2.2).1.length+x.length<=1099511627776)) (some (ofT to85 (wk y lo ((pAgF L w.2.1 L.length w.1 [] w.2.2).1++x,w.2.1,(pAgF L w.2.1 L.length w.1 [] w.2.2).2.2))))) 18 [] (pAgF L w.2.1 L.length w.1 [] w.2.2).2.1 [] rfl (by rw[hl];simp;omega) (by rw[hl];simp;omega)
 rw[<-e2]at e3
 simp only[List.append_nil,List.nil_append]at e3
 refine Eq.trans e3 ?_
 have c:decide ((pAgF L w.2.1 L.length w.1 [] w.2.2).1.length+(pAgF L w.2.1 L.length w.1 [] w.2.2).2.1.reverse.length<=1099511627776)=true:=by
  refine decide_eq_true ?_
  rw[List.length_reverse,hl]
  have hi:(pAgF L w.2.1 L.length w.1 [] w.2.2).1.length<=k:=hi
  simp
  omega
 rw[c]
 rfl
end Go.Proofs.Vd

noncomputable section
namespace Go.Proofs.Vd
open Go.Ab Go.Ab.Lf
set_option maxRecDepth 100000
theorem ne_of{a b c:Int}(h:a=b)(k:b≠c): ¬ a=c:=fun e=>k (h▸e)
def pVar(y:denT tM)(lo:List Int)(w:W3)(i:den tI):W3:=
 let gl:=y.2.2.2.2.2.1
 let ok:Bool:=bif (bif decide (i.1<=34)then decide (i.2.1<(lo.length:Int))else false)then true else bif (bif decide (34<i.1)then decide (i.2.1<(gl.length:Int))else false)then(bif decide (i.1=35)then true else(gl.getD i.2.1.toNat (dflt tGlo)).2.1)else false
 let t:Int:=bif (bif decide (i.1<=34)then decide (i.2.1<(lo.length:Int))else false)then lo.getD i.2.1.toNat (dflt i64)else bif (bif decide (34<i.1)then decide (i.2.1<(gl.length:Int))else false)then(gl.getD i.2.1.toNat (dflt tGlo)).1 else 0
 let v:=bif (bif !decide (i.1=32)then !decide (i.1=35)else false)then pTake (pMst w ok) t else pMst w ok
 bif (bif !decide (i.1=33)then !decide (i.1=36)else false)then pGiv v [t]else v
theorem Inv.mst{k m:Nat}{w:W3}(h:Inv k m w)(c:Bool):Inv k m (pMst w c):=h.bad _
theorem Inv.lab{k m:Nat}{w:W3}(h:Inv k m w)(l:Int):Inv k m (pLab w l):=h.bad _
theorem Inv.cG{k m:Nat}{w:W3}(h:Inv k m w)(hk:k<=1073741824){L:List Int}(hL:L.length<=1073741824):cG w L=true:=by
 have:=h.sk
 unfold Vd.cG
 exact decide_eq_true (by omega)
theorem Inv.var{k m:Nat}{w:W3}(h:Inv k m w)(y:denT tM)(lo:List Int)(i:den tI):Inv (k+1) m (pVar y lo w i):=by
 unfold pVar
 dsimp only
 generalize (bif (bif decide (i.1<=34)then decide (i.2.1<(lo.length:Int))else false)then true else bif (bif decide (34<i.1)then decide (i.2.1<(y.2.2.2.2.2.1.length:Int))else false)then(bif decide (i.1=35)then true else(y.2.2.2.2.2.1.getD i.2.1.toNat (dflt tGlo)).2.1)else false)=ok
 generalize (bif (bif decide (i.1<=34)then decide (i.2.1<(lo.length:Int))else false)then lo.getD i.2.1.toNat (dflt i64)else bif (bif decide (34<i.1)then decide (i.2.1<(y.2.2.2.2.2.1.length:Int))else false)then(y.2.2.2.2.2.1.getD i.2.1.toNat (dflt tGlo)).1 else 0)=t
 have h1:Inv k m (bif (bif !decide (i.1=32)then !decide (i.1=35)else false)then pTake (pMst w ok) t else pMst w ok):=by
  cases(bif !decide (i.1=32)then !decide (i.1=35)else false)
  ·exact h.mst _
  ·exact(h.mst _).take _
 cases(bif !decide (i.1=33)then !decide (i.1=36)else false)
 ·exact h1.le (Nat.le_succ _) (Nat.le_refl _)
 ·exact h1.giv [t]
theorem sem86{k m:Nat}{w:W3}(h:Inv k m w)(hk:k<=1073741824)(hm:m<=1073741824)(y:denT tM)(lo:List Int)(i:den tI)(ha:(0:Int)<=i.2.1):(t86 (wkI y lo w i)).val=some (ofT to86 (wk y lo (pVar y lo w i))):=by
 rw[eq86]
 dsimp only
 unfold pVar
 dsimp only
 have fin: ∀ (t:Int) (ok:Bool),(bif (bif !decide (i.1=32)then !decide (i.1=35)else false)then ckO (cW w) (bif (bif !decide (i.1=33)then !decide (i.1=36)else false)then ckO (cG (pTake (pMst w ok) t) [t]) (some (ofT to86 (wk y lo (pGiv (pTake (pMst w ok) t) [t]))))else some (ofT to86 (wk y lo (pTake (pMst w ok) t))))
  else bif (bif !decide (i.1=33)then !decide (i.1=36)else false)then ckO (cG w [t]) (some (ofT to86 (wk y lo (pGiv (pMst w ok) [t]))))else some (ofT to86 (wk y lo (pMst w ok))))=
  some (ofT to86 (wk y lo (bif (bif !decide (i.1=33)then !decide (i.1=36)else false)then pGiv (bif (bif !decide (i.1=32)then !decide (i.1=35)else false)then pTake (pMst w ok) t else pMst w ok) [t]else(bif (bif !decide (i.1=32)then !decide (i.1=35)else false)then pTake (pMst w ok) t else pMst w ok)))):=by
  intro t ok
  rw[h.cW (by omega) (by omega),((h.mst ok).take t).cG hk (L:=[t]) (by simp),h.cG hk (L:=[t]) (by simp)]
  generalize (bif !decide (i.1=32)then !decide (i.1=35)else false)=c1
  generalize (bif !decide (i.1=33)then !decide (i.1=36)else false)=c2
  cases c1<;>cases c2<;>rfl
 simp only[fin]
 by_cases h1:i.1<=(34:Int)
 ·have h2: ¬ (34:Int)<i.1:=Int.not_lt.2 h1
  rw[decide_eq_true h1,decide_eq_false h2]
  simp only[cond_true,cond_false]
  by_cases h3:i.2.1<(lo.length:Int)
  ·have hx:ixOk i.2.1 (lo.length:Int)=true:=ixOk_iff.2 ⟨ha,h3⟩
   rw[decide_eq_true h3,hx]
   rfl
  ·rw[decide_eq_false h3]
   rfl
 ·have h2:(34:Int)<i.1:=Int.not_le.1 h1
  rw[decide_eq_true h2,decide_eq_false h1]
  simp only[cond_true,cond_false]
  by_cases h3:i.2.1<(y.2.2.2.2.2.1.length:Int)
  ·have hx:ixOk i.2.1 (y.2.2.2.2.2.1.length:Int)=true:=ixOk_iff.2 ⟨ha,h3⟩
   rw[decide_eq_true h3,hx]
   cases decide (i.1=35)<;>rfl
  ·rw[decide_eq_false h3]
   rfl
theorem mLab_len{k m:Nat}{w:W3}(h:Inv k m w)(hm:m<=1073741824){l:Int}(hl:0<=l):(mLab w.2.1 l).length<=32:=by
 unfold mLab
 cases hd:decide ((w.2.1.length:Int)<=l)with
 |true=>exact Nat.zero_le _
 |false=>
  have hd: ¬ (w.2.1.length:Int)<=l:=of_decide_eq_false hd
  have hx:=labIx hl hd (by have:=h.sb;omega)
  rw[ixOk_iff]at hx
  have key: ∀ (a:Int) (n:Nat),0<=a->a<Int.ofNat n->a.toNat<n:=fun a n h1 h2=>by have e:Int.ofNat n=(n:Int):=rfl;omega
  have hj:=key _ _ hx.1 hx.2
  have hmem:w.2.1.getD (subW .i64 (subW .i64 (Int.ofNat w.2.1.length) 1) l).toNat (dflt tBlk)∈w.2.1:=by
   rw[List.getD_eq_getElem?_getD,List.getElem?_eq_getElem hj]
   exact List.getElem_mem hj
  obtain⟨a,b⟩:=h.io _ hmem
  simp only[cond_false]
  cases decide ((w.2.1.getD (subW .i64 (subW .i64 (Int.ofNat w.2.1.length) 1) l).toNat (dflt tBlk)).1=3)with
  |true=>exact a
  |false=>exact b
theorem Inv.cL{k m:Nat}{w:W3}(h:Inv k m w)(hm:m<=1073741824){l:Int}(hl:0<=l):cL w l=true:=by
 have:=h.sb
 unfold Vd.cL
 rw[decide_eq_true hl,decide_eq_true (by omega)]
 rfl
def pJ(last:List Int)(w:W3)(l:Int):W3:=pAgain (pMst (pLab w l) (decide (((mLab w.2.1 l).length:Int)=(last.length:Int)))) (mLab w.2.1 l)
theorem rch771(y:denT tM)(lo last L:List Int)(m K:Nat)(hK:K<=1073741824)(hm:m<=1073741824)(h0: ∀ l,l∈L->(0:Int)<=l)(hL:L.length<=1073741824){k:Nat}{w:W3}(h:Inv k m w)(hk:k+32*L.length<=K):
 Rch f771 (ofT ti771 (wkJ y lo w last L (L.length:Int) 0)) 0 (ofT to771_0 (wkL y lo (L.foldl (pJ last) w) last))/\Inv (k+32*L.length) m (L.foldl (pJ last) w):=by
 constructor
 ·have:=rng (f:=f771) (l:=L) (fun(s:W3) j=>ofT ti771 (wkJ y lo s last L (L.length:Int) (j:Int))) (fun s x=>.inl (pJ last s x)) (fun s=>(0,ofT to771_0 (wkL y lo s last))) (fun s r=>(∃ k,Inv k m s/\k+32*r.length<=K)/\ ∀ l,l∈r->(0:Int)<=l) (fun s j x r e hi=>by
   obtain⟨⟨k,i1,i2⟩,i3⟩:=hi
   obtain⟨e1,e2⟩:=drop_get e (dflt i64)
   simp only[List.length_cons]at i2
   have hx:=i3 x List.mem_cons_self
   have hl:=mLab_len i1 hm hx
   have i4:=(i1.lab x).mst (decide (((mLab s.2.1 x).length:Int)=(last.length:Int)))
   have s85:=sem_of (sem85 i4 (by omega) hm y lo (mLab s.2.1 x) hl)
   refine⟨?_,fun s' e=>?_⟩
   ·rw[eq771 y lo s last L _ _ x (by rw[Int.toNat_natCast];exact e2.symm) _ rfl _ s85.2.symm,lt_nat e1,cond_true,ixc e1,i1.cL hm hx,show k85 (wkL y lo (pMst (pLab s x) (decide (((mLab s.2.1 x).length:Int)=(last.length:Int)))) (mLab s.2.1 x))=true from s85.1,add1 (by omega)]
    rfl
   ·cases e
    exact⟨⟨k+32,(i4.again (mLab s.2.1 x)).le (by omega) (Nat.le_refl _),by omega⟩,fun l hl=>i3 l (List.mem_cons_of_mem _ hl)⟩) (fun s j e hj hi=>by
   have:j=L.length:=by have:=List.drop_eq_nil_iff.1 e;omega
   subst this
   rw[eq771 y lo s last L _ _ _ rfl _ rfl _ rfl,lt_natF (Nat.le_refl _)]
   rfl) L 0 w rfl (by omega) ⟨⟨k,h,hk⟩,h0⟩
  rw[foldX_inl]at this
  exact this
 ·clear hL hk
  induction L generalizing k w with
  |nil=>exact h.le (by simp) (Nat.le_refl _)
  |cons x r ih=>
   have hx:=h0 x List.mem_cons_self
   have hl:=mLab_len h hm hx
   have i4:=(h.lab x).mst (decide (((mLab w.2.1 x).length:Int)=(last.length:Int)))
   have:=ih (fun l hl=>h0 l (List.mem_cons_of_mem _ hl)) ((i4.again (mLab w.2.1 x)).le (k':=k+32) (by omega) (Nat.le_refl _))
   exact this.le (by simp only[List.length_cons];omega) (Nat.le_refl _)
def pTab(w:W3)(i:den tI):W3:=i.2.2.2.2.2.foldl (pJ (mLab w.2.1 i.2.1)) (pLab (pTake w 127) i.2.1)
def pJump(y:denT tM)(lo:List Int)(w:W3)(i:den tI):W3:=
 let T:=mLab w.2.1 i.2.1
 let u:=pLab (pTake w 127) i.2.1
 bif decide (i.1=0)then pDie w else
 bif decide (i.1=12)then pDie (pTks (pLab w i.2.1) T)else
 bif decide (i.1=13)then pGiv (pTks u T) T else
 bif decide (i.1=14)then pDie (pTks (pTab w i) T)else
 bif decide (i.1=15)then pDie (pTks w (w.2.1.getD 0 (dflt tBlk)).2.2.2.1)else pVar y lo w i
def BkA(a:Int):Prop:=a= -64∨a= -1∨a= -2∨a= -5∨(0:Int)<=a
structure IOk(i:den tI):Prop where
 a: ∀ f,f=(mOf i.1).1->(f=3∨f=4∨f=5∨f=6)->(0:Int)<=i.2.1/\(i.2.1:Int)<4294967296
 l:(mOf i.1).1=4-> ∀ x,x∈i.2.2.2.2.2->(0:Int)<=x
 n:i.2.2.2.2.2.length<=16777216
 is:mIs i.1=true
 k:(mOf i.1).1=2->BkA i.2.1
theorem first_io{k m:Nat}{w:W3}(h:Inv k m w):(w.2.1.getD 0 (dflt tBlk)).2.2.2.1.length<=32:=by
 have hl:=h.len
 have hmem:w.2.1.getD 0 (dflt tBlk)∈w.2.1:=by
  rw[List.getD_eq_getElem?_getD,List.getElem?_eq_getElem hl]
  exact List.getElem_mem hl
 exact(h.io _ hmem).2
theorem Inv.jump{k m:Nat}{w:W3}(h:Inv k m w)(hm:m<=1073741824)(y:denT tM)(lo:List Int)(i:den tI)(ha:i.1=12∨i.1=13∨i.1=14->(0:Int)<=i.2.1)(hl:i.1=14-> ∀ x,x∈i.2.2.2.2.2->(0:Int)<=x)(hk:k+32*i.2.2.2.2.2.length<=1073741824)(hn:i.2.2.2.2.2.length<=16777216):Inv (k+32) m (pJump y lo w i):=by
 unfold pJump
 dsimp only
 by_cases h0:(i.1:Int)=0
 ·rw[decide_eq_true h0];exact h.die.le (by omega) (Nat.le_refl _)
 rw[decide_eq_false h0,cond_false]
 by_cases h1:(i.1:Int)=12
 ·rw[decide_eq_true h1];exact((h.lab _).tks _).die.le (by omega) (Nat.le_refl _)
 rw[decide_eq_false h1,cond_false]
 by_cases h2:(i.1:Int)=13
 ·rw[decide_eq_true h2]
  have:=mLab_len h hm (ha (.inr (.inl h2)))
  exact((((h.take 127).lab _).tks _).giv _).le (by omega) (Nat.le_refl _)
 rw[decide_eq_false h2,cond_false]
 by_cases h3:(i.1:Int)=14
 ·rw[decide_eq_true h3]
  have r:=(rch771 y lo (mLab w.2.1 i.2.1) i.2.2.2.2.2 m 1073741824 (by omega) hm (hl h3) (by omega) ((h.take 127).lab i.2.1) hk).2
  have q:=(r.tks (mLab w.2.1 i.2.1)).die
  have hle:(pDie (pTks (pTab w i) (mLab w.2.1 i.2.1))).1.length<=k+32:=by
   have eb: ∀ (L:List Int) (v:W3),(L.foldl (pJ (mLab w.2.1 i.2.1)) v).2.1=v.2.1:=by
    intro L
    induction L with
    |nil=>intro v;rfl
    |cons x L ih=>intro v;exact(ih (pJ (mLab w.2.1 i.2.1) v x)).trans rfl
   have e2:(pTab w i).2.1=w.2.1:=eb _ _
   show(List.take (mTop (pTab w i).2.1).2.1.toNat _).length<=_
   rw[e2,List.length_take]
   have key: ∀ (a:Int) (n q:Nat),a<=(n:Int)->n<=k->min a.toNat q<=k+32:=fun a n q _ _=>by omega
   exact key _ _ _ (h.ht _ h.mem).2 h.sk
  exact⟨q.ne,q.pw,q.ht,q.io,hle,q.sb⟩
 rw[decide_eq_false h3,cond_false]
 by_cases h4:(i.1:Int)=15
 ·rw[decide_eq_true h4];exact(h.tks _).die.le (by omega) (Nat.le_refl _)
 rw[decide_eq_false h4,cond_false]
 exact(h.var y lo i).le (by omega) (Nat.le_refl _)
theorem sem77{k m:Nat}{w:W3}(h:Inv k m w)(hm:m<=1073741824)(y:denT tM)(lo:List Int)(i:den tI)(hk:k+32*i.2.2.2.2.2.length<=1073741824)(hn:i.2.2.2.2.2.length<=16777216)
 (ha:i.1=12∨i.1=13∨i.1=14->(0:Int)<=i.2.1)(hl:i.1=14-> ∀ x,x∈i.2.2.2.2.2->(0:Int)<=x)(hv: ¬ i.1=0-> ¬ i.1=15->(0:Int)<=i.2.1):(t77 (wkI y lo w i)).val=some (ofT to77 (wk y lo (pJump y lo w i))):=by
 have hD: ∀ {k m:Nat} {v:W3},Inv k m v->k<=1073741824->m<=1073741824->ckO (cW v) (some (ofT to77 (wk y lo (pDie v))))=some (ofT to77 (wk y lo (pDie v))):=fun hi hk hm=>by rw[hi.cW (by omega) (by omega)];rfl
 have k0:k<=1073741824:=by omega
 by_cases h3:(i.1:Int)=14
 ·have r:=rch771 y lo (mLab w.2.1 i.2.1) i.2.2.2.2.2 m 1073741824 (by omega) hm (hl h3) (by omega) ((h.take 127).lab i.2.1) hk
  obtain⟨a,b⟩:=l1_eq r.1
  rw[eq77 y lo w i _ rfl _ rfl _ b.symm]
  unfold pJump
  have hT:=mLab_len h hm (ha (.inr (.inr h3)))
  have c1:=r.2.cT (L:=mLab w.2.1 i.2.1) (by omega) (by omega) (by omega)
  have c2:=(r.2.tks (mLab w.2.1 i.2.1)).cW (by omega) (by omega)
  dsimp only
  rw[decide_eq_true h3,h.cW (by omega) (by omega),(h.take 127).cL hm (ha (.inr (.inr h3))),a,decide_eq_false (ne_of h3 (c:=0) (by decide)),decide_eq_false (ne_of h3 (c:=12) (by decide)),decide_eq_false (ne_of h3 (c:=13) (by decide))]
  simp only[cond_true,cond_false,ckO]
  refine Eq.trans (b:=bif cT (i.2.2.2.2.2.foldl (pJ (mLab w.2.1 i.2.1)) (pLab (pTake w 127) i.2.1)) (mLab w.2.1 i.2.1)then _ else none) rfl ?_
  rw[c1,cond_true]
  refine Eq.trans (b:=bif cW (pTks (i.2.2.2.2.2.foldl (pJ (mLab w.2.1 i.2.1)) (pLab (pTake w 127) i.2.1)) (mLab w.2.1 i.2.1))then _ else none) rfl ?_
  rw[c2,cond_true]
  rfl
 ·rw[eq77 y lo w i _ rfl _ rfl _ rfl]
  unfold pJump
  dsimp only
  rw[decide_eq_false h3,cond_false,cond_false]
  by_cases h0:(i.1:Int)=0
  ·rw[decide_eq_true h0];exact hD h k0 hm
  rw[decide_eq_false h0,cond_false,cond_false]
  by_cases h1:(i.1:Int)=12
  ·have hT:=mLab_len h hm (ha (.inl h1))
   rw[decide_eq_true h1,h.cL hm (ha (.inl h1)),(h.lab i.2.1).cT (by omega) (by omega) (L:=mLab w.2.1 i.2.1) (by omega)]
   exact hD ((h.lab i.2.1).tks _) k0 hm
  rw[decide_eq_false h1,cond_false,cond_false]
  by_cases h2:(i.1:Int)=13
  ·have hT:=mLab_len h hm (ha (.inr (.inl h2)))
   have q:=(h.take 127).lab i.2.1
   rw[decide_eq_true h2,h.cW (by omega) (by omega),(h.take 127).cL hm (ha (.inr (.inl h2))),q.cT (by omega) (by omega) (L:=mLab w.2.1 i.2.1) (by omega),(q.tks _).cG k0 (L:=mLab w.2.1 i.2.1) (by omega)]
   rfl
  rw[decide_eq_false h2,cond_false,cond_false]
  by_cases h4:(i.1:Int)=15
  ·have hT:=first_io h
   rw[decide_eq_true h4,show ixOk 0 (w.2.1.length:Int)=true from ixc (j:=0) h.len,h.cT (by omega) (by omega) (L:=(w.2.1.getD 0 (dflt tBlk)).2.2.2.1) (by omega)]
   exact hD (h.tks _) k0 hm
  rw[decide_eq_false h4,cond_false,cond_false]
  have s86:=sem_of (sem86 h k0 hm y lo i (hv h0 h4))
  rw[show k86 (wkI y lo w i)=true from s86.1,show m86 (wkI y lo w i)=_ from s86.2]
  rfl
end Go.Proofs.Vd
