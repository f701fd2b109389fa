import Derived.Test.YtjeanplhkkpdmaaGreatDoorVdS2
noncomputable section
namespace Go.Proofs.Vd
open Go.Ab Go.Ab.Lf
set_option maxRecDepth 100000
def vc1(v t:Int):Int:=bif decide (t=123)then iA .i64 v 1 else v
def vcs(l:List Int):Int:=l.foldl vc1 0
theorem aeh(y:cb tM)(lo:List Int)(w:W3)(mk:List (den vP))(k:Int)(x:den tI)(c:List (den tI))(n1 i1:Int)(hw:w.1.length<=1073741824):
 mm f202 (cp vb (wkV y lo w mk k x c n1 i1 0 (w.1.length:Int) 0)) 0 (cp px (aed y lo w mk k x c n1 i1 (vcs w.1))):=by
 have:=LP (f:=f202) (l:=w.1) (fun(v:Int) j=>cp vb (wkV y lo w mk k x c n1 i1 v (w.1.length:Int) (j:Int))) (fun v t=>.inl (vc1 v t)) (fun v=>(0,cp px (aed y lo w mk k x c n1 i1 v))) (fun _ _=>True) (fun v j t r e _=>by
  obtain⟨e1,e2⟩:=iT e (cr i64)
  refine⟨?_,fun _ _=>trivial⟩
  rw[ZR,jq e1,cond_true,D6 e1,Int.toNat_natCast,e2,nQ (by omega)]
  unfold vc1
  cases decide (t=123)<;>rfl) (fun v j e hj _=>by
  have:j=w.1.length:=by have:=List.drop_eq_nil_iff.1 e;omega
  subst this
  rw[ZR,iQ (Nat.le_refl _)]
  rfl) w.1 0 0 rfl (by omega) trivial
 rw[j8]at this
 exact this
def Rf(w:W3):Bool:=bif (iY w.2.1).2.2.2.2.2 then !(iY w.2.1).2.2.2.2.1 else false
def XG(w:W3):den vP:=bif Rf w then(true,(w.1.length:Int),vcs w.1)else(false,0,0)
def s9(y:cb tM)(lo:List Int):W3->List (den tI)->Option (List (den vP))
 | _,[]=>some []
 |w,x::r=>bif (j6 y lo w x).2.2 then none else(s9 y lo (j6 y lo w x) r).map (XG w:: ·)
def XH(op:List Int)(r:List (den tI)):Prop:=kY AY (fun _=>(none:Option Bool)) r op=some true
def nbl(o:Int)(L:Nat):Nat:=if 2<=o/\o<=4 then L+1 else if o=11 then L - 1 else L
theorem Rg{op:List Int}{x:den tI}{r:List (den tI)}(h:XH op (x::r)):((x.1:Int)=11/\op=[]/\r=[])∨ ∃ op',XH op' r/\op'.length+1=nbl x.1 (op.length+1)/\((x.1:Int)=11->op≠[]):=by
 have e:kY AY (fun _=>(none:Option Bool)) (x::r) op=(match AY op x r with| .inl s=>kY AY (fun _=>none) r s| .inr o=>o):=by
  rw[kY]
  cases AY op x r<;>rfl
 unfold XH at h
 rw[e]at h
 unfold AY at h
 unfold nbl
 by_cases h2:x.1=2∨x.1=3∨x.1=4
 ·have k2:(2:Int)<=x.1/\(x.1:Int)<=4:=by
   have: ∀ o:Int,o=2∨o=3∨o=4->2<=o/\o<=4:=fun o _=>by omega
   exact this _ h2
  rw[if_pos h2]at h
  by_cases q:op.length=128
  ·rw[if_pos q]at h;cases h
  ·rw[if_neg q]at h
   refine .inr ⟨op++[x.1],h,?_,fun e=>?_⟩
   ·rw[if_pos k2];simp
   ·have: ∀ o:Int,o=11-> ¬ (o=2∨o=3∨o=4):=fun o _=>by omega
    exact(this _ e h2).elim
 ·have k2: ¬ ((2:Int)<=x.1/\(x.1:Int)<=4):=by
   have: ∀ o:Int,¬ (o=2∨o=3∨o=4)-> ¬ (2<=o/\o<=4):=fun o _=>by omega
   exact this _ h2
  rw[if_neg h2]at h
  rw[if_neg k2]
  by_cases h5:(x.1:Int)=5
  ·rw[if_pos h5]at h
   rw[if_neg (ve h5 (by decide))]
   by_cases q:op.length=0∨ ¬ op.getD (op.length - 1) 0=4
   ·rw[if_pos q]at h;cases h
   ·rw[if_neg q]at h
    refine .inr ⟨op.set (op.length - 1) 5,h,by simp,fun e=>(ve h5 (c:=11) (by decide) e).elim⟩
  ·rw[if_neg h5]at h
   by_cases h11:(x.1:Int)=11
   ·rw[if_pos h11]at h
    rw[if_pos h11]
    by_cases h0:op.length=0
    ·rw[if_pos h0]at h
     refine .inl ⟨h11,List.eq_nil_of_length_eq_zero h0,?_⟩
     have h:some (decide (r.length=0))=some true:=h
     injection h with h
     exact List.eq_nil_of_length_eq_zero (of_decide_eq_true h)
    ·rw[if_neg h0]at h
     refine .inr ⟨op.take (op.length - 1),h,by simp;omega,fun _ e=>h0 (by rw[e];rfl)⟩
   ·rw[if_neg h11]at h
    rw[if_neg h11]
    exact .inr ⟨op,h,rfl,fun e=>(h11 e).elim⟩
theorem XI(w:W3)(i:den tI):(II w i).2.1=w.2.1:=by
 have eb: ∀ (T:List Int) (L:List Int) (v:W3),(L.foldl (pJ T) v).2.1=v.2.1:=by
  intro T L
  induction L with
  |nil=>intro v;rfl
  |cons x L ih=>intro v;exact(ih (pJ T v x)).trans rfl
 exact eb _ _ _
theorem D9(w:W3):(vF w).2.1.length=w.2.1.length:=by
 show(w.2.1.set _ _).length=_
 rw[List.length_set]
theorem XJ(y:cb tM)(lo:List Int)(w:W3)(i:den tI):(yq y lo w i).2.1.length=w.2.1.length:=by
 unfold yq
 dsimp only
 cases decide (i.1=0)with
 |true=>exact D9 w
 |false=>
  cases decide (i.1=12)with
  |true=>exact D9 _
  |false=>
   cases decide (i.1=13)with
   |true=>rfl
   |false=>
    cases decide (i.1=14)with
    |true=>
     show(vF (j7 (II w i) _)).2.1.length=_
     rw[D9]
     show(II w i).2.1.length=_
     rw[XI]
    |false=>
     cases decide (i.1=15)with
     |true=>exact D9 _
     |false=>
      simp only[cond_false]
      unfold L'
      dsimp only
      cases(bif !decide (i.1=33)then !decide (i.1=36)else false)<;>cases(bif !decide (i.1=32)then !decide (i.1=35)else false)<;>rfl
theorem Rh{w:W3}(h:w.2.1≠[])(n:Int)(hb:(qP w n).2.2=false):(qP w n).2.1.length=if n=5 then w.2.1.length else w.2.1.length - 1:=by
 obtain⟨r,B,e⟩:=xd h
 have ec:vG w=r:=by unfold vG;rw[e];simp
 unfold qP at hb ⊢
 cases hB:D8 w with
 |true=>rw[hB]at hb;cases hb
 |false=>
  by_cases h5:n=5
  ·rw[decide_eq_true h5,if_pos h5]
   show(jR _ (vG w) _ _ _).length=_
   unfold jR
   rw[ec,e]
   simp
  ·rw[decide_eq_false h5,if_neg h5]
   show(vG w).length=_
   rw[ec,e]
   simp
theorem XK{y:cb tM}{lo:List Int}{w:W3}{i:den tI}(h:w.2.1≠[])(hb:(j6 y lo w i).2.2=false):(j6 y lo w i).2.1.length=nbl i.1 w.2.1.length:=by
 unfold j6 at hb ⊢
 unfold nbl
 cases hp:(kM i.1).2.2.1 with
 |true=>
  obtain⟨a,b⟩:=aiw hp
  have: ∀ o:Int,¬ (2<=o/\o<=5)-> ¬ (2<=o/\o<=4):=fun o _=>by omega
  rw[if_neg (this _ a),if_neg b]
  simp only[cond_true]
  unfold aef
  obtain⟨q,e⟩:=xX y w i (kM i.1)
  rw[e]
 |false=>
  rw[hp]at hb
  simp only[cond_false]at hb ⊢
  by_cases h2:(i.1:Int)=2∨(i.1:Int)=3∨(i.1:Int)=4
  ·have k2:(2:Int)<=i.1/\(i.1:Int)<=4:=by
    have: ∀ o:Int,o=2∨o=3∨o=4->2<=o/\o<=4:=fun o _=>by omega
    exact this _ h2
   have c:(decide (i.1=2)||(decide (i.1=3)||decide (i.1=4)))=true:=by simp only[Bool.or_eq_true,decide_eq_true_eq];exact h2
   rw[c,if_pos k2]
   simp only[cond_true]
   unfold GF
   dsimp only
   show(jR _ _ _ _ _).length=_
   unfold jR
   cases decide (i.1=4)<;>simp
  ·have k2: ¬ ((2:Int)<=i.1/\(i.1:Int)<=4):=by
    have: ∀ o:Int,¬ (o=2∨o=3∨o=4)-> ¬ (2<=o/\o<=4):=fun o _=>by omega
    exact this _ h2
   have c:(decide (i.1=2)||(decide (i.1=3)||decide (i.1=4)))=false:=by rw[Bool.eq_false_iff];intro q;simp only[Bool.or_eq_true,decide_eq_true_eq]at q;exact h2 q
   rw[c]at hb ⊢
   rw[if_neg k2]
   simp only[cond_false]at hb ⊢
   by_cases h5:(i.1:Int)=5∨(i.1:Int)=11
   ·have c:(decide (i.1=5)||decide (i.1=11))=true:=by simp only[Bool.or_eq_true,decide_eq_true_eq];exact h5
    rw[c]at hb ⊢
    simp only[cond_true]at hb ⊢
    rw[Rh h i.1 hb]
    rcases h5 with h5|h5
    ·rw[if_pos h5,if_neg (ve h5 (by decide))]
    ·rw[if_neg (ve h5 (by decide)),if_pos h5]
   ·have c:(decide (i.1=5)||decide (i.1=11))=false:=by rw[Bool.eq_false_iff];intro q;simp only[Bool.or_eq_true,decide_eq_true_eq]at q;exact h5 q
    rw[c,if_neg (fun e=>h5 (.inr e))]
    simp only[cond_false]
    cases decide (i.1=26)with
    |true=>rfl
    |false=>
     cases decide (i.1=27)with
     |true=>rfl
     |false=>
      cases decide (i.1=16)with
      |true=>rfl
      |false=>
       cases decide (i.1=17)with
       |true=>rfl
       |false=>exact XJ y lo w i
structure BOk(c:List (den tI)):Prop where
 ok: ∀ x,x∈c->IOk x
 n:c.length<=1048576
theorem XL{α:Type}(d:List α)(a b:α)(r:List α):(d++a::r).set d.length b=(d++[b])++r:=by
 rw[List.set_append_right _ _ (Nat.le_refl _)]
 simp
def oT(d:List (den vP)):Option (List (den vP))->Nat×List Pl
 |some l=>(0,cp kp (d++l,()))
 |none=>(1,cp lh ([],false,()))
theorem IK{y:cb tM}(ht:BW y)(K9:y.2.1.length<=1099511627776)(lo:List Int){c:List (den tI)}(hc:BOk c): ∀ (r:List (den tI)) (j:Nat) (w:W3) (d:List (den vP)),c.drop j=r->d.length=j->(r=[]∨(Inv (32*j) (j+1) w/\ ∃ op,XH op r/\w.2.1.length=op.length+1))->
 mm f200 (cp la (ZQ y lo w (d++List.replicate r.length (false,0,0)) c (c.length:Int) (j:Int))) (oT d (s9 y lo w r)).1 (oT d (s9 y lo w r)).2
 | [],j,w,d,e,hd,_=>by
  have hj:c.length<=j:=List.drop_eq_nil_iff.1 e
  refine .last ?_
  rw[ZS y lo w _ c _ _ _ rfl _ rfl _ rfl _ rfl _ rfl _ rfl,iQ hj]
  simp only[cond_false,List.length_nil,List.replicate_zero,List.append_nil]
  show some (Rs.out 0 (cp kp (d,())))=some (Rs.out 0 (cp kp (d++[],())))
  rw[List.append_nil]
 |x::r,j,w,d,e,hd,hi=>by
  obtain⟨hi,op,kj,hbl⟩:Inv (32*j) (j+1) w/\ ∃ op,XH op (x::r)/\w.2.1.length=op.length+1:=by
   rcases hi with hi|hi
   ·cases hi
   ·exact hi
  obtain⟨e1,e2⟩:=iT e (cr tI)
  have hx:x∈c:=by
   have:x∈c.drop j:=by rw[e];exact List.mem_cons_self
   exact List.mem_of_mem_drop this
  have hI:=hc.ok x hx
  have hn:=hc.n
  have hs:=hi.sub (by omega)
  have eB:iY w.2.1=w.2.1.getD (il .i64 (w.2.1.length:Int) 1).toNat (cr iF):=by rw[hs,Int.toNat_natCast];rfl
  have s62:=mT (aiG hi ht lo hI (by have:=hI.n;omega) (by omega) K9)
  have er:c.drop (j+1)=r:=by rw[<-List.tail_drop,e];rfl
  have hsk:=hi.sk
  have v:=ru (aeh y lo w (d++List.replicate (x::r).length (false,0,0)) (j:Int) x c (c.length:Int) (j:Int) (by omega))
  have hmk:(d++List.replicate (x::r).length ((false,0,0):den vP)).set j (true,(w.1.length:Int),vcs w.1)=(d++[(true,(w.1.length:Int),vcs w.1)])++List.replicate r.length (false,0,0):=by
   rw[List.length_cons,List.replicate_succ,<-hd]
   exact XL d _ _ _
  have aiH:d++List.replicate (x::r).length ((false,0,0):den vP)=(d++[(false,0,0)])++List.replicate r.length (false,0,0):=by
   rw[List.length_cons,List.replicate_succ]
   simp
  have hlen:(d++List.replicate (x::r).length ((false,0,0):den vP)).length=j+(r.length+1):=by simp[hd]
  have step: ∀ (hb:(j6 y lo w x).2.2=false),r=[]∨(Inv (32*(j+1)) (j+1+1) (j6 y lo w x)/\ ∃ op,XH op r/\(j6 y lo w x).2.1.length=op.length+1):=by
   intro hb
   rcases Rg kj with⟨_,_,q⟩|⟨op',q1,q2,q3⟩
   ·exact .inl q
   ·have hl:=XK hi.ne hb
    rw[hbl,<-q2]at hl
    have nd:(j6 y lo w x).2.1≠[]:=fun e0=>by rw[e0]at hl;simp at hl
    exact .inr ⟨(hi.step ht lo hI (by have:=hI.n;omega) (by omega) nd).le (by omega) (Nat.le_refl _),op',q1,hl⟩
  have hq:=ZS y lo w (d++List.replicate (x::r).length (false,0,0)) c (c.length:Int) (j:Int) x (by rw[Int.toNat_natCast];exact e2.symm) (iY w.2.1) eB _ v.2.symm _ s62.2.symm _ rfl _ rfl
  rw[jq e1,cond_true,D6 e1,hs,hi.ix]at hq
  simp only[cz,cond_true]at hq
  have hlv:(bif (iY w.2.1).2.2.2.2.2 then !(iY w.2.1).2.2.2.2.1 else false)=Rf w:=rfl
  rw[hlv]at hq
  cases hL:Rf w with
  |true=>
   rw[hL,v.1]at hq
   simp only[cond_true]at hq
   have hq2:(f200 (cp la (ZQ y lo w (d++List.replicate (x::r).length (false,0,0)) c (c.length:Int) (j:Int)))).val=bif ij (j:Int) ((d++List.replicate (x::r).length ((false,0,0):den vP)).length:Int)then(bif k62 (sF y lo w x)then(bif (CH (sF y lo w x)).2.2.2.2.2.2.2.2.2.2.2.2.2.2.1 then some (Rs.out 1 (cp lh ([],false,())))else some (Rs.next (cp la ((CH (sF y lo w x)).1,(CH (sF y lo w x)).2.1,(CH (sF y lo w x)).2.2.1,(CH (sF y lo w x)).2.2.2.1,(CH (sF y lo w x)).2.2.2.2.1,(CH (sF y lo w x)).2.2.2.2.2.1,(CH (sF y lo w x)).2.2.2.2.2.2.1,(CH (sF y lo w x)).2.2.2.2.2.2.2.1,(CH (sF y lo w x)).2.2.2.2.2.2.2.2.1,(CH (sF y lo w x)).2.2.2.2.2.2.2.2.2.1,(CH (sF y lo w x)).2.2.2.2.2.2.2.2.2.2.1,(CH (sF y lo w x)).2.2.2.2.2.2.2.2.2.2.2.1,(CH (sF y lo w x)).2.2.2.2.2.2.2.2.2.2.2.2.1,(CH (sF y lo w x)).2.2.2.2.2.2.2.2.2.2.2.2.2.1,(CH (sF y lo w x)).2.2.2.2.2.2.2.2.2.2.2.2.2.2.1,(d++List.replicate (x::r).length ((false,0,0):den vP)).set (j:Int).toNat (true,(w.1.length:Int),vcs w.1),c,(c.length:Int),iA .i64 (j:Int) 1,()))))else none)else none:=hq
   rw[hlen,D6 (show j<j+(r.length+1) by omega),show k62 (sF y lo w x)=true from s62.1,Int.toNat_natCast,hmk,nQ (by omega),show CH (sF y lo w x)=_ from s62.2]at hq2
   simp only[cond_true]at hq2
   have hp:s9 y lo w (x::r)=bif (j6 y lo w x).2.2 then none else(s9 y lo (j6 y lo w x) r).map (XG w:: ·):=rfl
   rw[hp]
   cases hb:(j6 y lo w x).2.2 with
   |true=>
    rw[hb]at hq2
    exact .last hq2
   |false=>
    rw[hb]at hq2
    have ih:=IK ht K9 lo hc r (j+1) (j6 y lo w x) (d++[XG w]) er (by simp[hd]) (step hb)
    have em:XG w=(true,(w.1.length:Int),vcs w.1):=by unfold XG;rw[hL];rfl
    rw[em]at ih
    rw[em]
    simp only[cond_false]
    have eo:oT d ((s9 y lo (j6 y lo w x) r).map ((true,(w.1.length:Int),vcs w.1):: ·))=oT (d++[(true,(w.1.length:Int),vcs w.1)]) (s9 y lo (j6 y lo w x) r):=by
     cases s9 y lo (j6 y lo w x) r with
     |none=>rfl
     |some l=>show((0:Nat),cp kp (d++_::l,()))=(0,cp kp ((d++[_])++l,()));simp
    rw[eo]
    refine .more (pl':=cp la (ZQ y lo (j6 y lo w x) ((d++[(true,(w.1.length:Int),vcs w.1)])++List.replicate r.length (false,0,0)) c (c.length:Int) ((j+1:Nat):Int))) ?_ ih
    refine hq2.trans ?_
    show some _=some _
    rw[<-hb]
  |false=>
   rw[hL,show k62 (sF y lo w x)=true from s62.1]at hq
   simp only[cond_false,cond_true]at hq
   rw[nQ (by omega),aiH]at hq
   have hp:s9 y lo w (x::r)=bif (j6 y lo w x).2.2 then none else(s9 y lo (j6 y lo w x) r).map (XG w:: ·):=rfl
   rw[hp]
   have em:XG w=(false,0,0):=by unfold XG;rw[hL];rfl
   rw[aiH]
   cases hb:(j6 y lo w x).2.2 with
   |true=>
    rw[hb]at hq
    exact .last hq
   |false=>
    rw[hb]at hq
    have ih:=IK ht K9 lo hc r (j+1) (j6 y lo w x) (d++[XG w]) er (by simp[hd]) (step hb)
    rw[em]at ih
    rw[em]
    simp only[cond_false]
    have eo:oT d ((s9 y lo (j6 y lo w x) r).map ((false,0,0):: ·))=oT (d++[(false,0,0)]) (s9 y lo (j6 y lo w x) r):=by
     cases s9 y lo (j6 y lo w x) r with
     |none=>rfl
     |some l=>show((0:Nat),cp kp (d++_::l,()))=(0,cp kp ((d++[_])++l,()));simp
    rw[eo]
    refine .more (pl':=cp la (ZQ y lo (j6 y lo w x) ((d++[(false,0,0)])++List.replicate r.length (false,0,0)) c (c.length:Int) ((j+1:Nat):Int))) ?_ ih
    refine hq.trans ?_
    show some _=some _
    rw[<-hb]
end Go.Proofs.Vd

noncomputable section
namespace Go.Proofs.Vd
open Go.Ab Go.Ab.Lf
set_option maxRecDepth 100000
theorem DI{a b:Nat}(h:a+b<4611686018427387904):iA .i64 (a:Int) (b:Int)=((a+b:Nat):Int):=LX h
def rL(l:List (List Int)):Nat:=l.foldr (fun x n=>x.length+n) 0
theorem Ma(l:List (List Int)): ∀ (s:List Int),l.foldl (fun s x=>s++x) s=s++l.flatten:=by
 induction l with
 |nil=>intro s;simp
 |cons x l ih=>intro s;show l.foldl _ (s++x)=_;rw[ih];simp
theorem Mb(l:List (List Int)): ∀ (s:Nat),l.foldl (fun s x=>s+x.length) s=s+rL l:=by
 induction l with
 |nil=>intro s;rfl
 |cons x l ih=>intro s;show l.foldl _ (s+x.length)=s+(x.length+rL l);rw[ih];omega
theorem aei(c:List (List Int))(hc:c.length+rL c<=1073741824):mm Iz (cp w7 (c,((0:Nat):Int),c,(c.length:Int),((0:Nat):Int),())) 0 (cp pj (c,(rL c:Int),())):=by
 have r0:=LP (f:=Iz) (l:=c) (fun(s:Nat) j=>cp w7 (c,(s:Int),c,(c.length:Int),(j:Int),())) (fun s x=>.inl (s+x.length)) (fun s=>(0,cp pj (c,(s:Int),()))) (fun s r=>s+rL r<=1073741824) (fun s j x r e hi=>by
  obtain⟨e1,e2⟩:=iT e (cr (.ca i64))
  have e2:c.getD j (cr (.ca i64))=x:=e2
  have UY:s+(x.length+rL r)<=1073741824:=hi
  have C7:decide (((s+x.length:Nat):Int)<0)=false:=decide_eq_false (by omega)
  have hq:iA .i64 (s:Int) (x.length:Int)=((s+x.length:Nat):Int):=DI (by omega)
  refine⟨?_,fun s' e=>by cases e;exact(by omega:s+x.length+rL r<=1073741824)⟩
  rw[ZO c c (s:Int) (c.length:Int) (j:Int) ((s+x.length:Nat):Int) (by rw[Int.toNat_natCast,e2];exact hq.symm),jq e1,cond_true,D6 e1,C7,nQ (by omega)]
  rfl) (fun s j e hj _=>by
  have:j=c.length:=by have:=List.drop_eq_nil_iff.1 e;omega
  subst this
  rw[ZO c c (s:Int) (c.length:Int) (c.length:Int) _ rfl,iQ (Nat.le_refl _)]
  rfl) c 0 0 rfl (by omega) (by omega)
 rw[j8,Mb,Nat.zero_add]at r0
 exact r0
theorem aej(c:List (List Int))(hc:c.length+rL c<=1073741824):mm Gz (cp u7 ([],c,(c.length:Int),((0:Nat):Int),())) 0 (cp pn (c.flatten,())):=by
 have r2:=LP (f:=Gz) (l:=c) (fun(s:List Int) j=>cp u7 (s,c,(c.length:Int),(j:Int),())) (fun s x=>.inl (s++x)) (fun s=>(0,cp pn (s,()))) (fun s r=>s.length+rL r<=1073741824) (fun s j x r e hi=>by
  obtain⟨e1,e2⟩:=iT e (cr (.ca i64))
  have e2:c.getD j (cr (.ca i64))=x:=e2
  have UY:s.length+(x.length+rL r)<=1073741824:=hi
  refine⟨?_,fun s' e=>by cases e;rw[List.length_append];omega⟩
  rw[ZP s c (c.length:Int) (j:Int) x (by rw[Int.toNat_natCast];exact e2.symm),jq e1,cond_true,D6 e1,iE (by omega) (by omega),cX,nQ (by omega)]
  rfl) (fun s j e hj _=>by
  have:j=c.length:=by have:=List.drop_eq_nil_iff.1 e;omega
  subst this
  rw[ZP s c (c.length:Int) (c.length:Int) _ rfl,iQ (Nat.le_refl _)]
  rfl) c 0 [] rfl (by omega) (by simp;omega)
 rw[j8,Ma,List.nil_append]at r2
 exact r2
theorem aiI(c:List (List Int))(hc:c.length+rL c<=1073741824):(t59 (c,())).val=some (cp IA (c.flatten,())):=by
 have v0:=ru (aei c hc)
 have v2:=ru (aej c hc)
 have hw:il .i64 (rL c:Int) 0=(rL c:Int):=by
  show ja .i64 ((rL c:Int) - 0)=_
  rw[wrap_i64 (by omega) (by omega)]
  omega
 have C7:decide ((rL c:Int)<0)=false:=decide_eq_false (by omega)
 have c1:roomy 8 (0+(List.replicate (rL c:Int).toNat (0:Int)).length)=true:=iE (by omega) (by rw[List.length_replicate,Int.toNat_natCast];omega)
 have c2:jy 0 0 ((app [] (List.replicate (rL c:Int).toNat (0:Int))).length:Int)=true:=D7 (j:=0) (Nat.zero_le _)
 have a1:xi Iz w7 pj (c,0,c,(c.length:Int),0,())=true:=v0.1
 have a3:xi Gz u7 pn ([],c,(c.length:Int),0,())=true:=v2.1
 have a4:oG Gz u7 pn ([],c,(c.length:Int),0,())=(c.flatten,()):=v2.2
 rw[anU c (c,(rL c:Int),()) v0.2.symm,a1]
 dsimp only
 rw[a3,a4,C7,hw]
 generalize cp IA (c.flatten,())=R
 have c3:decide ((0:Int)<=(rL c:Int))=true:=decide_eq_true (by omega)
 rw[c1,c2,c3]
 cases decide ((0:Int)<(rL c:Int))<;>rfl
def GH(y:cb tM)(k:Int):den cF:=iB y.1 (jj y.2.1 y.2.2.1 k)
def lj(y:cb tM)(i:Nat):den cK:=y.2.2.2.2.2.2.2.2.2.1.getD i (cr cK)
def TM(y:cb tM)(i:Nat):List Int:=(GH y ((y.2.1.length+i:Nat):Int)).1++(lj y i).1
def Ri(y:cb tM)(i:Nat):W3:=([],jR [] [] 2 [] (GH y ((y.2.1.length+i:Nat):Int)).2,false)
def qQ(y:cb tM)(i:Nat):Option (List (den vP)):=s9 y (TM y i) (Ri y i) (lj y i).2
theorem an2{y:cb tM}(ht:BW y)(i:Nat):Inv 0 1 (Ri y i):=by
 have hs:=(qe ht (jj y.2.1 y.2.2.1 ((y.2.1.length+i:Nat):Int))).2
 have e:(Ri y i).2.1=[(2,0,[],(GH y ((y.2.1.length+i:Nat):Int)).2,false,true)]:=rfl
 refine⟨by rw[e];simp,by rw[e];exact List.pairwise_singleton _ _,fun b hb=>?_,fun b hb=>?_,Nat.le_refl _,by rw[e];simp⟩
 ·rw[e]at hb
  have:b=(2,0,[],(GH y ((y.2.1.length+i:Nat):Int)).2,false,true):=by simpa using hb
  rw[this]
  exact⟨Int.le_refl _,Int.le_refl _⟩
 ·rw[e]at hb
  have:b=(2,0,[],(GH y ((y.2.1.length+i:Nat):Int)).2,false,true):=by simpa using hb
  rw[this]
  exact⟨Nat.zero_le _,hs⟩
structure K6(C:den cK):Prop where
 b:BOk C.2
 c:XH [] C.2
 l:List.length C.1<=512
theorem aiJ{y:cb tM}(ht:BW y)(K9:y.2.1.length<=1048576){i:Nat}(hi:i<y.2.2.2.2.2.2.2.2.2.1.length)(KJ:i<=1048576)(hC:K6 (lj y i)):
 (t20 (y.1,y.2.1,y.2.2.1,y.2.2.2.1,y.2.2.2.2.1,y.2.2.2.2.2.1,y.2.2.2.2.2.2.1,y.2.2.2.2.2.2.2.1,y.2.2.2.2.2.2.2.2.1,y.2.2.2.2.2.2.2.2.2.1,y.2.2.2.2.2.2.2.2.2.2.1,(i:Int),())).val=some (cp D4 ((qQ y i).getD [],(qQ y i).isSome,())):=by
 have hk:iA .i64 (y.2.1.length:Int) (i:Int)=((y.2.1.length+i:Nat):Int):=DI (by omega)
 have hs:=(qe ht (jj y.2.1 y.2.2.1 ((y.2.1.length+i:Nat):Int))).1
 have hl:=hC.l
 have hn:=hC.b.n
 have s59:=mT (aiI [(GH y ((y.2.1.length+i:Nat):Int)).1,(lj y i).1] (by
  show 2+((iB y.1 (jj y.2.1 y.2.2.1 ((y.2.1.length+i:Nat):Int))).1.length+((lj y i).1.length+0))<=_
  omega))
 have e59:(m59 ([(GH y ((y.2.1.length+i:Nat):Int)).1,(lj y i).1],())).1=TM y i:=by
  rw[show m59 ([(GH y ((y.2.1.length+i:Nat):Int)).1,(lj y i).1],())=_ from s59.2]
  unfold TM
  simp
 have hlen:(Ri y i).2.1.length=([]:List Int).length+1:=rfl
 have r:=IK ht (by omega) (TM y i) hC.b (lj y i).2 0 (Ri y i) [] rfl rfl (.inr ⟨(an2 ht i).le (Nat.le_refl _) (Nat.le_refl _),[],hC.c,hlen⟩)
 rw[anV y (GG ht) (i:Int) _ hk.symm _ rfl (lj y i) (by rw[Int.toNat_natCast];rfl) (TM y i) e59.symm (Ri y i) rfl _ rfl,D6 hi]
 have c1:(decide (((y.2.1.length+i:Nat):Int)<9223372036854775808)&&decide (y.2.1.length<=1099511627776))=true:=by
  rw[decide_eq_true (by omega),decide_eq_true (by omega)];rfl
 have c2:((decide (0<=((lj y i).2.length:Int))&&decide (((lj y i).2.length:Int)<=((lj y i).2.length:Int)))&&decide (((lj y i).2.length:Int).toNat*24<=70368744177664))=true:=by
  rw[decide_eq_true (by omega),decide_eq_true (by omega),decide_eq_true (by rw[Int.toNat_natCast];omega)];rfl
 rw[c1,c2,show k59 ([(iB y.1 (jj y.2.1 y.2.2.1 ((y.2.1.length+i:Nat):Int))).1,(lj y i).1],())=true from s59.1,decide_eq_true (show y.2.2.2.2.2.2.2.1=y.2.2.2.2.2.2.2.1 from rfl)]
 simp only[cz,cond_true]
 have c3:decide (([]:List (den iF)).length+1<=549755813888)=true:=decide_eq_true (by simp)
 rw[c3,cond_true]
 have hp:qQ y i=s9 y (TM y i) (Ri y i) (lj y i).2:=rfl
 rw[hp]
 have r:mm f200 (cp la (ZQ y (TM y i) (Ri y i) (List.replicate (lj y i).2.length (false,0,0)) (lj y i).2 ((lj y i).2.length:Int) 0)) (oT [] (s9 y (TM y i) (Ri y i) (lj y i).2)).1 (oT [] (s9 y (TM y i) (Ri y i) (lj y i).2)).2:=r
 cases hq:s9 y (TM y i) (Ri y i) (lj y i).2 with
 |none=>
  rw[hq]at r
  have v:=P0 (t0:=kp) (t1:=lh) (y:=([],false,())) r
  rw[v.1,v.2.1,v.2.2]
  rfl
 |some l=>
  rw[hq]at r
  have v:=Ic (t0:=kp) (t1:=lh) (y:=(l,())) r
  rw[v.1,v.2.1,v.2.2]
  rfl
end Go.Proofs.Vd

noncomputable section
namespace Go.Proofs.Vd
open Go.Ab Go.Ab.Lf
set_option maxRecDepth 100000
theorem ZU(fn:Int)(y:cb tM)(E:List (den cJ))(n1 i1:Int)(L:List Int)(n i:Int):(ID (cp ua (fn,y.1,y.2.1,y.2.2.1,y.2.2.2.1,y.2.2.2.2.1,y.2.2.2.2.2.1,y.2.2.2.2.2.2.1,y.2.2.2.2.2.2.2.1,y.2.2.2.2.2.2.2.2.1,y.2.2.2.2.2.2.2.2.2.1,y.2.2.2.2.2.2.2.2.2.2.1,E,n1,i1,L,n,i,()))).val=
 bif decide (i<n)then cz (ij i (L.length:Int)) (bif decide (fn<=L.getD i.toNat (cr i64))then some (Rs.out 1 (cp uC (false,())))else some (Rs.next (cp ua (fn,y.1,y.2.1,y.2.2.1,y.2.2.2.1,y.2.2.2.2.1,y.2.2.2.2.2.1,y.2.2.2.2.2.2.1,y.2.2.2.2.2.2.2.1,y.2.2.2.2.2.2.2.2.1,y.2.2.2.2.2.2.2.2.2.1,y.2.2.2.2.2.2.2.2.2.2.1,E,n1,i1,L,n,iA .i64 i 1,()))))else some (Rs.out 0 (cp sB (fn,y.1,y.2.1,y.2.2.1,y.2.2.2.1,y.2.2.2.2.1,y.2.2.2.2.2.1,y.2.2.2.2.2.2.1,y.2.2.2.2.2.2.2.1,y.2.2.2.2.2.2.2.2.1,y.2.2.2.2.2.2.2.2.2.1,y.2.2.2.2.2.2.2.2.2.2.1,E,n1,i1,()))):=by kernel_rfl
theorem ZV(fn:Int)(y:cb tM)(E:List (den cJ))(n i:Int)(x:den cJ)(hx:x=E.getD i.toNat (cr cJ))(a:cb ua)(ha:a=(fn,y.1,y.2.1,y.2.2.1,y.2.2.2.1,y.2.2.2.2.1,y.2.2.2.2.2.1,y.2.2.2.2.2.2.1,y.2.2.2.2.2.2.2.1,y.2.2.2.2.2.2.2.2.1,y.2.2.2.2.2.2.2.2.2.1,y.2.2.2.2.2.2.2.2.2.2.1,E,n,i,x.2,(x.2.length:Int),0,()))(z:cb sB)(hz:z=oG ID ua sB a):(IE (cp sX (fn,y.1,y.2.1,y.2.2.1,y.2.2.2.1,y.2.2.2.2.1,y.2.2.2.2.2.1,y.2.2.2.2.2.2.1,y.2.2.2.2.2.2.2.1,y.2.2.2.2.2.2.2.2.1,y.2.2.2.2.2.2.2.2.2.1,y.2.2.2.2.2.2.2.2.2.2.1,E,n,i,()))).val=
 bif decide (i<n)then cz (ij i (E.length:Int)) (let F:=some (Rs.out 1 (cp qu (false,())))
  bif decide ((y.2.2.2.1.length:Int)=0)then F else bif !yQ x.1 127 then F else
  cz (DN ID ua sB uC a) (bif BO ID ua a then some (Rs.next (cp sX (z.1,z.2.1,z.2.2.1,z.2.2.2.1,z.2.2.2.2.1,z.2.2.2.2.2.1,z.2.2.2.2.2.2.1,z.2.2.2.2.2.2.2.1,z.2.2.2.2.2.2.2.2.1,z.2.2.2.2.2.2.2.2.2.1,z.2.2.2.2.2.2.2.2.2.2.1,z.2.2.2.2.2.2.2.2.2.2.2.1,z.2.2.2.2.2.2.2.2.2.2.2.2.1,z.2.2.2.2.2.2.2.2.2.2.2.2.2.1,iA .i64 z.2.2.2.2.2.2.2.2.2.2.2.2.2.2.1 1,())))else some (Rs.out 1 (cp qu ((oG ID ua uC a).1,())))))else some (Rs.out 0 (cp qt (y.1,y.2.1,y.2.2.1,y.2.2.2.1,y.2.2.2.2.1,y.2.2.2.2.2.1,y.2.2.2.2.2.2.1,y.2.2.2.2.2.2.2.1,y.2.2.2.2.2.2.2.2.1,y.2.2.2.2.2.2.2.2.2.1,y.2.2.2.2.2.2.2.2.2.2.1,()))):=by
 subst hz;subst ha;subst hx
 kernel_rfl
theorem ZW(y:cb tM)(D:List (den cN))(n i:Int)(x:den cN)(hx:x=D.getD i.toNat (cr cN)):(L7 (cp vc (y.1,y.2.1,y.2.2.1,y.2.2.2.1,y.2.2.2.2.1,y.2.2.2.2.2.1,y.2.2.2.2.2.2.1,y.2.2.2.2.2.2.2.1,y.2.2.2.2.2.2.2.2.1,y.2.2.2.2.2.2.2.2.2.1,y.2.2.2.2.2.2.2.2.2.2.1,D,n,i,()))).val=
 bif decide (i<n)then cz (ij i (D.length:Int)) (let F:=some (Rs.out 1 (cp sC (false,())))
  bif decide ((y.2.2.2.2.1.length:Int)=0)then F else bif !yQ x.1 127 then F else some (Rs.next (cp vc (y.1,y.2.1,y.2.2.1,y.2.2.2.1,y.2.2.2.2.1,y.2.2.2.2.2.1,y.2.2.2.2.2.2.1,y.2.2.2.2.2.2.2.1,y.2.2.2.2.2.2.2.2.1,y.2.2.2.2.2.2.2.2.2.1,y.2.2.2.2.2.2.2.2.2.2.1,D,n,iA .i64 i 1,()))))else some (Rs.out 0 (cp uD ())):=by
 subst hx
 kernel_rfl
theorem aiK(y:cb tM)(fn:Int)(a:cb sX)(ha:a=(fn,y.1,y.2.1,y.2.2.1,y.2.2.2.1,y.2.2.2.2.1,y.2.2.2.2.2.1,y.2.2.2.2.2.2.1,y.2.2.2.2.2.2.2.1,y.2.2.2.2.2.2.2.2.1,y.2.2.2.2.2.2.2.2.2.1,y.2.2.2.2.2.2.2.2.2.2.1,y.2.2.2.2.2.2.2.2.1,(y.2.2.2.2.2.2.2.2.1.length:Int),0,()))(z:cb qt)(hz:z=oG IE sX qt a)(b:cb vc)(hb:b=(z.1,z.2.1,z.2.2.1,z.2.2.2.1,z.2.2.2.2.1,z.2.2.2.2.2.1,z.2.2.2.2.2.2.1,z.2.2.2.2.2.2.2.1,z.2.2.2.2.2.2.2.2.1,z.2.2.2.2.2.2.2.2.2.1,z.2.2.2.2.2.2.2.2.2.2.1,z.2.2.2.2.2.2.2.2.2.2.1,(z.2.2.2.2.2.2.2.2.2.2.1.length:Int),0,())):(t58 (y.1,y.2.1,y.2.2.1,y.2.2.2.1,y.2.2.2.2.1,y.2.2.2.2.2.1,y.2.2.2.2.2.2.1,y.2.2.2.2.2.2.2.1,y.2.2.2.2.2.2.2.2.1,y.2.2.2.2.2.2.2.2.2.1,y.2.2.2.2.2.2.2.2.2.2.1,fn,())).val=
 cz (DN IE sX qt qu a) (bif BO IE sX a then cz (DN L7 vc uD sC b) (bif BO L7 vc b then some (cp GB (true,()))else some (cp GB ((oG L7 vc sC b).1,())))else some (cp GB ((oG IE sX qu a).1,()))):=by
 subst hb;subst hz;subst ha
 kernel_rfl
theorem ZX(a c:List (List (den cq)))(sz n i:Int)(q:Int)(hq:q=iA .i64 sz ((c.getD i.toNat (cr (.ca cq)):List (den cq)).length:Int)):(IB (cp w8 (a,sz,c,n,i,()))).val=
 bif decide (i<n)then cz (ij i (c.length:Int)) (bif decide (q<0)then none else some (Rs.next (cp w8 (a,q,c,n,iA .i64 i 1,()))))else some (Rs.out 0 (cp po (a,sz,()))):=by
 subst hq
 kernel_rfl
theorem ZY(o:List (den cq))(c:List (List (den cq)))(n i:Int)(x:List (den cq))(hx:x=c.getD i.toNat (cr (.ca cq))):(GA (cp u9 (o,c,n,i,()))).val=
 bif decide (i<n)then cz (ij i (c.length:Int)) (cz (roomy 16 (o.length+x.length)) (some (Rs.next (cp u9 (app o x,c,n,iA .i64 i 1,())))))else some (Rs.out 0 (cp pq (o,()))):=by
 subst hx
 kernel_rfl
theorem an3(c:List (List (den cq)))(z:cb po)(hz:z=oG IB w8 po (c,0,c,(c.length:Int),0,())):(t55 (c,())).val=
 cz (xi IB w8 po (c,0,c,(c.length:Int),0,())) (
  let fin:=cz (xi GA u9 pq ([],z.1,(z.1.length:Int),0,())) (some (cp IC (oG GA u9 pq ([],z.1,(z.1.length:Int),0,()))))
  bif decide (z.2.1<0)then none else bif decide (0<il .i64 z.2.1 0)then cz (decide (0<=il .i64 z.2.1 0)) (cz (roomy 16 (0+(List.replicate (il .i64 z.2.1 0).toNat ((0,0):den cq)).length)) (cz (jy 0 0 ((app [] (List.replicate (il .i64 z.2.1 0).toNat ((0,0):den cq))).length:Int)) fin))else fin):=by
 subst hz
 kernel_rfl
theorem aek(gt:Bool)(fn:Int)(y:cb tM)(hgt:gt=gT y.1)(n i:Int):(f190 (cp rI (fn,y.1,y.2.1,y.2.2.1,y.2.2.2.1,y.2.2.2.2.1,y.2.2.2.2.2.1,y.2.2.2.2.2.2.1,y.2.2.2.2.2.2.2.1,y.2.2.2.2.2.2.2.2.1,y.2.2.2.2.2.2.2.2.2.1,y.2.2.2.2.2.2.2.2.2.2.1,n,i,()))).val=
 bif decide (i<n)then cz (gt&&(decide (i<9223372036854775808)&&decide (y.2.1.length<=1099511627776))) (bif !jh y.1 (jj y.2.1 y.2.2.1 i)then some (Rs.out 1 (cp qv (false,())))else some (Rs.next (cp rI (fn,y.1,y.2.1,y.2.2.1,y.2.2.2.1,y.2.2.2.2.1,y.2.2.2.2.2.1,y.2.2.2.2.2.2.1,y.2.2.2.2.2.2.2.1,y.2.2.2.2.2.2.2.2.1,y.2.2.2.2.2.2.2.2.2.1,y.2.2.2.2.2.2.2.2.2.2.1,n,iA .i64 i 1,()))))else some (Rs.out 0 (cp py (fn,y.1,y.2.1,y.2.2.1,y.2.2.2.1,y.2.2.2.2.1,y.2.2.2.2.2.1,y.2.2.2.2.2.2.1,y.2.2.2.2.2.2.2.1,y.2.2.2.2.2.2.2.2.1,y.2.2.2.2.2.2.2.2.2.1,y.2.2.2.2.2.2.2.2.2.2.1,()))):=by
 subst hgt
 kernel_rfl
theorem ZZ(fn:Int)(y:cb tM)(hT:gT y.1=true)(n i:Int):(f190 (cp rI (fn,y.1,y.2.1,y.2.2.1,y.2.2.2.1,y.2.2.2.2.1,y.2.2.2.2.2.1,y.2.2.2.2.2.2.1,y.2.2.2.2.2.2.2.1,y.2.2.2.2.2.2.2.2.1,y.2.2.2.2.2.2.2.2.2.1,y.2.2.2.2.2.2.2.2.2.2.1,n,i,()))).val=
 bif decide (i<n)then cz (decide (i<9223372036854775808)&&decide (y.2.1.length<=1099511627776)) (bif !jh y.1 (jj y.2.1 y.2.2.1 i)then some (Rs.out 1 (cp qv (false,())))else some (Rs.next (cp rI (fn,y.1,y.2.1,y.2.2.1,y.2.2.2.1,y.2.2.2.2.1,y.2.2.2.2.2.1,y.2.2.2.2.2.2.1,y.2.2.2.2.2.2.2.1,y.2.2.2.2.2.2.2.2.1,y.2.2.2.2.2.2.2.2.2.1,y.2.2.2.2.2.2.2.2.2.2.1,n,iA .i64 i 1,()))))else some (Rs.out 0 (cp py (fn,y.1,y.2.1,y.2.2.1,y.2.2.2.1,y.2.2.2.2.1,y.2.2.2.2.2.1,y.2.2.2.2.2.2.1,y.2.2.2.2.2.2.2.1,y.2.2.2.2.2.2.2.2.1,y.2.2.2.2.2.2.2.2.2.1,y.2.2.2.2.2.2.2.2.2.2.1,()))):=by
 refine Eq.trans (aek true fn y hT.symm n i) ?_
 kernel_rfl
theorem Z0(fn:Int)(y:cb tM)(L:List (den cq))(n i:Int)(x:den cq)(hx:x=L.getD i.toNat (cr cq)):(f192 (cp ub (fn,y.1,y.2.1,y.2.2.1,y.2.2.2.1,y.2.2.2.2.1,y.2.2.2.2.2.1,y.2.2.2.2.2.2.1,y.2.2.2.2.2.2.2.1,y.2.2.2.2.2.2.2.2.1,y.2.2.2.2.2.2.2.2.2.1,y.2.2.2.2.2.2.2.2.2.2.1,L,n,i,()))).val=
 bif decide (i<n)then cz (ij i (L.length:Int)) (bif (bif !decide (x.2= -1)then decide (x.2<x.1)else false)then some (Rs.out 1 (cp sD (false,())))else some (Rs.next (cp ub (fn,y.1,y.2.1,y.2.2.1,y.2.2.2.1,y.2.2.2.2.1,y.2.2.2.2.2.1,y.2.2.2.2.2.2.1,y.2.2.2.2.2.2.2.1,y.2.2.2.2.2.2.2.2.1,y.2.2.2.2.2.2.2.2.2.1,y.2.2.2.2.2.2.2.2.2.2.1,L,n,iA .i64 i 1,()))))else some (Rs.out 0 (cp qw (fn,y.1,y.2.1,y.2.2.1,y.2.2.2.1,y.2.2.2.2.1,y.2.2.2.2.2.1,y.2.2.2.2.2.2.1,y.2.2.2.2.2.2.2.1,y.2.2.2.2.2.2.2.2.1,y.2.2.2.2.2.2.2.2.2.1,y.2.2.2.2.2.2.2.2.2.2.1,()))):=by
 subst hx
 kernel_rfl
theorem Z1(fn:Int)(y:cb tM)(L:List (den cI))(n i:Int)(x:den cI)(hx:x=L.getD i.toNat (cr cI)):(f194 (cp uc (fn,y.1,y.2.1,y.2.2.1,y.2.2.2.1,y.2.2.2.2.1,y.2.2.2.2.2.1,y.2.2.2.2.2.2.1,y.2.2.2.2.2.2.2.1,y.2.2.2.2.2.2.2.2.1,y.2.2.2.2.2.2.2.2.2.1,y.2.2.2.2.2.2.2.2.2.2.1,L,n,i,()))).val=
 bif decide (i<n)then cz (ij i (L.length:Int)) (bif !yQ x.2.2 x.1 then some (Rs.out 1 (cp sE (false,())))else some (Rs.next (cp uc (fn,y.1,y.2.1,y.2.2.1,y.2.2.2.1,y.2.2.2.2.1,y.2.2.2.2.2.1,y.2.2.2.2.2.2.1,y.2.2.2.2.2.2.2.1,y.2.2.2.2.2.2.2.2.1,y.2.2.2.2.2.2.2.2.2.1,y.2.2.2.2.2.2.2.2.2.2.1,L,n,iA .i64 i 1,()))))else some (Rs.out 0 (cp qx (fn,y.1,y.2.1,y.2.2.1,y.2.2.2.1,y.2.2.2.2.1,y.2.2.2.2.2.1,y.2.2.2.2.2.2.1,y.2.2.2.2.2.2.2.1,y.2.2.2.2.2.2.2.2.1,y.2.2.2.2.2.2.2.2.2.1,y.2.2.2.2.2.2.2.2.2.2.1,()))):=by
 subst hx
 kernel_rfl
end Go.Proofs.Vd

noncomputable section
namespace Go.Proofs.Vd
open Go.Ab Go.Ab.Lf
set_option maxRecDepth 100000
theorem XM(y:cb tM)(fn:Int)(hf:iA .i64 (y.2.1.length:Int) (y.2.2.1.length:Int)=fn)(a:cb rI)(ha:a=(fn,y.1,y.2.1,y.2.2.1,y.2.2.2.1,y.2.2.2.2.1,y.2.2.2.2.2.1,y.2.2.2.2.2.2.1,y.2.2.2.2.2.2.2.1,y.2.2.2.2.2.2.2.2.1,y.2.2.2.2.2.2.2.2.2.1,y.2.2.2.2.2.2.2.2.2.2.1,fn,0,()))(z:cb py)(hz:z=oG f190 rI py a)
 (L:List (den cq))(hL:L=(m55 ([z.2.2.2.2.1,z.2.2.2.2.2.1],())).1)(b:cb ub)(hb:b=(z.1,z.2.1,z.2.2.1,z.2.2.2.1,z.2.2.2.2.1,z.2.2.2.2.2.1,z.2.2.2.2.2.2.1,z.2.2.2.2.2.2.2.1,z.2.2.2.2.2.2.2.2.1,z.2.2.2.2.2.2.2.2.2.1,z.2.2.2.2.2.2.2.2.2.2.1,z.2.2.2.2.2.2.2.2.2.2.2.1,L,(L.length:Int),0,()))(u:cb qw)(hu:u=oG f192 ub qw b)
 (c:cb uc)(hc:c=(u.1,u.2.1,u.2.2.1,u.2.2.2.1,u.2.2.2.2.1,u.2.2.2.2.2.1,u.2.2.2.2.2.2.1,u.2.2.2.2.2.2.2.1,u.2.2.2.2.2.2.2.2.1,u.2.2.2.2.2.2.2.2.2.1,u.2.2.2.2.2.2.2.2.2.2.1,u.2.2.2.2.2.2.2.2.2.2.2.1,u.2.2.2.2.2.2.1,(u.2.2.2.2.2.2.1.length:Int),0,()))(v:cb qx)(hv:v=oG f194 uc qx c):(t19 (y.1,y.2.1,y.2.2.1,y.2.2.2.1,y.2.2.2.2.1,y.2.2.2.2.2.1,y.2.2.2.2.2.2.1,y.2.2.2.2.2.2.2.1,y.2.2.2.2.2.2.2.2.1,y.2.2.2.2.2.2.2.2.2.1,y.2.2.2.2.2.2.2.2.2.2.1,())).val=
 cz (DN f190 rI py qv a) (bif BO f190 rI a then(
  bif (bif decide (1<(z.2.2.2.2.1.length:Int))then true else decide (1<(z.2.2.2.2.2.1.length:Int)))then some (cp yR (false,()))else
  cz (k55 ([z.2.2.2.2.1,z.2.2.2.2.2.1],())) (cz (DN f192 ub qw sD b) (bif BO f192 ub b then(
   cz (bif decide ((u.2.2.2.2.2.1.length:Int)=1)then ij 0 (u.2.2.2.2.2.1.length:Int)else true) (bif (bif decide ((u.2.2.2.2.2.1.length:Int)=1)then decide (65536<(u.2.2.2.2.2.1.getD 0 (cr cq)).2)else false)then some (cp yR (false,()))else
   cz (DN f194 uc qx sE c) (bif BO f194 uc c then(
    cz (Q3 (v.2.1,v.2.2.1,v.2.2.2.1,v.2.2.2.2.1,v.2.2.2.2.2.1,v.2.2.2.2.2.2.1,v.2.2.2.2.2.2.2.1,v.2.2.2.2.2.2.2.2.1,v.2.2.2.2.2.2.2.2.2.1,v.2.2.2.2.2.2.2.2.2.2.1,v.2.2.2.2.2.2.2.2.2.2.2.1,v.1,())) (bif mNm (v.2.1,v.2.2.1,v.2.2.2.1,v.2.2.2.2.1,v.2.2.2.2.2.1,v.2.2.2.2.2.2.1,v.2.2.2.2.2.2.2.1,v.2.2.2.2.2.2.2.2.1,v.2.2.2.2.2.2.2.2.2.1,v.2.2.2.2.2.2.2.2.2.2.1,v.2.2.2.2.2.2.2.2.2.2.2.1,v.1,())then cz (k58 (v.2.1,v.2.2.1,v.2.2.2.1,v.2.2.2.2.1,v.2.2.2.2.2.1,v.2.2.2.2.2.2.1,v.2.2.2.2.2.2.2.1,v.2.2.2.2.2.2.2.2.1,v.2.2.2.2.2.2.2.2.2.1,v.2.2.2.2.2.2.2.2.2.2.1,v.2.2.2.2.2.2.2.2.2.2.2.1,v.1,())) (some (cp yR ((m58 (v.2.1,v.2.2.1,v.2.2.2.1,v.2.2.2.2.1,v.2.2.2.2.2.1,v.2.2.2.2.2.2.1,v.2.2.2.2.2.2.2.1,v.2.2.2.2.2.2.2.2.1,v.2.2.2.2.2.2.2.2.2.1,v.2.2.2.2.2.2.2.2.2.2.1,v.2.2.2.2.2.2.2.2.2.2.2.1,v.1,())).1,())))else some (cp yR (false,()))))
   else some (cp yR ((oG f194 uc sE c).1,())))))
  else some (cp yR ((oG f192 ub sD b).1,())))))
 else some (cp yR ((oG f190 rI qv a).1,()))):=by
 subst hv;subst hc;subst hu;subst hb;subst hL;subst hz;subst ha;subst hf
 kernel_rfl
theorem aiL(y:cb tM)(n i:Int):(f8x (cp D5 (y.1,y.2.1,y.2.2.1,y.2.2.2.1,y.2.2.2.2.1,y.2.2.2.2.2.1,y.2.2.2.2.2.2.1,y.2.2.2.2.2.2.2.1,y.2.2.2.2.2.2.2.2.1,y.2.2.2.2.2.2.2.2.2.1,y.2.2.2.2.2.2.2.2.2.2.1,n,i,()))).val=
 bif decide (i<n)then cz (k20 (y.1,y.2.1,y.2.2.1,y.2.2.2.1,y.2.2.2.2.1,y.2.2.2.2.2.1,y.2.2.2.2.2.2.1,y.2.2.2.2.2.2.2.1,y.2.2.2.2.2.2.2.2.1,y.2.2.2.2.2.2.2.2.2.1,y.2.2.2.2.2.2.2.2.2.2.1,i,())) (bif !(m20 (y.1,y.2.1,y.2.2.1,y.2.2.2.1,y.2.2.2.2.1,y.2.2.2.2.2.1,y.2.2.2.2.2.2.1,y.2.2.2.2.2.2.2.1,y.2.2.2.2.2.2.2.2.1,y.2.2.2.2.2.2.2.2.2.1,y.2.2.2.2.2.2.2.2.2.2.1,i,())).2.1 then some (Rs.out 1 (cp vE (12,())))else some (Rs.next (cp D5 (y.1,y.2.1,y.2.2.1,y.2.2.2.1,y.2.2.2.2.1,y.2.2.2.2.2.1,y.2.2.2.2.2.2.1,y.2.2.2.2.2.2.2.1,y.2.2.2.2.2.2.2.2.1,y.2.2.2.2.2.2.2.2.2.1,y.2.2.2.2.2.2.2.2.2.2.1,n,iA .i64 i 1,()))))else some (Rs.out 0 (cp xW ())):=by kernel_rfl
theorem eq8(V:ByteArray->Bool)(y:cb tM):(t8 V (y.1,y.2.1,y.2.2.1,y.2.2.2.1,y.2.2.2.2.1,y.2.2.2.2.2.1,y.2.2.2.2.2.2.1,y.2.2.2.2.2.2.2.1,y.2.2.2.2.2.2.2.2.1,y.2.2.2.2.2.2.2.2.2.1,y.2.2.2.2.2.2.2.2.2.2.1,())).val=
 cz (Is V (y.1,y.2.1,y.2.2.1,y.2.2.2.1,y.2.2.2.2.1,y.2.2.2.2.2.1,y.2.2.2.2.2.2.1,y.2.2.2.2.2.2.2.1,y.2.2.2.2.2.2.2.2.1,y.2.2.2.2.2.2.2.2.2.1,y.2.2.2.2.2.2.2.2.2.2.1,())) (bif !decide (rE V (y.1,y.2.1,y.2.2.1,y.2.2.2.1,y.2.2.2.2.1,y.2.2.2.2.2.1,y.2.2.2.2.2.2.1,y.2.2.2.2.2.2.2.1,y.2.2.2.2.2.2.2.2.1,y.2.2.2.2.2.2.2.2.2.1,y.2.2.2.2.2.2.2.2.2.2.1,())=0)then some (cp XB (rE V (y.1,y.2.1,y.2.2.1,y.2.2.2.1,y.2.2.2.2.1,y.2.2.2.2.2.1,y.2.2.2.2.2.2.1,y.2.2.2.2.2.2.2.1,y.2.2.2.2.2.2.2.2.1,y.2.2.2.2.2.2.2.2.2.1,y.2.2.2.2.2.2.2.2.2.2.1,()),()))else cz (k19 (y.1,y.2.1,y.2.2.1,y.2.2.2.1,y.2.2.2.2.1,y.2.2.2.2.2.1,y.2.2.2.2.2.2.1,y.2.2.2.2.2.2.2.1,y.2.2.2.2.2.2.2.2.1,y.2.2.2.2.2.2.2.2.2.1,y.2.2.2.2.2.2.2.2.2.2.1,())) (bif !(m19 (y.1,y.2.1,y.2.2.1,y.2.2.2.1,y.2.2.2.2.1,y.2.2.2.2.2.1,y.2.2.2.2.2.2.1,y.2.2.2.2.2.2.2.1,y.2.2.2.2.2.2.2.2.1,y.2.2.2.2.2.2.2.2.2.1,y.2.2.2.2.2.2.2.2.2.2.1,())).1 then some (cp XB (12,()))else
  cz (DN f8x D5 xW vE (y.1,y.2.1,y.2.2.1,y.2.2.2.1,y.2.2.2.2.1,y.2.2.2.2.2.1,y.2.2.2.2.2.2.1,y.2.2.2.2.2.2.2.1,y.2.2.2.2.2.2.2.2.1,y.2.2.2.2.2.2.2.2.2.1,y.2.2.2.2.2.2.2.2.2.2.1,(y.2.2.2.2.2.2.2.2.2.1.length:Int),0,())) (bif BO f8x D5 (y.1,y.2.1,y.2.2.1,y.2.2.2.1,y.2.2.2.2.1,y.2.2.2.2.2.1,y.2.2.2.2.2.2.1,y.2.2.2.2.2.2.2.1,y.2.2.2.2.2.2.2.2.1,y.2.2.2.2.2.2.2.2.2.1,y.2.2.2.2.2.2.2.2.2.2.1,(y.2.2.2.2.2.2.2.2.2.1.length:Int),0,())then some (cp XB (0,()))else some (cp XB ((oG f8x D5 vE (y.1,y.2.1,y.2.2.1,y.2.2.2.1,y.2.2.2.2.1,y.2.2.2.2.2.1,y.2.2.2.2.2.2.1,y.2.2.2.2.2.2.2.1,y.2.2.2.2.2.2.2.2.1,y.2.2.2.2.2.2.2.2.2.1,y.2.2.2.2.2.2.2.2.2.2.1,(y.2.2.2.2.2.2.2.2.2.1.length:Int),0,())).1,()))))):=by kernel_rfl
end Go.Proofs.Vd

noncomputable section
namespace Go.Proofs.Vd
open Go.Ab Go.Ab.Lf
set_option maxRecDepth 100000
abbrev zb(x:Int)(r:Bool):Bool:=bif decide (x=0)then r else false
theorem ael(o a b lo hi:Int)(l:List Int)(f:Int)(h:(A1 (o,a,b,lo,hi,l,f,())).1=true):f=4∨l=[]:=by
 by_cases h4:f=4
 ·exact .inl h4
 ·refine .inr ?_
  have e:(kO (Ps [pI,.n .i64]) [] (Ps [.bo]) (fun _=>none) Tryz.acd 3 (je [] 3) (cp t87 (o,a,b,lo,hi,l,f,()))).val=
   (let R:=fun(x:Bool)=>some (cp [.bool] (x,()))
   bif (bif !decide (f=4)then decide (0<(l.length:Int))else false)then R false else
   bif decide (f=2)then R (zb b (zb lo (decide (hi=0))))else bif decide (f=3)then R (zb b (zb lo (decide (hi=0))))else bif decide (f=5)then R (zb b (zb lo (decide (hi=0))))else bif decide (f=4)then R (zb b (zb lo (decide (hi=0))))else bif decide (f=13)then R (zb b (zb lo (decide (hi=0))))else
   bif decide (f=6)then R (zb lo (decide (hi=0)))else bif decide (f=7)then R (zb lo (decide (hi=0)))else
   bif decide (f=8)then R (decide (hi=0))else
   bif decide (f=9)then R (zb a (zb b (decide (hi=0))))else bif decide (f=10)then R (zb a (zb b (decide (hi=0))))else
   bif decide (f=11)then R (zb a (zb b true))else bif decide (f=12)then R (zb a (zb b true))else R (zb a (zb b (zb lo (decide (hi=0)))))):=by kernel_rfl
  cases l with
  |nil=>rfl
  |cons x l=>
   exfalso
   have c:(bif !decide (f=4)then decide (0<((x::l).length:Int))else false)=true:=by
    rw[decide_eq_false h4]
    exact decide_eq_true (by simp only[List.length_cons];omega)
   dsimp only at e
   rw[c,cond_true]at e
   have:=(mT (to:=[.bool]) (y:=(false,())) e).2
   unfold A1 at h
   rw[this]at h
   cases h
theorem cP{α:Type}{c:Bool}{x:Option α}{y:α}(h:cz c x=some y):c=true/\x=some y:=by
 unfold cz at h
 cases c with
 |true=>exact⟨rfl,h⟩
 |false=>cases h
theorem XN(l:List Int): ∀ (s:List Int) (k:Bool),(tW (s,k) l).2=(k&&l.all nI)/\s.length+l.length<=(tW (s,k) l).1.length:=by
 induction l with
 |nil=>intro s k;exact⟨by simp[tW],by simp[tW]⟩
 |cons x l ih=>
  intro s k
  obtain⟨h1,h2⟩:=ih (s++mH (cE .u64 x)) (bif k then nI x else false)
  have e:tW (s,k) (x::l)=tW (s++mH (cE .u64 x),bif k then nI x else false) l:=rfl
  have hp:1<=(mH (cE .u64 x)).length:=by unfold mH;simp
  rw[e]
  refine⟨?_,?_⟩
  ·rw[h1,List.all_cons]
   cases k<;>cases nI x<;>rfl
  ·rw[List.length_append]at h2
   simp only[List.length_cons]
   omega
theorem ud{n:Int}(h:nI n=true):0<=n/\n<4294967296:=by
 unfold nI at h
 rw[Bool.cond_false_right,Bool.and_eq_true,decide_eq_true_eq,decide_eq_true_eq]at h
 exact h
theorem XO{p:List Int}{o a b lo hi:Int}{l B:List Int}(hp:1<=p.length)(h:u4 Prod.mk p o a b lo hi l=some (B,true)):
 (∀ f,f=(kM o).1->(f=3∨f=4∨f=5∨f=6)->0<=a/\a<4294967296)/\((kM o).1=4-> ∀ x,x∈l->(0:Int)<=x)/\1<=B.length/\((kM o).1=4->l.length<=B.length):=by
 unfold u4 at h
 dsimp only at h
 obtain⟨f,hf⟩: ∃ f:Int,(kM o).1=f:=⟨_,rfl⟩
 rw[hf]at h ⊢
 have no: ∀ (g:Int),g=f->(g=3∨g=4∨g=5∨g=6)-> ¬ (f=3∨f=4∨f=5∨f=6)->False:=fun g hg k c=>by subst hg;exact c k
 have M9:f=4-> ¬ f=4->False:=fun k c=>c k
 have base: ∀ {u:List Int} {v:Bool},some (app p u,v)=some (B,true)->v=true/\1<=B.length:=by
  intro u v e
  cases e
  exact⟨rfl,by rw[cX,List.length_append];omega⟩
 by_cases f1:f=1
 ·rw[decide_eq_true f1]at h
  cases h
  exact⟨fun g hg k=>(no g hg k (by omega)).elim,fun k=>(M9 k (by omega)).elim,hp,fun k=>(M9 k (by omega)).elim⟩
 rw[decide_eq_false f1,cond_false]at h
 by_cases f2:f=2
 ·rw[decide_eq_true f2,cond_true]at h
  have hB:1<=B.length:=by
   have one: ∀ {u:List Int},cz (roomy 1 (p.length+1)) (some (app p u,true))=some (B,true)->1<=B.length:=fun e=>(base (cP e).2).2
   cases d1:decide (a= -64)with
   |true=>rw[d1]at h;exact(base (cP h).2).2
   |false=>
    rw[d1,cond_false]at h
    cases d2:decide (a= -1)with
    |true=>rw[d2]at h;exact(base (cP h).2).2
    |false=>
     rw[d2,cond_false]at h
     cases d3:decide (a= -2)with
     |true=>rw[d3]at h;exact(base (cP h).2).2
     |false=>
      rw[d3,cond_false]at h
      cases d4:decide (a= -5)with
      |true=>rw[d4]at h;exact(base (cP h).2).2
      |false=>
       rw[d4,cond_false]at h
       exact(base (cP (cP (cP (cP h).2).2).2).2).2
  exact⟨fun g hg k=>(no g hg k (by omega)).elim,fun k=>(M9 k (by omega)).elim,hB,fun k=>(M9 k (by omega)).elim⟩
 rw[decide_eq_false f2,cond_false]at h
 by_cases f3:f=3
 ·rw[decide_eq_true f3,cond_true]at h
  obtain⟨q1,q2⟩:=base (cP (cP h).2).2
  exact⟨fun g hg k=>ud q1,fun k=>(M9 k (by omega)).elim,q2,fun k=>(M9 k (by omega)).elim⟩
 rw[decide_eq_false f3,cond_false]at h
 by_cases f5:f=5
 ·rw[decide_eq_true f5,cond_true]at h
  obtain⟨q1,q2⟩:=base (cP (cP h).2).2
  exact⟨fun g hg k=>ud q1,fun k=>(M9 k (by omega)).elim,q2,fun k=>(M9 k (by omega)).elim⟩
 rw[decide_eq_false f5,cond_false]at h
 by_cases f4:f=4
 ·rw[decide_eq_true f4,cond_true]at h
  have h:=(cP (cP (cP (cP h).2).2).2).2
  obtain⟨t1,t2⟩:=XN l (app p (mH (cE .u64 (Int.ofNat l.length)))) (A0 o)
  cases ht:(tW (app p (mH (cE .u64 (Int.ofNat l.length))),A0 o) l).2 with
  |false=>rw[ht]at h;cases h
  |true=>
   rw[ht,cond_true]at h
   have hB:(tW (app p (mH (cE .u64 (Int.ofNat l.length))),A0 o) l).1.length<=B.length/\nI a=true:=by
    injection h with h
    have e1:app _ _=B:=congrArg Prod.fst h
    have e2:nI a=true:=congrArg Prod.snd h
    exact⟨by rw[<-e1];simp only[cX,List.length_append];omega,e2⟩
   rw[ht]at t1
   have t1:=t1.symm
   rw[Bool.and_eq_true,List.all_eq_true]at t1
   have hpl:1<=(app p (mH (cE .u64 (Int.ofNat l.length)))).length:=by rw[cX,List.length_append];omega
   exact⟨fun g hg k=>ud hB.2,fun k x hx=>(ud (t1.2 x hx)).1,by omega,fun _=>by omega⟩
 rw[decide_eq_false f4,cond_false]at h
 by_cases f6:f=6
 ·rw[decide_eq_true f6,cond_true]at h
  have h:=(cP (cP (cP (cP (cP (cP (cP h).2).2).2).2).2).2).2
  cases hn:nI a with
  |false=>rw[hn]at h;cases h
  |true=>
   rw[hn,cond_true]at h
   have hB:1<=B.length:=by
    injection h with h
    have e1:app (app p _) _=B:=congrArg Prod.fst h
    rw[<-e1]
    simp only[cX,List.length_append]
    omega
   exact⟨fun g hg k=>ud hn,fun k=>(M9 k (by omega)).elim,hB,fun k=>(M9 k (by omega)).elim⟩
 rw[decide_eq_false f6,cond_false]at h
 have hB:1<=B.length:=by
  by_cases f7:f=7
  ·rw[decide_eq_true f7,cond_true]at h
   have h:=(cP (cP (cP (cP (cP (cP (cP h).2).2).2).2).2).2).2
   cases hn:nI a with
   |false=>rw[hn]at h;cases h
   |true=>
    rw[hn,cond_true]at h
    injection h with h
    have e1:app (app p _) _=B:=congrArg Prod.fst h
    rw[<-e1]
    simp only[cX,List.length_append]
    omega
  rw[decide_eq_false f7,cond_false]at h
  by_cases f8:f=8
  ·rw[decide_eq_true f8,cond_true]at h
   have h:=(cP (cP (cP (cP (cP (cP h).2).2).2).2).2).2
   cases hn:nI a with
   |false=>rw[hn]at h;cases h
   |true=>
    rw[hn,cond_true]at h
    cases hm:nI b with
    |false=>rw[hm]at h;cases h
    |true=>
     rw[hm,cond_true]at h
     injection h with h
     have e1:app (app (app p _) _) _=B:=congrArg Prod.fst h
     rw[<-e1]
     simp only[cX,List.length_append]
     omega
  rw[decide_eq_false f8,cond_false]at h
  have h:=(cP h).2
  injection h with h
  have e1:p++_=B:=congrArg Prod.fst h
  rw[<-e1]
  rw[List.length_append]
  omega
 exact⟨fun g hg k=>(no g hg k (by omega)).elim,fun k=>(M9 k (by omega)).elim,hB,fun k=>(M9 k (by omega)).elim⟩
theorem Rj{p:List Int}{o a b lo hi:Int}{l B:List Int}(h:u4 Prod.mk p o a b lo hi l=some (B,true))(f2:(kM o).1=2):BkA a:=by
 unfold u4 at h
 dsimp only at h
 rw[f2]at h
 have h:(bif decide (a= -64)then _ else bif decide (a= -1)then _ else bif decide (a= -2)then _ else bif decide (a= -5)then _ else cz _ (cz _ (cz _ (cz _ (some (app p (pe a),nI a))))))=some (B,true):=h
 by_cases e1:a= -64
 ·exact .inl e1
 by_cases e2:a= -1
 ·exact .inr (.inl e2)
 by_cases e3:a= -2
 ·exact .inr (.inr (.inl e3))
 by_cases e4:a= -5
 ·exact .inr (.inr (.inr (.inl e4)))
 rw[decide_eq_false e1,decide_eq_false e2,decide_eq_false e3,decide_eq_false e4]at h
 simp only[cond_false]at h
 have e:=(cP (cP (cP (cP h).2).2).2).2
 injection e with e
 have e:nI a=true:=congrArg Prod.snd e
 unfold nI at e
 by_cases e5:(0:Int)<=a
 ·exact .inr (.inr (.inr (.inr e5)))
 ·rw[decide_eq_false e5]at e
  cases e
theorem Rk{x:den tI}(hI:okI (mI x)=true)(h:(lz (mI x)).2=true):A0 x.1=true/\((kM x.1).1=4∨x.2.2.2.2.2=[])/\(∀ f,f=(kM x.1).1->(f=3∨f=4∨f=5∨f=6)->(0:Int)<=x.2.1/\(x.2.1:Int)<4294967296)/\((kM x.1).1=4-> ∀ l,l∈x.2.2.2.2.2->(0:Int)<=l)/\1<=(lz (mI x)).1.length/\((kM x.1).1=4->List.length x.2.2.2.2.2<=(lz (mI x)).1.length)/\((kM x.1).1=2->BkA x.2.1):=by
 have e:=(zt hI).2 (List Int×Bool) Prod.mk
 rw[h]at e
 have e:u5 Prod.mk x.1 x.2.1 x.2.2.1 x.2.2.2.1 x.2.2.2.2.1 x.2.2.2.2.2=some ((lz (mI x)).1,true):=e
 unfold u5 at e
 dsimp only at e
 cases h1:A0 x.1 with
 |false=>
  rw[h1]at e
  injection e with e
  have e2:false=true:=congrArg Prod.snd e
  cases e2
 |true=>
  rw[h1]at e
  simp only[Bool.not_true,cond_false]at e
  cases h2:(A1 (x.1,x.2.1,x.2.2.1,x.2.2.2.1,x.2.2.2.2.1,x.2.2.2.2.2,(kM x.1).1,())).1 with
  |false=>
   rw[h2]at e
   injection e with e
   have e2:false=true:=congrArg Prod.snd e
   cases e2
  |true=>
   rw[h2]at e
   simp only[Bool.not_true,cond_false]at e
   have hr:=ael _ _ _ _ _ _ _ h2
   have hT: ∃ p:List Int,1<=p.length/\u4 Prod.mk p x.1 x.2.1 x.2.2.1 x.2.2.2.1 x.2.2.2.2.1 x.2.2.2.2.2=some ((lz (mI x)).1,true):=by
    cases hd:decide (64768<=x.1)with
    |true=>
     rw[hd]at e
     exact⟨_,by rw[cX,List.length_append];simp,(cP (cP (cP e).2).2).2⟩
    |false=>
     rw[hd]at e
     exact⟨_,by simp,(cP e).2⟩
   obtain⟨p,p1,p2⟩:=hT
   obtain⟨q1,q2,q3,q4⟩:=XO p1 p2
   exact⟨rfl,hr,q1,q2,q3,q4,Rj p2⟩
end Go.Proofs.Vd

noncomputable section
namespace Go.Proofs.Vd
open Go.Ab Go.Ab.Lf
set_option maxRecDepth 100000
theorem Rl(x:den tI)(c:List (den tI))(out:List Int):su (x::c) out=bif (lz (mI x)).2 then su c (out++(lz (mI x)).1)else none:=by
 show kY BU some (x::c) out=_
 rw[kY]
 unfold BU
 cases(lz (mI x)).2<;>rfl
theorem Rm: ∀ (c:List (den tI)) (out B:List Int),Ij c=true->su c out=some B->(∀ x,x∈c->(lz (mI x)).2=true)/\out.length+c.length<=B.length/\ ∀ x,x∈c->List.length x.2.2.2.2.2<=B.length
 | [],out,B,_,h=>by cases h;exact⟨(fun x hx=>by cases hx),(by simp),(fun x hx=>by cases hx)⟩
 |x::c,out,B,hc,h=>by
  obtain⟨h1,h2⟩:=nc hc
  rw[Rl]at h
  cases hp:(lz (mI x)).2 with
  |false=>rw[hp]at h;cases h
  |true=>
   rw[hp,cond_true]at h
   obtain⟨a,b,d⟩:=Rm c _ B h2 h
   obtain⟨_,p2,_,_,p5,p6,_⟩:=Rk h1 hp
   rw[List.length_append]at b
   refine⟨fun z hz=>?_,by simp only[List.length_cons];omega,fun z hz=>?_⟩
   ·rcases List.mem_cons.1 hz with e|e
    ·subst e;exact hp
    ·exact a z e
   ·rcases List.mem_cons.1 hz with e|e
    ·subst e
     rcases p2 with p2|p2
     ·have:=p6 p2;omega
     ·rw[p2];exact Nat.zero_le _
    ·exact d z e
theorem aiM{c:List (den tI)}(hc:sw c=true)(h:rz c=0)(hl:(ry c).length<=1048576):BOk c/\XH [] c:=by
 have hi:Ij c=true:=by simp only[sw,Bool.and_eq_true]at hc;exact hc.1
 unfold rz at h
 unfold ry at hl
 cases ho:Ik c with
 |none=>rw[ho]at h;cases h
 |some B=>
  rw[ho]at hl
  have hl:B.length<=1048576:=hl
  unfold Ik at ho
  cases kj:lY c with
  |false=>rw[kj]at ho;cases ho
  |true=>
   rw[kj,cond_true]at ho
   obtain⟨a,b,d⟩:=Rm c [] B hi ho
   refine⟨⟨fun x hx=>?_,by simp only[List.length_nil]at b;omega⟩,?_⟩
   ·obtain⟨p1,p2,p3,p4,_,_,p7⟩:=Rk (rJ hi x hx) (a x hx)
    exact⟨p3,p4,by have:=d x hx;omega,p1,p7⟩
   ·unfold lY Gg at kj
    unfold XH
    cases hf:kY AY (fun _=>(none:Option Bool)) c []with
    |none=>rw[hf]at kj;cases kj
    |some t=>rw[hf]at kj;exact congrArg some kj
theorem oc{t:Ty}{A:Item (den t)}{B:CG A}{most:Int}{l:List (den t)}(h:kS B most l=true):(l.length:Int)<=most/\ ∀ x,x∈l->B.p x=true:=by
 unfold kS at h
 rw[Bool.and_eq_true]at h
 refine⟨of_decide_eq_true h.1,fun x hx=>?_⟩
 have h2:=h.2
 have nd: ¬ (l.length:Int)=0:=by
  have:=List.length_pos_of_mem hx
  omega
 rw[decide_eq_false nd,cond_false,Bool.and_eq_true,Bool.and_eq_true,List.all_eq_true]at h2
 exact h2.1.2 x hx
theorem Rp{t:Ty}{A:Item (den t)}{B:CG A}{id:Int}{l:List (den t)}{x:den t}(hx:x∈l):(B.bs x).length<=(rH B id l).length:=by
 have h1: ∀ l:List (den t),x∈l->(B.bs x).length<=(wY B l).length:=by
  intro l
  induction l with
  |nil=>intro h;cases h
  |cons a l ih=>
   intro h
   show _<=(B.bs a++wY B l).length
   rw[List.length_append]
   rcases List.mem_cons.1 h with e|e
   ·subst e;omega
   ·have:=ih e;omega
 have h2:=h1 l hx
 have nd: ¬ (l.length:Int)=0:=by
  have:=List.length_pos_of_mem hx
  omega
 unfold rH
 rw[decide_eq_false nd,cond_false]
 simp only[List.length_cons,List.length_append]
 omega
theorem CJ(L:List Int)(i:Nat): ∀ (k n t:Nat),(∀ t,1<=t->t<n->L.getD (i+t) (cr i64)=L.getD i (cr i64))->1<=t->t<rD L i k n->L.getD (i+t) (cr i64)=L.getD i (cr i64)
 |0,n,t,h,a,b=>h t a b
 |k+1,n,t,h,a,b=>by
  unfold rD at b
  split at b
  ·rename_i hc
   refine CJ L i k (n+1) t (fun t a b=>?_) a b
   by_cases e:t=n
   ·subst e;exact hc.2
   ·exact h t a (by omega)
  ·exact h t a b
theorem Rq(L:List Int): ∀ (k i:Nat),L.length<=i+k->Gx L k i=true-> ∀ j,i<=j->j<L.length->uB (L.getD j (cr i64))=true
 |0,i,h,_,j,a,b=>by omega
 |k+1,i,h,hp,j,a,b=>by
  unfold Gx at hp
  rw[if_pos (by omega),Bool.and_eq_true,Bool.and_eq_true]at hp
  obtain⟨r1,r2⟩:=DV L i (by omega)
  by_cases e:j<i+kR L (i:Int)
  ·by_cases e2:j=i
   ·subst e2;exact hp.2.1
   ·have e3:kR L (i:Int)=rD L i L.length 1:=rfl
    have:=CJ L i L.length 1 (j - i) (fun t a b=>by omega) (by omega) (by omega)
    rw[show i+(j - i)=j by omega]at this
    rw[this]
    exact hp.2.1
  ·exact Rq L k (i+kR L (i:Int)) (by omega) hp.2.2 j (by omega) b
structure MOk(y:cb tM):Prop where
 ty:BW y
 tk: ∀ s:den cF,s∈y.1->List.all s.1 uB=true/\List.all s.2 uB=true
 lt:y.1.length<=512
 li:y.2.1.length<=512
 lf:y.2.2.1.length<=512
 lb:y.2.2.2.1.length<=512
 lm:y.2.2.2.2.1.length<=512
 lg:y.2.2.2.2.2.1.length<=512
 lx:y.2.2.2.2.2.2.1.length<=512
 le:y.2.2.2.2.2.2.2.2.1.length<=512
 lc:y.2.2.2.2.2.2.2.2.2.1.length<=512
 ld:y.2.2.2.2.2.2.2.2.2.2.1.length<=512
 fc:y.2.2.1.length=y.2.2.2.2.2.2.2.2.2.1.length
 cd: ∀ C:den cK,C∈y.2.2.2.2.2.2.2.2.2.1->K6 C/\List.all C.1 uB=true
 ex: ∀ e:den cQ,e∈y.2.2.2.2.2.2.1->(0:Int)<=e.2.1/\(e.2.1:Int)<=3
 st:(-1:Int)<=y.2.2.2.2.2.2.2.1/\(y.2.2.2.2.2.2.2.1:Int)<4294967296
 gk: ∀ g:den cI,g∈y.2.2.2.2.2.1->uB g.1=true
 el: ∀ e:den cJ,e∈y.2.2.2.2.2.2.2.2.1->List.length e.2<=1024
 x0:gNx y.2.2.2.2.2.2.1=true
theorem mok{V:ByteArray->Bool}{y:cb tM}(hE:Is V y=true)(hP:ZK V y=true)(hB:(enB V y).length<=1048576)(hx:gNx y.2.2.2.2.2.2.1=true):MOk y:=by
 have hM:ZD V y=true:=by unfold Is at hE;rw[Bool.and_eq_true]at hE;exact hE.1
 unfold ZD at hM
 simp only[Bool.and_eq_true]at hM
 obtain⟨_,_,_,_,_,g6,_,g8,g9,g10⟩:=hM
 unfold ZK at hP
 rw[Bool.and_eq_true,Bool.and_eq_true,Bool.and_eq_true]at hP
 obtain⟨p0,p1,p2,p3⟩:=hP
 unfold adH at p1
 unfold adJ at p3
 simp only[Bool.and_eq_true]at p1 p3
 obtain⟨a1,a2,a3,a4,a5,a6,a7⟩:=p1
 obtain⟨a9,a10,a11⟩:=p3
 have b1:=oc a1
 have b2:=oc a2
 have b3:=oc a3
 have b4:=oc a4
 have b5:=oc a5
 have b6:=oc a6
 have b7:=oc a7
 have b9:=oc a9
 have b10:=oc a10
 have b11:=oc a11
 have atg:(rH D2 10 y.2.2.2.2.2.2.2.2.2.1).length<=1048576:=by
  have:(enB V y).length=(adG V y).length+((stB y.2.2.2.2.2.2.2.1).length+(QV y).length):=by unfold enB;rw[List.length_append,List.length_append]
  have:(QV y).length=(rH L1 9 y.2.2.2.2.2.2.2.2.1).length+((rH D2 10 y.2.2.2.2.2.2.2.2.2.1).length+(rH L2 11 y.2.2.2.2.2.2.2.2.2.2.1).length):=by unfold QV;rw[List.length_append,List.length_append]
  omega
 have ty: ∀ s:den cF,s∈y.1->(List.length s.1<=32/\List.length s.2<=32)/\List.all s.1 uB=true/\List.all s.2 uB=true:=by
  intro s hs
  have h:=b1.2 s hs
  have h:(bif decide ((List.length s.1:Int)<=32)then decide ((List.length s.2:Int)<=32)&&(true&&([(List.length s.1:Int)].all lB&&(List.all s.1 uB&&([(List.length s.2:Int)].all lB&&List.all s.2 uB))))else false&&(true&&([(List.length s.1:Int)].all lB&&(List.all s.1 uB&&([(List.length s.2:Int)].all lB&&List.all s.2 uB)))))=true:=h
  by_cases q:(List.length s.1:Int)<=32
  ·rw[decide_eq_true q,cond_true]at h
   simp only[Bool.and_eq_true,decide_eq_true_eq]at h
   exact⟨⟨by omega,by have:=h.1;omega⟩,h.2.2.2.1,h.2.2.2.2.2⟩
  ·rw[decide_eq_false q]at h
   cases h
 refine⟨fun s hs=>(ty s hs).1,fun s hs=>(ty s hs).2,by omega,by omega,by omega,by omega,by omega,by omega,by omega,by omega,by omega,by omega,by have:=of_decide_eq_true p0;omega,fun C hC=>?_,fun e he=>?_,?_,fun g hg=>?_,fun e he=>?_,hx⟩
 ·have h:=b10.2 C hC
  have h:(decide ((List.length C.1:Int)<=512)&&(M8 C&&lB ((zx C).length:Int)))=true:=h
  rw[Bool.and_eq_true,Bool.and_eq_true]at h
  obtain⟨h1,h2,h3⟩:=h
  unfold M8 at h2
  rw[Bool.and_eq_true,Bool.and_eq_true]at h2
  have hl:(ry C.2).length<=1048576:=by
   have h4:(nb ((zx C).length:Int)++zx C).length<=_:=Rp (B:=D2) (id:=10) hC
   have h5:(zx C).length=(nb (jg C.1 0)).length+((D0 C.1 (List.length C.1) 0).length+(ry C.2).length):=by unfold zx;rw[List.length_append,List.length_append]
   rw[List.length_append]at h4
   omega
  have hok:sw C.2=true:=rJ g9 C hC
  obtain⟨q1,q2⟩:=aiM hok (of_decide_eq_true h2.2.2) hl
  refine⟨⟨q1,q2,by have:=of_decide_eq_true h1;omega⟩,?_⟩
  rw[List.all_eq_true]
  intro t ht
  obtain⟨j,hj,e⟩:=List.getElem_of_mem ht
  have:=Rq C.1 (List.length C.1) 0 (by omega) h2.2.1 j (Nat.zero_le _) hj
  rw[List.getD_eq_getElem?_getD,List.getElem?_eq_getElem hj]at this
  rw[<-e]
  exact this
 ·have h:=b7.2 e he
  have h:(bif decide ((0:Int)<=e.2.1)then decide ((e.2.1:Int)<=3)&&(p36 V e.1&&(true&&[e.2.2].all lB))else false&&(p36 V e.1&&(true&&[e.2.2].all lB)))=true:=h
  by_cases q:(0:Int)<=e.2.1
  ·rw[decide_eq_true q,cond_true,Bool.and_eq_true]at h
   exact⟨q,of_decide_eq_true h.1⟩
  ·rw[decide_eq_false q]at h
   cases h
 ·unfold stP at p2
  rw[Bool.and_eq_true]at p2
  refine⟨of_decide_eq_true p2.1,?_⟩
  by_cases q:(0:Int)<=y.2.2.2.2.2.2.2.1
  ·have h:=p2.2
   rw[decide_eq_true q,cond_true,Bool.and_eq_true]at h
   have h:=h.1
   unfold lB at h
   rw[Bool.and_eq_true]at h
   exact of_decide_eq_true h.2
  ·have key: ∀ a:Int,¬ 0<=a->a<4294967296:=fun a _=>by omega
   exact key _ q
 ·have h:=b6.2 g hg
  have h:([(g.1:Int)].all uB&&bif g.2.1 then true&&decide (rz g.2.2=0)else true&&decide (rz g.2.2=0))=true:=h
  rw[Bool.and_eq_true]at h
  have h:=h.1
  simpa using h
 ·have h:=b9.2 e he
  have h:(decide ((List.length e.2:Int)<=1024)&&_)=true:=h
  rw[Bool.and_eq_true]at h
  have:=of_decide_eq_true h.1
  omega
end Go.Proofs.Vd

noncomputable section
namespace Go.Proofs.Vd
open Go.Ab Go.Ab.Lf
set_option maxRecDepth 100000
theorem sH{α:Type}{f:List Pl->T Rs}{l:List α}(st:Nat->List Pl)(p:α->Bool)(o0 o1:List Pl)
 (wP: ∀ j x r,l.drop j=x::r->(f (st j)).val=some (bif p x then .next (st (j+1))else .out 1 o1))(DK:(f (st l.length)).val=some (.out 0 o0)):mm f (st 0) (bif l.all p then 0 else 1) (bif l.all p then o0 else o1):=by
 have key: ∀ (r:List α) (j:Nat),l.drop j=r->j<=l.length->mm f (st j) (bif r.all p then 0 else 1) (bif r.all p then o0 else o1):=by
  intro r
  induction r with
  |nil=>
   intro j h hj
   have:j=l.length:=by have:=List.drop_eq_nil_iff.1 h;omega
   subst this
   exact .last DK
  |cons x r ih=>
   intro j h hj
   have kC:j<l.length:=by
    rcases Nat.lt_or_ge j l.length with k|k
    ·exact k
    ·rw[List.drop_eq_nil_of_le k]at h;cases h
   have hr:l.drop (j+1)=r:=by rw[<-List.tail_drop,h];rfl
   have hs:=wP j x r h
   rw[List.all_cons]
   cases hp:p x with
   |true=>rw[hp]at hs;rw[Bool.true_and];exact .more hs (ih (j+1) hr kC)
   |false=>rw[hp]at hs;exact .last hs
 exact key l 0 rfl (Nat.zero_le _)
def rM(l:List (List (den cq))):Nat:=l.foldr (fun x n=>x.length+n) 0
theorem IL(l:List (List (den cq))): ∀ (s:List (den cq)),l.foldl (fun s x=>s++x) s=s++l.flatten:=by
 induction l with
 |nil=>intro s;simp
 |cons x l ih=>intro s;show l.foldl _ (s++x)=_;rw[ih];simp
theorem IM(l:List (List (den cq))): ∀ (s:Nat),l.foldl (fun s x=>s+x.length) s=s+rM l:=by
 induction l with
 |nil=>intro s;rfl
 |cons x l ih=>intro s;show l.foldl _ (s+x.length)=s+(x.length+rM l);rw[ih];omega
theorem aem(c:List (List (den cq)))(hc:c.length+rM c<=1073741824):mm IB (cp w8 (c,((0:Nat):Int),c,(c.length:Int),((0:Nat):Int),())) 0 (cp po (c,(rM c:Int),())):=by
 have r0:=LP (f:=IB) (l:=c) (fun(s:Nat) j=>cp w8 (c,(s:Int),c,(c.length:Int),(j:Int),())) (fun s x=>.inl (s+x.length)) (fun s=>(0,cp po (c,(s:Int),()))) (fun s r=>s+rM r<=1073741824) (fun s j x r e hi=>by
  obtain⟨e1,e2⟩:=iT e (cr (.ca cq))
  have e2:c.getD j (cr (.ca cq))=x:=e2
  have UY:s+(x.length+rM r)<=1073741824:=hi
  have C7:decide (((s+x.length:Nat):Int)<0)=false:=decide_eq_false (by omega)
  have hq:iA .i64 (s:Int) (x.length:Int)=((s+x.length:Nat):Int):=DI (by omega)
  refine⟨?_,fun s' e=>by cases e;exact(by omega:s+x.length+rM r<=1073741824)⟩
  rw[ZX c c (s:Int) (c.length:Int) (j:Int) ((s+x.length:Nat):Int) (by rw[Int.toNat_natCast,e2];exact hq.symm),jq e1,cond_true,D6 e1,C7,nQ (by omega)]
  rfl) (fun s j e hj _=>by
  have:j=c.length:=by have:=List.drop_eq_nil_iff.1 e;omega
  subst this
  rw[ZX c c (s:Int) (c.length:Int) (c.length:Int) _ rfl,iQ (Nat.le_refl _)]
  rfl) c 0 0 rfl (by omega) (by omega)
 rw[j8,IM,Nat.zero_add]at r0
 exact r0
theorem aen(c:List (List (den cq)))(hc:c.length+rM c<=1073741824):mm GA (cp u9 ([],c,(c.length:Int),((0:Nat):Int),())) 0 (cp pq (c.flatten,())):=by
 have r2:=LP (f:=GA) (l:=c) (fun(s:List (den cq)) j=>cp u9 (s,c,(c.length:Int),(j:Int),())) (fun s x=>.inl (s++x)) (fun s=>(0,cp pq (s,()))) (fun s r=>s.length+rM r<=1073741824) (fun s j x r e hi=>by
  obtain⟨e1,e2⟩:=iT e (cr (.ca cq))
  have e2:c.getD j (cr (.ca cq))=x:=e2
  have UY:s.length+(x.length+rM r)<=1073741824:=hi
  refine⟨?_,fun s' e=>by cases e;rw[List.length_append];omega⟩
  rw[ZY s c (c.length:Int) (j:Int) x (by rw[Int.toNat_natCast];exact e2.symm),jq e1,cond_true,D6 e1,iE (by omega) (by omega),cX,nQ (by omega)]
  rfl) (fun s j e hj _=>by
  have:j=c.length:=by have:=List.drop_eq_nil_iff.1 e;omega
  subst this
  rw[ZY s c (c.length:Int) (c.length:Int) _ rfl,iQ (Nat.le_refl _)]
  rfl) c 0 [] rfl (by omega) (by simp;omega)
 rw[j8,IL,List.nil_append]at r2
 exact r2
theorem aiO(c:List (List (den cq)))(hc:c.length+rM c<=1073741824):(t55 (c,())).val=some (cp IC (c.flatten,())):=by
 have v0:=ru (aem c hc)
 have v2:=ru (aen c hc)
 have hw:il .i64 (rM c:Int) 0=(rM c:Int):=by
  show ja .i64 ((rM c:Int) - 0)=_
  rw[wrap_i64 (by omega) (by omega)]
  omega
 have C7:decide ((rM c:Int)<0)=false:=decide_eq_false (by omega)
 have c1:roomy 16 (0+(List.replicate (rM c:Int).toNat ((0,0):den cq)).length)=true:=iE (by omega) (by rw[List.length_replicate,Int.toNat_natCast];omega)
 have c2:jy 0 0 ((app [] (List.replicate (rM c:Int).toNat ((0,0):den cq))).length:Int)=true:=D7 (j:=0) (Nat.zero_le _)
 have a1:xi IB w8 po (c,0,c,(c.length:Int),0,())=true:=v0.1
 have a3:xi GA u9 pq ([],c,(c.length:Int),0,())=true:=v2.1
 have a4:oG GA u9 pq ([],c,(c.length:Int),0,())=(c.flatten,()):=v2.2
 rw[an3 c (c,(rM c:Int),()) v0.2.symm,a1]
 dsimp only
 rw[a3,a4,C7,hw]
 generalize cp IC (c.flatten,())=R
 have c3:decide ((0:Int)<=(rM c:Int))=true:=decide_eq_true (by omega)
 rw[c1,c2,c3]
 cases decide ((0:Int)<(rM c:Int))<;>rfl
theorem sI{f:List Pl->T Rs}{ti t0 t1:List Ty}{x:cb ti}{b:Bool}{u:cb t0}{v:cb t1}(h:mm f (cp ti x) (bif b then 0 else 1) (bif b then cp t0 u else cp t1 v)):DN f ti t0 t1 x=true/\BO f ti x=b/\(b=true->oG f ti t0 x=u)/\(b=false->oG f ti t1 x=v):=by
 cases b with
 |true=>obtain⟨a,b,c⟩:=Ic (t0:=t0) (t1:=t1) (y:=u) h;exact⟨a,b,(fun _=>c),(fun e=>by cases e)⟩
 |false=>obtain⟨a,b,c⟩:=P0 (t0:=t0) (t1:=t1) (y:=v) h;exact⟨a,b,(fun e=>by cases e),(fun _=>c)⟩
def XP(y:cb tM)(fn:Int)(x:den cJ):Bool:= !decide ((y.2.2.2.1.length:Int)=0)&&(yQ x.1 127&&List.all x.2 (fun f=> !decide (fn<=f)))
def XQ(y:cb tM)(x:den cN):Bool:= !decide ((y.2.2.2.2.1.length:Int)=0)&&yQ x.1 127
def aeo(y:cb tM)(fn:Int):Bool:=List.all y.2.2.2.2.2.2.2.2.1 (XP y fn)&&List.all y.2.2.2.2.2.2.2.2.2.2.1 (XQ y)
theorem aiP(y:cb tM)(fn:Int)(h1:y.2.2.2.2.2.2.2.2.1.length<=1048576)(h2:y.2.2.2.2.2.2.2.2.2.2.1.length<=1048576)(h3: ∀ e:den cJ,e∈y.2.2.2.2.2.2.2.2.1->List.length e.2<=1048576):(t58 (y.1,y.2.1,y.2.2.1,y.2.2.2.1,y.2.2.2.2.1,y.2.2.2.2.2.1,y.2.2.2.2.2.2.1,y.2.2.2.2.2.2.2.1,y.2.2.2.2.2.2.2.2.1,y.2.2.2.2.2.2.2.2.2.1,y.2.2.2.2.2.2.2.2.2.2.1,fn,())).val=some (cp GB (aeo y fn,())):=by
 have r0:=sH (f:=IE) (l:=y.2.2.2.2.2.2.2.2.1) (fun j=>cp sX (fn,y.1,y.2.1,y.2.2.1,y.2.2.2.1,y.2.2.2.2.1,y.2.2.2.2.2.1,y.2.2.2.2.2.2.1,y.2.2.2.2.2.2.2.1,y.2.2.2.2.2.2.2.2.1,y.2.2.2.2.2.2.2.2.2.1,y.2.2.2.2.2.2.2.2.2.2.1,y.2.2.2.2.2.2.2.2.1,(y.2.2.2.2.2.2.2.2.1.length:Int),(j:Int),())) (XP y fn) (cp qt (y.1,y.2.1,y.2.2.1,y.2.2.2.1,y.2.2.2.2.1,y.2.2.2.2.2.1,y.2.2.2.2.2.2.1,y.2.2.2.2.2.2.2.1,y.2.2.2.2.2.2.2.2.1,y.2.2.2.2.2.2.2.2.2.1,y.2.2.2.2.2.2.2.2.2.2.1,())) (cp qu (false,())) (fun j x r e=>by
  obtain⟨e1,e2⟩:=iT e (cr cJ)
  have hx:x∈y.2.2.2.2.2.2.2.2.1:=by
   have:x∈y.2.2.2.2.2.2.2.2.1.drop j:=by rw[e];exact List.mem_cons_self
   exact List.mem_of_mem_drop this
  have hl:=h3 x hx
  have r2:=sH (f:=ID) (l:=x.2) (fun k=>cp ua (fn,y.1,y.2.1,y.2.2.1,y.2.2.2.1,y.2.2.2.2.1,y.2.2.2.2.2.1,y.2.2.2.2.2.2.1,y.2.2.2.2.2.2.2.1,y.2.2.2.2.2.2.2.2.1,y.2.2.2.2.2.2.2.2.2.1,y.2.2.2.2.2.2.2.2.2.2.1,y.2.2.2.2.2.2.2.2.1,(y.2.2.2.2.2.2.2.2.1.length:Int),(j:Int),x.2,(List.length x.2:Int),(k:Int),())) (fun f=> !decide (fn<=f)) _ _ (fun k f r e=>by
   obtain⟨e1,e2⟩:=iT e (cr i64)
   rw[ZU,jq e1,cond_true,D6 e1,Int.toNat_natCast,e2,nQ (by omega)]
   cases decide (fn<=f)<;>rfl) (by rw[ZU,iQ (Nat.le_refl _)];rfl)
  have q:=sI (ti:=ua) (t0:=sB) (t1:=uC) (x:=(fn,y.1,y.2.1,y.2.2.1,y.2.2.2.1,y.2.2.2.2.1,y.2.2.2.2.2.1,y.2.2.2.2.2.2.1,y.2.2.2.2.2.2.2.1,y.2.2.2.2.2.2.2.2.1,y.2.2.2.2.2.2.2.2.2.1,y.2.2.2.2.2.2.2.2.2.2.1,y.2.2.2.2.2.2.2.2.1,(y.2.2.2.2.2.2.2.2.1.length:Int),(j:Int),x.2,(List.length x.2:Int),0,())) (u:=(fn,y.1,y.2.1,y.2.2.1,y.2.2.2.1,y.2.2.2.2.1,y.2.2.2.2.2.1,y.2.2.2.2.2.2.1,y.2.2.2.2.2.2.2.1,y.2.2.2.2.2.2.2.2.1,y.2.2.2.2.2.2.2.2.2.1,y.2.2.2.2.2.2.2.2.2.2.1,y.2.2.2.2.2.2.2.2.1,(y.2.2.2.2.2.2.2.2.1.length:Int),(j:Int),())) (v:=(false,())) r2
  obtain⟨q1,q2,q3,q4⟩:=q
  rw[ZV fn y _ _ _ x (by rw[Int.toNat_natCast];exact e2.symm) _ rfl _ rfl,jq e1,cond_true,D6 e1,q1,q2]
  unfold XP
  cases decide ((y.2.2.2.1.length:Int)=0)with
  |true=>rfl
  |false=>
   cases yQ x.1 127 with
   |false=>rfl
   |true=>
    cases ha:List.all x.2 (fun f=> !decide (fn<=f))with
    |true=>rw[q3 ha];show some (Rs.next (cp sX (fn,y.1,y.2.1,y.2.2.1,y.2.2.2.1,y.2.2.2.2.1,y.2.2.2.2.2.1,y.2.2.2.2.2.2.1,y.2.2.2.2.2.2.2.1,y.2.2.2.2.2.2.2.2.1,y.2.2.2.2.2.2.2.2.2.1,y.2.2.2.2.2.2.2.2.2.2.1,y.2.2.2.2.2.2.2.2.1,(y.2.2.2.2.2.2.2.2.1.length:Int),iA .i64 (j:Int) 1,())))=_;rw[nQ (by omega)];rfl
    |false=>rw[q4 ha];rfl) (by rw[ZV fn y _ _ _ _ rfl _ rfl _ rfl,iQ (Nat.le_refl _)];rfl)
 obtain⟨a1,a2,a3,a4⟩:=sI (ti:=sX) (t0:=qt) (t1:=qu) (x:=(fn,y.1,y.2.1,y.2.2.1,y.2.2.2.1,y.2.2.2.2.1,y.2.2.2.2.2.1,y.2.2.2.2.2.2.1,y.2.2.2.2.2.2.2.1,y.2.2.2.2.2.2.2.2.1,y.2.2.2.2.2.2.2.2.2.1,y.2.2.2.2.2.2.2.2.2.2.1,y.2.2.2.2.2.2.2.2.1,(y.2.2.2.2.2.2.2.2.1.length:Int),0,())) (u:=(y.1,y.2.1,y.2.2.1,y.2.2.2.1,y.2.2.2.2.1,y.2.2.2.2.2.1,y.2.2.2.2.2.2.1,y.2.2.2.2.2.2.2.1,y.2.2.2.2.2.2.2.2.1,y.2.2.2.2.2.2.2.2.2.1,y.2.2.2.2.2.2.2.2.2.2.1,())) (v:=(false,())) r0
 have r4:=sH (f:=L7) (l:=y.2.2.2.2.2.2.2.2.2.2.1) (fun j=>cp vc (y.1,y.2.1,y.2.2.1,y.2.2.2.1,y.2.2.2.2.1,y.2.2.2.2.2.1,y.2.2.2.2.2.2.1,y.2.2.2.2.2.2.2.1,y.2.2.2.2.2.2.2.2.1,y.2.2.2.2.2.2.2.2.2.1,y.2.2.2.2.2.2.2.2.2.2.1,y.2.2.2.2.2.2.2.2.2.2.1,(y.2.2.2.2.2.2.2.2.2.2.1.length:Int),(j:Int),())) (XQ y) (cp uD ()) (cp sC (false,())) (fun j x r e=>by
  obtain⟨e1,e2⟩:=iT e (cr cN)
  rw[ZW y _ _ _ x (by rw[Int.toNat_natCast];exact e2.symm),jq e1,cond_true,D6 e1,nQ (by omega)]
  unfold XQ
  cases decide ((y.2.2.2.2.1.length:Int)=0)<;>cases yQ x.1 127<;>rfl) (by rw[ZW y _ _ _ _ rfl,iQ (Nat.le_refl _)];rfl)
 obtain⟨b1,b2,b3,b4⟩:=sI (ti:=vc) (t0:=uD) (t1:=sC) (x:=(y.1,y.2.1,y.2.2.1,y.2.2.2.1,y.2.2.2.2.1,y.2.2.2.2.2.1,y.2.2.2.2.2.2.1,y.2.2.2.2.2.2.2.1,y.2.2.2.2.2.2.2.2.1,y.2.2.2.2.2.2.2.2.2.1,y.2.2.2.2.2.2.2.2.2.2.1,y.2.2.2.2.2.2.2.2.2.2.1,(y.2.2.2.2.2.2.2.2.2.2.1.length:Int),0,())) (u:=()) (v:=(false,())) r4
 unfold aeo
 cases hA:List.all y.2.2.2.2.2.2.2.2.1 (XP y fn)with
 |false=>
  rw[hA]at a2
  rw[aiK y fn _ rfl _ rfl _ rfl,a1,a2,a4 hA]
  rfl
 |true=>
  rw[hA]at a2
  rw[aiK y fn _ rfl _ (a3 hA).symm _ rfl,a1,a2]
  cases hB:List.all y.2.2.2.2.2.2.2.2.2.2.1 (XQ y)with
  |true=>rw[hB]at b2;simp only[cz,cond_true];rw[b1,b2];rfl
  |false=>rw[hB]at b2;simp only[cz,cond_true];rw[b1,b2,b4 hB];rfl
end Go.Proofs.Vd
