import Derived.Test.YtjeanplhkkpdmaaGreatDoorVdS3
noncomputable section
namespace Go.Proofs.Vd
open Go.Ab Go.Ab.Lf
set_option maxRecDepth 100000
def vc1(v t:Int):Int:=bif decide (t=123)then jR .i64 v 1 else v
def vcs(l:List Int):Int:=l.foldl vc1 0
theorem anz(y:ca tM)(lo:List Int)(w:W3)(mk:List (den Aw))(k:Int)(x:den tI)(c:List (den tI))(n1 i1:Int)(hw:w.1.length<=1073741824):
 oU f202 (cg zQ (wkV y lo w mk k x c n1 i1 0 (w.1.length:Int) 0)) 0 (cg tp (ant y lo w mk k x c n1 i1 (vcs w.1))):=by
 have:=SL (f:=f202) (l:=w.1) (fun(v:Int) j=>cg zQ (wkV y lo w mk k x c n1 i1 v (w.1.length:Int) (j:Int))) (fun v t=>.inl (vc1 v t)) (fun v=>(0,cg tp (ant y lo w mk k x c n1 i1 v))) (fun _ _=>True) (fun v j t r e _=>by
  obtain⟨e1,e2⟩:=kq e (cr i64);refine⟨?_,fun _ _=>trivial⟩;rw[ajg,kY e1,cond_true,JW e1,Int.toNat_natCast,e2,rM (by omega)];unfold vc1;cases decide (t=123)<;>rfl) (fun v j e hj _=>by
  have:j=w.1.length:=by have:=List.drop_eq_nil_iff.1 e;omega
  subst this;rw[ajg,km (Nat.le_refl _)]
  rfl) w.1 0 0 rfl (by omega) trivial
 rw[mP]at this;exact this
def YB(w:W3):Bool:=bif (kB w.2.1).2.2.2.2.2 then !(kB w.2.1).2.2.2.2.1 else false
def YC(w:W3):den Aw:=bif YB w then(true,(w.1.length:Int),vcs w.1)else(false,0,0)
def qH(y:ca tM)(lo:List Int):W3->List (den tI)->Option (List (den Aw))
 | _,[]=>some []
 |w,x::r=>bif (ku y lo w x).2.2 then none else(qH y lo (ku y lo w x) r).map (YC w:: ·)
def Clo(op:List Int)(r:List (den tI)):Prop:=nP zm (fun _=>(none:Option Bool)) r op=some true
def nbl(o:Int)(L:Nat):Nat:=if 2<=o/\o<=4 then L+1 else if o=11 then L - 1 else L
theorem YD{op:List Int}{x:den tI}{r:List (den tI)}(h:Clo op (x::r)):((x.1:Int)=11/\op=[]/\r=[])∨ ∃ op',Clo op' r/\op'.length+1=nbl x.1 (op.length+1)/\((x.1:Int)=11->op≠[]):=by
 have e:nP zm (fun _=>(none:Option Bool)) (x::r) op=(match zm op x r with| .inl s=>nP zm (fun _=>none) r s| .inr o=>o):=by
  rw[nP];cases zm op x r<;>rfl
 unfold Clo at h;rw[e]at h;unfold zm at h;unfold nbl;by_cases h2:x.1=2∨x.1=3∨x.1=4
 ·have k2:(2:Int)<=x.1/\(x.1:Int)<=4:=by
   have: ∀ o:Int,o=2∨o=3∨o=4->2<=o/\o<=4:=fun o _=>by omega
   exact this _ h2
  rw[if_pos h2]at h;by_cases q:op.length=128
  ·rw[if_pos q]at h;cases h
  ·rw[if_neg q]at h;refine .inr ⟨op++[x.1],h,?_,fun e=>?_⟩
   ·rw[if_pos k2];simp
   ·have: ∀ o:Int,o=11-> ¬ (o=2∨o=3∨o=4):=fun o _=>by omega
    exact(this _ e h2).elim
 ·have k2: ¬ ((2:Int)<=x.1/\(x.1:Int)<=4):=by
   have: ∀ o:Int,¬ (o=2∨o=3∨o=4)-> ¬ (2<=o/\o<=4):=fun o _=>by omega
   exact this _ h2
  rw[if_neg h2]at h;rw[if_neg k2];by_cases h5:(x.1:Int)=5
  ·rw[if_pos h5]at h;rw[if_neg (zS h5 (by decide))];by_cases q:op.length=0∨ ¬ op.getD (op.length - 1) 0=4
   ·rw[if_pos q]at h;cases h
   ·rw[if_neg q]at h;refine .inr ⟨op.set (op.length - 1) 5,h,by simp,fun e=>(zS h5 (c:=11) (by decide) e).elim⟩
  ·rw[if_neg h5]at h;by_cases h11:(x.1:Int)=11
   ·rw[if_pos h11]at h;rw[if_pos h11];by_cases h0:op.length=0
    ·rw[if_pos h0]at h;refine .inl ⟨h11,List.eq_nil_of_length_eq_zero h0,?_⟩;have h:some (decide (r.length=0))=some true:=h;injection h with h;exact List.eq_nil_of_length_eq_zero (of_decide_eq_true h)
    ·rw[if_neg h0]at h;refine .inr ⟨op.take (op.length - 1),h,by simp;omega,fun _ e=>h0 (by rw[e];rfl)⟩
   ·rw[if_neg h11]at h;rw[if_neg h11];exact .inr ⟨op,h,rfl,fun e=>(h11 e).elim⟩
theorem aeJ(w:W3)(i:den tI):(Pa w i).2.1=w.2.1:=by
 have eb: ∀ (T:List Int) (L:List Int) (v:W3),(L.foldl (pJ T) v).2.1=v.2.1:=by
  intro T L
  induction L with
  |nil=>intro v;rfl
  |cons x L ih=>intro v;exact(ih (pJ T v x)).trans rfl
 exact eb _ _ _
theorem J0(w:W3):(Az w).2.1.length=w.2.1.length:=by
 show(w.2.1.set _ _).length=_;rw[List.length_set]
theorem aeK(y:ca tM)(lo:List Int)(w:W3)(i:den tI):(B7 y lo w i).2.1.length=w.2.1.length:=by
 unfold B7;dsimp only;cases decide (i.1=0)with
 |true=>exact J0 w
 |false=>
  cases decide (i.1=12)with
  |true=>exact J0 _
  |false=>
   cases decide (i.1=13)with
   |true=>rfl
   |false=>
    cases decide (i.1=14)with
    |true=>
     show(Az (lX (Pa w i) _)).2.1.length=_;rw[J0];show(Pa w i).2.1.length=_;rw[aeJ]
    |false=>
     cases decide (i.1=15)with
     |true=>exact J0 _
     |false=>
      simp only[cond_false];unfold Tb;dsimp only;cases(bif !decide (i.1=33)then !decide (i.1=36)else false)<;>cases(bif !decide (i.1=32)then !decide (i.1=35)else false)<;>rfl
theorem YE{w:W3}(h:w.2.1≠[])(n:Int)(hb:(ug w n).2.2=false):(ug w n).2.1.length=if n=5 then w.2.1.length else w.2.1.length - 1:=by
 obtain⟨r,B,e⟩:=B6 h
 have ec:AA w=r:=by unfold AA;rw[e];simp
 unfold ug at hb ⊢;cases hB:JY w with
 |true=>rw[hB]at hb;cases hb
 |false=>
  by_cases h5:n=5
  ·rw[decide_eq_true h5,if_pos h5];show(mu _ (AA w) _ _ _).length=_;unfold mu;rw[ec,e];simp
  ·rw[decide_eq_false h5,if_neg h5];show(AA w).length=_;rw[ec,e];simp
theorem aeL{y:ca tM}{lo:List Int}{w:W3}{i:den tI}(h:w.2.1≠[])(hb:(ku y lo w i).2.2=false):(ku y lo w i).2.1.length=nbl i.1 w.2.1.length:=by
 unfold ku at hb ⊢;unfold nbl;cases hp:(kZ i.1).2.2.1 with
 |true=>
  obtain⟨a,b⟩:=aue hp
  have: ∀ o:Int,¬ (2<=o/\o<=5)-> ¬ (2<=o/\o<=4):=fun o _=>by omega
  rw[if_neg (this _ a),if_neg b];simp only[cond_true];unfold anw;obtain⟨q,e⟩:=Dc y w i (kZ i.1);rw[e]
 |false=>
  rw[hp]at hb;simp only[cond_false]at hb ⊢;by_cases h2:(i.1:Int)=2∨(i.1:Int)=3∨(i.1:Int)=4
  ·have k2:(2:Int)<=i.1/\(i.1:Int)<=4:=by
    have: ∀ o:Int,o=2∨o=3∨o=4->2<=o/\o<=4:=fun o _=>by omega
    exact this _ h2
   have c:(decide (i.1=2)||(decide (i.1=3)||decide (i.1=4)))=true:=by simp only[Bool.or_eq_true,decide_eq_true_eq];exact h2
   rw[c,if_pos k2];simp only[cond_true];unfold JZ;dsimp only;show(mu _ _ _ _ _).length=_;unfold mu;cases decide (i.1=4)<;>simp
  ·have k2: ¬ ((2:Int)<=i.1/\(i.1:Int)<=4):=by
    have: ∀ o:Int,¬ (o=2∨o=3∨o=4)-> ¬ (2<=o/\o<=4):=fun o _=>by omega
    exact this _ h2
   have c:(decide (i.1=2)||(decide (i.1=3)||decide (i.1=4)))=false:=by rw[Bool.eq_false_iff];intro q;simp only[Bool.or_eq_true,decide_eq_true_eq]at q;exact h2 q
   rw[c]at hb ⊢;rw[if_neg k2];simp only[cond_false]at hb ⊢;by_cases h5:(i.1:Int)=5∨(i.1:Int)=11
   ·have c:(decide (i.1=5)||decide (i.1=11))=true:=by simp only[Bool.or_eq_true,decide_eq_true_eq];exact h5
    rw[c]at hb ⊢;simp only[cond_true]at hb ⊢;rw[YE h i.1 hb]
    rcases h5 with h5|h5
    ·rw[if_pos h5,if_neg (zS h5 (by decide))]
    ·rw[if_neg (zS h5 (by decide)),if_pos h5]
   ·have c:(decide (i.1=5)||decide (i.1=11))=false:=by rw[Bool.eq_false_iff];intro q;simp only[Bool.or_eq_true,decide_eq_true_eq]at q;exact h5 q
    rw[c,if_neg (fun e=>h5 (.inr e))];simp only[cond_false];cases decide (i.1=26)with
    |true=>rfl
    |false=>
     cases decide (i.1=27)with
     |true=>rfl
     |false=>
      cases decide (i.1=16)with
      |true=>rfl
      |false=>
       cases decide (i.1=17)with
       |true=>rfl
       |false=>exact aeK y lo w i
structure BOk(c:List (den tI)):Prop where
 ok: ∀ x,x∈c->IOk x
 n:c.length<=1048576
theorem aeM{α:Type}(d:List α)(a b:α)(r:List α):(d++a::r).set d.length b=(d++[b])++r:=by
 rw[List.set_append_right _ _ (Nat.le_refl _)];simp
def oT(d:List (den Aw)):Option (List (den Aw))->Nat×List Pl
 |some l=>(0,cg nv (d++l,()))
 |none=>(1,cg oE ([],false,()))
theorem Pc{y:ca tM}(ht:Hn y)(R4:y.2.1.length<=1099511627776)(lo:List Int){c:List (den tI)}(hc:BOk c): ∀ (r:List (den tI)) (j:Nat) (w:W3) (d:List (den Aw)),c.drop j=r->d.length=j->(r=[]∨(Inv (32*j) (j+1) w/\ ∃ op,Clo op r/\w.2.1.length=op.length+1))->
 oU f200 (cg oD (wkT y lo w (d++List.replicate r.length (false,0,0)) c (c.length:Int) (j:Int))) (oT d (qH y lo w r)).1 (oT d (qH y lo w r)).2
 | [],j,w,d,e,hd,_=>by
  have hj:c.length<=j:=List.drop_eq_nil_iff.1 e;refine .last ?_;rw[ajh y lo w _ c _ _ _ rfl _ rfl _ rfl _ rfl _ rfl _ rfl,km hj];simp only[cond_false,List.length_nil,List.replicate_zero,List.append_nil];show some (Rs.out 0 (cg nv (d,())))=some (Rs.out 0 (cg nv (d++[],())));rw[List.append_nil]
 |x::r,j,w,d,e,hd,hi=>by
  obtain⟨hi,op,nq,hbl⟩:Inv (32*j) (j+1) w/\ ∃ op,Clo op (x::r)/\w.2.1.length=op.length+1:=by
   rcases hi with hi|hi
   ·cases hi
   ·exact hi
  obtain⟨e1,e2⟩:=kq e (cr tI);have hx:x∈c:=by
   have:x∈c.drop j:=by rw[e];exact List.mem_cons_self
   exact List.mem_of_mem_drop this
  have hI:=hc.ok x hx;have hn:=hc.n;have hs:=hi.sub (by omega)
  have eB:kB w.2.1=w.2.1.getD (jF .i64 (w.2.1.length:Int) 1).toNat (cr jT):=by rw[hs,Int.toNat_natCast];rfl
  have s62:=qo (aun hi ht lo hI (by have:=hI.n;omega) (by omega) R4)
  have er:c.drop (j+1)=r:=by rw[<-List.tail_drop,e];rfl
  have hsk:=hi.sk;have v:=uT (anz y lo w (d++List.replicate (x::r).length (false,0,0)) (j:Int) x c (c.length:Int) (j:Int) (by omega));have hmk:(d++List.replicate (x::r).length ((false,0,0):den Aw)).set j (true,(w.1.length:Int),vcs w.1)=(d++[(true,(w.1.length:Int),vcs w.1)])++List.replicate r.length (false,0,0):=by
   rw[List.length_cons,List.replicate_succ,<-hd];exact aeM d _ _ _
  have auo:d++List.replicate (x::r).length ((false,0,0):den Aw)=(d++[(false,0,0)])++List.replicate r.length (false,0,0):=by
   rw[List.length_cons,List.replicate_succ];simp
  have hlen:(d++List.replicate (x::r).length ((false,0,0):den Aw)).length=j+(r.length+1):=by simp[hd]
  have step: ∀ (hb:(ku y lo w x).2.2=false),r=[]∨(Inv (32*(j+1)) (j+1+1) (ku y lo w x)/\ ∃ op,Clo op r/\(ku y lo w x).2.1.length=op.length+1):=by
   intro hb
   rcases YD nq with⟨_,_,q⟩|⟨op',q1,q2,q3⟩
   ·exact .inl q
   ·have hl:=aeL hi.ne hb;rw[hbl,<-q2]at hl
    have qF:(ku y lo w x).2.1≠[]:=fun e0=>by rw[e0]at hl;simp at hl
    exact .inr ⟨(hi.step ht lo hI (by have:=hI.n;omega) (by omega) qF).le (by omega) (Nat.le_refl _),op',q1,hl⟩
  have hq:=ajh y lo w (d++List.replicate (x::r).length (false,0,0)) c (c.length:Int) (j:Int) x (by rw[Int.toNat_natCast];exact e2.symm) (kB w.2.1) eB _ v.2.symm _ s62.2.symm _ rfl _ rfl;rw[kY e1,cond_true,JW e1,hs,hi.ix]at hq;simp only[cy,cond_true]at hq;have hlv:(bif (kB w.2.1).2.2.2.2.2 then !(kB w.2.1).2.2.2.2.1 else false)=YB w:=rfl;rw[hlv]at hq;cases hL:YB w with
  |true=>
   rw[hL,v.1]at hq;simp only[cond_true]at hq;have hq2:(f200 (cg oD (wkT y lo w (d++List.replicate (x::r).length (false,0,0)) c (c.length:Int) (j:Int)))).val=bif jA (j:Int) ((d++List.replicate (x::r).length ((false,0,0):den Aw)).length:Int)then(bif k62 (xi y lo w x)then(bif (Ir (xi y lo w x)).2.2.2.2.2.2.2.2.2.2.2.2.2.2.1 then some (Rs.out 1 (cg oE ([],false,())))else some (Rs.next (cg oD ((Ir (xi y lo w x)).1,(Ir (xi y lo w x)).2.1,(Ir (xi y lo w x)).2.2.1,(Ir (xi y lo w x)).2.2.2.1,(Ir (xi y lo w x)).2.2.2.2.1,(Ir (xi y lo w x)).2.2.2.2.2.1,(Ir (xi y lo w x)).2.2.2.2.2.2.1,(Ir (xi y lo w x)).2.2.2.2.2.2.2.1,(Ir (xi y lo w x)).2.2.2.2.2.2.2.2.1,(Ir (xi y lo w x)).2.2.2.2.2.2.2.2.2.1,(Ir (xi y lo w x)).2.2.2.2.2.2.2.2.2.2.1,(Ir (xi y lo w x)).2.2.2.2.2.2.2.2.2.2.2.1,(Ir (xi y lo w x)).2.2.2.2.2.2.2.2.2.2.2.2.1,(Ir (xi y lo w x)).2.2.2.2.2.2.2.2.2.2.2.2.2.1,(Ir (xi y lo w x)).2.2.2.2.2.2.2.2.2.2.2.2.2.2.1,(d++List.replicate (x::r).length ((false,0,0):den Aw)).set (j:Int).toNat (true,(w.1.length:Int),vcs w.1),c,(c.length:Int),jR .i64 (j:Int) 1,()))))else none)else none:=hq;rw[hlen,JW (show j<j+(r.length+1) by omega),show k62 (xi y lo w x)=true from s62.1,Int.toNat_natCast,hmk,rM (by omega),show Ir (xi y lo w x)=_ from s62.2]at hq2;simp only[cond_true]at hq2
   have hp:qH y lo w (x::r)=bif (ku y lo w x).2.2 then none else(qH y lo (ku y lo w x) r).map (YC w:: ·):=rfl
   rw[hp];cases hb:(ku y lo w x).2.2 with
   |true=>
    rw[hb]at hq2;exact .last hq2
   |false=>
    rw[hb]at hq2;have ih:=Pc ht R4 lo hc r (j+1) (ku y lo w x) (d++[YC w]) er (by simp[hd]) (step hb)
    have em:YC w=(true,(w.1.length:Int),vcs w.1):=by unfold YC;rw[hL];rfl
    rw[em]at ih;rw[em];simp only[cond_false];have eo:oT d ((qH y lo (ku y lo w x) r).map ((true,(w.1.length:Int),vcs w.1):: ·))=oT (d++[(true,(w.1.length:Int),vcs w.1)]) (qH y lo (ku y lo w x) r):=by
     cases qH y lo (ku y lo w x) r with
     |none=>rfl
     |some l=>show((0:Nat),cg nv (d++_::l,()))=(0,cg nv ((d++[_])++l,()));simp
    rw[eo];refine .more (pl':=cg oD (wkT y lo (ku y lo w x) ((d++[(true,(w.1.length:Int),vcs w.1)])++List.replicate r.length (false,0,0)) c (c.length:Int) ((j+1:Nat):Int))) ?_ ih;refine hq2.trans ?_;show some _=some _;rw[<-hb]
  |false=>
   rw[hL,show k62 (xi y lo w x)=true from s62.1]at hq;simp only[cond_false,cond_true]at hq;rw[rM (by omega),auo]at hq
   have hp:qH y lo w (x::r)=bif (ku y lo w x).2.2 then none else(qH y lo (ku y lo w x) r).map (YC w:: ·):=rfl
   rw[hp]
   have em:YC w=(false,0,0):=by unfold YC;rw[hL];rfl
   rw[auo];cases hb:(ku y lo w x).2.2 with
   |true=>
    rw[hb]at hq;exact .last hq
   |false=>
    rw[hb]at hq;have ih:=Pc ht R4 lo hc r (j+1) (ku y lo w x) (d++[YC w]) er (by simp[hd]) (step hb);rw[em]at ih;rw[em];simp only[cond_false];have eo:oT d ((qH y lo (ku y lo w x) r).map ((false,0,0):: ·))=oT (d++[(false,0,0)]) (qH y lo (ku y lo w x) r):=by
     cases qH y lo (ku y lo w x) r with
     |none=>rfl
     |some l=>show((0:Nat),cg nv (d++_::l,()))=(0,cg nv ((d++[_])++l,()));simp
    rw[eo];refine .more (pl':=cg oD (wkT y lo (ku y lo w x) ((d++[(false,0,0)])++List.replicate r.length (false,0,0)) c (c.length:Int) ((j+1:Nat):Int))) ?_ ih;refine hq.trans ?_;show some _=some _;rw[<-hb]
theorem JA{a b:Nat}(h:a+b<4611686018427387904):jR .i64 (a:Int) (b:Int)=((a+b:Nat):Int):=SS h
def wv(l:List (List Int)):Nat:=l.foldr (fun x n=>x.length+n) 0
theorem Tc(l:List (List Int)): ∀ (s:List Int),l.foldl (fun s x=>s++x) s=s++l.flatten:=by
 induction l with
 |nil=>intro s;simp
 |cons x l ih=>intro s;show l.foldl _ (s++x)=_;rw[ih];simp
theorem Td(l:List (List Int)): ∀ (s:Nat),l.foldl (fun s x=>s+x.length) s=s+wv l:=by
 induction l with
 |nil=>intro s;rfl
 |cons x l ih=>intro s;show l.foldl _ (s+x.length)=s+(x.length+wv l);rw[ih];omega
theorem anA(c:List (List Int))(hc:c.length+wv c<=1073741824):oU O3 (cg B3 (c,((0:Nat):Int),c,(c.length:Int),((0:Nat):Int),())) 0 (cg tf (c,(wv c:Int),())):=by
 have r0:=SL (f:=O3) (l:=c) (fun(s:Nat) j=>cg B3 (c,(s:Int),c,(c.length:Int),(j:Int),())) (fun s x=>.inl (s+x.length)) (fun s=>(0,cg tf (c,(s:Int),()))) (fun s r=>s+wv r<=1073741824) (fun s j x r e hi=>by
  obtain⟨e1,e2⟩:=kq e (cr (.cq i64));have e2:c.getD j (cr (.cq i64))=x:=e2;have hi1:s+(x.length+wv r)<=1073741824:=hi;have I1:decide (((s+x.length:Nat):Int)<0)=false:=decide_eq_false (by omega);have hq:jR .i64 (s:Int) (x.length:Int)=((s+x.length:Nat):Int):=JA (by omega);refine⟨?_,fun s' e=>by cases e;exact(by omega:s+x.length+wv r<=1073741824)⟩;rw[ajd c c (s:Int) (c.length:Int) (j:Int) ((s+x.length:Nat):Int) (by rw[Int.toNat_natCast,e2];exact hq.symm),kY e1,cond_true,JW e1,I1,rM (by omega)];rfl) (fun s j e hj _=>by
  have:j=c.length:=by have:=List.drop_eq_nil_iff.1 e;omega
  subst this;rw[ajd c c (s:Int) (c.length:Int) (c.length:Int) _ rfl,km (Nat.le_refl _)]
  rfl) c 0 0 rfl (by omega) (by omega)
 rw[mP,Td,Nat.zero_add]at r0;exact r0
theorem anB(c:List (List Int))(hc:c.length+wv c<=1073741824):oU ME (cg zO ([],c,(c.length:Int),((0:Nat):Int),())) 0 (cg th (c.flatten,())):=by
 have r2:=SL (f:=ME) (l:=c) (fun(s:List Int) j=>cg zO (s,c,(c.length:Int),(j:Int),())) (fun s x=>.inl (s++x)) (fun s=>(0,cg th (s,()))) (fun s r=>s.length+wv r<=1073741824) (fun s j x r e hi=>by
  obtain⟨e1,e2⟩:=kq e (cr (.cq i64));have e2:c.getD j (cr (.cq i64))=x:=e2;have hi1:s.length+(x.length+wv r)<=1073741824:=hi;refine⟨?_,fun s' e=>by cases e;rw[List.length_append];omega⟩;rw[aje s c (c.length:Int) (j:Int) x (by rw[Int.toNat_natCast];exact e2.symm),kY e1,cond_true,JW e1,jW (by omega) (by omega),cZ,rM (by omega)];rfl) (fun s j e hj _=>by
  have:j=c.length:=by have:=List.drop_eq_nil_iff.1 e;omega
  subst this;rw[aje s c (c.length:Int) (c.length:Int) _ rfl,km (Nat.le_refl _)]
  rfl) c 0 [] rfl (by omega) (by simp;omega)
 rw[mP,Tc,List.nil_append]at r2;exact r2
theorem aup(c:List (List Int))(hc:c.length+wv c<=1073741824):(t59 (c,())).val=some (cg O4 (c.flatten,())):=by
 have v0:=uT (anA c hc);have v2:=uT (anB c hc);have hw:jF .i64 (wv c:Int) 0=(wv c:Int):=by
  show kK .i64 ((wv c:Int) - 0)=_;rw[wrap_i64 (by omega) (by omega)];omega
 have I1:decide ((wv c:Int)<0)=false:=decide_eq_false (by omega);have c1:roomy 8 (0+(List.replicate (wv c:Int).toNat (0:Int)).length)=true:=jW (by omega) (by rw[List.length_replicate,Int.toNat_natCast];omega);have c2:mS 0 0 ((app [] (List.replicate (wv c:Int).toNat (0:Int))).length:Int)=true:=JX (j:=0) (Nat.zero_le _);have a1:uF O3 B3 tf (c,0,c,(c.length:Int),0,())=true:=v0.1;have a3:uF ME zO th ([],c,(c.length:Int),0,())=true:=v2.1;have a4:qb ME zO th ([],c,(c.length:Int),0,())=(c.flatten,()):=v2.2;rw[aBb c (c,(wv c:Int),()) v0.2.symm,a1];dsimp only;rw[a3,a4,I1,hw];generalize cg O4 (c.flatten,())=R;have c3:decide ((0:Int)<=(wv c:Int))=true:=decide_eq_true (by omega);rw[c1,c2,c3];cases decide ((0:Int)<(wv c:Int))<;>rfl
def MJ(y:ca tM)(k:Int):den jK:=jO y.1 (kI y.2.1 y.2.2.1 k)
def oF(y:ca tM)(i:Nat):den jV:=y.2.2.2.2.2.2.2.2.2.1.getD i (cr jV)
def DL(y:ca tM)(i:Nat):List Int:=(MJ y ((y.2.1.length+i:Nat):Int)).1++(oF y i).1
def Ui(y:ca tM)(i:Nat):W3:=([],mu [] [] 2 [] (MJ y ((y.2.1.length+i:Nat):Int)).2,false)
def vB(y:ca tM)(i:Nat):Option (List (den Aw)):=qH y (DL y i) (Ui y i) (oF y i).2
theorem aBj{y:ca tM}(ht:Hn y)(i:Nat):Inv 0 1 (Ui y i):=by
 have hs:=(uh ht (kI y.2.1 y.2.2.1 ((y.2.1.length+i:Nat):Int))).2;have e:(Ui y i).2.1=[(2,0,[],(MJ y ((y.2.1.length+i:Nat):Int)).2,false,true)]:=rfl;refine⟨by rw[e];simp,by rw[e];exact List.pairwise_singleton _ _,fun b hb=>?_,fun b hb=>?_,Nat.le_refl _,by rw[e];simp⟩
 ·rw[e]at hb
  have:b=(2,0,[],(MJ y ((y.2.1.length+i:Nat):Int)).2,false,true):=by simpa using hb
  rw[this];exact⟨Int.le_refl _,Int.le_refl _⟩
 ·rw[e]at hb
  have:b=(2,0,[],(MJ y ((y.2.1.length+i:Nat):Int)).2,false,true):=by simpa using hb
  rw[this];exact⟨Nat.zero_le _,hs⟩
structure RZ(C:den jV):Prop where
 b:BOk C.2
 c:Clo [] C.2
 l:List.length C.1<=512
theorem auq{y:ca tM}(ht:Hn y)(R4:y.2.1.length<=1048576){i:Nat}(hi:i<y.2.2.2.2.2.2.2.2.2.1.length)(RD:i<=1048576)(hC:RZ (oF y i)):
 (t20 (mF y ((i:Int),()))).val=some (cg JU ((vB y i).getD [],(vB y i).isSome,())):=by
 have hk:jR .i64 (y.2.1.length:Int) (i:Int)=((y.2.1.length+i:Nat):Int):=JA (by omega);have hs:=(uh ht (kI y.2.1 y.2.2.1 ((y.2.1.length+i:Nat):Int))).1;have hl:=hC.l;have hn:=hC.b.n;have s59:=qo (aup [(MJ y ((y.2.1.length+i:Nat):Int)).1,(oF y i).1] (by
  show 2+((jO y.1 (kI y.2.1 y.2.2.1 ((y.2.1.length+i:Nat):Int))).1.length+((oF y i).1.length+0))<=_
  omega))
 have e59:(m59 ([(MJ y ((y.2.1.length+i:Nat):Int)).1,(oF y i).1],())).1=DL y i:=by
  rw[show m59 ([(MJ y ((y.2.1.length+i:Nat):Int)).1,(oF y i).1],())=_ from s59.2];unfold DL;simp
 have hlen:(Ui y i).2.1.length=([]:List Int).length+1:=rfl;have r:=Pc ht (by omega) (DL y i) hC.b (oF y i).2 0 (Ui y i) [] rfl rfl (.inr ⟨(aBj ht i).le (Nat.le_refl _) (Nat.le_refl _),[],hC.c,hlen⟩);rw[aBc y (MI ht) (i:Int) _ hk.symm _ rfl (oF y i) (by rw[Int.toNat_natCast];rfl) (DL y i) e59.symm (Ui y i) rfl _ rfl,JW hi];have c1:(decide (((y.2.1.length+i:Nat):Int)<9223372036854775808)&&decide (y.2.1.length<=1099511627776))=true:=by
  rw[decide_eq_true (by omega),decide_eq_true (by omega)];rfl
 have c2:((decide (0<=((oF y i).2.length:Int))&&decide (((oF y i).2.length:Int)<=((oF y i).2.length:Int)))&&decide (((oF y i).2.length:Int).toNat*24<=70368744177664))=true:=by
  rw[decide_eq_true (by omega),decide_eq_true (by omega),decide_eq_true (by rw[Int.toNat_natCast];omega)];rfl
 rw[c1,c2,show k59 ([(jO y.1 (kI y.2.1 y.2.2.1 ((y.2.1.length+i:Nat):Int))).1,(oF y i).1],())=true from s59.1,decide_eq_true (show y.2.2.2.2.2.2.2.1=y.2.2.2.2.2.2.2.1 from rfl)];simp only[cy,cond_true];have c3:decide (([]:List (den jT)).length+1<=549755813888)=true:=decide_eq_true (by simp);rw[c3,cond_true];have hp:vB y i=qH y (DL y i) (Ui y i) (oF y i).2:=rfl;rw[hp];have r:oU f200 (cg oD (wkT y (DL y i) (Ui y i) (List.replicate (oF y i).2.length (false,0,0)) (oF y i).2 ((oF y i).2.length:Int) 0)) (oT [] (qH y (DL y i) (Ui y i) (oF y i).2)).1 (oT [] (qH y (DL y i) (Ui y i) (oF y i).2)).2:=r;cases hq:qH y (DL y i) (Ui y i) (oF y i).2 with
 |none=>
  rw[hq]at r;have v:=OM (t0:=nv) (t1:=oE) (y:=([],false,())) r;rw[v.1,v.2.1,v.2.2];rfl
 |some l=>
  rw[hq]at r;have v:=JF (t0:=nv) (t1:=oE) (y:=(l,())) r;rw[v.1,v.2.1,v.2.2];rfl
theorem ajj(fn:Int)(y:ca tM)(E:List (den jS))(n1 i1:Int)(L:List Int)(n i:Int):(O7 (cg yq (fn,y.1,y.2.1,y.2.2.1,y.2.2.2.1,y.2.2.2.2.1,y.2.2.2.2.2.1,y.2.2.2.2.2.2.1,y.2.2.2.2.2.2.2.1,y.2.2.2.2.2.2.2.2.1,y.2.2.2.2.2.2.2.2.2.1,y.2.2.2.2.2.2.2.2.2.2.1,E,n1,i1,L,n,i,()))).val=
 bif decide (i<n)then cy (jA i (L.length:Int)) (bif decide (fn<=L.getD i.toNat (cr i64))then some (Rs.out 1 (cg yX (false,())))else some (Rs.next (cg yq (fn,y.1,y.2.1,y.2.2.1,y.2.2.2.1,y.2.2.2.2.1,y.2.2.2.2.2.1,y.2.2.2.2.2.2.1,y.2.2.2.2.2.2.2.1,y.2.2.2.2.2.2.2.2.1,y.2.2.2.2.2.2.2.2.2.1,y.2.2.2.2.2.2.2.2.2.2.1,E,n1,i1,L,n,jR .i64 i 1,()))))else some (Rs.out 0 (cg xe (fn,y.1,y.2.1,y.2.2.1,y.2.2.2.1,y.2.2.2.2.1,y.2.2.2.2.2.1,y.2.2.2.2.2.2.1,y.2.2.2.2.2.2.2.1,y.2.2.2.2.2.2.2.2.1,y.2.2.2.2.2.2.2.2.2.1,y.2.2.2.2.2.2.2.2.2.2.1,E,n1,i1,()))):=by kernel_rfl
theorem ajk(fn:Int)(y:ca tM)(E:List (den jS))(n i:Int)(x:den jS)(hx:x=E.getD i.toNat (cr jS))(a:ca yq)(ha:a=(fn,y.1,y.2.1,y.2.2.1,y.2.2.2.1,y.2.2.2.2.1,y.2.2.2.2.2.1,y.2.2.2.2.2.2.1,y.2.2.2.2.2.2.2.1,y.2.2.2.2.2.2.2.2.1,y.2.2.2.2.2.2.2.2.2.1,y.2.2.2.2.2.2.2.2.2.2.1,E,n,i,x.2,(x.2.length:Int),0,()))(z:ca xe)(hz:z=qb O7 yq xe a):(O8 (cg xD (fn,y.1,y.2.1,y.2.2.1,y.2.2.2.1,y.2.2.2.2.1,y.2.2.2.2.2.1,y.2.2.2.2.2.2.1,y.2.2.2.2.2.2.2.1,y.2.2.2.2.2.2.2.2.1,y.2.2.2.2.2.2.2.2.2.1,y.2.2.2.2.2.2.2.2.2.2.1,E,n,i,()))).val=
 bif decide (i<n)then cy (jA i (E.length:Int)) (let F:=some (Rs.out 1 (cg uW (false,())))
  bif decide ((y.2.2.2.1.length:Int)=0)then F else bif !D5 x.1 127 then F else
  cy (GU O7 yq xe yX a) (bif Ez O7 yq a then some (Rs.next (cg xD (z.1,z.2.1,z.2.2.1,z.2.2.2.1,z.2.2.2.2.1,z.2.2.2.2.2.1,z.2.2.2.2.2.2.1,z.2.2.2.2.2.2.2.1,z.2.2.2.2.2.2.2.2.1,z.2.2.2.2.2.2.2.2.2.1,z.2.2.2.2.2.2.2.2.2.2.1,z.2.2.2.2.2.2.2.2.2.2.2.1,z.2.2.2.2.2.2.2.2.2.2.2.2.1,z.2.2.2.2.2.2.2.2.2.2.2.2.2.1,jR .i64 z.2.2.2.2.2.2.2.2.2.2.2.2.2.2.1 1,())))else some (Rs.out 1 (cg uW ((qb O7 yq yX a).1,())))))else some (Rs.out 0 (cg uV (y.1,y.2.1,y.2.2.1,y.2.2.2.1,y.2.2.2.2.1,y.2.2.2.2.2.1,y.2.2.2.2.2.2.1,y.2.2.2.2.2.2.2.1,y.2.2.2.2.2.2.2.2.1,y.2.2.2.2.2.2.2.2.2.1,y.2.2.2.2.2.2.2.2.2.2.1,()))):=by
 subst hz;subst ha;subst hx
 kernel_rfl
theorem ajl(y:ca tM)(D:List (den jZ))(n i:Int)(x:den jZ)(hx:x=D.getD i.toNat (cr jZ)):(S9 (cg zR (y.1,y.2.1,y.2.2.1,y.2.2.2.1,y.2.2.2.2.1,y.2.2.2.2.2.1,y.2.2.2.2.2.2.1,y.2.2.2.2.2.2.2.1,y.2.2.2.2.2.2.2.2.1,y.2.2.2.2.2.2.2.2.2.1,y.2.2.2.2.2.2.2.2.2.2.1,D,n,i,()))).val=
 bif decide (i<n)then cy (jA i (D.length:Int)) (let F:=some (Rs.out 1 (cg xf (false,())))
  bif decide ((y.2.2.2.2.1.length:Int)=0)then F else bif !D5 x.1 127 then F else some (Rs.next (cg zR (y.1,y.2.1,y.2.2.1,y.2.2.2.1,y.2.2.2.2.1,y.2.2.2.2.2.1,y.2.2.2.2.2.2.1,y.2.2.2.2.2.2.2.1,y.2.2.2.2.2.2.2.2.1,y.2.2.2.2.2.2.2.2.2.1,y.2.2.2.2.2.2.2.2.2.2.1,D,n,jR .i64 i 1,()))))else some (Rs.out 0 (cg yY ())):=by
 subst hx
 kernel_rfl
theorem aur(y:ca tM)(fn:Int)(a:ca xD)(ha:a=(fn,y.1,y.2.1,y.2.2.1,y.2.2.2.1,y.2.2.2.2.1,y.2.2.2.2.2.1,y.2.2.2.2.2.2.1,y.2.2.2.2.2.2.2.1,y.2.2.2.2.2.2.2.2.1,y.2.2.2.2.2.2.2.2.2.1,y.2.2.2.2.2.2.2.2.2.2.1,y.2.2.2.2.2.2.2.2.1,(y.2.2.2.2.2.2.2.2.1.length:Int),0,()))(z:ca uV)(hz:z=qb O8 xD uV a)(b:ca zR)(hb:b=(z.1,z.2.1,z.2.2.1,z.2.2.2.1,z.2.2.2.2.1,z.2.2.2.2.2.1,z.2.2.2.2.2.2.1,z.2.2.2.2.2.2.2.1,z.2.2.2.2.2.2.2.2.1,z.2.2.2.2.2.2.2.2.2.1,z.2.2.2.2.2.2.2.2.2.2.1,z.2.2.2.2.2.2.2.2.2.2.1,(z.2.2.2.2.2.2.2.2.2.2.1.length:Int),0,())):(t58 (y.1,y.2.1,y.2.2.1,y.2.2.2.1,y.2.2.2.2.1,y.2.2.2.2.2.1,y.2.2.2.2.2.2.1,y.2.2.2.2.2.2.2.1,y.2.2.2.2.2.2.2.2.1,y.2.2.2.2.2.2.2.2.2.1,y.2.2.2.2.2.2.2.2.2.2.1,fn,())).val=
 cy (GU O8 xD uV uW a) (bif Ez O8 xD a then cy (GU S9 zR yY xf b) (bif Ez S9 zR b then some (cg MG (true,()))else some (cg MG ((qb S9 zR xf b).1,())))else some (cg MG ((qb O8 xD uW a).1,()))):=by
 subst hb;subst hz;subst ha
 kernel_rfl
theorem ajm(a c:List (List (den cF)))(sz n i:Int)(q:Int)(hq:q=jR .i64 sz ((c.getD i.toNat (cr (.cq cF)):List (den cF)).length:Int)):(O5 (cg B4 (a,sz,c,n,i,()))).val=
 bif decide (i<n)then cy (jA i (c.length:Int)) (bif decide (q<0)then none else some (Rs.next (cg B4 (a,q,c,n,jR .i64 i 1,()))))else some (Rs.out 0 (cg tj (a,sz,()))):=by
 subst hq
 kernel_rfl
theorem ajn(o:List (den cF))(c:List (List (den cF)))(n i:Int)(x:List (den cF))(hx:x=c.getD i.toNat (cr (.cq cF))):(MF (cg zP (o,c,n,i,()))).val=
 bif decide (i<n)then cy (jA i (c.length:Int)) (cy (roomy 16 (o.length+x.length)) (some (Rs.next (cg zP (app o x,c,n,jR .i64 i 1,())))))else some (Rs.out 0 (cg tl (o,()))):=by
 subst hx
 kernel_rfl
theorem aBk(c:List (List (den cF)))(z:ca tj)(hz:z=qb O5 B4 tj (c,0,c,(c.length:Int),0,())):(t55 (c,())).val=
 cy (uF O5 B4 tj (c,0,c,(c.length:Int),0,())) (
  let fin:=cy (uF MF zP tl ([],z.1,(z.1.length:Int),0,())) (some (cg O6 (qb MF zP tl ([],z.1,(z.1.length:Int),0,()))))
  bif decide (z.2.1<0)then none else bif decide (0<jF .i64 z.2.1 0)then cy (decide (0<=jF .i64 z.2.1 0)) (cy (roomy 16 (0+(List.replicate (jF .i64 z.2.1 0).toNat ((0,0):den cF)).length)) (cy (mS 0 0 ((app [] (List.replicate (jF .i64 z.2.1 0).toNat ((0,0):den cF))).length:Int)) fin))else fin):=by
 subst hz
 kernel_rfl
theorem anC(gt:Bool)(fn:Int)(y:ca tM)(hgt:gt=gT y.1)(n i:Int):(f190 (cg wo (fn,y.1,y.2.1,y.2.2.1,y.2.2.2.1,y.2.2.2.2.1,y.2.2.2.2.2.1,y.2.2.2.2.2.2.1,y.2.2.2.2.2.2.2.1,y.2.2.2.2.2.2.2.2.1,y.2.2.2.2.2.2.2.2.2.1,y.2.2.2.2.2.2.2.2.2.2.1,n,i,()))).val=
 bif decide (i<n)then cy (gt&&(decide (i<9223372036854775808)&&decide (y.2.1.length<=1099511627776))) (bif !kG y.1 (kI y.2.1 y.2.2.1 i)then some (Rs.out 1 (cg uX (false,())))else some (Rs.next (cg wo (fn,y.1,y.2.1,y.2.2.1,y.2.2.2.1,y.2.2.2.2.1,y.2.2.2.2.2.1,y.2.2.2.2.2.2.1,y.2.2.2.2.2.2.2.1,y.2.2.2.2.2.2.2.2.1,y.2.2.2.2.2.2.2.2.2.1,y.2.2.2.2.2.2.2.2.2.2.1,n,jR .i64 i 1,()))))else some (Rs.out 0 (cg tt (fn,y.1,y.2.1,y.2.2.1,y.2.2.2.1,y.2.2.2.2.1,y.2.2.2.2.2.1,y.2.2.2.2.2.2.1,y.2.2.2.2.2.2.2.1,y.2.2.2.2.2.2.2.2.1,y.2.2.2.2.2.2.2.2.2.1,y.2.2.2.2.2.2.2.2.2.2.1,()))):=by
 subst hgt
 kernel_rfl
theorem ajo(fn:Int)(y:ca tM)(hT:gT y.1=true)(n i:Int):(f190 (cg wo (fn,y.1,y.2.1,y.2.2.1,y.2.2.2.1,y.2.2.2.2.1,y.2.2.2.2.2.1,y.2.2.2.2.2.2.1,y.2.2.2.2.2.2.2.1,y.2.2.2.2.2.2.2.2.1,y.2.2.2.2.2.2.2.2.2.1,y.2.2.2.2.2.2.2.2.2.2.1,n,i,()))).val=
 bif decide (i<n)then cy (decide (i<9223372036854775808)&&decide (y.2.1.length<=1099511627776)) (bif !kG y.1 (kI y.2.1 y.2.2.1 i)then some (Rs.out 1 (cg uX (false,())))else some (Rs.next (cg wo (fn,y.1,y.2.1,y.2.2.1,y.2.2.2.1,y.2.2.2.2.1,y.2.2.2.2.2.1,y.2.2.2.2.2.2.1,y.2.2.2.2.2.2.2.1,y.2.2.2.2.2.2.2.2.1,y.2.2.2.2.2.2.2.2.2.1,y.2.2.2.2.2.2.2.2.2.2.1,n,jR .i64 i 1,()))))else some (Rs.out 0 (cg tt (fn,y.1,y.2.1,y.2.2.1,y.2.2.2.1,y.2.2.2.2.1,y.2.2.2.2.2.1,y.2.2.2.2.2.2.1,y.2.2.2.2.2.2.2.1,y.2.2.2.2.2.2.2.2.1,y.2.2.2.2.2.2.2.2.2.1,y.2.2.2.2.2.2.2.2.2.2.1,()))):=by
 refine Eq.trans (anC true fn y hT.symm n i) ?_
 kernel_rfl
theorem ajp(fn:Int)(y:ca tM)(L:List (den cF))(n i:Int)(x:den cF)(hx:x=L.getD i.toNat (cr cF)):(f192 (cg yt (fn,y.1,y.2.1,y.2.2.1,y.2.2.2.1,y.2.2.2.2.1,y.2.2.2.2.2.1,y.2.2.2.2.2.2.1,y.2.2.2.2.2.2.2.1,y.2.2.2.2.2.2.2.2.1,y.2.2.2.2.2.2.2.2.2.1,y.2.2.2.2.2.2.2.2.2.2.1,L,n,i,()))).val=
 bif decide (i<n)then cy (jA i (L.length:Int)) (bif (bif !decide (x.2= -1)then decide (x.2<x.1)else false)then some (Rs.out 1 (cg xg (false,())))else some (Rs.next (cg yt (fn,y.1,y.2.1,y.2.2.1,y.2.2.2.1,y.2.2.2.2.1,y.2.2.2.2.2.1,y.2.2.2.2.2.2.1,y.2.2.2.2.2.2.2.1,y.2.2.2.2.2.2.2.2.1,y.2.2.2.2.2.2.2.2.2.1,y.2.2.2.2.2.2.2.2.2.2.1,L,n,jR .i64 i 1,()))))else some (Rs.out 0 (cg uY (fn,y.1,y.2.1,y.2.2.1,y.2.2.2.1,y.2.2.2.2.1,y.2.2.2.2.2.1,y.2.2.2.2.2.2.1,y.2.2.2.2.2.2.2.1,y.2.2.2.2.2.2.2.2.1,y.2.2.2.2.2.2.2.2.2.1,y.2.2.2.2.2.2.2.2.2.2.1,()))):=by
 subst hx
 kernel_rfl
theorem ajq(fn:Int)(y:ca tM)(L:List (den jQ))(n i:Int)(x:den jQ)(hx:x=L.getD i.toNat (cr jQ)):(f194 (cg yu (fn,y.1,y.2.1,y.2.2.1,y.2.2.2.1,y.2.2.2.2.1,y.2.2.2.2.2.1,y.2.2.2.2.2.2.1,y.2.2.2.2.2.2.2.1,y.2.2.2.2.2.2.2.2.1,y.2.2.2.2.2.2.2.2.2.1,y.2.2.2.2.2.2.2.2.2.2.1,L,n,i,()))).val=
 bif decide (i<n)then cy (jA i (L.length:Int)) (bif !D5 x.2.2 x.1 then some (Rs.out 1 (cg xh (false,())))else some (Rs.next (cg yu (fn,y.1,y.2.1,y.2.2.1,y.2.2.2.1,y.2.2.2.2.1,y.2.2.2.2.2.1,y.2.2.2.2.2.2.1,y.2.2.2.2.2.2.2.1,y.2.2.2.2.2.2.2.2.1,y.2.2.2.2.2.2.2.2.2.1,y.2.2.2.2.2.2.2.2.2.2.1,L,n,jR .i64 i 1,()))))else some (Rs.out 0 (cg uZ (fn,y.1,y.2.1,y.2.2.1,y.2.2.2.1,y.2.2.2.2.1,y.2.2.2.2.2.1,y.2.2.2.2.2.2.1,y.2.2.2.2.2.2.2.1,y.2.2.2.2.2.2.2.2.1,y.2.2.2.2.2.2.2.2.2.1,y.2.2.2.2.2.2.2.2.2.2.1,()))):=by
 subst hx
 kernel_rfl
theorem aeN(y:ca tM)(fn:Int)(hf:jR .i64 (y.2.1.length:Int) (y.2.2.1.length:Int)=fn)(a:ca wo)(ha:a=(fn,mF y (fn,0,())))(z:ca tt)(hz:z=qb f190 wo tt a)
 (L:List (den cF))(hL:L=(m55 ([z.2.2.2.2.1,z.2.2.2.2.2.1],())).1)(b:ca yt)(hb:b=(mF z (z.2.2.2.2.2.2.2.2.2.2.2.1,L,(L.length:Int),0,())))(u:ca uY)(hu:u=qb f192 yt uY b)
 (c:ca yu)(hc:c=(mF u (u.2.2.2.2.2.2.2.2.2.2.2.1,u.2.2.2.2.2.2.1,(u.2.2.2.2.2.2.1.length:Int),0,())))(v:ca uZ)(hv:v=qb f194 yu uZ c):(t19 (mF y ())).val=
 cy (GU f190 wo tt uX a) (bif Ez f190 wo a then(
  bif (bif decide (1<(z.2.2.2.2.1.length:Int))then true else decide (1<(z.2.2.2.2.2.1.length:Int)))then some (cg D8 (false,()))else
  cy (k55 ([z.2.2.2.2.1,z.2.2.2.2.2.1],())) (cy (GU f192 yt uY xg b) (bif Ez f192 yt b then(
   cy (bif decide ((u.2.2.2.2.2.1.length:Int)=1)then jA 0 (u.2.2.2.2.2.1.length:Int)else true) (bif (bif decide ((u.2.2.2.2.2.1.length:Int)=1)then decide (65536<(u.2.2.2.2.2.1.getD 0 (cr cF)).2)else false)then some (cg D8 (false,()))else
   cy (GU f194 yu uZ xh c) (bif Ez f194 yu c then(
    cy (Yq (mF v.2 (v.1,()))) (bif mNm (mF v.2 (v.1,()))then cy (k58 (mF v.2 (v.1,()))) (some (cg D8 ((m58 (mF v.2 (v.1,()))).1,())))else some (cg D8 (false,()))))
   else some (cg D8 ((qb f194 yu xh c).1,())))))
  else some (cg D8 ((qb f192 yt xg b).1,())))))
 else some (cg D8 ((qb f190 wo uX a).1,()))):=by
 subst hv;subst hc;subst hu;subst hb;subst hL;subst hz;subst ha;subst hf
 kernel_rfl
theorem aus(y:ca tM)(n i:Int):(f8x (cg JV (mF y (n,i,())))).val=
 bif decide (i<n)then cy (k20 (mF y (i,()))) (bif !(m20 (mF y (i,()))).2.1 then some (Rs.out 1 (cg Ay (12,())))else some (Rs.next (cg JV (mF y (n,jR .i64 i 1,())))))else some (Rs.out 0 (cg Db ())):=by kernel_rfl
theorem eq8(V:ByteArray->Bool)(y:ca tM):(t8 V (mF y ())).val=
 cy (OX V (mF y ())) (bif !decide (uf V (mF y ())=0)then some (cg to8 (uf V (mF y ()),()))else cy (k19 (mF y ())) (bif !(m19 (mF y ())).1 then some (cg to8 (12,()))else
  cy (GU f8x JV Db Ay (mF y ((y.2.2.2.2.2.2.2.2.2.1.length:Int),0,()))) (bif Ez f8x JV (mF y ((y.2.2.2.2.2.2.2.2.2.1.length:Int),0,()))then some (cg to8 (0,()))else some (cg to8 ((qb f8x JV Ay (mF y ((y.2.2.2.2.2.2.2.2.2.1.length:Int),0,()))).1,()))))):=by kernel_rfl
abbrev zb(x:Int)(r:Bool):Bool:=bif decide (x=0)then r else false
theorem anD(o a b lo hi:Int)(l:List Int)(f:Int)(h:(zK (o,a,b,lo,hi,l,f,())).1=true):f=4∨l=[]:=by
 by_cases h4:f=4
 ·exact .inl h4
 ·refine .inr ?_
  have e:(mN (Ps [pI,.n .i64]) [] (Ps [.bo]) (fun _=>none) Tryz.alH 3 (j7 [] 3) (cg t87 (o,a,b,lo,hi,l,f,()))).val=
   (let R:=fun(x:Bool)=>some (cg [.bool] (x,()))
   bif (bif !decide (f=4)then decide (0<(l.length:Int))else false)then R false else
   bif decide (f=2)then R (zb b (zb lo (decide (hi=0))))else bif decide (f=3)then R (zb b (zb lo (decide (hi=0))))else bif decide (f=5)then R (zb b (zb lo (decide (hi=0))))else bif decide (f=4)then R (zb b (zb lo (decide (hi=0))))else bif decide (f=13)then R (zb b (zb lo (decide (hi=0))))else
   bif decide (f=6)then R (zb lo (decide (hi=0)))else bif decide (f=7)then R (zb lo (decide (hi=0)))else
   bif decide (f=8)then R (decide (hi=0))else
   bif decide (f=9)then R (zb a (zb b (decide (hi=0))))else bif decide (f=10)then R (zb a (zb b (decide (hi=0))))else
   bif decide (f=11)then R (zb a (zb b true))else bif decide (f=12)then R (zb a (zb b true))else R (zb a (zb b (zb lo (decide (hi=0)))))):=by kernel_rfl
  cases l with
  |nil=>rfl
  |cons x l=>
   exfalso;have c:(bif !decide (f=4)then decide (0<((x::l).length:Int))else false)=true:=by
    rw[decide_eq_false h4];exact decide_eq_true (by simp only[List.length_cons];omega)
   dsimp only at e;rw[c,cond_true]at e;have:=(qo (to:=[.bool]) (y:=(false,())) e).2;unfold zK at h;rw[this]at h;cases h
theorem cK{α:Type}{c:Bool}{x:Option α}{y:α}(h:cy c x=some y):c=true/\x=some y:=by
 unfold cy at h;cases c with
 |true=>exact⟨rfl,h⟩
 |false=>cases h
theorem aeO(l:List Int): ∀ (s:List Int) (k:Bool),(yl (s,k) l).2=(k&&l.all sK)/\s.length+l.length<=(yl (s,k) l).1.length:=by
 induction l with
 |nil=>intro s k;exact⟨by simp[yl],by simp[yl]⟩
 |cons x l ih=>
  intro s k;obtain⟨h1,h2⟩:=ih (s++qc (cI .u64 x)) (bif k then sK x else false);have e:yl (s,k) (x::l)=yl (s++qc (cI .u64 x),bif k then sK x else false) l:=rfl
  have hp:1<=(qc (cI .u64 x)).length:=by unfold qc;simp
  rw[e];refine⟨?_,?_⟩
  ·rw[h1,List.all_cons];cases k<;>cases sK x<;>rfl
  ·rw[List.length_append]at h2;simp only[List.length_cons];omega
theorem yw{n:Int}(h:sK n=true):0<=n/\n<4294967296:=by
 unfold sK at h;rw[Bool.cond_false_right,Bool.and_eq_true,decide_eq_true_eq,decide_eq_true_eq]at h;exact h
theorem aeP{p:List Int}{o a b lo hi:Int}{l B:List Int}(hp:1<=p.length)(h:zL Prod.mk p o a b lo hi l=some (B,true)):
 (∀ f,f=(kZ o).1->(f=3∨f=4∨f=5∨f=6)->0<=a/\a<4294967296)/\((kZ o).1=4-> ∀ x,x∈l->(0:Int)<=x)/\1<=B.length/\((kZ o).1=4->l.length<=B.length):=by
 unfold zL at h;dsimp only at h
 obtain⟨f,hf⟩: ∃ f:Int,(kZ o).1=f:=⟨_,rfl⟩
 rw[hf]at h ⊢
 have no: ∀ (g:Int),g=f->(g=3∨g=4∨g=5∨g=6)-> ¬ (f=3∨f=4∨f=5∨f=6)->False:=fun g hg k c=>by subst hg;exact c k
 have Uj:f=4-> ¬ f=4->False:=fun k c=>c k
 have base: ∀ {u:List Int} {v:Bool},some (app p u,v)=some (B,true)->v=true/\1<=B.length:=by
  intro u v e;cases e;exact⟨rfl,by rw[cZ,List.length_append];omega⟩
 by_cases f1:f=1
 ·rw[decide_eq_true f1]at h;cases h;exact⟨fun g hg k=>(no g hg k (by omega)).elim,fun k=>(Uj k (by omega)).elim,hp,fun k=>(Uj k (by omega)).elim⟩
 rw[decide_eq_false f1,cond_false]at h;by_cases f2:f=2
 ·rw[decide_eq_true f2,cond_true]at h;have hB:1<=B.length:=by
   have one: ∀ {u:List Int},cy (roomy 1 (p.length+1)) (some (app p u,true))=some (B,true)->1<=B.length:=fun e=>(base (cK e).2).2
   cases d1:decide (a= -64)with
   |true=>rw[d1]at h;exact(base (cK h).2).2
   |false=>
    rw[d1,cond_false]at h;cases d2:decide (a= -1)with
    |true=>rw[d2]at h;exact(base (cK h).2).2
    |false=>
     rw[d2,cond_false]at h;cases d3:decide (a= -2)with
     |true=>rw[d3]at h;exact(base (cK h).2).2
     |false=>
      rw[d3,cond_false]at h;cases d4:decide (a= -5)with
      |true=>rw[d4]at h;exact(base (cK h).2).2
      |false=>
       rw[d4,cond_false]at h;exact(base (cK (cK (cK (cK h).2).2).2).2).2
  exact⟨fun g hg k=>(no g hg k (by omega)).elim,fun k=>(Uj k (by omega)).elim,hB,fun k=>(Uj k (by omega)).elim⟩
 rw[decide_eq_false f2,cond_false]at h;by_cases f3:f=3
 ·rw[decide_eq_true f3,cond_true]at h;obtain⟨q1,q2⟩:=base (cK (cK h).2).2;exact⟨fun g hg k=>yw q1,fun k=>(Uj k (by omega)).elim,q2,fun k=>(Uj k (by omega)).elim⟩
 rw[decide_eq_false f3,cond_false]at h;by_cases f5:f=5
 ·rw[decide_eq_true f5,cond_true]at h;obtain⟨q1,q2⟩:=base (cK (cK h).2).2;exact⟨fun g hg k=>yw q1,fun k=>(Uj k (by omega)).elim,q2,fun k=>(Uj k (by omega)).elim⟩
 rw[decide_eq_false f5,cond_false]at h;by_cases f4:f=4
 ·rw[decide_eq_true f4,cond_true]at h;have h:=(cK (cK (cK (cK h).2).2).2).2;obtain⟨t1,t2⟩:=aeO l (app p (qc (cI .u64 (Int.ofNat l.length)))) (zn o);cases ht:(yl (app p (qc (cI .u64 (Int.ofNat l.length))),zn o) l).2 with
  |false=>rw[ht]at h;cases h
  |true=>
   rw[ht,cond_true]at h;have hB:(yl (app p (qc (cI .u64 (Int.ofNat l.length))),zn o) l).1.length<=B.length/\sK a=true:=by
    injection h with h;have e1:app _ _=B:=congrArg Prod.fst h;have e2:sK a=true:=congrArg Prod.snd h;exact⟨by rw[<-e1];simp only[cZ,List.length_append];omega,e2⟩
   rw[ht]at t1;have t1:=t1.symm;rw[Bool.and_eq_true,List.all_eq_true]at t1
   have hpl:1<=(app p (qc (cI .u64 (Int.ofNat l.length)))).length:=by rw[cZ,List.length_append];omega
   exact⟨fun g hg k=>yw hB.2,fun k x hx=>(yw (t1.2 x hx)).1,by omega,fun _=>by omega⟩
 rw[decide_eq_false f4,cond_false]at h;by_cases f6:f=6
 ·rw[decide_eq_true f6,cond_true]at h;have h:=(cK (cK (cK (cK (cK (cK (cK h).2).2).2).2).2).2).2;cases hn:sK a with
  |false=>rw[hn]at h;cases h
  |true=>
   rw[hn,cond_true]at h;have hB:1<=B.length:=by
    injection h with h;have e1:app (app p _) _=B:=congrArg Prod.fst h;rw[<-e1];simp only[cZ,List.length_append];omega
   exact⟨fun g hg k=>yw hn,fun k=>(Uj k (by omega)).elim,hB,fun k=>(Uj k (by omega)).elim⟩
 rw[decide_eq_false f6,cond_false]at h;have hB:1<=B.length:=by
  by_cases f7:f=7
  ·rw[decide_eq_true f7,cond_true]at h;have h:=(cK (cK (cK (cK (cK (cK (cK h).2).2).2).2).2).2).2;cases hn:sK a with
   |false=>rw[hn]at h;cases h
   |true=>
    rw[hn,cond_true]at h;injection h with h;have e1:app (app p _) _=B:=congrArg Prod.fst h;rw[<-e1];simp only[cZ,List.length_append];omega
  rw[decide_eq_false f7,cond_false]at h;by_cases f8:f=8
  ·rw[decide_eq_true f8,cond_true]at h;have h:=(cK (cK (cK (cK (cK (cK h).2).2).2).2).2).2;cases hn:sK a with
   |false=>rw[hn]at h;cases h
   |true=>
    rw[hn,cond_true]at h;cases hm:sK b with
    |false=>rw[hm]at h;cases h
    |true=>
     rw[hm,cond_true]at h;injection h with h;have e1:app (app (app p _) _) _=B:=congrArg Prod.fst h;rw[<-e1];simp only[cZ,List.length_append];omega
  rw[decide_eq_false f8,cond_false]at h;have h:=(cK h).2;injection h with h;have e1:p++_=B:=congrArg Prod.fst h;rw[<-e1];rw[List.length_append];omega
 exact⟨fun g hg k=>(no g hg k (by omega)).elim,fun k=>(Uj k (by omega)).elim,hB,fun k=>(Uj k (by omega)).elim⟩
theorem YF{p:List Int}{o a b lo hi:Int}{l B:List Int}(h:zL Prod.mk p o a b lo hi l=some (B,true))(f2:(kZ o).1=2):BkA a:=by
 unfold zL at h;dsimp only at h;rw[f2]at h;have h:(bif decide (a= -64)then _ else bif decide (a= -1)then _ else bif decide (a= -2)then _ else bif decide (a= -5)then _ else cy _ (cy _ (cy _ (cy _ (some (app p (sZ a),sK a))))))=some (B,true):=h;by_cases e1:a= -64
 ·exact .inl e1
 by_cases e2:a= -1
 ·exact .inr (.inl e2)
 by_cases e3:a= -2
 ·exact .inr (.inr (.inl e3))
 by_cases e4:a= -5
 ·exact .inr (.inr (.inr (.inl e4)))
 rw[decide_eq_false e1,decide_eq_false e2,decide_eq_false e3,decide_eq_false e4]at h;simp only[cond_false]at h;have e:=(cK (cK (cK (cK h).2).2).2).2;injection e with e;have e:sK a=true:=congrArg Prod.snd e;unfold sK at e;by_cases e5:(0:Int)<=a
 ·exact .inr (.inr (.inr (.inr e5)))
 ·rw[decide_eq_false e5]at e;cases e
theorem AB{x:den tI}(hI:Xt (mI x)=true)(h:(j8 (mI x)).2=true):zn x.1=true/\((kZ x.1).1=4∨x.2.2.2.2.2=[])/\(∀ f,f=(kZ x.1).1->(f=3∨f=4∨f=5∨f=6)->(0:Int)<=x.2.1/\(x.2.1:Int)<4294967296)/\((kZ x.1).1=4-> ∀ l,l∈x.2.2.2.2.2->(0:Int)<=l)/\1<=(j8 (mI x)).1.length/\((kZ x.1).1=4->List.length x.2.2.2.2.2<=(j8 (mI x)).1.length)/\((kZ x.1).1=2->BkA x.2.1):=by
 have e:=(EB hI).2 (List Int×Bool) Prod.mk;rw[h]at e;have e:zM Prod.mk x.1 x.2.1 x.2.2.1 x.2.2.2.1 x.2.2.2.2.1 x.2.2.2.2.2=some ((j8 (mI x)).1,true):=e;unfold zM at e;dsimp only at e;cases h1:zn x.1 with
 |false=>
  rw[h1]at e;injection e with e;have e2:false=true:=congrArg Prod.snd e;cases e2
 |true=>
  rw[h1]at e;simp only[Bool.not_true,cond_false]at e;cases h2:(zK (x.1,x.2.1,x.2.2.1,x.2.2.2.1,x.2.2.2.2.1,x.2.2.2.2.2,(kZ x.1).1,())).1 with
  |false=>
   rw[h2]at e;injection e with e;have e2:false=true:=congrArg Prod.snd e;cases e2
  |true=>
   rw[h2]at e;simp only[Bool.not_true,cond_false]at e;have hr:=anD _ _ _ _ _ _ _ h2;have hT: ∃ p:List Int,1<=p.length/\zL Prod.mk p x.1 x.2.1 x.2.2.1 x.2.2.2.1 x.2.2.2.2.1 x.2.2.2.2.2=some ((j8 (mI x)).1,true):=by
    cases hd:decide (64768<=x.1)with
    |true=>
     rw[hd]at e;exact⟨_,by rw[cZ,List.length_append];simp,(cK (cK (cK e).2).2).2⟩
    |false=>
     rw[hd]at e;exact⟨_,by simp,(cK e).2⟩
   obtain⟨p,p1,p2⟩:=hT;obtain⟨q1,q2,q3,q4⟩:=aeP p1 p2;exact⟨rfl,hr,q1,q2,q3,q4,YF p2⟩
theorem YG(x:den tI)(c:List (den tI))(out:List Int):uH (x::c) out=bif (j8 (mI x)).2 then uH c (out++(j8 (mI x)).1)else none:=by
 show nP Hl some (x::c) out=_;rw[nP];unfold Hl;cases(j8 (mI x)).2<;>rfl
theorem YH: ∀ (c:List (den tI)) (out B:List Int),Mt c=true->uH c out=some B->(∀ x,x∈c->(j8 (mI x)).2=true)/\out.length+c.length<=B.length/\ ∀ x,x∈c->List.length x.2.2.2.2.2<=B.length
 | [],out,B,_,h=>by cases h;exact⟨(fun x hx=>by cases hx),(by simp),(fun x hx=>by cases hx)⟩
 |x::c,out,B,hc,h=>by
  obtain⟨h1,h2⟩:=qz hc;rw[YG]at h;cases hp:(j8 (mI x)).2 with
  |false=>rw[hp]at h;cases h
  |true=>
   rw[hp,cond_true]at h;obtain⟨a,b,d⟩:=YH c _ B h2 h;obtain⟨_,p2,_,_,p5,p6,_⟩:=AB h1 hp;rw[List.length_append]at b;refine⟨fun z hz=>?_,by simp only[List.length_cons];omega,fun z hz=>?_⟩
   ·rcases List.mem_cons.1 hz with e|e
    ·subst e;exact hp
    ·exact a z e
   ·rcases List.mem_cons.1 hz with e|e
    ·subst e
     rcases p2 with p2|p2
     ·have:=p6 p2;omega
     ·rw[p2];exact Nat.zero_le _
    ·exact d z e
theorem aut{c:List (den tI)}(hc:wI c=true)(h:uI c=0)(hl:(wb c).length<=1048576):BOk c/\Clo [] c:=by
 have hi:Mt c=true:=by simp only[wI,Bool.and_eq_true]at hc;exact hc.1
 unfold uI at h;unfold wb at hl;cases ho:Mv c with
 |none=>rw[ho]at h;cases h
 |some B=>
  rw[ho]at hl;have hl:B.length<=1048576:=hl;unfold Mv at ho;cases nq:ly c with
  |false=>rw[nq]at ho;cases ho
  |true=>
   rw[nq,cond_true]at ho;obtain⟨a,b,d⟩:=YH c [] B hi ho;refine⟨⟨fun x hx=>?_,by simp only[List.length_nil]at b;omega⟩,?_⟩
   ·obtain⟨p1,p2,p3,p4,_,_,p7⟩:=AB (wq hi x hx) (a x hx);exact⟨p3,p4,by have:=d x hx;omega,p1,p7⟩
   ·unfold ly Mk at nq;unfold Clo;cases hf:nP zm (fun _=>(none:Option Bool)) c []with
    |none=>rw[hf]at nq;cases nq
    |some t=>rw[hf]at nq;exact congrArg some nq
theorem rU{t:Ty}{A:Item (den t)}{B:Iq A}{most:Int}{l:List (den t)}(h:nU B most l=true):(l.length:Int)<=most/\ ∀ x,x∈l->B.p x=true:=by
 unfold nU at h;rw[Bool.and_eq_true]at h;refine⟨of_decide_eq_true h.1,fun x hx=>?_⟩;have h2:=h.2;have qF: ¬ (l.length:Int)=0:=by
  have:=List.length_pos_of_mem hx;omega
 rw[decide_eq_false qF,cond_false,Bool.and_eq_true,Bool.and_eq_true,List.all_eq_true]at h2;exact h2.1.2 x hx
theorem YI{t:Ty}{A:Item (den t)}{B:Iq A}{id:Int}{l:List (den t)}{x:den t}(hx:x∈l):(B.bs x).length<=(wm B id l).length:=by
 have h1: ∀ l:List (den t),x∈l->(B.bs x).length<=(Av B l).length:=by
  intro l
  induction l with
  |nil=>intro h;cases h
  |cons a l ih=>
   intro h;show _<=(B.bs a++Av B l).length;rw[List.length_append]
   rcases List.mem_cons.1 h with e|e
   ·subst e;omega
   ·have:=ih e;omega
 have h2:=h1 l hx;have qF: ¬ (l.length:Int)=0:=by
  have:=List.length_pos_of_mem hx;omega
 unfold wm;rw[decide_eq_false qF,cond_false];simp only[List.length_cons,List.length_append];omega
theorem It(L:List Int)(i:Nat): ∀ (k n t:Nat),(∀ t,1<=t->t<n->L.getD (i+t) (cr i64)=L.getD i (cr i64))->1<=t->t<wg L i k n->L.getD (i+t) (cr i64)=L.getD i (cr i64)
 |0,n,t,h,a,b=>h t a b
 |k+1,n,t,h,a,b=>by
  unfold wg at b;split at b
  ·rename_i hc
   refine It L i k (n+1) t (fun t a b=>?_) a b;by_cases e:t=n
   ·subst e;exact hc.2
   ·exact h t a (by omega)
  ·exact h t a b
theorem YJ(L:List Int): ∀ (k i:Nat),L.length<=i+k->MC L k i=true-> ∀ j,i<=j->j<L.length->yW (L.getD j (cr i64))=true
 |0,i,h,_,j,a,b=>by omega
 |k+1,i,h,hp,j,a,b=>by
  unfold MC at hp;rw[if_pos (by omega),Bool.and_eq_true,Bool.and_eq_true]at hp;obtain⟨r1,r2⟩:=JN L i (by omega);by_cases e:j<i+oe L (i:Int)
  ·by_cases e2:j=i
   ·subst e2;exact hp.2.1
   ·have e3:oe L (i:Int)=wg L i L.length 1:=rfl;have:=It L i L.length 1 (j - i) (fun t a b=>by omega) (by omega) (by omega);rw[show i+(j - i)=j by omega]at this;rw[this];exact hp.2.1
  ·exact YJ L k (i+oe L (i:Int)) (by omega) hp.2.2 j (by omega) b
structure MOk(y:ca tM):Prop where
 ty:Hn y
 tk: ∀ s:den jK,s∈y.1->List.all s.1 yW=true/\List.all s.2 yW=true
 lt:y.1.length<=512
 li:y.2.1.length<=512
 lf:y.2.2.1.length<=512
 lb:y.2.2.2.1.length<=512
 lm:y.2.2.2.2.1.length<=512
 lg:y.2.2.2.2.2.1.length<=512
 lx:y.2.2.2.2.2.2.1.length<=512
 le:y.2.2.2.2.2.2.2.2.1.length<=512
 lc:y.2.2.2.2.2.2.2.2.2.1.length<=512
 ld:y.2.2.2.2.2.2.2.2.2.2.1.length<=512
 fc:y.2.2.1.length=y.2.2.2.2.2.2.2.2.2.1.length
 cd: ∀ C:den jV,C∈y.2.2.2.2.2.2.2.2.2.1->RZ C/\List.all C.1 yW=true
 ex: ∀ e:den kf,e∈y.2.2.2.2.2.2.1->(0:Int)<=e.2.1/\(e.2.1:Int)<=3
 st:(-1:Int)<=y.2.2.2.2.2.2.2.1/\(y.2.2.2.2.2.2.2.1:Int)<4294967296
 gk: ∀ g:den jQ,g∈y.2.2.2.2.2.1->yW g.1=true
 el: ∀ e:den jS,e∈y.2.2.2.2.2.2.2.2.1->List.length e.2<=1024
 x0:gNx y.2.2.2.2.2.2.1=true
theorem mok{V:ByteArray->Bool}{y:ca tM}(hE:OX V y=true)(hP:enP V y=true)(hB:(enB V y).length<=1048576)(hx:gNx y.2.2.2.2.2.2.1=true):MOk y:=by
 have hM:okM V y=true:=by unfold OX at hE;rw[Bool.and_eq_true]at hE;exact hE.1
 unfold okM at hM;simp only[Bool.and_eq_true]at hM;obtain⟨_,_,_,_,_,g6,_,g8,g9,g10⟩:=hM;unfold enP at hP;rw[Bool.and_eq_true,Bool.and_eq_true,Bool.and_eq_true]at hP;obtain⟨p0,p1,p2,p3⟩:=hP;unfold amX at p1;unfold amY at p3;simp only[Bool.and_eq_true]at p1 p3;obtain⟨a1,a2,a3,a4,a5,a6,a7⟩:=p1;obtain⟨a9,a10,a11⟩:=p3;have b1:=rU a1;have b2:=rU a2;have b3:=rU a3;have b4:=rU a4;have b5:=rU a5;have b6:=rU a6;have b7:=rU a7;have b9:=rU a9;have b10:=rU a10;have b11:=rU a11;have aGQ:(wm D7 10 y.2.2.2.2.2.2.2.2.2.1).length<=1048576:=by
  have:(enB V y).length=(amW V y).length+((stB y.2.2.2.2.2.2.2.1).length+(Yi y).length):=by unfold enB;rw[List.length_append,List.length_append]
  have:(Yi y).length=(wm SY 9 y.2.2.2.2.2.2.2.2.1).length+((wm D7 10 y.2.2.2.2.2.2.2.2.2.1).length+(wm SZ 11 y.2.2.2.2.2.2.2.2.2.2.1).length):=by unfold Yi;rw[List.length_append,List.length_append]
  omega
 have ty: ∀ s:den jK,s∈y.1->(List.length s.1<=32/\List.length s.2<=32)/\List.all s.1 yW=true/\List.all s.2 yW=true:=by
  intro s hs;have h:=b1.2 s hs;have h:(bif decide ((List.length s.1:Int)<=32)then decide ((List.length s.2:Int)<=32)&&(true&&([(List.length s.1:Int)].all og&&(List.all s.1 yW&&([(List.length s.2:Int)].all og&&List.all s.2 yW))))else false&&(true&&([(List.length s.1:Int)].all og&&(List.all s.1 yW&&([(List.length s.2:Int)].all og&&List.all s.2 yW)))))=true:=h;by_cases q:(List.length s.1:Int)<=32
  ·rw[decide_eq_true q,cond_true]at h;simp only[Bool.and_eq_true,decide_eq_true_eq]at h;exact⟨⟨by omega,by have:=h.1;omega⟩,h.2.2.2.1,h.2.2.2.2.2⟩
  ·rw[decide_eq_false q]at h;cases h
 refine⟨fun s hs=>(ty s hs).1,fun s hs=>(ty s hs).2,by omega,by omega,by omega,by omega,by omega,by omega,by omega,by omega,by omega,by omega,by have:=of_decide_eq_true p0;omega,fun C hC=>?_,fun e he=>?_,?_,fun g hg=>?_,fun e he=>?_,hx⟩
 ·have h:=b10.2 C hC;have h:(decide ((List.length C.1:Int)<=512)&&(S4 C&&og ((D6 C).length:Int)))=true:=h;rw[Bool.and_eq_true,Bool.and_eq_true]at h;obtain⟨h1,h2,h3⟩:=h;unfold S4 at h2;rw[Bool.and_eq_true,Bool.and_eq_true]at h2;have hl:(wb C.2).length<=1048576:=by
   have h4:(nb ((D6 C).length:Int)++D6 C).length<=_:=YI (B:=D7) (id:=10) hC
   have h5:(D6 C).length=(nb (kL C.1 0)).length+((JR C.1 (List.length C.1) 0).length+(wb C.2).length):=by unfold D6;rw[List.length_append,List.length_append]
   rw[List.length_append]at h4;omega
  have hok:wI C.2=true:=wq g9 C hC;obtain⟨q1,q2⟩:=aut hok (of_decide_eq_true h2.2.2) hl;refine⟨⟨q1,q2,by have:=of_decide_eq_true h1;omega⟩,?_⟩;rw[List.all_eq_true];intro t ht;obtain⟨j,hj,e⟩:=List.getElem_of_mem ht;have:=YJ C.1 (List.length C.1) 0 (by omega) h2.2.1 j (Nat.zero_le _) hj;rw[List.getD_eq_getElem?_getD,List.getElem?_eq_getElem hj]at this;rw[<-e];exact this
 ·have h:=b7.2 e he;have h:(bif decide ((0:Int)<=e.2.1)then decide ((e.2.1:Int)<=3)&&(p36 V e.1&&(true&&[e.2.2].all og))else false&&(p36 V e.1&&(true&&[e.2.2].all og)))=true:=h;by_cases q:(0:Int)<=e.2.1
  ·rw[decide_eq_true q,cond_true,Bool.and_eq_true]at h;exact⟨q,of_decide_eq_true h.1⟩
  ·rw[decide_eq_false q]at h;cases h
 ·unfold stP at p2;rw[Bool.and_eq_true]at p2;refine⟨of_decide_eq_true p2.1,?_⟩;by_cases q:(0:Int)<=y.2.2.2.2.2.2.2.1
  ·have h:=p2.2;rw[decide_eq_true q,cond_true,Bool.and_eq_true]at h;have h:=h.1;unfold og at h;rw[Bool.and_eq_true]at h;exact of_decide_eq_true h.2
  ·have key: ∀ a:Int,¬ 0<=a->a<4294967296:=fun a _=>by omega
   exact key _ q
 ·have h:=b6.2 g hg;have h:([(g.1:Int)].all yW&&bif g.2.1 then true&&decide (uI g.2.2=0)else true&&decide (uI g.2.2=0))=true:=h;rw[Bool.and_eq_true]at h;have h:=h.1
  simpa using h
 ·have h:=b9.2 e he;have h:(decide ((List.length e.2:Int)<=1024)&&_)=true:=h;rw[Bool.and_eq_true]at h;have:=of_decide_eq_true h.1;omega
theorem xk{α:Type}{f:List Pl->T Rs}{l:List α}(st:Nat->List Pl)(p:α->Bool)(o0 o1:List Pl)
 (BP: ∀ j x r,l.drop j=x::r->(f (st j)).val=some (bif p x then .next (st (j+1))else .out 1 o1))(JC:(f (st l.length)).val=some (.out 0 o0)):oU f (st 0) (bif l.all p then 0 else 1) (bif l.all p then o0 else o1):=by
 have key: ∀ (r:List α) (j:Nat),l.drop j=r->j<=l.length->oU f (st j) (bif r.all p then 0 else 1) (bif r.all p then o0 else o1):=by
  intro r
  induction r with
  |nil=>
   intro j h hj
   have:j=l.length:=by have:=List.drop_eq_nil_iff.1 h;omega
   subst this;exact .last JC
  |cons x r ih=>
   intro j h hj;have nM:j<l.length:=by
    rcases Nat.lt_or_ge j l.length with k|k
    ·exact k
    ·rw[List.drop_eq_nil_of_le k]at h;cases h
   have hr:l.drop (j+1)=r:=by rw[<-List.tail_drop,h];rfl
   have hs:=BP j x r h;rw[List.all_cons];cases hp:p x with
   |true=>rw[hp]at hs;rw[Bool.true_and];exact .more hs (ih (j+1) hr nM)
   |false=>rw[hp]at hs;exact .last hs
 exact key l 0 rfl (Nat.zero_le _)
def wy(l:List (List (den cF))):Nat:=l.foldr (fun x n=>x.length+n) 0
theorem Pd(l:List (List (den cF))): ∀ (s:List (den cF)),l.foldl (fun s x=>s++x) s=s++l.flatten:=by
 induction l with
 |nil=>intro s;simp
 |cons x l ih=>intro s;show l.foldl _ (s++x)=_;rw[ih];simp
theorem Pe(l:List (List (den cF))): ∀ (s:Nat),l.foldl (fun s x=>s+x.length) s=s+wy l:=by
 induction l with
 |nil=>intro s;rfl
 |cons x l ih=>intro s;show l.foldl _ (s+x.length)=s+(x.length+wy l);rw[ih];omega
theorem anE(c:List (List (den cF)))(hc:c.length+wy c<=1073741824):oU O5 (cg B4 (c,((0:Nat):Int),c,(c.length:Int),((0:Nat):Int),())) 0 (cg tj (c,(wy c:Int),())):=by
 have r0:=SL (f:=O5) (l:=c) (fun(s:Nat) j=>cg B4 (c,(s:Int),c,(c.length:Int),(j:Int),())) (fun s x=>.inl (s+x.length)) (fun s=>(0,cg tj (c,(s:Int),()))) (fun s r=>s+wy r<=1073741824) (fun s j x r e hi=>by
  obtain⟨e1,e2⟩:=kq e (cr (.cq cF));have e2:c.getD j (cr (.cq cF))=x:=e2;have hi1:s+(x.length+wy r)<=1073741824:=hi;have I1:decide (((s+x.length:Nat):Int)<0)=false:=decide_eq_false (by omega);have hq:jR .i64 (s:Int) (x.length:Int)=((s+x.length:Nat):Int):=JA (by omega);refine⟨?_,fun s' e=>by cases e;exact(by omega:s+x.length+wy r<=1073741824)⟩;rw[ajm c c (s:Int) (c.length:Int) (j:Int) ((s+x.length:Nat):Int) (by rw[Int.toNat_natCast,e2];exact hq.symm),kY e1,cond_true,JW e1,I1,rM (by omega)];rfl) (fun s j e hj _=>by
  have:j=c.length:=by have:=List.drop_eq_nil_iff.1 e;omega
  subst this;rw[ajm c c (s:Int) (c.length:Int) (c.length:Int) _ rfl,km (Nat.le_refl _)]
  rfl) c 0 0 rfl (by omega) (by omega)
 rw[mP,Pe,Nat.zero_add]at r0;exact r0
theorem anF(c:List (List (den cF)))(hc:c.length+wy c<=1073741824):oU MF (cg zP ([],c,(c.length:Int),((0:Nat):Int),())) 0 (cg tl (c.flatten,())):=by
 have r2:=SL (f:=MF) (l:=c) (fun(s:List (den cF)) j=>cg zP (s,c,(c.length:Int),(j:Int),())) (fun s x=>.inl (s++x)) (fun s=>(0,cg tl (s,()))) (fun s r=>s.length+wy r<=1073741824) (fun s j x r e hi=>by
  obtain⟨e1,e2⟩:=kq e (cr (.cq cF));have e2:c.getD j (cr (.cq cF))=x:=e2;have hi1:s.length+(x.length+wy r)<=1073741824:=hi;refine⟨?_,fun s' e=>by cases e;rw[List.length_append];omega⟩;rw[ajn s c (c.length:Int) (j:Int) x (by rw[Int.toNat_natCast];exact e2.symm),kY e1,cond_true,JW e1,jW (by omega) (by omega),cZ,rM (by omega)];rfl) (fun s j e hj _=>by
  have:j=c.length:=by have:=List.drop_eq_nil_iff.1 e;omega
  subst this;rw[ajn s c (c.length:Int) (c.length:Int) _ rfl,km (Nat.le_refl _)]
  rfl) c 0 [] rfl (by omega) (by simp;omega)
 rw[mP,Pd,List.nil_append]at r2;exact r2
theorem auv(c:List (List (den cF)))(hc:c.length+wy c<=1073741824):(t55 (c,())).val=some (cg O6 (c.flatten,())):=by
 have v0:=uT (anE c hc);have v2:=uT (anF c hc);have hw:jF .i64 (wy c:Int) 0=(wy c:Int):=by
  show kK .i64 ((wy c:Int) - 0)=_;rw[wrap_i64 (by omega) (by omega)];omega
 have I1:decide ((wy c:Int)<0)=false:=decide_eq_false (by omega);have c1:roomy 16 (0+(List.replicate (wy c:Int).toNat ((0,0):den cF)).length)=true:=jW (by omega) (by rw[List.length_replicate,Int.toNat_natCast];omega);have c2:mS 0 0 ((app [] (List.replicate (wy c:Int).toNat ((0,0):den cF))).length:Int)=true:=JX (j:=0) (Nat.zero_le _);have a1:uF O5 B4 tj (c,0,c,(c.length:Int),0,())=true:=v0.1;have a3:uF MF zP tl ([],c,(c.length:Int),0,())=true:=v2.1;have a4:qb MF zP tl ([],c,(c.length:Int),0,())=(c.flatten,()):=v2.2;rw[aBk c (c,(wy c:Int),()) v0.2.symm,a1];dsimp only;rw[a3,a4,I1,hw];generalize cg O6 (c.flatten,())=R;have c3:decide ((0:Int)<=(wy c:Int))=true:=decide_eq_true (by omega);rw[c1,c2,c3];cases decide ((0:Int)<(wy c:Int))<;>rfl
theorem xl{f:List Pl->T Rs}{ti t0 t1:List Ty}{x:ca ti}{b:Bool}{u:ca t0}{v:ca t1}(h:oU f (cg ti x) (bif b then 0 else 1) (bif b then cg t0 u else cg t1 v)):GU f ti t0 t1 x=true/\Ez f ti x=b/\(b=true->qb f ti t0 x=u)/\(b=false->qb f ti t1 x=v):=by
 cases b with
 |true=>obtain⟨a,b,c⟩:=JF (t0:=t0) (t1:=t1) (y:=u) h;exact⟨a,b,(fun _=>c),(fun e=>by cases e)⟩
 |false=>obtain⟨a,b,c⟩:=OM (t0:=t0) (t1:=t1) (y:=v) h;exact⟨a,b,(fun e=>by cases e),(fun _=>c)⟩
def aeQ(y:ca tM)(fn:Int)(x:den jS):Bool:= !decide ((y.2.2.2.1.length:Int)=0)&&(D5 x.1 127&&List.all x.2 (fun f=> !decide (fn<=f)))
def aeR(y:ca tM)(x:den jZ):Bool:= !decide ((y.2.2.2.2.1.length:Int)=0)&&D5 x.1 127
def anG(y:ca tM)(fn:Int):Bool:=List.all y.2.2.2.2.2.2.2.2.1 (aeQ y fn)&&List.all y.2.2.2.2.2.2.2.2.2.2.1 (aeR y)
theorem auw(y:ca tM)(fn:Int)(h1:y.2.2.2.2.2.2.2.2.1.length<=1048576)(h2:y.2.2.2.2.2.2.2.2.2.2.1.length<=1048576)(h3: ∀ e:den jS,e∈y.2.2.2.2.2.2.2.2.1->List.length e.2<=1048576):(t58 (mF y (fn,()))).val=some (cg MG (anG y fn,())):=by
 have r0:=xk (f:=O8) (l:=y.2.2.2.2.2.2.2.2.1) (fun j=>cg xD (fn,mF y (y.2.2.2.2.2.2.2.2.1,(y.2.2.2.2.2.2.2.2.1.length:Int),(j:Int),()))) (aeQ y fn) (cg uV (mF y ())) (cg uW (false,())) (fun j x r e=>by
  obtain⟨e1,e2⟩:=kq e (cr jS);have hx:x∈y.2.2.2.2.2.2.2.2.1:=by
   have:x∈y.2.2.2.2.2.2.2.2.1.drop j:=by rw[e];exact List.mem_cons_self
   exact List.mem_of_mem_drop this
  have hl:=h3 x hx;have r2:=xk (f:=O7) (l:=x.2) (fun k=>cg yq (fn,mF y (y.2.2.2.2.2.2.2.2.1,(y.2.2.2.2.2.2.2.2.1.length:Int),(j:Int),x.2,(List.length x.2:Int),(k:Int),()))) (fun f=> !decide (fn<=f)) _ _ (fun k f r e=>by
   obtain⟨e1,e2⟩:=kq e (cr i64);rw[ajj,kY e1,cond_true,JW e1,Int.toNat_natCast,e2,rM (by omega)]
   cases decide (fn<=f)<;>rfl) (by rw[ajj,km (Nat.le_refl _)];rfl)
  have q:=xl (ti:=yq) (t0:=xe) (t1:=yX) (x:=(fn,mF y (y.2.2.2.2.2.2.2.2.1,(y.2.2.2.2.2.2.2.2.1.length:Int),(j:Int),x.2,(List.length x.2:Int),0,()))) (u:=(fn,mF y (y.2.2.2.2.2.2.2.2.1,(y.2.2.2.2.2.2.2.2.1.length:Int),(j:Int),()))) (v:=(false,())) r2;obtain⟨q1,q2,q3,q4⟩:=q;rw[ajk fn y _ _ _ x (by rw[Int.toNat_natCast];exact e2.symm) _ rfl _ rfl,kY e1,cond_true,JW e1,q1,q2];unfold aeQ;cases decide ((y.2.2.2.1.length:Int)=0)with
  |true=>rfl
  |false=>
   cases D5 x.1 127 with
   |false=>rfl
   |true=>
    cases ha:List.all x.2 (fun f=> !decide (fn<=f))with
    |true=>rw[q3 ha];show some (Rs.next (cg xD (fn,mF y (y.2.2.2.2.2.2.2.2.1,(y.2.2.2.2.2.2.2.2.1.length:Int),jR .i64 (j:Int) 1,()))))=_;rw[rM (by omega)];rfl
    |false=>rw[q4 ha];rfl) (by rw[ajk fn y _ _ _ _ rfl _ rfl _ rfl,km (Nat.le_refl _)];rfl)
 obtain⟨a1,a2,a3,a4⟩:=xl (ti:=xD) (t0:=uV) (t1:=uW) (x:=(fn,mF y (y.2.2.2.2.2.2.2.2.1,(y.2.2.2.2.2.2.2.2.1.length:Int),0,()))) (u:=(mF y ())) (v:=(false,())) r0;have r4:=xk (f:=S9) (l:=y.2.2.2.2.2.2.2.2.2.2.1) (fun j=>cg zR (mF y (y.2.2.2.2.2.2.2.2.2.2.1,(y.2.2.2.2.2.2.2.2.2.2.1.length:Int),(j:Int),()))) (aeR y) (cg yY ()) (cg xf (false,())) (fun j x r e=>by
  obtain⟨e1,e2⟩:=kq e (cr jZ);rw[ajl y _ _ _ x (by rw[Int.toNat_natCast];exact e2.symm),kY e1,cond_true,JW e1,rM (by omega)];unfold aeR
  cases decide ((y.2.2.2.2.1.length:Int)=0)<;>cases D5 x.1 127<;>rfl) (by rw[ajl y _ _ _ _ rfl,km (Nat.le_refl _)];rfl)
 obtain⟨b1,b2,b3,b4⟩:=xl (ti:=zR) (t0:=yY) (t1:=xf) (x:=(mF y (y.2.2.2.2.2.2.2.2.2.2.1,(y.2.2.2.2.2.2.2.2.2.2.1.length:Int),0,()))) (u:=()) (v:=(false,())) r4;unfold anG;cases hA:List.all y.2.2.2.2.2.2.2.2.1 (aeQ y fn)with
 |false=>
  rw[hA]at a2;rw[aur y fn _ rfl _ rfl _ rfl,a1,a2,a4 hA];rfl
 |true=>
  rw[hA]at a2;rw[aur y fn _ rfl _ (a3 hA).symm _ rfl,a1,a2];cases hB:List.all y.2.2.2.2.2.2.2.2.2.2.1 (aeR y)with
  |true=>rw[hB]at b2;simp only[cy,cond_true];rw[b1,b2];rfl
  |false=>rw[hB]at b2;simp only[cy,cond_true];rw[b1,b2,b4 hB];rfl
def Cz(y:ca tM):Nat:=y.2.1.length+y.2.2.1.length
def ajr(y:ca tM):Bool:=(List.range (Cz y)).all (fun i=>kG y.1 (kI y.2.1 y.2.2.1 (i:Int)))
def aeS(l:den cF):Bool:= !(bif !decide (l.2= -1)then decide (l.2<l.1)else false)
def pGl(g:den jQ):Bool:=D5 g.2.2 g.1
def pTM(y:ca tM):Bool:=bif decide (1<(y.2.2.2.1.length:Int))then true else decide (1<(y.2.2.2.2.1.length:Int))
def pMx(y:ca tM):Bool:=bif decide ((y.2.2.2.2.1.length:Int)=1)then decide (65536<(y.2.2.2.2.1.getD 0 (cr cF)).2)else false
def Dd(y:ca tM):Bool:=ajr y&&(!pTM y&&(List.all (y.2.2.2.1++y.2.2.2.2.1) aeS&&(!pMx y&&(List.all y.2.2.2.2.2.1 pGl&&(mNm (mF y ((Cz y:Int),()))&&anG y (Cz y:Int))))))
set_option maxHeartbeats 2000000 in
theorem auy{y:ca tM}(h:MOk y):(t19 (mF y ())).val=some (cg D8 (Dd y,())):=by
 have li:=h.li;have lf:=h.lf;have lb:=h.lb;have lm:=h.lm;have lg:=h.lg;have hf:jR .i64 (y.2.1.length:Int) (y.2.2.1.length:Int)=(Cz y:Int):=JA (by omega)
 have hpf:Cz y<=1024:=by unfold Cz;omega
 have r0:=xk (f:=f190) (l:=List.range (Cz y)) (fun j=>cg wo ((Cz y:Int),mF y ((Cz y:Int),(j:Int),()))) (fun i=>kG y.1 (kI y.2.1 y.2.2.1 (i:Int))) (cg tt ((Cz y:Int),mF y ())) (cg uX (false,())) (fun j x r e=>by
  obtain⟨e1,e2⟩:=kq e 0;have e3:x=j:=by
   rw[<-e2,List.getD_eq_getElem?_getD,List.getElem?_eq_getElem e1];simp
  rw[e3];rw[List.length_range]at e1;have c:(decide ((j:Int)<9223372036854775808)&&decide (y.2.1.length<=1099511627776))=true:=by
   rw[decide_eq_true (by omega),decide_eq_true (by omega)];rfl
  rw[ajo _ _ (MI h.ty),kY e1,cond_true,c,rM (by omega)]
  cases kG y.1 (kI y.2.1 y.2.2.1 (j:Int))<;>rfl) (by rw[ajo _ _ (MI h.ty),List.length_range,km (Nat.le_refl _)];rfl)
 obtain⟨a1,a2,a3,a4⟩:=xl (ti:=wo) (t0:=tt) (t1:=uX) (x:=((Cz y:Int),mF y ((Cz y:Int),0,()))) (u:=((Cz y:Int),mF y ())) (v:=(false,())) r0;have s55:=qo (auv [y.2.2.2.1,y.2.2.2.2.1] (by
  show 2+(y.2.2.2.1.length+(y.2.2.2.2.1.length+0))<=_
  omega))
 have e55:(m55 ([y.2.2.2.1,y.2.2.2.2.1],())).1=y.2.2.2.1++y.2.2.2.2.1:=by
  rw[show m55 ([y.2.2.2.1,y.2.2.2.2.1],())=_ from s55.2];simp
 have hll:(y.2.2.2.1++y.2.2.2.2.1).length<=1024:=by rw[List.length_append];omega
 have r2:=xk (f:=f192) (l:=y.2.2.2.1++y.2.2.2.2.1) (fun j=>cg yt ((Cz y:Int),mF y (y.2.2.2.1++y.2.2.2.2.1,((y.2.2.2.1++y.2.2.2.2.1).length:Int),(j:Int),()))) aeS (cg uY ((Cz y:Int),mF y ())) (cg xg (false,())) (fun j x r e=>by
  obtain⟨e1,e2⟩:=kq e (cr cF);rw[ajp _ y _ _ _ x (by rw[Int.toNat_natCast];exact e2.symm),kY e1,cond_true,JW e1,rM (by omega)];unfold aeS
  cases(bif !decide (x.2= -1)then decide (x.2<x.1)else false)<;>rfl) (by rw[ajp _ y _ _ _ _ rfl,km (Nat.le_refl _)];rfl)
 obtain⟨b1,b2,b3,b4⟩:=xl (ti:=yt) (t0:=uY) (t1:=xg) (x:=((Cz y:Int),mF y (y.2.2.2.1++y.2.2.2.2.1,((y.2.2.2.1++y.2.2.2.2.1).length:Int),0,()))) (u:=((Cz y:Int),mF y ())) (v:=(false,())) r2;have r4:=xk (f:=f194) (l:=y.2.2.2.2.2.1) (fun j=>cg yu ((Cz y:Int),mF y (y.2.2.2.2.2.1,(y.2.2.2.2.2.1.length:Int),(j:Int),()))) pGl (cg uZ ((Cz y:Int),mF y ())) (cg xh (false,())) (fun j x r e=>by
  obtain⟨e1,e2⟩:=kq e (cr jQ);rw[ajq _ y _ _ _ x (by rw[Int.toNat_natCast];exact e2.symm),kY e1,cond_true,JW e1,rM (by omega)];unfold pGl
  cases D5 x.2.2 x.1<;>rfl) (by rw[ajq _ y _ _ _ _ rfl,km (Nat.le_refl _)];rfl)
 obtain⟨c1,c2,c3,c4⟩:=xl (ti:=yu) (t0:=uZ) (t1:=xh) (x:=((Cz y:Int),mF y (y.2.2.2.2.2.1,(y.2.2.2.2.2.1.length:Int),0,()))) (u:=((Cz y:Int),mF y ())) (v:=(false,())) r4;have s58:=qo (auw y (Cz y:Int) (by have:=h.le;omega) (by have:=h.ld;omega) (fun e he=>by have:=h.el e he;omega));have hN:Yq (mF y ((Cz y:Int),()))=true:=by
  have k1:jC (fun e:den kf=>decide (0<=e.2.1)&&decide (e.2.1<=3)) y.2.2.2.2.2.2.1=true:=by
   rw[ou,List.all_eq_true];intro e he;obtain⟨q1,q2⟩:=h.ex e he;rw[Bool.and_eq_true];exact⟨decide_eq_true q1,decide_eq_true q2⟩
  have k2:decide ((y.2.2.2.2.2.2.2.1:Int)<9223372036854775808)=true:=decide_eq_true (Int.lt_trans h.st.2 (by decide));have k3:decide (y.2.1.length<=1099511627776)=true:=decide_eq_true (by omega);have k4:decide (y.2.2.2.2.2.2.1.length<=1099511627776)=true:=decide_eq_true (by have:=h.lx;omega);show(((jC _ _&&((decide _&&decide _)&&decide _))&&gNx _)&&gT _)=true;rw[k1,k2,k3,k4,h.x0,MI h.ty];rfl
 have hx:(bif decide ((y.2.2.2.2.1.length:Int)=1)then jA 0 (y.2.2.2.2.1.length:Int)else true)=true:=by
  by_cases q:(y.2.2.2.2.1.length:Int)=1
  ·rw[decide_eq_true q,cond_true];exact JW (j:=0) (by omega)
  ·rw[decide_eq_false q];rfl
 unfold Dd;cases hA:ajr y with
 |false=>
  have hA':(List.range (Cz y)).all (fun i=>kG y.1 (kI y.2.1 y.2.2.1 (i:Int)))=false:=hA;rw[hA']at a2;rw[aeN y _ hf _ rfl _ rfl _ rfl _ rfl _ rfl _ rfl _ rfl,a1,a2,a4 hA'];rfl
 |true=>
  have hA':(List.range (Cz y)).all (fun i=>kG y.1 (kI y.2.1 y.2.2.1 (i:Int)))=true:=hA;rw[hA']at a2;cases hB:List.all (y.2.2.2.1++y.2.2.2.2.1) aeS with
  |false=>
   rw[hB]at b2;rw[aeN y _ hf _ rfl _ (a3 hA').symm _ e55.symm _ rfl _ rfl _ rfl _ rfl,a1,a2];unfold pTM;simp only[cond_true,cy];rw[show k55 ([y.2.2.2.1,y.2.2.2.2.1],())=true from s55.1,b1,b2,b4 hB];cases(bif decide (1<(y.2.2.2.1.length:Int))then true else decide (1<(y.2.2.2.2.1.length:Int)))<;>rfl
  |true=>
   rw[hB]at b2;cases hC:List.all y.2.2.2.2.2.1 pGl with
   |false=>
    rw[hC]at c2;rw[aeN y _ hf _ rfl _ (a3 hA').symm _ e55.symm _ rfl _ (b3 hB).symm _ rfl _ rfl,a1,a2];unfold pTM pMx;simp only[cond_true,cy];rw[show k55 ([y.2.2.2.1,y.2.2.2.2.1],())=true from s55.1,b1,b2,c1,c2,c4 hC,hx];cases(bif decide (1<(y.2.2.2.1.length:Int))then true else decide (1<(y.2.2.2.2.1.length:Int)))<;>cases(bif decide ((y.2.2.2.2.1.length:Int)=1)then decide (65536<(y.2.2.2.2.1.getD 0 (cr cF)).2)else false)<;>rfl
   |true=>
    rw[hC]at c2;rw[aeN y _ hf _ rfl _ (a3 hA').symm _ e55.symm _ rfl _ (b3 hB).symm _ rfl _ (c3 hC).symm,a1,a2];unfold pTM pMx;simp only[cond_true,cy];rw[show k55 ([y.2.2.2.1,y.2.2.2.2.1],())=true from s55.1,b1,b2,c1,c2,hN,hx,show k58 (mF y ((Cz y:Int),()))=true from s58.1,show m58 (mF y ((Cz y:Int),()))=_ from s58.2];cases(bif decide (1<(y.2.2.2.1.length:Int))then true else decide (1<(y.2.2.2.2.1.length:Int)))<;>cases(bif decide ((y.2.2.2.2.1.length:Int)=1)then decide (65536<(y.2.2.2.2.1.getD 0 (cr cF)).2)else false)<;>cases mNm (mF y ((Cz y:Int),()))<;>rfl
def Ho(y:ca tM):Bool:=(List.range y.2.2.2.2.2.2.2.2.2.1.length).all (fun i=>(vB y i).isSome)
def rN(V:ByteArray->Bool)(y:ca tM):Int:=bif !decide (uf V y=0)then uf V y else bif !Dd y then 12 else bif Ho y then 0 else 12
theorem YK{V:ByteArray->Bool}{y:ca tM}(hE:OX V y=true)(hx:gNx y.2.2.2.2.2.2.1=true)(h:uf V y=0):MOk y:=by
 have e:=JS hE;unfold uf at h;rw[e]at h;cases hP:enP V y with
 |false=>rw[hP]at h;cases h
 |true=>
  rw[hP]at h;simp only[Bool.not_true,cond_false]at h;by_cases q:(16384:Int)<((s0.1++enB V y).length:Int)
  ·rw[decide_eq_true q]at h;cases h
  ·rw[List.length_append]at q;exact mok hE hP (by omega) hx
theorem I8{y:ca tM}(h:MOk y){i:Nat}(hi:i<y.2.2.2.2.2.2.2.2.2.1.length):RZ (oF y i):=by
 refine(h.cd (oF y i) ?_).1;unfold oF;rw[List.getD_eq_getElem?_getD,List.getElem?_eq_getElem hi];exact List.getElem_mem hi
theorem anI{y:ca tM}(h:MOk y){i:Nat}(hi:i<y.2.2.2.2.2.2.2.2.2.1.length):k20 (mF y ((i:Int),()))=true/\m20 (mF y ((i:Int),()))=((vB y i).getD [],(vB y i).isSome,()):=
 qo (auq h.ty (by have:=h.li;omega) hi (by have:=h.lc;omega) (I8 h hi))
theorem aBn{V:ByteArray->Bool}{y:ca tM}(hE:OX V y=true)(hx:gNx y.2.2.2.2.2.2.1=true):(t8 V (mF y ())).val=some (cg to8 (rN V y,())):=by
 rw[eq8];have hE':OX V (mF y ())=true:=hE;rw[hE'];unfold rN;have eY:uf V (mF y ())=uf V y:=rfl;rw[eY];by_cases h0:uf V y=0
 ·rw[h0];have h:=YK hE hx h0;have s19:=qo (auy h);simp only[decide_true,Bool.not_true,cond_false,cy,cond_true];rw[show k19 (mF y ())=true from s19.1,show m19 (mF y ())=_ from s19.2,cond_true];cases ho:Dd y with
  |false=>rfl
  |true=>
   simp only[Bool.not_true,cond_false];have hlc:=h.lc;have r0:=xk (f:=f8x) (l:=List.range y.2.2.2.2.2.2.2.2.2.1.length) (fun j=>cg JV (mF y ((y.2.2.2.2.2.2.2.2.2.1.length:Int),(j:Int),()))) (fun i=>(vB y i).isSome) (cg Db ()) (cg Ay (12,())) (fun j x r e=>by
    obtain⟨e1,e2⟩:=kq e 0;have e3:x=j:=by
     rw[<-e2,List.getD_eq_getElem?_getD,List.getElem?_eq_getElem e1];simp
    rw[e3];rw[List.length_range]at e1;obtain⟨q1,q2⟩:=anI h e1;rw[aus,kY e1,cond_true,q1,q2,rM (by omega)]
    cases(vB y j).isSome<;>rfl) (by rw[aus,List.length_range,km (Nat.le_refl _)];rfl)
   obtain⟨a1,a2,a3,a4⟩:=xl (ti:=JV) (t0:=Db) (t1:=Ay) (x:=(mF y ((y.2.2.2.2.2.2.2.2.2.1.length:Int),0,()))) (u:=()) (v:=(12,())) r0;rw[a1,a2];cases hb:Ho y with
   |true=>rw[show(List.range y.2.2.2.2.2.2.2.2.2.1.length).all (fun i=>(vB y i).isSome)=true from hb];rfl
   |false=>rw[a4 hb,show(List.range y.2.2.2.2.2.2.2.2.2.1.length).all (fun i=>(vB y i).isSome)=false from hb];rfl
 ·rw[decide_eq_false h0];rfl
end Go.Proofs.Vd
noncomputable section
namespace Go.Ab.Lf
def pO(t:Ty):jJ:=kR (.cons (.im t) .nil) [] (.cons (.ow t) .nil) [.cq t] [.cq t] fun x=>.ck (decide (List.length x.1<=1099511627776)) (.ok (x.1,()))
theorem YL{t:Ty}{x:List (den t)}{r:List Pl}{H:Hq}:nA (.im t) (⟨.cq t,x⟩::r) H=some ([.c H.next (.cq t) x],r,⟨Nat.add H.next 1,H.cz⟩):=by
 unfold nA;simp only[tY]
theorem Te{p:n9}{pl:List Pl}{H H':Hq}{v:List Sv}(h:nA p pl H=some (v,[],H')):nA (.cons p .nil) pl H=some (v,[],H'):=by
 show(match nA p pl H with|some (v,r,H)=>(match nA .nil r H with|some (w,r,H)=>some (app v w,r,H)|none=>none)|none=>none)=_;rw[h];show some (app v [],([]:List Pl),H')=_;rw[cZ,List.append_nil]
def j5{α:Type}(a:α):α:=Classical.choose (⟨a,rfl⟩: ∃ x,x=a)
theorem cf{α:Type}(a:α):j5 a=a:=Classical.choose_spec (⟨a,rfl⟩: ∃ x,x=a)
theorem lH{to:List Ty}{t:T (List Pl)}{y:ca to}{k:Bool}{m:ca to}(hk:k=mf to t)(hm:m=j9 to t)(h:t.val=some (cg to y)):k=true/\m=y:=by
 rw[hk,hm];exact qo h
end Go.Ab.Lf
noncomputable section
namespace Go.Proofs.Vd
open Go.Ab Go.Ab.Lf
set_option maxRecDepth 100000
theorem df{p:Prop}[Decidable p](h: ¬ p):decide p=false:=decide_eq_false h
theorem dt{p:Prop}[Decidable p](h:p):decide p=true:=decide_eq_true h
theorem ad1{j:Nat}(h:j<=1099511627776):jR .i64 (j:Int) 1=((j+1:Nat):Int):=rM (by omega)
theorem De{f:List Pl->Lf.T Rs}(n:Nat)(st:Nat->List Pl)(o0:List Pl)
 (BP: ∀ j,j<n->(f (st j)).val=some (.next (st (j+1))))(JC:(f (st n)).val=some (.out 0 o0)):oU f (st 0) 0 o0:=by
 have key: ∀ (k j:Nat),j+k=n->oU f (st j) 0 o0:=by
  intro k
  induction k with
  |zero=>
   intro j h
   have:j=n:=by omega
   subst this;exact .last JC
  |succ k ih=>exact fun j h=>.more (BP j (by omega)) (ih (j+1) (by omega))
 exact key n 0 (by omega)
theorem wz{α:Type}(l:List α)(j:Nat)(d:α)(h:j<l.length):l.set j (l.getD j d)=l:=by
 rw[List.getD_eq_getElem?_getD,List.getElem?_eq_getElem h];exact List.set_getElem_self h
theorem wA{α:Type}{l:List α}{j:Nat}(h:j<l.length)(d:α):l.getD j d∈l:=by
 rw[List.getD_eq_getElem?_getD,List.getElem?_eq_getElem h];exact List.getElem_mem h
end Go.Proofs.Vd
