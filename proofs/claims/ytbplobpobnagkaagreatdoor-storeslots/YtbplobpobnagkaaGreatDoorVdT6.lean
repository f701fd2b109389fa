import Derived.Test.YtbplobpobnagkaaGreatDoorVdS2
noncomputable section
namespace Go.Proofs.Vd
open Go.Ab Go.Ab.Lf
set_option maxRecDepth 100000
def vc1(v t:Int):Int:=bif decide (t=123)then bw .i64 v 1 else v
def vcs(l:List Int):Int:=l.foldl vc1 0
theorem aaJ(y:aj tM)(lo:List Int)(w:W3)(mk:List (den tU))(k:Int)(x:den tI)(c:List (den tI))(n1 i1:Int)(hw:w.1.length<=1073741824):
 gG J4 (aA sR (wkV y lo w mk k x c n1 i1 0 (w.1.length:Int) 0)) 0 (aA mh (aaF y lo w mk k x c n1 i1 (vcs w.1))):=by
 have:=JR (f:=J4) (l:=w.1) (fun(v:Int) j=>aA sR (wkV y lo w mk k x c n1 i1 v (w.1.length:Int) (j:Int))) (fun v t=>.inl (vc1 v t)) (fun v=>(0,aA mh (aaF y lo w mk k x c n1 i1 v))) (fun _ _=>True) (fun v j t r e _=>by
  obtain⟨e1,e2⟩:=dr e (ao i64)
  refine⟨?_,fun _ _=>trivial⟩
  rw[Wy,dX e1,cond_true,Cc e1,Int.toNat_natCast,e2,kE (by omega)]
  unfold vc1
  cases decide (t=123)<;>rfl) (fun v j e hj _=>by
  have:j=w.1.length:=by have:=List.drop_eq_nil_iff.1 e;omega
  subst this
  rw[Wy,dn (Nat.le_refl _)]
  rfl) w.1 0 0 rfl (by omega) trivial
 rw[fI]at this
 exact this
def ON(w:W3):Bool:=bif (dA w.2.1).2.2.2.2.2 then !(dA w.2.1).2.2.2.2.1 else false
def Uu(w:W3):den tU:=bif ON w then(true,(w.1.length:Int),vcs w.1)else(false,0,0)
def qH(y:aj tM)(lo:List Int):W3->List (den tI)->Option (List (den tU))
 | _,[]=>some []
 |w,x::r=>bif (fD y lo w x).2.2 then none else(qH y lo (fD y lo w x) r).map (Uu w:: ·)
def Uv(op:List Int)(r:List (den tI)):Prop:=gq yQ (fun _=>(none:Option Bool)) r op=some true
def nbl(o:Int)(L:Nat):Nat:=if 2<=o/\o<=4 then L+1 else if o=11 then L - 1 else L
theorem OO{op:List Int}{x:den tI}{r:List (den tI)}(h:Uv op (x::r)):((x.1:Int)=11/\op=[]/\r=[])∨ ∃ op',Uv op' r/\op'.length+1=nbl x.1 (op.length+1)/\((x.1:Int)=11->op≠[]):=by
 have e:gq yQ (fun _=>(none:Option Bool)) (x::r) op=(match yQ op x r with| .inl s=>gq yQ (fun _=>none) r s| .inr o=>o):=by
  rw[gq]
  cases yQ op x r<;>rfl
 unfold Uv at h
 rw[e]at h
 unfold yQ at h
 unfold nbl
 by_cases h2:x.1=2∨x.1=3∨x.1=4
 ·have k2:(2:Int)<=x.1/\(x.1:Int)<=4:=by
   have: ∀ o:Int,o=2∨o=3∨o=4->2<=o/\o<=4:=fun o _=>by omega
   exact this _ h2
  rw[if_pos h2]at h
  by_cases q:op.length=128
  ·rw[if_pos q]at h;cases h
  ·rw[if_neg q]at h
   refine .inr ⟨op++[x.1],h,?_,fun e=>?_⟩
   ·rw[if_pos k2];simp
   ·have: ∀ o:Int,o=11-> ¬ (o=2∨o=3∨o=4):=fun o _=>by omega
    exact(this _ e h2).elim
 ·have k2: ¬ ((2:Int)<=x.1/\(x.1:Int)<=4):=by
   have: ∀ o:Int,¬ (o=2∨o=3∨o=4)-> ¬ (2<=o/\o<=4):=fun o _=>by omega
   exact this _ h2
  rw[if_neg h2]at h
  rw[if_neg k2]
  by_cases h5:(x.1:Int)=5
  ·rw[if_pos h5]at h
   rw[if_neg (sV h5 (by decide))]
   by_cases q:op.length=0∨ ¬ op.getD (op.length - 1) 0=4
   ·rw[if_pos q]at h;cases h
   ·rw[if_neg q]at h
    refine .inr ⟨op.set (op.length - 1) 5,h,by simp,fun e=>(sV h5 (c:=11) (by decide) e).elim⟩
  ·rw[if_neg h5]at h
   by_cases h11:(x.1:Int)=11
   ·rw[if_pos h11]at h
    rw[if_pos h11]
    by_cases h0:op.length=0
    ·rw[if_pos h0]at h
     refine .inl ⟨h11,List.eq_nil_of_length_eq_zero h0,?_⟩
     have h:some (decide (r.length=0))=some true:=h
     injection h with h
     exact List.eq_nil_of_length_eq_zero (of_decide_eq_true h)
    ·rw[if_neg h0]at h
     refine .inr ⟨op.take (op.length - 1),h,by simp;omega,fun _ e=>h0 (by rw[e];rfl)⟩
   ·rw[if_neg h11]at h
    rw[if_neg h11]
    exact .inr ⟨op,h,rfl,fun e=>(h11 e).elim⟩
theorem Uw(w:W3)(i:den tI):(GV w i).2.1=w.2.1:=by
 have eb: ∀ (T:List Int) (L:List Int) (v:W3),(L.foldl (pJ T) v).2.1=v.2.1:=by
  intro T L
  induction L with
  |nil=>intro v;rfl
  |cons x L ih=>intro v;exact(ih (pJ T v x)).trans rfl
 exact eb _ _ _
theorem Cf(w:W3):(tH w).2.1.length=w.2.1.length:=by
 show(w.2.1.set _ _).length=_
 rw[List.length_set]
theorem Ux(y:aj tM)(lo:List Int)(w:W3)(i:den tI):(wH y lo w i).2.1.length=w.2.1.length:=by
 unfold wH
 dsimp only
 cases decide (i.1=0)with
 |true=>exact Cf w
 |false=>
  cases decide (i.1=12)with
  |true=>exact Cf _
  |false=>
   cases decide (i.1=13)with
   |true=>rfl
   |false=>
    cases decide (i.1=14)with
    |true=>
     show(tH (fH (GV w i) _)).2.1.length=_
     rw[Cf]
     show(GV w i).2.1.length=_
     rw[Uw]
    |false=>
     cases decide (i.1=15)with
     |true=>exact Cf _
     |false=>
      simp only[cond_false]
      unfold J7
      dsimp only
      cases(bif !decide (i.1=33)then !decide (i.1=36)else false)<;>cases(bif !decide (i.1=32)then !decide (i.1=35)else false)<;>rfl
theorem OP{w:W3}(h:w.2.1≠[])(n:Int)(hb:(n6 w n).2.2=false):(n6 w n).2.1.length=if n=5 then w.2.1.length else w.2.1.length - 1:=by
 obtain⟨r,B,e⟩:=vh h
 have ec:tJ w=r:=by unfold tJ;rw[e];simp
 unfold n6 at hb ⊢
 cases hB:Ce w with
 |true=>rw[hB]at hb;cases hb
 |false=>
  by_cases h5:n=5
  ·rw[decide_eq_true h5,if_pos h5]
   show(fe _ (tJ w) _ _ _).length=_
   unfold fe
   rw[ec,e]
   simp
  ·rw[decide_eq_false h5,if_neg h5]
   show(tJ w).length=_
   rw[ec,e]
   simp
theorem Uy{y:aj tM}{lo:List Int}{w:W3}{i:den tI}(h:w.2.1≠[])(hb:(fD y lo w i).2.2=false):(fD y lo w i).2.1.length=nbl i.1 w.2.1.length:=by
 unfold fD at hb ⊢
 unfold nbl
 cases hp:(kG i.1).2.2.1 with
 |true=>
  obtain⟨a,b⟩:=aeW hp
  have: ∀ o:Int,¬ (2<=o/\o<=5)-> ¬ (2<=o/\o<=4):=fun o _=>by omega
  rw[if_neg (this _ a),if_neg b]
  simp only[cond_true]
  unfold aaH
  obtain⟨q,e⟩:=v8 y w i (kG i.1)
  rw[e]
 |false=>
  rw[hp]at hb
  simp only[cond_false]at hb ⊢
  by_cases h2:(i.1:Int)=2∨(i.1:Int)=3∨(i.1:Int)=4
  ·have k2:(2:Int)<=i.1/\(i.1:Int)<=4:=by
    have: ∀ o:Int,o=2∨o=3∨o=4->2<=o/\o<=4:=fun o _=>by omega
    exact this _ h2
   have c:(decide (i.1=2)||(decide (i.1=3)||decide (i.1=4)))=true:=by simp only[Bool.or_eq_true,decide_eq_true_eq];exact h2
   rw[c,if_pos k2]
   simp only[cond_true]
   unfold El
   dsimp only
   show(fe _ _ _ _ _).length=_
   unfold fe
   cases decide (i.1=4)<;>simp
  ·have k2: ¬ ((2:Int)<=i.1/\(i.1:Int)<=4):=by
    have: ∀ o:Int,¬ (o=2∨o=3∨o=4)-> ¬ (2<=o/\o<=4):=fun o _=>by omega
    exact this _ h2
   have c:(decide (i.1=2)||(decide (i.1=3)||decide (i.1=4)))=false:=by rw[Bool.eq_false_iff];intro q;simp only[Bool.or_eq_true,decide_eq_true_eq]at q;exact h2 q
   rw[c]at hb ⊢
   rw[if_neg k2]
   simp only[cond_false]at hb ⊢
   by_cases h5:(i.1:Int)=5∨(i.1:Int)=11
   ·have c:(decide (i.1=5)||decide (i.1=11))=true:=by simp only[Bool.or_eq_true,decide_eq_true_eq];exact h5
    rw[c]at hb ⊢
    simp only[cond_true]at hb ⊢
    rw[OP h i.1 hb]
    rcases h5 with h5|h5
    ·rw[if_pos h5,if_neg (sV h5 (by decide))]
    ·rw[if_neg (sV h5 (by decide)),if_pos h5]
   ·have c:(decide (i.1=5)||decide (i.1=11))=false:=by rw[Bool.eq_false_iff];intro q;simp only[Bool.or_eq_true,decide_eq_true_eq]at q;exact h5 q
    rw[c,if_neg (fun e=>h5 (.inr e))]
    simp only[cond_false]
    cases decide (i.1=26)with
    |true=>rfl
    |false=>
     cases decide (i.1=27)with
     |true=>rfl
     |false=>
      cases decide (i.1=16)with
      |true=>rfl
      |false=>
       cases decide (i.1=17)with
       |true=>rfl
       |false=>exact Ux y lo w i
structure BOk(c:List (den tI)):Prop where
 ok: ∀ x,x∈c->IOk x
 n:c.length<=1048576
theorem Uz{α:Type}(d:List α)(a b:α)(r:List α):(d++a::r).set d.length b=(d++[b])++r:=by
 rw[List.set_append_right _ _ (Nat.le_refl _)]
 simp
def oT(d:List (den tU)):Option (List (den tU))->Nat×List Pl
 |some l=>(0,aA gf (d++l,()))
 |none=>(1,aA ij ([],false,()))
theorem GX{y:aj tM}(ht:zY y)(Jg:y.2.1.length<=1099511627776)(lo:List Int){c:List (den tI)}(hc:BOk c): ∀ (r:List (den tI)) (j:Nat) (w:W3) (d:List (den tU)),c.drop j=r->d.length=j->(r=[]∨(Inv (32*j) (j+1) w/\ ∃ op,Uv op r/\w.2.1.length=op.length+1))->
 gG tF (aA ig (Ww y lo w (d++List.replicate r.length (false,0,0)) c (c.length:Int) (j:Int))) (oT d (qH y lo w r)).1 (oT d (qH y lo w r)).2
 | [],j,w,d,e,hd,_=>by
  have hj:c.length<=j:=List.drop_eq_nil_iff.1 e
  refine .last ?_
  rw[Wz y lo w _ c _ _ _ rfl _ rfl _ rfl _ rfl _ rfl _ rfl,dn hj]
  simp only[cond_false,List.length_nil,List.replicate_zero,List.append_nil]
  show some (Rs.out 0 (aA gf (d,())))=some (Rs.out 0 (aA gf (d++[],())))
  rw[List.append_nil]
 |x::r,j,w,d,e,hd,hi=>by
  obtain⟨hi,op,fY,Yz⟩:Inv (32*j) (j+1) w/\ ∃ op,Uv op (x::r)/\w.2.1.length=op.length+1:=by
   rcases hi with hi|hi
   ·cases hi
   ·exact hi
  obtain⟨e1,e2⟩:=dr e (ao tI)
  have hx:x∈c:=by
   have:x∈c.drop j:=by rw[e];exact List.mem_cons_self
   exact List.mem_of_mem_drop this
  have hI:=hc.ok x hx
  have hn:=hc.n
  have hs:=hi.sub (by omega)
  have eB:dA w.2.1=w.2.1.getD (bQ .i64 (w.2.1.length:Int) 1).toNat (ao cI):=by rw[hs,Int.toNat_natCast];rfl
  have s62:=jJ (ae6 hi ht lo hI (by have:=hI.n;omega) (by omega) Jg)
  have er:c.drop (j+1)=r:=by rw[<-List.tail_drop,e];rfl
  have hsk:=hi.sk
  have v:=lM (aaJ y lo w (d++List.replicate (x::r).length (false,0,0)) (j:Int) x c (c.length:Int) (j:Int) (by omega))
  have hmk:(d++List.replicate (x::r).length ((false,0,0):den tU)).set j (true,(w.1.length:Int),vcs w.1)=(d++[(true,(w.1.length:Int),vcs w.1)])++List.replicate r.length (false,0,0):=by
   rw[List.length_cons,List.replicate_succ,<-hd]
   exact Uz d _ _ _
  have ae7:d++List.replicate (x::r).length ((false,0,0):den tU)=(d++[(false,0,0)])++List.replicate r.length (false,0,0):=by
   rw[List.length_cons,List.replicate_succ]
   simp
  have hlen:(d++List.replicate (x::r).length ((false,0,0):den tU)).length=j+(r.length+1):=by simp[hd]
  have step: ∀ (hb:(fD y lo w x).2.2=false),r=[]∨(Inv (32*(j+1)) (j+1+1) (fD y lo w x)/\ ∃ op,Uv op r/\(fD y lo w x).2.1.length=op.length+1):=by
   intro hb
   rcases OO fY with⟨_,_,q⟩|⟨op',q1,q2,q3⟩
   ·exact .inl q
   ·have hl:=Uy hi.ne hb
    rw[Yz,<-q2]at hl
    have jR:(fD y lo w x).2.1≠[]:=fun e0=>by rw[e0]at hl;simp at hl
    exact .inr ⟨(hi.step ht lo hI (by have:=hI.n;omega) (by omega) jR).le (by omega) (Nat.le_refl _),op',q1,hl⟩
  have hq:=Wz y lo w (d++List.replicate (x::r).length (false,0,0)) c (c.length:Int) (j:Int) x (by rw[Int.toNat_natCast];exact e2.symm) (dA w.2.1) eB _ v.2.symm _ s62.2.symm _ rfl _ rfl
  rw[dX e1,cond_true,Cc e1,hs,hi.ix]at hq
  simp only[aM,cond_true]at hq
  have hlv:(bif (dA w.2.1).2.2.2.2.2 then !(dA w.2.1).2.2.2.2.1 else false)=ON w:=rfl
  rw[hlv]at hq
  cases hL:ON w with
  |true=>
   rw[hL,v.1]at hq
   simp only[cond_true]at hq
   have hq2:(tF (aA ig (Ww y lo w (d++List.replicate (x::r).length (false,0,0)) c (c.length:Int) (j:Int)))).val=bif aU (j:Int) ((d++List.replicate (x::r).length ((false,0,0):den tU)).length:Int)then(bif k62 (qe y lo w x)then(bif (AR (qe y lo w x)).2.2.2.2.2.2.2.2.2.2.2.2.2.2.1 then some (Rs.out 1 (aA ij ([],false,())))else some (Rs.next (aA ig ((AR (qe y lo w x)).1,(AR (qe y lo w x)).2.1,(AR (qe y lo w x)).2.2.1,(AR (qe y lo w x)).2.2.2.1,(AR (qe y lo w x)).2.2.2.2.1,(AR (qe y lo w x)).2.2.2.2.2.1,(AR (qe y lo w x)).2.2.2.2.2.2.1,(AR (qe y lo w x)).2.2.2.2.2.2.2.1,(AR (qe y lo w x)).2.2.2.2.2.2.2.2.1,(AR (qe y lo w x)).2.2.2.2.2.2.2.2.2.1,(AR (qe y lo w x)).2.2.2.2.2.2.2.2.2.2.1,(AR (qe y lo w x)).2.2.2.2.2.2.2.2.2.2.2.1,(AR (qe y lo w x)).2.2.2.2.2.2.2.2.2.2.2.2.1,(AR (qe y lo w x)).2.2.2.2.2.2.2.2.2.2.2.2.2.1,(AR (qe y lo w x)).2.2.2.2.2.2.2.2.2.2.2.2.2.2.1,(d++List.replicate (x::r).length ((false,0,0):den tU)).set (j:Int).toNat (true,(w.1.length:Int),vcs w.1),c,(c.length:Int),bw .i64 (j:Int) 1,()))))else none)else none:=hq
   rw[hlen,Cc (show j<j+(r.length+1) by omega),show k62 (qe y lo w x)=true from s62.1,Int.toNat_natCast,hmk,kE (by omega),show AR (qe y lo w x)=_ from s62.2]at hq2
   simp only[cond_true]at hq2
   have hp:qH y lo w (x::r)=bif (fD y lo w x).2.2 then none else(qH y lo (fD y lo w x) r).map (Uu w:: ·):=rfl
   rw[hp]
   cases hb:(fD y lo w x).2.2 with
   |true=>
    rw[hb]at hq2
    exact .last hq2
   |false=>
    rw[hb]at hq2
    have ih:=GX ht Jg lo hc r (j+1) (fD y lo w x) (d++[Uu w]) er (by simp[hd]) (step hb)
    have em:Uu w=(true,(w.1.length:Int),vcs w.1):=by unfold Uu;rw[hL];rfl
    rw[em]at ih
    rw[em]
    simp only[cond_false]
    have eo:oT d ((qH y lo (fD y lo w x) r).map ((true,(w.1.length:Int),vcs w.1):: ·))=oT (d++[(true,(w.1.length:Int),vcs w.1)]) (qH y lo (fD y lo w x) r):=by
     cases qH y lo (fD y lo w x) r with
     |none=>rfl
     |some l=>show((0:Nat),aA gf (d++_::l,()))=(0,aA gf ((d++[_])++l,()));simp
    rw[eo]
    refine .more (pl':=aA ig (Ww y lo (fD y lo w x) ((d++[(true,(w.1.length:Int),vcs w.1)])++List.replicate r.length (false,0,0)) c (c.length:Int) ((j+1:Nat):Int))) ?_ ih
    refine hq2.trans ?_
    show some _=some _
    rw[<-hb]
  |false=>
   rw[hL,show k62 (qe y lo w x)=true from s62.1]at hq
   simp only[cond_false,cond_true]at hq
   rw[kE (by omega),ae7]at hq
   have hp:qH y lo w (x::r)=bif (fD y lo w x).2.2 then none else(qH y lo (fD y lo w x) r).map (Uu w:: ·):=rfl
   rw[hp]
   have em:Uu w=(false,0,0):=by unfold Uu;rw[hL];rfl
   rw[ae7]
   cases hb:(fD y lo w x).2.2 with
   |true=>
    rw[hb]at hq
    exact .last hq
   |false=>
    rw[hb]at hq
    have ih:=GX ht Jg lo hc r (j+1) (fD y lo w x) (d++[Uu w]) er (by simp[hd]) (step hb)
    rw[em]at ih
    rw[em]
    simp only[cond_false]
    have eo:oT d ((qH y lo (fD y lo w x) r).map ((false,0,0):: ·))=oT (d++[(false,0,0)]) (qH y lo (fD y lo w x) r):=by
     cases qH y lo (fD y lo w x) r with
     |none=>rfl
     |some l=>show((0:Nat),aA gf (d++_::l,()))=(0,aA gf ((d++[_])++l,()));simp
    rw[eo]
    refine .more (pl':=aA ig (Ww y lo (fD y lo w x) ((d++[(false,0,0)])++List.replicate r.length (false,0,0)) c (c.length:Int) ((j+1:Nat):Int))) ?_ ih
    refine hq.trans ?_
    show some _=some _
    rw[<-hb]
end Go.Proofs.Vd

noncomputable section
namespace Go.Proofs.Vd
open Go.Ab Go.Ab.Lf
set_option maxRecDepth 100000
theorem BR{a b:Nat}(h:a+b<4611686018427387904):bw .i64 (a:Int) (b:Int)=((a+b:Nat):Int):=JV h
def ph(l:List (List Int)):Nat:=l.foldr (fun x n=>x.length+n) 0
theorem J8(l:List (List Int)): ∀ (s:List Int),l.foldl (fun s x=>s++x) s=s++l.flatten:=by
 induction l with
 |nil=>intro s;simp
 |cons x l ih=>intro s;show l.foldl _ (s++x)=_;rw[ih];simp
theorem J9(l:List (List Int)): ∀ (s:Nat),l.foldl (fun s x=>s+x.length) s=s+ph l:=by
 induction l with
 |nil=>intro s;rfl
 |cons x l ih=>intro s;show l.foldl _ (s+x.length)=s+(x.length+ph l);rw[ih];omega
theorem aaK(c:List (List Int))(hc:c.length+ph c<=1073741824):gG GK (aA ve (c,((0:Nat):Int),c,(c.length:Int),((0:Nat):Int),())) 0 (aA mb (c,(ph c:Int),())):=by
 have r0:=JR (f:=GK) (l:=c) (fun(s:Nat) j=>aA ve (c,(s:Int),c,(c.length:Int),(j:Int),())) (fun s x=>.inl (s+x.length)) (fun s=>(0,aA mb (c,(s:Int),()))) (fun s r=>s+ph r<=1073741824) (fun s j x r e hi=>by
  obtain⟨e1,e2⟩:=dr e (ao (.ae i64))
  have e2:c.getD j (ao (.ae i64))=x:=e2
  have XC:s+(x.length+ph r)<=1073741824:=hi
  have Bg:decide (((s+x.length:Nat):Int)<0)=false:=decide_eq_false (by omega)
  have hq:bw .i64 (s:Int) (x.length:Int)=((s+x.length:Nat):Int):=BR (by omega)
  refine⟨?_,fun s' e=>by cases e;exact(by omega:s+x.length+ph r<=1073741824)⟩
  rw[Wu c c (s:Int) (c.length:Int) (j:Int) ((s+x.length:Nat):Int) (by rw[Int.toNat_natCast,e2];exact hq.symm),dX e1,cond_true,Cc e1,Bg,kE (by omega)]
  rfl) (fun s j e hj _=>by
  have:j=c.length:=by have:=List.drop_eq_nil_iff.1 e;omega
  subst this
  rw[Wu c c (s:Int) (c.length:Int) (c.length:Int) _ rfl,dn (Nat.le_refl _)]
  rfl) c 0 0 rfl (by omega) (by omega)
 rw[fI,J9,Nat.zero_add]at r0
 exact r0
theorem aaL(c:List (List Int))(hc:c.length+ph c<=1073741824):gG Ef (aA sP ([],c,(c.length:Int),((0:Nat):Int),())) 0 (aA mc (c.flatten,())):=by
 have r2:=JR (f:=Ef) (l:=c) (fun(s:List Int) j=>aA sP (s,c,(c.length:Int),(j:Int),())) (fun s x=>.inl (s++x)) (fun s=>(0,aA mc (s,()))) (fun s r=>s.length+ph r<=1073741824) (fun s j x r e hi=>by
  obtain⟨e1,e2⟩:=dr e (ao (.ae i64))
  have e2:c.getD j (ao (.ae i64))=x:=e2
  have XC:s.length+(x.length+ph r)<=1073741824:=hi
  refine⟨?_,fun s' e=>by cases e;rw[List.length_append];omega⟩
  rw[Wv s c (c.length:Int) (j:Int) x (by rw[Int.toNat_natCast];exact e2.symm),dX e1,cond_true,Cc e1,bJ (by omega) (by omega),bp,kE (by omega)]
  rfl) (fun s j e hj _=>by
  have:j=c.length:=by have:=List.drop_eq_nil_iff.1 e;omega
  subst this
  rw[Wv s c (c.length:Int) (c.length:Int) _ rfl,dn (Nat.le_refl _)]
  rfl) c 0 [] rfl (by omega) (by simp;omega)
 rw[fI,J8,List.nil_append]at r2
 exact r2
theorem ae8(c:List (List Int))(hc:c.length+ph c<=1073741824):(t59 (c,())).val=some (aA GL (c.flatten,())):=by
 have v0:=lM (aaK c hc)
 have v2:=lM (aaL c hc)
 have hw:bQ .i64 (ph c:Int) 0=(ph c:Int):=by
  show eZ .i64 ((ph c:Int) - 0)=_
  rw[wrap_i64 (by omega) (by omega)]
  omega
 have Bg:decide ((ph c:Int)<0)=false:=decide_eq_false (by omega)
 have c1:roomy 8 (0+(List.replicate (ph c:Int).toNat (0:Int)).length)=true:=bJ (by omega) (by rw[List.length_replicate,Int.toNat_natCast];omega)
 have c2:eK 0 0 ((app [] (List.replicate (ph c:Int).toNat (0:Int))).length:Int)=true:=Cd (j:=0) (Nat.zero_le _)
 have a1:rk GK ve mb (c,0,c,(c.length:Int),0,())=true:=v0.1
 have a3:rk Ef sP mc ([],c,(c.length:Int),0,())=true:=v2.1
 have a4:gM Ef sP mc ([],c,(c.length:Int),0,())=(c.flatten,()):=v2.2
 rw[aj4 c (c,(ph c:Int),()) v0.2.symm,a1]
 dsimp only
 rw[a3,a4,Bg,hw]
 generalize aA GL (c.flatten,())=R
 have c3:decide ((0:Int)<=(ph c:Int))=true:=decide_eq_true (by omega)
 rw[c1,c2,c3]
 cases decide ((0:Int)<(ph c:Int))<;>rfl
def Eo(y:aj tM)(k:Int):den aH:=cr y.1 (dO y.2.1 y.2.2.1 k)
def ik(y:aj tM)(i:Nat):den aL:=y.2.2.2.2.2.2.2.2.2.1.getD i (ao aL)
def Qs(y:aj tM)(i:Nat):List Int:=(Eo y ((y.2.1.length+i:Nat):Int)).1++(ik y i).1
def OQ(y:aj tM)(i:Nat):W3:=([],fe [] [] 2 [] (Eo y ((y.2.1.length+i:Nat):Int)).2,false)
def n7(y:aj tM)(i:Nat):Option (List (den tU)):=qH y (Qs y i) (OQ y i) (ik y i).2
theorem akb{y:aj tM}(ht:zY y)(i:Nat):Inv 0 1 (OQ y i):=by
 have hs:=(na ht (dO y.2.1 y.2.2.1 ((y.2.1.length+i:Nat):Int))).2
 have e:(OQ y i).2.1=[(2,0,[],(Eo y ((y.2.1.length+i:Nat):Int)).2,false,true)]:=rfl
 refine⟨by rw[e];simp,by rw[e];exact List.pairwise_singleton _ _,fun b hb=>?_,fun b hb=>?_,Nat.le_refl _,by rw[e];simp⟩
 ·rw[e]at hb
  have:b=(2,0,[],(Eo y ((y.2.1.length+i:Nat):Int)).2,false,true):=by simpa using hb
  rw[this]
  exact⟨Int.le_refl _,Int.le_refl _⟩
 ·rw[e]at hb
  have:b=(2,0,[],(Eo y ((y.2.1.length+i:Nat):Int)).2,false,true):=by simpa using hb
  rw[this]
  exact⟨Nat.zero_le _,hs⟩
structure Je(C:den aL):Prop where
 b:BOk C.2
 c:Uv [] C.2
 l:List.length C.1<=512
theorem ae9{y:aj tM}(ht:zY y)(Jg:y.2.1.length<=1048576){i:Nat}(hi:i<y.2.2.2.2.2.2.2.2.2.1.length)(Kz:i<=1048576)(hC:Je (ik y i)):
 (t20 (y.1,y.2.1,y.2.2.1,y.2.2.2.1,y.2.2.2.2.1,y.2.2.2.2.2.1,y.2.2.2.2.2.2.1,y.2.2.2.2.2.2.2.1,y.2.2.2.2.2.2.2.2.1,y.2.2.2.2.2.2.2.2.2.1,y.2.2.2.2.2.2.2.2.2.2.1,(i:Int),())).val=some (aA Ca ((n7 y i).getD [],(n7 y i).isSome,())):=by
 have hk:bw .i64 (y.2.1.length:Int) (i:Int)=((y.2.1.length+i:Nat):Int):=BR (by omega)
 have hs:=(na ht (dO y.2.1 y.2.2.1 ((y.2.1.length+i:Nat):Int))).1
 have hl:=hC.l
 have hn:=hC.b.n
 have s59:=jJ (ae8 [(Eo y ((y.2.1.length+i:Nat):Int)).1,(ik y i).1] (by
  show 2+((cr y.1 (dO y.2.1 y.2.2.1 ((y.2.1.length+i:Nat):Int))).1.length+((ik y i).1.length+0))<=_
  omega))
 have e59:(m59 ([(Eo y ((y.2.1.length+i:Nat):Int)).1,(ik y i).1],())).1=Qs y i:=by
  rw[show m59 ([(Eo y ((y.2.1.length+i:Nat):Int)).1,(ik y i).1],())=_ from s59.2]
  unfold Qs
  simp
 have hlen:(OQ y i).2.1.length=([]:List Int).length+1:=rfl
 have r:=GX ht (by omega) (Qs y i) hC.b (ik y i).2 0 (OQ y i) [] rfl rfl (.inr ⟨(akb ht i).le (Nat.le_refl _) (Nat.le_refl _),[],hC.c,hlen⟩)
 rw[aj5 y (Em ht) (i:Int) _ hk.symm _ rfl (ik y i) (by rw[Int.toNat_natCast];rfl) (Qs y i) e59.symm (OQ y i) rfl _ rfl,Cc hi]
 have c1:(decide (((y.2.1.length+i:Nat):Int)<9223372036854775808)&&decide (y.2.1.length<=1099511627776))=true:=by
  rw[decide_eq_true (by omega),decide_eq_true (by omega)];rfl
 have c2:((decide (0<=((ik y i).2.length:Int))&&decide (((ik y i).2.length:Int)<=((ik y i).2.length:Int)))&&decide (((ik y i).2.length:Int).toNat*24<=70368744177664))=true:=by
  rw[decide_eq_true (by omega),decide_eq_true (by omega),decide_eq_true (by rw[Int.toNat_natCast];omega)];rfl
 rw[c1,c2,show k59 ([(cr y.1 (dO y.2.1 y.2.2.1 ((y.2.1.length+i:Nat):Int))).1,(ik y i).1],())=true from s59.1,decide_eq_true (show y.2.2.2.2.2.2.2.1=y.2.2.2.2.2.2.2.1 from rfl)]
 simp only[aM,cond_true]
 have c3:decide (([]:List (den cI)).length+1<=549755813888)=true:=decide_eq_true (by simp)
 rw[c3,cond_true]
 have hp:n7 y i=qH y (Qs y i) (OQ y i) (ik y i).2:=rfl
 rw[hp]
 have r:gG tF (aA ig (Ww y (Qs y i) (OQ y i) (List.replicate (ik y i).2.length (false,0,0)) (ik y i).2 ((ik y i).2.length:Int) 0)) (oT [] (qH y (Qs y i) (OQ y i) (ik y i).2)).1 (oT [] (qH y (Qs y i) (OQ y i) (ik y i).2)).2:=r
 cases hq:qH y (Qs y i) (OQ y i) (ik y i).2 with
 |none=>
  rw[hq]at r
  have v:=NB (t0:=gf) (t1:=ij) (y:=([],false,())) r
  rw[v.1,v.2.1,v.2.2]
  rfl
 |some l=>
  rw[hq]at r
  have v:=rq (t0:=gf) (t1:=ij) (y:=(l,())) r
  rw[v.1,v.2.1,v.2.2]
  rfl
end Go.Proofs.Vd

noncomputable section
namespace Go.Proofs.Vd
open Go.Ab Go.Ab.Lf
set_option maxRecDepth 100000
theorem WB(fn:Int)(y:aj tM)(E:List (den aG))(n1 i1:Int)(L:List Int)(n i:Int):(GO (aA rF (fn,y.1,y.2.1,y.2.2.1,y.2.2.2.1,y.2.2.2.2.1,y.2.2.2.2.2.1,y.2.2.2.2.2.2.1,y.2.2.2.2.2.2.2.1,y.2.2.2.2.2.2.2.2.1,y.2.2.2.2.2.2.2.2.2.1,y.2.2.2.2.2.2.2.2.2.2.1,E,n1,i1,L,n,i,()))).val=
 bif decide (i<n)then aM (aU i (L.length:Int)) (bif decide (fn<=L.getD i.toNat (ao i64))then some (Rs.out 1 (aA r7 (false,())))else some (Rs.next (aA rF (fn,y.1,y.2.1,y.2.2.1,y.2.2.2.1,y.2.2.2.2.1,y.2.2.2.2.2.1,y.2.2.2.2.2.2.1,y.2.2.2.2.2.2.2.1,y.2.2.2.2.2.2.2.2.1,y.2.2.2.2.2.2.2.2.2.1,y.2.2.2.2.2.2.2.2.2.2.1,E,n1,i1,L,n,bw .i64 i 1,()))))else some (Rs.out 0 (aA qa (fn,y.1,y.2.1,y.2.2.1,y.2.2.2.1,y.2.2.2.2.1,y.2.2.2.2.2.1,y.2.2.2.2.2.2.1,y.2.2.2.2.2.2.2.1,y.2.2.2.2.2.2.2.2.1,y.2.2.2.2.2.2.2.2.2.1,y.2.2.2.2.2.2.2.2.2.2.1,E,n1,i1,()))):=by kernel_rfl
theorem WC(fn:Int)(y:aj tM)(E:List (den aG))(n i:Int)(x:den aG)(hx:x=E.getD i.toNat (ao aG))(a:aj rF)(ha:a=(fn,y.1,y.2.1,y.2.2.1,y.2.2.2.1,y.2.2.2.2.1,y.2.2.2.2.2.1,y.2.2.2.2.2.2.1,y.2.2.2.2.2.2.2.1,y.2.2.2.2.2.2.2.2.1,y.2.2.2.2.2.2.2.2.2.1,y.2.2.2.2.2.2.2.2.2.2.1,E,n,i,x.2,(x.2.length:Int),0,()))(z:aj qa)(hz:z=gM GO rF qa a):(GP (aA qx (fn,y.1,y.2.1,y.2.2.1,y.2.2.2.1,y.2.2.2.2.1,y.2.2.2.2.2.1,y.2.2.2.2.2.2.1,y.2.2.2.2.2.2.2.1,y.2.2.2.2.2.2.2.2.1,y.2.2.2.2.2.2.2.2.2.1,y.2.2.2.2.2.2.2.2.2.2.1,E,n,i,()))).val=
 bif decide (i<n)then aM (aU i (E.length:Int)) (let F:=some (Rs.out 1 (aA nE (false,())))
  bif decide ((y.2.2.2.1.length:Int)=0)then F else bif !v5 x.1 127 then F else
  aM (r5 GO rF qa r7 a) (bif qK GO rF a then some (Rs.next (aA qx (z.1,z.2.1,z.2.2.1,z.2.2.2.1,z.2.2.2.2.1,z.2.2.2.2.2.1,z.2.2.2.2.2.2.1,z.2.2.2.2.2.2.2.1,z.2.2.2.2.2.2.2.2.1,z.2.2.2.2.2.2.2.2.2.1,z.2.2.2.2.2.2.2.2.2.2.1,z.2.2.2.2.2.2.2.2.2.2.2.1,z.2.2.2.2.2.2.2.2.2.2.2.2.1,z.2.2.2.2.2.2.2.2.2.2.2.2.2.1,bw .i64 z.2.2.2.2.2.2.2.2.2.2.2.2.2.2.1 1,())))else some (Rs.out 1 (aA nE ((gM GO rF r7 a).1,())))))else some (Rs.out 0 (aA nD (y.1,y.2.1,y.2.2.1,y.2.2.2.1,y.2.2.2.2.1,y.2.2.2.2.2.1,y.2.2.2.2.2.2.1,y.2.2.2.2.2.2.2.1,y.2.2.2.2.2.2.2.2.1,y.2.2.2.2.2.2.2.2.2.1,y.2.2.2.2.2.2.2.2.2.2.1,()))):=by
 subst hz;subst ha;subst hx
 kernel_rfl
theorem WD(y:aj tM)(D:List (den aJ))(n i:Int)(x:den aJ)(hx:x=D.getD i.toNat (ao aJ)):(J5 (aA sU (y.1,y.2.1,y.2.2.1,y.2.2.2.1,y.2.2.2.2.1,y.2.2.2.2.2.1,y.2.2.2.2.2.2.1,y.2.2.2.2.2.2.2.1,y.2.2.2.2.2.2.2.2.1,y.2.2.2.2.2.2.2.2.2.1,y.2.2.2.2.2.2.2.2.2.2.1,D,n,i,()))).val=
 bif decide (i<n)then aM (aU i (D.length:Int)) (let F:=some (Rs.out 1 (aA qb (false,())))
  bif decide ((y.2.2.2.2.1.length:Int)=0)then F else bif !v5 x.1 127 then F else some (Rs.next (aA sU (y.1,y.2.1,y.2.2.1,y.2.2.2.1,y.2.2.2.2.1,y.2.2.2.2.2.1,y.2.2.2.2.2.2.1,y.2.2.2.2.2.2.2.1,y.2.2.2.2.2.2.2.2.1,y.2.2.2.2.2.2.2.2.2.1,y.2.2.2.2.2.2.2.2.2.2.1,D,n,bw .i64 i 1,()))))else some (Rs.out 0 (aA r8 ())):=by
 subst hx
 kernel_rfl
theorem ae'(y:aj tM)(fn:Int)(a:aj qx)(ha:a=(fn,y.1,y.2.1,y.2.2.1,y.2.2.2.1,y.2.2.2.2.1,y.2.2.2.2.2.1,y.2.2.2.2.2.2.1,y.2.2.2.2.2.2.2.1,y.2.2.2.2.2.2.2.2.1,y.2.2.2.2.2.2.2.2.2.1,y.2.2.2.2.2.2.2.2.2.2.1,y.2.2.2.2.2.2.2.2.1,(y.2.2.2.2.2.2.2.2.1.length:Int),0,()))(z:aj nD)(hz:z=gM GP qx nD a)(b:aj sU)(hb:b=(z.1,z.2.1,z.2.2.1,z.2.2.2.1,z.2.2.2.2.1,z.2.2.2.2.2.1,z.2.2.2.2.2.2.1,z.2.2.2.2.2.2.2.1,z.2.2.2.2.2.2.2.2.1,z.2.2.2.2.2.2.2.2.2.1,z.2.2.2.2.2.2.2.2.2.2.1,z.2.2.2.2.2.2.2.2.2.2.1,(z.2.2.2.2.2.2.2.2.2.2.1.length:Int),0,())):(t58 (y.1,y.2.1,y.2.2.1,y.2.2.2.1,y.2.2.2.2.1,y.2.2.2.2.2.1,y.2.2.2.2.2.2.1,y.2.2.2.2.2.2.2.1,y.2.2.2.2.2.2.2.2.1,y.2.2.2.2.2.2.2.2.2.1,y.2.2.2.2.2.2.2.2.2.2.1,fn,())).val=
 aM (r5 GP qx nD nE a) (bif qK GP qx a then aM (r5 J5 sU r8 qb b) (bif qK J5 sU b then some (aA Eh (true,()))else some (aA Eh ((gM J5 sU qb b).1,())))else some (aA Eh ((gM GP qx nE a).1,()))):=by
 subst hb;subst hz;subst ha
 kernel_rfl
theorem WE(a c:List (List (den ak)))(sz n i:Int)(q:Int)(hq:q=bw .i64 sz ((c.getD i.toNat (ao (.ae ak)):List (den ak)).length:Int)):(GM (aA vf (a,sz,c,n,i,()))).val=
 bif decide (i<n)then aM (aU i (c.length:Int)) (bif decide (q<0)then none else some (Rs.next (aA vf (a,q,c,n,bw .i64 i 1,()))))else some (Rs.out 0 (aA mf (a,sz,()))):=by
 subst hq
 kernel_rfl
theorem WG(o:List (den ak))(c:List (List (den ak)))(n i:Int)(x:List (den ak))(hx:x=c.getD i.toNat (ao (.ae ak))):(Eg (aA sQ (o,c,n,i,()))).val=
 bif decide (i<n)then aM (aU i (c.length:Int)) (aM (roomy 16 (o.length+x.length)) (some (Rs.next (aA sQ (app o x,c,n,bw .i64 i 1,())))))else some (Rs.out 0 (aA mg (o,()))):=by
 subst hx
 kernel_rfl
theorem akc(c:List (List (den ak)))(z:aj mf)(hz:z=gM GM vf mf (c,0,c,(c.length:Int),0,())):(t55 (c,())).val=
 aM (rk GM vf mf (c,0,c,(c.length:Int),0,())) (
  let fin:=aM (rk Eg sQ mg ([],z.1,(z.1.length:Int),0,())) (some (aA GN (gM Eg sQ mg ([],z.1,(z.1.length:Int),0,()))))
  bif decide (z.2.1<0)then none else bif decide (0<bQ .i64 z.2.1 0)then aM (decide (0<=bQ .i64 z.2.1 0)) (aM (roomy 16 (0+(List.replicate (bQ .i64 z.2.1 0).toNat ((0,0):den ak)).length)) (aM (eK 0 0 ((app [] (List.replicate (bQ .i64 z.2.1 0).toNat ((0,0):den ak))).length:Int)) fin))else fin):=by
 subst hz
 kernel_rfl
theorem aaM(gt:Bool)(fn:Int)(y:aj tM)(hgt:gt=gT y.1)(n i:Int):(Ei (aA pe (fn,y.1,y.2.1,y.2.2.1,y.2.2.2.1,y.2.2.2.2.1,y.2.2.2.2.2.1,y.2.2.2.2.2.2.1,y.2.2.2.2.2.2.2.1,y.2.2.2.2.2.2.2.2.1,y.2.2.2.2.2.2.2.2.2.1,y.2.2.2.2.2.2.2.2.2.2.1,n,i,()))).val=
 bif decide (i<n)then aM (gt&&(decide (i<9223372036854775808)&&decide (y.2.1.length<=1099511627776))) (bif !dM y.1 (dO y.2.1 y.2.2.1 i)then some (Rs.out 1 (aA nF (false,())))else some (Rs.next (aA pe (fn,y.1,y.2.1,y.2.2.1,y.2.2.2.1,y.2.2.2.2.1,y.2.2.2.2.2.1,y.2.2.2.2.2.2.1,y.2.2.2.2.2.2.2.1,y.2.2.2.2.2.2.2.2.1,y.2.2.2.2.2.2.2.2.2.1,y.2.2.2.2.2.2.2.2.2.2.1,n,bw .i64 i 1,()))))else some (Rs.out 0 (aA mm (fn,y.1,y.2.1,y.2.2.1,y.2.2.2.1,y.2.2.2.2.1,y.2.2.2.2.2.1,y.2.2.2.2.2.2.1,y.2.2.2.2.2.2.2.1,y.2.2.2.2.2.2.2.2.1,y.2.2.2.2.2.2.2.2.2.1,y.2.2.2.2.2.2.2.2.2.2.1,()))):=by
 subst hgt
 kernel_rfl
theorem WH(fn:Int)(y:aj tM)(hT:gT y.1=true)(n i:Int):(Ei (aA pe (fn,y.1,y.2.1,y.2.2.1,y.2.2.2.1,y.2.2.2.2.1,y.2.2.2.2.2.1,y.2.2.2.2.2.2.1,y.2.2.2.2.2.2.2.1,y.2.2.2.2.2.2.2.2.1,y.2.2.2.2.2.2.2.2.2.1,y.2.2.2.2.2.2.2.2.2.2.1,n,i,()))).val=
 bif decide (i<n)then aM (decide (i<9223372036854775808)&&decide (y.2.1.length<=1099511627776)) (bif !dM y.1 (dO y.2.1 y.2.2.1 i)then some (Rs.out 1 (aA nF (false,())))else some (Rs.next (aA pe (fn,y.1,y.2.1,y.2.2.1,y.2.2.2.1,y.2.2.2.2.1,y.2.2.2.2.2.1,y.2.2.2.2.2.2.1,y.2.2.2.2.2.2.2.1,y.2.2.2.2.2.2.2.2.1,y.2.2.2.2.2.2.2.2.2.1,y.2.2.2.2.2.2.2.2.2.2.1,n,bw .i64 i 1,()))))else some (Rs.out 0 (aA mm (fn,y.1,y.2.1,y.2.2.1,y.2.2.2.1,y.2.2.2.2.1,y.2.2.2.2.2.1,y.2.2.2.2.2.2.1,y.2.2.2.2.2.2.2.1,y.2.2.2.2.2.2.2.2.1,y.2.2.2.2.2.2.2.2.2.1,y.2.2.2.2.2.2.2.2.2.2.1,()))):=by
 refine Eq.trans (aaM true fn y hT.symm n i) ?_
 kernel_rfl
theorem WI(fn:Int)(y:aj tM)(L:List (den ak))(n i:Int)(x:den ak)(hx:x=L.getD i.toNat (ao ak)):(GQ (aA rG (fn,y.1,y.2.1,y.2.2.1,y.2.2.2.1,y.2.2.2.2.1,y.2.2.2.2.2.1,y.2.2.2.2.2.2.1,y.2.2.2.2.2.2.2.1,y.2.2.2.2.2.2.2.2.1,y.2.2.2.2.2.2.2.2.2.1,y.2.2.2.2.2.2.2.2.2.2.1,L,n,i,()))).val=
 bif decide (i<n)then aM (aU i (L.length:Int)) (bif (bif !decide (x.2= -1)then decide (x.2<x.1)else false)then some (Rs.out 1 (aA qc (false,())))else some (Rs.next (aA rG (fn,y.1,y.2.1,y.2.2.1,y.2.2.2.1,y.2.2.2.2.1,y.2.2.2.2.2.1,y.2.2.2.2.2.2.1,y.2.2.2.2.2.2.2.1,y.2.2.2.2.2.2.2.2.1,y.2.2.2.2.2.2.2.2.2.1,y.2.2.2.2.2.2.2.2.2.2.1,L,n,bw .i64 i 1,()))))else some (Rs.out 0 (aA nG (fn,y.1,y.2.1,y.2.2.1,y.2.2.2.1,y.2.2.2.2.1,y.2.2.2.2.2.1,y.2.2.2.2.2.2.1,y.2.2.2.2.2.2.2.1,y.2.2.2.2.2.2.2.2.1,y.2.2.2.2.2.2.2.2.2.1,y.2.2.2.2.2.2.2.2.2.2.1,()))):=by
 subst hx
 kernel_rfl
theorem WJ(fn:Int)(y:aj tM)(L:List (den aC))(n i:Int)(x:den aC)(hx:x=L.getD i.toNat (ao aC)):(GR (aA rH (fn,y.1,y.2.1,y.2.2.1,y.2.2.2.1,y.2.2.2.2.1,y.2.2.2.2.2.1,y.2.2.2.2.2.2.1,y.2.2.2.2.2.2.2.1,y.2.2.2.2.2.2.2.2.1,y.2.2.2.2.2.2.2.2.2.1,y.2.2.2.2.2.2.2.2.2.2.1,L,n,i,()))).val=
 bif decide (i<n)then aM (aU i (L.length:Int)) (bif !v5 x.2.2 x.1 then some (Rs.out 1 (aA qd (false,())))else some (Rs.next (aA rH (fn,y.1,y.2.1,y.2.2.1,y.2.2.2.1,y.2.2.2.2.1,y.2.2.2.2.2.1,y.2.2.2.2.2.2.1,y.2.2.2.2.2.2.2.1,y.2.2.2.2.2.2.2.2.1,y.2.2.2.2.2.2.2.2.2.1,y.2.2.2.2.2.2.2.2.2.2.1,L,n,bw .i64 i 1,()))))else some (Rs.out 0 (aA nH (fn,y.1,y.2.1,y.2.2.1,y.2.2.2.1,y.2.2.2.2.1,y.2.2.2.2.2.1,y.2.2.2.2.2.2.1,y.2.2.2.2.2.2.2.1,y.2.2.2.2.2.2.2.2.1,y.2.2.2.2.2.2.2.2.2.1,y.2.2.2.2.2.2.2.2.2.2.1,()))):=by
 subst hx
 kernel_rfl
end Go.Proofs.Vd

noncomputable section
namespace Go.Proofs.Vd
open Go.Ab Go.Ab.Lf
set_option maxRecDepth 100000
theorem UA(y:aj tM)(fn:Int)(hf:bw .i64 (y.2.1.length:Int) (y.2.2.1.length:Int)=fn)(a:aj pe)(ha:a=(fn,y.1,y.2.1,y.2.2.1,y.2.2.2.1,y.2.2.2.2.1,y.2.2.2.2.2.1,y.2.2.2.2.2.2.1,y.2.2.2.2.2.2.2.1,y.2.2.2.2.2.2.2.2.1,y.2.2.2.2.2.2.2.2.2.1,y.2.2.2.2.2.2.2.2.2.2.1,fn,0,()))(z:aj mm)(hz:z=gM Ei pe mm a)
 (L:List (den ak))(hL:L=(m55 ([z.2.2.2.2.1,z.2.2.2.2.2.1],())).1)(b:aj rG)(hb:b=(z.1,z.2.1,z.2.2.1,z.2.2.2.1,z.2.2.2.2.1,z.2.2.2.2.2.1,z.2.2.2.2.2.2.1,z.2.2.2.2.2.2.2.1,z.2.2.2.2.2.2.2.2.1,z.2.2.2.2.2.2.2.2.2.1,z.2.2.2.2.2.2.2.2.2.2.1,z.2.2.2.2.2.2.2.2.2.2.2.1,L,(L.length:Int),0,()))(u:aj nG)(hu:u=gM GQ rG nG b)
 (c:aj rH)(hc:c=(u.1,u.2.1,u.2.2.1,u.2.2.2.1,u.2.2.2.2.1,u.2.2.2.2.2.1,u.2.2.2.2.2.2.1,u.2.2.2.2.2.2.2.1,u.2.2.2.2.2.2.2.2.1,u.2.2.2.2.2.2.2.2.2.1,u.2.2.2.2.2.2.2.2.2.2.1,u.2.2.2.2.2.2.2.2.2.2.2.1,u.2.2.2.2.2.2.1,(u.2.2.2.2.2.2.1.length:Int),0,()))(v:aj nH)(hv:v=gM GR rH nH c):(t19 (y.1,y.2.1,y.2.2.1,y.2.2.2.1,y.2.2.2.2.1,y.2.2.2.2.2.1,y.2.2.2.2.2.2.1,y.2.2.2.2.2.2.2.1,y.2.2.2.2.2.2.2.2.1,y.2.2.2.2.2.2.2.2.2.1,y.2.2.2.2.2.2.2.2.2.2.1,())).val=
 aM (r5 Ei pe mm nF a) (bif qK Ei pe a then(
  bif (bif decide (1<(z.2.2.2.2.1.length:Int))then true else decide (1<(z.2.2.2.2.2.1.length:Int)))then some (aA w8 (false,()))else
  aM (k55 ([z.2.2.2.2.1,z.2.2.2.2.2.1],())) (aM (r5 GQ rG nG qc b) (bif qK GQ rG b then(
   aM (bif decide ((u.2.2.2.2.2.1.length:Int)=1)then aU 0 (u.2.2.2.2.2.1.length:Int)else true) (bif (bif decide ((u.2.2.2.2.2.1.length:Int)=1)then decide (65536<(u.2.2.2.2.2.1.getD 0 (ao ak)).2)else false)then some (aA w8 (false,()))else
   aM (r5 GR rH nH qd c) (bif qK GR rH c then(
    aM (OB (v.2.1,v.2.2.1,v.2.2.2.1,v.2.2.2.2.1,v.2.2.2.2.2.1,v.2.2.2.2.2.2.1,v.2.2.2.2.2.2.2.1,v.2.2.2.2.2.2.2.2.1,v.2.2.2.2.2.2.2.2.2.1,v.2.2.2.2.2.2.2.2.2.2.1,v.2.2.2.2.2.2.2.2.2.2.2.1,v.1,())) (bif mNm (v.2.1,v.2.2.1,v.2.2.2.1,v.2.2.2.2.1,v.2.2.2.2.2.1,v.2.2.2.2.2.2.1,v.2.2.2.2.2.2.2.1,v.2.2.2.2.2.2.2.2.1,v.2.2.2.2.2.2.2.2.2.1,v.2.2.2.2.2.2.2.2.2.2.1,v.2.2.2.2.2.2.2.2.2.2.2.1,v.1,())then aM (k58 (v.2.1,v.2.2.1,v.2.2.2.1,v.2.2.2.2.1,v.2.2.2.2.2.1,v.2.2.2.2.2.2.1,v.2.2.2.2.2.2.2.1,v.2.2.2.2.2.2.2.2.1,v.2.2.2.2.2.2.2.2.2.1,v.2.2.2.2.2.2.2.2.2.2.1,v.2.2.2.2.2.2.2.2.2.2.2.1,v.1,())) (some (aA w8 ((m58 (v.2.1,v.2.2.1,v.2.2.2.1,v.2.2.2.2.1,v.2.2.2.2.2.1,v.2.2.2.2.2.2.1,v.2.2.2.2.2.2.2.1,v.2.2.2.2.2.2.2.2.1,v.2.2.2.2.2.2.2.2.2.1,v.2.2.2.2.2.2.2.2.2.2.1,v.2.2.2.2.2.2.2.2.2.2.2.1,v.1,())).1,())))else some (aA w8 (false,()))))
   else some (aA w8 ((gM GR rH qd c).1,())))))
  else some (aA w8 ((gM GQ rG qc b).1,())))))
 else some (aA w8 ((gM Ei pe nF a).1,()))):=by
 subst hv;subst hc;subst hu;subst hb;subst hL;subst hz;subst ha;subst hf
 kernel_rfl
theorem afa(y:aj tM)(n i:Int):(f8x (aA Cb (y.1,y.2.1,y.2.2.1,y.2.2.2.1,y.2.2.2.2.1,y.2.2.2.2.2.1,y.2.2.2.2.2.2.1,y.2.2.2.2.2.2.2.1,y.2.2.2.2.2.2.2.2.1,y.2.2.2.2.2.2.2.2.2.1,y.2.2.2.2.2.2.2.2.2.2.1,n,i,()))).val=
 bif decide (i<n)then aM (k20 (y.1,y.2.1,y.2.2.1,y.2.2.2.1,y.2.2.2.2.1,y.2.2.2.2.2.1,y.2.2.2.2.2.2.1,y.2.2.2.2.2.2.2.1,y.2.2.2.2.2.2.2.2.1,y.2.2.2.2.2.2.2.2.2.1,y.2.2.2.2.2.2.2.2.2.2.1,i,())) (bif !(m20 (y.1,y.2.1,y.2.2.1,y.2.2.2.1,y.2.2.2.2.1,y.2.2.2.2.2.1,y.2.2.2.2.2.2.1,y.2.2.2.2.2.2.2.1,y.2.2.2.2.2.2.2.2.1,y.2.2.2.2.2.2.2.2.2.1,y.2.2.2.2.2.2.2.2.2.2.1,i,())).2.1 then some (Rs.out 1 (aA tG (12,())))else some (Rs.next (aA Cb (y.1,y.2.1,y.2.2.1,y.2.2.2.1,y.2.2.2.2.1,y.2.2.2.2.2.1,y.2.2.2.2.2.2.1,y.2.2.2.2.2.2.2.1,y.2.2.2.2.2.2.2.2.1,y.2.2.2.2.2.2.2.2.2.1,y.2.2.2.2.2.2.2.2.2.2.1,n,bw .i64 i 1,()))))else some (Rs.out 0 (aA v7 ())):=by kernel_rfl
theorem eq8(V:ByteArray->Bool)(y:aj tM):(t8 V (y.1,y.2.1,y.2.2.1,y.2.2.2.1,y.2.2.2.2.1,y.2.2.2.2.2.1,y.2.2.2.2.2.2.1,y.2.2.2.2.2.2.2.1,y.2.2.2.2.2.2.2.2.1,y.2.2.2.2.2.2.2.2.2.1,y.2.2.2.2.2.2.2.2.2.2.1,())).val=
 aM (GA V (y.1,y.2.1,y.2.2.1,y.2.2.2.1,y.2.2.2.2.1,y.2.2.2.2.2.1,y.2.2.2.2.2.2.1,y.2.2.2.2.2.2.2.1,y.2.2.2.2.2.2.2.2.1,y.2.2.2.2.2.2.2.2.2.1,y.2.2.2.2.2.2.2.2.2.2.1,())) (bif !decide (nB V (y.1,y.2.1,y.2.2.1,y.2.2.2.1,y.2.2.2.2.1,y.2.2.2.2.2.1,y.2.2.2.2.2.2.1,y.2.2.2.2.2.2.2.1,y.2.2.2.2.2.2.2.2.1,y.2.2.2.2.2.2.2.2.2.1,y.2.2.2.2.2.2.2.2.2.2.1,())=0)then some (aA Up (nB V (y.1,y.2.1,y.2.2.1,y.2.2.2.1,y.2.2.2.2.1,y.2.2.2.2.2.1,y.2.2.2.2.2.2.1,y.2.2.2.2.2.2.2.1,y.2.2.2.2.2.2.2.2.1,y.2.2.2.2.2.2.2.2.2.1,y.2.2.2.2.2.2.2.2.2.2.1,()),()))else aM (k19 (y.1,y.2.1,y.2.2.1,y.2.2.2.1,y.2.2.2.2.1,y.2.2.2.2.2.1,y.2.2.2.2.2.2.1,y.2.2.2.2.2.2.2.1,y.2.2.2.2.2.2.2.2.1,y.2.2.2.2.2.2.2.2.2.1,y.2.2.2.2.2.2.2.2.2.2.1,())) (bif !(m19 (y.1,y.2.1,y.2.2.1,y.2.2.2.1,y.2.2.2.2.1,y.2.2.2.2.2.1,y.2.2.2.2.2.2.1,y.2.2.2.2.2.2.2.1,y.2.2.2.2.2.2.2.2.1,y.2.2.2.2.2.2.2.2.2.1,y.2.2.2.2.2.2.2.2.2.2.1,())).1 then some (aA Up (12,()))else
  aM (r5 f8x Cb v7 tG (y.1,y.2.1,y.2.2.1,y.2.2.2.1,y.2.2.2.2.1,y.2.2.2.2.2.1,y.2.2.2.2.2.2.1,y.2.2.2.2.2.2.2.1,y.2.2.2.2.2.2.2.2.1,y.2.2.2.2.2.2.2.2.2.1,y.2.2.2.2.2.2.2.2.2.2.1,(y.2.2.2.2.2.2.2.2.2.1.length:Int),0,())) (bif qK f8x Cb (y.1,y.2.1,y.2.2.1,y.2.2.2.1,y.2.2.2.2.1,y.2.2.2.2.2.1,y.2.2.2.2.2.2.1,y.2.2.2.2.2.2.2.1,y.2.2.2.2.2.2.2.2.1,y.2.2.2.2.2.2.2.2.2.1,y.2.2.2.2.2.2.2.2.2.2.1,(y.2.2.2.2.2.2.2.2.2.1.length:Int),0,())then some (aA Up (0,()))else some (aA Up ((gM f8x Cb tG (y.1,y.2.1,y.2.2.1,y.2.2.2.1,y.2.2.2.2.1,y.2.2.2.2.2.1,y.2.2.2.2.2.2.1,y.2.2.2.2.2.2.2.1,y.2.2.2.2.2.2.2.2.1,y.2.2.2.2.2.2.2.2.2.1,y.2.2.2.2.2.2.2.2.2.2.1,(y.2.2.2.2.2.2.2.2.2.1.length:Int),0,())).1,()))))):=by kernel_rfl
end Go.Proofs.Vd

noncomputable section
namespace Go.Proofs.Vd
open Go.Ab Go.Ab.Lf
set_option maxRecDepth 100000
abbrev zb(x:Int)(r:Bool):Bool:=bif decide (x=0)then r else false
theorem aaN(o a b lo hi:Int)(l:List Int)(f:Int)(h:(DY (o,a,b,lo,hi,l,f,())).1=true):f=4∨l=[]:=by
 by_cases h4:f=4
 ·exact .inl h4
 ·refine .inr ?_
  have e:(iN (Ps [pI,.n .i64]) [] (Ps [.bo]) (fun _=>none) Tryz.S4 3 (dH [] 3) (aA t87 (o,a,b,lo,hi,l,f,()))).val=
   (let R:=fun(x:Bool)=>some (aA [.bool] (x,()))
   bif (bif !decide (f=4)then decide (0<(l.length:Int))else false)then R false else
   bif decide (f=2)then R (zb b (zb lo (decide (hi=0))))else bif decide (f=3)then R (zb b (zb lo (decide (hi=0))))else bif decide (f=5)then R (zb b (zb lo (decide (hi=0))))else bif decide (f=4)then R (zb b (zb lo (decide (hi=0))))else bif decide (f=13)then R (zb b (zb lo (decide (hi=0))))else
   bif decide (f=6)then R (zb lo (decide (hi=0)))else bif decide (f=7)then R (zb lo (decide (hi=0)))else
   bif decide (f=8)then R (decide (hi=0))else
   bif decide (f=9)then R (zb a (zb b (decide (hi=0))))else bif decide (f=10)then R (zb a (zb b (decide (hi=0))))else
   bif decide (f=11)then R (zb a (zb b true))else bif decide (f=12)then R (zb a (zb b true))else R (zb a (zb b (zb lo (decide (hi=0)))))):=by kernel_rfl
  cases l with
  |nil=>rfl
  |cons x l=>
   exfalso
   have c:(bif !decide (f=4)then decide (0<((x::l).length:Int))else false)=true:=by
    rw[decide_eq_false h4]
    exact decide_eq_true (by simp only[List.length_cons];omega)
   dsimp only at e
   rw[c,cond_true]at e
   have:=(jJ (to:=[.bool]) (y:=(false,())) e).2
   unfold DY at h
   rw[this]at h
   cases h
theorem bm{α:Type}{c:Bool}{x:Option α}{y:α}(h:aM c x=some y):c=true/\x=some y:=by
 unfold aM at h
 cases c with
 |true=>exact⟨rfl,h⟩
 |false=>cases h
theorem UB(l:List Int): ∀ (s:List Int) (k:Bool),(rA (s,k) l).2=(k&&l.all lG)/\s.length+l.length<=(rA (s,k) l).1.length:=by
 induction l with
 |nil=>intro s k;exact⟨by simp[rA],by simp[rA]⟩
 |cons x l ih=>
  intro s k
  obtain⟨h1,h2⟩:=ih (s++ju (bq .u64 x)) (bif k then lG x else false)
  have e:rA (s,k) (x::l)=rA (s++ju (bq .u64 x),bif k then lG x else false) l:=rfl
  have hp:1<=(ju (bq .u64 x)).length:=by unfold ju;simp
  rw[e]
  refine⟨?_,?_⟩
  ·rw[h1,List.all_cons]
   cases k<;>cases lG x<;>rfl
  ·rw[List.length_append]at h2
   simp only[List.length_cons]
   omega
theorem rI{n:Int}(h:lG n=true):0<=n/\n<4294967296:=by
 unfold lG at h
 rw[Bool.cond_false_right,Bool.and_eq_true,decide_eq_true_eq,decide_eq_true_eq]at h
 exact h
theorem UC{p:List Int}{o a b lo hi:Int}{l B:List Int}(hp:1<=p.length)(h:u5 Prod.mk p o a b lo hi l=some (B,true)):
 (∀ f,f=(kG o).1->(f=3∨f=4∨f=5∨f=6)->0<=a/\a<4294967296)/\((kG o).1=4-> ∀ x,x∈l->(0:Int)<=x)/\1<=B.length/\((kG o).1=4->l.length<=B.length):=by
 unfold u5 at h
 dsimp only at h
 obtain⟨f,hf⟩: ∃ f:Int,(kG o).1=f:=⟨_,rfl⟩
 rw[hf]at h ⊢
 have no: ∀ (g:Int),g=f->(g=3∨g=4∨g=5∨g=6)-> ¬ (f=3∨f=4∨f=5∨f=6)->False:=fun g hg k c=>by subst hg;exact c k
 have KL:f=4-> ¬ f=4->False:=fun k c=>c k
 have base: ∀ {u:List Int} {v:Bool},some (app p u,v)=some (B,true)->v=true/\1<=B.length:=by
  intro u v e
  cases e
  exact⟨rfl,by rw[bp,List.length_append];omega⟩
 by_cases f1:f=1
 ·rw[decide_eq_true f1]at h
  cases h
  exact⟨fun g hg k=>(no g hg k (by omega)).elim,fun k=>(KL k (by omega)).elim,hp,fun k=>(KL k (by omega)).elim⟩
 rw[decide_eq_false f1,cond_false]at h
 by_cases f2:f=2
 ·rw[decide_eq_true f2,cond_true]at h
  have hB:1<=B.length:=by
   have one: ∀ {u:List Int},aM (roomy 1 (p.length+1)) (some (app p u,true))=some (B,true)->1<=B.length:=fun e=>(base (bm e).2).2
   cases d1:decide (a= -64)with
   |true=>rw[d1]at h;exact(base (bm h).2).2
   |false=>
    rw[d1,cond_false]at h
    cases d2:decide (a= -1)with
    |true=>rw[d2]at h;exact(base (bm h).2).2
    |false=>
     rw[d2,cond_false]at h
     cases d3:decide (a= -2)with
     |true=>rw[d3]at h;exact(base (bm h).2).2
     |false=>
      rw[d3,cond_false]at h
      cases d4:decide (a= -5)with
      |true=>rw[d4]at h;exact(base (bm h).2).2
      |false=>
       rw[d4,cond_false]at h
       exact(base (bm (bm (bm (bm h).2).2).2).2).2
  exact⟨fun g hg k=>(no g hg k (by omega)).elim,fun k=>(KL k (by omega)).elim,hB,fun k=>(KL k (by omega)).elim⟩
 rw[decide_eq_false f2,cond_false]at h
 by_cases f3:f=3
 ·rw[decide_eq_true f3,cond_true]at h
  obtain⟨q1,q2⟩:=base (bm (bm h).2).2
  exact⟨fun g hg k=>rI q1,fun k=>(KL k (by omega)).elim,q2,fun k=>(KL k (by omega)).elim⟩
 rw[decide_eq_false f3,cond_false]at h
 by_cases f5:f=5
 ·rw[decide_eq_true f5,cond_true]at h
  obtain⟨q1,q2⟩:=base (bm (bm h).2).2
  exact⟨fun g hg k=>rI q1,fun k=>(KL k (by omega)).elim,q2,fun k=>(KL k (by omega)).elim⟩
 rw[decide_eq_false f5,cond_false]at h
 by_cases f4:f=4
 ·rw[decide_eq_true f4,cond_true]at h
  have h:=(bm (bm (bm (bm h).2).2).2).2
  obtain⟨t1,t2⟩:=UB l (app p (ju (bq .u64 (Int.ofNat l.length)))) (CE o)
  cases ht:(rA (app p (ju (bq .u64 (Int.ofNat l.length))),CE o) l).2 with
  |false=>rw[ht]at h;cases h
  |true=>
   rw[ht,cond_true]at h
   have hB:(rA (app p (ju (bq .u64 (Int.ofNat l.length))),CE o) l).1.length<=B.length/\lG a=true:=by
    injection h with h
    have e1:app _ _=B:=congrArg Prod.fst h
    have e2:lG a=true:=congrArg Prod.snd h
    exact⟨by rw[<-e1];simp only[bp,List.length_append];omega,e2⟩
   rw[ht]at t1
   have t1:=t1.symm
   rw[Bool.and_eq_true,List.all_eq_true]at t1
   have Xn:1<=(app p (ju (bq .u64 (Int.ofNat l.length)))).length:=by rw[bp,List.length_append];omega
   exact⟨fun g hg k=>rI hB.2,fun k x hx=>(rI (t1.2 x hx)).1,by omega,fun _=>by omega⟩
 rw[decide_eq_false f4,cond_false]at h
 by_cases f6:f=6
 ·rw[decide_eq_true f6,cond_true]at h
  have h:=(bm (bm (bm (bm (bm (bm (bm h).2).2).2).2).2).2).2
  cases hn:lG a with
  |false=>rw[hn]at h;cases h
  |true=>
   rw[hn,cond_true]at h
   have hB:1<=B.length:=by
    injection h with h
    have e1:app (app p _) _=B:=congrArg Prod.fst h
    rw[<-e1]
    simp only[bp,List.length_append]
    omega
   exact⟨fun g hg k=>rI hn,fun k=>(KL k (by omega)).elim,hB,fun k=>(KL k (by omega)).elim⟩
 rw[decide_eq_false f6,cond_false]at h
 have hB:1<=B.length:=by
  by_cases f7:f=7
  ·rw[decide_eq_true f7,cond_true]at h
   have h:=(bm (bm (bm (bm (bm (bm (bm h).2).2).2).2).2).2).2
   cases hn:lG a with
   |false=>rw[hn]at h;cases h
   |true=>
    rw[hn,cond_true]at h
    injection h with h
    have e1:app (app p _) _=B:=congrArg Prod.fst h
    rw[<-e1]
    simp only[bp,List.length_append]
    omega
  rw[decide_eq_false f7,cond_false]at h
  by_cases f8:f=8
  ·rw[decide_eq_true f8,cond_true]at h
   have h:=(bm (bm (bm (bm (bm (bm h).2).2).2).2).2).2
   cases hn:lG a with
   |false=>rw[hn]at h;cases h
   |true=>
    rw[hn,cond_true]at h
    cases hm:lG b with
    |false=>rw[hm]at h;cases h
    |true=>
     rw[hm,cond_true]at h
     injection h with h
     have e1:app (app (app p _) _) _=B:=congrArg Prod.fst h
     rw[<-e1]
     simp only[bp,List.length_append]
     omega
  rw[decide_eq_false f8,cond_false]at h
  have h:=(bm h).2
  injection h with h
  have e1:p++_=B:=congrArg Prod.fst h
  rw[<-e1]
  rw[List.length_append]
  omega
 exact⟨fun g hg k=>(no g hg k (by omega)).elim,fun k=>(KL k (by omega)).elim,hB,fun k=>(KL k (by omega)).elim⟩
theorem OR{p:List Int}{o a b lo hi:Int}{l B:List Int}(h:u5 Prod.mk p o a b lo hi l=some (B,true))(f2:(kG o).1=2):BkA a:=by
 unfold u5 at h
 dsimp only at h
 rw[f2]at h
 have h:(bif decide (a= -64)then _ else bif decide (a= -1)then _ else bif decide (a= -2)then _ else bif decide (a= -5)then _ else aM _ (aM _ (aM _ (aM _ (some (app p (lV a),lG a))))))=some (B,true):=h
 by_cases e1:a= -64
 ·exact .inl e1
 by_cases e2:a= -1
 ·exact .inr (.inl e2)
 by_cases e3:a= -2
 ·exact .inr (.inr (.inl e3))
 by_cases e4:a= -5
 ·exact .inr (.inr (.inr (.inl e4)))
 rw[decide_eq_false e1,decide_eq_false e2,decide_eq_false e3,decide_eq_false e4]at h
 simp only[cond_false]at h
 have e:=(bm (bm (bm (bm h).2).2).2).2
 injection e with e
 have e:lG a=true:=congrArg Prod.snd e
 unfold lG at e
 by_cases e5:(0:Int)<=a
 ·exact .inr (.inr (.inr (.inr e5)))
 ·rw[decide_eq_false e5]at e
  cases e
theorem OS{x:den tI}(hI:okI (mI x)=true)(h:(iI (mI x)).2=true):CE x.1=true/\((kG x.1).1=4∨x.2.2.2.2.2=[])/\(∀ f,f=(kG x.1).1->(f=3∨f=4∨f=5∨f=6)->(0:Int)<=x.2.1/\(x.2.1:Int)<4294967296)/\((kG x.1).1=4-> ∀ l,l∈x.2.2.2.2.2->(0:Int)<=l)/\1<=(iI (mI x)).1.length/\((kG x.1).1=4->List.length x.2.2.2.2.2<=(iI (mI x)).1.length)/\((kG x.1).1=2->BkA x.2.1):=by
 have e:=(xy hI).2 (List Int×Bool) Prod.mk
 rw[h]at e
 have e:yU Prod.mk x.1 x.2.1 x.2.2.1 x.2.2.2.1 x.2.2.2.2.1 x.2.2.2.2.2=some ((iI (mI x)).1,true):=e
 unfold yU at e
 dsimp only at e
 cases h1:CE x.1 with
 |false=>
  rw[h1]at e
  injection e with e
  have e2:false=true:=congrArg Prod.snd e
  cases e2
 |true=>
  rw[h1]at e
  simp only[Bool.not_true,cond_false]at e
  cases h2:(DY (x.1,x.2.1,x.2.2.1,x.2.2.2.1,x.2.2.2.2.1,x.2.2.2.2.2,(kG x.1).1,())).1 with
  |false=>
   rw[h2]at e
   injection e with e
   have e2:false=true:=congrArg Prod.snd e
   cases e2
  |true=>
   rw[h2]at e
   simp only[Bool.not_true,cond_false]at e
   have hr:=aaN _ _ _ _ _ _ _ h2
   have hT: ∃ p:List Int,1<=p.length/\u5 Prod.mk p x.1 x.2.1 x.2.2.1 x.2.2.2.1 x.2.2.2.2.1 x.2.2.2.2.2=some ((iI (mI x)).1,true):=by
    cases hd:decide (64768<=x.1)with
    |true=>
     rw[hd]at e
     exact⟨_,by rw[bp,List.length_append];simp,(bm (bm (bm e).2).2).2⟩
    |false=>
     rw[hd]at e
     exact⟨_,by simp,(bm e).2⟩
   obtain⟨p,p1,p2⟩:=hT
   obtain⟨q1,q2,q3,q4⟩:=UC p1 p2
   exact⟨rfl,hr,q1,q2,q3,q4,OR p2⟩
end Go.Proofs.Vd

noncomputable section
namespace Go.Proofs.Vd
open Go.Ab Go.Ab.Lf
set_option maxRecDepth 100000
theorem OT(x:den tI)(c:List (den tI))(out:List Int):qE (x::c) out=bif (iI (mI x)).2 then qE c (out++(iI (mI x)).1)else none:=by
 show gq yV some (x::c) out=_
 rw[gq]
 unfold yV
 cases(iI (mI x)).2<;>rfl
theorem OU: ∀ (c:List (den tI)) (out B:List Int),Gs c=true->qE c out=some B->(∀ x,x∈c->(iI (mI x)).2=true)/\out.length+c.length<=B.length/\ ∀ x,x∈c->List.length x.2.2.2.2.2<=B.length
 | [],out,B,_,h=>by cases h;exact⟨(fun x hx=>by cases hx),(by simp),(fun x hx=>by cases hx)⟩
 |x::c,out,B,hc,h=>by
  obtain⟨h1,h2⟩:=jP hc
  rw[OT]at h
  cases hp:(iI (mI x)).2 with
  |false=>rw[hp]at h;cases h
  |true=>
   rw[hp,cond_true]at h
   obtain⟨a,b,d⟩:=OU c _ B h2 h
   obtain⟨_,p2,_,_,p5,p6,_⟩:=OS h1 hp
   rw[List.length_append]at b
   refine⟨fun z hz=>?_,by simp only[List.length_cons];omega,fun z hz=>?_⟩
   ·rcases List.mem_cons.1 hz with e|e
    ·subst e;exact hp
    ·exact a z e
   ·rcases List.mem_cons.1 hz with e|e
    ·subst e
     rcases p2 with p2|p2
     ·have:=p6 p2;omega
     ·rw[p2];exact Nat.zero_le _
    ·exact d z e
theorem afb{c:List (den tI)}(hc:qw c=true)(h:oP c=0)(hl:(p9 c).length<=1048576):BOk c/\Uv [] c:=by
 have hi:Gs c=true:=by simp only[qw,Bool.and_eq_true]at hc;exact hc.1
 unfold oP at h
 unfold p9 at hl
 cases ho:Gt c with
 |none=>rw[ho]at h;cases h
 |some B=>
  rw[ho]at hl
  have hl:B.length<=1048576:=hl
  unfold Gt at ho
  cases fY:iU c with
  |false=>rw[fY]at ho;cases ho
  |true=>
   rw[fY,cond_true]at ho
   obtain⟨a,b,d⟩:=OU c [] B hi ho
   refine⟨⟨fun x hx=>?_,by simp only[List.length_nil]at b;omega⟩,?_⟩
   ·obtain⟨p1,p2,p3,p4,_,_,p7⟩:=OS (pf hi x hx) (a x hx)
    exact⟨p3,p4,by have:=d x hx;omega,p1,p7⟩
   ·unfold iU DS at fY
    unfold Uv
    cases hf:gq yQ (fun _=>(none:Option Bool)) c []with
    |none=>rw[hf]at fY;cases fY
    |some t=>rw[hf]at fY;exact congrArg some fY
theorem kM{t:Ty}{A:Item (den t)}{B:AQ A}{most:Int}{l:List (den t)}(h:qG B most l=true):(l.length:Int)<=most/\ ∀ x,x∈l->B.p x=true:=by
 unfold qG at h
 rw[Bool.and_eq_true]at h
 refine⟨of_decide_eq_true h.1,fun x hx=>?_⟩
 have h2:=h.2
 have jR: ¬ (l.length:Int)=0:=by
  have:=List.length_pos_of_mem hx
  omega
 rw[decide_eq_false jR,cond_false,Bool.and_eq_true,Bool.and_eq_true,List.all_eq_true]at h2
 exact h2.1.2 x hx
theorem OV{t:Ty}{A:Item (den t)}{B:AQ A}{id:Int}{l:List (den t)}{x:den t}(hx:x∈l):(B.bs x).length<=(pd B id l).length:=by
 have h1: ∀ l:List (den t),x∈l->(B.bs x).length<=(u9 B l).length:=by
  intro l
  induction l with
  |nil=>intro h;cases h
  |cons a l ih=>
   intro h
   show _<=(B.bs a++u9 B l).length
   rw[List.length_append]
   rcases List.mem_cons.1 h with e|e
   ·subst e;omega
   ·have:=ih e;omega
 have h2:=h1 l hx
 have jR: ¬ (l.length:Int)=0:=by
  have:=List.length_pos_of_mem hx
  omega
 unfold pd
 rw[decide_eq_false jR,cond_false]
 simp only[List.length_cons,List.length_append]
 omega
theorem AU(L:List Int)(i:Nat): ∀ (k n t:Nat),(∀ t,1<=t->t<n->L.getD (i+t) (ao i64)=L.getD i (ao i64))->1<=t->t<oV L i k n->L.getD (i+t) (ao i64)=L.getD i (ao i64)
 |0,n,t,h,a,b=>h t a b
 |k+1,n,t,h,a,b=>by
  unfold oV at b
  split at b
  ·rename_i hc
   refine AU L i k (n+1) t (fun t a b=>?_) a b
   by_cases e:t=n
   ·subst e;exact hc.2
   ·exact h t a (by omega)
  ·exact h t a b
theorem OW(L:List Int): ∀ (k i:Nat),L.length<=i+k->GH L k i=true-> ∀ j,i<=j->j<L.length->qF (L.getD j (ao i64))=true
 |0,i,h,_,j,a,b=>by omega
 |k+1,i,h,hp,j,a,b=>by
  unfold GH at hp
  rw[if_pos (by omega),Bool.and_eq_true,Bool.and_eq_true]at hp
  obtain⟨r1,r2⟩:=B4 L i (by omega)
  by_cases e:j<i+gW L (i:Int)
  ·by_cases e2:j=i
   ·subst e2;exact hp.2.1
   ·have e3:gW L (i:Int)=oV L i L.length 1:=rfl
    have:=AU L i L.length 1 (j - i) (fun t a b=>by omega) (by omega) (by omega)
    rw[show i+(j - i)=j by omega]at this
    rw[this]
    exact hp.2.1
  ·exact OW L k (i+gW L (i:Int)) (by omega) hp.2.2 j (by omega) b
structure MOk(y:aj tM):Prop where
 ty:zY y
 tk: ∀ s:den aH,s∈y.1->List.all s.1 qF=true/\List.all s.2 qF=true
 lt:y.1.length<=512
 li:y.2.1.length<=512
 lf:y.2.2.1.length<=512
 lb:y.2.2.2.1.length<=512
 lm:y.2.2.2.2.1.length<=512
 lg:y.2.2.2.2.2.1.length<=512
 lx:y.2.2.2.2.2.2.1.length<=512
 le:y.2.2.2.2.2.2.2.2.1.length<=512
 lc:y.2.2.2.2.2.2.2.2.2.1.length<=512
 ld:y.2.2.2.2.2.2.2.2.2.2.1.length<=512
 fc:y.2.2.1.length=y.2.2.2.2.2.2.2.2.2.1.length
 cd: ∀ C:den aL,C∈y.2.2.2.2.2.2.2.2.2.1->Je C/\List.all C.1 qF=true
 ex: ∀ e:den aR,e∈y.2.2.2.2.2.2.1->(0:Int)<=e.2.1/\(e.2.1:Int)<=3
 st:(-1:Int)<=y.2.2.2.2.2.2.2.1/\(y.2.2.2.2.2.2.2.1:Int)<4294967296
 gk: ∀ g:den aC,g∈y.2.2.2.2.2.1->qF g.1=true
 el: ∀ e:den aG,e∈y.2.2.2.2.2.2.2.2.1->List.length e.2<=1024
 x0:gNx y.2.2.2.2.2.2.1=true
theorem mok{V:ByteArray->Bool}{y:aj tM}(hE:GA V y=true)(hP:Qo V y=true)(hB:(Qp V y).length<=1048576)(hx:gNx y.2.2.2.2.2.2.1=true):MOk y:=by
 have hM:Wj V y=true:=by unfold GA at hE;rw[Bool.and_eq_true]at hE;exact hE.1
 unfold Wj at hM
 simp only[Bool.and_eq_true]at hM
 obtain⟨_,_,_,_,_,g6,_,g8,g9,g10⟩:=hM
 unfold Qo at hP
 rw[Bool.and_eq_true,Bool.and_eq_true,Bool.and_eq_true]at hP
 obtain⟨p0,p1,p2,p3⟩:=hP
 unfold aaa at p1
 unfold aab at p3
 simp only[Bool.and_eq_true]at p1 p3
 obtain⟨a1,a2,a3,a4,a5,a6,a7⟩:=p1
 obtain⟨a9,a10,a11⟩:=p3
 have b1:=kM a1
 have b2:=kM a2
 have b3:=kM a3
 have b4:=kM a4
 have b5:=kM a5
 have b6:=kM a6
 have b7:=kM a7
 have b9:=kM a9
 have b10:=kM a10
 have b11:=kM a11
 have aqr:(pd JZ 10 y.2.2.2.2.2.2.2.2.2.1).length<=1048576:=by
  have:(Qp V y).length=(Z' V y).length+((stB y.2.2.2.2.2.2.2.1).length+(Oo y).length):=by unfold Qp;rw[List.length_append,List.length_append]
  have:(Oo y).length=(pd TC 9 y.2.2.2.2.2.2.2.2.1).length+((pd JZ 10 y.2.2.2.2.2.2.2.2.2.1).length+(pd TD 11 y.2.2.2.2.2.2.2.2.2.2.1).length):=by unfold Oo;rw[List.length_append,List.length_append]
  omega
 have ty: ∀ s:den aH,s∈y.1->(List.length s.1<=32/\List.length s.2<=32)/\List.all s.1 qF=true/\List.all s.2 qF=true:=by
  intro s hs
  have h:=b1.2 s hs
  have h:(bif decide ((List.length s.1:Int)<=32)then decide ((List.length s.2:Int)<=32)&&(true&&([(List.length s.1:Int)].all iV&&(List.all s.1 qF&&([(List.length s.2:Int)].all iV&&List.all s.2 qF))))else false&&(true&&([(List.length s.1:Int)].all iV&&(List.all s.1 qF&&([(List.length s.2:Int)].all iV&&List.all s.2 qF)))))=true:=h
  by_cases q:(List.length s.1:Int)<=32
  ·rw[decide_eq_true q,cond_true]at h
   simp only[Bool.and_eq_true,decide_eq_true_eq]at h
   exact⟨⟨by omega,by have:=h.1;omega⟩,h.2.2.2.1,h.2.2.2.2.2⟩
  ·rw[decide_eq_false q]at h
   cases h
 refine⟨fun s hs=>(ty s hs).1,fun s hs=>(ty s hs).2,by omega,by omega,by omega,by omega,by omega,by omega,by omega,by omega,by omega,by omega,by have:=of_decide_eq_true p0;omega,fun C hC=>?_,fun e he=>?_,?_,fun g hg=>?_,fun e he=>?_,hx⟩
 ·have h:=b10.2 C hC
  have h:(decide ((List.length C.1:Int)<=512)&&(Qn C&&iV ((zX C).length:Int)))=true:=h
  rw[Bool.and_eq_true,Bool.and_eq_true]at h
  obtain⟨h1,h2,h3⟩:=h
  unfold Qn at h2
  rw[Bool.and_eq_true,Bool.and_eq_true]at h2
  have hl:(p9 C.2).length<=1048576:=by
   have h4:(nb ((zX C).length:Int)++zX C).length<=_:=OV (B:=JZ) (id:=10) hC
   have h5:(zX C).length=(nb (ee C.1 0)).length+((Ed C.1 (List.length C.1) 0).length+(p9 C.2).length):=by unfold zX;rw[List.length_append,List.length_append]
   rw[List.length_append]at h4
   omega
  have hok:qw C.2=true:=pf g9 C hC
  obtain⟨q1,q2⟩:=afb hok (of_decide_eq_true h2.2.2) hl
  refine⟨⟨q1,q2,by have:=of_decide_eq_true h1;omega⟩,?_⟩
  rw[List.all_eq_true]
  intro t ht
  obtain⟨j,hj,e⟩:=List.getElem_of_mem ht
  have:=OW C.1 (List.length C.1) 0 (by omega) h2.2.1 j (Nat.zero_le _) hj
  rw[List.getD_eq_getElem?_getD,List.getElem?_eq_getElem hj]at this
  rw[<-e]
  exact this
 ·have h:=b7.2 e he
  have h:(bif decide ((0:Int)<=e.2.1)then decide ((e.2.1:Int)<=3)&&(Z2 V e.1&&(true&&[e.2.2].all iV))else false&&(Z2 V e.1&&(true&&[e.2.2].all iV)))=true:=h
  by_cases q:(0:Int)<=e.2.1
  ·rw[decide_eq_true q,cond_true,Bool.and_eq_true]at h
   exact⟨q,of_decide_eq_true h.1⟩
  ·rw[decide_eq_false q]at h
   cases h
 ·unfold stP at p2
  rw[Bool.and_eq_true]at p2
  refine⟨of_decide_eq_true p2.1,?_⟩
  by_cases q:(0:Int)<=y.2.2.2.2.2.2.2.1
  ·have h:=p2.2
   rw[decide_eq_true q,cond_true,Bool.and_eq_true]at h
   have h:=h.1
   unfold iV at h
   rw[Bool.and_eq_true]at h
   exact of_decide_eq_true h.2
  ·have key: ∀ a:Int,¬ 0<=a->a<4294967296:=fun a _=>by omega
   exact key _ q
 ·have h:=b6.2 g hg
  have h:([(g.1:Int)].all qF&&bif g.2.1 then true&&decide (oP g.2.2=0)else true&&decide (oP g.2.2=0))=true:=h
  rw[Bool.and_eq_true]at h
  have h:=h.1
  simpa using h
 ·have h:=b9.2 e he
  have h:(decide ((List.length e.2:Int)<=1024)&&_)=true:=h
  rw[Bool.and_eq_true]at h
  have:=of_decide_eq_true h.1
  omega
end Go.Proofs.Vd

noncomputable section
namespace Go.Proofs.Vd
open Go.Ab Go.Ab.Lf
set_option maxRecDepth 100000
theorem qg{α:Type}{f:List Pl->T Rs}{l:List α}(st:Nat->List Pl)(p:α->Bool)(o0 o1:List Pl)
 (uP: ∀ j x r,l.drop j=x::r->(f (st j)).val=some (bif p x then .next (st (j+1))else .out 1 o1))(BS:(f (st l.length)).val=some (.out 0 o0)):gG f (st 0) (bif l.all p then 0 else 1) (bif l.all p then o0 else o1):=by
 have key: ∀ (r:List α) (j:Nat),l.drop j=r->j<=l.length->gG f (st j) (bif r.all p then 0 else 1) (bif r.all p then o0 else o1):=by
  intro r
  induction r with
  |nil=>
   intro j h hj
   have:j=l.length:=by have:=List.drop_eq_nil_iff.1 h;omega
   subst this
   exact .last BS
  |cons x r ih=>
   intro j h hj
   have gB:j<l.length:=by
    rcases Nat.lt_or_ge j l.length with k|k
    ·exact k
    ·rw[List.drop_eq_nil_of_le k]at h;cases h
   have hr:l.drop (j+1)=r:=by rw[<-List.tail_drop,h];rfl
   have hs:=uP j x r h
   rw[List.all_cons]
   cases hp:p x with
   |true=>rw[hp]at hs;rw[Bool.true_and];exact .more hs (ih (j+1) hr gB)
   |false=>rw[hp]at hs;exact .last hs
 exact key l 0 rfl (Nat.zero_le _)
def pj(l:List (List (den ak))):Nat:=l.foldr (fun x n=>x.length+n) 0
theorem GY(l:List (List (den ak))): ∀ (s:List (den ak)),l.foldl (fun s x=>s++x) s=s++l.flatten:=by
 induction l with
 |nil=>intro s;simp
 |cons x l ih=>intro s;show l.foldl _ (s++x)=_;rw[ih];simp
theorem GZ(l:List (List (den ak))): ∀ (s:Nat),l.foldl (fun s x=>s+x.length) s=s+pj l:=by
 induction l with
 |nil=>intro s;rfl
 |cons x l ih=>intro s;show l.foldl _ (s+x.length)=s+(x.length+pj l);rw[ih];omega
theorem aaO(c:List (List (den ak)))(hc:c.length+pj c<=1073741824):gG GM (aA vf (c,((0:Nat):Int),c,(c.length:Int),((0:Nat):Int),())) 0 (aA mf (c,(pj c:Int),())):=by
 have r0:=JR (f:=GM) (l:=c) (fun(s:Nat) j=>aA vf (c,(s:Int),c,(c.length:Int),(j:Int),())) (fun s x=>.inl (s+x.length)) (fun s=>(0,aA mf (c,(s:Int),()))) (fun s r=>s+pj r<=1073741824) (fun s j x r e hi=>by
  obtain⟨e1,e2⟩:=dr e (ao (.ae ak))
  have e2:c.getD j (ao (.ae ak))=x:=e2
  have XC:s+(x.length+pj r)<=1073741824:=hi
  have Bg:decide (((s+x.length:Nat):Int)<0)=false:=decide_eq_false (by omega)
  have hq:bw .i64 (s:Int) (x.length:Int)=((s+x.length:Nat):Int):=BR (by omega)
  refine⟨?_,fun s' e=>by cases e;exact(by omega:s+x.length+pj r<=1073741824)⟩
  rw[WE c c (s:Int) (c.length:Int) (j:Int) ((s+x.length:Nat):Int) (by rw[Int.toNat_natCast,e2];exact hq.symm),dX e1,cond_true,Cc e1,Bg,kE (by omega)]
  rfl) (fun s j e hj _=>by
  have:j=c.length:=by have:=List.drop_eq_nil_iff.1 e;omega
  subst this
  rw[WE c c (s:Int) (c.length:Int) (c.length:Int) _ rfl,dn (Nat.le_refl _)]
  rfl) c 0 0 rfl (by omega) (by omega)
 rw[fI,GZ,Nat.zero_add]at r0
 exact r0
theorem aaP(c:List (List (den ak)))(hc:c.length+pj c<=1073741824):gG Eg (aA sQ ([],c,(c.length:Int),((0:Nat):Int),())) 0 (aA mg (c.flatten,())):=by
 have r2:=JR (f:=Eg) (l:=c) (fun(s:List (den ak)) j=>aA sQ (s,c,(c.length:Int),(j:Int),())) (fun s x=>.inl (s++x)) (fun s=>(0,aA mg (s,()))) (fun s r=>s.length+pj r<=1073741824) (fun s j x r e hi=>by
  obtain⟨e1,e2⟩:=dr e (ao (.ae ak))
  have e2:c.getD j (ao (.ae ak))=x:=e2
  have XC:s.length+(x.length+pj r)<=1073741824:=hi
  refine⟨?_,fun s' e=>by cases e;rw[List.length_append];omega⟩
  rw[WG s c (c.length:Int) (j:Int) x (by rw[Int.toNat_natCast];exact e2.symm),dX e1,cond_true,Cc e1,bJ (by omega) (by omega),bp,kE (by omega)]
  rfl) (fun s j e hj _=>by
  have:j=c.length:=by have:=List.drop_eq_nil_iff.1 e;omega
  subst this
  rw[WG s c (c.length:Int) (c.length:Int) _ rfl,dn (Nat.le_refl _)]
  rfl) c 0 [] rfl (by omega) (by simp;omega)
 rw[fI,GY,List.nil_append]at r2
 exact r2
theorem afd(c:List (List (den ak)))(hc:c.length+pj c<=1073741824):(t55 (c,())).val=some (aA GN (c.flatten,())):=by
 have v0:=lM (aaO c hc)
 have v2:=lM (aaP c hc)
 have hw:bQ .i64 (pj c:Int) 0=(pj c:Int):=by
  show eZ .i64 ((pj c:Int) - 0)=_
  rw[wrap_i64 (by omega) (by omega)]
  omega
 have Bg:decide ((pj c:Int)<0)=false:=decide_eq_false (by omega)
 have c1:roomy 16 (0+(List.replicate (pj c:Int).toNat ((0,0):den ak)).length)=true:=bJ (by omega) (by rw[List.length_replicate,Int.toNat_natCast];omega)
 have c2:eK 0 0 ((app [] (List.replicate (pj c:Int).toNat ((0,0):den ak))).length:Int)=true:=Cd (j:=0) (Nat.zero_le _)
 have a1:rk GM vf mf (c,0,c,(c.length:Int),0,())=true:=v0.1
 have a3:rk Eg sQ mg ([],c,(c.length:Int),0,())=true:=v2.1
 have a4:gM Eg sQ mg ([],c,(c.length:Int),0,())=(c.flatten,()):=v2.2
 rw[akc c (c,(pj c:Int),()) v0.2.symm,a1]
 dsimp only
 rw[a3,a4,Bg,hw]
 generalize aA GN (c.flatten,())=R
 have c3:decide ((0:Int)<=(pj c:Int))=true:=decide_eq_true (by omega)
 rw[c1,c2,c3]
 cases decide ((0:Int)<(pj c:Int))<;>rfl
theorem qh{f:List Pl->T Rs}{ti t0 t1:List Ty}{x:aj ti}{b:Bool}{u:aj t0}{v:aj t1}(h:gG f (aA ti x) (bif b then 0 else 1) (bif b then aA t0 u else aA t1 v)):r5 f ti t0 t1 x=true/\qK f ti x=b/\(b=true->gM f ti t0 x=u)/\(b=false->gM f ti t1 x=v):=by
 cases b with
 |true=>obtain⟨a,b,c⟩:=rq (t0:=t0) (t1:=t1) (y:=u) h;exact⟨a,b,(fun _=>c),(fun e=>by cases e)⟩
 |false=>obtain⟨a,b,c⟩:=NB (t0:=t0) (t1:=t1) (y:=v) h;exact⟨a,b,(fun e=>by cases e),(fun _=>c)⟩
def UD(y:aj tM)(fn:Int)(x:den aG):Bool:= !decide ((y.2.2.2.1.length:Int)=0)&&(v5 x.1 127&&List.all x.2 (fun f=> !decide (fn<=f)))
def UE(y:aj tM)(x:den aJ):Bool:= !decide ((y.2.2.2.2.1.length:Int)=0)&&v5 x.1 127
def aaQ(y:aj tM)(fn:Int):Bool:=List.all y.2.2.2.2.2.2.2.2.1 (UD y fn)&&List.all y.2.2.2.2.2.2.2.2.2.2.1 (UE y)
theorem afe(y:aj tM)(fn:Int)(h1:y.2.2.2.2.2.2.2.2.1.length<=1048576)(h2:y.2.2.2.2.2.2.2.2.2.2.1.length<=1048576)(h3: ∀ e:den aG,e∈y.2.2.2.2.2.2.2.2.1->List.length e.2<=1048576):(t58 (y.1,y.2.1,y.2.2.1,y.2.2.2.1,y.2.2.2.2.1,y.2.2.2.2.2.1,y.2.2.2.2.2.2.1,y.2.2.2.2.2.2.2.1,y.2.2.2.2.2.2.2.2.1,y.2.2.2.2.2.2.2.2.2.1,y.2.2.2.2.2.2.2.2.2.2.1,fn,())).val=some (aA Eh (aaQ y fn,())):=by
 have r0:=qg (f:=GP) (l:=y.2.2.2.2.2.2.2.2.1) (fun j=>aA qx (fn,y.1,y.2.1,y.2.2.1,y.2.2.2.1,y.2.2.2.2.1,y.2.2.2.2.2.1,y.2.2.2.2.2.2.1,y.2.2.2.2.2.2.2.1,y.2.2.2.2.2.2.2.2.1,y.2.2.2.2.2.2.2.2.2.1,y.2.2.2.2.2.2.2.2.2.2.1,y.2.2.2.2.2.2.2.2.1,(y.2.2.2.2.2.2.2.2.1.length:Int),(j:Int),())) (UD y fn) (aA nD (y.1,y.2.1,y.2.2.1,y.2.2.2.1,y.2.2.2.2.1,y.2.2.2.2.2.1,y.2.2.2.2.2.2.1,y.2.2.2.2.2.2.2.1,y.2.2.2.2.2.2.2.2.1,y.2.2.2.2.2.2.2.2.2.1,y.2.2.2.2.2.2.2.2.2.2.1,())) (aA nE (false,())) (fun j x r e=>by
  obtain⟨e1,e2⟩:=dr e (ao aG)
  have hx:x∈y.2.2.2.2.2.2.2.2.1:=by
   have:x∈y.2.2.2.2.2.2.2.2.1.drop j:=by rw[e];exact List.mem_cons_self
   exact List.mem_of_mem_drop this
  have hl:=h3 x hx
  have r2:=qg (f:=GO) (l:=x.2) (fun k=>aA rF (fn,y.1,y.2.1,y.2.2.1,y.2.2.2.1,y.2.2.2.2.1,y.2.2.2.2.2.1,y.2.2.2.2.2.2.1,y.2.2.2.2.2.2.2.1,y.2.2.2.2.2.2.2.2.1,y.2.2.2.2.2.2.2.2.2.1,y.2.2.2.2.2.2.2.2.2.2.1,y.2.2.2.2.2.2.2.2.1,(y.2.2.2.2.2.2.2.2.1.length:Int),(j:Int),x.2,(List.length x.2:Int),(k:Int),())) (fun f=> !decide (fn<=f)) _ _ (fun k f r e=>by
   obtain⟨e1,e2⟩:=dr e (ao i64)
   rw[WB,dX e1,cond_true,Cc e1,Int.toNat_natCast,e2,kE (by omega)]
   cases decide (fn<=f)<;>rfl) (by rw[WB,dn (Nat.le_refl _)];rfl)
  have q:=qh (ti:=rF) (t0:=qa) (t1:=r7) (x:=(fn,y.1,y.2.1,y.2.2.1,y.2.2.2.1,y.2.2.2.2.1,y.2.2.2.2.2.1,y.2.2.2.2.2.2.1,y.2.2.2.2.2.2.2.1,y.2.2.2.2.2.2.2.2.1,y.2.2.2.2.2.2.2.2.2.1,y.2.2.2.2.2.2.2.2.2.2.1,y.2.2.2.2.2.2.2.2.1,(y.2.2.2.2.2.2.2.2.1.length:Int),(j:Int),x.2,(List.length x.2:Int),0,())) (u:=(fn,y.1,y.2.1,y.2.2.1,y.2.2.2.1,y.2.2.2.2.1,y.2.2.2.2.2.1,y.2.2.2.2.2.2.1,y.2.2.2.2.2.2.2.1,y.2.2.2.2.2.2.2.2.1,y.2.2.2.2.2.2.2.2.2.1,y.2.2.2.2.2.2.2.2.2.2.1,y.2.2.2.2.2.2.2.2.1,(y.2.2.2.2.2.2.2.2.1.length:Int),(j:Int),())) (v:=(false,())) r2
  obtain⟨q1,q2,q3,q4⟩:=q
  rw[WC fn y _ _ _ x (by rw[Int.toNat_natCast];exact e2.symm) _ rfl _ rfl,dX e1,cond_true,Cc e1,q1,q2]
  unfold UD
  cases decide ((y.2.2.2.1.length:Int)=0)with
  |true=>rfl
  |false=>
   cases v5 x.1 127 with
   |false=>rfl
   |true=>
    cases ha:List.all x.2 (fun f=> !decide (fn<=f))with
    |true=>rw[q3 ha];show some (Rs.next (aA qx (fn,y.1,y.2.1,y.2.2.1,y.2.2.2.1,y.2.2.2.2.1,y.2.2.2.2.2.1,y.2.2.2.2.2.2.1,y.2.2.2.2.2.2.2.1,y.2.2.2.2.2.2.2.2.1,y.2.2.2.2.2.2.2.2.2.1,y.2.2.2.2.2.2.2.2.2.2.1,y.2.2.2.2.2.2.2.2.1,(y.2.2.2.2.2.2.2.2.1.length:Int),bw .i64 (j:Int) 1,())))=_;rw[kE (by omega)];rfl
    |false=>rw[q4 ha];rfl) (by rw[WC fn y _ _ _ _ rfl _ rfl _ rfl,dn (Nat.le_refl _)];rfl)
 obtain⟨a1,a2,a3,a4⟩:=qh (ti:=qx) (t0:=nD) (t1:=nE) (x:=(fn,y.1,y.2.1,y.2.2.1,y.2.2.2.1,y.2.2.2.2.1,y.2.2.2.2.2.1,y.2.2.2.2.2.2.1,y.2.2.2.2.2.2.2.1,y.2.2.2.2.2.2.2.2.1,y.2.2.2.2.2.2.2.2.2.1,y.2.2.2.2.2.2.2.2.2.2.1,y.2.2.2.2.2.2.2.2.1,(y.2.2.2.2.2.2.2.2.1.length:Int),0,())) (u:=(y.1,y.2.1,y.2.2.1,y.2.2.2.1,y.2.2.2.2.1,y.2.2.2.2.2.1,y.2.2.2.2.2.2.1,y.2.2.2.2.2.2.2.1,y.2.2.2.2.2.2.2.2.1,y.2.2.2.2.2.2.2.2.2.1,y.2.2.2.2.2.2.2.2.2.2.1,())) (v:=(false,())) r0
 have r4:=qg (f:=J5) (l:=y.2.2.2.2.2.2.2.2.2.2.1) (fun j=>aA sU (y.1,y.2.1,y.2.2.1,y.2.2.2.1,y.2.2.2.2.1,y.2.2.2.2.2.1,y.2.2.2.2.2.2.1,y.2.2.2.2.2.2.2.1,y.2.2.2.2.2.2.2.2.1,y.2.2.2.2.2.2.2.2.2.1,y.2.2.2.2.2.2.2.2.2.2.1,y.2.2.2.2.2.2.2.2.2.2.1,(y.2.2.2.2.2.2.2.2.2.2.1.length:Int),(j:Int),())) (UE y) (aA r8 ()) (aA qb (false,())) (fun j x r e=>by
  obtain⟨e1,e2⟩:=dr e (ao aJ)
  rw[WD y _ _ _ x (by rw[Int.toNat_natCast];exact e2.symm),dX e1,cond_true,Cc e1,kE (by omega)]
  unfold UE
  cases decide ((y.2.2.2.2.1.length:Int)=0)<;>cases v5 x.1 127<;>rfl) (by rw[WD y _ _ _ _ rfl,dn (Nat.le_refl _)];rfl)
 obtain⟨b1,b2,b3,b4⟩:=qh (ti:=sU) (t0:=r8) (t1:=qb) (x:=(y.1,y.2.1,y.2.2.1,y.2.2.2.1,y.2.2.2.2.1,y.2.2.2.2.2.1,y.2.2.2.2.2.2.1,y.2.2.2.2.2.2.2.1,y.2.2.2.2.2.2.2.2.1,y.2.2.2.2.2.2.2.2.2.1,y.2.2.2.2.2.2.2.2.2.2.1,y.2.2.2.2.2.2.2.2.2.2.1,(y.2.2.2.2.2.2.2.2.2.2.1.length:Int),0,())) (u:=()) (v:=(false,())) r4
 unfold aaQ
 cases hA:List.all y.2.2.2.2.2.2.2.2.1 (UD y fn)with
 |false=>
  rw[hA]at a2
  rw[ae' y fn _ rfl _ rfl _ rfl,a1,a2,a4 hA]
  rfl
 |true=>
  rw[hA]at a2
  rw[ae' y fn _ rfl _ (a3 hA).symm _ rfl,a1,a2]
  cases hB:List.all y.2.2.2.2.2.2.2.2.2.2.1 (UE y)with
  |true=>rw[hB]at b2;simp only[aM,cond_true];rw[b1,b2];rfl
  |false=>rw[hB]at b2;simp only[aM,cond_true];rw[b1,b2,b4 hB];rfl
end Go.Proofs.Vd
