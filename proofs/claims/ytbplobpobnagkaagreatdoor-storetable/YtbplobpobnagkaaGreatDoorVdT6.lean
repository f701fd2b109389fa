import Derived.Test.YtbplobpobnagkaaGreatDoorVdS2
noncomputable section
namespace Go.Proofs.Vd
open Go.Ab Go.Ab.Lf
set_option maxRecDepth 100000
def vc1(v t:Int):Int:=bif decide (t=123)then cf .i64 v 1 else v
def vcs(l:List Int):Int:=l.foldl vc1 0
theorem aac(y:ak tM)(lo:List Int)(w:W3)(mk:List (den tC))(k:Int)(x:den tI)(c:List (den tI))(n1 i1:Int)(hw:w.1.length<=1073741824):
 gQ JP (aA sy (Z8 y lo w mk k x c n1 i1 0 (w.1.length:Int) 0)) 0 (aA mf (Z9 y lo w mk k x c n1 i1 (vcs w.1))):=by
 have:=JE (f:=JP) (l:=w.1) (fun(v:Int) j=>aA sy (Z8 y lo w mk k x c n1 i1 v (w.1.length:Int) (j:Int))) (fun v t=>.inl (vc1 v t)) (fun v=>(0,aA mf (Z9 y lo w mk k x c n1 i1 v))) (fun _ _=>True) (fun v j t r e _=>by
  obtain⟨e1,e2⟩:=dn e (ao i64)
  refine⟨?_,fun _ _=>trivial⟩
  rw[V6,dY e1,cond_true,BR e1,Int.toNat_natCast,e2,kA (by omega)]
  unfold vc1
  cases decide (t=123)<;>rfl) (fun v j e hj _=>by
  have:j=w.1.length:=by have:=List.drop_eq_nil_iff.1 e;omega
  subst this
  rw[V6,dj (Nat.le_refl _)]
  rfl) w.1 0 0 rfl (by omega) trivial
 rw[fM]at this
 exact this
def OD(w:W3):Bool:=bif (dy w.2.1).2.2.2.2.2 then !(dy w.2.1).2.2.2.2.1 else false
def Ul(w:W3):den tC:=bif OD w then(true,(w.1.length:Int),vcs w.1)else(false,0,0)
def qv(y:ak tM)(lo:List Int):W3->List (den tI)->Option (List (den tC))
 | _,[]=>some []
 |w,x::r=>bif (fG y lo w x).2.2 then none else(qv y lo (fG y lo w x) r).map (Ul w:: ·)
def Um(op:List Int)(r:List (den tI)):Prop:=gq yx (fun _=>(none:Option Bool)) r op=some true
def nbl(o:Int)(L:Nat):Nat:=if 2<=o/\o<=4 then L+1 else if o=11 then L - 1 else L
theorem OE{op:List Int}{x:den tI}{r:List (den tI)}(h:Um op (x::r)):((x.1:Int)=11/\op=[]/\r=[])∨ ∃ op',Um op' r/\op'.length+1=nbl x.1 (op.length+1)/\((x.1:Int)=11->op≠[]):=by
 have e:gq yx (fun _=>(none:Option Bool)) (x::r) op=(match yx op x r with| .inl s=>gq yx (fun _=>none) r s| .inr o=>o):=by
  rw[gq]
  cases yx op x r<;>rfl
 unfold Um at h
 rw[e]at h
 unfold yx at h
 unfold nbl
 by_cases h2:x.1=2∨x.1=3∨x.1=4
 ·have k2:(2:Int)<=x.1/\(x.1:Int)<=4:=by
   have: ∀ o:Int,o=2∨o=3∨o=4->2<=o/\o<=4:=fun o _=>by omega
   exact this _ h2
  rw[if_pos h2]at h
  by_cases q:op.length=128
  ·rw[if_pos q]at h;cases h
  ·rw[if_neg q]at h
   refine .inr ⟨op++[x.1],h,?_,fun e=>?_⟩
   ·rw[if_pos k2];simp
   ·have: ∀ o:Int,o=11-> ¬ (o=2∨o=3∨o=4):=fun o _=>by omega
    exact(this _ e h2).elim
 ·have k2: ¬ ((2:Int)<=x.1/\(x.1:Int)<=4):=by
   have: ∀ o:Int,¬ (o=2∨o=3∨o=4)-> ¬ (2<=o/\o<=4):=fun o _=>by omega
   exact this _ h2
  rw[if_neg h2]at h
  rw[if_neg k2]
  by_cases h5:(x.1:Int)=5
  ·rw[if_pos h5]at h
   rw[if_neg (sB h5 (by decide))]
   by_cases q:op.length=0∨ ¬ op.getD (op.length - 1) 0=4
   ·rw[if_pos q]at h;cases h
   ·rw[if_neg q]at h
    refine .inr ⟨op.set (op.length - 1) 5,h,by simp,fun e=>(sB h5 (c:=11) (by decide) e).elim⟩
  ·rw[if_neg h5]at h
   by_cases h11:(x.1:Int)=11
   ·rw[if_pos h11]at h
    rw[if_pos h11]
    by_cases h0:op.length=0
    ·rw[if_pos h0]at h
     refine .inl ⟨h11,List.eq_nil_of_length_eq_zero h0,?_⟩
     have h:some (decide (r.length=0))=some true:=h
     injection h with h
     exact List.eq_nil_of_length_eq_zero (of_decide_eq_true h)
    ·rw[if_neg h0]at h
     refine .inr ⟨op.take (op.length - 1),h,by simp;omega,fun _ e=>h0 (by rw[e];rfl)⟩
   ·rw[if_neg h11]at h
    rw[if_neg h11]
    exact .inr ⟨op,h,rfl,fun e=>(h11 e).elim⟩
theorem Un(w:W3)(i:den tI):(GA w i).2.1=w.2.1:=by
 have eb: ∀ (T:List Int) (L:List Int) (v:W3),(L.foldl (pJ T) v).2.1=v.2.1:=by
  intro T L
  induction L with
  |nil=>intro v;rfl
  |cons x L ih=>intro v;exact(ih (pJ T v x)).trans rfl
 exact eb _ _ _
theorem BV(w:W3):(tc w).2.1.length=w.2.1.length:=by
 show(w.2.1.set _ _).length=_
 rw[List.length_set]
theorem Uo(y:ak tM)(lo:List Int)(w:W3)(i:den tI):(wc y lo w i).2.1.length=w.2.1.length:=by
 unfold wc
 dsimp only
 cases decide (i.1=0)with
 |true=>exact BV w
 |false=>
  cases decide (i.1=12)with
  |true=>exact BV _
  |false=>
   cases decide (i.1=13)with
   |true=>rfl
   |false=>
    cases decide (i.1=14)with
    |true=>
     show(tc (fL (GA w i) _)).2.1.length=_
     rw[BV]
     show(GA w i).2.1.length=_
     rw[Un]
    |false=>
     cases decide (i.1=15)with
     |true=>exact BV _
     |false=>
      simp only[cond_false]
      unfold JS
      dsimp only
      cases(bif !decide (i.1=33)then !decide (i.1=36)else false)<;>cases(bif !decide (i.1=32)then !decide (i.1=35)else false)<;>rfl
theorem OG{w:W3}(h:w.2.1≠[])(n:Int)(hb:(nZ w n).2.2=false):(nZ w n).2.1.length=if n=5 then w.2.1.length else w.2.1.length - 1:=by
 obtain⟨r,B,e⟩:=uU h
 have ec:tf w=r:=by unfold tf;rw[e];simp
 unfold nZ at hb ⊢
 cases hB:BU w with
 |true=>rw[hB]at hb;cases hb
 |false=>
  by_cases h5:n=5
  ·rw[decide_eq_true h5,if_pos h5]
   show(ff _ (tf w) _ _ _).length=_
   unfold ff
   rw[ec,e]
   simp
  ·rw[decide_eq_false h5,if_neg h5]
   show(tf w).length=_
   rw[ec,e]
   simp
theorem Up{y:ak tM}{lo:List Int}{w:W3}{i:den tI}(h:w.2.1≠[])(hb:(fG y lo w i).2.2=false):(fG y lo w i).2.1.length=nbl i.1 w.2.1.length:=by
 unfold fG at hb ⊢
 unfold nbl
 cases hp:(kC i.1).2.2.1 with
 |true=>
  obtain⟨a,b⟩:=aej hp
  have: ∀ o:Int,¬ (2<=o/\o<=5)-> ¬ (2<=o/\o<=4):=fun o _=>by omega
  rw[if_neg (this _ a),if_neg b]
  simp only[cond_true]
  unfold aaa
  obtain⟨q,e⟩:=vG y w i (kC i.1)
  rw[e]
 |false=>
  rw[hp]at hb
  simp only[cond_false]at hb ⊢
  by_cases h2:(i.1:Int)=2∨(i.1:Int)=3∨(i.1:Int)=4
  ·have k2:(2:Int)<=i.1/\(i.1:Int)<=4:=by
    have: ∀ o:Int,o=2∨o=3∨o=4->2<=o/\o<=4:=fun o _=>by omega
    exact this _ h2
   have c:(decide (i.1=2)||(decide (i.1=3)||decide (i.1=4)))=true:=by simp only[Bool.or_eq_true,decide_eq_true_eq];exact h2
   rw[c,if_pos k2]
   simp only[cond_true]
   unfold D8
   dsimp only
   show(ff _ _ _ _ _).length=_
   unfold ff
   cases decide (i.1=4)<;>simp
  ·have k2: ¬ ((2:Int)<=i.1/\(i.1:Int)<=4):=by
    have: ∀ o:Int,¬ (o=2∨o=3∨o=4)-> ¬ (2<=o/\o<=4):=fun o _=>by omega
    exact this _ h2
   have c:(decide (i.1=2)||(decide (i.1=3)||decide (i.1=4)))=false:=by rw[Bool.eq_false_iff];intro q;simp only[Bool.or_eq_true,decide_eq_true_eq]at q;exact h2 q
   rw[c]at hb ⊢
   rw[if_neg k2]
   simp only[cond_false]at hb ⊢
   by_cases h5:(i.1:Int)=5∨(i.1:Int)=11
   ·have c:(decide (i.1=5)||decide (i.1=11))=true:=by simp only[Bool.or_eq_true,decide_eq_true_eq];exact h5
    rw[c]at hb ⊢
    simp only[cond_true]at hb ⊢
    rw[OG h i.1 hb]
    rcases h5 with h5|h5
    ·rw[if_pos h5,if_neg (sB h5 (by decide))]
    ·rw[if_neg (sB h5 (by decide)),if_pos h5]
   ·have c:(decide (i.1=5)||decide (i.1=11))=false:=by rw[Bool.eq_false_iff];intro q;simp only[Bool.or_eq_true,decide_eq_true_eq]at q;exact h5 q
    rw[c,if_neg (fun e=>h5 (.inr e))]
    simp only[cond_false]
    cases decide (i.1=26)with
    |true=>rfl
    |false=>
     cases decide (i.1=27)with
     |true=>rfl
     |false=>
      cases decide (i.1=16)with
      |true=>rfl
      |false=>
       cases decide (i.1=17)with
       |true=>rfl
       |false=>exact Uo y lo w i
structure BOk(c:List (den tI)):Prop where
 ok: ∀ x,x∈c->IOk x
 n:c.length<=1048576
theorem Uq{α:Type}(d:List α)(a b:α)(r:List α):(d++a::r).set d.length b=(d++[b])++r:=by
 rw[List.set_append_right _ _ (Nat.le_refl _)]
 simp
def oT(d:List (den tC)):Option (List (den tC))->Nat×List Pl
 |some l=>(0,aA gg (d++l,()))
 |none=>(1,aA il ([],false,()))
theorem GC{y:ak tM}(ht:zF y)(I4:y.2.1.length<=1099511627776)(lo:List Int){c:List (den tI)}(hc:BOk c): ∀ (r:List (den tI)) (j:Nat) (w:W3) (d:List (den tC)),c.drop j=r->d.length=j->(r=[]∨(Inv (32*j) (j+1) w/\ ∃ op,Um op r/\w.2.1.length=op.length+1))->
 gQ s7 (aA ik (V5 y lo w (d++List.replicate r.length (false,0,0)) c (c.length:Int) (j:Int))) (oT d (qv y lo w r)).1 (oT d (qv y lo w r)).2
 | [],j,w,d,e,hd,_=>by
  have hj:c.length<=j:=List.drop_eq_nil_iff.1 e
  refine .last ?_
  rw[V7 y lo w _ c _ _ _ rfl _ rfl _ rfl _ rfl _ rfl _ rfl,dj hj]
  simp only[cond_false,List.length_nil,List.replicate_zero,List.append_nil]
  show some (Rs.out 0 (aA gg (d,())))=some (Rs.out 0 (aA gg (d++[],())))
  rw[List.append_nil]
 |x::r,j,w,d,e,hd,hi=>by
  obtain⟨hi,op,ga,X9⟩:Inv (32*j) (j+1) w/\ ∃ op,Um op (x::r)/\w.2.1.length=op.length+1:=by
   rcases hi with hi|hi
   ·cases hi
   ·exact hi
  obtain⟨e1,e2⟩:=dn e (ao tI)
  have hx:x∈c:=by
   have:x∈c.drop j:=by rw[e];exact List.mem_cons_self
   exact List.mem_of_mem_drop this
  have hI:=hc.ok x hx
  have hn:=hc.n
  have hs:=hi.sub (by omega)
  have eB:dy w.2.1=w.2.1.getD (bO .i64 (w.2.1.length:Int) 1).toNat (ao cw):=by rw[hs,Int.toNat_natCast];rfl
  have ZR:=jF (aet hi ht lo hI (by have:=hI.n;omega) (by omega) I4)
  have er:c.drop (j+1)=r:=by rw[<-List.tail_drop,e];rfl
  have hsk:=hi.sk
  have v:=jN (aac y lo w (d++List.replicate (x::r).length (false,0,0)) (j:Int) x c (c.length:Int) (j:Int) (by omega))
  have hmk:(d++List.replicate (x::r).length ((false,0,0):den tC)).set j (true,(w.1.length:Int),vcs w.1)=(d++[(true,(w.1.length:Int),vcs w.1)])++List.replicate r.length (false,0,0):=by
   rw[List.length_cons,List.replicate_succ,<-hd]
   exact Uq d _ _ _
  have aeu:d++List.replicate (x::r).length ((false,0,0):den tC)=(d++[(false,0,0)])++List.replicate r.length (false,0,0):=by
   rw[List.length_cons,List.replicate_succ]
   simp
  have hlen:(d++List.replicate (x::r).length ((false,0,0):den tC)).length=j+(r.length+1):=by simp[hd]
  have step: ∀ (hb:(fG y lo w x).2.2=false),r=[]∨(Inv (32*(j+1)) (j+1+1) (fG y lo w x)/\ ∃ op,Um op r/\(fG y lo w x).2.1.length=op.length+1):=by
   intro hb
   rcases OE ga with⟨_,_,q⟩|⟨op',q1,q2,q3⟩
   ·exact .inl q
   ·have hl:=Up hi.ne hb
    rw[X9,<-q2]at hl
    have jQ:(fG y lo w x).2.1≠[]:=fun e0=>by rw[e0]at hl;simp at hl
    exact .inr ⟨(hi.step ht lo hI (by have:=hI.n;omega) (by omega) jQ).le (by omega) (Nat.le_refl _),op',q1,hl⟩
  have hq:=V7 y lo w (d++List.replicate (x::r).length (false,0,0)) c (c.length:Int) (j:Int) x (by rw[Int.toNat_natCast];exact e2.symm) (dy w.2.1) eB _ v.2.symm _ ZR.2.symm _ rfl _ rfl
  rw[dY e1,cond_true,BR e1,hs,hi.ix]at hq
  simp only[aS,cond_true]at hq
  have hlv:(bif (dy w.2.1).2.2.2.2.2 then !(dy w.2.1).2.2.2.2.1 else false)=OD w:=rfl
  rw[hlv]at hq
  cases hL:OD w with
  |true=>
   rw[hL,v.1]at hq
   simp only[cond_true]at hq
   have hq2:(s7 (aA ik (V5 y lo w (d++List.replicate (x::r).length (false,0,0)) c (c.length:Int) (j:Int)))).val=bif bg (j:Int) ((d++List.replicate (x::r).length ((false,0,0):den tC)).length:Int)then(bif k62 (p9 y lo w x)then(bif (At (p9 y lo w x)).2.2.2.2.2.2.2.2.2.2.2.2.2.2.1 then some (Rs.out 1 (aA il ([],false,())))else some (Rs.next (aA ik ((At (p9 y lo w x)).1,(At (p9 y lo w x)).2.1,(At (p9 y lo w x)).2.2.1,(At (p9 y lo w x)).2.2.2.1,(At (p9 y lo w x)).2.2.2.2.1,(At (p9 y lo w x)).2.2.2.2.2.1,(At (p9 y lo w x)).2.2.2.2.2.2.1,(At (p9 y lo w x)).2.2.2.2.2.2.2.1,(At (p9 y lo w x)).2.2.2.2.2.2.2.2.1,(At (p9 y lo w x)).2.2.2.2.2.2.2.2.2.1,(At (p9 y lo w x)).2.2.2.2.2.2.2.2.2.2.1,(At (p9 y lo w x)).2.2.2.2.2.2.2.2.2.2.2.1,(At (p9 y lo w x)).2.2.2.2.2.2.2.2.2.2.2.2.1,(At (p9 y lo w x)).2.2.2.2.2.2.2.2.2.2.2.2.2.1,(At (p9 y lo w x)).2.2.2.2.2.2.2.2.2.2.2.2.2.2.1,(d++List.replicate (x::r).length ((false,0,0):den tC)).set (j:Int).toNat (true,(w.1.length:Int),vcs w.1),c,(c.length:Int),cf .i64 (j:Int) 1,()))))else none)else none:=hq
   rw[hlen,BR (show j<j+(r.length+1) by omega),show k62 (p9 y lo w x)=true from ZR.1,Int.toNat_natCast,hmk,kA (by omega),show At (p9 y lo w x)=_ from ZR.2]at hq2
   simp only[cond_true]at hq2
   have hp:qv y lo w (x::r)=bif (fG y lo w x).2.2 then none else(qv y lo (fG y lo w x) r).map (Ul w:: ·):=rfl
   rw[hp]
   cases hb:(fG y lo w x).2.2 with
   |true=>
    rw[hb]at hq2
    exact .last hq2
   |false=>
    rw[hb]at hq2
    have ih:=GC ht I4 lo hc r (j+1) (fG y lo w x) (d++[Ul w]) er (by simp[hd]) (step hb)
    have em:Ul w=(true,(w.1.length:Int),vcs w.1):=by unfold Ul;rw[hL];rfl
    rw[em]at ih
    rw[em]
    simp only[cond_false]
    have eo:oT d ((qv y lo (fG y lo w x) r).map ((true,(w.1.length:Int),vcs w.1):: ·))=oT (d++[(true,(w.1.length:Int),vcs w.1)]) (qv y lo (fG y lo w x) r):=by
     cases qv y lo (fG y lo w x) r with
     |none=>rfl
     |some l=>show((0:Nat),aA gg (d++_::l,()))=(0,aA gg ((d++[_])++l,()));simp
    rw[eo]
    refine .more (pl':=aA ik (V5 y lo (fG y lo w x) ((d++[(true,(w.1.length:Int),vcs w.1)])++List.replicate r.length (false,0,0)) c (c.length:Int) ((j+1:Nat):Int))) ?_ ih
    refine hq2.trans ?_
    show some _=some _
    rw[<-hb]
  |false=>
   rw[hL,show k62 (p9 y lo w x)=true from ZR.1]at hq
   simp only[cond_false,cond_true]at hq
   rw[kA (by omega),aeu]at hq
   have hp:qv y lo w (x::r)=bif (fG y lo w x).2.2 then none else(qv y lo (fG y lo w x) r).map (Ul w:: ·):=rfl
   rw[hp]
   have em:Ul w=(false,0,0):=by unfold Ul;rw[hL];rfl
   rw[aeu]
   cases hb:(fG y lo w x).2.2 with
   |true=>
    rw[hb]at hq
    exact .last hq
   |false=>
    rw[hb]at hq
    have ih:=GC ht I4 lo hc r (j+1) (fG y lo w x) (d++[Ul w]) er (by simp[hd]) (step hb)
    rw[em]at ih
    rw[em]
    simp only[cond_false]
    have eo:oT d ((qv y lo (fG y lo w x) r).map ((false,0,0):: ·))=oT (d++[(false,0,0)]) (qv y lo (fG y lo w x) r):=by
     cases qv y lo (fG y lo w x) r with
     |none=>rfl
     |some l=>show((0:Nat),aA gg (d++_::l,()))=(0,aA gg ((d++[_])++l,()));simp
    rw[eo]
    refine .more (pl':=aA ik (V5 y lo (fG y lo w x) ((d++[(false,0,0)])++List.replicate r.length (false,0,0)) c (c.length:Int) ((j+1:Nat):Int))) ?_ ih
    refine hq.trans ?_
    show some _=some _
    rw[<-hb]
end Go.Proofs.Vd

noncomputable section
namespace Go.Proofs.Vd
open Go.Ab Go.Ab.Lf
set_option maxRecDepth 100000
theorem Bu{a b:Nat}(h:a+b<4611686018427387904):cf .i64 (a:Int) (b:Int)=((a+b:Nat):Int):=JI h
def oW(l:List (List Int)):Nat:=l.foldr (fun x n=>x.length+n) 0
theorem JT(l:List (List Int)): ∀ (s:List Int),l.foldl (fun s x=>s++x) s=s++l.flatten:=by
 induction l with
 |nil=>intro s;simp
 |cons x l ih=>intro s;show l.foldl _ (s++x)=_;rw[ih];simp
theorem JU(l:List (List Int)): ∀ (s:Nat),l.foldl (fun s x=>s+x.length) s=s+oW l:=by
 induction l with
 |nil=>intro s;rfl
 |cons x l ih=>intro s;show l.foldl _ (s+x.length)=s+(x.length+oW l);rw[ih];omega
theorem aad(c:List (List Int))(hc:c.length+oW c<=1073741824):gQ Gq (aA uR (c,((0:Nat):Int),c,(c.length:Int),((0:Nat):Int),())) 0 (aA lZ (c,(oW c:Int),())):=by
 have r0:=JE (f:=Gq) (l:=c) (fun(s:Nat) j=>aA uR (c,(s:Int),c,(c.length:Int),(j:Int),())) (fun s x=>.inl (s+x.length)) (fun s=>(0,aA lZ (c,(s:Int),()))) (fun s r=>s+oW r<=1073741824) (fun s j x r e hi=>by
  obtain⟨e1,e2⟩:=dn e (ao (.ae i64))
  have e2:c.getD j (ao (.ae i64))=x:=e2
  have Xa:s+(x.length+oW r)<=1073741824:=hi
  have AR:decide (((s+x.length:Nat):Int)<0)=false:=decide_eq_false (by omega)
  have hq:cf .i64 (s:Int) (x.length:Int)=((s+x.length:Nat):Int):=Bu (by omega)
  refine⟨?_,fun s' e=>by cases e;exact(by omega:s+x.length+oW r<=1073741824)⟩
  rw[V3 c c (s:Int) (c.length:Int) (j:Int) ((s+x.length:Nat):Int) (by rw[Int.toNat_natCast,e2];exact hq.symm),dY e1,cond_true,BR e1,AR,kA (by omega)]
  rfl) (fun s j e hj _=>by
  have:j=c.length:=by have:=List.drop_eq_nil_iff.1 e;omega
  subst this
  rw[V3 c c (s:Int) (c.length:Int) (c.length:Int) _ rfl,dj (Nat.le_refl _)]
  rfl) c 0 0 rfl (by omega) (by omega)
 rw[fM,JU,Nat.zero_add]at r0
 exact r0
theorem aae(c:List (List Int))(hc:c.length+oW c<=1073741824):gQ D2 (aA sw ([],c,(c.length:Int),((0:Nat):Int),())) 0 (aA l8 (c.flatten,())):=by
 have r2:=JE (f:=D2) (l:=c) (fun(s:List Int) j=>aA sw (s,c,(c.length:Int),(j:Int),())) (fun s x=>.inl (s++x)) (fun s=>(0,aA l8 (s,()))) (fun s r=>s.length+oW r<=1073741824) (fun s j x r e hi=>by
  obtain⟨e1,e2⟩:=dn e (ao (.ae i64))
  have e2:c.getD j (ao (.ae i64))=x:=e2
  have Xa:s.length+(x.length+oW r)<=1073741824:=hi
  refine⟨?_,fun s' e=>by cases e;rw[List.length_append];omega⟩
  rw[V4 s c (c.length:Int) (j:Int) x (by rw[Int.toNat_natCast];exact e2.symm),dY e1,cond_true,BR e1,bP (by omega) (by omega),bp,kA (by omega)]
  rfl) (fun s j e hj _=>by
  have:j=c.length:=by have:=List.drop_eq_nil_iff.1 e;omega
  subst this
  rw[V4 s c (c.length:Int) (c.length:Int) _ rfl,dj (Nat.le_refl _)]
  rfl) c 0 [] rfl (by omega) (by simp;omega)
 rw[fM,JT,List.nil_append]at r2
 exact r2
theorem aev(c:List (List Int))(hc:c.length+oW c<=1073741824):(t59 (c,())).val=some (aA Gr (c.flatten,())):=by
 have v0:=jN (aad c hc)
 have v2:=jN (aae c hc)
 have hw:bO .i64 (oW c:Int) 0=(oW c:Int):=by
  show eZ .i64 ((oW c:Int) - 0)=_
  rw[wrap_i64 (by omega) (by omega)]
  omega
 have AR:decide ((oW c:Int)<0)=false:=decide_eq_false (by omega)
 have c1:roomy 8 (0+(List.replicate (oW c:Int).toNat (0:Int)).length)=true:=bP (by omega) (by rw[List.length_replicate,Int.toNat_natCast];omega)
 have c2:eL 0 0 ((app [] (List.replicate (oW c:Int).toNat (0:Int))).length:Int)=true:=BS (j:=0) (Nat.zero_le _)
 have a1:oB Gq uR lZ (c,0,c,(c.length:Int),0,())=true:=v0.1
 have a3:oB D2 sw l8 ([],c,(c.length:Int),0,())=true:=v2.1
 have a4:gH D2 sw l8 ([],c,(c.length:Int),0,())=(c.flatten,()):=v2.2
 rw[ajA c (c,(oW c:Int),()) v0.2.symm,a1]
 dsimp only
 rw[a3,a4,AR,hw]
 generalize aA Gr (c.flatten,())=R
 have c3:decide ((0:Int)<=(oW c:Int))=true:=decide_eq_true (by omega)
 rw[c1,c2,c3]
 cases decide ((0:Int)<(oW c:Int))<;>rfl
def Ea(y:ak tM)(k:Int):den aI:=ca y.1 (dP y.2.1 y.2.2.1 k)
def iq(y:ak tM)(i:Nat):den aK:=y.2.2.2.2.2.2.2.2.2.1.getD i (ao aK)
def Ql(y:ak tM)(i:Nat):List Int:=(Ea y ((y.2.1.length+i:Nat):Int)).1++(iq y i).1
def OH(y:ak tM)(i:Nat):W3:=([],ff [] [] 2 [] (Ea y ((y.2.1.length+i:Nat):Int)).2,false)
def kF(y:ak tM)(i:Nat):Option (List (den tC)):=qv y (Ql y i) (OH y i) (iq y i).2
theorem ajI{y:ak tM}(ht:zF y)(i:Nat):Inv 0 1 (OH y i):=by
 have hs:=(mU ht (dP y.2.1 y.2.2.1 ((y.2.1.length+i:Nat):Int))).2
 have e:(OH y i).2.1=[(2,0,[],(Ea y ((y.2.1.length+i:Nat):Int)).2,false,true)]:=rfl
 refine⟨by rw[e];simp,by rw[e];exact List.pairwise_singleton _ _,fun b hb=>?_,fun b hb=>?_,Nat.le_refl _,by rw[e];simp⟩
 ·rw[e]at hb
  have:b=(2,0,[],(Ea y ((y.2.1.length+i:Nat):Int)).2,false,true):=by simpa using hb
  rw[this]
  exact⟨Int.le_refl _,Int.le_refl _⟩
 ·rw[e]at hb
  have:b=(2,0,[],(Ea y ((y.2.1.length+i:Nat):Int)).2,false,true):=by simpa using hb
  rw[this]
  exact⟨Nat.zero_le _,hs⟩
structure I2(C:den aK):Prop where
 b:BOk C.2
 c:Um [] C.2
 l:List.length C.1<=512
theorem aew{y:ak tM}(ht:zF y)(I4:y.2.1.length<=1048576){i:Nat}(hi:i<y.2.2.2.2.2.2.2.2.2.1.length)(Kj:i<=1048576)(hC:I2 (iq y i)):
 (t20 (y.1,y.2.1,y.2.2.1,y.2.2.2.1,y.2.2.2.2.1,y.2.2.2.2.2.1,y.2.2.2.2.2.2.1,y.2.2.2.2.2.2.2.1,y.2.2.2.2.2.2.2.2.1,y.2.2.2.2.2.2.2.2.2.1,y.2.2.2.2.2.2.2.2.2.2.1,(i:Int),())).val=some (aA BP ((kF y i).getD [],(kF y i).isSome,())):=by
 have hk:cf .i64 (y.2.1.length:Int) (i:Int)=((y.2.1.length+i:Nat):Int):=Bu (by omega)
 have hs:=(mU ht (dP y.2.1 y.2.2.1 ((y.2.1.length+i:Nat):Int))).1
 have hl:=hC.l
 have hn:=hC.b.n
 have s59:=jF (aev [(Ea y ((y.2.1.length+i:Nat):Int)).1,(iq y i).1] (by
  show 2+((ca y.1 (dP y.2.1 y.2.2.1 ((y.2.1.length+i:Nat):Int))).1.length+((iq y i).1.length+0))<=_
  omega))
 have e59:(m59 ([(Ea y ((y.2.1.length+i:Nat):Int)).1,(iq y i).1],())).1=Ql y i:=by
  rw[show m59 ([(Ea y ((y.2.1.length+i:Nat):Int)).1,(iq y i).1],())=_ from s59.2]
  unfold Ql
  simp
 have hlen:(OH y i).2.1.length=([]:List Int).length+1:=rfl
 have r:=GC ht (by omega) (Ql y i) hC.b (iq y i).2 0 (OH y i) [] rfl rfl (.inr ⟨(ajI ht i).le (Nat.le_refl _) (Nat.le_refl _),[],hC.c,hlen⟩)
 rw[ajB y (D9 ht) (i:Int) _ hk.symm _ rfl (iq y i) (by rw[Int.toNat_natCast];rfl) (Ql y i) e59.symm (OH y i) rfl _ rfl,BR hi]
 have c1:(decide (((y.2.1.length+i:Nat):Int)<9223372036854775808)&&decide (y.2.1.length<=1099511627776))=true:=by
  rw[decide_eq_true (by omega),decide_eq_true (by omega)];rfl
 have c2:((decide (0<=((iq y i).2.length:Int))&&decide (((iq y i).2.length:Int)<=((iq y i).2.length:Int)))&&decide (((iq y i).2.length:Int).toNat*24<=70368744177664))=true:=by
  rw[decide_eq_true (by omega),decide_eq_true (by omega),decide_eq_true (by rw[Int.toNat_natCast];omega)];rfl
 rw[c1,c2,show k59 ([(ca y.1 (dP y.2.1 y.2.2.1 ((y.2.1.length+i:Nat):Int))).1,(iq y i).1],())=true from s59.1,decide_eq_true (show y.2.2.2.2.2.2.2.1=y.2.2.2.2.2.2.2.1 from rfl)]
 simp only[aS,cond_true]
 have c3:decide (([]:List (den cw)).length+1<=549755813888)=true:=decide_eq_true (by simp)
 rw[c3,cond_true]
 have hp:kF y i=qv y (Ql y i) (OH y i) (iq y i).2:=rfl
 rw[hp]
 have r:gQ s7 (aA ik (V5 y (Ql y i) (OH y i) (List.replicate (iq y i).2.length (false,0,0)) (iq y i).2 ((iq y i).2.length:Int) 0)) (oT [] (qv y (Ql y i) (OH y i) (iq y i).2)).1 (oT [] (qv y (Ql y i) (OH y i) (iq y i).2)).2:=r
 cases hq:qv y (Ql y i) (OH y i) (iq y i).2 with
 |none=>
  rw[hq]at r
  have v:=Bz (t0:=gg) (t1:=il) (y:=([],false,())) r
  rw[v.1,v.2.1,v.2.2]
  rfl
 |some l=>
  rw[hq]at r
  have v:=sW (t0:=gg) (t1:=il) (y:=(l,())) r
  rw[v.1,v.2.1,v.2.2]
  rfl
end Go.Proofs.Vd

noncomputable section
namespace Go.Proofs.Vd
open Go.Ab Go.Ab.Lf
set_option maxRecDepth 100000
theorem V9(fn:Int)(y:ak tM)(E:List (den aD))(n1 i1:Int)(L:List Int)(n i:Int):(Gu (aA ra (fn,y.1,y.2.1,y.2.2.1,y.2.2.2.1,y.2.2.2.2.1,y.2.2.2.2.2.1,y.2.2.2.2.2.2.1,y.2.2.2.2.2.2.2.1,y.2.2.2.2.2.2.2.2.1,y.2.2.2.2.2.2.2.2.2.1,y.2.2.2.2.2.2.2.2.2.2.1,E,n1,i1,L,n,i,()))).val=
 bif decide (i<n)then aS (bg i (L.length:Int)) (bif decide (fn<=L.getD i.toNat (ao i64))then some (Rs.out 1 (aA rI (false,())))else some (Rs.next (aA ra (fn,y.1,y.2.1,y.2.2.1,y.2.2.2.1,y.2.2.2.2.1,y.2.2.2.2.2.1,y.2.2.2.2.2.2.1,y.2.2.2.2.2.2.2.1,y.2.2.2.2.2.2.2.2.1,y.2.2.2.2.2.2.2.2.2.1,y.2.2.2.2.2.2.2.2.2.2.1,E,n1,i1,L,n,cf .i64 i 1,()))))else some (Rs.out 0 (aA pX (fn,y.1,y.2.1,y.2.2.1,y.2.2.2.1,y.2.2.2.2.1,y.2.2.2.2.2.1,y.2.2.2.2.2.2.1,y.2.2.2.2.2.2.2.1,y.2.2.2.2.2.2.2.2.1,y.2.2.2.2.2.2.2.2.2.1,y.2.2.2.2.2.2.2.2.2.2.1,E,n1,i1,()))):=by kernel_rfl
theorem V'(fn:Int)(y:ak tM)(E:List (den aD))(n i:Int)(x:den aD)(hx:x=E.getD i.toNat (ao aD))(a:ak ra)(ha:a=(fn,y.1,y.2.1,y.2.2.1,y.2.2.2.1,y.2.2.2.2.1,y.2.2.2.2.2.1,y.2.2.2.2.2.2.1,y.2.2.2.2.2.2.2.1,y.2.2.2.2.2.2.2.2.1,y.2.2.2.2.2.2.2.2.2.1,y.2.2.2.2.2.2.2.2.2.2.1,E,n,i,x.2,(x.2.length:Int),0,()))(z:ak pX)(hz:z=gH Gu ra pX a):(Gv (aA ql (fn,y.1,y.2.1,y.2.2.1,y.2.2.2.1,y.2.2.2.2.1,y.2.2.2.2.2.1,y.2.2.2.2.2.2.1,y.2.2.2.2.2.2.2.1,y.2.2.2.2.2.2.2.2.1,y.2.2.2.2.2.2.2.2.2.1,y.2.2.2.2.2.2.2.2.2.2.1,E,n,i,()))).val=
 bif decide (i<n)then aS (bg i (E.length:Int)) (let F:=some (Rs.out 1 (aA nB (false,())))
  bif decide ((y.2.2.2.1.length:Int)=0)then F else bif !uM x.1 127 then F else
  aS (rG Gu ra pX rI a) (bif qw Gu ra a then some (Rs.next (aA ql (z.1,z.2.1,z.2.2.1,z.2.2.2.1,z.2.2.2.2.1,z.2.2.2.2.2.1,z.2.2.2.2.2.2.1,z.2.2.2.2.2.2.2.1,z.2.2.2.2.2.2.2.2.1,z.2.2.2.2.2.2.2.2.2.1,z.2.2.2.2.2.2.2.2.2.2.1,z.2.2.2.2.2.2.2.2.2.2.2.1,z.2.2.2.2.2.2.2.2.2.2.2.2.1,z.2.2.2.2.2.2.2.2.2.2.2.2.2.1,cf .i64 z.2.2.2.2.2.2.2.2.2.2.2.2.2.2.1 1,())))else some (Rs.out 1 (aA nB ((gH Gu ra rI a).1,())))))else some (Rs.out 0 (aA nA (y.1,y.2.1,y.2.2.1,y.2.2.2.1,y.2.2.2.2.1,y.2.2.2.2.2.1,y.2.2.2.2.2.2.1,y.2.2.2.2.2.2.2.1,y.2.2.2.2.2.2.2.2.1,y.2.2.2.2.2.2.2.2.2.1,y.2.2.2.2.2.2.2.2.2.2.1,()))):=by
 subst hz;subst ha;subst hx
 kernel_rfl
theorem Wa(y:ak tM)(D:List (den aH))(n i:Int)(x:den aH)(hx:x=D.getD i.toNat (ao aH)):(JQ (aA sA (y.1,y.2.1,y.2.2.1,y.2.2.2.1,y.2.2.2.2.1,y.2.2.2.2.2.1,y.2.2.2.2.2.2.1,y.2.2.2.2.2.2.2.1,y.2.2.2.2.2.2.2.2.1,y.2.2.2.2.2.2.2.2.2.1,y.2.2.2.2.2.2.2.2.2.2.1,D,n,i,()))).val=
 bif decide (i<n)then aS (bg i (D.length:Int)) (let F:=some (Rs.out 1 (aA pY (false,())))
  bif decide ((y.2.2.2.2.1.length:Int)=0)then F else bif !uM x.1 127 then F else some (Rs.next (aA sA (y.1,y.2.1,y.2.2.1,y.2.2.2.1,y.2.2.2.2.1,y.2.2.2.2.2.1,y.2.2.2.2.2.2.1,y.2.2.2.2.2.2.2.1,y.2.2.2.2.2.2.2.2.1,y.2.2.2.2.2.2.2.2.2.1,y.2.2.2.2.2.2.2.2.2.2.1,D,n,cf .i64 i 1,()))))else some (Rs.out 0 (aA rJ ())):=by
 subst hx
 kernel_rfl
theorem aex(y:ak tM)(fn:Int)(a:ak ql)(ha:a=(fn,y.1,y.2.1,y.2.2.1,y.2.2.2.1,y.2.2.2.2.1,y.2.2.2.2.2.1,y.2.2.2.2.2.2.1,y.2.2.2.2.2.2.2.1,y.2.2.2.2.2.2.2.2.1,y.2.2.2.2.2.2.2.2.2.1,y.2.2.2.2.2.2.2.2.2.2.1,y.2.2.2.2.2.2.2.2.1,(y.2.2.2.2.2.2.2.2.1.length:Int),0,()))(z:ak nA)(hz:z=gH Gv ql nA a)(b:ak sA)(hb:b=(z.1,z.2.1,z.2.2.1,z.2.2.2.1,z.2.2.2.2.1,z.2.2.2.2.2.1,z.2.2.2.2.2.2.1,z.2.2.2.2.2.2.2.1,z.2.2.2.2.2.2.2.2.1,z.2.2.2.2.2.2.2.2.2.1,z.2.2.2.2.2.2.2.2.2.2.1,z.2.2.2.2.2.2.2.2.2.2.1,(z.2.2.2.2.2.2.2.2.2.2.1.length:Int),0,())):(t58 (y.1,y.2.1,y.2.2.1,y.2.2.2.1,y.2.2.2.2.1,y.2.2.2.2.2.1,y.2.2.2.2.2.2.1,y.2.2.2.2.2.2.2.1,y.2.2.2.2.2.2.2.2.1,y.2.2.2.2.2.2.2.2.2.1,y.2.2.2.2.2.2.2.2.2.2.1,fn,())).val=
 aS (rG Gv ql nA nB a) (bif qw Gv ql a then aS (rG JQ sA rJ pY b) (bif qw JQ sA b then some (aA D4 (true,()))else some (aA D4 ((gH JQ sA pY b).1,())))else some (aA D4 ((gH Gv ql nB a).1,()))):=by
 subst hb;subst hz;subst ha
 kernel_rfl
theorem Wb(a c:List (List (den aj)))(sz n i:Int)(q:Int)(hq:q=cf .i64 sz ((c.getD i.toNat (ao (.ae aj)):List (den aj)).length:Int)):(Gs (aA uS (a,sz,c,n,i,()))).val=
 bif decide (i<n)then aS (bg i (c.length:Int)) (bif decide (q<0)then none else some (Rs.next (aA uS (a,q,c,n,cf .i64 i 1,()))))else some (Rs.out 0 (aA mb (a,sz,()))):=by
 subst hq
 kernel_rfl
theorem Wc(o:List (den aj))(c:List (List (den aj)))(n i:Int)(x:List (den aj))(hx:x=c.getD i.toNat (ao (.ae aj))):(D3 (aA sx (o,c,n,i,()))).val=
 bif decide (i<n)then aS (bg i (c.length:Int)) (aS (roomy 16 (o.length+x.length)) (some (Rs.next (aA sx (app o x,c,n,cf .i64 i 1,())))))else some (Rs.out 0 (aA mc (o,()))):=by
 subst hx
 kernel_rfl
theorem ajJ(c:List (List (den aj)))(z:ak mb)(hz:z=gH Gs uS mb (c,0,c,(c.length:Int),0,())):(t55 (c,())).val=
 aS (oB Gs uS mb (c,0,c,(c.length:Int),0,())) (
  let fin:=aS (oB D3 sx mc ([],z.1,(z.1.length:Int),0,())) (some (aA Gt (gH D3 sx mc ([],z.1,(z.1.length:Int),0,()))))
  bif decide (z.2.1<0)then none else bif decide (0<bO .i64 z.2.1 0)then aS (decide (0<=bO .i64 z.2.1 0)) (aS (roomy 16 (0+(List.replicate (bO .i64 z.2.1 0).toNat ((0,0):den aj)).length)) (aS (eL 0 0 ((app [] (List.replicate (bO .i64 z.2.1 0).toNat ((0,0):den aj))).length:Int)) fin))else fin):=by
 subst hz
 kernel_rfl
theorem aaf(gt:Bool)(fn:Int)(y:ak tM)(hgt:gt=gT y.1)(n i:Int):(D5 (aA oS (fn,y.1,y.2.1,y.2.2.1,y.2.2.2.1,y.2.2.2.2.1,y.2.2.2.2.2.1,y.2.2.2.2.2.2.1,y.2.2.2.2.2.2.2.1,y.2.2.2.2.2.2.2.2.1,y.2.2.2.2.2.2.2.2.2.1,y.2.2.2.2.2.2.2.2.2.2.1,n,i,()))).val=
 bif decide (i<n)then aS (gt&&(decide (i<9223372036854775808)&&decide (y.2.1.length<=1099511627776))) (bif !dN y.1 (dP y.2.1 y.2.2.1 i)then some (Rs.out 1 (aA nC (false,())))else some (Rs.next (aA oS (fn,y.1,y.2.1,y.2.2.1,y.2.2.2.1,y.2.2.2.2.1,y.2.2.2.2.2.1,y.2.2.2.2.2.2.1,y.2.2.2.2.2.2.2.1,y.2.2.2.2.2.2.2.2.1,y.2.2.2.2.2.2.2.2.2.1,y.2.2.2.2.2.2.2.2.2.2.1,n,cf .i64 i 1,()))))else some (Rs.out 0 (aA mg (fn,y.1,y.2.1,y.2.2.1,y.2.2.2.1,y.2.2.2.2.1,y.2.2.2.2.2.1,y.2.2.2.2.2.2.1,y.2.2.2.2.2.2.2.1,y.2.2.2.2.2.2.2.2.1,y.2.2.2.2.2.2.2.2.2.1,y.2.2.2.2.2.2.2.2.2.2.1,()))):=by
 subst hgt
 kernel_rfl
theorem Wd(fn:Int)(y:ak tM)(hT:gT y.1=true)(n i:Int):(D5 (aA oS (fn,y.1,y.2.1,y.2.2.1,y.2.2.2.1,y.2.2.2.2.1,y.2.2.2.2.2.1,y.2.2.2.2.2.2.1,y.2.2.2.2.2.2.2.1,y.2.2.2.2.2.2.2.2.1,y.2.2.2.2.2.2.2.2.2.1,y.2.2.2.2.2.2.2.2.2.2.1,n,i,()))).val=
 bif decide (i<n)then aS (decide (i<9223372036854775808)&&decide (y.2.1.length<=1099511627776)) (bif !dN y.1 (dP y.2.1 y.2.2.1 i)then some (Rs.out 1 (aA nC (false,())))else some (Rs.next (aA oS (fn,y.1,y.2.1,y.2.2.1,y.2.2.2.1,y.2.2.2.2.1,y.2.2.2.2.2.1,y.2.2.2.2.2.2.1,y.2.2.2.2.2.2.2.1,y.2.2.2.2.2.2.2.2.1,y.2.2.2.2.2.2.2.2.2.1,y.2.2.2.2.2.2.2.2.2.2.1,n,cf .i64 i 1,()))))else some (Rs.out 0 (aA mg (fn,y.1,y.2.1,y.2.2.1,y.2.2.2.1,y.2.2.2.2.1,y.2.2.2.2.2.1,y.2.2.2.2.2.2.1,y.2.2.2.2.2.2.2.1,y.2.2.2.2.2.2.2.2.1,y.2.2.2.2.2.2.2.2.2.1,y.2.2.2.2.2.2.2.2.2.2.1,()))):=by
 refine Eq.trans (aaf true fn y hT.symm n i) ?_
 kernel_rfl
theorem We(fn:Int)(y:ak tM)(L:List (den aj))(n i:Int)(x:den aj)(hx:x=L.getD i.toNat (ao aj)):(Gw (aA rb (fn,y.1,y.2.1,y.2.2.1,y.2.2.2.1,y.2.2.2.2.1,y.2.2.2.2.2.1,y.2.2.2.2.2.2.1,y.2.2.2.2.2.2.2.1,y.2.2.2.2.2.2.2.2.1,y.2.2.2.2.2.2.2.2.2.1,y.2.2.2.2.2.2.2.2.2.2.1,L,n,i,()))).val=
 bif decide (i<n)then aS (bg i (L.length:Int)) (bif (bif !decide (x.2= -1)then decide (x.2<x.1)else false)then some (Rs.out 1 (aA pZ (false,())))else some (Rs.next (aA rb (fn,y.1,y.2.1,y.2.2.1,y.2.2.2.1,y.2.2.2.2.1,y.2.2.2.2.2.1,y.2.2.2.2.2.2.1,y.2.2.2.2.2.2.2.1,y.2.2.2.2.2.2.2.2.1,y.2.2.2.2.2.2.2.2.2.1,y.2.2.2.2.2.2.2.2.2.2.1,L,n,cf .i64 i 1,()))))else some (Rs.out 0 (aA nD (fn,y.1,y.2.1,y.2.2.1,y.2.2.2.1,y.2.2.2.2.1,y.2.2.2.2.2.1,y.2.2.2.2.2.2.1,y.2.2.2.2.2.2.2.1,y.2.2.2.2.2.2.2.2.1,y.2.2.2.2.2.2.2.2.2.1,y.2.2.2.2.2.2.2.2.2.2.1,()))):=by
 subst hx
 kernel_rfl
theorem Wf(fn:Int)(y:ak tM)(L:List (den aC))(n i:Int)(x:den aC)(hx:x=L.getD i.toNat (ao aC)):(Gx (aA rh (fn,y.1,y.2.1,y.2.2.1,y.2.2.2.1,y.2.2.2.2.1,y.2.2.2.2.2.1,y.2.2.2.2.2.2.1,y.2.2.2.2.2.2.2.1,y.2.2.2.2.2.2.2.2.1,y.2.2.2.2.2.2.2.2.2.1,y.2.2.2.2.2.2.2.2.2.2.1,L,n,i,()))).val=
 bif decide (i<n)then aS (bg i (L.length:Int)) (bif !uM x.2.2 x.1 then some (Rs.out 1 (aA p8 (false,())))else some (Rs.next (aA rh (fn,y.1,y.2.1,y.2.2.1,y.2.2.2.1,y.2.2.2.2.1,y.2.2.2.2.2.1,y.2.2.2.2.2.2.1,y.2.2.2.2.2.2.2.1,y.2.2.2.2.2.2.2.2.1,y.2.2.2.2.2.2.2.2.2.1,y.2.2.2.2.2.2.2.2.2.2.1,L,n,cf .i64 i 1,()))))else some (Rs.out 0 (aA nE (fn,y.1,y.2.1,y.2.2.1,y.2.2.2.1,y.2.2.2.2.1,y.2.2.2.2.2.1,y.2.2.2.2.2.2.1,y.2.2.2.2.2.2.2.1,y.2.2.2.2.2.2.2.2.1,y.2.2.2.2.2.2.2.2.2.1,y.2.2.2.2.2.2.2.2.2.2.1,()))):=by
 subst hx
 kernel_rfl
end Go.Proofs.Vd

noncomputable section
namespace Go.Proofs.Vd
open Go.Ab Go.Ab.Lf
set_option maxRecDepth 100000
theorem Ur(y:ak tM)(fn:Int)(hf:cf .i64 (y.2.1.length:Int) (y.2.2.1.length:Int)=fn)(a:ak oS)(ha:a=(fn,y.1,y.2.1,y.2.2.1,y.2.2.2.1,y.2.2.2.2.1,y.2.2.2.2.2.1,y.2.2.2.2.2.2.1,y.2.2.2.2.2.2.2.1,y.2.2.2.2.2.2.2.2.1,y.2.2.2.2.2.2.2.2.2.1,y.2.2.2.2.2.2.2.2.2.2.1,fn,0,()))(z:ak mg)(hz:z=gH D5 oS mg a)
 (L:List (den aj))(hL:L=(m55 ([z.2.2.2.2.1,z.2.2.2.2.2.1],())).1)(b:ak rb)(hb:b=(z.1,z.2.1,z.2.2.1,z.2.2.2.1,z.2.2.2.2.1,z.2.2.2.2.2.1,z.2.2.2.2.2.2.1,z.2.2.2.2.2.2.2.1,z.2.2.2.2.2.2.2.2.1,z.2.2.2.2.2.2.2.2.2.1,z.2.2.2.2.2.2.2.2.2.2.1,z.2.2.2.2.2.2.2.2.2.2.2.1,L,(L.length:Int),0,()))(u:ak nD)(hu:u=gH Gw rb nD b)
 (c:ak rh)(hc:c=(u.1,u.2.1,u.2.2.1,u.2.2.2.1,u.2.2.2.2.1,u.2.2.2.2.2.1,u.2.2.2.2.2.2.1,u.2.2.2.2.2.2.2.1,u.2.2.2.2.2.2.2.2.1,u.2.2.2.2.2.2.2.2.2.1,u.2.2.2.2.2.2.2.2.2.2.1,u.2.2.2.2.2.2.2.2.2.2.2.1,u.2.2.2.2.2.2.1,(u.2.2.2.2.2.2.1.length:Int),0,()))(v:ak nE)(hv:v=gH Gx rh nE c):(t19 (y.1,y.2.1,y.2.2.1,y.2.2.2.1,y.2.2.2.2.1,y.2.2.2.2.2.1,y.2.2.2.2.2.2.1,y.2.2.2.2.2.2.2.1,y.2.2.2.2.2.2.2.2.1,y.2.2.2.2.2.2.2.2.2.1,y.2.2.2.2.2.2.2.2.2.2.1,())).val=
 aS (rG D5 oS mg nC a) (bif qw D5 oS a then(
  bif (bif decide (1<(z.2.2.2.2.1.length:Int))then true else decide (1<(z.2.2.2.2.2.1.length:Int)))then some (aA wE (false,()))else
  aS (k55 ([z.2.2.2.2.1,z.2.2.2.2.2.1],())) (aS (rG Gw rb nD pZ b) (bif qw Gw rb b then(
   aS (bif decide ((u.2.2.2.2.2.1.length:Int)=1)then bg 0 (u.2.2.2.2.2.1.length:Int)else true) (bif (bif decide ((u.2.2.2.2.2.1.length:Int)=1)then decide (65536<(u.2.2.2.2.2.1.getD 0 (ao aj)).2)else false)then some (aA wE (false,()))else
   aS (rG Gx rh nE p8 c) (bif qw Gx rh c then(
    aS (On (v.2.1,v.2.2.1,v.2.2.2.1,v.2.2.2.2.1,v.2.2.2.2.2.1,v.2.2.2.2.2.2.1,v.2.2.2.2.2.2.2.1,v.2.2.2.2.2.2.2.2.1,v.2.2.2.2.2.2.2.2.2.1,v.2.2.2.2.2.2.2.2.2.2.1,v.2.2.2.2.2.2.2.2.2.2.2.1,v.1,())) (bif mNm (v.2.1,v.2.2.1,v.2.2.2.1,v.2.2.2.2.1,v.2.2.2.2.2.1,v.2.2.2.2.2.2.1,v.2.2.2.2.2.2.2.1,v.2.2.2.2.2.2.2.2.1,v.2.2.2.2.2.2.2.2.2.1,v.2.2.2.2.2.2.2.2.2.2.1,v.2.2.2.2.2.2.2.2.2.2.2.1,v.1,())then aS (k58 (v.2.1,v.2.2.1,v.2.2.2.1,v.2.2.2.2.1,v.2.2.2.2.2.1,v.2.2.2.2.2.2.1,v.2.2.2.2.2.2.2.1,v.2.2.2.2.2.2.2.2.1,v.2.2.2.2.2.2.2.2.2.1,v.2.2.2.2.2.2.2.2.2.2.1,v.2.2.2.2.2.2.2.2.2.2.2.1,v.1,())) (some (aA wE ((m58 (v.2.1,v.2.2.1,v.2.2.2.1,v.2.2.2.2.1,v.2.2.2.2.2.1,v.2.2.2.2.2.2.1,v.2.2.2.2.2.2.2.1,v.2.2.2.2.2.2.2.2.1,v.2.2.2.2.2.2.2.2.2.1,v.2.2.2.2.2.2.2.2.2.2.1,v.2.2.2.2.2.2.2.2.2.2.2.1,v.1,())).1,())))else some (aA wE (false,()))))
   else some (aA wE ((gH Gx rh p8 c).1,())))))
  else some (aA wE ((gH Gw rb pZ b).1,())))))
 else some (aA wE ((gH D5 oS nC a).1,()))):=by
 subst hv;subst hc;subst hu;subst hb;subst hL;subst hz;subst ha;subst hf
 kernel_rfl
theorem aey(y:ak tM)(n i:Int):(f8x (aA BQ (y.1,y.2.1,y.2.2.1,y.2.2.2.1,y.2.2.2.2.1,y.2.2.2.2.2.1,y.2.2.2.2.2.2.1,y.2.2.2.2.2.2.2.1,y.2.2.2.2.2.2.2.2.1,y.2.2.2.2.2.2.2.2.2.1,y.2.2.2.2.2.2.2.2.2.2.1,n,i,()))).val=
 bif decide (i<n)then aS (k20 (y.1,y.2.1,y.2.2.1,y.2.2.2.1,y.2.2.2.2.1,y.2.2.2.2.2.1,y.2.2.2.2.2.2.1,y.2.2.2.2.2.2.2.1,y.2.2.2.2.2.2.2.2.1,y.2.2.2.2.2.2.2.2.2.1,y.2.2.2.2.2.2.2.2.2.2.1,i,())) (bif !(m20 (y.1,y.2.1,y.2.2.1,y.2.2.2.1,y.2.2.2.2.1,y.2.2.2.2.2.1,y.2.2.2.2.2.2.1,y.2.2.2.2.2.2.2.1,y.2.2.2.2.2.2.2.2.1,y.2.2.2.2.2.2.2.2.2.1,y.2.2.2.2.2.2.2.2.2.2.1,i,())).2.1 then some (Rs.out 1 (aA s9 (12,())))else some (Rs.next (aA BQ (y.1,y.2.1,y.2.2.1,y.2.2.2.1,y.2.2.2.2.1,y.2.2.2.2.2.1,y.2.2.2.2.2.2.1,y.2.2.2.2.2.2.2.1,y.2.2.2.2.2.2.2.2.1,y.2.2.2.2.2.2.2.2.2.1,y.2.2.2.2.2.2.2.2.2.2.1,n,cf .i64 i 1,()))))else some (Rs.out 0 (aA vF ())):=by kernel_rfl
theorem eq8(V:ByteArray->Bool)(y:ak tM):(t8 V (y.1,y.2.1,y.2.2.1,y.2.2.2.1,y.2.2.2.2.1,y.2.2.2.2.2.1,y.2.2.2.2.2.2.1,y.2.2.2.2.2.2.2.1,y.2.2.2.2.2.2.2.2.1,y.2.2.2.2.2.2.2.2.2.1,y.2.2.2.2.2.2.2.2.2.2.1,())).val=
 aS (Gh V (y.1,y.2.1,y.2.2.1,y.2.2.2.1,y.2.2.2.2.1,y.2.2.2.2.2.1,y.2.2.2.2.2.2.1,y.2.2.2.2.2.2.2.1,y.2.2.2.2.2.2.2.2.1,y.2.2.2.2.2.2.2.2.2.1,y.2.2.2.2.2.2.2.2.2.2.1,())) (bif !decide (ny V (y.1,y.2.1,y.2.2.1,y.2.2.2.1,y.2.2.2.2.1,y.2.2.2.2.2.1,y.2.2.2.2.2.2.1,y.2.2.2.2.2.2.2.1,y.2.2.2.2.2.2.2.2.1,y.2.2.2.2.2.2.2.2.2.1,y.2.2.2.2.2.2.2.2.2.2.1,())=0)then some (aA Ug (ny V (y.1,y.2.1,y.2.2.1,y.2.2.2.1,y.2.2.2.2.1,y.2.2.2.2.2.1,y.2.2.2.2.2.2.1,y.2.2.2.2.2.2.2.1,y.2.2.2.2.2.2.2.2.1,y.2.2.2.2.2.2.2.2.2.1,y.2.2.2.2.2.2.2.2.2.2.1,()),()))else aS (k19 (y.1,y.2.1,y.2.2.1,y.2.2.2.1,y.2.2.2.2.1,y.2.2.2.2.2.1,y.2.2.2.2.2.2.1,y.2.2.2.2.2.2.2.1,y.2.2.2.2.2.2.2.2.1,y.2.2.2.2.2.2.2.2.2.1,y.2.2.2.2.2.2.2.2.2.2.1,())) (bif !(m19 (y.1,y.2.1,y.2.2.1,y.2.2.2.1,y.2.2.2.2.1,y.2.2.2.2.2.1,y.2.2.2.2.2.2.1,y.2.2.2.2.2.2.2.1,y.2.2.2.2.2.2.2.2.1,y.2.2.2.2.2.2.2.2.2.1,y.2.2.2.2.2.2.2.2.2.2.1,())).1 then some (aA Ug (12,()))else
  aS (rG f8x BQ vF s9 (y.1,y.2.1,y.2.2.1,y.2.2.2.1,y.2.2.2.2.1,y.2.2.2.2.2.1,y.2.2.2.2.2.2.1,y.2.2.2.2.2.2.2.1,y.2.2.2.2.2.2.2.2.1,y.2.2.2.2.2.2.2.2.2.1,y.2.2.2.2.2.2.2.2.2.2.1,(y.2.2.2.2.2.2.2.2.2.1.length:Int),0,())) (bif qw f8x BQ (y.1,y.2.1,y.2.2.1,y.2.2.2.1,y.2.2.2.2.1,y.2.2.2.2.2.1,y.2.2.2.2.2.2.1,y.2.2.2.2.2.2.2.1,y.2.2.2.2.2.2.2.2.1,y.2.2.2.2.2.2.2.2.2.1,y.2.2.2.2.2.2.2.2.2.2.1,(y.2.2.2.2.2.2.2.2.2.1.length:Int),0,())then some (aA Ug (0,()))else some (aA Ug ((gH f8x BQ s9 (y.1,y.2.1,y.2.2.1,y.2.2.2.1,y.2.2.2.2.1,y.2.2.2.2.2.1,y.2.2.2.2.2.2.1,y.2.2.2.2.2.2.2.1,y.2.2.2.2.2.2.2.2.1,y.2.2.2.2.2.2.2.2.2.1,y.2.2.2.2.2.2.2.2.2.2.1,(y.2.2.2.2.2.2.2.2.2.1.length:Int),0,())).1,()))))):=by kernel_rfl
end Go.Proofs.Vd

noncomputable section
namespace Go.Proofs.Vd
open Go.Ab Go.Ab.Lf
set_option maxRecDepth 100000
abbrev zb(x:Int)(r:Bool):Bool:=bif decide (x=0)then r else false
theorem aag(o a b lo hi:Int)(l:List Int)(f:Int)(h:(DK (o,a,b,lo,hi,l,f,())).1=true):f=4∨l=[]:=by
 by_cases h4:f=4
 ·exact .inl h4
 ·refine .inr ?_
  have e:(je (Ps [pI,.n .i64]) [] (Ps [.bo]) (fun _=>none) Tryz.SP 3 (dH [] 3) (aA t87 (o,a,b,lo,hi,l,f,()))).val=
   (let R:=fun(x:Bool)=>some (aA [.bool] (x,()))
   bif (bif !decide (f=4)then decide (0<(l.length:Int))else false)then R false else
   bif decide (f=2)then R (zb b (zb lo (decide (hi=0))))else bif decide (f=3)then R (zb b (zb lo (decide (hi=0))))else bif decide (f=5)then R (zb b (zb lo (decide (hi=0))))else bif decide (f=4)then R (zb b (zb lo (decide (hi=0))))else bif decide (f=13)then R (zb b (zb lo (decide (hi=0))))else
   bif decide (f=6)then R (zb lo (decide (hi=0)))else bif decide (f=7)then R (zb lo (decide (hi=0)))else
   bif decide (f=8)then R (decide (hi=0))else
   bif decide (f=9)then R (zb a (zb b (decide (hi=0))))else bif decide (f=10)then R (zb a (zb b (decide (hi=0))))else
   bif decide (f=11)then R (zb a (zb b true))else bif decide (f=12)then R (zb a (zb b true))else R (zb a (zb b (zb lo (decide (hi=0)))))):=by kernel_rfl
  cases l with
  |nil=>rfl
  |cons x l=>
   exfalso
   have c:(bif !decide (f=4)then decide (0<((x::l).length:Int))else false)=true:=by
    rw[decide_eq_false h4]
    exact decide_eq_true (by simp only[List.length_cons];omega)
   dsimp only at e
   rw[c,cond_true]at e
   have:=(jF (to:=[.bool]) (y:=(false,())) e).2
   unfold DK at h
   rw[this]at h
   cases h
theorem bm{α:Type}{c:Bool}{x:Option α}{y:α}(h:aS c x=some y):c=true/\x=some y:=by
 unfold aS at h
 cases c with
 |true=>exact⟨rfl,h⟩
 |false=>cases h
theorem Us(l:List Int): ∀ (s:List Int) (k:Bool),(qZ (s,k) l).2=(k&&l.all lI)/\s.length+l.length<=(qZ (s,k) l).1.length:=by
 induction l with
 |nil=>intro s k;exact⟨by simp[qZ],by simp[qZ]⟩
 |cons x l ih=>
  intro s k
  obtain⟨h1,h2⟩:=ih (s++js (aV .u64 x)) (bif k then lI x else false)
  have e:qZ (s,k) (x::l)=qZ (s++js (aV .u64 x),bif k then lI x else false) l:=rfl
  have hp:1<=(js (aV .u64 x)).length:=by unfold js;simp
  rw[e]
  refine⟨?_,?_⟩
  ·rw[h1,List.all_cons]
   cases k<;>cases lI x<;>rfl
  ·rw[List.length_append]at h2
   simp only[List.length_cons]
   omega
theorem ri{n:Int}(h:lI n=true):0<=n/\n<4294967296:=by
 unfold lI at h
 rw[Bool.cond_false_right,Bool.and_eq_true,decide_eq_true_eq,decide_eq_true_eq]at h
 exact h
theorem Ut{p:List Int}{o a b lo hi:Int}{l B:List Int}(hp:1<=p.length)(h:uJ Prod.mk p o a b lo hi l=some (B,true)):
 (∀ f,f=(kC o).1->(f=3∨f=4∨f=5∨f=6)->0<=a/\a<4294967296)/\((kC o).1=4-> ∀ x,x∈l->(0:Int)<=x)/\1<=B.length/\((kC o).1=4->l.length<=B.length):=by
 unfold uJ at h
 dsimp only at h
 obtain⟨f,hf⟩: ∃ f:Int,(kC o).1=f:=⟨_,rfl⟩
 rw[hf]at h ⊢
 have no: ∀ (g:Int),g=f->(g=3∨g=4∨g=5∨g=6)-> ¬ (f=3∨f=4∨f=5∨f=6)->False:=fun g hg k c=>by subst hg;exact c k
 have Kz:f=4-> ¬ f=4->False:=fun k c=>c k
 have base: ∀ {u:List Int} {v:Bool},some (app p u,v)=some (B,true)->v=true/\1<=B.length:=by
  intro u v e
  cases e
  exact⟨rfl,by rw[bp,List.length_append];omega⟩
 by_cases f1:f=1
 ·rw[decide_eq_true f1]at h
  cases h
  exact⟨fun g hg k=>(no g hg k (by omega)).elim,fun k=>(Kz k (by omega)).elim,hp,fun k=>(Kz k (by omega)).elim⟩
 rw[decide_eq_false f1,cond_false]at h
 by_cases f2:f=2
 ·rw[decide_eq_true f2,cond_true]at h
  have hB:1<=B.length:=by
   have one: ∀ {u:List Int},aS (roomy 1 (p.length+1)) (some (app p u,true))=some (B,true)->1<=B.length:=fun e=>(base (bm e).2).2
   cases d1:decide (a= -64)with
   |true=>rw[d1]at h;exact(base (bm h).2).2
   |false=>
    rw[d1,cond_false]at h
    cases d2:decide (a= -1)with
    |true=>rw[d2]at h;exact(base (bm h).2).2
    |false=>
     rw[d2,cond_false]at h
     cases d3:decide (a= -2)with
     |true=>rw[d3]at h;exact(base (bm h).2).2
     |false=>
      rw[d3,cond_false]at h
      cases d4:decide (a= -5)with
      |true=>rw[d4]at h;exact(base (bm h).2).2
      |false=>
       rw[d4,cond_false]at h
       exact(base (bm (bm (bm (bm h).2).2).2).2).2
  exact⟨fun g hg k=>(no g hg k (by omega)).elim,fun k=>(Kz k (by omega)).elim,hB,fun k=>(Kz k (by omega)).elim⟩
 rw[decide_eq_false f2,cond_false]at h
 by_cases f3:f=3
 ·rw[decide_eq_true f3,cond_true]at h
  obtain⟨q1,q2⟩:=base (bm (bm h).2).2
  exact⟨fun g hg k=>ri q1,fun k=>(Kz k (by omega)).elim,q2,fun k=>(Kz k (by omega)).elim⟩
 rw[decide_eq_false f3,cond_false]at h
 by_cases f5:f=5
 ·rw[decide_eq_true f5,cond_true]at h
  obtain⟨q1,q2⟩:=base (bm (bm h).2).2
  exact⟨fun g hg k=>ri q1,fun k=>(Kz k (by omega)).elim,q2,fun k=>(Kz k (by omega)).elim⟩
 rw[decide_eq_false f5,cond_false]at h
 by_cases f4:f=4
 ·rw[decide_eq_true f4,cond_true]at h
  have h:=(bm (bm (bm (bm h).2).2).2).2
  obtain⟨t1,t2⟩:=Us l (app p (js (aV .u64 (Int.ofNat l.length)))) (Co o)
  cases ht:(qZ (app p (js (aV .u64 (Int.ofNat l.length))),Co o) l).2 with
  |false=>rw[ht]at h;cases h
  |true=>
   rw[ht,cond_true]at h
   have hB:(qZ (app p (js (aV .u64 (Int.ofNat l.length))),Co o) l).1.length<=B.length/\lI a=true:=by
    injection h with h
    have e1:app _ _=B:=congrArg Prod.fst h
    have e2:lI a=true:=congrArg Prod.snd h
    exact⟨by rw[<-e1];simp only[bp,List.length_append];omega,e2⟩
   rw[ht]at t1
   have t1:=t1.symm
   rw[Bool.and_eq_true,List.all_eq_true]at t1
   have WW:1<=(app p (js (aV .u64 (Int.ofNat l.length)))).length:=by rw[bp,List.length_append];omega
   exact⟨fun g hg k=>ri hB.2,fun k x hx=>(ri (t1.2 x hx)).1,by omega,fun _=>by omega⟩
 rw[decide_eq_false f4,cond_false]at h
 by_cases f6:f=6
 ·rw[decide_eq_true f6,cond_true]at h
  have h:=(bm (bm (bm (bm (bm (bm (bm h).2).2).2).2).2).2).2
  cases hn:lI a with
  |false=>rw[hn]at h;cases h
  |true=>
   rw[hn,cond_true]at h
   have hB:1<=B.length:=by
    injection h with h
    have e1:app (app p _) _=B:=congrArg Prod.fst h
    rw[<-e1]
    simp only[bp,List.length_append]
    omega
   exact⟨fun g hg k=>ri hn,fun k=>(Kz k (by omega)).elim,hB,fun k=>(Kz k (by omega)).elim⟩
 rw[decide_eq_false f6,cond_false]at h
 have hB:1<=B.length:=by
  by_cases f7:f=7
  ·rw[decide_eq_true f7,cond_true]at h
   have h:=(bm (bm (bm (bm (bm (bm (bm h).2).2).2).2).2).2).2
   cases hn:lI a with
   |false=>rw[hn]at h;cases h
   |true=>
    rw[hn,cond_true]at h
    injection h with h
    have e1:app (app p _) _=B:=congrArg Prod.fst h
    rw[<-e1]
    simp only[bp,List.length_append]
    omega
  rw[decide_eq_false f7,cond_false]at h
  by_cases f8:f=8
  ·rw[decide_eq_true f8,cond_true]at h
   have h:=(bm (bm (bm (bm (bm (bm h).2).2).2).2).2).2
   cases hn:lI a with
   |false=>rw[hn]at h;cases h
   |true=>
    rw[hn,cond_true]at h
    cases hm:lI b with
    |false=>rw[hm]at h;cases h
    |true=>
     rw[hm,cond_true]at h
     injection h with h
     have e1:app (app (app p _) _) _=B:=congrArg Prod.fst h
     rw[<-e1]
     simp only[bp,List.length_append]
     omega
  rw[decide_eq_false f8,cond_false]at h
  have h:=(bm h).2
  injection h with h
  have e1:p++_=B:=congrArg Prod.fst h
  rw[<-e1]
  rw[List.length_append]
  omega
 exact⟨fun g hg k=>(no g hg k (by omega)).elim,fun k=>(Kz k (by omega)).elim,hB,fun k=>(Kz k (by omega)).elim⟩
theorem OI{p:List Int}{o a b lo hi:Int}{l B:List Int}(h:uJ Prod.mk p o a b lo hi l=some (B,true))(f2:(kC o).1=2):BkA a:=by
 unfold uJ at h
 dsimp only at h
 rw[f2]at h
 have h:(bif decide (a= -64)then _ else bif decide (a= -1)then _ else bif decide (a= -2)then _ else bif decide (a= -5)then _ else aS _ (aS _ (aS _ (aS _ (some (app p (lU a),lI a))))))=some (B,true):=h
 by_cases e1:a= -64
 ·exact .inl e1
 by_cases e2:a= -1
 ·exact .inr (.inl e2)
 by_cases e3:a= -2
 ·exact .inr (.inr (.inl e3))
 by_cases e4:a= -5
 ·exact .inr (.inr (.inr (.inl e4)))
 rw[decide_eq_false e1,decide_eq_false e2,decide_eq_false e3,decide_eq_false e4]at h
 simp only[cond_false]at h
 have e:=(bm (bm (bm (bm h).2).2).2).2
 injection e with e
 have e:lI a=true:=congrArg Prod.snd e
 unfold lI at e
 by_cases e5:(0:Int)<=a
 ·exact .inr (.inr (.inr (.inr e5)))
 ·rw[decide_eq_false e5]at e
  cases e
theorem OJ{x:den tI}(hI:okI (mI x)=true)(h:(iK (mI x)).2=true):Co x.1=true/\((kC x.1).1=4∨x.2.2.2.2.2=[])/\(∀ f,f=(kC x.1).1->(f=3∨f=4∨f=5∨f=6)->(0:Int)<=x.2.1/\(x.2.1:Int)<4294967296)/\((kC x.1).1=4-> ∀ l,l∈x.2.2.2.2.2->(0:Int)<=l)/\1<=(iK (mI x)).1.length/\((kC x.1).1=4->List.length x.2.2.2.2.2<=(iK (mI x)).1.length)/\((kC x.1).1=2->BkA x.2.1):=by
 have e:=(w8 hI).2 (List Int×Bool) Prod.mk
 rw[h]at e
 have e:yz Prod.mk x.1 x.2.1 x.2.2.1 x.2.2.2.1 x.2.2.2.2.1 x.2.2.2.2.2=some ((iK (mI x)).1,true):=e
 unfold yz at e
 dsimp only at e
 cases h1:Co x.1 with
 |false=>
  rw[h1]at e
  injection e with e
  have e2:false=true:=congrArg Prod.snd e
  cases e2
 |true=>
  rw[h1]at e
  simp only[Bool.not_true,cond_false]at e
  cases h2:(DK (x.1,x.2.1,x.2.2.1,x.2.2.2.1,x.2.2.2.2.1,x.2.2.2.2.2,(kC x.1).1,())).1 with
  |false=>
   rw[h2]at e
   injection e with e
   have e2:false=true:=congrArg Prod.snd e
   cases e2
  |true=>
   rw[h2]at e
   simp only[Bool.not_true,cond_false]at e
   have hr:=aag _ _ _ _ _ _ _ h2
   have hT: ∃ p:List Int,1<=p.length/\uJ Prod.mk p x.1 x.2.1 x.2.2.1 x.2.2.2.1 x.2.2.2.2.1 x.2.2.2.2.2=some ((iK (mI x)).1,true):=by
    cases hd:decide (64768<=x.1)with
    |true=>
     rw[hd]at e
     exact⟨_,by rw[bp,List.length_append];simp,(bm (bm (bm e).2).2).2⟩
    |false=>
     rw[hd]at e
     exact⟨_,by simp,(bm e).2⟩
   obtain⟨p,p1,p2⟩:=hT
   obtain⟨q1,q2,q3,q4⟩:=Ut p1 p2
   exact⟨rfl,hr,q1,q2,q3,q4,OI p2⟩
end Go.Proofs.Vd

noncomputable section
namespace Go.Proofs.Vd
open Go.Ab Go.Ab.Lf
set_option maxRecDepth 100000
theorem OK(x:den tI)(c:List (den tI))(out:List Int):qp (x::c) out=bif (iK (mI x)).2 then qp c (out++(iK (mI x)).1)else none:=by
 show gq yA some (x::c) out=_
 rw[gq]
 unfold yA
 cases(iK (mI x)).2<;>rfl
theorem OL: ∀ (c:List (den tI)) (out B:List Int),F9 c=true->qp c out=some B->(∀ x,x∈c->(iK (mI x)).2=true)/\out.length+c.length<=B.length/\ ∀ x,x∈c->List.length x.2.2.2.2.2<=B.length
 | [],out,B,_,h=>by cases h;exact⟨(fun x hx=>by cases hx),(by simp),(fun x hx=>by cases hx)⟩
 |x::c,out,B,hc,h=>by
  obtain⟨h1,h2⟩:=jO hc
  rw[OK]at h
  cases hp:(iK (mI x)).2 with
  |false=>rw[hp]at h;cases h
  |true=>
   rw[hp,cond_true]at h
   obtain⟨a,b,d⟩:=OL c _ B h2 h
   obtain⟨_,p2,_,_,p5,p6,_⟩:=OJ h1 hp
   rw[List.length_append]at b
   refine⟨fun z hz=>?_,by simp only[List.length_cons];omega,fun z hz=>?_⟩
   ·rcases List.mem_cons.1 hz with e|e
    ·subst e;exact hp
    ·exact a z e
   ·rcases List.mem_cons.1 hz with e|e
    ·subst e
     rcases p2 with p2|p2
     ·have:=p6 p2;omega
     ·rw[p2];exact Nat.zero_le _
    ·exact d z e
theorem aez{c:List (den tI)}(hc:qk c=true)(h:nf c=0)(hl:(pU c).length<=1048576):BOk c/\Um [] c:=by
 have hi:F9 c=true:=by simp only[qk,Bool.and_eq_true]at hc;exact hc.1
 unfold nf at h
 unfold pU at hl
 cases ho:F' c with
 |none=>rw[ho]at h;cases h
 |some B=>
  rw[ho]at hl
  have hl:B.length<=1048576:=hl
  unfold F' at ho
  cases ga:iW c with
  |false=>rw[ga]at ho;cases ho
  |true=>
   rw[ga,cond_true]at ho
   obtain⟨a,b,d⟩:=OL c [] B hi ho
   refine⟨⟨fun x hx=>?_,by simp only[List.length_nil]at b;omega⟩,?_⟩
   ·obtain⟨p1,p2,p3,p4,_,_,p7⟩:=OJ (oU hi x hx) (a x hx)
    exact⟨p3,p4,by have:=d x hx;omega,p1,p7⟩
   ·unfold iW DE at ga
    unfold Um
    cases hf:gq yx (fun _=>(none:Option Bool)) c []with
    |none=>rw[hf]at ga;cases ga
    |some t=>rw[hf]at ga;exact congrArg some ga
theorem kN{t:Ty}{A:Item (den t)}{B:As A}{most:Int}{l:List (den t)}(h:gx B most l=true):(l.length:Int)<=most/\ ∀ x,x∈l->B.p x=true:=by
 unfold gx at h
 rw[Bool.and_eq_true]at h
 refine⟨of_decide_eq_true h.1,fun x hx=>?_⟩
 have h2:=h.2
 have jQ: ¬ (l.length:Int)=0:=by
  have:=List.length_pos_of_mem hx
  omega
 rw[decide_eq_false jQ,cond_false,Bool.and_eq_true,Bool.and_eq_true,List.all_eq_true]at h2
 exact h2.1.2 x hx
theorem OM{t:Ty}{A:Item (den t)}{B:As A}{id:Int}{l:List (den t)}{x:den t}(hx:x∈l):(B.bs x).length<=(oQ B id l).length:=by
 have h1: ∀ l:List (den t),x∈l->(B.bs x).length<=(uO B l).length:=by
  intro l
  induction l with
  |nil=>intro h;cases h
  |cons a l ih=>
   intro h
   show _<=(B.bs a++uO B l).length
   rw[List.length_append]
   rcases List.mem_cons.1 h with e|e
   ·subst e;omega
   ·have:=ih e;omega
 have h2:=h1 l hx
 have jQ: ¬ (l.length:Int)=0:=by
  have:=List.length_pos_of_mem hx
  omega
 unfold oQ
 rw[decide_eq_false jQ,cond_false]
 simp only[List.length_cons,List.length_append]
 omega
theorem Au(L:List Int)(i:Nat): ∀ (k n t:Nat),(∀ t,1<=t->t<n->L.getD (i+t) (ao i64)=L.getD i (ao i64))->1<=t->t<oL L i k n->L.getD (i+t) (ao i64)=L.getD i (ao i64)
 |0,n,t,h,a,b=>h t a b
 |k+1,n,t,h,a,b=>by
  unfold oL at b
  split at b
  ·rename_i hc
   refine Au L i k (n+1) t (fun t a b=>?_) a b
   by_cases e:t=n
   ·subst e;exact hc.2
   ·exact h t a (by omega)
  ·exact h t a b
theorem ON(L:List Int): ∀ (k i:Nat),L.length<=i+k->Gn L k i=true-> ∀ j,i<=j->j<L.length->qu (L.getD j (ao i64))=true
 |0,i,h,_,j,a,b=>by omega
 |k+1,i,h,hp,j,a,b=>by
  unfold Gn at hp
  rw[if_pos (by omega),Bool.and_eq_true,Bool.and_eq_true]at hp
  obtain⟨r1,r2⟩:=BH L i (by omega)
  by_cases e:j<i+gZ L (i:Int)
  ·by_cases e2:j=i
   ·subst e2;exact hp.2.1
   ·have e3:gZ L (i:Int)=oL L i L.length 1:=rfl
    have:=Au L i L.length 1 (j - i) (fun t a b=>by omega) (by omega) (by omega)
    rw[show i+(j - i)=j by omega]at this
    rw[this]
    exact hp.2.1
  ·exact ON L k (i+gZ L (i:Int)) (by omega) hp.2.2 j (by omega) b
structure MOk(y:ak tM):Prop where
 ty:zF y
 tk: ∀ s:den aI,s∈y.1->List.all s.1 qu=true/\List.all s.2 qu=true
 lt:y.1.length<=512
 li:y.2.1.length<=512
 lf:y.2.2.1.length<=512
 lb:y.2.2.2.1.length<=512
 lm:y.2.2.2.2.1.length<=512
 lg:y.2.2.2.2.2.1.length<=512
 lx:y.2.2.2.2.2.2.1.length<=512
 le:y.2.2.2.2.2.2.2.2.1.length<=512
 lc:y.2.2.2.2.2.2.2.2.2.1.length<=512
 ld:y.2.2.2.2.2.2.2.2.2.2.1.length<=512
 fc:y.2.2.1.length=y.2.2.2.2.2.2.2.2.2.1.length
 cd: ∀ C:den aK,C∈y.2.2.2.2.2.2.2.2.2.1->I2 C/\List.all C.1 qu=true
 ex: ∀ e:den aO,e∈y.2.2.2.2.2.2.1->(0:Int)<=e.2.1/\(e.2.1:Int)<=3
 st:(-1:Int)<=y.2.2.2.2.2.2.2.1/\(y.2.2.2.2.2.2.2.1:Int)<4294967296
 gk: ∀ g:den aC,g∈y.2.2.2.2.2.1->qu g.1=true
 el: ∀ e:den aD,e∈y.2.2.2.2.2.2.2.2.1->List.length e.2<=1024
 x0:Z3 y.2.2.2.2.2.2.1=true
theorem mok{V:ByteArray->Bool}{y:ak tM}(hE:Gh V y=true)(hP:Ky V y=true)(hB:(Qi V y).length<=1048576)(hx:Z3 y.2.2.2.2.2.2.1=true):MOk y:=by
 have hM:VT V y=true:=by unfold Gh at hE;rw[Bool.and_eq_true]at hE;exact hE.1
 unfold VT at hM
 simp only[Bool.and_eq_true]at hM
 obtain⟨_,_,_,_,_,g6,_,g8,g9,g10⟩:=hM
 unfold Ky at hP
 rw[Bool.and_eq_true,Bool.and_eq_true,Bool.and_eq_true]at hP
 obtain⟨p0,p1,p2,p3⟩:=hP
 unfold ZF at p1
 unfold ZG at p3
 simp only[Bool.and_eq_true]at p1 p3
 obtain⟨a1,a2,a3,a4,a5,a6,a7⟩:=p1
 obtain⟨a9,a10,a11⟩:=p3
 have b1:=kN a1
 have b2:=kN a2
 have b3:=kN a3
 have b4:=kN a4
 have b5:=kN a5
 have b6:=kN a6
 have b7:=kN a7
 have b9:=kN a9
 have b10:=kN a10
 have b11:=kN a11
 have apB:(oQ DZ 10 y.2.2.2.2.2.2.2.2.2.1).length<=1048576:=by
  have:(Qi V y).length=(ZE V y).length+((stB y.2.2.2.2.2.2.2.1).length+(Oe y).length):=by unfold Qi;rw[List.length_append,List.length_append]
  have:(Oe y).length=(oQ BM 9 y.2.2.2.2.2.2.2.2.1).length+((oQ DZ 10 y.2.2.2.2.2.2.2.2.2.1).length+(oQ BN 11 y.2.2.2.2.2.2.2.2.2.2.1).length):=by unfold Oe;rw[List.length_append,List.length_append]
  omega
 have ty: ∀ s:den aI,s∈y.1->(List.length s.1<=32/\List.length s.2<=32)/\List.all s.1 qu=true/\List.all s.2 qu=true:=by
  intro s hs
  have h:=b1.2 s hs
  have h:(bif decide ((List.length s.1:Int)<=32)then decide ((List.length s.2:Int)<=32)&&(true&&([(List.length s.1:Int)].all ij&&(List.all s.1 qu&&([(List.length s.2:Int)].all ij&&List.all s.2 qu))))else false&&(true&&([(List.length s.1:Int)].all ij&&(List.all s.1 qu&&([(List.length s.2:Int)].all ij&&List.all s.2 qu)))))=true:=h
  by_cases q:(List.length s.1:Int)<=32
  ·rw[decide_eq_true q,cond_true]at h
   simp only[Bool.and_eq_true,decide_eq_true_eq]at h
   exact⟨⟨by omega,by have:=h.1;omega⟩,h.2.2.2.1,h.2.2.2.2.2⟩
  ·rw[decide_eq_false q]at h
   cases h
 refine⟨fun s hs=>(ty s hs).1,fun s hs=>(ty s hs).2,by omega,by omega,by omega,by omega,by omega,by omega,by omega,by omega,by omega,by omega,by have:=of_decide_eq_true p0;omega,fun C hC=>?_,fun e he=>?_,?_,fun g hg=>?_,fun e he=>?_,hx⟩
 ·have h:=b10.2 C hC
  have h:(decide ((List.length C.1:Int)<=512)&&(Qh C&&ij ((zE C).length:Int)))=true:=h
  rw[Bool.and_eq_true,Bool.and_eq_true]at h
  obtain⟨h1,h2,h3⟩:=h
  unfold Qh at h2
  rw[Bool.and_eq_true,Bool.and_eq_true]at h2
  have hl:(pU C.2).length<=1048576:=by
   have h4:(nb ((zE C).length:Int)++zE C).length<=_:=OM (B:=DZ) (id:=10) hC
   have h5:(zE C).length=(nb (ee C.1 0)).length+((DY C.1 (List.length C.1) 0).length+(pU C.2).length):=by unfold zE;rw[List.length_append,List.length_append]
   rw[List.length_append]at h4
   omega
  have hok:qk C.2=true:=oU g9 C hC
  obtain⟨q1,q2⟩:=aez hok (of_decide_eq_true h2.2.2) hl
  refine⟨⟨q1,q2,by have:=of_decide_eq_true h1;omega⟩,?_⟩
  rw[List.all_eq_true]
  intro t ht
  obtain⟨j,hj,e⟩:=List.getElem_of_mem ht
  have:=ON C.1 (List.length C.1) 0 (by omega) h2.2.1 j (Nat.zero_le _) hj
  rw[List.getD_eq_getElem?_getD,List.getElem?_eq_getElem hj]at this
  rw[<-e]
  exact this
 ·have h:=b7.2 e he
  have h:(bif decide ((0:Int)<=e.2.1)then decide ((e.2.1:Int)<=3)&&(ZC V e.1&&(true&&[e.2.2].all ij))else false&&(ZC V e.1&&(true&&[e.2.2].all ij)))=true:=h
  by_cases q:(0:Int)<=e.2.1
  ·rw[decide_eq_true q,cond_true,Bool.and_eq_true]at h
   exact⟨q,of_decide_eq_true h.1⟩
  ·rw[decide_eq_false q]at h
   cases h
 ·unfold stP at p2
  rw[Bool.and_eq_true]at p2
  refine⟨of_decide_eq_true p2.1,?_⟩
  by_cases q:(0:Int)<=y.2.2.2.2.2.2.2.1
  ·have h:=p2.2
   rw[decide_eq_true q,cond_true,Bool.and_eq_true]at h
   have h:=h.1
   unfold ij at h
   rw[Bool.and_eq_true]at h
   exact of_decide_eq_true h.2
  ·have key: ∀ a:Int,¬ 0<=a->a<4294967296:=fun a _=>by omega
   exact key _ q
 ·have h:=b6.2 g hg
  have h:([(g.1:Int)].all qu&&bif g.2.1 then true&&decide (nf g.2.2=0)else true&&decide (nf g.2.2=0))=true:=h
  rw[Bool.and_eq_true]at h
  have h:=h.1
  simpa using h
 ·have h:=b9.2 e he
  have h:(decide ((List.length e.2:Int)<=1024)&&_)=true:=h
  rw[Bool.and_eq_true]at h
  have:=of_decide_eq_true h.1
  omega
end Go.Proofs.Vd

noncomputable section
namespace Go.Proofs.Vd
open Go.Ab Go.Ab.Lf
set_option maxRecDepth 100000
theorem qa{α:Type}{f:List Pl->T Rs}{l:List α}(st:Nat->List Pl)(p:α->Bool)(o0 o1:List Pl)
 (uy: ∀ j x r,l.drop j=x::r->(f (st j)).val=some (bif p x then .next (st (j+1))else .out 1 o1))(Bv:(f (st l.length)).val=some (.out 0 o0)):gQ f (st 0) (bif l.all p then 0 else 1) (bif l.all p then o0 else o1):=by
 have key: ∀ (r:List α) (j:Nat),l.drop j=r->j<=l.length->gQ f (st j) (bif r.all p then 0 else 1) (bif r.all p then o0 else o1):=by
  intro r
  induction r with
  |nil=>
   intro j h hj
   have:j=l.length:=by have:=List.drop_eq_nil_iff.1 h;omega
   subst this
   exact .last Bv
  |cons x r ih=>
   intro j h hj
   have gB:j<l.length:=by
    rcases Nat.lt_or_ge j l.length with k|k
    ·exact k
    ·rw[List.drop_eq_nil_of_le k]at h;cases h
   have hr:l.drop (j+1)=r:=by rw[<-List.tail_drop,h];rfl
   have hs:=uy j x r h
   rw[List.all_cons]
   cases hp:p x with
   |true=>rw[hp]at hs;rw[Bool.true_and];exact .more hs (ih (j+1) hr gB)
   |false=>rw[hp]at hs;exact .last hs
 exact key l 0 rfl (Nat.zero_le _)
def oY(l:List (List (den aj))):Nat:=l.foldr (fun x n=>x.length+n) 0
theorem GD(l:List (List (den aj))): ∀ (s:List (den aj)),l.foldl (fun s x=>s++x) s=s++l.flatten:=by
 induction l with
 |nil=>intro s;simp
 |cons x l ih=>intro s;show l.foldl _ (s++x)=_;rw[ih];simp
theorem GF(l:List (List (den aj))): ∀ (s:Nat),l.foldl (fun s x=>s+x.length) s=s+oY l:=by
 induction l with
 |nil=>intro s;rfl
 |cons x l ih=>intro s;show l.foldl _ (s+x.length)=s+(x.length+oY l);rw[ih];omega
theorem aah(c:List (List (den aj)))(hc:c.length+oY c<=1073741824):gQ Gs (aA uS (c,((0:Nat):Int),c,(c.length:Int),((0:Nat):Int),())) 0 (aA mb (c,(oY c:Int),())):=by
 have r0:=JE (f:=Gs) (l:=c) (fun(s:Nat) j=>aA uS (c,(s:Int),c,(c.length:Int),(j:Int),())) (fun s x=>.inl (s+x.length)) (fun s=>(0,aA mb (c,(s:Int),()))) (fun s r=>s+oY r<=1073741824) (fun s j x r e hi=>by
  obtain⟨e1,e2⟩:=dn e (ao (.ae aj))
  have e2:c.getD j (ao (.ae aj))=x:=e2
  have Xa:s+(x.length+oY r)<=1073741824:=hi
  have AR:decide (((s+x.length:Nat):Int)<0)=false:=decide_eq_false (by omega)
  have hq:cf .i64 (s:Int) (x.length:Int)=((s+x.length:Nat):Int):=Bu (by omega)
  refine⟨?_,fun s' e=>by cases e;exact(by omega:s+x.length+oY r<=1073741824)⟩
  rw[Wb c c (s:Int) (c.length:Int) (j:Int) ((s+x.length:Nat):Int) (by rw[Int.toNat_natCast,e2];exact hq.symm),dY e1,cond_true,BR e1,AR,kA (by omega)]
  rfl) (fun s j e hj _=>by
  have:j=c.length:=by have:=List.drop_eq_nil_iff.1 e;omega
  subst this
  rw[Wb c c (s:Int) (c.length:Int) (c.length:Int) _ rfl,dj (Nat.le_refl _)]
  rfl) c 0 0 rfl (by omega) (by omega)
 rw[fM,GF,Nat.zero_add]at r0
 exact r0
theorem aai(c:List (List (den aj)))(hc:c.length+oY c<=1073741824):gQ D3 (aA sx ([],c,(c.length:Int),((0:Nat):Int),())) 0 (aA mc (c.flatten,())):=by
 have r2:=JE (f:=D3) (l:=c) (fun(s:List (den aj)) j=>aA sx (s,c,(c.length:Int),(j:Int),())) (fun s x=>.inl (s++x)) (fun s=>(0,aA mc (s,()))) (fun s r=>s.length+oY r<=1073741824) (fun s j x r e hi=>by
  obtain⟨e1,e2⟩:=dn e (ao (.ae aj))
  have e2:c.getD j (ao (.ae aj))=x:=e2
  have Xa:s.length+(x.length+oY r)<=1073741824:=hi
  refine⟨?_,fun s' e=>by cases e;rw[List.length_append];omega⟩
  rw[Wc s c (c.length:Int) (j:Int) x (by rw[Int.toNat_natCast];exact e2.symm),dY e1,cond_true,BR e1,bP (by omega) (by omega),bp,kA (by omega)]
  rfl) (fun s j e hj _=>by
  have:j=c.length:=by have:=List.drop_eq_nil_iff.1 e;omega
  subst this
  rw[Wc s c (c.length:Int) (c.length:Int) _ rfl,dj (Nat.le_refl _)]
  rfl) c 0 [] rfl (by omega) (by simp;omega)
 rw[fM,GD,List.nil_append]at r2
 exact r2
theorem aeB(c:List (List (den aj)))(hc:c.length+oY c<=1073741824):(t55 (c,())).val=some (aA Gt (c.flatten,())):=by
 have v0:=jN (aah c hc)
 have v2:=jN (aai c hc)
 have hw:bO .i64 (oY c:Int) 0=(oY c:Int):=by
  show eZ .i64 ((oY c:Int) - 0)=_
  rw[wrap_i64 (by omega) (by omega)]
  omega
 have AR:decide ((oY c:Int)<0)=false:=decide_eq_false (by omega)
 have c1:roomy 16 (0+(List.replicate (oY c:Int).toNat ((0,0):den aj)).length)=true:=bP (by omega) (by rw[List.length_replicate,Int.toNat_natCast];omega)
 have c2:eL 0 0 ((app [] (List.replicate (oY c:Int).toNat ((0,0):den aj))).length:Int)=true:=BS (j:=0) (Nat.zero_le _)
 have a1:oB Gs uS mb (c,0,c,(c.length:Int),0,())=true:=v0.1
 have a3:oB D3 sx mc ([],c,(c.length:Int),0,())=true:=v2.1
 have a4:gH D3 sx mc ([],c,(c.length:Int),0,())=(c.flatten,()):=v2.2
 rw[ajJ c (c,(oY c:Int),()) v0.2.symm,a1]
 dsimp only
 rw[a3,a4,AR,hw]
 generalize aA Gt (c.flatten,())=R
 have c3:decide ((0:Int)<=(oY c:Int))=true:=decide_eq_true (by omega)
 rw[c1,c2,c3]
 cases decide ((0:Int)<(oY c:Int))<;>rfl
theorem qb{f:List Pl->T Rs}{ti t0 t1:List Ty}{x:ak ti}{b:Bool}{u:ak t0}{v:ak t1}(h:gQ f (aA ti x) (bif b then 0 else 1) (bif b then aA t0 u else aA t1 v)):rG f ti t0 t1 x=true/\qw f ti x=b/\(b=true->gH f ti t0 x=u)/\(b=false->gH f ti t1 x=v):=by
 cases b with
 |true=>obtain⟨a,b,c⟩:=sW (t0:=t0) (t1:=t1) (y:=u) h;exact⟨a,b,(fun _=>c),(fun e=>by cases e)⟩
 |false=>obtain⟨a,b,c⟩:=Bz (t0:=t0) (t1:=t1) (y:=v) h;exact⟨a,b,(fun e=>by cases e),(fun _=>c)⟩
def JV(y:ak tM)(fn:Int)(x:den aD):Bool:= !decide ((y.2.2.2.1.length:Int)=0)&&(uM x.1 127&&List.all x.2 (fun f=> !decide (fn<=f)))
def Uu(y:ak tM)(x:den aH):Bool:= !decide ((y.2.2.2.2.1.length:Int)=0)&&uM x.1 127
def aaj(y:ak tM)(fn:Int):Bool:=List.all y.2.2.2.2.2.2.2.2.1 (JV y fn)&&List.all y.2.2.2.2.2.2.2.2.2.2.1 (Uu y)
theorem aeC(y:ak tM)(fn:Int)(h1:y.2.2.2.2.2.2.2.2.1.length<=1048576)(h2:y.2.2.2.2.2.2.2.2.2.2.1.length<=1048576)(h3: ∀ e:den aD,e∈y.2.2.2.2.2.2.2.2.1->List.length e.2<=1048576):(t58 (y.1,y.2.1,y.2.2.1,y.2.2.2.1,y.2.2.2.2.1,y.2.2.2.2.2.1,y.2.2.2.2.2.2.1,y.2.2.2.2.2.2.2.1,y.2.2.2.2.2.2.2.2.1,y.2.2.2.2.2.2.2.2.2.1,y.2.2.2.2.2.2.2.2.2.2.1,fn,())).val=some (aA D4 (aaj y fn,())):=by
 have r0:=qa (f:=Gv) (l:=y.2.2.2.2.2.2.2.2.1) (fun j=>aA ql (fn,y.1,y.2.1,y.2.2.1,y.2.2.2.1,y.2.2.2.2.1,y.2.2.2.2.2.1,y.2.2.2.2.2.2.1,y.2.2.2.2.2.2.2.1,y.2.2.2.2.2.2.2.2.1,y.2.2.2.2.2.2.2.2.2.1,y.2.2.2.2.2.2.2.2.2.2.1,y.2.2.2.2.2.2.2.2.1,(y.2.2.2.2.2.2.2.2.1.length:Int),(j:Int),())) (JV y fn) (aA nA (y.1,y.2.1,y.2.2.1,y.2.2.2.1,y.2.2.2.2.1,y.2.2.2.2.2.1,y.2.2.2.2.2.2.1,y.2.2.2.2.2.2.2.1,y.2.2.2.2.2.2.2.2.1,y.2.2.2.2.2.2.2.2.2.1,y.2.2.2.2.2.2.2.2.2.2.1,())) (aA nB (false,())) (fun j x r e=>by
  obtain⟨e1,e2⟩:=dn e (ao aD)
  have hx:x∈y.2.2.2.2.2.2.2.2.1:=by
   have:x∈y.2.2.2.2.2.2.2.2.1.drop j:=by rw[e];exact List.mem_cons_self
   exact List.mem_of_mem_drop this
  have hl:=h3 x hx
  have r2:=qa (f:=Gu) (l:=x.2) (fun k=>aA ra (fn,y.1,y.2.1,y.2.2.1,y.2.2.2.1,y.2.2.2.2.1,y.2.2.2.2.2.1,y.2.2.2.2.2.2.1,y.2.2.2.2.2.2.2.1,y.2.2.2.2.2.2.2.2.1,y.2.2.2.2.2.2.2.2.2.1,y.2.2.2.2.2.2.2.2.2.2.1,y.2.2.2.2.2.2.2.2.1,(y.2.2.2.2.2.2.2.2.1.length:Int),(j:Int),x.2,(List.length x.2:Int),(k:Int),())) (fun f=> !decide (fn<=f)) _ _ (fun k f r e=>by
   obtain⟨e1,e2⟩:=dn e (ao i64)
   rw[V9,dY e1,cond_true,BR e1,Int.toNat_natCast,e2,kA (by omega)]
   cases decide (fn<=f)<;>rfl) (by rw[V9,dj (Nat.le_refl _)];rfl)
  have q:=qb (ti:=ra) (t0:=pX) (t1:=rI) (x:=(fn,y.1,y.2.1,y.2.2.1,y.2.2.2.1,y.2.2.2.2.1,y.2.2.2.2.2.1,y.2.2.2.2.2.2.1,y.2.2.2.2.2.2.2.1,y.2.2.2.2.2.2.2.2.1,y.2.2.2.2.2.2.2.2.2.1,y.2.2.2.2.2.2.2.2.2.2.1,y.2.2.2.2.2.2.2.2.1,(y.2.2.2.2.2.2.2.2.1.length:Int),(j:Int),x.2,(List.length x.2:Int),0,())) (u:=(fn,y.1,y.2.1,y.2.2.1,y.2.2.2.1,y.2.2.2.2.1,y.2.2.2.2.2.1,y.2.2.2.2.2.2.1,y.2.2.2.2.2.2.2.1,y.2.2.2.2.2.2.2.2.1,y.2.2.2.2.2.2.2.2.2.1,y.2.2.2.2.2.2.2.2.2.2.1,y.2.2.2.2.2.2.2.2.1,(y.2.2.2.2.2.2.2.2.1.length:Int),(j:Int),())) (v:=(false,())) r2
  obtain⟨q1,q2,q3,q4⟩:=q
  rw[V' fn y _ _ _ x (by rw[Int.toNat_natCast];exact e2.symm) _ rfl _ rfl,dY e1,cond_true,BR e1,q1,q2]
  unfold JV
  cases decide ((y.2.2.2.1.length:Int)=0)with
  |true=>rfl
  |false=>
   cases uM x.1 127 with
   |false=>rfl
   |true=>
    cases ha:List.all x.2 (fun f=> !decide (fn<=f))with
    |true=>rw[q3 ha];show some (Rs.next (aA ql (fn,y.1,y.2.1,y.2.2.1,y.2.2.2.1,y.2.2.2.2.1,y.2.2.2.2.2.1,y.2.2.2.2.2.2.1,y.2.2.2.2.2.2.2.1,y.2.2.2.2.2.2.2.2.1,y.2.2.2.2.2.2.2.2.2.1,y.2.2.2.2.2.2.2.2.2.2.1,y.2.2.2.2.2.2.2.2.1,(y.2.2.2.2.2.2.2.2.1.length:Int),cf .i64 (j:Int) 1,())))=_;rw[kA (by omega)];rfl
    |false=>rw[q4 ha];rfl) (by rw[V' fn y _ _ _ _ rfl _ rfl _ rfl,dj (Nat.le_refl _)];rfl)
 obtain⟨a1,a2,a3,a4⟩:=qb (ti:=ql) (t0:=nA) (t1:=nB) (x:=(fn,y.1,y.2.1,y.2.2.1,y.2.2.2.1,y.2.2.2.2.1,y.2.2.2.2.2.1,y.2.2.2.2.2.2.1,y.2.2.2.2.2.2.2.1,y.2.2.2.2.2.2.2.2.1,y.2.2.2.2.2.2.2.2.2.1,y.2.2.2.2.2.2.2.2.2.2.1,y.2.2.2.2.2.2.2.2.1,(y.2.2.2.2.2.2.2.2.1.length:Int),0,())) (u:=(y.1,y.2.1,y.2.2.1,y.2.2.2.1,y.2.2.2.2.1,y.2.2.2.2.2.1,y.2.2.2.2.2.2.1,y.2.2.2.2.2.2.2.1,y.2.2.2.2.2.2.2.2.1,y.2.2.2.2.2.2.2.2.2.1,y.2.2.2.2.2.2.2.2.2.2.1,())) (v:=(false,())) r0
 have r4:=qa (f:=JQ) (l:=y.2.2.2.2.2.2.2.2.2.2.1) (fun j=>aA sA (y.1,y.2.1,y.2.2.1,y.2.2.2.1,y.2.2.2.2.1,y.2.2.2.2.2.1,y.2.2.2.2.2.2.1,y.2.2.2.2.2.2.2.1,y.2.2.2.2.2.2.2.2.1,y.2.2.2.2.2.2.2.2.2.1,y.2.2.2.2.2.2.2.2.2.2.1,y.2.2.2.2.2.2.2.2.2.2.1,(y.2.2.2.2.2.2.2.2.2.2.1.length:Int),(j:Int),())) (Uu y) (aA rJ ()) (aA pY (false,())) (fun j x r e=>by
  obtain⟨e1,e2⟩:=dn e (ao aH)
  rw[Wa y _ _ _ x (by rw[Int.toNat_natCast];exact e2.symm),dY e1,cond_true,BR e1,kA (by omega)]
  unfold Uu
  cases decide ((y.2.2.2.2.1.length:Int)=0)<;>cases uM x.1 127<;>rfl) (by rw[Wa y _ _ _ _ rfl,dj (Nat.le_refl _)];rfl)
 obtain⟨b1,b2,b3,b4⟩:=qb (ti:=sA) (t0:=rJ) (t1:=pY) (x:=(y.1,y.2.1,y.2.2.1,y.2.2.2.1,y.2.2.2.2.1,y.2.2.2.2.2.1,y.2.2.2.2.2.2.1,y.2.2.2.2.2.2.2.1,y.2.2.2.2.2.2.2.2.1,y.2.2.2.2.2.2.2.2.2.1,y.2.2.2.2.2.2.2.2.2.2.1,y.2.2.2.2.2.2.2.2.2.2.1,(y.2.2.2.2.2.2.2.2.2.2.1.length:Int),0,())) (u:=()) (v:=(false,())) r4
 unfold aaj
 cases hA:List.all y.2.2.2.2.2.2.2.2.1 (JV y fn)with
 |false=>
  rw[hA]at a2
  rw[aex y fn _ rfl _ rfl _ rfl,a1,a2,a4 hA]
  rfl
 |true=>
  rw[hA]at a2
  rw[aex y fn _ rfl _ (a3 hA).symm _ rfl,a1,a2]
  cases hB:List.all y.2.2.2.2.2.2.2.2.2.2.1 (Uu y)with
  |true=>rw[hB]at b2;simp only[aS,cond_true];rw[b1,b2];rfl
  |false=>rw[hB]at b2;simp only[aS,cond_true];rw[b1,b2,b4 hB];rfl
end Go.Proofs.Vd
