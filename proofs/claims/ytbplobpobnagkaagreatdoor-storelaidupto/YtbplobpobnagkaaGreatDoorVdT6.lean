import Derived.Test.YtbplobpobnagkaaGreatDoorVdS2
noncomputable section
namespace Go.Proofs.Vd
open Go.Ab Go.Ab.Lf
set_option maxRecDepth 100000
def vc1(v t:Int):Int:=bif decide (t=123)then cr .i64 v 1 else v
def vcs(l:List Int):Int:=l.foldl vc1 0
theorem aai(y:aj tM)(lo:List Int)(w:W3)(mk:List (den tp))(k:Int)(x:den tI)(c:List (den tI))(n1 i1:Int)(hw:w.1.length<=1073741824):
 gM f202 (aB su (wkV y lo w mk k x c n1 i1 0 (w.1.length:Int) 0)) 0 (aB lY (aae y lo w mk k x c n1 i1 (vcs w.1))):=by
 have:=JD (f:=f202) (l:=w.1) (fun(v:Int) j=>aB su (wkV y lo w mk k x c n1 i1 v (w.1.length:Int) (j:Int))) (fun v t=>.inl (vc1 v t)) (fun v=>(0,aB lY (aae y lo w mk k x c n1 i1 v))) (fun _ _=>True) (fun v j t r e _=>by
  obtain⟨e1,e2⟩:=dm e (aq i64)
  refine⟨?_,fun _ _=>trivial⟩
  rw[V9,ed e1,cond_true,BR e1,Int.toNat_natCast,e2,kv (by omega)]
  unfold vc1
  cases decide (t=123)<;>rfl) (fun v j e hj _=>by
  have:j=w.1.length:=by have:=List.drop_eq_nil_iff.1 e;omega
  subst this
  rw[V9,di (Nat.le_refl _)]
  rfl) w.1 0 0 rfl (by omega) trivial
 rw[fH]at this
 exact this
def OD(w:W3):Bool:=bif (dy w.2.1).2.2.2.2.2 then !(dy w.2.1).2.2.2.2.1 else false
def Um(w:W3):den tp:=bif OD w then(true,(w.1.length:Int),vcs w.1)else(false,0,0)
def qu(y:aj tM)(lo:List Int):W3->List (den tI)->Option (List (den tp))
 | _,[]=>some []
 |w,x::r=>bif (fC y lo w x).2.2 then none else(qu y lo (fC y lo w x) r).map (Um w:: ·)
def Un(op:List Int)(r:List (den tI)):Prop:=gq yG (fun _=>(none:Option Bool)) r op=some true
def nbl(o:Int)(L:Nat):Nat:=if 2<=o/\o<=4 then L+1 else if o=11 then L - 1 else L
theorem OE{op:List Int}{x:den tI}{r:List (den tI)}(h:Un op (x::r)):((x.1:Int)=11/\op=[]/\r=[])∨ ∃ op',Un op' r/\op'.length+1=nbl x.1 (op.length+1)/\((x.1:Int)=11->op≠[]):=by
 have e:gq yG (fun _=>(none:Option Bool)) (x::r) op=(match yG op x r with| .inl s=>gq yG (fun _=>none) r s| .inr o=>o):=by
  rw[gq]
  cases yG op x r<;>rfl
 unfold Un at h
 rw[e]at h
 unfold yG at h
 unfold nbl
 by_cases h2:x.1=2∨x.1=3∨x.1=4
 ·have k2:(2:Int)<=x.1/\(x.1:Int)<=4:=by
   have: ∀ o:Int,o=2∨o=3∨o=4->2<=o/\o<=4:=fun o _=>by omega
   exact this _ h2
  rw[if_pos h2]at h
  by_cases q:op.length=128
  ·rw[if_pos q]at h;cases h
  ·rw[if_neg q]at h
   refine .inr ⟨op++[x.1],h,?_,fun e=>?_⟩
   ·rw[if_pos k2];simp
   ·have: ∀ o:Int,o=11-> ¬ (o=2∨o=3∨o=4):=fun o _=>by omega
    exact(this _ e h2).elim
 ·have k2: ¬ ((2:Int)<=x.1/\(x.1:Int)<=4):=by
   have: ∀ o:Int,¬ (o=2∨o=3∨o=4)-> ¬ (2<=o/\o<=4):=fun o _=>by omega
   exact this _ h2
  rw[if_neg h2]at h
  rw[if_neg k2]
  by_cases h5:(x.1:Int)=5
  ·rw[if_pos h5]at h
   rw[if_neg (sx h5 (by decide))]
   by_cases q:op.length=0∨ ¬ op.getD (op.length - 1) 0=4
   ·rw[if_pos q]at h;cases h
   ·rw[if_neg q]at h
    refine .inr ⟨op.set (op.length - 1) 5,h,by simp,fun e=>(sx h5 (c:=11) (by decide) e).elim⟩
  ·rw[if_neg h5]at h
   by_cases h11:(x.1:Int)=11
   ·rw[if_pos h11]at h
    rw[if_pos h11]
    by_cases h0:op.length=0
    ·rw[if_pos h0]at h
     refine .inl ⟨h11,List.eq_nil_of_length_eq_zero h0,?_⟩
     have h:some (decide (r.length=0))=some true:=h
     injection h with h
     exact List.eq_nil_of_length_eq_zero (of_decide_eq_true h)
    ·rw[if_neg h0]at h
     refine .inr ⟨op.take (op.length - 1),h,by simp;omega,fun _ e=>h0 (by rw[e];rfl)⟩
   ·rw[if_neg h11]at h
    rw[if_neg h11]
    exact .inr ⟨op,h,rfl,fun e=>(h11 e).elim⟩
theorem Uo(w:W3)(i:den tI):(Gw w i).2.1=w.2.1:=by
 have eb: ∀ (T:List Int) (L:List Int) (v:W3),(L.foldl (pJ T) v).2.1=v.2.1:=by
  intro T L
  induction L with
  |nil=>intro v;rfl
  |cons x L ih=>intro v;exact(ih (pJ T v x)).trans rfl
 exact eb _ _ _
theorem BV(w:W3):(sZ w).2.1.length=w.2.1.length:=by
 show(w.2.1.set _ _).length=_
 rw[List.length_set]
theorem Up(y:aj tM)(lo:List Int)(w:W3)(i:den tI):(wc y lo w i).2.1.length=w.2.1.length:=by
 unfold wc
 dsimp only
 cases decide (i.1=0)with
 |true=>exact BV w
 |false=>
  cases decide (i.1=12)with
  |true=>exact BV _
  |false=>
   cases decide (i.1=13)with
   |true=>rfl
   |false=>
    cases decide (i.1=14)with
    |true=>
     show(sZ (fG (Gw w i) _)).2.1.length=_
     rw[BV]
     show(Gw w i).2.1.length=_
     rw[Uo]
    |false=>
     cases decide (i.1=15)with
     |true=>exact BV _
     |false=>
      simp only[cond_false]
      unfold JR
      dsimp only
      cases(bif !decide (i.1=33)then !decide (i.1=36)else false)<;>cases(bif !decide (i.1=32)then !decide (i.1=35)else false)<;>rfl
theorem OG{w:W3}(h:w.2.1≠[])(n:Int)(hb:(nV w n).2.2=false):(nV w n).2.1.length=if n=5 then w.2.1.length else w.2.1.length - 1:=by
 obtain⟨r,B,e⟩:=uM h
 have ec:s5 w=r:=by unfold s5;rw[e];simp
 unfold nV at hb ⊢
 cases hB:BU w with
 |true=>rw[hB]at hb;cases hb
 |false=>
  by_cases h5:n=5
  ·rw[decide_eq_true h5,if_pos h5]
   show(fe _ (s5 w) _ _ _).length=_
   unfold fe
   rw[ec,e]
   simp
  ·rw[decide_eq_false h5,if_neg h5]
   show(s5 w).length=_
   rw[ec,e]
   simp
theorem Uq{y:aj tM}{lo:List Int}{w:W3}{i:den tI}(h:w.2.1≠[])(hb:(fC y lo w i).2.2=false):(fC y lo w i).2.1.length=nbl i.1 w.2.1.length:=by
 unfold fC at hb ⊢
 unfold nbl
 cases hp:(kB i.1).2.2.1 with
 |true=>
  obtain⟨a,b⟩:=aef hp
  have: ∀ o:Int,¬ (2<=o/\o<=5)-> ¬ (2<=o/\o<=4):=fun o _=>by omega
  rw[if_neg (this _ a),if_neg b]
  simp only[cond_true]
  unfold aag
  obtain⟨q,e⟩:=vC y w i (kB i.1)
  rw[e]
 |false=>
  rw[hp]at hb
  simp only[cond_false]at hb ⊢
  by_cases h2:(i.1:Int)=2∨(i.1:Int)=3∨(i.1:Int)=4
  ·have k2:(2:Int)<=i.1/\(i.1:Int)<=4:=by
    have: ∀ o:Int,o=2∨o=3∨o=4->2<=o/\o<=4:=fun o _=>by omega
    exact this _ h2
   have c:(decide (i.1=2)||(decide (i.1=3)||decide (i.1=4)))=true:=by simp only[Bool.or_eq_true,decide_eq_true_eq];exact h2
   rw[c,if_pos k2]
   simp only[cond_true]
   unfold D8
   dsimp only
   show(fe _ _ _ _ _).length=_
   unfold fe
   cases decide (i.1=4)<;>simp
  ·have k2: ¬ ((2:Int)<=i.1/\(i.1:Int)<=4):=by
    have: ∀ o:Int,¬ (o=2∨o=3∨o=4)-> ¬ (2<=o/\o<=4):=fun o _=>by omega
    exact this _ h2
   have c:(decide (i.1=2)||(decide (i.1=3)||decide (i.1=4)))=false:=by rw[Bool.eq_false_iff];intro q;simp only[Bool.or_eq_true,decide_eq_true_eq]at q;exact h2 q
   rw[c]at hb ⊢
   rw[if_neg k2]
   simp only[cond_false]at hb ⊢
   by_cases h5:(i.1:Int)=5∨(i.1:Int)=11
   ·have c:(decide (i.1=5)||decide (i.1=11))=true:=by simp only[Bool.or_eq_true,decide_eq_true_eq];exact h5
    rw[c]at hb ⊢
    simp only[cond_true]at hb ⊢
    rw[OG h i.1 hb]
    rcases h5 with h5|h5
    ·rw[if_pos h5,if_neg (sx h5 (by decide))]
    ·rw[if_neg (sx h5 (by decide)),if_pos h5]
   ·have c:(decide (i.1=5)||decide (i.1=11))=false:=by rw[Bool.eq_false_iff];intro q;simp only[Bool.or_eq_true,decide_eq_true_eq]at q;exact h5 q
    rw[c,if_neg (fun e=>h5 (.inr e))]
    simp only[cond_false]
    cases decide (i.1=26)with
    |true=>rfl
    |false=>
     cases decide (i.1=27)with
     |true=>rfl
     |false=>
      cases decide (i.1=16)with
      |true=>rfl
      |false=>
       cases decide (i.1=17)with
       |true=>rfl
       |false=>exact Up y lo w i
structure BOk(c:List (den tI)):Prop where
 ok: ∀ x,x∈c->IOk x
 n:c.length<=1048576
theorem Ur{α:Type}(d:List α)(a b:α)(r:List α):(d++a::r).set d.length b=(d++[b])++r:=by
 rw[List.set_append_right _ _ (Nat.le_refl _)]
 simp
def oT(d:List (den tp)):Option (List (den tp))->Nat×List Pl
 |some l=>(0,aB gb (d++l,()))
 |none=>(1,aB il ([],false,()))
theorem Gy{y:aj tM}(ht:zL y)(I2:y.2.1.length<=1099511627776)(lo:List Int){c:List (den tI)}(hc:BOk c): ∀ (r:List (den tI)) (j:Nat) (w:W3) (d:List (den tp)),c.drop j=r->d.length=j->(r=[]∨(Inv (32*j) (j+1) w/\ ∃ op,Un op r/\w.2.1.length=op.length+1))->
 gM f200 (aB ik (V8 y lo w (d++List.replicate r.length (false,0,0)) c (c.length:Int) (j:Int))) (oT d (qu y lo w r)).1 (oT d (qu y lo w r)).2
 | [],j,w,d,e,hd,_=>by
  have hj:c.length<=j:=List.drop_eq_nil_iff.1 e
  refine .last ?_
  rw[V' y lo w _ c _ _ _ rfl _ rfl _ rfl _ rfl _ rfl _ rfl,di hj]
  simp only[cond_false,List.length_nil,List.replicate_zero,List.append_nil]
  show some (Rs.out 0 (aB gb (d,())))=some (Rs.out 0 (aB gb (d++[],())))
  rw[List.append_nil]
 |x::r,j,w,d,e,hd,hi=>by
  obtain⟨hi,op,fY,Yf⟩:Inv (32*j) (j+1) w/\ ∃ op,Un op (x::r)/\w.2.1.length=op.length+1:=by
   rcases hi with hi|hi
   ·cases hi
   ·exact hi
  obtain⟨e1,e2⟩:=dm e (aq tI)
  have hx:x∈c:=by
   have:x∈c.drop j:=by rw[e];exact List.mem_cons_self
   exact List.mem_of_mem_drop this
  have hI:=hc.ok x hx
  have hn:=hc.n
  have hs:=hi.sub (by omega)
  have eB:dy w.2.1=w.2.1.getD (bN .i64 (w.2.1.length:Int) 1).toNat (aq cw):=by rw[hs,Int.toNat_natCast];rfl
  have ZX:=jE (aep hi ht lo hI (by have:=hI.n;omega) (by omega) I2)
  have er:c.drop (j+1)=r:=by rw[<-List.tail_drop,e];rfl
  have hsk:=hi.sk
  have v:=kq (aai y lo w (d++List.replicate (x::r).length (false,0,0)) (j:Int) x c (c.length:Int) (j:Int) (by omega))
  have hmk:(d++List.replicate (x::r).length ((false,0,0):den tp)).set j (true,(w.1.length:Int),vcs w.1)=(d++[(true,(w.1.length:Int),vcs w.1)])++List.replicate r.length (false,0,0):=by
   rw[List.length_cons,List.replicate_succ,<-hd]
   exact Ur d _ _ _
  have aeq:d++List.replicate (x::r).length ((false,0,0):den tp)=(d++[(false,0,0)])++List.replicate r.length (false,0,0):=by
   rw[List.length_cons,List.replicate_succ]
   simp
  have hlen:(d++List.replicate (x::r).length ((false,0,0):den tp)).length=j+(r.length+1):=by simp[hd]
  have step: ∀ (hb:(fC y lo w x).2.2=false),r=[]∨(Inv (32*(j+1)) (j+1+1) (fC y lo w x)/\ ∃ op,Un op r/\(fC y lo w x).2.1.length=op.length+1):=by
   intro hb
   rcases OE fY with⟨_,_,q⟩|⟨op',q1,q2,q3⟩
   ·exact .inl q
   ·have hl:=Uq hi.ne hb
    rw[Yf,<-q2]at hl
    have jN:(fC y lo w x).2.1≠[]:=fun e0=>by rw[e0]at hl;simp at hl
    exact .inr ⟨(hi.step ht lo hI (by have:=hI.n;omega) (by omega) jN).le (by omega) (Nat.le_refl _),op',q1,hl⟩
  have hq:=V' y lo w (d++List.replicate (x::r).length (false,0,0)) c (c.length:Int) (j:Int) x (by rw[Int.toNat_natCast];exact e2.symm) (dy w.2.1) eB _ v.2.symm _ ZX.2.symm _ rfl _ rfl
  rw[ed e1,cond_true,BR e1,hs,hi.ix]at hq
  simp only[aT,cond_true]at hq
  have hlv:(bif (dy w.2.1).2.2.2.2.2 then !(dy w.2.1).2.2.2.2.1 else false)=OD w:=rfl
  rw[hlv]at hq
  cases hL:OD w with
  |true=>
   rw[hL,v.1]at hq
   simp only[cond_true]at hq
   have hq2:(f200 (aB ik (V8 y lo w (d++List.replicate (x::r).length (false,0,0)) c (c.length:Int) (j:Int)))).val=bif bm (j:Int) ((d++List.replicate (x::r).length ((false,0,0):den tp)).length:Int)then(bif k62 (pW y lo w x)then(bif (AD (pW y lo w x)).2.2.2.2.2.2.2.2.2.2.2.2.2.2.1 then some (Rs.out 1 (aB il ([],false,())))else some (Rs.next (aB ik ((AD (pW y lo w x)).1,(AD (pW y lo w x)).2.1,(AD (pW y lo w x)).2.2.1,(AD (pW y lo w x)).2.2.2.1,(AD (pW y lo w x)).2.2.2.2.1,(AD (pW y lo w x)).2.2.2.2.2.1,(AD (pW y lo w x)).2.2.2.2.2.2.1,(AD (pW y lo w x)).2.2.2.2.2.2.2.1,(AD (pW y lo w x)).2.2.2.2.2.2.2.2.1,(AD (pW y lo w x)).2.2.2.2.2.2.2.2.2.1,(AD (pW y lo w x)).2.2.2.2.2.2.2.2.2.2.1,(AD (pW y lo w x)).2.2.2.2.2.2.2.2.2.2.2.1,(AD (pW y lo w x)).2.2.2.2.2.2.2.2.2.2.2.2.1,(AD (pW y lo w x)).2.2.2.2.2.2.2.2.2.2.2.2.2.1,(AD (pW y lo w x)).2.2.2.2.2.2.2.2.2.2.2.2.2.2.1,(d++List.replicate (x::r).length ((false,0,0):den tp)).set (j:Int).toNat (true,(w.1.length:Int),vcs w.1),c,(c.length:Int),cr .i64 (j:Int) 1,()))))else none)else none:=hq
   rw[hlen,BR (show j<j+(r.length+1) by omega),show k62 (pW y lo w x)=true from ZX.1,Int.toNat_natCast,hmk,kv (by omega),show AD (pW y lo w x)=_ from ZX.2]at hq2
   simp only[cond_true]at hq2
   have hp:qu y lo w (x::r)=bif (fC y lo w x).2.2 then none else(qu y lo (fC y lo w x) r).map (Um w:: ·):=rfl
   rw[hp]
   cases hb:(fC y lo w x).2.2 with
   |true=>
    rw[hb]at hq2
    exact .last hq2
   |false=>
    rw[hb]at hq2
    have ih:=Gy ht I2 lo hc r (j+1) (fC y lo w x) (d++[Um w]) er (by simp[hd]) (step hb)
    have em:Um w=(true,(w.1.length:Int),vcs w.1):=by unfold Um;rw[hL];rfl
    rw[em]at ih
    rw[em]
    simp only[cond_false]
    have eo:oT d ((qu y lo (fC y lo w x) r).map ((true,(w.1.length:Int),vcs w.1):: ·))=oT (d++[(true,(w.1.length:Int),vcs w.1)]) (qu y lo (fC y lo w x) r):=by
     cases qu y lo (fC y lo w x) r with
     |none=>rfl
     |some l=>show((0:Nat),aB gb (d++_::l,()))=(0,aB gb ((d++[_])++l,()));simp
    rw[eo]
    refine .more (pl':=aB ik (V8 y lo (fC y lo w x) ((d++[(true,(w.1.length:Int),vcs w.1)])++List.replicate r.length (false,0,0)) c (c.length:Int) ((j+1:Nat):Int))) ?_ ih
    refine hq2.trans ?_
    show some _=some _
    rw[<-hb]
  |false=>
   rw[hL,show k62 (pW y lo w x)=true from ZX.1]at hq
   simp only[cond_false,cond_true]at hq
   rw[kv (by omega),aeq]at hq
   have hp:qu y lo w (x::r)=bif (fC y lo w x).2.2 then none else(qu y lo (fC y lo w x) r).map (Um w:: ·):=rfl
   rw[hp]
   have em:Um w=(false,0,0):=by unfold Um;rw[hL];rfl
   rw[aeq]
   cases hb:(fC y lo w x).2.2 with
   |true=>
    rw[hb]at hq
    exact .last hq
   |false=>
    rw[hb]at hq
    have ih:=Gy ht I2 lo hc r (j+1) (fC y lo w x) (d++[Um w]) er (by simp[hd]) (step hb)
    rw[em]at ih
    rw[em]
    simp only[cond_false]
    have eo:oT d ((qu y lo (fC y lo w x) r).map ((false,0,0):: ·))=oT (d++[(false,0,0)]) (qu y lo (fC y lo w x) r):=by
     cases qu y lo (fC y lo w x) r with
     |none=>rfl
     |some l=>show((0:Nat),aB gb (d++_::l,()))=(0,aB gb ((d++[_])++l,()));simp
    rw[eo]
    refine .more (pl':=aB ik (V8 y lo (fC y lo w x) ((d++[(false,0,0)])++List.replicate r.length (false,0,0)) c (c.length:Int) ((j+1:Nat):Int))) ?_ ih
    refine hq.trans ?_
    show some _=some _
    rw[<-hb]
end Go.Proofs.Vd

noncomputable section
namespace Go.Proofs.Vd
open Go.Ab Go.Ab.Lf
set_option maxRecDepth 100000
theorem Bz{a b:Nat}(h:a+b<4611686018427387904):cr .i64 (a:Int) (b:Int)=((a+b:Nat):Int):=JH h
def oU(l:List (List Int)):Nat:=l.foldr (fun x n=>x.length+n) 0
theorem JS(l:List (List Int)): ∀ (s:List Int),l.foldl (fun s x=>s++x) s=s++l.flatten:=by
 induction l with
 |nil=>intro s;simp
 |cons x l ih=>intro s;show l.foldl _ (s++x)=_;rw[ih];simp
theorem JT(l:List (List Int)): ∀ (s:Nat),l.foldl (fun s x=>s+x.length) s=s+oU l:=by
 induction l with
 |nil=>intro s;rfl
 |cons x l ih=>intro s;show l.foldl _ (s+x.length)=s+(x.length+oU l);rw[ih];omega
theorem aaj(c:List (List Int))(hc:c.length+oU c<=1073741824):gM Gn (aB uI (c,((0:Nat):Int),c,(c.length:Int),((0:Nat):Int),())) 0 (aB lU (c,(oU c:Int),())):=by
 have r0:=JD (f:=Gn) (l:=c) (fun(s:Nat) j=>aB uI (c,(s:Int),c,(c.length:Int),(j:Int),())) (fun s x=>.inl (s+x.length)) (fun s=>(0,aB lU (c,(s:Int),()))) (fun s r=>s+oU r<=1073741824) (fun s j x r e hi=>by
  obtain⟨e1,e2⟩:=dm e (aq (.ae i64))
  have e2:c.getD j (aq (.ae i64))=x:=e2
  have Xf:s+(x.length+oU r)<=1073741824:=hi
  have A0:decide (((s+x.length:Nat):Int)<0)=false:=decide_eq_false (by omega)
  have hq:cr .i64 (s:Int) (x.length:Int)=((s+x.length:Nat):Int):=Bz (by omega)
  refine⟨?_,fun s' e=>by cases e;exact(by omega:s+x.length+oU r<=1073741824)⟩
  rw[V6 c c (s:Int) (c.length:Int) (j:Int) ((s+x.length:Nat):Int) (by rw[Int.toNat_natCast,e2];exact hq.symm),ed e1,cond_true,BR e1,A0,kv (by omega)]
  rfl) (fun s j e hj _=>by
  have:j=c.length:=by have:=List.drop_eq_nil_iff.1 e;omega
  subst this
  rw[V6 c c (s:Int) (c.length:Int) (c.length:Int) _ rfl,di (Nat.le_refl _)]
  rfl) c 0 0 rfl (by omega) (by omega)
 rw[fH,JT,Nat.zero_add]at r0
 exact r0
theorem aak(c:List (List Int))(hc:c.length+oU c<=1073741824):gM D3 (aB so ([],c,(c.length:Int),((0:Nat):Int),())) 0 (aB lV (c.flatten,())):=by
 have r2:=JD (f:=D3) (l:=c) (fun(s:List Int) j=>aB so (s,c,(c.length:Int),(j:Int),())) (fun s x=>.inl (s++x)) (fun s=>(0,aB lV (s,()))) (fun s r=>s.length+oU r<=1073741824) (fun s j x r e hi=>by
  obtain⟨e1,e2⟩:=dm e (aq (.ae i64))
  have e2:c.getD j (aq (.ae i64))=x:=e2
  have Xf:s.length+(x.length+oU r)<=1073741824:=hi
  refine⟨?_,fun s' e=>by cases e;rw[List.length_append];omega⟩
  rw[V7 s c (c.length:Int) (j:Int) x (by rw[Int.toNat_natCast];exact e2.symm),ed e1,cond_true,BR e1,bO (by omega) (by omega),bp,kv (by omega)]
  rfl) (fun s j e hj _=>by
  have:j=c.length:=by have:=List.drop_eq_nil_iff.1 e;omega
  subst this
  rw[V7 s c (c.length:Int) (c.length:Int) _ rfl,di (Nat.le_refl _)]
  rfl) c 0 [] rfl (by omega) (by simp;omega)
 rw[fH,JS,List.nil_append]at r2
 exact r2
theorem aer(c:List (List Int))(hc:c.length+oU c<=1073741824):(t59 (c,())).val=some (aB Gp (c.flatten,())):=by
 have v0:=kq (aaj c hc)
 have v2:=kq (aak c hc)
 have hw:bN .i64 (oU c:Int) 0=(oU c:Int):=by
  show eX .i64 ((oU c:Int) - 0)=_
  rw[wrap_i64 (by omega) (by omega)]
  omega
 have A0:decide ((oU c:Int)<0)=false:=decide_eq_false (by omega)
 have c1:roomy 8 (0+(List.replicate (oU c:Int).toNat (0:Int)).length)=true:=bO (by omega) (by rw[List.length_replicate,Int.toNat_natCast];omega)
 have c2:dV 0 0 ((app [] (List.replicate (oU c:Int).toNat (0:Int))).length:Int)=true:=BS (j:=0) (Nat.zero_le _)
 have a1:qh Gn uI lU (c,0,c,(c.length:Int),0,())=true:=v0.1
 have a3:qh D3 so lV ([],c,(c.length:Int),0,())=true:=v2.1
 have a4:gP D3 so lV ([],c,(c.length:Int),0,())=(c.flatten,()):=v2.2
 rw[aju c (c,(oU c:Int),()) v0.2.symm,a1]
 dsimp only
 rw[a3,a4,A0,hw]
 generalize aB Gp (c.flatten,())=R
 have c3:decide ((0:Int)<=(oU c:Int))=true:=decide_eq_true (by omega)
 rw[c1,c2,c3]
 cases decide ((0:Int)<(oU c:Int))<;>rfl
def Ea(y:aj tM)(k:Int):den aI:=cb y.1 (dR y.2.1 y.2.2.1 k)
def iq(y:aj tM)(i:Nat):den aK:=y.2.2.2.2.2.2.2.2.2.1.getD i (aq aK)
def Qk(y:aj tM)(i:Nat):List Int:=(Ea y ((y.2.1.length+i:Nat):Int)).1++(iq y i).1
def OH(y:aj tM)(i:Nat):W3:=([],fe [] [] 2 [] (Ea y ((y.2.1.length+i:Nat):Int)).2,false)
def mR(y:aj tM)(i:Nat):Option (List (den tp)):=qu y (Qk y i) (OH y i) (iq y i).2
theorem ajC{y:aj tM}(ht:zL y)(i:Nat):Inv 0 1 (OH y i):=by
 have hs:=(mQ ht (dR y.2.1 y.2.2.1 ((y.2.1.length+i:Nat):Int))).2
 have e:(OH y i).2.1=[(2,0,[],(Ea y ((y.2.1.length+i:Nat):Int)).2,false,true)]:=rfl
 refine⟨by rw[e];simp,by rw[e];exact List.pairwise_singleton _ _,fun b hb=>?_,fun b hb=>?_,Nat.le_refl _,by rw[e];simp⟩
 ·rw[e]at hb
  have:b=(2,0,[],(Ea y ((y.2.1.length+i:Nat):Int)).2,false,true):=by simpa using hb
  rw[this]
  exact⟨Int.le_refl _,Int.le_refl _⟩
 ·rw[e]at hb
  have:b=(2,0,[],(Ea y ((y.2.1.length+i:Nat):Int)).2,false,true):=by simpa using hb
  rw[this]
  exact⟨Nat.zero_le _,hs⟩
structure I0(C:den aK):Prop where
 b:BOk C.2
 c:Un [] C.2
 l:List.length C.1<=512
theorem aes{y:aj tM}(ht:zL y)(I2:y.2.1.length<=1048576){i:Nat}(hi:i<y.2.2.2.2.2.2.2.2.2.1.length)(Kj:i<=1048576)(hC:I0 (iq y i)):
 (t20 (y.1,y.2.1,y.2.2.1,y.2.2.2.1,y.2.2.2.2.1,y.2.2.2.2.2.1,y.2.2.2.2.2.2.1,y.2.2.2.2.2.2.2.1,y.2.2.2.2.2.2.2.2.1,y.2.2.2.2.2.2.2.2.2.1,y.2.2.2.2.2.2.2.2.2.2.1,(i:Int),())).val=some (aB BP ((mR y i).getD [],(mR y i).isSome,())):=by
 have hk:cr .i64 (y.2.1.length:Int) (i:Int)=((y.2.1.length+i:Nat):Int):=Bz (by omega)
 have hs:=(mQ ht (dR y.2.1 y.2.2.1 ((y.2.1.length+i:Nat):Int))).1
 have hl:=hC.l
 have hn:=hC.b.n
 have s59:=jE (aer [(Ea y ((y.2.1.length+i:Nat):Int)).1,(iq y i).1] (by
  show 2+((cb y.1 (dR y.2.1 y.2.2.1 ((y.2.1.length+i:Nat):Int))).1.length+((iq y i).1.length+0))<=_
  omega))
 have e59:(m59 ([(Ea y ((y.2.1.length+i:Nat):Int)).1,(iq y i).1],())).1=Qk y i:=by
  rw[show m59 ([(Ea y ((y.2.1.length+i:Nat):Int)).1,(iq y i).1],())=_ from s59.2]
  unfold Qk
  simp
 have hlen:(OH y i).2.1.length=([]:List Int).length+1:=rfl
 have r:=Gy ht (by omega) (Qk y i) hC.b (iq y i).2 0 (OH y i) [] rfl rfl (.inr ⟨(ajC ht i).le (Nat.le_refl _) (Nat.le_refl _),[],hC.c,hlen⟩)
 rw[ajv y (D9 ht) (i:Int) _ hk.symm _ rfl (iq y i) (by rw[Int.toNat_natCast];rfl) (Qk y i) e59.symm (OH y i) rfl _ rfl,BR hi]
 have c1:(decide (((y.2.1.length+i:Nat):Int)<9223372036854775808)&&decide (y.2.1.length<=1099511627776))=true:=by
  rw[decide_eq_true (by omega),decide_eq_true (by omega)];rfl
 have c2:((decide (0<=((iq y i).2.length:Int))&&decide (((iq y i).2.length:Int)<=((iq y i).2.length:Int)))&&decide (((iq y i).2.length:Int).toNat*24<=70368744177664))=true:=by
  rw[decide_eq_true (by omega),decide_eq_true (by omega),decide_eq_true (by rw[Int.toNat_natCast];omega)];rfl
 rw[c1,c2,show k59 ([(cb y.1 (dR y.2.1 y.2.2.1 ((y.2.1.length+i:Nat):Int))).1,(iq y i).1],())=true from s59.1,decide_eq_true (show y.2.2.2.2.2.2.2.1=y.2.2.2.2.2.2.2.1 from rfl)]
 simp only[aT,cond_true]
 have c3:decide (([]:List (den cw)).length+1<=549755813888)=true:=decide_eq_true (by simp)
 rw[c3,cond_true]
 have hp:mR y i=qu y (Qk y i) (OH y i) (iq y i).2:=rfl
 rw[hp]
 have r:gM f200 (aB ik (V8 y (Qk y i) (OH y i) (List.replicate (iq y i).2.length (false,0,0)) (iq y i).2 ((iq y i).2.length:Int) 0)) (oT [] (qu y (Qk y i) (OH y i) (iq y i).2)).1 (oT [] (qu y (Qk y i) (OH y i) (iq y i).2)).2:=r
 cases hq:qu y (Qk y i) (OH y i) (iq y i).2 with
 |none=>
  rw[hq]at r
  have v:=FY (t0:=gb) (t1:=il) (y:=([],false,())) r
  rw[v.1,v.2.1,v.2.2]
  rfl
 |some l=>
  rw[hq]at r
  have v:=sQ (t0:=gb) (t1:=il) (y:=(l,())) r
  rw[v.1,v.2.1,v.2.2]
  rfl
end Go.Proofs.Vd

noncomputable section
namespace Go.Proofs.Vd
open Go.Ab Go.Ab.Lf
set_option maxRecDepth 100000
theorem Wb(fn:Int)(y:aj tM)(E:List (den aG))(n1 i1:Int)(L:List Int)(n i:Int):(Gs (aB q7 (fn,y.1,y.2.1,y.2.2.1,y.2.2.2.1,y.2.2.2.2.1,y.2.2.2.2.2.1,y.2.2.2.2.2.2.1,y.2.2.2.2.2.2.2.1,y.2.2.2.2.2.2.2.2.1,y.2.2.2.2.2.2.2.2.2.1,y.2.2.2.2.2.2.2.2.2.2.1,E,n1,i1,L,n,i,()))).val=
 bif decide (i<n)then aT (bm i (L.length:Int)) (bif decide (fn<=L.getD i.toNat (aq i64))then some (Rs.out 1 (aB rF (false,())))else some (Rs.next (aB q7 (fn,y.1,y.2.1,y.2.2.1,y.2.2.2.1,y.2.2.2.2.1,y.2.2.2.2.2.1,y.2.2.2.2.2.2.1,y.2.2.2.2.2.2.2.1,y.2.2.2.2.2.2.2.2.1,y.2.2.2.2.2.2.2.2.2.1,y.2.2.2.2.2.2.2.2.2.2.1,E,n1,i1,L,n,cr .i64 i 1,()))))else some (Rs.out 0 (aB pR (fn,y.1,y.2.1,y.2.2.1,y.2.2.2.1,y.2.2.2.2.1,y.2.2.2.2.2.1,y.2.2.2.2.2.2.1,y.2.2.2.2.2.2.2.1,y.2.2.2.2.2.2.2.2.1,y.2.2.2.2.2.2.2.2.2.1,y.2.2.2.2.2.2.2.2.2.2.1,E,n1,i1,()))):=by kernel_rfl
theorem Wc(fn:Int)(y:aj tM)(E:List (den aG))(n i:Int)(x:den aG)(hx:x=E.getD i.toNat (aq aG))(a:aj q7)(ha:a=(fn,y.1,y.2.1,y.2.2.1,y.2.2.2.1,y.2.2.2.2.1,y.2.2.2.2.2.1,y.2.2.2.2.2.2.1,y.2.2.2.2.2.2.2.1,y.2.2.2.2.2.2.2.2.1,y.2.2.2.2.2.2.2.2.2.1,y.2.2.2.2.2.2.2.2.2.2.1,E,n,i,x.2,(x.2.length:Int),0,()))(z:aj pR)(hz:z=gP Gs q7 pR a):(Gt (aB qj (fn,y.1,y.2.1,y.2.2.1,y.2.2.2.1,y.2.2.2.2.1,y.2.2.2.2.2.1,y.2.2.2.2.2.2.1,y.2.2.2.2.2.2.2.1,y.2.2.2.2.2.2.2.2.1,y.2.2.2.2.2.2.2.2.2.1,y.2.2.2.2.2.2.2.2.2.2.1,E,n,i,()))).val=
 bif decide (i<n)then aT (bm i (E.length:Int)) (let F:=some (Rs.out 1 (aB nr (false,())))
  bif decide ((y.2.2.2.1.length:Int)=0)then F else bif !uD x.1 127 then F else
  aT (rP Gs q7 pR rF a) (bif qQ Gs q7 a then some (Rs.next (aB qj (z.1,z.2.1,z.2.2.1,z.2.2.2.1,z.2.2.2.2.1,z.2.2.2.2.2.1,z.2.2.2.2.2.2.1,z.2.2.2.2.2.2.2.1,z.2.2.2.2.2.2.2.2.1,z.2.2.2.2.2.2.2.2.2.1,z.2.2.2.2.2.2.2.2.2.2.1,z.2.2.2.2.2.2.2.2.2.2.2.1,z.2.2.2.2.2.2.2.2.2.2.2.2.1,z.2.2.2.2.2.2.2.2.2.2.2.2.2.1,cr .i64 z.2.2.2.2.2.2.2.2.2.2.2.2.2.2.1 1,())))else some (Rs.out 1 (aB nr ((gP Gs q7 rF a).1,())))))else some (Rs.out 0 (aB nq (y.1,y.2.1,y.2.2.1,y.2.2.2.1,y.2.2.2.2.1,y.2.2.2.2.2.1,y.2.2.2.2.2.2.1,y.2.2.2.2.2.2.2.1,y.2.2.2.2.2.2.2.2.1,y.2.2.2.2.2.2.2.2.2.1,y.2.2.2.2.2.2.2.2.2.2.1,()))):=by
 subst hz;subst ha;subst hx
 kernel_rfl
theorem Wd(y:aj tM)(D:List (den aD))(n i:Int)(x:den aD)(hx:x=D.getD i.toNat (aq aD)):(JP (aB sw (y.1,y.2.1,y.2.2.1,y.2.2.2.1,y.2.2.2.2.1,y.2.2.2.2.2.1,y.2.2.2.2.2.2.1,y.2.2.2.2.2.2.2.1,y.2.2.2.2.2.2.2.2.1,y.2.2.2.2.2.2.2.2.2.1,y.2.2.2.2.2.2.2.2.2.2.1,D,n,i,()))).val=
 bif decide (i<n)then aT (bm i (D.length:Int)) (let F:=some (Rs.out 1 (aB pS (false,())))
  bif decide ((y.2.2.2.2.1.length:Int)=0)then F else bif !uD x.1 127 then F else some (Rs.next (aB sw (y.1,y.2.1,y.2.2.1,y.2.2.2.1,y.2.2.2.2.1,y.2.2.2.2.2.1,y.2.2.2.2.2.2.1,y.2.2.2.2.2.2.2.1,y.2.2.2.2.2.2.2.2.1,y.2.2.2.2.2.2.2.2.2.1,y.2.2.2.2.2.2.2.2.2.2.1,D,n,cr .i64 i 1,()))))else some (Rs.out 0 (aB rG ())):=by
 subst hx
 kernel_rfl
theorem aet(y:aj tM)(fn:Int)(a:aj qj)(ha:a=(fn,y.1,y.2.1,y.2.2.1,y.2.2.2.1,y.2.2.2.2.1,y.2.2.2.2.2.1,y.2.2.2.2.2.2.1,y.2.2.2.2.2.2.2.1,y.2.2.2.2.2.2.2.2.1,y.2.2.2.2.2.2.2.2.2.1,y.2.2.2.2.2.2.2.2.2.2.1,y.2.2.2.2.2.2.2.2.1,(y.2.2.2.2.2.2.2.2.1.length:Int),0,()))(z:aj nq)(hz:z=gP Gt qj nq a)(b:aj sw)(hb:b=(z.1,z.2.1,z.2.2.1,z.2.2.2.1,z.2.2.2.2.1,z.2.2.2.2.2.1,z.2.2.2.2.2.2.1,z.2.2.2.2.2.2.2.1,z.2.2.2.2.2.2.2.2.1,z.2.2.2.2.2.2.2.2.2.1,z.2.2.2.2.2.2.2.2.2.2.1,z.2.2.2.2.2.2.2.2.2.2.1,(z.2.2.2.2.2.2.2.2.2.2.1.length:Int),0,())):(t58 (y.1,y.2.1,y.2.2.1,y.2.2.2.1,y.2.2.2.2.1,y.2.2.2.2.2.1,y.2.2.2.2.2.2.1,y.2.2.2.2.2.2.2.1,y.2.2.2.2.2.2.2.2.1,y.2.2.2.2.2.2.2.2.2.1,y.2.2.2.2.2.2.2.2.2.2.1,fn,())).val=
 aT (rP Gt qj nq nr a) (bif qQ Gt qj a then aT (rP JP sw rG pS b) (bif qQ JP sw b then some (aB D5 (true,()))else some (aB D5 ((gP JP sw pS b).1,())))else some (aB D5 ((gP Gt qj nr a).1,()))):=by
 subst hb;subst hz;subst ha
 kernel_rfl
theorem We(a c:List (List (den ak)))(sz n i:Int)(q:Int)(hq:q=cr .i64 sz ((c.getD i.toNat (aq (.ae ak)):List (den ak)).length:Int)):(Gq (aB uJ (a,sz,c,n,i,()))).val=
 bif decide (i<n)then aT (bm i (c.length:Int)) (bif decide (q<0)then none else some (Rs.next (aB uJ (a,q,c,n,cr .i64 i 1,()))))else some (Rs.out 0 (aB lW (a,sz,()))):=by
 subst hq
 kernel_rfl
theorem Wf(o:List (den ak))(c:List (List (den ak)))(n i:Int)(x:List (den ak))(hx:x=c.getD i.toNat (aq (.ae ak))):(D4 (aB sr (o,c,n,i,()))).val=
 bif decide (i<n)then aT (bm i (c.length:Int)) (aT (roomy 16 (o.length+x.length)) (some (Rs.next (aB sr (app o x,c,n,cr .i64 i 1,())))))else some (Rs.out 0 (aB lX (o,()))):=by
 subst hx
 kernel_rfl
theorem ajD(c:List (List (den ak)))(z:aj lW)(hz:z=gP Gq uJ lW (c,0,c,(c.length:Int),0,())):(t55 (c,())).val=
 aT (qh Gq uJ lW (c,0,c,(c.length:Int),0,())) (
  let fin:=aT (qh D4 sr lX ([],z.1,(z.1.length:Int),0,())) (some (aB Gr (gP D4 sr lX ([],z.1,(z.1.length:Int),0,()))))
  bif decide (z.2.1<0)then none else bif decide (0<bN .i64 z.2.1 0)then aT (decide (0<=bN .i64 z.2.1 0)) (aT (roomy 16 (0+(List.replicate (bN .i64 z.2.1 0).toNat ((0,0):den ak)).length)) (aT (dV 0 0 ((app [] (List.replicate (bN .i64 z.2.1 0).toNat ((0,0):den ak))).length:Int)) fin))else fin):=by
 subst hz
 kernel_rfl
theorem aal(gt:Bool)(fn:Int)(y:aj tM)(hgt:gt=gT y.1)(n i:Int):(f190 (aB oP (fn,y.1,y.2.1,y.2.2.1,y.2.2.2.1,y.2.2.2.2.1,y.2.2.2.2.2.1,y.2.2.2.2.2.2.1,y.2.2.2.2.2.2.2.1,y.2.2.2.2.2.2.2.2.1,y.2.2.2.2.2.2.2.2.2.1,y.2.2.2.2.2.2.2.2.2.2.1,n,i,()))).val=
 bif decide (i<n)then aT (gt&&(decide (i<9223372036854775808)&&decide (y.2.1.length<=1099511627776))) (bif !dP y.1 (dR y.2.1 y.2.2.1 i)then some (Rs.out 1 (aB nu (false,())))else some (Rs.next (aB oP (fn,y.1,y.2.1,y.2.2.1,y.2.2.2.1,y.2.2.2.2.1,y.2.2.2.2.2.1,y.2.2.2.2.2.2.1,y.2.2.2.2.2.2.2.1,y.2.2.2.2.2.2.2.2.1,y.2.2.2.2.2.2.2.2.2.1,y.2.2.2.2.2.2.2.2.2.2.1,n,cr .i64 i 1,()))))else some (Rs.out 0 (aB lZ (fn,y.1,y.2.1,y.2.2.1,y.2.2.2.1,y.2.2.2.2.1,y.2.2.2.2.2.1,y.2.2.2.2.2.2.1,y.2.2.2.2.2.2.2.1,y.2.2.2.2.2.2.2.2.1,y.2.2.2.2.2.2.2.2.2.1,y.2.2.2.2.2.2.2.2.2.2.1,()))):=by
 subst hgt
 kernel_rfl
theorem Wg(fn:Int)(y:aj tM)(hT:gT y.1=true)(n i:Int):(f190 (aB oP (fn,y.1,y.2.1,y.2.2.1,y.2.2.2.1,y.2.2.2.2.1,y.2.2.2.2.2.1,y.2.2.2.2.2.2.1,y.2.2.2.2.2.2.2.1,y.2.2.2.2.2.2.2.2.1,y.2.2.2.2.2.2.2.2.2.1,y.2.2.2.2.2.2.2.2.2.2.1,n,i,()))).val=
 bif decide (i<n)then aT (decide (i<9223372036854775808)&&decide (y.2.1.length<=1099511627776)) (bif !dP y.1 (dR y.2.1 y.2.2.1 i)then some (Rs.out 1 (aB nu (false,())))else some (Rs.next (aB oP (fn,y.1,y.2.1,y.2.2.1,y.2.2.2.1,y.2.2.2.2.1,y.2.2.2.2.2.1,y.2.2.2.2.2.2.1,y.2.2.2.2.2.2.2.1,y.2.2.2.2.2.2.2.2.1,y.2.2.2.2.2.2.2.2.2.1,y.2.2.2.2.2.2.2.2.2.2.1,n,cr .i64 i 1,()))))else some (Rs.out 0 (aB lZ (fn,y.1,y.2.1,y.2.2.1,y.2.2.2.1,y.2.2.2.2.1,y.2.2.2.2.2.1,y.2.2.2.2.2.2.1,y.2.2.2.2.2.2.2.1,y.2.2.2.2.2.2.2.2.1,y.2.2.2.2.2.2.2.2.2.1,y.2.2.2.2.2.2.2.2.2.2.1,()))):=by
 refine Eq.trans (aal true fn y hT.symm n i) ?_
 kernel_rfl
theorem Wh(fn:Int)(y:aj tM)(L:List (den ak))(n i:Int)(x:den ak)(hx:x=L.getD i.toNat (aq ak)):(f192 (aB q9 (fn,y.1,y.2.1,y.2.2.1,y.2.2.2.1,y.2.2.2.2.1,y.2.2.2.2.2.1,y.2.2.2.2.2.2.1,y.2.2.2.2.2.2.2.1,y.2.2.2.2.2.2.2.2.1,y.2.2.2.2.2.2.2.2.2.1,y.2.2.2.2.2.2.2.2.2.2.1,L,n,i,()))).val=
 bif decide (i<n)then aT (bm i (L.length:Int)) (bif (bif !decide (x.2= -1)then decide (x.2<x.1)else false)then some (Rs.out 1 (aB pT (false,())))else some (Rs.next (aB q9 (fn,y.1,y.2.1,y.2.2.1,y.2.2.2.1,y.2.2.2.2.1,y.2.2.2.2.2.1,y.2.2.2.2.2.2.1,y.2.2.2.2.2.2.2.1,y.2.2.2.2.2.2.2.2.1,y.2.2.2.2.2.2.2.2.2.1,y.2.2.2.2.2.2.2.2.2.2.1,L,n,cr .i64 i 1,()))))else some (Rs.out 0 (aB nv (fn,y.1,y.2.1,y.2.2.1,y.2.2.2.1,y.2.2.2.2.1,y.2.2.2.2.2.1,y.2.2.2.2.2.2.1,y.2.2.2.2.2.2.2.1,y.2.2.2.2.2.2.2.2.1,y.2.2.2.2.2.2.2.2.2.1,y.2.2.2.2.2.2.2.2.2.2.1,()))):=by
 subst hx
 kernel_rfl
theorem Wi(fn:Int)(y:aj tM)(L:List (den aC))(n i:Int)(x:den aC)(hx:x=L.getD i.toNat (aq aC)):(f194 (aB ra (fn,y.1,y.2.1,y.2.2.1,y.2.2.2.1,y.2.2.2.2.1,y.2.2.2.2.2.1,y.2.2.2.2.2.2.1,y.2.2.2.2.2.2.2.1,y.2.2.2.2.2.2.2.2.1,y.2.2.2.2.2.2.2.2.2.1,y.2.2.2.2.2.2.2.2.2.2.1,L,n,i,()))).val=
 bif decide (i<n)then aT (bm i (L.length:Int)) (bif !uD x.2.2 x.1 then some (Rs.out 1 (aB pU (false,())))else some (Rs.next (aB ra (fn,y.1,y.2.1,y.2.2.1,y.2.2.2.1,y.2.2.2.2.1,y.2.2.2.2.2.1,y.2.2.2.2.2.2.1,y.2.2.2.2.2.2.2.1,y.2.2.2.2.2.2.2.2.1,y.2.2.2.2.2.2.2.2.2.1,y.2.2.2.2.2.2.2.2.2.2.1,L,n,cr .i64 i 1,()))))else some (Rs.out 0 (aB ny (fn,y.1,y.2.1,y.2.2.1,y.2.2.2.1,y.2.2.2.2.1,y.2.2.2.2.2.1,y.2.2.2.2.2.2.1,y.2.2.2.2.2.2.2.1,y.2.2.2.2.2.2.2.2.1,y.2.2.2.2.2.2.2.2.2.1,y.2.2.2.2.2.2.2.2.2.2.1,()))):=by
 subst hx
 kernel_rfl
end Go.Proofs.Vd

noncomputable section
namespace Go.Proofs.Vd
open Go.Ab Go.Ab.Lf
set_option maxRecDepth 100000
theorem Us(y:aj tM)(fn:Int)(hf:cr .i64 (y.2.1.length:Int) (y.2.2.1.length:Int)=fn)(a:aj oP)(ha:a=(fn,y.1,y.2.1,y.2.2.1,y.2.2.2.1,y.2.2.2.2.1,y.2.2.2.2.2.1,y.2.2.2.2.2.2.1,y.2.2.2.2.2.2.2.1,y.2.2.2.2.2.2.2.2.1,y.2.2.2.2.2.2.2.2.2.1,y.2.2.2.2.2.2.2.2.2.2.1,fn,0,()))(z:aj lZ)(hz:z=gP f190 oP lZ a)
 (L:List (den ak))(hL:L=(m55 ([z.2.2.2.2.1,z.2.2.2.2.2.1],())).1)(b:aj q9)(hb:b=(z.1,z.2.1,z.2.2.1,z.2.2.2.1,z.2.2.2.2.1,z.2.2.2.2.2.1,z.2.2.2.2.2.2.1,z.2.2.2.2.2.2.2.1,z.2.2.2.2.2.2.2.2.1,z.2.2.2.2.2.2.2.2.2.1,z.2.2.2.2.2.2.2.2.2.2.1,z.2.2.2.2.2.2.2.2.2.2.2.1,L,(L.length:Int),0,()))(u:aj nv)(hu:u=gP f192 q9 nv b)
 (c:aj ra)(hc:c=(u.1,u.2.1,u.2.2.1,u.2.2.2.1,u.2.2.2.2.1,u.2.2.2.2.2.1,u.2.2.2.2.2.2.1,u.2.2.2.2.2.2.2.1,u.2.2.2.2.2.2.2.2.1,u.2.2.2.2.2.2.2.2.2.1,u.2.2.2.2.2.2.2.2.2.2.1,u.2.2.2.2.2.2.2.2.2.2.2.1,u.2.2.2.2.2.2.1,(u.2.2.2.2.2.2.1.length:Int),0,()))(v:aj ny)(hv:v=gP f194 ra ny c):(t19 (y.1,y.2.1,y.2.2.1,y.2.2.2.1,y.2.2.2.2.1,y.2.2.2.2.2.1,y.2.2.2.2.2.2.1,y.2.2.2.2.2.2.2.1,y.2.2.2.2.2.2.2.2.1,y.2.2.2.2.2.2.2.2.2.1,y.2.2.2.2.2.2.2.2.2.2.1,())).val=
 aT (rP f190 oP lZ nu a) (bif qQ f190 oP a then(
  bif (bif decide (1<(z.2.2.2.2.1.length:Int))then true else decide (1<(z.2.2.2.2.2.1.length:Int)))then some (aB wK (false,()))else
  aT (k55 ([z.2.2.2.2.1,z.2.2.2.2.2.1],())) (aT (rP f192 q9 nv pT b) (bif qQ f192 q9 b then(
   aT (bif decide ((u.2.2.2.2.2.1.length:Int)=1)then bm 0 (u.2.2.2.2.2.1.length:Int)else true) (bif (bif decide ((u.2.2.2.2.2.1.length:Int)=1)then decide (65536<(u.2.2.2.2.2.1.getD 0 (aq ak)).2)else false)then some (aB wK (false,()))else
   aT (rP f194 ra ny pU c) (bif qQ f194 ra c then(
    aT (On (v.2.1,v.2.2.1,v.2.2.2.1,v.2.2.2.2.1,v.2.2.2.2.2.1,v.2.2.2.2.2.2.1,v.2.2.2.2.2.2.2.1,v.2.2.2.2.2.2.2.2.1,v.2.2.2.2.2.2.2.2.2.1,v.2.2.2.2.2.2.2.2.2.2.1,v.2.2.2.2.2.2.2.2.2.2.2.1,v.1,())) (bif mNm (v.2.1,v.2.2.1,v.2.2.2.1,v.2.2.2.2.1,v.2.2.2.2.2.1,v.2.2.2.2.2.2.1,v.2.2.2.2.2.2.2.1,v.2.2.2.2.2.2.2.2.1,v.2.2.2.2.2.2.2.2.2.1,v.2.2.2.2.2.2.2.2.2.2.1,v.2.2.2.2.2.2.2.2.2.2.2.1,v.1,())then aT (k58 (v.2.1,v.2.2.1,v.2.2.2.1,v.2.2.2.2.1,v.2.2.2.2.2.1,v.2.2.2.2.2.2.1,v.2.2.2.2.2.2.2.1,v.2.2.2.2.2.2.2.2.1,v.2.2.2.2.2.2.2.2.2.1,v.2.2.2.2.2.2.2.2.2.2.1,v.2.2.2.2.2.2.2.2.2.2.2.1,v.1,())) (some (aB wK ((m58 (v.2.1,v.2.2.1,v.2.2.2.1,v.2.2.2.2.1,v.2.2.2.2.2.1,v.2.2.2.2.2.2.1,v.2.2.2.2.2.2.2.1,v.2.2.2.2.2.2.2.2.1,v.2.2.2.2.2.2.2.2.2.1,v.2.2.2.2.2.2.2.2.2.2.1,v.2.2.2.2.2.2.2.2.2.2.2.1,v.1,())).1,())))else some (aB wK (false,()))))
   else some (aB wK ((gP f194 ra pU c).1,())))))
  else some (aB wK ((gP f192 q9 pT b).1,())))))
 else some (aB wK ((gP f190 oP nu a).1,()))):=by
 subst hv;subst hc;subst hu;subst hb;subst hL;subst hz;subst ha;subst hf
 kernel_rfl
theorem aeu(y:aj tM)(n i:Int):(f8x (aB BQ (y.1,y.2.1,y.2.2.1,y.2.2.2.1,y.2.2.2.2.1,y.2.2.2.2.2.1,y.2.2.2.2.2.2.1,y.2.2.2.2.2.2.2.1,y.2.2.2.2.2.2.2.2.1,y.2.2.2.2.2.2.2.2.2.1,y.2.2.2.2.2.2.2.2.2.2.1,n,i,()))).val=
 bif decide (i<n)then aT (k20 (y.1,y.2.1,y.2.2.1,y.2.2.2.1,y.2.2.2.2.1,y.2.2.2.2.2.1,y.2.2.2.2.2.2.1,y.2.2.2.2.2.2.2.1,y.2.2.2.2.2.2.2.2.1,y.2.2.2.2.2.2.2.2.2.1,y.2.2.2.2.2.2.2.2.2.2.1,i,())) (bif !(m20 (y.1,y.2.1,y.2.2.1,y.2.2.2.1,y.2.2.2.2.1,y.2.2.2.2.2.1,y.2.2.2.2.2.2.1,y.2.2.2.2.2.2.2.1,y.2.2.2.2.2.2.2.2.1,y.2.2.2.2.2.2.2.2.2.1,y.2.2.2.2.2.2.2.2.2.2.1,i,())).2.1 then some (Rs.out 1 (aB sY (12,())))else some (Rs.next (aB BQ (y.1,y.2.1,y.2.2.1,y.2.2.2.1,y.2.2.2.2.1,y.2.2.2.2.2.1,y.2.2.2.2.2.2.1,y.2.2.2.2.2.2.2.1,y.2.2.2.2.2.2.2.2.1,y.2.2.2.2.2.2.2.2.2.1,y.2.2.2.2.2.2.2.2.2.2.1,n,cr .i64 i 1,()))))else some (Rs.out 0 (aB vB ())):=by kernel_rfl
theorem eq8(V:ByteArray->Bool)(y:aj tM):(t8 V (y.1,y.2.1,y.2.2.1,y.2.2.2.1,y.2.2.2.2.1,y.2.2.2.2.2.1,y.2.2.2.2.2.2.1,y.2.2.2.2.2.2.2.1,y.2.2.2.2.2.2.2.2.1,y.2.2.2.2.2.2.2.2.2.1,y.2.2.2.2.2.2.2.2.2.2.1,())).val=
 aT (Ge V (y.1,y.2.1,y.2.2.1,y.2.2.2.1,y.2.2.2.2.1,y.2.2.2.2.2.1,y.2.2.2.2.2.2.1,y.2.2.2.2.2.2.2.1,y.2.2.2.2.2.2.2.2.1,y.2.2.2.2.2.2.2.2.2.1,y.2.2.2.2.2.2.2.2.2.2.1,())) (bif !decide (nh V (y.1,y.2.1,y.2.2.1,y.2.2.2.1,y.2.2.2.2.1,y.2.2.2.2.2.1,y.2.2.2.2.2.2.1,y.2.2.2.2.2.2.2.1,y.2.2.2.2.2.2.2.2.1,y.2.2.2.2.2.2.2.2.2.1,y.2.2.2.2.2.2.2.2.2.2.1,())=0)then some (aB Uh (nh V (y.1,y.2.1,y.2.2.1,y.2.2.2.1,y.2.2.2.2.1,y.2.2.2.2.2.1,y.2.2.2.2.2.2.1,y.2.2.2.2.2.2.2.1,y.2.2.2.2.2.2.2.2.1,y.2.2.2.2.2.2.2.2.2.1,y.2.2.2.2.2.2.2.2.2.2.1,()),()))else aT (k19 (y.1,y.2.1,y.2.2.1,y.2.2.2.1,y.2.2.2.2.1,y.2.2.2.2.2.1,y.2.2.2.2.2.2.1,y.2.2.2.2.2.2.2.1,y.2.2.2.2.2.2.2.2.1,y.2.2.2.2.2.2.2.2.2.1,y.2.2.2.2.2.2.2.2.2.2.1,())) (bif !(m19 (y.1,y.2.1,y.2.2.1,y.2.2.2.1,y.2.2.2.2.1,y.2.2.2.2.2.1,y.2.2.2.2.2.2.1,y.2.2.2.2.2.2.2.1,y.2.2.2.2.2.2.2.2.1,y.2.2.2.2.2.2.2.2.2.1,y.2.2.2.2.2.2.2.2.2.2.1,())).1 then some (aB Uh (12,()))else
  aT (rP f8x BQ vB sY (y.1,y.2.1,y.2.2.1,y.2.2.2.1,y.2.2.2.2.1,y.2.2.2.2.2.1,y.2.2.2.2.2.2.1,y.2.2.2.2.2.2.2.1,y.2.2.2.2.2.2.2.2.1,y.2.2.2.2.2.2.2.2.2.1,y.2.2.2.2.2.2.2.2.2.2.1,(y.2.2.2.2.2.2.2.2.2.1.length:Int),0,())) (bif qQ f8x BQ (y.1,y.2.1,y.2.2.1,y.2.2.2.1,y.2.2.2.2.1,y.2.2.2.2.2.1,y.2.2.2.2.2.2.1,y.2.2.2.2.2.2.2.1,y.2.2.2.2.2.2.2.2.1,y.2.2.2.2.2.2.2.2.2.1,y.2.2.2.2.2.2.2.2.2.2.1,(y.2.2.2.2.2.2.2.2.2.1.length:Int),0,())then some (aB Uh (0,()))else some (aB Uh ((gP f8x BQ sY (y.1,y.2.1,y.2.2.1,y.2.2.2.1,y.2.2.2.2.1,y.2.2.2.2.2.1,y.2.2.2.2.2.2.1,y.2.2.2.2.2.2.2.1,y.2.2.2.2.2.2.2.2.1,y.2.2.2.2.2.2.2.2.2.1,y.2.2.2.2.2.2.2.2.2.2.1,(y.2.2.2.2.2.2.2.2.2.1.length:Int),0,())).1,()))))):=by kernel_rfl
end Go.Proofs.Vd

noncomputable section
namespace Go.Proofs.Vd
open Go.Ab Go.Ab.Lf
set_option maxRecDepth 100000
abbrev zb(x:Int)(r:Bool):Bool:=bif decide (x=0)then r else false
theorem aam(o a b lo hi:Int)(l:List Int)(f:Int)(h:(DL (o,a,b,lo,hi,l,f,())).1=true):f=4∨l=[]:=by
 by_cases h4:f=4
 ·exact .inl h4
 ·refine .inr ?_
  have e:(ja (Ps [pI,.n .i64]) [] (Ps [.bo]) (fun _=>none) Tryz.SQ 3 (dG [] 3) (aB t87 (o,a,b,lo,hi,l,f,()))).val=
   (let R:=fun(x:Bool)=>some (aB [.bool] (x,()))
   bif (bif !decide (f=4)then decide (0<(l.length:Int))else false)then R false else
   bif decide (f=2)then R (zb b (zb lo (decide (hi=0))))else bif decide (f=3)then R (zb b (zb lo (decide (hi=0))))else bif decide (f=5)then R (zb b (zb lo (decide (hi=0))))else bif decide (f=4)then R (zb b (zb lo (decide (hi=0))))else bif decide (f=13)then R (zb b (zb lo (decide (hi=0))))else
   bif decide (f=6)then R (zb lo (decide (hi=0)))else bif decide (f=7)then R (zb lo (decide (hi=0)))else
   bif decide (f=8)then R (decide (hi=0))else
   bif decide (f=9)then R (zb a (zb b (decide (hi=0))))else bif decide (f=10)then R (zb a (zb b (decide (hi=0))))else
   bif decide (f=11)then R (zb a (zb b true))else bif decide (f=12)then R (zb a (zb b true))else R (zb a (zb b (zb lo (decide (hi=0)))))):=by kernel_rfl
  cases l with
  |nil=>rfl
  |cons x l=>
   exfalso
   have c:(bif !decide (f=4)then decide (0<((x::l).length:Int))else false)=true:=by
    rw[decide_eq_false h4]
    exact decide_eq_true (by simp only[List.length_cons];omega)
   dsimp only at e
   rw[c,cond_true]at e
   have:=(jE (to:=[.bool]) (y:=(false,())) e).2
   unfold DL at h
   rw[this]at h
   cases h
theorem bh{α:Type}{c:Bool}{x:Option α}{y:α}(h:aT c x=some y):c=true/\x=some y:=by
 unfold aT at h
 cases c with
 |true=>exact⟨rfl,h⟩
 |false=>cases h
theorem Ut(l:List Int): ∀ (s:List Int) (k:Bool),(qX (s,k) l).2=(k&&l.all lA)/\s.length+l.length<=(qX (s,k) l).1.length:=by
 induction l with
 |nil=>intro s k;exact⟨by simp[qX],by simp[qX]⟩
 |cons x l ih=>
  intro s k
  obtain⟨h1,h2⟩:=ih (s++jr (bf .u64 x)) (bif k then lA x else false)
  have e:qX (s,k) (x::l)=qX (s++jr (bf .u64 x),bif k then lA x else false) l:=rfl
  have hp:1<=(jr (bf .u64 x)).length:=by unfold jr;simp
  rw[e]
  refine⟨?_,?_⟩
  ·rw[h1,List.all_cons]
   cases k<;>cases lA x<;>rfl
  ·rw[List.length_append]at h2
   simp only[List.length_cons]
   omega
theorem rb{n:Int}(h:lA n=true):0<=n/\n<4294967296:=by
 unfold lA at h
 rw[Bool.cond_false_right,Bool.and_eq_true,decide_eq_true_eq,decide_eq_true_eq]at h
 exact h
theorem Uu{p:List Int}{o a b lo hi:Int}{l B:List Int}(hp:1<=p.length)(h:uB Prod.mk p o a b lo hi l=some (B,true)):
 (∀ f,f=(kB o).1->(f=3∨f=4∨f=5∨f=6)->0<=a/\a<4294967296)/\((kB o).1=4-> ∀ x,x∈l->(0:Int)<=x)/\1<=B.length/\((kB o).1=4->l.length<=B.length):=by
 unfold uB at h
 dsimp only at h
 obtain⟨f,hf⟩: ∃ f:Int,(kB o).1=f:=⟨_,rfl⟩
 rw[hf]at h ⊢
 have no: ∀ (g:Int),g=f->(g=3∨g=4∨g=5∨g=6)-> ¬ (f=3∨f=4∨f=5∨f=6)->False:=fun g hg k c=>by subst hg;exact c k
 have Kv:f=4-> ¬ f=4->False:=fun k c=>c k
 have base: ∀ {u:List Int} {v:Bool},some (app p u,v)=some (B,true)->v=true/\1<=B.length:=by
  intro u v e
  cases e
  exact⟨rfl,by rw[bp,List.length_append];omega⟩
 by_cases f1:f=1
 ·rw[decide_eq_true f1]at h
  cases h
  exact⟨fun g hg k=>(no g hg k (by omega)).elim,fun k=>(Kv k (by omega)).elim,hp,fun k=>(Kv k (by omega)).elim⟩
 rw[decide_eq_false f1,cond_false]at h
 by_cases f2:f=2
 ·rw[decide_eq_true f2,cond_true]at h
  have hB:1<=B.length:=by
   have one: ∀ {u:List Int},aT (roomy 1 (p.length+1)) (some (app p u,true))=some (B,true)->1<=B.length:=fun e=>(base (bh e).2).2
   cases d1:decide (a= -64)with
   |true=>rw[d1]at h;exact(base (bh h).2).2
   |false=>
    rw[d1,cond_false]at h
    cases d2:decide (a= -1)with
    |true=>rw[d2]at h;exact(base (bh h).2).2
    |false=>
     rw[d2,cond_false]at h
     cases d3:decide (a= -2)with
     |true=>rw[d3]at h;exact(base (bh h).2).2
     |false=>
      rw[d3,cond_false]at h
      cases d4:decide (a= -5)with
      |true=>rw[d4]at h;exact(base (bh h).2).2
      |false=>
       rw[d4,cond_false]at h
       exact(base (bh (bh (bh (bh h).2).2).2).2).2
  exact⟨fun g hg k=>(no g hg k (by omega)).elim,fun k=>(Kv k (by omega)).elim,hB,fun k=>(Kv k (by omega)).elim⟩
 rw[decide_eq_false f2,cond_false]at h
 by_cases f3:f=3
 ·rw[decide_eq_true f3,cond_true]at h
  obtain⟨q1,q2⟩:=base (bh (bh h).2).2
  exact⟨fun g hg k=>rb q1,fun k=>(Kv k (by omega)).elim,q2,fun k=>(Kv k (by omega)).elim⟩
 rw[decide_eq_false f3,cond_false]at h
 by_cases f5:f=5
 ·rw[decide_eq_true f5,cond_true]at h
  obtain⟨q1,q2⟩:=base (bh (bh h).2).2
  exact⟨fun g hg k=>rb q1,fun k=>(Kv k (by omega)).elim,q2,fun k=>(Kv k (by omega)).elim⟩
 rw[decide_eq_false f5,cond_false]at h
 by_cases f4:f=4
 ·rw[decide_eq_true f4,cond_true]at h
  have h:=(bh (bh (bh (bh h).2).2).2).2
  obtain⟨t1,t2⟩:=Ut l (app p (jr (bf .u64 (Int.ofNat l.length)))) (Cm o)
  cases ht:(qX (app p (jr (bf .u64 (Int.ofNat l.length))),Cm o) l).2 with
  |false=>rw[ht]at h;cases h
  |true=>
   rw[ht,cond_true]at h
   have hB:(qX (app p (jr (bf .u64 (Int.ofNat l.length))),Cm o) l).1.length<=B.length/\lA a=true:=by
    injection h with h
    have e1:app _ _=B:=congrArg Prod.fst h
    have e2:lA a=true:=congrArg Prod.snd h
    exact⟨by rw[<-e1];simp only[bp,List.length_append];omega,e2⟩
   rw[ht]at t1
   have t1:=t1.symm
   rw[Bool.and_eq_true,List.all_eq_true]at t1
   have W0:1<=(app p (jr (bf .u64 (Int.ofNat l.length)))).length:=by rw[bp,List.length_append];omega
   exact⟨fun g hg k=>rb hB.2,fun k x hx=>(rb (t1.2 x hx)).1,by omega,fun _=>by omega⟩
 rw[decide_eq_false f4,cond_false]at h
 by_cases f6:f=6
 ·rw[decide_eq_true f6,cond_true]at h
  have h:=(bh (bh (bh (bh (bh (bh (bh h).2).2).2).2).2).2).2
  cases hn:lA a with
  |false=>rw[hn]at h;cases h
  |true=>
   rw[hn,cond_true]at h
   have hB:1<=B.length:=by
    injection h with h
    have e1:app (app p _) _=B:=congrArg Prod.fst h
    rw[<-e1]
    simp only[bp,List.length_append]
    omega
   exact⟨fun g hg k=>rb hn,fun k=>(Kv k (by omega)).elim,hB,fun k=>(Kv k (by omega)).elim⟩
 rw[decide_eq_false f6,cond_false]at h
 have hB:1<=B.length:=by
  by_cases f7:f=7
  ·rw[decide_eq_true f7,cond_true]at h
   have h:=(bh (bh (bh (bh (bh (bh (bh h).2).2).2).2).2).2).2
   cases hn:lA a with
   |false=>rw[hn]at h;cases h
   |true=>
    rw[hn,cond_true]at h
    injection h with h
    have e1:app (app p _) _=B:=congrArg Prod.fst h
    rw[<-e1]
    simp only[bp,List.length_append]
    omega
  rw[decide_eq_false f7,cond_false]at h
  by_cases f8:f=8
  ·rw[decide_eq_true f8,cond_true]at h
   have h:=(bh (bh (bh (bh (bh (bh h).2).2).2).2).2).2
   cases hn:lA a with
   |false=>rw[hn]at h;cases h
   |true=>
    rw[hn,cond_true]at h
    cases hm:lA b with
    |false=>rw[hm]at h;cases h
    |true=>
     rw[hm,cond_true]at h
     injection h with h
     have e1:app (app (app p _) _) _=B:=congrArg Prod.fst h
     rw[<-e1]
     simp only[bp,List.length_append]
     omega
  rw[decide_eq_false f8,cond_false]at h
  have h:=(bh h).2
  injection h with h
  have e1:p++_=B:=congrArg Prod.fst h
  rw[<-e1]
  rw[List.length_append]
  omega
 exact⟨fun g hg k=>(no g hg k (by omega)).elim,fun k=>(Kv k (by omega)).elim,hB,fun k=>(Kv k (by omega)).elim⟩
theorem OI{p:List Int}{o a b lo hi:Int}{l B:List Int}(h:uB Prod.mk p o a b lo hi l=some (B,true))(f2:(kB o).1=2):BkA a:=by
 unfold uB at h
 dsimp only at h
 rw[f2]at h
 have h:(bif decide (a= -64)then _ else bif decide (a= -1)then _ else bif decide (a= -2)then _ else bif decide (a= -5)then _ else aT _ (aT _ (aT _ (aT _ (some (app p (lL a),lA a))))))=some (B,true):=h
 by_cases e1:a= -64
 ·exact .inl e1
 by_cases e2:a= -1
 ·exact .inr (.inl e2)
 by_cases e3:a= -2
 ·exact .inr (.inr (.inl e3))
 by_cases e4:a= -5
 ·exact .inr (.inr (.inr (.inl e4)))
 rw[decide_eq_false e1,decide_eq_false e2,decide_eq_false e3,decide_eq_false e4]at h
 simp only[cond_false]at h
 have e:=(bh (bh (bh (bh h).2).2).2).2
 injection e with e
 have e:lA a=true:=congrArg Prod.snd e
 unfold lA at e
 by_cases e5:(0:Int)<=a
 ·exact .inr (.inr (.inr (.inr e5)))
 ·rw[decide_eq_false e5]at e
  cases e
theorem OJ{x:den tI}(hI:okI (mI x)=true)(h:(iI (mI x)).2=true):Cm x.1=true/\((kB x.1).1=4∨x.2.2.2.2.2=[])/\(∀ f,f=(kB x.1).1->(f=3∨f=4∨f=5∨f=6)->(0:Int)<=x.2.1/\(x.2.1:Int)<4294967296)/\((kB x.1).1=4-> ∀ l,l∈x.2.2.2.2.2->(0:Int)<=l)/\1<=(iI (mI x)).1.length/\((kB x.1).1=4->List.length x.2.2.2.2.2<=(iI (mI x)).1.length)/\((kB x.1).1=2->BkA x.2.1):=by
 have e:=(xg hI).2 (List Int×Bool) Prod.mk
 rw[h]at e
 have e:yI Prod.mk x.1 x.2.1 x.2.2.1 x.2.2.2.1 x.2.2.2.2.1 x.2.2.2.2.2=some ((iI (mI x)).1,true):=e
 unfold yI at e
 dsimp only at e
 cases h1:Cm x.1 with
 |false=>
  rw[h1]at e
  injection e with e
  have e2:false=true:=congrArg Prod.snd e
  cases e2
 |true=>
  rw[h1]at e
  simp only[Bool.not_true,cond_false]at e
  cases h2:(DL (x.1,x.2.1,x.2.2.1,x.2.2.2.1,x.2.2.2.2.1,x.2.2.2.2.2,(kB x.1).1,())).1 with
  |false=>
   rw[h2]at e
   injection e with e
   have e2:false=true:=congrArg Prod.snd e
   cases e2
  |true=>
   rw[h2]at e
   simp only[Bool.not_true,cond_false]at e
   have hr:=aam _ _ _ _ _ _ _ h2
   have hT: ∃ p:List Int,1<=p.length/\uB Prod.mk p x.1 x.2.1 x.2.2.1 x.2.2.2.1 x.2.2.2.2.1 x.2.2.2.2.2=some ((iI (mI x)).1,true):=by
    cases hd:decide (64768<=x.1)with
    |true=>
     rw[hd]at e
     exact⟨_,by rw[bp,List.length_append];simp,(bh (bh (bh e).2).2).2⟩
    |false=>
     rw[hd]at e
     exact⟨_,by simp,(bh e).2⟩
   obtain⟨p,p1,p2⟩:=hT
   obtain⟨q1,q2,q3,q4⟩:=Uu p1 p2
   exact⟨rfl,hr,q1,q2,q3,q4,OI p2⟩
end Go.Proofs.Vd

noncomputable section
namespace Go.Proofs.Vd
open Go.Ab Go.Ab.Lf
set_option maxRecDepth 100000
theorem OK(x:den tI)(c:List (den tI))(out:List Int):qo (x::c) out=bif (iI (mI x)).2 then qo c (out++(iI (mI x)).1)else none:=by
 show gq yJ some (x::c) out=_
 rw[gq]
 unfold yJ
 cases(iI (mI x)).2<;>rfl
theorem OL: ∀ (c:List (den tI)) (out B:List Int),F5 c=true->qo c out=some B->(∀ x,x∈c->(iI (mI x)).2=true)/\out.length+c.length<=B.length/\ ∀ x,x∈c->List.length x.2.2.2.2.2<=B.length
 | [],out,B,_,h=>by cases h;exact⟨(fun x hx=>by cases hx),(by simp),(fun x hx=>by cases hx)⟩
 |x::c,out,B,hc,h=>by
  obtain⟨h1,h2⟩:=jM hc
  rw[OK]at h
  cases hp:(iI (mI x)).2 with
  |false=>rw[hp]at h;cases h
  |true=>
   rw[hp,cond_true]at h
   obtain⟨a,b,d⟩:=OL c _ B h2 h
   obtain⟨_,p2,_,_,p5,p6,_⟩:=OJ h1 hp
   rw[List.length_append]at b
   refine⟨fun z hz=>?_,by simp only[List.length_cons];omega,fun z hz=>?_⟩
   ·rcases List.mem_cons.1 hz with e|e
    ·subst e;exact hp
    ·exact a z e
   ·rcases List.mem_cons.1 hz with e|e
    ·subst e
     rcases p2 with p2|p2
     ·have:=p6 p2;omega
     ·rw[p2];exact Nat.zero_le _
    ·exact d z e
theorem aev{c:List (den tI)}(hc:qi c=true)(h:nU c=0)(hl:(pP c).length<=1048576):BOk c/\Un [] c:=by
 have hi:F5 c=true:=by simp only[qi,Bool.and_eq_true]at hc;exact hc.1
 unfold nU at h
 unfold pP at hl
 cases ho:F6 c with
 |none=>rw[ho]at h;cases h
 |some B=>
  rw[ho]at hl
  have hl:B.length<=1048576:=hl
  unfold F6 at ho
  cases fY:iT c with
  |false=>rw[fY]at ho;cases ho
  |true=>
   rw[fY,cond_true]at ho
   obtain⟨a,b,d⟩:=OL c [] B hi ho
   refine⟨⟨fun x hx=>?_,by simp only[List.length_nil]at b;omega⟩,?_⟩
   ·obtain⟨p1,p2,p3,p4,_,_,p7⟩:=OJ (oQ hi x hx) (a x hx)
    exact⟨p3,p4,by have:=d x hx;omega,p1,p7⟩
   ·unfold iT DF at fY
    unfold Un
    cases hf:gq yG (fun _=>(none:Option Bool)) c []with
    |none=>rw[hf]at fY;cases fY
    |some t=>rw[hf]at fY;exact congrArg some fY
theorem kK{t:Ty}{A:Item (den t)}{B:AB A}{most:Int}{l:List (den t)}(h:gX B most l=true):(l.length:Int)<=most/\ ∀ x,x∈l->B.p x=true:=by
 unfold gX at h
 rw[Bool.and_eq_true]at h
 refine⟨of_decide_eq_true h.1,fun x hx=>?_⟩
 have h2:=h.2
 have jN: ¬ (l.length:Int)=0:=by
  have:=List.length_pos_of_mem hx
  omega
 rw[decide_eq_false jN,cond_false,Bool.and_eq_true,Bool.and_eq_true,List.all_eq_true]at h2
 exact h2.1.2 x hx
theorem OM{t:Ty}{A:Item (den t)}{B:AB A}{id:Int}{l:List (den t)}{x:den t}(hx:x∈l):(B.bs x).length<=(oO B id l).length:=by
 have h1: ∀ l:List (den t),x∈l->(B.bs x).length<=(uF B l).length:=by
  intro l
  induction l with
  |nil=>intro h;cases h
  |cons a l ih=>
   intro h
   show _<=(B.bs a++uF B l).length
   rw[List.length_append]
   rcases List.mem_cons.1 h with e|e
   ·subst e;omega
   ·have:=ih e;omega
 have h2:=h1 l hx
 have jN: ¬ (l.length:Int)=0:=by
  have:=List.length_pos_of_mem hx
  omega
 unfold oO
 rw[decide_eq_false jN,cond_false]
 simp only[List.length_cons,List.length_append]
 omega
theorem AE(L:List Int)(i:Nat): ∀ (k n t:Nat),(∀ t,1<=t->t<n->L.getD (i+t) (aq i64)=L.getD i (aq i64))->1<=t->t<oJ L i k n->L.getD (i+t) (aq i64)=L.getD i (aq i64)
 |0,n,t,h,a,b=>h t a b
 |k+1,n,t,h,a,b=>by
  unfold oJ at b
  split at b
  ·rename_i hc
   refine AE L i k (n+1) t (fun t a b=>?_) a b
   by_cases e:t=n
   ·subst e;exact hc.2
   ·exact h t a (by omega)
  ·exact h t a b
theorem ON(L:List Int): ∀ (k i:Nat),L.length<=i+k->Gl L k i=true-> ∀ j,i<=j->j<L.length->qt (L.getD j (aq i64))=true
 |0,i,h,_,j,a,b=>by omega
 |k+1,i,h,hp,j,a,b=>by
  unfold Gl at hp
  rw[if_pos (by omega),Bool.and_eq_true,Bool.and_eq_true]at hp
  obtain⟨r1,r2⟩:=BJ L i (by omega)
  by_cases e:j<i+gW L (i:Int)
  ·by_cases e2:j=i
   ·subst e2;exact hp.2.1
   ·have e3:gW L (i:Int)=oJ L i L.length 1:=rfl
    have:=AE L i L.length 1 (j - i) (fun t a b=>by omega) (by omega) (by omega)
    rw[show i+(j - i)=j by omega]at this
    rw[this]
    exact hp.2.1
  ·exact ON L k (i+gW L (i:Int)) (by omega) hp.2.2 j (by omega) b
structure MOk(y:aj tM):Prop where
 ty:zL y
 tk: ∀ s:den aI,s∈y.1->List.all s.1 qt=true/\List.all s.2 qt=true
 lt:y.1.length<=512
 li:y.2.1.length<=512
 lf:y.2.2.1.length<=512
 lb:y.2.2.2.1.length<=512
 lm:y.2.2.2.2.1.length<=512
 lg:y.2.2.2.2.2.1.length<=512
 lx:y.2.2.2.2.2.2.1.length<=512
 le:y.2.2.2.2.2.2.2.2.1.length<=512
 lc:y.2.2.2.2.2.2.2.2.2.1.length<=512
 ld:y.2.2.2.2.2.2.2.2.2.2.1.length<=512
 fc:y.2.2.1.length=y.2.2.2.2.2.2.2.2.2.1.length
 cd: ∀ C:den aK,C∈y.2.2.2.2.2.2.2.2.2.1->I0 C/\List.all C.1 qt=true
 ex: ∀ e:den aP,e∈y.2.2.2.2.2.2.1->(0:Int)<=e.2.1/\(e.2.1:Int)<=3
 st:(-1:Int)<=y.2.2.2.2.2.2.2.1/\(y.2.2.2.2.2.2.2.1:Int)<4294967296
 gk: ∀ g:den aC,g∈y.2.2.2.2.2.1->qt g.1=true
 el: ∀ e:den aG,e∈y.2.2.2.2.2.2.2.2.1->List.length e.2<=1024
 x0:Z9 y.2.2.2.2.2.2.1=true
theorem mok{V:ByteArray->Bool}{y:aj tM}(hE:Ge V y=true)(hP:Oe V y=true)(hB:(Qh V y).length<=1048576)(hx:Z9 y.2.2.2.2.2.2.1=true):MOk y:=by
 have hM:VW V y=true:=by unfold Ge at hE;rw[Bool.and_eq_true]at hE;exact hE.1
 unfold VW at hM
 simp only[Bool.and_eq_true]at hM
 obtain⟨_,_,_,_,_,g6,_,g8,g9,g10⟩:=hM
 unfold Oe at hP
 rw[Bool.and_eq_true,Bool.and_eq_true,Bool.and_eq_true]at hP
 obtain⟨p0,p1,p2,p3⟩:=hP
 unfold ZL at p1
 unfold ZM at p3
 simp only[Bool.and_eq_true]at p1 p3
 obtain⟨a1,a2,a3,a4,a5,a6,a7⟩:=p1
 obtain⟨a9,a10,a11⟩:=p3
 have b1:=kK a1
 have b2:=kK a2
 have b3:=kK a3
 have b4:=kK a4
 have b5:=kK a5
 have b6:=kK a6
 have b7:=kK a7
 have b9:=kK a9
 have b10:=kK a10
 have b11:=kK a11
 have apE:(oO D0 10 y.2.2.2.2.2.2.2.2.2.1).length<=1048576:=by
  have:(Qh V y).length=(ZK V y).length+((stB y.2.2.2.2.2.2.2.1).length+(Ob y).length):=by unfold Qh;rw[List.length_append,List.length_append]
  have:(Ob y).length=(oO JK 9 y.2.2.2.2.2.2.2.2.1).length+((oO D0 10 y.2.2.2.2.2.2.2.2.2.1).length+(oO DY 11 y.2.2.2.2.2.2.2.2.2.2.1).length):=by unfold Ob;rw[List.length_append,List.length_append]
  omega
 have ty: ∀ s:den aI,s∈y.1->(List.length s.1<=32/\List.length s.2<=32)/\List.all s.1 qt=true/\List.all s.2 qt=true:=by
  intro s hs
  have h:=b1.2 s hs
  have h:(bif decide ((List.length s.1:Int)<=32)then decide ((List.length s.2:Int)<=32)&&(true&&([(List.length s.1:Int)].all iM&&(List.all s.1 qt&&([(List.length s.2:Int)].all iM&&List.all s.2 qt))))else false&&(true&&([(List.length s.1:Int)].all iM&&(List.all s.1 qt&&([(List.length s.2:Int)].all iM&&List.all s.2 qt)))))=true:=h
  by_cases q:(List.length s.1:Int)<=32
  ·rw[decide_eq_true q,cond_true]at h
   simp only[Bool.and_eq_true,decide_eq_true_eq]at h
   exact⟨⟨by omega,by have:=h.1;omega⟩,h.2.2.2.1,h.2.2.2.2.2⟩
  ·rw[decide_eq_false q]at h
   cases h
 refine⟨fun s hs=>(ty s hs).1,fun s hs=>(ty s hs).2,by omega,by omega,by omega,by omega,by omega,by omega,by omega,by omega,by omega,by omega,by have:=of_decide_eq_true p0;omega,fun C hC=>?_,fun e he=>?_,?_,fun g hg=>?_,fun e he=>?_,hx⟩
 ·have h:=b10.2 C hC
  have h:(decide ((List.length C.1:Int)<=512)&&(Qg C&&iM ((zK C).length:Int)))=true:=h
  rw[Bool.and_eq_true,Bool.and_eq_true]at h
  obtain⟨h1,h2,h3⟩:=h
  unfold Qg at h2
  rw[Bool.and_eq_true,Bool.and_eq_true]at h2
  have hl:(pP C.2).length<=1048576:=by
   have h4:(nb ((zK C).length:Int)++zK C).length<=_:=OM (B:=D0) (id:=10) hC
   have h5:(zK C).length=(nb (ek C.1 0)).length+((DZ C.1 (List.length C.1) 0).length+(pP C.2).length):=by unfold zK;rw[List.length_append,List.length_append]
   rw[List.length_append]at h4
   omega
  have hok:qi C.2=true:=oQ g9 C hC
  obtain⟨q1,q2⟩:=aev hok (of_decide_eq_true h2.2.2) hl
  refine⟨⟨q1,q2,by have:=of_decide_eq_true h1;omega⟩,?_⟩
  rw[List.all_eq_true]
  intro t ht
  obtain⟨j,hj,e⟩:=List.getElem_of_mem ht
  have:=ON C.1 (List.length C.1) 0 (by omega) h2.2.1 j (Nat.zero_le _) hj
  rw[List.getD_eq_getElem?_getD,List.getElem?_eq_getElem hj]at this
  rw[<-e]
  exact this
 ·have h:=b7.2 e he
  have h:(bif decide ((0:Int)<=e.2.1)then decide ((e.2.1:Int)<=3)&&(ZI V e.1&&(true&&[e.2.2].all iM))else false&&(ZI V e.1&&(true&&[e.2.2].all iM)))=true:=h
  by_cases q:(0:Int)<=e.2.1
  ·rw[decide_eq_true q,cond_true,Bool.and_eq_true]at h
   exact⟨q,of_decide_eq_true h.1⟩
  ·rw[decide_eq_false q]at h
   cases h
 ·unfold stP at p2
  rw[Bool.and_eq_true]at p2
  refine⟨of_decide_eq_true p2.1,?_⟩
  by_cases q:(0:Int)<=y.2.2.2.2.2.2.2.1
  ·have h:=p2.2
   rw[decide_eq_true q,cond_true,Bool.and_eq_true]at h
   have h:=h.1
   unfold iM at h
   rw[Bool.and_eq_true]at h
   exact of_decide_eq_true h.2
  ·have key: ∀ a:Int,¬ 0<=a->a<4294967296:=fun a _=>by omega
   exact key _ q
 ·have h:=b6.2 g hg
  have h:([(g.1:Int)].all qt&&bif g.2.1 then true&&decide (nU g.2.2=0)else true&&decide (nU g.2.2=0))=true:=h
  rw[Bool.and_eq_true]at h
  have h:=h.1
  simpa using h
 ·have h:=b9.2 e he
  have h:(decide ((List.length e.2:Int)<=1024)&&_)=true:=h
  rw[Bool.and_eq_true]at h
  have:=of_decide_eq_true h.1
  omega
end Go.Proofs.Vd

noncomputable section
namespace Go.Proofs.Vd
open Go.Ab Go.Ab.Lf
set_option maxRecDepth 100000
theorem pY{α:Type}{f:List Pl->T Rs}{l:List α}(st:Nat->List Pl)(p:α->Bool)(o0 o1:List Pl)
 (uo: ∀ j x r,l.drop j=x::r->(f (st j)).val=some (bif p x then .next (st (j+1))else .out 1 o1))(BA:(f (st l.length)).val=some (.out 0 o0)):gM f (st 0) (bif l.all p then 0 else 1) (bif l.all p then o0 else o1):=by
 have key: ∀ (r:List α) (j:Nat),l.drop j=r->j<=l.length->gM f (st j) (bif r.all p then 0 else 1) (bif r.all p then o0 else o1):=by
  intro r
  induction r with
  |nil=>
   intro j h hj
   have:j=l.length:=by have:=List.drop_eq_nil_iff.1 h;omega
   subst this
   exact .last BA
  |cons x r ih=>
   intro j h hj
   have gG:j<l.length:=by
    rcases Nat.lt_or_ge j l.length with k|k
    ·exact k
    ·rw[List.drop_eq_nil_of_le k]at h;cases h
   have hr:l.drop (j+1)=r:=by rw[<-List.tail_drop,h];rfl
   have hs:=uo j x r h
   rw[List.all_cons]
   cases hp:p x with
   |true=>rw[hp]at hs;rw[Bool.true_and];exact .more hs (ih (j+1) hr gG)
   |false=>rw[hp]at hs;exact .last hs
 exact key l 0 rfl (Nat.zero_le _)
def oV(l:List (List (den ak))):Nat:=l.foldr (fun x n=>x.length+n) 0
theorem Gz(l:List (List (den ak))): ∀ (s:List (den ak)),l.foldl (fun s x=>s++x) s=s++l.flatten:=by
 induction l with
 |nil=>intro s;simp
 |cons x l ih=>intro s;show l.foldl _ (s++x)=_;rw[ih];simp
theorem GA(l:List (List (den ak))): ∀ (s:Nat),l.foldl (fun s x=>s+x.length) s=s+oV l:=by
 induction l with
 |nil=>intro s;rfl
 |cons x l ih=>intro s;show l.foldl _ (s+x.length)=s+(x.length+oV l);rw[ih];omega
theorem aan(c:List (List (den ak)))(hc:c.length+oV c<=1073741824):gM Gq (aB uJ (c,((0:Nat):Int),c,(c.length:Int),((0:Nat):Int),())) 0 (aB lW (c,(oV c:Int),())):=by
 have r0:=JD (f:=Gq) (l:=c) (fun(s:Nat) j=>aB uJ (c,(s:Int),c,(c.length:Int),(j:Int),())) (fun s x=>.inl (s+x.length)) (fun s=>(0,aB lW (c,(s:Int),()))) (fun s r=>s+oV r<=1073741824) (fun s j x r e hi=>by
  obtain⟨e1,e2⟩:=dm e (aq (.ae ak))
  have e2:c.getD j (aq (.ae ak))=x:=e2
  have Xf:s+(x.length+oV r)<=1073741824:=hi
  have A0:decide (((s+x.length:Nat):Int)<0)=false:=decide_eq_false (by omega)
  have hq:cr .i64 (s:Int) (x.length:Int)=((s+x.length:Nat):Int):=Bz (by omega)
  refine⟨?_,fun s' e=>by cases e;exact(by omega:s+x.length+oV r<=1073741824)⟩
  rw[We c c (s:Int) (c.length:Int) (j:Int) ((s+x.length:Nat):Int) (by rw[Int.toNat_natCast,e2];exact hq.symm),ed e1,cond_true,BR e1,A0,kv (by omega)]
  rfl) (fun s j e hj _=>by
  have:j=c.length:=by have:=List.drop_eq_nil_iff.1 e;omega
  subst this
  rw[We c c (s:Int) (c.length:Int) (c.length:Int) _ rfl,di (Nat.le_refl _)]
  rfl) c 0 0 rfl (by omega) (by omega)
 rw[fH,GA,Nat.zero_add]at r0
 exact r0
theorem aao(c:List (List (den ak)))(hc:c.length+oV c<=1073741824):gM D4 (aB sr ([],c,(c.length:Int),((0:Nat):Int),())) 0 (aB lX (c.flatten,())):=by
 have r2:=JD (f:=D4) (l:=c) (fun(s:List (den ak)) j=>aB sr (s,c,(c.length:Int),(j:Int),())) (fun s x=>.inl (s++x)) (fun s=>(0,aB lX (s,()))) (fun s r=>s.length+oV r<=1073741824) (fun s j x r e hi=>by
  obtain⟨e1,e2⟩:=dm e (aq (.ae ak))
  have e2:c.getD j (aq (.ae ak))=x:=e2
  have Xf:s.length+(x.length+oV r)<=1073741824:=hi
  refine⟨?_,fun s' e=>by cases e;rw[List.length_append];omega⟩
  rw[Wf s c (c.length:Int) (j:Int) x (by rw[Int.toNat_natCast];exact e2.symm),ed e1,cond_true,BR e1,bO (by omega) (by omega),bp,kv (by omega)]
  rfl) (fun s j e hj _=>by
  have:j=c.length:=by have:=List.drop_eq_nil_iff.1 e;omega
  subst this
  rw[Wf s c (c.length:Int) (c.length:Int) _ rfl,di (Nat.le_refl _)]
  rfl) c 0 [] rfl (by omega) (by simp;omega)
 rw[fH,Gz,List.nil_append]at r2
 exact r2
theorem aex(c:List (List (den ak)))(hc:c.length+oV c<=1073741824):(t55 (c,())).val=some (aB Gr (c.flatten,())):=by
 have v0:=kq (aan c hc)
 have v2:=kq (aao c hc)
 have hw:bN .i64 (oV c:Int) 0=(oV c:Int):=by
  show eX .i64 ((oV c:Int) - 0)=_
  rw[wrap_i64 (by omega) (by omega)]
  omega
 have A0:decide ((oV c:Int)<0)=false:=decide_eq_false (by omega)
 have c1:roomy 16 (0+(List.replicate (oV c:Int).toNat ((0,0):den ak)).length)=true:=bO (by omega) (by rw[List.length_replicate,Int.toNat_natCast];omega)
 have c2:dV 0 0 ((app [] (List.replicate (oV c:Int).toNat ((0,0):den ak))).length:Int)=true:=BS (j:=0) (Nat.zero_le _)
 have a1:qh Gq uJ lW (c,0,c,(c.length:Int),0,())=true:=v0.1
 have a3:qh D4 sr lX ([],c,(c.length:Int),0,())=true:=v2.1
 have a4:gP D4 sr lX ([],c,(c.length:Int),0,())=(c.flatten,()):=v2.2
 rw[ajD c (c,(oV c:Int),()) v0.2.symm,a1]
 dsimp only
 rw[a3,a4,A0,hw]
 generalize aB Gr (c.flatten,())=R
 have c3:decide ((0:Int)<=(oV c:Int))=true:=decide_eq_true (by omega)
 rw[c1,c2,c3]
 cases decide ((0:Int)<(oV c:Int))<;>rfl
theorem pZ{f:List Pl->T Rs}{ti t0 t1:List Ty}{x:aj ti}{b:Bool}{u:aj t0}{v:aj t1}(h:gM f (aB ti x) (bif b then 0 else 1) (bif b then aB t0 u else aB t1 v)):rP f ti t0 t1 x=true/\qQ f ti x=b/\(b=true->gP f ti t0 x=u)/\(b=false->gP f ti t1 x=v):=by
 cases b with
 |true=>obtain⟨a,b,c⟩:=sQ (t0:=t0) (t1:=t1) (y:=u) h;exact⟨a,b,(fun _=>c),(fun e=>by cases e)⟩
 |false=>obtain⟨a,b,c⟩:=FY (t0:=t0) (t1:=t1) (y:=v) h;exact⟨a,b,(fun e=>by cases e),(fun _=>c)⟩
def Uv(y:aj tM)(fn:Int)(x:den aG):Bool:= !decide ((y.2.2.2.1.length:Int)=0)&&(uD x.1 127&&List.all x.2 (fun f=> !decide (fn<=f)))
def JU(y:aj tM)(x:den aD):Bool:= !decide ((y.2.2.2.2.1.length:Int)=0)&&uD x.1 127
def aap(y:aj tM)(fn:Int):Bool:=List.all y.2.2.2.2.2.2.2.2.1 (Uv y fn)&&List.all y.2.2.2.2.2.2.2.2.2.2.1 (JU y)
theorem aey(y:aj tM)(fn:Int)(h1:y.2.2.2.2.2.2.2.2.1.length<=1048576)(h2:y.2.2.2.2.2.2.2.2.2.2.1.length<=1048576)(h3: ∀ e:den aG,e∈y.2.2.2.2.2.2.2.2.1->List.length e.2<=1048576):(t58 (y.1,y.2.1,y.2.2.1,y.2.2.2.1,y.2.2.2.2.1,y.2.2.2.2.2.1,y.2.2.2.2.2.2.1,y.2.2.2.2.2.2.2.1,y.2.2.2.2.2.2.2.2.1,y.2.2.2.2.2.2.2.2.2.1,y.2.2.2.2.2.2.2.2.2.2.1,fn,())).val=some (aB D5 (aap y fn,())):=by
 have r0:=pY (f:=Gt) (l:=y.2.2.2.2.2.2.2.2.1) (fun j=>aB qj (fn,y.1,y.2.1,y.2.2.1,y.2.2.2.1,y.2.2.2.2.1,y.2.2.2.2.2.1,y.2.2.2.2.2.2.1,y.2.2.2.2.2.2.2.1,y.2.2.2.2.2.2.2.2.1,y.2.2.2.2.2.2.2.2.2.1,y.2.2.2.2.2.2.2.2.2.2.1,y.2.2.2.2.2.2.2.2.1,(y.2.2.2.2.2.2.2.2.1.length:Int),(j:Int),())) (Uv y fn) (aB nq (y.1,y.2.1,y.2.2.1,y.2.2.2.1,y.2.2.2.2.1,y.2.2.2.2.2.1,y.2.2.2.2.2.2.1,y.2.2.2.2.2.2.2.1,y.2.2.2.2.2.2.2.2.1,y.2.2.2.2.2.2.2.2.2.1,y.2.2.2.2.2.2.2.2.2.2.1,())) (aB nr (false,())) (fun j x r e=>by
  obtain⟨e1,e2⟩:=dm e (aq aG)
  have hx:x∈y.2.2.2.2.2.2.2.2.1:=by
   have:x∈y.2.2.2.2.2.2.2.2.1.drop j:=by rw[e];exact List.mem_cons_self
   exact List.mem_of_mem_drop this
  have hl:=h3 x hx
  have r2:=pY (f:=Gs) (l:=x.2) (fun k=>aB q7 (fn,y.1,y.2.1,y.2.2.1,y.2.2.2.1,y.2.2.2.2.1,y.2.2.2.2.2.1,y.2.2.2.2.2.2.1,y.2.2.2.2.2.2.2.1,y.2.2.2.2.2.2.2.2.1,y.2.2.2.2.2.2.2.2.2.1,y.2.2.2.2.2.2.2.2.2.2.1,y.2.2.2.2.2.2.2.2.1,(y.2.2.2.2.2.2.2.2.1.length:Int),(j:Int),x.2,(List.length x.2:Int),(k:Int),())) (fun f=> !decide (fn<=f)) _ _ (fun k f r e=>by
   obtain⟨e1,e2⟩:=dm e (aq i64)
   rw[Wb,ed e1,cond_true,BR e1,Int.toNat_natCast,e2,kv (by omega)]
   cases decide (fn<=f)<;>rfl) (by rw[Wb,di (Nat.le_refl _)];rfl)
  have q:=pZ (ti:=q7) (t0:=pR) (t1:=rF) (x:=(fn,y.1,y.2.1,y.2.2.1,y.2.2.2.1,y.2.2.2.2.1,y.2.2.2.2.2.1,y.2.2.2.2.2.2.1,y.2.2.2.2.2.2.2.1,y.2.2.2.2.2.2.2.2.1,y.2.2.2.2.2.2.2.2.2.1,y.2.2.2.2.2.2.2.2.2.2.1,y.2.2.2.2.2.2.2.2.1,(y.2.2.2.2.2.2.2.2.1.length:Int),(j:Int),x.2,(List.length x.2:Int),0,())) (u:=(fn,y.1,y.2.1,y.2.2.1,y.2.2.2.1,y.2.2.2.2.1,y.2.2.2.2.2.1,y.2.2.2.2.2.2.1,y.2.2.2.2.2.2.2.1,y.2.2.2.2.2.2.2.2.1,y.2.2.2.2.2.2.2.2.2.1,y.2.2.2.2.2.2.2.2.2.2.1,y.2.2.2.2.2.2.2.2.1,(y.2.2.2.2.2.2.2.2.1.length:Int),(j:Int),())) (v:=(false,())) r2
  obtain⟨q1,q2,q3,q4⟩:=q
  rw[Wc fn y _ _ _ x (by rw[Int.toNat_natCast];exact e2.symm) _ rfl _ rfl,ed e1,cond_true,BR e1,q1,q2]
  unfold Uv
  cases decide ((y.2.2.2.1.length:Int)=0)with
  |true=>rfl
  |false=>
   cases uD x.1 127 with
   |false=>rfl
   |true=>
    cases ha:List.all x.2 (fun f=> !decide (fn<=f))with
    |true=>rw[q3 ha];show some (Rs.next (aB qj (fn,y.1,y.2.1,y.2.2.1,y.2.2.2.1,y.2.2.2.2.1,y.2.2.2.2.2.1,y.2.2.2.2.2.2.1,y.2.2.2.2.2.2.2.1,y.2.2.2.2.2.2.2.2.1,y.2.2.2.2.2.2.2.2.2.1,y.2.2.2.2.2.2.2.2.2.2.1,y.2.2.2.2.2.2.2.2.1,(y.2.2.2.2.2.2.2.2.1.length:Int),cr .i64 (j:Int) 1,())))=_;rw[kv (by omega)];rfl
    |false=>rw[q4 ha];rfl) (by rw[Wc fn y _ _ _ _ rfl _ rfl _ rfl,di (Nat.le_refl _)];rfl)
 obtain⟨a1,a2,a3,a4⟩:=pZ (ti:=qj) (t0:=nq) (t1:=nr) (x:=(fn,y.1,y.2.1,y.2.2.1,y.2.2.2.1,y.2.2.2.2.1,y.2.2.2.2.2.1,y.2.2.2.2.2.2.1,y.2.2.2.2.2.2.2.1,y.2.2.2.2.2.2.2.2.1,y.2.2.2.2.2.2.2.2.2.1,y.2.2.2.2.2.2.2.2.2.2.1,y.2.2.2.2.2.2.2.2.1,(y.2.2.2.2.2.2.2.2.1.length:Int),0,())) (u:=(y.1,y.2.1,y.2.2.1,y.2.2.2.1,y.2.2.2.2.1,y.2.2.2.2.2.1,y.2.2.2.2.2.2.1,y.2.2.2.2.2.2.2.1,y.2.2.2.2.2.2.2.2.1,y.2.2.2.2.2.2.2.2.2.1,y.2.2.2.2.2.2.2.2.2.2.1,())) (v:=(false,())) r0
 have r4:=pY (f:=JP) (l:=y.2.2.2.2.2.2.2.2.2.2.1) (fun j=>aB sw (y.1,y.2.1,y.2.2.1,y.2.2.2.1,y.2.2.2.2.1,y.2.2.2.2.2.1,y.2.2.2.2.2.2.1,y.2.2.2.2.2.2.2.1,y.2.2.2.2.2.2.2.2.1,y.2.2.2.2.2.2.2.2.2.1,y.2.2.2.2.2.2.2.2.2.2.1,y.2.2.2.2.2.2.2.2.2.2.1,(y.2.2.2.2.2.2.2.2.2.2.1.length:Int),(j:Int),())) (JU y) (aB rG ()) (aB pS (false,())) (fun j x r e=>by
  obtain⟨e1,e2⟩:=dm e (aq aD)
  rw[Wd y _ _ _ x (by rw[Int.toNat_natCast];exact e2.symm),ed e1,cond_true,BR e1,kv (by omega)]
  unfold JU
  cases decide ((y.2.2.2.2.1.length:Int)=0)<;>cases uD x.1 127<;>rfl) (by rw[Wd y _ _ _ _ rfl,di (Nat.le_refl _)];rfl)
 obtain⟨b1,b2,b3,b4⟩:=pZ (ti:=sw) (t0:=rG) (t1:=pS) (x:=(y.1,y.2.1,y.2.2.1,y.2.2.2.1,y.2.2.2.2.1,y.2.2.2.2.2.1,y.2.2.2.2.2.2.1,y.2.2.2.2.2.2.2.1,y.2.2.2.2.2.2.2.2.1,y.2.2.2.2.2.2.2.2.2.1,y.2.2.2.2.2.2.2.2.2.2.1,y.2.2.2.2.2.2.2.2.2.2.1,(y.2.2.2.2.2.2.2.2.2.2.1.length:Int),0,())) (u:=()) (v:=(false,())) r4
 unfold aap
 cases hA:List.all y.2.2.2.2.2.2.2.2.1 (Uv y fn)with
 |false=>
  rw[hA]at a2
  rw[aet y fn _ rfl _ rfl _ rfl,a1,a2,a4 hA]
  rfl
 |true=>
  rw[hA]at a2
  rw[aet y fn _ rfl _ (a3 hA).symm _ rfl,a1,a2]
  cases hB:List.all y.2.2.2.2.2.2.2.2.2.2.1 (JU y)with
  |true=>rw[hB]at b2;simp only[aT,cond_true];rw[b1,b2];rfl
  |false=>rw[hB]at b2;simp only[aT,cond_true];rw[b1,b2,b4 hB];rfl
end Go.Proofs.Vd
