import Derived.Test.YtjeanplhkkpdmaaGreatDoorVdV4
noncomputable section
namespace Go.Proofs.Vd
open Go.Ab Go.Ab.Lf
set_option maxRecDepth 100000
theorem ajd(a c:List (List Int))(sz n i:Int)(q:Int)(hq:q=jR .i64 sz ((c.getD i.toNat (cr (.cq i64)):List Int).length:Int)):(O3 (cg B3 (a,sz,c,n,i,()))).val=
 bif decide (i<n)then cy (jA i (c.length:Int)) (bif decide (q<0)then none else some (Rs.next (cg B3 (a,q,c,n,jR .i64 i 1,()))))else some (Rs.out 0 (cg tf (a,sz,()))):=by
 subst hq
 kernel_rfl
theorem aje(o:List Int)(c:List (List Int))(n i:Int)(x:List Int)(hx:x=c.getD i.toNat (cr (.cq i64))):(ME (cg zO (o,c,n,i,()))).val=
 bif decide (i<n)then cy (jA i (c.length:Int)) (cy (roomy 8 (o.length+x.length)) (some (Rs.next (cg zO (app o x,c,n,jR .i64 i 1,())))))else some (Rs.out 0 (cg th (o,()))):=by
 subst hx
 kernel_rfl
theorem aBb(c:List (List Int))(z:ca tf)(hz:z=qb O3 B3 tf (c,0,c,(c.length:Int),0,())):(t59 (c,())).val=
 cy (uF O3 B3 tf (c,0,c,(c.length:Int),0,())) (
  let fin:=cy (uF ME zO th ([],z.1,(z.1.length:Int),0,())) (some (cg O4 (qb ME zO th ([],z.1,(z.1.length:Int),0,()))))
  bif decide (z.2.1<0)then none else bif decide (0<jF .i64 z.2.1 0)then cy (decide (0<=jF .i64 z.2.1 0)) (cy (roomy 8 (0+(List.replicate (jF .i64 z.2.1 0).toNat (0:Int)).length)) (cy (mS 0 0 ((app [] (List.replicate (jF .i64 z.2.1 0).toNat (0:Int))).length:Int)) fin))else fin):=by
 subst hz
 kernel_rfl
abbrev wkV(y:ca tM)(lo:List Int)(w:W3)(mk:List (den Aw))(k:Int)(x:den tI)(c:List (den tI))(n1 i1 v n i:Int):ca zQ:=(mF y (lo,w.1,w.2.1,w.2.2,mk,k,x.1,x.2.1,x.2.2.1,x.2.2.2.1,x.2.2.2.2.1,x.2.2.2.2.2,c,n1,i1,v,n,i,()))
abbrev ant(y:ca tM)(lo:List Int)(w:W3)(mk:List (den Aw))(k:Int)(x:den tI)(c:List (den tI))(n1 i1 v:Int):ca tp:=(mF y (lo,w.1,w.2.1,w.2.2,mk,k,x.1,x.2.1,x.2.2.1,x.2.2.2.1,x.2.2.2.2.1,x.2.2.2.2.2,c,n1,i1,v,()))
abbrev wkT(y:ca tM)(lo:List Int)(w:W3)(mk:List (den Aw))(c:List (den tI))(n i:Int):ca oD:=(mF y (lo,w.1,w.2.1,w.2.2,mk,c,n,i,()))
theorem ajg(y:ca tM)(lo:List Int)(w:W3)(mk:List (den Aw))(k:Int)(x:den tI)(c:List (den tI))(n1 i1 v n i:Int):(f202 (cg zQ (wkV y lo w mk k x c n1 i1 v n i))).val=
 bif decide (i<n)then cy (jA i (w.1.length:Int)) (bif decide (w.1.getD i.toNat (cr i64)=123)then some (Rs.next (cg zQ (wkV y lo w mk k x c n1 i1 (jR .i64 v 1) n (jR .i64 i 1))))else some (Rs.next (cg zQ (wkV y lo w mk k x c n1 i1 v n (jR .i64 i 1)))))else some (Rs.out 0 (cg tp (ant y lo w mk k x c n1 i1 v))):=by kernel_rfl
theorem ajh(y:ca tM)(lo:List Int)(w:W3)(mk:List (den Aw))(c:List (den tI))(n i:Int)(x:den tI)(hx:x=c.getD i.toNat (cr tI))(B:den jT)(hB:B=w.2.1.getD (jF .i64 (w.2.1.length:Int) 1).toNat (cr jT))
 (z:ca tp)(hz:z=qb f202 zQ tp (wkV y lo w mk i x c n i 0 (w.1.length:Int) 0))(u:ca tc)(hu:u=Ir (xi y lo w x))(q:ca O2)(hq:q=(mF z (z.2.2.2.2.2.2.2.2.2.2.2.1,z.2.2.2.2.2.2.2.2.2.2.2.2.1,z.2.2.2.2.2.2.2.2.2.2.2.2.2.1,z.2.2.2.2.2.2.2.2.2.2.2.2.2.2.1,z.2.2.2.2.2.2.2.2.2.2.2.2.2.2.2.2.2.1,z.2.2.2.2.2.2.2.2.2.2.2.2.2.2.2.2.2.2.1,z.2.2.2.2.2.2.2.2.2.2.2.2.2.2.2.2.2.2.2.1,z.2.2.2.2.2.2.2.2.2.2.2.2.2.2.2.2.2.2.2.2.1,z.2.2.2.2.2.2.2.2.2.2.2.2.2.2.2.2.2.2.2.2.2.1,z.2.2.2.2.2.2.2.2.2.2.2.2.2.2.2.2.2.2.2.2.2.2.1,())))(r:ca tc)(hr:r=Ir q):(f200 (cg oD (wkT y lo w mk c n i))).val=
 bif decide (i<n)then cy (jA i (c.length:Int)) (cy (jA (jF .i64 (w.2.1.length:Int) 1) (w.2.1.length:Int)) (
  bif (bif B.2.2.2.2.2 then !B.2.2.2.2.1 else false)then
   cy (uF f202 zQ tp (wkV y lo w mk i x c n i 0 (w.1.length:Int) 0)) (cy (jA z.2.2.2.2.2.2.2.2.2.2.2.2.2.2.2.2.1 (z.2.2.2.2.2.2.2.2.2.2.2.2.2.2.2.1.length:Int)) (cy (k62 q) (
    bif r.2.2.2.2.2.2.2.2.2.2.2.2.2.2.1 then some (Rs.out 1 (cg oE ([],false,())))else some (Rs.next (cg oD (mF r (r.2.2.2.2.2.2.2.2.2.2.2.1,r.2.2.2.2.2.2.2.2.2.2.2.2.1,r.2.2.2.2.2.2.2.2.2.2.2.2.2.1,r.2.2.2.2.2.2.2.2.2.2.2.2.2.2.1,z.2.2.2.2.2.2.2.2.2.2.2.2.2.2.2.1.set z.2.2.2.2.2.2.2.2.2.2.2.2.2.2.2.2.1.toNat (true,(z.2.2.2.2.2.2.2.2.2.2.2.2.1.length:Int),z.2.2.2.2.2.2.2.2.2.2.2.2.2.2.2.2.2.2.2.2.2.2.2.2.2.2.1),z.2.2.2.2.2.2.2.2.2.2.2.2.2.2.2.2.2.2.2.2.2.2.2.1,z.2.2.2.2.2.2.2.2.2.2.2.2.2.2.2.2.2.2.2.2.2.2.2.2.1,jR .i64 z.2.2.2.2.2.2.2.2.2.2.2.2.2.2.2.2.2.2.2.2.2.2.2.2.2.1 1,())))))))
  else cy (k62 (xi y lo w x)) (bif u.2.2.2.2.2.2.2.2.2.2.2.2.2.2.1 then some (Rs.out 1 (cg oE ([],false,())))else some (Rs.next (cg oD (mF u (u.2.2.2.2.2.2.2.2.2.2.2.1,u.2.2.2.2.2.2.2.2.2.2.2.2.1,u.2.2.2.2.2.2.2.2.2.2.2.2.2.1,u.2.2.2.2.2.2.2.2.2.2.2.2.2.2.1,mk,c,n,jR .i64 i 1,())))))))
 else some (Rs.out 0 (cg nv (mk,()))):=by
 subst hq;subst hr;subst hu;subst hz;subst hB;subst hx
 kernel_rfl
theorem auc(gt:Bool)(y:ca tM)(hgt:gt=gT y.1)(i:Int)(k:Int)(hk:k=jR .i64 (y.2.1.length:Int) i)(s:den jK)(hs:s=jO y.1 (kI y.2.1 y.2.2.1 k))(C:den jV)(hC:C=y.2.2.2.2.2.2.2.2.2.1.getD i.toNat (cr jV))(lo:List Int)(hlo:lo=(m59 ([s.1,C.1],())).1)(w:W3)(hw:w=([],mu [] [] 2 [] s.2,false))(a:ca oD)(ha:a=wkT y lo w (List.replicate C.2.length (false,0,0)) C.2 (C.2.length:Int) 0):(t20 (mF y (i,()))).val=
 cy (gt&&(decide (k<9223372036854775808)&&decide (y.2.1.length<=1099511627776))) (cy (jA i (y.2.2.2.2.2.2.2.2.2.1.length:Int)) (cy (k59 ([s.1,C.1],())) (cy (decide (y.2.2.2.2.2.2.2.1=y.2.2.2.2.2.2.2.1)) (cy (decide (([]:List (den jT)).length+1<=549755813888)) (cy (jA i (y.2.2.2.2.2.2.2.2.2.1.length:Int)) (
  cy ((decide (0<=(C.2.length:Int))&&decide ((C.2.length:Int)<=(C.2.length:Int)))&&decide ((C.2.length:Int).toNat*24<=70368744177664)) (cy (jA i (y.2.2.2.2.2.2.2.2.2.1.length:Int)) (
   cy (GU f200 oD nv oE a) (bif Ez f200 oD a then some (cg JU ((qb f200 oD nv a).1,true,()))else some (cg JU ((qb f200 oD oE a).1,(qb f200 oD oE a).2.1,()))))))))))):=by
 subst hgt;subst ha;subst hw;subst hlo;subst hC;subst hs;subst hk
 kernel_rfl
theorem aBc(y:ca tM)(hT:gT y.1=true)(i:Int)(k:Int)(hk:k=jR .i64 (y.2.1.length:Int) i)(s:den jK)(hs:s=jO y.1 (kI y.2.1 y.2.2.1 k))(C:den jV)(hC:C=y.2.2.2.2.2.2.2.2.2.1.getD i.toNat (cr jV))(lo:List Int)(hlo:lo=(m59 ([s.1,C.1],())).1)(w:W3)(hw:w=([],mu [] [] 2 [] s.2,false))(a:ca oD)(ha:a=wkT y lo w (List.replicate C.2.length (false,0,0)) C.2 (C.2.length:Int) 0):(t20 (mF y (i,()))).val=
 cy (decide (k<9223372036854775808)&&decide (y.2.1.length<=1099511627776)) (cy (jA i (y.2.2.2.2.2.2.2.2.2.1.length:Int)) (cy (k59 ([s.1,C.1],())) (cy (decide (y.2.2.2.2.2.2.2.1=y.2.2.2.2.2.2.2.1)) (cy (decide (([]:List (den jT)).length+1<=549755813888)) (cy (jA i (y.2.2.2.2.2.2.2.2.2.1.length:Int)) (
  cy ((decide (0<=(C.2.length:Int))&&decide ((C.2.length:Int)<=(C.2.length:Int)))&&decide ((C.2.length:Int).toNat*24<=70368744177664)) (cy (jA i (y.2.2.2.2.2.2.2.2.2.1.length:Int)) (
   cy (GU f200 oD nv oE a) (bif Ez f200 oD a then some (cg JU ((qb f200 oD nv a).1,true,()))else some (cg JU ((qb f200 oD oE a).1,(qb f200 oD oE a).2.1,()))))))))))):=by
 refine Eq.trans (auc true y hT.symm i k hk s hs C hC lo hlo w hw a ha) ?_
 kernel_rfl
theorem yZ{op:Int}{f:ca sr}: ∀ {rs:List (den ng)},s9 op rs=some f-> ∃ r,r∈rs/\(r.1<=op/\op<=r.2.1)/\f=JI r
 | [],h=>by cases h
 |r::rs,h=>by
  have h:(match Hj op () r rs with| .inl s=>nP (Hj op) (fun _=>none) rs s| .inr o=>o)=some f:=by
   have e:s9 op (r::rs)=(match Hj op () r rs with| .inl s=>nP (Hj op) (fun _=>none) rs s| .inr o=>o):=by
    show nP (Hj op) (fun _=>none) (r::rs) ()=_;rw[nP];cases Hj op () r rs<;>rfl
   rw[<-e];exact h
  unfold Hj at h;by_cases h1:op<r.1
  ·rw[decide_eq_true h1]at h;obtain⟨q,a,b⟩:=yZ (rs:=rs) h;exact⟨q,List.mem_cons_of_mem _ a,b⟩
  ·by_cases h2:r.2.1<op
   ·rw[decide_eq_false h1,decide_eq_true h2]at h;obtain⟨q,a,b⟩:=yZ (rs:=rs) h;exact⟨q,List.mem_cons_of_mem _ a,b⟩
   ·rw[decide_eq_false h1,decide_eq_false h2]at h;cases h;exact⟨r,List.mem_cons_self,⟨Int.not_lt.1 h1,Int.not_lt.1 h2⟩,rfl⟩
theorem wq{α:Type}{p:α->Bool}: ∀ {l:List α},jC p l=true-> ∀ x,x∈l->p x=true
 | [],_,x,hx=>by cases hx
 |a::l,h,x,hx=>by
  obtain⟨h1,h2⟩:=qz h
  rcases List.mem_cons.1 hx with e|e
  ·subst e;exact h1
  ·exact wq h2 x e
def npP(o f:Int):Bool:=
 bif decide (f=1)then decide (o=0)||(decide (o=5)||(decide (o=11)||(decide (o=15)||(decide (o=26)||decide (o=27)))))else
 bif decide (f=2)then decide (o=2)||(decide (o=3)||decide (o=4))else
 bif decide (f=3)then decide (o=12)||decide (o=13)else
 bif decide (f=4)then decide (o=14)else
 bif decide (f=5)then decide (o=16)||(decide (32<=o)&&decide (o<=36))else
 bif decide (f=6)then decide (o=17)else false
def plP(lo hi:Int):Bool:=(decide (hi<2)||decide (5<lo))&&(decide (hi<11)||decide (11<lo))
def Ta(r:den ng):Bool:=
 (decide (0<=r.2.2.2.1)&&(decide ((Hh (SN r)).1.length<=16)&&decide ((Hh (SN r)).2.length<=16)))&&(((Hh (SN r)).1.all yW&&(Hh (SN r)).2.all yW)&&
  bif eqStr r.2.2.2.2 ⟨#[]⟩then jC (fun k:Nat=>npP (r.1+(k:Int)) r.2.2.1) (List.range (r.2.1 - r.1+1).toNat)else plP r.1 r.2.1)
theorem aeE:(jC Ta OP&&jC Ta JH)=true:=by kernel_rfl
theorem O9{o:Int}(h:zn o=true): ∃ r,Ta r=true/\(r.1<=o/\o<=r.2.1)/\kZ o=JI r:=by
 unfold zn at h;unfold kZ;cases hf:OQ o with
 |none=>rw[hf]at h;cases h
 |some f=>
  have hr:=aeE;rw[Bool.and_eq_true]at hr;unfold OQ at hf;cases hc:decide (64768<=o)with
  |true=>
   rw[hc]at hf;obtain⟨r,a,b,c⟩:=yZ hf;exact⟨r,wq hr.2 r a,b,c⟩
  |false=>
   rw[hc]at hf;obtain⟨r,a,b,c⟩:=yZ hf;exact⟨r,wq hr.1 r a,b,c⟩
theorem Yt{o:Int}(h:zn o=false):kZ o=(0,0,false,[],[],()):=by
 unfold zn at h;unfold kZ;cases hf:OQ o with
 |none=>rfl
 |some f=>rw[hf]at h;cases h
theorem Yu(o:Int):0<=(kZ o).2.1/\(kZ o).2.2.2.1.length<=16/\(kZ o).2.2.2.2.1.length<=16/\(kZ o).2.2.2.1.all yW=true/\(kZ o).2.2.2.2.1.all yW=true:=by
 cases h:zn o with
 |false=>rw[Yt h];decide
 |true=>
  obtain⟨r,a,_,c⟩:=O9 h;rw[c];unfold Ta at a;simp only[Bool.and_eq_true,decide_eq_true_eq]at a;obtain⟨⟨a1,a2,a3⟩,⟨a4,a5⟩,_⟩:=a;exact⟨a1,a2,a3,a4,a5⟩
theorem aud{o:Int}(h:zn o=true)(hp:(kZ o).2.2.1=false):npP o (kZ o).1=true:=by
 obtain⟨r,a,b,c⟩:=O9 h;rw[c]at hp ⊢;unfold Ta at a;rw[Bool.and_eq_true,Bool.and_eq_true (_&&_)]at a;have a:=a.2.2;have hp:(!eqStr r.2.2.2.2 ⟨#[]⟩)=false:=hp
 have hq:eqStr r.2.2.2.2 ⟨#[]⟩=true:=by revert hp;cases eqStr r.2.2.2.2 ⟨#[]⟩<;>simp
 rw[hq,cond_true]at a
 have key: ∀ lo hi:Int,lo<=o->o<=hi->(o - lo).toNat<(hi - lo+1).toNat/\lo+(((o - lo).toNat:Nat):Int)=o:=fun lo hi _ _=>by omega
 obtain⟨k1,k2⟩:=key r.1 r.2.1 b.1 b.2;have:=wq a (o - r.1).toNat (List.mem_range.2 k1);rw[k2]at this;exact this
theorem aue{o:Int}(hp:(kZ o).2.2.1=true): ¬ (2<=o/\o<=5)/\o≠11:=by
 cases h:zn o with
 |false=>rw[Yt h]at hp;cases hp
 |true=>
  obtain⟨r,a,b,c⟩:=O9 h;rw[c]at hp;unfold Ta at a;rw[Bool.and_eq_true,Bool.and_eq_true (_&&_)]at a;have a:=a.2.2;have hp:(!eqStr r.2.2.2.2 ⟨#[]⟩)=true:=hp
  have hq:eqStr r.2.2.2.2 ⟨#[]⟩=false:=by revert hp;cases eqStr r.2.2.2.2 ⟨#[]⟩<;>simp
  rw[hq,cond_false]at a;unfold plP at a;simp only[Bool.and_eq_true,Bool.or_eq_true,decide_eq_true_eq]at a
  have key: ∀ lo hi:Int,lo<=o->o<=hi->((hi<2∨5<lo)/\(hi<11∨11<lo))-> ¬ (2<=o/\o<=5)/\o≠11:=fun lo hi _ _ _=>by omega
  exact key r.1 r.2.1 b.1 b.2 a
structure Inv(k m:Nat)(w:W3):Prop where
 ne:w.2.1≠[]
 pw:w.2.1.Pairwise (fun a b=>(a.2.1:Int)<=b.2.1)
 ht: ∀ b,b∈w.2.1->(0:Int)<=b.2.1/\(b.2.1:Int)<=(w.1.length:Int)
 io: ∀ b,b∈w.2.1->b.2.2.1.length<=32/\b.2.2.2.1.length<=32
 sk:w.1.length<=k
 sb:w.2.1.length<=m
theorem za(l:List (den jT))(B:den jT):kB (l++[B])=B:=by
 unfold kB;simp
theorem B6{l:List (den jT)}(h:l≠[]): ∃ r B,l=r++[B]:=⟨l.dropLast,l.getLast h,(List.dropLast_concat_getLast h).symm⟩
theorem aeF{a:Int}{n:Nat}(h1:0<=a)(h2:a<=(n:Int))(h3: ¬ (n:Int)=a):a<=((n - 1:Nat):Int):=by omega
theorem anu{a:Int}{n:Nat}(h1:0<=a)(h2:a<=(n:Int)):((min a.toNat n:Nat):Int)=a:=by omega
section
variable {k m:Nat}{w:W3}
theorem Inv.mem(h:Inv k m w):kB w.2.1∈w.2.1:=by
 obtain⟨r,B,e⟩:=B6 h.ne;rw[e,za];simp
theorem Inv.top(h:Inv k m w): ∀ b,b∈w.2.1->(b.2.1:Int)<=(kB w.2.1).2.1:=by
 obtain⟨r,B,e⟩:=B6 h.ne;have hp:=h.pw;rw[e]at hp ⊢;rw[za];intro b hb;rw[List.pairwise_append]at hp
 rcases List.mem_append.1 hb with hb|hb
 ·exact hp.2.2 b hb B (by simp)
 ·have:b=B:=by simpa using hb
  rw[this];exact Int.le_refl _
theorem Inv.len(h:Inv k m w):0<w.2.1.length:=List.length_pos_iff.2 h.ne
theorem Inv.cW(h:Inv k m w)(hk:k<=1099511627776)(hm:m<=1099511627776):cW w=true:=by
 obtain⟨h1,h2⟩:=h.ht _ h.mem;have h3:=h.len;have h4:=h.sk;have h5:=h.sb;unfold Vd.cW okW;simp only[Bool.and_eq_true,decide_eq_true_eq];exact⟨⟨h3,by omega,by omega⟩,h1,h2⟩
theorem Inv.cT(h:Inv k m w)(hk:k<=1099511627776)(hm:m<=1099511627776){L:List Int}(hL:L.length<=1099511627776):cT w L=true:=by
 have:=h.cW hk hm;unfold Vd.cW at this;unfold Vd.cT;rw[this,decide_eq_true hL];rfl
theorem Inv.bad(h:Inv k m w)(b:Bool):Inv k m (w.1,w.2.1,b):=⟨h.ne,h.pw,h.ht,h.io,h.sk,h.sb⟩
theorem Inv.cut(h:Inv k m w){s:List Int}(h1:((kB w.2.1).2.1:Int)<=(s.length:Int))(h2:s.length<=w.1.length)(b:Bool):Inv k m (s,w.2.1,b):=
 ⟨h.ne,h.pw,fun c hc=>⟨(h.ht c hc).1,Int.le_trans (h.top c hc) h1⟩,h.io,Nat.le_trans h2 h.sk,h.sb⟩
theorem Inv.take(h:Inv k m w)(t:Int):Inv k m (jM w t):=by
 obtain⟨h1,h2⟩:=h.ht _ h.mem;unfold jM mr;cases hh:decide ((w.1.length:Int)=(kB w.2.1).2.1)with
 |true=>exact h.bad _
 |false=>
  have qF: ¬ (w.1.length:Int)=(kB w.2.1).2.1:=of_decide_eq_false hh
  have e:(w.1.take (w.1.length - 1)).length=w.1.length - 1:=by rw[List.length_take];omega
  exact h.cut (by show _<=((w.1.take (w.1.length - 1)).length:Int);rw[e];exact aeF h1 h2 qF) (by show(w.1.take (w.1.length - 1)).length<=_;rw[e];omega) _
theorem Inv.auf(L:List Int): ∀ (n:Nat) {w:W3},Inv k m w->Inv k m ((zt L w.2.1 n w.1 w.2.2).1,w.2.1,(zt L w.2.1 n w.1 w.2.2).2)
 |0,_,h=>h
 |n+1,w,h=>Inv.auf L n (h.take (L.getD n (cr i64)))
theorem Inv.MH(h:Inv k m w)(L:List Int):Inv k m (lX w L):=Inv.auf L L.length h
theorem Inv.giv(h:Inv k m w)(L:List Int):Inv (k+L.length) m (q9 w L):=by
 have:=h.sk;exact⟨h.ne,h.pw,fun b hb=>⟨(h.ht b hb).1,Int.le_trans (h.ht b hb).2 (by show(w.1.length:Int)<=((w.1++L).length:Int);rw[List.length_append];omega)⟩,h.io,by show(w.1++L).length<=_;rw[List.length_append];omega,h.sb⟩
theorem Inv.le(h:Inv k m w){k' m':Nat}(hk:k<=k')(hm:m<=m'):Inv k' m' w:=⟨h.ne,h.pw,h.ht,h.io,Nat.le_trans h.sk hk,Nat.le_trans h.sb hm⟩
theorem Inv.opn(h:Inv k m w)(op:Int){i o:List Int}(hi:i.length<=32)(ho:o.length<=32):Inv k (m+1) (w.1,mu w.1 w.2.1 op i o,w.2.2):=by
 have:=h.sb;refine⟨by unfold mu;simp,?_,?_,?_,h.sk,by show(mu _ _ _ _ _).length<=_;unfold mu;simp;exact this⟩
 ·show(mu _ _ _ _ _).Pairwise _;unfold mu;rw[List.pairwise_append];refine⟨h.pw,List.pairwise_singleton _ _,fun a ha b hb=>?_⟩
  have:b=(op,(w.1.length:Int),i,o,false,DJ w.2.1):=by simpa using hb
  rw[this];exact(h.ht a ha).2
 ·intro b hb;unfold mu at hb
  rcases List.mem_append.1 hb with hb|hb
  ·exact h.ht b hb
  ·have:b=(op,(w.1.length:Int),i,o,false,DJ w.2.1):=by simpa using hb
   rw[this];exact⟨Int.natCast_nonneg _,Int.le_refl _⟩
 ·intro b hb;unfold mu at hb
  rcases List.mem_append.1 hb with hb|hb
  ·exact h.io b hb
  ·have:b=(op,(w.1.length:Int),i,o,false,DJ w.2.1):=by simpa using hb
   rw[this];exact⟨hi,ho⟩
theorem Yv(l:List (den jT))(B C:den jT):(l++[B]).set ((l++[B]).length - 1) C=l++[C]:=by
 simp
theorem Inv.die(h:Inv k m w):Inv k m (Az w):=by
 obtain⟨h1,h2⟩:=h.ht _ h.mem;obtain⟨s,bl,bad⟩:=w;obtain⟨r,B,e⟩:=B6 h.ne;have e:bl=r++[B]:=e;subst e;have ht:=h.top;have hp:=h.pw;have hi:=h.io;have hh:=h.ht;have eT:kB (r++[B])=B:=za r B
 have ht: ∀ b,b∈r++[B]->(b.2.1:Int)<=B.2.1:=fun b hb=>by have:=ht b hb;rw[show(s,r++[B],bad).2.1=r++[B]from rfl,eT]at this;exact this
 have h1:(0:Int)<=B.2.1:=by rw[show(s,r++[B],bad).2.1=r++[B]from rfl,eT]at h1;exact h1
 have h2:(B.2.1:Int)<=(s.length:Int):=by rw[show(s,r++[B],bad).2.1=r++[B]from rfl,eT]at h2;exact h2
 have hl:((s.take B.2.1.toNat).length:Int)=B.2.1:=by rw[List.length_take];exact anu h1 h2
 have eD:Az (s,r++[B],bad)=(s.take B.2.1.toNat,r++[BV B],bad):=by
  show(s.take (kB (r++[B])).2.1.toNat,(r++[B]).set ((r++[B]).length - 1) (BV (kB (r++[B]))),bad)=_;rw[eT,Yv]
 rw[eD];have hm: ∀ b,b∈r++[BV B]-> ∃ c,c∈r++[B]/\(b.2.1:Int)=c.2.1/\b.2.2.1=c.2.2.1/\b.2.2.2.1=c.2.2.2.1:=by
  intro b hb
  rcases List.mem_append.1 hb with hb|hb
  ·exact⟨b,List.mem_append_left _ hb,rfl,rfl,rfl⟩
  ·have:b=BV B:=by simpa using hb
   rw[this];exact⟨B,by simp,rfl,rfl,rfl⟩
 refine⟨by simp,?_,?_,?_,?_,?_⟩
 ·show(r++[BV B]).Pairwise _;have hp:(r++[B]).Pairwise _:=hp;rw[List.pairwise_append]at hp ⊢;refine⟨hp.1,List.pairwise_singleton _ _,fun a ha b hb=>?_⟩
  have:b=BV B:=by simpa using hb
  rw[this];exact hp.2.2 a ha B (by simp)
 ·intro b hb;obtain⟨c,c1,c2,_,_⟩:=hm b hb;rw[c2];exact⟨(hh c c1).1,by show(c.2.1:Int)<=((s.take B.2.1.toNat).length:Int);rw[hl];exact ht c c1⟩
 ·intro b hb;obtain⟨c,c1,_,c3,c4⟩:=hm b hb;rw[c3,c4];exact hi c c1
 ·have:=h.sk;show(s.take _).length<=_;rw[List.length_take];have this:s.length<=k:=this;omega
 ·have:=h.sb
  simpa using this
end
theorem QO(L:List Int)(bl:List (den jT)): ∀ (n:Nat) (s:List Int) (b:Bool),(zt L bl n s b).1.length<=s.length
 |0,_,_=>Nat.le_refl _
 |n+1,s,b=>by
  refine Nat.le_trans (QO L bl n _ _) ?_;unfold mr;cases decide ((s.length:Int)=(kB bl).2.1)with
  |true=>exact Nat.le_refl _
  |false=>show(s.take _).length<=_;rw[List.length_take];omega
end Go.Proofs.Vd
noncomputable section
namespace Go.Proofs.Vd
open Go.Ab Go.Ab.Lf
set_option maxRecDepth 100000
section
variable {k m:Nat}{w:W3}
theorem Inv.sub(h:Inv k m w)(hm:m<=1073741824):jF .i64 (w.2.1.length:Int) 1=((w.2.1.length - 1:Nat):Int):=JD h.len (by have:=h.sb;omega)
theorem Inv.ix(h:Inv k m w):jA ((w.2.1.length - 1:Nat):Int) (w.2.1.length:Int)=true:=kF (by have:=h.len;omega)
end
theorem JW{j n:Nat}(h:j<n):jA (j:Int) (n:Int)=true:=kF h
theorem JX{j n:Nat}(h:j<=n):mS 0 (j:Int) (n:Int)=true:=by
 unfold mS;simp only[Bool.and_eq_true,decide_eq_true_eq];omega
def tv(w:W3):List Int×Bool:=zt (kB w.2.1).2.2.2.1 w.2.1 (kB w.2.1).2.2.2.1.length w.1 w.2.2
def JY(w:W3):Bool:=(tv w).2|| !decide (((tv w).1.length:Int)=(kB w.2.1).2.1)
def AA(w:W3):List (den jT):=w.2.1.take (w.2.1.length - 1)
def ug(w:W3)(n:Int):W3:=bif JY w then((tv w).1,AA w++[kB w.2.1],JY w)else
 bif decide (n=5)then((tv w).1++(kB w.2.1).2.2.1,mu (tv w).1 (AA w) 5 (kB w.2.1).2.2.1 (kB w.2.1).2.2.2.1,JY w)else
 ((tv w).1++(kB w.2.1).2.2.2.1,AA w,JY w|| !(bif !decide ((kB w.2.1).1=4)then true else decide ((kB w.2.1).2.2.1=(kB w.2.1).2.2.2.1)))
theorem Yw(w:W3):(tv w).1.length<=w.1.length:=QO _ _ _ _ _
theorem Yx(w:W3):(AA w).length<=w.2.1.length:=by unfold AA;rw[List.length_take];omega
theorem aug{k m:Nat}{w:W3}(h:Inv k m w)(hk:k<=1073741824)(hm:m<=1073741824)(y:ca tM)(lo:List Int)(n:Int):(t75 (wkN y lo w n)).val=some (cg JT (wk y lo (ug w n))):=by
 have hs:=h.sub hm;have hio:=h.io _ h.mem;have hsk:=h.sk;have hsb:=h.sb;have l1:=Yw w;have l2:=Yx w
 have eB:kB w.2.1=w.2.1.getD (jF .i64 (w.2.1.length:Int) 1).toNat (cr jT):=by rw[hs,Int.toNat_natCast];rfl
 have eC:AA w=(w.2.1.drop 0).take ((jF .i64 (w.2.1.length:Int) 1).toNat - 0):=by rw[hs,Int.toNat_natCast];rfl
 rw[aA8 y lo w n (kB w.2.1) eB (AA w) eC (tv w) rfl (JY w) rfl,hs,h.ix,JX (Nat.sub_le _ _)];have c1:(decide ((kB w.2.1).2.2.2.1.length<=1099511627776)&&okW w.1 w.2.1)=true:=h.cT (by omega) (by omega) (by omega)
 have c2:roomy 72 ((AA w).length+1)=true:=by rw[tC];constructor<;>omega
 have c3:decide ((AA w).length+1<=549755813888)=true:=decide_eq_true (by omega);have c4:decide ((tv w).1.length+(kB w.2.1).2.2.1.length<=1099511627776)=true:=decide_eq_true (by omega);have c5:decide ((tv w).1.length+(kB w.2.1).2.2.2.1.length<=1099511627776)=true:=decide_eq_true (by omega);have c6:decide ((kB w.2.1).2.2.1.length<=1099511627776)=true:=decide_eq_true (by omega);rw[c1,c2,c3,c4,c5,c6];simp only[cy,cond_true,cZ];unfold ug;cases JY w with
 |true=>rfl
 |false=>
  cases decide (n=5)with
  |true=>rfl
  |false=>cases decide ((kB w.2.1).1=4)<;>rfl
def xj(L:List Int)(bl:List (den jT)):Nat->List Int->List Int->Bool->List Int×List Int×Bool
 |0,s,B5,bad=>(s,B5,bad)
 |n+1,s,B5,bad=>xj L bl n (mr s bl bad (L.getD n (cr i64))).2.1 (B5++[(mr s bl bad (L.getD n (cr i64))).1]) (mr s bl bad (L.getD n (cr i64))).2.2
def O'(w:W3)(L:List Int):W3:=let z:=xj L w.2.1 L.length w.1 [] w.2.2
 (z.1++z.2.1.reverse,w.2.1,z.2.2)
theorem Gz(L:List Int)(bl:List (den jT)): ∀ (n:Nat) (s B5:List Int) (b:Bool),(xj L bl n s B5 b).2.1.length=B5.length+n
 |0,_,_,_=>rfl
 |n+1,s,B5,b=>by
  show(xj L bl n _ _ _).2.1.length=_;rw[Gz L bl n];simp only[List.length_append,List.length_cons,List.length_nil];omega
theorem Inv.agF{k m:Nat}(L:List Int): ∀ (n:Nat) (B5:List Int) {w:W3},Inv k m w->Inv k m ((xj L w.2.1 n w.1 B5 w.2.2).1,w.2.1,(xj L w.2.1 n w.1 B5 w.2.2).2.2)
 |0,_,_,h=>h
 |n+1,B5,w,h=>Inv.agF L n (B5++[(mr w.1 w.2.1 w.2.2 (L.getD n (cr i64))).1]) (h.take (L.getD n (cr i64)))
theorem Inv.again{k m:Nat}{w:W3}(h:Inv k m w)(L:List Int):Inv (k+L.length) m (O' w L):=by
 have h1:=(h.agF L L.length []).giv (xj L w.2.1 L.length w.1 [] w.2.2).2.1.reverse;refine h1.le ?_ (Nat.le_refl _);rw[List.length_reverse,Gz];simp
theorem Yy{k m:Nat}(y:ca tM)(lo L:List Int)(hk:k<=1073741824)(hm:m<=1073741824)(hL:L.length<=1073741824): ∀ (n:Nat) {w:W3} (B5:List Int),n<=L.length->B5.length+n<=L.length->Inv k m w->
 oU Yk (cg DK (wkA y lo w L B5 ((n:Int) - 1))) 0 (cg xd (wkL y lo ((xj L w.2.1 n w.1 B5 w.2.2).1,w.2.1,(xj L w.2.1 n w.1 B5 w.2.2).2.2) (xj L w.2.1 n w.1 B5 w.2.2).2.1))
 |0,w,B5,_,_,_=>by
  refine .last ?_;rw[aja,decide_eq_false (by omega)];rfl
 |n+1,w,B5,hn,hw,h=>by
  have e:((n+1:Nat):Int) - 1=(n:Int):=by omega
  rw[e];have es:jF .i64 (n:Int) 1=(n:Int) - 1:=by
   show kK .i64 ((n:Int) - 1)=_;exact wrap_i64 (by omega) (by omega)
  refine .more ?_ (Yy y lo L hk hm hL n (B5++[(mr w.1 w.2.1 w.2.2 (L.getD n (cr i64))).1]) (by omega) (by simp only[List.length_append,List.length_cons,List.length_nil];omega) (h.take (L.getD n (cr i64))));have c:okW w.1 w.2.1=true:=h.cW (by omega) (by omega);have r:roomy 8 (B5.length+1)=true:=jW (by omega) (by omega);rw[aja,decide_eq_true (show(0:Int)<=(n:Int) by omega),JW (show n<L.length by omega),c,r,Int.toNat_natCast,es,cZ];rfl
theorem QP{β:Type}(K:List Int->Option β): ∀ (f:Nat) (a mid b:List Int),a.length=b.length->mid.length<2*f->a.length+mid.length+b.length<=1073741824->Ys K f a.length (((a.length+mid.length:Nat):Int) - 1) (a++mid++b)=K (a++mid.reverse++b)
 |0,a,mid,b,_,h,_=>by omega
 |f+1,a,mid,b,hab,h,hs=>by
  by_cases h2:mid.length<2
  ·have e:decide ((a.length:Int)<(((a.length+mid.length:Nat):Int) - 1))=false:=decide_eq_false (by omega);have er:mid.reverse=mid:=by
    match mid,h2 with
    | [],_=>rfl
    | [x],_=>rfl
   unfold Ys;rw[e,er];rfl
  ·match mid with
   | []=>simp at h2
   |c::t=>
    obtain⟨m',d,rfl⟩: ∃ m' d,t=m'++[d]:=by
     have:t≠[]:=fun e=>by subst e;simp at h2
     exact⟨t.dropLast,t.getLast this,(List.dropLast_concat_getLast this).symm⟩
    simp only[List.length_cons,List.length_append,List.length_nil]at h hs
    have el:(a++(c::(m'++[d]))++b).length=a.length+(m'.length+2)+b.length:=by simp;omega
    have ej:(((a.length+(c::(m'++[d])).length:Nat):Int) - 1)=((a.length+m'.length+1:Nat):Int):=by simp;omega
    have gi:(a++(c::(m'++[d]))++b).getD a.length (cr i64)=c:=by
     rw[List.getD_eq_getElem?_getD,List.append_assoc,List.getElem?_append_right (Nat.le_refl _)];simp
    have gj:(a++(c::(m'++[d]))++b).getD (a.length+m'.length+1) (cr i64)=d:=by
     have e:a++(c::(m'++[d]))++b=(a++(c::m'))++(d::b):=by simp
     rw[e,List.getD_eq_getElem?_getD,List.getElem?_append_right (by simp;omega)]
     have:a.length+m'.length+1 - (a++(c::m')).length=0:=by simp;omega
     rw[this];rfl
    have s1:(a++(c::(m'++[d]))++b).set a.length d=a++(d::(m'++[d]))++b:=by
     rw[List.append_assoc,List.set_append_right _ _ (Nat.le_refl _)];simp
    have s2:(a++(d::(m'++[d]))++b).set (a.length+m'.length+1) c=(a++[d])++m'++(c::b):=by
     have e:a++(d::(m'++[d]))++b=(a++(d::m'))++(d::b):=by simp
     rw[e,List.set_append_right _ _ (by simp;omega)]
     have:a.length+m'.length+1 - (a++(d::m')).length=0:=by simp;omega
     rw[this];simp
    have es:jF .i64 ((a.length+m'.length+1:Nat):Int) 1=(((a++[d]).length+m'.length:Nat):Int) - 1:=by
     rw[JD (by omega) (by omega)];simp;omega
    have ih:=QP K f (a++[d]) m' (c::b) (by simp;omega) (by omega) (by simp;omega)
    have sl:((a++(c::(m'++[d]))++b).set a.length d).length=a.length+(m'.length+2)+b.length:=by rw[List.length_set,el]
    rw[ej];unfold Ys;rw[decide_eq_true (by omega),Int.toNat_natCast,gj,gi,sl,el,s1,s2,JW (show a.length+m'.length+1<a.length+(m'.length+2)+b.length by omega),JW (show a.length<a.length+(m'.length+2)+b.length by omega),es];simp only[cy,cond_true]
    have e0:(a++[d]).length=a.length+1:=by simp
    rw[e0]at ih;rw[e0,ih];simp
theorem auh{k m:Nat}{w:W3}(h:Inv k m w)(hk:k<=1073741824)(hm:m<=1073741824)(y:ca tM)(lo L:List Int)(hL:L.length<=32):(t85 (wkL y lo w L)).val=some (cg MD (wk y lo (O' w L))):=by
 have es:jF .i64 (L.length:Int) 1=(L.length:Int) - 1:=by
  show kK .i64 ((L.length:Int) - 1)=_;exact wrap_i64 (by omega) (by omega)
 have r:=Yy y lo L hk hm (by omega) L.length [] (Nat.le_refl _) (by simp) h;rw[<-es]at r;obtain⟨a,b⟩:=uT r;rw[aA9 y lo w L _ b.symm,a];have hl:=Gz L w.2.1 L.length w.1 [] w.2.2;have hi:=(h.agF L L.length []).sk;have e2:jF .i64 ((xj L w.2.1 L.length w.1 [] w.2.2).2.1.length:Int) 1=((([]:List Int).length+(xj L w.2.1 L.length w.1 [] w.2.2).2.1.length:Nat):Int) - 1:=by
  rw[hl];simp only[List.length_nil,Nat.zero_add];exact es
 have e3:=QP (fun x=>cy (decide ((xj L w.2.1 L.length w.1 [] w.2.2).1.length+x.length<=1099511627776)) (some (cg MD (wk y lo ((xj L w.2.1 L.length w.1 [] w.2.2).1++x,w.2.1,(xj L w.2.1 L.length w.1 [] w.2.2).2.2))))) 18 [] (xj L w.2.1 L.length w.1 [] w.2.2).2.1 [] rfl (by rw[hl];simp;omega) (by rw[hl];simp;omega);rw[<-e2]at e3;simp only[List.append_nil,List.nil_append]at e3;refine Eq.trans e3 ?_;have c:decide ((xj L w.2.1 L.length w.1 [] w.2.2).1.length+(xj L w.2.1 L.length w.1 [] w.2.2).2.1.reverse.length<=1099511627776)=true:=by
  refine decide_eq_true ?_;rw[List.length_reverse,hl];have hi:(xj L w.2.1 L.length w.1 [] w.2.2).1.length<=k:=hi;simp;omega
 rw[c];rfl
end Go.Proofs.Vd
noncomputable section
namespace Go.Proofs.Vd
open Go.Ab Go.Ab.Lf
set_option maxRecDepth 100000
theorem zS{a b c:Int}(h:a=b)(k:b≠c): ¬ a=c:=fun e=>k (h▸e)
def Tb(y:ca tM)(lo:List Int)(w:W3)(i:den tI):W3:=
 let gl:=y.2.2.2.2.2.1
 let ok:Bool:=bif (bif decide (i.1<=34)then decide (i.2.1<(lo.length:Int))else false)then true else bif (bif decide (34<i.1)then decide (i.2.1<(gl.length:Int))else false)then(bif decide (i.1=35)then true else(gl.getD i.2.1.toNat (cr jQ)).2.1)else false
 let t:Int:=bif (bif decide (i.1<=34)then decide (i.2.1<(lo.length:Int))else false)then lo.getD i.2.1.toNat (cr i64)else bif (bif decide (34<i.1)then decide (i.2.1<(gl.length:Int))else false)then(gl.getD i.2.1.toNat (cr jQ)).1 else 0
 let v:=bif (bif !decide (i.1=32)then !decide (i.1=35)else false)then jM (mh w ok) t else mh w ok
 bif (bif !decide (i.1=33)then !decide (i.1=36)else false)then q9 v [t]else v
theorem Inv.mst{k m:Nat}{w:W3}(h:Inv k m w)(c:Bool):Inv k m (mh w c):=h.bad _
theorem Inv.lab{k m:Nat}{w:W3}(h:Inv k m w)(l:Int):Inv k m (D9 w l):=h.bad _
theorem Inv.cG{k m:Nat}{w:W3}(h:Inv k m w)(hk:k<=1073741824){L:List Int}(hL:L.length<=1073741824):cG w L=true:=by
 have:=h.sk;unfold Vd.cG;exact decide_eq_true (by omega)
theorem Inv.var{k m:Nat}{w:W3}(h:Inv k m w)(y:ca tM)(lo:List Int)(i:den tI):Inv (k+1) m (Tb y lo w i):=by
 unfold Tb;dsimp only;generalize (bif (bif decide (i.1<=34)then decide (i.2.1<(lo.length:Int))else false)then true else bif (bif decide (34<i.1)then decide (i.2.1<(y.2.2.2.2.2.1.length:Int))else false)then(bif decide (i.1=35)then true else(y.2.2.2.2.2.1.getD i.2.1.toNat (cr jQ)).2.1)else false)=ok;generalize (bif (bif decide (i.1<=34)then decide (i.2.1<(lo.length:Int))else false)then lo.getD i.2.1.toNat (cr i64)else bif (bif decide (34<i.1)then decide (i.2.1<(y.2.2.2.2.2.1.length:Int))else false)then(y.2.2.2.2.2.1.getD i.2.1.toNat (cr jQ)).1 else 0)=t;have h1:Inv k m (bif (bif !decide (i.1=32)then !decide (i.1=35)else false)then jM (mh w ok) t else mh w ok):=by
  cases(bif !decide (i.1=32)then !decide (i.1=35)else false)
  ·exact h.mst _
  ·exact(h.mst _).take _
 cases(bif !decide (i.1=33)then !decide (i.1=36)else false)
 ·exact h1.le (Nat.le_succ _) (Nat.le_refl _)
 ·exact h1.giv [t]
theorem aui{k m:Nat}{w:W3}(h:Inv k m w)(hk:k<=1073741824)(hm:m<=1073741824)(y:ca tM)(lo:List Int)(i:den tI)(ha:(0:Int)<=i.2.1):(t86 (xi y lo w i)).val=some (cg BZ (wk y lo (Tb y lo w i))):=by
 rw[aA'];dsimp only;unfold Tb;dsimp only
 have fin: ∀ (t:Int) (ok:Bool),(bif (bif !decide (i.1=32)then !decide (i.1=35)else false)then cy (cW w) (bif (bif !decide (i.1=33)then !decide (i.1=36)else false)then cy (cG (jM (mh w ok) t) [t]) (some (cg BZ (wk y lo (q9 (jM (mh w ok) t) [t]))))else some (cg BZ (wk y lo (jM (mh w ok) t))))
  else bif (bif !decide (i.1=33)then !decide (i.1=36)else false)then cy (cG w [t]) (some (cg BZ (wk y lo (q9 (mh w ok) [t]))))else some (cg BZ (wk y lo (mh w ok))))=
  some (cg BZ (wk y lo (bif (bif !decide (i.1=33)then !decide (i.1=36)else false)then q9 (bif (bif !decide (i.1=32)then !decide (i.1=35)else false)then jM (mh w ok) t else mh w ok) [t]else(bif (bif !decide (i.1=32)then !decide (i.1=35)else false)then jM (mh w ok) t else mh w ok)))):=by
  intro t ok;rw[h.cW (by omega) (by omega),((h.mst ok).take t).cG hk (L:=[t]) (by simp),h.cG hk (L:=[t]) (by simp)];generalize (bif !decide (i.1=32)then !decide (i.1=35)else false)=c1;generalize (bif !decide (i.1=33)then !decide (i.1=36)else false)=c2;cases c1<;>cases c2<;>rfl
 simp only[fin]
 by_cases h1:i.1<=(34:Int)
 ·have h2: ¬ (34:Int)<i.1:=Int.not_lt.2 h1;rw[decide_eq_true h1,decide_eq_false h2];simp only[cond_true,cond_false];by_cases h3:i.2.1<(lo.length:Int)
  ·have hx:jA i.2.1 (lo.length:Int)=true:=nZ.2 ⟨ha,h3⟩;rw[decide_eq_true h3,hx];rfl
  ·rw[decide_eq_false h3];rfl
 ·have h2:(34:Int)<i.1:=Int.not_le.1 h1;rw[decide_eq_true h2,decide_eq_false h1];simp only[cond_true,cond_false];by_cases h3:i.2.1<(y.2.2.2.2.2.1.length:Int)
  ·have hx:jA i.2.1 (y.2.2.2.2.2.1.length:Int)=true:=nZ.2 ⟨ha,h3⟩;rw[decide_eq_true h3,hx];cases decide (i.1=35)<;>rfl
  ·rw[decide_eq_false h3];rfl
theorem wu{k m:Nat}{w:W3}(h:Inv k m w)(hm:m<=1073741824){l:Int}(hl:0<=l):(pd w.2.1 l).length<=32:=by
 unfold pd;cases hd:decide ((w.2.1.length:Int)<=l)with
 |true=>exact Nat.zero_le _
 |false=>
  have hd: ¬ (w.2.1.length:Int)<=l:=of_decide_eq_false hd;have hx:=ai' hl hd (by have:=h.sb;omega);rw[nZ]at hx
  have key: ∀ (a:Int) (n:Nat),0<=a->a<Int.ofNat n->a.toNat<n:=fun a n h1 h2=>by have e:Int.ofNat n=(n:Int):=rfl;omega
  have hj:=key _ _ hx.1 hx.2;have R3:w.2.1.getD (jF .i64 (jF .i64 (Int.ofNat w.2.1.length) 1) l).toNat (cr jT)∈w.2.1:=by
   rw[List.getD_eq_getElem?_getD,List.getElem?_eq_getElem hj];exact List.getElem_mem hj
  obtain⟨a,b⟩:=h.io _ R3;simp only[cond_false];cases decide ((w.2.1.getD (jF .i64 (jF .i64 (Int.ofNat w.2.1.length) 1) l).toNat (cr jT)).1=3)with
  |true=>exact a
  |false=>exact b
theorem Inv.cL{k m:Nat}{w:W3}(h:Inv k m w)(hm:m<=1073741824){l:Int}(hl:0<=l):cL w l=true:=by
 have:=h.sb;unfold Vd.cL;rw[decide_eq_true hl,decide_eq_true (by omega)];rfl
def pJ(last:List Int)(w:W3)(l:Int):W3:=O' (mh (D9 w l) (decide (((pd w.2.1 l).length:Int)=(last.length:Int)))) (pd w.2.1 l)
theorem Yz(y:ca tM)(lo last L:List Int)(m K:Nat)(hK:K<=1073741824)(hm:m<=1073741824)(h0: ∀ l,l∈L->(0:Int)<=l)(hL:L.length<=1073741824){k:Nat}{w:W3}(h:Inv k m w)(hk:k+32*L.length<=K):
 oU S7 (cg B0 (wkJ y lo w last L (L.length:Int) 0)) 0 (cg uU (wkL y lo (L.foldl (pJ last) w) last))/\Inv (k+32*L.length) m (L.foldl (pJ last) w):=by
 constructor
 ·have:=SL (f:=S7) (l:=L) (fun(s:W3) j=>cg B0 (wkJ y lo s last L (L.length:Int) (j:Int))) (fun s x=>.inl (pJ last s x)) (fun s=>(0,cg uU (wkL y lo s last))) (fun s r=>(∃ k,Inv k m s/\k+32*r.length<=K)/\ ∀ l,l∈r->(0:Int)<=l) (fun s j x r e hi=>by
   obtain⟨⟨k,i1,i2⟩,i3⟩:=hi;obtain⟨e1,e2⟩:=kq e (cr i64);simp only[List.length_cons]at i2;have hx:=i3 x List.mem_cons_self;have hl:=wu i1 hm hx;have i4:=(i1.lab x).mst (decide (((pd s.2.1 x).length:Int)=(last.length:Int)));have s85:=qo (auh i4 (by omega) hm y lo (pd s.2.1 x) hl);refine⟨?_,fun s' e=>?_⟩
   ·rw[ajb y lo s last L _ _ x (by rw[Int.toNat_natCast];exact e2.symm) _ rfl _ s85.2.symm,kY e1,cond_true,JW e1,i1.cL hm hx,show k85 (wkL y lo (mh (D9 s x) (decide (((pd s.2.1 x).length:Int)=(last.length:Int)))) (pd s.2.1 x))=true from s85.1,rM (by omega)];rfl
   ·cases e;exact⟨⟨k+32,(i4.again (pd s.2.1 x)).le (by omega) (Nat.le_refl _),by omega⟩,fun l hl=>i3 l (List.mem_cons_of_mem _ hl)⟩) (fun s j e hj hi=>by
   have:j=L.length:=by have:=List.drop_eq_nil_iff.1 e;omega
   subst this;rw[ajb y lo s last L _ _ _ rfl _ rfl _ rfl,km (Nat.le_refl _)]
   rfl) L 0 w rfl (by omega) ⟨⟨k,h,hk⟩,h0⟩
  rw[mP]at this;exact this
 ·clear hL hk
  induction L generalizing k w with
  |nil=>exact h.le (by simp) (Nat.le_refl _)
  |cons x r ih=>
   have hx:=h0 x List.mem_cons_self;have hl:=wu h hm hx;have i4:=(h.lab x).mst (decide (((pd w.2.1 x).length:Int)=(last.length:Int)));have:=ih (fun l hl=>h0 l (List.mem_cons_of_mem _ hl)) ((i4.again (pd w.2.1 x)).le (k':=k+32) (by omega) (Nat.le_refl _));exact this.le (by simp only[List.length_cons];omega) (Nat.le_refl _)
def Pa(w:W3)(i:den tI):W3:=i.2.2.2.2.2.foldl (pJ (pd w.2.1 i.2.1)) (D9 (jM w 127) i.2.1)
def B7(y:ca tM)(lo:List Int)(w:W3)(i:den tI):W3:=
 let T:=pd w.2.1 i.2.1
 let u:=D9 (jM w 127) i.2.1
 bif decide (i.1=0)then Az w else
 bif decide (i.1=12)then Az (lX (D9 w i.2.1) T)else
 bif decide (i.1=13)then q9 (lX u T) T else
 bif decide (i.1=14)then Az (lX (Pa w i) T)else
 bif decide (i.1=15)then Az (lX w (w.2.1.getD 0 (cr jT)).2.2.2.1)else Tb y lo w i
def BkA(a:Int):Prop:=a= -64∨a= -1∨a= -2∨a= -5∨(0:Int)<=a
structure IOk(i:den tI):Prop where
 a: ∀ f,f=(kZ i.1).1->(f=3∨f=4∨f=5∨f=6)->(0:Int)<=i.2.1/\(i.2.1:Int)<4294967296
 l:(kZ i.1).1=4-> ∀ x,x∈i.2.2.2.2.2->(0:Int)<=x
 n:i.2.2.2.2.2.length<=16777216
 is:zn i.1=true
 k:(kZ i.1).1=2->BkA i.2.1
theorem YA{k m:Nat}{w:W3}(h:Inv k m w):(w.2.1.getD 0 (cr jT)).2.2.2.1.length<=32:=by
 have hl:=h.len;have R3:w.2.1.getD 0 (cr jT)∈w.2.1:=by
  rw[List.getD_eq_getElem?_getD,List.getElem?_eq_getElem hl];exact List.getElem_mem hl
 exact(h.io _ R3).2
theorem Inv.jump{k m:Nat}{w:W3}(h:Inv k m w)(hm:m<=1073741824)(y:ca tM)(lo:List Int)(i:den tI)(ha:i.1=12∨i.1=13∨i.1=14->(0:Int)<=i.2.1)(hl:i.1=14-> ∀ x,x∈i.2.2.2.2.2->(0:Int)<=x)(hk:k+32*i.2.2.2.2.2.length<=1073741824)(hn:i.2.2.2.2.2.length<=16777216):Inv (k+32) m (B7 y lo w i):=by
 unfold B7;dsimp only;by_cases h0:(i.1:Int)=0
 ·rw[decide_eq_true h0];exact h.die.le (by omega) (Nat.le_refl _)
 rw[decide_eq_false h0,cond_false];by_cases h1:(i.1:Int)=12
 ·rw[decide_eq_true h1];exact((h.lab _).MH _).die.le (by omega) (Nat.le_refl _)
 rw[decide_eq_false h1,cond_false];by_cases h2:(i.1:Int)=13
 ·rw[decide_eq_true h2];have:=wu h hm (ha (.inr (.inl h2)));exact((((h.take 127).lab _).MH _).giv _).le (by omega) (Nat.le_refl _)
 rw[decide_eq_false h2,cond_false];by_cases h3:(i.1:Int)=14
 ·rw[decide_eq_true h3];have r:=(Yz y lo (pd w.2.1 i.2.1) i.2.2.2.2.2 m 1073741824 (by omega) hm (hl h3) (by omega) ((h.take 127).lab i.2.1) hk).2;have q:=(r.MH (pd w.2.1 i.2.1)).die;have hle:(Az (lX (Pa w i) (pd w.2.1 i.2.1))).1.length<=k+32:=by
   have eb: ∀ (L:List Int) (v:W3),(L.foldl (pJ (pd w.2.1 i.2.1)) v).2.1=v.2.1:=by
    intro L
    induction L with
    |nil=>intro v;rfl
    |cons x L ih=>intro v;exact(ih (pJ (pd w.2.1 i.2.1) v x)).trans rfl
   have e2:(Pa w i).2.1=w.2.1:=eb _ _;show(List.take (kB (Pa w i).2.1).2.1.toNat _).length<=_;rw[e2,List.length_take]
   have key: ∀ (a:Int) (n q:Nat),a<=(n:Int)->n<=k->min a.toNat q<=k+32:=fun a n q _ _=>by omega
   exact key _ _ _ (h.ht _ h.mem).2 h.sk
  exact⟨q.ne,q.pw,q.ht,q.io,hle,q.sb⟩
 rw[decide_eq_false h3,cond_false];by_cases h4:(i.1:Int)=15
 ·rw[decide_eq_true h4];exact(h.MH _).die.le (by omega) (Nat.le_refl _)
 rw[decide_eq_false h4,cond_false];exact(h.var y lo i).le (by omega) (Nat.le_refl _)
theorem auk{k m:Nat}{w:W3}(h:Inv k m w)(hm:m<=1073741824)(y:ca tM)(lo:List Int)(i:den tI)(hk:k+32*i.2.2.2.2.2.length<=1073741824)(hn:i.2.2.2.2.2.length<=16777216)
 (ha:i.1=12∨i.1=13∨i.1=14->(0:Int)<=i.2.1)(hl:i.1=14-> ∀ x,x∈i.2.2.2.2.2->(0:Int)<=x)(hv: ¬ i.1=0-> ¬ i.1=15->(0:Int)<=i.2.1):(t77 (xi y lo w i)).val=some (cg Gx (wk y lo (B7 y lo w i))):=by
 have hD: ∀ {k m:Nat} {v:W3},Inv k m v->k<=1073741824->m<=1073741824->cy (cW v) (some (cg Gx (wk y lo (Az v))))=some (cg Gx (wk y lo (Az v))):=fun hi hk hm=>by rw[hi.cW (by omega) (by omega)];rfl
 have k0:k<=1073741824:=by omega
 by_cases h3:(i.1:Int)=14
 ·have r:=Yz y lo (pd w.2.1 i.2.1) i.2.2.2.2.2 m 1073741824 (by omega) hm (hl h3) (by omega) ((h.take 127).lab i.2.1) hk;obtain⟨a,b⟩:=uT r.1;rw[at7 y lo w i _ rfl _ rfl _ b.symm];unfold B7;have hT:=wu h hm (ha (.inr (.inr h3)));have c1:=r.2.cT (L:=pd w.2.1 i.2.1) (by omega) (by omega) (by omega);have c2:=(r.2.MH (pd w.2.1 i.2.1)).cW (by omega) (by omega);dsimp only;rw[decide_eq_true h3,h.cW (by omega) (by omega),(h.take 127).cL hm (ha (.inr (.inr h3))),a,decide_eq_false (zS h3 (c:=0) (by decide)),decide_eq_false (zS h3 (c:=12) (by decide)),decide_eq_false (zS h3 (c:=13) (by decide))];simp only[cond_true,cond_false,cy];refine Eq.trans (b:=bif cT (i.2.2.2.2.2.foldl (pJ (pd w.2.1 i.2.1)) (D9 (jM w 127) i.2.1)) (pd w.2.1 i.2.1)then _ else none) rfl ?_;rw[c1,cond_true];refine Eq.trans (b:=bif cW (lX (i.2.2.2.2.2.foldl (pJ (pd w.2.1 i.2.1)) (D9 (jM w 127) i.2.1)) (pd w.2.1 i.2.1))then _ else none) rfl ?_;rw[c2,cond_true];rfl
 ·rw[at7 y lo w i _ rfl _ rfl _ rfl];unfold B7;dsimp only;rw[decide_eq_false h3,cond_false,cond_false];by_cases h0:(i.1:Int)=0
  ·rw[decide_eq_true h0];exact hD h k0 hm
  rw[decide_eq_false h0,cond_false,cond_false];by_cases h1:(i.1:Int)=12
  ·have hT:=wu h hm (ha (.inl h1));rw[decide_eq_true h1,h.cL hm (ha (.inl h1)),(h.lab i.2.1).cT (by omega) (by omega) (L:=pd w.2.1 i.2.1) (by omega)];exact hD ((h.lab i.2.1).MH _) k0 hm
  rw[decide_eq_false h1,cond_false,cond_false];by_cases h2:(i.1:Int)=13
  ·have hT:=wu h hm (ha (.inr (.inl h2)));have q:=(h.take 127).lab i.2.1;rw[decide_eq_true h2,h.cW (by omega) (by omega),(h.take 127).cL hm (ha (.inr (.inl h2))),q.cT (by omega) (by omega) (L:=pd w.2.1 i.2.1) (by omega),(q.MH _).cG k0 (L:=pd w.2.1 i.2.1) (by omega)];rfl
  rw[decide_eq_false h2,cond_false,cond_false];by_cases h4:(i.1:Int)=15
  ·have hT:=YA h;rw[decide_eq_true h4,show jA 0 (w.2.1.length:Int)=true from JW (j:=0) h.len,h.cT (by omega) (by omega) (L:=(w.2.1.getD 0 (cr jT)).2.2.2.1) (by omega)];exact hD (h.MH _) k0 hm
  rw[decide_eq_false h4,cond_false,cond_false];have s86:=qo (aui h k0 hm y lo i (hv h0 h4));rw[show k86 (xi y lo w i)=true from s86.1,show m86 (xi y lo w i)=_ from s86.2];rfl
def Is(w:W3)(i:den tI):W3:=(mVL i.2.2.2.1 i.2.2.2.2.1).foldl (fun w c=>mh w (decide (c<32))) w
theorem aBf(y:ca tM)(lo:List Int)(w:W3)(i:den tI)(f:ca sr):(t70 (wkF y lo w i f)).val=
 (let ret:=fun v:W3=>some (cg EC (wk y lo v))
 let M2:=fun v:W3=>bif !decide (f.1=8)then ret (mh v true)else cy (decide (0<=f.2.1)) (ret (mh v (decide (i.2.2.2.1<qR .u64 16 f.2.1))))
 let M:=bif decide (0<(y.2.2.2.2.1.length:Int))then M2 (mh w (decide (i.2.1<=f.2.1)))else M2 (mh w false)
 bif decide (f.1=7)then M else bif decide (f.1=8)then M else bif decide (f.1=14)then M else
 bif decide (f.1=13)then ret (mh w (decide (i.2.1<f.2.1)))else
 bif decide (f.1=12)then ret (Is w i)else ret w):=by kernel_rfl
def Ea(y:ca tM)(w:W3)(i:den tI)(f:ca sr):W3:=
 let M:=mh (mh w (bif decide (0<(y.2.2.2.2.1.length:Int))then decide (i.2.1<=f.2.1)else false)) (bif !decide (f.1=8)then true else decide (i.2.2.2.1<qR .u64 16 f.2.1))
 bif decide (f.1=7)then M else bif decide (f.1=8)then M else bif decide (f.1=14)then M else
 bif decide (f.1=13)then mh w (decide (i.2.1<f.2.1))else bif decide (f.1=12)then Is w i else w
theorem aul(y:ca tM)(lo:List Int)(w:W3)(i:den tI)(f:ca sr)(hf:(0:Int)<=f.2.1):adS (wkF y lo w i f)=wk y lo (Ea y w i f):=by
 refine(qo (t:=t70 (wkF y lo w i f)) ?_).2;rw[aBf];unfold Ea;dsimp only;rw[decide_eq_true hf];generalize decide (f.1=7)=c1;generalize decide (f.1=8)=c2;generalize decide (f.1=14)=c3;generalize decide (f.1=13)=c4;generalize decide (f.1=12)=c5;generalize decide (0<(y.2.2.2.2.1.length:Int))=c6;cases c1<;>cases c2<;>cases c3<;>cases c4<;>cases c5<;>cases c6<;>rfl
theorem Pb(w:W3)(i:den tI): ∃ b,Is w i=(w.1,w.2.1,b):=by
 unfold Is;have key: ∀ (l:List Int) (v:W3),(∃ b,v=(w.1,w.2.1,b))-> ∃ b,l.foldl (fun w c=>mh w (decide (c<32))) v=(w.1,w.2.1,b):=by
  intro l
  induction l with
  |nil=>intro v h;exact h
  |cons x l ih=>
   intro v h;obtain⟨b,rfl⟩:=h;exact ih _ ⟨_,rfl⟩
 exact key _ w ⟨_,rfl⟩
theorem Dc(y:ca tM)(w:W3)(i:den tI)(f:ca sr): ∃ b,Ea y w i f=(w.1,w.2.1,b):=by
 unfold Ea;dsimp only;cases decide (f.1=7)with
 |true=>exact⟨_,rfl⟩
 |false=>
  cases decide (f.1=8)with
  |true=>exact⟨_,rfl⟩
  |false=>
   cases decide (f.1=14)with
   |true=>exact⟨_,rfl⟩
   |false=>
    cases decide (f.1=13)with
    |true=>exact⟨_,rfl⟩
    |false=>
     cases decide (f.1=12)with
     |true=>exact Pb w i
     |false=>exact⟨_,rfl⟩
theorem Inv.fld{k m:Nat}{w:W3}(h:Inv k m w)(y:ca tM)(i:den tI)(f:ca sr):Inv k m (Ea y w i f):=by
 obtain⟨b,e⟩:=Dc y w i f;rw[e];exact h.bad b
def JZ(y:ca tM)(i:den tI)(v:W3):W3:=
 let g:=nh y.1 i.2.1
 let S:=lX (v.1,v.2.1,su y.1 i.2.1 v.2.2) g.1
 q9 (S.1,mu S.1 S.2.1 i.1 g.1 g.2,S.2.2) g.1
def anv(w:W3):W3:=
 let v:=jM w 127
 let t:=(mr v.1 v.2.1 v.2.2 0).1
 let u:=jM v 0
 q9 (jM u t) [(mr u.1 u.2.1 u.2.2 t).1]
def anw(y:ca tM)(w:W3)(i:den tI):W3:=q9 (lX (Ea y w i (kZ i.1)) (kZ i.1).2.2.2.1) (kZ i.1).2.2.2.2.1
def ku(y:ca tM)(lo:List Int)(w:W3)(i:den tI):W3:=
 bif (kZ i.1).2.2.1 then anw y w i else
 bif decide (i.1=2)||(decide (i.1=3)||decide (i.1=4))then JZ y i (bif decide (i.1=4)then jM w 127 else w)else
 bif decide (i.1=5)||decide (i.1=11)then ug w i.1 else
 bif decide (i.1=26)then jM w 0 else
 bif decide (i.1=27)then anv w else
 bif decide (i.1=16)then(let c:=jO y.1 (kI y.2.1 y.2.2.1 i.2.1);q9 (lX (mh w (kG y.1 (kI y.2.1 y.2.2.1 i.2.1))) c.1) c.2)else
 bif decide (i.1=17)then(let d:=jO y.1 i.2.1;q9 (lX (jM (mh w (bif kG y.1 i.2.1 then(bif decide (0<(y.2.2.2.1.length:Int))then decide (i.2.2.1=0)else false)else false)) 127) d.1) d.2)else
 B7 y lo w i
def Hn(y:ca tM):Prop:= ∀ s:den jK,s∈y.1->List.length s.1<=32/\List.length s.2<=32
theorem MI{y:ca tM}(h:Hn y):gT y.1=true:=by
 unfold gT;rw[List.all_eq_true];intro s hs;obtain⟨h1,h2⟩:=h s hs;rw[decide_eq_true (by omega),decide_eq_true (by omega)];rfl
theorem uh{y:ca tM}(h:Hn y)(k:Int):List.length (jO y.1 k).1<=32/\List.length (jO y.1 k).2<=32:=by
 unfold jO;cases hk:kG y.1 k with
 |false=>exact⟨Nat.zero_le _,Nat.zero_le _⟩
 |true=>
  unfold kG at hk
  have h1: ¬ k<0:=fun e=>by rw[decide_eq_true e]at hk;cases hk
  have h2: ¬ (y.1.length:Int)<=k:=fun e=>by rw[decide_eq_false h1,decide_eq_true e]at hk;cases hk
  have hj:k.toNat<y.1.length:=by omega
  refine h _ ?_;rw[List.getD_eq_getElem?_getD,List.getElem?_eq_getElem hj];exact List.getElem_mem hj
theorem QQ{y:ca tM}(h:Hn y)(a:Int):List.length (nh y.1 a).1<=32/\List.length (nh y.1 a).2<=32:=by
 unfold nh;cases decide (0<=a)with
 |true=>exact uh h a
 |false=>
  cases decide (a= -64)with
  |true=>exact⟨Nat.zero_le _,Nat.zero_le _⟩
  |false=>exact⟨Nat.zero_le _,by show List.length [_]<=32;simp⟩
theorem Inv.blk{k m:Nat}{w:W3}(h:Inv k m w){y:ca tM}(ht:Hn y)(i:den tI):Inv (k+32) (m+1) (JZ y i w):=by
 obtain⟨a,b⟩:=QQ ht i.2.1;have q:=((h.bad (su y.1 i.2.1 w.2.2)).MH (nh y.1 i.2.1).1).opn i.1 a b;exact(q.giv (nh y.1 i.2.1).1).le (by omega) (Nat.le_refl _)
theorem Inv.KJ{k m:Nat}{w:W3}(h:Inv k m w):Inv (k+1) m (anv w):=(((h.take 127).take 0).take _).giv [_]
theorem Inv.pln{k m:Nat}{w:W3}(h:Inv k m w)(y:ca tM)(i:den tI):Inv (k+16) m (anw y w i):=
 (((h.fld y i (kZ i.1)).MH _).giv _).le (by have:=(Yu i.1).2.2.1;omega) (Nat.le_refl _)
theorem Inv.close{k m:Nat}{w:W3}(h:Inv k m w)(n:Int)(qF:(ug w n).2.1≠[]):Inv (k+32) m (ug w n):=by
 have hio:=h.io _ h.mem;have hS:Inv k m ((tv w).1,w.2.1,(tv w).2):=h.MH (kB w.2.1).2.2.2.1;unfold ug at qF ⊢;obtain⟨r,B,e⟩:=B6 h.ne
 have ec:AA w=r:=by unfold AA;rw[e];simp
 have et:kB w.2.1=B:=by rw[e,za]
 cases hb:JY w with
 |true=>
  rw[ec,et,cond_true,<-e];exact(hS.bad true).le (by omega) (Nat.le_refl _)
 |false=>
  rw[hb]at qF;simp only[cond_false]at qF ⊢;have hh:((tv w).1.length:Int)=(kB w.2.1).2.1:=by
   unfold JY at hb;rw[Bool.or_eq_false_iff]at hb;have:=hb.2
   simpa using this
  have hp:=h.pw;have hht:=h.ht;have anx:=h.io;have hsb:=h.sb;have hsk:=hS.sk;rw[e]at hp hht anx hsb;rw[List.pairwise_append]at hp;rw[ec]at qF ⊢
  have hr: ∀ b,b∈r->(b.2.1:Int)<=((tv w).1.length:Int):=fun b hb=>by rw[hh,et];exact hp.2.2 b hb B (by simp)
  have hsk:(tv w).1.length<=k:=hsk;cases hn5:decide (n=5)with
  |true=>
   rw[hn5]at qF;simp only[cond_true]at qF ⊢;refine⟨qF,?_,?_,?_,?_,?_⟩
   ·show(mu _ _ _ _ _).Pairwise _;unfold mu;rw[List.pairwise_append];refine⟨hp.1,List.pairwise_singleton _ _,fun a ha b hb=>?_⟩
    have:b=(5,((tv w).1.length:Int),(kB w.2.1).2.2.1,(kB w.2.1).2.2.2.1,false,DJ r):=by simpa using hb
    rw[this];exact hr a ha
   ·intro b hb;unfold mu at hb
    rcases List.mem_append.1 hb with hb|hb
    ·exact⟨(hht b (List.mem_append_left _ hb)).1,Int.le_trans (hr b hb) (by show _<=(((tv w).1++(kB w.2.1).2.2.1).length:Int);rw[List.length_append];omega)⟩
    ·have:b=(5,((tv w).1.length:Int),(kB w.2.1).2.2.1,(kB w.2.1).2.2.2.1,false,DJ r):=by simpa using hb
     rw[this];exact⟨Int.natCast_nonneg _,by show((tv w).1.length:Int)<=(((tv w).1++(kB w.2.1).2.2.1).length:Int);rw[List.length_append];omega⟩
   ·intro b hb;unfold mu at hb
    rcases List.mem_append.1 hb with hb|hb
    ·exact anx b (List.mem_append_left _ hb)
    ·have:b=(5,((tv w).1.length:Int),(kB w.2.1).2.2.1,(kB w.2.1).2.2.2.1,false,DJ r):=by simpa using hb
     rw[this];exact hio
   ·show((tv w).1++(kB w.2.1).2.2.1).length<=_;rw[List.length_append];omega
   ·show(mu _ _ _ _ _).length<=_;unfold mu
    simpa using hsb
  |false=>
   rw[hn5]at qF;simp only[cond_false]at qF ⊢;refine⟨qF,hp.1,fun b hb=>?_,fun b hb=>anx b (List.mem_append_left _ hb),?_,?_⟩
   ·exact⟨(hht b (List.mem_append_left _ hb)).1,Int.le_trans (hr b hb) (by show _<=(((tv w).1++(kB w.2.1).2.2.2.1).length:Int);rw[List.length_append];omega)⟩
   ·show((tv w).1++(kB w.2.1).2.2.2.1).length<=_;rw[List.length_append];omega
   ·have:(r++[B]).length<=m:=hsb;rw[List.length_append]at this;show r.length<=m;omega
theorem IOk.np{i:den tI}(h:IOk i)(hp:(kZ i.1).2.2.1=false):(¬ (2<=(i.1:Int)/\(i.1:Int)<=5)-> ¬ (i.1:Int)=0-> ¬ (i.1:Int)=11-> ¬ (i.1:Int)=15-> ¬ (i.1:Int)=26-> ¬ (i.1:Int)=27->(0:Int)<=i.2.1/\(i.2.1:Int)<4294967296)/\((i.1:Int)=14-> ∀ x,x∈i.2.2.2.2.2->(0:Int)<=x):=by
 have hn:=aud h.is hp;have key: ∀ (o f:Int),npP o f=true->(f=3∨f=4∨f=5∨f=6∨((2<=o/\o<=5)∨o=0∨o=11∨o=15∨o=26∨o=27))/\(o=14->f=4):=by
  intro o f h;unfold npP at h;by_cases f1:f=1
  ·rw[decide_eq_true f1]at h;simp only[cond_true,Bool.or_eq_true,decide_eq_true_eq]at h;omega
  rw[decide_eq_false f1,cond_false]at h;by_cases f2:f=2
  ·rw[decide_eq_true f2]at h;simp only[cond_true,Bool.or_eq_true,decide_eq_true_eq]at h;omega
  rw[decide_eq_false f2,cond_false]at h;by_cases f3:f=3
  ·rw[decide_eq_true f3]at h;simp only[cond_true,Bool.or_eq_true,decide_eq_true_eq]at h;omega
  rw[decide_eq_false f3,cond_false]at h;by_cases f4:f=4
  ·rw[decide_eq_true f4]at h;simp only[cond_true,decide_eq_true_eq]at h;omega
  rw[decide_eq_false f4,cond_false]at h;by_cases f5:f=5
  ·rw[decide_eq_true f5]at h;simp only[cond_true,Bool.or_eq_true,Bool.and_eq_true,decide_eq_true_eq]at h;omega
  rw[decide_eq_false f5,cond_false]at h;by_cases f6:f=6
  ·rw[decide_eq_true f6]at h;simp only[cond_true,decide_eq_true_eq]at h;omega
  rw[decide_eq_false f6]at h;cases h
 obtain⟨k1,k2⟩:=key _ _ hn;refine⟨fun a b c d e f=>?_,fun e=>h.l (k2 e)⟩
 rcases k1 with q|q|q|q|q|q|q|q|q|q
 ·exact h.a _ rfl (.inl q)
 ·exact h.a _ rfl (.inr (.inl q))
 ·exact h.a _ rfl (.inr (.inr (.inl q)))
 ·exact h.a _ rfl (.inr (.inr (.inr q)))
 ·exact(a q).elim
 ·exact(b q).elim
 ·exact(c q).elim
 ·exact(d q).elim
 ·exact(e q).elim
 ·exact(f q).elim
theorem Inv.step{k m:Nat}{w:W3}(h:Inv k m w){y:ca tM}(ht:Hn y)(lo:List Int){i:den tI}(hi:IOk i)(hk:k+32*i.2.2.2.2.2.length<=1073741824)(hm:m<=1073741824)(qF:(ku y lo w i).2.1≠[]):Inv (k+32) (m+1) (ku y lo w i):=by
 unfold ku at qF ⊢;cases hp:(kZ i.1).2.2.1 with
 |true=>exact(h.pln y i).le (by omega) (by omega)
 |false=>
  rw[hp]at qF;simp only[cond_false]at qF ⊢;obtain⟨n1,n2⟩:=hi.np hp;cases c1:decide (i.1=2)||(decide (i.1=3)||decide (i.1=4))with
  |true=>
   simp only[cond_true];cases decide (i.1=4)with
   |true=>exact(h.take 127).blk ht i
   |false=>exact h.blk ht i
  |false=>
   rw[c1]at qF;simp only[cond_false]at qF ⊢;cases c2:decide (i.1=5)||decide (i.1=11)with
   |true=>
    rw[c2]at qF;exact(h.close i.1 qF).le (by omega) (by omega)
   |false=>
    rw[c2]at qF;simp only[cond_false]at qF ⊢;cases c3:decide (i.1=26)with
    |true=>exact(h.take 0).le (by omega) (by omega)
    |false=>
     simp only[cond_false];cases c4:decide (i.1=27)with
     |true=>exact h.KJ.le (by omega) (by omega)
     |false=>
      simp only[cond_false];cases c5:decide (i.1=16)with
      |true=>
       have:=uh ht (kI y.2.1 y.2.2.1 i.2.1);exact(((h.mst _).MH _).giv _).le (by omega) (by omega)
      |false=>
       simp only[cond_false];cases c6:decide (i.1=17)with
       |true=>
        have:=uh ht i.2.1;exact((((h.mst _).take 127).MH _).giv _).le (by omega) (by omega)
       |false=>
        simp only[cond_false];simp only[Bool.or_eq_false_iff,decide_eq_false_iff_not]at c1 c2 c3 c4 c5 c6
        have key: ∀ o:Int,(¬ o=2/\ ¬ o=3/\ ¬ o=4)->(¬ o=5/\ ¬ o=11)-> ¬ (2<=o/\o<=5):=fun o _ _=>by omega
        refine(h.jump hm y lo i (fun e=>?_) n2 hk hi.n).le (Nat.le_refl _) (Nat.le_succ _)
        have ne0: ∀ o:Int,o=12∨o=13∨o=14-> ¬ o=0/\ ¬ o=15:=fun o _=>by omega
        exact(n1 (key _ c1 c2) (ne0 _ e).1 c2.2 (ne0 _ e).2 c3 c4).1
theorem aun{k m:Nat}{w:W3}(h:Inv k m w){y:ca tM}(ht:Hn y)(lo:List Int){i:den tI}(hi:IOk i)(hk:k+32*i.2.2.2.2.2.length<=1073741823)(hm:m<=1073741823)(R4:y.2.1.length<=1099511627776):(t62 (xi y lo w i)).val=some (cg tc (wk y lo (ku y lo w i))):=by
 obtain⟨l1,l2,l3,_,_⟩:=Yu i.1
 have k0:k<=1073741823:=by omega
 have hz:=aul y lo w i (kZ i.1) l1;rw[aBa y (MI ht) lo w i _ rfl _ hz.symm _ rfl _ rfl _ rfl];unfold ku;dsimp only;cases hp:(kZ i.1).2.2.1 with
 |true=>
  have q:=h.fld y i (kZ i.1);have e:adT (wkF y lo w i (kZ i.1))=true:=decide_eq_true l1;simp only[cond_true];rw[e];obtain⟨b,eb⟩:=Dc y w i (kZ i.1);have c1:=q.cT (L:=(kZ i.1).2.2.2.1) (by omega) (by omega) (by omega);have c2:=(q.MH (kZ i.1).2.2.2.1).cG (by omega) (L:=(kZ i.1).2.2.2.2.1) (by omega);refine Eq.trans (b:=bif cT (Ea y w i (kZ i.1)) (kZ i.1).2.2.2.1 then _ else none) rfl ?_;rw[c1,cond_true];refine Eq.trans (b:=bif cG (lX (Ea y w i (kZ i.1)) (kZ i.1).2.2.2.1) (kZ i.1).2.2.2.2.1 then _ else none) rfl ?_;rw[c2,cond_true];rfl
 |false=>
  simp only[cond_false];obtain⟨n1,n2⟩:=hi.np hp
  have B2: ∀ {k m:Nat} {v:W3},Inv k m v->k<=1073741823->m<=1073741823->cy (cT (v.1,v.2.1,su y.1 i.2.1 v.2.2) (nh y.1 i.2.1).1) (
   cy (decide ((lX (v.1,v.2.1,su y.1 i.2.1 v.2.2) (nh y.1 i.2.1).1).2.1.length+1<=549755813888)) (
    cy (cG ((lX (v.1,v.2.1,su y.1 i.2.1 v.2.2) (nh y.1 i.2.1).1).1,mu (lX (v.1,v.2.1,su y.1 i.2.1 v.2.2) (nh y.1 i.2.1).1).1 (lX (v.1,v.2.1,su y.1 i.2.1 v.2.2) (nh y.1 i.2.1).1).2.1 i.1 (nh y.1 i.2.1).1 (nh y.1 i.2.1).2,(lX (v.1,v.2.1,su y.1 i.2.1 v.2.2) (nh y.1 i.2.1).1).2.2) (nh y.1 i.2.1).1)
     (some (cg tc (wk y lo (JZ y i v))))))=some (cg tc (wk y lo (JZ y i v))):=by
   intro k m v q hk hm;obtain⟨a,b⟩:=QQ ht i.2.1;have q1:=q.bad (su y.1 i.2.1 v.2.2);have q2:=q1.MH (nh y.1 i.2.1).1;have q3:=q2.opn i.1 a b;have hb:v.2.1.length<=m:=q.sb;have c0:decide ((lX (v.1,v.2.1,su y.1 i.2.1 v.2.2) (nh y.1 i.2.1).1).2.1.length+1<=549755813888)=true:=decide_eq_true (by show v.2.1.length+1<=_;omega);rw[q1.cT (by omega) (by omega) (L:=(nh y.1 i.2.1).1) (by omega),c0,q3.cG (by omega) (L:=(nh y.1 i.2.1).1) (by omega)];rfl
  have Gy:(bif decide (i.1=4)then cy (cW w) (cy (cT ((jM w 127).1,(jM w 127).2.1,su y.1 i.2.1 (jM w 127).2.2) (nh y.1 i.2.1).1) (
   cy (decide ((lX ((jM w 127).1,(jM w 127).2.1,su y.1 i.2.1 (jM w 127).2.2) (nh y.1 i.2.1).1).2.1.length+1<=549755813888)) (
    cy (cG ((lX ((jM w 127).1,(jM w 127).2.1,su y.1 i.2.1 (jM w 127).2.2) (nh y.1 i.2.1).1).1,mu (lX ((jM w 127).1,(jM w 127).2.1,su y.1 i.2.1 (jM w 127).2.2) (nh y.1 i.2.1).1).1 (lX ((jM w 127).1,(jM w 127).2.1,su y.1 i.2.1 (jM w 127).2.2) (nh y.1 i.2.1).1).2.1 i.1 (nh y.1 i.2.1).1 (nh y.1 i.2.1).2,(lX ((jM w 127).1,(jM w 127).2.1,su y.1 i.2.1 (jM w 127).2.2) (nh y.1 i.2.1).1).2.2) (nh y.1 i.2.1).1)
     (some (cg tc (wk y lo (JZ y i (jM w 127))))))))else cy (cT (w.1,w.2.1,su y.1 i.2.1 w.2.2) (nh y.1 i.2.1).1) (
   cy (decide ((lX (w.1,w.2.1,su y.1 i.2.1 w.2.2) (nh y.1 i.2.1).1).2.1.length+1<=549755813888)) (
    cy (cG ((lX (w.1,w.2.1,su y.1 i.2.1 w.2.2) (nh y.1 i.2.1).1).1,mu (lX (w.1,w.2.1,su y.1 i.2.1 w.2.2) (nh y.1 i.2.1).1).1 (lX (w.1,w.2.1,su y.1 i.2.1 w.2.2) (nh y.1 i.2.1).1).2.1 i.1 (nh y.1 i.2.1).1 (nh y.1 i.2.1).2,(lX (w.1,w.2.1,su y.1 i.2.1 w.2.2) (nh y.1 i.2.1).1).2.2) (nh y.1 i.2.1).1)
     (some (cg tc (wk y lo (JZ y i w)))))))=some (cg tc (wk y lo (JZ y i (bif decide (i.1=4)then jM w 127 else w)))):=by
   cases decide (i.1=4)with
   |true=>rw[cond_true,cond_true,h.cW (by omega) (by omega)];exact B2 (h.take 127) k0 hm
   |false=>exact B2 h k0 hm
  by_cases d2:(i.1:Int)=2
  ·rw[decide_eq_true d2,cond_true];exact Gy
  rw[decide_eq_false d2,cond_false];by_cases d3:(i.1:Int)=3
  ·rw[decide_eq_true d3,cond_true];exact Gy
  rw[decide_eq_false d3,cond_false];by_cases d4:(i.1:Int)=4
  ·have:=Gy;rw[decide_eq_true d4]at this ⊢;exact this
  rw[decide_eq_false d4,cond_false];simp only[Bool.false_or,cond_false];have s75:=qo (aug h (by omega) (by omega) y lo i.1);have e75:cy (k75 (wkN y lo w i.1)) (some (cg tc (m75 (wkN y lo w i.1))))=some (cg tc (wk y lo (ug w i.1))):=by
   rw[show k75 (wkN y lo w i.1)=true from s75.1,show m75 (wkN y lo w i.1)=_ from s75.2];rfl
  by_cases d5:(i.1:Int)=5
  ·rw[decide_eq_true d5,cond_true];exact e75
  rw[decide_eq_false d5,cond_false];by_cases d11:(i.1:Int)=11
  ·rw[decide_eq_true d11,cond_true];exact e75
  rw[decide_eq_false d11,cond_false];simp only[Bool.false_or,cond_false];by_cases d26:(i.1:Int)=26
  ·rw[decide_eq_true d26,h.cW (by omega) (by omega)];rfl
  rw[decide_eq_false d26];simp only[cond_false];by_cases d27:(i.1:Int)=27
  ·have q1:=h.take 127;have q2:=q1.take 0;have q3:=q2.take ((mr (jM w 127).1 (jM w 127).2.1 (jM w 127).2.2 0).1);rw[decide_eq_true d27,h.cW (by omega) (by omega),q1.cW (by omega) (by omega),q2.cW (by omega) (by omega),q3.cG (by omega) (L:=[_]) (by simp)];rfl
  rw[decide_eq_false d27];simp only[cond_false]
  have key: ∀ o:Int,¬ o=2-> ¬ o=3-> ¬ o=4-> ¬ o=5-> ¬ (2<=o/\o<=5):=fun o _ _ _ _=>by omega
  by_cases d16:(i.1:Int)=16
  ·have ha:=n1 (key _ d2 d3 d4 d5) (zS d16 (by decide)) (zS d16 (by decide)) (zS d16 (by decide)) d26 d27;obtain⟨a,b⟩:=uh ht (kI y.2.1 y.2.2.1 i.2.1);have q:=h.mst (kG y.1 (kI y.2.1 y.2.2.1 i.2.1));have c0:(decide (i.2.1<9223372036854775808)&&decide (y.2.1.length<=1099511627776))=true:=by
    rw[decide_eq_true (show(i.2.1:Int)<9223372036854775808 from Int.lt_trans ha.2 (by decide)),decide_eq_true R4];rfl
   rw[decide_eq_true d16,c0,q.cT (by omega) (by omega) (L:=(jO y.1 (kI y.2.1 y.2.2.1 i.2.1)).1) (by omega),(q.MH _).cG (by omega) (L:=(jO y.1 (kI y.2.1 y.2.2.1 i.2.1)).2) (by omega)];rfl
  rw[decide_eq_false d16];simp only[cond_false];by_cases d17:(i.1:Int)=17
  ·obtain⟨a,b⟩:=uh ht i.2.1;have I: ∀ ok:Bool,cy (cW w) (cy (cT (jM (mh w ok) 127) (jO y.1 i.2.1).1) (cy (cG (lX (jM (mh w ok) 127) (jO y.1 i.2.1).1) (jO y.1 i.2.1).2) (some (cg tc (wk y lo (q9 (lX (jM (mh w ok) 127) (jO y.1 i.2.1).1) (jO y.1 i.2.1).2))))))=some (cg tc (wk y lo (q9 (lX (jM (mh w ok) 127) (jO y.1 i.2.1).1) (jO y.1 i.2.1).2))):=by
    intro ok;have q:=(h.mst ok).take 127;rw[h.cW (by omega) (by omega),q.cT (by omega) (by omega) (L:=(jO y.1 i.2.1).1) (by omega),(q.MH _).cG (by omega) (L:=(jO y.1 i.2.1).2) (by omega)];rfl
   rw[decide_eq_true d17];simp only[cond_true,I];cases kG y.1 i.2.1 with
   |false=>rfl
   |true=>cases decide (0<(y.2.2.2.1.length:Int))<;>rfl
  rw[decide_eq_false d17];simp only[cond_false];have s77:=qo (auk h (by omega) y lo i (by omega) hi.n (fun e=>?_) n2 (fun e0 e15=>(n1 (key _ d2 d3 d4 d5) e0 d11 e15 d26 d27).1))
  ·rw[show k77 (xi y lo w i)=true from s77.1,show m77 (xi y lo w i)=_ from s77.2];rfl
  ·have ne0: ∀ o:Int,o=12∨o=13∨o=14-> ¬ o=0/\ ¬ o=15:=fun o _=>by omega
   exact(n1 (key _ d2 d3 d4 d5) (ne0 _ e).1 d11 (ne0 _ e).2 d26 d27).1
end Go.Proofs.Vd
