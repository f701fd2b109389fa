import Derived.Test.YtcnkojgmochcgaaGreatDoorAb18
import Derived.KernelRfl
import Derived.Below
import Derived.Lib.SmallJoins
noncomputable section
namespace Go.Ab
variable [Io]
namespace Cx
def wi(c:Cx)(nx bd:Nat->Nat):Cx:={c with nx:=nx,bd:=bd}
def GI(c:Cx)(i:Nat):Prop:=
 (c.np i .p0-> ∃ v,(∀ h,c.FE i (c.rf i) h=.ok v h)/\c.Slot i v/\c.uY i (c.bd i))/\
 (c.np i .al-> ∃ v,c.Slot i v/\c.uY i (c.nx i)/\((c.FE i (c.rf i) (oO (c.nx i))=.ok v (oO (c.nx i))/\c.bd i=c.nx i)∨
  ∃ cs,c.FE i (c.rf i) (oO (c.nx i))=.ok v (nn (oO (c.nx i)) cs)/\c.bd i=c.nx i+1))
def rh(f:Nat->Nat)(i n:Nat):Nat->Nat:=fun j=>if j=i then n else f j
omit [Io] in
theorem qk{f:Nat->Nat}{i n:Nat}:rh f i n i=n:=if_pos rfl
omit [Io] in
theorem rB{f:Nat->Nat}{i n j:Nat}(h:j≠i):rh f i n j=f j:=if_neg h
variable {c:Cx}
omit [Io] in
theorem SK{nx bd:Nat->Nat}{i:Nat}: ∀ (l:List Nat),(c.wi nx bd).QS i l=c.QS i l
 | []=>rfl
 |u::l=>by
  rw[QS,QS,SK l]
  rfl
omit [Io] in
theorem Hw{nx bd:Nat->Nat}{i:Nat}:(c.wi nx bd).rf i=c.rf i:=SK _
omit [Io] in
theorem Na{cU:List Nat}{i N:Nat}(hr:JA c.nt c.ops.toList cU i=true)(hb: ∀ j∈cU,c.bd j<=N):c.uY i N:=by
 intro u hu
 obtain⟨h1,h2⟩:=Ck hr u hu
 exact⟨h1,h2.imp (fun h j hj=>⟨(h j hj).2,hb j (h j hj).1⟩) (fun h j hj=>(h j hj).2.1)⟩
omit [Io] in
theorem Bc(qt:c.nt<=512)(pD: ∀ u,u<512->(∀ j,¬ c.sV j u)->c.te.at u=c.t0.at u)(GF: ∀ i j d,c.sV i d->c.sV j d->i=j){k:List Nat->tH}(hk: ∀ cU t h,k cU t h=.ok c.te c.hE->c.Fr cU t)
 {Φ:(Nat->Nat)->(Nat->Nat)->List Nat->Prop}{h:Hp}
 (ih: ∀ (cU:List Nat) (t:Tm) (w6 vq:Nat->Nat),k cU t h=.ok c.te c.hE->c.FrO cU t->(∀ j∈cU,vq j<=h.next)-> ∃ nx bd,(∀ j∈cU,nx j=w6 j/\bd j=vq j)/\Φ nx bd cU):
 ∀ (pre cU:List Nat) (t:Tm) (w6 vq:Nat->Nat),Hs c.P c.call c.nt c.ops.toList pre cU k t h=.ok c.te c.hE->c.FrO cU t->(∀ j∈cU,vq j<=h.next)->
  ∃ nx bd,(∀ j∈cU,nx j=w6 j/\bd j=vq j)/\(c.wi nx bd).P1s pre h/\ ∃ vB,Φ nx bd vB/\ ∀ i∈vB,i∈cU∨((c.wi nx bd).GI i/\(c.np i .p0∨c.np i .p1))
 | [],cU,t,w6,vq,e,hO,hb=>by
  obtain⟨nx,bd,h1,h2⟩:=ih cU t w6 vq e hO hb
  exact⟨nx,bd,h1,(fun i hi=>by cases hi),cU,h2,fun i hi=>.inl hi⟩
 |i::l,cU,t,w6,vq,e,hO,hb=>by
  have F:=wF qt hk (i::l) cU t h e
  unfold Hs at e
  cases h1:JA c.nt c.ops.toList cU i with
  |false=>rw[h1]at e;cases e
  |true=>
  rw[h1]at e
  simp only[pH]at e
  cases h2:sr i cU with
  |true=>
   rw[h2]at e
   cases h3:yA c.P c.call c.ops.toList .p1 i with
   |false=>rw[h3]at e;cases e
   |true=>
    rw[h3]at e
    obtain⟨o,v,ho,hg,e,hs⟩:=Hu (rG.1 h3) e
    obtain⟨nx,bd,a1,a2,vB,a3,a4⟩:=Bc qt pD GF hk ih l cU t w6 vq e hO hb
    refine⟨nx,bd,a1,fun j hj hc=>?_,vB,a3,a4⟩
    rcases List.mem_cons.1 hj with rfl|hj
    ·refine⟨v,Hv qt pD F hO ho h1 hg,?_,Na (c:=c.wi nx bd) h1 (fun j hj=>by show bd j<=_;rw[(a1 j hj).2];exact hb j hj)⟩
     intro d hd
     obtain⟨o',sW,Ka⟩:=id hd
     have SL:c.ops[j]? =some o':=sW
     rw[ho]at SL
     cases SL
     obtain⟨s1,s2⟩:=hs d Ka
     refine⟨s1,?_⟩
     show c.te.at d=_
     rw[F d (Nat.lt_of_lt_of_le s1 qt) (fun x hx=>by rw[GF x j d hx hd];exact rO.1 h2)]
     exact s2
    ·exact a2 j hj hc
  |false=>
   rw[h2]at e
   have hni:=uD h2
   cases h3:(yA c.P c.call c.ops.toList .p0 i||yA c.P c.call c.ops.toList .p1 i)with
   |false=>rw[h3]at e;cases e
   |true=>
    rw[h3]at e
    have px:c.np i .p0∨c.np i .p1:=by
     rw[Bool.or_eq_true]at h3
     exact h3.imp rG.1 rG.1
    obtain⟨o,v,vp,t1,ho,hg,e2,ht⟩:=yB e
    clear e
    have hlv:vp=h:=by
     rcases px with⟨o',sW,Hx⟩|⟨o',sW,Hx⟩
     ·rw[ho]at sW;cases sW
      exact((yu Hx).ok hg).1
     ·rw[ho]at sW;cases sW
      exact SJ Hx _ _ _ _ hg
    subst hlv
    have xg: ∀ j∈cU,j≠i:=fun j hj e=>hni (e▸hj)
    obtain⟨nx,bd,a1,a2,vB,a3,a4⟩:=Bc qt pD GF hk ih l (i::cU) t1 (rh w6 i vp.next) (rh vq i vp.next) e2 (Cm qt ho ht hO) (fun j hj=>by
     rcases List.mem_cons.1 hj with rfl|hj
     ·rw[qk];exact Nat.le_refl _
     ·rw[rB (xg j hj)];exact hb j hj)
    have agree: ∀ j∈cU,nx j=w6 j/\bd j=vq j:=fun j hj=>by
     have:=a1 j (List.mem_cons_of_mem _ hj)
     rwa [rB (xg j hj),rB (xg j hj)]at this
    have hbi:bd i=vp.next:=by
     have:=(a1 i List.mem_cons_self).2
     rwa [qk]at this
    have hrd:(c.wi nx bd).uY i vp.next:=Na (c:=c.wi nx bd) h1 (fun j hj=>by show bd j<=_;rw[(agree j hj).2];exact hb j hj)
    have nW:c.Slot i v:=zL qt GF ho ht (wF qt hk l (i::cU) t1 vp e2)
    refine⟨nx,bd,agree,fun j hj hc=>?_,vB,a3,fun j hj=>?_⟩
    ·rcases List.mem_cons.1 hj with rfl|hj
     ·exact⟨v,Hv qt pD F hO ho h1 hg,nW,hrd⟩
     ·exact a2 j hj hc
    ·rcases a4 j hj with h|h
     ·rcases List.mem_cons.1 h with rfl|h
      ·refine .inr ⟨⟨fun hc=>⟨v,?_,nW,?_⟩,fun hc=>?_⟩,px⟩
       ·obtain⟨o',sW,Hx⟩:=hc
        have SL:c.ops[j]? =some o':=sW
        rw[ho]at SL
        cases SL
        intro h0
        rw[Hw]
        show c.FE j (c.rf j) h0=_
        have:=Hv qt pD F hO ho h1 hg
        rw[Au ho]at this ⊢
        exact((yu Hx).ok this).2 h0
       ·show Cx.uY _ j (bd j)
        rw[hbi];exact hrd
       ·rcases px with h|h<;>cases c.rr h hc
      ·exact .inl h
     ·exact .inr h
omit [Io] in
theorem Fv(qt:c.nt<=512)(pD: ∀ u,u<512->(∀ j,¬ c.sV j u)->c.te.at u=c.t0.at u)(GF: ∀ i j d,c.sV i d->c.sV j d->i=j){k:List Nat->tH}(hk: ∀ cU t h,k cU t h=.ok c.te c.hE->c.Fr cU t)
 {Φ:(Nat->Nat)->(Nat->Nat)->List Nat->Hp->Prop}
 (ih: ∀ (cU:List Nat) (t:Tm) (h:Hp) (w6 vq:Nat->Nat),k cU t h=.ok c.te c.hE->c.FrO cU t->(∀ j∈cU,vq j<=h.next)-> ∃ nx bd,(∀ j∈cU,nx j=w6 j/\bd j=vq j)/\Φ nx bd cU h):
 ∀ (pA cU:List Nat) (t:Tm) (h:Hp) (w6 vq:Nat->Nat),Kh c.P c.call c.nt c.ops.toList pA cU k t h=.ok c.te c.hE->c.FrO cU t->(∀ j∈cU,vq j<=h.next)->
  ∃ nx bd,(∀ j∈cU,nx j=w6 j/\bd j=vq j)/\ ∃ h1 vB,(c.wi nx bd).AK pA h h1/\Φ nx bd vB h1/\ ∀ i∈vB,i∈cU∨((c.wi nx bd).GI i/\i∈pA/\(c.np i .p0∨c.np i .al))
 | [],cU,t,h,w6,vq,e,hO,hb=>by
  obtain⟨nx,bd,h1,h2⟩:=ih cU t h w6 vq e hO hb
  exact⟨nx,bd,h1,h,cU,rfl,h2,fun i hi=>.inl hi⟩
 |i::l,cU,t,h,w6,vq,e,hO,hb=>by
  have F:=u4 qt hk (i::l) cU t h e
  unfold Kh at e
  cases Nb:(JA c.nt c.ops.toList cU i&&(!sr i cU&&(yA c.P c.call c.ops.toList .p0 i||yA c.P c.call c.ops.toList .al i)))with
  |false=>rw[Nb]at e;cases e
  |true=>
   rw[Nb]at e
   simp only[pH]at e
   simp only[Bool.and_eq_true,Bool.not_eq_true',Bool.or_eq_true]at Nb
   obtain⟨h1,h2,h3⟩:=Nb
   have hni:=uD h2
   have px:c.np i .p0∨c.np i .al:=h3.imp rG.1 rG.1
   obtain⟨o,v,h',t1,ho,hg,e2,ht⟩:=yB e
   clear e
   have xg: ∀ j∈cU,j≠i:=fun j hj e=>hni (e▸hj)
   have hle:h.next<=h'.next:=by
    rcases px with⟨o',sW,Hx⟩|⟨o',sW,Hx⟩
    ·rw[ho]at sW;cases sW
     rw[((yu Hx).ok hg).1]
     exact Nat.le_refl _
    ·rw[ho]at sW;cases sW
     rcases Hr Hx _ _ _ _ hg (oO h.next) rfl with⟨rfl,_⟩|⟨cs,rfl,_⟩
     ·exact Nat.le_refl _
     ·exact Nat.le_succ _
   obtain⟨nx,bd,a1,vp,vB,a2,a3,a4⟩:=Fv qt pD GF hk ih l (i::cU) t1 h' (rh w6 i h.next) (rh vq i h'.next) e2 (Cm qt ho ht hO) (fun j hj=>by
    rcases List.mem_cons.1 hj with rfl|hj
    ·rw[qk];exact Nat.le_refl _
    ·rw[rB (xg j hj)];exact Nat.le_trans (hb j hj) hle)
   have agree: ∀ j∈cU,nx j=w6 j/\bd j=vq j:=fun j hj=>by
    have:=a1 j (List.mem_cons_of_mem _ hj)
    rwa [rB (xg j hj),rB (xg j hj)]at this
   have hbi:bd i=h'.next:=by
    have:=(a1 i List.mem_cons_self).2
    rwa [qk]at this
   have PJ:nx i=h.next:=by
    have:=(a1 i List.mem_cons_self).1
    rwa [qk]at this
   have hrd:(c.wi nx bd).uY i h.next:=Na (c:=c.wi nx bd) h1 (fun j hj=>by show bd j<=_;rw[(agree j hj).2];exact hb j hj)
   have nW:c.Slot i v:=zL qt GF ho ht (u4 qt hk l (i::cU) t1 h' e2)
   have hte:=Hv qt pD F hO ho h1 hg
   rcases px with px|px
   ·have hh:h'=h:=by
     obtain⟨o',sW,Hx⟩:=px
     rw[ho]at sW;cases sW
     exact((yu Hx).ok hg).1
    subst hh
    refine⟨nx,bd,agree,vp,vB,.inl ⟨px,a2⟩,a3,fun j hj=>?_⟩
    rcases a4 j hj with h|⟨h,h5,h6⟩
    ·rcases List.mem_cons.1 h with rfl|h
     ·refine .inr ⟨⟨fun hc=>⟨v,?_,nW,?_⟩,fun hc=>?_⟩,List.mem_cons_self,.inl px⟩
      ·obtain⟨o',sW,Hx⟩:=px
       rw[ho]at sW
       cases sW
       intro h0
       rw[Hw]
       show c.FE j (c.rf j) h0=_
       rw[Au ho]at hte ⊢
       exact((yu Hx).ok hte).2 h0
      ·show Cx.uY _ j (bd j)
       rw[hbi];exact hrd
      ·cases c.rr px hc
     ·exact .inl h
    ·exact .inr ⟨h,List.mem_cons_of_mem _ h5,h6⟩
   ·have key:(h'=h/\c.FE i (c.rf i) (oO h.next)=.ok v (oO h.next))∨ ∃ cs,h'=nn h cs/\c.FE i (c.rf i) (oO h.next)=.ok v (nn (oO h.next) cs):=by
     obtain⟨o',sW,Hx⟩:=px
     rw[ho]at sW;cases sW
     rw[Au ho]at hte ⊢
     exact Hr Hx _ _ _ _ hte (oO h.next) rfl
    refine⟨nx,bd,agree,vp,vB,.inr ⟨px,PJ,?_⟩,a3,fun j hj=>?_⟩
    ·rcases key with⟨rfl,_⟩|⟨cs,rfl,hf⟩
     ·exact .inl ⟨hbi.trans PJ.symm,a2⟩
     ·refine .inr ⟨v,cs,?_,?_,a2⟩
      ·show bd i=nx i+1
       rw[hbi,PJ];rfl
      ·rw[Hw]
       show c.FE i (c.rf i) (oO (nx i))=.ok v (nn (oO (nx i)) cs)
       rw[PJ];exact hf
    ·rcases a4 j hj with h0|⟨h0,h5,h6⟩
     ·rcases List.mem_cons.1 h0 with rfl|h0
      ·refine .inr ⟨⟨fun hc=>?_,fun hc=>⟨v,nW,?_,?_⟩⟩,List.mem_cons_self,.inr px⟩
       ·cases c.rr px hc
       ·show Cx.uY _ j (nx j)
        rw[PJ];exact hrd
       ·rw[Hw]
        show(c.FE j (c.rf j) (oO (nx j))=.ok v (oO (nx j))/\bd j=nx j)∨ ∃ cs,c.FE j (c.rf j) (oO (nx j))=.ok v (nn (oO (nx j)) cs)/\bd j=nx j+1
        rw[PJ,hbi]
        rcases key with⟨rfl,hf⟩|⟨cs,rfl,hf⟩
        ·exact .inl ⟨hf,rfl⟩
        ·exact .inr ⟨cs,hf,rfl⟩
      ·exact .inl h0
     ·exact .inr ⟨h0,List.mem_cons_of_mem _ h5,h6⟩
omit [Io] in
theorem Hy(qt:c.nt<=512)(pD: ∀ u,u<512->(∀ j,¬ c.sV j u)->c.te.at u=c.t0.at u)(GF: ∀ i j d,c.sV i d->c.sV j d->i=j): ∀ (pl:sM) (cU:List Nat) (t:Tm) (h:Hp) (w6 vq:Nat->Nat),
 uB c.P c.call c.nt c.ops.toList pl cU t h=.ok c.te c.hE->c.FrO cU t->(∀ j∈cU,vq j<=h.next)->
  ∃ nx bd,(∀ j∈cU,nx j=w6 j/\bd j=vq j)/\(c.wi nx bd).Dz pl h/\(∀ i,i<c.ops.size->bd i<=c.hE.next)/\
   ∀ i,i<c.ops.size->i∉cU->(c.wi nx bd).GI i/\(c.np i .al->i∈pl.pA)/\(c.np i .ch->i∈pl.Di)
 | .last pre pA,cU,t,h,w6,vq,e,hO,hb=>by
  unfold uB at e
  have aca: ∀ cU t h,(pH (allI (fun i _=>sr i cU) c.ops.toList 0) fi (fun _ _=>.bad):tH) t h=.ok c.te c.hE->(∀ i,i<c.ops.size->i∈cU)/\t=c.te/\h=c.hE:=by
   intro cU t h e
   cases hB:allI (fun i _=>sr i cU) c.ops.toList 0 with
   |false=>rw[hB]at e;cases e
   |true=>
    rw[hB]at e
    obtain⟨h1,h2⟩:=Rt.ok.inj e
    refine⟨fun i hi=>?_,h1,h2⟩
    have:=rP hB i c.ops[i] (by simp[hi])
    exact rO.1 this
  have hk: ∀ cU t h,(pH (allI (fun i _=>sr i cU) c.ops.toList 0) fi (fun _ _=>.bad):tH) t h=.ok c.te c.hE->c.Fr cU t:=by
   intro cU t h e
   obtain⟨_,rfl,_⟩:=aca cU t h e
   exact fun u _ _=>rfl
  obtain⟨nx,bd,a1,a2,vB,⟨h1,vC,b2,⟨rfl,b3,b4⟩,b5⟩,a4⟩:=Bc (Φ:=fun nx bd vB=> ∃ h1 vC,(c.wi nx bd).AK pA h h1/\(h1=c.hE/\(∀ i,i<c.ops.size->i∈vC)/\(∀ i∈vC,bd i<=c.hE.next))/\
   ∀ i∈vC,i∈vB∨((c.wi nx bd).GI i/\i∈pA/\(c.np i .p0∨c.np i .al))) qt pD GF (u4 qt hk pA) (fun cU t w6 vq e hO hb=>by
   obtain⟨nx,bd,a1,h1,vC,a2,a3,a4⟩:=Fv (Φ:=fun nx bd vC h1=>h1=c.hE/\(∀ i,i<c.ops.size->i∈vC)/\(∀ i∈vC,bd i<=c.hE.next)) qt pD GF hk (fun cU t h w6 vq e hO hb=>by
    obtain⟨h1,_,rfl⟩:=aca cU t h e
    exact⟨w6,vq,fun _ _=>⟨rfl,rfl⟩,rfl,h1,hb⟩) pA cU t h w6 vq e hO hb
   exact⟨nx,bd,a1,h1,vC,a2,a3,a4⟩) pre cU t w6 vq e hO hb
  refine⟨nx,bd,a1,⟨a2,b2⟩,fun i hi=>b4 i (b3 i hi),fun i hi hn=>?_⟩
  rcases b5 i (b3 i hi)with h|⟨h,h6,h7⟩
  ·rcases a4 i h with h|⟨h,h5⟩
   ·exact absurd h hn
   ·refine⟨h,fun hc=>?_,fun hc=>?_⟩
    ·rcases h5 with h5|h5<;>cases c.rr h5 hc
    ·rcases h5 with h5|h5<;>cases c.rr h5 hc
  ·refine⟨h,fun _=>h6,fun hc=>?_⟩
   rcases h7 with h5|h5<;>cases c.rr h5 hc
 | .cons pre pA q rest,cU,t,h,w6,vq,e,hO,hb=>by
  unfold uB at e
  have hq: ∀ cU t h,(pH (JA c.nt c.ops.toList cU q&&(!sr q cU&&yA c.P c.call c.ops.toList .ch q)) (runM c.P c.call c.nt c.ops.toList q (uB c.P c.call c.nt c.ops.toList rest (q::cU))) (fun _ _=>.bad):tH) t h=.ok c.te c.hE->
   JA c.nt c.ops.toList cU q=true/\q∉cU/\c.np q .ch/\ ∃ o v h1 t1,c.ops[q]? =some o/\r8 c.P c.call c.nt c.ops.toList o t h=.ok v h1/\h.next<=h1.next/\uB c.P c.call c.nt c.ops.toList rest (q::cU) t1 h1=.ok c.te c.hE/\
    ((∃ d,o.dst=some d/\d<c.nt/\t1=sT d v t)∨(o.dst=none/\t1=t)):=by
   intro cU t h e
   cases h1:(JA c.nt c.ops.toList cU q&&(!sr q cU&&yA c.P c.call c.ops.toList .ch q))with
   |false=>rw[h1]at e;cases e
   |true=>
    rw[h1]at e
    simp only[Bool.and_eq_true,Bool.not_eq_true']at h1
    exact⟨h1.1,uD h1.2.1,rG.1 h1.2.2,Ht e⟩
  have hk: ∀ cU t h,(pH (JA c.nt c.ops.toList cU q&&(!sr q cU&&yA c.P c.call c.ops.toList .ch q)) (runM c.P c.call c.nt c.ops.toList q (uB c.P c.call c.nt c.ops.toList rest (q::cU))) (fun _ _=>.bad):tH) t h=.ok c.te c.hE->c.Fr cU t:=by
   intro cU t h e
   obtain⟨_,hni,_,o,v,h1,t1,ho,_,_,e,ht⟩:=hq cU t h e
   exact yC qt ho hni ht (yD qt rest (q::cU) t1 h1 e)
  obtain⟨nx,bd,a1,a2,vB,⟨h1,vC,b2,⟨c1,v,h2,c2,c3,c4,c5,c6,c7,c8,c9⟩,b5⟩,a4⟩:=Bc (Φ:=fun nx bd vB=> ∃ h1 vC,(c.wi nx bd).AK pA h h1/\
   (c.np q .ch/\ ∃ v h2,c.FE q (c.rf q) h1=.ok v h2/\c.Slot q v/\(c.wi nx bd).uY q h1.next/\bd q=h2.next/\h1.next<=h2.next/\(c.wi nx bd).Dz rest h2/\(∀ i,i<c.ops.size->bd i<=c.hE.next)/\
    ∀ i,i<c.ops.size->i∉q::vC->(c.wi nx bd).GI i/\(c.np i .al->i∈rest.pA)/\(c.np i .ch->i∈rest.Di))/\
   ∀ i∈vC,i∈vB∨((c.wi nx bd).GI i/\i∈pA/\(c.np i .p0∨c.np i .al))) qt pD GF (u4 qt hk pA) (fun cU t w6 vq e hO hb=>by
   obtain⟨nx,bd,a1,h1,vC,a2,a3,a4⟩:=Fv (Φ:=fun nx bd vC h1=>c.np q .ch/\ ∃ v h2,c.FE q (c.rf q) h1=.ok v h2/\c.Slot q v/\(c.wi nx bd).uY q h1.next/\bd q=h2.next/\h1.next<=h2.next/\(c.wi nx bd).Dz rest h2/\
    (∀ i,i<c.ops.size->bd i<=c.hE.next)/\ ∀ i,i<c.ops.size->i∉q::vC->(c.wi nx bd).GI i/\(c.np i .al->i∈rest.pA)/\(c.np i .ch->i∈rest.Di)) qt pD GF hk (fun cU t h w6 vq e hO hb=>by
    obtain⟨hr,hni,px,o,v,h1,t1,ho,hg,hle,e,ht⟩:=hq cU t h e
    have xg: ∀ j∈cU,j≠q:=fun j hj e=>hni (e▸hj)
    have Fq:=yD qt rest (q::cU) t1 h1 e
    obtain⟨nx,bd,a1,a2,a3,a4⟩:=Hy qt pD GF rest (q::cU) t1 h1 (rh w6 q h.next) (rh vq q h1.next) e (Cm qt ho ht hO) (fun j hj=>by
     rcases List.mem_cons.1 hj with rfl|hj
     ·rw[qk];exact Nat.le_refl _
     ·rw[rB (xg j hj)];exact Nat.le_trans (hb j hj) hle)
    have agree: ∀ j∈cU,nx j=w6 j/\bd j=vq j:=fun j hj=>by
     have:=a1 j (List.mem_cons_of_mem _ hj)
     rwa [rB (xg j hj),rB (xg j hj)]at this
    have hbq:bd q=h1.next:=by
     have:=(a1 q List.mem_cons_self).2
     rwa [qk]at this
    exact⟨nx,bd,agree,px,v,h1,Hv qt pD (yC qt ho hni ht Fq) hO ho hr hg,zL qt GF ho ht Fq,
     Na (c:=c.wi nx bd) hr (fun j hj=>by show bd j<=_;rw[(agree j hj).2];exact hb j hj),hbq,hle,a2,a3,a4⟩) pA cU t h w6 vq e hO hb
   exact⟨nx,bd,a1,h1,vC,a2,a3,a4⟩) pre cU t w6 vq e hO hb
  refine⟨nx,bd,a1,⟨a2,h1,b2,c1,v,h2,(by rw[Hw];exact c2),c3,c4,c5,c6,c7⟩,c8,fun i hi hn=>?_⟩
  by_cases hiq:i=q
  ·subst hiq
   refine⟨⟨fun hc=>?_,fun hc=>?_⟩,fun hc=>?_,fun _=>List.mem_cons_self⟩
   ·cases c.rr c1 hc
   ·cases c.rr c1 hc
   ·cases c.rr c1 hc
  ·by_cases XW:i∈vC
   ·rcases b5 i XW with h|⟨h,h6,h7⟩
    ·rcases a4 i h with h|⟨h,h5⟩
     ·exact absurd h hn
     ·refine⟨h,fun hc=>?_,fun hc=>?_⟩
      ·rcases h5 with h5|h5<;>cases c.rr h5 hc
      ·rcases h5 with h5|h5<;>cases c.rr h5 hc
    ·refine⟨h,fun _=>List.mem_append_left _ h6,fun hc=>?_⟩
     rcases h7 with h5|h5<;>cases c.rr h5 hc
   ·obtain⟨r1,r2,r3⟩:=c9 i hi (fun k=>by
     rcases List.mem_cons.1 k with k|k
     ·exact hiq k
     ·exact XW k)
    exact⟨r1,fun hc=>List.mem_append_right _ (r2 hc),fun hc=>List.mem_cons_of_mem _ (r3 hc)⟩
end Cx
end Go.Ab

noncomputable section
namespace Go.Ab
variable [Io]
def SM(ok:Nat->Nat->Bool)(l:List Nat):Nat->List Nat:=
 List.rec (fun _=>[]) (fun i _ ih r=>Bool.rec (ih r) (i::ih (Nat.lor r (Nat.pow 2 i))) (ok i r)) l
def acb(l:List Nat)(r:Nat):Nat:=List.rec r (fun i _ ih=>Nat.lor (Nat.pow 2 i) ih) l
def bit(r i:Nat):Bool:=Nat.beq (Nat.mod (Nat.div r (Nat.pow 2 i)) 2) 1
def YD(p:Nat->Bool)(l:List Nat):List Nat:=List.rec [] (fun i _ ih=>Bool.rec ih (i::ih) (p i)) l
def ad4(p:Nat->Bool)(l:List Nat):Option Nat:=List.rec none (fun i _ ih=>Bool.rec ih (some i) (p i)) l
def SN(l:List Oper):List Nat:=List.rec (fun _=>[]) (fun _ _ ih i=>i::ih (Nat.add i 1)) l 0
section
variable (P:Program)(call:mS)(L:List Oper)
def an1(ms idx:List Nat)(fuel:Nat):Nat->List Nat->sM:=
 Nat.rec (fun _ _=>.last [] []) (fun _ ih done chd=>
  match SM (fun i r=>(yA P call L .p0 i||yA P call L .p1 i)&&(!bit r i&&Nat.beq (Nat.land ((sa ms i).getD 0) r) ((sa ms i).getD 0))) idx done with
  |new=>match YD (fun i=>bit done i&&(yA P call L .p1 i&& !Kg (fun j=>bit ((sa ms j).getD 0) i) chd)) idx with
   |vG=>match acb new done with
    |Nc=>match ad4 (fun i=>yA P call L .ch i&& !bit Nc i) idx with
     |none=>.last (app vG new) (SM (fun i r=> !bit r i) idx Nc)
     |some q=>match SM (fun i r=> !bit r i&&bit ((sa ms q).getD 0) i) idx Nc with
      |pA=>.cons (app vG new) pA q (ih (Nat.lor (Nat.pow 2 q) (acb pA Nc)) (q::chd))) fuel
def zM:sM:=an1 P call L (vS L []) (SN L) (Nat.succ (len L)) 0 []
end
def Hz(P:Program)(call:mS)(nt:Nat)(ops:Array Oper):tH:=
 match zM P call ops.toList with
 |pl=>pH (M8 ops.toList&&(YA ops.toList&&Eh P call ops.toList pl [])) (uB P call nt ops.toList pl []) (fun _ _=>.bad)
namespace Cx
variable {c:Cx}
omit [Io] in
theorem Nd: ∀ (pl:sM) (past:List Nat),Eh c.P c.call c.ops.toList pl past=true->c.M5 past pl
 | .last pre pA,past,h=>by
  intro i hi
  obtain⟨o,ho,_⟩:=id hi
  have:=uC (rP h i o (by simpa using ho)) (rG.2 hi)
  rw[Bool.or_eq_true,yz,rO]at this
  exact this
 | .cons pre pA q rest,past,h=>by
  unfold Eh at h
  simp only[Bool.and_eq_true]at h
  obtain⟨h1,h2,h3,h4⟩:=h
  refine⟨fun i hi=>?_,fun i hi hc=>?_,fun q' hq=>?_,Nd rest _ h4⟩
  ·obtain⟨o,ho,_⟩:=id hi
   have:=uC (rP h1 i o (by simpa using ho)) (rG.2 hi)
   rw[Bool.or_eq_true,Bool.or_eq_true,yz,yz,rO]at this
   exact this
  ·rw[pQ,List.all_eq_true]at h2
   exact uC (h2 i hi) (rG.2 hc)
  ·rw[pQ,List.all_eq_true]at h3
   exact h3 q' hq
omit [Io] in
theorem ad5(h:YA c.ops.toList=true): ∀ i j d,c.sV i d->c.sV j d->i=j:=by
 rintro i j d ⟨o,ho,hd⟩ ⟨o',sW,Ka⟩
 have h1:=rP h i o (by simpa using ho)
 rw[hd]at h1
 have h2:=uC (rP h1 j o' (by simpa using sW)) (zK Ka)
 exact Nat.eq_of_beq_eq_true h2
end Cx
theorem YE{g:G}{w:World}{h:Hp}(H:HR g w h):g.to h.next=g:=by
 cases g with
 |mk m im=>
  unfold G.to
  simp only[G.mk.injEq,and_true]
  funext id
  by_cases qd:id<h.next
  ·simp only[qd,if_true]
  ·simp only[qd,if_false]
   exact(H.fresh id (by omega)).symm
omit [Io] in
theorem zN{g:G}{w w':World}(h:w'.heap=w.heap):w5 g w g w':=
 ⟨fun _ _ e=>e,fun _ i=>i,fun b _=>by rw[h],fun b=>by unfold nE;rw[h];exact Nat.le_refl _⟩
theorem HR.heap{g:G}{w w':World}{hp:Hp}(h:w'.heap=w.heap)(H:HR g w hp):HR g w' hp:=by
 refine⟨H.fresh,fun id cs e=>?_,H.inj,fun b i=>by rw[h];exact H.nQ b i,s7.mono (zN h) H.tb⟩
 obtain⟨b,s,C,el,vs,h1,h2,h3,h4,h5⟩:=H.cw id cs e
 exact⟨b,s,C,el,vs,h1,by rw[h];exact h2,h3,cH.oG (zN h) _ _ h4,h5⟩
omit [Io] in
theorem PK(g:G)(w:World)(h:Hp)(n:Nat):Ext g w h g {w with drawn:=n} h:=
 ⟨rfl,rfl,rfl,Nat.le_refl _,Nat.le_refl _,fun _ _ e=>e,fun _ _ _=>rfl,fun _=>Nat.le_refl _,fun _ i=>i,fun _ i=>.inl i,fun _ o=>.inl o⟩
theorem Be{P:Program}(hm:P.follows .mixedOrders=true):J6 P (Hz P):=by
 intro call nt hc id ops g w t h a t' h' H T D e Q K
 refine wp_region_draw fun tk=>?_
 rw[hm]
 change (pH (M8 ops.toList&&(YA ops.toList&&Eh P call ops.toList (zM P call ops.toList) [])) (uB P call nt ops.toList (zM P call ops.toList) []) (fun _ _=>.bad):tH) t h=.ok t' h' at e
 cases hB:(M8 ops.toList&&(YA ops.toList&&Eh P call ops.toList (zM P call ops.toList) []))with
 |false=>rw[hB]at e;cases e
 |true=>
 rw[hB]at e
 change uB P call nt ops.toList (zM P call ops.toList) [] t h=.ok t' h' at e
 simp only[Bool.and_eq_true]at hB
 obtain⟨QR,GF,uP⟩:=hB
 obtain⟨pl,hpl⟩: ∃ pl,pl=zM P call ops.toList:=⟨_,rfl⟩
 rw[<-hpl]at e uP
 have L:=Fm (Yz QR) tk
 let c0:Cx:=⟨P,call,ops,nt,t,t',fun _=>0,fun _=>0,g,w,h,h'⟩
 have aiA: ∀ i j d,c0.sV i d->c0.sV j d->i=j:=Cx.ad5 (c:=c0) GF
 have qt:nt<=512:=T.1
 have F:=Cx.yD (c:=c0) qt pl [] t h e
 have pD: ∀ u,u<512->(∀ j,¬ c0.sV j u)->c0.te.at u=c0.t0.at u:=fun u hu hd=>F u hu (fun j hj=>absurd hj (hd j))
 obtain⟨nx,bd,_,rz,an2,hgi⟩:=Cx.Hy (c:=c0) qt pD aiA pl [] t h (fun _=>0) (fun _=>0) e (fun u _ _=>rfl) (fun j hj=>by cases hj)
 let c:Cx:=c0.wi nx bd
 have oI: ∀ {i k},c.np i k->i<c.ops.size:=fun⟨o,ho,_⟩=>(Array.getElem?_eq_some_iff.1 ho).1
 have G0:c.Yw:=
  ⟨fun i hi=>(hgi i (oI hi) (by simp)).1.1 hi,fun i hi=>(hgi i (oI hi) (by simp)).1.2 hi,aiA,an2,pD,hc,qt⟩
 have Ba:g.to h.next=g:=YE H
 refine Cx.sim (c:=c) G0 K _ [] [] pl g {w with drawn:=w.drawn+1} h a L ?_
 exact
 {run:=rz
  stat:=Cx.Nd (c:=c) pl [] uP
  closed:=fun j hj=>by cases hj
  Di:=fun i hi=>.inl ((hgi i (oI hi) (by simp)).2.2 hi)
  Xb:=fun i _ h=>by cases h
  At:=fun j hj=>by cases hj
  alc:=fun i hi=>.inl ((hgi i (oI hi) (by simp)).2.1 hi)
  st:=⟨(by rw[Ba];exact HR.heap (w:=w) rfl H),(by rw[Ba];exact PK _ _ _ _),(fun i _ h=>by cases h),(fun i _ j _ h=>by cases h)⟩
  dom:=fun id x m=>.inl (by
   refine Classical.byContradiction fun k=>?_
   rw[H.fresh id (by omega)]at m;cases m)
  vW:=fun j hj=>by cases hj
  free:=fun u v hu hd eu=>by
   obtain⟨h1,h2⟩:=T.2.2 u v hu eu
   refine⟨h1,?_⟩
   rw[Ba]
   exact VR.oG (zN (w:=w) (w':={w with drawn:=w.drawn+1}) rfl) _ _ h2
  size:=T.2.1
  defers:=D}
end Go.Ab

noncomputable section
namespace Go.Ab
variable [Io]
def Fw(F:Func):Code:=match F.body with
 |some c=>c
 |none=>.skip
omit [Io] in
theorem aiB{P:Program}{draw:mS->Nat->Array Oper->tH}{f:FuncId}{F:Func}{b:Fb}(h1:P.funcs[f]? =some F)(h2: ∀ args w,(callFunc f args).run P w=.ok (.enter f args) w)
 (h3:F.body.isSome=true)(h4:b.ntmps=F.ntmps)(h5:Nat.ble b.ntmps 512=true)(h6:Hh P b.ntmps F.results.toList=some b.res)
 (h7:b.body=fun call n=>pg P (draw call b.ntmps) call n b.ntmps (Fw F)):Pu P draw f b:=by
 refine⟨⟨F,Fw F,h1,?_,h4,Nat.ble_eq.mp h5,h6,h7⟩,h2⟩
 unfold Fw
 cases h:F.body with
 |none=>rw[h]at h3;cases h3
 |some c=>rfl
def SO{α:Type}(p:Nat->α->Prop)(a b:Nat):Tr α->Prop
 | .nil=>True
 | .node l v r=>(∀ x,v=some x->p b x)/\SO p (2*a) (a+b) l/\SO p (2*a) (2*a+b) r
omit [Io] in
theorem SO.get{α:Type}{p:Nat->α->Prop}: ∀ {t:Tr α} {a b:Nat},SO p a b t-> ∀ k x,t.get k=some x->p (a*k+b) x
 | .nil,a,b,_,k,x,e=>by cases e
 | .node l v r,a,b,⟨h1,h2,h3⟩,k,x,e=>by
  rw[Tr.vI]at e
  by_cases h0:k=0
  ·subst h0
   rw[if_pos rfl]at e
   simpa using h1 x e
  ·rw[if_neg h0]at e
   by_cases hk:k % 2=1
   ·rw[if_pos hk]at e
    have:=h2.get _ x e
    have e2:2*a*(k / 2)+(a+b)=a*k+b:=by
     have:k=2*(k / 2)+1:=by omega
     generalize k / 2=m at*
     subst this
     rw[Nat.mul_add,Nat.mul_one,<-Nat.mul_assoc,Nat.mul_comm a 2]
     omega
    rwa [e2]at this
   ·rw[if_neg hk]at e
    have:=h3.get _ x e
    have e2:2*a*(k / 2 - 1)+(2*a+b)=a*k+b:=by
     have:k=2*(k / 2 - 1)+2:=by omega
     generalize k / 2 - 1=m at*
     subst this
     rw[Nat.mul_add,<-Nat.mul_assoc,Nat.mul_comm a 2]
     omega
    rwa [e2]at this
omit [Io] in
theorem EW{α:Type}{p:Nat->α->Prop}{b:Nat}: ∀ x,(none:Option α)=some x->p b x:=fun _ e=>by cases e
end Go.Ab

noncomputable section
namespace Go.Ab
variable [Io]
structure Ki(w w':World):Prop where
 os:w'.os=w.os
 tape:w'.tape=w.tape
 output:w'.output=w.output
 size:w.heap.size<=w'.heap.size
 vG: ∀ b,b<w.heap.size->w'.heap[b]? =w.heap[b]?
omit [Io] in
theorem Ki.rows{w w':World}(K:Ki w w')(b:Nat):nE w b<=nE w' b:=by
 unfold nE
 by_cases h:b<w.heap.size
 ·rw[K.vG b h];exact Nat.le_refl _
 ·rw[Array.getElem?_eq_none (by omega)];exact Nat.zero_le _
def gE(nQ:Nat->Prop):G:=⟨fun _=>none,nQ⟩
theorem HA{nQ:Nat->Prop}{w:World}(h: ∀ b,nQ b->b<w.heap.size)(t:s7 (gE nQ) w):HR (gE nQ) w (oO 0):=
 ⟨fun _ _=>rfl,(fun _ _ e=>by cases e),(fun _ _ _ _ _ _ _ e=>by cases e),h,t⟩
omit [Io] in
theorem Nf{nQ:Nat->Prop}{w:World}{g':G}{w':World}{h':Hp}(E:Ext (gE nQ) w (oO 0) g' w' h'):Ki w w':=
 ⟨E.os,E.tape,E.output,E.size,fun b hb=>E.vG b hb (by rintro⟨id,cs,s,e,_⟩;cases e)⟩
def mapA(f:AV->Option AV)(l:List AV):Option (List AV):=
 List.rec (some []) (fun a _ ih=>match f a with
  |some b=>match ih with
   |some r=>some (b::r)
   |none=>none
  |none=>none) l
def xD(n:Nat):Hp->AV->Option AV:=
 Nat.rec (fun _ _=>none) (fun _ ih h a=>match a with
  | .nW id off n sz=>match h.cw.get id with
   |some cs=>match cs.ri off (Nat.mul n sz)with
    |some l=>match mapA (ih h) l with
     |some l=>some (.rJ n l)
     |none=>none
    |none=>none
   |none=>none
  | .ref id off=>match h.cw.get id with
   |some cs=>match cs.ri off (Nat.sub cs.n off)with
    |some l=>match mapA (ih h) l with
     |some l=>some (.py l)
     |none=>none
    |none=>none
   |none=>none
  | .agg l=>match mapA (ih h) l with
   |some l=>some (.agg l)
   |none=>none
  | .wZ l=>match mapA (ih h) l with
   |some l=>some (.wZ l)
   |none=>none
  | .fn f l=>match mapA (ih h) l with
   |some l=>some (.fn f l)
   |none=>none
  | .rJ n l=>match mapA (ih h) l with
   |some l=>some (.rJ n l)
   |none=>none
  | .py l=>match mapA (ih h) l with
   |some l=>some (.py l)
   |none=>none
  |a=>some a) n
theorem Bf{g g':G}{w:World}{f:AV->Option AV}(hf: ∀ a a' v,f a=some a'->VR g w a v->VR g' w a' v): ∀ {l l':List AV} {vs:List Value},mapA f l=some l'->cH g w l vs->cH g' w l' vs
 | [],l',vs,e,h=>by cases e;simpa only[cH]using h
 |a::l,l',vs,e,h=>by
  change (match f a with|some b=>(match mapA f l with|some r=>some (b::r)|none=>none)|none=>none)=some l' at e
  simp only[cH]at h
  obtain⟨v,r,rfl,hv,hr⟩:=h
  cases h1:f a with
  |none=>rw[h1]at e;cases e
  |some b=>
   cases h2:mapA f l with
   |none=>rw[h1,h2]at e;cases e
   |some r'=>
    rw[h1,h2]at e
    cases e
    simp only[cH]
    exact⟨v,r,rfl,hf a b v h1 hv,Bf hf h2 hr⟩
theorem ad6{g g':G}{w:World}{h:Hp}(H:HR g w h)(hi: ∀ b,g.nQ b->g'.nQ b)(ho: ∀ b,qc g h b->g'.nQ b): ∀ (n:Nat) (a a':AV) (v:Value),xD n h a=some a'->VR g w a v->VR g' w a' v:=by
 intro n
 induction n with
 |zero=>intro a a' v e;cases e
 |succ n ih=>
  intro a a' v e hv
  have hm:= @Bf _ g g' w (xD n h) ih
  cases a with
  |int k n=>cases e;simpa only[VR]using hv
  |bool b=>cases e;simpa only[VR]using hv
  |sc x=>cases e;simpa only[VR]using hv
  |pO=>cases e;simpa only[VR]using hv
  |ur=>cases e;simpa only[VR]using hv
  |sym k s lo hi o=>cases e;simpa only[VR]using hv
  |any=>cases e;simpa only[VR]using hv
  |agg l=>
   change (match mapA (xD n h) l with|some l=>some (AV.agg l)|none=>none)=some a' at e
   cases h1:mapA (xD n h) l with
   |none=>rw[h1]at e;cases e
   |some l'=>
    rw[h1]at e
    cases e
    simp only[VR]at hv ⊢
    obtain⟨vs,e,q⟩:=hv
    exact⟨vs,e,hm h1 q⟩
  |wZ l=>
   change (match mapA (xD n h) l with|some l=>some (AV.wZ l)|none=>none)=some a' at e
   cases h1:mapA (xD n h) l with
   |none=>rw[h1]at e;cases e
   |some l'=>
    rw[h1]at e
    cases e
    simp only[VR]at hv ⊢
    obtain⟨vs,e,q⟩:=hv
    exact⟨vs,e,hm h1 q⟩
  |fn f l=>
   change (match mapA (xD n h) l with|some l=>some (AV.fn f l)|none=>none)=some a' at e
   cases h1:mapA (xD n h) l with
   |none=>rw[h1]at e;cases e
   |some l'=>
    rw[h1]at e
    cases e
    simp only[VR]at hv ⊢
    obtain⟨vs,e,q⟩:=hv
    exact⟨vs,e,hm h1 q⟩
  |rJ m l=>
   change (match mapA (xD n h) l with|some l=>some (AV.rJ m l)|none=>none)=some a' at e
   cases h1:mapA (xD n h) l with
   |none=>rw[h1]at e;cases e
   |some l'=>
    rw[h1]at e
    cases e
    simp only[VR]at hv ⊢
    obtain⟨x,cap,e,hle,q⟩:=hv
    refine⟨x,cap,e,hle,?_⟩
    rcases q with⟨q1,rfl⟩|⟨b,o,vs,q1,q2,q3,q4⟩
    ·cases h1
     exact .inl ⟨q1,rfl⟩
    ·exact .inr ⟨b,o,vs,q1,hi b q2,q3,hm h1 q4⟩
  |py l=>
   change (match mapA (xD n h) l with|some l=>some (AV.py l)|none=>none)=some a' at e
   cases h1:mapA (xD n h) l with
   |none=>rw[h1]at e;cases e
   |some l'=>
    rw[h1]at e
    cases e
    simp only[VR]at hv ⊢
    obtain⟨b,o,vs,q1,q2,q3,q4⟩:=hv
    exact⟨b,o,vs,q1,hi b q2,q3,hm h1 q4⟩
  |ref id off=>
   change (match h.cw.get id with|some cs=>(match cs.ri off (Nat.sub cs.n off)with|some l=>(match mapA (xD n h) l with|some l=>some (AV.py l)|none=>none)|none=>none)|none=>none)=some a' at e
   cases h0:h.cw.get id with
   |none=>rw[h0]at e;cases e
   |some cs=>
   rw[h0]at e
   simp only at e
   cases hs:cs.ri off (Nat.sub cs.n off)with
   |none=>rw[hs]at e;cases e
   |some l=>
   rw[hs]at e
   simp only at e
   cases h1:mapA (xD n h) l with
   |none=>rw[h1]at e;cases e
   |some l'=>
    rw[h1]at e
    cases e
    obtain⟨rfl,_,_⟩:=qS hs
    simp only[VR]at hv ⊢
    obtain⟨b,s,SP,rfl⟩:=hv
    obtain⟨C,el,vs,hw,_,nP,hC⟩:=H.row h0 SP
    exact⟨b,s+off,(vs.drop off).take (Nat.sub cs.n off),rfl,ho b ⟨id,cs,s,h0,SP⟩,((pf hw hC).drop off).take _,hm h1 ((nP.drop off).take _)⟩
  |nW id off m sz=>
   change (match h.cw.get id with|some cs=>(match cs.ri off (Nat.mul m sz)with|some l=>(match mapA (xD n h) l with|some l=>some (AV.rJ m l)|none=>none)|none=>none)|none=>none)=some a' at e
   cases h0:h.cw.get id with
   |none=>rw[h0]at e;cases e
   |some cs=>
   rw[h0]at e
   simp only at e
   cases hs:cs.ri off (Nat.mul m sz)with
   |none=>rw[hs]at e;cases e
   |some l=>
   rw[hs]at e
   simp only at e
   cases h1:mapA (xD n h) l with
   |none=>rw[h1]at e;cases e
   |some l'=>
    rw[h1]at e
    cases e
    obtain⟨rfl,hlen,_⟩:=qS hs
    simp only[VR]at hv ⊢
    rcases hv with⟨rfl,x,rfl⟩|⟨b,s,cap,SP,rfl,hle,_⟩
    ·refine⟨x,0,rfl,Nat.le_refl _,.inl ⟨rfl,?_⟩⟩
     have hz:Nat.mul 0 sz=0:=Nat.zero_mul sz
     rw[hz]at h1
     simp only[List.take_zero]at h1
     cases h1
     rfl
    ·obtain⟨C,el,vs,hw,_,nP,hC⟩:=H.row h0 SP
     exact⟨_,cap,rfl,hle,.inr ⟨b,s+off,(vs.drop off).take (Nat.mul m sz),rfl,ho b ⟨id,cs,s,h0,SP⟩,((pf hw hC).drop off).take _,hm h1 ((nP.drop off).take _)⟩⟩
end Go.Ab

noncomputable section
namespace Go.Ab
end Go.Ab

noncomputable section
namespace Go.Ab
variable [Io]
end Go.Ab
namespace Go.Ab
end Go.Ab

noncomputable section
namespace Go.Ab
variable [Io]
section
variable {P:Program}{call:mS}
end
end Go.Ab

noncomputable section
namespace Go.Ab
end Go.Ab

noncomputable section
namespace Go.Ab
def isT(r:Ro):Bool:=match r with
 | .ok (.bool b) _=>b
 | _=>false
theorem ad7{r:Ro}(h:isT r=true): ∃ h',r=.ok (.bool true) h':=by
 unfold isT at h
 split at h
 ·subst h;exact⟨_,rfl⟩
 ·cases h
theorem Ki.below{w w':World}(K:Ki w w'):Go.RowKit.Below w.heap.size w w':=⟨K.os,K.tape,K.output,K.size,K.vG⟩
theorem xE[Io]{P:Program}{call:mS}(hc:nv P call){f:FuncId}{args:List AV}{vs:List Value}(e:isT (call f args (oO 0))=true)(w:World){nQ:Nat->Prop}(hi: ∀ b,nQ b->b<w.heap.size)(ht:s7 (gE nQ) w)(hv:cH (gE nQ) w args vs):
 Calls P f vs.toArray w fun e w'=>e=.returned (.bool true)/\Go.RowKit.Below w.heap.size w w':=by
 obtain⟨h',e'⟩:=ad7 e
 refine((hc f args (oO 0) _ h' e').2 (gE nQ) w vs (HA hi ht) hv).mono ?_
 rintro e w' ⟨x,g',rfl,E,H',hx⟩
 simp only[VR]at hx
 subst hx
 exact⟨rfl,(Nf E).below⟩
theorem Cn{n:Int}(h:(Lit.int .u64 n).wf=true):0<=n/\n<=18446744073709551615:=by
 simp[Lit.wf,IntKind.min,IntKind.max,IntKind.bits,IntKind.signed]at h
 omega
end Go.Ab

noncomputable section
namespace Go.Ab
variable [Io]
section
variable {P:Program}
def HB(fn:FuncId->Option Fb)(n:Nat)(c:mS):mS:=fun f args h=>match fn f with
 |none=>.bad
 |some b=>pH (Nat.ble (len args) b.ntmps) (match b.body c n (uS args 0 Tm.none) h with
  | .norm t h=>fin b.res t h
  | .ret t h=>fin b.res t h
  | _=>.bad) .bad
theorem SQ{draw:mS->Nat->Array Oper->tH}(hd:J6 P draw){fn:FuncId->Option Fb}(hf: ∀ f b,fn f=some b->Pu P draw f b)(n:Nat){c:mS}(hc:nv P c):nv P (HB fn n c):=by
 intro f args h v h' e
 change (match fn f with
  |none=>Ro.bad
  |some b=>pH (Nat.ble (len args) b.ntmps) (match b.body (c) n (uS args 0 Tm.none) h with| .norm t h=>fin b.res t h| .ret t h=>fin b.res t h| _=>.bad) .bad)=.ok v h' at e
 cases hb:fn f with
 |none=>rw[hb]at e;cases e
 |some b=>
 rw[hb]at e
 simp only at e
 cases hle:Nat.ble (len args) b.ntmps with
 |false=>rw[hle]at e;cases e
 |true=>
 rw[hle]at e
 change (match b.body (c) n (uS args 0 Tm.none) h with| .norm t h=>fin b.res t h| .ret t h=>fin b.res t h| _=>.bad)=Ro.ok v h' at e
 rw[cQ]at hle
 have aiC:args.length<=b.ntmps:=Nat.ble_eq.mp hle
 have F0:=hf f b hb
 obtain⟨F,cd,hF,hcb,qt,AL,an3,aiD⟩:=F0.ex
 refine⟨F0.enter,fun g w vs H hv=>?_⟩
 rw[aiD]at e
 have aiE:=Yj hc (draw:=draw (c) b.ntmps) (nt:=b.ntmps) (fun id ops=>hd _ _ hc id ops) n cd
 have hvl:=hv.length
 have M3:(vs.toArray++Array.replicate (F.ntmps - vs.toArray.size) undef).size=b.ntmps:=by simp;omega
 have hT0:TR g w b.ntmps Tm.none (vs.toArray++Array.replicate (F.ntmps - vs.toArray.size) undef):=
  ⟨AL,M3,fun i v hi e=>by rw[Tm.EW i hi]at e;cases e⟩
 have hT:=yq args vs 0 b.ntmps Tm.none _ hv (by omega) hT0 (fun j v e=>by
  rw[Array.getElem?_append_left (by have:=(List.getElem?_eq_some_iff.1 e).1;simpa using this)]
  simpa using e)
 refine calls_of_wp hF hcb ?_
 have:=aiE g w _ h {tmps:=vs.toArray++Array.replicate (F.ntmps - vs.toArray.size) undef,defers:=[]}
  (bodyPost P F (fun e w'=> ∃ x g',e=.returned x/\Ext g w h g' w' h'/\HR g' w' h'/\VR g' w' v x)) H hT rfl
 have SS: ∀ t1 h1,fin b.res t1 h1=.ok v h'-> ∀ g' w' (a':Act),Ext g w h g' w' h1->HR g' w' h1->TR g' w' b.ntmps t1 a'.tmps->a'.defers=[]->
  a'.defers=[]/\ ∃ x,(results F a'.tmps).run P w'=.ok x w'/\ ∃ y g',Ending.returned x=.returned y/\Ext g w h g' w' h'/\HR g' w' h'/\VR g' w' v y:=by
  intro t1 h1 an5 g' w' a' E' H' T' D'
  obtain⟨rfl,x,hx,So⟩:=adT H' T' an3 an5
  exact⟨D',x,hx,x,g',rfl,E',H',So⟩
 simp only at e
 cases hr:pg P (draw (c) b.ntmps) (c) n b.ntmps cd (uS args 0 Tm.none) h with
 |bad=>rw[hr]at e;cases e
 |norm t1 h1=>rw[hr]at e this;exact this (SS t1 h1 e)
 |ret t1 h1=>rw[hr]at e this;exact this (SS t1 h1 e)
 |exit i t1 h1=>rw[hr]at e;cases e
end
end Go.Ab

noncomputable section
namespace Go.Ab
open Go.ChangeShapes Go.WideShapes Go.ChangeAt Go.RowKit Go.Deep Go.Joins
end Go.Ab

noncomputable section
namespace Go.Ab
variable [Io]
end Go.Ab
namespace Go.Ab
variable [Io]
section
variable {P:Program}
def vX(fn:FuncId->Option Fb)(wr:mS->mS)(n:Nat)(d:Nat):mS:=Nat.rec (fun _ _ _=>.bad) (fun _ ih=>HB fn n (wr ih)) d
theorem vY{draw:mS->Nat->Array Oper->tH}(hd:J6 P draw){fn:FuncId->Option Fb}(hf: ∀ f b,fn f=some b->Pu P draw f b){wr:mS->mS}
 (hw: ∀ c,nv P c->nv P (wr c))(n:Nat): ∀ d,nv P (vX fn wr n d)
 |0=>by intro f args h v h' e;cases e
 |d+1=>SQ hd hf n (hw _ (vY hd hf hw n d))
theorem cH.split{g:G}{w:World}: ∀ {l r:List AV} {vs:List Value},cH g w (l++r) vs-> ∃ us ts,vs=us++ts/\cH g w l us/\cH g w r ts
 | [],r,vs,h=>⟨[],vs,rfl,by simp[cH],h⟩
 |a::l,r,vs,h=>by
  simp only[List.cons_append,cH]at h
  obtain⟨v,l',rfl,q,p⟩:=h
  obtain⟨us,ts,rfl,h1,h2⟩:=cH.split p
  refine⟨v::us,ts,rfl,?_,h2⟩
  simp only[cH]
  exact⟨v,us,rfl,q,h1⟩
end
end Go.Ab
namespace Go.Ab
variable [Io]
end Go.Ab

noncomputable section
namespace Go.Ab
variable [Io]
def yE(n:Nat):Hp->AV->Option AV:=
 Nat.rec (fun _ _=>none) (fun _ ih h a=>match a with
  | .nW id off n sz=>match h.cw.get id with
   |some cs=>match cs.ri off (Nat.mul n sz)with
    |some l=>match mapA (ih h) l with
     |some l=>some (.rJ n l)
     |none=>none
    |none=>none
   |none=>none
  | .ref id off=>match h.cw.get id with
   |some cs=>match cs.ri off (Nat.sub cs.n off)with
    |some l=>match mapA (ih h) l with
     |some l=>some (.py l)
     |none=>none
    |none=>none
   |none=>none
  | .agg l=>match mapA (ih h) l with
   |some l=>some (.agg l)
   |none=>none
  | .wZ l=>match mapA (ih h) l with
   |some l=>some (.wZ l)
   |none=>none
  | .fn f l=>match mapA (ih h) l with
   |some l=>some (.fn f l)
   |none=>none
  | .rJ _ _=>none
  | .py _=>none
  |a=>some a) n
theorem YF{g g':G}{w:World}{h:Hp}(H:HR g w h)(ho: ∀ b,qc g h b->g'.nQ b): ∀ (n:Nat) (a a':AV) (v:Value),yE n h a=some a'->VR g w a v->VR g' w a' v:=by
 intro n
 induction n with
 |zero=>intro a a' v e;cases e
 |succ n ih=>
  intro a a' v e hv
  have hm:= @Bf _ g g' w (yE n h) ih
  cases a with
  |int k n=>cases e;simpa only[VR]using hv
  |bool b=>cases e;simpa only[VR]using hv
  |sc x=>cases e;simpa only[VR]using hv
  |pO=>cases e;simpa only[VR]using hv
  |ur=>cases e;simpa only[VR]using hv
  |sym k s lo hi o=>cases e;simpa only[VR]using hv
  |any=>cases e;simpa only[VR]using hv
  |agg l=>
   change (match mapA (yE n h) l with|some l=>some (AV.agg l)|none=>none)=some a' at e
   cases h1:mapA (yE n h) l with
   |none=>rw[h1]at e;cases e
   |some l'=>
    rw[h1]at e
    cases e
    simp only[VR]at hv ⊢
    obtain⟨vs,e,q⟩:=hv
    exact⟨vs,e,hm h1 q⟩
  |wZ l=>
   change (match mapA (yE n h) l with|some l=>some (AV.wZ l)|none=>none)=some a' at e
   cases h1:mapA (yE n h) l with
   |none=>rw[h1]at e;cases e
   |some l'=>
    rw[h1]at e
    cases e
    simp only[VR]at hv ⊢
    obtain⟨vs,e,q⟩:=hv
    exact⟨vs,e,hm h1 q⟩
  |fn f l=>
   change (match mapA (yE n h) l with|some l=>some (AV.fn f l)|none=>none)=some a' at e
   cases h1:mapA (yE n h) l with
   |none=>rw[h1]at e;cases e
   |some l'=>
    rw[h1]at e
    cases e
    simp only[VR]at hv ⊢
    obtain⟨vs,e,q⟩:=hv
    exact⟨vs,e,hm h1 q⟩
  |rJ m l=>cases e
  |py l=>cases e
  |ref id off=>
   change (match h.cw.get id with|some cs=>(match cs.ri off (Nat.sub cs.n off)with|some l=>(match mapA (yE n h) l with|some l=>some (AV.py l)|none=>none)|none=>none)|none=>none)=some a' at e
   cases h0:h.cw.get id with
   |none=>rw[h0]at e;cases e
   |some cs=>
   rw[h0]at e
   simp only at e
   cases hs:cs.ri off (Nat.sub cs.n off)with
   |none=>rw[hs]at e;cases e
   |some l=>
   rw[hs]at e
   simp only at e
   cases h1:mapA (yE n h) l with
   |none=>rw[h1]at e;cases e
   |some l'=>
    rw[h1]at e
    cases e
    obtain⟨rfl,_,_⟩:=qS hs
    simp only[VR]at hv ⊢
    obtain⟨b,s,SP,rfl⟩:=hv
    obtain⟨C,el,vs,hw,_,nP,hC⟩:=H.row h0 SP
    exact⟨b,s+off,(vs.drop off).take (Nat.sub cs.n off),rfl,ho b ⟨id,cs,s,h0,SP⟩,((pf hw hC).drop off).take _,hm h1 ((nP.drop off).take _)⟩
  |nW id off m sz=>
   change (match h.cw.get id with|some cs=>(match cs.ri off (Nat.mul m sz)with|some l=>(match mapA (yE n h) l with|some l=>some (AV.rJ m l)|none=>none)|none=>none)|none=>none)=some a' at e
   cases h0:h.cw.get id with
   |none=>rw[h0]at e;cases e
   |some cs=>
   rw[h0]at e
   simp only at e
   cases hs:cs.ri off (Nat.mul m sz)with
   |none=>rw[hs]at e;cases e
   |some l=>
   rw[hs]at e
   simp only at e
   cases h1:mapA (yE n h) l with
   |none=>rw[h1]at e;cases e
   |some l'=>
    rw[h1]at e
    cases e
    obtain⟨rfl,hlen,_⟩:=qS hs
    simp only[VR]at hv ⊢
    rcases hv with⟨rfl,x,rfl⟩|⟨b,s,cap,SP,rfl,hle,_⟩
    ·refine⟨x,0,rfl,Nat.le_refl _,.inl ⟨rfl,?_⟩⟩
     have hz:Nat.mul 0 sz=0:=Nat.zero_mul sz
     rw[hz]at h1
     simp only[List.take_zero]at h1
     cases h1
     rfl
    ·obtain⟨C,el,vs,hw,_,nP,hC⟩:=H.row h0 SP
     exact⟨_,cap,rfl,hle,.inr ⟨b,s+off,(vs.drop off).take (Nat.mul m sz),rfl,ho b ⟨id,cs,s,h0,SP⟩,((pf hw hC).drop off).take _,hm h1 ((nP.drop off).take _)⟩⟩
mutual
def vr:AV->Bool
 | .agg l=>u5 l
 | .wZ l=>u5 l
 | .rJ _ l=>u5 l
 | .py l=>u5 l
 | .fn _ l=>u5 l
 | .ref _ _=>false
 | .nW _ _ _ _=>false
 | _=>true
def u5:List AV->Bool
 | []=>true
 |a::l=>vr a&&u5 l
end
mutual
theorem VR.vr{g:G}{w:World}: ∀ (a:AV) (v:Value),vr a=true->VR g w a v->VR (gE g.nQ) w a v
 | .int _ _,v,n,r=>by simpa only[VR]using r
 | .bool _,v,n,r=>by simpa only[VR]using r
 | .sc _,v,n,r=>by simpa only[VR]using r
 | .pO,v,n,r=>by simpa only[VR]using r
 | .ur,v,n,r=>by simpa only[VR]using r
 | .any,v,n,r=>by simpa only[VR]using r
 | .sym _ _ _ _ _,v,n,r=>by simpa only[VR]using r
 | .ref _ _,v,n,r=>by cases n
 | .nW _ _ _ _,v,n,r=>by cases n
 | .agg cs,v,n,r=>by
  simp only[VR]at r ⊢
  obtain⟨vs,e,q⟩:=r
  exact⟨vs,e,cH.vr cs _ n q⟩
 | .wZ cs,v,n,r=>by
  simp only[VR]at r ⊢
  obtain⟨vs,e,q⟩:=r
  exact⟨vs,e,cH.vr cs _ n q⟩
 | .fn f cs,v,n,r=>by
  simp only[VR]at r ⊢
  obtain⟨vs,e,q⟩:=r
  exact⟨vs,e,cH.vr cs _ n q⟩
 | .rJ m cs,v,n,r=>by
  simp only[VR]at r ⊢
  obtain⟨a,cap,e,l,r⟩:=r
  refine⟨a,cap,e,l,?_⟩
  rcases r with r|⟨b,o,vs,e,i,c,q⟩
  ·exact .inl r
  ·exact .inr ⟨b,o,vs,e,i,c,cH.vr cs _ n q⟩
 | .py cs,v,n,r=>by
  simp only[VR]at r ⊢
  obtain⟨b,o,vs,e,i,c,q⟩:=r
  exact⟨b,o,vs,e,i,c,cH.vr cs _ n q⟩
theorem cH.vr{g:G}{w:World}: ∀ (l:List AV) (vs:List Value),u5 l=true->cH g w l vs->cH (gE g.nQ) w l vs
 | [],vs,n,r=>by simpa only[cH]using r
 |a::l,vs,n,r=>by
  simp only[u5,Bool.and_eq_true]at n
  simp only[cH]at r ⊢
  obtain⟨v,l',e,q,r⟩:=r
  exact⟨v,l',e,VR.vr a v n.1 q,cH.vr l l' n.2 r⟩
end
def oe(P:Program)(f:FuncId)(args:List AV)(v:AV):Prop:=
 (∀ as w,(callFunc f as).run P w=.ok (.enter f as) w)/\ ∀ (g:G) (w:World) (vs:List Value),(∀ b,g.nQ b->b<w.heap.size)->s7 g w->cH g w args vs->
  Calls P f vs.toArray w fun e w'=> ∃ x,e=.returned x/\Ki w w'/\VR (gE fun b=>w.heap.size<=b/\b<w'.heap.size) w' v x
def an6(r:Ro):Option AV:=Ro.rec none (fun v h=>yE 8 h v) r
theorem zO{P:Program}{call:mS}(hc:nv P call){f:FuncId}{args:List AV}{v':AV}(e:an6 (call f args (oO 0))=some v')(ha:u5 args=true):oe P f args v':=by
 cases hr:call f args (oO 0)with
 |bad=>rw[hr]at e;cases e
 |ok v h'=>
 rw[hr]at e
 have hf:yE 8 h' v=some v':=e
 obtain⟨hen,Eb⟩:=hc f args (oO 0) v h' hr
 refine⟨hen,fun g w vs hi ht hv=>(Eb (gE g.nQ) w vs (HA hi ht) (cH.vr _ _ ha hv)).mono ?_⟩
 rintro e w' ⟨x,g',rfl,E,H',hx⟩
 refine⟨x,rfl,Nf E,YF H' (fun b k=>?_) 8 v v' x hf hx⟩
 rcases E.uw b k with⟨id,cs,s,e,_⟩|k1
 ·cases e
 ·obtain⟨id,cs,s,e,m⟩:=k
  obtain⟨_,_,_,hw,_⟩:=H'.row e m
  exact⟨k1,(Array.getElem?_eq_some_iff.1 hw).1⟩
def ad8(has:FuncId->Bool)(tbl:FuncId->List AV->Option AV)(call:mS):mS:=fun f args h=>Bool.rec (call f args h) (match mapA (xD 8 h) args with
 |some vZ=>match tbl f vZ with
  |some v=>.ok v h
  |none=>call f args h
 |none=>call f args h) (has f)
theorem YG{P:Program}{has:FuncId->Bool}{tbl:FuncId->List AV->Option AV}{call:mS}(ht: ∀ f args v,tbl f args=some v->oe P f args v)(hc:nv P call):nv P (ad8 has tbl call):=by
 intro f args h v h' e
 unfold ad8 at e
 cases hh:has f with
 |false=>rw[hh]at e;exact hc f args h v h' e
 |true=>
 rw[hh]at e
 simp only at e
 cases hfz:mapA (xD 8 h) args with
 |none=>rw[hfz]at e;exact hc f args h v h' e
 |some vZ=>
 rw[hfz]at e
 simp only at e
 cases ht1:tbl f vZ with
 |none=>rw[ht1]at e;exact hc f args h v h' e
 |some v1=>
  rw[ht1]at e
  cases e
  obtain⟨k1,k2⟩:=ht f vZ v ht1
  refine⟨k1,fun g w vs H hv=>?_⟩
  have hv1:cH (gE fun b=>b<w.heap.size) w vZ vs:=Bf (g:=g) (fun a a' x=>ad6 H (g':=gE fun b=>b<w.heap.size) H.nQ (fun b ⟨id,cs,s,e,m⟩=>by
   obtain⟨_,_,_,hw,_⟩:=H.row e m
   exact(Array.getElem?_eq_some_iff.1 hw).1) 8 a a' x) hfz hv
  refine(k2 (gE fun b=>b<w.heap.size) w vs (fun b k=>k) (fun p hp=>⟨H.nQ _ (H.tb p hp).1,(H.tb p hp).2⟩) hv1).mono ?_
  rintro e w' ⟨x,rfl,K,hx⟩
  obtain⟨g',Fx⟩: ∃ g':G,g'=⟨g.m,fun b=>g.nQ b∨(w.heap.size<=b/\b<w'.heap.size)⟩:=⟨_,rfl⟩
  have hO: ∀ b,qc g' h b->qc g h b:=by
   rintro b ⟨id,cs,s,e,m⟩
   rw[Fx]at m
   exact⟨id,cs,s,e,m⟩
  have M:w5 g w g' w':=⟨fun _ _ e=>by rw[Fx];exact e,fun b i=>by rw[Fx];exact .inl i,fun b i=>K.vG b (H.nQ b i),K.rows⟩
  refine⟨x,g',rfl,⟨K.os,K.tape,K.output,K.size,Nat.le_refl _,M.m,fun b hb _=>K.vG b hb,K.rows,M.nQ,fun b i=>?_,fun b o=>.inl (hO b o)⟩,⟨fun id qd=>?_,fun id cs e=>?_,fun id Am b s s' cs cs' e1 e2 m1 m2=>?_,fun b i=>?_,s7.mono M H.tb⟩,?_⟩
  ·rw[Fx]at i
   rcases i with i|i
   ·exact .inl i
   ·exact .inr (.inr i.1)
  ·rw[Fx];exact H.fresh id qd
  ·obtain⟨b,s,C,el,us,h1,h2,h3,h4,h5⟩:=H.cw id cs e
   have hb:=(Array.getElem?_eq_some_iff.1 h2).1
   refine⟨b,s,C,el,us,M.m _ _ h1,by rw[K.vG b hb];exact h2,?_,cH.oG M _ _ h4,h5⟩
   rw[Fx]
   rintro(i|i)
   ·exact h3 i
   ·omega
  ·rw[Fx]at m1 m2
   exact H.inj id Am b s s' cs cs' e1 e2 m1 m2
  ·rw[Fx]at i
   rcases i with i|i
   ·exact Nat.lt_of_lt_of_le (H.nQ b i) K.size
   ·exact i.2
  ·refine VR.oG (⟨(fun _ _ e=>by cases e),(fun b i=>by rw[Fx];exact .inr i),fun _ _=>rfl,fun _=>Nat.le_refl _⟩:w5 _ _ g' w') _ _ hx
end Go.Ab

noncomputable section
namespace Go.Ab
inductive Od where
 |t (i:Nat)
 |c (v:AV)
 |zz
 |w (o:Od)
inductive BF where
 |add|sub|mul|quo|rem|and|or|xor|andNot|shl|shr|lss|leq|gtr|geq
 |eqI (neg:Bool)|eqB (neg:Bool)|Xo (neg:Bool)|eqP (neg:Bool)|eqN (neg:Bool)|tD (neg:Bool) (l:List Bool)
inductive UF where
 |not|neg|xor|int (k:IntKind)
inductive nT where
 |mv (a:Od)|pk (c a b:Od)|nw (cs:List AV)|bx (a:Od)|bd (z:List AV) (ps:List (Nat×Nat×Od))|rw(n sz:Nat) (z:List AV) (ps:List (Nat×Od))
 |ld (sz:Nat) (agg:Bool) (a:Od)|sto (sz:Nat) (a b:Od)|nl (a:Od)|bn (f:BF) (a b:Od)|un (f:UF) (a:Od)|bys (a:Od)|fn (f:FuncId) (cap:List Od)
 |mk (size bytes:Nat) (zero:List AV) (l c:Od)|slS (a:Od) (lo hi:Option Od)|slN (size:Nat) (a:Od) (lo hi:Option Od)|slA (n size:Nat) (a:Od) (lo hi:Option Od)
 |fa (off:Nat) (a:Od)|fd (off size:Nat) (agg:Bool) (a:Od)|ixS (size:Nat) (a i:Od)|ixA (n size:Nat) (a i:Od)|ix (n size:Nat) (agg:Bool) (a i:Od)|ixT (a i:Od)
 |ex (a:Od) (i:Nat)|lnT (a:Od)|ln (a:Od)|ap (size bytes:Nat) (s a:Od)|apZ (size bytes:Nat) (z:List AV) (s a:Od)|apS (bytes:Nat) (s a:Od)|mrk (a:Od)
 |cpy (size:Nat) (d s:Od)|emp (a b c:Od)|min (a b:Od)|max (a b:Od)|map|cap (a:Od)|bad|call (f:FuncId) (args:List Od)|callV (f:Od) (args:List Od)
 |gd (j:Od) (want:Bool) (f:nT)|mn (f:nT)
inductive xk where
 |fi
 |st (i:Nat) (f:nT) (k:xk)
 |sn (f:nT) (k:xk)
 |ck (s:Od) (f:nT) (k:xk)
inductive uq where
 |rg (r:xk)|sk|sq (a b:uq)|cif (c:Od) (a b:uq)|bl (id:Nat) (b:uq)|lp (b:uq)|ex (i:Nat)|rt|bad
structure Dj where
 ntmps:Nat
 res:List RV
 code:uq
def cI(o:Od):n9:=Od.rec (fun i=>oT i) (fun v=>oC v) oX (fun _ ih=>wO ih) o
def BF.f:BF->AV->AV->Option AV
 | .add=>s0| .sub=>sC| .mul=>tJ| .quo=>uv| .rem=>s5| .and=>sD| .or=>GN| .xor=>Aj| .andNot=>sI| .shl=>BH| .shr=>DW
 | .lss=>qN| .leq=>rK| .gtr=>qf| .geq=>qD
 | .eqI n=>Ak n| .eqB n=>EU n| .Xo n=>BD n| .eqP n=>Dm n| .eqN n=>BE n| .tD n l=>BI n l
def UF.f:UF->AV->Option AV
 | .not=>O2| .neg=>O3| .xor=>GO| .int k=>BN k
def Kj(call:mS)(o:nT):nY:=match o with
 | .mv a=>qg (cI a)| .pk c a b=>vk (cI c) (cI a) (cI b)| .nw cs=>JL cs| .bx a=>Dq (cI a)
 | .bd z ps=>tZ z (ps.map fun p=>(p.1,p.2.1,cI p.2.2))| .rw n sz z ps=>BL n sz z (ps.map fun p=>(p.1,cI p.2))
 | .ld sz agg a=>rL sz agg (cI a)| .sto sz a b=>s6 sz (cI a) (cI b)| .nl a=>BM (cI a)| .bn f a b=>vz f.f (cI a) (cI b)| .un f a=>GP f.f (cI a)
 | .bys a=>uQ (cI a)| .fn f cap=>JM f (cap.map cI)| .mk s b z l c=>tK s b z (cI l) (cI c)
 | .slS a lo hi=>qO (cI a) (lo.map cI) (hi.map cI)| .slN s a lo hi=>oE s (cI a) (lo.map cI) (hi.map cI)| .slA n s a lo hi=>pP n s (cI a) (lo.map cI) (hi.map cI)
 | .fa off a=>nD off (cI a)| .fd off s g a=>uc off s g (cI a)| .ixS s a i=>xY s (cI a) (cI i)| .ixA n s a i=>w4 n s (cI a) (cI i)| .ix n s g a i=>sf n s g (cI a) (cI i)| .ixT a i=>qP (cI a) (cI i)
 | .ex a i=>pI (cI a) i| .lnT a=>vm (cI a)| .ln a=>BP (cI a)| .ap s b x y=>oF s b (cI x) (cI y)| .apZ s b z x y=>tL s b z (cI x) (cI y)| .apS b x y=>yc b (cI x) (cI y)
 | .mrk a=>xf (cI a)| .cpy s d a=>sE s (cI d) (cI a)| .emp a b c=>BQ (cI a) (cI b) (cI c)| .min a b=>Dr (cI a) (cI b)| .max a b=>Ds (cI a) (cI b)| .map=>O4| .cap a=>BO (cI a)| .bad=>cW
 | .call f args=>Al call f (args.map cI)| .callV f args=>vH call (cI f) (args.map cI)
 | .gd j want f=>gF (cI j) want (Kj call f)| .mn f=>mn (Kj call f)
def QU(call:mS)(r:xk):tH:=
 xk.rec Go.Ab.fi (fun i f _ ih=>st (sT i) (Kj call f) ih) (fun f _ ih=>sn (Kj call f) ih) (fun s f _ ih=>ck (cI s) (Kj call f) ih) r
def su(call:mS)(n:Nat)(c:uq):Dh:=
 uq.rec (fun r=>cRg (QU call r)) xt (fun _ _ a b=>nu a b) (fun c _ _ a b=>W4 (cI c) a b) (fun id _ b=>xV id b) (fun _ b=>Xp n b) (fun i=>Q9 i) nI GQ c
def Dj.fb(b:Dj):Fb:=⟨b.ntmps,b.res,fun call n=>su call n b.code⟩
namespace X
abbrev oC(v:AV):Od:=.c v
abbrev oT(i:Nat):Od:=.t i
abbrev oX:Od:=.zz
abbrev wO(o:Od):Od:=.w o
abbrev qg:=nT.mv
abbrev vk:=nT.pk
abbrev JL:=nT.nw
abbrev Dq:=nT.bx
abbrev tZ:=nT.bd
abbrev BL:=nT.rw
abbrev rL:=nT.ld
abbrev s6:=nT.sto
abbrev BM:=nT.nl
abbrev vz:=nT.bn
abbrev GP:=nT.un
abbrev uQ:=nT.bys
abbrev JM:=nT.fn
abbrev tK:=nT.mk
abbrev qO:=nT.slS
abbrev oE:=nT.slN
abbrev pP:=nT.slA
abbrev nD:=nT.fa
abbrev uc:=nT.fd
abbrev xY:=nT.ixS
abbrev w4:=nT.ixA
abbrev sf:=nT.ix
abbrev qP:=nT.ixT
abbrev pI:=nT.ex
abbrev vm:=nT.lnT
abbrev BP:=nT.ln
abbrev oF:=nT.ap
abbrev tL:=nT.apZ
abbrev yc:=nT.apS
abbrev xf:=nT.mrk
abbrev sE:=nT.cpy
abbrev BQ:=nT.emp
abbrev Dr:=nT.min
abbrev Ds:=nT.max
abbrev O4:=nT.map
abbrev BO:=nT.cap
abbrev cW:=nT.bad
abbrev Al(_:Unit)(f:FuncId)(args:List Od):=nT.call f args
abbrev vH(_:Unit)(f:Od)(args:List Od):=nT.callV f args
abbrev gF:=nT.gd
abbrev mn:=nT.mn
abbrev fi:=xk.fi
abbrev st:=xk.st
abbrev sn:=xk.sn
abbrev ck:=xk.ck
abbrev cRg:=uq.rg
abbrev xt:=uq.sk
abbrev nu:=uq.sq
abbrev W4:=uq.cif
abbrev xV:=uq.bl
abbrev Xp(_:Unit)(b:uq):=uq.lp b
abbrev Q9:=uq.ex
abbrev nI:=uq.rt
abbrev GQ:=uq.bad
abbrev s0:=BF.add
abbrev sC:=BF.sub
abbrev tJ:=BF.mul
abbrev uv:=BF.quo
abbrev s5:=BF.rem
abbrev sD:=BF.and
abbrev GN:=BF.or
abbrev Aj:=BF.xor
abbrev sI:=BF.andNot
abbrev BH:=BF.shl
abbrev DW:=BF.shr
abbrev qN:=BF.lss
abbrev rK:=BF.leq
abbrev qf:=BF.gtr
abbrev qD:=BF.geq
abbrev Ak:=BF.eqI
abbrev EU:=BF.eqB
abbrev BD:=BF.Xo
abbrev Dm:=BF.eqP
abbrev BE:=BF.eqN
abbrev BI:=BF.tD
abbrev O2:=UF.not
abbrev O3:=UF.neg
abbrev GO:=UF.xor
abbrev BN:=UF.int
abbrev an7(n:Nat)(r:List RV)(b:Unit->Unit->uq):Dj:=⟨n,r,b () ()⟩
end X
end Go.Ab

noncomputable section
namespace Go.Ab
namespace Lf
inductive Ty where
 |int (k:IntKind)|bool|str|cp (t:Ty)|pair (a b:Ty)
@[reducible] noncomputable def den(t:Ty):Type:=Ty.rec (fun _=>Int) Bool ByteArray (fun _ ih=>List ih) (fun _ _ a b=>a×b) t
def cE(t:Ty):den t:=Ty.rec (motive:=den) (fun _=>(0:Int)) false ByteArray.empty (fun _ _=>[]) (fun _ _ a b=>(a,b)) t
def size(t:Ty):Nat:=Ty.rec (motive:=fun _=>Nat) (fun _=>1) 1 1 (fun _ _=>1) (fun _ _ a b=>Nat.add a b) t
def zk:(a b:Ty)->Option (PLift (a=b))
 | .int k,.int k'=>if h:k=k' then some ⟨by rw[h]⟩else none
 | .bool,.bool=>some ⟨rfl⟩
 | .str,.str=>some ⟨rfl⟩
 | .cp a,.cp b=>match zk a b with
  |some ⟨h⟩=>some ⟨by rw[h]⟩
  |none=>none
 | .pair a b,.pair c d=>match zk a c with
  |some ⟨h⟩=>match zk b d with
   |some ⟨k⟩=>some ⟨by rw[h,k]⟩
   |none=>none
  |none=>none
 | _,_=>none
inductive Sv where
 |i (k:IntKind) (n:Int)
 |b (b:Bool)
 |a (v:AV)
 |c (m:Nat) (t:Ty) (x:den t)
 |ag (l:List Sv)
 |tu (l:List Sv)
 |fn (f:FuncId) (l:List Sv)
 |rf (r o:Nat)
 |re (r sz i o:Nat)
 |os (r sz:Nat)
 |ss (r sz off n:Nat)
 |xo (r sz off n:Nat)
 |zp (l:List Sv)
inductive Row where
 |o (g:Nat) (l:List Sv)
 |l (t:Ty) (x:List (den t))
 |zo (l:List Sv)
 |z (t:Ty) (x:List (den t))
structure Hq where
 next:Nat
 cw:Tr Row
abbrev Tq:=F8 (F8 (F8 (Option Sv)))
def Tq.at(t:Tq)(i:Nat):Option Sv:=((t.qw (i / 64)).qw (i / 8 % 8)).qw (i % 8)
def Tq.put(t:Tq)(i:Nat)(v:Option Sv):Tq:=t.rh ((t.qw (i / 64)).rh (((t.qw (i / 64)).qw (i / 8 % 8)).rh v (i % 8)) (i / 8 % 8)) (i / 64)
def Tq.none:Tq:=F8.all (F8.all (F8.all Option.none))
inductive T (α:Type) where
 |bad
 |ok (a:α)
 |br (c:Bool) (a b:T α)
 |ck (c:Bool) (a:T α)
def T.val{α:Type}(x:T α):Option α:=T.rec (motive:=fun _=>Option α) none (fun a=>some a) (fun c _ _ a b=>bif c then a else b) (fun c _ a=>bif c then a else none) x
def T.bd{α β:Type}(x:T α)(f:α->T β):T β:=T.rec (motive:=fun _=>T β) .bad (fun a=>f a) (fun c _ _ a b=>.br c a b) (fun c _ a=>.ck c a) x
def T.of{α:Type}:Option α->T α
 |some a=>.ok a
 |none=>.bad
inductive LB where
 |l (b:Bool)
 |t (b:Bool)
def LB.v:LB->Bool
 | .l b=>b
 | .t b=>b
def LB.and:LB->LB->LB
 | .l true,y=>y
 | .l false,_=>.l false
 | .t _,.l false=>.l false
 | .t a,.l true=>.t a
 | .t a,.t b=>.t (a&&b)
def ckL{α:Type}(c:LB)(x:T α):T α:=match c with
 | .l true=>x
 | .l false=>.bad
 | .t b=>.ck b x
def svB:LB->Sv
 | .l b=>.b b
 | .t b=>.c 0 .bool b
def Sv.cells:Sv->List Sv
 | .ag l=>l
 |w=>[w]
def HD:Sv->Bool
 | .ag _| .tu _=>false
 | _=>true
def acd:AV->Bool
 | .sc _| .pO| .ur| .any=>true
 | _=>false
def ofA:AV->Option Sv
 | .int k n=>some (.i k n)
 | .bool b=>some (.b b)
 | .sc v=>some (.a (.sc v))
 | .pO=>some (.a .pO)
 | .ur=>some (.a .ur)
 | .wZ []=>some (.tu [])
 | .fn f []=>some (.fn f [])
 | _=>none
def PL(l:List AV):Option (List Sv):=List.rec (some []) (fun a _ ih=>match ofA a with
 |some b=>match ih with
  |some r=>some (b::r)
  |none=>none
 |none=>none) l
def qM(o:Od)(t:Tq):Option Sv:=match o with
 | .t i=>bif Nat.blt i 512 then t.at i else none
 | .c v=>ofA v
 | _=>none
def opw(o:Od)(t:Tq):Option Sv:=match o with
 | .w o=>qM o t
 | _=>none
def SU(l:List Od)(t:Tq):Option (List Sv):=List.rec (some []) (fun o _ ih=>match qM o t with
 |some v=>match ih with
  |some vs=>some (v::vs)
  |none=>none
 |none=>none) l
def toN:Sv->Option (IntKind×Int)
 | .i k n=>some (k,n)
 | .c _ (.int k) x=>some (k,x)
 | _=>none
def toB:Sv->Option LB
 | .b b=>some (.l b)
 | .c _ .bool x=>some (.t x)
 | _=>none
def toS:Sv->Option (Bool×ByteArray)
 | .a (.sc (.string s))=>some (true,s)
 | .c _ .str x=>some (false,x)
 | _=>none
def cY(k:IntKind)(a b:Int):Int:=oZ k (a+b)
def cA(k:IntKind)(a b:Int):Int:=oZ k (a - b)
def w7(k:IntKind)(a b:Int):Int:=oZ k (a*b)
def DA(k:IntKind)(a b:Int):Int:=oZ k (Int.tdiv a b)
def DC(_k:IntKind)(a b:Int):Int:=Int.tmod a b
def intOf:Option AV->Int
 |some (.int _ n)=>n
 | _=>0
def mN(k:IntKind)(a b:Int):Int:=intOf (Xk (.int k a) (.int k b))
def Kk(k:IntKind)(a b:Int):Int:=intOf (bOr (.int k a) (.int k b))
def Km(k:IntKind)(a b:Int):Int:=intOf (Xl (.int k a) (.int k b))
def YH(k:IntKind)(a b:Int):Int:=intOf (sI (.int k a) (.int k b))
def uE(k:IntKind)(a b:Int):Int:=intOf (JI (.int k a) (.int .u64 b))
def oP(k:IntKind)(a b:Int):Int:=intOf (JJ (.int k a) (.int .u64 b))
def DD(k:IntKind)(a:Int):Int:=oZ k (0 - a)
def aiI(k:IntKind)(a:Int):Int:=intOf (GO (.int k a))
def cb(k:IntKind)(a:Int):Int:=oZ k a
inductive Cls where
 |ar (f:IntKind->Int->Int->Int)
 |dv (f:IntKind->Int->Int->Int)
 |sh (f:IntKind->Int->Int->Int)
 |cm (f:Int->Int->Bool)
 |no
def SW:BF->Cls
 | .add=>.ar cY| .sub=>.ar cA| .mul=>.ar w7| .and=>.ar mN| .or=>.ar Kk| .xor=>.ar Km| .andNot=>.ar YH
 | .quo=>.dv DA| .rem=>.dv DC| .shl=>.sh uE| .shr=>.sh oP
 | .lss=>.cm fun a b=>decide (a<b)| .leq=>.cm fun a b=>decide (a<=b)| .gtr=>.cm fun a b=>decide (b<a)| .geq=>.cm fun a b=>decide (b<=a)
 | .eqI neg=>.cm (match neg with|false=>fun a b=>decide (a=b)|true=>fun a b=> !decide (a=b))
 | _=>.no
def SX:Sv->Bool
 | .i _ _=>true
 | _=>false
def YI(i:Bool)(x y:Sv):Option LB:=match i with
 |true=>match x,y with
  | .i k a,.i k' b=>bif qp k k' then some (.l (eqI a b))else none
  |x,y=>match toN x,toN y with
   |some (k,a),some (k',b)=>bif qp k k' then some (.t (decide (a=b)))else none
   | _,_=>none
 |false=>match toB x,toB y with
  |some (.l a),some (.l b)=>some (.l (!(xor a b)))
  |some a,some b=>some (.t (!(xor a.v b.v)))
  | _,_=>none
def ad'(l:List Bool):List Sv->List Sv->Option LB:=
 List.rec (fun _ _=>some (.l true)) (fun i _ ih xs ys=>match xs,ys with
  |x::xs,y::ys=>match YI i x y with
   |some c=>match ih xs ys with
    |some d=>some (c.and d)
    |none=>none
   |none=>none
  | _,_=>none) l
def aea(neg:Bool)(c:LB):LB:=match neg,c with
 |false,c=>c
 |true,.l b=>.l (!b)
 |true,.t b=>.t (!b)
def SY:Sv->Bool
 | .rf _ _| .re _ _ _ _| .zp _=>true
 | _=>false
def aeb(f:BF)(x y:Sv):T Sv:=match x,y with
 | .i k a,.i k' b=>(match f.f (.int k a) (.int k' b)with
  |some (.int k r)=>.ok (.i k r)
  |some (.bool r)=>.ok (.b r)
  | _=>.bad)
 |x,y=>match toN x,toN y with
  |some (k,a),some (k',b)=>(match SW f with
   | .ar g=>bif qp k k' then .ok (.c 0 (.int k) (g k a b))else .bad
   | .dv g=>bif qp k k' then(bif SX y then(bif eqI b 0 then .bad else .ok (.c 0 (.int k) (g k a b)))else .ck (!decide (b=0)) (.ok (.c 0 (.int k) (g k a b))))else .bad
   | .sh g=>(bif SX y then(bif r7 b 0 then .bad else .ok (.c 0 (.int k) (g k a b)))else .ck (decide (0<=b)) (.ok (.c 0 (.int k) (g k a b))))
   | .cm g=>bif qp k k' then .ok (.c 0 .bool (g a b))else .bad
   | .no=>.bad)
  | _,_=>.bad
def sBn(f:BF)(x y:Sv):T Sv:=match f with
 | .eqB neg=>match toB x,toB y with
  |some (.l a),some (.l b)=>.ok (.b (bif neg then xor a b else !(xor a b)))
  |some a,some b=>.ok (.c 0 .bool (match neg with|true=>xor a.v b.v|false=> !(xor a.v b.v)))
  | _,_=>.bad
 | .Xo neg=>match toS x,toS y with
  |some (true,a),some (true,b)=>.ok (.b (bif neg then !(eqStr a b)else eqStr a b))
  |some (_,a),some (_,b)=>.ok (.c 0 .bool (match neg with|true=> !(eqStr a b)|false=>eqStr a b))
  | _,_=>.bad
 | .eqP neg=>match x,y with
  | .a (.sc (.pointer none)),.a (.sc (.pointer none))=>.ok (.b (!neg))
  | .a (.sc (.pointer none)),y=>bif SY y then .ok (.b neg)else .bad
  |x,.a (.sc (.pointer none))=>bif SY x then .ok (.b neg)else .bad
  | _,_=>.bad
 | .eqN neg=>match x,y with
  | .a v,.a w=>bif isNil w then(match ET v with
   |some b=>.ok (.b (bif neg then !b else b))
   |none=>.bad)else .bad
  | .xo _ _ _ _,.a w=>bif isNil w then .ok (.b neg)else .bad
  | .c _ (.cp _) x,.a w=>bif isNil w then .ck (!(Nat.beq x.length 0)) (.ok (.b neg))else .bad
  | _,_=>.bad
 | .tD neg l=>match x,y with
  | .ag xs,.ag ys=>match ad' l xs ys with
   |some c=>.ok (svB (aea neg c))
   |none=>.bad
  | _,_=>.bad
 |f=>aeb f x y
def aed(f:UF)(x:Sv):Option Sv:=match f with
 | .not=>match toB x with
  |some (.l b)=>some (.b (!b))
  |some (.t b)=>some (.c 0 .bool (!b))
  |none=>none
 | .neg=>match x with
  | .i k n=>some (.i k (DD k n))
  | .c _ (.int k) n=>some (.c 0 (.int k) (DD k n))
  | _=>none
 | .xor=>match x with
  | .i k n=>some (.i k (aiI k n))
  | .c _ (.int k) n=>some (.c 0 (.int k) (aiI k n))
  | _=>none
 | .int k=>match x with
  | .i _ n=>some (.i k (cb k n))
  | .c _ (.int _) n=>some (.c 0 (.int k) (cb k n))
  | _=>none
def ud(t:Ty):den t->List Sv:=
 Ty.rec (motive:=fun t=>den t->List Sv) (fun k x=>[.c 0 (.int k) x]) (fun x=>[.c 0 .bool x]) (fun x=>[.c 0 .str x]) (fun t _ x=>[.c 0 (.cp t) x]) (fun _ _ xr BG x=>app (xr x.1) (BG x.2)) t
def aiJ(l:List Sv)(off n:Nat):Option (List Sv):=match tk n (dp off l)with
 |r=>bif Nat.beq (len r) n then some r else none
def Co(agg:Bool)(l:List Sv)(off sz:Nat):Option Sv:=match aiJ l off sz with
 |none=>none
 |some r=>bif agg then some (.ag r)else match r with
  | [c]=>some c
  | _=>none
def HE(l:List Sv)(off:Nat)(new:List Sv):List Sv:=app (tk off l) (app new (dp (Nat.add off (len new)) l))
def Fy(l:List (Nat×Nat×Sv)):List Sv->Option (List Sv):=
 List.rec (fun cells=>some cells) (fun p _ ih cells=>
  bif Nat.beq (len p.2.2.cells) p.2.1&&Nat.ble (Nat.add p.1 p.2.1) (len cells)then ih (HE cells p.1 p.2.2.cells)else none) l
def FA(l:List (Nat×Nat×Od))(t:Tq):Option (List (Nat×Nat×Sv)):=
 List.rec (some []) (fun p _ ih=>match qM p.2.2 t with
  |some v=>match ih with
   |some vs=>some ((p.1,p.2.1,v)::vs)
   |none=>none
  |none=>none) l
def FB(l:List (Nat×Od))(t:Tq):Option (List (Nat×Sv)):=
 List.rec (some []) (fun p _ ih=>match qM p.2 t with
  |some v=>match ih with
   |some vs=>some ((p.1,v)::vs)
   |none=>none
  |none=>none) l
def Cp(size:Nat)(l:List (Nat×Sv)):Nat->Option (List Sv):=
 List.rec (fun _=>some []) (fun p _ ih i=>
  bif Nat.beq p.1 i&&Nat.beq (len p.2.cells) size then(match ih (Nat.add i 1)with|some r=>some (app p.2.cells r)|none=>none)else none) l
def aee(n:Nat)(z:List Sv):List Sv:=Nat.rec [] (fun _ ih=>app z ih) n
def FC(size:Nat)(l:List (Nat×Sv)):List (Nat×Nat×Sv):=List.rec [] (fun p _ ih=>(Nat.mul p.1 size,size,p.2)::ih) l
def HF(n size:Nat)(zero:List Sv)(l:List (Nat×Sv)):Option (List Sv):=
 match bif Nat.beq (len l) n then Cp size l 0 else none with
 |some cs=>some cs
 |none=>Fy (FC size l) (aee n zero)
def nG(h:Hq)(r:Row):Hq:=⟨Nat.add h.next 1,h.cw.set h.next (some r)⟩
def ql(h:Hq)(id:Nat)(r:Option Row):Hq:=⟨h.next,h.cw.set id r⟩
def rdS(t:Ty)(f:List Sv->Hq->Option (den t×List Sv×Hq))(n:Nat):List Sv->Hq->Option (List (den t)×Hq):=
 Nat.rec (fun _ h=>some ([],h)) (fun _ ih l h=>match f l h with
  |some (x,r,h)=>match ih r h with
   |some (xs,h)=>some (x::xs,h)
   |none=>none
  |none=>none) n
def rdX(t:Ty)(f:List Sv->Hq->Option (den t×List Sv×Hq))(n off:Nat)(l:List Sv)(h:Hq):Option (List (den t)×Hq):=bif Nat.ble off (len l)then rdS t f n (dp off l) h else none
def nr:AV->Bool
 | .pO=>true
 |a=>xq a
def asL(t:Ty)(f:List Sv->Hq->Option (den t×List Sv×Hq))(v:Sv)(h:Hq):Option (List (den t)×Hq):=match v with
 | .a w=>bif nr w then some ([],h)else none
 | .c _ (.cp t') x=>match zk t' t with
  |some ⟨e⟩=>some (e▸x,h)
  |none=>none
 | .os r _=>match h.cw.get r with
  |some (.l t' x)=>(match zk t' t with
   |some ⟨e⟩=>some (e▸x,ql h r (some (.z t' x)))
   |none=>none)
  |some (.z t' x)=>(match zk t' t with
   |some ⟨e⟩=>some (e▸x,h)
   |none=>none)
  | _=>none
 | .ss r _ off n=>match h.cw.get r with
  |some (.l t' x)=>(match zk t' t with
   |some ⟨e⟩=>some (((e▸x:List (den t)).drop off).take n,ql h r (some (.z t' x)))
   |none=>none)
  |some (.z t' x)=>(match zk t' t with
   |some ⟨e⟩=>some (((e▸x:List (den t)).drop off).take n,h)
   |none=>none)
  | _=>none
 | .xo r sz off n=>bif Nat.beq sz (size t)then(match h.cw.get r with
  |some (.o _ l)=>rdX t f n off l (ql h r (some (.zo l)))
  |some (.zo l)=>rdX t f n off l h
  | _=>none)else none
 | _=>none
def asT(t:Ty):List Sv->Hq->Option (den t×List Sv×Hq):=
 Ty.rec (motive:=fun t=>List Sv->Hq->Option (den t×List Sv×Hq))
  (fun k l h=>match l with
   |v::r=>match toN v with
    |some (k',n)=>bif qp k k' then some (n,r,h)else none
    |none=>none
   | []=>none)
  (fun l h=>match l with
   |v::r=>match toB v with
    |some b=>some (b.v,r,h)
    |none=>none
   | []=>none)
  (fun l h=>match l with
   |v::r=>match toS v with
    |some (_,s)=>some (s,r,h)
    |none=>none
   | []=>none)
  (fun t ih l h=>match l with
   |v::r=>match asL t ih v h with
    |some (x,h)=>some (x,r,h)
    |none=>none
   | []=>none)
  (fun _ _ xr BG l h=>match xr l h with
   |some (x,r,h)=>match BG r h with
    |some (y,r,h)=>some ((x,y),r,h)
    |none=>none
   |none=>none) t
def lst(t:Ty)(v:Sv)(h:Hq):Option (List (den t)×Hq):=asL t (asT t) v h
def aiK(v:Sv)(h:Hq):Option Ty:=match v with
 | .c _ (.cp t) _=>some t
 | .os r _=>match h.cw.get r with
  |some (.l t _)=>some t
  |some (.z t _)=>some t
  | _=>none
 | .ss r _ _ _=>match h.cw.get r with
  |some (.l t _)=>some t
  |some (.z t _)=>some t
  | _=>none
 | _=>none
def aeg(v:Sv)(h:Hq):Option Sv:=match v with
 | .a w=>bif nr w then some (.i .i64 0)else none
 | .c _ (.cp _) x=>some (.c 0 (.int .i64) (Int.ofNat x.length))
 | .os r _=>match h.cw.get r with
  |some (.l _ x)=>some (.c 0 (.int .i64) (Int.ofNat x.length))
  |some (.z _ x)=>some (.c 0 (.int .i64) (Int.ofNat x.length))
  | _=>none
 | .ss _ _ _ n=>some (.c 0 (.int .i64) (Int.ofNat n))
 | .xo _ _ _ n=>some (.i .i64 (.ofNat n))
 | _=>none
end Lf
end Go.Ab
