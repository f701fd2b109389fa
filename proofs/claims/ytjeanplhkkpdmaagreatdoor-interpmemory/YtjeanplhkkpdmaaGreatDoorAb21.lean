import Derived.Test.YtjeanplhkkpdmaaGreatDoorAb14
import Derived.KernelRfl
import Derived.Below
import Derived.Lib.SmallJoins
noncomputable section
namespace Go.Ab
variable [Io]
namespace Cx
variable {c:Cx}
omit [Io] in
theorem G.OG{g:G}{id b N:Nat}(h:N<=id):(g.add id b).to N=g.to N:=by
 unfold Go.Ab.G.to G.add
 congr 1
 funext k
 by_cases hk:k<N
 ·simp only[hk,if_true]
  rw[if_neg (by omega)]
 ·simp only[hk,if_false]
theorem sim(G0:c.U9){Q:Exit->Act->World->Prop}(K:ra c.g0 c.w0 c.h0 c.nt c.te c.hE (Q .normal)): ∀ (s D mS:List Nat) (pl:pd) (g:G) (w:World) (h:Hp) (a:Act),
 UX c.ops D s->c.Inv g w h a D mS pl->wpOps c.P c.ops Q s a w
 | [],D,mS,pl,g,w,h,a,L,I=>by
  have Li: ∀ i,i<c.ops.size->i∈D:=L
  have kC: ∀ {i k},c.iZ i k->i<c.ops.size:=fun⟨o,ho,_⟩=>(Array.getElem?_eq_some_iff.1 ho).1
  show Q .normal a w
  cases pl with
  |cons pre kV q rest=>
   exact absurd (Li q (kC (Js I.run q List.mem_cons_self))) (I.TC q List.mem_cons_self)
  |last pre kV=>
   have S:=c.settle (A:=[]) kV h I.run.2 (fun i _ hc=>Li i (kC hc)) (by rw[List.append_nil];exact I.st) (fun i hi=>by cases hi)
   refine K _ _ _ S.ext S.hr ⟨G0.nt,I.size,fun u v hu e=>?_⟩ I.defers
   have hle:=c.tD I.run.2
   by_cases hd: ∃ j,c.pF j u
   ·obtain⟨j,hj⟩:=hd
    obtain⟨o,ho,_⟩:=id hj
    have hjs:=(Array.getElem?_eq_some_iff.1 ho).1
    obtain⟨h1,v',e',hv⟩:=I.tF j (Li j hjs) u hj
    rw[e]at e'
    cases e'
    have:=G0.top j hjs
    exact⟨h1,VR.kq (r5 g w (by omega)) _ _ hv⟩
   ·rw[G0.same u hu (fun j hj=>hd ⟨j,hj⟩)]at e
    obtain⟨h1,h2⟩:=I.free u v hu (fun j _ hj=>hd ⟨j,hj⟩) e
    exact⟨h1,VR.kq (r5 g w hle) _ _ h2⟩
 |i::s,D,mS,pl,g,w,h,a,⟨his,Ci,hE,L⟩,I=>by
  obtain⟨o,ho⟩: ∃ o,c.ops[i]? =some o:=⟨c.ops[i],Array.getElem?_eq_getElem his⟩
  obtain⟨Dj,hC⟩:=Fj I.closed ho hE
  have HF: ∀ b,g.j3 b->b<w.heap.size:=I.st.hr.j3
  cases hk:(rY c.P c.call o.op).1 with
  |p0=>
   have kj:c.iZ i .p0:=⟨o,ho,hk⟩
   obtain⟨v,hF,hS,hR⟩:=G0.p0 i kj
   have T:=I.reads G0.nt hR Ci Dj (N:=max (c.bd i) h.next) (by omega) (by omega)
   have e:oE c.P c.call c.nt c.ops.toList o (c.rf i) (kb 0)=.ok v (kb 0):=by
    rw[<-yj ho];exact hF _
   exact Ch G0.call ho (.inl hk) (OB (g:=g.to (max (c.bd i) h.next)) HF) T e fun x hx=>sim G0 K s _ _ _ _ _ _ _ L (I.put G0 ho Ci hC (.inl kj) hS hx)
  |p1=>
   have kj:c.iZ i .p1:=⟨o,ho,hk⟩
   have aaB:i∈pl.pre:=by
    rcases Va I.stat i kj with⟨j,hj,hA⟩|⟨j,hj,hA⟩|h
    ·exact absurd (I.closed j (I.yi j hj) i hA) Ci
    ·exact absurd (Dj j hA) (I.TC j hj)
    ·exact h
   obtain⟨v,hF,hS,hR⟩:=aaN I.run i aaB kj
   have T:=I.reads G0.nt hR Ci Dj (N:=h.next) (Nat.le_refl _) (Nat.le_refl _)
   have e:oE c.P c.call c.nt c.ops.toList o (c.rf i) h=.ok v h:=by
    rw[<-yj ho];exact hF
   exact Ch G0.call ho (.inr hk) I.st.hr.toHC T e fun x hx=>sim G0 K s _ _ _ _ _ _ _ L
    (I.put G0 ho Ci hC (.inr kj) hS (VR.kq (r5 g w (by omega)) _ _ hx))
  |al=>
   have kj:c.iZ i .al:=⟨o,ho,hk⟩
   obtain⟨v,hS,hR,hF⟩:=G0.al i kj
   have Jo:i∈pl.kV:=(I.Y4 i kj).resolve_right Ci
   have hnx:=c.vq I.run i Jo kj
   have T:=I.reads G0.nt hR Ci Dj (N:=c.nx i) (Nat.le_refl _) hnx
   obtain⟨h',hh',hF'⟩: ∃ h',((h'=kb (c.nx i)/\c.bd i=c.nx i)∨ ∃ cs,h'=iV (kb (c.nx i)) cs/\c.bd i=c.nx i+1)/\c.FE i (c.rf i) (kb (c.nx i))=.ok v h':=by
    rcases hF with⟨h1,h2⟩|⟨cs,h1,h2⟩
    ·exact⟨_,.inl ⟨rfl,h2⟩,h1⟩
    ·exact⟨_,.inr ⟨cs,rfl,h2⟩,h1⟩
   have e:oE c.P c.call c.nt c.ops.toList o (c.rf i) (kb (c.nx i))=.ok v h':=by
    rw[<-yj ho];exact hF'
   have HD: ∀ j,j∈i::D->j≠i->j∈D:=fun j hj nd=>(List.mem_cons.1 hj).resolve_left nd
   have fin: ∀ (g':G) (w':World) (x:Value),(∀ id y,g.m id=some y->g'.m id=some y)->g'.j3=g.j3->g'.to h.next=g.to h.next->(w'=w∨ ∃ ob,w'=w.alloc ob)->
    c.Ld g' w' h i->(∀ id y,g'.m id=some y->g.m id=some y∨(c.bd i=c.nx i+1/\id=c.nx i))->
    (∀ j∈pl.kV,j∈D->c.iZ j .al->c.bd j=c.nx j+1->c.bd i=c.nx i+1-> ∀ b,g'.m (c.nx i)=some (b,0)->g'.m (c.nx j)=some (b,0)->i=j)->
    VR (g'.to (max (c.bd i) h.next)) w' v x->c.Inv g' w' h (a.put o.dst x) (i::D) mS pl:=by
    intro g' w' x hm hi ze hw hp aaO Y6 hx
    have M: ∀ N,vW (g.to N) w (g'.to N) w':=by
     intro N
     have hmN: ∀ id y,(g.to N).m id=some y->(g'.to N).m id=some y:=by
      intro id y e
      simp only[Go.Ab.G.to]at e ⊢
      by_cases mQ:id<N
      ·rw[if_pos mQ]at e ⊢;exact hm _ _ e
      ·rw[if_neg mQ]at e;cases e
     rcases hw with rfl|⟨ob,rfl⟩
     ·exact⟨hmN,fun b k=>by simp only[Go.Ab.G.to]at k ⊢;rw[hi];exact k,fun _ _=>rfl,fun _=>Nat.le_refl _⟩
     ·exact vr hmN (by simp only[Go.Ab.G.to];exact hi) (by simp only[Go.Ab.G.to];exact HF)
    have ags: ∀ j,c.Ld g w h j->c.Ld g' w' h j:=by
     intro j p
     rcases hw with rfl|⟨ob,rfl⟩
     ·rcases p with p|⟨v,cs,b,C,el,vs,h1,h2,h3,h4,h5,h6,h7,h8,h9⟩
      ·exact .inl p
      ·exact .inr ⟨v,cs,b,C,el,vs,h1,h2,hm _ _ h3,h4,by rw[hi];exact h5,by rw[ze];exact h6,h7,cZ.kq (M _) _ _ h8,h9⟩
     ·exact HE hm hi HF ze p
    have zc:HR (g'.to h.next) w' h/\Ext c.g0 c.w0 c.h0 (g'.to h.next) w' h:=by
     rw[ze]
     rcases hw with rfl|⟨ob,rfl⟩
     ·exact⟨I.st.hr,I.st.ext⟩
     ·obtain⟨E,H⟩:=ET I.st.hr ob
      exact⟨H,I.st.ext.trans E⟩
    exact
    {run:=I.run
     stat:=I.stat
     closed:=hC
     Bo:=fun j hj=>(I.Bo j hj).imp id (List.mem_cons_of_mem _)
     TC:=fun j hj h=>by
      rcases List.mem_cons.1 h with rfl|h
      ·cases c.nL kj (Js I.run j hj)
      ·exact I.TC j hj h
     yi:=fun j hj=>List.mem_cons_of_mem _ (I.yi j hj)
     Y4:=fun j hj=>(I.Y4 j hj).imp id (List.mem_cons_of_mem _)
     st:=⟨zc.1,zc.2,fun j hj HB EA=>by
      by_cases G1:j=i
      ·subst G1;exact hp
      ·exact ags j (I.st.HA j hj (HD j HB G1) EA),fun j hj k hk jD kD jc kc bj bk b mj mk=>by
      by_cases G1:j=i<;>by_cases hki:k=i
      ·exact G1.trans hki.symm
      ·subst G1
       exact Y6 k hk (HD k kD hki) kc bk bj b mj mk
      ·subst hki
       exact(Y6 j hj (HD j jD G1) jc bj bk b mk mj).symm
      ·have nj:g.m (c.nx j)=some (b,0):=by
        rcases aaO _ _ mj with m|⟨b1,b2⟩
        ·exact m
        ·exact absurd (c.wm I.run j hj i Jo jc kj bj b1 b2) G1
       have nk:g.m (c.nx k)=some (b,0):=by
        rcases aaO _ _ mk with m|⟨b1,b2⟩
        ·exact m
        ·exact absurd (c.wm I.run k hk i Jo kc kj bk b1 b2) hki
       exact I.st.Le j hj k hk (HD j jD G1) (HD k kD hki) jc kc bj bk b nj nk⟩
     Y5:=fun n y e=>by
      rcases aaO n y e with m|⟨b1,b2⟩
      ·exact(I.Y5 n y m).imp id fun⟨j,hj,hD,r⟩=>⟨j,hj,List.mem_cons_of_mem _ hD,r⟩
      ·exact .inr ⟨i,Jo,List.mem_cons_self,kj,b1,b2⟩
     tF:=xA G0 ho I.size I.tF (fun j _=>M _) Ci (fun d hd=>⟨(hS d hd).1,v,(hS d hd).2,hx⟩)
     free:=Ak ho I.size I.free (M _)
     size:=by rw[Aj];exact I.size
     defers:=by rw[put_defers];exact I.defers}
   refine OC G0.call ho hk (OB (g:=g.to (c.nx i)) HF) T e (fun h1 x w' hw hv=>?_) (fun cs C el vs x h1 jE hCv hv=>?_)
   ·have hb:c.bd i=c.nx i:=by
     rcases hh' with⟨_,h2⟩|⟨cs,h2,_⟩
     ·exact h2
     ·rw[h2]at h1
      have:=congrArg Hp.next h1
      exact absurd this (Nat.succ_ne_self _)
    exact sim G0 K s _ _ _ _ _ _ _ L (fin g w' x (fun _ _ m=>m) rfl rfl hw (.inl hb) (fun id y m=>.inl m) (fun j _ _ _ _ k=>by omega) (hv _ _))
   ·have hb:c.bd i=c.nx i+1:=by
     rcases hh' with⟨h2,_⟩|⟨cs',_,h2⟩
     ·rw[h2]at h1
      have:=congrArg Hp.next h1
      exact absurd this.symm (Nat.succ_ne_self _)
     ·exact h2
    have agu:g.m (c.nx i)=none:=by
     cases hm:g.m (c.nx i)with
     |none=>rfl
     |some y=>
      rcases I.Y5 _ _ hm with h|⟨j,hj,hD,EA,hjb,hje⟩
      ·omega
      ·have:=c.wm I.run i Jo j hj kj EA hb hjb hje
       exact absurd (this▸hD) Ci
    have MU: ∀ id y,g.m id=some y->(g.add (c.nx i) w.heap.size).m id=some y:=by
     intro id y m
     simp only[G.add]
     rw[if_neg (fun k=>by rw[k,agu]at m;cases m)]
     exact m
    have Y3:(g.add (c.nx i) w.heap.size).m (c.nx i)=some (w.heap.size,0):=by simp[G.add]
    have ze:(g.add (c.nx i) w.heap.size).to h.next=g.to h.next:=G.OG hnx
    have BC:(w.alloc (.cells C el)).heap[w.heap.size]? =some (.cells C el (0,0)):=by rw[r7,if_pos rfl]
    have vk:C.size<=jl (w.alloc (.cells C el)) w.heap.size:=by rw[uV];exact Nat.le_refl _
    rw[h1]at hF'
    refine sim G0 K s _ _ _ _ _ _ _ L (fin (g.add (c.nx i) w.heap.size) _ x MU rfl ze (.inr ⟨_,rfl⟩) (.inr ⟨v,cs,w.heap.size,C,FT.nw C el,vs,hb,hF',Y3,BC,?_,?_,I.st.ext.size,?_,hCv⟩)
     (fun id y m=>?_) (fun j hj HB EA hjb _ b m1 m2=>?_) (hv _ _ ?_ vk))
    ·intro k
     exact absurd (HF _ k) (Nat.lt_irrefl _)
    ·rw[ze]
     rintro⟨id,cs',s,e,m⟩
     obtain⟨_,_,_,hw,_⟩:=I.st.hr.row e m
     have:=(Array.getElem?_eq_some_iff.1 hw).1
     omega
    ·have hT:(g.add (c.nx i) w.heap.size).to (c.nx i)=g.to (c.nx i):=G.OG (Nat.le_refl _)
     rw[hT]
     exact cZ.kq (vr (fun _ _ m=>m) rfl (by simp only[Go.Ab.G.to];exact HF)) _ _ jE
    ·by_cases mQ:id=c.nx i
     ·exact .inr ⟨hb,mQ⟩
     ·simp only[G.add,if_neg mQ]at m
      exact .inl m
    ·rw[Y3]at m1
     obtain⟨rfl,_⟩:=Prod.mk.inj (Option.some.inj m1)
     have nd:c.nx j≠c.nx i:=fun k=>Ci (c.wm I.run i Jo j hj kj EA hb hjb k.symm▸HB)
     simp only[G.add,if_neg nd]at m2
     rcases I.st.HA j hj HB EA with hp|⟨_,_,b,_,_,_,_,_,h3,h4,_⟩
     ·omega
     ·rw[m2]at h3
      obtain⟨rfl,_⟩:=Prod.mk.inj (Option.some.inj h3)
      have:=(Array.getElem?_eq_some_iff.1 h4).1
      omega
    ·show(Go.Ab.G.to _ _).m (c.nx i)=_
     simp only[Go.Ab.G.to]
     rw[if_pos (by omega)]
     exact Y3
  |ch=>
   have kj:c.iZ i .ch:=⟨o,ho,hk⟩
   have Jo:=(I.Bo i kj).resolve_right Ci
   cases pl with
   |last pre kV=>cases Jo
   |cons pre kV q rest=>
    have hq:i=q:=by
     rcases List.mem_cons.1 Jo with h|h
     ·exact h
     ·exact absurd (Dj q (I.stat.2.2.1 i h)) (I.TC q List.mem_cons_self)
    subst hq
    obtain⟨_,h1,aaP,_,v,h2,hF,hS,hR,hb,hle,nN⟩:=I.run
    have alB:=c.tD aaP
    have S:=c.settle kV h aaP (fun j hj hc=>Dj j (I.stat.2.1 j hj hc)) I.st (fun j hj hc=>Nat.le_trans hle (c.vq nN j hj hc))
    have T:=I.reads G0.nt hR Ci Dj (N:=h1.next) (Nat.le_refl _) alB
    have e:oE c.P c.call c.nt c.ops.toList o (c.rf i) h1=.ok v h2:=by
     rw[<-yj ho];exact hF
    refine Dd G0.call ho S.hr T e fun g' w' x E H' hv=>?_
    obtain⟨G',hG'⟩: ∃ G':G,G'=⟨fun id=>if id<h2.next then g'.m id else g.m id,g'.j3⟩:=⟨_,rfl⟩
    have ze:G'.to h2.next=g':=by
     rw[hG']
     unfold Go.Ab.G.to
     cases g' with
     |mk m im=>
      simp only[G.mk.injEq,and_true]
      funext id
      by_cases mQ:id<h2.next
      ·simp only[mQ,if_true]
      ·simp only[mQ,if_false]
       exact(H'.fresh id (by omega)).symm
    have M0:=E.mono S.hr.toHC
    have Y7: ∀ id y,g.m id=some y->h1.next<=id->h2.next<=id/\ ∃ j∈rest.kV,j∈D/\c.iZ j .al/\c.bd j=c.nx j+1/\id=c.nx j:=by
     intro id y m mQ
     rcases I.Y5 id y m with h|⟨j,hj,HB,EA,hjb,rfl⟩
     ·omega
     ·rcases List.mem_append.1 hj with hj|hj
      ·have:=(c.pU aaP j hj EA).2 hjb
       omega
      ·exact⟨c.vq nN j hj EA,j,hj,HB,EA,hjb,rfl⟩
    have hm: ∀ id y,g.m id=some y->G'.m id=some y:=by
     intro id y m
     rw[hG']
     show(if id<h2.next then g'.m id else g.m id)=some y
     by_cases mQ:id<h2.next
     ·rw[if_pos mQ]
      have:id<h1.next:=by
       refine Classical.byContradiction fun k=>?_
       have:=(Y7 id y m (by omega)).1
       omega
      exact E.m id y (by simp only[Go.Ab.G.to];rw[if_pos this];exact m)
     ·rw[if_neg mQ];exact m
    have K9:G'.j3=g'.j3:=by rw[hG']
    have M: ∀ B B',B<=B'->vW (g.to B) w (G'.to B') w':=by
     intro B B' hB
     refine⟨?_,fun b k=>?_,fun b k=>?_,E.rows⟩
     ·intro id y k
      simp only[Go.Ab.G.to]at k ⊢
      by_cases mQ:id<B
      ·rw[if_pos mQ]at k
       rw[if_pos (by omega)]
       exact hm id y k
      ·rw[if_neg mQ]at k;cases k
     ·show G'.j3 b
      rw[K9]
      exact E.j3 b k
     ·exact E.uL b (HF b k) (S.hr.pD k)
    refine sim G0 K s (i::D) (i::mS) rest G' w' h2 (a.put o.dst x) L ?_
    have Jt: ∀ j∈rest.kV,j∈kV++rest.kV:=fun j hj=>List.mem_append_right _ hj
    have HD: ∀ j,c.iZ j .al->j∈i::D->j∈D:=by
     intro j hj h
     refine(List.mem_cons.1 h).resolve_left fun e=>?_
     subst e
     cases c.nL kj hj
    exact
    {run:=nN
     stat:=I.stat.2.2.2
     closed:=hC
     Bo:=fun j hj=>by
      rcases I.Bo j hj with h|h
      ·rcases List.mem_cons.1 h with rfl|h
       ·exact .inr List.mem_cons_self
       ·exact .inl h
      ·exact .inr (List.mem_cons_of_mem _ h)
     TC:=fun j hj h=>by
      rcases List.mem_cons.1 h with rfl|h
      ·
       exact absurd (Dj j (I.stat.2.2.1 j hj)) Ci
      ·exact I.TC j (List.mem_cons_of_mem _ hj) h
     yi:=fun j hj=>by
      rcases List.mem_cons.1 hj with rfl|hj
      ·exact List.mem_cons_self
      ·exact List.mem_cons_of_mem _ (I.yi j hj)
     Y4:=fun j hj=>by
      rcases I.Y4 j hj with h|h
      ·rcases List.mem_append.1 h with h|h
       ·exact .inr (List.mem_cons_of_mem _ (Dj j (I.stat.2.1 j h hj)))
       ·exact .inl h
      ·exact .inr (List.mem_cons_of_mem _ h)
     st:=⟨by rw[ze];exact H',by rw[ze];exact S.ext.trans E,fun j hj HB EA=>by
      rcases S.HA j hj (HD j EA HB) EA with p|⟨v,cs,b,C,el,vs,qn,Uz,h3,h4,h5,h6,h7,h8,h9⟩
      ·exact .inl p
      ·have kC:=(Array.getElem?_eq_some_iff.1 h4).1
       refine .inr ⟨v,cs,b,C,el,vs,qn,Uz,hm _ _ h3,by rw[E.uL b kC h6];exact h4,?_,?_,h7,cZ.kq (M _ _ (Nat.le_refl _)) _ _ h8,h9⟩
       ·rw[K9]
        intro k
        rcases E.KD b k with k|k|k
        ·exact h5 k
        ·exact h6 k
        ·omega
       ·rw[ze]
        intro k
        rcases E.qV b k with k|k
        ·exact h6 k
        ·omega,fun j hj k hk jD kD jc kc bj bk b mj mk=>by
      have e1: ∀ l∈rest.kV,l∈D->c.iZ l .al->c.bd l=c.nx l+1->G'.m (c.nx l)=some (b,0)->g.m (c.nx l)=some (b,0):=by
       intro l hl lD lc lb ml
       have:=c.vq nN l hl lc
       rw[hG']at ml
       simp only at ml
       rw[if_neg (by omega)]at ml
       exact ml
      exact I.st.Le j (Jt j hj) k (Jt k hk) (HD j jc jD) (HD k kc kD) jc kc bj bk b (e1 j hj (HD j jc jD) jc bj mj) (e1 k hk (HD k kc kD) kc bk mk)⟩
     Y5:=fun n y m=>by
      by_cases hn:n<h2.next
      ·exact .inl hn
      ·rw[hG']at m
       simp only at m
       rw[if_neg hn]at m
       obtain⟨_,j,hj,HB,r⟩:=Y7 n y m (by omega)
       exact .inr ⟨j,hj,List.mem_cons_of_mem _ HB,r⟩
     tF:=xA G0 ho I.size I.tF (fun j _=>M _ _ (by omega)) Ci (fun d hd=>⟨(hS d hd).1,v,(hS d hd).2,by
      have:max (c.bd i) h2.next=h2.next:=by omega
      rw[this,ze];exact hv⟩)
     free:=Ak ho I.size I.free (M _ _ (by omega))
     size:=by rw[Aj];exact I.size
     defers:=by rw[put_defers];exact I.defers}
end Cx
end Go.Ab

noncomputable section
namespace Go.Ab
variable [Io]
def OH:Value->Value->Bool
 | .string a,.string b=>a.data.toList == b.data.toList
 | .pointer none,.pointer none=>true
 | .map none,.map none=>true
 | .nilFunc,.nilFunc=>true
 | .nilIface,.nilIface=>true
 | .slice none n c,.slice none n' c'=>Nat.beq n n'&&Nat.beq c c'
 | _,_=>false
mutual
def qf:AV->AV->Bool
 | .int k n,.int k' n'=>mK k k'&&eqI n n'
 | .bool a,.bool b=> !(xor a b)
 | .sc a,.sc b=>OH a b
 | .agg a,.agg b=>nf a b
 | .yv a,.yv b=>nf a b
 | .ref i o,.ref i' o'=>Nat.beq i i'&&Nat.beq o o'
 | .jS i o n s,.jS i' o' n' s'=>Nat.beq i i'&&Nat.beq o o'&&Nat.beq n n'&&Nat.beq s s'
 | .qT n a,.qT m b=>Nat.beq n m&&nf a b
 | .mN a,.mN b=>nf a b
 | .mB,.mB=>true
 | .sK,.sK=>true
 | .fn f a,.fn f' b=>Nat.beq f f'&&nf a b
 | .sym k s lo hi o,.sym k' s' lo' xm o'=>mK k k'&&(G8 s s'&&(eqI lo lo'&&(eqI hi xm&&eqI o o')))
 | .any,.any=>true
 | _,_=>false
def nf:List AV->List AV->Bool
 | [],[]=>true
 |a::l,b::r=>qf a b&&nf l r
 | _,_=>false
end
omit [Io] in
theorem wo{a b:Int}(h:eqI a b=true):a=b:=by
 cases a<;>cases b<;>simp[eqI]at h<;>simp[h]
omit [Io] in
theorem OI{a b:ByteArray}(h:(a.data.toList == b.data.toList)=true):a=b:=by
 cases a with
 |mk a=>cases b with
  |mk b=>
   congr 1
   exact Array.toList_inj.1 (by simpa using h)
omit [Io] in
theorem OJ{a b:Value}(h:OH a b=true):a=b:=by
 unfold OH at h
 split at h
 ·rw[OI h]
 all_goals first|rfl|(cases h;done)|(rw[Bool.and_eq_true]at h;rw[Nat.eq_of_beq_eq_true h.1,Nat.eq_of_beq_eq_true h.2])
section
omit [Io]
mutual
theorem zf: ∀ (a b:AV),qf a b=true->a=b
 | .int k n,b,h=>by cases b<;>simp only[qf,Bool.and_eq_true]at h<;>try cases h
                    rename_i h1 h2
                    rw[jK.1 h1,wo h2]
 | .bool x,b,h=>by cases b<;>simp only[qf]at h<;>try cases h
                   rename_i y
                   cases x<;>cases y<;>first|rfl|cases h
 | .sc x,b,h=>by cases b<;>simp only[qf]at h<;>try cases h
                 rw[OJ h]
 | .agg x,b,h=>by cases b<;>simp only[qf]at h<;>try cases h
                  rw[mF _ _ h]
 | .yv x,b,h=>by cases b<;>simp only[qf]at h<;>try cases h
                 rw[mF _ _ h]
 | .ref i o,b,h=>by cases b<;>simp only[qf,Bool.and_eq_true,Nat.beq_eq]at h<;>try cases h
                    rename_i h1 h2
                    rw[h1,h2]
 | .jS i o n s,b,h=>by cases b<;>simp only[qf,Bool.and_eq_true,Nat.beq_eq]at h<;>try (cases h;done)
                       obtain⟨⟨⟨h1,h2⟩,h3⟩,h4⟩:=h
                       rw[h1,h2,h3,h4]
 | .qT n x,b,h=>by cases b<;>simp only[qf,Bool.and_eq_true,Nat.beq_eq]at h<;>try cases h
                   rename_i h1 h2
                   rw[h1,mF _ _ h2]
 | .mN x,b,h=>by cases b<;>simp only[qf]at h<;>try cases h
                 rw[mF _ _ h]
 | .mB,b,h=>by cases b<;>simp only[qf]at h<;>first|rfl|cases h
 | .sK,b,h=>by cases b<;>simp only[qf]at h<;>first|rfl|cases h
 | .any,b,h=>by cases b<;>simp only[qf]at h<;>first|rfl|cases h
 | .sym k s lo hi o,b,h=>by cases b<;>simp only[qf,Bool.and_eq_true]at h<;>try (cases h;done)
                            obtain⟨h1,h2,h3,h4,h5⟩:=h
                            rw[jK.1 h1,NO h2,wo h3,wo h4,wo h5]
 | .fn f x,b,h=>by cases b<;>simp only[qf,Bool.and_eq_true,Nat.beq_eq]at h<;>try cases h
                   rename_i h1 h2
                   rw[h1,mF _ _ h2]
theorem mF: ∀ (a b:List AV),nf a b=true->a=b
 | [],b,h=>by cases b with
  |nil=>rfl
  |cons _ _=>simp[nf]at h
 |a::l,b,h=>by
  cases b with
  |nil=>simp[nf]at h
  |cons c r=>
   simp only[nf,Bool.and_eq_true]at h
   rw[zf _ _ h.1,mF _ _ h.2]
end
end
def ck(s:jF)(f:jC)(k:qh):qh:=fun t h=>Ro.rec Rt.bad (fun v _=>Option.rec Rt.bad (fun u=>Bool.rec Rt.bad (k t h) (qf u v)) (s t)) (f t h)
def mn(f:jC):jC:=fun t h=>Ro.rec Ro.bad (fun v h'=>Bool.rec Ro.bad (Ro.ok v h') (Nat.ble h.next h'.next)) (f t h)
def agw:Cl->Cl->Bool
 | .p0,.p0| .p1,.p1| .al,.al| .ch,.ch=>true
 | _,_=>false
omit [Io] in
theorem OK{a b:Cl}(h:agw a b=true):a=b:=by cases a<;>cases b<;>first|rfl|cases h
def nO(i:Nat)(l:List Nat):Bool:=List.rec false (fun a _ ih=>Bool.rec ih true (Nat.beq a i)) l
omit [Io] in
theorem ov{i:Nat}: ∀ {l:List Nat},nO i l=true↔i∈l
 | []=>by simp[nO]
 |a::l=>by
  show(Bool.rec (nO i l) true (Nat.beq a i):Bool)=true↔_
  cases h:Nat.beq a i with
  |true=>
   have:=Nat.eq_of_beq_eq_true h
   subst this
   simp
  |false=>
   have: ¬ i=a:=fun e=>by subst e;simp at h
   simp only[List.mem_cons,this,false_or]
   exact ov
def HG(p:Nat->Bool)(l:List Nat):Bool:=List.rec false (fun a _ ih=>Bool.rec ih true (p a)) l
omit [Io] in
theorem wq{p:Nat->Bool}: ∀ {l:List Nat},HG p l=true↔ ∃ i∈l,p i=true
 | []=>by simp[HG]
 |a::l=>by
  show(Bool.rec (HG p l) true (p a):Bool)=true↔_
  cases h:p a with
  |true=>simp[h]
  |false=>simp only[List.mem_cons,exists_eq_or_imp,h,Bool.false_eq_true,false_or];exact wq
def allI(p:Nat->Oper->Bool)(l:List Oper):Nat->Bool:=
 List.rec (fun _=>true) (fun o _ ih i=>Bool.rec false (ih (Nat.add i 1)) (p i o)) l
omit [Io] in
theorem Cj{p:Nat->Oper->Bool}: ∀ {l:List Oper} {k:Nat},allI p l k=true-> ∀ i o,l[i]? =some o->p (k+i) o=true
 | [],k,_,i,o,h=>by simp at h
 |a::l,k,hh,i,o,h=>by
  change (Bool.rec false (allI p l (k+1)) (p k a):Bool)=true at hh
  cases hp:p k a with
  |false=>rw[hp]at hh;cases hh
  |true=>
   rw[hp]at hh
   cases i with
   |zero=>simp at h;subst h;exact hp
   |succ i=>
    have:=Cj hh i o (by simpa using h)
    rwa [show k+1+i=k+(i+1) by omega]at this
omit [Io] in
theorem oy{p:Nat->Oper->Bool}{l:List Oper}(h:allI p l 0=true)(i:Nat)(o:Oper)(ho:l[i]? =some o):p i o=true:=by
 have:=Cj h i o ho
 simpa using this
def Ju(l:List Oper):Bool:=allI (fun i o=>iD (fun e=>Bool.rec true (Nat.blt e.on i) (Region.binds .any e)) o.after.toList) l 0
omit [Io] in
theorem Vb{ops:Array Oper}(h:Ju ops.toList=true):Down ops:=by
 intro i o e ho he hb
 have:=oy h i o (by simpa using ho)
 rw[kT,List.all_eq_true]at this
 have:=this e (by simpa using he)
 rw[hb]at this
 exact ic.1 this
def Ck(o:Oper)(d:Nat):Bool:=match o.dst with
 |some e=>Nat.beq e d
 |none=>false
omit [Io] in
theorem xB{o:Oper}{d:Nat}(h:o.dst=some d):Ck o d=true:=by unfold Ck;rw[h];simp
def Vc(l:List Oper):Bool:=allI (fun i o=>match o.dst with
 |some d=>allI (fun j o'=>Bool.rec true (Nat.beq i j) (Ck o' d)) l 0
 |none=>true) l 0
section
variable (P:Program)(call:iP)(nt:Nat)(L:List Oper)
def wu(k:Cl)(i:Nat):Bool:=match oH L i with
 |some o=>agw (rY P call o.op).1 k
 |none=>false
def G2(iy:List Nat)(i:Nat):Bool:=match oH L i with
 |some o=>iD (fun u=>Nat.blt u nt&&Bool.rec (allI (fun j o'=>Bool.rec true (!nO j iy&&(Hx L j i&& !Hx L i j)) (Ck o' u)) L 0) true (allI (fun j o'=>Bool.rec true (nO j iy&&Hx L i j) (Ck o' u)) L 0)) (ur L o)
 |none=>false
def Ve(i:Nat)(k:qh):qh:=match oH L i with
 |some o=>match o.dst with
  |some d=>lA (Nat.blt d nt) (st (sT d) (oE P call nt L o) k) (fun _ _=>.bad)
  |none=>sn (oE P call nt L o) k
 |none=>fun _ _=>.bad
def OL(i:Nat)(k:qh):qh:=match oH L i with
 |some o=>match o.dst with
  |some d=>lA (Nat.blt d nt) (ck (oT d) (oE P call nt L o) k) (fun _ _=>.bad)
  |none=>sn (oE P call nt L o) k
 |none=>fun _ _=>.bad
def runM(i:Nat)(k:qh):qh:=match oH L i with
 |some o=>match o.dst with
  |some d=>lA (Nat.blt d nt) (st (sT d) (mn (oE P call nt L o)) k) (fun _ _=>.bad)
  |none=>sn (mn (oE P call nt L o)) k
 |none=>fun _ _=>.bad
def qG:List Nat->List Nat->(List Nat->qh)->qh
 | [],iy,k=>k iy
 |i::l,iy,k=>lA (G2 nt L iy i) (lA (nO i iy) (lA (wu P call L .p1 i) (OL P call nt L i (qG l iy k)) (fun _ _=>.bad))
  (lA (wu P call L .p0 i||wu P call L .p1 i) (Ve P call nt L i (qG l (i::iy) k)) (fun _ _=>.bad))) (fun _ _=>.bad)
def HH:List Nat->List Nat->(List Nat->qh)->qh
 | [],iy,k=>k iy
 |i::l,iy,k=>lA (G2 nt L iy i&&(!nO i iy&&(wu P call L .p0 i||wu P call L .al i))) (Ve P call nt L i (HH l (i::iy) k)) (fun _ _=>.bad)
def rh:pd->List Nat->qh
 | .last pre kV,iy=>qG P call nt L pre iy fun iy=>HH P call nt L kV iy fun iy=>lA (allI (fun i _=>nO i iy) L 0) fi (fun _ _=>.bad)
 | .cons pre kV q rest,iy=>qG P call nt L pre iy fun iy=>HH P call nt L kV iy fun iy=>
   lA (G2 nt L iy q&&(!nO q iy&&wu P call L .ch q)) (runM P call nt L q (rh rest (q::iy))) (fun _ _=>.bad)
def Cm:pd->List Nat->Bool
 | .last pre _,mS=>allI (fun i _=>Bool.rec true (HG (fun j=>Hx L j i) mS||nO i pre) (wu P call L .p1 i)) L 0
 | .cons pre kV q rest,mS=>allI (fun i _=>Bool.rec true (HG (fun j=>Hx L j i) mS||(HG (fun j=>Hx L i j) (q::rest.Bo)||nO i pre)) (wu P call L .p1 i)) L 0&&
   (iD (fun i=>Bool.rec true (Hx L q i) (wu P call L .al i)) kV&&(iD (fun q'=>Hx L q' q) rest.Bo&&Cm rest (q::mS)))
end
end Go.Ab

noncomputable section
namespace Go.Ab
variable [Io]
section
variable {P:Program}{call:iP}
def Lj(f:jC):Prop:= ∀ t h v h',f t h=.ok v h'->h'=h
omit [Io] in
theorem zg{b:Bool}{x:Ro}{v:AV}{h:Hp}(e:(bif b then x else .bad)=.ok v h):x=.ok v h:=by cases b;cases e;exact e
omit [Io] in
theorem nP:Lj iw:=by intro t h v h' e;cases e
omit [Io] in
theorem OM{c:Bool}{f:jC}(i:Lj f):Lj (lA c f iw):=by cases c;exact nP;exact i
omit [Io] in
theorem Vf{n:Nat}{b:Bool}{x:jF}:Lj (og n b x):=by
 intro t h v h' e
 unfold og at e
 split at e
 ·split at e
  ·cases e;rfl
  ·cases e
 ·cases e
omit [Io] in
theorem Lk{x:jF}{lo hi:Option jF}:Lj (nT x lo hi):=by
 intro t h v h' e
 unfold nT at e
 split at e
 ·split at e
  ·cases e;rfl
  ·cases e
 ·cases e
omit [Io] in
theorem ON{n:Nat}{x:jF}{lo hi:Option jF}:Lj (qE n x lo hi):=by
 intro t h v h' e
 unfold qE at e
 split at e
 ·split at e
  ·cases e;rfl
  ·cases e
 ·split at e
  ·have e:=zg e
   cases e;rfl
  ·cases e
 ·split at e
  ·cases e;rfl
  ·cases e
 ·cases e
omit [Io] in
theorem Ll{n:Nat}{x:jF}{lo hi:Option jF}:Lj (j9 n x lo hi):=by
 intro t h v h' e
 unfold j9 at e
 split at e
 ·rename_i a hx
  cases hE:vh a with
  |false=>rw[hE]at e;exact ON _ _ _ _ e
  |true=>
   rw[hE]at e
   simp only[cond_true]at e
   split at e
   ·cases e;rfl
   ·cases e
 ·cases e
omit [Io] in
theorem Lm{n m:Nat}{x:jF}{lo hi:Option jF}:Lj (lQ n m x lo hi):=by
 intro t h v h' e
 unfold lQ at e
 split at e
 ·split at e
  ·split at e
   ·have e:=zg e
    cases e;rfl
   ·cases e
  ·cases e
 ·cases e
omit [Io] in
theorem aaQ{x y z:jF}:Lj (zP x y z):=by
 intro t h v h' e
 unfold zP at e
 split at e
 ·split at e
  ·have e:=zg e
   split at e
   ·cases e;rfl
   ·cases e;rfl
   ·cases e;rfl
   ·cases e
  ·cases e
 ·cases e
omit [Io] in
theorem aaR{x:jF}:Lj (yz x):=by
 intro t h v h' e
 unfold yz at e
 split at e
 ·split at e
  ·split at e
   ·have e:=zg e
    cases e;rfl
   ·cases e
  ·cases e
 ·cases e
omit [Io] in
theorem aaS{o:Op}(hc:(rY P call o).1=.p1):Lj (rY P call o).2:=by
 cases o<;>simp only[rY]at hc ⊢
 case load T x=>
  unfold Fa
  split
  ·split
   ·exact Vf
   ·exact nP
  ·exact nP
 case slice T x lo hi mx=>
  cases mx with
  |some m=>
   simp only
   unfold wc
   split
   ·split
    ·split
     ·exact aaQ
     ·exact nP
    ·exact nP
   ·exact nP
  |none=>
   simp only
   unfold z9
   split
   ·exact Lk
   ·split
    ·exact Ll
    ·exact nP
   ·split
    ·exact OM Lm
    ·exact nP
   ·exact nP
 case binOp op T x y yT=>cases h:E9 P op T<;>rw[h]at hc<;>cases hc
 case unOp op T x=>cases h:cUn op<;>rw[h]at hc<;>cases hc
 case convert S D x=>
  cases h:P.underlying D with
  |none=>rw[h]at hc;cases hc
  |some d=>
   cases d<;>rw[h]at hc<;>first|(cases hc;done)|skip
   simp only
   unfold Ob
   split
   ·split
    ·exact aaR
    ·exact nP
   ·exact nP
 case makeFunc f first caps=>
  cases f<;>try (cases hc;done)
  simp only at hc
  cases h:first.toList<;>rw[h]at hc<;>cases hc
 case makeMap T r=>cases r<;>cases hc
 case call c=>cases h:mD P c<;>rw[h]at hc<;>cases hc
 all_goals (cases hc)
omit [Io] in
theorem OO{nt:Nat}{all:List Oper}{o:Oper}(kj:(rY P call o.op).1=.p1):Lj (oE P call nt all o):=by
 have hf:Lj (rY P call o.op).2:=aaS kj
 unfold oE
 cases o.guard with
 |none=>exact hf
 |some p=>
  obtain⟨j,want⟩:=p
  simp only
  split
  ·split
   ·refine OM ?_
    intro t h v h' e
    unfold gF at e
    split at e
    ·rename_i b _
     cases hw:lA want b (!b)with
     |false=>rw[hw]at e;cases e;rfl
     |true=>rw[hw]at e;exact hf t h v h' e
    ·cases e;rfl
    ·cases e
   ·exact nP
  ·exact nP
end
omit [Io] in
theorem ri{b x:Bool}(h:(Bool.rec true x b:Bool)=true)(hb:b=true):x=true:=by subst hb;exact h
namespace Cx
variable {c:Cx}
omit [Io] in
theorem nV{k:Cl}{i:Nat}:wu c.P c.call c.ops.toList k i=true↔c.iZ i k:=by
 unfold wu iZ
 rw[kG]
 constructor
 ·intro h
  split at h
  ·rename_i o ho
   exact⟨o,by simpa using ho,OK h⟩
  ·cases h
 ·rintro⟨o,ho,hk⟩
  have:c.ops.toList[i]? =some o:=by simpa using ho
  rw[this,<-hk]
  simp only
  cases(rY c.P c.call o.op).1<;>rfl
omit [Io] in
theorem Al{iy:List Nat}{i:Nat}(h:G2 c.nt c.ops.toList iy i=true): ∀ u∈c.TB i,u<c.nt/\((∀ j,c.pF j u->j∈iy/\c.An i j)∨ ∀ j,c.pF j u->j∉iy/\c.An j i/\ ¬ c.An i j):=by
 unfold G2 at h
 rw[kG]at h
 unfold TB
 intro u hu
 cases ho:c.ops[i]? with
 |none=>rw[ho]at hu;cases hu
 |some o=>
  rw[ho]at hu
  have:c.ops.toList[i]? =some o:=by simpa using ho
  rw[this]at h
  simp only[kT,List.all_eq_true]at h
  have:=h u hu
  rw[Bool.and_eq_true]at this
  refine⟨ic.1 this.1,?_⟩
  cases h1:allI (fun j o'=>Bool.rec true (nO j iy&&Hx c.ops.toList i j) (Ck o' u)) c.ops.toList 0 with
  |true=>
   refine .inl ?_
   rintro j ⟨oj,hoj,hd⟩
   have h2:=ri (oy h1 j oj (by simpa using hoj)) (xB hd)
   rw[Bool.and_eq_true,ov]at h2
   exact h2
  |false=>
   rw[h1]at this
   refine .inr ?_
   rintro j ⟨oj,hoj,hd⟩
   have h2:=ri (oy this.2 j oj (by simpa using hoj)) (xB hd)
   simp only[Bool.and_eq_true,Bool.not_eq_true']at h2
   refine⟨fun k=>?_,h2.2.1,fun k=>?_⟩
   ·rw[ov.2 k]at h2;cases h2.1
   ·unfold An at k;rw[k]at h2;cases h2.2.2
def Cov(c:Cx)(iy:List Nat)(u:Nat):Prop:= ∀ j,c.pF j u->j∈iy
def Y8(c:Cx)(iy:List Nat)(t:Tm):Prop:= ∀ u,u<512->(∀ j,c.pF j u->j∉iy)->t.at u=c.t0.at u
def Fr(c:Cx)(iy:List Nat)(t:Tm):Prop:= ∀ u,u<512->c.Cov iy u->c.te.at u=t.at u
omit [Io] in
theorem wv{i:Nat}{k:qh}{t:Tm}{h:Hp}{te:Tm}{hE:Hp}(e:Ve c.P c.call c.nt c.ops.toList i k t h=.ok te hE):
 ∃ o v h1 t1,c.ops[i]? =some o/\oE c.P c.call c.nt c.ops.toList o t h=.ok v h1/\k t1 h1=.ok te hE/\((∃ d,o.dst=some d/\d<c.nt/\t1=sT d v t)∨(o.dst=none/\t1=t)):=by
 unfold Ve at e
 rw[kG]at e
 cases ho:c.ops.toList[i]? with
 |none=>rw[ho]at e;cases e
 |some o=>
  rw[ho]at e
  simp only at e
  have pG:c.ops[i]? =some o:=by simpa using ho
  cases hd:o.dst with
  |none=>
   rw[hd]at e
   change sn (oE c.P c.call c.nt c.ops.toList o) k t h=_ at e
   unfold sn at e
   cases hg:oE c.P c.call c.nt c.ops.toList o t h with
   |bad=>rw[hg]at e;cases e
   |ok v h1=>rw[hg]at e;exact⟨o,v,h1,t,pG,hg,e,.inr ⟨hd,rfl⟩⟩
  |some d=>
   rw[hd]at e
   simp only at e
   cases hb:Nat.blt d c.nt with
   |false=>rw[hb]at e;cases e
   |true=>
    rw[hb]at e
    change st (sT d) (oE c.P c.call c.nt c.ops.toList o) k t h=_ at e
    unfold st at e
    cases hg:oE c.P c.call c.nt c.ops.toList o t h with
    |bad=>rw[hg]at e;cases e
    |ok v h1=>rw[hg]at e;exact⟨o,v,h1,_,pG,hg,e,.inl ⟨d,hd,ic.1 hb,rfl⟩⟩
omit [Io] in
theorem Jv{f:jC}{t:Tm}{h h':Hp}{v:AV}(e:mn f t h=.ok v h'):f t h=.ok v h'/\h.next<=h'.next:=by
 unfold mn at e
 cases hf:f t h with
 |bad=>rw[hf]at e;cases e
 |ok v1 h1=>
  rw[hf]at e
  change (Bool.rec Ro.bad (Ro.ok v1 h1) (Nat.ble h.next h1.next):Ro)=_ at e
  cases hb:Nat.ble h.next h1.next with
  |false=>rw[hb]at e;cases e
  |true=>rw[hb]at e;cases e;exact⟨rfl,Nat.ble_eq.mp hb⟩
omit [Io] in
theorem Fs{i:Nat}{k:qh}{t:Tm}{h:Hp}{te:Tm}{hE:Hp}(e:runM c.P c.call c.nt c.ops.toList i k t h=.ok te hE):
 ∃ o v h1 t1,c.ops[i]? =some o/\oE c.P c.call c.nt c.ops.toList o t h=.ok v h1/\h.next<=h1.next/\k t1 h1=.ok te hE/\((∃ d,o.dst=some d/\d<c.nt/\t1=sT d v t)∨(o.dst=none/\t1=t)):=by
 unfold runM at e
 rw[kG]at e
 cases ho:c.ops.toList[i]? with
 |none=>rw[ho]at e;cases e
 |some o=>
  rw[ho]at e
  simp only at e
  have pG:c.ops[i]? =some o:=by simpa using ho
  cases hd:o.dst with
  |none=>
   rw[hd]at e
   change sn (mn (oE c.P c.call c.nt c.ops.toList o)) k t h=_ at e
   unfold sn at e
   cases hg:mn (oE c.P c.call c.nt c.ops.toList o) t h with
   |bad=>rw[hg]at e;cases e
   |ok v h1=>rw[hg]at e;exact⟨o,v,h1,t,pG,(Jv hg).1,(Jv hg).2,e,.inr ⟨hd,rfl⟩⟩
  |some d=>
   rw[hd]at e
   simp only at e
   cases hb:Nat.blt d c.nt with
   |false=>rw[hb]at e;cases e
   |true=>
    rw[hb]at e
    change st (sT d) (mn (oE c.P c.call c.nt c.ops.toList o)) k t h=_ at e
    unfold st at e
    cases hg:mn (oE c.P c.call c.nt c.ops.toList o) t h with
    |bad=>rw[hg]at e;cases e
    |ok v h1=>rw[hg]at e;exact⟨o,v,h1,_,pG,(Jv hg).1,(Jv hg).2,e,.inl ⟨d,hd,ic.1 hb,rfl⟩⟩
omit [Io] in
theorem Ft{i:Nat}{k:qh}{t:Tm}{h:Hp}{te:Tm}{hE:Hp}(hc:c.iZ i .p1)(e:OL c.P c.call c.nt c.ops.toList i k t h=.ok te hE):
 ∃ o v,c.ops[i]? =some o/\oE c.P c.call c.nt c.ops.toList o t h=.ok v h/\k t h=.ok te hE/\ ∀ d,o.dst=some d->d<c.nt/\t.at d=some v:=by
 unfold OL at e
 rw[kG]at e
 cases ho:c.ops.toList[i]? with
 |none=>rw[ho]at e;cases e
 |some o=>
  rw[ho]at e
  simp only at e
  have pG:c.ops[i]? =some o:=by simpa using ho
  have hlv: ∀ v h1,oE c.P c.call c.nt c.ops.toList o t h=.ok v h1->h1=h:=by
   intro v h1 hg
   obtain⟨o',qn,Uz⟩:=hc
   rw[pG]at qn
   cases qn
   exact OO Uz _ _ _ _ hg
  cases hd:o.dst with
  |none=>
   rw[hd]at e
   change sn (oE c.P c.call c.nt c.ops.toList o) k t h=_ at e
   unfold sn at e
   cases hg:oE c.P c.call c.nt c.ops.toList o t h with
   |bad=>rw[hg]at e;cases e
   |ok v h1=>
    rw[hg]at e
    obtain rfl:=hlv v h1 hg
    exact⟨o,v,pG,hg,e,fun d h=>by rw[hd]at h;cases h⟩
  |some d=>
   rw[hd]at e
   simp only at e
   cases hb:Nat.blt d c.nt with
   |false=>rw[hb]at e;cases e
   |true=>
    rw[hb]at e
    change ck (oT d) (oE c.P c.call c.nt c.ops.toList o) k t h=_ at e
    unfold ck at e
    cases hg:oE c.P c.call c.nt c.ops.toList o t h with
    |bad=>rw[hg]at e;cases e
    |ok v h1=>
     rw[hg]at e
     obtain rfl:=hlv v h1 hg
     change (Option.rec Rt.bad (fun u=>Bool.rec Rt.bad (k t h1) (qf u v)) (t.at d):Rt)=_ at e
     cases ht:t.at d with
     |none=>rw[ht]at e;cases e
     |some u=>
      rw[ht]at e
      change (Bool.rec Rt.bad (k t h1) (qf u v):Rt)=_ at e
      cases hq:qf u v with
      |false=>rw[hq]at e;cases e
      |true=>
       rw[hq]at e
       obtain rfl:=zf _ _ hq
       exact⟨o,u,pG,hg,e,fun d' h=>by rw[hd]at h;cases h;exact⟨ic.1 hb,ht⟩⟩
omit [Io] in
theorem wy{iy:List Nat}{i:Nat}{o:Oper}{t t1:Tm}{v:AV}(mL:c.nt<=512)(ho:c.ops[i]? =some o)(hi:i∉iy)
 (ht:(∃ d,o.dst=some d/\d<c.nt/\t1=sT d v t)∨(o.dst=none/\t1=t))(F:c.Fr (i::iy) t1):c.Fr iy t:=by
 intro u hu hc
 rw[F u hu (fun j hj=>List.mem_cons_of_mem _ (hc j hj))]
 rcases ht with⟨d,hd,MV,rfl⟩|⟨_,rfl⟩
 ·show(Tm.put t d (some v)).at u=t.at u
  rw[Tm.mq _ _ _ _ (Nat.lt_of_lt_of_le MV mL) hu,if_neg]
  intro e
  subst e
  exact hi (hc i ⟨o,ho,hd⟩)
 ·rfl
omit [Io] in
theorem rk{i:Nat}{l:List Nat}(h:nO i l=false):i∉l:=fun k=>by rw[ov.2 k]at h;cases h
omit [Io] in
theorem uu(mL:c.nt<=512){k:List Nat->qh}(hk: ∀ iy t h,k iy t h=.ok c.te c.hE->c.Fr iy t): ∀ (pre iy:List Nat) (t:Tm) (h:Hp),
 qG c.P c.call c.nt c.ops.toList pre iy k t h=.ok c.te c.hE->c.Fr iy t
 | [],iy,t,h,e=>hk iy t h e
 |i::l,iy,t,h,e=>by
  unfold qG at e
  cases h1:G2 c.nt c.ops.toList iy i with
  |false=>rw[h1]at e;cases e
  |true=>
  rw[h1]at e
  simp only[lA]at e
  cases h2:nO i iy with
  |true=>
   rw[h2]at e
   cases h3:wu c.P c.call c.ops.toList .p1 i with
   |false=>rw[h3]at e;cases e
   |true=>
    rw[h3]at e
    obtain⟨o,v,_,_,e,_⟩:=Ft (nV.1 h3) e
    exact uu mL hk l iy t h e
  |false=>
   rw[h2]at e
   cases h3:(wu c.P c.call c.ops.toList .p0 i||wu c.P c.call c.ops.toList .p1 i)with
   |false=>rw[h3]at e;cases e
   |true=>
    rw[h3]at e
    obtain⟨o,v,qn,t1,ho,_,e,ht⟩:=wv e
    exact wy mL ho (rk h2) ht (uu mL hk l (i::iy) t1 qn e)
omit [Io] in
theorem r8(mL:c.nt<=512){k:List Nat->qh}(hk: ∀ iy t h,k iy t h=.ok c.te c.hE->c.Fr iy t): ∀ (kV iy:List Nat) (t:Tm) (h:Hp),
 HH c.P c.call c.nt c.ops.toList kV iy k t h=.ok c.te c.hE->c.Fr iy t
 | [],iy,t,h,e=>hk iy t h e
 |i::l,iy,t,h,e=>by
  unfold HH at e
  cases h1:(G2 c.nt c.ops.toList iy i&&(!nO i iy&&(wu c.P c.call c.ops.toList .p0 i||wu c.P c.call c.ops.toList .al i)))with
  |false=>rw[h1]at e;cases e
  |true=>
   rw[h1]at e
   simp only[lA]at e
   simp only[Bool.and_eq_true,Bool.not_eq_true']at h1
   obtain⟨o,v,qn,t1,ho,_,e,ht⟩:=wv e
   exact wy mL ho (rk h1.2.1) ht (r8 mL hk l (i::iy) t1 qn e)
omit [Io] in
theorem wz(mL:c.nt<=512): ∀ (pl:pd) (iy:List Nat) (t:Tm) (h:Hp),rh c.P c.call c.nt c.ops.toList pl iy t h=.ok c.te c.hE->c.Fr iy t
 | .last pre kV,iy,t,h,e=>by
  unfold rh at e
  refine uu mL (fun iy t h e=>?_) pre iy t h e
  refine r8 mL (fun iy t h e=>?_) kV iy t h e
  cases hb:allI (fun i _=>nO i iy) c.ops.toList 0 with
  |false=>rw[hb]at e;cases e
  |true=>
   rw[hb]at e
   obtain⟨rfl,_⟩:=Rt.ok.inj e
   exact fun u _ _=>rfl
 | .cons pre kV q rest,iy,t,h,e=>by
  unfold rh at e
  refine uu mL (fun iy t h e=>?_) pre iy t h e
  refine r8 mL (fun iy t h e=>?_) kV iy t h e
  cases h1:(G2 c.nt c.ops.toList iy q&&(!nO q iy&&wu c.P c.call c.ops.toList .ch q))with
  |false=>rw[h1]at e;cases e
  |true=>
   rw[h1]at e
   simp only[lA]at e
   simp only[Bool.and_eq_true,Bool.not_eq_true']at h1
   obtain⟨o,v,qn,t1,ho,_,_,e,ht⟩:=Fs e
   exact wy mL ho (rk h1.2.1) ht (wz mL rest (q::iy) t1 qn e)
omit [Io] in
theorem Am{iy:List Nat}{i:Nat}{o:Oper}{t t1:Tm}{v:AV}(mL:c.nt<=512)(ho:c.ops[i]? =some o)
 (ht:(∃ d,o.dst=some d/\d<c.nt/\t1=sT d v t)∨(o.dst=none/\t1=t))(F:c.Y8 iy t):c.Y8 (i::iy) t1:=by
 intro u hu hc
 rw[<-F u hu (fun j hj k=>hc j hj (List.mem_cons_of_mem _ k))]
 rcases ht with⟨d,hd,MV,rfl⟩|⟨_,rfl⟩
 ·show(Tm.put t d (some v)).at u=t.at u
  rw[Tm.mq _ _ _ _ (Nat.lt_of_lt_of_le MV mL) hu,if_neg]
  intro e
  subst e
  exact hc i ⟨o,ho,hd⟩ List.mem_cons_self
 ·rfl
omit [Io] in
theorem agx{i u:Nat}(kC: ∀ u∈c.TB i,u<512)(hu:u∈c.TB i):((∃ j,c.pF j u/\c.An i j)/\(c.rf i).at u=c.te.at u)∨((¬ ∃ j,c.pF j u/\c.An i j)/\(c.rf i).at u=c.t0.at u):=by
 have key: ∀ (l:List Nat),(∀ u∈l,u<512)->u∈l->((∃ j,c.pF j u/\c.An i j)/\(c.MW i l).at u=c.te.at u)∨((¬ ∃ j,c.pF j u/\c.An i j)/\(c.MW i l).at u=c.t0.at u):=by
  intro l
  induction l with
  |nil=>intro _ h;cases h
  |cons x l ih=>
   intro hl hm
   rw[MW,Tm.mq _ _ _ _ (hl x List.mem_cons_self) (hl u hm)]
   by_cases hx:u=x
   ·subst hx
    rw[if_pos rfl]
    by_cases hw: ∃ j,c.pF j u/\c.An i j
    ·rw[if_pos hw];exact .inl ⟨hw,rfl⟩
    ·rw[if_neg hw];exact .inr ⟨hw,rfl⟩
   ·rw[if_neg hx]
    exact ih (fun y hy=>hl y (List.mem_cons_of_mem _ hy)) ((List.mem_cons.1 hm).resolve_left hx)
 exact key _ kC hu
omit [Io] in
theorem Fu{iy:List Nat}{i:Nat}{o:Oper}{t:Tm}{h h1:Hp}{v:AV}(mL:c.nt<=512)(kW: ∀ u,u<512->(∀ j,¬ c.pF j u)->c.te.at u=c.t0.at u)(F:c.Fr iy t)(hO:c.Y8 iy t)(ho:c.ops[i]? =some o)(hr:G2 c.nt c.ops.toList iy i=true)
 (e:oE c.P c.call c.nt c.ops.toList o t h=.ok v h1):c.FE i (c.rf i) h=.ok v h1:=by
 rw[yj ho,<-e]
 refine U2 fun u hu=>?_
 rw[<-aaM ho]at hu
 have kC: ∀ u∈c.TB i,u<512:=fun u hu=>Nat.lt_of_lt_of_le (Al hr u hu).1 mL
 obtain⟨_,TA⟩:=Al hr u hu
 rcases agx kC hu with⟨⟨j,hj,hA⟩,er⟩|⟨hno,er⟩
 ·rw[er]
  rcases TA with h1|h1
  ·exact F u (kC u hu) (fun j hj=>(h1 j hj).1)
  ·exact absurd hA (h1 j hj).2.2
 ·rw[er]
  rcases TA with h1|h1
  ·have hn: ∀ j,¬ c.pF j u:=fun j hj=>hno ⟨j,hj,(h1 j hj).2⟩
   rw[<-kW u (kC u hu) hn]
   exact F u (kC u hu) (fun j hj=>absurd hj (hn j))
  ·exact(hO u (kC u hu) (fun j hj=>(h1 j hj).1)).symm
omit [Io] in
theorem xC{iy:List Nat}{i:Nat}{o:Oper}{t t1:Tm}{v:AV}(mL:c.nt<=512)(EB: ∀ i j d,c.pF i d->c.pF j d->i=j)(ho:c.ops[i]? =some o)
 (ht:(∃ d,o.dst=some d/\d<c.nt/\t1=sT d v t)∨(o.dst=none/\t1=t))(F:c.Fr (i::iy) t1):c.Slot i v:=by
 intro d hd
 obtain⟨o',pG,Lh⟩:=id hd
 rw[ho]at pG
 cases pG
 rcases ht with⟨d2,Jc,MV,rfl⟩|⟨hn,_⟩
 ·rw[Lh]at Jc
  cases Jc
  refine⟨MV,?_⟩
  rw[F d (Nat.lt_of_lt_of_le MV mL) (fun j hj=>by rw[EB j i d hj hd];exact List.mem_cons_self)]
  show(Tm.put t d (some v)).at d=_
  rw[Tm.mq _ _ _ _ (Nat.lt_of_lt_of_le MV mL) (Nat.lt_of_lt_of_le MV mL),if_pos rfl]
 ·rw[Lh]at hn;cases hn
end Cx
end Go.Ab

noncomputable section
namespace Go.Ab
variable [Io]
namespace Cx
def wi(c:Cx)(nx bd:Nat->Nat):Cx:={c with nx:=nx,bd:=bd}
def GI(c:Cx)(i:Nat):Prop:=
 (c.iZ i .p0-> ∃ v,(∀ h,c.FE i (c.rf i) h=.ok v h)/\c.Slot i v/\c.r6 i (c.bd i))/\
 (c.iZ i .al-> ∃ v,c.Slot i v/\c.r6 i (c.nx i)/\((c.FE i (c.rf i) (kb (c.nx i))=.ok v (kb (c.nx i))/\c.bd i=c.nx i)∨
  ∃ cs,c.FE i (c.rf i) (kb (c.nx i))=.ok v (iV (kb (c.nx i)) cs)/\c.bd i=c.nx i+1))
def GX(f:Nat->Nat)(i n:Nat):Nat->Nat:=fun j=>if j=i then n else f j
omit [Io] in
theorem pW{f:Nat->Nat}{i n:Nat}:GX f i n i=n:=if_pos rfl
omit [Io] in
theorem r9{f:Nat->Nat}{i n j:Nat}(h:j≠i):GX f i n j=f j:=if_neg h
variable {c:Cx}
omit [Io] in
theorem OP{nx bd:Nat->Nat}{i:Nat}: ∀ (l:List Nat),(c.wi nx bd).MW i l=c.MW i l
 | []=>rfl
 |u::l=>by
  rw[MW,MW,OP l]
  rfl
omit [Io] in
theorem Fv{nx bd:Nat->Nat}{i:Nat}:(c.wi nx bd).rf i=c.rf i:=OP _
omit [Io] in
theorem Jw{iy:List Nat}{i N:Nat}(hr:G2 c.nt c.ops.toList iy i=true)(hb: ∀ j∈iy,c.bd j<=N):c.r6 i N:=by
 intro u hu
 obtain⟨h1,h2⟩:=Al hr u hu
 exact⟨h1,h2.imp (fun h j hj=>⟨(h j hj).2,hb j (h j hj).1⟩) (fun h j hj=>(h j hj).2.1)⟩
omit [Io] in
theorem zh(mL:c.nt<=512)(kW: ∀ u,u<512->(∀ j,¬ c.pF j u)->c.te.at u=c.t0.at u)(EB: ∀ i j d,c.pF i d->c.pF j d->i=j){k:List Nat->qh}(hk: ∀ iy t h,k iy t h=.ok c.te c.hE->c.Fr iy t)
 {Φ:(Nat->Nat)->(Nat->Nat)->List Nat->Prop}{h:Hp}
 (ih: ∀ (iy:List Nat) (t:Tm) (uM sU:Nat->Nat),k iy t h=.ok c.te c.hE->c.Y8 iy t->(∀ j∈iy,sU j<=h.next)-> ∃ nx bd,(∀ j∈iy,nx j=uM j/\bd j=sU j)/\Φ nx bd iy):
 ∀ (pre iy:List Nat) (t:Tm) (uM sU:Nat->Nat),qG c.P c.call c.nt c.ops.toList pre iy k t h=.ok c.te c.hE->c.Y8 iy t->(∀ j∈iy,sU j<=h.next)->
  ∃ nx bd,(∀ j∈iy,nx j=uM j/\bd j=sU j)/\(c.wi nx bd).P1s pre h/\ ∃ s5,Φ nx bd s5/\ ∀ i∈s5,i∈iy∨((c.wi nx bd).GI i/\(c.iZ i .p0∨c.iZ i .p1))
 | [],iy,t,uM,sU,e,hO,hb=>by
  obtain⟨nx,bd,h1,h2⟩:=ih iy t uM sU e hO hb
  exact⟨nx,bd,h1,(fun i hi=>by cases hi),iy,h2,fun i hi=>.inl hi⟩
 |i::l,iy,t,uM,sU,e,hO,hb=>by
  have F:=uu mL hk (i::l) iy t h e
  unfold qG at e
  cases h1:G2 c.nt c.ops.toList iy i with
  |false=>rw[h1]at e;cases e
  |true=>
  rw[h1]at e
  simp only[lA]at e
  cases h2:nO i iy with
  |true=>
   rw[h2]at e
   cases h3:wu c.P c.call c.ops.toList .p1 i with
   |false=>rw[h3]at e;cases e
   |true=>
    rw[h3]at e
    obtain⟨o,v,ho,hg,e,hs⟩:=Ft (nV.1 h3) e
    obtain⟨nx,bd,a1,a2,s5,a3,a4⟩:=zh mL kW EB hk ih l iy t uM sU e hO hb
    refine⟨nx,bd,a1,fun j hj hc=>?_,s5,a3,a4⟩
    rcases List.mem_cons.1 hj with rfl|hj
    ·refine⟨v,Fu mL kW F hO ho h1 hg,?_,Jw (c:=c.wi nx bd) h1 (fun j hj=>by show bd j<=_;rw[(a1 j hj).2];exact hb j hj)⟩
     intro d hd
     obtain⟨o',pG,Lh⟩:=id hd
     have OQ:c.ops[j]? =some o':=pG
     rw[ho]at OQ
     cases OQ
     obtain⟨s1,s2⟩:=hs d Lh
     refine⟨s1,?_⟩
     show c.te.at d=_
     rw[F d (Nat.lt_of_lt_of_le s1 mL) (fun x hx=>by rw[EB x j d hx hd];exact ov.1 h2)]
     exact s2
    ·exact a2 j hj hc
  |false=>
   rw[h2]at e
   have Y9:=rk h2
   cases h3:(wu c.P c.call c.ops.toList .p0 i||wu c.P c.call c.ops.toList .p1 i)with
   |false=>rw[h3]at e;cases e
   |true=>
    rw[h3]at e
    have kj:c.iZ i .p0∨c.iZ i .p1:=by
     rw[Bool.or_eq_true]at h3
     exact h3.imp nV.1 nV.1
    obtain⟨o,v,qn,t1,ho,hg,e2,ht⟩:=wv e
    clear e
    have hlv:qn=h:=by
     rcases kj with⟨o',pG,Fw⟩|⟨o',pG,Fw⟩
     ·rw[ho]at pG;cases pG
      exact((wh Fw).ok hg).1
     ·rw[ho]at pG;cases pG
      exact OO Fw _ _ _ _ hg
    subst hlv
    have nd: ∀ j∈iy,j≠i:=fun j hj e=>Y9 (e▸hj)
    obtain⟨nx,bd,a1,a2,s5,a3,a4⟩:=zh mL kW EB hk ih l (i::iy) t1 (GX uM i qn.next) (GX sU i qn.next) e2 (Am mL ho ht hO) (fun j hj=>by
     rcases List.mem_cons.1 hj with rfl|hj
     ·rw[pW];exact Nat.le_refl _
     ·rw[r9 (nd j hj)];exact hb j hj)
    have agree: ∀ j∈iy,nx j=uM j/\bd j=sU j:=fun j hj=>by
     have:=a1 j (List.mem_cons_of_mem _ hj)
     rwa [r9 (nd j hj),r9 (nd j hj)]at this
    have hbi:bd i=qn.next:=by
     have:=(a1 i List.mem_cons_self).2
     rwa [pW]at this
    have hrd:(c.wi nx bd).r6 i qn.next:=Jw (c:=c.wi nx bd) h1 (fun j hj=>by show bd j<=_;rw[(agree j hj).2];exact hb j hj)
    have jS:c.Slot i v:=xC mL EB ho ht (uu mL hk l (i::iy) t1 qn e2)
    refine⟨nx,bd,agree,fun j hj hc=>?_,s5,a3,fun j hj=>?_⟩
    ·rcases List.mem_cons.1 hj with rfl|hj
     ·exact⟨v,Fu mL kW F hO ho h1 hg,jS,hrd⟩
     ·exact a2 j hj hc
    ·rcases a4 j hj with h|h
     ·rcases List.mem_cons.1 h with rfl|h
      ·refine .inr ⟨⟨fun hc=>⟨v,?_,jS,?_⟩,fun hc=>?_⟩,kj⟩
       ·obtain⟨o',pG,Fw⟩:=hc
        have OQ:c.ops[j]? =some o':=pG
        rw[ho]at OQ
        cases OQ
        intro h0
        rw[Fv]
        show c.FE j (c.rf j) h0=_
        have:=Fu mL kW F hO ho h1 hg
        rw[yj ho]at this ⊢
        exact((wh Fw).ok this).2 h0
       ·show Cx.r6 _ j (bd j)
        rw[hbi];exact hrd
       ·rcases kj with h|h<;>cases c.nL h hc
      ·exact .inl h
     ·exact .inr h
omit [Io] in
theorem Dk(mL:c.nt<=512)(kW: ∀ u,u<512->(∀ j,¬ c.pF j u)->c.te.at u=c.t0.at u)(EB: ∀ i j d,c.pF i d->c.pF j d->i=j){k:List Nat->qh}(hk: ∀ iy t h,k iy t h=.ok c.te c.hE->c.Fr iy t)
 {Φ:(Nat->Nat)->(Nat->Nat)->List Nat->Hp->Prop}
 (ih: ∀ (iy:List Nat) (t:Tm) (h:Hp) (uM sU:Nat->Nat),k iy t h=.ok c.te c.hE->c.Y8 iy t->(∀ j∈iy,sU j<=h.next)-> ∃ nx bd,(∀ j∈iy,nx j=uM j/\bd j=sU j)/\Φ nx bd iy h):
 ∀ (kV iy:List Nat) (t:Tm) (h:Hp) (uM sU:Nat->Nat),HH c.P c.call c.nt c.ops.toList kV iy k t h=.ok c.te c.hE->c.Y8 iy t->(∀ j∈iy,sU j<=h.next)->
  ∃ nx bd,(∀ j∈iy,nx j=uM j/\bd j=sU j)/\ ∃ h1 s5,(c.wi nx bd).yE kV h h1/\Φ nx bd s5 h1/\ ∀ i∈s5,i∈iy∨((c.wi nx bd).GI i/\i∈kV/\(c.iZ i .p0∨c.iZ i .al))
 | [],iy,t,h,uM,sU,e,hO,hb=>by
  obtain⟨nx,bd,h1,h2⟩:=ih iy t h uM sU e hO hb
  exact⟨nx,bd,h1,h,iy,rfl,h2,fun i hi=>.inl hi⟩
 |i::l,iy,t,h,uM,sU,e,hO,hb=>by
  have F:=r8 mL hk (i::l) iy t h e
  unfold HH at e
  cases Jx:(G2 c.nt c.ops.toList iy i&&(!nO i iy&&(wu c.P c.call c.ops.toList .p0 i||wu c.P c.call c.ops.toList .al i)))with
  |false=>rw[Jx]at e;cases e
  |true=>
   rw[Jx]at e
   simp only[lA]at e
   simp only[Bool.and_eq_true,Bool.not_eq_true',Bool.or_eq_true]at Jx
   obtain⟨h1,h2,h3⟩:=Jx
   have Y9:=rk h2
   have kj:c.iZ i .p0∨c.iZ i .al:=h3.imp nV.1 nV.1
   obtain⟨o,v,h',t1,ho,hg,e2,ht⟩:=wv e
   clear e
   have nd: ∀ j∈iy,j≠i:=fun j hj e=>Y9 (e▸hj)
   have hle:h.next<=h'.next:=by
    rcases kj with⟨o',pG,Fw⟩|⟨o',pG,Fw⟩
    ·rw[ho]at pG;cases pG
     rw[((wh Fw).ok hg).1]
     exact Nat.le_refl _
    ·rw[ho]at pG;cases pG
     rcases Fp Fw _ _ _ _ hg (kb h.next) rfl with⟨rfl,_⟩|⟨cs,rfl,_⟩
     ·exact Nat.le_refl _
     ·exact Nat.le_succ _
   obtain⟨nx,bd,a1,qn,s5,a2,a3,a4⟩:=Dk mL kW EB hk ih l (i::iy) t1 h' (GX uM i h.next) (GX sU i h'.next) e2 (Am mL ho ht hO) (fun j hj=>by
    rcases List.mem_cons.1 hj with rfl|hj
    ·rw[pW];exact Nat.le_refl _
    ·rw[r9 (nd j hj)];exact Nat.le_trans (hb j hj) hle)
   have agree: ∀ j∈iy,nx j=uM j/\bd j=sU j:=fun j hj=>by
    have:=a1 j (List.mem_cons_of_mem _ hj)
    rwa [r9 (nd j hj),r9 (nd j hj)]at this
   have hbi:bd i=h'.next:=by
    have:=(a1 i List.mem_cons_self).2
    rwa [pW]at this
   have Ln:nx i=h.next:=by
    have:=(a1 i List.mem_cons_self).1
    rwa [pW]at this
   have hrd:(c.wi nx bd).r6 i h.next:=Jw (c:=c.wi nx bd) h1 (fun j hj=>by show bd j<=_;rw[(agree j hj).2];exact hb j hj)
   have jS:c.Slot i v:=xC mL EB ho ht (r8 mL hk l (i::iy) t1 h' e2)
   have hte:=Fu mL kW F hO ho h1 hg
   rcases kj with kj|kj
   ·have hh:h'=h:=by
     obtain⟨o',pG,Fw⟩:=kj
     rw[ho]at pG;cases pG
     exact((wh Fw).ok hg).1
    subst hh
    refine⟨nx,bd,agree,qn,s5,.inl ⟨kj,a2⟩,a3,fun j hj=>?_⟩
    rcases a4 j hj with h|⟨h,h5,h6⟩
    ·rcases List.mem_cons.1 h with rfl|h
     ·refine .inr ⟨⟨fun hc=>⟨v,?_,jS,?_⟩,fun hc=>?_⟩,List.mem_cons_self,.inl kj⟩
      ·obtain⟨o',pG,Fw⟩:=kj
       rw[ho]at pG
       cases pG
       intro h0
       rw[Fv]
       show c.FE j (c.rf j) h0=_
       rw[yj ho]at hte ⊢
       exact((wh Fw).ok hte).2 h0
      ·show Cx.r6 _ j (bd j)
       rw[hbi];exact hrd
      ·cases c.nL kj hc
     ·exact .inl h
    ·exact .inr ⟨h,List.mem_cons_of_mem _ h5,h6⟩
   ·have key:(h'=h/\c.FE i (c.rf i) (kb h.next)=.ok v (kb h.next))∨ ∃ cs,h'=iV h cs/\c.FE i (c.rf i) (kb h.next)=.ok v (iV (kb h.next) cs):=by
     obtain⟨o',pG,Fw⟩:=kj
     rw[ho]at pG;cases pG
     rw[yj ho]at hte ⊢
     exact Fp Fw _ _ _ _ hte (kb h.next) rfl
    refine⟨nx,bd,agree,qn,s5,.inr ⟨kj,Ln,?_⟩,a3,fun j hj=>?_⟩
    ·rcases key with⟨rfl,_⟩|⟨cs,rfl,hf⟩
     ·exact .inl ⟨hbi.trans Ln.symm,a2⟩
     ·refine .inr ⟨v,cs,?_,?_,a2⟩
      ·show bd i=nx i+1
       rw[hbi,Ln];rfl
      ·rw[Fv]
       show c.FE i (c.rf i) (kb (nx i))=.ok v (iV (kb (nx i)) cs)
       rw[Ln];exact hf
    ·rcases a4 j hj with h0|⟨h0,h5,h6⟩
     ·rcases List.mem_cons.1 h0 with rfl|h0
      ·refine .inr ⟨⟨fun hc=>?_,fun hc=>⟨v,jS,?_,?_⟩⟩,List.mem_cons_self,.inr kj⟩
       ·cases c.nL kj hc
       ·show Cx.r6 _ j (nx j)
        rw[Ln];exact hrd
       ·rw[Fv]
        show(c.FE j (c.rf j) (kb (nx j))=.ok v (kb (nx j))/\bd j=nx j)∨ ∃ cs,c.FE j (c.rf j) (kb (nx j))=.ok v (iV (kb (nx j)) cs)/\bd j=nx j+1
        rw[Ln,hbi]
        rcases key with⟨rfl,hf⟩|⟨cs,rfl,hf⟩
        ·exact .inl ⟨hf,rfl⟩
        ·exact .inr ⟨cs,hf,rfl⟩
      ·exact .inl h0
     ·exact .inr ⟨h0,List.mem_cons_of_mem _ h5,h6⟩
omit [Io] in
theorem Fx(mL:c.nt<=512)(kW: ∀ u,u<512->(∀ j,¬ c.pF j u)->c.te.at u=c.t0.at u)(EB: ∀ i j d,c.pF i d->c.pF j d->i=j): ∀ (pl:pd) (iy:List Nat) (t:Tm) (h:Hp) (uM sU:Nat->Nat),
 rh c.P c.call c.nt c.ops.toList pl iy t h=.ok c.te c.hE->c.Y8 iy t->(∀ j∈iy,sU j<=h.next)->
  ∃ nx bd,(∀ j∈iy,nx j=uM j/\bd j=sU j)/\(c.wi nx bd).BI pl h/\(∀ i,i<c.ops.size->bd i<=c.hE.next)/\
   ∀ i,i<c.ops.size->i∉iy->(c.wi nx bd).GI i/\(c.iZ i .al->i∈pl.kV)/\(c.iZ i .ch->i∈pl.Bo)
 | .last pre kV,iy,t,h,uM,sU,e,hO,hb=>by
  unfold rh at e
  have Y': ∀ iy t h,(lA (allI (fun i _=>nO i iy) c.ops.toList 0) fi (fun _ _=>.bad):qh) t h=.ok c.te c.hE->(∀ i,i<c.ops.size->i∈iy)/\t=c.te/\h=c.hE:=by
   intro iy t h e
   cases hB:allI (fun i _=>nO i iy) c.ops.toList 0 with
   |false=>rw[hB]at e;cases e
   |true=>
    rw[hB]at e
    obtain⟨h1,h2⟩:=Rt.ok.inj e
    refine⟨fun i hi=>?_,h1,h2⟩
    have:=oy hB i c.ops[i] (by simp[hi])
    exact ov.1 this
  have hk: ∀ iy t h,(lA (allI (fun i _=>nO i iy) c.ops.toList 0) fi (fun _ _=>.bad):qh) t h=.ok c.te c.hE->c.Fr iy t:=by
   intro iy t h e
   obtain⟨_,rfl,_⟩:=Y' iy t h e
   exact fun u _ _=>rfl
  obtain⟨nx,bd,a1,a2,s5,⟨h1,s6,b2,⟨rfl,b3,b4⟩,b5⟩,a4⟩:=zh (Φ:=fun nx bd s5=> ∃ h1 s6,(c.wi nx bd).yE kV h h1/\(h1=c.hE/\(∀ i,i<c.ops.size->i∈s6)/\(∀ i∈s6,bd i<=c.hE.next))/\
   ∀ i∈s6,i∈s5∨((c.wi nx bd).GI i/\i∈kV/\(c.iZ i .p0∨c.iZ i .al))) mL kW EB (r8 mL hk kV) (fun iy t uM sU e hO hb=>by
   obtain⟨nx,bd,a1,h1,s6,a2,a3,a4⟩:=Dk (Φ:=fun nx bd s6 h1=>h1=c.hE/\(∀ i,i<c.ops.size->i∈s6)/\(∀ i∈s6,bd i<=c.hE.next)) mL kW EB hk (fun iy t h uM sU e hO hb=>by
    obtain⟨h1,_,rfl⟩:=Y' iy t h e
    exact⟨uM,sU,fun _ _=>⟨rfl,rfl⟩,rfl,h1,hb⟩) kV iy t h uM sU e hO hb
   exact⟨nx,bd,a1,h1,s6,a2,a3,a4⟩) pre iy t uM sU e hO hb
  refine⟨nx,bd,a1,⟨a2,b2⟩,fun i hi=>b4 i (b3 i hi),fun i hi hn=>?_⟩
  rcases b5 i (b3 i hi)with h|⟨h,h6,h7⟩
  ·rcases a4 i h with h|⟨h,h5⟩
   ·exact absurd h hn
   ·refine⟨h,fun hc=>?_,fun hc=>?_⟩
    ·rcases h5 with h5|h5<;>cases c.nL h5 hc
    ·rcases h5 with h5|h5<;>cases c.nL h5 hc
  ·refine⟨h,fun _=>h6,fun hc=>?_⟩
   rcases h7 with h5|h5<;>cases c.nL h5 hc
 | .cons pre kV q rest,iy,t,h,uM,sU,e,hO,hb=>by
  unfold rh at e
  have hq: ∀ iy t h,(lA (G2 c.nt c.ops.toList iy q&&(!nO q iy&&wu c.P c.call c.ops.toList .ch q)) (runM c.P c.call c.nt c.ops.toList q (rh c.P c.call c.nt c.ops.toList rest (q::iy))) (fun _ _=>.bad):qh) t h=.ok c.te c.hE->
   G2 c.nt c.ops.toList iy q=true/\q∉iy/\c.iZ q .ch/\ ∃ o v h1 t1,c.ops[q]? =some o/\oE c.P c.call c.nt c.ops.toList o t h=.ok v h1/\h.next<=h1.next/\rh c.P c.call c.nt c.ops.toList rest (q::iy) t1 h1=.ok c.te c.hE/\
    ((∃ d,o.dst=some d/\d<c.nt/\t1=sT d v t)∨(o.dst=none/\t1=t)):=by
   intro iy t h e
   cases h1:(G2 c.nt c.ops.toList iy q&&(!nO q iy&&wu c.P c.call c.ops.toList .ch q))with
   |false=>rw[h1]at e;cases e
   |true=>
    rw[h1]at e
    simp only[Bool.and_eq_true,Bool.not_eq_true']at h1
    exact⟨h1.1,rk h1.2.1,nV.1 h1.2.2,Fs e⟩
  have hk: ∀ iy t h,(lA (G2 c.nt c.ops.toList iy q&&(!nO q iy&&wu c.P c.call c.ops.toList .ch q)) (runM c.P c.call c.nt c.ops.toList q (rh c.P c.call c.nt c.ops.toList rest (q::iy))) (fun _ _=>.bad):qh) t h=.ok c.te c.hE->c.Fr iy t:=by
   intro iy t h e
   obtain⟨_,Y9,_,o,v,h1,t1,ho,_,_,e,ht⟩:=hq iy t h e
   exact wy mL ho Y9 ht (wz mL rest (q::iy) t1 h1 e)
  obtain⟨nx,bd,a1,a2,s5,⟨h1,s6,b2,⟨c1,v,h2,c2,c3,c4,c5,c6,c7,c8,c9⟩,b5⟩,a4⟩:=zh (Φ:=fun nx bd s5=> ∃ h1 s6,(c.wi nx bd).yE kV h h1/\
   (c.iZ q .ch/\ ∃ v h2,c.FE q (c.rf q) h1=.ok v h2/\c.Slot q v/\(c.wi nx bd).r6 q h1.next/\bd q=h2.next/\h1.next<=h2.next/\(c.wi nx bd).BI rest h2/\(∀ i,i<c.ops.size->bd i<=c.hE.next)/\
    ∀ i,i<c.ops.size->i∉q::s6->(c.wi nx bd).GI i/\(c.iZ i .al->i∈rest.kV)/\(c.iZ i .ch->i∈rest.Bo))/\
   ∀ i∈s6,i∈s5∨((c.wi nx bd).GI i/\i∈kV/\(c.iZ i .p0∨c.iZ i .al))) mL kW EB (r8 mL hk kV) (fun iy t uM sU e hO hb=>by
   obtain⟨nx,bd,a1,h1,s6,a2,a3,a4⟩:=Dk (Φ:=fun nx bd s6 h1=>c.iZ q .ch/\ ∃ v h2,c.FE q (c.rf q) h1=.ok v h2/\c.Slot q v/\(c.wi nx bd).r6 q h1.next/\bd q=h2.next/\h1.next<=h2.next/\(c.wi nx bd).BI rest h2/\
    (∀ i,i<c.ops.size->bd i<=c.hE.next)/\ ∀ i,i<c.ops.size->i∉q::s6->(c.wi nx bd).GI i/\(c.iZ i .al->i∈rest.kV)/\(c.iZ i .ch->i∈rest.Bo)) mL kW EB hk (fun iy t h uM sU e hO hb=>by
    obtain⟨hr,Y9,kj,o,v,h1,t1,ho,hg,hle,e,ht⟩:=hq iy t h e
    have nd: ∀ j∈iy,j≠q:=fun j hj e=>Y9 (e▸hj)
    have Fq:=wz mL rest (q::iy) t1 h1 e
    obtain⟨nx,bd,a1,a2,a3,a4⟩:=Fx mL kW EB rest (q::iy) t1 h1 (GX uM q h.next) (GX sU q h1.next) e (Am mL ho ht hO) (fun j hj=>by
     rcases List.mem_cons.1 hj with rfl|hj
     ·rw[pW];exact Nat.le_refl _
     ·rw[r9 (nd j hj)];exact Nat.le_trans (hb j hj) hle)
    have agree: ∀ j∈iy,nx j=uM j/\bd j=sU j:=fun j hj=>by
     have:=a1 j (List.mem_cons_of_mem _ hj)
     rwa [r9 (nd j hj),r9 (nd j hj)]at this
    have hbq:bd q=h1.next:=by
     have:=(a1 q List.mem_cons_self).2
     rwa [pW]at this
    exact⟨nx,bd,agree,kj,v,h1,Fu mL kW (wy mL ho Y9 ht Fq) hO ho hr hg,xC mL EB ho ht Fq,
     Jw (c:=c.wi nx bd) hr (fun j hj=>by show bd j<=_;rw[(agree j hj).2];exact hb j hj),hbq,hle,a2,a3,a4⟩) kV iy t h uM sU e hO hb
   exact⟨nx,bd,a1,h1,s6,a2,a3,a4⟩) pre iy t uM sU e hO hb
  refine⟨nx,bd,a1,⟨a2,h1,b2,c1,v,h2,(by rw[Fv];exact c2),c3,c4,c5,c6,c7⟩,c8,fun i hi hn=>?_⟩
  by_cases hiq:i=q
  ·subst hiq
   refine⟨⟨fun hc=>?_,fun hc=>?_⟩,fun hc=>?_,fun _=>List.mem_cons_self⟩
   ·cases c.nL c1 hc
   ·cases c.nL c1 hc
   ·cases c.nL c1 hc
  ·by_cases Uz:i∈s6
   ·rcases b5 i Uz with h|⟨h,h6,h7⟩
    ·rcases a4 i h with h|⟨h,h5⟩
     ·exact absurd h hn
     ·refine⟨h,fun hc=>?_,fun hc=>?_⟩
      ·rcases h5 with h5|h5<;>cases c.nL h5 hc
      ·rcases h5 with h5|h5<;>cases c.nL h5 hc
    ·refine⟨h,fun _=>List.mem_append_left _ h6,fun hc=>?_⟩
     rcases h7 with h5|h5<;>cases c.nL h5 hc
   ·obtain⟨r1,r2,r3⟩:=c9 i hi (fun k=>by
     rcases List.mem_cons.1 k with k|k
     ·exact hiq k
     ·exact Uz k)
    exact⟨r1,fun hc=>List.mem_append_right _ (r2 hc),fun hc=>List.mem_cons_of_mem _ (r3 hc)⟩
end Cx
end Go.Ab

noncomputable section
namespace Go.Ab
variable [Io]
def OR(ok:Nat->Nat->Bool)(l:List Nat):Nat->List Nat:=
 List.rec (fun _=>[]) (fun i _ ih r=>Bool.rec (ih r) (i::ih (Nat.lor r (Nat.pow 2 i))) (ok i r)) l
def Za(l:List Nat)(r:Nat):Nat:=List.rec r (fun i _ ih=>Nat.lor (Nat.pow 2 i) ih) l
def bit(r i:Nat):Bool:=Nat.beq (Nat.mod (Nat.div r (Nat.pow 2 i)) 2) 1
def Vg(p:Nat->Bool)(l:List Nat):List Nat:=List.rec [] (fun i _ ih=>Bool.rec ih (i::ih) (p i)) l
def aaT(p:Nat->Bool)(l:List Nat):Option Nat:=List.rec none (fun i _ ih=>Bool.rec ih (some i) (p i)) l
def OS(l:List Oper):List Nat:=List.rec (fun _=>[]) (fun _ _ ih i=>i::ih (Nat.add i 1)) l 0
section
variable (P:Program)(call:iP)(L:List Oper)
def alD(ms idx:List Nat)(fuel:Nat):Nat->List Nat->pd:=
 Nat.rec (fun _ _=>.last [] []) (fun _ ih done chd=>
  match OR (fun i r=>(wu P call L .p0 i||wu P call L .p1 i)&&(!bit r i&&Nat.beq (Nat.land ((oH ms i).getD 0) r) ((oH ms i).getD 0))) idx done with
  |new=>match Vg (fun i=>bit done i&&(wu P call L .p1 i&& !HG (fun j=>bit ((oH ms j).getD 0) i) chd)) idx with
   |uL=>match Za new done with
    |Jy=>match aaT (fun i=>wu P call L .ch i&& !bit Jy i) idx with
     |none=>.last (app uL new) (OR (fun i r=> !bit r i) idx Jy)
     |some q=>match OR (fun i r=> !bit r i&&bit ((oH ms q).getD 0) i) idx Jy with
      |kV=>.cons (app uL new) kV q (ih (Nat.lor (Nat.pow 2 q) (Za kV Jy)) (q::chd))) fuel
def xD:pd:=alD P call L (tB L []) (OS L) (Nat.succ (len L)) 0 []
end
def Fy(P:Program)(call:iP)(nt:Nat)(ops:Array Oper):qh:=
 match xD P call ops.toList with
 |pl=>lA (Ju ops.toList&&(Vc ops.toList&&Cm P call ops.toList pl [])) (rh P call nt ops.toList pl []) (fun _ _=>.bad)
namespace Cx
variable {c:Cx}
omit [Io] in
theorem Jz: ∀ (pl:pd) (mS:List Nat),Cm c.P c.call c.ops.toList pl mS=true->c.Jr mS pl
 | .last pre kV,mS,h=>by
  intro i hi
  obtain⟨o,ho,_⟩:=id hi
  have:=ri (oy h i o (by simpa using ho)) (nV.2 hi)
  rw[Bool.or_eq_true,wq,ov]at this
  exact this
 | .cons pre kV q rest,mS,h=>by
  unfold Cm at h
  simp only[Bool.and_eq_true]at h
  obtain⟨h1,h2,h3,h4⟩:=h
  refine⟨fun i hi=>?_,fun i hi hc=>?_,fun q' hq=>?_,Jz rest _ h4⟩
  ·obtain⟨o,ho,_⟩:=id hi
   have:=ri (oy h1 i o (by simpa using ho)) (nV.2 hi)
   rw[Bool.or_eq_true,Bool.or_eq_true,wq,wq,ov]at this
   exact this
  ·rw[kT,List.all_eq_true]at h2
   exact ri (h2 i hi) (nV.2 hc)
  ·rw[kT,List.all_eq_true]at h3
   exact h3 q' hq
omit [Io] in
theorem aaU(h:Vc c.ops.toList=true): ∀ i j d,c.pF i d->c.pF j d->i=j:=by
 rintro i j d ⟨o,ho,hd⟩ ⟨o',pG,Lh⟩
 have h1:=oy h i o (by simpa using ho)
 rw[hd]at h1
 have h2:=ri (oy h1 j o' (by simpa using pG)) (xB Lh)
 exact Nat.eq_of_beq_eq_true h2
end Cx
theorem Vh{g:G}{w:World}{h:Hp}(H:HR g w h):g.to h.next=g:=by
 cases g with
 |mk m im=>
  unfold G.to
  simp only[G.mk.injEq,and_true]
  funext id
  by_cases mQ:id<h.next
  ·simp only[mQ,if_true]
  ·simp only[mQ,if_false]
   exact(H.fresh id (by omega)).symm
omit [Io] in
theorem xE{g:G}{w w':World}(h:w'.heap=w.heap):vW g w g w':=
 ⟨fun _ _ e=>e,fun _ i=>i,fun b _=>by rw[h],fun b=>by unfold jl;rw[h];exact Nat.le_refl _⟩
theorem HR.heap{g:G}{w w':World}{hp:Hp}(h:w'.heap=w.heap)(H:HR g w hp):HR g w' hp:=by
 refine⟨H.fresh,fun id cs e=>?_,H.inj,fun b i=>by rw[h];exact H.j3 b i,qF.mono (xE h) H.tb⟩
 obtain⟨b,s,C,el,vs,h1,h2,h3,h4,h5⟩:=H.cw id cs e
 exact⟨b,s,C,el,vs,h1,by rw[h];exact h2,h3,cZ.kq (xE h) _ _ h4,h5⟩
omit [Io] in
theorem Lp(g:G)(w:World)(h:Hp)(n:Nat):Ext g w h g {w with drawn:=n} h:=
 ⟨rfl,rfl,rfl,Nat.le_refl _,Nat.le_refl _,fun _ _ e=>e,fun _ _ _=>rfl,fun _=>Nat.le_refl _,fun _ i=>i,fun _ i=>.inl i,fun _ o=>.inl o⟩
theorem JA{P:Program}(hm:P.follows .mixedOrders=true):Hw P (Fy P):=by
 intro call nt hc id ops g w t h a t' h' H T D e Q K
 refine wp_region_draw fun tk=>?_
 rw[hm]
 change (lA (Ju ops.toList&&(Vc ops.toList&&Cm P call ops.toList (xD P call ops.toList) [])) (rh P call nt ops.toList (xD P call ops.toList) []) (fun _ _=>.bad):qh) t h=.ok t' h' at e
 cases hB:(Ju ops.toList&&(Vc ops.toList&&Cm P call ops.toList (xD P call ops.toList) []))with
 |false=>rw[hB]at e;cases e
 |true=>
 rw[hB]at e
 change rh P call nt ops.toList (xD P call ops.toList) [] t h=.ok t' h' at e
 simp only[Bool.and_eq_true]at hB
 obtain⟨MV,EB,zc⟩:=hB
 obtain⟨pl,hpl⟩: ∃ pl,pl=xD P call ops.toList:=⟨_,rfl⟩
 rw[<-hpl]at e zc
 have L:=Df (Vb MV) tk
 let c0:Cx:=⟨P,call,ops,nt,t,t',fun _=>0,fun _=>0,g,w,h,h'⟩
 have agz: ∀ i j d,c0.pF i d->c0.pF j d->i=j:=Cx.aaU (c:=c0) EB
 have mL:nt<=512:=T.1
 have F:=Cx.wz (c:=c0) mL pl [] t h e
 have kW: ∀ u,u<512->(∀ j,¬ c0.pF j u)->c0.te.at u=c0.t0.at u:=fun u hu hd=>F u hu (fun j hj=>absurd hj (hd j))
 obtain⟨nx,bd,_,nN,alE,hgi⟩:=Cx.Fx (c:=c0) mL kW agz pl [] t h (fun _=>0) (fun _=>0) e (fun u _ _=>rfl) (fun j hj=>by cases hj)
 let c:Cx:=c0.wi nx bd
 have kC: ∀ {i k},c.iZ i k->i<c.ops.size:=fun⟨o,ho,_⟩=>(Array.getElem?_eq_some_iff.1 ho).1
 have G0:c.U9:=
  ⟨fun i hi=>(hgi i (kC hi) (by simp)).1.1 hi,fun i hi=>(hgi i (kC hi) (by simp)).1.2 hi,agz,alE,kW,hc,mL⟩
 have ze:g.to h.next=g:=Vh H
 refine Cx.sim (c:=c) G0 K _ [] [] pl g {w with drawn:=w.drawn+1} h a L ?_
 exact
 {run:=nN
  stat:=Cx.Jz (c:=c) pl [] zc
  closed:=fun j hj=>by cases hj
  Bo:=fun i hi=>.inl ((hgi i (kC hi) (by simp)).2.2 hi)
  TC:=fun i _ h=>by cases h
  yi:=fun j hj=>by cases hj
  Y4:=fun i hi=>.inl ((hgi i (kC hi) (by simp)).2.1 hi)
  st:=⟨(by rw[ze];exact HR.heap (w:=w) rfl H),(by rw[ze];exact Lp _ _ _ _),(fun i _ h=>by cases h),(fun i _ j _ h=>by cases h)⟩
  Y5:=fun id x m=>.inl (by
   refine Classical.byContradiction fun k=>?_
   rw[H.fresh id (by omega)]at m;cases m)
  tF:=fun j hj=>by cases hj
  free:=fun u v hu hd eu=>by
   obtain⟨h1,h2⟩:=T.2.2 u v hu eu
   refine⟨h1,?_⟩
   rw[ze]
   exact VR.kq (xE (w:=w) (w':={w with drawn:=w.drawn+1}) rfl) _ _ h2
  size:=T.2.1
  defers:=D}
end Go.Ab

noncomputable section
namespace Go.Ab
variable [Io]
def Dl(F:Func):Code:=match F.body with
 |some c=>c
 |none=>.skip
omit [Io] in
theorem agA{P:Program}{draw:iP->Nat->Array Oper->qh}{f:FuncId}{F:Func}{b:Fb}(h1:P.funcs[f]? =some F)(h2: ∀ args w,(callFunc f args).run P w=.ok (.enter f args) w)
 (h3:F.body.isSome=true)(h4:b.ntmps=F.ntmps)(h5:Nat.ble b.ntmps 512=true)(h6:Fh P b.ntmps F.results.toList=some b.res)
 (h7:b.body=fun call n=>kF P (draw call b.ntmps) call n b.ntmps (Dl F)):K7 P draw f b:=by
 refine⟨⟨F,Dl F,h1,?_,h4,Nat.ble_eq.mp h5,h6,h7⟩,h2⟩
 unfold Dl
 cases h:F.body with
 |none=>rw[h]at h3;cases h3
 |some c=>rfl
def OT{α:Type}(p:Nat->α->Prop)(a b:Nat):Tr α->Prop
 | .nil=>True
 | .node l v r=>(∀ x,v=some x->p b x)/\OT p (2*a) (a+b) l/\OT p (2*a) (2*a+b) r
omit [Io] in
theorem OT.get{α:Type}{p:Nat->α->Prop}: ∀ {t:Tr α} {a b:Nat},OT p a b t-> ∀ k x,t.get k=some x->p (a*k+b) x
 | .nil,a,b,_,k,x,e=>by cases e
 | .node l v r,a,b,⟨h1,h2,h3⟩,k,x,e=>by
  rw[Tr.tj]at e
  by_cases h0:k=0
  ·subst h0
   rw[if_pos rfl]at e
   simpa using h1 x e
  ·rw[if_neg h0]at e
   by_cases hk:k % 2=1
   ·rw[if_pos hk]at e
    have:=h2.get _ x e
    have e2:2*a*(k / 2)+(a+b)=a*k+b:=by
     have:k=2*(k / 2)+1:=by omega
     generalize k / 2=m at*
     subst this
     rw[Nat.mul_add,Nat.mul_one,<-Nat.mul_assoc,Nat.mul_comm a 2]
     omega
    rwa [e2]at this
   ·rw[if_neg hk]at e
    have:=h3.get _ x e
    have e2:2*a*(k / 2 - 1)+(2*a+b)=a*k+b:=by
     have:k=2*(k / 2 - 1)+2:=by omega
     generalize k / 2 - 1=m at*
     subst this
     rw[Nat.mul_add,<-Nat.mul_assoc,Nat.mul_comm a 2]
     omega
    rwa [e2]at this
omit [Io] in
theorem CT{α:Type}{p:Nat->α->Prop}{b:Nat}: ∀ x,(none:Option α)=some x->p b x:=fun _ e=>by cases e
end Go.Ab

noncomputable section
namespace Go.Ab
variable [Io]
structure Lq(w w':World):Prop where
 os:w'.os=w.os
 tape:w'.tape=w.tape
 output:w'.output=w.output
 size:w.heap.size<=w'.heap.size
 uL: ∀ b,b<w.heap.size->w'.heap[b]? =w.heap[b]?
omit [Io] in
theorem Lq.rows{w w':World}(K:Lq w w')(b:Nat):jl w b<=jl w' b:=by
 unfold jl
 by_cases h:b<w.heap.size
 ·rw[K.uL b h];exact Nat.le_refl _
 ·rw[Array.getElem?_eq_none (by omega)];exact Nat.zero_le _
def gE(j3:Nat->Prop):G:=⟨fun _=>none,j3⟩
theorem FA{j3:Nat->Prop}{w:World}(h: ∀ b,j3 b->b<w.heap.size)(t:qF (gE j3) w):HR (gE j3) w (kb 0):=
 ⟨fun _ _=>rfl,(fun _ _ e=>by cases e),(fun _ _ _ _ _ _ _ e=>by cases e),h,t⟩
omit [Io] in
theorem JB{j3:Nat->Prop}{w:World}{g':G}{w':World}{h':Hp}(E:Ext (gE j3) w (kb 0) g' w' h'):Lq w w':=
 ⟨E.os,E.tape,E.output,E.size,fun b hb=>E.uL b hb (by rintro⟨id,cs,s,e,_⟩;cases e)⟩
def mapA(f:AV->Option AV)(l:List AV):Option (List AV):=
 List.rec (some []) (fun a _ ih=>match f a with
  |some b=>match ih with
   |some r=>some (b::r)
   |none=>none
  |none=>none) l
theorem JC{g g':G}{w:World}{f:AV->Option AV}(hf: ∀ a a' v,f a=some a'->VR g w a v->VR g' w a' v): ∀ {l l':List AV} {vs:List Value},mapA f l=some l'->cZ g w l vs->cZ g' w l' vs
 | [],l',vs,e,h=>by cases e;simpa only[cZ]using h
 |a::l,l',vs,e,h=>by
  change (match f a with|some b=>(match mapA f l with|some r=>some (b::r)|none=>none)|none=>none)=some l' at e
  simp only[cZ]at h
  obtain⟨v,r,rfl,hv,hr⟩:=h
  cases h1:f a with
  |none=>rw[h1]at e;cases e
  |some b=>
   cases h2:mapA f l with
   |none=>rw[h1,h2]at e;cases e
   |some r'=>
    rw[h1,h2]at e
    cases e
    simp only[cZ]
    exact⟨v,r,rfl,hf a b v h1 hv,JC hf h2 hr⟩
end Go.Ab

noncomputable section
namespace Go.Ab
end Go.Ab

noncomputable section
namespace Go.Ab
variable [Io]
end Go.Ab
namespace Go.Ab
end Go.Ab

noncomputable section
namespace Go.Ab
variable [Io]
section
variable {P:Program}{call:iP}
end
end Go.Ab

noncomputable section
namespace Go.Ab
end Go.Ab

noncomputable section
namespace Go.Ab
def isT(r:Ro):Bool:=match r with
 | .ok (.bool b) _=>b
 | _=>false
theorem aaV{r:Ro}(h:isT r=true): ∃ h',r=.ok (.bool true) h':=by
 unfold isT at h
 split at h
 ·subst h;exact⟨_,rfl⟩
 ·cases h
theorem Lq.below{w w':World}(K:Lq w w'):Go.RowKit.Below w.heap.size w w':=⟨K.os,K.tape,K.output,K.size,K.uL⟩
theorem aaW[Io]{P:Program}{call:iP}(hc:jL P call){f:FuncId}{args:List AV}{vs:List Value}(e:isT (call f args (kb 0))=true)(w:World){j3:Nat->Prop}(hi: ∀ b,j3 b->b<w.heap.size)(ht:qF (gE j3) w)(hv:cZ (gE j3) w args vs):
 Calls P f vs.toArray w fun e w'=>e=.returned (.bool true)/\Go.RowKit.Below w.heap.size w w':=by
 obtain⟨h',e'⟩:=aaV e
 refine((hc f args (kb 0) _ h' e').2 (gE j3) w vs (FA hi ht) hv).mono ?_
 rintro e w' ⟨x,g',rfl,E,H',hx⟩
 simp only[VR]at hx
 subst hx
 exact⟨rfl,(JB E).below⟩
end Go.Ab

noncomputable section
namespace Go.Ab
variable [Io]
section
variable {P:Program}
def FB(fn:FuncId->Option Fb)(n:Nat)(c:iP):iP:=fun f args h=>match fn f with
 |none=>.bad
 |some b=>lA (Nat.ble (len args) b.ntmps) (match b.body c n (rV args 0 Tm.none) h with
  | .norm t h=>fin b.res t h
  | .ret t h=>fin b.res t h
  | _=>.bad) .bad
theorem OU{draw:iP->Nat->Array Oper->qh}(hd:Hw P draw){fn:FuncId->Option Fb}(hf: ∀ f b,fn f=some b->K7 P draw f b)(n:Nat){c:iP}(hc:jL P c):jL P (FB fn n c):=by
 intro f args h v h' e
 change (match fn f with
  |none=>Ro.bad
  |some b=>lA (Nat.ble (len args) b.ntmps) (match b.body (c) n (rV args 0 Tm.none) h with| .norm t h=>fin b.res t h| .ret t h=>fin b.res t h| _=>.bad) .bad)=.ok v h' at e
 cases hb:fn f with
 |none=>rw[hb]at e;cases e
 |some b=>
 rw[hb]at e
 simp only at e
 cases hle:Nat.ble (len args) b.ntmps with
 |false=>rw[hle]at e;cases e
 |true=>
 rw[hle]at e
 change (match b.body (c) n (rV args 0 Tm.none) h with| .norm t h=>fin b.res t h| .ret t h=>fin b.res t h| _=>.bad)=Ro.ok v h' at e
 rw[iq]at hle
 have agB:args.length<=b.ntmps:=Nat.ble_eq.mp hle
 have F0:=hf f b hb
 obtain⟨F,cd,hF,hcb,mL,s7,alF,agC⟩:=F0.ex
 refine⟨F0.enter,fun g w vs H hv=>?_⟩
 rw[agC]at e
 have agD:=De hc (draw:=draw (c) b.ntmps) (nt:=b.ntmps) (fun id ops=>hd _ _ hc id ops) n cd
 have hvl:=hv.length
 have Jp:(vs.toArray++Array.replicate (F.ntmps - vs.toArray.size) undef).size=b.ntmps:=by simp;omega
 have hT0:TR g w b.ntmps Tm.none (vs.toArray++Array.replicate (F.ntmps - vs.toArray.size) undef):=
  ⟨s7,Jp,fun i v hi e=>by rw[Tm.CT i hi]at e;cases e⟩
 have hT:=we args vs 0 b.ntmps Tm.none _ hv (by omega) hT0 (fun j v e=>by
  rw[Array.getElem?_append_left (by have:=(List.getElem?_eq_some_iff.1 e).1;simpa using this)]
  simpa using e)
 refine calls_of_wp hF hcb ?_
 have:=agD g w _ h {tmps:=vs.toArray++Array.replicate (F.ntmps - vs.toArray.size) undef,defers:=[]}
  (bodyPost P F (fun e w'=> ∃ x g',e=.returned x/\Ext g w h g' w' h'/\HR g' w' h'/\VR g' w' v x)) H hT rfl
 have OV: ∀ t1 h1,fin b.res t1 h1=.ok v h'-> ∀ g' w' (a':Act),Ext g w h g' w' h1->HR g' w' h1->TR g' w' b.ntmps t1 a'.tmps->a'.defers=[]->
  a'.defers=[]/\ ∃ x,(results F a'.tmps).run P w'=.ok x w'/\ ∃ y g',Ending.returned x=.returned y/\Ext g w h g' w' h'/\HR g' w' h'/\VR g' w' v y:=by
  intro t1 h1 alH g' w' a' E' H' T' D'
  obtain⟨rfl,x,hx,Oq⟩:=aaK H' T' alF alH
  exact⟨D',x,hx,x,g',rfl,E',H',Oq⟩
 simp only at e
 cases hr:kF P (draw (c) b.ntmps) (c) n b.ntmps cd (rV args 0 Tm.none) h with
 |bad=>rw[hr]at e;cases e
 |norm t1 h1=>rw[hr]at e this;exact this (OV t1 h1 e)
 |ret t1 h1=>rw[hr]at e this;exact this (OV t1 h1 e)
 |exit i t1 h1=>rw[hr]at e;cases e
end
end Go.Ab

noncomputable section
namespace Go.Ab
open Go.ChangeShapes Go.WideShapes Go.ChangeAt Go.RowKit Go.Deep Go.Joins
end Go.Ab

noncomputable section
namespace Go.Ab
variable [Io]
end Go.Ab
namespace Go.Ab
variable [Io]
section
variable {P:Program}
def OW(fn:FuncId->Option Fb)(wr:iP->iP)(n:Nat)(d:Nat):iP:=Nat.rec (fun _ _ _=>.bad) (fun _ ih=>FB fn n (wr ih)) d
theorem Ao{draw:iP->Nat->Array Oper->qh}(hd:Hw P draw){fn:FuncId->Option Fb}(hf: ∀ f b,fn f=some b->K7 P draw f b){wr:iP->iP}
 (hw: ∀ c,jL P c->jL P (wr c))(n:Nat): ∀ d,jL P (OW fn wr n d)
 |0=>by intro f args h v h' e;cases e
 |d+1=>OU hd hf n (hw _ (Ao hd hf hw n d))
theorem cZ.split{g:G}{w:World}: ∀ {l r:List AV} {vs:List Value},cZ g w (l++r) vs-> ∃ us ts,vs=us++ts/\cZ g w l us/\cZ g w r ts
 | [],r,vs,h=>⟨[],vs,rfl,by simp[cZ],h⟩
 |a::l,r,vs,h=>by
  simp only[List.cons_append,cZ]at h
  obtain⟨v,l',rfl,q,p⟩:=h
  obtain⟨us,ts,rfl,h1,h2⟩:=cZ.split p
  refine⟨v::us,ts,rfl,?_,h2⟩
  simp only[cZ]
  exact⟨v,us,rfl,q,h1⟩
end
end Go.Ab
namespace Go.Ab
variable [Io]
end Go.Ab
