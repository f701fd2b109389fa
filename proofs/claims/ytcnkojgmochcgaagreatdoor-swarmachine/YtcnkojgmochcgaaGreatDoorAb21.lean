import Derived.Test.YtcnkojgmochcgaaGreatDoorAb15
import Derived.KernelRfl
noncomputable section
namespace Go.Ab
variable [Io]
namespace Cx
variable {c:Cx}
omit [Io] in
theorem G.RJ{g:G}{id b N:Nat}(h:N<=id):(g.add id b).to N=g.to N:=by
 unfold Go.Ab.G.to G.add
 congr 1
 funext k
 by_cases hk:k<N
 ·simp only[hk,if_true]
  rw[if_neg (by omega)]
 ·simp only[hk,if_false]
theorem sim(G0:c.Xj){Q:Exit->Act->World->Prop}(K:uf c.g0 c.w0 c.h0 c.nt c.te c.hE (Q .normal)): ∀ (s D past:List Nat) (pl:ta) (g:G) (w:World) (h:Hp) (a:Act),
 W9 c.ops D s->c.Inv g w h a D past pl->wpOps c.P c.ops Q s a w
 | [],D,past,pl,g,w,h,a,L,I=>by
  have OY: ∀ i,i<c.ops.size->i∈D:=L
  have o5: ∀ {i k},c.nM i k->i<c.ops.size:=fun⟨o,ho,_⟩=>(Array.getElem?_eq_some_iff.1 ho).1
  show Q .normal a w
  cases pl with
  |cons pre pR q rest=>
   exact absurd (OY q (o5 (Mz I.run q List.mem_cons_self))) (I.VQ q List.mem_cons_self)
  |last pre pR=>
   have S:=c.settle (A:=[]) pR h I.run.2 (fun i _ hc=>OY i (o5 hc)) (by rw[List.append_nil];exact I.st) (fun i hi=>by cases hi)
   refine K _ _ _ S.ext S.hr ⟨G0.nt,I.size,fun u v hu e=>?_⟩ I.defers
   have hle:=c.wD I.run.2
   by_cases hd: ∃ j,c.tv j u
   ·obtain⟨j,hj⟩:=hd
    obtain⟨o,ho,_⟩:=id hj
    have hjs:=(Array.getElem?_eq_some_iff.1 ho).1
    obtain⟨h1,v',e',hv⟩:=I.wF j (OY j hjs) u hj
    rw[e]at e'
    cases e'
    have:=G0.top j hjs
    exact⟨h1,VR.o8 (vv g w (by omega)) _ _ hv⟩
   ·rw[G0.same u hu (fun j hj=>hd ⟨j,hj⟩)]at e
    obtain⟨h1,h2⟩:=I.free u v hu (fun j _ hj=>hd ⟨j,hj⟩) e
    exact⟨h1,VR.o8 (vv g w hle) _ _ h2⟩
 |i::s,D,past,pl,g,w,h,a,⟨his,ES,hE,L⟩,I=>by
  obtain⟨o,ho⟩: ∃ o,c.ops[i]? =some o:=⟨c.ops[i],Array.getElem?_eq_getElem his⟩
  obtain⟨Gm,hC⟩:=It I.closed ho hE
  have KX: ∀ b,g.oz b->b<w.heap.size:=I.st.hr.oz
  cases hk:(vt c.P c.call o.op).1 with
  |p0=>
   have pO:c.nM i .p0:=⟨o,ho,hk⟩
   obtain⟨v,hF,hS,hR⟩:=G0.p0 i pO
   have T:=I.reads G0.nt hR ES Gm (N:=max (c.bd i) h.next) (by omega) (by omega)
   have e:sE c.P c.call c.nt c.ops.toList o (c.rf i) (pf 0)=.ok v (pf 0):=by
    rw[<-Be ho];exact hF _
   exact ER G0.call ho (.inl hk) (RF (g:=g.to (max (c.bd i) h.next)) KX) T e fun x hx=>sim G0 K s _ _ _ _ _ _ _ L (I.put G0 ho ES hC (.inl pO) hS hx)
  |p1=>
   have pO:c.nM i .p1:=⟨o,ho,hk⟩
   have QR:i∈pl.pre:=by
    rcases Xk I.stat i pO with⟨j,hj,hA⟩|⟨j,hj,hA⟩|h
    ·exact absurd (I.closed j (I.Bd j hj) i hA) ES
    ·exact absurd (Gm j hA) (I.VQ j hj)
    ·exact h
   obtain⟨v,hF,hS,hR⟩:=ac0 I.run i QR pO
   have T:=I.reads G0.nt hR ES Gm (N:=h.next) (Nat.le_refl _) (Nat.le_refl _)
   have e:sE c.P c.call c.nt c.ops.toList o (c.rf i) h=.ok v h:=by
    rw[<-Be ho];exact hF
   exact ER G0.call ho (.inr hk) I.st.hr.toHC T e fun x hx=>sim G0 K s _ _ _ _ _ _ _ L
    (I.put G0 ho ES hC (.inr pO) hS (VR.o8 (vv g w (by omega)) _ _ hx))
  |al=>
   have pO:c.nM i .al:=⟨o,ho,hk⟩
   obtain⟨v,hS,hR,hF⟩:=G0.al i pO
   have Gh:i∈pl.pR:=(I.alc i pO).resolve_right ES
   have hnx:=c.yk I.run i Gh pO
   have T:=I.reads G0.nt hR ES Gm (N:=c.nx i) (Nat.le_refl _) hnx
   obtain⟨h',hh',hF'⟩: ∃ h',((h'=pf (c.nx i)/\c.bd i=c.nx i)∨ ∃ cs,h'=nJ (pf (c.nx i)) cs/\c.bd i=c.nx i+1)/\c.FE i (c.rf i) (pf (c.nx i))=.ok v h':=by
    rcases hF with⟨h1,h2⟩|⟨cs,h1,h2⟩
    ·exact⟨_,.inl ⟨rfl,h2⟩,h1⟩
    ·exact⟨_,.inr ⟨cs,rfl,h2⟩,h1⟩
   have e:sE c.P c.call c.nt c.ops.toList o (c.rf i) (pf (c.nx i))=.ok v h':=by
    rw[<-Be ho];exact hF'
   have KV: ∀ j,j∈i::D->j≠i->j∈D:=fun j hj vi=>(List.mem_cons.1 hj).resolve_left vi
   have fin: ∀ (g':G) (w':World) (x:Value),(∀ id y,g.m id=some y->g'.m id=some y)->g'.oz=g.oz->g'.to h.next=g.to h.next->(w'=w∨ ∃ ob,w'=w.alloc ob)->
    c.OV g' w' h i->(∀ id y,g'.m id=some y->g.m id=some y∨(c.bd i=c.nx i+1/\id=c.nx i))->
    (∀ j∈pl.pR,j∈D->c.nM j .al->c.bd j=c.nx j+1->c.bd i=c.nx i+1-> ∀ b,g'.m (c.nx i)=some (b,0)->g'.m (c.nx j)=some (b,0)->i=j)->
    VR (g'.to (max (c.bd i) h.next)) w' v x->c.Inv g' w' h (a.put o.dst x) (i::D) past pl:=by
    intro g' w' x hm hi Bc hw hp ac1 aa3 hx
    have M: ∀ N,xK (g.to N) w (g'.to N) w':=by
     intro N
     have hmN: ∀ id y,(g.to N).m id=some y->(g'.to N).m id=some y:=by
      intro id y e
      simp only[Go.Ab.G.to]at e ⊢
      by_cases qu:id<N
      ·rw[if_pos qu]at e ⊢;exact hm _ _ e
      ·rw[if_neg qu]at e;cases e
     rcases hw with rfl|⟨ob,rfl⟩
     ·exact⟨hmN,fun b k=>by simp only[Go.Ab.G.to]at k ⊢;rw[hi];exact k,fun _ _=>rfl,fun _=>Nat.le_refl _⟩
     ·exact yn hmN (by simp only[Go.Ab.G.to];exact hi) (by simp only[Go.Ab.G.to];exact KX)
    have aht: ∀ j,c.OV g w h j->c.OV g' w' h j:=by
     intro j p
     rcases hw with rfl|⟨ob,rfl⟩
     ·rcases p with p|⟨v,cs,b,C,el,vs,h1,h2,h3,h4,h5,h6,h7,h8,h9⟩
      ·exact .inl p
      ·exact .inr ⟨v,cs,b,C,el,vs,h1,h2,hm _ _ h3,h4,by rw[hi];exact h5,by rw[Bc];exact h6,h7,cJ.o8 (M _) _ _ h8,h9⟩
     ·exact KW hm hi KX Bc p
    have vj:HR (g'.to h.next) w' h/\Ext c.g0 c.w0 c.h0 (g'.to h.next) w' h:=by
     rw[Bc]
     rcases hw with rfl|⟨ob,rfl⟩
     ·exact⟨I.st.hr,I.st.ext⟩
     ·obtain⟨E,H⟩:=H7 I.st.hr ob
      exact⟨H,I.st.ext.trans E⟩
    exact
    {run:=I.run
     stat:=I.stat
     closed:=hC
     DQ:=fun j hj=>(I.DQ j hj).imp id (List.mem_cons_of_mem _)
     VQ:=fun j hj h=>by
      rcases List.mem_cons.1 h with rfl|h
      ·cases c.rL pO (Mz I.run j hj)
      ·exact I.VQ j hj h
     Bd:=fun j hj=>List.mem_cons_of_mem _ (I.Bd j hj)
     alc:=fun j hj=>(I.alc j hj).imp id (List.mem_cons_of_mem _)
     st:=⟨vj.1,vj.2,fun j hj KU HH=>by
      by_cases Kf:j=i
      ·subst Kf;exact hp
      ·exact aht j (I.st.KS j hj (KV j KU Kf) HH),fun j hj k hk jD kD jc kc bj bk b mj mk=>by
      by_cases Kf:j=i<;>by_cases hki:k=i
      ·exact Kf.trans hki.symm
      ·subst Kf
       exact aa3 k hk (KV k kD hki) kc bk bj b mj mk
      ·subst hki
       exact(aa3 j hj (KV j jD Kf) jc bj bk b mk mj).symm
      ·have nj:g.m (c.nx j)=some (b,0):=by
        rcases ac1 _ _ mj with m|⟨b1,b2⟩
        ·exact m
        ·exact absurd (c.zk I.run j hj i Gh jc pO bj b1 b2) Kf
       have nk:g.m (c.nx k)=some (b,0):=by
        rcases ac1 _ _ mk with m|⟨b1,b2⟩
        ·exact m
        ·exact absurd (c.zk I.run k hk i Gh kc pO bk b1 b2) hki
       exact I.st.OW j hj k hk (KV j jD Kf) (KV k kD hki) jc kc bj bk b nj nk⟩
     dom:=fun n y e=>by
      rcases ac1 n y e with m|⟨b1,b2⟩
      ·exact(I.dom n y m).imp id fun⟨j,hj,hD,r⟩=>⟨j,hj,List.mem_cons_of_mem _ hD,r⟩
      ·exact .inr ⟨i,Gh,List.mem_cons_self,pO,b1,b2⟩
     wF:=AE G0 ho I.size I.wF (fun j _=>M _) ES (fun d hd=>⟨(hS d hd).1,v,(hS d hd).2,hx⟩)
     free:=CY ho I.size I.free (M _)
     size:=by rw[CX];exact I.size
     defers:=by rw[put_defers];exact I.defers}
   refine RG G0.call ho hk (RF (g:=g.to (c.nx i)) KX) T e (fun h1 x w' hw hv=>?_) (fun cs C el vs x h1 ov hCv hv=>?_)
   ·have hb:c.bd i=c.nx i:=by
     rcases hh' with⟨_,h2⟩|⟨cs,h2,_⟩
     ·exact h2
     ·rw[h2]at h1
      have:=congrArg Hp.next h1
      exact absurd this (Nat.succ_ne_self _)
    exact sim G0 K s _ _ _ _ _ _ _ L (fin g w' x (fun _ _ m=>m) rfl rfl hw (.inl hb) (fun id y m=>.inl m) (fun j _ _ _ _ k=>by omega) (hv _ _))
   ·have hb:c.bd i=c.nx i+1:=by
     rcases hh' with⟨h2,_⟩|⟨cs',_,h2⟩
     ·rw[h2]at h1
      have:=congrArg Hp.next h1
      exact absurd this.symm (Nat.succ_ne_self _)
     ·exact h2
    have ahv:g.m (c.nx i)=none:=by
     cases hm:g.m (c.nx i)with
     |none=>rfl
     |some y=>
      rcases I.dom _ _ hm with h|⟨j,hj,hD,HH,hjb,hje⟩
      ·omega
      ·have:=c.zk I.run i Gh j hj pO HH hb hjb hje
       exact absurd (this▸hD) ES
    have P6: ∀ id y,g.m id=some y->(g.add (c.nx i) w.heap.size).m id=some y:=by
     intro id y m
     simp only[G.add]
     rw[if_neg (fun k=>by rw[k,ahv]at m;cases m)]
     exact m
    have hat:(g.add (c.nx i) w.heap.size).m (c.nx i)=some (w.heap.size,0):=by simp[G.add]
    have Bc:(g.add (c.nx i) w.heap.size).to h.next=g.to h.next:=G.RJ hnx
    have D4:(w.alloc (.cells C el)).heap[w.heap.size]? =some (.cells C el (0,0)):=by rw[vy,if_pos rfl]
    have yf:C.size<=nY (w.alloc (.cells C el)) w.heap.size:=by rw[xS];exact Nat.le_refl _
    rw[h1]at hF'
    refine sim G0 K s _ _ _ _ _ _ _ L (fin (g.add (c.nx i) w.heap.size) _ x P6 rfl Bc (.inr ⟨_,rfl⟩) (.inr ⟨v,cs,w.heap.size,C,FT.nw C el,vs,hb,hF',hat,D4,?_,?_,I.st.ext.size,?_,hCv⟩)
     (fun id y m=>?_) (fun j hj KU HH hjb _ b m1 m2=>?_) (hv _ _ ?_ yf))
    ·intro k
     exact absurd (KX _ k) (Nat.lt_irrefl _)
    ·rw[Bc]
     rintro⟨id,cs',s,e,m⟩
     obtain⟨_,_,_,hw,_⟩:=I.st.hr.row e m
     have:=(Array.getElem?_eq_some_iff.1 hw).1
     omega
    ·have hT:(g.add (c.nx i) w.heap.size).to (c.nx i)=g.to (c.nx i):=G.RJ (Nat.le_refl _)
     rw[hT]
     exact cJ.o8 (yn (fun _ _ m=>m) rfl (by simp only[Go.Ab.G.to];exact KX)) _ _ ov
    ·by_cases qu:id=c.nx i
     ·exact .inr ⟨hb,qu⟩
     ·simp only[G.add,if_neg qu]at m
      exact .inl m
    ·rw[hat]at m1
     obtain⟨rfl,_⟩:=Prod.mk.inj (Option.some.inj m1)
     have vi:c.nx j≠c.nx i:=fun k=>ES (c.zk I.run i Gh j hj pO HH hb hjb k.symm▸KU)
     simp only[G.add,if_neg vi]at m2
     rcases I.st.KS j hj KU HH with hp|⟨_,_,b,_,_,_,_,_,h3,h4,_⟩
     ·omega
     ·rw[m2]at h3
      obtain⟨rfl,_⟩:=Prod.mk.inj (Option.some.inj h3)
      have:=(Array.getElem?_eq_some_iff.1 h4).1
      omega
    ·show(Go.Ab.G.to _ _).m (c.nx i)=_
     simp only[Go.Ab.G.to]
     rw[if_pos (by omega)]
     exact hat
  |ch=>
   have pO:c.nM i .ch:=⟨o,ho,hk⟩
   have Gh:=(I.DQ i pO).resolve_right ES
   cases pl with
   |last pre pR=>cases Gh
   |cons pre pR q rest=>
    have hq:i=q:=by
     rcases List.mem_cons.1 Gh with h|h
     ·exact h
     ·exact absurd (Gm q (I.stat.2.2.1 i h)) (I.VQ q List.mem_cons_self)
    subst hq
    obtain⟨_,h1,ac2,_,v,h2,hF,hS,hR,hb,hle,rO⟩:=I.run
    have anA:=c.wD ac2
    have S:=c.settle pR h ac2 (fun j hj hc=>Gm j (I.stat.2.1 j hj hc)) I.st (fun j hj hc=>Nat.le_trans hle (c.yk rO j hj hc))
    have T:=I.reads G0.nt hR ES Gm (N:=h1.next) (Nat.le_refl _) anA
    have e:sE c.P c.call c.nt c.ops.toList o (c.rf i) h1=.ok v h2:=by
     rw[<-Be ho];exact hF
    refine Gg G0.call ho S.hr T e fun g' w' x E H' hv=>?_
    obtain⟨G',hG'⟩: ∃ G':G,G'=⟨fun id=>if id<h2.next then g'.m id else g.m id,g'.oz⟩:=⟨_,rfl⟩
    have Bc:G'.to h2.next=g':=by
     rw[hG']
     unfold Go.Ab.G.to
     cases g' with
     |mk m im=>
      simp only[G.mk.injEq,and_true]
      funext id
      by_cases qu:id<h2.next
      ·simp only[qu,if_true]
      ·simp only[qu,if_false]
       exact(H'.fresh id (by omega)).symm
    have M0:=E.mono S.hr.toHC
    have aa4: ∀ id y,g.m id=some y->h1.next<=id->h2.next<=id/\ ∃ j∈rest.pR,j∈D/\c.nM j .al/\c.bd j=c.nx j+1/\id=c.nx j:=by
     intro id y m qu
     rcases I.dom id y m with h|⟨j,hj,KU,HH,hjb,rfl⟩
     ·omega
     ·rcases List.mem_append.1 hj with hj|hj
      ·have:=(c.tN ac2 j hj HH).2 hjb
       omega
      ·exact⟨c.yk rO j hj HH,j,hj,KU,HH,hjb,rfl⟩
    have hm: ∀ id y,g.m id=some y->G'.m id=some y:=by
     intro id y m
     rw[hG']
     show(if id<h2.next then g'.m id else g.m id)=some y
     by_cases qu:id<h2.next
     ·rw[if_pos qu]
      have:id<h1.next:=by
       refine Classical.byContradiction fun k=>?_
       have:=(aa4 id y m (by omega)).1
       omega
      exact E.m id y (by simp only[Go.Ab.G.to];rw[if_pos this];exact m)
     ·rw[if_neg qu];exact m
    have him:G'.oz=g'.oz:=by rw[hG']
    have M: ∀ B B',B<=B'->xK (g.to B) w (G'.to B') w':=by
     intro B B' hB
     refine⟨?_,fun b k=>?_,fun b k=>?_,E.rows⟩
     ·intro id y k
      simp only[Go.Ab.G.to]at k ⊢
      by_cases qu:id<B
      ·rw[if_pos qu]at k
       rw[if_pos (by omega)]
       exact hm id y k
      ·rw[if_neg qu]at k;cases k
     ·show G'.oz b
      rw[him]
      exact E.oz b k
     ·exact E.wh b (KX b k) (S.hr.tp k)
    refine sim G0 K s (i::D) (i::past) rest G' w' h2 (a.put o.dst x) L ?_
    have MA: ∀ j∈rest.pR,j∈pR++rest.pR:=fun j hj=>List.mem_append_right _ hj
    have KV: ∀ j,c.nM j .al->j∈i::D->j∈D:=by
     intro j hj h
     refine(List.mem_cons.1 h).resolve_left fun e=>?_
     subst e
     cases c.rL pO hj
    exact
    {run:=rO
     stat:=I.stat.2.2.2
     closed:=hC
     DQ:=fun j hj=>by
      rcases I.DQ j hj with h|h
      ·rcases List.mem_cons.1 h with rfl|h
       ·exact .inr List.mem_cons_self
       ·exact .inl h
      ·exact .inr (List.mem_cons_of_mem _ h)
     VQ:=fun j hj h=>by
      rcases List.mem_cons.1 h with rfl|h
      ·
       exact absurd (Gm j (I.stat.2.2.1 j hj)) ES
      ·exact I.VQ j (List.mem_cons_of_mem _ hj) h
     Bd:=fun j hj=>by
      rcases List.mem_cons.1 hj with rfl|hj
      ·exact List.mem_cons_self
      ·exact List.mem_cons_of_mem _ (I.Bd j hj)
     alc:=fun j hj=>by
      rcases I.alc j hj with h|h
      ·rcases List.mem_append.1 h with h|h
       ·exact .inr (List.mem_cons_of_mem _ (Gm j (I.stat.2.1 j h hj)))
       ·exact .inl h
      ·exact .inr (List.mem_cons_of_mem _ h)
     st:=⟨by rw[Bc];exact H',by rw[Bc];exact S.ext.trans E,fun j hj KU HH=>by
      rcases S.KS j hj (KV j HH KU) HH with p|⟨v,cs,b,C,el,vs,vT,WD,h3,h4,h5,h6,h7,h8,h9⟩
      ·exact .inl p
      ·have o5:=(Array.getElem?_eq_some_iff.1 h4).1
       refine .inr ⟨v,cs,b,C,el,vs,vT,WD,hm _ _ h3,by rw[E.wh b o5 h6];exact h4,?_,?_,h7,cJ.o8 (M _ _ (Nat.le_refl _)) _ _ h8,h9⟩
       ·rw[him]
        intro k
        rcases E.Om b k with k|k|k
        ·exact h5 k
        ·exact h6 k
        ·omega
       ·rw[Bc]
        intro k
        rcases E.uU b k with k|k
        ·exact h6 k
        ·omega,fun j hj k hk jD kD jc kc bj bk b mj mk=>by
      have e1: ∀ l∈rest.pR,l∈D->c.nM l .al->c.bd l=c.nx l+1->G'.m (c.nx l)=some (b,0)->g.m (c.nx l)=some (b,0):=by
       intro l hl lD lc lb ml
       have:=c.yk rO l hl lc
       rw[hG']at ml
       simp only at ml
       rw[if_neg (by omega)]at ml
       exact ml
      exact I.st.OW j (MA j hj) k (MA k hk) (KV j jc jD) (KV k kc kD) jc kc bj bk b (e1 j hj (KV j jc jD) jc bj mj) (e1 k hk (KV k kc kD) kc bk mk)⟩
     dom:=fun n y m=>by
      by_cases hn:n<h2.next
      ·exact .inl hn
      ·rw[hG']at m
       simp only at m
       rw[if_neg hn]at m
       obtain⟨_,j,hj,KU,r⟩:=aa4 n y m (by omega)
       exact .inr ⟨j,hj,List.mem_cons_of_mem _ KU,r⟩
     wF:=AE G0 ho I.size I.wF (fun j _=>M _ _ (by omega)) ES (fun d hd=>⟨(hS d hd).1,v,(hS d hd).2,by
      have:max (c.bd i) h2.next=h2.next:=by omega
      rw[this,Bc];exact hv⟩)
     free:=CY ho I.size I.free (M _ _ (by omega))
     size:=by rw[CX];exact I.size
     defers:=by rw[put_defers];exact I.defers}
end Cx
end Go.Ab

noncomputable section
namespace Go.Ab
variable [Io]
def RK:Value->Value->Bool
 | .string a,.string b=>a.data.toList == b.data.toList
 | .pointer none,.pointer none=>true
 | .map none,.map none=>true
 | .nilFunc,.nilFunc=>true
 | .nilIface,.nilIface=>true
 | .slice none n c,.slice none n' c'=>Nat.beq n n'&&Nat.beq c c'
 | _,_=>false
mutual
def uc:AV->AV->Bool
 | .int k n,.int k' n'=>qL k k'&&eqI n n'
 | .bool a,.bool b=> !(xor a b)
 | .sc a,.sc b=>RK a b
 | .agg a,.agg b=>q7 a b
 | .xJ a,.xJ b=>q7 a b
 | .ref i o,.ref i' o'=>Nat.beq i i'&&Nat.beq o o'
 | .oG i o n s,.oG i' o' n' s'=>Nat.beq i i'&&Nat.beq o o'&&Nat.beq n n'&&Nat.beq s s'
 | .sU n a,.sU m b=>Nat.beq n m&&q7 a b
 | .pP a,.pP b=>q7 a b
 | .qi,.qi=>true
 | .uR,.uR=>true
 | .fn f a,.fn f' b=>Nat.beq f f'&&q7 a b
 | .sym k s lo hi o,.sym k' s' nr vk o'=>qL k k'&&(Kv s s'&&(eqI lo nr&&(eqI hi vk&&eqI o o')))
 | .any,.any=>true
 | _,_=>false
def q7:List AV->List AV->Bool
 | [],[]=>true
 |a::l,b::r=>uc a b&&q7 l r
 | _,_=>false
end
omit [Io] in
theorem zl{a b:Int}(h:eqI a b=true):a=b:=by
 cases a<;>cases b<;>simp[eqI]at h<;>simp[h]
omit [Io] in
theorem RL{a b:ByteArray}(h:(a.data.toList == b.data.toList)=true):a=b:=by
 cases a with
 |mk a=>cases b with
  |mk b=>
   congr 1
   exact Array.toList_inj.1 (by simpa using h)
omit [Io] in
theorem RM{a b:Value}(h:RK a b=true):a=b:=by
 unfold RK at h
 split at h
 ·rw[RL h]
 all_goals first|rfl|(cases h;done)|(rw[Bool.and_eq_true]at h;rw[Nat.eq_of_beq_eq_true h.1,Nat.eq_of_beq_eq_true h.2])
section
omit [Io]
mutual
theorem B3: ∀ (a b:AV),uc a b=true->a=b
 | .int k n,b,h=>by cases b<;>simp only[uc,Bool.and_eq_true]at h<;>try cases h
                    rename_i h1 h2
                    rw[oK.1 h1,zl h2]
 | .bool x,b,h=>by cases b<;>simp only[uc]at h<;>try cases h
                   rename_i y
                   cases x<;>cases y<;>first|rfl|cases h
 | .sc x,b,h=>by cases b<;>simp only[uc]at h<;>try cases h
                 rw[RM h]
 | .agg x,b,h=>by cases b<;>simp only[uc]at h<;>try cases h
                  rw[qD _ _ h]
 | .xJ x,b,h=>by cases b<;>simp only[uc]at h<;>try cases h
                 rw[qD _ _ h]
 | .ref i o,b,h=>by cases b<;>simp only[uc,Bool.and_eq_true,Nat.beq_eq]at h<;>try cases h
                    rename_i h1 h2
                    rw[h1,h2]
 | .oG i o n s,b,h=>by cases b<;>simp only[uc,Bool.and_eq_true,Nat.beq_eq]at h<;>try (cases h;done)
                       obtain⟨⟨⟨h1,h2⟩,h3⟩,h4⟩:=h
                       rw[h1,h2,h3,h4]
 | .sU n x,b,h=>by cases b<;>simp only[uc,Bool.and_eq_true,Nat.beq_eq]at h<;>try cases h
                   rename_i h1 h2
                   rw[h1,qD _ _ h2]
 | .pP x,b,h=>by cases b<;>simp only[uc]at h<;>try cases h
                 rw[qD _ _ h]
 | .qi,b,h=>by cases b<;>simp only[uc]at h<;>first|rfl|cases h
 | .uR,b,h=>by cases b<;>simp only[uc]at h<;>first|rfl|cases h
 | .any,b,h=>by cases b<;>simp only[uc]at h<;>first|rfl|cases h
 | .sym k s lo hi o,b,h=>by cases b<;>simp only[uc,Bool.and_eq_true]at h<;>try (cases h;done)
                            obtain⟨h1,h2,h3,h4,h5⟩:=h
                            rw[oK.1 h1,QT h2,zl h3,zl h4,zl h5]
 | .fn f x,b,h=>by cases b<;>simp only[uc,Bool.and_eq_true,Nat.beq_eq]at h<;>try cases h
                   rename_i h1 h2
                   rw[h1,qD _ _ h2]
theorem qD: ∀ (a b:List AV),q7 a b=true->a=b
 | [],b,h=>by cases b with
  |nil=>rfl
  |cons _ _=>simp[q7]at h
 |a::l,b,h=>by
  cases b with
  |nil=>simp[q7]at h
  |cons c r=>
   simp only[q7,Bool.and_eq_true]at h
   rw[B3 _ _ h.1,qD _ _ h.2]
end
end
def ck(s:oI)(f:oH)(k:ud):ud:=fun t h=>Ro.rec Rt.bad (fun v _=>Option.rec Rt.bad (fun u=>Bool.rec Rt.bad (k t h) (uc u v)) (s t)) (f t h)
def mn(f:oH):oH:=fun t h=>Ro.rec Ro.bad (fun v h'=>Bool.rec Ro.bad (Ro.ok v h') (Nat.ble h.next h'.next)) (f t h)
def ahx:Cl->Cl->Bool
 | .p0,.p0| .p1,.p1| .al,.al| .ch,.ch=>true
 | _,_=>false
omit [Io] in
theorem RO{a b:Cl}(h:ahx a b=true):a=b:=by cases a<;>cases b<;>first|rfl|cases h
def sO(i:Nat)(l:List Nat):Bool:=List.rec false (fun a _ ih=>Bool.rec ih true (Nat.beq a i)) l
omit [Io] in
theorem sa{i:Nat}: ∀ {l:List Nat},sO i l=true↔i∈l
 | []=>by simp[sO]
 |a::l=>by
  show(Bool.rec (sO i l) true (Nat.beq a i):Bool)=true↔_
  cases h:Nat.beq a i with
  |true=>
   have:=Nat.eq_of_beq_eq_true h
   subst this
   simp
  |false=>
   have: ¬ i=a:=fun e=>by subst e;simp at h
   simp only[List.mem_cons,this,false_or]
   exact sa
def KY(p:Nat->Bool)(l:List Nat):Bool:=List.rec false (fun a _ ih=>Bool.rec ih true (p a)) l
omit [Io] in
theorem zm{p:Nat->Bool}: ∀ {l:List Nat},KY p l=true↔ ∃ i∈l,p i=true
 | []=>by simp[KY]
 |a::l=>by
  show(Bool.rec (KY p l) true (p a):Bool)=true↔_
  cases h:p a with
  |true=>simp[h]
  |false=>simp only[List.mem_cons,exists_eq_or_imp,h,Bool.false_eq_true,false_or];exact zm
def allI(p:Nat->Oper->Bool)(l:List Oper):Nat->Bool:=
 List.rec (fun _=>true) (fun o _ ih i=>Bool.rec false (ih (Nat.add i 1)) (p i o)) l
omit [Io] in
theorem ET{p:Nat->Oper->Bool}: ∀ {l:List Oper} {k:Nat},allI p l k=true-> ∀ i o,l[i]? =some o->p (k+i) o=true
 | [],k,_,i,o,h=>by simp at h
 |a::l,k,hh,i,o,h=>by
  change (Bool.rec false (allI p l (k+1)) (p k a):Bool)=true at hh
  cases hp:p k a with
  |false=>rw[hp]at hh;cases hh
  |true=>
   rw[hp]at hh
   cases i with
   |zero=>simp at h;subst h;exact hp
   |succ i=>
    have:=ET hh i o (by simpa using h)
    rwa [show k+1+i=k+(i+1) by omega]at this
omit [Io] in
theorem sb{p:Nat->Oper->Bool}{l:List Oper}(h:allI p l 0=true)(i:Nat)(o:Oper)(ho:l[i]? =some o):p i o=true:=by
 have:=ET h i o ho
 simpa using this
def MB(l:List Oper):Bool:=allI (fun i o=>nU (fun e=>Bool.rec true (Nat.blt e.on i) (Region.binds .any e)) o.after.toList) l 0
omit [Io] in
theorem Xl{ops:Array Oper}(h:MB ops.toList=true):Down ops:=by
 intro i o e ho he hb
 have:=sb h i o (by simpa using ho)
 rw[qk,List.all_eq_true]at this
 have:=this e (by simpa using he)
 rw[hb]at this
 exact cP.1 this
def EU(o:Oper)(d:Nat):Bool:=match o.dst with
 |some e=>Nat.beq e d
 |none=>false
omit [Io] in
theorem AF{o:Oper}{d:Nat}(h:o.dst=some d):EU o d=true:=by unfold EU;rw[h];simp
def Xm(l:List Oper):Bool:=allI (fun i o=>match o.dst with
 |some d=>allI (fun j o'=>Bool.rec true (Nat.beq i j) (EU o' d)) l 0
 |none=>true) l 0
section
variable (P:Program)(call:nv)(nt:Nat)(L:List Oper)
def zn(k:Cl)(i:Nat):Bool:=match sI L i with
 |some o=>ahx (vt P call o.op).1 k
 |none=>false
def Kg(cW:List Nat)(i:Nat):Bool:=match sI L i with
 |some o=>nU (fun u=>Nat.blt u nt&&Bool.rec (allI (fun j o'=>Bool.rec true (!sO j cW&&(KP L j i&& !KP L i j)) (EU o' u)) L 0) true (allI (fun j o'=>Bool.rec true (sO j cW&&KP L i j) (EU o' u)) L 0)) (xn L o)
 |none=>false
def Xn(i:Nat)(k:ud):ud:=match sI L i with
 |some o=>match o.dst with
  |some d=>pZ (Nat.blt d nt) (st (sT d) (sE P call nt L o) k) (fun _ _=>.bad)
  |none=>sn (sE P call nt L o) k
 |none=>fun _ _=>.bad
def ac3(i:Nat)(k:ud):ud:=match sI L i with
 |some o=>match o.dst with
  |some d=>pZ (Nat.blt d nt) (ck (oT d) (sE P call nt L o) k) (fun _ _=>.bad)
  |none=>sn (sE P call nt L o) k
 |none=>fun _ _=>.bad
def runM(i:Nat)(k:ud):ud:=match sI L i with
 |some o=>match o.dst with
  |some d=>pZ (Nat.blt d nt) (st (sT d) (mn (sE P call nt L o)) k) (fun _ _=>.bad)
  |none=>sn (mn (sE P call nt L o)) k
 |none=>fun _ _=>.bad
def Iz:List Nat->List Nat->(List Nat->ud)->ud
 | [],cW,k=>k cW
 |i::l,cW,k=>pZ (Kg nt L cW i) (pZ (sO i cW) (pZ (zn P call L .p1 i) (ac3 P call nt L i (Iz l cW k)) (fun _ _=>.bad))
  (pZ (zn P call L .p0 i||zn P call L .p1 i) (Xn P call nt L i (Iz l (i::cW) k)) (fun _ _=>.bad))) (fun _ _=>.bad)
def KZ:List Nat->List Nat->(List Nat->ud)->ud
 | [],cW,k=>k cW
 |i::l,cW,k=>pZ (Kg nt L cW i&&(!sO i cW&&(zn P call L .p0 i||zn P call L .al i))) (Xn P call nt L i (KZ l (i::cW) k)) (fun _ _=>.bad)
def uY:ta->List Nat->ud
 | .last pre pR,cW=>Iz P call nt L pre cW fun cW=>KZ P call nt L pR cW fun cW=>pZ (allI (fun i _=>sO i cW) L 0) fi (fun _ _=>.bad)
 | .cons pre pR q rest,cW=>Iz P call nt L pre cW fun cW=>KZ P call nt L pR cW fun cW=>
   pZ (Kg nt L cW q&&(!sO q cW&&zn P call L .ch q)) (runM P call nt L q (uY rest (q::cW))) (fun _ _=>.bad)
def EW:ta->List Nat->Bool
 | .last pre _,past=>allI (fun i _=>Bool.rec true (KY (fun j=>KP L j i) past||sO i pre) (zn P call L .p1 i)) L 0
 | .cons pre pR q rest,past=>allI (fun i _=>Bool.rec true (KY (fun j=>KP L j i) past||(KY (fun j=>KP L i j) (q::rest.DQ)||sO i pre)) (zn P call L .p1 i)) L 0&&
   (nU (fun i=>Bool.rec true (KP L q i) (zn P call L .al i)) pR&&(nU (fun q'=>KP L q' q) rest.DQ&&EW rest (q::past)))
end
end Go.Ab

noncomputable section
namespace Go.Ab
variable [Io]
section
variable {P:Program}{call:nv}
def P9(f:oH):Prop:= ∀ t h v h',f t h=.ok v h'->h'=h
omit [Io] in
theorem Gn{b:Bool}{x:Ro}{v:AV}{h:Hp}(e:(bif b then x else .bad)=.ok v h):x=.ok v h:=by cases b;cases e;exact e
omit [Io] in
theorem tO:P9 cY:=by intro t h v h' e;cases e
omit [Io] in
theorem RP{c:Bool}{f:oH}(i:P9 f):P9 (pZ c f cY):=by cases c;exact tO;exact i
omit [Io] in
theorem Xo{n:Nat}{b:Bool}{x:oI}:P9 (r8 n b x):=by
 intro t h v h' e
 unfold r8 at e
 split at e
 ·split at e
  ·cases e;rfl
  ·cases e
 ·cases e
omit [Io] in
theorem OZ{x:oI}{lo hi:Option oI}:P9 (rb x lo hi):=by
 intro t h v h' e
 unfold rb at e
 split at e
 ·split at e
  ·cases e;rfl
  ·cases e
 ·cases e
omit [Io] in
theorem RQ{n:Nat}{x:oI}{lo hi:Option oI}:P9 (uC n x lo hi):=by
 intro t h v h' e
 unfold uC at e
 split at e
 ·split at e
  ·cases e;rfl
  ·cases e
 ·split at e
  ·have e:=Gn e
   cases e;rfl
  ·cases e
 ·split at e
  ·cases e;rfl
  ·cases e
 ·cases e
omit [Io] in
theorem O0{n:Nat}{x:oI}{lo hi:Option oI}:P9 (o6 n x lo hi):=by
 intro t h v h' e
 unfold o6 at e
 split at e
 ·rename_i a hx
  cases hE:yc a with
  |false=>rw[hE]at e;exact RQ _ _ _ _ e
  |true=>
   rw[hE]at e
   simp only[cond_true]at e
   split at e
   ·cases e;rfl
   ·cases e
 ·cases e
omit [Io] in
theorem O2{n m:Nat}{x:oI}{lo hi:Option oI}:P9 (qj n m x lo hi):=by
 intro t h v h' e
 unfold qj at e
 split at e
 ·split at e
  ·split at e
   ·have e:=Gn e
    cases e;rfl
   ·cases e
  ·cases e
 ·cases e
omit [Io] in
theorem ac4{x y z:oI}:P9 (CA x y z):=by
 intro t h v h' e
 unfold CA at e
 split at e
 ·split at e
  ·have e:=Gn e
   split at e
   ·cases e;rfl
   ·cases e;rfl
   ·cases e;rfl
   ·cases e
  ·cases e
 ·cases e
omit [Io] in
theorem ac5{o:Op}(hc:(vt P call o).1=.p1):P9 (vt P call o).2:=by
 cases o<;>simp only[vt]at hc ⊢
 case load T x=>
  unfold Ij
  split
  ·split
   ·exact Xo
   ·exact tO
  ·exact tO
 case slice T x lo hi mx=>
  cases mx with
  |some m=>
   simp only
   unfold zf
   split
   ·split
    ·split
     ·exact ac4
     ·exact tO
    ·exact tO
   ·exact tO
  |none=>
   simp only
   unfold CO
   split
   ·exact OZ
   ·split
    ·exact O0
    ·exact tO
   ·split
    ·exact RP O2
    ·exact tO
   ·exact tO
 case binOp op T x y yT=>cases h:Ii P op T<;>rw[h]at hc<;>cases hc
 case unOp op T x=>cases h:cUn op<;>rw[h]at hc<;>cases hc
 case convert S D x=>
  cases h:P.underlying D with
  |none=>rw[h]at hc;cases hc
  |some d=>cases d<;>rw[h]at hc<;>cases hc
 case makeFunc f first caps=>
  cases f<;>try (cases hc;done)
  simp only at hc
  cases h:first.toList<;>rw[h]at hc<;>cases hc
 case makeMap T r=>cases r<;>cases hc
 case call c=>cases h:qB P c<;>rw[h]at hc<;>cases hc
 all_goals (cases hc)
omit [Io] in
theorem RR{nt:Nat}{all:List Oper}{o:Oper}(pO:(vt P call o.op).1=.p1):P9 (sE P call nt all o):=by
 have hf:P9 (vt P call o.op).2:=ac5 pO
 unfold sE
 cases o.guard with
 |none=>exact hf
 |some p=>
  obtain⟨j,want⟩:=p
  simp only
  split
  ·split
   ·refine RP ?_
    intro t h v h' e
    unfold gF at e
    split at e
    ·rename_i b _
     cases hw:pZ want b (!b)with
     |false=>rw[hw]at e;cases e;rfl
     |true=>rw[hw]at e;exact hf t h v h' e
    ·cases e;rfl
    ·cases e
   ·exact tO
  ·exact tO
end
omit [Io] in
theorem uZ{b x:Bool}(h:(Bool.rec true x b:Bool)=true)(hb:b=true):x=true:=by subst hb;exact h
namespace Cx
variable {c:Cx}
omit [Io] in
theorem rU{k:Cl}{i:Nat}:zn c.P c.call c.ops.toList k i=true↔c.nM i k:=by
 unfold zn nM
 rw[pI]
 constructor
 ·intro h
  split at h
  ·rename_i o ho
   exact⟨o,by simpa using ho,RO h⟩
  ·cases h
 ·rintro⟨o,ho,hk⟩
  have:c.ops.toList[i]? =some o:=by simpa using ho
  rw[this,<-hk]
  simp only
  cases(vt c.P c.call o.op).1<;>rfl
omit [Io] in
theorem CZ{cW:List Nat}{i:Nat}(h:Kg c.nt c.ops.toList cW i=true): ∀ u∈c.VP i,u<c.nt/\((∀ j,c.tv j u->j∈cW/\c.An i j)∨ ∀ j,c.tv j u->j∉cW/\c.An j i/\ ¬ c.An i j):=by
 unfold Kg at h
 rw[pI]at h
 unfold VP
 intro u hu
 cases ho:c.ops[i]? with
 |none=>rw[ho]at hu;cases hu
 |some o=>
  rw[ho]at hu
  have:c.ops.toList[i]? =some o:=by simpa using ho
  rw[this]at h
  simp only[qk,List.all_eq_true]at h
  have:=h u hu
  rw[Bool.and_eq_true]at this
  refine⟨cP.1 this.1,?_⟩
  cases h1:allI (fun j o'=>Bool.rec true (sO j cW&&KP c.ops.toList i j) (EU o' u)) c.ops.toList 0 with
  |true=>
   refine .inl ?_
   rintro j ⟨oj,hoj,hd⟩
   have h2:=uZ (sb h1 j oj (by simpa using hoj)) (AF hd)
   rw[Bool.and_eq_true,sa]at h2
   exact h2
  |false=>
   rw[h1]at this
   refine .inr ?_
   rintro j ⟨oj,hoj,hd⟩
   have h2:=uZ (sb this.2 j oj (by simpa using hoj)) (AF hd)
   simp only[Bool.and_eq_true,Bool.not_eq_true']at h2
   refine⟨fun k=>?_,h2.2.1,fun k=>?_⟩
   ·rw[sa.2 k]at h2;cases h2.1
   ·unfold An at k;rw[k]at h2;cases h2.2.2
def Cov(c:Cx)(cW:List Nat)(u:Nat):Prop:= ∀ j,c.tv j u->j∈cW
def FrO(c:Cx)(cW:List Nat)(t:Tm):Prop:= ∀ u,u<512->(∀ j,c.tv j u->j∉cW)->t.at u=c.t0.at u
def Fr(c:Cx)(cW:List Nat)(t:Tm):Prop:= ∀ u,u<512->c.Cov cW u->c.te.at u=t.at u
omit [Io] in
theorem zq{i:Nat}{k:ud}{t:Tm}{h:Hp}{te:Tm}{hE:Hp}(e:Xn c.P c.call c.nt c.ops.toList i k t h=.ok te hE):
 ∃ o v h1 t1,c.ops[i]? =some o/\sE c.P c.call c.nt c.ops.toList o t h=.ok v h1/\k t1 h1=.ok te hE/\((∃ d,o.dst=some d/\d<c.nt/\t1=sT d v t)∨(o.dst=none/\t1=t)):=by
 unfold Xn at e
 rw[pI]at e
 cases ho:c.ops.toList[i]? with
 |none=>rw[ho]at e;cases e
 |some o=>
  rw[ho]at e
  simp only at e
  have tw:c.ops[i]? =some o:=by simpa using ho
  cases hd:o.dst with
  |none=>
   rw[hd]at e
   change sn (sE c.P c.call c.nt c.ops.toList o) k t h=_ at e
   unfold sn at e
   cases hg:sE c.P c.call c.nt c.ops.toList o t h with
   |bad=>rw[hg]at e;cases e
   |ok v h1=>rw[hg]at e;exact⟨o,v,h1,t,tw,hg,e,.inr ⟨hd,rfl⟩⟩
  |some d=>
   rw[hd]at e
   simp only at e
   cases hb:Nat.blt d c.nt with
   |false=>rw[hb]at e;cases e
   |true=>
    rw[hb]at e
    change st (sT d) (sE c.P c.call c.nt c.ops.toList o) k t h=_ at e
    unfold st at e
    cases hg:sE c.P c.call c.nt c.ops.toList o t h with
    |bad=>rw[hg]at e;cases e
    |ok v h1=>rw[hg]at e;exact⟨o,v,h1,_,tw,hg,e,.inl ⟨d,hd,cP.1 hb,rfl⟩⟩
omit [Io] in
theorem MC{f:oH}{t:Tm}{h h':Hp}{v:AV}(e:mn f t h=.ok v h'):f t h=.ok v h'/\h.next<=h'.next:=by
 unfold mn at e
 cases hf:f t h with
 |bad=>rw[hf]at e;cases e
 |ok v1 h1=>
  rw[hf]at e
  change (Bool.rec Ro.bad (Ro.ok v1 h1) (Nat.ble h.next h1.next):Ro)=_ at e
  cases hb:Nat.ble h.next h1.next with
  |false=>rw[hb]at e;cases e
  |true=>rw[hb]at e;cases e;exact⟨rfl,Nat.ble_eq.mp hb⟩
omit [Io] in
theorem IA{i:Nat}{k:ud}{t:Tm}{h:Hp}{te:Tm}{hE:Hp}(e:runM c.P c.call c.nt c.ops.toList i k t h=.ok te hE):
 ∃ o v h1 t1,c.ops[i]? =some o/\sE c.P c.call c.nt c.ops.toList o t h=.ok v h1/\h.next<=h1.next/\k t1 h1=.ok te hE/\((∃ d,o.dst=some d/\d<c.nt/\t1=sT d v t)∨(o.dst=none/\t1=t)):=by
 unfold runM at e
 rw[pI]at e
 cases ho:c.ops.toList[i]? with
 |none=>rw[ho]at e;cases e
 |some o=>
  rw[ho]at e
  simp only at e
  have tw:c.ops[i]? =some o:=by simpa using ho
  cases hd:o.dst with
  |none=>
   rw[hd]at e
   change sn (mn (sE c.P c.call c.nt c.ops.toList o)) k t h=_ at e
   unfold sn at e
   cases hg:mn (sE c.P c.call c.nt c.ops.toList o) t h with
   |bad=>rw[hg]at e;cases e
   |ok v h1=>rw[hg]at e;exact⟨o,v,h1,t,tw,(MC hg).1,(MC hg).2,e,.inr ⟨hd,rfl⟩⟩
  |some d=>
   rw[hd]at e
   simp only at e
   cases hb:Nat.blt d c.nt with
   |false=>rw[hb]at e;cases e
   |true=>
    rw[hb]at e
    change st (sT d) (mn (sE c.P c.call c.nt c.ops.toList o)) k t h=_ at e
    unfold st at e
    cases hg:mn (sE c.P c.call c.nt c.ops.toList o) t h with
    |bad=>rw[hg]at e;cases e
    |ok v h1=>rw[hg]at e;exact⟨o,v,h1,_,tw,(MC hg).1,(MC hg).2,e,.inl ⟨d,hd,cP.1 hb,rfl⟩⟩
omit [Io] in
theorem IB{i:Nat}{k:ud}{t:Tm}{h:Hp}{te:Tm}{hE:Hp}(hc:c.nM i .p1)(e:ac3 c.P c.call c.nt c.ops.toList i k t h=.ok te hE):
 ∃ o v,c.ops[i]? =some o/\sE c.P c.call c.nt c.ops.toList o t h=.ok v h/\k t h=.ok te hE/\ ∀ d,o.dst=some d->d<c.nt/\t.at d=some v:=by
 unfold ac3 at e
 rw[pI]at e
 cases ho:c.ops.toList[i]? with
 |none=>rw[ho]at e;cases e
 |some o=>
  rw[ho]at e
  simp only at e
  have tw:c.ops[i]? =some o:=by simpa using ho
  have hlv: ∀ v h1,sE c.P c.call c.nt c.ops.toList o t h=.ok v h1->h1=h:=by
   intro v h1 hg
   obtain⟨o',vT,WD⟩:=hc
   rw[tw]at vT
   cases vT
   exact RR WD _ _ _ _ hg
  cases hd:o.dst with
  |none=>
   rw[hd]at e
   change sn (sE c.P c.call c.nt c.ops.toList o) k t h=_ at e
   unfold sn at e
   cases hg:sE c.P c.call c.nt c.ops.toList o t h with
   |bad=>rw[hg]at e;cases e
   |ok v h1=>
    rw[hg]at e
    obtain rfl:=hlv v h1 hg
    exact⟨o,v,tw,hg,e,fun d h=>by rw[hd]at h;cases h⟩
  |some d=>
   rw[hd]at e
   simp only at e
   cases hb:Nat.blt d c.nt with
   |false=>rw[hb]at e;cases e
   |true=>
    rw[hb]at e
    change ck (oT d) (sE c.P c.call c.nt c.ops.toList o) k t h=_ at e
    unfold ck at e
    cases hg:sE c.P c.call c.nt c.ops.toList o t h with
    |bad=>rw[hg]at e;cases e
    |ok v h1=>
     rw[hg]at e
     obtain rfl:=hlv v h1 hg
     change (Option.rec Rt.bad (fun u=>Bool.rec Rt.bad (k t h1) (uc u v)) (t.at d):Rt)=_ at e
     cases ht:t.at d with
     |none=>rw[ht]at e;cases e
     |some u=>
      rw[ht]at e
      change (Bool.rec Rt.bad (k t h1) (uc u v):Rt)=_ at e
      cases hq:uc u v with
      |false=>rw[hq]at e;cases e
      |true=>
       rw[hq]at e
       obtain rfl:=B3 _ _ hq
       exact⟨o,u,tw,hg,e,fun d' h=>by rw[hd]at h;cases h;exact⟨cP.1 hb,ht⟩⟩
omit [Io] in
theorem zt{cW:List Nat}{i:Nat}{o:Oper}{t t1:Tm}{v:AV}(qM:c.nt<=512)(ho:c.ops[i]? =some o)(hi:i∉cW)
 (ht:(∃ d,o.dst=some d/\d<c.nt/\t1=sT d v t)∨(o.dst=none/\t1=t))(F:c.Fr (i::cW) t1):c.Fr cW t:=by
 intro u hu hc
 rw[F u hu (fun j hj=>List.mem_cons_of_mem _ (hc j hj))]
 rcases ht with⟨d,hd,P7,rfl⟩|⟨_,rfl⟩
 ·show(Tm.put t d (some v)).at u=t.at u
  rw[Tm.qP _ _ _ _ (Nat.lt_of_lt_of_le P7 qM) hu,if_neg]
  intro e
  subst e
  exact hi (hc i ⟨o,ho,hd⟩)
 ·rfl
omit [Io] in
theorem u6{i:Nat}{l:List Nat}(h:sO i l=false):i∉l:=fun k=>by rw[sa.2 k]at h;cases h
omit [Io] in
theorem xp(qM:c.nt<=512){k:List Nat->ud}(hk: ∀ cW t h,k cW t h=.ok c.te c.hE->c.Fr cW t): ∀ (pre cW:List Nat) (t:Tm) (h:Hp),
 Iz c.P c.call c.nt c.ops.toList pre cW k t h=.ok c.te c.hE->c.Fr cW t
 | [],cW,t,h,e=>hk cW t h e
 |i::l,cW,t,h,e=>by
  unfold Iz at e
  cases h1:Kg c.nt c.ops.toList cW i with
  |false=>rw[h1]at e;cases e
  |true=>
  rw[h1]at e
  simp only[pZ]at e
  cases h2:sO i cW with
  |true=>
   rw[h2]at e
   cases h3:zn c.P c.call c.ops.toList .p1 i with
   |false=>rw[h3]at e;cases e
   |true=>
    rw[h3]at e
    obtain⟨o,v,_,_,e,_⟩:=IB (rU.1 h3) e
    exact xp qM hk l cW t h e
  |false=>
   rw[h2]at e
   cases h3:(zn c.P c.call c.ops.toList .p0 i||zn c.P c.call c.ops.toList .p1 i)with
   |false=>rw[h3]at e;cases e
   |true=>
    rw[h3]at e
    obtain⟨o,v,vT,t1,ho,_,e,ht⟩:=zq e
    exact zt qM ho (u6 h2) ht (xp qM hk l (i::cW) t1 vT e)
omit [Io] in
theorem vz(qM:c.nt<=512){k:List Nat->ud}(hk: ∀ cW t h,k cW t h=.ok c.te c.hE->c.Fr cW t): ∀ (pR cW:List Nat) (t:Tm) (h:Hp),
 KZ c.P c.call c.nt c.ops.toList pR cW k t h=.ok c.te c.hE->c.Fr cW t
 | [],cW,t,h,e=>hk cW t h e
 |i::l,cW,t,h,e=>by
  unfold KZ at e
  cases h1:(Kg c.nt c.ops.toList cW i&&(!sO i cW&&(zn c.P c.call c.ops.toList .p0 i||zn c.P c.call c.ops.toList .al i)))with
  |false=>rw[h1]at e;cases e
  |true=>
   rw[h1]at e
   simp only[pZ]at e
   simp only[Bool.and_eq_true,Bool.not_eq_true']at h1
   obtain⟨o,v,vT,t1,ho,_,e,ht⟩:=zq e
   exact zt qM ho (u6 h1.2.1) ht (vz qM hk l (i::cW) t1 vT e)
omit [Io] in
theorem zu(qM:c.nt<=512): ∀ (pl:ta) (cW:List Nat) (t:Tm) (h:Hp),uY c.P c.call c.nt c.ops.toList pl cW t h=.ok c.te c.hE->c.Fr cW t
 | .last pre pR,cW,t,h,e=>by
  unfold uY at e
  refine xp qM (fun cW t h e=>?_) pre cW t h e
  refine vz qM (fun cW t h e=>?_) pR cW t h e
  cases hb:allI (fun i _=>sO i cW) c.ops.toList 0 with
  |false=>rw[hb]at e;cases e
  |true=>
   rw[hb]at e
   obtain⟨rfl,_⟩:=Rt.ok.inj e
   exact fun u _ _=>rfl
 | .cons pre pR q rest,cW,t,h,e=>by
  unfold uY at e
  refine xp qM (fun cW t h e=>?_) pre cW t h e
  refine vz qM (fun cW t h e=>?_) pR cW t h e
  cases h1:(Kg c.nt c.ops.toList cW q&&(!sO q cW&&zn c.P c.call c.ops.toList .ch q))with
  |false=>rw[h1]at e;cases e
  |true=>
   rw[h1]at e
   simp only[pZ]at e
   simp only[Bool.and_eq_true,Bool.not_eq_true']at h1
   obtain⟨o,v,vT,t1,ho,_,_,e,ht⟩:=IA e
   exact zt qM ho (u6 h1.2.1) ht (zu qM rest (q::cW) t1 vT e)
omit [Io] in
theorem C1{cW:List Nat}{i:Nat}{o:Oper}{t t1:Tm}{v:AV}(qM:c.nt<=512)(ho:c.ops[i]? =some o)
 (ht:(∃ d,o.dst=some d/\d<c.nt/\t1=sT d v t)∨(o.dst=none/\t1=t))(F:c.FrO cW t):c.FrO (i::cW) t1:=by
 intro u hu hc
 rw[<-F u hu (fun j hj k=>hc j hj (List.mem_cons_of_mem _ k))]
 rcases ht with⟨d,hd,P7,rfl⟩|⟨_,rfl⟩
 ·show(Tm.put t d (some v)).at u=t.at u
  rw[Tm.qP _ _ _ _ (Nat.lt_of_lt_of_le P7 qM) hu,if_neg]
  intro e
  subst e
  exact hc i ⟨o,ho,hd⟩ List.mem_cons_self
 ·rfl
omit [Io] in
theorem ahy{i u:Nat}(o5: ∀ u∈c.VP i,u<512)(hu:u∈c.VP i):((∃ j,c.tv j u/\c.An i j)/\(c.rf i).at u=c.te.at u)∨((¬ ∃ j,c.tv j u/\c.An i j)/\(c.rf i).at u=c.t0.at u):=by
 have key: ∀ (l:List Nat),(∀ u∈l,u<512)->u∈l->((∃ j,c.tv j u/\c.An i j)/\(c.P8 i l).at u=c.te.at u)∨((¬ ∃ j,c.tv j u/\c.An i j)/\(c.P8 i l).at u=c.t0.at u):=by
  intro l
  induction l with
  |nil=>intro _ h;cases h
  |cons x l ih=>
   intro hl hm
   rw[P8,Tm.qP _ _ _ _ (hl x List.mem_cons_self) (hl u hm)]
   by_cases hx:u=x
   ·subst hx
    rw[if_pos rfl]
    by_cases hw: ∃ j,c.tv j u/\c.An i j
    ·rw[if_pos hw];exact .inl ⟨hw,rfl⟩
    ·rw[if_neg hw];exact .inr ⟨hw,rfl⟩
   ·rw[if_neg hx]
    exact ih (fun y hy=>hl y (List.mem_cons_of_mem _ hy)) ((List.mem_cons.1 hm).resolve_left hx)
 exact key _ o5 hu
omit [Io] in
theorem IC{cW:List Nat}{i:Nat}{o:Oper}{t:Tm}{h h1:Hp}{v:AV}(qM:c.nt<=512)(pS: ∀ u,u<512->(∀ j,¬ c.tv j u)->c.te.at u=c.t0.at u)(F:c.Fr cW t)(hO:c.FrO cW t)(ho:c.ops[i]? =some o)(hr:Kg c.nt c.ops.toList cW i=true)
 (e:sE c.P c.call c.nt c.ops.toList o t h=.ok v h1):c.FE i (c.rf i) h=.ok v h1:=by
 rw[Be ho,<-e]
 refine Xc fun u hu=>?_
 rw[<-acZ ho]at hu
 have o5: ∀ u∈c.VP i,u<512:=fun u hu=>Nat.lt_of_lt_of_le (CZ hr u hu).1 qM
 obtain⟨_,VO⟩:=CZ hr u hu
 rcases ahy o5 hu with⟨⟨j,hj,hA⟩,er⟩|⟨hno,er⟩
 ·rw[er]
  rcases VO with h1|h1
  ·exact F u (o5 u hu) (fun j hj=>(h1 j hj).1)
  ·exact absurd hA (h1 j hj).2.2
 ·rw[er]
  rcases VO with h1|h1
  ·have hn: ∀ j,¬ c.tv j u:=fun j hj=>hno ⟨j,hj,(h1 j hj).2⟩
   rw[<-pS u (o5 u hu) hn]
   exact F u (o5 u hu) (fun j hj=>absurd hj (hn j))
  ·exact(hO u (o5 u hu) (fun j hj=>(h1 j hj).1)).symm
omit [Io] in
theorem AG{cW:List Nat}{i:Nat}{o:Oper}{t t1:Tm}{v:AV}(qM:c.nt<=512)(HI: ∀ i j d,c.tv i d->c.tv j d->i=j)(ho:c.ops[i]? =some o)
 (ht:(∃ d,o.dst=some d/\d<c.nt/\t1=sT d v t)∨(o.dst=none/\t1=t))(F:c.Fr (i::cW) t1):c.Slot i v:=by
 intro d hd
 obtain⟨o',tw,KT⟩:=id hd
 rw[ho]at tw
 cases tw
 rcases ht with⟨d2,Mh,P7,rfl⟩|⟨hn,_⟩
 ·rw[KT]at Mh
  cases Mh
  refine⟨P7,?_⟩
  rw[F d (Nat.lt_of_lt_of_le P7 qM) (fun j hj=>by rw[HI j i d hj hd];exact List.mem_cons_self)]
  show(Tm.put t d (some v)).at d=_
  rw[Tm.qP _ _ _ _ (Nat.lt_of_lt_of_le P7 qM) (Nat.lt_of_lt_of_le P7 qM),if_pos rfl]
 ·rw[KT]at hn;cases hn
end Cx
end Go.Ab

noncomputable section
namespace Go.Ab
variable [Io]
namespace Cx
def wi(c:Cx)(nx bd:Nat->Nat):Cx:={c with nx:=nx,bd:=bd}
def GI(c:Cx)(i:Nat):Prop:=
 (c.nM i .p0-> ∃ v,(∀ h,c.FE i (c.rf i) h=.ok v h)/\c.Slot i v/\c.vw i (c.bd i))/\
 (c.nM i .al-> ∃ v,c.Slot i v/\c.vw i (c.nx i)/\((c.FE i (c.rf i) (pf (c.nx i))=.ok v (pf (c.nx i))/\c.bd i=c.nx i)∨
  ∃ cs,c.FE i (c.rf i) (pf (c.nx i))=.ok v (nJ (pf (c.nx i)) cs)/\c.bd i=c.nx i+1))
def qK(f:Nat->Nat)(i n:Nat):Nat->Nat:=fun j=>if j=i then n else f j
omit [Io] in
theorem nQ{f:Nat->Nat}{i n:Nat}:qK f i n i=n:=if_pos rfl
omit [Io] in
theorem nS{f:Nat->Nat}{i n j:Nat}(h:j≠i):qK f i n j=f j:=if_neg h
variable {c:Cx}
omit [Io] in
theorem RS{nx bd:Nat->Nat}{i:Nat}: ∀ (l:List Nat),(c.wi nx bd).P8 i l=c.P8 i l
 | []=>rfl
 |u::l=>by
  rw[P8,P8,RS l]
  rfl
omit [Io] in
theorem ID{nx bd:Nat->Nat}{i:Nat}:(c.wi nx bd).rf i=c.rf i:=RS _
omit [Io] in
theorem MD{cW:List Nat}{i N:Nat}(hr:Kg c.nt c.ops.toList cW i=true)(hb: ∀ j∈cW,c.bd j<=N):c.vw i N:=by
 intro u hu
 obtain⟨h1,h2⟩:=CZ hr u hu
 exact⟨h1,h2.imp (fun h j hj=>⟨(h j hj).2,hb j (h j hj).1⟩) (fun h j hj=>(h j hj).2.1)⟩
omit [Io] in
theorem B4(qM:c.nt<=512)(pS: ∀ u,u<512->(∀ j,¬ c.tv j u)->c.te.at u=c.t0.at u)(HI: ∀ i j d,c.tv i d->c.tv j d->i=j){k:List Nat->ud}(hk: ∀ cW t h,k cW t h=.ok c.te c.hE->c.Fr cW t)
 {Φ:(Nat->Nat)->(Nat->Nat)->List Nat->Prop}{h:Hp}
 (ih: ∀ (cW:List Nat) (t:Tm) (xM vU:Nat->Nat),k cW t h=.ok c.te c.hE->c.FrO cW t->(∀ j∈cW,vU j<=h.next)-> ∃ nx bd,(∀ j∈cW,nx j=xM j/\bd j=vU j)/\Φ nx bd cW):
 ∀ (pre cW:List Nat) (t:Tm) (xM vU:Nat->Nat),Iz c.P c.call c.nt c.ops.toList pre cW k t h=.ok c.te c.hE->c.FrO cW t->(∀ j∈cW,vU j<=h.next)->
  ∃ nx bd,(∀ j∈cW,nx j=xM j/\bd j=vU j)/\(c.wi nx bd).P1s pre h/\ ∃ wb,Φ nx bd wb/\ ∀ i∈wb,i∈cW∨((c.wi nx bd).GI i/\(c.nM i .p0∨c.nM i .p1))
 | [],cW,t,xM,vU,e,hO,hb=>by
  obtain⟨nx,bd,h1,h2⟩:=ih cW t xM vU e hO hb
  exact⟨nx,bd,h1,(fun i hi=>by cases hi),cW,h2,fun i hi=>.inl hi⟩
 |i::l,cW,t,xM,vU,e,hO,hb=>by
  have F:=xp qM hk (i::l) cW t h e
  unfold Iz at e
  cases h1:Kg c.nt c.ops.toList cW i with
  |false=>rw[h1]at e;cases e
  |true=>
  rw[h1]at e
  simp only[pZ]at e
  cases h2:sO i cW with
  |true=>
   rw[h2]at e
   cases h3:zn c.P c.call c.ops.toList .p1 i with
   |false=>rw[h3]at e;cases e
   |true=>
    rw[h3]at e
    obtain⟨o,v,ho,hg,e,hs⟩:=IB (rU.1 h3) e
    obtain⟨nx,bd,a1,a2,wb,a3,a4⟩:=B4 qM pS HI hk ih l cW t xM vU e hO hb
    refine⟨nx,bd,a1,fun j hj hc=>?_,wb,a3,a4⟩
    rcases List.mem_cons.1 hj with rfl|hj
    ·refine⟨v,IC qM pS F hO ho h1 hg,?_,MD (c:=c.wi nx bd) h1 (fun j hj=>by show bd j<=_;rw[(a1 j hj).2];exact hb j hj)⟩
     intro d hd
     obtain⟨o',tw,KT⟩:=id hd
     have RT:c.ops[j]? =some o':=tw
     rw[ho]at RT
     cases RT
     obtain⟨s1,s2⟩:=hs d KT
     refine⟨s1,?_⟩
     show c.te.at d=_
     rw[F d (Nat.lt_of_lt_of_le s1 qM) (fun x hx=>by rw[HI x j d hx hd];exact sa.1 h2)]
     exact s2
    ·exact a2 j hj hc
  |false=>
   rw[h2]at e
   have hni:=u6 h2
   cases h3:(zn c.P c.call c.ops.toList .p0 i||zn c.P c.call c.ops.toList .p1 i)with
   |false=>rw[h3]at e;cases e
   |true=>
    rw[h3]at e
    have pO:c.nM i .p0∨c.nM i .p1:=by
     rw[Bool.or_eq_true]at h3
     exact h3.imp rU.1 rU.1
    obtain⟨o,v,vT,t1,ho,hg,e2,ht⟩:=zq e
    clear e
    have hlv:vT=h:=by
     rcases pO with⟨o',tw,IE⟩|⟨o',tw,IE⟩
     ·rw[ho]at tw;cases tw
      exact((zi IE).ok hg).1
     ·rw[ho]at tw;cases tw
      exact RR IE _ _ _ _ hg
    subst hlv
    have vi: ∀ j∈cW,j≠i:=fun j hj e=>hni (e▸hj)
    obtain⟨nx,bd,a1,a2,wb,a3,a4⟩:=B4 qM pS HI hk ih l (i::cW) t1 (qK xM i vT.next) (qK vU i vT.next) e2 (C1 qM ho ht hO) (fun j hj=>by
     rcases List.mem_cons.1 hj with rfl|hj
     ·rw[nQ];exact Nat.le_refl _
     ·rw[nS (vi j hj)];exact hb j hj)
    have agree: ∀ j∈cW,nx j=xM j/\bd j=vU j:=fun j hj=>by
     have:=a1 j (List.mem_cons_of_mem _ hj)
     rwa [nS (vi j hj),nS (vi j hj)]at this
    have hbi:bd i=vT.next:=by
     have:=(a1 i List.mem_cons_self).2
     rwa [nQ]at this
    have hrd:(c.wi nx bd).vw i vT.next:=MD (c:=c.wi nx bd) h1 (fun j hj=>by show bd j<=_;rw[(agree j hj).2];exact hb j hj)
    have oG:c.Slot i v:=AG qM HI ho ht (xp qM hk l (i::cW) t1 vT e2)
    refine⟨nx,bd,agree,fun j hj hc=>?_,wb,a3,fun j hj=>?_⟩
    ·rcases List.mem_cons.1 hj with rfl|hj
     ·exact⟨v,IC qM pS F hO ho h1 hg,oG,hrd⟩
     ·exact a2 j hj hc
    ·rcases a4 j hj with h|h
     ·rcases List.mem_cons.1 h with rfl|h
      ·refine .inr ⟨⟨fun hc=>⟨v,?_,oG,?_⟩,fun hc=>?_⟩,pO⟩
       ·obtain⟨o',tw,IE⟩:=hc
        have RT:c.ops[j]? =some o':=tw
        rw[ho]at RT
        cases RT
        intro h0
        rw[ID]
        show c.FE j (c.rf j) h0=_
        have:=IC qM pS F hO ho h1 hg
        rw[Be ho]at this ⊢
        exact((zi IE).ok this).2 h0
       ·show Cx.vw _ j (bd j)
        rw[hbi];exact hrd
       ·rcases pO with h|h<;>cases c.rL h hc
      ·exact .inl h
     ·exact .inr h
omit [Io] in
theorem Gp(qM:c.nt<=512)(pS: ∀ u,u<512->(∀ j,¬ c.tv j u)->c.te.at u=c.t0.at u)(HI: ∀ i j d,c.tv i d->c.tv j d->i=j){k:List Nat->ud}(hk: ∀ cW t h,k cW t h=.ok c.te c.hE->c.Fr cW t)
 {Φ:(Nat->Nat)->(Nat->Nat)->List Nat->Hp->Prop}
 (ih: ∀ (cW:List Nat) (t:Tm) (h:Hp) (xM vU:Nat->Nat),k cW t h=.ok c.te c.hE->c.FrO cW t->(∀ j∈cW,vU j<=h.next)-> ∃ nx bd,(∀ j∈cW,nx j=xM j/\bd j=vU j)/\Φ nx bd cW h):
 ∀ (pR cW:List Nat) (t:Tm) (h:Hp) (xM vU:Nat->Nat),KZ c.P c.call c.nt c.ops.toList pR cW k t h=.ok c.te c.hE->c.FrO cW t->(∀ j∈cW,vU j<=h.next)->
  ∃ nx bd,(∀ j∈cW,nx j=xM j/\bd j=vU j)/\ ∃ h1 wb,(c.wi nx bd).Bz pR h h1/\Φ nx bd wb h1/\ ∀ i∈wb,i∈cW∨((c.wi nx bd).GI i/\i∈pR/\(c.nM i .p0∨c.nM i .al))
 | [],cW,t,h,xM,vU,e,hO,hb=>by
  obtain⟨nx,bd,h1,h2⟩:=ih cW t h xM vU e hO hb
  exact⟨nx,bd,h1,h,cW,rfl,h2,fun i hi=>.inl hi⟩
 |i::l,cW,t,h,xM,vU,e,hO,hb=>by
  have F:=vz qM hk (i::l) cW t h e
  unfold KZ at e
  cases ME:(Kg c.nt c.ops.toList cW i&&(!sO i cW&&(zn c.P c.call c.ops.toList .p0 i||zn c.P c.call c.ops.toList .al i)))with
  |false=>rw[ME]at e;cases e
  |true=>
   rw[ME]at e
   simp only[pZ]at e
   simp only[Bool.and_eq_true,Bool.not_eq_true',Bool.or_eq_true]at ME
   obtain⟨h1,h2,h3⟩:=ME
   have hni:=u6 h2
   have pO:c.nM i .p0∨c.nM i .al:=h3.imp rU.1 rU.1
   obtain⟨o,v,h',t1,ho,hg,e2,ht⟩:=zq e
   clear e
   have vi: ∀ j∈cW,j≠i:=fun j hj e=>hni (e▸hj)
   have hle:h.next<=h'.next:=by
    rcases pO with⟨o',tw,IE⟩|⟨o',tw,IE⟩
    ·rw[ho]at tw;cases tw
     rw[((zi IE).ok hg).1]
     exact Nat.le_refl _
    ·rw[ho]at tw;cases tw
     rcases Iy IE _ _ _ _ hg (pf h.next) rfl with⟨rfl,_⟩|⟨cs,rfl,_⟩
     ·exact Nat.le_refl _
     ·exact Nat.le_succ _
   obtain⟨nx,bd,a1,vT,wb,a2,a3,a4⟩:=Gp qM pS HI hk ih l (i::cW) t1 h' (qK xM i h.next) (qK vU i h'.next) e2 (C1 qM ho ht hO) (fun j hj=>by
    rcases List.mem_cons.1 hj with rfl|hj
    ·rw[nQ];exact Nat.le_refl _
    ·rw[nS (vi j hj)];exact Nat.le_trans (hb j hj) hle)
   have agree: ∀ j∈cW,nx j=xM j/\bd j=vU j:=fun j hj=>by
    have:=a1 j (List.mem_cons_of_mem _ hj)
    rwa [nS (vi j hj),nS (vi j hj)]at this
   have hbi:bd i=h'.next:=by
    have:=(a1 i List.mem_cons_self).2
    rwa [nQ]at this
   have O3:nx i=h.next:=by
    have:=(a1 i List.mem_cons_self).1
    rwa [nQ]at this
   have hrd:(c.wi nx bd).vw i h.next:=MD (c:=c.wi nx bd) h1 (fun j hj=>by show bd j<=_;rw[(agree j hj).2];exact hb j hj)
   have oG:c.Slot i v:=AG qM HI ho ht (vz qM hk l (i::cW) t1 h' e2)
   have hte:=IC qM pS F hO ho h1 hg
   rcases pO with pO|pO
   ·have hh:h'=h:=by
     obtain⟨o',tw,IE⟩:=pO
     rw[ho]at tw;cases tw
     exact((zi IE).ok hg).1
    subst hh
    refine⟨nx,bd,agree,vT,wb,.inl ⟨pO,a2⟩,a3,fun j hj=>?_⟩
    rcases a4 j hj with h|⟨h,h5,h6⟩
    ·rcases List.mem_cons.1 h with rfl|h
     ·refine .inr ⟨⟨fun hc=>⟨v,?_,oG,?_⟩,fun hc=>?_⟩,List.mem_cons_self,.inl pO⟩
      ·obtain⟨o',tw,IE⟩:=pO
       rw[ho]at tw
       cases tw
       intro h0
       rw[ID]
       show c.FE j (c.rf j) h0=_
       rw[Be ho]at hte ⊢
       exact((zi IE).ok hte).2 h0
      ·show Cx.vw _ j (bd j)
       rw[hbi];exact hrd
      ·cases c.rL pO hc
     ·exact .inl h
    ·exact .inr ⟨h,List.mem_cons_of_mem _ h5,h6⟩
   ·have key:(h'=h/\c.FE i (c.rf i) (pf h.next)=.ok v (pf h.next))∨ ∃ cs,h'=nJ h cs/\c.FE i (c.rf i) (pf h.next)=.ok v (nJ (pf h.next) cs):=by
     obtain⟨o',tw,IE⟩:=pO
     rw[ho]at tw;cases tw
     rw[Be ho]at hte ⊢
     exact Iy IE _ _ _ _ hte (pf h.next) rfl
    refine⟨nx,bd,agree,vT,wb,.inr ⟨pO,O3,?_⟩,a3,fun j hj=>?_⟩
    ·rcases key with⟨rfl,_⟩|⟨cs,rfl,hf⟩
     ·exact .inl ⟨hbi.trans O3.symm,a2⟩
     ·refine .inr ⟨v,cs,?_,?_,a2⟩
      ·show bd i=nx i+1
       rw[hbi,O3];rfl
      ·rw[ID]
       show c.FE i (c.rf i) (pf (nx i))=.ok v (nJ (pf (nx i)) cs)
       rw[O3];exact hf
    ·rcases a4 j hj with h0|⟨h0,h5,h6⟩
     ·rcases List.mem_cons.1 h0 with rfl|h0
      ·refine .inr ⟨⟨fun hc=>?_,fun hc=>⟨v,oG,?_,?_⟩⟩,List.mem_cons_self,.inr pO⟩
       ·cases c.rL pO hc
       ·show Cx.vw _ j (nx j)
        rw[O3];exact hrd
       ·rw[ID]
        show(c.FE j (c.rf j) (pf (nx j))=.ok v (pf (nx j))/\bd j=nx j)∨ ∃ cs,c.FE j (c.rf j) (pf (nx j))=.ok v (nJ (pf (nx j)) cs)/\bd j=nx j+1
        rw[O3,hbi]
        rcases key with⟨rfl,hf⟩|⟨cs,rfl,hf⟩
        ·exact .inl ⟨hf,rfl⟩
        ·exact .inr ⟨cs,hf,rfl⟩
      ·exact .inl h0
     ·exact .inr ⟨h0,List.mem_cons_of_mem _ h5,h6⟩
omit [Io] in
theorem IF(qM:c.nt<=512)(pS: ∀ u,u<512->(∀ j,¬ c.tv j u)->c.te.at u=c.t0.at u)(HI: ∀ i j d,c.tv i d->c.tv j d->i=j): ∀ (pl:ta) (cW:List Nat) (t:Tm) (h:Hp) (xM vU:Nat->Nat),
 uY c.P c.call c.nt c.ops.toList pl cW t h=.ok c.te c.hE->c.FrO cW t->(∀ j∈cW,vU j<=h.next)->
  ∃ nx bd,(∀ j∈cW,nx j=xM j/\bd j=vU j)/\(c.wi nx bd).D8 pl h/\(∀ i,i<c.ops.size->bd i<=c.hE.next)/\
   ∀ i,i<c.ops.size->i∉cW->(c.wi nx bd).GI i/\(c.nM i .al->i∈pl.pR)/\(c.nM i .ch->i∈pl.DQ)
 | .last pre pR,cW,t,h,xM,vU,e,hO,hb=>by
  unfold uY at e
  have aa7: ∀ cW t h,(pZ (allI (fun i _=>sO i cW) c.ops.toList 0) fi (fun _ _=>.bad):ud) t h=.ok c.te c.hE->(∀ i,i<c.ops.size->i∈cW)/\t=c.te/\h=c.hE:=by
   intro cW t h e
   cases hB:allI (fun i _=>sO i cW) c.ops.toList 0 with
   |false=>rw[hB]at e;cases e
   |true=>
    rw[hB]at e
    obtain⟨h1,h2⟩:=Rt.ok.inj e
    refine⟨fun i hi=>?_,h1,h2⟩
    have:=sb hB i c.ops[i] (by simp[hi])
    exact sa.1 this
  have hk: ∀ cW t h,(pZ (allI (fun i _=>sO i cW) c.ops.toList 0) fi (fun _ _=>.bad):ud) t h=.ok c.te c.hE->c.Fr cW t:=by
   intro cW t h e
   obtain⟨_,rfl,_⟩:=aa7 cW t h e
   exact fun u _ _=>rfl
  obtain⟨nx,bd,a1,a2,wb,⟨h1,wc,b2,⟨rfl,b3,b4⟩,b5⟩,a4⟩:=B4 (Φ:=fun nx bd wb=> ∃ h1 wc,(c.wi nx bd).Bz pR h h1/\(h1=c.hE/\(∀ i,i<c.ops.size->i∈wc)/\(∀ i∈wc,bd i<=c.hE.next))/\
   ∀ i∈wc,i∈wb∨((c.wi nx bd).GI i/\i∈pR/\(c.nM i .p0∨c.nM i .al))) qM pS HI (vz qM hk pR) (fun cW t xM vU e hO hb=>by
   obtain⟨nx,bd,a1,h1,wc,a2,a3,a4⟩:=Gp (Φ:=fun nx bd wc h1=>h1=c.hE/\(∀ i,i<c.ops.size->i∈wc)/\(∀ i∈wc,bd i<=c.hE.next)) qM pS HI hk (fun cW t h xM vU e hO hb=>by
    obtain⟨h1,_,rfl⟩:=aa7 cW t h e
    exact⟨xM,vU,fun _ _=>⟨rfl,rfl⟩,rfl,h1,hb⟩) pR cW t h xM vU e hO hb
   exact⟨nx,bd,a1,h1,wc,a2,a3,a4⟩) pre cW t xM vU e hO hb
  refine⟨nx,bd,a1,⟨a2,b2⟩,fun i hi=>b4 i (b3 i hi),fun i hi hn=>?_⟩
  rcases b5 i (b3 i hi)with h|⟨h,h6,h7⟩
  ·rcases a4 i h with h|⟨h,h5⟩
   ·exact absurd h hn
   ·refine⟨h,fun hc=>?_,fun hc=>?_⟩
    ·rcases h5 with h5|h5<;>cases c.rL h5 hc
    ·rcases h5 with h5|h5<;>cases c.rL h5 hc
  ·refine⟨h,fun _=>h6,fun hc=>?_⟩
   rcases h7 with h5|h5<;>cases c.rL h5 hc
 | .cons pre pR q rest,cW,t,h,xM,vU,e,hO,hb=>by
  unfold uY at e
  have hq: ∀ cW t h,(pZ (Kg c.nt c.ops.toList cW q&&(!sO q cW&&zn c.P c.call c.ops.toList .ch q)) (runM c.P c.call c.nt c.ops.toList q (uY c.P c.call c.nt c.ops.toList rest (q::cW))) (fun _ _=>.bad):ud) t h=.ok c.te c.hE->
   Kg c.nt c.ops.toList cW q=true/\q∉cW/\c.nM q .ch/\ ∃ o v h1 t1,c.ops[q]? =some o/\sE c.P c.call c.nt c.ops.toList o t h=.ok v h1/\h.next<=h1.next/\uY c.P c.call c.nt c.ops.toList rest (q::cW) t1 h1=.ok c.te c.hE/\
    ((∃ d,o.dst=some d/\d<c.nt/\t1=sT d v t)∨(o.dst=none/\t1=t)):=by
   intro cW t h e
   cases h1:(Kg c.nt c.ops.toList cW q&&(!sO q cW&&zn c.P c.call c.ops.toList .ch q))with
   |false=>rw[h1]at e;cases e
   |true=>
    rw[h1]at e
    simp only[Bool.and_eq_true,Bool.not_eq_true']at h1
    exact⟨h1.1,u6 h1.2.1,rU.1 h1.2.2,IA e⟩
  have hk: ∀ cW t h,(pZ (Kg c.nt c.ops.toList cW q&&(!sO q cW&&zn c.P c.call c.ops.toList .ch q)) (runM c.P c.call c.nt c.ops.toList q (uY c.P c.call c.nt c.ops.toList rest (q::cW))) (fun _ _=>.bad):ud) t h=.ok c.te c.hE->c.Fr cW t:=by
   intro cW t h e
   obtain⟨_,hni,_,o,v,h1,t1,ho,_,_,e,ht⟩:=hq cW t h e
   exact zt qM ho hni ht (zu qM rest (q::cW) t1 h1 e)
  obtain⟨nx,bd,a1,a2,wb,⟨h1,wc,b2,⟨c1,v,h2,c2,c3,c4,c5,c6,c7,c8,c9⟩,b5⟩,a4⟩:=B4 (Φ:=fun nx bd wb=> ∃ h1 wc,(c.wi nx bd).Bz pR h h1/\
   (c.nM q .ch/\ ∃ v h2,c.FE q (c.rf q) h1=.ok v h2/\c.Slot q v/\(c.wi nx bd).vw q h1.next/\bd q=h2.next/\h1.next<=h2.next/\(c.wi nx bd).D8 rest h2/\(∀ i,i<c.ops.size->bd i<=c.hE.next)/\
    ∀ i,i<c.ops.size->i∉q::wc->(c.wi nx bd).GI i/\(c.nM i .al->i∈rest.pR)/\(c.nM i .ch->i∈rest.DQ))/\
   ∀ i∈wc,i∈wb∨((c.wi nx bd).GI i/\i∈pR/\(c.nM i .p0∨c.nM i .al))) qM pS HI (vz qM hk pR) (fun cW t xM vU e hO hb=>by
   obtain⟨nx,bd,a1,h1,wc,a2,a3,a4⟩:=Gp (Φ:=fun nx bd wc h1=>c.nM q .ch/\ ∃ v h2,c.FE q (c.rf q) h1=.ok v h2/\c.Slot q v/\(c.wi nx bd).vw q h1.next/\bd q=h2.next/\h1.next<=h2.next/\(c.wi nx bd).D8 rest h2/\
    (∀ i,i<c.ops.size->bd i<=c.hE.next)/\ ∀ i,i<c.ops.size->i∉q::wc->(c.wi nx bd).GI i/\(c.nM i .al->i∈rest.pR)/\(c.nM i .ch->i∈rest.DQ)) qM pS HI hk (fun cW t h xM vU e hO hb=>by
    obtain⟨hr,hni,pO,o,v,h1,t1,ho,hg,hle,e,ht⟩:=hq cW t h e
    have vi: ∀ j∈cW,j≠q:=fun j hj e=>hni (e▸hj)
    have Fq:=zu qM rest (q::cW) t1 h1 e
    obtain⟨nx,bd,a1,a2,a3,a4⟩:=IF qM pS HI rest (q::cW) t1 h1 (qK xM q h.next) (qK vU q h1.next) e (C1 qM ho ht hO) (fun j hj=>by
     rcases List.mem_cons.1 hj with rfl|hj
     ·rw[nQ];exact Nat.le_refl _
     ·rw[nS (vi j hj)];exact Nat.le_trans (hb j hj) hle)
    have agree: ∀ j∈cW,nx j=xM j/\bd j=vU j:=fun j hj=>by
     have:=a1 j (List.mem_cons_of_mem _ hj)
     rwa [nS (vi j hj),nS (vi j hj)]at this
    have hbq:bd q=h1.next:=by
     have:=(a1 q List.mem_cons_self).2
     rwa [nQ]at this
    exact⟨nx,bd,agree,pO,v,h1,IC qM pS (zt qM ho hni ht Fq) hO ho hr hg,AG qM HI ho ht Fq,
     MD (c:=c.wi nx bd) hr (fun j hj=>by show bd j<=_;rw[(agree j hj).2];exact hb j hj),hbq,hle,a2,a3,a4⟩) pR cW t h xM vU e hO hb
   exact⟨nx,bd,a1,h1,wc,a2,a3,a4⟩) pre cW t xM vU e hO hb
  refine⟨nx,bd,a1,⟨a2,h1,b2,c1,v,h2,(by rw[ID];exact c2),c3,c4,c5,c6,c7⟩,c8,fun i hi hn=>?_⟩
  by_cases hiq:i=q
  ·subst hiq
   refine⟨⟨fun hc=>?_,fun hc=>?_⟩,fun hc=>?_,fun _=>List.mem_cons_self⟩
   ·cases c.rL c1 hc
   ·cases c.rL c1 hc
   ·cases c.rL c1 hc
  ·by_cases WD:i∈wc
   ·rcases b5 i WD with h|⟨h,h6,h7⟩
    ·rcases a4 i h with h|⟨h,h5⟩
     ·exact absurd h hn
     ·refine⟨h,fun hc=>?_,fun hc=>?_⟩
      ·rcases h5 with h5|h5<;>cases c.rL h5 hc
      ·rcases h5 with h5|h5<;>cases c.rL h5 hc
    ·refine⟨h,fun _=>List.mem_append_left _ h6,fun hc=>?_⟩
     rcases h7 with h5|h5<;>cases c.rL h5 hc
   ·obtain⟨r1,r2,r3⟩:=c9 i hi (fun k=>by
     rcases List.mem_cons.1 k with k|k
     ·exact hiq k
     ·exact WD k)
    exact⟨r1,fun hc=>List.mem_append_right _ (r2 hc),fun hc=>List.mem_cons_of_mem _ (r3 hc)⟩
end Cx
end Go.Ab

noncomputable section
namespace Go.Ab
variable [Io]
def RU(ok:Nat->Nat->Bool)(l:List Nat):Nat->List Nat:=
 List.rec (fun _=>[]) (fun i _ ih r=>Bool.rec (ih r) (i::ih (Nat.lor r (Nat.pow 2 i))) (ok i r)) l
def aa8(l:List Nat)(r:Nat):Nat:=List.rec r (fun i _ ih=>Nat.lor (Nat.pow 2 i) ih) l
def bit(r i:Nat):Bool:=Nat.beq (Nat.mod (Nat.div r (Nat.pow 2 i)) 2) 1
def Xp(p:Nat->Bool)(l:List Nat):List Nat:=List.rec [] (fun i _ ih=>Bool.rec ih (i::ih) (p i)) l
def ac6(p:Nat->Bool)(l:List Nat):Option Nat:=List.rec none (fun i _ ih=>Bool.rec ih (some i) (p i)) l
def RW(l:List Oper):List Nat:=List.rec (fun _=>[]) (fun _ _ ih i=>i::ih (Nat.add i 1)) l 0
section
variable (P:Program)(call:nv)(L:List Oper)
def anC(ms idx:List Nat)(fuel:Nat):Nat->List Nat->ta:=
 Nat.rec (fun _ _=>.last [] []) (fun _ ih done chd=>
  match RU (fun i r=>(zn P call L .p0 i||zn P call L .p1 i)&&(!bit r i&&Nat.beq (Nat.land ((sI ms i).getD 0) r) ((sI ms i).getD 0))) idx done with
  |new=>match Xp (fun i=>bit done i&&(zn P call L .p1 i&& !KY (fun j=>bit ((sI ms j).getD 0) i) chd)) idx with
   |wh=>match aa8 new done with
    |MF=>match ac6 (fun i=>zn P call L .ch i&& !bit MF i) idx with
     |none=>.last (app wh new) (RU (fun i r=> !bit r i) idx MF)
     |some q=>match RU (fun i r=> !bit r i&&bit ((sI ms q).getD 0) i) idx MF with
      |pR=>.cons (app wh new) pR q (ih (Nat.lor (Nat.pow 2 q) (aa8 pR MF)) (q::chd))) fuel
def AH:ta:=anC P call L (wA L []) (RW L) (Nat.succ (len L)) 0 []
end
def IG(P:Program)(call:nv)(nt:Nat)(ops:Array Oper):ud:=
 match AH P call ops.toList with
 |pl=>pZ (MB ops.toList&&(Xm ops.toList&&EW P call ops.toList pl [])) (uY P call nt ops.toList pl []) (fun _ _=>.bad)
namespace Cx
variable {c:Cx}
omit [Io] in
theorem MG: ∀ (pl:ta) (past:List Nat),EW c.P c.call c.ops.toList pl past=true->c.My past pl
 | .last pre pR,past,h=>by
  intro i hi
  obtain⟨o,ho,_⟩:=id hi
  have:=uZ (sb h i o (by simpa using ho)) (rU.2 hi)
  rw[Bool.or_eq_true,zm,sa]at this
  exact this
 | .cons pre pR q rest,past,h=>by
  unfold EW at h
  simp only[Bool.and_eq_true]at h
  obtain⟨h1,h2,h3,h4⟩:=h
  refine⟨fun i hi=>?_,fun i hi hc=>?_,fun q' hq=>?_,MG rest _ h4⟩
  ·obtain⟨o,ho,_⟩:=id hi
   have:=uZ (sb h1 i o (by simpa using ho)) (rU.2 hi)
   rw[Bool.or_eq_true,Bool.or_eq_true,zm,zm,sa]at this
   exact this
  ·rw[qk,List.all_eq_true]at h2
   exact uZ (h2 i hi) (rU.2 hc)
  ·rw[qk,List.all_eq_true]at h3
   exact h3 q' hq
omit [Io] in
theorem ac7(h:Xm c.ops.toList=true): ∀ i j d,c.tv i d->c.tv j d->i=j:=by
 rintro i j d ⟨o,ho,hd⟩ ⟨o',tw,KT⟩
 have h1:=sb h i o (by simpa using ho)
 rw[hd]at h1
 have h2:=uZ (sb h1 j o' (by simpa using tw)) (AF KT)
 exact Nat.eq_of_beq_eq_true h2
end Cx
theorem Xr{g:G}{w:World}{h:Hp}(H:HR g w h):g.to h.next=g:=by
 cases g with
 |mk m im=>
  unfold G.to
  simp only[G.mk.injEq,and_true]
  funext id
  by_cases qu:id<h.next
  ·simp only[qu,if_true]
  ·simp only[qu,if_false]
   exact(H.fresh id (by omega)).symm
omit [Io] in
theorem AJ{g:G}{w w':World}(h:w'.heap=w.heap):xK g w g w':=
 ⟨fun _ _ e=>e,fun _ i=>i,fun b _=>by rw[h],fun b=>by unfold nY;rw[h];exact Nat.le_refl _⟩
theorem HR.heap{g:G}{w w':World}{hp:Hp}(h:w'.heap=w.heap)(H:HR g w hp):HR g w' hp:=by
 refine⟨H.fresh,fun id cs e=>?_,H.inj,fun b i=>by rw[h];exact H.oz b i,tF.mono (AJ h) H.tb⟩
 obtain⟨b,s,C,el,vs,h1,h2,h3,h4,h5⟩:=H.cw id cs e
 exact⟨b,s,C,el,vs,h1,by rw[h];exact h2,h3,cJ.o8 (AJ h) _ _ h4,h5⟩
omit [Io] in
theorem O4(g:G)(w:World)(h:Hp)(n:Nat):Ext g w h g {w with drawn:=n} h:=
 ⟨rfl,rfl,rfl,Nat.le_refl _,Nat.le_refl _,fun _ _ e=>e,fun _ _ _=>rfl,fun _=>Nat.le_refl _,fun _ i=>i,fun _ i=>.inl i,fun _ o=>.inl o⟩
theorem B5{P:Program}(hm:P.follows .mixedOrders=true):KO P (IG P):=by
 intro call nt hc id ops g w t h a t' h' H T D e Q K
 refine wp_region_draw fun tk=>?_
 rw[hm]
 change (pZ (MB ops.toList&&(Xm ops.toList&&EW P call ops.toList (AH P call ops.toList) [])) (uY P call nt ops.toList (AH P call ops.toList) []) (fun _ _=>.bad):ud) t h=.ok t' h' at e
 cases hB:(MB ops.toList&&(Xm ops.toList&&EW P call ops.toList (AH P call ops.toList) []))with
 |false=>rw[hB]at e;cases e
 |true=>
 rw[hB]at e
 change uY P call nt ops.toList (AH P call ops.toList) [] t h=.ok t' h' at e
 simp only[Bool.and_eq_true]at hB
 obtain⟨P7,HI,vj⟩:=hB
 obtain⟨pl,hpl⟩: ∃ pl,pl=AH P call ops.toList:=⟨_,rfl⟩
 rw[<-hpl]at e vj
 have L:=Gi (Xl P7) tk
 let c0:Cx:=⟨P,call,ops,nt,t,t',fun _=>0,fun _=>0,g,w,h,h'⟩
 have ahA: ∀ i j d,c0.tv i d->c0.tv j d->i=j:=Cx.ac7 (c:=c0) HI
 have qM:nt<=512:=T.1
 have F:=Cx.zu (c:=c0) qM pl [] t h e
 have pS: ∀ u,u<512->(∀ j,¬ c0.tv j u)->c0.te.at u=c0.t0.at u:=fun u hu hd=>F u hu (fun j hj=>absurd hj (hd j))
 obtain⟨nx,bd,_,rO,anD,hgi⟩:=Cx.IF (c:=c0) qM pS ahA pl [] t h (fun _=>0) (fun _=>0) e (fun u _ _=>rfl) (fun j hj=>by cases hj)
 let c:Cx:=c0.wi nx bd
 have o5: ∀ {i k},c.nM i k->i<c.ops.size:=fun⟨o,ho,_⟩=>(Array.getElem?_eq_some_iff.1 ho).1
 have G0:c.Xj:=
  ⟨fun i hi=>(hgi i (o5 hi) (by simp)).1.1 hi,fun i hi=>(hgi i (o5 hi) (by simp)).1.2 hi,ahA,anD,pS,hc,qM⟩
 have Bc:g.to h.next=g:=Xr H
 refine Cx.sim (c:=c) G0 K _ [] [] pl g {w with drawn:=w.drawn+1} h a L ?_
 exact
 {run:=rO
  stat:=Cx.MG (c:=c) pl [] vj
  closed:=fun j hj=>by cases hj
  DQ:=fun i hi=>.inl ((hgi i (o5 hi) (by simp)).2.2 hi)
  VQ:=fun i _ h=>by cases h
  Bd:=fun j hj=>by cases hj
  alc:=fun i hi=>.inl ((hgi i (o5 hi) (by simp)).2.1 hi)
  st:=⟨(by rw[Bc];exact HR.heap (w:=w) rfl H),(by rw[Bc];exact O4 _ _ _ _),(fun i _ h=>by cases h),(fun i _ j _ h=>by cases h)⟩
  dom:=fun id x m=>.inl (by
   refine Classical.byContradiction fun k=>?_
   rw[H.fresh id (by omega)]at m;cases m)
  wF:=fun j hj=>by cases hj
  free:=fun u v hu hd eu=>by
   obtain⟨h1,h2⟩:=T.2.2 u v hu eu
   refine⟨h1,?_⟩
   rw[Bc]
   exact VR.o8 (AJ (w:=w) (w':={w with drawn:=w.drawn+1}) rfl) _ _ h2
  size:=T.2.1
  defers:=D}
end Go.Ab

noncomputable section
namespace Go.Ab
variable [Io]
def Gq(F:Func):Code:=match F.body with
 |some c=>c
 |none=>.skip
omit [Io] in
theorem ahB{P:Program}{draw:nv->Nat->Array Oper->ud}{f:FuncId}{F:Func}{b:Fb}(h1:P.funcs[f]? =some F)(h2: ∀ args w,(callFunc f args).run P w=.ok (.enter f args) w)
 (h3:F.body.isSome=true)(h4:b.ntmps=F.ntmps)(h5:Nat.ble b.ntmps 512=true)(h6:Iq P b.ntmps F.results.toList=some b.res)
 (h7:b.body=fun call n=>oZ P (draw call b.ntmps) call n b.ntmps (Gq F)):OQ P draw f b:=by
 refine⟨⟨F,Gq F,h1,?_,h4,Nat.ble_eq.mp h5,h6,h7⟩,h2⟩
 unfold Gq
 cases h:F.body with
 |none=>rw[h]at h3;cases h3
 |some c=>rfl
def RX{α:Type}(p:Nat->α->Prop)(a b:Nat):Tr α->Prop
 | .nil=>True
 | .node l v r=>(∀ x,v=some x->p b x)/\RX p (2*a) (a+b) l/\RX p (2*a) (2*a+b) r
omit [Io] in
theorem RX.get{α:Type}{p:Nat->α->Prop}: ∀ {t:Tr α} {a b:Nat},RX p a b t-> ∀ k x,t.get k=some x->p (a*k+b) x
 | .nil,a,b,_,k,x,e=>by cases e
 | .node l v r,a,b,⟨h1,h2,h3⟩,k,x,e=>by
  rw[Tr.wk]at e
  by_cases h0:k=0
  ·subst h0
   rw[if_pos rfl]at e
   simpa using h1 x e
  ·rw[if_neg h0]at e
   by_cases hk:k % 2=1
   ·rw[if_pos hk]at e
    have:=h2.get _ x e
    have e2:2*a*(k / 2)+(a+b)=a*k+b:=by
     have:k=2*(k / 2)+1:=by omega
     generalize k / 2=m at*
     subst this
     rw[Nat.mul_add,Nat.mul_one,<-Nat.mul_assoc,Nat.mul_comm a 2]
     omega
    rwa [e2]at this
   ·rw[if_neg hk]at e
    have:=h3.get _ x e
    have e2:2*a*(k / 2 - 1)+(2*a+b)=a*k+b:=by
     have:k=2*(k / 2 - 1)+2:=by omega
     generalize k / 2 - 1=m at*
     subst this
     rw[Nat.mul_add,<-Nat.mul_assoc,Nat.mul_comm a 2]
     omega
    rwa [e2]at this
omit [Io] in
theorem FW{α:Type}{p:Nat->α->Prop}{b:Nat}: ∀ x,(none:Option α)=some x->p b x:=fun _ e=>by cases e
end Go.Ab

noncomputable section
namespace Go.Ab
variable [Io]
structure K3(w w':World):Prop where
 os:w'.os=w.os
 tape:w'.tape=w.tape
 output:w'.output=w.output
 size:w.heap.size<=w'.heap.size
 wh: ∀ b,b<w.heap.size->w'.heap[b]? =w.heap[b]?
omit [Io] in
theorem K3.rows{w w':World}(K:K3 w w')(b:Nat):nY w b<=nY w' b:=by
 unfold nY
 by_cases h:b<w.heap.size
 ·rw[K.wh b h];exact Nat.le_refl _
 ·rw[Array.getElem?_eq_none (by omega)];exact Nat.zero_le _
def gE(oz:Nat->Prop):G:=⟨fun _=>none,oz⟩
theorem IH{oz:Nat->Prop}{w:World}(h: ∀ b,oz b->b<w.heap.size)(t:tF (gE oz) w):HR (gE oz) w (pf 0):=
 ⟨fun _ _=>rfl,(fun _ _ e=>by cases e),(fun _ _ _ _ _ _ _ e=>by cases e),h,t⟩
omit [Io] in
theorem MH{oz:Nat->Prop}{w:World}{g':G}{w':World}{h':Hp}(E:Ext (gE oz) w (pf 0) g' w' h'):K3 w w':=
 ⟨E.os,E.tape,E.output,E.size,fun b hb=>E.wh b hb (by rintro⟨id,cs,s,e,_⟩;cases e)⟩
def mapA(f:AV->Option AV)(l:List AV):Option (List AV):=
 List.rec (some []) (fun a _ ih=>match f a with
  |some b=>match ih with
   |some r=>some (b::r)
   |none=>none
  |none=>none) l
def yp(n:Nat):Hp->AV->Option AV:=
 Nat.rec (fun _ _=>none) (fun _ ih h a=>match a with
  | .oG id off n sz=>match h.cw.get id with
   |some cs=>match cs.rH off (Nat.mul n sz)with
    |some l=>match mapA (ih h) l with
     |some l=>some (.sU n l)
     |none=>none
    |none=>none
   |none=>none
  | .ref id off=>match h.cw.get id with
   |some cs=>match cs.rH off (Nat.sub cs.n off)with
    |some l=>match mapA (ih h) l with
     |some l=>some (.pP l)
     |none=>none
    |none=>none
   |none=>none
  | .agg l=>match mapA (ih h) l with
   |some l=>some (.agg l)
   |none=>none
  | .xJ l=>match mapA (ih h) l with
   |some l=>some (.xJ l)
   |none=>none
  | .fn f l=>match mapA (ih h) l with
   |some l=>some (.fn f l)
   |none=>none
  | .sU n l=>match mapA (ih h) l with
   |some l=>some (.sU n l)
   |none=>none
  | .pP l=>match mapA (ih h) l with
   |some l=>some (.pP l)
   |none=>none
  |a=>some a) n
theorem B6{g g':G}{w:World}{f:AV->Option AV}(hf: ∀ a a' v,f a=some a'->VR g w a v->VR g' w a' v): ∀ {l l':List AV} {vs:List Value},mapA f l=some l'->cJ g w l vs->cJ g' w l' vs
 | [],l',vs,e,h=>by cases e;simpa only[cJ]using h
 |a::l,l',vs,e,h=>by
  change (match f a with|some b=>(match mapA f l with|some r=>some (b::r)|none=>none)|none=>none)=some l' at e
  simp only[cJ]at h
  obtain⟨v,r,rfl,hv,hr⟩:=h
  cases h1:f a with
  |none=>rw[h1]at e;cases e
  |some b=>
   cases h2:mapA f l with
   |none=>rw[h1,h2]at e;cases e
   |some r'=>
    rw[h1,h2]at e
    cases e
    simp only[cJ]
    exact⟨v,r,rfl,hf a b v h1 hv,B6 hf h2 hr⟩
theorem ac8{g g':G}{w:World}{h:Hp}(H:HR g w h)(hi: ∀ b,g.oz b->g'.oz b)(ho: ∀ b,qt g h b->g'.oz b): ∀ (n:Nat) (a a':AV) (v:Value),yp n h a=some a'->VR g w a v->VR g' w a' v:=by
 intro n
 induction n with
 |zero=>intro a a' v e;cases e
 |succ n ih=>
  intro a a' v e hv
  have hm:= @B6 _ g g' w (yp n h) ih
  cases a with
  |int k n=>cases e;simpa only[VR]using hv
  |bool b=>cases e;simpa only[VR]using hv
  |sc x=>cases e;simpa only[VR]using hv
  |qi=>cases e;simpa only[VR]using hv
  |uR=>cases e;simpa only[VR]using hv
  |sym k s lo hi o=>cases e;simpa only[VR]using hv
  |any=>cases e;simpa only[VR]using hv
  |agg l=>
   change (match mapA (yp n h) l with|some l=>some (AV.agg l)|none=>none)=some a' at e
   cases h1:mapA (yp n h) l with
   |none=>rw[h1]at e;cases e
   |some l'=>
    rw[h1]at e
    cases e
    simp only[VR]at hv ⊢
    obtain⟨vs,e,q⟩:=hv
    exact⟨vs,e,hm h1 q⟩
  |xJ l=>
   change (match mapA (yp n h) l with|some l=>some (AV.xJ l)|none=>none)=some a' at e
   cases h1:mapA (yp n h) l with
   |none=>rw[h1]at e;cases e
   |some l'=>
    rw[h1]at e
    cases e
    simp only[VR]at hv ⊢
    obtain⟨vs,e,q⟩:=hv
    exact⟨vs,e,hm h1 q⟩
  |fn f l=>
   change (match mapA (yp n h) l with|some l=>some (AV.fn f l)|none=>none)=some a' at e
   cases h1:mapA (yp n h) l with
   |none=>rw[h1]at e;cases e
   |some l'=>
    rw[h1]at e
    cases e
    simp only[VR]at hv ⊢
    obtain⟨vs,e,q⟩:=hv
    exact⟨vs,e,hm h1 q⟩
  |sU m l=>
   change (match mapA (yp n h) l with|some l=>some (AV.sU m l)|none=>none)=some a' at e
   cases h1:mapA (yp n h) l with
   |none=>rw[h1]at e;cases e
   |some l'=>
    rw[h1]at e
    cases e
    simp only[VR]at hv ⊢
    obtain⟨x,cap,e,hle,q⟩:=hv
    refine⟨x,cap,e,hle,?_⟩
    rcases q with⟨q1,rfl⟩|⟨b,o,vs,q1,q2,q3,q4⟩
    ·cases h1
     exact .inl ⟨q1,rfl⟩
    ·exact .inr ⟨b,o,vs,q1,hi b q2,q3,hm h1 q4⟩
  |pP l=>
   change (match mapA (yp n h) l with|some l=>some (AV.pP l)|none=>none)=some a' at e
   cases h1:mapA (yp n h) l with
   |none=>rw[h1]at e;cases e
   |some l'=>
    rw[h1]at e
    cases e
    simp only[VR]at hv ⊢
    obtain⟨b,o,vs,q1,q2,q3,q4⟩:=hv
    exact⟨b,o,vs,q1,hi b q2,q3,hm h1 q4⟩
  |ref id off=>
   change (match h.cw.get id with|some cs=>(match cs.rH off (Nat.sub cs.n off)with|some l=>(match mapA (yp n h) l with|some l=>some (AV.pP l)|none=>none)|none=>none)|none=>none)=some a' at e
   cases h0:h.cw.get id with
   |none=>rw[h0]at e;cases e
   |some cs=>
   rw[h0]at e
   simp only at e
   cases hs:cs.rH off (Nat.sub cs.n off)with
   |none=>rw[hs]at e;cases e
   |some l=>
   rw[hs]at e
   simp only at e
   cases h1:mapA (yp n h) l with
   |none=>rw[h1]at e;cases e
   |some l'=>
    rw[h1]at e
    cases e
    obtain⟨rfl,_,_⟩:=rk hs
    simp only[VR]at hv ⊢
    obtain⟨b,s,RY,rfl⟩:=hv
    obtain⟨C,el,vs,hw,_,ov,hC⟩:=H.row h0 RY
    exact⟨b,s+off,(vs.drop off).take (Nat.sub cs.n off),rfl,ho b ⟨id,cs,s,h0,RY⟩,((pE hw hC).drop off).take _,hm h1 ((ov.drop off).take _)⟩
  |oG id off m sz=>
   change (match h.cw.get id with|some cs=>(match cs.rH off (Nat.mul m sz)with|some l=>(match mapA (yp n h) l with|some l=>some (AV.sU m l)|none=>none)|none=>none)|none=>none)=some a' at e
   cases h0:h.cw.get id with
   |none=>rw[h0]at e;cases e
   |some cs=>
   rw[h0]at e
   simp only at e
   cases hs:cs.rH off (Nat.mul m sz)with
   |none=>rw[hs]at e;cases e
   |some l=>
   rw[hs]at e
   simp only at e
   cases h1:mapA (yp n h) l with
   |none=>rw[h1]at e;cases e
   |some l'=>
    rw[h1]at e
    cases e
    obtain⟨rfl,hlen,_⟩:=rk hs
    simp only[VR]at hv ⊢
    rcases hv with⟨rfl,x,rfl⟩|⟨b,s,cap,RY,rfl,hle,_⟩
    ·refine⟨x,0,rfl,Nat.le_refl _,.inl ⟨rfl,?_⟩⟩
     have hz:Nat.mul 0 sz=0:=Nat.zero_mul sz
     rw[hz]at h1
     simp only[List.take_zero]at h1
     cases h1
     rfl
    ·obtain⟨C,el,vs,hw,_,ov,hC⟩:=H.row h0 RY
     exact⟨_,cap,rfl,hle,.inr ⟨b,s+off,(vs.drop off).take (Nat.mul m sz),rfl,ho b ⟨id,cs,s,h0,RY⟩,((pE hw hC).drop off).take _,hm h1 ((ov.drop off).take _)⟩⟩
end Go.Ab

noncomputable section
namespace Go.Ab
end Go.Ab

noncomputable section
namespace Go.Ab
variable [Io]
end Go.Ab
namespace Go.Ab
end Go.Ab
