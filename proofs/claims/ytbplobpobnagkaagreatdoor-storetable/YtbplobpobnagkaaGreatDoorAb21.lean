import Derived.Test.YtbplobpobnagkaaGreatDoorAb15
import Derived.KernelRfl
import Derived.Below
import Derived.Lib.SmallJoins
noncomputable section
namespace Go.Ab
variable [Io]
namespace Cx
variable {c:Cx}
omit [Io] in
theorem G.LX{g:G}{id b N:Nat}(h:N<=id):(g.add id b).to N=g.to N:=by
 unfold Go.Ab.G.to G.add
 congr 1
 funext k
 by_cases hk:k<N
 ·simp only[hk,if_true]
  rw[if_neg (by omega)]
 ·simp only[hk,if_false]
theorem sim(G0:c.RD){Q:Exit->Act->World->Prop}(K:og c.g0 c.w0 c.h0 c.nt c.te c.hE (Q .normal)): ∀ (s D jE:List Nat) (pl:lT) (g:G) (w:World) (h:Hp) (a:Act),
 Rm c.ops D s->c.Inv g w h a D jE pl->wpOps c.P c.ops Q s a w
 | [],D,jE,pl,g,w,h,a,L,I=>by
  have Jc: ∀ i,i<c.ops.size->i∈D:=L
  have gB: ∀ {i k},c.dA i k->i<c.ops.size:=fun⟨o,ho,_⟩=>(Array.getElem?_eq_some_iff.1 ho).1
  show Q .normal a w
  cases pl with
  |cons pre hJ q rest=>
   exact absurd (Jc q (gB (Hf I.run q List.mem_cons_self))) (I.Qa q List.mem_cons_self)
  |last pre hJ=>
   have S:=c.settle (A:=[]) hJ h I.run.2 (fun i _ hc=>Jc i (gB hc)) (by rw[List.append_nil];exact I.st) (fun i hi=>by cases hi)
   refine K _ _ _ S.ext S.hr ⟨G0.nt,I.size,fun u v hu e=>?_⟩ I.defers
   have hle:=c.qJ I.run.2
   by_cases hd: ∃ j,c.mu j u
   ·obtain⟨j,hj⟩:=hd
    obtain⟨o,ho,_⟩:=id hj
    have hjs:=(Array.getElem?_eq_some_iff.1 ho).1
    obtain⟨h1,v',e',hv⟩:=I.qL j (Jc j hjs) u hj
    rw[e]at e'
    cases e'
    have:=G0.top j hjs
    exact⟨h1,VR.gh (pA g w (by omega)) _ _ hv⟩
   ·rw[G0.same u hu (fun j hj=>hd ⟨j,hj⟩)]at e
    obtain⟨h1,h2⟩:=I.free u v hu (fun j _ hj=>hd ⟨j,hj⟩) e
    exact⟨h1,VR.gh (pA g w hle) _ _ h2⟩
 |i::s,D,jE,pl,g,w,h,a,⟨his,zZ,hE,L⟩,I=>by
  obtain⟨o,ho⟩: ∃ o,c.ops[i]? =some o:=⟨c.ops[i],Array.getElem?_eq_getElem his⟩
  obtain⟨A6,hC⟩:=CV I.closed ho hE
  have Fv: ∀ b,g.fB b->b<w.heap.size:=I.st.hr.fB
  cases hk:(py c.P c.call o.op).1 with
  |p0=>
   have ga:c.dA i .p0:=⟨o,ho,hk⟩
   obtain⟨v,hF,hS,hR⟩:=G0.p0 i ga
   have T:=I.reads G0.nt hR zZ A6 (N:=max (c.bd i) h.next) (by omega) (by omega)
   have e:lr c.P c.call c.nt c.ops.toList o (c.rf i) (fS 0)=.ok v (fS 0):=by
    rw[<-vN ho];exact hF _
   exact zY G0.call ho (.inl hk) (LQ (g:=g.to (max (c.bd i) h.next)) Fv) T e fun x hx=>sim G0 K s _ _ _ _ _ _ _ L (I.put G0 ho zZ hC (.inl ga) hS hx)
  |p1=>
   have ga:c.dA i .p1:=⟨o,ho,hk⟩
   have WY:i∈pl.pre:=by
    rcases RE I.stat i ga with⟨j,hj,hA⟩|⟨j,hj,hA⟩|h
    ·exact absurd (I.closed j (I.vM j hj) i hA) zZ
    ·exact absurd (A6 j hA) (I.Qa j hj)
    ·exact h
   obtain⟨v,hF,hS,hR⟩:=Xd I.run i WY ga
   have T:=I.reads G0.nt hR zZ A6 (N:=h.next) (Nat.le_refl _) (Nat.le_refl _)
   have e:lr c.P c.call c.nt c.ops.toList o (c.rf i) h=.ok v h:=by
    rw[<-vN ho];exact hF
   exact zY G0.call ho (.inr hk) I.st.hr.toHC T e fun x hx=>sim G0 K s _ _ _ _ _ _ _ L
    (I.put G0 ho zZ hC (.inr ga) hS (VR.gh (pA g w (by omega)) _ _ hx))
  |al=>
   have ga:c.dA i .al:=⟨o,ho,hk⟩
   obtain⟨v,hS,hR,hF⟩:=G0.al i ga
   have Hb:i∈pl.hJ:=(I.Vi i ga).resolve_right zZ
   have hnx:=c.sM I.run i Hb ga
   have T:=I.reads G0.nt hR zZ A6 (N:=c.nx i) (Nat.le_refl _) hnx
   obtain⟨h',hh',hF'⟩: ∃ h',((h'=fS (c.nx i)/\c.bd i=c.nx i)∨ ∃ cs,h'=dw (fS (c.nx i)) cs/\c.bd i=c.nx i+1)/\c.FE i (c.rf i) (fS (c.nx i))=.ok v h':=by
    rcases hF with⟨h1,h2⟩|⟨cs,h1,h2⟩
    ·exact⟨_,.inl ⟨rfl,h2⟩,h1⟩
    ·exact⟨_,.inr ⟨cs,rfl,h2⟩,h1⟩
   have e:lr c.P c.call c.nt c.ops.toList o (c.rf i) (fS (c.nx i))=.ok v h':=by
    rw[<-vN ho];exact hF'
   have Ft: ∀ j,j∈i::D->j≠i->j∈D:=fun j hj jQ=>(List.mem_cons.1 hj).resolve_left jQ
   have fin: ∀ (g':G) (w':World) (x:Value),(∀ id y,g.m id=some y->g'.m id=some y)->g'.fB=g.fB->g'.to h.next=g.to h.next->(w'=w∨ ∃ ob,w'=w.alloc ob)->
    c.I9 g' w' h i->(∀ id y,g'.m id=some y->g.m id=some y∨(c.bd i=c.nx i+1/\id=c.nx i))->
    (∀ j∈pl.hJ,j∈D->c.dA j .al->c.bd j=c.nx j+1->c.bd i=c.nx i+1-> ∀ b,g'.m (c.nx i)=some (b,0)->g'.m (c.nx j)=some (b,0)->i=j)->
    VR (g'.to (max (c.bd i) h.next)) w' v x->c.Inv g' w' h (a.put o.dst x) (i::D) jE pl:=by
    intro g' w' x hm hi wP hw hp Xe Vk hx
    have M: ∀ N,tH (g.to N) w (g'.to N) w':=by
     intro N
     have hmN: ∀ id y,(g.to N).m id=some y->(g'.to N).m id=some y:=by
      intro id y e
      simp only[Go.Ab.G.to]at e ⊢
      by_cases jB:id<N
      ·rw[if_pos jB]at e ⊢;exact hm _ _ e
      ·rw[if_neg jB]at e;cases e
     rcases hw with rfl|⟨ob,rfl⟩
     ·exact⟨hmN,fun b k=>by simp only[Go.Ab.G.to]at k ⊢;rw[hi];exact k,fun _ _=>rfl,fun _=>Nat.le_refl _⟩
     ·exact sN hmN (by simp only[Go.Ab.G.to];exact hi) (by simp only[Go.Ab.G.to];exact Fv)
    have aco: ∀ j,c.I9 g w h j->c.I9 g' w' h j:=by
     intro j p
     rcases hw with rfl|⟨ob,rfl⟩
     ·rcases p with p|⟨v,cs,b,C,el,vs,h1,h2,h3,h4,h5,h6,h7,h8,h9⟩
      ·exact .inl p
      ·exact .inr ⟨v,cs,b,C,el,vs,h1,h2,hm _ _ h3,h4,by rw[hi];exact h5,by rw[wP];exact h6,h7,bF.gh (M _) _ _ h8,h9⟩
     ·exact Fu hm hi Fv wP p
    have wM:HR (g'.to h.next) w' h/\Ext c.g0 c.w0 c.h0 (g'.to h.next) w' h:=by
     rw[wP]
     rcases hw with rfl|⟨ob,rfl⟩
     ·exact⟨I.st.hr,I.st.ext⟩
     ·obtain⟨E,H⟩:=CE I.st.hr ob
      exact⟨H,I.st.ext.trans E⟩
    exact
    {run:=I.run
     stat:=I.stat
     closed:=hC
     yZ:=fun j hj=>(I.yZ j hj).imp id (List.mem_cons_of_mem _)
     Qa:=fun j hj h=>by
      rcases List.mem_cons.1 h with rfl|h
      ·cases c.ks ga (Hf I.run j hj)
      ·exact I.Qa j hj h
     vM:=fun j hj=>List.mem_cons_of_mem _ (I.vM j hj)
     Vi:=fun j hj=>(I.Vi j hj).imp id (List.mem_cons_of_mem _)
     st:=⟨wM.1,wM.2,fun j hj Fs Cj=>by
      by_cases EK:j=i
      ·subst EK;exact hp
      ·exact aco j (I.st.Fp j hj (Ft j Fs EK) Cj),fun j hj k hk jD kD jc kc bj bk b mj mk=>by
      by_cases EK:j=i<;>by_cases hki:k=i
      ·exact EK.trans hki.symm
      ·subst EK
       exact Vk k hk (Ft k kD hki) kc bk bj b mj mk
      ·subst hki
       exact(Vk j hj (Ft j jD EK) jc bj bk b mk mj).symm
      ·have nj:g.m (c.nx j)=some (b,0):=by
        rcases Xe _ _ mj with m|⟨b1,b2⟩
        ·exact m
        ·exact absurd (c.tZ I.run j hj i Hb jc ga bj b1 b2) EK
       have nk:g.m (c.nx k)=some (b,0):=by
        rcases Xe _ _ mk with m|⟨b1,b2⟩
        ·exact m
        ·exact absurd (c.tZ I.run k hk i Hb kc ga bk b1 b2) hki
       exact I.st.I' j hj k hk (Ft j jD EK) (Ft k kD hki) jc kc bj bk b nj nk⟩
     Vj:=fun n y e=>by
      rcases Xe n y e with m|⟨b1,b2⟩
      ·exact(I.Vj n y m).imp id fun⟨j,hj,hD,r⟩=>⟨j,hj,List.mem_cons_of_mem _ hD,r⟩
      ·exact .inr ⟨i,Hb,List.mem_cons_self,ga,b1,b2⟩
     qL:=vi G0 ho I.size I.qL (fun j _=>M _) zZ (fun d hd=>⟨(hS d hd).1,v,(hS d hd).2,hx⟩)
     free:=xM ho I.size I.free (M _)
     size:=by rw[xL];exact I.size
     defers:=by rw[put_defers];exact I.defers}
   refine LU G0.call ho hk (LQ (g:=g.to (c.nx i)) Fv) T e (fun h1 x w' hw hv=>?_) (fun cs C el vs x h1 eI hCv hv=>?_)
   ·have hb:c.bd i=c.nx i:=by
     rcases hh' with⟨_,h2⟩|⟨cs,h2,_⟩
     ·exact h2
     ·rw[h2]at h1
      have:=congrArg Hp.next h1
      exact absurd this (Nat.succ_ne_self _)
    exact sim G0 K s _ _ _ _ _ _ _ L (fin g w' x (fun _ _ m=>m) rfl rfl hw (.inl hb) (fun id y m=>.inl m) (fun j _ _ _ _ k=>by omega) (hv _ _))
   ·have hb:c.bd i=c.nx i+1:=by
     rcases hh' with⟨h2,_⟩|⟨cs',_,h2⟩
     ·rw[h2]at h1
      have:=congrArg Hp.next h1
      exact absurd this.symm (Nat.succ_ne_self _)
     ·exact h2
    have acq:g.m (c.nx i)=none:=by
     cases hm:g.m (c.nx i)with
     |none=>rfl
     |some y=>
      rcases I.Vj _ _ hm with h|⟨j,hj,hD,Cj,hjb,hje⟩
      ·omega
      ·have:=c.tZ I.run i Hb j hj ga Cj hb hjb hje
       exact absurd (this▸hD) zZ
    have Ki: ∀ id y,g.m id=some y->(g.add (c.nx i) w.heap.size).m id=some y:=by
     intro id y m
     simp only[G.add]
     rw[if_neg (fun k=>by rw[k,acq]at m;cases m)]
     exact m
    have Vh:(g.add (c.nx i) w.heap.size).m (c.nx i)=some (w.heap.size,0):=by simp[G.add]
    have wP:(g.add (c.nx i) w.heap.size).to h.next=g.to h.next:=G.LX hnx
    have ze:(w.alloc (.cells C el)).heap[w.heap.size]? =some (.cells C el (0,0)):=by rw[pE,if_pos rfl]
    have sI:C.size<=dS (w.alloc (.cells C el)) w.heap.size:=by rw[r9];exact Nat.le_refl _
    rw[h1]at hF'
    refine sim G0 K s _ _ _ _ _ _ _ L (fin (g.add (c.nx i) w.heap.size) _ x Ki rfl wP (.inr ⟨_,rfl⟩) (.inr ⟨v,cs,w.heap.size,C,FT.nw C el,vs,hb,hF',Vh,ze,?_,?_,I.st.ext.size,?_,hCv⟩)
     (fun id y m=>?_) (fun j hj Fs Cj hjb _ b m1 m2=>?_) (hv _ _ ?_ sI))
    ·intro k
     exact absurd (Fv _ k) (Nat.lt_irrefl _)
    ·rw[wP]
     rintro⟨id,cs',s,e,m⟩
     obtain⟨_,_,_,hw,_⟩:=I.st.hr.row e m
     have:=(Array.getElem?_eq_some_iff.1 hw).1
     omega
    ·have hT:(g.add (c.nx i) w.heap.size).to (c.nx i)=g.to (c.nx i):=G.LX (Nat.le_refl _)
     rw[hT]
     exact bF.gh (sN (fun _ _ m=>m) rfl (by simp only[Go.Ab.G.to];exact Fv)) _ _ eI
    ·by_cases jB:id=c.nx i
     ·exact .inr ⟨hb,jB⟩
     ·simp only[G.add,if_neg jB]at m
      exact .inl m
    ·rw[Vh]at m1
     obtain⟨rfl,_⟩:=Prod.mk.inj (Option.some.inj m1)
     have jQ:c.nx j≠c.nx i:=fun k=>zZ (c.tZ I.run i Hb j hj ga Cj hb hjb k.symm▸Fs)
     simp only[G.add,if_neg jQ]at m2
     rcases I.st.Fp j hj Fs Cj with hp|⟨_,_,b,_,_,_,_,_,h3,h4,_⟩
     ·omega
     ·rw[m2]at h3
      obtain⟨rfl,_⟩:=Prod.mk.inj (Option.some.inj h3)
      have:=(Array.getElem?_eq_some_iff.1 h4).1
      omega
    ·show(Go.Ab.G.to _ _).m (c.nx i)=_
     simp only[Go.Ab.G.to]
     rw[if_pos (by omega)]
     exact Vh
  |ch=>
   have ga:c.dA i .ch:=⟨o,ho,hk⟩
   have Hb:=(I.yZ i ga).resolve_right zZ
   cases pl with
   |last pre hJ=>cases Hb
   |cons pre hJ q rest=>
    have hq:i=q:=by
     rcases List.mem_cons.1 Hb with h|h
     ·exact h
     ·exact absurd (A6 q (I.stat.2.2.1 i h)) (I.Qa q List.mem_cons_self)
    subst hq
    obtain⟨_,h1,Xf,_,v,h2,hF,hS,hR,hb,hle,ku⟩:=I.run
    have ah7:=c.qJ Xf
    have S:=c.settle hJ h Xf (fun j hj hc=>A6 j (I.stat.2.1 j hj hc)) I.st (fun j hj hc=>Nat.le_trans hle (c.sM ku j hj hc))
    have T:=I.reads G0.nt hR zZ A6 (N:=h1.next) (Nat.le_refl _) ah7
    have e:lr c.P c.call c.nt c.ops.toList o (c.rf i) h1=.ok v h2:=by
     rw[<-vN ho];exact hF
    refine A0 G0.call ho S.hr T e fun g' w' x E H' hv=>?_
    obtain⟨G',hG'⟩: ∃ G':G,G'=⟨fun id=>if id<h2.next then g'.m id else g.m id,g'.fB⟩:=⟨_,rfl⟩
    have wP:G'.to h2.next=g':=by
     rw[hG']
     unfold Go.Ab.G.to
     cases g' with
     |mk m im=>
      simp only[G.mk.injEq,and_true]
      funext id
      by_cases jB:id<h2.next
      ·simp only[jB,if_true]
      ·simp only[jB,if_false]
       exact(H'.fresh id (by omega)).symm
    have M0:=E.mono S.hr.toHC
    have Vl: ∀ id y,g.m id=some y->h1.next<=id->h2.next<=id/\ ∃ j∈rest.hJ,j∈D/\c.dA j .al/\c.bd j=c.nx j+1/\id=c.nx j:=by
     intro id y m jB
     rcases I.Vj id y m with h|⟨j,hj,Fs,Cj,hjb,rfl⟩
     ·omega
     ·rcases List.mem_append.1 hj with hj|hj
      ·have:=(c.mJ Xf j hj Cj).2 hjb
       omega
      ·exact⟨c.sM ku j hj Cj,j,hj,Fs,Cj,hjb,rfl⟩
    have hm: ∀ id y,g.m id=some y->G'.m id=some y:=by
     intro id y m
     rw[hG']
     show(if id<h2.next then g'.m id else g.m id)=some y
     by_cases jB:id<h2.next
     ·rw[if_pos jB]
      have:id<h1.next:=by
       refine Classical.byContradiction fun k=>?_
       have:=(Vl id y m (by omega)).1
       omega
      exact E.m id y (by simp only[Go.Ab.G.to];rw[if_pos this];exact m)
     ·rw[if_neg jB];exact m
    have I4:G'.fB=g'.fB:=by rw[hG']
    have M: ∀ B B',B<=B'->tH (g.to B) w (G'.to B') w':=by
     intro B B' hB
     refine⟨?_,fun b k=>?_,fun b k=>?_,E.rows⟩
     ·intro id y k
      simp only[Go.Ab.G.to]at k ⊢
      by_cases jB:id<B
      ·rw[if_pos jB]at k
       rw[if_pos (by omega)]
       exact hm id y k
      ·rw[if_neg jB]at k;cases k
     ·show G'.fB b
      rw[I4]
      exact E.fB b k
     ·exact E.rP b (Fv b k) (S.hr.mq k)
    refine sim G0 K s (i::D) (i::jE) rest G' w' h2 (a.put o.dst x) L ?_
    have Hg: ∀ j∈rest.hJ,j∈hJ++rest.hJ:=fun j hj=>List.mem_append_right _ hj
    have Ft: ∀ j,c.dA j .al->j∈i::D->j∈D:=by
     intro j hj h
     refine(List.mem_cons.1 h).resolve_left fun e=>?_
     subst e
     cases c.ks ga hj
    exact
    {run:=ku
     stat:=I.stat.2.2.2
     closed:=hC
     yZ:=fun j hj=>by
      rcases I.yZ j hj with h|h
      ·rcases List.mem_cons.1 h with rfl|h
       ·exact .inr List.mem_cons_self
       ·exact .inl h
      ·exact .inr (List.mem_cons_of_mem _ h)
     Qa:=fun j hj h=>by
      rcases List.mem_cons.1 h with rfl|h
      ·
       exact absurd (A6 j (I.stat.2.2.1 j hj)) zZ
      ·exact I.Qa j (List.mem_cons_of_mem _ hj) h
     vM:=fun j hj=>by
      rcases List.mem_cons.1 hj with rfl|hj
      ·exact List.mem_cons_self
      ·exact List.mem_cons_of_mem _ (I.vM j hj)
     Vi:=fun j hj=>by
      rcases I.Vi j hj with h|h
      ·rcases List.mem_append.1 h with h|h
       ·exact .inr (List.mem_cons_of_mem _ (A6 j (I.stat.2.1 j h hj)))
       ·exact .inl h
      ·exact .inr (List.mem_cons_of_mem _ h)
     st:=⟨by rw[wP];exact H',by rw[wP];exact S.ext.trans E,fun j hj Fs Cj=>by
      rcases S.Fp j hj (Ft j Cj Fs) Cj with p|⟨v,cs,b,C,el,vs,n5,Q0,h3,h4,h5,h6,h7,h8,h9⟩
      ·exact .inl p
      ·have gB:=(Array.getElem?_eq_some_iff.1 h4).1
       refine .inr ⟨v,cs,b,C,el,vs,n5,Q0,hm _ _ h3,by rw[E.rP b gB h6];exact h4,?_,?_,h7,bF.gh (M _ _ (Nat.le_refl _)) _ _ h8,h9⟩
       ·rw[I4]
        intro k
        rcases E.Iy b k with k|k|k
        ·exact h5 k
        ·exact h6 k
        ·omega
       ·rw[wP]
        intro k
        rcases E.n9 b k with k|k
        ·exact h6 k
        ·omega,fun j hj k hk jD kD jc kc bj bk b mj mk=>by
      have e1: ∀ l∈rest.hJ,l∈D->c.dA l .al->c.bd l=c.nx l+1->G'.m (c.nx l)=some (b,0)->g.m (c.nx l)=some (b,0):=by
       intro l hl lD lc lb ml
       have:=c.sM ku l hl lc
       rw[hG']at ml
       simp only at ml
       rw[if_neg (by omega)]at ml
       exact ml
      exact I.st.I' j (Hg j hj) k (Hg k hk) (Ft j jc jD) (Ft k kc kD) jc kc bj bk b (e1 j hj (Ft j jc jD) jc bj mj) (e1 k hk (Ft k kc kD) kc bk mk)⟩
     Vj:=fun n y m=>by
      by_cases hn:n<h2.next
      ·exact .inl hn
      ·rw[hG']at m
       simp only at m
       rw[if_neg hn]at m
       obtain⟨_,j,hj,Fs,r⟩:=Vl n y m (by omega)
       exact .inr ⟨j,hj,List.mem_cons_of_mem _ Fs,r⟩
     qL:=vi G0 ho I.size I.qL (fun j _=>M _ _ (by omega)) zZ (fun d hd=>⟨(hS d hd).1,v,(hS d hd).2,by
      have:max (c.bd i) h2.next=h2.next:=by omega
      rw[this,wP];exact hv⟩)
     free:=xM ho I.size I.free (M _ _ (by omega))
     size:=by rw[xL];exact I.size
     defers:=by rw[put_defers];exact I.defers}
end Cx
end Go.Ab

noncomputable section
namespace Go.Ab
variable [Io]
def LY:Value->Value->Bool
 | .string a,.string b=>a.data.toList == b.data.toList
 | .pointer none,.pointer none=>true
 | .map none,.map none=>true
 | .nilFunc,.nilFunc=>true
 | .nilIface,.nilIface=>true
 | .slice none n c,.slice none n' c'=>Nat.beq n n'&&Nat.beq c c'
 | _,_=>false
mutual
def nc:AV->AV->Bool
 | .int k n,.int k' n'=>jv k k'&&eqI n n'
 | .bool a,.bool b=> !(xor a b)
 | .sc a,.sc b=>LY a b
 | .agg a,.agg b=>jR a b
 | .wg a,.wg b=>jR a b
 | .ref i o,.ref i' o'=>Nat.beq i i'&&Nat.beq o o'
 | .fg i o n s,.fg i' o' n' s'=>Nat.beq i i'&&Nat.beq o o'&&Nat.beq n n'&&Nat.beq s s'
 | .ly n a,.ly m b=>Nat.beq n m&&jR a b
 | .jy a,.jy b=>jR a b
 | .fk,.fk=>true
 | .qd,.qd=>true
 | .fn f a,.fn f' b=>Nat.beq f f'&&jR a b
 | .sym k s lo hi o,.sym k' s' lo' u5 o'=>jv k k'&&(ES s s'&&(eqI lo lo'&&(eqI hi u5&&eqI o o')))
 | .any,.any=>true
 | _,_=>false
def jR:List AV->List AV->Bool
 | [],[]=>true
 |a::l,b::r=>nc a b&&jR l r
 | _,_=>false
end
omit [Io] in
theorem ua{a b:Int}(h:eqI a b=true):a=b:=by
 cases a<;>cases b<;>simp[eqI]at h<;>simp[h]
omit [Io] in
theorem LZ{a b:ByteArray}(h:(a.data.toList == b.data.toList)=true):a=b:=by
 cases a with
 |mk a=>cases b with
  |mk b=>
   congr 1
   exact Array.toList_inj.1 (by simpa using h)
omit [Io] in
theorem L1{a b:Value}(h:LY a b=true):a=b:=by
 unfold LY at h
 split at h
 ·rw[LZ h]
 all_goals first|rfl|(cases h;done)|(rw[Bool.and_eq_true]at h;rw[Nat.eq_of_beq_eq_true h.1,Nat.eq_of_beq_eq_true h.2])
section
omit [Io]
mutual
theorem wQ: ∀ (a b:AV),nc a b=true->a=b
 | .int k n,b,h=>by cases b<;>simp only[nc,Bool.and_eq_true]at h<;>try cases h
                    rename_i h1 h2
                    rw[eQ.1 h1,ua h2]
 | .bool x,b,h=>by cases b<;>simp only[nc]at h<;>try cases h
                   rename_i y
                   cases x<;>cases y<;>first|rfl|cases h
 | .sc x,b,h=>by cases b<;>simp only[nc]at h<;>try cases h
                 rw[L1 h]
 | .agg x,b,h=>by cases b<;>simp only[nc]at h<;>try cases h
                  rw[jq _ _ h]
 | .wg x,b,h=>by cases b<;>simp only[nc]at h<;>try cases h
                 rw[jq _ _ h]
 | .ref i o,b,h=>by cases b<;>simp only[nc,Bool.and_eq_true,Nat.beq_eq]at h<;>try cases h
                    rename_i h1 h2
                    rw[h1,h2]
 | .fg i o n s,b,h=>by cases b<;>simp only[nc,Bool.and_eq_true,Nat.beq_eq]at h<;>try (cases h;done)
                       obtain⟨⟨⟨h1,h2⟩,h3⟩,h4⟩:=h
                       rw[h1,h2,h3,h4]
 | .ly n x,b,h=>by cases b<;>simp only[nc,Bool.and_eq_true,Nat.beq_eq]at h<;>try cases h
                   rename_i h1 h2
                   rw[h1,jq _ _ h2]
 | .jy x,b,h=>by cases b<;>simp only[nc]at h<;>try cases h
                 rw[jq _ _ h]
 | .fk,b,h=>by cases b<;>simp only[nc]at h<;>first|rfl|cases h
 | .qd,b,h=>by cases b<;>simp only[nc]at h<;>first|rfl|cases h
 | .any,b,h=>by cases b<;>simp only[nc]at h<;>first|rfl|cases h
 | .sym k s lo hi o,b,h=>by cases b<;>simp only[nc,Bool.and_eq_true]at h<;>try (cases h;done)
                            obtain⟨h1,h2,h3,h4,h5⟩:=h
                            rw[eQ.1 h1,La h2,ua h3,ua h4,ua h5]
 | .fn f x,b,h=>by cases b<;>simp only[nc,Bool.and_eq_true,Nat.beq_eq]at h<;>try cases h
                   rename_i h1 h2
                   rw[h1,jq _ _ h2]
theorem jq: ∀ (a b:List AV),jR a b=true->a=b
 | [],b,h=>by cases b with
  |nil=>rfl
  |cons _ _=>simp[jR]at h
 |a::l,b,h=>by
  cases b with
  |nil=>simp[jR]at h
  |cons c r=>
   simp only[jR,Bool.and_eq_true]at h
   rw[wQ _ _ h.1,jq _ _ h.2]
end
end
def ck(s:eN)(f:eH)(k:na):na:=fun t h=>Ro.rec Rt.bad (fun v _=>Option.rec Rt.bad (fun u=>Bool.rec Rt.bad (k t h) (nc u v)) (s t)) (f t h)
def mn(f:eH):eH:=fun t h=>Ro.rec Ro.bad (fun v h'=>Bool.rec Ro.bad (Ro.ok v h') (Nat.ble h.next h'.next)) (f t h)
def acs:Cl->Cl->Bool
 | .p0,.p0| .p1,.p1| .al,.al| .ch,.ch=>true
 | _,_=>false
omit [Io] in
theorem L2{a b:Cl}(h:acs a b=true):a=b:=by cases a<;>cases b<;>first|rfl|cases h
def kv(i:Nat)(l:List Nat):Bool:=List.rec false (fun a _ ih=>Bool.rec ih true (Nat.beq a i)) l
omit [Io] in
theorem kR{i:Nat}: ∀ {l:List Nat},kv i l=true↔i∈l
 | []=>by simp[kv]
 |a::l=>by
  show(Bool.rec (kv i l) true (Nat.beq a i):Bool)=true↔_
  cases h:Nat.beq a i with
  |true=>
   have:=Nat.eq_of_beq_eq_true h
   subst this
   simp
  |false=>
   have: ¬ i=a:=fun e=>by subst e;simp at h
   simp only[List.mem_cons,this,false_or]
   exact kR
def Fw(p:Nat->Bool)(l:List Nat):Bool:=List.rec false (fun a _ ih=>Bool.rec ih true (p a)) l
omit [Io] in
theorem ub{p:Nat->Bool}: ∀ {l:List Nat},Fw p l=true↔ ∃ i∈l,p i=true
 | []=>by simp[Fw]
 |a::l=>by
  show(Bool.rec (Fw p l) true (p a):Bool)=true↔_
  cases h:p a with
  |true=>simp[h]
  |false=>simp only[List.mem_cons,exists_eq_or_imp,h,Bool.false_eq_true,false_or];exact ub
def allI(p:Nat->Oper->Bool)(l:List Oper):Nat->Bool:=
 List.rec (fun _=>true) (fun o _ ih i=>Bool.rec false (ih (Nat.add i 1)) (p i o)) l
omit [Io] in
theorem z5{p:Nat->Oper->Bool}: ∀ {l:List Oper} {k:Nat},allI p l k=true-> ∀ i o,l[i]? =some o->p (k+i) o=true
 | [],k,_,i,o,h=>by simp at h
 |a::l,k,hh,i,o,h=>by
  change (Bool.rec false (allI p l (k+1)) (p k a):Bool)=true at hh
  cases hp:p k a with
  |false=>rw[hp]at hh;cases hh
  |true=>
   rw[hp]at hh
   cases i with
   |zero=>simp at h;subst h;exact hp
   |succ i=>
    have:=z5 hh i o (by simpa using h)
    rwa [show k+1+i=k+(i+1) by omega]at this
omit [Io] in
theorem kS{p:Nat->Oper->Bool}{l:List Oper}(h:allI p l 0=true)(i:Nat)(o:Oper)(ho:l[i]? =some o):p i o=true:=by
 have:=z5 h i o ho
 simpa using this
def Hh(l:List Oper):Bool:=allI (fun i o=>cb (fun e=>Bool.rec true (Nat.blt e.on i) (Region.binds .any e)) o.after.toList) l 0
omit [Io] in
theorem RF{ops:Array Oper}(h:Hh ops.toList=true):Down ops:=by
 intro i o e ho he hb
 have:=kS h i o (by simpa using ho)
 rw[g7,List.all_eq_true]at this
 have:=this e (by simpa using he)
 rw[hb]at this
 exact bH.1 this
def z6(o:Oper)(d:Nat):Bool:=match o.dst with
 |some e=>Nat.beq e d
 |none=>false
omit [Io] in
theorem vj{o:Oper}{d:Nat}(h:o.dst=some d):z6 o d=true:=by unfold z6;rw[h];simp
def RG(l:List Oper):Bool:=allI (fun i o=>match o.dst with
 |some d=>allI (fun j o'=>Bool.rec true (Nat.beq i j) (z6 o' d)) l 0
 |none=>true) l 0
section
variable (P:Program)(call:cV)(nt:Nat)(L:List Oper)
def uc(k:Cl)(i:Nat):Bool:=match lz L i with
 |some o=>acs (py P call o.op).1 k
 |none=>false
def EL(bV:List Nat)(i:Nat):Bool:=match lz L i with
 |some o=>cb (fun u=>Nat.blt u nt&&Bool.rec (allI (fun j o'=>Bool.rec true (!kv j bV&&(Fl L j i&& !Fl L i j)) (z6 o' u)) L 0) true (allI (fun j o'=>Bool.rec true (kv j bV&&Fl L i j) (z6 o' u)) L 0)) (rz L o)
 |none=>false
def RH(i:Nat)(k:na):na:=match lz L i with
 |some o=>match o.dst with
  |some d=>iw (Nat.blt d nt) (st (sT d) (lr P call nt L o) k) (fun _ _=>.bad)
  |none=>sn (lr P call nt L o) k
 |none=>fun _ _=>.bad
def Xg(i:Nat)(k:na):na:=match lz L i with
 |some o=>match o.dst with
  |some d=>iw (Nat.blt d nt) (ck (oT d) (lr P call nt L o) k) (fun _ _=>.bad)
  |none=>sn (lr P call nt L o) k
 |none=>fun _ _=>.bad
def runM(i:Nat)(k:na):na:=match lz L i with
 |some o=>match o.dst with
  |some d=>iw (Nat.blt d nt) (st (sT d) (mn (lr P call nt L o)) k) (fun _ _=>.bad)
  |none=>sn (mn (lr P call nt L o)) k
 |none=>fun _ _=>.bad
def nP:List Nat->List Nat->(List Nat->na)->na
 | [],bV,k=>k bV
 |i::l,bV,k=>iw (EL nt L bV i) (iw (kv i bV) (iw (uc P call L .p1 i) (Xg P call nt L i (nP l bV k)) (fun _ _=>.bad))
  (iw (uc P call L .p0 i||uc P call L .p1 i) (RH P call nt L i (nP l (i::bV) k)) (fun _ _=>.bad))) (fun _ _=>.bad)
def Fx:List Nat->List Nat->(List Nat->na)->na
 | [],bV,k=>k bV
 |i::l,bV,k=>iw (EL nt L bV i&&(!kv i bV&&(uc P call L .p0 i||uc P call L .al i))) (RH P call nt L i (Fx l (i::bV) k)) (fun _ _=>.bad)
def oi:lT->List Nat->na
 | .last pre hJ,bV=>nP P call nt L pre bV fun bV=>Fx P call nt L hJ bV fun bV=>iw (allI (fun i _=>kv i bV) L 0) fi (fun _ _=>.bad)
 | .cons pre hJ q rest,bV=>nP P call nt L pre bV fun bV=>Fx P call nt L hJ bV fun bV=>
   iw (EL nt L bV q&&(!kv q bV&&uc P call L .ch q)) (runM P call nt L q (oi rest (q::bV))) (fun _ _=>.bad)
def z7:lT->List Nat->Bool
 | .last pre _,jE=>allI (fun i _=>Bool.rec true (Fw (fun j=>Fl L j i) jE||kv i pre) (uc P call L .p1 i)) L 0
 | .cons pre hJ q rest,jE=>allI (fun i _=>Bool.rec true (Fw (fun j=>Fl L j i) jE||(Fw (fun j=>Fl L i j) (q::rest.yZ)||kv i pre)) (uc P call L .p1 i)) L 0&&
   (cb (fun i=>Bool.rec true (Fl L q i) (uc P call L .al i)) hJ&&(cb (fun q'=>Fl L q' q) rest.yZ&&z7 rest (q::jE)))
end
end Go.Ab

noncomputable section
namespace Go.Ab
variable [Io]
section
variable {P:Program}{call:cV}
def Kn(f:eH):Prop:= ∀ t h v h',f t h=.ok v h'->h'=h
omit [Io] in
theorem A7{b:Bool}{x:Ro}{v:AV}{h:Hp}(e:(bif b then x else .bad)=.ok v h):x=.ok v h:=by cases b;cases e;exact e
omit [Io] in
theorem mK:Kn bI:=by intro t h v h' e;cases e
omit [Io] in
theorem L3{c:Bool}{f:eH}(i:Kn f):Kn (iw c f bI):=by cases c;exact mK;exact i
omit [Io] in
theorem RI{n:Nat}{b:Bool}{x:eN}:Kn (bh n b x):=by
 intro t h v h' e
 unfold bh at e
 split at e
 ·split at e
  ·cases e;rfl
  ·cases e
 ·cases e
omit [Io] in
theorem Jd{x:eN}{lo hi:Option eN}:Kn (di x lo hi):=by
 intro t h v h' e
 unfold di at e
 split at e
 ·split at e
  ·cases e;rfl
  ·cases e
 ·cases e
omit [Io] in
theorem L4{n:Nat}{x:eN}{lo hi:Option eN}:Kn (nM n x lo hi):=by
 intro t h v h' e
 unfold nM at e
 split at e
 ·split at e
  ·cases e;rfl
  ·cases e
 ·split at e
  ·have e:=A7 e
   cases e;rfl
  ·cases e
 ·split at e
  ·cases e;rfl
  ·cases e
 ·cases e
omit [Io] in
theorem Je{n:Nat}{x:eN}{lo hi:Option eN}:Kn (cZ n x lo hi):=by
 intro t h v h' e
 unfold cZ at e
 split at e
 ·rename_i a hx
  cases hE:sF a with
  |false=>rw[hE]at e;exact L4 _ _ _ _ e
  |true=>
   rw[hE]at e
   simp only[cond_true]at e
   split at e
   ·cases e;rfl
   ·cases e
 ·cases e
omit [Io] in
theorem Jf{n m:Nat}{x:eN}{lo hi:Option eN}:Kn (jX n m x lo hi):=by
 intro t h v h' e
 unfold jX at e
 split at e
 ·split at e
  ·split at e
   ·have e:=A7 e
    cases e;rfl
   ·cases e
  ·cases e
 ·cases e
omit [Io] in
theorem Xh{x y z:eN}:Kn (xk x y z):=by
 intro t h v h' e
 unfold xk at e
 split at e
 ·split at e
  ·have e:=A7 e
   split at e
   ·cases e;rfl
   ·cases e;rfl
   ·cases e;rfl
   ·cases e
  ·cases e
 ·cases e
omit [Io] in
theorem Xi{o:Op}(hc:(py P call o).1=.p1):Kn (py P call o).2:=by
 cases o<;>simp only[py]at hc ⊢
 case load T x=>
  unfold CP
  split
  ·split
   ·exact RI
   ·exact mK
  ·exact mK
 case slice T x lo hi mx=>
  cases mx with
  |some m=>
   simp only
   unfold tT
   split
   ·split
    ·split
     ·exact Xh
     ·exact mK
    ·exact mK
   ·exact mK
  |none=>
   simp only
   unfold xC
   split
   ·exact Jd
   ·split
    ·exact Je
    ·exact mK
   ·split
    ·exact L3 Jf
    ·exact mK
   ·exact mK
 case binOp op T x y yT=>cases h:CO P op T<;>rw[h]at hc<;>cases hc
 case unOp op T x=>cases h:W8 op<;>rw[h]at hc<;>cases hc
 case convert S D x=>
  cases h:P.underlying D with
  |none=>rw[h]at hc;cases hc
  |some d=>cases d<;>rw[h]at hc<;>cases hc
 case makeFunc f first caps=>
  cases f<;>try (cases hc;done)
  simp only at hc
  cases h:first.toList<;>rw[h]at hc<;>cases hc
 case makeMap T r=>cases r<;>cases hc
 case call c=>cases h:jn P c<;>rw[h]at hc<;>cases hc
 all_goals (cases hc)
omit [Io] in
theorem L5{nt:Nat}{all:List Oper}{o:Oper}(ga:(py P call o.op).1=.p1):Kn (lr P call nt all o):=by
 have hf:Kn (py P call o.op).2:=Xi ga
 unfold lr
 cases o.guard with
 |none=>exact hf
 |some p=>
  obtain⟨j,want⟩:=p
  simp only
  split
  ·split
   ·refine L3 ?_
    intro t h v h' e
    unfold gF at e
    split at e
    ·rename_i b _
     cases hw:iw want b (!b)with
     |false=>rw[hw]at e;cases e;rfl
     |true=>rw[hw]at e;exact hf t h v h' e
    ·cases e;rfl
    ·cases e
   ·exact mK
  ·exact mK
end
omit [Io] in
theorem ou{b x:Bool}(h:(Bool.rec true x b:Bool)=true)(hb:b=true):x=true:=by subst hb;exact h
namespace Cx
variable {c:Cx}
omit [Io] in
theorem kI{k:Cl}{i:Nat}:uc c.P c.call c.ops.toList k i=true↔c.dA i k:=by
 unfold uc dA
 rw[gK]
 constructor
 ·intro h
  split at h
  ·rename_i o ho
   exact⟨o,by simpa using ho,L2 h⟩
  ·cases h
 ·rintro⟨o,ho,hk⟩
  have:c.ops.toList[i]? =some o:=by simpa using ho
  rw[this,<-hk]
  simp only
  cases(py c.P c.call o.op).1<;>rfl
omit [Io] in
theorem xN{bV:List Nat}{i:Nat}(h:EL c.nt c.ops.toList bV i=true): ∀ u∈c.P' i,u<c.nt/\((∀ j,c.mu j u->j∈bV/\c.An i j)∨ ∀ j,c.mu j u->j∉bV/\c.An j i/\ ¬ c.An i j):=by
 unfold EL at h
 rw[gK]at h
 unfold P'
 intro u hu
 cases ho:c.ops[i]? with
 |none=>rw[ho]at hu;cases hu
 |some o=>
  rw[ho]at hu
  have:c.ops.toList[i]? =some o:=by simpa using ho
  rw[this]at h
  simp only[g7,List.all_eq_true]at h
  have:=h u hu
  rw[Bool.and_eq_true]at this
  refine⟨bH.1 this.1,?_⟩
  cases h1:allI (fun j o'=>Bool.rec true (kv j bV&&Fl c.ops.toList i j) (z6 o' u)) c.ops.toList 0 with
  |true=>
   refine .inl ?_
   rintro j ⟨oj,hoj,hd⟩
   have h2:=ou (kS h1 j oj (by simpa using hoj)) (vj hd)
   rw[Bool.and_eq_true,kR]at h2
   exact h2
  |false=>
   rw[h1]at this
   refine .inr ?_
   rintro j ⟨oj,hoj,hd⟩
   have h2:=ou (kS this.2 j oj (by simpa using hoj)) (vj hd)
   simp only[Bool.and_eq_true,Bool.not_eq_true']at h2
   refine⟨fun k=>?_,h2.2.1,fun k=>?_⟩
   ·rw[kR.2 k]at h2;cases h2.1
   ·unfold An at k;rw[k]at h2;cases h2.2.2
def Cov(c:Cx)(bV:List Nat)(u:Nat):Prop:= ∀ j,c.mu j u->j∈bV
def Vm(c:Cx)(bV:List Nat)(t:Tm):Prop:= ∀ u,u<512->(∀ j,c.mu j u->j∉bV)->t.at u=c.t0.at u
def Fr(c:Cx)(bV:List Nat)(t:Tm):Prop:= ∀ u,u<512->c.Cov bV u->c.te.at u=t.at u
omit [Io] in
theorem ud{i:Nat}{k:na}{t:Tm}{h:Hp}{te:Tm}{hE:Hp}(e:RH c.P c.call c.nt c.ops.toList i k t h=.ok te hE):
 ∃ o v h1 t1,c.ops[i]? =some o/\lr c.P c.call c.nt c.ops.toList o t h=.ok v h1/\k t1 h1=.ok te hE/\((∃ d,o.dst=some d/\d<c.nt/\t1=sT d v t)∨(o.dst=none/\t1=t)):=by
 unfold RH at e
 rw[gK]at e
 cases ho:c.ops.toList[i]? with
 |none=>rw[ho]at e;cases e
 |some o=>
  rw[ho]at e
  simp only at e
  have my:c.ops[i]? =some o:=by simpa using ho
  cases hd:o.dst with
  |none=>
   rw[hd]at e
   change sn (lr c.P c.call c.nt c.ops.toList o) k t h=_ at e
   unfold sn at e
   cases hg:lr c.P c.call c.nt c.ops.toList o t h with
   |bad=>rw[hg]at e;cases e
   |ok v h1=>rw[hg]at e;exact⟨o,v,h1,t,my,hg,e,.inr ⟨hd,rfl⟩⟩
  |some d=>
   rw[hd]at e
   simp only at e
   cases hb:Nat.blt d c.nt with
   |false=>rw[hb]at e;cases e
   |true=>
    rw[hb]at e
    change st (sT d) (lr c.P c.call c.nt c.ops.toList o) k t h=_ at e
    unfold st at e
    cases hg:lr c.P c.call c.nt c.ops.toList o t h with
    |bad=>rw[hg]at e;cases e
    |ok v h1=>rw[hg]at e;exact⟨o,v,h1,_,my,hg,e,.inl ⟨d,hd,bH.1 hb,rfl⟩⟩
omit [Io] in
theorem Hi{f:eH}{t:Tm}{h h':Hp}{v:AV}(e:mn f t h=.ok v h'):f t h=.ok v h'/\h.next<=h'.next:=by
 unfold mn at e
 cases hf:f t h with
 |bad=>rw[hf]at e;cases e
 |ok v1 h1=>
  rw[hf]at e
  change (Bool.rec Ro.bad (Ro.ok v1 h1) (Nat.ble h.next h1.next):Ro)=_ at e
  cases hb:Nat.ble h.next h1.next with
  |false=>rw[hb]at e;cases e
  |true=>rw[hb]at e;cases e;exact⟨rfl,Nat.ble_eq.mp hb⟩
omit [Io] in
theorem C3{i:Nat}{k:na}{t:Tm}{h:Hp}{te:Tm}{hE:Hp}(e:runM c.P c.call c.nt c.ops.toList i k t h=.ok te hE):
 ∃ o v h1 t1,c.ops[i]? =some o/\lr c.P c.call c.nt c.ops.toList o t h=.ok v h1/\h.next<=h1.next/\k t1 h1=.ok te hE/\((∃ d,o.dst=some d/\d<c.nt/\t1=sT d v t)∨(o.dst=none/\t1=t)):=by
 unfold runM at e
 rw[gK]at e
 cases ho:c.ops.toList[i]? with
 |none=>rw[ho]at e;cases e
 |some o=>
  rw[ho]at e
  simp only at e
  have my:c.ops[i]? =some o:=by simpa using ho
  cases hd:o.dst with
  |none=>
   rw[hd]at e
   change sn (mn (lr c.P c.call c.nt c.ops.toList o)) k t h=_ at e
   unfold sn at e
   cases hg:mn (lr c.P c.call c.nt c.ops.toList o) t h with
   |bad=>rw[hg]at e;cases e
   |ok v h1=>rw[hg]at e;exact⟨o,v,h1,t,my,(Hi hg).1,(Hi hg).2,e,.inr ⟨hd,rfl⟩⟩
  |some d=>
   rw[hd]at e
   simp only at e
   cases hb:Nat.blt d c.nt with
   |false=>rw[hb]at e;cases e
   |true=>
    rw[hb]at e
    change st (sT d) (mn (lr c.P c.call c.nt c.ops.toList o)) k t h=_ at e
    unfold st at e
    cases hg:mn (lr c.P c.call c.nt c.ops.toList o) t h with
    |bad=>rw[hg]at e;cases e
    |ok v h1=>rw[hg]at e;exact⟨o,v,h1,_,my,(Hi hg).1,(Hi hg).2,e,.inl ⟨d,hd,bH.1 hb,rfl⟩⟩
omit [Io] in
theorem C4{i:Nat}{k:na}{t:Tm}{h:Hp}{te:Tm}{hE:Hp}(hc:c.dA i .p1)(e:Xg c.P c.call c.nt c.ops.toList i k t h=.ok te hE):
 ∃ o v,c.ops[i]? =some o/\lr c.P c.call c.nt c.ops.toList o t h=.ok v h/\k t h=.ok te hE/\ ∀ d,o.dst=some d->d<c.nt/\t.at d=some v:=by
 unfold Xg at e
 rw[gK]at e
 cases ho:c.ops.toList[i]? with
 |none=>rw[ho]at e;cases e
 |some o=>
  rw[ho]at e
  simp only at e
  have my:c.ops[i]? =some o:=by simpa using ho
  have hlv: ∀ v h1,lr c.P c.call c.nt c.ops.toList o t h=.ok v h1->h1=h:=by
   intro v h1 hg
   obtain⟨o',n5,Q0⟩:=hc
   rw[my]at n5
   cases n5
   exact L5 Q0 _ _ _ _ hg
  cases hd:o.dst with
  |none=>
   rw[hd]at e
   change sn (lr c.P c.call c.nt c.ops.toList o) k t h=_ at e
   unfold sn at e
   cases hg:lr c.P c.call c.nt c.ops.toList o t h with
   |bad=>rw[hg]at e;cases e
   |ok v h1=>
    rw[hg]at e
    obtain rfl:=hlv v h1 hg
    exact⟨o,v,my,hg,e,fun d h=>by rw[hd]at h;cases h⟩
  |some d=>
   rw[hd]at e
   simp only at e
   cases hb:Nat.blt d c.nt with
   |false=>rw[hb]at e;cases e
   |true=>
    rw[hb]at e
    change ck (oT d) (lr c.P c.call c.nt c.ops.toList o) k t h=_ at e
    unfold ck at e
    cases hg:lr c.P c.call c.nt c.ops.toList o t h with
    |bad=>rw[hg]at e;cases e
    |ok v h1=>
     rw[hg]at e
     obtain rfl:=hlv v h1 hg
     change (Option.rec Rt.bad (fun u=>Bool.rec Rt.bad (k t h1) (nc u v)) (t.at d):Rt)=_ at e
     cases ht:t.at d with
     |none=>rw[ht]at e;cases e
     |some u=>
      rw[ht]at e
      change (Bool.rec Rt.bad (k t h1) (nc u v):Rt)=_ at e
      cases hq:nc u v with
      |false=>rw[hq]at e;cases e
      |true=>
       rw[hq]at e
       obtain rfl:=wQ _ _ hq
       exact⟨o,u,my,hg,e,fun d' h=>by rw[hd]at h;cases h;exact⟨bH.1 hb,ht⟩⟩
omit [Io] in
theorem ue{bV:List Nat}{i:Nat}{o:Oper}{t t1:Tm}{v:AV}(jw:c.nt<=512)(ho:c.ops[i]? =some o)(hi:i∉bV)
 (ht:(∃ d,o.dst=some d/\d<c.nt/\t1=sT d v t)∨(o.dst=none/\t1=t))(F:c.Fr (i::bV) t1):c.Fr bV t:=by
 intro u hu hc
 rw[F u hu (fun j hj=>List.mem_cons_of_mem _ (hc j hj))]
 rcases ht with⟨d,hd,Kk,rfl⟩|⟨_,rfl⟩
 ·show(Tm.put t d (some v)).at u=t.at u
  rw[Tm.jA _ _ _ _ (Nat.lt_of_lt_of_le Kk jw) hu,if_neg]
  intro e
  subst e
  exact hi (hc i ⟨o,ho,hd⟩)
 ·rfl
omit [Io] in
theorem ov{i:Nat}{l:List Nat}(h:kv i l=false):i∉l:=fun k=>by rw[kR.2 k]at h;cases h
omit [Io] in
theorem rA(jw:c.nt<=512){k:List Nat->na}(hk: ∀ bV t h,k bV t h=.ok c.te c.hE->c.Fr bV t): ∀ (pre bV:List Nat) (t:Tm) (h:Hp),
 nP c.P c.call c.nt c.ops.toList pre bV k t h=.ok c.te c.hE->c.Fr bV t
 | [],bV,t,h,e=>hk bV t h e
 |i::l,bV,t,h,e=>by
  unfold nP at e
  cases h1:EL c.nt c.ops.toList bV i with
  |false=>rw[h1]at e;cases e
  |true=>
  rw[h1]at e
  simp only[iw]at e
  cases h2:kv i bV with
  |true=>
   rw[h2]at e
   cases h3:uc c.P c.call c.ops.toList .p1 i with
   |false=>rw[h3]at e;cases e
   |true=>
    rw[h3]at e
    obtain⟨o,v,_,_,e,_⟩:=C4 (kI.1 h3) e
    exact rA jw hk l bV t h e
  |false=>
   rw[h2]at e
   cases h3:(uc c.P c.call c.ops.toList .p0 i||uc c.P c.call c.ops.toList .p1 i)with
   |false=>rw[h3]at e;cases e
   |true=>
    rw[h3]at e
    obtain⟨o,v,n5,t1,ho,_,e,ht⟩:=ud e
    exact ue jw ho (ov h2) ht (rA jw hk l (i::bV) t1 n5 e)
omit [Io] in
theorem pF(jw:c.nt<=512){k:List Nat->na}(hk: ∀ bV t h,k bV t h=.ok c.te c.hE->c.Fr bV t): ∀ (hJ bV:List Nat) (t:Tm) (h:Hp),
 Fx c.P c.call c.nt c.ops.toList hJ bV k t h=.ok c.te c.hE->c.Fr bV t
 | [],bV,t,h,e=>hk bV t h e
 |i::l,bV,t,h,e=>by
  unfold Fx at e
  cases h1:(EL c.nt c.ops.toList bV i&&(!kv i bV&&(uc c.P c.call c.ops.toList .p0 i||uc c.P c.call c.ops.toList .al i)))with
  |false=>rw[h1]at e;cases e
  |true=>
   rw[h1]at e
   simp only[iw]at e
   simp only[Bool.and_eq_true,Bool.not_eq_true']at h1
   obtain⟨o,v,n5,t1,ho,_,e,ht⟩:=ud e
   exact ue jw ho (ov h1.2.1) ht (pF jw hk l (i::bV) t1 n5 e)
omit [Io] in
theorem uf(jw:c.nt<=512): ∀ (pl:lT) (bV:List Nat) (t:Tm) (h:Hp),oi c.P c.call c.nt c.ops.toList pl bV t h=.ok c.te c.hE->c.Fr bV t
 | .last pre hJ,bV,t,h,e=>by
  unfold oi at e
  refine rA jw (fun bV t h e=>?_) pre bV t h e
  refine pF jw (fun bV t h e=>?_) hJ bV t h e
  cases hb:allI (fun i _=>kv i bV) c.ops.toList 0 with
  |false=>rw[hb]at e;cases e
  |true=>
   rw[hb]at e
   obtain⟨rfl,_⟩:=Rt.ok.inj e
   exact fun u _ _=>rfl
 | .cons pre hJ q rest,bV,t,h,e=>by
  unfold oi at e
  refine rA jw (fun bV t h e=>?_) pre bV t h e
  refine pF jw (fun bV t h e=>?_) hJ bV t h e
  cases h1:(EL c.nt c.ops.toList bV q&&(!kv q bV&&uc c.P c.call c.ops.toList .ch q))with
  |false=>rw[h1]at e;cases e
  |true=>
   rw[h1]at e
   simp only[iw]at e
   simp only[Bool.and_eq_true,Bool.not_eq_true']at h1
   obtain⟨o,v,n5,t1,ho,_,_,e,ht⟩:=C3 e
   exact ue jw ho (ov h1.2.1) ht (uf jw rest (q::bV) t1 n5 e)
omit [Io] in
theorem xO{bV:List Nat}{i:Nat}{o:Oper}{t t1:Tm}{v:AV}(jw:c.nt<=512)(ho:c.ops[i]? =some o)
 (ht:(∃ d,o.dst=some d/\d<c.nt/\t1=sT d v t)∨(o.dst=none/\t1=t))(F:c.Vm bV t):c.Vm (i::bV) t1:=by
 intro u hu hc
 rw[<-F u hu (fun j hj k=>hc j hj (List.mem_cons_of_mem _ k))]
 rcases ht with⟨d,hd,Kk,rfl⟩|⟨_,rfl⟩
 ·show(Tm.put t d (some v)).at u=t.at u
  rw[Tm.jA _ _ _ _ (Nat.lt_of_lt_of_le Kk jw) hu,if_neg]
  intro e
  subst e
  exact hc i ⟨o,ho,hd⟩ List.mem_cons_self
 ·rfl
omit [Io] in
theorem acu{i u:Nat}(gB: ∀ u∈c.P' i,u<512)(hu:u∈c.P' i):((∃ j,c.mu j u/\c.An i j)/\(c.rf i).at u=c.te.at u)∨((¬ ∃ j,c.mu j u/\c.An i j)/\(c.rf i).at u=c.t0.at u):=by
 have key: ∀ (l:List Nat),(∀ u∈l,u<512)->u∈l->((∃ j,c.mu j u/\c.An i j)/\(c.Km i l).at u=c.te.at u)∨((¬ ∃ j,c.mu j u/\c.An i j)/\(c.Km i l).at u=c.t0.at u):=by
  intro l
  induction l with
  |nil=>intro _ h;cases h
  |cons x l ih=>
   intro hl hm
   rw[Km,Tm.jA _ _ _ _ (hl x List.mem_cons_self) (hl u hm)]
   by_cases hx:u=x
   ·subst hx
    rw[if_pos rfl]
    by_cases hw: ∃ j,c.mu j u/\c.An i j
    ·rw[if_pos hw];exact .inl ⟨hw,rfl⟩
    ·rw[if_neg hw];exact .inr ⟨hw,rfl⟩
   ·rw[if_neg hx]
    exact ih (fun y hy=>hl y (List.mem_cons_of_mem _ hy)) ((List.mem_cons.1 hm).resolve_left hx)
 exact key _ gB hu
omit [Io] in
theorem C5{bV:List Nat}{i:Nat}{o:Oper}{t:Tm}{h h1:Hp}{v:AV}(jw:c.nt<=512)(hU: ∀ u,u<512->(∀ j,¬ c.mu j u)->c.te.at u=c.t0.at u)(F:c.Fr bV t)(hO:c.Vm bV t)(ho:c.ops[i]? =some o)(hr:EL c.nt c.ops.toList bV i=true)
 (e:lr c.P c.call c.nt c.ops.toList o t h=.ok v h1):c.FE i (c.rf i) h=.ok v h1:=by
 rw[vN ho,<-e]
 refine Ru fun u hu=>?_
 rw[<-Xc ho]at hu
 have gB: ∀ u∈c.P' i,u<512:=fun u hu=>Nat.lt_of_lt_of_le (xN hr u hu).1 jw
 obtain⟨_,P9⟩:=xN hr u hu
 rcases acu gB hu with⟨⟨j,hj,hA⟩,er⟩|⟨hno,er⟩
 ·rw[er]
  rcases P9 with h1|h1
  ·exact F u (gB u hu) (fun j hj=>(h1 j hj).1)
  ·exact absurd hA (h1 j hj).2.2
 ·rw[er]
  rcases P9 with h1|h1
  ·have hn: ∀ j,¬ c.mu j u:=fun j hj=>hno ⟨j,hj,(h1 j hj).2⟩
   rw[<-hU u (gB u hu) hn]
   exact F u (gB u hu) (fun j hj=>absurd hj (hn j))
  ·exact(hO u (gB u hu) (fun j hj=>(h1 j hj).1)).symm
omit [Io] in
theorem vk{bV:List Nat}{i:Nat}{o:Oper}{t t1:Tm}{v:AV}(jw:c.nt<=512)(Ck: ∀ i j d,c.mu i d->c.mu j d->i=j)(ho:c.ops[i]? =some o)
 (ht:(∃ d,o.dst=some d/\d<c.nt/\t1=sT d v t)∨(o.dst=none/\t1=t))(F:c.Fr (i::bV) t1):c.Slot i v:=by
 intro d hd
 obtain⟨o',my,Jb⟩:=id hd
 rw[ho]at my
 cases my
 rcases ht with⟨d2,G2,Kk,rfl⟩|⟨hn,_⟩
 ·rw[Jb]at G2
  cases G2
  refine⟨Kk,?_⟩
  rw[F d (Nat.lt_of_lt_of_le Kk jw) (fun j hj=>by rw[Ck j i d hj hd];exact List.mem_cons_self)]
  show(Tm.put t d (some v)).at d=_
  rw[Tm.jA _ _ _ _ (Nat.lt_of_lt_of_le Kk jw) (Nat.lt_of_lt_of_le Kk jw),if_pos rfl]
 ·rw[Jb]at hn;cases hn
end Cx
end Go.Ab

noncomputable section
namespace Go.Ab
variable [Io]
namespace Cx
def wi(c:Cx)(nx bd:Nat->Nat):Cx:={c with nx:=nx,bd:=bd}
def GI(c:Cx)(i:Nat):Prop:=
 (c.dA i .p0-> ∃ v,(∀ h,c.FE i (c.rf i) h=.ok v h)/\c.Slot i v/\c.pD i (c.bd i))/\
 (c.dA i .al-> ∃ v,c.Slot i v/\c.pD i (c.nx i)/\((c.FE i (c.rf i) (fS (c.nx i))=.ok v (fS (c.nx i))/\c.bd i=c.nx i)∨
  ∃ cs,c.FE i (c.rf i) (fS (c.nx i))=.ok v (dw (fS (c.nx i)) cs)/\c.bd i=c.nx i+1))
def EG(f:Nat->Nat)(i n:Nat):Nat->Nat:=fun j=>if j=i then n else f j
omit [Io] in
theorem mL{f:Nat->Nat}{i n:Nat}:EG f i n i=n:=if_pos rfl
omit [Io] in
theorem pG{f:Nat->Nat}{i n j:Nat}(h:j≠i):EG f i n j=f j:=if_neg h
variable {c:Cx}
omit [Io] in
theorem L6{nx bd:Nat->Nat}{i:Nat}: ∀ (l:List Nat),(c.wi nx bd).Km i l=c.Km i l
 | []=>rfl
 |u::l=>by
  rw[Km,Km,L6 l]
  rfl
omit [Io] in
theorem C6{nx bd:Nat->Nat}{i:Nat}:(c.wi nx bd).rf i=c.rf i:=L6 _
omit [Io] in
theorem Hj{bV:List Nat}{i N:Nat}(hr:EL c.nt c.ops.toList bV i=true)(hb: ∀ j∈bV,c.bd j<=N):c.pD i N:=by
 intro u hu
 obtain⟨h1,h2⟩:=xN hr u hu
 exact⟨h1,h2.imp (fun h j hj=>⟨(h j hj).2,hb j (h j hj).1⟩) (fun h j hj=>(h j hj).2.1)⟩
omit [Io] in
theorem wR(jw:c.nt<=512)(hU: ∀ u,u<512->(∀ j,¬ c.mu j u)->c.te.at u=c.t0.at u)(Ck: ∀ i j d,c.mu i d->c.mu j d->i=j){k:List Nat->na}(hk: ∀ bV t h,k bV t h=.ok c.te c.hE->c.Fr bV t)
 {Φ:(Nat->Nat)->(Nat->Nat)->List Nat->Prop}{h:Hp}
 (ih: ∀ (bV:List Nat) (t:Tm) (rR qg:Nat->Nat),k bV t h=.ok c.te c.hE->c.Vm bV t->(∀ j∈bV,qg j<=h.next)-> ∃ nx bd,(∀ j∈bV,nx j=rR j/\bd j=qg j)/\Φ nx bd bV):
 ∀ (pre bV:List Nat) (t:Tm) (rR qg:Nat->Nat),nP c.P c.call c.nt c.ops.toList pre bV k t h=.ok c.te c.hE->c.Vm bV t->(∀ j∈bV,qg j<=h.next)->
  ∃ nx bd,(∀ j∈bV,nx j=rR j/\bd j=qg j)/\(c.wi nx bd).P1s pre h/\ ∃ qm,Φ nx bd qm/\ ∀ i∈qm,i∈bV∨((c.wi nx bd).GI i/\(c.dA i .p0∨c.dA i .p1))
 | [],bV,t,rR,qg,e,hO,hb=>by
  obtain⟨nx,bd,h1,h2⟩:=ih bV t rR qg e hO hb
  exact⟨nx,bd,h1,(fun i hi=>by cases hi),bV,h2,fun i hi=>.inl hi⟩
 |i::l,bV,t,rR,qg,e,hO,hb=>by
  have F:=rA jw hk (i::l) bV t h e
  unfold nP at e
  cases h1:EL c.nt c.ops.toList bV i with
  |false=>rw[h1]at e;cases e
  |true=>
  rw[h1]at e
  simp only[iw]at e
  cases h2:kv i bV with
  |true=>
   rw[h2]at e
   cases h3:uc c.P c.call c.ops.toList .p1 i with
   |false=>rw[h3]at e;cases e
   |true=>
    rw[h3]at e
    obtain⟨o,v,ho,hg,e,hs⟩:=C4 (kI.1 h3) e
    obtain⟨nx,bd,a1,a2,qm,a3,a4⟩:=wR jw hU Ck hk ih l bV t rR qg e hO hb
    refine⟨nx,bd,a1,fun j hj hc=>?_,qm,a3,a4⟩
    rcases List.mem_cons.1 hj with rfl|hj
    ·refine⟨v,C5 jw hU F hO ho h1 hg,?_,Hj (c:=c.wi nx bd) h1 (fun j hj=>by show bd j<=_;rw[(a1 j hj).2];exact hb j hj)⟩
     intro d hd
     obtain⟨o',my,Jb⟩:=id hd
     have L7:c.ops[j]? =some o':=my
     rw[ho]at L7
     cases L7
     obtain⟨s1,s2⟩:=hs d Jb
     refine⟨s1,?_⟩
     show c.te.at d=_
     rw[F d (Nat.lt_of_lt_of_le s1 jw) (fun x hx=>by rw[Ck x j d hx hd];exact kR.1 h2)]
     exact s2
    ·exact a2 j hj hc
  |false=>
   rw[h2]at e
   have Vn:=ov h2
   cases h3:(uc c.P c.call c.ops.toList .p0 i||uc c.P c.call c.ops.toList .p1 i)with
   |false=>rw[h3]at e;cases e
   |true=>
    rw[h3]at e
    have ga:c.dA i .p0∨c.dA i .p1:=by
     rw[Bool.or_eq_true]at h3
     exact h3.imp kI.1 kI.1
    obtain⟨o,v,n5,t1,ho,hg,e2,ht⟩:=ud e
    clear e
    have hlv:n5=h:=by
     rcases ga with⟨o',my,C7⟩|⟨o',my,C7⟩
     ·rw[ho]at my;cases my
      exact((tX C7).ok hg).1
     ·rw[ho]at my;cases my
      exact L5 C7 _ _ _ _ hg
    subst hlv
    have jQ: ∀ j∈bV,j≠i:=fun j hj e=>Vn (e▸hj)
    obtain⟨nx,bd,a1,a2,qm,a3,a4⟩:=wR jw hU Ck hk ih l (i::bV) t1 (EG rR i n5.next) (EG qg i n5.next) e2 (xO jw ho ht hO) (fun j hj=>by
     rcases List.mem_cons.1 hj with rfl|hj
     ·rw[mL];exact Nat.le_refl _
     ·rw[pG (jQ j hj)];exact hb j hj)
    have agree: ∀ j∈bV,nx j=rR j/\bd j=qg j:=fun j hj=>by
     have:=a1 j (List.mem_cons_of_mem _ hj)
     rwa [pG (jQ j hj),pG (jQ j hj)]at this
    have hbi:bd i=n5.next:=by
     have:=(a1 i List.mem_cons_self).2
     rwa [mL]at this
    have hrd:(c.wi nx bd).pD i n5.next:=Hj (c:=c.wi nx bd) h1 (fun j hj=>by show bd j<=_;rw[(agree j hj).2];exact hb j hj)
    have fg:c.Slot i v:=vk jw Ck ho ht (rA jw hk l (i::bV) t1 n5 e2)
    refine⟨nx,bd,agree,fun j hj hc=>?_,qm,a3,fun j hj=>?_⟩
    ·rcases List.mem_cons.1 hj with rfl|hj
     ·exact⟨v,C5 jw hU F hO ho h1 hg,fg,hrd⟩
     ·exact a2 j hj hc
    ·rcases a4 j hj with h|h
     ·rcases List.mem_cons.1 h with rfl|h
      ·refine .inr ⟨⟨fun hc=>⟨v,?_,fg,?_⟩,fun hc=>?_⟩,ga⟩
       ·obtain⟨o',my,C7⟩:=hc
        have L7:c.ops[j]? =some o':=my
        rw[ho]at L7
        cases L7
        intro h0
        rw[C6]
        show c.FE j (c.rf j) h0=_
        have:=C5 jw hU F hO ho h1 hg
        rw[vN ho]at this ⊢
        exact((tX C7).ok this).2 h0
       ·show Cx.pD _ j (bd j)
        rw[hbi];exact hrd
       ·rcases ga with h|h<;>cases c.ks h hc
      ·exact .inl h
     ·exact .inr h
omit [Io] in
theorem A8(jw:c.nt<=512)(hU: ∀ u,u<512->(∀ j,¬ c.mu j u)->c.te.at u=c.t0.at u)(Ck: ∀ i j d,c.mu i d->c.mu j d->i=j){k:List Nat->na}(hk: ∀ bV t h,k bV t h=.ok c.te c.hE->c.Fr bV t)
 {Φ:(Nat->Nat)->(Nat->Nat)->List Nat->Hp->Prop}
 (ih: ∀ (bV:List Nat) (t:Tm) (h:Hp) (rR qg:Nat->Nat),k bV t h=.ok c.te c.hE->c.Vm bV t->(∀ j∈bV,qg j<=h.next)-> ∃ nx bd,(∀ j∈bV,nx j=rR j/\bd j=qg j)/\Φ nx bd bV h):
 ∀ (hJ bV:List Nat) (t:Tm) (h:Hp) (rR qg:Nat->Nat),Fx c.P c.call c.nt c.ops.toList hJ bV k t h=.ok c.te c.hE->c.Vm bV t->(∀ j∈bV,qg j<=h.next)->
  ∃ nx bd,(∀ j∈bV,nx j=rR j/\bd j=qg j)/\ ∃ h1 qm,(c.wi nx bd).wq hJ h h1/\Φ nx bd qm h1/\ ∀ i∈qm,i∈bV∨((c.wi nx bd).GI i/\i∈hJ/\(c.dA i .p0∨c.dA i .al))
 | [],bV,t,h,rR,qg,e,hO,hb=>by
  obtain⟨nx,bd,h1,h2⟩:=ih bV t h rR qg e hO hb
  exact⟨nx,bd,h1,h,bV,rfl,h2,fun i hi=>.inl hi⟩
 |i::l,bV,t,h,rR,qg,e,hO,hb=>by
  have F:=pF jw hk (i::l) bV t h e
  unfold Fx at e
  cases Hk:(EL c.nt c.ops.toList bV i&&(!kv i bV&&(uc c.P c.call c.ops.toList .p0 i||uc c.P c.call c.ops.toList .al i)))with
  |false=>rw[Hk]at e;cases e
  |true=>
   rw[Hk]at e
   simp only[iw]at e
   simp only[Bool.and_eq_true,Bool.not_eq_true',Bool.or_eq_true]at Hk
   obtain⟨h1,h2,h3⟩:=Hk
   have Vn:=ov h2
   have ga:c.dA i .p0∨c.dA i .al:=h3.imp kI.1 kI.1
   obtain⟨o,v,h',t1,ho,hg,e2,ht⟩:=ud e
   clear e
   have jQ: ∀ j∈bV,j≠i:=fun j hj e=>Vn (e▸hj)
   have hle:h.next<=h'.next:=by
    rcases ga with⟨o',my,C7⟩|⟨o',my,C7⟩
    ·rw[ho]at my;cases my
     rw[((tX C7).ok hg).1]
     exact Nat.le_refl _
    ·rw[ho]at my;cases my
     rcases C1 C7 _ _ _ _ hg (fS h.next) rfl with⟨rfl,_⟩|⟨cs,rfl,_⟩
     ·exact Nat.le_refl _
     ·exact Nat.le_succ _
   obtain⟨nx,bd,a1,n5,qm,a2,a3,a4⟩:=A8 jw hU Ck hk ih l (i::bV) t1 h' (EG rR i h.next) (EG qg i h'.next) e2 (xO jw ho ht hO) (fun j hj=>by
    rcases List.mem_cons.1 hj with rfl|hj
    ·rw[mL];exact Nat.le_refl _
    ·rw[pG (jQ j hj)];exact Nat.le_trans (hb j hj) hle)
   have agree: ∀ j∈bV,nx j=rR j/\bd j=qg j:=fun j hj=>by
    have:=a1 j (List.mem_cons_of_mem _ hj)
    rwa [pG (jQ j hj),pG (jQ j hj)]at this
   have hbi:bd i=h'.next:=by
    have:=(a1 i List.mem_cons_self).2
    rwa [mL]at this
   have Jg:nx i=h.next:=by
    have:=(a1 i List.mem_cons_self).1
    rwa [mL]at this
   have hrd:(c.wi nx bd).pD i h.next:=Hj (c:=c.wi nx bd) h1 (fun j hj=>by show bd j<=_;rw[(agree j hj).2];exact hb j hj)
   have fg:c.Slot i v:=vk jw Ck ho ht (pF jw hk l (i::bV) t1 h' e2)
   have hte:=C5 jw hU F hO ho h1 hg
   rcases ga with ga|ga
   ·have hh:h'=h:=by
     obtain⟨o',my,C7⟩:=ga
     rw[ho]at my;cases my
     exact((tX C7).ok hg).1
    subst hh
    refine⟨nx,bd,agree,n5,qm,.inl ⟨ga,a2⟩,a3,fun j hj=>?_⟩
    rcases a4 j hj with h|⟨h,h5,h6⟩
    ·rcases List.mem_cons.1 h with rfl|h
     ·refine .inr ⟨⟨fun hc=>⟨v,?_,fg,?_⟩,fun hc=>?_⟩,List.mem_cons_self,.inl ga⟩
      ·obtain⟨o',my,C7⟩:=ga
       rw[ho]at my
       cases my
       intro h0
       rw[C6]
       show c.FE j (c.rf j) h0=_
       rw[vN ho]at hte ⊢
       exact((tX C7).ok hte).2 h0
      ·show Cx.pD _ j (bd j)
       rw[hbi];exact hrd
      ·cases c.ks ga hc
     ·exact .inl h
    ·exact .inr ⟨h,List.mem_cons_of_mem _ h5,h6⟩
   ·have key:(h'=h/\c.FE i (c.rf i) (fS h.next)=.ok v (fS h.next))∨ ∃ cs,h'=dw h cs/\c.FE i (c.rf i) (fS h.next)=.ok v (dw (fS h.next) cs):=by
     obtain⟨o',my,C7⟩:=ga
     rw[ho]at my;cases my
     rw[vN ho]at hte ⊢
     exact C1 C7 _ _ _ _ hte (fS h.next) rfl
    refine⟨nx,bd,agree,n5,qm,.inr ⟨ga,Jg,?_⟩,a3,fun j hj=>?_⟩
    ·rcases key with⟨rfl,_⟩|⟨cs,rfl,hf⟩
     ·exact .inl ⟨hbi.trans Jg.symm,a2⟩
     ·refine .inr ⟨v,cs,?_,?_,a2⟩
      ·show bd i=nx i+1
       rw[hbi,Jg];rfl
      ·rw[C6]
       show c.FE i (c.rf i) (fS (nx i))=.ok v (dw (fS (nx i)) cs)
       rw[Jg];exact hf
    ·rcases a4 j hj with h0|⟨h0,h5,h6⟩
     ·rcases List.mem_cons.1 h0 with rfl|h0
      ·refine .inr ⟨⟨fun hc=>?_,fun hc=>⟨v,fg,?_,?_⟩⟩,List.mem_cons_self,.inr ga⟩
       ·cases c.ks ga hc
       ·show Cx.pD _ j (nx j)
        rw[Jg];exact hrd
       ·rw[C6]
        show(c.FE j (c.rf j) (fS (nx j))=.ok v (fS (nx j))/\bd j=nx j)∨ ∃ cs,c.FE j (c.rf j) (fS (nx j))=.ok v (dw (fS (nx j)) cs)/\bd j=nx j+1
        rw[Jg,hbi]
        rcases key with⟨rfl,hf⟩|⟨cs,rfl,hf⟩
        ·exact .inl ⟨hf,rfl⟩
        ·exact .inr ⟨cs,hf,rfl⟩
      ·exact .inl h0
     ·exact .inr ⟨h0,List.mem_cons_of_mem _ h5,h6⟩
omit [Io] in
theorem C8(jw:c.nt<=512)(hU: ∀ u,u<512->(∀ j,¬ c.mu j u)->c.te.at u=c.t0.at u)(Ck: ∀ i j d,c.mu i d->c.mu j d->i=j): ∀ (pl:lT) (bV:List Nat) (t:Tm) (h:Hp) (rR qg:Nat->Nat),
 oi c.P c.call c.nt c.ops.toList pl bV t h=.ok c.te c.hE->c.Vm bV t->(∀ j∈bV,qg j<=h.next)->
  ∃ nx bd,(∀ j∈bV,nx j=rR j/\bd j=qg j)/\(c.wi nx bd).zi pl h/\(∀ i,i<c.ops.size->bd i<=c.hE.next)/\
   ∀ i,i<c.ops.size->i∉bV->(c.wi nx bd).GI i/\(c.dA i .al->i∈pl.hJ)/\(c.dA i .ch->i∈pl.yZ)
 | .last pre hJ,bV,t,h,rR,qg,e,hO,hb=>by
  unfold oi at e
  have Vo: ∀ bV t h,(iw (allI (fun i _=>kv i bV) c.ops.toList 0) fi (fun _ _=>.bad):na) t h=.ok c.te c.hE->(∀ i,i<c.ops.size->i∈bV)/\t=c.te/\h=c.hE:=by
   intro bV t h e
   cases hB:allI (fun i _=>kv i bV) c.ops.toList 0 with
   |false=>rw[hB]at e;cases e
   |true=>
    rw[hB]at e
    obtain⟨h1,h2⟩:=Rt.ok.inj e
    refine⟨fun i hi=>?_,h1,h2⟩
    have:=kS hB i c.ops[i] (by simp[hi])
    exact kR.1 this
  have hk: ∀ bV t h,(iw (allI (fun i _=>kv i bV) c.ops.toList 0) fi (fun _ _=>.bad):na) t h=.ok c.te c.hE->c.Fr bV t:=by
   intro bV t h e
   obtain⟨_,rfl,_⟩:=Vo bV t h e
   exact fun u _ _=>rfl
  obtain⟨nx,bd,a1,a2,qm,⟨h1,qn,b2,⟨rfl,b3,b4⟩,b5⟩,a4⟩:=wR (Φ:=fun nx bd qm=> ∃ h1 qn,(c.wi nx bd).wq hJ h h1/\(h1=c.hE/\(∀ i,i<c.ops.size->i∈qn)/\(∀ i∈qn,bd i<=c.hE.next))/\
   ∀ i∈qn,i∈qm∨((c.wi nx bd).GI i/\i∈hJ/\(c.dA i .p0∨c.dA i .al))) jw hU Ck (pF jw hk hJ) (fun bV t rR qg e hO hb=>by
   obtain⟨nx,bd,a1,h1,qn,a2,a3,a4⟩:=A8 (Φ:=fun nx bd qn h1=>h1=c.hE/\(∀ i,i<c.ops.size->i∈qn)/\(∀ i∈qn,bd i<=c.hE.next)) jw hU Ck hk (fun bV t h rR qg e hO hb=>by
    obtain⟨h1,_,rfl⟩:=Vo bV t h e
    exact⟨rR,qg,fun _ _=>⟨rfl,rfl⟩,rfl,h1,hb⟩) hJ bV t h rR qg e hO hb
   exact⟨nx,bd,a1,h1,qn,a2,a3,a4⟩) pre bV t rR qg e hO hb
  refine⟨nx,bd,a1,⟨a2,b2⟩,fun i hi=>b4 i (b3 i hi),fun i hi hn=>?_⟩
  rcases b5 i (b3 i hi)with h|⟨h,h6,h7⟩
  ·rcases a4 i h with h|⟨h,h5⟩
   ·exact absurd h hn
   ·refine⟨h,fun hc=>?_,fun hc=>?_⟩
    ·rcases h5 with h5|h5<;>cases c.ks h5 hc
    ·rcases h5 with h5|h5<;>cases c.ks h5 hc
  ·refine⟨h,fun _=>h6,fun hc=>?_⟩
   rcases h7 with h5|h5<;>cases c.ks h5 hc
 | .cons pre hJ q rest,bV,t,h,rR,qg,e,hO,hb=>by
  unfold oi at e
  have hq: ∀ bV t h,(iw (EL c.nt c.ops.toList bV q&&(!kv q bV&&uc c.P c.call c.ops.toList .ch q)) (runM c.P c.call c.nt c.ops.toList q (oi c.P c.call c.nt c.ops.toList rest (q::bV))) (fun _ _=>.bad):na) t h=.ok c.te c.hE->
   EL c.nt c.ops.toList bV q=true/\q∉bV/\c.dA q .ch/\ ∃ o v h1 t1,c.ops[q]? =some o/\lr c.P c.call c.nt c.ops.toList o t h=.ok v h1/\h.next<=h1.next/\oi c.P c.call c.nt c.ops.toList rest (q::bV) t1 h1=.ok c.te c.hE/\
    ((∃ d,o.dst=some d/\d<c.nt/\t1=sT d v t)∨(o.dst=none/\t1=t)):=by
   intro bV t h e
   cases h1:(EL c.nt c.ops.toList bV q&&(!kv q bV&&uc c.P c.call c.ops.toList .ch q))with
   |false=>rw[h1]at e;cases e
   |true=>
    rw[h1]at e
    simp only[Bool.and_eq_true,Bool.not_eq_true']at h1
    exact⟨h1.1,ov h1.2.1,kI.1 h1.2.2,C3 e⟩
  have hk: ∀ bV t h,(iw (EL c.nt c.ops.toList bV q&&(!kv q bV&&uc c.P c.call c.ops.toList .ch q)) (runM c.P c.call c.nt c.ops.toList q (oi c.P c.call c.nt c.ops.toList rest (q::bV))) (fun _ _=>.bad):na) t h=.ok c.te c.hE->c.Fr bV t:=by
   intro bV t h e
   obtain⟨_,Vn,_,o,v,h1,t1,ho,_,_,e,ht⟩:=hq bV t h e
   exact ue jw ho Vn ht (uf jw rest (q::bV) t1 h1 e)
  obtain⟨nx,bd,a1,a2,qm,⟨h1,qn,b2,⟨c1,v,h2,c2,c3,c4,c5,c6,c7,c8,c9⟩,b5⟩,a4⟩:=wR (Φ:=fun nx bd qm=> ∃ h1 qn,(c.wi nx bd).wq hJ h h1/\
   (c.dA q .ch/\ ∃ v h2,c.FE q (c.rf q) h1=.ok v h2/\c.Slot q v/\(c.wi nx bd).pD q h1.next/\bd q=h2.next/\h1.next<=h2.next/\(c.wi nx bd).zi rest h2/\(∀ i,i<c.ops.size->bd i<=c.hE.next)/\
    ∀ i,i<c.ops.size->i∉q::qn->(c.wi nx bd).GI i/\(c.dA i .al->i∈rest.hJ)/\(c.dA i .ch->i∈rest.yZ))/\
   ∀ i∈qn,i∈qm∨((c.wi nx bd).GI i/\i∈hJ/\(c.dA i .p0∨c.dA i .al))) jw hU Ck (pF jw hk hJ) (fun bV t rR qg e hO hb=>by
   obtain⟨nx,bd,a1,h1,qn,a2,a3,a4⟩:=A8 (Φ:=fun nx bd qn h1=>c.dA q .ch/\ ∃ v h2,c.FE q (c.rf q) h1=.ok v h2/\c.Slot q v/\(c.wi nx bd).pD q h1.next/\bd q=h2.next/\h1.next<=h2.next/\(c.wi nx bd).zi rest h2/\
    (∀ i,i<c.ops.size->bd i<=c.hE.next)/\ ∀ i,i<c.ops.size->i∉q::qn->(c.wi nx bd).GI i/\(c.dA i .al->i∈rest.hJ)/\(c.dA i .ch->i∈rest.yZ)) jw hU Ck hk (fun bV t h rR qg e hO hb=>by
    obtain⟨hr,Vn,ga,o,v,h1,t1,ho,hg,hle,e,ht⟩:=hq bV t h e
    have jQ: ∀ j∈bV,j≠q:=fun j hj e=>Vn (e▸hj)
    have Fq:=uf jw rest (q::bV) t1 h1 e
    obtain⟨nx,bd,a1,a2,a3,a4⟩:=C8 jw hU Ck rest (q::bV) t1 h1 (EG rR q h.next) (EG qg q h1.next) e (xO jw ho ht hO) (fun j hj=>by
     rcases List.mem_cons.1 hj with rfl|hj
     ·rw[mL];exact Nat.le_refl _
     ·rw[pG (jQ j hj)];exact Nat.le_trans (hb j hj) hle)
    have agree: ∀ j∈bV,nx j=rR j/\bd j=qg j:=fun j hj=>by
     have:=a1 j (List.mem_cons_of_mem _ hj)
     rwa [pG (jQ j hj),pG (jQ j hj)]at this
    have hbq:bd q=h1.next:=by
     have:=(a1 q List.mem_cons_self).2
     rwa [mL]at this
    exact⟨nx,bd,agree,ga,v,h1,C5 jw hU (ue jw ho Vn ht Fq) hO ho hr hg,vk jw Ck ho ht Fq,
     Hj (c:=c.wi nx bd) hr (fun j hj=>by show bd j<=_;rw[(agree j hj).2];exact hb j hj),hbq,hle,a2,a3,a4⟩) hJ bV t h rR qg e hO hb
   exact⟨nx,bd,a1,h1,qn,a2,a3,a4⟩) pre bV t rR qg e hO hb
  refine⟨nx,bd,a1,⟨a2,h1,b2,c1,v,h2,(by rw[C6];exact c2),c3,c4,c5,c6,c7⟩,c8,fun i hi hn=>?_⟩
  by_cases hiq:i=q
  ·subst hiq
   refine⟨⟨fun hc=>?_,fun hc=>?_⟩,fun hc=>?_,fun _=>List.mem_cons_self⟩
   ·cases c.ks c1 hc
   ·cases c.ks c1 hc
   ·cases c.ks c1 hc
  ·by_cases Q0:i∈qn
   ·rcases b5 i Q0 with h|⟨h,h6,h7⟩
    ·rcases a4 i h with h|⟨h,h5⟩
     ·exact absurd h hn
     ·refine⟨h,fun hc=>?_,fun hc=>?_⟩
      ·rcases h5 with h5|h5<;>cases c.ks h5 hc
      ·rcases h5 with h5|h5<;>cases c.ks h5 hc
    ·refine⟨h,fun _=>List.mem_append_left _ h6,fun hc=>?_⟩
     rcases h7 with h5|h5<;>cases c.ks h5 hc
   ·obtain⟨r1,r2,r3⟩:=c9 i hi (fun k=>by
     rcases List.mem_cons.1 k with k|k
     ·exact hiq k
     ·exact Q0 k)
    exact⟨r1,fun hc=>List.mem_append_right _ (r2 hc),fun hc=>List.mem_cons_of_mem _ (r3 hc)⟩
end Cx
end Go.Ab

noncomputable section
namespace Go.Ab
variable [Io]
def L9(ok:Nat->Nat->Bool)(l:List Nat):Nat->List Nat:=
 List.rec (fun _=>[]) (fun i _ ih r=>Bool.rec (ih r) (i::ih (Nat.lor r (Nat.pow 2 i))) (ok i r)) l
def Vp(l:List Nat)(r:Nat):Nat:=List.rec r (fun i _ ih=>Nat.lor (Nat.pow 2 i) ih) l
def bit(r i:Nat):Bool:=Nat.beq (Nat.mod (Nat.div r (Nat.pow 2 i)) 2) 1
def RJ(p:Nat->Bool)(l:List Nat):List Nat:=List.rec [] (fun i _ ih=>Bool.rec ih (i::ih) (p i)) l
def Xj(p:Nat->Bool)(l:List Nat):Option Nat:=List.rec none (fun i _ ih=>Bool.rec ih (some i) (p i)) l
def L'(l:List Oper):List Nat:=List.rec (fun _=>[]) (fun _ _ ih i=>i::ih (Nat.add i 1)) l 0
section
variable (P:Program)(call:cV)(L:List Oper)
def ah9(ms idx:List Nat)(fuel:Nat):Nat->List Nat->lT:=
 Nat.rec (fun _ _=>.last [] []) (fun _ ih done chd=>
  match L9 (fun i r=>(uc P call L .p0 i||uc P call L .p1 i)&&(!bit r i&&Nat.beq (Nat.land ((lz ms i).getD 0) r) ((lz ms i).getD 0))) idx done with
  |new=>match RJ (fun i=>bit done i&&(uc P call L .p1 i&& !Fw (fun j=>bit ((lz ms j).getD 0) i) chd)) idx with
   |rP=>match Vp new done with
    |Hl=>match Xj (fun i=>uc P call L .ch i&& !bit Hl i) idx with
     |none=>.last (app rP new) (L9 (fun i r=> !bit r i) idx Hl)
     |some q=>match L9 (fun i r=> !bit r i&&bit ((lz ms q).getD 0) i) idx Hl with
      |hJ=>.cons (app rP new) hJ q (ih (Nat.lor (Nat.pow 2 q) (Vp hJ Hl)) (q::chd))) fuel
def vm:lT:=ah9 P call L (qH L []) (L' L) (Nat.succ (len L)) 0 []
end
def a8(P:Program)(call:cV)(nt:Nat)(ops:Array Oper):na:=
 match vm P call ops.toList with
 |pl=>iw (Hh ops.toList&&(RG ops.toList&&z7 P call ops.toList pl [])) (oi P call nt ops.toList pl []) (fun _ _=>.bad)
namespace Cx
variable {c:Cx}
omit [Io] in
theorem Hm: ∀ (pl:lT) (jE:List Nat),z7 c.P c.call c.ops.toList pl jE=true->c.He jE pl
 | .last pre hJ,jE,h=>by
  intro i hi
  obtain⟨o,ho,_⟩:=id hi
  have:=ou (kS h i o (by simpa using ho)) (kI.2 hi)
  rw[Bool.or_eq_true,ub,kR]at this
  exact this
 | .cons pre hJ q rest,jE,h=>by
  unfold z7 at h
  simp only[Bool.and_eq_true]at h
  obtain⟨h1,h2,h3,h4⟩:=h
  refine⟨fun i hi=>?_,fun i hi hc=>?_,fun q' hq=>?_,Hm rest _ h4⟩
  ·obtain⟨o,ho,_⟩:=id hi
   have:=ou (kS h1 i o (by simpa using ho)) (kI.2 hi)
   rw[Bool.or_eq_true,Bool.or_eq_true,ub,ub,kR]at this
   exact this
  ·rw[g7,List.all_eq_true]at h2
   exact ou (h2 i hi) (kI.2 hc)
  ·rw[g7,List.all_eq_true]at h3
   exact h3 q' hq
omit [Io] in
theorem Xk(h:RG c.ops.toList=true): ∀ i j d,c.mu i d->c.mu j d->i=j:=by
 rintro i j d ⟨o,ho,hd⟩ ⟨o',my,Jb⟩
 have h1:=kS h i o (by simpa using ho)
 rw[hd]at h1
 have h2:=ou (kS h1 j o' (by simpa using my)) (vj Jb)
 exact Nat.eq_of_beq_eq_true h2
end Cx
theorem RK{g:G}{w:World}{h:Hp}(H:HR g w h):g.to h.next=g:=by
 cases g with
 |mk m im=>
  unfold G.to
  simp only[G.mk.injEq,and_true]
  funext id
  by_cases jB:id<h.next
  ·simp only[jB,if_true]
  ·simp only[jB,if_false]
   exact(H.fresh id (by omega)).symm
omit [Io] in
theorem vn{g:G}{w w':World}(h:w'.heap=w.heap):tH g w g w':=
 ⟨fun _ _ e=>e,fun _ i=>i,fun b _=>by rw[h],fun b=>by unfold dS;rw[h];exact Nat.le_refl _⟩
theorem HR.heap{g:G}{w w':World}{hp:Hp}(h:w'.heap=w.heap)(H:HR g w hp):HR g w' hp:=by
 refine⟨H.fresh,fun id cs e=>?_,H.inj,fun b i=>by rw[h];exact H.fB b i,nO.mono (vn h) H.tb⟩
 obtain⟨b,s,C,el,vs,h1,h2,h3,h4,h5⟩:=H.aL id cs e
 exact⟨b,s,C,el,vs,h1,by rw[h];exact h2,h3,bF.gh (vn h) _ _ h4,h5⟩
omit [Io] in
theorem Jh(g:G)(w:World)(h:Hp)(n:Nat):Ext g w h g {w with drawn:=n} h:=
 ⟨rfl,rfl,rfl,Nat.le_refl _,Nat.le_refl _,fun _ _ e=>e,fun _ _ _=>rfl,fun _=>Nat.le_refl _,fun _ i=>i,fun _ i=>.inl i,fun _ o=>.inl o⟩
theorem Hn{P:Program}(hm:P.follows .mixedOrders=true):Fk P (a8 P):=by
 intro call nt hc id ops g w t h a t' h' H T D e Q K
 refine wp_region_draw fun tk=>?_
 rw[hm]
 change (iw (Hh ops.toList&&(RG ops.toList&&z7 P call ops.toList (vm P call ops.toList) [])) (oi P call nt ops.toList (vm P call ops.toList) []) (fun _ _=>.bad):na) t h=.ok t' h' at e
 cases hB:(Hh ops.toList&&(RG ops.toList&&z7 P call ops.toList (vm P call ops.toList) []))with
 |false=>rw[hB]at e;cases e
 |true=>
 rw[hB]at e
 change oi P call nt ops.toList (vm P call ops.toList) [] t h=.ok t' h' at e
 simp only[Bool.and_eq_true]at hB
 obtain⟨Kk,Ck,wM⟩:=hB
 obtain⟨pl,WW⟩: ∃ pl,pl=vm P call ops.toList:=⟨_,rfl⟩
 rw[<-WW]at e wM
 have L:=A2 (RF Kk) tk
 let c0:Cx:=⟨P,call,ops,nt,t,t',fun _=>0,fun _=>0,g,w,h,h'⟩
 have acw: ∀ i j d,c0.mu i d->c0.mu j d->i=j:=Cx.Xk (c:=c0) Ck
 have jw:nt<=512:=T.1
 have F:=Cx.uf (c:=c0) jw pl [] t h e
 have hU: ∀ u,u<512->(∀ j,¬ c0.mu j u)->c0.te.at u=c0.t0.at u:=fun u hu hd=>F u hu (fun j hj=>absurd hj (hd j))
 obtain⟨nx,bd,_,ku,ah',hgi⟩:=Cx.C8 (c:=c0) jw hU acw pl [] t h (fun _=>0) (fun _=>0) e (fun u _ _=>rfl) (fun j hj=>by cases hj)
 let c:Cx:=c0.wi nx bd
 have gB: ∀ {i k},c.dA i k->i<c.ops.size:=fun⟨o,ho,_⟩=>(Array.getElem?_eq_some_iff.1 ho).1
 have G0:c.RD:=
  ⟨fun i hi=>(hgi i (gB hi) (by simp)).1.1 hi,fun i hi=>(hgi i (gB hi) (by simp)).1.2 hi,acw,ah',hU,hc,jw⟩
 have wP:g.to h.next=g:=RK H
 refine Cx.sim (c:=c) G0 K _ [] [] pl g {w with drawn:=w.drawn+1} h a L ?_
 exact
 {run:=ku
  stat:=Cx.Hm (c:=c) pl [] wM
  closed:=fun j hj=>by cases hj
  yZ:=fun i hi=>.inl ((hgi i (gB hi) (by simp)).2.2 hi)
  Qa:=fun i _ h=>by cases h
  vM:=fun j hj=>by cases hj
  Vi:=fun i hi=>.inl ((hgi i (gB hi) (by simp)).2.1 hi)
  st:=⟨(by rw[wP];exact HR.heap (w:=w) rfl H),(by rw[wP];exact Jh _ _ _ _),(fun i _ h=>by cases h),(fun i _ j _ h=>by cases h)⟩
  Vj:=fun id x m=>.inl (by
   refine Classical.byContradiction fun k=>?_
   rw[H.fresh id (by omega)]at m;cases m)
  qL:=fun j hj=>by cases hj
  free:=fun u v hu hd eu=>by
   obtain⟨h1,h2⟩:=T.2.2 u v hu eu
   refine⟨h1,?_⟩
   rw[wP]
   exact VR.gh (vn (w:=w) (w':={w with drawn:=w.drawn+1}) rfl) _ _ h2
  size:=T.2.1
  defers:=D}
end Go.Ab

noncomputable section
namespace Go.Ab
variable [Io]
def Fy(F:Func):Code:=match F.body with
 |some c=>c
 |none=>.skip
omit [Io] in
theorem bc{P:Program}{draw:cV->Nat->Array Oper->na}{f:FuncId}{F:Func}{b:Fb}(h1:P.funcs[f]? =some F)(h2: ∀ args w,(callFunc f args).run P w=.ok (.enter f args) w)
 (h3:F.body.isSome=true)(h4:b.ntmps=F.ntmps)(h5:Nat.ble b.ntmps 512=true)(h6:LG P b.ntmps F.results.toList=some b.res)
 (h7:b.body=fun call n=>gR P (draw call b.ntmps) call n b.ntmps (Fy F)):bG P draw f b:=by
 refine⟨⟨F,Fy F,h1,?_,h4,Nat.ble_eq.mp h5,h6,h7⟩,h2⟩
 unfold Fy
 cases h:F.body with
 |none=>rw[h]at h3;cases h3
 |some c=>rfl
def Ma{α:Type}(p:Nat->α->Prop)(a b:Nat):Tr α->Prop
 | .nil=>True
 | .node l v r=>(∀ x,v=some x->p b x)/\Ma p (2*a) (a+b) l/\Ma p (2*a) (2*a+b) r
omit [Io] in
theorem Ma.get{α:Type}{p:Nat->α->Prop}: ∀ {t:Tr α} {a b:Nat},Ma p a b t-> ∀ k x,t.get k=some x->p (a*k+b) x
 | .nil,a,b,_,k,x,e=>by cases e
 | .node l v r,a,b,⟨h1,h2,h3⟩,k,x,e=>by
  rw[Tr.qx]at e
  by_cases h0:k=0
  ·subst h0
   rw[if_pos rfl]at e
   simpa using h1 x e
  ·rw[if_neg h0]at e
   by_cases hk:k % 2=1
   ·rw[if_pos hk]at e
    have:=h2.get _ x e
    have e2:2*a*(k / 2)+(a+b)=a*k+b:=by
     have:k=2*(k / 2)+1:=by omega
     generalize k / 2=m at*
     subst this
     rw[Nat.mul_add,Nat.mul_one,<-Nat.mul_assoc,Nat.mul_comm a 2]
     omega
    rwa [e2]at this
   ·rw[if_neg hk]at e
    have:=h3.get _ x e
    have e2:2*a*(k / 2 - 1)+(2*a+b)=a*k+b:=by
     have:k=2*(k / 2 - 1)+2:=by omega
     generalize k / 2 - 1=m at*
     subst this
     rw[Nat.mul_add,<-Nat.mul_assoc,Nat.mul_comm a 2]
     omega
    rwa [e2]at this
omit [Io] in
theorem AE{α:Type}{p:Nat->α->Prop}{b:Nat}: ∀ x,(none:Option α)=some x->p b x:=fun _ e=>by cases e
end Go.Ab

noncomputable section
namespace Go.Ab
variable [Io]
structure Ji(w w':World):Prop where
 os:w'.os=w.os
 tape:w'.tape=w.tape
 output:w'.output=w.output
 size:w.heap.size<=w'.heap.size
 rP: ∀ b,b<w.heap.size->w'.heap[b]? =w.heap[b]?
omit [Io] in
theorem Ji.rows{w w':World}(K:Ji w w')(b:Nat):dS w b<=dS w' b:=by
 unfold dS
 by_cases h:b<w.heap.size
 ·rw[K.rP b h];exact Nat.le_refl _
 ·rw[Array.getElem?_eq_none (by omega)];exact Nat.zero_le _
def gE(fB:Nat->Prop):G:=⟨fun _=>none,fB⟩
theorem C9{fB:Nat->Prop}{w:World}(h: ∀ b,fB b->b<w.heap.size)(t:nO (gE fB) w):HR (gE fB) w (fS 0):=
 ⟨fun _ _=>rfl,(fun _ _ e=>by cases e),(fun _ _ _ _ _ _ _ e=>by cases e),h,t⟩
omit [Io] in
theorem Ho{fB:Nat->Prop}{w:World}{g':G}{w':World}{h':Hp}(E:Ext (gE fB) w (fS 0) g' w' h'):Ji w w':=
 ⟨E.os,E.tape,E.output,E.size,fun b hb=>E.rP b hb (by rintro⟨id,cs,s,e,_⟩;cases e)⟩
def mapA(f:AV->Option AV)(l:List AV):Option (List AV):=
 List.rec (some []) (fun a _ ih=>match f a with
  |some b=>match ih with
   |some r=>some (b::r)
   |none=>none
  |none=>none) l
theorem Hr{g g':G}{w:World}{f:AV->Option AV}(hf: ∀ a a' v,f a=some a'->VR g w a v->VR g' w a' v): ∀ {l l':List AV} {vs:List Value},mapA f l=some l'->bF g w l vs->bF g' w l' vs
 | [],l',vs,e,h=>by cases e;simpa only[bF]using h
 |a::l,l',vs,e,h=>by
  change (match f a with|some b=>(match mapA f l with|some r=>some (b::r)|none=>none)|none=>none)=some l' at e
  simp only[bF]at h
  obtain⟨v,r,rfl,hv,hr⟩:=h
  cases h1:f a with
  |none=>rw[h1]at e;cases e
  |some b=>
   cases h2:mapA f l with
   |none=>rw[h1,h2]at e;cases e
   |some r'=>
    rw[h1,h2]at e
    cases e
    simp only[bF]
    exact⟨v,r,rfl,hf a b v h1 hv,Hr hf h2 hr⟩
end Go.Ab

noncomputable section
namespace Go.Ab
end Go.Ab

noncomputable section
namespace Go.Ab
variable [Io]
end Go.Ab
namespace Go.Ab
end Go.Ab

noncomputable section
namespace Go.Ab
variable [Io]
section
variable {P:Program}{call:cV}
end
end Go.Ab

noncomputable section
namespace Go.Ab
end Go.Ab

noncomputable section
namespace Go.Ab
def isT(r:Ro):Bool:=match r with
 | .ok (.bool b) _=>b
 | _=>false
theorem Xl{r:Ro}(h:isT r=true): ∃ h',r=.ok (.bool true) h':=by
 unfold isT at h
 split at h
 ·subst h;exact⟨_,rfl⟩
 ·cases h
theorem Ji.below{w w':World}(K:Ji w w'):Go.RowKit.Below w.heap.size w w':=⟨K.os,K.tape,K.output,K.size,K.rP⟩
theorem Xm[Io]{P:Program}{call:cV}(hc:eR P call){f:FuncId}{args:List AV}{vs:List Value}(e:isT (call f args (fS 0))=true)(w:World){fB:Nat->Prop}(hi: ∀ b,fB b->b<w.heap.size)(ht:nO (gE fB) w)(hv:bF (gE fB) w args vs):
 Calls P f vs.toArray w fun e w'=>e=.returned (.bool true)/\Go.RowKit.Below w.heap.size w w':=by
 obtain⟨h',e'⟩:=Xl e
 refine((hc f args (fS 0) _ h' e').2 (gE fB) w vs (C9 hi ht) hv).mono ?_
 rintro e w' ⟨x,g',rfl,E,H',hx⟩
 simp only[VR]at hx
 subst hx
 exact⟨rfl,(Ho E).below⟩
end Go.Ab

noncomputable section
namespace Go.Ab
variable [Io]
section
variable {P:Program}
def Da(fn:FuncId->Option Fb)(n:Nat)(c:cV):cV:=fun f args h=>match fn f with
 |none=>.bad
 |some b=>iw (Nat.ble (len args) b.ntmps) (match b.body c n (pn args 0 Tm.none) h with
  | .norm t h=>fin b.res t h
  | .ret t h=>fin b.res t h
  | _=>.bad) .bad
theorem Mb{draw:cV->Nat->Array Oper->na}(hd:Fk P draw){fn:FuncId->Option Fb}(hf: ∀ f b,fn f=some b->bG P draw f b)(n:Nat){c:cV}(hc:eR P c):eR P (Da fn n c):=by
 intro f args h v h' e
 change (match fn f with
  |none=>Ro.bad
  |some b=>iw (Nat.ble (len args) b.ntmps) (match b.body (c) n (pn args 0 Tm.none) h with| .norm t h=>fin b.res t h| .ret t h=>fin b.res t h| _=>.bad) .bad)=.ok v h' at e
 cases hb:fn f with
 |none=>rw[hb]at e;cases e
 |some b=>
 rw[hb]at e
 simp only at e
 cases hle:Nat.ble (len args) b.ntmps with
 |false=>rw[hle]at e;cases e
 |true=>
 rw[hle]at e
 change (match b.body (c) n (pn args 0 Tm.none) h with| .norm t h=>fin b.res t h| .ret t h=>fin b.res t h| _=>.bad)=Ro.ok v h' at e
 rw[bS]at hle
 have acy:args.length<=b.ntmps:=Nat.ble_eq.mp hle
 have F0:=hf f b hb
 obtain⟨F,cd,hF,hcb,jw,qo,aia,acz⟩:=F0.ex
 refine⟨F0.enter,fun g w vs H hv=>?_⟩
 rw[acz]at e
 have acA:=A1 hc (draw:=draw (c) b.ntmps) (nt:=b.ntmps) (fun id ops=>hd _ _ hc id ops) n cd
 have hvl:=hv.length
 have Hc:(vs.toArray++Array.replicate (F.ntmps - vs.toArray.size) undef).size=b.ntmps:=by simp;omega
 have hT0:TR g w b.ntmps Tm.none (vs.toArray++Array.replicate (F.ntmps - vs.toArray.size) undef):=
  ⟨qo,Hc,fun i v hi e=>by rw[Tm.AE i hi]at e;cases e⟩
 have hT:=tU args vs 0 b.ntmps Tm.none _ hv (by omega) hT0 (fun j v e=>by
  rw[Array.getElem?_append_left (by have:=(List.getElem?_eq_some_iff.1 e).1;simpa using this)]
  simpa using e)
 refine calls_of_wp hF hcb ?_
 have:=acA g w _ h {tmps:=vs.toArray++Array.replicate (F.ntmps - vs.toArray.size) undef,defers:=[]}
  (bodyPost P F (fun e w'=> ∃ x g',e=.returned x/\Ext g w h g' w' h'/\HR g' w' h'/\VR g' w' v x)) H hT rfl
 have Mc: ∀ t1 h1,fin b.res t1 h1=.ok v h'-> ∀ g' w' (a':Act),Ext g w h g' w' h1->HR g' w' h1->TR g' w' b.ntmps t1 a'.tmps->a'.defers=[]->
  a'.defers=[]/\ ∃ x,(results F a'.tmps).run P w'=.ok x w'/\ ∃ y g',Ending.returned x=.returned y/\Ext g w h g' w' h'/\HR g' w' h'/\VR g' w' v y:=by
  intro t1 h1 aic g' w' a' E' H' T' D'
  obtain⟨rfl,x,hx,LJ⟩:=W9 H' T' aia aic
  exact⟨D',x,hx,x,g',rfl,E',H',LJ⟩
 simp only at e
 cases hr:gR P (draw (c) b.ntmps) (c) n b.ntmps cd (pn args 0 Tm.none) h with
 |bad=>rw[hr]at e;cases e
 |norm t1 h1=>rw[hr]at e this;exact this (Mc t1 h1 e)
 |ret t1 h1=>rw[hr]at e this;exact this (Mc t1 h1 e)
 |exit i t1 h1=>rw[hr]at e;cases e
end
end Go.Ab

noncomputable section
namespace Go.Ab
open Go.ChangeShapes Go.WideShapes Go.ChangeAt Go.RowKit Go.Deep Go.Joins
end Go.Ab

noncomputable section
namespace Go.Ab
variable [Io]
end Go.Ab
namespace Go.Ab
variable [Io]
section
variable {P:Program}
def Md(fn:FuncId->Option Fb)(wr:cV->cV)(n:Nat)(d:Nat):cV:=Nat.rec (fun _ _ _=>.bad) (fun _ ih=>Da fn n (wr ih)) d
theorem xP{draw:cV->Nat->Array Oper->na}(hd:Fk P draw){fn:FuncId->Option Fb}(hf: ∀ f b,fn f=some b->bG P draw f b){wr:cV->cV}
 (hw: ∀ c,eR P c->eR P (wr c))(n:Nat): ∀ d,eR P (Md fn wr n d)
 |0=>by intro f args h v h' e;cases e
 |d+1=>Mb hd hf n (hw _ (xP hd hf hw n d))
theorem bF.split{g:G}{w:World}: ∀ {l r:List AV} {vs:List Value},bF g w (l++r) vs-> ∃ us ts,vs=us++ts/\bF g w l us/\bF g w r ts
 | [],r,vs,h=>⟨[],vs,rfl,by simp[bF],h⟩
 |a::l,r,vs,h=>by
  simp only[List.cons_append,bF]at h
  obtain⟨v,l',rfl,q,p⟩:=h
  obtain⟨us,ts,rfl,h1,h2⟩:=bF.split p
  refine⟨v::us,ts,rfl,?_,h2⟩
  simp only[bF]
  exact⟨v,us,rfl,q,h1⟩
end
end Go.Ab
namespace Go.Ab
variable [Io]
end Go.Ab
