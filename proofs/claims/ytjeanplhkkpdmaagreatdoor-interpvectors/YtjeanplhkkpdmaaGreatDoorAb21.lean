import Derived.Test.YtjeanplhkkpdmaaGreatDoorAb14
import Derived.KernelRfl
import Derived.Below
import Derived.Lib.SmallJoins
noncomputable section
namespace Go.Ab
variable [Io]
namespace Cx
variable {c:Cx}
omit [Io] in
theorem G.VI{g:G}{id b N:Nat}(h:N<=id):(g.add id b).to N=g.to N:=by
 unfold Go.Ab.G.to G.add;congr 1
 funext k
 by_cases hk:k<N
 ·simp only[hk,if_true];rw[if_neg (by omega)]
 ·simp only[hk,if_false]
theorem sim(G0:c.ach){Q:Exit->Act->World->Prop}(K:vP c.g0 c.w0 c.h0 c.nt c.te c.hE (Q .normal)): ∀ (s D qm:List Nat) (pl:sY) (g:G) (w:World) (h:Hp) (a:Act),
 ab6 c.ops D s->c.Inv g w h a D qm pl->wpOps c.P c.ops Q s a w
 | [],D,qm,pl,g,w,h,a,L,I=>by
  have Sd: ∀ i,i<c.ops.size->i∈D:=L
  have nM: ∀ {i k},c.kC i k->i<c.ops.size:=fun⟨o,ho,_⟩=>(Array.getElem?_eq_some_iff.1 ho).1
  show Q .normal a w;cases pl with
  |cons pre oy q rest=>
   exact absurd (Sd q (nM (P2 I.run q List.mem_cons_self))) (I.chN q List.mem_cons_self)
  |last pre oy=>
   have S:=c.settle (A:=[]) oy h I.run.2 (fun i _ hc=>Sd i (nM hc)) (by rw[List.append_nil];exact I.st) (fun i hi=>by cases hi);refine K _ _ _ S.ext S.hr ⟨G0.nt,I.size,fun u v hu e=>?_⟩ I.defers;have hle:=c.xX I.run.2;by_cases hd: ∃ j,c.tA j u
   ·obtain⟨j,hj⟩:=hd;obtain⟨o,ho,_⟩:=id hj;have hjs:=(Array.getElem?_eq_some_iff.1 ho).1;obtain⟨h1,v',e',hv⟩:=I.xZ j (Sd j hjs) u hj;rw[e]at e';cases e';have:=G0.top j hjs;exact⟨h1,VR.ny (wR g w (by omega)) _ _ hv⟩
   ·rw[G0.same u hu (fun j hj=>hd ⟨j,hj⟩)]at e;obtain⟨h1,h2⟩:=I.free u v hu (fun j _ hj=>hd ⟨j,hj⟩) e;exact⟨h1,VR.ny (wR g w hle) _ _ h2⟩
 |i::s,D,qm,pl,g,w,h,a,⟨his,HT,hE,L⟩,I=>by
  obtain⟨o,ho⟩: ∃ o,c.ops[i]? =some o:=⟨c.ops[i],Array.getElem?_eq_getElem his⟩
  obtain⟨Jc,hC⟩:=Lt I.closed ho hE;have Oe: ∀ b,g.mM b->b<w.heap.size:=I.st.hr.mM;cases hk:(wP c.P c.call o.op).1 with
  |p0=>
   have nq:c.kC i .p0:=⟨o,ho,hk⟩
   obtain⟨v,hF,hS,hR⟩:=G0.p0 i nq;have T:=I.reads G0.nt hR HT Jc (N:=max (c.bd i) h.next) (by omega) (by omega);have e:sC c.P c.call c.nt c.ops.toList o (c.rf i) (nf 0)=.ok v (nf 0):=by
    rw[<-DE ho];exact hF _
   exact HS G0.call ho (.inl hk) (VE (g:=g.to (max (c.bd i) h.next)) Oe) T e fun x hx=>sim G0 K s _ _ _ _ _ _ _ L (I.put G0 ho HT hC (.inl nq) hS hx)
  |p1=>
   have nq:c.kC i .p1:=⟨o,ho,hk⟩
   have aj5:i∈pl.pre:=by
    rcases acj I.stat i nq with⟨j,hj,hA⟩|⟨j,hj,hA⟩|h
    ·exact absurd (I.closed j (I.DD j hj) i hA) HT
    ·exact absurd (Jc j hA) (I.chN j hj)
    ·exact h
   obtain⟨v,hF,hS,hR⟩:=akg I.run i aj5 nq;have T:=I.reads G0.nt hR HT Jc (N:=h.next) (Nat.le_refl _) (Nat.le_refl _);have e:sC c.P c.call c.nt c.ops.toList o (c.rf i) h=.ok v h:=by
    rw[<-DE ho];exact hF
   exact HS G0.call ho (.inr hk) I.st.hr.toHC T e fun x hx=>sim G0 K s _ _ _ _ _ _ _ L
    (I.put G0 ho HT hC (.inr nq) hS (VR.ny (wR g w (by omega)) _ _ hx))
  |al=>
   have nq:c.kC i .al:=⟨o,ho,hk⟩
   obtain⟨v,hS,hR,hF⟩:=G0.al i nq;have PY:i∈pl.oy:=(I.alc i nq).resolve_right HT;have hnx:=c.Ai I.run i PY nq;have T:=I.reads G0.nt hR HT Jc (N:=c.nx i) (Nat.le_refl _) hnx;obtain⟨h',hh',hF'⟩: ∃ h',((h'=nf (c.nx i)/\c.bd i=c.nx i)∨ ∃ cs,h'=kA (nf (c.nx i)) cs/\c.bd i=c.nx i+1)/\c.FE i (c.rf i) (nf (c.nx i))=.ok v h':=by
    rcases hF with⟨h1,h2⟩|⟨cs,h1,h2⟩
    ·exact⟨_,.inl ⟨rfl,h2⟩,h1⟩
    ·exact⟨_,.inr ⟨cs,rfl,h2⟩,h1⟩
   have e:sC c.P c.call c.nt c.ops.toList o (c.rf i) (nf (c.nx i))=.ok v h':=by
    rw[<-DE ho];exact hF'
   have Oa: ∀ j,j∈i::D->j≠i->j∈D:=fun j hj qF=>(List.mem_cons.1 hj).resolve_left qF
   have fin: ∀ (g':G) (w':World) (x:Value),(∀ id y,g.m id=some y->g'.m id=some y)->g'.mM=g.mM->g'.to h.next=g.to h.next->(w'=w∨ ∃ ob,w'=w.alloc ob)->
    c.R9 g' w' h i->(∀ id y,g'.m id=some y->g.m id=some y∨(c.bd i=c.nx i+1/\id=c.nx i))->
    (∀ j∈pl.oy,j∈D->c.kC j .al->c.bd j=c.nx j+1->c.bd i=c.nx i+1-> ∀ b,g'.m (c.nx i)=some (b,0)->g'.m (c.nx j)=some (b,0)->i=j)->
    VR (g'.to (max (c.bd i) h.next)) w' v x->c.Inv g' w' h (a.put o.dst x) (i::D) qm pl:=by
    intro g' w' x hm hi Em hw hp akh aiy hx;have M: ∀ N,Bc (g.to N) w (g'.to N) w':=by
     intro N;have hmN: ∀ id y,(g.to N).m id=some y->(g'.to N).m id=some y:=by
      intro id y e;simp only[Go.Ab.G.to]at e ⊢;by_cases qk:id<N
      ·rw[if_pos qk]at e ⊢;exact hm _ _ e
      ·rw[if_neg qk]at e;cases e
     rcases hw with rfl|⟨ob,rfl⟩
     ·exact⟨hmN,fun b k=>by simp only[Go.Ab.G.to]at k ⊢;rw[hi];exact k,fun _ _=>rfl,fun _=>Nat.le_refl _⟩
     ·exact Aj hmN (by simp only[Go.Ab.G.to];exact hi) (by simp only[Go.Ab.G.to];exact Oe)
    have arZ: ∀ j,c.R9 g w h j->c.R9 g' w' h j:=by
     intro j p
     rcases hw with rfl|⟨ob,rfl⟩
     ·rcases p with p|⟨v,cs,b,C,el,vs,h1,h2,h3,h4,h5,h6,h7,h8,h9⟩
      ·exact .inl p
      ·exact .inr ⟨v,cs,b,C,el,vs,h1,h2,hm _ _ h3,h4,by rw[hi];exact h5,by rw[Em];exact h6,h7,jy.ny (M _) _ _ h8,h9⟩
     ·exact Ob hm hi Oe Em p
    have Ek:HR (g'.to h.next) w' h/\Ext c.g0 c.w0 c.h0 (g'.to h.next) w' h:=by
     rw[Em]
     rcases hw with rfl|⟨ob,rfl⟩
     ·exact⟨I.st.hr,I.st.ext⟩
     ·obtain⟨E,H⟩:=K9 I.st.hr ob;exact⟨H,I.st.ext.trans E⟩
    exact
    {run:=I.run
     stat:=I.stat
     closed:=hC
     GQ:=fun j hj=>(I.GQ j hj).imp id (List.mem_cons_of_mem _)
     chN:=fun j hj h=>by
      rcases List.mem_cons.1 h with rfl|h
      ·cases c.rH nq (P2 I.run j hj)
      ·exact I.chN j hj h
     DD:=fun j hj=>List.mem_cons_of_mem _ (I.DD j hj)
     alc:=fun j hj=>(I.alc j hj).imp id (List.mem_cons_of_mem _)
     st:=⟨Ek.1,Ek.2,fun j hj N9 KM=>by
      by_cases Nv:j=i
      ·subst Nv;exact hp
      ·exact arZ j (I.st.N8 j hj (Oa j N9 Nv) KM),fun j hj k hk jD kD jc kc bj bk b mj mk=>by
      by_cases Nv:j=i<;>by_cases hki:k=i
      ·exact Nv.trans hki.symm
      ·subst Nv;exact aiy k hk (Oa k kD hki) kc bk bj b mj mk
      ·subst hki;exact(aiy j hj (Oa j jD Nv) jc bj bk b mk mj).symm
      ·have nj:g.m (c.nx j)=some (b,0):=by
        rcases akh _ _ mj with m|⟨b1,b2⟩
        ·exact m
        ·exact absurd (c.Bt I.run j hj i PY jc nq bj b1 b2) Nv
       have nk:g.m (c.nx k)=some (b,0):=by
        rcases akh _ _ mk with m|⟨b1,b2⟩
        ·exact m
        ·exact absurd (c.Bt I.run k hk i PY kc nq bk b1 b2) hki
       exact I.st.Sa j hj k hk (Oa j jD Nv) (Oa k kD hki) jc kc bj bk b nj nk⟩
     dom:=fun n y e=>by
      rcases akh n y e with m|⟨b1,b2⟩
      ·exact(I.dom n y m).imp id fun⟨j,hj,hD,r⟩=>⟨j,hj,List.mem_cons_of_mem _ hD,r⟩
      ·exact .inr ⟨i,PY,List.mem_cons_self,nq,b1,b2⟩
     xZ:=CP G0 ho I.size I.xZ (fun j _=>M _) HT (fun d hd=>⟨(hS d hd).1,v,(hS d hd).2,hx⟩)
     free:=Fy ho I.size I.free (M _)
     size:=by rw[Fx];exact I.size
     defers:=by rw[put_defers];exact I.defers}
   refine VF G0.call ho hk (VE (g:=g.to (c.nx i)) Oe) T e (fun h1 x w' hw hv=>?_) (fun cs C el vs x h1 lP hCv hv=>?_)
   ·have hb:c.bd i=c.nx i:=by
     rcases hh' with⟨_,h2⟩|⟨cs,h2,_⟩
     ·exact h2
     ·rw[h2]at h1
      have:=congrArg Hp.next h1
      exact absurd this (Nat.succ_ne_self _)
    exact sim G0 K s _ _ _ _ _ _ _ L (fin g w' x (fun _ _ m=>m) rfl rfl hw (.inl hb) (fun id y m=>.inl m) (fun j _ _ _ _ k=>by omega) (hv _ _))
   ·have hb:c.bd i=c.nx i+1:=by
     rcases hh' with⟨h2,_⟩|⟨cs',_,h2⟩
     ·rw[h2]at h1
      have:=congrArg Hp.next h1
      exact absurd this.symm (Nat.succ_ne_self _)
     ·exact h2
    have ar1:g.m (c.nx i)=none:=by
     cases hm:g.m (c.nx i)with
     |none=>rfl
     |some y=>
      rcases I.dom _ _ hm with h|⟨j,hj,hD,KM,hjb,hje⟩
      ·omega
      ·have:=c.Bt I.run i PY j hj nq KM hb hjb hje;exact absurd (this▸hD) HT
    have T5: ∀ id y,g.m id=some y->(g.add (c.nx i) w.heap.size).m id=some y:=by
     intro id y m;simp only[G.add];rw[if_neg (fun k=>by rw[k,ar1]at m;cases m)];exact m
    have hat:(g.add (c.nx i) w.heap.size).m (c.nx i)=some (w.heap.size,0):=by simp[G.add]
    have Em:(g.add (c.nx i) w.heap.size).to h.next=g.to h.next:=G.VI hnx
    have G6:(w.alloc (.cells C el)).heap[w.heap.size]? =some (.cells C el (0,0)):=by rw[wU,if_pos rfl]
    have Ad:C.size<=kP (w.alloc (.cells C el)) w.heap.size:=by rw[zE];exact Nat.le_refl _
    rw[h1]at hF'
    refine sim G0 K s _ _ _ _ _ _ _ L (fin (g.add (c.nx i) w.heap.size) _ x T5 rfl Em (.inr ⟨_,rfl⟩) (.inr ⟨v,cs,w.heap.size,C,FT.nw C el,vs,hb,hF',hat,G6,?_,?_,I.st.ext.size,?_,hCv⟩)
     (fun id y m=>?_) (fun j hj N9 KM hjb _ b m1 m2=>?_) (hv _ _ ?_ Ad))
    ·intro k;exact absurd (Oe _ k) (Nat.lt_irrefl _)
    ·rw[Em];rintro⟨id,cs',s,e,m⟩;obtain⟨_,_,_,hw,_⟩:=I.st.hr.row e m;have:=(Array.getElem?_eq_some_iff.1 hw).1;omega
    ·have hT:(g.add (c.nx i) w.heap.size).to (c.nx i)=g.to (c.nx i):=G.VI (Nat.le_refl _);rw[hT];exact jy.ny (Aj (fun _ _ m=>m) rfl (by simp only[Go.Ab.G.to];exact Oe)) _ _ lP
    ·by_cases qk:id=c.nx i
     ·exact .inr ⟨hb,qk⟩
     ·simp only[G.add,if_neg qk]at m;exact .inl m
    ·rw[hat]at m1;obtain⟨rfl,_⟩:=Prod.mk.inj (Option.some.inj m1)
     have qF:c.nx j≠c.nx i:=fun k=>HT (c.Bt I.run i PY j hj nq KM hb hjb k.symm▸N9)
     simp only[G.add,if_neg qF]at m2
     rcases I.st.N8 j hj N9 KM with hp|⟨_,_,b,_,_,_,_,_,h3,h4,_⟩
     ·omega
     ·rw[m2]at h3;obtain⟨rfl,_⟩:=Prod.mk.inj (Option.some.inj h3);have:=(Array.getElem?_eq_some_iff.1 h4).1;omega
    ·show(Go.Ab.G.to _ _).m (c.nx i)=_;simp only[Go.Ab.G.to];rw[if_pos (by omega)]
     exact hat
  |ch=>
   have nq:c.kC i .ch:=⟨o,ho,hk⟩
   have PY:=(I.GQ i nq).resolve_right HT;cases pl with
   |last pre oy=>cases PY
   |cons pre oy q rest=>
    have hq:i=q:=by
     rcases List.mem_cons.1 PY with h|h
     ·exact h
     ·exact absurd (Jc q (I.stat.2.2.1 i h)) (I.chN q List.mem_cons_self)
    subst hq;obtain⟨_,h1,aki,_,v,h2,hF,hS,hR,hb,hle,rI⟩:=I.run;have ayI:=c.xX aki;have S:=c.settle oy h aki (fun j hj hc=>Jc j (I.stat.2.1 j hj hc)) I.st (fun j hj hc=>Nat.le_trans hle (c.Ai rI j hj hc));have T:=I.reads G0.nt hR HT Jc (N:=h1.next) (Nat.le_refl _) ayI;have e:sC c.P c.call c.nt c.ops.toList o (c.rf i) h1=.ok v h2:=by
     rw[<-DE ho];exact hF
    refine I7 G0.call ho S.hr T e fun g' w' x E H' hv=>?_
    obtain⟨G',hG'⟩: ∃ G':G,G'=⟨fun id=>if id<h2.next then g'.m id else g.m id,g'.mM⟩:=⟨_,rfl⟩
    have Em:G'.to h2.next=g':=by
     rw[hG'];unfold Go.Ab.G.to;cases g' with
     |mk m im=>
      simp only[G.mk.injEq,and_true]
      funext id
      by_cases qk:id<h2.next
      ·simp only[qk,if_true]
      ·simp only[qk,if_false];exact(H'.fresh id (by omega)).symm
    have M0:=E.mono S.hr.toHC;have aiz: ∀ id y,g.m id=some y->h1.next<=id->h2.next<=id/\ ∃ j∈rest.oy,j∈D/\c.kC j .al/\c.bd j=c.nx j+1/\id=c.nx j:=by
     intro id y m qk
     rcases I.dom id y m with h|⟨j,hj,N9,KM,hjb,rfl⟩
     ·omega
     ·rcases List.mem_append.1 hj with hj|hj
      ·have:=(c.tR aki j hj KM).2 hjb;omega
      ·exact⟨c.Ai rI j hj KM,j,hj,N9,KM,hjb,rfl⟩
    have hm: ∀ id y,g.m id=some y->G'.m id=some y:=by
     intro id y m;rw[hG'];show(if id<h2.next then g'.m id else g.m id)=some y
     by_cases qk:id<h2.next
     ·rw[if_pos qk];have:id<h1.next:=by
       refine Classical.byContradiction fun k=>?_
       have:=(aiz id y m (by omega)).1;omega
      exact E.m id y (by simp only[Go.Ab.G.to];rw[if_pos this];exact m)
     ·rw[if_neg qk];exact m
    have R4:G'.mM=g'.mM:=by rw[hG']
    have M: ∀ B B',B<=B'->Bc (g.to B) w (G'.to B') w':=by
     intro B B' hB;refine⟨?_,fun b k=>?_,fun b k=>?_,E.rows⟩
     ·intro id y k;simp only[Go.Ab.G.to]at k ⊢;by_cases qk:id<B
      ·rw[if_pos qk]at k;rw[if_pos (by omega)];exact hm id y k
      ·rw[if_neg qk]at k;cases k
     ·show G'.mM b;rw[R4];exact E.mM b k
     ·exact E.zj b (Oe b k) (S.hr.tx k)
    refine sim G0 K s (i::D) (i::qm) rest G' w' h2 (a.put o.dst x) L ?_
    have P4: ∀ j∈rest.oy,j∈oy++rest.oy:=fun j hj=>List.mem_append_right _ hj
    have Oa: ∀ j,c.kC j .al->j∈i::D->j∈D:=by
     intro j hj h
     refine(List.mem_cons.1 h).resolve_left fun e=>?_
     subst e;cases c.rH nq hj
    exact
    {run:=rI
     stat:=I.stat.2.2.2
     closed:=hC
     GQ:=fun j hj=>by
      rcases I.GQ j hj with h|h
      ·rcases List.mem_cons.1 h with rfl|h
       ·exact .inr List.mem_cons_self
       ·exact .inl h
      ·exact .inr (List.mem_cons_of_mem _ h)
     chN:=fun j hj h=>by
      rcases List.mem_cons.1 h with rfl|h
      ·
       exact absurd (Jc j (I.stat.2.2.1 j hj)) HT
      ·exact I.chN j (List.mem_cons_of_mem _ hj) h
     DD:=fun j hj=>by
      rcases List.mem_cons.1 hj with rfl|hj
      ·exact List.mem_cons_self
      ·exact List.mem_cons_of_mem _ (I.DD j hj)
     alc:=fun j hj=>by
      rcases I.alc j hj with h|h
      ·rcases List.mem_append.1 h with h|h
       ·exact .inr (List.mem_cons_of_mem _ (Jc j (I.stat.2.1 j h hj)))
       ·exact .inl h
      ·exact .inr (List.mem_cons_of_mem _ h)
     st:=⟨by rw[Em];exact H',by rw[Em];exact S.ext.trans E,fun j hj N9 KM=>by
      rcases S.N8 j hj (Oa j KM N9) KM with p|⟨v,cs,b,C,el,vs,uR,h2',h3,h4,h5,h6,h7,h8,h9⟩
      ·exact .inl p
      ·have nM:=(Array.getElem?_eq_some_iff.1 h4).1;refine .inr ⟨v,cs,b,C,el,vs,uR,h2',hm _ _ h3,by rw[E.zj b nM h6];exact h4,?_,?_,h7,jy.ny (M _ _ (Nat.le_refl _)) _ _ h8,h9⟩
       ·rw[R4];intro k
        rcases E.Rv b k with k|k|k
        ·exact h5 k
        ·exact h6 k
        ·omega
       ·rw[Em];intro k
        rcases E.vJ b k with k|k
        ·exact h6 k
        ·omega,fun j hj k hk jD kD jc kc bj bk b mj mk=>by
      have e1: ∀ l∈rest.oy,l∈D->c.kC l .al->c.bd l=c.nx l+1->G'.m (c.nx l)=some (b,0)->g.m (c.nx l)=some (b,0):=by
       intro l hl lD lc lb ml;have:=c.Ai rI l hl lc;rw[hG']at ml;simp only at ml;rw[if_neg (by omega)]at ml;exact ml
      exact I.st.Sa j (P4 j hj) k (P4 k hk) (Oa j jc jD) (Oa k kc kD) jc kc bj bk b (e1 j hj (Oa j jc jD) jc bj mj) (e1 k hk (Oa k kc kD) kc bk mk)⟩
     dom:=fun n y m=>by
      by_cases hn:n<h2.next
      ·exact .inl hn
      ·rw[hG']at m;simp only at m;rw[if_neg hn]at m;obtain⟨_,j,hj,N9,r⟩:=aiz n y m (by omega);exact .inr ⟨j,hj,List.mem_cons_of_mem _ N9,r⟩
     xZ:=CP G0 ho I.size I.xZ (fun j _=>M _ _ (by omega)) HT (fun d hd=>⟨(hS d hd).1,v,(hS d hd).2,by
      have:max (c.bd i) h2.next=h2.next:=by omega
      rw[this,Em];exact hv⟩)
     free:=Fy ho I.size I.free (M _ _ (by omega))
     size:=by rw[Fx];exact I.size
     defers:=by rw[put_defers];exact I.defers}
end Cx
end Go.Ab
noncomputable section
namespace Go.Ab
variable [Io]
def VJ:Value->Value->Bool
 | .string a,.string b=>a.data.toList == b.data.toList
 | .pointer none,.pointer none=>true
 | .map none,.map none=>true
 | .nilFunc,.nilFunc=>true
 | .nilIface,.nilIface=>true
 | .slice none n c,.slice none n' c'=>Nat.beq n n'&&Nat.beq c c'
 | _,_=>false
mutual
def uE:AV->AV->Bool
 | .int k n,.int k' n'=>qf k k'&&eqI n n'
 | .bool a,.bool b=> !(xor a b)
 | .sc a,.sc b=>VJ a b
 | .agg a,.agg b=>qG a b
 | .DO a,.DO b=>qG a b
 | .ref i o,.ref i' o'=>Nat.beq i i'&&Nat.beq o o'
 | .my i o n s,.my i' o' n' s'=>Nat.beq i i'&&Nat.beq o o'&&Nat.beq n n'&&Nat.beq s s'
 | .vG n a,.vG m b=>Nat.beq n m&&qG a b
 | .qi a,.qi b=>qG a b
 | .pR,.pR=>true
 | .xr,.xr=>true
 | .fn f a,.fn f' b=>Nat.beq f f'&&qG a b
 | .sym k s lo hi o,.sym k' s' lo' A7 o'=>qf k k'&&(NG s s'&&(eqI lo lo'&&(eqI hi A7&&eqI o o')))
 | .any,.any=>true
 | _,_=>false
def qG:List AV->List AV->Bool
 | [],[]=>true
 |a::l,b::r=>uE a b&&qG l r
 | _,_=>false
end
omit [Io] in
theorem Bu{a b:Int}(h:eqI a b=true):a=b:=by
 cases a<;>cases b<;>simp[eqI]at h<;>simp[h]
omit [Io] in
theorem VK{a b:ByteArray}(h:(a.data.toList == b.data.toList)=true):a=b:=by
 cases a with
 |mk a=>cases b with
  |mk b=>
   congr 1;exact Array.toList_inj.1 (by simpa using h)
omit [Io] in
theorem VL{a b:Value}(h:VJ a b=true):a=b:=by
 unfold VJ at h;split at h
 ·rw[VK h]
 all_goals first|rfl|(cases h;done)|(rw[Bool.and_eq_true]at h;rw[Nat.eq_of_beq_eq_true h.1,Nat.eq_of_beq_eq_true h.2])
section
omit [Io]
mutual
theorem Eo: ∀ (a b:AV),uE a b=true->a=b
 | .int k n,b,h=>by cases b<;>simp only[uE,Bool.and_eq_true]at h<;>try cases h
                    rename_i h1 h2
                    rw[l8.1 h1,Bu h2]
 | .bool x,b,h=>by cases b<;>simp only[uE]at h<;>try cases h
                   rename_i y
                   cases x<;>cases y<;>first|rfl|cases h
 | .sc x,b,h=>by cases b<;>simp only[uE]at h<;>try cases h
                 rw[VL h]
 | .agg x,b,h=>by cases b<;>simp only[uE]at h<;>try cases h
                  rw[p' _ _ h]
 | .DO x,b,h=>by cases b<;>simp only[uE]at h<;>try cases h
                 rw[p' _ _ h]
 | .ref i o,b,h=>by cases b<;>simp only[uE,Bool.and_eq_true,Nat.beq_eq]at h<;>try cases h
                    rename_i h1 h2
                    rw[h1,h2]
 | .my i o n s,b,h=>by cases b<;>simp only[uE,Bool.and_eq_true,Nat.beq_eq]at h<;>try (cases h;done)
                       obtain⟨⟨⟨h1,h2⟩,h3⟩,h4⟩:=h;rw[h1,h2,h3,h4]
 | .vG n x,b,h=>by cases b<;>simp only[uE,Bool.and_eq_true,Nat.beq_eq]at h<;>try cases h
                   rename_i h1 h2
                   rw[h1,p' _ _ h2]
 | .qi x,b,h=>by cases b<;>simp only[uE]at h<;>try cases h
                 rw[p' _ _ h]
 | .pR,b,h=>by cases b<;>simp only[uE]at h<;>first|rfl|cases h
 | .xr,b,h=>by cases b<;>simp only[uE]at h<;>first|rfl|cases h
 | .any,b,h=>by cases b<;>simp only[uE]at h<;>first|rfl|cases h
 | .sym k s lo hi o,b,h=>by cases b<;>simp only[uE,Bool.and_eq_true]at h<;>try (cases h;done)
                            obtain⟨h1,h2,h3,h4,h5⟩:=h;rw[l8.1 h1,UY h2,Bu h3,Bu h4,Bu h5]
 | .fn f x,b,h=>by cases b<;>simp only[uE,Bool.and_eq_true,Nat.beq_eq]at h<;>try cases h
                   rename_i h1 h2
                   rw[h1,p' _ _ h2]
theorem p': ∀ (a b:List AV),qG a b=true->a=b
 | [],b,h=>by cases b with
  |nil=>rfl
  |cons _ _=>simp[qG]at h
 |a::l,b,h=>by
  cases b with
  |nil=>simp[qG]at h
  |cons c r=>
   simp only[qG,Bool.and_eq_true]at h;rw[Eo _ _ h.1,p' _ _ h.2]
end
end
def ck(s:lT)(f:lO)(k:uM):uM:=fun t h=>Ro.rec Rt.bad (fun v _=>Option.rec Rt.bad (fun u=>Bool.rec Rt.bad (k t h) (uE u v)) (s t)) (f t h)
def mn(f:lO):lO:=fun t h=>Ro.rec Ro.bad (fun v h'=>Bool.rec Ro.bad (Ro.ok v h') (Nat.ble h.next h'.next)) (f t h)
def ar3:Cl->Cl->Bool
 | .p0,.p0| .p1,.p1| .al,.al| .ch,.ch=>true
 | _,_=>false
omit [Io] in
theorem VM{a b:Cl}(h:ar3 a b=true):a=b:=by cases a<;>cases b<;>first|rfl|cases h
def rK(i:Nat)(l:List Nat):Bool:=List.rec false (fun a _ ih=>Bool.rec ih true (Nat.beq a i)) l
omit [Io] in
theorem sa{i:Nat}: ∀ {l:List Nat},rK i l=true↔i∈l
 | []=>by simp[rK]
 |a::l=>by
  show(Bool.rec (rK i l) true (Nat.beq a i):Bool)=true↔_;cases h:Nat.beq a i with
  |true=>
   have:=Nat.eq_of_beq_eq_true h;subst this;simp
  |false=>
   have: ¬ i=a:=fun e=>by subst e;simp at h
   simp only[List.mem_cons,this,false_or];exact sa
def Of(p:Nat->Bool)(l:List Nat):Bool:=List.rec false (fun a _ ih=>Bool.rec ih true (p a)) l
omit [Io] in
theorem Bv{p:Nat->Bool}: ∀ {l:List Nat},Of p l=true↔ ∃ i∈l,p i=true
 | []=>by simp[Of]
 |a::l=>by
  show(Bool.rec (Of p l) true (p a):Bool)=true↔_;cases h:p a with
  |true=>simp[h]
  |false=>simp only[List.mem_cons,exists_eq_or_imp,h,Bool.false_eq_true,false_or];exact Bv
def allI(p:Nat->Oper->Bool)(l:List Oper):Nat->Bool:=
 List.rec (fun _=>true) (fun o _ ih i=>Bool.rec false (ih (Nat.add i 1)) (p i o)) l
omit [Io] in
theorem HU{p:Nat->Oper->Bool}: ∀ {l:List Oper} {k:Nat},allI p l k=true-> ∀ i o,l[i]? =some o->p (k+i) o=true
 | [],k,_,i,o,h=>by simp at h
 |a::l,k,hh,i,o,h=>by
  change (Bool.rec false (allI p l (k+1)) (p k a):Bool)=true at hh
  cases hp:p k a with
  |false=>rw[hp]at hh;cases hh
  |true=>
   rw[hp]at hh;cases i with
   |zero=>simp at h;subst h;exact hp
   |succ i=>
    have:=HU hh i o (by simpa using h)
    rwa [show k+1+i=k+(i+1) by omega]at this
omit [Io] in
theorem si{p:Nat->Oper->Bool}{l:List Oper}(h:allI p l 0=true)(i:Nat)(o:Oper)(ho:l[i]? =some o):p i o=true:=by
 have:=HU h i o ho
 simpa using this
def P5(l:List Oper):Bool:=allI (fun i o=>jC (fun e=>Bool.rec true (Nat.blt e.on i) (Region.binds .any e)) o.after.toList) l 0
omit [Io] in
theorem ack{ops:Array Oper}(h:P5 ops.toList=true):Down ops:=by
 intro i o e ho he hb;have:=si h i o (by simpa using ho);rw[ou,List.all_eq_true]at this;have:=this e (by simpa using he);rw[hb]at this;exact jn.1 this
def HV(o:Oper)(d:Nat):Bool:=match o.dst with
 |some e=>Nat.beq e d
 |none=>false
omit [Io] in
theorem CQ{o:Oper}{d:Nat}(h:o.dst=some d):HV o d=true:=by unfold HV;rw[h];simp
def acm(l:List Oper):Bool:=allI (fun i o=>match o.dst with
 |some d=>allI (fun j o'=>Bool.rec true (Nat.beq i j) (HV o' d)) l 0
 |none=>true) l 0
section
variable (P:Program)(call:kh)(nt:Nat)(L:List Oper)
def zG(k:Cl)(i:Nat):Bool:=match sD L i with
 |some o=>ar3 (wP P call o.op).1 k
 |none=>false
def Nw(jN:List Nat)(i:Nat):Bool:=match sD L i with
 |some o=>jC (fun u=>Nat.blt u nt&&Bool.rec (allI (fun j o'=>Bool.rec true (!rK j jN&&(N5 L j i&& !N5 L i j)) (HV o' u)) L 0) true (allI (fun j o'=>Bool.rec true (rK j jN&&N5 L i j) (HV o' u)) L 0)) (yM L o)
 |none=>false
def acn(i:Nat)(k:uM):uM:=match sD L i with
 |some o=>match o.dst with
  |some d=>oL (Nat.blt d nt) (st (sT d) (sC P call nt L o) k) (fun _ _=>.bad)
  |none=>sn (sC P call nt L o) k
 |none=>fun _ _=>.bad
def akj(i:Nat)(k:uM):uM:=match sD L i with
 |some o=>match o.dst with
  |some d=>oL (Nat.blt d nt) (ck (oT d) (sC P call nt L o) k) (fun _ _=>.bad)
  |none=>sn (sC P call nt L o) k
 |none=>fun _ _=>.bad
def runM(i:Nat)(k:uM):uM:=match sD L i with
 |some o=>match o.dst with
  |some d=>oL (Nat.blt d nt) (st (sT d) (mn (sC P call nt L o)) k) (fun _ _=>.bad)
  |none=>sn (mn (sC P call nt L o)) k
 |none=>fun _ _=>.bad
def vn:List Nat->List Nat->(List Nat->uM)->uM
 | [],jN,k=>k jN
 |i::l,jN,k=>oL (Nw nt L jN i) (oL (rK i jN) (oL (zG P call L .p1 i) (akj P call nt L i (vn l jN k)) (fun _ _=>.bad))
  (oL (zG P call L .p0 i||zG P call L .p1 i) (acn P call nt L i (vn l (i::jN) k)) (fun _ _=>.bad))) (fun _ _=>.bad)
def Og:List Nat->List Nat->(List Nat->uM)->uM
 | [],jN,k=>k jN
 |i::l,jN,k=>oL (Nw nt L jN i&&(!rK i jN&&(zG P call L .p0 i||zG P call L .al i))) (acn P call nt L i (Og l (i::jN) k)) (fun _ _=>.bad)
def vR:sY->List Nat->uM
 | .last pre oy,jN=>vn P call nt L pre jN fun jN=>Og P call nt L oy jN fun jN=>oL (allI (fun i _=>rK i jN) L 0) fi (fun _ _=>.bad)
 | .cons pre oy q rest,jN=>vn P call nt L pre jN fun jN=>Og P call nt L oy jN fun jN=>
   oL (Nw nt L jN q&&(!rK q jN&&zG P call L .ch q)) (runM P call nt L q (vR rest (q::jN))) (fun _ _=>.bad)
def HW:sY->List Nat->Bool
 | .last pre _,qm=>allI (fun i _=>Bool.rec true (Of (fun j=>N5 L j i) qm||rK i pre) (zG P call L .p1 i)) L 0
 | .cons pre oy q rest,qm=>allI (fun i _=>Bool.rec true (Of (fun j=>N5 L j i) qm||(Of (fun j=>N5 L i j) (q::rest.GQ)||rK i pre)) (zG P call L .p1 i)) L 0&&
   (jC (fun i=>Bool.rec true (N5 L q i) (zG P call L .al i)) oy&&(jC (fun q'=>N5 L q' q) rest.GQ&&HW rest (q::qm)))
end
end Go.Ab
noncomputable section
namespace Go.Ab
variable [Io]
section
variable {P:Program}{call:kh}
def Se(f:lO):Prop:= ∀ t h v h',f t h=.ok v h'->h'=h
omit [Io] in
theorem Ep{b:Bool}{x:Ro}{v:AV}{h:Hp}(e:(bif b then x else .bad)=.ok v h):x=.ok v h:=by cases b;cases e;exact e
omit [Io] in
theorem qn:Se jL:=by intro t h v h' e;cases e
omit [Io] in
theorem VN{c:Bool}{f:lO}(i:Se f):Se (oL c f jL):=by cases c;exact qn;exact i
omit [Io] in
theorem aco{n:Nat}{b:Bool}{x:lT}:Se (r7 n b x):=by
 intro t h v h' e;unfold r7 at e;split at e
 ·split at e
  ·cases e;rfl
  ·cases e
 ·cases e
omit [Io] in
theorem Sf{x:lT}{lo hi:Option lT}:Se (qK x lo hi):=by
 intro t h v h' e;unfold qK at e;split at e
 ·split at e
  ·cases e;rfl
  ·cases e
 ·cases e
omit [Io] in
theorem VO{n:Nat}{x:lT}{lo hi:Option lT}:Se (vk n x lo hi):=by
 intro t h v h' e;unfold vk at e;split at e
 ·split at e
  ·cases e;rfl
  ·cases e
 ·split at e
  ·have e:=Ep e;cases e;rfl
  ·cases e
 ·split at e
  ·cases e;rfl
  ·cases e
 ·cases e
omit [Io] in
theorem Sg{n:Nat}{x:lT}{lo hi:Option lT}:Se (mQ n x lo hi):=by
 intro t h v h' e;unfold mQ at e;split at e
 ·rename_i a hx
  cases hE:z9 a with
  |false=>rw[hE]at e;exact VO _ _ _ _ e
  |true=>
   rw[hE]at e;simp only[cond_true]at e;split at e
   ·cases e;rfl
   ·cases e
 ·cases e
omit [Io] in
theorem Sh{n m:Nat}{x:lT}{lo hi:Option lT}:Se (ph n m x lo hi):=by
 intro t h v h' e;unfold ph at e;split at e
 ·split at e
  ·split at e
   ·have e:=Ep e;cases e;rfl
   ·cases e
  ·cases e
 ·cases e
omit [Io] in
theorem akk{x y z:lT}:Se (G1 x y z):=by
 intro t h v h' e;unfold G1 at e;split at e
 ·split at e
  ·have e:=Ep e;split at e
   ·cases e;rfl
   ·cases e;rfl
   ·cases e;rfl
   ·cases e
  ·cases e
 ·cases e
omit [Io] in
theorem akl{x:lT}:Se (GZ x):=by
 intro t h v h' e;unfold GZ at e;split at e
 ·split at e
  ·split at e
   ·have e:=Ep e;cases e;rfl
   ·cases e
  ·cases e
 ·cases e
omit [Io] in
theorem akm{o:Op}(hc:(wP P call o).1=.p1):Se (wP P call o).2:=by
 cases o<;>simp only[wP]at hc ⊢
 case load T x=>
  unfold Lk;split
  ·split
   ·exact aco
   ·exact qn
  ·exact qn
 case slice T x lo hi mx=>
  cases mx with
  |some m=>
   simp only;unfold Bn;split
   ·split
    ·split
     ·exact akk
     ·exact qn
    ·exact qn
   ·exact qn
  |none=>
   simp only;unfold Fl;split
   ·exact Sf
   ·split
    ·exact Sg
    ·exact qn
   ·split
    ·exact VN Sh
    ·exact qn
   ·exact qn
 case binOp op T x y yT=>cases h:Lj P op T<;>rw[h]at hc<;>cases hc
 case unOp op T x=>cases h:cUn op<;>rw[h]at hc<;>cases hc
 case convert S D x=>
  cases h:P.underlying D with
  |none=>rw[h]at hc;cases hc
  |some d=>
   cases d<;>rw[h]at hc<;>first|(cases hc;done)|skip
   simp only;unfold Vj;split
   ·split
    ·exact akl
    ·exact qn
   ·exact qn
 case makeFunc f first caps=>
  cases f<;>try (cases hc;done)
  simp only at hc
  cases h:first.toList<;>rw[h]at hc<;>cases hc
 case makeMap T r=>cases r<;>cases hc
 case call c=>cases h:pY P c<;>rw[h]at hc<;>cases hc
 all_goals (cases hc)
omit [Io] in
theorem VP{nt:Nat}{all:List Oper}{o:Oper}(nq:(wP P call o.op).1=.p1):Se (sC P call nt all o):=by
 have hf:Se (wP P call o.op).2:=akm nq;unfold sC;cases o.guard with
 |none=>exact hf
 |some p=>
  obtain⟨j,want⟩:=p;simp only;split
  ·split
   ·refine VN ?_;intro t h v h' e;unfold gF at e;split at e
    ·rename_i b _
     cases hw:oL want b (!b)with
     |false=>rw[hw]at e;cases e;rfl
     |true=>rw[hw]at e;exact hf t h v h' e
    ·cases e;rfl
    ·cases e
   ·exact qn
  ·exact qn
end
omit [Io] in
theorem vS{b x:Bool}(h:(Bool.rec true x b:Bool)=true)(hb:b=true):x=true:=by subst hb;exact h
namespace Cx
variable {c:Cx}
omit [Io] in
theorem rP{k:Cl}{i:Nat}:zG c.P c.call c.ops.toList k i=true↔c.kC i k:=by
 unfold zG kC;rw[nQ];constructor
 ·intro h;split at h
  ·rename_i o ho
   exact⟨o,by simpa using ho,VM h⟩
  ·cases h
 ·rintro⟨o,ho,hk⟩
  have:c.ops.toList[i]? =some o:=by simpa using ho
  rw[this,<-hk];simp only;cases(wP c.P c.call o.op).1<;>rfl
omit [Io] in
theorem FA{jN:List Nat}{i:Nat}(h:Nw c.nt c.ops.toList jN i=true): ∀ u∈c.Rds i,u<c.nt/\((∀ j,c.tA j u->j∈jN/\c.An i j)∨ ∀ j,c.tA j u->j∉jN/\c.An j i/\ ¬ c.An i j):=by
 unfold Nw at h;rw[nQ]at h;unfold Rds;intro u hu;cases ho:c.ops[i]? with
 |none=>rw[ho]at hu;cases hu
 |some o=>
  rw[ho]at hu
  have:c.ops.toList[i]? =some o:=by simpa using ho
  rw[this]at h;simp only[ou,List.all_eq_true]at h;have:=h u hu;rw[Bool.and_eq_true]at this;refine⟨jn.1 this.1,?_⟩;cases h1:allI (fun j o'=>Bool.rec true (rK j jN&&N5 c.ops.toList i j) (HV o' u)) c.ops.toList 0 with
  |true=>
   refine .inl ?_;rintro j ⟨oj,hoj,hd⟩;have h2:=vS (si h1 j oj (by simpa using hoj)) (CQ hd);rw[Bool.and_eq_true,sa]at h2;exact h2
  |false=>
   rw[h1]at this;refine .inr ?_;rintro j ⟨oj,hoj,hd⟩;have h2:=vS (si this.2 j oj (by simpa using hoj)) (CQ hd);simp only[Bool.and_eq_true,Bool.not_eq_true']at h2;refine⟨fun k=>?_,h2.2.1,fun k=>?_⟩
   ·rw[sa.2 k]at h2;cases h2.1
   ·unfold An at k;rw[k]at h2;cases h2.2.2
def Cov(c:Cx)(jN:List Nat)(u:Nat):Prop:= ∀ j,c.tA j u->j∈jN
def FrO(c:Cx)(jN:List Nat)(t:Tm):Prop:= ∀ u,u<512->(∀ j,c.tA j u->j∉jN)->t.at u=c.t0.at u
def Fr(c:Cx)(jN:List Nat)(t:Tm):Prop:= ∀ u,u<512->c.Cov jN u->c.te.at u=t.at u
omit [Io] in
theorem Bw{i:Nat}{k:uM}{t:Tm}{h:Hp}{te:Tm}{hE:Hp}(e:acn c.P c.call c.nt c.ops.toList i k t h=.ok te hE):
 ∃ o v h1 t1,c.ops[i]? =some o/\sC c.P c.call c.nt c.ops.toList o t h=.ok v h1/\k t1 h1=.ok te hE/\((∃ d,o.dst=some d/\d<c.nt/\t1=sT d v t)∨(o.dst=none/\t1=t)):=by
 unfold acn at e;rw[nQ]at e;cases ho:c.ops.toList[i]? with
 |none=>rw[ho]at e;cases e
 |some o=>
  rw[ho]at e;simp only at e
  have tB:c.ops[i]? =some o:=by simpa using ho
  cases hd:o.dst with
  |none=>
   rw[hd]at e
   change sn (sC c.P c.call c.nt c.ops.toList o) k t h=_ at e
   unfold sn at e;cases hg:sC c.P c.call c.nt c.ops.toList o t h with
   |bad=>rw[hg]at e;cases e
   |ok v h1=>rw[hg]at e;exact⟨o,v,h1,t,tB,hg,e,.inr ⟨hd,rfl⟩⟩
  |some d=>
   rw[hd]at e;simp only at e;cases hb:Nat.blt d c.nt with
   |false=>rw[hb]at e;cases e
   |true=>
    rw[hb]at e
    change st (sT d) (sC c.P c.call c.nt c.ops.toList o) k t h=_ at e
    unfold st at e;cases hg:sC c.P c.call c.nt c.ops.toList o t h with
    |bad=>rw[hg]at e;cases e
    |ok v h1=>rw[hg]at e;exact⟨o,v,h1,_,tB,hg,e,.inl ⟨d,hd,jn.1 hb,rfl⟩⟩
omit [Io] in
theorem P6{f:lO}{t:Tm}{h h':Hp}{v:AV}(e:mn f t h=.ok v h'):f t h=.ok v h'/\h.next<=h'.next:=by
 unfold mn at e;cases hf:f t h with
 |bad=>rw[hf]at e;cases e
 |ok v1 h1=>
  rw[hf]at e
  change (Bool.rec Ro.bad (Ro.ok v1 h1) (Nat.ble h.next h1.next):Ro)=_ at e
  cases hb:Nat.ble h.next h1.next with
  |false=>rw[hb]at e;cases e
  |true=>rw[hb]at e;cases e;exact⟨rfl,Nat.ble_eq.mp hb⟩
omit [Io] in
theorem Lz{i:Nat}{k:uM}{t:Tm}{h:Hp}{te:Tm}{hE:Hp}(e:runM c.P c.call c.nt c.ops.toList i k t h=.ok te hE):
 ∃ o v h1 t1,c.ops[i]? =some o/\sC c.P c.call c.nt c.ops.toList o t h=.ok v h1/\h.next<=h1.next/\k t1 h1=.ok te hE/\((∃ d,o.dst=some d/\d<c.nt/\t1=sT d v t)∨(o.dst=none/\t1=t)):=by
 unfold runM at e;rw[nQ]at e;cases ho:c.ops.toList[i]? with
 |none=>rw[ho]at e;cases e
 |some o=>
  rw[ho]at e;simp only at e
  have tB:c.ops[i]? =some o:=by simpa using ho
  cases hd:o.dst with
  |none=>
   rw[hd]at e
   change sn (mn (sC c.P c.call c.nt c.ops.toList o)) k t h=_ at e
   unfold sn at e;cases hg:mn (sC c.P c.call c.nt c.ops.toList o) t h with
   |bad=>rw[hg]at e;cases e
   |ok v h1=>rw[hg]at e;exact⟨o,v,h1,t,tB,(P6 hg).1,(P6 hg).2,e,.inr ⟨hd,rfl⟩⟩
  |some d=>
   rw[hd]at e;simp only at e;cases hb:Nat.blt d c.nt with
   |false=>rw[hb]at e;cases e
   |true=>
    rw[hb]at e
    change st (sT d) (mn (sC c.P c.call c.nt c.ops.toList o)) k t h=_ at e
    unfold st at e;cases hg:mn (sC c.P c.call c.nt c.ops.toList o) t h with
    |bad=>rw[hg]at e;cases e
    |ok v h1=>rw[hg]at e;exact⟨o,v,h1,_,tB,(P6 hg).1,(P6 hg).2,e,.inl ⟨d,hd,jn.1 hb,rfl⟩⟩
omit [Io] in
theorem LA{i:Nat}{k:uM}{t:Tm}{h:Hp}{te:Tm}{hE:Hp}(hc:c.kC i .p1)(e:akj c.P c.call c.nt c.ops.toList i k t h=.ok te hE):
 ∃ o v,c.ops[i]? =some o/\sC c.P c.call c.nt c.ops.toList o t h=.ok v h/\k t h=.ok te hE/\ ∀ d,o.dst=some d->d<c.nt/\t.at d=some v:=by
 unfold akj at e;rw[nQ]at e;cases ho:c.ops.toList[i]? with
 |none=>rw[ho]at e;cases e
 |some o=>
  rw[ho]at e;simp only at e
  have tB:c.ops[i]? =some o:=by simpa using ho
  have hlv: ∀ v h1,sC c.P c.call c.nt c.ops.toList o t h=.ok v h1->h1=h:=by
   intro v h1 hg;obtain⟨o',uR,h2'⟩:=hc;rw[tB]at uR;cases uR;exact VP h2' _ _ _ _ hg
  cases hd:o.dst with
  |none=>
   rw[hd]at e
   change sn (sC c.P c.call c.nt c.ops.toList o) k t h=_ at e
   unfold sn at e;cases hg:sC c.P c.call c.nt c.ops.toList o t h with
   |bad=>rw[hg]at e;cases e
   |ok v h1=>
    rw[hg]at e;obtain rfl:=hlv v h1 hg;exact⟨o,v,tB,hg,e,fun d h=>by rw[hd]at h;cases h⟩
  |some d=>
   rw[hd]at e;simp only at e;cases hb:Nat.blt d c.nt with
   |false=>rw[hb]at e;cases e
   |true=>
    rw[hb]at e
    change ck (oT d) (sC c.P c.call c.nt c.ops.toList o) k t h=_ at e
    unfold ck at e;cases hg:sC c.P c.call c.nt c.ops.toList o t h with
    |bad=>rw[hg]at e;cases e
    |ok v h1=>
     rw[hg]at e;obtain rfl:=hlv v h1 hg
     change (Option.rec Rt.bad (fun u=>Bool.rec Rt.bad (k t h1) (uE u v)) (t.at d):Rt)=_ at e
     cases ht:t.at d with
     |none=>rw[ht]at e;cases e
     |some u=>
      rw[ht]at e
      change (Bool.rec Rt.bad (k t h1) (uE u v):Rt)=_ at e
      cases hq:uE u v with
      |false=>rw[hq]at e;cases e
      |true=>
       rw[hq]at e;obtain rfl:=Eo _ _ hq;exact⟨o,u,tB,hg,e,fun d' h=>by rw[hd]at h;cases h;exact⟨jn.1 hb,ht⟩⟩
omit [Io] in
theorem Bx{jN:List Nat}{i:Nat}{o:Oper}{t t1:Tm}{v:AV}(qg:c.nt<=512)(ho:c.ops[i]? =some o)(hi:i∉jN)
 (ht:(∃ d,o.dst=some d/\d<c.nt/\t1=sT d v t)∨(o.dst=none/\t1=t))(F:c.Fr (i::jN) t1):c.Fr jN t:=by
 intro u hu hc;rw[F u hu (fun j hj=>List.mem_cons_of_mem _ (hc j hj))]
 rcases ht with⟨d,hd,T6,rfl⟩|⟨_,rfl⟩
 ·show(Tm.put t d (some v)).at u=t.at u;rw[Tm.pK _ _ _ _ (Nat.lt_of_lt_of_le T6 qg) hu,if_neg];intro e;subst e;exact hi (hc i ⟨o,ho,hd⟩)
 ·rfl
omit [Io] in
theorem vT{i:Nat}{l:List Nat}(h:rK i l=false):i∉l:=fun k=>by rw[sa.2 k]at h;cases h
omit [Io] in
theorem yN(qg:c.nt<=512){k:List Nat->uM}(hk: ∀ jN t h,k jN t h=.ok c.te c.hE->c.Fr jN t): ∀ (pre jN:List Nat) (t:Tm) (h:Hp),
 vn c.P c.call c.nt c.ops.toList pre jN k t h=.ok c.te c.hE->c.Fr jN t
 | [],jN,t,h,e=>hk jN t h e
 |i::l,jN,t,h,e=>by
  unfold vn at e;cases h1:Nw c.nt c.ops.toList jN i with
  |false=>rw[h1]at e;cases e
  |true=>
  rw[h1]at e;simp only[oL]at e;cases h2:rK i jN with
  |true=>
   rw[h2]at e;cases h3:zG c.P c.call c.ops.toList .p1 i with
   |false=>rw[h3]at e;cases e
   |true=>
    rw[h3]at e;obtain⟨o,v,_,_,e,_⟩:=LA (rP.1 h3) e;exact yN qg hk l jN t h e
  |false=>
   rw[h2]at e;cases h3:(zG c.P c.call c.ops.toList .p0 i||zG c.P c.call c.ops.toList .p1 i)with
   |false=>rw[h3]at e;cases e
   |true=>
    rw[h3]at e;obtain⟨o,v,uR,t1,ho,_,e,ht⟩:=Bw e;exact Bx qg ho (vT h2) ht (yN qg hk l (i::jN) t1 uR e)
omit [Io] in
theorem wV(qg:c.nt<=512){k:List Nat->uM}(hk: ∀ jN t h,k jN t h=.ok c.te c.hE->c.Fr jN t): ∀ (oy jN:List Nat) (t:Tm) (h:Hp),
 Og c.P c.call c.nt c.ops.toList oy jN k t h=.ok c.te c.hE->c.Fr jN t
 | [],jN,t,h,e=>hk jN t h e
 |i::l,jN,t,h,e=>by
  unfold Og at e;cases h1:(Nw c.nt c.ops.toList jN i&&(!rK i jN&&(zG c.P c.call c.ops.toList .p0 i||zG c.P c.call c.ops.toList .al i)))with
  |false=>rw[h1]at e;cases e
  |true=>
   rw[h1]at e;simp only[oL]at e;simp only[Bool.and_eq_true,Bool.not_eq_true']at h1;obtain⟨o,v,uR,t1,ho,_,e,ht⟩:=Bw e;exact Bx qg ho (vT h1.2.1) ht (wV qg hk l (i::jN) t1 uR e)
omit [Io] in
theorem Bz(qg:c.nt<=512): ∀ (pl:sY) (jN:List Nat) (t:Tm) (h:Hp),vR c.P c.call c.nt c.ops.toList pl jN t h=.ok c.te c.hE->c.Fr jN t
 | .last pre oy,jN,t,h,e=>by
  unfold vR at e;refine yN qg (fun jN t h e=>?_) pre jN t h e;refine wV qg (fun jN t h e=>?_) oy jN t h e;cases hb:allI (fun i _=>rK i jN) c.ops.toList 0 with
  |false=>rw[hb]at e;cases e
  |true=>
   rw[hb]at e;obtain⟨rfl,_⟩:=Rt.ok.inj e
   exact fun u _ _=>rfl
 | .cons pre oy q rest,jN,t,h,e=>by
  unfold vR at e;refine yN qg (fun jN t h e=>?_) pre jN t h e;refine wV qg (fun jN t h e=>?_) oy jN t h e;cases h1:(Nw c.nt c.ops.toList jN q&&(!rK q jN&&zG c.P c.call c.ops.toList .ch q))with
  |false=>rw[h1]at e;cases e
  |true=>
   rw[h1]at e;simp only[oL]at e;simp only[Bool.and_eq_true,Bool.not_eq_true']at h1;obtain⟨o,v,uR,t1,ho,_,_,e,ht⟩:=Lz e;exact Bx qg ho (vT h1.2.1) ht (Bz qg rest (q::jN) t1 uR e)
omit [Io] in
theorem FB{jN:List Nat}{i:Nat}{o:Oper}{t t1:Tm}{v:AV}(qg:c.nt<=512)(ho:c.ops[i]? =some o)
 (ht:(∃ d,o.dst=some d/\d<c.nt/\t1=sT d v t)∨(o.dst=none/\t1=t))(F:c.FrO jN t):c.FrO (i::jN) t1:=by
 intro u hu hc;rw[<-F u hu (fun j hj k=>hc j hj (List.mem_cons_of_mem _ k))]
 rcases ht with⟨d,hd,T6,rfl⟩|⟨_,rfl⟩
 ·show(Tm.put t d (some v)).at u=t.at u;rw[Tm.pK _ _ _ _ (Nat.lt_of_lt_of_le T6 qg) hu,if_neg];intro e;subst e;exact hc i ⟨o,ho,hd⟩ List.mem_cons_self
 ·rfl
omit [Io] in
theorem ar4{i u:Nat}(nM: ∀ u∈c.Rds i,u<512)(hu:u∈c.Rds i):((∃ j,c.tA j u/\c.An i j)/\(c.rf i).at u=c.te.at u)∨((¬ ∃ j,c.tA j u/\c.An i j)/\(c.rf i).at u=c.t0.at u):=by
 have key: ∀ (l:List Nat),(∀ u∈l,u<512)->u∈l->((∃ j,c.tA j u/\c.An i j)/\(c.T7 i l).at u=c.te.at u)∨((¬ ∃ j,c.tA j u/\c.An i j)/\(c.T7 i l).at u=c.t0.at u):=by
  intro l
  induction l with
  |nil=>intro _ h;cases h
  |cons x l ih=>
   intro hl hm;rw[T7,Tm.pK _ _ _ _ (hl x List.mem_cons_self) (hl u hm)];by_cases hx:u=x
   ·subst hx;rw[if_pos rfl];by_cases hw: ∃ j,c.tA j u/\c.An i j
    ·rw[if_pos hw];exact .inl ⟨hw,rfl⟩
    ·rw[if_neg hw];exact .inr ⟨hw,rfl⟩
   ·rw[if_neg hx];exact ih (fun y hy=>hl y (List.mem_cons_of_mem _ hy)) ((List.mem_cons.1 hm).resolve_left hx)
 exact key _ nM hu
omit [Io] in
theorem LC{jN:List Nat}{i:Nat}{o:Oper}{t:Tm}{h h1:Hp}{v:AV}(qg:c.nt<=512)(oz: ∀ u,u<512->(∀ j,¬ c.tA j u)->c.te.at u=c.t0.at u)(F:c.Fr jN t)(hO:c.FrO jN t)(ho:c.ops[i]? =some o)(hr:Nw c.nt c.ops.toList jN i=true)
 (e:sC c.P c.call c.nt c.ops.toList o t h=.ok v h1):c.FE i (c.rf i) h=.ok v h1:=by
 rw[DE ho,<-e]
 refine ab' fun u hu=>?_
 rw[<-akf ho]at hu
 have nM: ∀ u∈c.Rds i,u<512:=fun u hu=>Nat.lt_of_lt_of_le (FA hr u hu).1 qg
 obtain⟨_,hor⟩:=FA hr u hu
 rcases ar4 nM hu with⟨⟨j,hj,hA⟩,er⟩|⟨hno,er⟩
 ·rw[er]
  rcases hor with h1|h1
  ·exact F u (nM u hu) (fun j hj=>(h1 j hj).1)
  ·exact absurd hA (h1 j hj).2.2
 ·rw[er]
  rcases hor with h1|h1
  ·have hn: ∀ j,¬ c.tA j u:=fun j hj=>hno ⟨j,hj,(h1 j hj).2⟩
   rw[<-oz u (nM u hu) hn];exact F u (nM u hu) (fun j hj=>absurd hj (hn j))
  ·exact(hO u (nM u hu) (fun j hj=>(h1 j hj).1)).symm
omit [Io] in
theorem CR{jN:List Nat}{i:Nat}{o:Oper}{t t1:Tm}{v:AV}(qg:c.nt<=512)(KN: ∀ i j d,c.tA i d->c.tA j d->i=j)(ho:c.ops[i]? =some o)
 (ht:(∃ d,o.dst=some d/\d<c.nt/\t1=sT d v t)∨(o.dst=none/\t1=t))(F:c.Fr (i::jN) t1):c.Slot i v:=by
 intro d hd;obtain⟨o',tB,Sc⟩:=id hd;rw[ho]at tB;cases tB
 rcases ht with⟨d2,PJ,T6,rfl⟩|⟨hn,_⟩
 ·rw[Sc]at PJ;cases PJ;refine⟨T6,?_⟩;rw[F d (Nat.lt_of_lt_of_le T6 qg) (fun j hj=>by rw[KN j i d hj hd];exact List.mem_cons_self)];show(Tm.put t d (some v)).at d=_;rw[Tm.pK _ _ _ _ (Nat.lt_of_lt_of_le T6 qg) (Nat.lt_of_lt_of_le T6 qg),if_pos rfl]
 ·rw[Sc]at hn;cases hn
end Cx
end Go.Ab
noncomputable section
namespace Go.Ab
variable [Io]
namespace Cx
def wi(c:Cx)(nx bd:Nat->Nat):Cx:={c with nx:=nx,bd:=bd}
def GI(c:Cx)(i:Nat):Prop:=
 (c.kC i .p0-> ∃ v,(∀ h,c.FE i (c.rf i) h=.ok v h)/\c.Slot i v/\c.wS i (c.bd i))/\
 (c.kC i .al-> ∃ v,c.Slot i v/\c.wS i (c.nx i)/\((c.FE i (c.rf i) (nf (c.nx i))=.ok v (nf (c.nx i))/\c.bd i=c.nx i)∨
  ∃ cs,c.FE i (c.rf i) (nf (c.nx i))=.ok v (kA (nf (c.nx i)) cs)/\c.bd i=c.nx i+1))
def Ns(f:Nat->Nat)(i n:Nat):Nat->Nat:=fun j=>if j=i then n else f j
omit [Io] in
theorem tT{f:Nat->Nat}{i n:Nat}:Ns f i n i=n:=if_pos rfl
omit [Io] in
theorem wW{f:Nat->Nat}{i n j:Nat}(h:j≠i):Ns f i n j=f j:=if_neg h
variable {c:Cx}
omit [Io] in
theorem VQ{nx bd:Nat->Nat}{i:Nat}: ∀ (l:List Nat),(c.wi nx bd).T7 i l=c.T7 i l
 | []=>rfl
 |u::l=>by
  rw[T7,T7,VQ l];rfl
omit [Io] in
theorem LD{nx bd:Nat->Nat}{i:Nat}:(c.wi nx bd).rf i=c.rf i:=VQ _
omit [Io] in
theorem P7{jN:List Nat}{i N:Nat}(hr:Nw c.nt c.ops.toList jN i=true)(hb: ∀ j∈jN,c.bd j<=N):c.wS i N:=by
 intro u hu;obtain⟨h1,h2⟩:=FA hr u hu;exact⟨h1,h2.imp (fun h j hj=>⟨(h j hj).2,hb j (h j hj).1⟩) (fun h j hj=>(h j hj).2.1)⟩
omit [Io] in
theorem Er(qg:c.nt<=512)(oz: ∀ u,u<512->(∀ j,¬ c.tA j u)->c.te.at u=c.t0.at u)(KN: ∀ i j d,c.tA i d->c.tA j d->i=j){k:List Nat->uM}(hk: ∀ jN t h,k jN t h=.ok c.te c.hE->c.Fr jN t)
 {Φ:(Nat->Nat)->(Nat->Nat)->List Nat->Prop}{h:Hp}
 (ih: ∀ (jN:List Nat) (t:Tm) (zl xz:Nat->Nat),k jN t h=.ok c.te c.hE->c.FrO jN t->(∀ j∈jN,xz j<=h.next)-> ∃ nx bd,(∀ j∈jN,nx j=zl j/\bd j=xz j)/\Φ nx bd jN):
 ∀ (pre jN:List Nat) (t:Tm) (zl xz:Nat->Nat),vn c.P c.call c.nt c.ops.toList pre jN k t h=.ok c.te c.hE->c.FrO jN t->(∀ j∈jN,xz j<=h.next)->
  ∃ nx bd,(∀ j∈jN,nx j=zl j/\bd j=xz j)/\(c.wi nx bd).P1s pre h/\ ∃ xG,Φ nx bd xG/\ ∀ i∈xG,i∈jN∨((c.wi nx bd).GI i/\(c.kC i .p0∨c.kC i .p1))
 | [],jN,t,zl,xz,e,hO,hb=>by
  obtain⟨nx,bd,h1,h2⟩:=ih jN t zl xz e hO hb;exact⟨nx,bd,h1,(fun i hi=>by cases hi),jN,h2,fun i hi=>.inl hi⟩
 |i::l,jN,t,zl,xz,e,hO,hb=>by
  have F:=yN qg hk (i::l) jN t h e;unfold vn at e;cases h1:Nw c.nt c.ops.toList jN i with
  |false=>rw[h1]at e;cases e
  |true=>
  rw[h1]at e;simp only[oL]at e;cases h2:rK i jN with
  |true=>
   rw[h2]at e;cases h3:zG c.P c.call c.ops.toList .p1 i with
   |false=>rw[h3]at e;cases e
   |true=>
    rw[h3]at e;obtain⟨o,v,ho,hg,e,hs⟩:=LA (rP.1 h3) e;obtain⟨nx,bd,a1,a2,xG,a3,a4⟩:=Er qg oz KN hk ih l jN t zl xz e hO hb;refine⟨nx,bd,a1,fun j hj hc=>?_,xG,a3,a4⟩
    rcases List.mem_cons.1 hj with rfl|hj
    ·refine⟨v,LC qg oz F hO ho h1 hg,?_,P7 (c:=c.wi nx bd) h1 (fun j hj=>by show bd j<=_;rw[(a1 j hj).2];exact hb j hj)⟩;intro d hd;obtain⟨o',tB,Sc⟩:=id hd;have VS:c.ops[j]? =some o':=tB;rw[ho]at VS;cases VS;obtain⟨s1,s2⟩:=hs d Sc;refine⟨s1,?_⟩;show c.te.at d=_;rw[F d (Nat.lt_of_lt_of_le s1 qg) (fun x hx=>by rw[KN x j d hx hd];exact sa.1 h2)];exact s2
    ·exact a2 j hj hc
  |false=>
   rw[h2]at e;have hni:=vT h2;cases h3:(zG c.P c.call c.ops.toList .p0 i||zG c.P c.call c.ops.toList .p1 i)with
   |false=>rw[h3]at e;cases e
   |true=>
    rw[h3]at e;have nq:c.kC i .p0∨c.kC i .p1:=by
     rw[Bool.or_eq_true]at h3;exact h3.imp rP.1 rP.1
    obtain⟨o,v,uR,t1,ho,hg,e2,ht⟩:=Bw e;clear e;have hlv:uR=h:=by
     rcases nq with⟨o',tB,LF⟩|⟨o',tB,LF⟩
     ·rw[ho]at tB;cases tB;exact((Bq LF).ok hg).1
     ·rw[ho]at tB;cases tB;exact VP LF _ _ _ _ hg
    subst hlv
    have qF: ∀ j∈jN,j≠i:=fun j hj e=>hni (e▸hj)
    obtain⟨nx,bd,a1,a2,xG,a3,a4⟩:=Er qg oz KN hk ih l (i::jN) t1 (Ns zl i uR.next) (Ns xz i uR.next) e2 (FB qg ho ht hO) (fun j hj=>by
     rcases List.mem_cons.1 hj with rfl|hj
     ·rw[tT];exact Nat.le_refl _
     ·rw[wW (qF j hj)];exact hb j hj)
    have agree: ∀ j∈jN,nx j=zl j/\bd j=xz j:=fun j hj=>by
     have:=a1 j (List.mem_cons_of_mem _ hj)
     rwa [wW (qF j hj),wW (qF j hj)]at this
    have hbi:bd i=uR.next:=by
     have:=(a1 i List.mem_cons_self).2
     rwa [tT]at this
    have hrd:(c.wi nx bd).wS i uR.next:=P7 (c:=c.wi nx bd) h1 (fun j hj=>by show bd j<=_;rw[(agree j hj).2];exact hb j hj)
    have my:c.Slot i v:=CR qg KN ho ht (yN qg hk l (i::jN) t1 uR e2);refine⟨nx,bd,agree,fun j hj hc=>?_,xG,a3,fun j hj=>?_⟩
    ·rcases List.mem_cons.1 hj with rfl|hj
     ·exact⟨v,LC qg oz F hO ho h1 hg,my,hrd⟩
     ·exact a2 j hj hc
    ·rcases a4 j hj with h|h
     ·rcases List.mem_cons.1 h with rfl|h
      ·refine .inr ⟨⟨fun hc=>⟨v,?_,my,?_⟩,fun hc=>?_⟩,nq⟩
       ·obtain⟨o',tB,LF⟩:=hc;have VS:c.ops[j]? =some o':=tB;rw[ho]at VS;cases VS;intro h0;rw[LD];show c.FE j (c.rf j) h0=_;have:=LC qg oz F hO ho h1 hg;rw[DE ho]at this ⊢;exact((Bq LF).ok this).2 h0
       ·show Cx.wS _ j (bd j);rw[hbi];exact hrd
       ·rcases nq with h|h<;>cases c.rH h hc
      ·exact .inl h
     ·exact .inr h
omit [Io] in
theorem Jd(qg:c.nt<=512)(oz: ∀ u,u<512->(∀ j,¬ c.tA j u)->c.te.at u=c.t0.at u)(KN: ∀ i j d,c.tA i d->c.tA j d->i=j){k:List Nat->uM}(hk: ∀ jN t h,k jN t h=.ok c.te c.hE->c.Fr jN t)
 {Φ:(Nat->Nat)->(Nat->Nat)->List Nat->Hp->Prop}
 (ih: ∀ (jN:List Nat) (t:Tm) (h:Hp) (zl xz:Nat->Nat),k jN t h=.ok c.te c.hE->c.FrO jN t->(∀ j∈jN,xz j<=h.next)-> ∃ nx bd,(∀ j∈jN,nx j=zl j/\bd j=xz j)/\Φ nx bd jN h):
 ∀ (oy jN:List Nat) (t:Tm) (h:Hp) (zl xz:Nat->Nat),Og c.P c.call c.nt c.ops.toList oy jN k t h=.ok c.te c.hE->c.FrO jN t->(∀ j∈jN,xz j<=h.next)->
  ∃ nx bd,(∀ j∈jN,nx j=zl j/\bd j=xz j)/\ ∃ h1 xG,(c.wi nx bd).DT oy h h1/\Φ nx bd xG h1/\ ∀ i∈xG,i∈jN∨((c.wi nx bd).GI i/\i∈oy/\(c.kC i .p0∨c.kC i .al))
 | [],jN,t,h,zl,xz,e,hO,hb=>by
  obtain⟨nx,bd,h1,h2⟩:=ih jN t h zl xz e hO hb;exact⟨nx,bd,h1,h,jN,rfl,h2,fun i hi=>.inl hi⟩
 |i::l,jN,t,h,zl,xz,e,hO,hb=>by
  have F:=wV qg hk (i::l) jN t h e;unfold Og at e;cases P8:(Nw c.nt c.ops.toList jN i&&(!rK i jN&&(zG c.P c.call c.ops.toList .p0 i||zG c.P c.call c.ops.toList .al i)))with
  |false=>rw[P8]at e;cases e
  |true=>
   rw[P8]at e;simp only[oL]at e;simp only[Bool.and_eq_true,Bool.not_eq_true',Bool.or_eq_true]at P8;obtain⟨h1,h2,h3⟩:=P8;have hni:=vT h2;have nq:c.kC i .p0∨c.kC i .al:=h3.imp rP.1 rP.1;obtain⟨o,v,h',t1,ho,hg,e2,ht⟩:=Bw e;clear e
   have qF: ∀ j∈jN,j≠i:=fun j hj e=>hni (e▸hj)
   have hle:h.next<=h'.next:=by
    rcases nq with⟨o',tB,LF⟩|⟨o',tB,LF⟩
    ·rw[ho]at tB;cases tB;rw[((Bq LF).ok hg).1];exact Nat.le_refl _
    ·rw[ho]at tB;cases tB
     rcases Ly LF _ _ _ _ hg (nf h.next) rfl with⟨rfl,_⟩|⟨cs,rfl,_⟩
     ·exact Nat.le_refl _
     ·exact Nat.le_succ _
   obtain⟨nx,bd,a1,uR,xG,a2,a3,a4⟩:=Jd qg oz KN hk ih l (i::jN) t1 h' (Ns zl i h.next) (Ns xz i h'.next) e2 (FB qg ho ht hO) (fun j hj=>by
    rcases List.mem_cons.1 hj with rfl|hj
    ·rw[tT];exact Nat.le_refl _
    ·rw[wW (qF j hj)];exact Nat.le_trans (hb j hj) hle)
   have agree: ∀ j∈jN,nx j=zl j/\bd j=xz j:=fun j hj=>by
    have:=a1 j (List.mem_cons_of_mem _ hj)
    rwa [wW (qF j hj),wW (qF j hj)]at this
   have hbi:bd i=h'.next:=by
    have:=(a1 i List.mem_cons_self).2
    rwa [tT]at this
   have Si:nx i=h.next:=by
    have:=(a1 i List.mem_cons_self).1
    rwa [tT]at this
   have hrd:(c.wi nx bd).wS i h.next:=P7 (c:=c.wi nx bd) h1 (fun j hj=>by show bd j<=_;rw[(agree j hj).2];exact hb j hj)
   have my:c.Slot i v:=CR qg KN ho ht (wV qg hk l (i::jN) t1 h' e2);have hte:=LC qg oz F hO ho h1 hg
   rcases nq with nq|nq
   ·have hh:h'=h:=by
     obtain⟨o',tB,LF⟩:=nq;rw[ho]at tB;cases tB;exact((Bq LF).ok hg).1
    subst hh;refine⟨nx,bd,agree,uR,xG,.inl ⟨nq,a2⟩,a3,fun j hj=>?_⟩
    rcases a4 j hj with h|⟨h,h5,h6⟩
    ·rcases List.mem_cons.1 h with rfl|h
     ·refine .inr ⟨⟨fun hc=>⟨v,?_,my,?_⟩,fun hc=>?_⟩,List.mem_cons_self,.inl nq⟩
      ·obtain⟨o',tB,LF⟩:=nq;rw[ho]at tB;cases tB;intro h0;rw[LD];show c.FE j (c.rf j) h0=_;rw[DE ho]at hte ⊢;exact((Bq LF).ok hte).2 h0
      ·show Cx.wS _ j (bd j);rw[hbi];exact hrd
      ·cases c.rH nq hc
     ·exact .inl h
    ·exact .inr ⟨h,List.mem_cons_of_mem _ h5,h6⟩
   ·have key:(h'=h/\c.FE i (c.rf i) (nf h.next)=.ok v (nf h.next))∨ ∃ cs,h'=kA h cs/\c.FE i (c.rf i) (nf h.next)=.ok v (kA (nf h.next) cs):=by
     obtain⟨o',tB,LF⟩:=nq;rw[ho]at tB;cases tB;rw[DE ho]at hte ⊢;exact Ly LF _ _ _ _ hte (nf h.next) rfl
    refine⟨nx,bd,agree,uR,xG,.inr ⟨nq,Si,?_⟩,a3,fun j hj=>?_⟩
    ·rcases key with⟨rfl,_⟩|⟨cs,rfl,hf⟩
     ·exact .inl ⟨hbi.trans Si.symm,a2⟩
     ·refine .inr ⟨v,cs,?_,?_,a2⟩
      ·show bd i=nx i+1;rw[hbi,Si];rfl
      ·rw[LD];show c.FE i (c.rf i) (nf (nx i))=.ok v (kA (nf (nx i)) cs);rw[Si];exact hf
    ·rcases a4 j hj with h0|⟨h0,h5,h6⟩
     ·rcases List.mem_cons.1 h0 with rfl|h0
      ·refine .inr ⟨⟨fun hc=>?_,fun hc=>⟨v,my,?_,?_⟩⟩,List.mem_cons_self,.inr nq⟩
       ·cases c.rH nq hc
       ·show Cx.wS _ j (nx j);rw[Si];exact hrd
       ·rw[LD];show(c.FE j (c.rf j) (nf (nx j))=.ok v (nf (nx j))/\bd j=nx j)∨ ∃ cs,c.FE j (c.rf j) (nf (nx j))=.ok v (kA (nf (nx j)) cs)/\bd j=nx j+1;rw[Si,hbi]
        rcases key with⟨rfl,hf⟩|⟨cs,rfl,hf⟩
        ·exact .inl ⟨hf,rfl⟩
        ·exact .inr ⟨cs,hf,rfl⟩
      ·exact .inl h0
     ·exact .inr ⟨h0,List.mem_cons_of_mem _ h5,h6⟩
omit [Io] in
theorem LG(qg:c.nt<=512)(oz: ∀ u,u<512->(∀ j,¬ c.tA j u)->c.te.at u=c.t0.at u)(KN: ∀ i j d,c.tA i d->c.tA j d->i=j): ∀ (pl:sY) (jN:List Nat) (t:Tm) (h:Hp) (zl xz:Nat->Nat),
 vR c.P c.call c.nt c.ops.toList pl jN t h=.ok c.te c.hE->c.FrO jN t->(∀ j∈jN,xz j<=h.next)->
  ∃ nx bd,(∀ j∈jN,nx j=zl j/\bd j=xz j)/\(c.wi nx bd).Hb pl h/\(∀ i,i<c.ops.size->bd i<=c.hE.next)/\
   ∀ i,i<c.ops.size->i∉jN->(c.wi nx bd).GI i/\(c.kC i .al->i∈pl.oy)/\(c.kC i .ch->i∈pl.GQ)
 | .last pre oy,jN,t,h,zl,xz,e,hO,hb=>by
  unfold vR at e;have aiC: ∀ jN t h,(oL (allI (fun i _=>rK i jN) c.ops.toList 0) fi (fun _ _=>.bad):uM) t h=.ok c.te c.hE->(∀ i,i<c.ops.size->i∈jN)/\t=c.te/\h=c.hE:=by
   intro jN t h e;cases hB:allI (fun i _=>rK i jN) c.ops.toList 0 with
   |false=>rw[hB]at e;cases e
   |true=>
    rw[hB]at e;obtain⟨h1,h2⟩:=Rt.ok.inj e;refine⟨fun i hi=>?_,h1,h2⟩;have:=si hB i c.ops[i] (by simp[hi]);exact sa.1 this
  have hk: ∀ jN t h,(oL (allI (fun i _=>rK i jN) c.ops.toList 0) fi (fun _ _=>.bad):uM) t h=.ok c.te c.hE->c.Fr jN t:=by
   intro jN t h e;obtain⟨_,rfl,_⟩:=aiC jN t h e
   exact fun u _ _=>rfl
  obtain⟨nx,bd,a1,a2,xG,⟨h1,xH,b2,⟨rfl,b3,b4⟩,b5⟩,a4⟩:=Er (Φ:=fun nx bd xG=> ∃ h1 xH,(c.wi nx bd).DT oy h h1/\(h1=c.hE/\(∀ i,i<c.ops.size->i∈xH)/\(∀ i∈xH,bd i<=c.hE.next))/\
   ∀ i∈xH,i∈xG∨((c.wi nx bd).GI i/\i∈oy/\(c.kC i .p0∨c.kC i .al))) qg oz KN (wV qg hk oy) (fun jN t zl xz e hO hb=>by
   obtain⟨nx,bd,a1,h1,xH,a2,a3,a4⟩:=Jd (Φ:=fun nx bd xH h1=>h1=c.hE/\(∀ i,i<c.ops.size->i∈xH)/\(∀ i∈xH,bd i<=c.hE.next)) qg oz KN hk (fun jN t h zl xz e hO hb=>by
    obtain⟨h1,_,rfl⟩:=aiC jN t h e
    exact⟨zl,xz,fun _ _=>⟨rfl,rfl⟩,rfl,h1,hb⟩) oy jN t h zl xz e hO hb
   exact⟨nx,bd,a1,h1,xH,a2,a3,a4⟩) pre jN t zl xz e hO hb
  refine⟨nx,bd,a1,⟨a2,b2⟩,fun i hi=>b4 i (b3 i hi),fun i hi hn=>?_⟩
  rcases b5 i (b3 i hi)with h|⟨h,h6,h7⟩
  ·rcases a4 i h with h|⟨h,h5⟩
   ·exact absurd h hn
   ·refine⟨h,fun hc=>?_,fun hc=>?_⟩
    ·rcases h5 with h5|h5<;>cases c.rH h5 hc
    ·rcases h5 with h5|h5<;>cases c.rH h5 hc
  ·refine⟨h,fun _=>h6,fun hc=>?_⟩
   rcases h7 with h5|h5<;>cases c.rH h5 hc
 | .cons pre oy q rest,jN,t,h,zl,xz,e,hO,hb=>by
  unfold vR at e
  have hq: ∀ jN t h,(oL (Nw c.nt c.ops.toList jN q&&(!rK q jN&&zG c.P c.call c.ops.toList .ch q)) (runM c.P c.call c.nt c.ops.toList q (vR c.P c.call c.nt c.ops.toList rest (q::jN))) (fun _ _=>.bad):uM) t h=.ok c.te c.hE->
   Nw c.nt c.ops.toList jN q=true/\q∉jN/\c.kC q .ch/\ ∃ o v h1 t1,c.ops[q]? =some o/\sC c.P c.call c.nt c.ops.toList o t h=.ok v h1/\h.next<=h1.next/\vR c.P c.call c.nt c.ops.toList rest (q::jN) t1 h1=.ok c.te c.hE/\
    ((∃ d,o.dst=some d/\d<c.nt/\t1=sT d v t)∨(o.dst=none/\t1=t)):=by
   intro jN t h e;cases h1:(Nw c.nt c.ops.toList jN q&&(!rK q jN&&zG c.P c.call c.ops.toList .ch q))with
   |false=>rw[h1]at e;cases e
   |true=>
    rw[h1]at e;simp only[Bool.and_eq_true,Bool.not_eq_true']at h1;exact⟨h1.1,vT h1.2.1,rP.1 h1.2.2,Lz e⟩
  have hk: ∀ jN t h,(oL (Nw c.nt c.ops.toList jN q&&(!rK q jN&&zG c.P c.call c.ops.toList .ch q)) (runM c.P c.call c.nt c.ops.toList q (vR c.P c.call c.nt c.ops.toList rest (q::jN))) (fun _ _=>.bad):uM) t h=.ok c.te c.hE->c.Fr jN t:=by
   intro jN t h e;obtain⟨_,hni,_,o,v,h1,t1,ho,_,_,e,ht⟩:=hq jN t h e;exact Bx qg ho hni ht (Bz qg rest (q::jN) t1 h1 e)
  obtain⟨nx,bd,a1,a2,xG,⟨h1,xH,b2,⟨c1,v,h2,c2,c3,c4,c5,c6,c7,c8,c9⟩,b5⟩,a4⟩:=Er (Φ:=fun nx bd xG=> ∃ h1 xH,(c.wi nx bd).DT oy h h1/\
   (c.kC q .ch/\ ∃ v h2,c.FE q (c.rf q) h1=.ok v h2/\c.Slot q v/\(c.wi nx bd).wS q h1.next/\bd q=h2.next/\h1.next<=h2.next/\(c.wi nx bd).Hb rest h2/\(∀ i,i<c.ops.size->bd i<=c.hE.next)/\
    ∀ i,i<c.ops.size->i∉q::xH->(c.wi nx bd).GI i/\(c.kC i .al->i∈rest.oy)/\(c.kC i .ch->i∈rest.GQ))/\
   ∀ i∈xH,i∈xG∨((c.wi nx bd).GI i/\i∈oy/\(c.kC i .p0∨c.kC i .al))) qg oz KN (wV qg hk oy) (fun jN t zl xz e hO hb=>by
   obtain⟨nx,bd,a1,h1,xH,a2,a3,a4⟩:=Jd (Φ:=fun nx bd xH h1=>c.kC q .ch/\ ∃ v h2,c.FE q (c.rf q) h1=.ok v h2/\c.Slot q v/\(c.wi nx bd).wS q h1.next/\bd q=h2.next/\h1.next<=h2.next/\(c.wi nx bd).Hb rest h2/\
    (∀ i,i<c.ops.size->bd i<=c.hE.next)/\ ∀ i,i<c.ops.size->i∉q::xH->(c.wi nx bd).GI i/\(c.kC i .al->i∈rest.oy)/\(c.kC i .ch->i∈rest.GQ)) qg oz KN hk (fun jN t h zl xz e hO hb=>by
    obtain⟨hr,hni,nq,o,v,h1,t1,ho,hg,hle,e,ht⟩:=hq jN t h e
    have qF: ∀ j∈jN,j≠q:=fun j hj e=>hni (e▸hj)
    have Fq:=Bz qg rest (q::jN) t1 h1 e;obtain⟨nx,bd,a1,a2,a3,a4⟩:=LG qg oz KN rest (q::jN) t1 h1 (Ns zl q h.next) (Ns xz q h1.next) e (FB qg ho ht hO) (fun j hj=>by
     rcases List.mem_cons.1 hj with rfl|hj
     ·rw[tT];exact Nat.le_refl _
     ·rw[wW (qF j hj)];exact Nat.le_trans (hb j hj) hle)
    have agree: ∀ j∈jN,nx j=zl j/\bd j=xz j:=fun j hj=>by
     have:=a1 j (List.mem_cons_of_mem _ hj)
     rwa [wW (qF j hj),wW (qF j hj)]at this
    have hbq:bd q=h1.next:=by
     have:=(a1 q List.mem_cons_self).2
     rwa [tT]at this
    exact⟨nx,bd,agree,nq,v,h1,LC qg oz (Bx qg ho hni ht Fq) hO ho hr hg,CR qg KN ho ht Fq,
     P7 (c:=c.wi nx bd) hr (fun j hj=>by show bd j<=_;rw[(agree j hj).2];exact hb j hj),hbq,hle,a2,a3,a4⟩) oy jN t h zl xz e hO hb
   exact⟨nx,bd,a1,h1,xH,a2,a3,a4⟩) pre jN t zl xz e hO hb
  refine⟨nx,bd,a1,⟨a2,h1,b2,c1,v,h2,(by rw[LD];exact c2),c3,c4,c5,c6,c7⟩,c8,fun i hi hn=>?_⟩;by_cases hiq:i=q
  ·subst hiq;refine⟨⟨fun hc=>?_,fun hc=>?_⟩,fun hc=>?_,fun _=>List.mem_cons_self⟩
   ·cases c.rH c1 hc
   ·cases c.rH c1 hc
   ·cases c.rH c1 hc
  ·by_cases h2':i∈xH
   ·rcases b5 i h2' with h|⟨h,h6,h7⟩
    ·rcases a4 i h with h|⟨h,h5⟩
     ·exact absurd h hn
     ·refine⟨h,fun hc=>?_,fun hc=>?_⟩
      ·rcases h5 with h5|h5<;>cases c.rH h5 hc
      ·rcases h5 with h5|h5<;>cases c.rH h5 hc
    ·refine⟨h,fun _=>List.mem_append_left _ h6,fun hc=>?_⟩
     rcases h7 with h5|h5<;>cases c.rH h5 hc
   ·obtain⟨r1,r2,r3⟩:=c9 i hi (fun k=>by
     rcases List.mem_cons.1 k with k|k
     ·exact hiq k
     ·exact h2' k)
    exact⟨r1,fun hc=>List.mem_append_right _ (r2 hc),fun hc=>List.mem_cons_of_mem _ (r3 hc)⟩
end Cx
end Go.Ab
noncomputable section
namespace Go.Ab
variable [Io]
def VT(ok:Nat->Nat->Bool)(l:List Nat):Nat->List Nat:=
 List.rec (fun _=>[]) (fun i _ ih r=>Bool.rec (ih r) (i::ih (Nat.lor r (Nat.pow 2 i))) (ok i r)) l
def aiD(l:List Nat)(r:Nat):Nat:=List.rec r (fun i _ ih=>Nat.lor (Nat.pow 2 i) ih) l
def bit(r i:Nat):Bool:=Nat.beq (Nat.mod (Nat.div r (Nat.pow 2 i)) 2) 1
def acp(p:Nat->Bool)(l:List Nat):List Nat:=List.rec [] (fun i _ ih=>Bool.rec ih (i::ih) (p i)) l
def akn(p:Nat->Bool)(l:List Nat):Option Nat:=List.rec none (fun i _ ih=>Bool.rec ih (some i) (p i)) l
def VU(l:List Oper):List Nat:=List.rec (fun _=>[]) (fun _ _ ih i=>i::ih (Nat.add i 1)) l 0
section
variable (P:Program)(call:kh)(L:List Oper)
def ayK(ms idx:List Nat)(fuel:Nat):Nat->List Nat->sY:=
 Nat.rec (fun _ _=>.last [] []) (fun _ ih done chd=>
  match VT (fun i r=>(zG P call L .p0 i||zG P call L .p1 i)&&(!bit r i&&Nat.beq (Nat.land ((sD ms i).getD 0) r) ((sD ms i).getD 0))) idx done with
  |new=>match acp (fun i=>bit done i&&(zG P call L .p1 i&& !Of (fun j=>bit ((sD ms j).getD 0) i) chd)) idx with
   |zj=>match aiD new done with
    |P9=>match akn (fun i=>zG P call L .ch i&& !bit P9 i) idx with
     |none=>.last (app zj new) (VT (fun i r=> !bit r i) idx P9)
     |some q=>match VT (fun i r=> !bit r i&&bit ((sD ms q).getD 0) i) idx P9 with
      |oy=>.cons (app zj new) oy q (ih (Nat.lor (Nat.pow 2 q) (aiD oy P9)) (q::chd))) fuel
def CS:sY:=ayK P call L (xV L []) (VU L) (Nat.succ (len L)) 0 []
end
def LH(P:Program)(call:kh)(nt:Nat)(ops:Array Oper):uM:=
 match CS P call ops.toList with
 |pl=>oL (P5 ops.toList&&(acm ops.toList&&HW P call ops.toList pl [])) (vR P call nt ops.toList pl []) (fun _ _=>.bad)
namespace Cx
variable {c:Cx}
omit [Io] in
theorem P': ∀ (pl:sY) (qm:List Nat),HW c.P c.call c.ops.toList pl qm=true->c.P1 qm pl
 | .last pre oy,qm,h=>by
  intro i hi;obtain⟨o,ho,_⟩:=id hi;have:=vS (si h i o (by simpa using ho)) (rP.2 hi);rw[Bool.or_eq_true,Bv,sa]at this;exact this
 | .cons pre oy q rest,qm,h=>by
  unfold HW at h;simp only[Bool.and_eq_true]at h;obtain⟨h1,h2,h3,h4⟩:=h;refine⟨fun i hi=>?_,fun i hi hc=>?_,fun q' hq=>?_,P' rest _ h4⟩
  ·obtain⟨o,ho,_⟩:=id hi;have:=vS (si h1 i o (by simpa using ho)) (rP.2 hi);rw[Bool.or_eq_true,Bool.or_eq_true,Bv,Bv,sa]at this;exact this
  ·rw[ou,List.all_eq_true]at h2;exact vS (h2 i hi) (rP.2 hc)
  ·rw[ou,List.all_eq_true]at h3;exact h3 q' hq
omit [Io] in
theorem ako(h:acm c.ops.toList=true): ∀ i j d,c.tA i d->c.tA j d->i=j:=by
 rintro i j d ⟨o,ho,hd⟩ ⟨o',tB,Sc⟩;have h1:=si h i o (by simpa using ho);rw[hd]at h1;have h2:=vS (si h1 j o' (by simpa using tB)) (CQ Sc);exact Nat.eq_of_beq_eq_true h2
end Cx
theorem acq{g:G}{w:World}{h:Hp}(H:HR g w h):g.to h.next=g:=by
 cases g with
 |mk m im=>
  unfold G.to;simp only[G.mk.injEq,and_true]
  funext id
  by_cases qk:id<h.next
  ·simp only[qk,if_true]
  ·simp only[qk,if_false];exact(H.fresh id (by omega)).symm
omit [Io] in
theorem CT{g:G}{w w':World}(h:w'.heap=w.heap):Bc g w g w':=
 ⟨fun _ _ e=>e,fun _ i=>i,fun b _=>by rw[h],fun b=>by unfold kP;rw[h];exact Nat.le_refl _⟩
theorem HR.heap{g:G}{w w':World}{hp:Hp}(h:w'.heap=w.heap)(H:HR g w hp):HR g w' hp:=by
 refine⟨H.fresh,fun id cs e=>?_,H.inj,fun b i=>by rw[h];exact H.mM b i,vm.mono (CT h) H.tb⟩;obtain⟨b,s,C,el,vs,h1,h2,h3,h4,h5⟩:=H.cz id cs e;exact⟨b,s,C,el,vs,h1,by rw[h];exact h2,h3,jy.ny (CT h) _ _ h4,h5⟩
omit [Io] in
theorem Sj(g:G)(w:World)(h:Hp)(n:Nat):Ext g w h g {w with drawn:=n} h:=
 ⟨rfl,rfl,rfl,Nat.le_refl _,Nat.le_refl _,fun _ _ e=>e,fun _ _ _=>rfl,fun _=>Nat.le_refl _,fun _ i=>i,fun _ i=>.inl i,fun _ o=>.inl o⟩
theorem Qa{P:Program}(hm:P.follows .mixedOrders=true):N4 P (LH P):=by
 intro call nt hc id ops g w t h a t' h' H T D e Q K
 refine wp_region_draw fun tk=>?_
 rw[hm]
 change (oL (P5 ops.toList&&(acm ops.toList&&HW P call ops.toList (CS P call ops.toList) [])) (vR P call nt ops.toList (CS P call ops.toList) []) (fun _ _=>.bad):uM) t h=.ok t' h' at e
 cases hB:(P5 ops.toList&&(acm ops.toList&&HW P call ops.toList (CS P call ops.toList) []))with
 |false=>rw[hB]at e;cases e
 |true=>
 rw[hB]at e
 change vR P call nt ops.toList (CS P call ops.toList) [] t h=.ok t' h' at e
 simp only[Bool.and_eq_true]at hB;obtain⟨T6,KN,Ek⟩:=hB
 obtain⟨pl,hpl⟩: ∃ pl,pl=CS P call ops.toList:=⟨_,rfl⟩
 rw[<-hpl]at e Ek;have L:=I9 (ack T6) tk
 let c0:Cx:=⟨P,call,ops,nt,t,t',fun _=>0,fun _=>0,g,w,h,h'⟩
 have ar6: ∀ i j d,c0.tA i d->c0.tA j d->i=j:=Cx.ako (c:=c0) KN;have qg:nt<=512:=T.1;have F:=Cx.Bz (c:=c0) qg pl [] t h e
 have oz: ∀ u,u<512->(∀ j,¬ c0.tA j u)->c0.te.at u=c0.t0.at u:=fun u hu hd=>F u hu (fun j hj=>absurd hj (hd j))
 obtain⟨nx,bd,_,rI,ayL,hgi⟩:=Cx.LG (c:=c0) qg oz ar6 pl [] t h (fun _=>0) (fun _=>0) e (fun u _ _=>rfl) (fun j hj=>by cases hj)
 let c:Cx:=c0.wi nx bd
 have nM: ∀ {i k},c.kC i k->i<c.ops.size:=fun⟨o,ho,_⟩=>(Array.getElem?_eq_some_iff.1 ho).1
 have G0:c.ach:=
  ⟨fun i hi=>(hgi i (nM hi) (by simp)).1.1 hi,fun i hi=>(hgi i (nM hi) (by simp)).1.2 hi,ar6,ayL,oz,hc,qg⟩
 have Em:g.to h.next=g:=acq H
 refine Cx.sim (c:=c) G0 K _ [] [] pl g {w with drawn:=w.drawn+1} h a L ?_;exact
 {run:=rI
  stat:=Cx.P' (c:=c) pl [] Ek
  closed:=fun j hj=>by cases hj
  GQ:=fun i hi=>.inl ((hgi i (nM hi) (by simp)).2.2 hi)
  chN:=fun i _ h=>by cases h
  DD:=fun j hj=>by cases hj
  alc:=fun i hi=>.inl ((hgi i (nM hi) (by simp)).2.1 hi)
  st:=⟨(by rw[Em];exact HR.heap (w:=w) rfl H),(by rw[Em];exact Sj _ _ _ _),(fun i _ h=>by cases h),(fun i _ j _ h=>by cases h)⟩
  dom:=fun id x m=>.inl (by
   refine Classical.byContradiction fun k=>?_
   rw[H.fresh id (by omega)]at m;cases m)
  xZ:=fun j hj=>by cases hj
  free:=fun u v hu hd eu=>by
   obtain⟨h1,h2⟩:=T.2.2 u v hu eu;refine⟨h1,?_⟩;rw[Em];exact VR.ny (CT (w:=w) (w':={w with drawn:=w.drawn+1}) rfl) _ _ h2
  size:=T.2.1
  defers:=D}
end Go.Ab
noncomputable section
namespace Go.Ab
variable [Io]
def Je(F:Func):Code:=match F.body with
 |some c=>c
 |none=>.skip
omit [Io] in
theorem ar7{P:Program}{draw:kh->Nat->Array Oper->uM}{f:FuncId}{F:Func}{b:Fb}(h1:P.funcs[f]? =some F)(h2: ∀ args w,(callFunc f args).run P w=.ok (.enter f args) w)
 (h3:F.body.isSome=true)(h4:b.ntmps=F.ntmps)(h5:Nat.ble b.ntmps 512=true)(h6:Lq P b.ntmps F.results.toList=some b.res)
 (h7:b.body=fun call n=>nN P (draw call b.ntmps) call n b.ntmps (Je F)):R1 P draw f b:=by
 refine⟨⟨F,Je F,h1,?_,h4,Nat.ble_eq.mp h5,h6,h7⟩,h2⟩;unfold Je;cases h:F.body with
 |none=>rw[h]at h3;cases h3
 |some c=>rfl
def VV{α:Type}(p:Nat->α->Prop)(a b:Nat):Tr α->Prop
 | .nil=>True
 | .node l v r=>(∀ x,v=some x->p b x)/\VV p (2*a) (a+b) l/\VV p (2*a) (2*a+b) r
omit [Io] in
theorem VV.get{α:Type}{p:Nat->α->Prop}: ∀ {t:Tr α} {a b:Nat},VV p a b t-> ∀ k x,t.get k=some x->p (a*k+b) x
 | .nil,a,b,_,k,x,e=>by cases e
 | .node l v r,a,b,⟨h1,h2,h3⟩,k,x,e=>by
  rw[Tr.xL]at e;by_cases h0:k=0
  ·subst h0;rw[if_pos rfl]at e
   simpa using h1 x e
  ·rw[if_neg h0]at e;by_cases hk:k % 2=1
   ·rw[if_pos hk]at e;have:=h2.get _ x e;have e2:2*a*(k / 2)+(a+b)=a*k+b:=by
     have:k=2*(k / 2)+1:=by omega
     generalize k / 2=m at*;subst this;rw[Nat.mul_add,Nat.mul_one,<-Nat.mul_assoc,Nat.mul_comm a 2];omega
    rwa [e2]at this
   ·rw[if_neg hk]at e;have:=h3.get _ x e;have e2:2*a*(k / 2 - 1)+(2*a+b)=a*k+b:=by
     have:k=2*(k / 2 - 1)+2:=by omega
     generalize k / 2 - 1=m at*;subst this;rw[Nat.mul_add,<-Nat.mul_assoc,Nat.mul_comm a 2];omega
    rwa [e2]at this
end Go.Ab
noncomputable section
namespace Go.Ab
variable [Io]
structure Sk(w w':World):Prop where
 os:w'.os=w.os
 tape:w'.tape=w.tape
 output:w'.output=w.output
 size:w.heap.size<=w'.heap.size
 zj: ∀ b,b<w.heap.size->w'.heap[b]? =w.heap[b]?
omit [Io] in
theorem Sk.rows{w w':World}(K:Sk w w')(b:Nat):kP w b<=kP w' b:=by
 unfold kP;by_cases h:b<w.heap.size
 ·rw[K.zj b h];exact Nat.le_refl _
 ·rw[Array.getElem?_eq_none (by omega)];exact Nat.zero_le _
def gE(mM:Nat->Prop):G:=⟨fun _=>none,mM⟩
theorem LJ{mM:Nat->Prop}{w:World}(h: ∀ b,mM b->b<w.heap.size)(t:vm (gE mM) w):HR (gE mM) w (nf 0):=
 ⟨fun _ _=>rfl,(fun _ _ e=>by cases e),(fun _ _ _ _ _ _ _ e=>by cases e),h,t⟩
omit [Io] in
theorem Qb{mM:Nat->Prop}{w:World}{g':G}{w':World}{h':Hp}(E:Ext (gE mM) w (nf 0) g' w' h'):Sk w w':=
 ⟨E.os,E.tape,E.output,E.size,fun b hb=>E.zj b hb (by rintro⟨id,cs,s,e,_⟩;cases e)⟩
def mapA(f:AV->Option AV)(l:List AV):Option (List AV):=
 List.rec (some []) (fun a _ ih=>match f a with
  |some b=>match ih with
   |some r=>some (b::r)
   |none=>none
  |none=>none) l
theorem Qc{g g':G}{w:World}{f:AV->Option AV}(hf: ∀ a a' v,f a=some a'->VR g w a v->VR g' w a' v): ∀ {l l':List AV} {vs:List Value},mapA f l=some l'->jy g w l vs->jy g' w l' vs
 | [],l',vs,e,h=>by cases e;simpa only[jy]using h
 |a::l,l',vs,e,h=>by
  change (match f a with|some b=>(match mapA f l with|some r=>some (b::r)|none=>none)|none=>none)=some l' at e
  simp only[jy]at h;obtain⟨v,r,rfl,hv,hr⟩:=h;cases h1:f a with
  |none=>rw[h1]at e;cases e
  |some b=>
   cases h2:mapA f l with
   |none=>rw[h1,h2]at e;cases e
   |some r'=>
    rw[h1,h2]at e;cases e;simp only[jy];exact⟨v,r,rfl,hf a b v h1 hv,Qc hf h2 hr⟩
end Go.Ab
noncomputable section
namespace Go.Ab
end Go.Ab
noncomputable section
namespace Go.Ab
variable [Io]
end Go.Ab
namespace Go.Ab
end Go.Ab
noncomputable section
namespace Go.Ab
variable [Io]
section
variable {P:Program}{call:kh}
end
end Go.Ab
noncomputable section
namespace Go.Ab
end Go.Ab
noncomputable section
namespace Go.Ab
def isT(r:Ro):Bool:=match r with
 | .ok (.bool b) _=>b
 | _=>false
theorem akp{r:Ro}(h:isT r=true): ∃ h',r=.ok (.bool true) h':=by
 unfold isT at h;split at h
 ·subst h;exact⟨_,rfl⟩
 ·cases h
theorem Sk.below{w w':World}(K:Sk w w'):Go.RowKit.Below w.heap.size w w':=⟨K.os,K.tape,K.output,K.size,K.zj⟩
theorem akq[Io]{P:Program}{call:kh}(hc:mb P call){f:FuncId}{args:List AV}{vs:List Value}(e:isT (call f args (nf 0))=true)(w:World){mM:Nat->Prop}(hi: ∀ b,mM b->b<w.heap.size)(ht:vm (gE mM) w)(hv:jy (gE mM) w args vs):
 Calls P f vs.toArray w fun e w'=>e=.returned (.bool true)/\Go.RowKit.Below w.heap.size w w':=by
 obtain⟨h',e'⟩:=akp e;refine((hc f args (nf 0) _ h' e').2 (gE mM) w vs (LJ hi ht) hv).mono ?_;rintro e w' ⟨x,g',rfl,E,H',hx⟩;simp only[VR]at hx;subst hx;exact⟨rfl,(Qb E).below⟩
variable [Io]
section
variable {P:Program}
def LK(fn:FuncId->Option Fb)(n:Nat)(c:kh):kh:=fun f args h=>match fn f with
 |none=>.bad
 |some b=>oL (Nat.ble (len args) b.ntmps) (match b.body c n (wL args 0 Tm.none) h with
  | .norm t h=>fin b.res t h
  | .ret t h=>fin b.res t h
  | _=>.bad) .bad
theorem VW{draw:kh->Nat->Array Oper->uM}(hd:N4 P draw){fn:FuncId->Option Fb}(hf: ∀ f b,fn f=some b->R1 P draw f b)(n:Nat){c:kh}(hc:mb P c):mb P (LK fn n c):=by
 intro f args h v h' e
 change (match fn f with
  |none=>Ro.bad
  |some b=>oL (Nat.ble (len args) b.ntmps) (match b.body (c) n (wL args 0 Tm.none) h with| .norm t h=>fin b.res t h| .ret t h=>fin b.res t h| _=>.bad) .bad)=.ok v h' at e
 cases hb:fn f with
 |none=>rw[hb]at e;cases e
 |some b=>
 rw[hb]at e;simp only at e;cases hle:Nat.ble (len args) b.ntmps with
 |false=>rw[hle]at e;cases e
 |true=>
 rw[hle]at e
 change (match b.body (c) n (wL args 0 Tm.none) h with| .norm t h=>fin b.res t h| .ret t h=>fin b.res t h| _=>.bad)=Ro.ok v h' at e
 rw[jH]at hle;have ar8:args.length<=b.ntmps:=Nat.ble_eq.mp hle;have F0:=hf f b hb;obtain⟨F,cd,hF,hcb,qg,vU,ayM,ar9⟩:=F0.ex;refine⟨F0.enter,fun g w vs H hv=>?_⟩;rw[ar9]at e;have ar':=I8 hc (draw:=draw (c) b.ntmps) (nt:=b.ntmps) (fun id ops=>hd _ _ hc id ops) n cd;have hvl:=hv.length
 have PZ:(vs.toArray++Array.replicate (F.ntmps - vs.toArray.size) undef).size=b.ntmps:=by simp;omega
 have hT0:TR g w b.ntmps Tm.none (vs.toArray++Array.replicate (F.ntmps - vs.toArray.size) undef):=
  ⟨vU,PZ,fun i v hi e=>by rw[Tm.PA i hi]at e;cases e⟩
 have hT:=Bo args vs 0 b.ntmps Tm.none _ hv (by omega) hT0 (fun j v e=>by
  rw[Array.getElem?_append_left (by have:=(List.getElem?_eq_some_iff.1 e).1;simpa using this)]
  simpa using e)
 refine calls_of_wp hF hcb ?_;have:=ar' g w _ h {tmps:=vs.toArray++Array.replicate (F.ntmps - vs.toArray.size) undef,defers:=[]}
  (bodyPost P F (fun e w'=> ∃ x g',e=.returned x/\Ext g w h g' w' h'/\HR g' w' h'/\VR g' w' v x)) H hT rfl
 have VX: ∀ t1 h1,fin b.res t1 h1=.ok v h'-> ∀ g' w' (a':Act),Ext g w h g' w' h1->HR g' w' h1->TR g' w' b.ntmps t1 a'.tmps->a'.defers=[]->
  a'.defers=[]/\ ∃ x,(results F a'.tmps).run P w'=.ok x w'/\ ∃ y g',Ending.returned x=.returned y/\Ext g w h g' w' h'/\HR g' w' h'/\VR g' w' v y:=by
  intro t1 h1 ayO g' w' a' E' H' T' D';obtain⟨rfl,x,hx,Vw⟩:=akd H' T' ayM ayO;exact⟨D',x,hx,x,g',rfl,E',H',Vw⟩
 simp only at e;cases hr:nN P (draw (c) b.ntmps) (c) n b.ntmps cd (wL args 0 Tm.none) h with
 |bad=>rw[hr]at e;cases e
 |norm t1 h1=>rw[hr]at e this;exact this (VX t1 h1 e)
 |ret t1 h1=>rw[hr]at e this;exact this (VX t1 h1 e)
 |exit i t1 h1=>rw[hr]at e;cases e
end
end Go.Ab
noncomputable section
namespace Go.Ab
open Go.ChangeShapes Go.WideShapes Go.ChangeAt Go.RowKit Go.Deep Go.Joins
end Go.Ab
noncomputable section
namespace Go.Ab
variable [Io]
end Go.Ab
namespace Go.Ab
variable [Io]
section
variable {P:Program}
def VY(fn:FuncId->Option Fb)(wr:kh->kh)(n:Nat)(d:Nat):kh:=Nat.rec (fun _ _ _=>.bad) (fun _ ih=>LK fn n (wr ih)) d
theorem FC{draw:kh->Nat->Array Oper->uM}(hd:N4 P draw){fn:FuncId->Option Fb}(hf: ∀ f b,fn f=some b->R1 P draw f b){wr:kh->kh}
 (hw: ∀ c,mb P c->mb P (wr c))(n:Nat): ∀ d,mb P (VY fn wr n d)
 |0=>by intro f args h v h' e;cases e
 |d+1=>VW hd hf n (hw _ (FC hd hf hw n d))
theorem jy.split{g:G}{w:World}: ∀ {l r:List AV} {vs:List Value},jy g w (l++r) vs-> ∃ us ts,vs=us++ts/\jy g w l us/\jy g w r ts
 | [],r,vs,h=>⟨[],vs,rfl,by simp[jy],h⟩
 |a::l,r,vs,h=>by
  simp only[List.cons_append,jy]at h;obtain⟨v,l',rfl,q,p⟩:=h;obtain⟨us,ts,rfl,h1,h2⟩:=jy.split p;refine⟨v::us,ts,rfl,?_,h2⟩;simp only[jy];exact⟨v,us,rfl,q,h1⟩
end
end Go.Ab
namespace Go.Ab
variable [Io]
end Go.Ab
