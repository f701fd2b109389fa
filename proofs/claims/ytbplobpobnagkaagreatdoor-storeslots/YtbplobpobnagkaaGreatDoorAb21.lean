import Derived.Test.YtbplobpobnagkaaGreatDoorAb15
import Derived.KernelRfl
import Derived.Below
import Derived.Lib.SmallJoins
noncomputable section
namespace Go.Ab
variable [Io]
namespace Cx
variable {c:Cx}
omit [Io] in
theorem G.Me{g:G}{id b N:Nat}(h:N<=id):(g.add id b).to N=g.to N:=by
 unfold Go.Ab.G.to G.add
 congr 1
 funext k
 by_cases hk:k<N
 ·simp only[hk,if_true]
  rw[if_neg (by omega)]
 ·simp only[hk,if_false]
theorem sim(G0:c.RK){Q:Exit->Act->World->Prop}(K:ou c.g0 c.w0 c.h0 c.nt c.te c.hE (Q .normal)): ∀ (s D jI:List Nat) (pl:lU) (g:G) (w:World) (h:Hp) (a:Act),
 RA c.ops D s->c.Inv g w h a D jI pl->wpOps c.P c.ops Q s a w
 | [],D,jI,pl,g,w,h,a,L,I=>by
  have Jp: ∀ i,i<c.ops.size->i∈D:=L
  have gB: ∀ {i k},c.dD i k->i<c.ops.size:=fun⟨o,ho,_⟩=>(Array.getElem?_eq_some_iff.1 ho).1
  show Q .normal a w
  cases pl with
  |cons pre g7 q rest=>
   exact absurd (Jp q (gB (Hv I.run q List.mem_cons_self))) (I.Qg q List.mem_cons_self)
  |last pre g7=>
   have S:=c.settle (A:=[]) g7 h I.run.2 (fun i _ hc=>Jp i (gB hc)) (by rw[List.append_nil];exact I.st) (fun i hi=>by cases hi)
   refine K _ _ _ S.ext S.hr ⟨G0.nt,I.size,fun u v hu e=>?_⟩ I.defers
   have hle:=c.qZ I.run.2
   by_cases hd: ∃ j,c.mA j u
   ·obtain⟨j,hj⟩:=hd
    obtain⟨o,ho,_⟩:=id hj
    have hjs:=(Array.getElem?_eq_some_iff.1 ho).1
    obtain⟨h1,v',e',hv⟩:=I.q7 j (Jp j hjs) u hj
    rw[e]at e'
    cases e'
    have:=G0.top j hjs
    exact⟨h1,VR.gg (pK g w (by omega)) _ _ hv⟩
   ·rw[G0.same u hu (fun j hj=>hd ⟨j,hj⟩)]at e
    obtain⟨h1,h2⟩:=I.free u v hu (fun j _ hj=>hd ⟨j,hj⟩) e
    exact⟨h1,VR.gg (pK g w hle) _ _ h2⟩
 |i::s,D,jI,pl,g,w,h,a,⟨his,As,hE,L⟩,I=>by
  obtain⟨o,ho⟩: ∃ o,c.ops[i]? =some o:=⟨c.ops[i],Array.getElem?_eq_getElem his⟩
  obtain⟨Bs,hC⟩:=Da I.closed ho hE
  have FO: ∀ b,g.fx b->b<w.heap.size:=I.st.hr.fx
  cases hk:(pG c.P c.call o.op).1 with
  |p0=>
   have fY:c.dD i .p0:=⟨o,ho,hk⟩
   obtain⟨v,hF,hS,hR⟩:=G0.p0 i fY
   have T:=I.reads G0.nt hR As Bs (N:=max (c.bd i) h.next) (by omega) (by omega)
   have e:lh c.P c.call c.nt c.ops.toList o (c.rf i) (fQ 0)=.ok v (fQ 0):=by
    rw[<-wj ho];exact hF _
   exact Ar G0.call ho (.inl hk) (Ma (g:=g.to (max (c.bd i) h.next)) FO) T e fun x hx=>sim G0 K s _ _ _ _ _ _ _ L (I.put G0 ho As hC (.inl fY) hS hx)
  |p1=>
   have fY:c.dD i .p1:=⟨o,ho,hk⟩
   have Xp:i∈pl.pre:=by
    rcases RL I.stat i fY with⟨j,hj,hA⟩|⟨j,hj,hA⟩|h
    ·exact absurd (I.closed j (I.wh j hj) i hA) As
    ·exact absurd (Bs j hA) (I.Qg j hj)
    ·exact h
   obtain⟨v,hF,hS,hR⟩:=XF I.run i Xp fY
   have T:=I.reads G0.nt hR As Bs (N:=h.next) (Nat.le_refl _) (Nat.le_refl _)
   have e:lh c.P c.call c.nt c.ops.toList o (c.rf i) h=.ok v h:=by
    rw[<-wj ho];exact hF
   exact Ar G0.call ho (.inr hk) I.st.hr.toHC T e fun x hx=>sim G0 K s _ _ _ _ _ _ _ L
    (I.put G0 ho As hC (.inr fY) hS (VR.gg (pK g w (by omega)) _ _ hx))
  |al=>
   have fY:c.dD i .al:=⟨o,ho,hk⟩
   obtain⟨v,hS,hR,hF⟩:=G0.al i fY
   have Hr:i∈pl.g7:=(I.VG i fY).resolve_right As
   have hnx:=c.th I.run i Hr fY
   have T:=I.reads G0.nt hR As Bs (N:=c.nx i) (Nat.le_refl _) hnx
   obtain⟨h',hh',hF'⟩: ∃ h',((h'=fQ (c.nx i)/\c.bd i=c.nx i)∨ ∃ cs,h'=dy (fQ (c.nx i)) cs/\c.bd i=c.nx i+1)/\c.FE i (c.rf i) (fQ (c.nx i))=.ok v h':=by
    rcases hF with⟨h1,h2⟩|⟨cs,h1,h2⟩
    ·exact⟨_,.inl ⟨rfl,h2⟩,h1⟩
    ·exact⟨_,.inr ⟨cs,rfl,h2⟩,h1⟩
   have e:lh c.P c.call c.nt c.ops.toList o (c.rf i) (fQ (c.nx i))=.ok v h':=by
    rw[<-wj ho];exact hF'
   have FM: ∀ j,j∈i::D->j≠i->j∈D:=fun j hj jR=>(List.mem_cons.1 hj).resolve_left jR
   have fin: ∀ (g':G) (w':World) (x:Value),(∀ id y,g.m id=some y->g'.m id=some y)->g'.fx=g.fx->g'.to h.next=g.to h.next->(w'=w∨ ∃ ob,w'=w.alloc ob)->
    c.Jl g' w' h i->(∀ id y,g'.m id=some y->g.m id=some y∨(c.bd i=c.nx i+1/\id=c.nx i))->
    (∀ j∈pl.g7,j∈D->c.dD j .al->c.bd j=c.nx j+1->c.bd i=c.nx i+1-> ∀ b,g'.m (c.nx i)=some (b,0)->g'.m (c.nx j)=some (b,0)->i=j)->
    VR (g'.to (max (c.bd i) h.next)) w' v x->c.Inv g' w' h (a.put o.dst x) (i::D) jI pl:=by
    intro g' w' x hm hi xl hw hp XG VI hx
    have M: ∀ N,ua (g.to N) w (g'.to N) w':=by
     intro N
     have hmN: ∀ id y,(g.to N).m id=some y->(g'.to N).m id=some y:=by
      intro id y e
      simp only[Go.Ab.G.to]at e ⊢
      by_cases jG:id<N
      ·rw[if_pos jG]at e ⊢;exact hm _ _ e
      ·rw[if_neg jG]at e;cases e
     rcases hw with rfl|⟨ob,rfl⟩
     ·exact⟨hmN,fun b k=>by simp only[Go.Ab.G.to]at k ⊢;rw[hi];exact k,fun _ _=>rfl,fun _=>Nat.le_refl _⟩
     ·exact tj hmN (by simp only[Go.Ab.G.to];exact hi) (by simp only[Go.Ab.G.to];exact FO)
    have ac1: ∀ j,c.Jl g w h j->c.Jl g' w' h j:=by
     intro j p
     rcases hw with rfl|⟨ob,rfl⟩
     ·rcases p with p|⟨v,cs,b,C,el,vs,h1,h2,h3,h4,h5,h6,h7,h8,h9⟩
      ·exact .inl p
      ·exact .inr ⟨v,cs,b,C,el,vs,h1,h2,hm _ _ h3,h4,by rw[hi];exact h5,by rw[xl];exact h6,h7,bL.gg (M _) _ _ h8,h9⟩
     ·exact FN hm hi FO xl p
    have xj:HR (g'.to h.next) w' h/\Ext c.g0 c.w0 c.h0 (g'.to h.next) w' h:=by
     rw[xl]
     rcases hw with rfl|⟨ob,rfl⟩
     ·exact⟨I.st.hr,I.st.ext⟩
     ·obtain⟨E,H⟩:=CS I.st.hr ob
      exact⟨H,I.st.ext.trans E⟩
    exact
    {run:=I.run
     stat:=I.stat
     closed:=hC
     zw:=fun j hj=>(I.zw j hj).imp id (List.mem_cons_of_mem _)
     Qg:=fun j hj h=>by
      rcases List.mem_cons.1 h with rfl|h
      ·cases c.ks fY (Hv I.run j hj)
      ·exact I.Qg j hj h
     wh:=fun j hj=>List.mem_cons_of_mem _ (I.wh j hj)
     VG:=fun j hj=>(I.VG j hj).imp id (List.mem_cons_of_mem _)
     st:=⟨xj.1,xj.2,fun j hj FL CA=>by
      by_cases E7:j=i
      ·subst E7;exact hp
      ·exact ac1 j (I.st.FK j hj (FM j FL E7) CA),fun j hj k hk jD kD jc kc bj bk b mj mk=>by
      by_cases E7:j=i<;>by_cases hki:k=i
      ·exact E7.trans hki.symm
      ·subst E7
       exact VI k hk (FM k kD hki) kc bk bj b mj mk
      ·subst hki
       exact(VI j hj (FM j jD E7) jc bj bk b mk mj).symm
      ·have nj:g.m (c.nx j)=some (b,0):=by
        rcases XG _ _ mj with m|⟨b1,b2⟩
        ·exact m
        ·exact absurd (c.ur I.run j hj i Hr jc fY bj b1 b2) E7
       have nk:g.m (c.nx k)=some (b,0):=by
        rcases XG _ _ mk with m|⟨b1,b2⟩
        ·exact m
        ·exact absurd (c.ur I.run k hk i Hr kc fY bk b1 b2) hki
       exact I.st.Jm j hj k hk (FM j jD E7) (FM k kD hki) jc kc bj bk b nj nk⟩
     VH:=fun n y e=>by
      rcases XG n y e with m|⟨b1,b2⟩
      ·exact(I.VH n y m).imp id fun⟨j,hj,hD,r⟩=>⟨j,hj,List.mem_cons_of_mem _ hD,r⟩
      ·exact .inr ⟨i,Hr,List.mem_cons_self,fY,b1,b2⟩
     q7:=vH G0 ho I.size I.q7 (fun j _=>M _) As (fun d hd=>⟨(hS d hd).1,v,(hS d hd).2,hx⟩)
     free:=yf ho I.size I.free (M _)
     size:=by rw[ye];exact I.size
     defers:=by rw[put_defers];exact I.defers}
   refine Mb G0.call ho hk (Ma (g:=g.to (c.nx i)) FO) T e (fun h1 x w' hw hv=>?_) (fun cs C el vs x h1 eH hCv hv=>?_)
   ·have hb:c.bd i=c.nx i:=by
     rcases hh' with⟨_,h2⟩|⟨cs,h2,_⟩
     ·exact h2
     ·rw[h2]at h1
      have:=congrArg Hp.next h1
      exact absurd this (Nat.succ_ne_self _)
    exact sim G0 K s _ _ _ _ _ _ _ L (fin g w' x (fun _ _ m=>m) rfl rfl hw (.inl hb) (fun id y m=>.inl m) (fun j _ _ _ _ k=>by omega) (hv _ _))
   ·have hb:c.bd i=c.nx i+1:=by
     rcases hh' with⟨h2,_⟩|⟨cs',_,h2⟩
     ·rw[h2]at h1
      have:=congrArg Hp.next h1
      exact absurd this.symm (Nat.succ_ne_self _)
     ·exact h2
    have ac3:g.m (c.nx i)=none:=by
     cases hm:g.m (c.nx i)with
     |none=>rfl
     |some y=>
      rcases I.VH _ _ hm with h|⟨j,hj,hD,CA,hjb,hje⟩
      ·omega
      ·have:=c.ur I.run i Hr j hj fY CA hb hjb hje
       exact absurd (this▸hD) As
    have Ky: ∀ id y,g.m id=some y->(g.add (c.nx i) w.heap.size).m id=some y:=by
     intro id y m
     simp only[G.add]
     rw[if_neg (fun k=>by rw[k,ac3]at m;cases m)]
     exact m
    have VF:(g.add (c.nx i) w.heap.size).m (c.nx i)=some (w.heap.size,0):=by simp[G.add]
    have xl:(g.add (c.nx i) w.heap.size).to h.next=g.to h.next:=G.Me hnx
    have zD:(w.alloc (.cells C el)).heap[w.heap.size]? =some (.cells C el (0,0)):=by rw[pN,if_pos rfl]
    have s5:C.size<=dS (w.alloc (.cells C el)) w.heap.size:=by rw[sI];exact Nat.le_refl _
    rw[h1]at hF'
    refine sim G0 K s _ _ _ _ _ _ _ L (fin (g.add (c.nx i) w.heap.size) _ x Ky rfl xl (.inr ⟨_,rfl⟩) (.inr ⟨v,cs,w.heap.size,C,FT.nw C el,vs,hb,hF',VF,zD,?_,?_,I.st.ext.size,?_,hCv⟩)
     (fun id y m=>?_) (fun j hj FL CA hjb _ b m1 m2=>?_) (hv _ _ ?_ s5))
    ·intro k
     exact absurd (FO _ k) (Nat.lt_irrefl _)
    ·rw[xl]
     rintro⟨id,cs',s,e,m⟩
     obtain⟨_,_,_,hw,_⟩:=I.st.hr.row e m
     have:=(Array.getElem?_eq_some_iff.1 hw).1
     omega
    ·have hT:(g.add (c.nx i) w.heap.size).to (c.nx i)=g.to (c.nx i):=G.Me (Nat.le_refl _)
     rw[hT]
     exact bL.gg (tj (fun _ _ m=>m) rfl (by simp only[Go.Ab.G.to];exact FO)) _ _ eH
    ·by_cases jG:id=c.nx i
     ·exact .inr ⟨hb,jG⟩
     ·simp only[G.add,if_neg jG]at m
      exact .inl m
    ·rw[VF]at m1
     obtain⟨rfl,_⟩:=Prod.mk.inj (Option.some.inj m1)
     have jR:c.nx j≠c.nx i:=fun k=>As (c.ur I.run i Hr j hj fY CA hb hjb k.symm▸FL)
     simp only[G.add,if_neg jR]at m2
     rcases I.st.FK j hj FL CA with hp|⟨_,_,b,_,_,_,_,_,h3,h4,_⟩
     ·omega
     ·rw[m2]at h3
      obtain⟨rfl,_⟩:=Prod.mk.inj (Option.some.inj h3)
      have:=(Array.getElem?_eq_some_iff.1 h4).1
      omega
    ·show(Go.Ab.G.to _ _).m (c.nx i)=_
     simp only[Go.Ab.G.to]
     rw[if_pos (by omega)]
     exact VF
  |ch=>
   have fY:c.dD i .ch:=⟨o,ho,hk⟩
   have Hr:=(I.zw i fY).resolve_right As
   cases pl with
   |last pre g7=>cases Hr
   |cons pre g7 q rest=>
    have hq:i=q:=by
     rcases List.mem_cons.1 Hr with h|h
     ·exact h
     ·exact absurd (Bs q (I.stat.2.2.1 i h)) (I.Qg q List.mem_cons_self)
    subst hq
    obtain⟨_,h1,XH,_,v,h2,hF,hS,hR,hb,hle,kB⟩:=I.run
    have aiz:=c.qZ XH
    have S:=c.settle g7 h XH (fun j hj hc=>Bs j (I.stat.2.1 j hj hc)) I.st (fun j hj hc=>Nat.le_trans hle (c.th kB j hj hc))
    have T:=I.reads G0.nt hR As Bs (N:=h1.next) (Nat.le_refl _) aiz
    have e:lh c.P c.call c.nt c.ops.toList o (c.rf i) h1=.ok v h2:=by
     rw[<-wj ho];exact hF
    refine Bm G0.call ho S.hr T e fun g' w' x E H' hv=>?_
    obtain⟨G',hG'⟩: ∃ G':G,G'=⟨fun id=>if id<h2.next then g'.m id else g.m id,g'.fx⟩:=⟨_,rfl⟩
    have xl:G'.to h2.next=g':=by
     rw[hG']
     unfold Go.Ab.G.to
     cases g' with
     |mk m im=>
      simp only[G.mk.injEq,and_true]
      funext id
      by_cases jG:id<h2.next
      ·simp only[jG,if_true]
      ·simp only[jG,if_false]
       exact(H'.fresh id (by omega)).symm
    have M0:=E.mono S.hr.toHC
    have VJ: ∀ id y,g.m id=some y->h1.next<=id->h2.next<=id/\ ∃ j∈rest.g7,j∈D/\c.dD j .al/\c.bd j=c.nx j+1/\id=c.nx j:=by
     intro id y m jG
     rcases I.VH id y m with h|⟨j,hj,FL,CA,hjb,rfl⟩
     ·omega
     ·rcases List.mem_append.1 hj with hj|hj
      ·have:=(c.mN XH j hj CA).2 hjb
       omega
      ·exact⟨c.th kB j hj CA,j,hj,FL,CA,hjb,rfl⟩
    have hm: ∀ id y,g.m id=some y->G'.m id=some y:=by
     intro id y m
     rw[hG']
     show(if id<h2.next then g'.m id else g.m id)=some y
     by_cases jG:id<h2.next
     ·rw[if_pos jG]
      have:id<h1.next:=by
       refine Classical.byContradiction fun k=>?_
       have:=(VJ id y m (by omega)).1
       omega
      exact E.m id y (by simp only[Go.Ab.G.to];rw[if_pos this];exact m)
     ·rw[if_neg jG];exact m
    have Jg:G'.fx=g'.fx:=by rw[hG']
    have M: ∀ B B',B<=B'->ua (g.to B) w (G'.to B') w':=by
     intro B B' hB
     refine⟨?_,fun b k=>?_,fun b k=>?_,E.rows⟩
     ·intro id y k
      simp only[Go.Ab.G.to]at k ⊢
      by_cases jG:id<B
      ·rw[if_pos jG]at k
       rw[if_pos (by omega)]
       exact hm id y k
      ·rw[if_neg jG]at k;cases k
     ·show G'.fx b
      rw[Jg]
      exact E.fx b k
     ·exact E.so b (FO b k) (S.hr.my k)
    refine sim G0 K s (i::D) (i::jI) rest G' w' h2 (a.put o.dst x) L ?_
    have Hw: ∀ j∈rest.g7,j∈g7++rest.g7:=fun j hj=>List.mem_append_right _ hj
    have FM: ∀ j,c.dD j .al->j∈i::D->j∈D:=by
     intro j hj h
     refine(List.mem_cons.1 h).resolve_left fun e=>?_
     subst e
     cases c.ks fY hj
    exact
    {run:=kB
     stat:=I.stat.2.2.2
     closed:=hC
     zw:=fun j hj=>by
      rcases I.zw j hj with h|h
      ·rcases List.mem_cons.1 h with rfl|h
       ·exact .inr List.mem_cons_self
       ·exact .inl h
      ·exact .inr (List.mem_cons_of_mem _ h)
     Qg:=fun j hj h=>by
      rcases List.mem_cons.1 h with rfl|h
      ·
       exact absurd (Bs j (I.stat.2.2.1 j hj)) As
      ·exact I.Qg j (List.mem_cons_of_mem _ hj) h
     wh:=fun j hj=>by
      rcases List.mem_cons.1 hj with rfl|hj
      ·exact List.mem_cons_self
      ·exact List.mem_cons_of_mem _ (I.wh j hj)
     VG:=fun j hj=>by
      rcases I.VG j hj with h|h
      ·rcases List.mem_append.1 h with h|h
       ·exact .inr (List.mem_cons_of_mem _ (Bs j (I.stat.2.1 j h hj)))
       ·exact .inl h
      ·exact .inr (List.mem_cons_of_mem _ h)
     st:=⟨by rw[xl];exact H',by rw[xl];exact S.ext.trans E,fun j hj FL CA=>by
      rcases S.FK j hj (FM j CA FL) CA with p|⟨v,cs,b,C,el,vs,n8,Q8,h3,h4,h5,h6,h7,h8,h9⟩
      ·exact .inl p
      ·have gB:=(Array.getElem?_eq_some_iff.1 h4).1
       refine .inr ⟨v,cs,b,C,el,vs,n8,Q8,hm _ _ h3,by rw[E.so b gB h6];exact h4,?_,?_,h7,bL.gg (M _ _ (Nat.le_refl _)) _ _ h8,h9⟩
       ·rw[Jg]
        intro k
        rcases E.IM b k with k|k|k
        ·exact h5 k
        ·exact h6 k
        ·omega
       ·rw[xl]
        intro k
        rcases E.og b k with k|k
        ·exact h6 k
        ·omega,fun j hj k hk jD kD jc kc bj bk b mj mk=>by
      have e1: ∀ l∈rest.g7,l∈D->c.dD l .al->c.bd l=c.nx l+1->G'.m (c.nx l)=some (b,0)->g.m (c.nx l)=some (b,0):=by
       intro l hl lD lc lb ml
       have:=c.th kB l hl lc
       rw[hG']at ml
       simp only at ml
       rw[if_neg (by omega)]at ml
       exact ml
      exact I.st.Jm j (Hw j hj) k (Hw k hk) (FM j jc jD) (FM k kc kD) jc kc bj bk b (e1 j hj (FM j jc jD) jc bj mj) (e1 k hk (FM k kc kD) kc bk mk)⟩
     VH:=fun n y m=>by
      by_cases hn:n<h2.next
      ·exact .inl hn
      ·rw[hG']at m
       simp only at m
       rw[if_neg hn]at m
       obtain⟨_,j,hj,FL,r⟩:=VJ n y m (by omega)
       exact .inr ⟨j,hj,List.mem_cons_of_mem _ FL,r⟩
     q7:=vH G0 ho I.size I.q7 (fun j _=>M _ _ (by omega)) As (fun d hd=>⟨(hS d hd).1,v,(hS d hd).2,by
      have:max (c.bd i) h2.next=h2.next:=by omega
      rw[this,xl];exact hv⟩)
     free:=yf ho I.size I.free (M _ _ (by omega))
     size:=by rw[ye];exact I.size
     defers:=by rw[put_defers];exact I.defers}
end Cx
end Go.Ab

noncomputable section
namespace Go.Ab
variable [Io]
def Mf:Value->Value->Bool
 | .string a,.string b=>a.data.toList == b.data.toList
 | .pointer none,.pointer none=>true
 | .map none,.map none=>true
 | .nilFunc,.nilFunc=>true
 | .nilIface,.nilIface=>true
 | .slice none n c,.slice none n' c'=>Nat.beq n n'&&Nat.beq c c'
 | _,_=>false
mutual
def nh:AV->AV->Bool
 | .int k n,.int k' n'=>jA k k'&&eqI n n'
 | .bool a,.bool b=> !(xor a b)
 | .sc a,.sc b=>Mf a b
 | .agg a,.agg b=>jS a b
 | .wK a,.wK b=>jS a b
 | .ref i o,.ref i' o'=>Nat.beq i i'&&Nat.beq o o'
 | .ff i o n s,.ff i' o' n' s'=>Nat.beq i i'&&Nat.beq o o'&&Nat.beq n n'&&Nat.beq s s'
 | .lj n a,.lj m b=>Nat.beq n m&&jS a b
 | .jC a,.jC b=>jS a b
 | .fk,.fk=>true
 | .qk,.qk=>true
 | .fn f a,.fn f' b=>Nat.beq f f'&&jS a b
 | .sym k s lo hi o,.sym k' s' lo' vw o'=>jA k k'&&(Fg s s'&&(eqI lo lo'&&(eqI hi vw&&eqI o o')))
 | .any,.any=>true
 | _,_=>false
def jS:List AV->List AV->Bool
 | [],[]=>true
 |a::l,b::r=>nh a b&&jS l r
 | _,_=>false
end
omit [Io] in
theorem uu{a b:Int}(h:eqI a b=true):a=b:=by
 cases a<;>cases b<;>simp[eqI]at h<;>simp[h]
omit [Io] in
theorem Mg{a b:ByteArray}(h:(a.data.toList == b.data.toList)=true):a=b:=by
 cases a with
 |mk a=>cases b with
  |mk b=>
   congr 1
   exact Array.toList_inj.1 (by simpa using h)
omit [Io] in
theorem Mh{a b:Value}(h:Mf a b=true):a=b:=by
 unfold Mf at h
 split at h
 ·rw[Mg h]
 all_goals first|rfl|(cases h;done)|(rw[Bool.and_eq_true]at h;rw[Nat.eq_of_beq_eq_true h.1,Nat.eq_of_beq_eq_true h.2])
section
omit [Io]
mutual
theorem xm: ∀ (a b:AV),nh a b=true->a=b
 | .int k n,b,h=>by cases b<;>simp only[nh,Bool.and_eq_true]at h<;>try cases h
                    rename_i h1 h2
                    rw[eQ.1 h1,uu h2]
 | .bool x,b,h=>by cases b<;>simp only[nh]at h<;>try cases h
                   rename_i y
                   cases x<;>cases y<;>first|rfl|cases h
 | .sc x,b,h=>by cases b<;>simp only[nh]at h<;>try cases h
                 rw[Mh h]
 | .agg x,b,h=>by cases b<;>simp only[nh]at h<;>try cases h
                  rw[jo _ _ h]
 | .wK x,b,h=>by cases b<;>simp only[nh]at h<;>try cases h
                 rw[jo _ _ h]
 | .ref i o,b,h=>by cases b<;>simp only[nh,Bool.and_eq_true,Nat.beq_eq]at h<;>try cases h
                    rename_i h1 h2
                    rw[h1,h2]
 | .ff i o n s,b,h=>by cases b<;>simp only[nh,Bool.and_eq_true,Nat.beq_eq]at h<;>try (cases h;done)
                       obtain⟨⟨⟨h1,h2⟩,h3⟩,h4⟩:=h
                       rw[h1,h2,h3,h4]
 | .lj n x,b,h=>by cases b<;>simp only[nh,Bool.and_eq_true,Nat.beq_eq]at h<;>try cases h
                   rename_i h1 h2
                   rw[h1,jo _ _ h2]
 | .jC x,b,h=>by cases b<;>simp only[nh]at h<;>try cases h
                 rw[jo _ _ h]
 | .fk,b,h=>by cases b<;>simp only[nh]at h<;>first|rfl|cases h
 | .qk,b,h=>by cases b<;>simp only[nh]at h<;>first|rfl|cases h
 | .any,b,h=>by cases b<;>simp only[nh]at h<;>first|rfl|cases h
 | .sym k s lo hi o,b,h=>by cases b<;>simp only[nh,Bool.and_eq_true]at h<;>try (cases h;done)
                            obtain⟨h1,h2,h3,h4,h5⟩:=h
                            rw[eQ.1 h1,Lr h2,uu h3,uu h4,uu h5]
 | .fn f x,b,h=>by cases b<;>simp only[nh,Bool.and_eq_true,Nat.beq_eq]at h<;>try cases h
                   rename_i h1 h2
                   rw[h1,jo _ _ h2]
theorem jo: ∀ (a b:List AV),jS a b=true->a=b
 | [],b,h=>by cases b with
  |nil=>rfl
  |cons _ _=>simp[jS]at h
 |a::l,b,h=>by
  cases b with
  |nil=>simp[jS]at h
  |cons c r=>
   simp only[jS,Bool.and_eq_true]at h
   rw[xm _ _ h.1,jo _ _ h.2]
end
end
def ck(s:eN)(f:eG)(k:ng):ng:=fun t h=>Ro.rec Rt.bad (fun v _=>Option.rec Rt.bad (fun u=>Bool.rec Rt.bad (k t h) (nh u v)) (s t)) (f t h)
def mn(f:eG):eG:=fun t h=>Ro.rec Ro.bad (fun v h'=>Bool.rec Ro.bad (Ro.ok v h') (Nat.ble h.next h'.next)) (f t h)
def ac5:Cl->Cl->Bool
 | .p0,.p0| .p1,.p1| .al,.al| .ch,.ch=>true
 | _,_=>false
omit [Io] in
theorem Mi{a b:Cl}(h:ac5 a b=true):a=b:=by cases a<;>cases b<;>first|rfl|cases h
def kC(i:Nat)(l:List Nat):Bool:=List.rec false (fun a _ ih=>Bool.rec ih true (Nat.beq a i)) l
omit [Io] in
theorem kP{i:Nat}: ∀ {l:List Nat},kC i l=true↔i∈l
 | []=>by simp[kC]
 |a::l=>by
  show(Bool.rec (kC i l) true (Nat.beq a i):Bool)=true↔_
  cases h:Nat.beq a i with
  |true=>
   have:=Nat.eq_of_beq_eq_true h
   subst this
   simp
  |false=>
   have: ¬ i=a:=fun e=>by subst e;simp at h
   simp only[List.mem_cons,this,false_or]
   exact kP
def FP(p:Nat->Bool)(l:List Nat):Bool:=List.rec false (fun a _ ih=>Bool.rec ih true (p a)) l
omit [Io] in
theorem uv{p:Nat->Bool}: ∀ {l:List Nat},FP p l=true↔ ∃ i∈l,p i=true
 | []=>by simp[FP]
 |a::l=>by
  show(Bool.rec (FP p l) true (p a):Bool)=true↔_
  cases h:p a with
  |true=>simp[h]
  |false=>simp only[List.mem_cons,exists_eq_or_imp,h,Bool.false_eq_true,false_or];exact uv
def allI(p:Nat->Oper->Bool)(l:List Oper):Nat->Bool:=
 List.rec (fun _=>true) (fun o _ ih i=>Bool.rec false (ih (Nat.add i 1)) (p i o)) l
omit [Io] in
theorem At{p:Nat->Oper->Bool}: ∀ {l:List Oper} {k:Nat},allI p l k=true-> ∀ i o,l[i]? =some o->p (k+i) o=true
 | [],k,_,i,o,h=>by simp at h
 |a::l,k,hh,i,o,h=>by
  change (Bool.rec false (allI p l (k+1)) (p k a):Bool)=true at hh
  cases hp:p k a with
  |false=>rw[hp]at hh;cases hh
  |true=>
   rw[hp]at hh
   cases i with
   |zero=>simp at h;subst h;exact hp
   |succ i=>
    have:=At hh i o (by simpa using h)
    rwa [show k+1+i=k+(i+1) by omega]at this
omit [Io] in
theorem kQ{p:Nat->Oper->Bool}{l:List Oper}(h:allI p l 0=true)(i:Nat)(o:Oper)(ho:l[i]? =some o):p i o=true:=by
 have:=At h i o ho
 simpa using this
def Hx(l:List Oper):Bool:=allI (fun i o=>cu (fun e=>Bool.rec true (Nat.blt e.on i) (Region.binds .any e)) o.after.toList) l 0
omit [Io] in
theorem RM{ops:Array Oper}(h:Hx ops.toList=true):Down ops:=by
 intro i o e ho he hb
 have:=kQ h i o (by simpa using ho)
 rw[g5,List.all_eq_true]at this
 have:=this e (by simpa using he)
 rw[hb]at this
 exact bO.1 this
def Au(o:Oper)(d:Nat):Bool:=match o.dst with
 |some e=>Nat.beq e d
 |none=>false
omit [Io] in
theorem vI{o:Oper}{d:Nat}(h:o.dst=some d):Au o d=true:=by unfold Au;rw[h];simp
def RO(l:List Oper):Bool:=allI (fun i o=>match o.dst with
 |some d=>allI (fun j o'=>Bool.rec true (Nat.beq i j) (Au o' d)) l 0
 |none=>true) l 0
section
variable (P:Program)(call:cZ)(nt:Nat)(L:List Oper)
def uw(k:Cl)(i:Nat):Bool:=match lr L i with
 |some o=>ac5 (pG P call o.op).1 k
 |none=>false
def E8(bZ:List Nat)(i:Nat):Bool:=match lr L i with
 |some o=>cu (fun u=>Nat.blt u nt&&Bool.rec (allI (fun j o'=>Bool.rec true (!kC j bZ&&(FH L j i&& !FH L i j)) (Au o' u)) L 0) true (allI (fun j o'=>Bool.rec true (kC j bZ&&FH L i j) (Au o' u)) L 0)) (rU L o)
 |none=>false
def RP(i:Nat)(k:ng):ng:=match lr L i with
 |some o=>match o.dst with
  |some d=>il (Nat.blt d nt) (st (sT d) (lh P call nt L o) k) (fun _ _=>.bad)
  |none=>sn (lh P call nt L o) k
 |none=>fun _ _=>.bad
def XI(i:Nat)(k:ng):ng:=match lr L i with
 |some o=>match o.dst with
  |some d=>il (Nat.blt d nt) (ck (oT d) (lh P call nt L o) k) (fun _ _=>.bad)
  |none=>sn (lh P call nt L o) k
 |none=>fun _ _=>.bad
def runM(i:Nat)(k:ng):ng:=match lr L i with
 |some o=>match o.dst with
  |some d=>il (Nat.blt d nt) (st (sT d) (mn (lh P call nt L o)) k) (fun _ _=>.bad)
  |none=>sn (mn (lh P call nt L o)) k
 |none=>fun _ _=>.bad
def nS:List Nat->List Nat->(List Nat->ng)->ng
 | [],bZ,k=>k bZ
 |i::l,bZ,k=>il (E8 nt L bZ i) (il (kC i bZ) (il (uw P call L .p1 i) (XI P call nt L i (nS l bZ k)) (fun _ _=>.bad))
  (il (uw P call L .p0 i||uw P call L .p1 i) (RP P call nt L i (nS l (i::bZ) k)) (fun _ _=>.bad))) (fun _ _=>.bad)
def FQ:List Nat->List Nat->(List Nat->ng)->ng
 | [],bZ,k=>k bZ
 |i::l,bZ,k=>il (E8 nt L bZ i&&(!kC i bZ&&(uw P call L .p0 i||uw P call L .al i))) (RP P call nt L i (FQ l (i::bZ) k)) (fun _ _=>.bad)
def oz:lU->List Nat->ng
 | .last pre g7,bZ=>nS P call nt L pre bZ fun bZ=>FQ P call nt L g7 bZ fun bZ=>il (allI (fun i _=>kC i bZ) L 0) fi (fun _ _=>.bad)
 | .cons pre g7 q rest,bZ=>nS P call nt L pre bZ fun bZ=>FQ P call nt L g7 bZ fun bZ=>
   il (E8 nt L bZ q&&(!kC q bZ&&uw P call L .ch q)) (runM P call nt L q (oz rest (q::bZ))) (fun _ _=>.bad)
def Av:lU->List Nat->Bool
 | .last pre _,jI=>allI (fun i _=>Bool.rec true (FP (fun j=>FH L j i) jI||kC i pre) (uw P call L .p1 i)) L 0
 | .cons pre g7 q rest,jI=>allI (fun i _=>Bool.rec true (FP (fun j=>FH L j i) jI||(FP (fun j=>FH L i j) (q::rest.zw)||kC i pre)) (uw P call L .p1 i)) L 0&&
   (cu (fun i=>Bool.rec true (FH L q i) (uw P call L .al i)) g7&&(cu (fun q'=>FH L q' q) rest.zw&&Av rest (q::jI)))
end
end Go.Ab

noncomputable section
namespace Go.Ab
variable [Io]
section
variable {P:Program}{call:cZ}
def KC(f:eG):Prop:= ∀ t h v h',f t h=.ok v h'->h'=h
omit [Io] in
theorem Bt{b:Bool}{x:Ro}{v:AV}{h:Hp}(e:(bif b then x else .bad)=.ok v h):x=.ok v h:=by cases b;cases e;exact e
omit [Io] in
theorem mO:KC bP:=by intro t h v h' e;cases e
omit [Io] in
theorem Mj{c:Bool}{f:eG}(i:KC f):KC (il c f bP):=by cases c;exact mO;exact i
omit [Io] in
theorem RQ{n:Nat}{b:Bool}{x:eN}:KC (bh n b x):=by
 intro t h v h' e
 unfold bh at e
 split at e
 ·split at e
  ·cases e;rfl
  ·cases e
 ·cases e
omit [Io] in
theorem Jq{x:eN}{lo hi:Option eN}:KC (dk x lo hi):=by
 intro t h v h' e
 unfold dk at e
 split at e
 ·split at e
  ·cases e;rfl
  ·cases e
 ·cases e
omit [Io] in
theorem Mk{n:Nat}{x:eN}{lo hi:Option eN}:KC (nO n x lo hi):=by
 intro t h v h' e
 unfold nO at e
 split at e
 ·split at e
  ·cases e;rfl
  ·cases e
 ·split at e
  ·have e:=Bt e
   cases e;rfl
  ·cases e
 ·split at e
  ·cases e;rfl
  ·cases e
 ·cases e
omit [Io] in
theorem Jr{n:Nat}{x:eN}{lo hi:Option eN}:KC (dg n x lo hi):=by
 intro t h v h' e
 unfold dg at e
 split at e
 ·rename_i a hx
  cases hE:sX a with
  |false=>rw[hE]at e;exact Mk _ _ _ _ e
  |true=>
   rw[hE]at e
   simp only[cond_true]at e
   split at e
   ·cases e;rfl
   ·cases e
 ·cases e
omit [Io] in
theorem Js{n m:Nat}{x:eN}{lo hi:Option eN}:KC (fX n m x lo hi):=by
 intro t h v h' e
 unfold fX at e
 split at e
 ·split at e
  ·split at e
   ·have e:=Bt e
    cases e;rfl
   ·cases e
  ·cases e
 ·cases e
omit [Io] in
theorem XJ{x y z:eN}:KC (xG x y z):=by
 intro t h v h' e
 unfold xG at e
 split at e
 ·split at e
  ·have e:=Bt e
   split at e
   ·cases e;rfl
   ·cases e;rfl
   ·cases e;rfl
   ·cases e
  ·cases e
 ·cases e
omit [Io] in
theorem XK{o:Op}(hc:(pG P call o).1=.p1):KC (pG P call o).2:=by
 cases o<;>simp only[pG]at hc ⊢
 case load T x=>
  unfold C4
  split
  ·split
   ·exact RQ
   ·exact mO
  ·exact mO
 case slice T x lo hi mx=>
  cases mx with
  |some m=>
   simp only
   unfold uj
   split
   ·split
    ·split
     ·exact XJ
     ·exact mO
    ·exact mO
   ·exact mO
  |none=>
   simp only
   unfold xW
   split
   ·exact Jq
   ·split
    ·exact Jr
    ·exact mO
   ·split
    ·exact Mj Js
    ·exact mO
   ·exact mO
 case binOp op T x y yT=>cases h:C3 P op T<;>rw[h]at hc<;>cases hc
 case unOp op T x=>cases h:XA op<;>rw[h]at hc<;>cases hc
 case convert S D x=>
  cases h:P.underlying D with
  |none=>rw[h]at hc;cases hc
  |some d=>cases d<;>rw[h]at hc<;>cases hc
 case makeFunc f first caps=>
  cases f<;>try (cases hc;done)
  simp only at hc
  cases h:first.toList<;>rw[h]at hc<;>cases hc
 case makeMap T r=>cases r<;>cases hc
 case call c=>cases h:jm P c<;>rw[h]at hc<;>cases hc
 all_goals (cases hc)
omit [Io] in
theorem Ml{nt:Nat}{all:List Oper}{o:Oper}(fY:(pG P call o.op).1=.p1):KC (lh P call nt all o):=by
 have hf:KC (pG P call o.op).2:=XK fY
 unfold lh
 cases o.guard with
 |none=>exact hf
 |some p=>
  obtain⟨j,want⟩:=p
  simp only
  split
  ·split
   ·refine Mj ?_
    intro t h v h' e
    unfold gF at e
    split at e
    ·rename_i b _
     cases hw:il want b (!b)with
     |false=>rw[hw]at e;cases e;rfl
     |true=>rw[hw]at e;exact hf t h v h' e
    ·cases e;rfl
    ·cases e
   ·exact mO
  ·exact mO
end
omit [Io] in
theorem oA{b x:Bool}(h:(Bool.rec true x b:Bool)=true)(hb:b=true):x=true:=by subst hb;exact h
namespace Cx
variable {c:Cx}
omit [Io] in
theorem kI{k:Cl}{i:Nat}:uw c.P c.call c.ops.toList k i=true↔c.dD i k:=by
 unfold uw dD
 rw[gH]
 constructor
 ·intro h
  split at h
  ·rename_i o ho
   exact⟨o,by simpa using ho,Mi h⟩
  ·cases h
 ·rintro⟨o,ho,hk⟩
  have:c.ops.toList[i]? =some o:=by simpa using ho
  rw[this,<-hk]
  simp only
  cases(pG c.P c.call o.op).1<;>rfl
omit [Io] in
theorem yg{bZ:List Nat}{i:Nat}(h:E8 c.nt c.ops.toList bZ i=true): ∀ u∈c.Qf i,u<c.nt/\((∀ j,c.mA j u->j∈bZ/\c.An i j)∨ ∀ j,c.mA j u->j∉bZ/\c.An j i/\ ¬ c.An i j):=by
 unfold E8 at h
 rw[gH]at h
 unfold Qf
 intro u hu
 cases ho:c.ops[i]? with
 |none=>rw[ho]at hu;cases hu
 |some o=>
  rw[ho]at hu
  have:c.ops.toList[i]? =some o:=by simpa using ho
  rw[this]at h
  simp only[g5,List.all_eq_true]at h
  have:=h u hu
  rw[Bool.and_eq_true]at this
  refine⟨bO.1 this.1,?_⟩
  cases h1:allI (fun j o'=>Bool.rec true (kC j bZ&&FH c.ops.toList i j) (Au o' u)) c.ops.toList 0 with
  |true=>
   refine .inl ?_
   rintro j ⟨oj,hoj,hd⟩
   have h2:=oA (kQ h1 j oj (by simpa using hoj)) (vI hd)
   rw[Bool.and_eq_true,kP]at h2
   exact h2
  |false=>
   rw[h1]at this
   refine .inr ?_
   rintro j ⟨oj,hoj,hd⟩
   have h2:=oA (kQ this.2 j oj (by simpa using hoj)) (vI hd)
   simp only[Bool.and_eq_true,Bool.not_eq_true']at h2
   refine⟨fun k=>?_,h2.2.1,fun k=>?_⟩
   ·rw[kP.2 k]at h2;cases h2.1
   ·unfold An at k;rw[k]at h2;cases h2.2.2
def Cov(c:Cx)(bZ:List Nat)(u:Nat):Prop:= ∀ j,c.mA j u->j∈bZ
def VK(c:Cx)(bZ:List Nat)(t:Tm):Prop:= ∀ u,u<512->(∀ j,c.mA j u->j∉bZ)->t.at u=c.t0.at u
def Fr(c:Cx)(bZ:List Nat)(t:Tm):Prop:= ∀ u,u<512->c.Cov bZ u->c.te.at u=t.at u
omit [Io] in
theorem ux{i:Nat}{k:ng}{t:Tm}{h:Hp}{te:Tm}{hE:Hp}(e:RP c.P c.call c.nt c.ops.toList i k t h=.ok te hE):
 ∃ o v h1 t1,c.ops[i]? =some o/\lh c.P c.call c.nt c.ops.toList o t h=.ok v h1/\k t1 h1=.ok te hE/\((∃ d,o.dst=some d/\d<c.nt/\t1=sT d v t)∨(o.dst=none/\t1=t)):=by
 unfold RP at e
 rw[gH]at e
 cases ho:c.ops.toList[i]? with
 |none=>rw[ho]at e;cases e
 |some o=>
  rw[ho]at e
  simp only at e
  have mB:c.ops[i]? =some o:=by simpa using ho
  cases hd:o.dst with
  |none=>
   rw[hd]at e
   change sn (lh c.P c.call c.nt c.ops.toList o) k t h=_ at e
   unfold sn at e
   cases hg:lh c.P c.call c.nt c.ops.toList o t h with
   |bad=>rw[hg]at e;cases e
   |ok v h1=>rw[hg]at e;exact⟨o,v,h1,t,mB,hg,e,.inr ⟨hd,rfl⟩⟩
  |some d=>
   rw[hd]at e
   simp only at e
   cases hb:Nat.blt d c.nt with
   |false=>rw[hb]at e;cases e
   |true=>
    rw[hb]at e
    change st (sT d) (lh c.P c.call c.nt c.ops.toList o) k t h=_ at e
    unfold st at e
    cases hg:lh c.P c.call c.nt c.ops.toList o t h with
    |bad=>rw[hg]at e;cases e
    |ok v h1=>rw[hg]at e;exact⟨o,v,h1,_,mB,hg,e,.inl ⟨d,hd,bO.1 hb,rfl⟩⟩
omit [Io] in
theorem Hy{f:eG}{t:Tm}{h h':Hp}{v:AV}(e:mn f t h=.ok v h'):f t h=.ok v h'/\h.next<=h'.next:=by
 unfold mn at e
 cases hf:f t h with
 |bad=>rw[hf]at e;cases e
 |ok v1 h1=>
  rw[hf]at e
  change (Bool.rec Ro.bad (Ro.ok v1 h1) (Nat.ble h.next h1.next):Ro)=_ at e
  cases hb:Nat.ble h.next h1.next with
  |false=>rw[hb]at e;cases e
  |true=>rw[hb]at e;cases e;exact⟨rfl,Nat.ble_eq.mp hb⟩
omit [Io] in
theorem Dg{i:Nat}{k:ng}{t:Tm}{h:Hp}{te:Tm}{hE:Hp}(e:runM c.P c.call c.nt c.ops.toList i k t h=.ok te hE):
 ∃ o v h1 t1,c.ops[i]? =some o/\lh c.P c.call c.nt c.ops.toList o t h=.ok v h1/\h.next<=h1.next/\k t1 h1=.ok te hE/\((∃ d,o.dst=some d/\d<c.nt/\t1=sT d v t)∨(o.dst=none/\t1=t)):=by
 unfold runM at e
 rw[gH]at e
 cases ho:c.ops.toList[i]? with
 |none=>rw[ho]at e;cases e
 |some o=>
  rw[ho]at e
  simp only at e
  have mB:c.ops[i]? =some o:=by simpa using ho
  cases hd:o.dst with
  |none=>
   rw[hd]at e
   change sn (mn (lh c.P c.call c.nt c.ops.toList o)) k t h=_ at e
   unfold sn at e
   cases hg:mn (lh c.P c.call c.nt c.ops.toList o) t h with
   |bad=>rw[hg]at e;cases e
   |ok v h1=>rw[hg]at e;exact⟨o,v,h1,t,mB,(Hy hg).1,(Hy hg).2,e,.inr ⟨hd,rfl⟩⟩
  |some d=>
   rw[hd]at e
   simp only at e
   cases hb:Nat.blt d c.nt with
   |false=>rw[hb]at e;cases e
   |true=>
    rw[hb]at e
    change st (sT d) (mn (lh c.P c.call c.nt c.ops.toList o)) k t h=_ at e
    unfold st at e
    cases hg:mn (lh c.P c.call c.nt c.ops.toList o) t h with
    |bad=>rw[hg]at e;cases e
    |ok v h1=>rw[hg]at e;exact⟨o,v,h1,_,mB,(Hy hg).1,(Hy hg).2,e,.inl ⟨d,hd,bO.1 hb,rfl⟩⟩
omit [Io] in
theorem Dh{i:Nat}{k:ng}{t:Tm}{h:Hp}{te:Tm}{hE:Hp}(hc:c.dD i .p1)(e:XI c.P c.call c.nt c.ops.toList i k t h=.ok te hE):
 ∃ o v,c.ops[i]? =some o/\lh c.P c.call c.nt c.ops.toList o t h=.ok v h/\k t h=.ok te hE/\ ∀ d,o.dst=some d->d<c.nt/\t.at d=some v:=by
 unfold XI at e
 rw[gH]at e
 cases ho:c.ops.toList[i]? with
 |none=>rw[ho]at e;cases e
 |some o=>
  rw[ho]at e
  simp only at e
  have mB:c.ops[i]? =some o:=by simpa using ho
  have hlv: ∀ v h1,lh c.P c.call c.nt c.ops.toList o t h=.ok v h1->h1=h:=by
   intro v h1 hg
   obtain⟨o',n8,Q8⟩:=hc
   rw[mB]at n8
   cases n8
   exact Ml Q8 _ _ _ _ hg
  cases hd:o.dst with
  |none=>
   rw[hd]at e
   change sn (lh c.P c.call c.nt c.ops.toList o) k t h=_ at e
   unfold sn at e
   cases hg:lh c.P c.call c.nt c.ops.toList o t h with
   |bad=>rw[hg]at e;cases e
   |ok v h1=>
    rw[hg]at e
    obtain rfl:=hlv v h1 hg
    exact⟨o,v,mB,hg,e,fun d h=>by rw[hd]at h;cases h⟩
  |some d=>
   rw[hd]at e
   simp only at e
   cases hb:Nat.blt d c.nt with
   |false=>rw[hb]at e;cases e
   |true=>
    rw[hb]at e
    change ck (oT d) (lh c.P c.call c.nt c.ops.toList o) k t h=_ at e
    unfold ck at e
    cases hg:lh c.P c.call c.nt c.ops.toList o t h with
    |bad=>rw[hg]at e;cases e
    |ok v h1=>
     rw[hg]at e
     obtain rfl:=hlv v h1 hg
     change (Option.rec Rt.bad (fun u=>Bool.rec Rt.bad (k t h1) (nh u v)) (t.at d):Rt)=_ at e
     cases ht:t.at d with
     |none=>rw[ht]at e;cases e
     |some u=>
      rw[ht]at e
      change (Bool.rec Rt.bad (k t h1) (nh u v):Rt)=_ at e
      cases hq:nh u v with
      |false=>rw[hq]at e;cases e
      |true=>
       rw[hq]at e
       obtain rfl:=xm _ _ hq
       exact⟨o,u,mB,hg,e,fun d' h=>by rw[hd]at h;cases h;exact⟨bO.1 hb,ht⟩⟩
omit [Io] in
theorem uy{bZ:List Nat}{i:Nat}{o:Oper}{t t1:Tm}{v:AV}(jB:c.nt<=512)(ho:c.ops[i]? =some o)(hi:i∉bZ)
 (ht:(∃ d,o.dst=some d/\d<c.nt/\t1=sT d v t)∨(o.dst=none/\t1=t))(F:c.Fr (i::bZ) t1):c.Fr bZ t:=by
 intro u hu hc
 rw[F u hu (fun j hj=>List.mem_cons_of_mem _ (hc j hj))]
 rcases ht with⟨d,hd,KA,rfl⟩|⟨_,rfl⟩
 ·show(Tm.put t d (some v)).at u=t.at u
  rw[Tm.jF _ _ _ _ (Nat.lt_of_lt_of_le KA jB) hu,if_neg]
  intro e
  subst e
  exact hi (hc i ⟨o,ho,hd⟩)
 ·rfl
omit [Io] in
theorem oB{i:Nat}{l:List Nat}(h:kC i l=false):i∉l:=fun k=>by rw[kP.2 k]at h;cases h
omit [Io] in
theorem rV(jB:c.nt<=512){k:List Nat->ng}(hk: ∀ bZ t h,k bZ t h=.ok c.te c.hE->c.Fr bZ t): ∀ (pre bZ:List Nat) (t:Tm) (h:Hp),
 nS c.P c.call c.nt c.ops.toList pre bZ k t h=.ok c.te c.hE->c.Fr bZ t
 | [],bZ,t,h,e=>hk bZ t h e
 |i::l,bZ,t,h,e=>by
  unfold nS at e
  cases h1:E8 c.nt c.ops.toList bZ i with
  |false=>rw[h1]at e;cases e
  |true=>
  rw[h1]at e
  simp only[il]at e
  cases h2:kC i bZ with
  |true=>
   rw[h2]at e
   cases h3:uw c.P c.call c.ops.toList .p1 i with
   |false=>rw[h3]at e;cases e
   |true=>
    rw[h3]at e
    obtain⟨o,v,_,_,e,_⟩:=Dh (kI.1 h3) e
    exact rV jB hk l bZ t h e
  |false=>
   rw[h2]at e
   cases h3:(uw c.P c.call c.ops.toList .p0 i||uw c.P c.call c.ops.toList .p1 i)with
   |false=>rw[h3]at e;cases e
   |true=>
    rw[h3]at e
    obtain⟨o,v,n8,t1,ho,_,e,ht⟩:=ux e
    exact uy jB ho (oB h2) ht (rV jB hk l (i::bZ) t1 n8 e)
omit [Io] in
theorem pO(jB:c.nt<=512){k:List Nat->ng}(hk: ∀ bZ t h,k bZ t h=.ok c.te c.hE->c.Fr bZ t): ∀ (g7 bZ:List Nat) (t:Tm) (h:Hp),
 FQ c.P c.call c.nt c.ops.toList g7 bZ k t h=.ok c.te c.hE->c.Fr bZ t
 | [],bZ,t,h,e=>hk bZ t h e
 |i::l,bZ,t,h,e=>by
  unfold FQ at e
  cases h1:(E8 c.nt c.ops.toList bZ i&&(!kC i bZ&&(uw c.P c.call c.ops.toList .p0 i||uw c.P c.call c.ops.toList .al i)))with
  |false=>rw[h1]at e;cases e
  |true=>
   rw[h1]at e
   simp only[il]at e
   simp only[Bool.and_eq_true,Bool.not_eq_true']at h1
   obtain⟨o,v,n8,t1,ho,_,e,ht⟩:=ux e
   exact uy jB ho (oB h1.2.1) ht (pO jB hk l (i::bZ) t1 n8 e)
omit [Io] in
theorem uz(jB:c.nt<=512): ∀ (pl:lU) (bZ:List Nat) (t:Tm) (h:Hp),oz c.P c.call c.nt c.ops.toList pl bZ t h=.ok c.te c.hE->c.Fr bZ t
 | .last pre g7,bZ,t,h,e=>by
  unfold oz at e
  refine rV jB (fun bZ t h e=>?_) pre bZ t h e
  refine pO jB (fun bZ t h e=>?_) g7 bZ t h e
  cases hb:allI (fun i _=>kC i bZ) c.ops.toList 0 with
  |false=>rw[hb]at e;cases e
  |true=>
   rw[hb]at e
   obtain⟨rfl,_⟩:=Rt.ok.inj e
   exact fun u _ _=>rfl
 | .cons pre g7 q rest,bZ,t,h,e=>by
  unfold oz at e
  refine rV jB (fun bZ t h e=>?_) pre bZ t h e
  refine pO jB (fun bZ t h e=>?_) g7 bZ t h e
  cases h1:(E8 c.nt c.ops.toList bZ q&&(!kC q bZ&&uw c.P c.call c.ops.toList .ch q))with
  |false=>rw[h1]at e;cases e
  |true=>
   rw[h1]at e
   simp only[il]at e
   simp only[Bool.and_eq_true,Bool.not_eq_true']at h1
   obtain⟨o,v,n8,t1,ho,_,_,e,ht⟩:=Dg e
   exact uy jB ho (oB h1.2.1) ht (uz jB rest (q::bZ) t1 n8 e)
omit [Io] in
theorem yh{bZ:List Nat}{i:Nat}{o:Oper}{t t1:Tm}{v:AV}(jB:c.nt<=512)(ho:c.ops[i]? =some o)
 (ht:(∃ d,o.dst=some d/\d<c.nt/\t1=sT d v t)∨(o.dst=none/\t1=t))(F:c.VK bZ t):c.VK (i::bZ) t1:=by
 intro u hu hc
 rw[<-F u hu (fun j hj k=>hc j hj (List.mem_cons_of_mem _ k))]
 rcases ht with⟨d,hd,KA,rfl⟩|⟨_,rfl⟩
 ·show(Tm.put t d (some v)).at u=t.at u
  rw[Tm.jF _ _ _ _ (Nat.lt_of_lt_of_le KA jB) hu,if_neg]
  intro e
  subst e
  exact hc i ⟨o,ho,hd⟩ List.mem_cons_self
 ·rfl
omit [Io] in
theorem ac6{i u:Nat}(gB: ∀ u∈c.Qf i,u<512)(hu:u∈c.Qf i):((∃ j,c.mA j u/\c.An i j)/\(c.rf i).at u=c.te.at u)∨((¬ ∃ j,c.mA j u/\c.An i j)/\(c.rf i).at u=c.t0.at u):=by
 have key: ∀ (l:List Nat),(∀ u∈l,u<512)->u∈l->((∃ j,c.mA j u/\c.An i j)/\(c.KB i l).at u=c.te.at u)∨((¬ ∃ j,c.mA j u/\c.An i j)/\(c.KB i l).at u=c.t0.at u):=by
  intro l
  induction l with
  |nil=>intro _ h;cases h
  |cons x l ih=>
   intro hl hm
   rw[KB,Tm.jF _ _ _ _ (hl x List.mem_cons_self) (hl u hm)]
   by_cases hx:u=x
   ·subst hx
    rw[if_pos rfl]
    by_cases hw: ∃ j,c.mA j u/\c.An i j
    ·rw[if_pos hw];exact .inl ⟨hw,rfl⟩
    ·rw[if_neg hw];exact .inr ⟨hw,rfl⟩
   ·rw[if_neg hx]
    exact ih (fun y hy=>hl y (List.mem_cons_of_mem _ hy)) ((List.mem_cons.1 hm).resolve_left hx)
 exact key _ gB hu
omit [Io] in
theorem Di{bZ:List Nat}{i:Nat}{o:Oper}{t:Tm}{h h1:Hp}{v:AV}(jB:c.nt<=512)(hJ: ∀ u,u<512->(∀ j,¬ c.mA j u)->c.te.at u=c.t0.at u)(F:c.Fr bZ t)(hO:c.VK bZ t)(ho:c.ops[i]? =some o)(hr:E8 c.nt c.ops.toList bZ i=true)
 (e:lh c.P c.call c.nt c.ops.toList o t h=.ok v h1):c.FE i (c.rf i) h=.ok v h1:=by
 rw[wj ho,<-e]
 refine RD fun u hu=>?_
 rw[<-XE ho]at hu
 have gB: ∀ u∈c.Qf i,u<512:=fun u hu=>Nat.lt_of_lt_of_le (yg hr u hu).1 jB
 obtain⟨_,Qe⟩:=yg hr u hu
 rcases ac6 gB hu with⟨⟨j,hj,hA⟩,er⟩|⟨hno,er⟩
 ·rw[er]
  rcases Qe with h1|h1
  ·exact F u (gB u hu) (fun j hj=>(h1 j hj).1)
  ·exact absurd hA (h1 j hj).2.2
 ·rw[er]
  rcases Qe with h1|h1
  ·have hn: ∀ j,¬ c.mA j u:=fun j hj=>hno ⟨j,hj,(h1 j hj).2⟩
   rw[<-hJ u (gB u hu) hn]
   exact F u (gB u hu) (fun j hj=>absurd hj (hn j))
  ·exact(hO u (gB u hu) (fun j hj=>(h1 j hj).1)).symm
omit [Io] in
theorem vJ{bZ:List Nat}{i:Nat}{o:Oper}{t t1:Tm}{v:AV}(jB:c.nt<=512)(CB: ∀ i j d,c.mA i d->c.mA j d->i=j)(ho:c.ops[i]? =some o)
 (ht:(∃ d,o.dst=some d/\d<c.nt/\t1=sT d v t)∨(o.dst=none/\t1=t))(F:c.Fr (i::bZ) t1):c.Slot i v:=by
 intro d hd
 obtain⟨o',mB,Jo⟩:=id hd
 rw[ho]at mB
 cases mB
 rcases ht with⟨d2,zu,KA,rfl⟩|⟨hn,_⟩
 ·rw[Jo]at zu
  cases zu
  refine⟨KA,?_⟩
  rw[F d (Nat.lt_of_lt_of_le KA jB) (fun j hj=>by rw[CB j i d hj hd];exact List.mem_cons_self)]
  show(Tm.put t d (some v)).at d=_
  rw[Tm.jF _ _ _ _ (Nat.lt_of_lt_of_le KA jB) (Nat.lt_of_lt_of_le KA jB),if_pos rfl]
 ·rw[Jo]at hn;cases hn
end Cx
end Go.Ab

noncomputable section
namespace Go.Ab
variable [Io]
namespace Cx
def wi(c:Cx)(nx bd:Nat->Nat):Cx:={c with nx:=nx,bd:=bd}
def GI(c:Cx)(i:Nat):Prop:=
 (c.dD i .p0-> ∃ v,(∀ h,c.FE i (c.rf i) h=.ok v h)/\c.Slot i v/\c.pL i (c.bd i))/\
 (c.dD i .al-> ∃ v,c.Slot i v/\c.pL i (c.nx i)/\((c.FE i (c.rf i) (fQ (c.nx i))=.ok v (fQ (c.nx i))/\c.bd i=c.nx i)∨
  ∃ cs,c.FE i (c.rf i) (fQ (c.nx i))=.ok v (dy (fQ (c.nx i)) cs)/\c.bd i=c.nx i+1))
def EY(f:Nat->Nat)(i n:Nat):Nat->Nat:=fun j=>if j=i then n else f j
omit [Io] in
theorem mP{f:Nat->Nat}{i n:Nat}:EY f i n i=n:=if_pos rfl
omit [Io] in
theorem pP{f:Nat->Nat}{i n j:Nat}(h:j≠i):EY f i n j=f j:=if_neg h
variable {c:Cx}
omit [Io] in
theorem Mm{nx bd:Nat->Nat}{i:Nat}: ∀ (l:List Nat),(c.wi nx bd).KB i l=c.KB i l
 | []=>rfl
 |u::l=>by
  rw[KB,KB,Mm l]
  rfl
omit [Io] in
theorem Dj{nx bd:Nat->Nat}{i:Nat}:(c.wi nx bd).rf i=c.rf i:=Mm _
omit [Io] in
theorem Hz{bZ:List Nat}{i N:Nat}(hr:E8 c.nt c.ops.toList bZ i=true)(hb: ∀ j∈bZ,c.bd j<=N):c.pL i N:=by
 intro u hu
 obtain⟨h1,h2⟩:=yg hr u hu
 exact⟨h1,h2.imp (fun h j hj=>⟨(h j hj).2,hb j (h j hj).1⟩) (fun h j hj=>(h j hj).2.1)⟩
omit [Io] in
theorem xn(jB:c.nt<=512)(hJ: ∀ u,u<512->(∀ j,¬ c.mA j u)->c.te.at u=c.t0.at u)(CB: ∀ i j d,c.mA i d->c.mA j d->i=j){k:List Nat->ng}(hk: ∀ bZ t h,k bZ t h=.ok c.te c.hE->c.Fr bZ t)
 {Φ:(Nat->Nat)->(Nat->Nat)->List Nat->Prop}{h:Hp}
 (ih: ∀ (bZ:List Nat) (t:Tm) (su qo:Nat->Nat),k bZ t h=.ok c.te c.hE->c.VK bZ t->(∀ j∈bZ,qo j<=h.next)-> ∃ nx bd,(∀ j∈bZ,nx j=su j/\bd j=qo j)/\Φ nx bd bZ):
 ∀ (pre bZ:List Nat) (t:Tm) (su qo:Nat->Nat),nS c.P c.call c.nt c.ops.toList pre bZ k t h=.ok c.te c.hE->c.VK bZ t->(∀ j∈bZ,qo j<=h.next)->
  ∃ nx bd,(∀ j∈bZ,nx j=su j/\bd j=qo j)/\(c.wi nx bd).P1s pre h/\ ∃ qA,Φ nx bd qA/\ ∀ i∈qA,i∈bZ∨((c.wi nx bd).GI i/\(c.dD i .p0∨c.dD i .p1))
 | [],bZ,t,su,qo,e,hO,hb=>by
  obtain⟨nx,bd,h1,h2⟩:=ih bZ t su qo e hO hb
  exact⟨nx,bd,h1,(fun i hi=>by cases hi),bZ,h2,fun i hi=>.inl hi⟩
 |i::l,bZ,t,su,qo,e,hO,hb=>by
  have F:=rV jB hk (i::l) bZ t h e
  unfold nS at e
  cases h1:E8 c.nt c.ops.toList bZ i with
  |false=>rw[h1]at e;cases e
  |true=>
  rw[h1]at e
  simp only[il]at e
  cases h2:kC i bZ with
  |true=>
   rw[h2]at e
   cases h3:uw c.P c.call c.ops.toList .p1 i with
   |false=>rw[h3]at e;cases e
   |true=>
    rw[h3]at e
    obtain⟨o,v,ho,hg,e,hs⟩:=Dh (kI.1 h3) e
    obtain⟨nx,bd,a1,a2,qA,a3,a4⟩:=xn jB hJ CB hk ih l bZ t su qo e hO hb
    refine⟨nx,bd,a1,fun j hj hc=>?_,qA,a3,a4⟩
    rcases List.mem_cons.1 hj with rfl|hj
    ·refine⟨v,Di jB hJ F hO ho h1 hg,?_,Hz (c:=c.wi nx bd) h1 (fun j hj=>by show bd j<=_;rw[(a1 j hj).2];exact hb j hj)⟩
     intro d hd
     obtain⟨o',mB,Jo⟩:=id hd
     have Mn:c.ops[j]? =some o':=mB
     rw[ho]at Mn
     cases Mn
     obtain⟨s1,s2⟩:=hs d Jo
     refine⟨s1,?_⟩
     show c.te.at d=_
     rw[F d (Nat.lt_of_lt_of_le s1 jB) (fun x hx=>by rw[CB x j d hx hd];exact kP.1 h2)]
     exact s2
    ·exact a2 j hj hc
  |false=>
   rw[h2]at e
   have VL:=oB h2
   cases h3:(uw c.P c.call c.ops.toList .p0 i||uw c.P c.call c.ops.toList .p1 i)with
   |false=>rw[h3]at e;cases e
   |true=>
    rw[h3]at e
    have fY:c.dD i .p0∨c.dD i .p1:=by
     rw[Bool.or_eq_true]at h3
     exact h3.imp kI.1 kI.1
    obtain⟨o,v,n8,t1,ho,hg,e2,ht⟩:=ux e
    clear e
    have hlv:n8=h:=by
     rcases fY with⟨o',mB,Dk⟩|⟨o',mB,Dk⟩
     ·rw[ho]at mB;cases mB
      exact((uo Dk).ok hg).1
     ·rw[ho]at mB;cases mB
      exact Ml Dk _ _ _ _ hg
    subst hlv
    have jR: ∀ j∈bZ,j≠i:=fun j hj e=>VL (e▸hj)
    obtain⟨nx,bd,a1,a2,qA,a3,a4⟩:=xn jB hJ CB hk ih l (i::bZ) t1 (EY su i n8.next) (EY qo i n8.next) e2 (yh jB ho ht hO) (fun j hj=>by
     rcases List.mem_cons.1 hj with rfl|hj
     ·rw[mP];exact Nat.le_refl _
     ·rw[pP (jR j hj)];exact hb j hj)
    have agree: ∀ j∈bZ,nx j=su j/\bd j=qo j:=fun j hj=>by
     have:=a1 j (List.mem_cons_of_mem _ hj)
     rwa [pP (jR j hj),pP (jR j hj)]at this
    have hbi:bd i=n8.next:=by
     have:=(a1 i List.mem_cons_self).2
     rwa [mP]at this
    have hrd:(c.wi nx bd).pL i n8.next:=Hz (c:=c.wi nx bd) h1 (fun j hj=>by show bd j<=_;rw[(agree j hj).2];exact hb j hj)
    have ff:c.Slot i v:=vJ jB CB ho ht (rV jB hk l (i::bZ) t1 n8 e2)
    refine⟨nx,bd,agree,fun j hj hc=>?_,qA,a3,fun j hj=>?_⟩
    ·rcases List.mem_cons.1 hj with rfl|hj
     ·exact⟨v,Di jB hJ F hO ho h1 hg,ff,hrd⟩
     ·exact a2 j hj hc
    ·rcases a4 j hj with h|h
     ·rcases List.mem_cons.1 h with rfl|h
      ·refine .inr ⟨⟨fun hc=>⟨v,?_,ff,?_⟩,fun hc=>?_⟩,fY⟩
       ·obtain⟨o',mB,Dk⟩:=hc
        have Mn:c.ops[j]? =some o':=mB
        rw[ho]at Mn
        cases Mn
        intro h0
        rw[Dj]
        show c.FE j (c.rf j) h0=_
        have:=Di jB hJ F hO ho h1 hg
        rw[wj ho]at this ⊢
        exact((uo Dk).ok this).2 h0
       ·show Cx.pL _ j (bd j)
        rw[hbi];exact hrd
       ·rcases fY with h|h<;>cases c.ks h hc
      ·exact .inl h
     ·exact .inr h
omit [Io] in
theorem Bu(jB:c.nt<=512)(hJ: ∀ u,u<512->(∀ j,¬ c.mA j u)->c.te.at u=c.t0.at u)(CB: ∀ i j d,c.mA i d->c.mA j d->i=j){k:List Nat->ng}(hk: ∀ bZ t h,k bZ t h=.ok c.te c.hE->c.Fr bZ t)
 {Φ:(Nat->Nat)->(Nat->Nat)->List Nat->Hp->Prop}
 (ih: ∀ (bZ:List Nat) (t:Tm) (h:Hp) (su qo:Nat->Nat),k bZ t h=.ok c.te c.hE->c.VK bZ t->(∀ j∈bZ,qo j<=h.next)-> ∃ nx bd,(∀ j∈bZ,nx j=su j/\bd j=qo j)/\Φ nx bd bZ h):
 ∀ (g7 bZ:List Nat) (t:Tm) (h:Hp) (su qo:Nat->Nat),FQ c.P c.call c.nt c.ops.toList g7 bZ k t h=.ok c.te c.hE->c.VK bZ t->(∀ j∈bZ,qo j<=h.next)->
  ∃ nx bd,(∀ j∈bZ,nx j=su j/\bd j=qo j)/\ ∃ h1 qA,(c.wi nx bd).wQ g7 h h1/\Φ nx bd qA h1/\ ∀ i∈qA,i∈bZ∨((c.wi nx bd).GI i/\i∈g7/\(c.dD i .p0∨c.dD i .al))
 | [],bZ,t,h,su,qo,e,hO,hb=>by
  obtain⟨nx,bd,h1,h2⟩:=ih bZ t h su qo e hO hb
  exact⟨nx,bd,h1,h,bZ,rfl,h2,fun i hi=>.inl hi⟩
 |i::l,bZ,t,h,su,qo,e,hO,hb=>by
  have F:=pO jB hk (i::l) bZ t h e
  unfold FQ at e
  cases HA:(E8 c.nt c.ops.toList bZ i&&(!kC i bZ&&(uw c.P c.call c.ops.toList .p0 i||uw c.P c.call c.ops.toList .al i)))with
  |false=>rw[HA]at e;cases e
  |true=>
   rw[HA]at e
   simp only[il]at e
   simp only[Bool.and_eq_true,Bool.not_eq_true',Bool.or_eq_true]at HA
   obtain⟨h1,h2,h3⟩:=HA
   have VL:=oB h2
   have fY:c.dD i .p0∨c.dD i .al:=h3.imp kI.1 kI.1
   obtain⟨o,v,h',t1,ho,hg,e2,ht⟩:=ux e
   clear e
   have jR: ∀ j∈bZ,j≠i:=fun j hj e=>VL (e▸hj)
   have hle:h.next<=h'.next:=by
    rcases fY with⟨o',mB,Dk⟩|⟨o',mB,Dk⟩
    ·rw[ho]at mB;cases mB
     rw[((uo Dk).ok hg).1]
     exact Nat.le_refl _
    ·rw[ho]at mB;cases mB
     rcases Df Dk _ _ _ _ hg (fQ h.next) rfl with⟨rfl,_⟩|⟨cs,rfl,_⟩
     ·exact Nat.le_refl _
     ·exact Nat.le_succ _
   obtain⟨nx,bd,a1,n8,qA,a2,a3,a4⟩:=Bu jB hJ CB hk ih l (i::bZ) t1 h' (EY su i h.next) (EY qo i h'.next) e2 (yh jB ho ht hO) (fun j hj=>by
    rcases List.mem_cons.1 hj with rfl|hj
    ·rw[mP];exact Nat.le_refl _
    ·rw[pP (jR j hj)];exact Nat.le_trans (hb j hj) hle)
   have agree: ∀ j∈bZ,nx j=su j/\bd j=qo j:=fun j hj=>by
    have:=a1 j (List.mem_cons_of_mem _ hj)
    rwa [pP (jR j hj),pP (jR j hj)]at this
   have hbi:bd i=h'.next:=by
    have:=(a1 i List.mem_cons_self).2
    rwa [mP]at this
   have Jt:nx i=h.next:=by
    have:=(a1 i List.mem_cons_self).1
    rwa [mP]at this
   have hrd:(c.wi nx bd).pL i h.next:=Hz (c:=c.wi nx bd) h1 (fun j hj=>by show bd j<=_;rw[(agree j hj).2];exact hb j hj)
   have ff:c.Slot i v:=vJ jB CB ho ht (pO jB hk l (i::bZ) t1 h' e2)
   have hte:=Di jB hJ F hO ho h1 hg
   rcases fY with fY|fY
   ·have hh:h'=h:=by
     obtain⟨o',mB,Dk⟩:=fY
     rw[ho]at mB;cases mB
     exact((uo Dk).ok hg).1
    subst hh
    refine⟨nx,bd,agree,n8,qA,.inl ⟨fY,a2⟩,a3,fun j hj=>?_⟩
    rcases a4 j hj with h|⟨h,h5,h6⟩
    ·rcases List.mem_cons.1 h with rfl|h
     ·refine .inr ⟨⟨fun hc=>⟨v,?_,ff,?_⟩,fun hc=>?_⟩,List.mem_cons_self,.inl fY⟩
      ·obtain⟨o',mB,Dk⟩:=fY
       rw[ho]at mB
       cases mB
       intro h0
       rw[Dj]
       show c.FE j (c.rf j) h0=_
       rw[wj ho]at hte ⊢
       exact((uo Dk).ok hte).2 h0
      ·show Cx.pL _ j (bd j)
       rw[hbi];exact hrd
      ·cases c.ks fY hc
     ·exact .inl h
    ·exact .inr ⟨h,List.mem_cons_of_mem _ h5,h6⟩
   ·have key:(h'=h/\c.FE i (c.rf i) (fQ h.next)=.ok v (fQ h.next))∨ ∃ cs,h'=dy h cs/\c.FE i (c.rf i) (fQ h.next)=.ok v (dy (fQ h.next) cs):=by
     obtain⟨o',mB,Dk⟩:=fY
     rw[ho]at mB;cases mB
     rw[wj ho]at hte ⊢
     exact Df Dk _ _ _ _ hte (fQ h.next) rfl
    refine⟨nx,bd,agree,n8,qA,.inr ⟨fY,Jt,?_⟩,a3,fun j hj=>?_⟩
    ·rcases key with⟨rfl,_⟩|⟨cs,rfl,hf⟩
     ·exact .inl ⟨hbi.trans Jt.symm,a2⟩
     ·refine .inr ⟨v,cs,?_,?_,a2⟩
      ·show bd i=nx i+1
       rw[hbi,Jt];rfl
      ·rw[Dj]
       show c.FE i (c.rf i) (fQ (nx i))=.ok v (dy (fQ (nx i)) cs)
       rw[Jt];exact hf
    ·rcases a4 j hj with h0|⟨h0,h5,h6⟩
     ·rcases List.mem_cons.1 h0 with rfl|h0
      ·refine .inr ⟨⟨fun hc=>?_,fun hc=>⟨v,ff,?_,?_⟩⟩,List.mem_cons_self,.inr fY⟩
       ·cases c.ks fY hc
       ·show Cx.pL _ j (nx j)
        rw[Jt];exact hrd
       ·rw[Dj]
        show(c.FE j (c.rf j) (fQ (nx j))=.ok v (fQ (nx j))/\bd j=nx j)∨ ∃ cs,c.FE j (c.rf j) (fQ (nx j))=.ok v (dy (fQ (nx j)) cs)/\bd j=nx j+1
        rw[Jt,hbi]
        rcases key with⟨rfl,hf⟩|⟨cs,rfl,hf⟩
        ·exact .inl ⟨hf,rfl⟩
        ·exact .inr ⟨cs,hf,rfl⟩
      ·exact .inl h0
     ·exact .inr ⟨h0,List.mem_cons_of_mem _ h5,h6⟩
omit [Io] in
theorem Dl(jB:c.nt<=512)(hJ: ∀ u,u<512->(∀ j,¬ c.mA j u)->c.te.at u=c.t0.at u)(CB: ∀ i j d,c.mA i d->c.mA j d->i=j): ∀ (pl:lU) (bZ:List Nat) (t:Tm) (h:Hp) (su qo:Nat->Nat),
 oz c.P c.call c.nt c.ops.toList pl bZ t h=.ok c.te c.hE->c.VK bZ t->(∀ j∈bZ,qo j<=h.next)->
  ∃ nx bd,(∀ j∈bZ,nx j=su j/\bd j=qo j)/\(c.wi nx bd).zH pl h/\(∀ i,i<c.ops.size->bd i<=c.hE.next)/\
   ∀ i,i<c.ops.size->i∉bZ->(c.wi nx bd).GI i/\(c.dD i .al->i∈pl.g7)/\(c.dD i .ch->i∈pl.zw)
 | .last pre g7,bZ,t,h,su,qo,e,hO,hb=>by
  unfold oz at e
  have VM: ∀ bZ t h,(il (allI (fun i _=>kC i bZ) c.ops.toList 0) fi (fun _ _=>.bad):ng) t h=.ok c.te c.hE->(∀ i,i<c.ops.size->i∈bZ)/\t=c.te/\h=c.hE:=by
   intro bZ t h e
   cases hB:allI (fun i _=>kC i bZ) c.ops.toList 0 with
   |false=>rw[hB]at e;cases e
   |true=>
    rw[hB]at e
    obtain⟨h1,h2⟩:=Rt.ok.inj e
    refine⟨fun i hi=>?_,h1,h2⟩
    have:=kQ hB i c.ops[i] (by simp[hi])
    exact kP.1 this
  have hk: ∀ bZ t h,(il (allI (fun i _=>kC i bZ) c.ops.toList 0) fi (fun _ _=>.bad):ng) t h=.ok c.te c.hE->c.Fr bZ t:=by
   intro bZ t h e
   obtain⟨_,rfl,_⟩:=VM bZ t h e
   exact fun u _ _=>rfl
  obtain⟨nx,bd,a1,a2,qA,⟨h1,qB,b2,⟨rfl,b3,b4⟩,b5⟩,a4⟩:=xn (Φ:=fun nx bd qA=> ∃ h1 qB,(c.wi nx bd).wQ g7 h h1/\(h1=c.hE/\(∀ i,i<c.ops.size->i∈qB)/\(∀ i∈qB,bd i<=c.hE.next))/\
   ∀ i∈qB,i∈qA∨((c.wi nx bd).GI i/\i∈g7/\(c.dD i .p0∨c.dD i .al))) jB hJ CB (pO jB hk g7) (fun bZ t su qo e hO hb=>by
   obtain⟨nx,bd,a1,h1,qB,a2,a3,a4⟩:=Bu (Φ:=fun nx bd qB h1=>h1=c.hE/\(∀ i,i<c.ops.size->i∈qB)/\(∀ i∈qB,bd i<=c.hE.next)) jB hJ CB hk (fun bZ t h su qo e hO hb=>by
    obtain⟨h1,_,rfl⟩:=VM bZ t h e
    exact⟨su,qo,fun _ _=>⟨rfl,rfl⟩,rfl,h1,hb⟩) g7 bZ t h su qo e hO hb
   exact⟨nx,bd,a1,h1,qB,a2,a3,a4⟩) pre bZ t su qo e hO hb
  refine⟨nx,bd,a1,⟨a2,b2⟩,fun i hi=>b4 i (b3 i hi),fun i hi hn=>?_⟩
  rcases b5 i (b3 i hi)with h|⟨h,h6,h7⟩
  ·rcases a4 i h with h|⟨h,h5⟩
   ·exact absurd h hn
   ·refine⟨h,fun hc=>?_,fun hc=>?_⟩
    ·rcases h5 with h5|h5<;>cases c.ks h5 hc
    ·rcases h5 with h5|h5<;>cases c.ks h5 hc
  ·refine⟨h,fun _=>h6,fun hc=>?_⟩
   rcases h7 with h5|h5<;>cases c.ks h5 hc
 | .cons pre g7 q rest,bZ,t,h,su,qo,e,hO,hb=>by
  unfold oz at e
  have hq: ∀ bZ t h,(il (E8 c.nt c.ops.toList bZ q&&(!kC q bZ&&uw c.P c.call c.ops.toList .ch q)) (runM c.P c.call c.nt c.ops.toList q (oz c.P c.call c.nt c.ops.toList rest (q::bZ))) (fun _ _=>.bad):ng) t h=.ok c.te c.hE->
   E8 c.nt c.ops.toList bZ q=true/\q∉bZ/\c.dD q .ch/\ ∃ o v h1 t1,c.ops[q]? =some o/\lh c.P c.call c.nt c.ops.toList o t h=.ok v h1/\h.next<=h1.next/\oz c.P c.call c.nt c.ops.toList rest (q::bZ) t1 h1=.ok c.te c.hE/\
    ((∃ d,o.dst=some d/\d<c.nt/\t1=sT d v t)∨(o.dst=none/\t1=t)):=by
   intro bZ t h e
   cases h1:(E8 c.nt c.ops.toList bZ q&&(!kC q bZ&&uw c.P c.call c.ops.toList .ch q))with
   |false=>rw[h1]at e;cases e
   |true=>
    rw[h1]at e
    simp only[Bool.and_eq_true,Bool.not_eq_true']at h1
    exact⟨h1.1,oB h1.2.1,kI.1 h1.2.2,Dg e⟩
  have hk: ∀ bZ t h,(il (E8 c.nt c.ops.toList bZ q&&(!kC q bZ&&uw c.P c.call c.ops.toList .ch q)) (runM c.P c.call c.nt c.ops.toList q (oz c.P c.call c.nt c.ops.toList rest (q::bZ))) (fun _ _=>.bad):ng) t h=.ok c.te c.hE->c.Fr bZ t:=by
   intro bZ t h e
   obtain⟨_,VL,_,o,v,h1,t1,ho,_,_,e,ht⟩:=hq bZ t h e
   exact uy jB ho VL ht (uz jB rest (q::bZ) t1 h1 e)
  obtain⟨nx,bd,a1,a2,qA,⟨h1,qB,b2,⟨c1,v,h2,c2,c3,c4,c5,c6,c7,c8,c9⟩,b5⟩,a4⟩:=xn (Φ:=fun nx bd qA=> ∃ h1 qB,(c.wi nx bd).wQ g7 h h1/\
   (c.dD q .ch/\ ∃ v h2,c.FE q (c.rf q) h1=.ok v h2/\c.Slot q v/\(c.wi nx bd).pL q h1.next/\bd q=h2.next/\h1.next<=h2.next/\(c.wi nx bd).zH rest h2/\(∀ i,i<c.ops.size->bd i<=c.hE.next)/\
    ∀ i,i<c.ops.size->i∉q::qB->(c.wi nx bd).GI i/\(c.dD i .al->i∈rest.g7)/\(c.dD i .ch->i∈rest.zw))/\
   ∀ i∈qB,i∈qA∨((c.wi nx bd).GI i/\i∈g7/\(c.dD i .p0∨c.dD i .al))) jB hJ CB (pO jB hk g7) (fun bZ t su qo e hO hb=>by
   obtain⟨nx,bd,a1,h1,qB,a2,a3,a4⟩:=Bu (Φ:=fun nx bd qB h1=>c.dD q .ch/\ ∃ v h2,c.FE q (c.rf q) h1=.ok v h2/\c.Slot q v/\(c.wi nx bd).pL q h1.next/\bd q=h2.next/\h1.next<=h2.next/\(c.wi nx bd).zH rest h2/\
    (∀ i,i<c.ops.size->bd i<=c.hE.next)/\ ∀ i,i<c.ops.size->i∉q::qB->(c.wi nx bd).GI i/\(c.dD i .al->i∈rest.g7)/\(c.dD i .ch->i∈rest.zw)) jB hJ CB hk (fun bZ t h su qo e hO hb=>by
    obtain⟨hr,VL,fY,o,v,h1,t1,ho,hg,hle,e,ht⟩:=hq bZ t h e
    have jR: ∀ j∈bZ,j≠q:=fun j hj e=>VL (e▸hj)
    have Fq:=uz jB rest (q::bZ) t1 h1 e
    obtain⟨nx,bd,a1,a2,a3,a4⟩:=Dl jB hJ CB rest (q::bZ) t1 h1 (EY su q h.next) (EY qo q h1.next) e (yh jB ho ht hO) (fun j hj=>by
     rcases List.mem_cons.1 hj with rfl|hj
     ·rw[mP];exact Nat.le_refl _
     ·rw[pP (jR j hj)];exact Nat.le_trans (hb j hj) hle)
    have agree: ∀ j∈bZ,nx j=su j/\bd j=qo j:=fun j hj=>by
     have:=a1 j (List.mem_cons_of_mem _ hj)
     rwa [pP (jR j hj),pP (jR j hj)]at this
    have hbq:bd q=h1.next:=by
     have:=(a1 q List.mem_cons_self).2
     rwa [mP]at this
    exact⟨nx,bd,agree,fY,v,h1,Di jB hJ (uy jB ho VL ht Fq) hO ho hr hg,vJ jB CB ho ht Fq,
     Hz (c:=c.wi nx bd) hr (fun j hj=>by show bd j<=_;rw[(agree j hj).2];exact hb j hj),hbq,hle,a2,a3,a4⟩) g7 bZ t h su qo e hO hb
   exact⟨nx,bd,a1,h1,qB,a2,a3,a4⟩) pre bZ t su qo e hO hb
  refine⟨nx,bd,a1,⟨a2,h1,b2,c1,v,h2,(by rw[Dj];exact c2),c3,c4,c5,c6,c7⟩,c8,fun i hi hn=>?_⟩
  by_cases hiq:i=q
  ·subst hiq
   refine⟨⟨fun hc=>?_,fun hc=>?_⟩,fun hc=>?_,fun _=>List.mem_cons_self⟩
   ·cases c.ks c1 hc
   ·cases c.ks c1 hc
   ·cases c.ks c1 hc
  ·by_cases Q8:i∈qB
   ·rcases b5 i Q8 with h|⟨h,h6,h7⟩
    ·rcases a4 i h with h|⟨h,h5⟩
     ·exact absurd h hn
     ·refine⟨h,fun hc=>?_,fun hc=>?_⟩
      ·rcases h5 with h5|h5<;>cases c.ks h5 hc
      ·rcases h5 with h5|h5<;>cases c.ks h5 hc
    ·refine⟨h,fun _=>List.mem_append_left _ h6,fun hc=>?_⟩
     rcases h7 with h5|h5<;>cases c.ks h5 hc
   ·obtain⟨r1,r2,r3⟩:=c9 i hi (fun k=>by
     rcases List.mem_cons.1 k with k|k
     ·exact hiq k
     ·exact Q8 k)
    exact⟨r1,fun hc=>List.mem_append_right _ (r2 hc),fun hc=>List.mem_cons_of_mem _ (r3 hc)⟩
end Cx
end Go.Ab

noncomputable section
namespace Go.Ab
variable [Io]
def Mo(ok:Nat->Nat->Bool)(l:List Nat):Nat->List Nat:=
 List.rec (fun _=>[]) (fun i _ ih r=>Bool.rec (ih r) (i::ih (Nat.lor r (Nat.pow 2 i))) (ok i r)) l
def VN(l:List Nat)(r:Nat):Nat:=List.rec r (fun i _ ih=>Nat.lor (Nat.pow 2 i) ih) l
def bit(r i:Nat):Bool:=Nat.beq (Nat.mod (Nat.div r (Nat.pow 2 i)) 2) 1
def RR(p:Nat->Bool)(l:List Nat):List Nat:=List.rec [] (fun i _ ih=>Bool.rec ih (i::ih) (p i)) l
def XL(p:Nat->Bool)(l:List Nat):Option Nat:=List.rec none (fun i _ ih=>Bool.rec ih (some i) (p i)) l
def Mp(l:List Oper):List Nat:=List.rec (fun _=>[]) (fun _ _ ih i=>i::ih (Nat.add i 1)) l 0
section
variable (P:Program)(call:cZ)(L:List Oper)
def aiB(ms idx:List Nat)(fuel:Nat):Nat->List Nat->lU:=
 Nat.rec (fun _ _=>.last [] []) (fun _ ih done chd=>
  match Mo (fun i r=>(uw P call L .p0 i||uw P call L .p1 i)&&(!bit r i&&Nat.beq (Nat.land ((lr ms i).getD 0) r) ((lr ms i).getD 0))) idx done with
  |new=>match RR (fun i=>bit done i&&(uw P call L .p1 i&& !FP (fun j=>bit ((lr ms j).getD 0) i) chd)) idx with
   |so=>match VN new done with
    |HB=>match XL (fun i=>uw P call L .ch i&& !bit HB i) idx with
     |none=>.last (app so new) (Mo (fun i r=> !bit r i) idx HB)
     |some q=>match Mo (fun i r=> !bit r i&&bit ((lr ms q).getD 0) i) idx HB with
      |g7=>.cons (app so new) g7 q (ih (Nat.lor (Nat.pow 2 q) (VN g7 HB)) (q::chd))) fuel
def vK:lU:=aiB P call L (qX L []) (Mp L) (Nat.succ (len L)) 0 []
end
def aY(P:Program)(call:cZ)(nt:Nat)(ops:Array Oper):ng:=
 match vK P call ops.toList with
 |pl=>il (Hx ops.toList&&(RO ops.toList&&Av P call ops.toList pl [])) (oz P call nt ops.toList pl []) (fun _ _=>.bad)
namespace Cx
variable {c:Cx}
omit [Io] in
theorem HD: ∀ (pl:lU) (jI:List Nat),Av c.P c.call c.ops.toList pl jI=true->c.Hu jI pl
 | .last pre g7,jI,h=>by
  intro i hi
  obtain⟨o,ho,_⟩:=id hi
  have:=oA (kQ h i o (by simpa using ho)) (kI.2 hi)
  rw[Bool.or_eq_true,uv,kP]at this
  exact this
 | .cons pre g7 q rest,jI,h=>by
  unfold Av at h
  simp only[Bool.and_eq_true]at h
  obtain⟨h1,h2,h3,h4⟩:=h
  refine⟨fun i hi=>?_,fun i hi hc=>?_,fun q' hq=>?_,HD rest _ h4⟩
  ·obtain⟨o,ho,_⟩:=id hi
   have:=oA (kQ h1 i o (by simpa using ho)) (kI.2 hi)
   rw[Bool.or_eq_true,Bool.or_eq_true,uv,uv,kP]at this
   exact this
  ·rw[g5,List.all_eq_true]at h2
   exact oA (h2 i hi) (kI.2 hc)
  ·rw[g5,List.all_eq_true]at h3
   exact h3 q' hq
omit [Io] in
theorem XM(h:RO c.ops.toList=true): ∀ i j d,c.mA i d->c.mA j d->i=j:=by
 rintro i j d ⟨o,ho,hd⟩ ⟨o',mB,Jo⟩
 have h1:=kQ h i o (by simpa using ho)
 rw[hd]at h1
 have h2:=oA (kQ h1 j o' (by simpa using mB)) (vI Jo)
 exact Nat.eq_of_beq_eq_true h2
end Cx
theorem RS{g:G}{w:World}{h:Hp}(H:HR g w h):g.to h.next=g:=by
 cases g with
 |mk m im=>
  unfold G.to
  simp only[G.mk.injEq,and_true]
  funext id
  by_cases jG:id<h.next
  ·simp only[jG,if_true]
  ·simp only[jG,if_false]
   exact(H.fresh id (by omega)).symm
omit [Io] in
theorem vL{g:G}{w w':World}(h:w'.heap=w.heap):ua g w g w':=
 ⟨fun _ _ e=>e,fun _ i=>i,fun b _=>by rw[h],fun b=>by unfold dS;rw[h];exact Nat.le_refl _⟩
theorem HR.heap{g:G}{w w':World}{hp:Hp}(h:w'.heap=w.heap)(H:HR g w hp):HR g w' hp:=by
 refine⟨H.fresh,fun id cs e=>?_,H.inj,fun b i=>by rw[h];exact H.fx b i,nQ.mono (vL h) H.tb⟩
 obtain⟨b,s,C,el,vs,h1,h2,h3,h4,h5⟩:=H.aP id cs e
 exact⟨b,s,C,el,vs,h1,by rw[h];exact h2,h3,bL.gg (vL h) _ _ h4,h5⟩
omit [Io] in
theorem Ju(g:G)(w:World)(h:Hp)(n:Nat):Ext g w h g {w with drawn:=n} h:=
 ⟨rfl,rfl,rfl,Nat.le_refl _,Nat.le_refl _,fun _ _ e=>e,fun _ _ _=>rfl,fun _=>Nat.le_refl _,fun _ i=>i,fun _ i=>.inl i,fun _ o=>.inl o⟩
theorem HE{P:Program}(hm:P.follows .mixedOrders=true):FG P (aY P):=by
 intro call nt hc id ops g w t h a t' h' H T D e Q K
 refine wp_region_draw fun tk=>?_
 rw[hm]
 change (il (Hx ops.toList&&(RO ops.toList&&Av P call ops.toList (vK P call ops.toList) [])) (oz P call nt ops.toList (vK P call ops.toList) []) (fun _ _=>.bad):ng) t h=.ok t' h' at e
 cases hB:(Hx ops.toList&&(RO ops.toList&&Av P call ops.toList (vK P call ops.toList) []))with
 |false=>rw[hB]at e;cases e
 |true=>
 rw[hB]at e
 change oz P call nt ops.toList (vK P call ops.toList) [] t h=.ok t' h' at e
 simp only[Bool.and_eq_true]at hB
 obtain⟨KA,CB,xj⟩:=hB
 obtain⟨pl,Xn⟩: ∃ pl,pl=vK P call ops.toList:=⟨_,rfl⟩
 rw[<-Xn]at e xj
 have L:=Bo (RM KA) tk
 let c0:Cx:=⟨P,call,ops,nt,t,t',fun _=>0,fun _=>0,g,w,h,h'⟩
 have ac8: ∀ i j d,c0.mA i d->c0.mA j d->i=j:=Cx.XM (c:=c0) CB
 have jB:nt<=512:=T.1
 have F:=Cx.uz (c:=c0) jB pl [] t h e
 have hJ: ∀ u,u<512->(∀ j,¬ c0.mA j u)->c0.te.at u=c0.t0.at u:=fun u hu hd=>F u hu (fun j hj=>absurd hj (hd j))
 obtain⟨nx,bd,_,kB,aiC,hgi⟩:=Cx.Dl (c:=c0) jB hJ ac8 pl [] t h (fun _=>0) (fun _=>0) e (fun u _ _=>rfl) (fun j hj=>by cases hj)
 let c:Cx:=c0.wi nx bd
 have gB: ∀ {i k},c.dD i k->i<c.ops.size:=fun⟨o,ho,_⟩=>(Array.getElem?_eq_some_iff.1 ho).1
 have G0:c.RK:=
  ⟨fun i hi=>(hgi i (gB hi) (by simp)).1.1 hi,fun i hi=>(hgi i (gB hi) (by simp)).1.2 hi,ac8,aiC,hJ,hc,jB⟩
 have xl:g.to h.next=g:=RS H
 refine Cx.sim (c:=c) G0 K _ [] [] pl g {w with drawn:=w.drawn+1} h a L ?_
 exact
 {run:=kB
  stat:=Cx.HD (c:=c) pl [] xj
  closed:=fun j hj=>by cases hj
  zw:=fun i hi=>.inl ((hgi i (gB hi) (by simp)).2.2 hi)
  Qg:=fun i _ h=>by cases h
  wh:=fun j hj=>by cases hj
  VG:=fun i hi=>.inl ((hgi i (gB hi) (by simp)).2.1 hi)
  st:=⟨(by rw[xl];exact HR.heap (w:=w) rfl H),(by rw[xl];exact Ju _ _ _ _),(fun i _ h=>by cases h),(fun i _ j _ h=>by cases h)⟩
  VH:=fun id x m=>.inl (by
   refine Classical.byContradiction fun k=>?_
   rw[H.fresh id (by omega)]at m;cases m)
  q7:=fun j hj=>by cases hj
  free:=fun u v hu hd eu=>by
   obtain⟨h1,h2⟩:=T.2.2 u v hu eu
   refine⟨h1,?_⟩
   rw[xl]
   exact VR.gg (vL (w:=w) (w':={w with drawn:=w.drawn+1}) rfl) _ _ h2
  size:=T.2.1
  defers:=D}
end Go.Ab

noncomputable section
namespace Go.Ab
variable [Io]
def FR(F:Func):Code:=match F.body with
 |some c=>c
 |none=>.skip
omit [Io] in
theorem bc{P:Program}{draw:cZ->Nat->Array Oper->ng}{f:FuncId}{F:Func}{b:Fb}(h1:P.funcs[f]? =some F)(h2: ∀ args w,(callFunc f args).run P w=.ok (.enter f args) w)
 (h3:F.body.isSome=true)(h4:b.ntmps=F.ntmps)(h5:Nat.ble b.ntmps 512=true)(h6:L1 P b.ntmps F.results.toList=some b.res)
 (h7:b.body=fun call n=>gP P (draw call b.ntmps) call n b.ntmps (FR F)):bK P draw f b:=by
 refine⟨⟨F,FR F,h1,?_,h4,Nat.ble_eq.mp h5,h6,h7⟩,h2⟩
 unfold FR
 cases h:F.body with
 |none=>rw[h]at h3;cases h3
 |some c=>rfl
def Mq{α:Type}(p:Nat->α->Prop)(a b:Nat):Tr α->Prop
 | .nil=>True
 | .node l v r=>(∀ x,v=some x->p b x)/\Mq p (2*a) (a+b) l/\Mq p (2*a) (2*a+b) r
omit [Io] in
theorem Mq.get{α:Type}{p:Nat->α->Prop}: ∀ {t:Tr α} {a b:Nat},Mq p a b t-> ∀ k x,t.get k=some x->p (a*k+b) x
 | .nil,a,b,_,k,x,e=>by cases e
 | .node l v r,a,b,⟨h1,h2,h3⟩,k,x,e=>by
  rw[Tr.qN]at e
  by_cases h0:k=0
  ·subst h0
   rw[if_pos rfl]at e
   simpa using h1 x e
  ·rw[if_neg h0]at e
   by_cases hk:k % 2=1
   ·rw[if_pos hk]at e
    have:=h2.get _ x e
    have e2:2*a*(k / 2)+(a+b)=a*k+b:=by
     have:k=2*(k / 2)+1:=by omega
     generalize k / 2=m at*
     subst this
     rw[Nat.mul_add,Nat.mul_one,<-Nat.mul_assoc,Nat.mul_comm a 2]
     omega
    rwa [e2]at this
   ·rw[if_neg hk]at e
    have:=h3.get _ x e
    have e2:2*a*(k / 2 - 1)+(2*a+b)=a*k+b:=by
     have:k=2*(k / 2 - 1)+2:=by omega
     generalize k / 2 - 1=m at*
     subst this
     rw[Nat.mul_add,<-Nat.mul_assoc,Nat.mul_comm a 2]
     omega
    rwa [e2]at this
omit [Io] in
theorem A4{α:Type}{p:Nat->α->Prop}{b:Nat}: ∀ x,(none:Option α)=some x->p b x:=fun _ e=>by cases e
end Go.Ab

noncomputable section
namespace Go.Ab
variable [Io]
structure Jv(w w':World):Prop where
 os:w'.os=w.os
 tape:w'.tape=w.tape
 output:w'.output=w.output
 size:w.heap.size<=w'.heap.size
 so: ∀ b,b<w.heap.size->w'.heap[b]? =w.heap[b]?
omit [Io] in
theorem Jv.rows{w w':World}(K:Jv w w')(b:Nat):dS w b<=dS w' b:=by
 unfold dS
 by_cases h:b<w.heap.size
 ·rw[K.so b h];exact Nat.le_refl _
 ·rw[Array.getElem?_eq_none (by omega)];exact Nat.zero_le _
def gE(fx:Nat->Prop):G:=⟨fun _=>none,fx⟩
theorem Dm{fx:Nat->Prop}{w:World}(h: ∀ b,fx b->b<w.heap.size)(t:nQ (gE fx) w):HR (gE fx) w (fQ 0):=
 ⟨fun _ _=>rfl,(fun _ _ e=>by cases e),(fun _ _ _ _ _ _ _ e=>by cases e),h,t⟩
omit [Io] in
theorem HF{fx:Nat->Prop}{w:World}{g':G}{w':World}{h':Hp}(E:Ext (gE fx) w (fQ 0) g' w' h'):Jv w w':=
 ⟨E.os,E.tape,E.output,E.size,fun b hb=>E.so b hb (by rintro⟨id,cs,s,e,_⟩;cases e)⟩
def mapA(f:AV->Option AV)(l:List AV):Option (List AV):=
 List.rec (some []) (fun a _ ih=>match f a with
  |some b=>match ih with
   |some r=>some (b::r)
   |none=>none
  |none=>none) l
theorem HG{g g':G}{w:World}{f:AV->Option AV}(hf: ∀ a a' v,f a=some a'->VR g w a v->VR g' w a' v): ∀ {l l':List AV} {vs:List Value},mapA f l=some l'->bL g w l vs->bL g' w l' vs
 | [],l',vs,e,h=>by cases e;simpa only[bL]using h
 |a::l,l',vs,e,h=>by
  change (match f a with|some b=>(match mapA f l with|some r=>some (b::r)|none=>none)|none=>none)=some l' at e
  simp only[bL]at h
  obtain⟨v,r,rfl,hv,hr⟩:=h
  cases h1:f a with
  |none=>rw[h1]at e;cases e
  |some b=>
   cases h2:mapA f l with
   |none=>rw[h1,h2]at e;cases e
   |some r'=>
    rw[h1,h2]at e
    cases e
    simp only[bL]
    exact⟨v,r,rfl,hf a b v h1 hv,HG hf h2 hr⟩
end Go.Ab

noncomputable section
namespace Go.Ab
end Go.Ab

noncomputable section
namespace Go.Ab
variable [Io]
end Go.Ab
namespace Go.Ab
end Go.Ab

noncomputable section
namespace Go.Ab
variable [Io]
section
variable {P:Program}{call:cZ}
end
end Go.Ab

noncomputable section
namespace Go.Ab
end Go.Ab

noncomputable section
namespace Go.Ab
def isT(r:Ro):Bool:=match r with
 | .ok (.bool b) _=>b
 | _=>false
theorem XN{r:Ro}(h:isT r=true): ∃ h',r=.ok (.bool true) h':=by
 unfold isT at h
 split at h
 ·subst h;exact⟨_,rfl⟩
 ·cases h
theorem Jv.below{w w':World}(K:Jv w w'):Go.RowKit.Below w.heap.size w w':=⟨K.os,K.tape,K.output,K.size,K.so⟩
theorem XO[Io]{P:Program}{call:cZ}(hc:eR P call){f:FuncId}{args:List AV}{vs:List Value}(e:isT (call f args (fQ 0))=true)(w:World){fx:Nat->Prop}(hi: ∀ b,fx b->b<w.heap.size)(ht:nQ (gE fx) w)(hv:bL (gE fx) w args vs):
 Calls P f vs.toArray w fun e w'=>e=.returned (.bool true)/\Go.RowKit.Below w.heap.size w w':=by
 obtain⟨h',e'⟩:=XN e
 refine((hc f args (fQ 0) _ h' e').2 (gE fx) w vs (Dm hi ht) hv).mono ?_
 rintro e w' ⟨x,g',rfl,E,H',hx⟩
 simp only[VR]at hx
 subst hx
 exact⟨rfl,(HF E).below⟩
end Go.Ab

noncomputable section
namespace Go.Ab
variable [Io]
section
variable {P:Program}
def Dn(fn:FuncId->Option Fb)(n:Nat)(c:cZ):cZ:=fun f args h=>match fn f with
 |none=>.bad
 |some b=>il (Nat.ble (len args) b.ntmps) (match b.body c n (pA args 0 Tm.none) h with
  | .norm t h=>fin b.res t h
  | .ret t h=>fin b.res t h
  | _=>.bad) .bad
theorem Mr{draw:cZ->Nat->Array Oper->ng}(hd:FG P draw){fn:FuncId->Option Fb}(hf: ∀ f b,fn f=some b->bK P draw f b)(n:Nat){c:cZ}(hc:eR P c):eR P (Dn fn n c):=by
 intro f args h v h' e
 change (match fn f with
  |none=>Ro.bad
  |some b=>il (Nat.ble (len args) b.ntmps) (match b.body (c) n (pA args 0 Tm.none) h with| .norm t h=>fin b.res t h| .ret t h=>fin b.res t h| _=>.bad) .bad)=.ok v h' at e
 cases hb:fn f with
 |none=>rw[hb]at e;cases e
 |some b=>
 rw[hb]at e
 simp only at e
 cases hle:Nat.ble (len args) b.ntmps with
 |false=>rw[hle]at e;cases e
 |true=>
 rw[hle]at e
 change (match b.body (c) n (pA args 0 Tm.none) h with| .norm t h=>fin b.res t h| .ret t h=>fin b.res t h| _=>.bad)=Ro.ok v h' at e
 rw[bW]at hle
 have ac':args.length<=b.ntmps:=Nat.ble_eq.mp hle
 have F0:=hf f b hb
 obtain⟨F,cd,hF,hcb,jB,qC,aiD,ada⟩:=F0.ex
 refine⟨F0.enter,fun g w vs H hv=>?_⟩
 rw[ada]at e
 have adb:=Bn hc (draw:=draw (c) b.ntmps) (nt:=b.ntmps) (fun id ops=>hd _ _ hc id ops) n cd
 have hvl:=hv.length
 have Hs:(vs.toArray++Array.replicate (F.ntmps - vs.toArray.size) undef).size=b.ntmps:=by simp;omega
 have hT0:TR g w b.ntmps Tm.none (vs.toArray++Array.replicate (F.ntmps - vs.toArray.size) undef):=
  ⟨qC,Hs,fun i v hi e=>by rw[Tm.A4 i hi]at e;cases e⟩
 have hT:=uk args vs 0 b.ntmps Tm.none _ hv (by omega) hT0 (fun j v e=>by
  rw[Array.getElem?_append_left (by have:=(List.getElem?_eq_some_iff.1 e).1;simpa using this)]
  simpa using e)
 refine calls_of_wp hF hcb ?_
 have:=adb g w _ h {tmps:=vs.toArray++Array.replicate (F.ntmps - vs.toArray.size) undef,defers:=[]}
  (bodyPost P F (fun e w'=> ∃ x g',e=.returned x/\Ext g w h g' w' h'/\HR g' w' h'/\VR g' w' v x)) H hT rfl
 have Ms: ∀ t1 h1,fin b.res t1 h1=.ok v h'-> ∀ g' w' (a':Act),Ext g w h g' w' h1->HR g' w' h1->TR g' w' b.ntmps t1 a'.tmps->a'.defers=[]->
  a'.defers=[]/\ ∃ x,(results F a'.tmps).run P w'=.ok x w'/\ ∃ y g',Ending.returned x=.returned y/\Ext g w h g' w' h'/\HR g' w' h'/\VR g' w' v y:=by
  intro t1 h1 aiF g' w' a' E' H' T' D'
  obtain⟨rfl,x,hx,L3⟩:=XB H' T' aiD aiF
  exact⟨D',x,hx,x,g',rfl,E',H',L3⟩
 simp only at e
 cases hr:gP P (draw (c) b.ntmps) (c) n b.ntmps cd (pA args 0 Tm.none) h with
 |bad=>rw[hr]at e;cases e
 |norm t1 h1=>rw[hr]at e this;exact this (Ms t1 h1 e)
 |ret t1 h1=>rw[hr]at e this;exact this (Ms t1 h1 e)
 |exit i t1 h1=>rw[hr]at e;cases e
end
end Go.Ab

noncomputable section
namespace Go.Ab
open Go.ChangeShapes Go.WideShapes Go.ChangeAt Go.RowKit Go.Deep Go.Joins
end Go.Ab

noncomputable section
namespace Go.Ab
variable [Io]
end Go.Ab
namespace Go.Ab
variable [Io]
section
variable {P:Program}
def Mt(fn:FuncId->Option Fb)(wr:cZ->cZ)(n:Nat)(d:Nat):cZ:=Nat.rec (fun _ _ _=>.bad) (fun _ ih=>Dn fn n (wr ih)) d
theorem yi{draw:cZ->Nat->Array Oper->ng}(hd:FG P draw){fn:FuncId->Option Fb}(hf: ∀ f b,fn f=some b->bK P draw f b){wr:cZ->cZ}
 (hw: ∀ c,eR P c->eR P (wr c))(n:Nat): ∀ d,eR P (Mt fn wr n d)
 |0=>by intro f args h v h' e;cases e
 |d+1=>Mr hd hf n (hw _ (yi hd hf hw n d))
theorem bL.split{g:G}{w:World}: ∀ {l r:List AV} {vs:List Value},bL g w (l++r) vs-> ∃ us ts,vs=us++ts/\bL g w l us/\bL g w r ts
 | [],r,vs,h=>⟨[],vs,rfl,by simp[bL],h⟩
 |a::l,r,vs,h=>by
  simp only[List.cons_append,bL]at h
  obtain⟨v,l',rfl,q,p⟩:=h
  obtain⟨us,ts,rfl,h1,h2⟩:=bL.split p
  refine⟨v::us,ts,rfl,?_,h2⟩
  simp only[bL]
  exact⟨v,us,rfl,q,h1⟩
end
end Go.Ab
namespace Go.Ab
variable [Io]
end Go.Ab
