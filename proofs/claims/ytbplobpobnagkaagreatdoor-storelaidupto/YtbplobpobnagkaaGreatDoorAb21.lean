import Derived.Test.YtbplobpobnagkaaGreatDoorAb15
import Derived.KernelRfl
import Derived.Below
import Derived.Lib.SmallJoins
noncomputable section
namespace Go.Ab
variable [Io]
namespace Cx
variable {c:Cx}
omit [Io] in
theorem G.LU{g:G}{id b N:Nat}(h:N<=id):(g.add id b).to N=g.to N:=by
 unfold Go.Ab.G.to G.add
 congr 1
 funext k
 by_cases hk:k<N
 ·simp only[hk,if_true]
  rw[if_neg (by omega)]
 ·simp only[hk,if_false]
theorem sim(G0:c.RC){Q:Exit->Act->World->Prop}(K:oe c.g0 c.w0 c.h0 c.nt c.te c.hE (Q .normal)): ∀ (s D past:List Nat) (pl:lK) (g:G) (w:World) (h:Hp) (a:Act),
 Rl c.ops D s->c.Inv g w h a D past pl->wpOps c.P c.ops Q s a w
 | [],D,past,pl,g,w,h,a,L,I=>by
  have Ja: ∀ i,i<c.ops.size->i∈D:=L
  have gG: ∀ {i k},c.dB i k->i<c.ops.size:=fun⟨o,ho,_⟩=>(Array.getElem?_eq_some_iff.1 ho).1
  show Q .normal a w
  cases pl with
  |cons pre hY q rest=>
   exact absurd (Ja q (gG (Hd I.run q List.mem_cons_self))) (I.P' q List.mem_cons_self)
  |last pre hY=>
   have S:=c.settle (A:=[]) hY h I.run.2 (fun i _ hc=>Ja i (gG hc)) (by rw[List.append_nil];exact I.st) (fun i hi=>by cases hi)
   refine K _ _ _ S.ext S.hr ⟨G0.nt,I.size,fun u v hu e=>?_⟩ I.defers
   have hle:=c.qH I.run.2
   by_cases hd: ∃ j,c.mg j u
   ·obtain⟨j,hj⟩:=hd
    obtain⟨o,ho,_⟩:=id hj
    have hjs:=(Array.getElem?_eq_some_iff.1 ho).1
    obtain⟨h1,v',e',hv⟩:=I.qJ j (Ja j hjs) u hj
    rw[e]at e'
    cases e'
    have:=G0.top j hjs
    exact⟨h1,VR.gg (px g w (by omega)) _ _ hv⟩
   ·rw[G0.same u hu (fun j hj=>hd ⟨j,hj⟩)]at e
    obtain⟨h1,h2⟩:=I.free u v hu (fun j _ hj=>hd ⟨j,hj⟩) e
    exact⟨h1,VR.gg (px g w hle) _ _ h2⟩
 |i::s,D,past,pl,g,w,h,a,⟨his,Ae,hE,L⟩,I=>by
  obtain⟨o,ho⟩: ∃ o,c.ops[i]? =some o:=⟨c.ops[i],Array.getElem?_eq_getElem his⟩
  obtain⟨Bb,hC⟩:=CU I.closed ho hE
  have Fs: ∀ b,g.fw b->b<w.heap.size:=I.st.hr.fw
  cases hk:(po c.P c.call o.op).1 with
  |p0=>
   have fY:c.dB i .p0:=⟨o,ho,hk⟩
   obtain⟨v,hF,hS,hR⟩:=G0.p0 i fY
   have T:=I.reads G0.nt hR Ae Bb (N:=max (c.bd i) h.next) (by omega) (by omega)
   have e:kW c.P c.call c.nt c.ops.toList o (c.rf i) (fR 0)=.ok v (fR 0):=by
    rw[<-vL ho];exact hF _
   exact Ad G0.call ho (.inl hk) (LN (g:=g.to (max (c.bd i) h.next)) Fs) T e fun x hx=>sim G0 K s _ _ _ _ _ _ _ L (I.put G0 ho Ae hC (.inl fY) hS hx)
  |p1=>
   have fY:c.dB i .p1:=⟨o,ho,hk⟩
   have W2:i∈pl.pre:=by
    rcases RD I.stat i fY with⟨j,hj,hA⟩|⟨j,hj,hA⟩|h
    ·exact absurd (I.closed j (I.vK j hj) i hA) Ae
    ·exact absurd (Bb j hA) (I.P' j hj)
    ·exact h
   obtain⟨v,hF,hS,hR⟩:=Xi I.run i W2 fY
   have T:=I.reads G0.nt hR Ae Bb (N:=h.next) (Nat.le_refl _) (Nat.le_refl _)
   have e:kW c.P c.call c.nt c.ops.toList o (c.rf i) h=.ok v h:=by
    rw[<-vL ho];exact hF
   exact Ad G0.call ho (.inr hk) I.st.hr.toHC T e fun x hx=>sim G0 K s _ _ _ _ _ _ _ L
    (I.put G0 ho Ae hC (.inr fY) hS (VR.gg (px g w (by omega)) _ _ hx))
  |al=>
   have fY:c.dB i .al:=⟨o,ho,hk⟩
   obtain⟨v,hS,hR,hF⟩:=G0.al i fY
   have G9:i∈pl.hY:=(I.Vl i fY).resolve_right Ae
   have hnx:=c.sI I.run i G9 fY
   have T:=I.reads G0.nt hR Ae Bb (N:=c.nx i) (Nat.le_refl _) hnx
   obtain⟨h',hh',hF'⟩: ∃ h',((h'=fR (c.nx i)/\c.bd i=c.nx i)∨ ∃ cs,h'=dw (fR (c.nx i)) cs/\c.bd i=c.nx i+1)/\c.FE i (c.rf i) (fR (c.nx i))=.ok v h':=by
    rcases hF with⟨h1,h2⟩|⟨cs,h1,h2⟩
    ·exact⟨_,.inl ⟨rfl,h2⟩,h1⟩
    ·exact⟨_,.inr ⟨cs,rfl,h2⟩,h1⟩
   have e:kW c.P c.call c.nt c.ops.toList o (c.rf i) (fR (c.nx i))=.ok v h':=by
    rw[<-vL ho];exact hF'
   have Fo: ∀ j,j∈i::D->j≠i->j∈D:=fun j hj jN=>(List.mem_cons.1 hj).resolve_left jN
   have fin: ∀ (g':G) (w':World) (x:Value),(∀ id y,g.m id=some y->g'.m id=some y)->g'.fw=g.fw->g'.to h.next=g.to h.next->(w'=w∨ ∃ ob,w'=w.alloc ob)->
    c.I7 g' w' h i->(∀ id y,g'.m id=some y->g.m id=some y∨(c.bd i=c.nx i+1/\id=c.nx i))->
    (∀ j∈pl.hY,j∈D->c.dB j .al->c.bd j=c.nx j+1->c.bd i=c.nx i+1-> ∀ b,g'.m (c.nx i)=some (b,0)->g'.m (c.nx j)=some (b,0)->i=j)->
    VR (g'.to (max (c.bd i) h.next)) w' v x->c.Inv g' w' h (a.put o.dst x) (i::D) past pl:=by
    intro g' w' x hm hi wV hw hp Xj Vn hx
    have M: ∀ N,tz (g.to N) w (g'.to N) w':=by
     intro N
     have hmN: ∀ id y,(g.to N).m id=some y->(g'.to N).m id=some y:=by
      intro id y e
      simp only[Go.Ab.G.to]at e ⊢
      by_cases jB:id<N
      ·rw[if_pos jB]at e ⊢;exact hm _ _ e
      ·rw[if_neg jB]at e;cases e
     rcases hw with rfl|⟨ob,rfl⟩
     ·exact⟨hmN,fun b k=>by simp only[Go.Ab.G.to]at k ⊢;rw[hi];exact k,fun _ _=>rfl,fun _=>Nat.le_refl _⟩
     ·exact sJ hmN (by simp only[Go.Ab.G.to];exact hi) (by simp only[Go.Ab.G.to];exact Fs)
    have aci: ∀ j,c.I7 g w h j->c.I7 g' w' h j:=by
     intro j p
     rcases hw with rfl|⟨ob,rfl⟩
     ·rcases p with p|⟨v,cs,b,C,el,vs,h1,h2,h3,h4,h5,h6,h7,h8,h9⟩
      ·exact .inl p
      ·exact .inr ⟨v,cs,b,C,el,vs,h1,h2,hm _ _ h3,h4,by rw[hi];exact h5,by rw[wV];exact h6,h7,bD.gg (M _) _ _ h8,h9⟩
     ·exact Fp hm hi Fs wV p
    have wS:HR (g'.to h.next) w' h/\Ext c.g0 c.w0 c.h0 (g'.to h.next) w' h:=by
     rw[wV]
     rcases hw with rfl|⟨ob,rfl⟩
     ·exact⟨I.st.hr,I.st.ext⟩
     ·obtain⟨E,H⟩:=CC I.st.hr ob
      exact⟨H,I.st.ext.trans E⟩
    exact
    {run:=I.run
     stat:=I.stat
     closed:=hC
     zf:=fun j hj=>(I.zf j hj).imp id (List.mem_cons_of_mem _)
     P':=fun j hj h=>by
      rcases List.mem_cons.1 h with rfl|h
      ·cases c.kp fY (Hd I.run j hj)
      ·exact I.P' j hj h
     vK:=fun j hj=>List.mem_cons_of_mem _ (I.vK j hj)
     Vl:=fun j hj=>(I.Vl j hj).imp id (List.mem_cons_of_mem _)
     st:=⟨wS.1,wS.2,fun j hj Fm Ch=>by
      by_cases EH:j=i
      ·subst EH;exact hp
      ·exact aci j (I.st.Fl j hj (Fo j Fm EH) Ch),fun j hj k hk jD kD jc kc bj bk b mj mk=>by
      by_cases EH:j=i<;>by_cases hki:k=i
      ·exact EH.trans hki.symm
      ·subst EH
       exact Vn k hk (Fo k kD hki) kc bk bj b mj mk
      ·subst hki
       exact(Vn j hj (Fo j jD EH) jc bj bk b mk mj).symm
      ·have nj:g.m (c.nx j)=some (b,0):=by
        rcases Xj _ _ mj with m|⟨b1,b2⟩
        ·exact m
        ·exact absurd (c.tP I.run j hj i G9 jc fY bj b1 b2) EH
       have nk:g.m (c.nx k)=some (b,0):=by
        rcases Xj _ _ mk with m|⟨b1,b2⟩
        ·exact m
        ·exact absurd (c.tP I.run k hk i G9 kc fY bk b1 b2) hki
       exact I.st.I8 j hj k hk (Fo j jD EH) (Fo k kD hki) jc kc bj bk b nj nk⟩
     Vm:=fun n y e=>by
      rcases Xj n y e with m|⟨b1,b2⟩
      ·exact(I.Vm n y m).imp id fun⟨j,hj,hD,r⟩=>⟨j,hj,List.mem_cons_of_mem _ hD,r⟩
      ·exact .inr ⟨i,G9,List.mem_cons_self,fY,b1,b2⟩
     qJ:=vc G0 ho I.size I.qJ (fun j _=>M _) Ae (fun d hd=>⟨(hS d hd).1,v,(hS d hd).2,hx⟩)
     free:=xS ho I.size I.free (M _)
     size:=by rw[xR];exact I.size
     defers:=by rw[put_defers];exact I.defers}
   refine LO G0.call ho hk (LN (g:=g.to (c.nx i)) Fs) T e (fun h1 x w' hw hv=>?_) (fun cs C el vs x h1 eI hCv hv=>?_)
   ·have hb:c.bd i=c.nx i:=by
     rcases hh' with⟨_,h2⟩|⟨cs,h2,_⟩
     ·exact h2
     ·rw[h2]at h1
      have:=congrArg Hp.next h1
      exact absurd this (Nat.succ_ne_self _)
    exact sim G0 K s _ _ _ _ _ _ _ L (fin g w' x (fun _ _ m=>m) rfl rfl hw (.inl hb) (fun id y m=>.inl m) (fun j _ _ _ _ k=>by omega) (hv _ _))
   ·have hb:c.bd i=c.nx i+1:=by
     rcases hh' with⟨h2,_⟩|⟨cs',_,h2⟩
     ·rw[h2]at h1
      have:=congrArg Hp.next h1
      exact absurd this.symm (Nat.succ_ne_self _)
     ·exact h2
    have ack:g.m (c.nx i)=none:=by
     cases hm:g.m (c.nx i)with
     |none=>rfl
     |some y=>
      rcases I.Vm _ _ hm with h|⟨j,hj,hD,Ch,hjb,hje⟩
      ·omega
      ·have:=c.tP I.run i G9 j hj fY Ch hb hjb hje
       exact absurd (this▸hD) Ae
    have Ki: ∀ id y,g.m id=some y->(g.add (c.nx i) w.heap.size).m id=some y:=by
     intro id y m
     simp only[G.add]
     rw[if_neg (fun k=>by rw[k,ack]at m;cases m)]
     exact m
    have Vk:(g.add (c.nx i) w.heap.size).m (c.nx i)=some (w.heap.size,0):=by simp[G.add]
    have wV:(g.add (c.nx i) w.heap.size).to h.next=g.to h.next:=G.LU hnx
    have zl:(w.alloc (.cells C el)).heap[w.heap.size]? =some (.cells C el (0,0)):=by rw[pz,if_pos rfl]
    have sD:C.size<=dU (w.alloc (.cells C el)) w.heap.size:=by rw[r6];exact Nat.le_refl _
    rw[h1]at hF'
    refine sim G0 K s _ _ _ _ _ _ _ L (fin (g.add (c.nx i) w.heap.size) _ x Ki rfl wV (.inr ⟨_,rfl⟩) (.inr ⟨v,cs,w.heap.size,C,FT.nw C el,vs,hb,hF',Vk,zl,?_,?_,I.st.ext.size,?_,hCv⟩)
     (fun id y m=>?_) (fun j hj Fm Ch hjb _ b m1 m2=>?_) (hv _ _ ?_ sD))
    ·intro k
     exact absurd (Fs _ k) (Nat.lt_irrefl _)
    ·rw[wV]
     rintro⟨id,cs',s,e,m⟩
     obtain⟨_,_,_,hw,_⟩:=I.st.hr.row e m
     have:=(Array.getElem?_eq_some_iff.1 hw).1
     omega
    ·have hT:(g.add (c.nx i) w.heap.size).to (c.nx i)=g.to (c.nx i):=G.LU (Nat.le_refl _)
     rw[hT]
     exact bD.gg (sJ (fun _ _ m=>m) rfl (by simp only[Go.Ab.G.to];exact Fs)) _ _ eI
    ·by_cases jB:id=c.nx i
     ·exact .inr ⟨hb,jB⟩
     ·simp only[G.add,if_neg jB]at m
      exact .inl m
    ·rw[Vk]at m1
     obtain⟨rfl,_⟩:=Prod.mk.inj (Option.some.inj m1)
     have jN:c.nx j≠c.nx i:=fun k=>Ae (c.tP I.run i G9 j hj fY Ch hb hjb k.symm▸Fm)
     simp only[G.add,if_neg jN]at m2
     rcases I.st.Fl j hj Fm Ch with hp|⟨_,_,b,_,_,_,_,_,h3,h4,_⟩
     ·omega
     ·rw[m2]at h3
      obtain⟨rfl,_⟩:=Prod.mk.inj (Option.some.inj h3)
      have:=(Array.getElem?_eq_some_iff.1 h4).1
      omega
    ·show(Go.Ab.G.to _ _).m (c.nx i)=_
     simp only[Go.Ab.G.to]
     rw[if_pos (by omega)]
     exact Vk
  |ch=>
   have fY:c.dB i .ch:=⟨o,ho,hk⟩
   have G9:=(I.zf i fY).resolve_right Ae
   cases pl with
   |last pre hY=>cases G9
   |cons pre hY q rest=>
    have hq:i=q:=by
     rcases List.mem_cons.1 G9 with h|h
     ·exact h
     ·exact absurd (Bb q (I.stat.2.2.1 i h)) (I.P' q List.mem_cons_self)
    subst hq
    obtain⟨_,h1,Xk,_,v,h2,hF,hS,hR,hb,hle,kr⟩:=I.run
    have ahZ:=c.qH Xk
    have S:=c.settle hY h Xk (fun j hj hc=>Bb j (I.stat.2.1 j hj hc)) I.st (fun j hj hc=>Nat.le_trans hle (c.sI kr j hj hc))
    have T:=I.reads G0.nt hR Ae Bb (N:=h1.next) (Nat.le_refl _) ahZ
    have e:kW c.P c.call c.nt c.ops.toList o (c.rf i) h1=.ok v h2:=by
     rw[<-vL ho];exact hF
    refine A6 G0.call ho S.hr T e fun g' w' x E H' hv=>?_
    obtain⟨G',hG'⟩: ∃ G':G,G'=⟨fun id=>if id<h2.next then g'.m id else g.m id,g'.fw⟩:=⟨_,rfl⟩
    have wV:G'.to h2.next=g':=by
     rw[hG']
     unfold Go.Ab.G.to
     cases g' with
     |mk m im=>
      simp only[G.mk.injEq,and_true]
      funext id
      by_cases jB:id<h2.next
      ·simp only[jB,if_true]
      ·simp only[jB,if_false]
       exact(H'.fresh id (by omega)).symm
    have M0:=E.mono S.hr.toHC
    have Vo: ∀ id y,g.m id=some y->h1.next<=id->h2.next<=id/\ ∃ j∈rest.hY,j∈D/\c.dB j .al/\c.bd j=c.nx j+1/\id=c.nx j:=by
     intro id y m jB
     rcases I.Vm id y m with h|⟨j,hj,Fm,Ch,hjb,rfl⟩
     ·omega
     ·rcases List.mem_append.1 hj with hj|hj
      ·have:=(c.mD Xk j hj Ch).2 hjb
       omega
      ·exact⟨c.sI kr j hj Ch,j,hj,Fm,Ch,hjb,rfl⟩
    have hm: ∀ id y,g.m id=some y->G'.m id=some y:=by
     intro id y m
     rw[hG']
     show(if id<h2.next then g'.m id else g.m id)=some y
     by_cases jB:id<h2.next
     ·rw[if_pos jB]
      have:id<h1.next:=by
       refine Classical.byContradiction fun k=>?_
       have:=(Vo id y m (by omega)).1
       omega
      exact E.m id y (by simp only[Go.Ab.G.to];rw[if_pos this];exact m)
     ·rw[if_neg jB];exact m
    have I2:G'.fw=g'.fw:=by rw[hG']
    have M: ∀ B B',B<=B'->tz (g.to B) w (G'.to B') w':=by
     intro B B' hB
     refine⟨?_,fun b k=>?_,fun b k=>?_,E.rows⟩
     ·intro id y k
      simp only[Go.Ab.G.to]at k ⊢
      by_cases jB:id<B
      ·rw[if_pos jB]at k
       rw[if_pos (by omega)]
       exact hm id y k
      ·rw[if_neg jB]at k;cases k
     ·show G'.fw b
      rw[I2]
      exact E.fw b k
     ·exact E.rL b (Fs b k) (S.hr.mc k)
    refine sim G0 K s (i::D) (i::past) rest G' w' h2 (a.put o.dst x) L ?_
    have He: ∀ j∈rest.hY,j∈hY++rest.hY:=fun j hj=>List.mem_append_right _ hj
    have Fo: ∀ j,c.dB j .al->j∈i::D->j∈D:=by
     intro j hj h
     refine(List.mem_cons.1 h).resolve_left fun e=>?_
     subst e
     cases c.kp fY hj
    exact
    {run:=kr
     stat:=I.stat.2.2.2
     closed:=hC
     zf:=fun j hj=>by
      rcases I.zf j hj with h|h
      ·rcases List.mem_cons.1 h with rfl|h
       ·exact .inr List.mem_cons_self
       ·exact .inl h
      ·exact .inr (List.mem_cons_of_mem _ h)
     P':=fun j hj h=>by
      rcases List.mem_cons.1 h with rfl|h
      ·
       exact absurd (Bb j (I.stat.2.2.1 j hj)) Ae
      ·exact I.P' j (List.mem_cons_of_mem _ hj) h
     vK:=fun j hj=>by
      rcases List.mem_cons.1 hj with rfl|hj
      ·exact List.mem_cons_self
      ·exact List.mem_cons_of_mem _ (I.vK j hj)
     Vl:=fun j hj=>by
      rcases I.Vl j hj with h|h
      ·rcases List.mem_append.1 h with h|h
       ·exact .inr (List.mem_cons_of_mem _ (Bb j (I.stat.2.1 j h hj)))
       ·exact .inl h
      ·exact .inr (List.mem_cons_of_mem _ h)
     st:=⟨by rw[wV];exact H',by rw[wV];exact S.ext.trans E,fun j hj Fm Ch=>by
      rcases S.Fl j hj (Fo j Ch Fm) Ch with p|⟨v,cs,b,C,el,vs,nW,QZ,h3,h4,h5,h6,h7,h8,h9⟩
      ·exact .inl p
      ·have gG:=(Array.getElem?_eq_some_iff.1 h4).1
       refine .inr ⟨v,cs,b,C,el,vs,nW,QZ,hm _ _ h3,by rw[E.rL b gG h6];exact h4,?_,?_,h7,bD.gg (M _ _ (Nat.le_refl _)) _ _ h8,h9⟩
       ·rw[I2]
        intro k
        rcases E.Iu b k with k|k|k
        ·exact h5 k
        ·exact h6 k
        ·omega
       ·rw[wV]
        intro k
        rcases E.n5 b k with k|k
        ·exact h6 k
        ·omega,fun j hj k hk jD kD jc kc bj bk b mj mk=>by
      have e1: ∀ l∈rest.hY,l∈D->c.dB l .al->c.bd l=c.nx l+1->G'.m (c.nx l)=some (b,0)->g.m (c.nx l)=some (b,0):=by
       intro l hl lD lc lb ml
       have:=c.sI kr l hl lc
       rw[hG']at ml
       simp only at ml
       rw[if_neg (by omega)]at ml
       exact ml
      exact I.st.I8 j (He j hj) k (He k hk) (Fo j jc jD) (Fo k kc kD) jc kc bj bk b (e1 j hj (Fo j jc jD) jc bj mj) (e1 k hk (Fo k kc kD) kc bk mk)⟩
     Vm:=fun n y m=>by
      by_cases hn:n<h2.next
      ·exact .inl hn
      ·rw[hG']at m
       simp only at m
       rw[if_neg hn]at m
       obtain⟨_,j,hj,Fm,r⟩:=Vo n y m (by omega)
       exact .inr ⟨j,hj,List.mem_cons_of_mem _ Fm,r⟩
     qJ:=vc G0 ho I.size I.qJ (fun j _=>M _ _ (by omega)) Ae (fun d hd=>⟨(hS d hd).1,v,(hS d hd).2,by
      have:max (c.bd i) h2.next=h2.next:=by omega
      rw[this,wV];exact hv⟩)
     free:=xS ho I.size I.free (M _ _ (by omega))
     size:=by rw[xR];exact I.size
     defers:=by rw[put_defers];exact I.defers}
end Cx
end Go.Ab

noncomputable section
namespace Go.Ab
variable [Io]
def LV:Value->Value->Bool
 | .string a,.string b=>a.data.toList == b.data.toList
 | .pointer none,.pointer none=>true
 | .map none,.map none=>true
 | .nilFunc,.nilFunc=>true
 | .nilIface,.nilIface=>true
 | .slice none n c,.slice none n' c'=>Nat.beq n n'&&Nat.beq c c'
 | _,_=>false
mutual
def mX:AV->AV->Bool
 | .int k n,.int k' n'=>jv k k'&&eqI n n'
 | .bool a,.bool b=> !(xor a b)
 | .sc a,.sc b=>LV a b
 | .agg a,.agg b=>jO a b
 | .wm a,.wm b=>jO a b
 | .ref i o,.ref i' o'=>Nat.beq i i'&&Nat.beq o o'
 | .ff i o n s,.ff i' o' n' s'=>Nat.beq i i'&&Nat.beq o o'&&Nat.beq n n'&&Nat.beq s s'
 | .kX n a,.kX m b=>Nat.beq n m&&jO a b
 | .jy a,.jy b=>jO a b
 | .fm,.fm=>true
 | .p',.p'=>true
 | .fn f a,.fn f' b=>Nat.beq f f'&&jO a b
 | .sym k s lo hi o,.sym k' s' lo' uX o'=>jv k k'&&(EO s s'&&(eqI lo lo'&&(eqI hi uX&&eqI o o')))
 | .any,.any=>true
 | _,_=>false
def jO:List AV->List AV->Bool
 | [],[]=>true
 |a::l,b::r=>mX a b&&jO l r
 | _,_=>false
end
omit [Io] in
theorem tQ{a b:Int}(h:eqI a b=true):a=b:=by
 cases a<;>cases b<;>simp[eqI]at h<;>simp[h]
omit [Io] in
theorem LW{a b:ByteArray}(h:(a.data.toList == b.data.toList)=true):a=b:=by
 cases a with
 |mk a=>cases b with
  |mk b=>
   congr 1
   exact Array.toList_inj.1 (by simpa using h)
omit [Io] in
theorem LX{a b:Value}(h:LV a b=true):a=b:=by
 unfold LV at h
 split at h
 ·rw[LW h]
 all_goals first|rfl|(cases h;done)|(rw[Bool.and_eq_true]at h;rw[Nat.eq_of_beq_eq_true h.1,Nat.eq_of_beq_eq_true h.2])
section
omit [Io]
mutual
theorem wW: ∀ (a b:AV),mX a b=true->a=b
 | .int k n,b,h=>by cases b<;>simp only[mX,Bool.and_eq_true]at h<;>try cases h
                    rename_i h1 h2
                    rw[eO.1 h1,tQ h2]
 | .bool x,b,h=>by cases b<;>simp only[mX]at h<;>try cases h
                   rename_i y
                   cases x<;>cases y<;>first|rfl|cases h
 | .sc x,b,h=>by cases b<;>simp only[mX]at h<;>try cases h
                 rw[LX h]
 | .agg x,b,h=>by cases b<;>simp only[mX]at h<;>try cases h
                  rw[jn _ _ h]
 | .wm x,b,h=>by cases b<;>simp only[mX]at h<;>try cases h
                 rw[jn _ _ h]
 | .ref i o,b,h=>by cases b<;>simp only[mX,Bool.and_eq_true,Nat.beq_eq]at h<;>try cases h
                    rename_i h1 h2
                    rw[h1,h2]
 | .ff i o n s,b,h=>by cases b<;>simp only[mX,Bool.and_eq_true,Nat.beq_eq]at h<;>try (cases h;done)
                       obtain⟨⟨⟨h1,h2⟩,h3⟩,h4⟩:=h
                       rw[h1,h2,h3,h4]
 | .kX n x,b,h=>by cases b<;>simp only[mX,Bool.and_eq_true,Nat.beq_eq]at h<;>try cases h
                   rename_i h1 h2
                   rw[h1,jn _ _ h2]
 | .jy x,b,h=>by cases b<;>simp only[mX]at h<;>try cases h
                 rw[jn _ _ h]
 | .fm,b,h=>by cases b<;>simp only[mX]at h<;>first|rfl|cases h
 | .p',b,h=>by cases b<;>simp only[mX]at h<;>first|rfl|cases h
 | .any,b,h=>by cases b<;>simp only[mX]at h<;>first|rfl|cases h
 | .sym k s lo hi o,b,h=>by cases b<;>simp only[mX,Bool.and_eq_true]at h<;>try (cases h;done)
                            obtain⟨h1,h2,h3,h4,h5⟩:=h
                            rw[eO.1 h1,K7 h2,tQ h3,tQ h4,tQ h5]
 | .fn f x,b,h=>by cases b<;>simp only[mX,Bool.and_eq_true,Nat.beq_eq]at h<;>try cases h
                   rename_i h1 h2
                   rw[h1,jn _ _ h2]
theorem jn: ∀ (a b:List AV),jO a b=true->a=b
 | [],b,h=>by cases b with
  |nil=>rfl
  |cons _ _=>simp[jO]at h
 |a::l,b,h=>by
  cases b with
  |nil=>simp[jO]at h
  |cons c r=>
   simp only[jO,Bool.and_eq_true]at h
   rw[wW _ _ h.1,jn _ _ h.2]
end
end
def ck(s:eJ)(f:eH)(k:mV):mV:=fun t h=>Ro.rec Rt.bad (fun v _=>Option.rec Rt.bad (fun u=>Bool.rec Rt.bad (k t h) (mX u v)) (s t)) (f t h)
def mn(f:eH):eH:=fun t h=>Ro.rec Ro.bad (fun v h'=>Bool.rec Ro.bad (Ro.ok v h') (Nat.ble h.next h'.next)) (f t h)
def acn:Cl->Cl->Bool
 | .p0,.p0| .p1,.p1| .al,.al| .ch,.ch=>true
 | _,_=>false
omit [Io] in
theorem LY{a b:Cl}(h:acn a b=true):a=b:=by cases a<;>cases b<;>first|rfl|cases h
def ks(i:Nat)(l:List Nat):Bool:=List.rec false (fun a _ ih=>Bool.rec ih true (Nat.beq a i)) l
omit [Io] in
theorem kN{i:Nat}: ∀ {l:List Nat},ks i l=true↔i∈l
 | []=>by simp[ks]
 |a::l=>by
  show(Bool.rec (ks i l) true (Nat.beq a i):Bool)=true↔_
  cases h:Nat.beq a i with
  |true=>
   have:=Nat.eq_of_beq_eq_true h
   subst this
   simp
  |false=>
   have: ¬ i=a:=fun e=>by subst e;simp at h
   simp only[List.mem_cons,this,false_or]
   exact kN
def Ft(p:Nat->Bool)(l:List Nat):Bool:=List.rec false (fun a _ ih=>Bool.rec ih true (p a)) l
omit [Io] in
theorem tR{p:Nat->Bool}: ∀ {l:List Nat},Ft p l=true↔ ∃ i∈l,p i=true
 | []=>by simp[Ft]
 |a::l=>by
  show(Bool.rec (Ft p l) true (p a):Bool)=true↔_
  cases h:p a with
  |true=>simp[h]
  |false=>simp only[List.mem_cons,exists_eq_or_imp,h,Bool.false_eq_true,false_or];exact tR
def allI(p:Nat->Oper->Bool)(l:List Oper):Nat->Bool:=
 List.rec (fun _=>true) (fun o _ ih i=>Bool.rec false (ih (Nat.add i 1)) (p i o)) l
omit [Io] in
theorem Af{p:Nat->Oper->Bool}: ∀ {l:List Oper} {k:Nat},allI p l k=true-> ∀ i o,l[i]? =some o->p (k+i) o=true
 | [],k,_,i,o,h=>by simp at h
 |a::l,k,hh,i,o,h=>by
  change (Bool.rec false (allI p l (k+1)) (p k a):Bool)=true at hh
  cases hp:p k a with
  |false=>rw[hp]at hh;cases hh
  |true=>
   rw[hp]at hh
   cases i with
   |zero=>simp at h;subst h;exact hp
   |succ i=>
    have:=Af hh i o (by simpa using h)
    rwa [show k+1+i=k+(i+1) by omega]at this
omit [Io] in
theorem kO{p:Nat->Oper->Bool}{l:List Oper}(h:allI p l 0=true)(i:Nat)(o:Oper)(ho:l[i]? =some o):p i o=true:=by
 have:=Af h i o ho
 simpa using this
def Hf(l:List Oper):Bool:=allI (fun i o=>cf (fun e=>Bool.rec true (Nat.blt e.on i) (Region.binds .any e)) o.after.toList) l 0
omit [Io] in
theorem RE{ops:Array Oper}(h:Hf ops.toList=true):Down ops:=by
 intro i o e ho he hb
 have:=kO h i o (by simpa using ho)
 rw[hU,List.all_eq_true]at this
 have:=this e (by simpa using he)
 rw[hb]at this
 exact bH.1 this
def Ag(o:Oper)(d:Nat):Bool:=match o.dst with
 |some e=>Nat.beq e d
 |none=>false
omit [Io] in
theorem ve{o:Oper}{d:Nat}(h:o.dst=some d):Ag o d=true:=by unfold Ag;rw[h];simp
def RF(l:List Oper):Bool:=allI (fun i o=>match o.dst with
 |some d=>allI (fun j o'=>Bool.rec true (Nat.beq i j) (Ag o' d)) l 0
 |none=>true) l 0
section
variable (P:Program)(call:cX)(nt:Nat)(L:List Oper)
def tT(k:Cl)(i:Nat):Bool:=match kY L i with
 |some o=>acn (po P call o.op).1 k
 |none=>false
def EI(bS:List Nat)(i:Nat):Bool:=match kY L i with
 |some o=>cf (fun u=>Nat.blt u nt&&Bool.rec (allI (fun j o'=>Bool.rec true (!ks j bS&&(Fi L j i&& !Fi L i j)) (Ag o' u)) L 0) true (allI (fun j o'=>Bool.rec true (ks j bS&&Fi L i j) (Ag o' u)) L 0)) (ru L o)
 |none=>false
def RG(i:Nat)(k:mV):mV:=match kY L i with
 |some o=>match o.dst with
  |some d=>iu (Nat.blt d nt) (st (sT d) (kW P call nt L o) k) (fun _ _=>.bad)
  |none=>sn (kW P call nt L o) k
 |none=>fun _ _=>.bad
def Xl(i:Nat)(k:mV):mV:=match kY L i with
 |some o=>match o.dst with
  |some d=>iu (Nat.blt d nt) (ck (oT d) (kW P call nt L o) k) (fun _ _=>.bad)
  |none=>sn (kW P call nt L o) k
 |none=>fun _ _=>.bad
def runM(i:Nat)(k:mV):mV:=match kY L i with
 |some o=>match o.dst with
  |some d=>iu (Nat.blt d nt) (st (sT d) (mn (kW P call nt L o)) k) (fun _ _=>.bad)
  |none=>sn (mn (kW P call nt L o)) k
 |none=>fun _ _=>.bad
def nK:List Nat->List Nat->(List Nat->mV)->mV
 | [],bS,k=>k bS
 |i::l,bS,k=>iu (EI nt L bS i) (iu (ks i bS) (iu (tT P call L .p1 i) (Xl P call nt L i (nK l bS k)) (fun _ _=>.bad))
  (iu (tT P call L .p0 i||tT P call L .p1 i) (RG P call nt L i (nK l (i::bS) k)) (fun _ _=>.bad))) (fun _ _=>.bad)
def Fu:List Nat->List Nat->(List Nat->mV)->mV
 | [],bS,k=>k bS
 |i::l,bS,k=>iu (EI nt L bS i&&(!ks i bS&&(tT P call L .p0 i||tT P call L .al i))) (RG P call nt L i (Fu l (i::bS) k)) (fun _ _=>.bad)
def oh:lK->List Nat->mV
 | .last pre hY,bS=>nK P call nt L pre bS fun bS=>Fu P call nt L hY bS fun bS=>iu (allI (fun i _=>ks i bS) L 0) fi (fun _ _=>.bad)
 | .cons pre hY q rest,bS=>nK P call nt L pre bS fun bS=>Fu P call nt L hY bS fun bS=>
   iu (EI nt L bS q&&(!ks q bS&&tT P call L .ch q)) (runM P call nt L q (oh rest (q::bS))) (fun _ _=>.bad)
def Ah:lK->List Nat->Bool
 | .last pre _,past=>allI (fun i _=>Bool.rec true (Ft (fun j=>Fi L j i) past||ks i pre) (tT P call L .p1 i)) L 0
 | .cons pre hY q rest,past=>allI (fun i _=>Bool.rec true (Ft (fun j=>Fi L j i) past||(Ft (fun j=>Fi L i j) (q::rest.zf)||ks i pre)) (tT P call L .p1 i)) L 0&&
   (cf (fun i=>Bool.rec true (Fi L q i) (tT P call L .al i)) hY&&(cf (fun q'=>Fi L q' q) rest.zf&&Ah rest (q::past)))
end
end Go.Ab

noncomputable section
namespace Go.Ab
variable [Io]
section
variable {P:Program}{call:cX}
def Jb(f:eH):Prop:= ∀ t h v h',f t h=.ok v h'->h'=h
omit [Io] in
theorem wX{b:Bool}{x:Ro}{v:AV}{h:Hp}(e:(bif b then x else .bad)=.ok v h):x=.ok v h:=by cases b;cases e;exact e
omit [Io] in
theorem kt:Jb bE:=by intro t h v h' e;cases e
omit [Io] in
theorem LZ{c:Bool}{f:eH}(i:Jb f):Jb (iu c f bE):=by cases c;exact kt;exact i
omit [Io] in
theorem RH{n:Nat}{b:Bool}{x:eJ}:Jb (bg n b x):=by
 intro t h v h' e
 unfold bg at e
 split at e
 ·split at e
  ·cases e;rfl
  ·cases e
 ·cases e
omit [Io] in
theorem Jc{x:eJ}{lo hi:Option eJ}:Jb (dg x lo hi):=by
 intro t h v h' e
 unfold dg at e
 split at e
 ·split at e
  ·cases e;rfl
  ·cases e
 ·cases e
omit [Io] in
theorem L1{n:Nat}{x:eJ}{lo hi:Option eJ}:Jb (nH n x lo hi):=by
 intro t h v h' e
 unfold nH at e
 split at e
 ·split at e
  ·cases e;rfl
  ·cases e
 ·split at e
  ·have e:=wX e
   cases e;rfl
  ·cases e
 ·split at e
  ·cases e;rfl
  ·cases e
 ·cases e
omit [Io] in
theorem Jd{n:Nat}{x:eJ}{lo hi:Option eJ}:Jb (cK n x lo hi):=by
 intro t h v h' e
 unfold cK at e
 split at e
 ·rename_i a hx
  cases hE:sA a with
  |false=>rw[hE]at e;exact L1 _ _ _ _ e
  |true=>
   rw[hE]at e
   simp only[cond_true]at e
   split at e
   ·cases e;rfl
   ·cases e
 ·cases e
omit [Io] in
theorem Je{n m:Nat}{x:eJ}{lo hi:Option eJ}:Jb (iO n m x lo hi):=by
 intro t h v h' e
 unfold iO at e
 split at e
 ·split at e
  ·split at e
   ·have e:=wX e
    cases e;rfl
   ·cases e
  ·cases e
 ·cases e
omit [Io] in
theorem Xm{x y z:eJ}:Jb (xr x y z):=by
 intro t h v h' e
 unfold xr at e
 split at e
 ·split at e
  ·have e:=wX e
   split at e
   ·cases e;rfl
   ·cases e;rfl
   ·cases e;rfl
   ·cases e
  ·cases e
 ·cases e
omit [Io] in
theorem Xn{x:eJ}:Jb (wu x):=by
 intro t h v h' e
 unfold wu at e
 split at e
 ·split at e
  ·split at e
   ·have e:=wX e
    cases e;rfl
   ·cases e
  ·cases e
 ·cases e
omit [Io] in
theorem Xo{o:Op}(hc:(po P call o).1=.p1):Jb (po P call o).2:=by
 cases o<;>simp only[po]at hc ⊢
 case load T x=>
  unfold CO
  split
  ·split
   ·exact RH
   ·exact kt
  ·exact kt
 case slice T x lo hi mx=>
  cases mx with
  |some m=>
   simp only
   unfold tJ
   split
   ·split
    ·split
     ·exact Xm
     ·exact kt
    ·exact kt
   ·exact kt
  |none=>
   simp only
   unfold xI
   split
   ·exact Jc
   ·split
    ·exact Jd
    ·exact kt
   ·split
    ·exact LZ Je
    ·exact kt
   ·exact kt
 case binOp op T x y yT=>cases h:CN P op T<;>rw[h]at hc<;>cases hc
 case unOp op T x=>cases h:Xd op<;>rw[h]at hc<;>cases hc
 case convert S D x=>
  cases h:P.underlying D with
  |none=>rw[h]at hc;cases hc
  |some d=>
   cases d<;>rw[h]at hc<;>first|(cases hc;done)|skip
   simp only
   unfold Lr
   split
   ·split
    ·exact Xn
    ·exact kt
   ·exact kt
 case makeFunc f first caps=>
  cases f<;>try (cases hc;done)
  simp only at hc
  cases h:first.toList<;>rw[h]at hc<;>cases hc
 case makeMap T r=>cases r<;>cases hc
 case call c=>cases h:jl P c<;>rw[h]at hc<;>cases hc
 all_goals (cases hc)
omit [Io] in
theorem L2{nt:Nat}{all:List Oper}{o:Oper}(fY:(po P call o.op).1=.p1):Jb (kW P call nt all o):=by
 have hf:Jb (po P call o.op).2:=Xo fY
 unfold kW
 cases o.guard with
 |none=>exact hf
 |some p=>
  obtain⟨j,want⟩:=p
  simp only
  split
  ·split
   ·refine LZ ?_
    intro t h v h' e
    unfold gF at e
    split at e
    ·rename_i b _
     cases hw:iu want b (!b)with
     |false=>rw[hw]at e;cases e;rfl
     |true=>rw[hw]at e;exact hf t h v h' e
    ·cases e;rfl
    ·cases e
   ·exact kt
  ·exact kt
end
omit [Io] in
theorem oi{b x:Bool}(h:(Bool.rec true x b:Bool)=true)(hb:b=true):x=true:=by subst hb;exact h
namespace Cx
variable {c:Cx}
omit [Io] in
theorem kF{k:Cl}{i:Nat}:tT c.P c.call c.ops.toList k i=true↔c.dB i k:=by
 unfold tT dB
 rw[gD]
 constructor
 ·intro h
  split at h
  ·rename_i o ho
   exact⟨o,by simpa using ho,LY h⟩
  ·cases h
 ·rintro⟨o,ho,hk⟩
  have:c.ops.toList[i]? =some o:=by simpa using ho
  rw[this,<-hk]
  simp only
  cases(po c.P c.call o.op).1<;>rfl
omit [Io] in
theorem xU{bS:List Nat}{i:Nat}(h:EI c.nt c.ops.toList bS i=true): ∀ u∈c.P9 i,u<c.nt/\((∀ j,c.mg j u->j∈bS/\c.An i j)∨ ∀ j,c.mg j u->j∉bS/\c.An j i/\ ¬ c.An i j):=by
 unfold EI at h
 rw[gD]at h
 unfold P9
 intro u hu
 cases ho:c.ops[i]? with
 |none=>rw[ho]at hu;cases hu
 |some o=>
  rw[ho]at hu
  have:c.ops.toList[i]? =some o:=by simpa using ho
  rw[this]at h
  simp only[hU,List.all_eq_true]at h
  have:=h u hu
  rw[Bool.and_eq_true]at this
  refine⟨bH.1 this.1,?_⟩
  cases h1:allI (fun j o'=>Bool.rec true (ks j bS&&Fi c.ops.toList i j) (Ag o' u)) c.ops.toList 0 with
  |true=>
   refine .inl ?_
   rintro j ⟨oj,hoj,hd⟩
   have h2:=oi (kO h1 j oj (by simpa using hoj)) (ve hd)
   rw[Bool.and_eq_true,kN]at h2
   exact h2
  |false=>
   rw[h1]at this
   refine .inr ?_
   rintro j ⟨oj,hoj,hd⟩
   have h2:=oi (kO this.2 j oj (by simpa using hoj)) (ve hd)
   simp only[Bool.and_eq_true,Bool.not_eq_true']at h2
   refine⟨fun k=>?_,h2.2.1,fun k=>?_⟩
   ·rw[kN.2 k]at h2;cases h2.1
   ·unfold An at k;rw[k]at h2;cases h2.2.2
def Cov(c:Cx)(bS:List Nat)(u:Nat):Prop:= ∀ j,c.mg j u->j∈bS
def Vp(c:Cx)(bS:List Nat)(t:Tm):Prop:= ∀ u,u<512->(∀ j,c.mg j u->j∉bS)->t.at u=c.t0.at u
def Fr(c:Cx)(bS:List Nat)(t:Tm):Prop:= ∀ u,u<512->c.Cov bS u->c.te.at u=t.at u
omit [Io] in
theorem tU{i:Nat}{k:mV}{t:Tm}{h:Hp}{te:Tm}{hE:Hp}(e:RG c.P c.call c.nt c.ops.toList i k t h=.ok te hE):
 ∃ o v h1 t1,c.ops[i]? =some o/\kW c.P c.call c.nt c.ops.toList o t h=.ok v h1/\k t1 h1=.ok te hE/\((∃ d,o.dst=some d/\d<c.nt/\t1=sT d v t)∨(o.dst=none/\t1=t)):=by
 unfold RG at e
 rw[gD]at e
 cases ho:c.ops.toList[i]? with
 |none=>rw[ho]at e;cases e
 |some o=>
  rw[ho]at e
  simp only at e
  have mh:c.ops[i]? =some o:=by simpa using ho
  cases hd:o.dst with
  |none=>
   rw[hd]at e
   change sn (kW c.P c.call c.nt c.ops.toList o) k t h=_ at e
   unfold sn at e
   cases hg:kW c.P c.call c.nt c.ops.toList o t h with
   |bad=>rw[hg]at e;cases e
   |ok v h1=>rw[hg]at e;exact⟨o,v,h1,t,mh,hg,e,.inr ⟨hd,rfl⟩⟩
  |some d=>
   rw[hd]at e
   simp only at e
   cases hb:Nat.blt d c.nt with
   |false=>rw[hb]at e;cases e
   |true=>
    rw[hb]at e
    change st (sT d) (kW c.P c.call c.nt c.ops.toList o) k t h=_ at e
    unfold st at e
    cases hg:kW c.P c.call c.nt c.ops.toList o t h with
    |bad=>rw[hg]at e;cases e
    |ok v h1=>rw[hg]at e;exact⟨o,v,h1,_,mh,hg,e,.inl ⟨d,hd,bH.1 hb,rfl⟩⟩
omit [Io] in
theorem Hg{f:eH}{t:Tm}{h h':Hp}{v:AV}(e:mn f t h=.ok v h'):f t h=.ok v h'/\h.next<=h'.next:=by
 unfold mn at e
 cases hf:f t h with
 |bad=>rw[hf]at e;cases e
 |ok v1 h1=>
  rw[hf]at e
  change (Bool.rec Ro.bad (Ro.ok v1 h1) (Nat.ble h.next h1.next):Ro)=_ at e
  cases hb:Nat.ble h.next h1.next with
  |false=>rw[hb]at e;cases e
  |true=>rw[hb]at e;cases e;exact⟨rfl,Nat.ble_eq.mp hb⟩
omit [Io] in
theorem C1{i:Nat}{k:mV}{t:Tm}{h:Hp}{te:Tm}{hE:Hp}(e:runM c.P c.call c.nt c.ops.toList i k t h=.ok te hE):
 ∃ o v h1 t1,c.ops[i]? =some o/\kW c.P c.call c.nt c.ops.toList o t h=.ok v h1/\h.next<=h1.next/\k t1 h1=.ok te hE/\((∃ d,o.dst=some d/\d<c.nt/\t1=sT d v t)∨(o.dst=none/\t1=t)):=by
 unfold runM at e
 rw[gD]at e
 cases ho:c.ops.toList[i]? with
 |none=>rw[ho]at e;cases e
 |some o=>
  rw[ho]at e
  simp only at e
  have mh:c.ops[i]? =some o:=by simpa using ho
  cases hd:o.dst with
  |none=>
   rw[hd]at e
   change sn (mn (kW c.P c.call c.nt c.ops.toList o)) k t h=_ at e
   unfold sn at e
   cases hg:mn (kW c.P c.call c.nt c.ops.toList o) t h with
   |bad=>rw[hg]at e;cases e
   |ok v h1=>rw[hg]at e;exact⟨o,v,h1,t,mh,(Hg hg).1,(Hg hg).2,e,.inr ⟨hd,rfl⟩⟩
  |some d=>
   rw[hd]at e
   simp only at e
   cases hb:Nat.blt d c.nt with
   |false=>rw[hb]at e;cases e
   |true=>
    rw[hb]at e
    change st (sT d) (mn (kW c.P c.call c.nt c.ops.toList o)) k t h=_ at e
    unfold st at e
    cases hg:mn (kW c.P c.call c.nt c.ops.toList o) t h with
    |bad=>rw[hg]at e;cases e
    |ok v h1=>rw[hg]at e;exact⟨o,v,h1,_,mh,(Hg hg).1,(Hg hg).2,e,.inl ⟨d,hd,bH.1 hb,rfl⟩⟩
omit [Io] in
theorem C3{i:Nat}{k:mV}{t:Tm}{h:Hp}{te:Tm}{hE:Hp}(hc:c.dB i .p1)(e:Xl c.P c.call c.nt c.ops.toList i k t h=.ok te hE):
 ∃ o v,c.ops[i]? =some o/\kW c.P c.call c.nt c.ops.toList o t h=.ok v h/\k t h=.ok te hE/\ ∀ d,o.dst=some d->d<c.nt/\t.at d=some v:=by
 unfold Xl at e
 rw[gD]at e
 cases ho:c.ops.toList[i]? with
 |none=>rw[ho]at e;cases e
 |some o=>
  rw[ho]at e
  simp only at e
  have mh:c.ops[i]? =some o:=by simpa using ho
  have hlv: ∀ v h1,kW c.P c.call c.nt c.ops.toList o t h=.ok v h1->h1=h:=by
   intro v h1 hg
   obtain⟨o',nW,QZ⟩:=hc
   rw[mh]at nW
   cases nW
   exact L2 QZ _ _ _ _ hg
  cases hd:o.dst with
  |none=>
   rw[hd]at e
   change sn (kW c.P c.call c.nt c.ops.toList o) k t h=_ at e
   unfold sn at e
   cases hg:kW c.P c.call c.nt c.ops.toList o t h with
   |bad=>rw[hg]at e;cases e
   |ok v h1=>
    rw[hg]at e
    obtain rfl:=hlv v h1 hg
    exact⟨o,v,mh,hg,e,fun d h=>by rw[hd]at h;cases h⟩
  |some d=>
   rw[hd]at e
   simp only at e
   cases hb:Nat.blt d c.nt with
   |false=>rw[hb]at e;cases e
   |true=>
    rw[hb]at e
    change ck (oT d) (kW c.P c.call c.nt c.ops.toList o) k t h=_ at e
    unfold ck at e
    cases hg:kW c.P c.call c.nt c.ops.toList o t h with
    |bad=>rw[hg]at e;cases e
    |ok v h1=>
     rw[hg]at e
     obtain rfl:=hlv v h1 hg
     change (Option.rec Rt.bad (fun u=>Bool.rec Rt.bad (k t h1) (mX u v)) (t.at d):Rt)=_ at e
     cases ht:t.at d with
     |none=>rw[ht]at e;cases e
     |some u=>
      rw[ht]at e
      change (Bool.rec Rt.bad (k t h1) (mX u v):Rt)=_ at e
      cases hq:mX u v with
      |false=>rw[hq]at e;cases e
      |true=>
       rw[hq]at e
       obtain rfl:=wW _ _ hq
       exact⟨o,u,mh,hg,e,fun d' h=>by rw[hd]at h;cases h;exact⟨bH.1 hb,ht⟩⟩
omit [Io] in
theorem tW{bS:List Nat}{i:Nat}{o:Oper}{t t1:Tm}{v:AV}(jw:c.nt<=512)(ho:c.ops[i]? =some o)(hi:i∉bS)
 (ht:(∃ d,o.dst=some d/\d<c.nt/\t1=sT d v t)∨(o.dst=none/\t1=t))(F:c.Fr (i::bS) t1):c.Fr bS t:=by
 intro u hu hc
 rw[F u hu (fun j hj=>List.mem_cons_of_mem _ (hc j hj))]
 rcases ht with⟨d,hd,Kk,rfl⟩|⟨_,rfl⟩
 ·show(Tm.put t d (some v)).at u=t.at u
  rw[Tm.jA _ _ _ _ (Nat.lt_of_lt_of_le Kk jw) hu,if_neg]
  intro e
  subst e
  exact hi (hc i ⟨o,ho,hd⟩)
 ·rfl
omit [Io] in
theorem ou{i:Nat}{l:List Nat}(h:ks i l=false):i∉l:=fun k=>by rw[kN.2 k]at h;cases h
omit [Io] in
theorem ry(jw:c.nt<=512){k:List Nat->mV}(hk: ∀ bS t h,k bS t h=.ok c.te c.hE->c.Fr bS t): ∀ (pre bS:List Nat) (t:Tm) (h:Hp),
 nK c.P c.call c.nt c.ops.toList pre bS k t h=.ok c.te c.hE->c.Fr bS t
 | [],bS,t,h,e=>hk bS t h e
 |i::l,bS,t,h,e=>by
  unfold nK at e
  cases h1:EI c.nt c.ops.toList bS i with
  |false=>rw[h1]at e;cases e
  |true=>
  rw[h1]at e
  simp only[iu]at e
  cases h2:ks i bS with
  |true=>
   rw[h2]at e
   cases h3:tT c.P c.call c.ops.toList .p1 i with
   |false=>rw[h3]at e;cases e
   |true=>
    rw[h3]at e
    obtain⟨o,v,_,_,e,_⟩:=C3 (kF.1 h3) e
    exact ry jw hk l bS t h e
  |false=>
   rw[h2]at e
   cases h3:(tT c.P c.call c.ops.toList .p0 i||tT c.P c.call c.ops.toList .p1 i)with
   |false=>rw[h3]at e;cases e
   |true=>
    rw[h3]at e
    obtain⟨o,v,nW,t1,ho,_,e,ht⟩:=tU e
    exact tW jw ho (ou h2) ht (ry jw hk l (i::bS) t1 nW e)
omit [Io] in
theorem pA(jw:c.nt<=512){k:List Nat->mV}(hk: ∀ bS t h,k bS t h=.ok c.te c.hE->c.Fr bS t): ∀ (hY bS:List Nat) (t:Tm) (h:Hp),
 Fu c.P c.call c.nt c.ops.toList hY bS k t h=.ok c.te c.hE->c.Fr bS t
 | [],bS,t,h,e=>hk bS t h e
 |i::l,bS,t,h,e=>by
  unfold Fu at e
  cases h1:(EI c.nt c.ops.toList bS i&&(!ks i bS&&(tT c.P c.call c.ops.toList .p0 i||tT c.P c.call c.ops.toList .al i)))with
  |false=>rw[h1]at e;cases e
  |true=>
   rw[h1]at e
   simp only[iu]at e
   simp only[Bool.and_eq_true,Bool.not_eq_true']at h1
   obtain⟨o,v,nW,t1,ho,_,e,ht⟩:=tU e
   exact tW jw ho (ou h1.2.1) ht (pA jw hk l (i::bS) t1 nW e)
omit [Io] in
theorem tX(jw:c.nt<=512): ∀ (pl:lK) (bS:List Nat) (t:Tm) (h:Hp),oh c.P c.call c.nt c.ops.toList pl bS t h=.ok c.te c.hE->c.Fr bS t
 | .last pre hY,bS,t,h,e=>by
  unfold oh at e
  refine ry jw (fun bS t h e=>?_) pre bS t h e
  refine pA jw (fun bS t h e=>?_) hY bS t h e
  cases hb:allI (fun i _=>ks i bS) c.ops.toList 0 with
  |false=>rw[hb]at e;cases e
  |true=>
   rw[hb]at e
   obtain⟨rfl,_⟩:=Rt.ok.inj e
   exact fun u _ _=>rfl
 | .cons pre hY q rest,bS,t,h,e=>by
  unfold oh at e
  refine ry jw (fun bS t h e=>?_) pre bS t h e
  refine pA jw (fun bS t h e=>?_) hY bS t h e
  cases h1:(EI c.nt c.ops.toList bS q&&(!ks q bS&&tT c.P c.call c.ops.toList .ch q))with
  |false=>rw[h1]at e;cases e
  |true=>
   rw[h1]at e
   simp only[iu]at e
   simp only[Bool.and_eq_true,Bool.not_eq_true']at h1
   obtain⟨o,v,nW,t1,ho,_,_,e,ht⟩:=C1 e
   exact tW jw ho (ou h1.2.1) ht (tX jw rest (q::bS) t1 nW e)
omit [Io] in
theorem xV{bS:List Nat}{i:Nat}{o:Oper}{t t1:Tm}{v:AV}(jw:c.nt<=512)(ho:c.ops[i]? =some o)
 (ht:(∃ d,o.dst=some d/\d<c.nt/\t1=sT d v t)∨(o.dst=none/\t1=t))(F:c.Vp bS t):c.Vp (i::bS) t1:=by
 intro u hu hc
 rw[<-F u hu (fun j hj k=>hc j hj (List.mem_cons_of_mem _ k))]
 rcases ht with⟨d,hd,Kk,rfl⟩|⟨_,rfl⟩
 ·show(Tm.put t d (some v)).at u=t.at u
  rw[Tm.jA _ _ _ _ (Nat.lt_of_lt_of_le Kk jw) hu,if_neg]
  intro e
  subst e
  exact hc i ⟨o,ho,hd⟩ List.mem_cons_self
 ·rfl
omit [Io] in
theorem aco{i u:Nat}(gG: ∀ u∈c.P9 i,u<512)(hu:u∈c.P9 i):((∃ j,c.mg j u/\c.An i j)/\(c.rf i).at u=c.te.at u)∨((¬ ∃ j,c.mg j u/\c.An i j)/\(c.rf i).at u=c.t0.at u):=by
 have key: ∀ (l:List Nat),(∀ u∈l,u<512)->u∈l->((∃ j,c.mg j u/\c.An i j)/\(c.Km i l).at u=c.te.at u)∨((¬ ∃ j,c.mg j u/\c.An i j)/\(c.Km i l).at u=c.t0.at u):=by
  intro l
  induction l with
  |nil=>intro _ h;cases h
  |cons x l ih=>
   intro hl hm
   rw[Km,Tm.jA _ _ _ _ (hl x List.mem_cons_self) (hl u hm)]
   by_cases hx:u=x
   ·subst hx
    rw[if_pos rfl]
    by_cases hw: ∃ j,c.mg j u/\c.An i j
    ·rw[if_pos hw];exact .inl ⟨hw,rfl⟩
    ·rw[if_neg hw];exact .inr ⟨hw,rfl⟩
   ·rw[if_neg hx]
    exact ih (fun y hy=>hl y (List.mem_cons_of_mem _ hy)) ((List.mem_cons.1 hm).resolve_left hx)
 exact key _ gG hu
omit [Io] in
theorem C4{bS:List Nat}{i:Nat}{o:Oper}{t:Tm}{h h1:Hp}{v:AV}(jw:c.nt<=512)(ic: ∀ u,u<512->(∀ j,¬ c.mg j u)->c.te.at u=c.t0.at u)(F:c.Fr bS t)(hO:c.Vp bS t)(ho:c.ops[i]? =some o)(hr:EI c.nt c.ops.toList bS i=true)
 (e:kW c.P c.call c.nt c.ops.toList o t h=.ok v h1):c.FE i (c.rf i) h=.ok v h1:=by
 rw[vL ho,<-e]
 refine Rq fun u hu=>?_
 rw[<-Xh ho]at hu
 have gG: ∀ u∈c.P9 i,u<512:=fun u hu=>Nat.lt_of_lt_of_le (xU hr u hu).1 jw
 obtain⟨_,P8⟩:=xU hr u hu
 rcases aco gG hu with⟨⟨j,hj,hA⟩,er⟩|⟨hno,er⟩
 ·rw[er]
  rcases P8 with h1|h1
  ·exact F u (gG u hu) (fun j hj=>(h1 j hj).1)
  ·exact absurd hA (h1 j hj).2.2
 ·rw[er]
  rcases P8 with h1|h1
  ·have hn: ∀ j,¬ c.mg j u:=fun j hj=>hno ⟨j,hj,(h1 j hj).2⟩
   rw[<-ic u (gG u hu) hn]
   exact F u (gG u hu) (fun j hj=>absurd hj (hn j))
  ·exact(hO u (gG u hu) (fun j hj=>(h1 j hj).1)).symm
omit [Io] in
theorem vf{bS:List Nat}{i:Nat}{o:Oper}{t t1:Tm}{v:AV}(jw:c.nt<=512)(Ci: ∀ i j d,c.mg i d->c.mg j d->i=j)(ho:c.ops[i]? =some o)
 (ht:(∃ d,o.dst=some d/\d<c.nt/\t1=sT d v t)∨(o.dst=none/\t1=t))(F:c.Fr (i::bS) t1):c.Slot i v:=by
 intro d hd
 obtain⟨o',mh,I'⟩:=id hd
 rw[ho]at mh
 cases mh
 rcases ht with⟨d2,GZ,Kk,rfl⟩|⟨hn,_⟩
 ·rw[I']at GZ
  cases GZ
  refine⟨Kk,?_⟩
  rw[F d (Nat.lt_of_lt_of_le Kk jw) (fun j hj=>by rw[Ci j i d hj hd];exact List.mem_cons_self)]
  show(Tm.put t d (some v)).at d=_
  rw[Tm.jA _ _ _ _ (Nat.lt_of_lt_of_le Kk jw) (Nat.lt_of_lt_of_le Kk jw),if_pos rfl]
 ·rw[I']at hn;cases hn
end Cx
end Go.Ab

noncomputable section
namespace Go.Ab
variable [Io]
namespace Cx
def wi(c:Cx)(nx bd:Nat->Nat):Cx:={c with nx:=nx,bd:=bd}
def GI(c:Cx)(i:Nat):Prop:=
 (c.dB i .p0-> ∃ v,(∀ h,c.FE i (c.rf i) h=.ok v h)/\c.Slot i v/\c.py i (c.bd i))/\
 (c.dB i .al-> ∃ v,c.Slot i v/\c.py i (c.nx i)/\((c.FE i (c.rf i) (fR (c.nx i))=.ok v (fR (c.nx i))/\c.bd i=c.nx i)∨
  ∃ cs,c.FE i (c.rf i) (fR (c.nx i))=.ok v (dw (fR (c.nx i)) cs)/\c.bd i=c.nx i+1))
def EE(f:Nat->Nat)(i n:Nat):Nat->Nat:=fun j=>if j=i then n else f j
omit [Io] in
theorem mE{f:Nat->Nat}{i n:Nat}:EE f i n i=n:=if_pos rfl
omit [Io] in
theorem pD{f:Nat->Nat}{i n j:Nat}(h:j≠i):EE f i n j=f j:=if_neg h
variable {c:Cx}
omit [Io] in
theorem L3{nx bd:Nat->Nat}{i:Nat}: ∀ (l:List Nat),(c.wi nx bd).Km i l=c.Km i l
 | []=>rfl
 |u::l=>by
  rw[Km,Km,L3 l]
  rfl
omit [Io] in
theorem C5{nx bd:Nat->Nat}{i:Nat}:(c.wi nx bd).rf i=c.rf i:=L3 _
omit [Io] in
theorem Hh{bS:List Nat}{i N:Nat}(hr:EI c.nt c.ops.toList bS i=true)(hb: ∀ j∈bS,c.bd j<=N):c.py i N:=by
 intro u hu
 obtain⟨h1,h2⟩:=xU hr u hu
 exact⟨h1,h2.imp (fun h j hj=>⟨(h j hj).2,hb j (h j hj).1⟩) (fun h j hj=>(h j hj).2.1)⟩
omit [Io] in
theorem wY(jw:c.nt<=512)(ic: ∀ u,u<512->(∀ j,¬ c.mg j u)->c.te.at u=c.t0.at u)(Ci: ∀ i j d,c.mg i d->c.mg j d->i=j){k:List Nat->mV}(hk: ∀ bS t h,k bS t h=.ok c.te c.hE->c.Fr bS t)
 {Φ:(Nat->Nat)->(Nat->Nat)->List Nat->Prop}{h:Hp}
 (ih: ∀ (bS:List Nat) (t:Tm) (rN qc:Nat->Nat),k bS t h=.ok c.te c.hE->c.Vp bS t->(∀ j∈bS,qc j<=h.next)-> ∃ nx bd,(∀ j∈bS,nx j=rN j/\bd j=qc j)/\Φ nx bd bS):
 ∀ (pre bS:List Nat) (t:Tm) (rN qc:Nat->Nat),nK c.P c.call c.nt c.ops.toList pre bS k t h=.ok c.te c.hE->c.Vp bS t->(∀ j∈bS,qc j<=h.next)->
  ∃ nx bd,(∀ j∈bS,nx j=rN j/\bd j=qc j)/\(c.wi nx bd).P1s pre h/\ ∃ qk,Φ nx bd qk/\ ∀ i∈qk,i∈bS∨((c.wi nx bd).GI i/\(c.dB i .p0∨c.dB i .p1))
 | [],bS,t,rN,qc,e,hO,hb=>by
  obtain⟨nx,bd,h1,h2⟩:=ih bS t rN qc e hO hb
  exact⟨nx,bd,h1,(fun i hi=>by cases hi),bS,h2,fun i hi=>.inl hi⟩
 |i::l,bS,t,rN,qc,e,hO,hb=>by
  have F:=ry jw hk (i::l) bS t h e
  unfold nK at e
  cases h1:EI c.nt c.ops.toList bS i with
  |false=>rw[h1]at e;cases e
  |true=>
  rw[h1]at e
  simp only[iu]at e
  cases h2:ks i bS with
  |true=>
   rw[h2]at e
   cases h3:tT c.P c.call c.ops.toList .p1 i with
   |false=>rw[h3]at e;cases e
   |true=>
    rw[h3]at e
    obtain⟨o,v,ho,hg,e,hs⟩:=C3 (kF.1 h3) e
    obtain⟨nx,bd,a1,a2,qk,a3,a4⟩:=wY jw ic Ci hk ih l bS t rN qc e hO hb
    refine⟨nx,bd,a1,fun j hj hc=>?_,qk,a3,a4⟩
    rcases List.mem_cons.1 hj with rfl|hj
    ·refine⟨v,C4 jw ic F hO ho h1 hg,?_,Hh (c:=c.wi nx bd) h1 (fun j hj=>by show bd j<=_;rw[(a1 j hj).2];exact hb j hj)⟩
     intro d hd
     obtain⟨o',mh,I'⟩:=id hd
     have L4:c.ops[j]? =some o':=mh
     rw[ho]at L4
     cases L4
     obtain⟨s1,s2⟩:=hs d I'
     refine⟨s1,?_⟩
     show c.te.at d=_
     rw[F d (Nat.lt_of_lt_of_le s1 jw) (fun x hx=>by rw[Ci x j d hx hd];exact kN.1 h2)]
     exact s2
    ·exact a2 j hj hc
  |false=>
   rw[h2]at e
   have Vq:=ou h2
   cases h3:(tT c.P c.call c.ops.toList .p0 i||tT c.P c.call c.ops.toList .p1 i)with
   |false=>rw[h3]at e;cases e
   |true=>
    rw[h3]at e
    have fY:c.dB i .p0∨c.dB i .p1:=by
     rw[Bool.or_eq_true]at h3
     exact h3.imp kF.1 kF.1
    obtain⟨o,v,nW,t1,ho,hg,e2,ht⟩:=tU e
    clear e
    have hlv:nW=h:=by
     rcases fY with⟨o',mh,C6⟩|⟨o',mh,C6⟩
     ·rw[ho]at mh;cases mh
      exact((tN C6).ok hg).1
     ·rw[ho]at mh;cases mh
      exact L2 C6 _ _ _ _ hg
    subst hlv
    have jN: ∀ j∈bS,j≠i:=fun j hj e=>Vq (e▸hj)
    obtain⟨nx,bd,a1,a2,qk,a3,a4⟩:=wY jw ic Ci hk ih l (i::bS) t1 (EE rN i nW.next) (EE qc i nW.next) e2 (xV jw ho ht hO) (fun j hj=>by
     rcases List.mem_cons.1 hj with rfl|hj
     ·rw[mE];exact Nat.le_refl _
     ·rw[pD (jN j hj)];exact hb j hj)
    have agree: ∀ j∈bS,nx j=rN j/\bd j=qc j:=fun j hj=>by
     have:=a1 j (List.mem_cons_of_mem _ hj)
     rwa [pD (jN j hj),pD (jN j hj)]at this
    have hbi:bd i=nW.next:=by
     have:=(a1 i List.mem_cons_self).2
     rwa [mE]at this
    have hrd:(c.wi nx bd).py i nW.next:=Hh (c:=c.wi nx bd) h1 (fun j hj=>by show bd j<=_;rw[(agree j hj).2];exact hb j hj)
    have ff:c.Slot i v:=vf jw Ci ho ht (ry jw hk l (i::bS) t1 nW e2)
    refine⟨nx,bd,agree,fun j hj hc=>?_,qk,a3,fun j hj=>?_⟩
    ·rcases List.mem_cons.1 hj with rfl|hj
     ·exact⟨v,C4 jw ic F hO ho h1 hg,ff,hrd⟩
     ·exact a2 j hj hc
    ·rcases a4 j hj with h|h
     ·rcases List.mem_cons.1 h with rfl|h
      ·refine .inr ⟨⟨fun hc=>⟨v,?_,ff,?_⟩,fun hc=>?_⟩,fY⟩
       ·obtain⟨o',mh,C6⟩:=hc
        have L4:c.ops[j]? =some o':=mh
        rw[ho]at L4
        cases L4
        intro h0
        rw[C5]
        show c.FE j (c.rf j) h0=_
        have:=C4 jw ic F hO ho h1 hg
        rw[vL ho]at this ⊢
        exact((tN C6).ok this).2 h0
       ·show Cx.py _ j (bd j)
        rw[hbi];exact hrd
       ·rcases fY with h|h<;>cases c.kp h hc
      ·exact .inl h
     ·exact .inr h
omit [Io] in
theorem Bc(jw:c.nt<=512)(ic: ∀ u,u<512->(∀ j,¬ c.mg j u)->c.te.at u=c.t0.at u)(Ci: ∀ i j d,c.mg i d->c.mg j d->i=j){k:List Nat->mV}(hk: ∀ bS t h,k bS t h=.ok c.te c.hE->c.Fr bS t)
 {Φ:(Nat->Nat)->(Nat->Nat)->List Nat->Hp->Prop}
 (ih: ∀ (bS:List Nat) (t:Tm) (h:Hp) (rN qc:Nat->Nat),k bS t h=.ok c.te c.hE->c.Vp bS t->(∀ j∈bS,qc j<=h.next)-> ∃ nx bd,(∀ j∈bS,nx j=rN j/\bd j=qc j)/\Φ nx bd bS h):
 ∀ (hY bS:List Nat) (t:Tm) (h:Hp) (rN qc:Nat->Nat),Fu c.P c.call c.nt c.ops.toList hY bS k t h=.ok c.te c.hE->c.Vp bS t->(∀ j∈bS,qc j<=h.next)->
  ∃ nx bd,(∀ j∈bS,nx j=rN j/\bd j=qc j)/\ ∃ h1 qk,(c.wi nx bd).wA hY h h1/\Φ nx bd qk h1/\ ∀ i∈qk,i∈bS∨((c.wi nx bd).GI i/\i∈hY/\(c.dB i .p0∨c.dB i .al))
 | [],bS,t,h,rN,qc,e,hO,hb=>by
  obtain⟨nx,bd,h1,h2⟩:=ih bS t h rN qc e hO hb
  exact⟨nx,bd,h1,h,bS,rfl,h2,fun i hi=>.inl hi⟩
 |i::l,bS,t,h,rN,qc,e,hO,hb=>by
  have F:=pA jw hk (i::l) bS t h e
  unfold Fu at e
  cases Ai:(EI c.nt c.ops.toList bS i&&(!ks i bS&&(tT c.P c.call c.ops.toList .p0 i||tT c.P c.call c.ops.toList .al i)))with
  |false=>rw[Ai]at e;cases e
  |true=>
   rw[Ai]at e
   simp only[iu]at e
   simp only[Bool.and_eq_true,Bool.not_eq_true',Bool.or_eq_true]at Ai
   obtain⟨h1,h2,h3⟩:=Ai
   have Vq:=ou h2
   have fY:c.dB i .p0∨c.dB i .al:=h3.imp kF.1 kF.1
   obtain⟨o,v,h',t1,ho,hg,e2,ht⟩:=tU e
   clear e
   have jN: ∀ j∈bS,j≠i:=fun j hj e=>Vq (e▸hj)
   have hle:h.next<=h'.next:=by
    rcases fY with⟨o',mh,C6⟩|⟨o',mh,C6⟩
    ·rw[ho]at mh;cases mh
     rw[((tN C6).ok hg).1]
     exact Nat.le_refl _
    ·rw[ho]at mh;cases mh
     rcases CZ C6 _ _ _ _ hg (fR h.next) rfl with⟨rfl,_⟩|⟨cs,rfl,_⟩
     ·exact Nat.le_refl _
     ·exact Nat.le_succ _
   obtain⟨nx,bd,a1,nW,qk,a2,a3,a4⟩:=Bc jw ic Ci hk ih l (i::bS) t1 h' (EE rN i h.next) (EE qc i h'.next) e2 (xV jw ho ht hO) (fun j hj=>by
    rcases List.mem_cons.1 hj with rfl|hj
    ·rw[mE];exact Nat.le_refl _
    ·rw[pD (jN j hj)];exact Nat.le_trans (hb j hj) hle)
   have agree: ∀ j∈bS,nx j=rN j/\bd j=qc j:=fun j hj=>by
    have:=a1 j (List.mem_cons_of_mem _ hj)
    rwa [pD (jN j hj),pD (jN j hj)]at this
   have hbi:bd i=h'.next:=by
    have:=(a1 i List.mem_cons_self).2
    rwa [mE]at this
   have Jf:nx i=h.next:=by
    have:=(a1 i List.mem_cons_self).1
    rwa [mE]at this
   have hrd:(c.wi nx bd).py i h.next:=Hh (c:=c.wi nx bd) h1 (fun j hj=>by show bd j<=_;rw[(agree j hj).2];exact hb j hj)
   have ff:c.Slot i v:=vf jw Ci ho ht (pA jw hk l (i::bS) t1 h' e2)
   have hte:=C4 jw ic F hO ho h1 hg
   rcases fY with fY|fY
   ·have hh:h'=h:=by
     obtain⟨o',mh,C6⟩:=fY
     rw[ho]at mh;cases mh
     exact((tN C6).ok hg).1
    subst hh
    refine⟨nx,bd,agree,nW,qk,.inl ⟨fY,a2⟩,a3,fun j hj=>?_⟩
    rcases a4 j hj with h|⟨h,h5,h6⟩
    ·rcases List.mem_cons.1 h with rfl|h
     ·refine .inr ⟨⟨fun hc=>⟨v,?_,ff,?_⟩,fun hc=>?_⟩,List.mem_cons_self,.inl fY⟩
      ·obtain⟨o',mh,C6⟩:=fY
       rw[ho]at mh
       cases mh
       intro h0
       rw[C5]
       show c.FE j (c.rf j) h0=_
       rw[vL ho]at hte ⊢
       exact((tN C6).ok hte).2 h0
      ·show Cx.py _ j (bd j)
       rw[hbi];exact hrd
      ·cases c.kp fY hc
     ·exact .inl h
    ·exact .inr ⟨h,List.mem_cons_of_mem _ h5,h6⟩
   ·have key:(h'=h/\c.FE i (c.rf i) (fR h.next)=.ok v (fR h.next))∨ ∃ cs,h'=dw h cs/\c.FE i (c.rf i) (fR h.next)=.ok v (dw (fR h.next) cs):=by
     obtain⟨o',mh,C6⟩:=fY
     rw[ho]at mh;cases mh
     rw[vL ho]at hte ⊢
     exact CZ C6 _ _ _ _ hte (fR h.next) rfl
    refine⟨nx,bd,agree,nW,qk,.inr ⟨fY,Jf,?_⟩,a3,fun j hj=>?_⟩
    ·rcases key with⟨rfl,_⟩|⟨cs,rfl,hf⟩
     ·exact .inl ⟨hbi.trans Jf.symm,a2⟩
     ·refine .inr ⟨v,cs,?_,?_,a2⟩
      ·show bd i=nx i+1
       rw[hbi,Jf];rfl
      ·rw[C5]
       show c.FE i (c.rf i) (fR (nx i))=.ok v (dw (fR (nx i)) cs)
       rw[Jf];exact hf
    ·rcases a4 j hj with h0|⟨h0,h5,h6⟩
     ·rcases List.mem_cons.1 h0 with rfl|h0
      ·refine .inr ⟨⟨fun hc=>?_,fun hc=>⟨v,ff,?_,?_⟩⟩,List.mem_cons_self,.inr fY⟩
       ·cases c.kp fY hc
       ·show Cx.py _ j (nx j)
        rw[Jf];exact hrd
       ·rw[C5]
        show(c.FE j (c.rf j) (fR (nx j))=.ok v (fR (nx j))/\bd j=nx j)∨ ∃ cs,c.FE j (c.rf j) (fR (nx j))=.ok v (dw (fR (nx j)) cs)/\bd j=nx j+1
        rw[Jf,hbi]
        rcases key with⟨rfl,hf⟩|⟨cs,rfl,hf⟩
        ·exact .inl ⟨hf,rfl⟩
        ·exact .inr ⟨cs,hf,rfl⟩
      ·exact .inl h0
     ·exact .inr ⟨h0,List.mem_cons_of_mem _ h5,h6⟩
omit [Io] in
theorem C7(jw:c.nt<=512)(ic: ∀ u,u<512->(∀ j,¬ c.mg j u)->c.te.at u=c.t0.at u)(Ci: ∀ i j d,c.mg i d->c.mg j d->i=j): ∀ (pl:lK) (bS:List Nat) (t:Tm) (h:Hp) (rN qc:Nat->Nat),
 oh c.P c.call c.nt c.ops.toList pl bS t h=.ok c.te c.hE->c.Vp bS t->(∀ j∈bS,qc j<=h.next)->
  ∃ nx bd,(∀ j∈bS,nx j=rN j/\bd j=qc j)/\(c.wi nx bd).zt pl h/\(∀ i,i<c.ops.size->bd i<=c.hE.next)/\
   ∀ i,i<c.ops.size->i∉bS->(c.wi nx bd).GI i/\(c.dB i .al->i∈pl.hY)/\(c.dB i .ch->i∈pl.zf)
 | .last pre hY,bS,t,h,rN,qc,e,hO,hb=>by
  unfold oh at e
  have Vr: ∀ bS t h,(iu (allI (fun i _=>ks i bS) c.ops.toList 0) fi (fun _ _=>.bad):mV) t h=.ok c.te c.hE->(∀ i,i<c.ops.size->i∈bS)/\t=c.te/\h=c.hE:=by
   intro bS t h e
   cases hB:allI (fun i _=>ks i bS) c.ops.toList 0 with
   |false=>rw[hB]at e;cases e
   |true=>
    rw[hB]at e
    obtain⟨h1,h2⟩:=Rt.ok.inj e
    refine⟨fun i hi=>?_,h1,h2⟩
    have:=kO hB i c.ops[i] (by simp[hi])
    exact kN.1 this
  have hk: ∀ bS t h,(iu (allI (fun i _=>ks i bS) c.ops.toList 0) fi (fun _ _=>.bad):mV) t h=.ok c.te c.hE->c.Fr bS t:=by
   intro bS t h e
   obtain⟨_,rfl,_⟩:=Vr bS t h e
   exact fun u _ _=>rfl
  obtain⟨nx,bd,a1,a2,qk,⟨h1,ql,b2,⟨rfl,b3,b4⟩,b5⟩,a4⟩:=wY (Φ:=fun nx bd qk=> ∃ h1 ql,(c.wi nx bd).wA hY h h1/\(h1=c.hE/\(∀ i,i<c.ops.size->i∈ql)/\(∀ i∈ql,bd i<=c.hE.next))/\
   ∀ i∈ql,i∈qk∨((c.wi nx bd).GI i/\i∈hY/\(c.dB i .p0∨c.dB i .al))) jw ic Ci (pA jw hk hY) (fun bS t rN qc e hO hb=>by
   obtain⟨nx,bd,a1,h1,ql,a2,a3,a4⟩:=Bc (Φ:=fun nx bd ql h1=>h1=c.hE/\(∀ i,i<c.ops.size->i∈ql)/\(∀ i∈ql,bd i<=c.hE.next)) jw ic Ci hk (fun bS t h rN qc e hO hb=>by
    obtain⟨h1,_,rfl⟩:=Vr bS t h e
    exact⟨rN,qc,fun _ _=>⟨rfl,rfl⟩,rfl,h1,hb⟩) hY bS t h rN qc e hO hb
   exact⟨nx,bd,a1,h1,ql,a2,a3,a4⟩) pre bS t rN qc e hO hb
  refine⟨nx,bd,a1,⟨a2,b2⟩,fun i hi=>b4 i (b3 i hi),fun i hi hn=>?_⟩
  rcases b5 i (b3 i hi)with h|⟨h,h6,h7⟩
  ·rcases a4 i h with h|⟨h,h5⟩
   ·exact absurd h hn
   ·refine⟨h,fun hc=>?_,fun hc=>?_⟩
    ·rcases h5 with h5|h5<;>cases c.kp h5 hc
    ·rcases h5 with h5|h5<;>cases c.kp h5 hc
  ·refine⟨h,fun _=>h6,fun hc=>?_⟩
   rcases h7 with h5|h5<;>cases c.kp h5 hc
 | .cons pre hY q rest,bS,t,h,rN,qc,e,hO,hb=>by
  unfold oh at e
  have hq: ∀ bS t h,(iu (EI c.nt c.ops.toList bS q&&(!ks q bS&&tT c.P c.call c.ops.toList .ch q)) (runM c.P c.call c.nt c.ops.toList q (oh c.P c.call c.nt c.ops.toList rest (q::bS))) (fun _ _=>.bad):mV) t h=.ok c.te c.hE->
   EI c.nt c.ops.toList bS q=true/\q∉bS/\c.dB q .ch/\ ∃ o v h1 t1,c.ops[q]? =some o/\kW c.P c.call c.nt c.ops.toList o t h=.ok v h1/\h.next<=h1.next/\oh c.P c.call c.nt c.ops.toList rest (q::bS) t1 h1=.ok c.te c.hE/\
    ((∃ d,o.dst=some d/\d<c.nt/\t1=sT d v t)∨(o.dst=none/\t1=t)):=by
   intro bS t h e
   cases h1:(EI c.nt c.ops.toList bS q&&(!ks q bS&&tT c.P c.call c.ops.toList .ch q))with
   |false=>rw[h1]at e;cases e
   |true=>
    rw[h1]at e
    simp only[Bool.and_eq_true,Bool.not_eq_true']at h1
    exact⟨h1.1,ou h1.2.1,kF.1 h1.2.2,C1 e⟩
  have hk: ∀ bS t h,(iu (EI c.nt c.ops.toList bS q&&(!ks q bS&&tT c.P c.call c.ops.toList .ch q)) (runM c.P c.call c.nt c.ops.toList q (oh c.P c.call c.nt c.ops.toList rest (q::bS))) (fun _ _=>.bad):mV) t h=.ok c.te c.hE->c.Fr bS t:=by
   intro bS t h e
   obtain⟨_,Vq,_,o,v,h1,t1,ho,_,_,e,ht⟩:=hq bS t h e
   exact tW jw ho Vq ht (tX jw rest (q::bS) t1 h1 e)
  obtain⟨nx,bd,a1,a2,qk,⟨h1,ql,b2,⟨c1,v,h2,c2,c3,c4,c5,c6,c7,c8,c9⟩,b5⟩,a4⟩:=wY (Φ:=fun nx bd qk=> ∃ h1 ql,(c.wi nx bd).wA hY h h1/\
   (c.dB q .ch/\ ∃ v h2,c.FE q (c.rf q) h1=.ok v h2/\c.Slot q v/\(c.wi nx bd).py q h1.next/\bd q=h2.next/\h1.next<=h2.next/\(c.wi nx bd).zt rest h2/\(∀ i,i<c.ops.size->bd i<=c.hE.next)/\
    ∀ i,i<c.ops.size->i∉q::ql->(c.wi nx bd).GI i/\(c.dB i .al->i∈rest.hY)/\(c.dB i .ch->i∈rest.zf))/\
   ∀ i∈ql,i∈qk∨((c.wi nx bd).GI i/\i∈hY/\(c.dB i .p0∨c.dB i .al))) jw ic Ci (pA jw hk hY) (fun bS t rN qc e hO hb=>by
   obtain⟨nx,bd,a1,h1,ql,a2,a3,a4⟩:=Bc (Φ:=fun nx bd ql h1=>c.dB q .ch/\ ∃ v h2,c.FE q (c.rf q) h1=.ok v h2/\c.Slot q v/\(c.wi nx bd).py q h1.next/\bd q=h2.next/\h1.next<=h2.next/\(c.wi nx bd).zt rest h2/\
    (∀ i,i<c.ops.size->bd i<=c.hE.next)/\ ∀ i,i<c.ops.size->i∉q::ql->(c.wi nx bd).GI i/\(c.dB i .al->i∈rest.hY)/\(c.dB i .ch->i∈rest.zf)) jw ic Ci hk (fun bS t h rN qc e hO hb=>by
    obtain⟨hr,Vq,fY,o,v,h1,t1,ho,hg,hle,e,ht⟩:=hq bS t h e
    have jN: ∀ j∈bS,j≠q:=fun j hj e=>Vq (e▸hj)
    have Fq:=tX jw rest (q::bS) t1 h1 e
    obtain⟨nx,bd,a1,a2,a3,a4⟩:=C7 jw ic Ci rest (q::bS) t1 h1 (EE rN q h.next) (EE qc q h1.next) e (xV jw ho ht hO) (fun j hj=>by
     rcases List.mem_cons.1 hj with rfl|hj
     ·rw[mE];exact Nat.le_refl _
     ·rw[pD (jN j hj)];exact Nat.le_trans (hb j hj) hle)
    have agree: ∀ j∈bS,nx j=rN j/\bd j=qc j:=fun j hj=>by
     have:=a1 j (List.mem_cons_of_mem _ hj)
     rwa [pD (jN j hj),pD (jN j hj)]at this
    have hbq:bd q=h1.next:=by
     have:=(a1 q List.mem_cons_self).2
     rwa [mE]at this
    exact⟨nx,bd,agree,fY,v,h1,C4 jw ic (tW jw ho Vq ht Fq) hO ho hr hg,vf jw Ci ho ht Fq,
     Hh (c:=c.wi nx bd) hr (fun j hj=>by show bd j<=_;rw[(agree j hj).2];exact hb j hj),hbq,hle,a2,a3,a4⟩) hY bS t h rN qc e hO hb
   exact⟨nx,bd,a1,h1,ql,a2,a3,a4⟩) pre bS t rN qc e hO hb
  refine⟨nx,bd,a1,⟨a2,h1,b2,c1,v,h2,(by rw[C5];exact c2),c3,c4,c5,c6,c7⟩,c8,fun i hi hn=>?_⟩
  by_cases hiq:i=q
  ·subst hiq
   refine⟨⟨fun hc=>?_,fun hc=>?_⟩,fun hc=>?_,fun _=>List.mem_cons_self⟩
   ·cases c.kp c1 hc
   ·cases c.kp c1 hc
   ·cases c.kp c1 hc
  ·by_cases QZ:i∈ql
   ·rcases b5 i QZ with h|⟨h,h6,h7⟩
    ·rcases a4 i h with h|⟨h,h5⟩
     ·exact absurd h hn
     ·refine⟨h,fun hc=>?_,fun hc=>?_⟩
      ·rcases h5 with h5|h5<;>cases c.kp h5 hc
      ·rcases h5 with h5|h5<;>cases c.kp h5 hc
    ·refine⟨h,fun _=>List.mem_append_left _ h6,fun hc=>?_⟩
     rcases h7 with h5|h5<;>cases c.kp h5 hc
   ·obtain⟨r1,r2,r3⟩:=c9 i hi (fun k=>by
     rcases List.mem_cons.1 k with k|k
     ·exact hiq k
     ·exact QZ k)
    exact⟨r1,fun hc=>List.mem_append_right _ (r2 hc),fun hc=>List.mem_cons_of_mem _ (r3 hc)⟩
end Cx
end Go.Ab

noncomputable section
namespace Go.Ab
variable [Io]
def L5(ok:Nat->Nat->Bool)(l:List Nat):Nat->List Nat:=
 List.rec (fun _=>[]) (fun i _ ih r=>Bool.rec (ih r) (i::ih (Nat.lor r (Nat.pow 2 i))) (ok i r)) l
def Vt(l:List Nat)(r:Nat):Nat:=List.rec r (fun i _ ih=>Nat.lor (Nat.pow 2 i) ih) l
def bit(r i:Nat):Bool:=Nat.beq (Nat.mod (Nat.div r (Nat.pow 2 i)) 2) 1
def RI(p:Nat->Bool)(l:List Nat):List Nat:=List.rec [] (fun i _ ih=>Bool.rec ih (i::ih) (p i)) l
def Xp(p:Nat->Bool)(l:List Nat):Option Nat:=List.rec none (fun i _ ih=>Bool.rec ih (some i) (p i)) l
def L6(l:List Oper):List Nat:=List.rec (fun _=>[]) (fun _ _ ih i=>i::ih (Nat.add i 1)) l 0
section
variable (P:Program)(call:cX)(L:List Oper)
def ah1(ms idx:List Nat)(fuel:Nat):Nat->List Nat->lK:=
 Nat.rec (fun _ _=>.last [] []) (fun _ ih done chd=>
  match L5 (fun i r=>(tT P call L .p0 i||tT P call L .p1 i)&&(!bit r i&&Nat.beq (Nat.land ((kY ms i).getD 0) r) ((kY ms i).getD 0))) idx done with
  |new=>match RI (fun i=>bit done i&&(tT P call L .p1 i&& !Ft (fun j=>bit ((kY ms j).getD 0) i) chd)) idx with
   |rL=>match Vt new done with
    |Hi=>match Xp (fun i=>tT P call L .ch i&& !bit Hi i) idx with
     |none=>.last (app rL new) (L5 (fun i r=> !bit r i) idx Hi)
     |some q=>match L5 (fun i r=> !bit r i&&bit ((kY ms q).getD 0) i) idx Hi with
      |hY=>.cons (app rL new) hY q (ih (Nat.lor (Nat.pow 2 q) (Vt hY Hi)) (q::chd))) fuel
def vg:lK:=ah1 P call L (qF L []) (L6 L) (Nat.succ (len L)) 0 []
end
def aY(P:Program)(call:cX)(nt:Nat)(ops:Array Oper):mV:=
 match vg P call ops.toList with
 |pl=>iu (Hf ops.toList&&(RF ops.toList&&Ah P call ops.toList pl [])) (oh P call nt ops.toList pl []) (fun _ _=>.bad)
namespace Cx
variable {c:Cx}
omit [Io] in
theorem Hj: ∀ (pl:lK) (past:List Nat),Ah c.P c.call c.ops.toList pl past=true->c.Hc past pl
 | .last pre hY,past,h=>by
  intro i hi
  obtain⟨o,ho,_⟩:=id hi
  have:=oi (kO h i o (by simpa using ho)) (kF.2 hi)
  rw[Bool.or_eq_true,tR,kN]at this
  exact this
 | .cons pre hY q rest,past,h=>by
  unfold Ah at h
  simp only[Bool.and_eq_true]at h
  obtain⟨h1,h2,h3,h4⟩:=h
  refine⟨fun i hi=>?_,fun i hi hc=>?_,fun q' hq=>?_,Hj rest _ h4⟩
  ·obtain⟨o,ho,_⟩:=id hi
   have:=oi (kO h1 i o (by simpa using ho)) (kF.2 hi)
   rw[Bool.or_eq_true,Bool.or_eq_true,tR,tR,kN]at this
   exact this
  ·rw[hU,List.all_eq_true]at h2
   exact oi (h2 i hi) (kF.2 hc)
  ·rw[hU,List.all_eq_true]at h3
   exact h3 q' hq
omit [Io] in
theorem Xr(h:RF c.ops.toList=true): ∀ i j d,c.mg i d->c.mg j d->i=j:=by
 rintro i j d ⟨o,ho,hd⟩ ⟨o',mh,I'⟩
 have h1:=kO h i o (by simpa using ho)
 rw[hd]at h1
 have h2:=oi (kO h1 j o' (by simpa using mh)) (ve I')
 exact Nat.eq_of_beq_eq_true h2
end Cx
theorem RJ{g:G}{w:World}{h:Hp}(H:HR g w h):g.to h.next=g:=by
 cases g with
 |mk m im=>
  unfold G.to
  simp only[G.mk.injEq,and_true]
  funext id
  by_cases jB:id<h.next
  ·simp only[jB,if_true]
  ·simp only[jB,if_false]
   exact(H.fresh id (by omega)).symm
omit [Io] in
theorem vh{g:G}{w w':World}(h:w'.heap=w.heap):tz g w g w':=
 ⟨fun _ _ e=>e,fun _ i=>i,fun b _=>by rw[h],fun b=>by unfold dU;rw[h];exact Nat.le_refl _⟩
theorem HR.heap{g:G}{w w':World}{hp:Hp}(h:w'.heap=w.heap)(H:HR g w hp):HR g w' hp:=by
 refine⟨H.fresh,fun id cs e=>?_,H.inj,fun b i=>by rw[h];exact H.fw b i,nJ.mono (vh h) H.tb⟩
 obtain⟨b,s,C,el,vs,h1,h2,h3,h4,h5⟩:=H.aL id cs e
 exact⟨b,s,C,el,vs,h1,by rw[h];exact h2,h3,bD.gg (vh h) _ _ h4,h5⟩
omit [Io] in
theorem Jg(g:G)(w:World)(h:Hp)(n:Nat):Ext g w h g {w with drawn:=n} h:=
 ⟨rfl,rfl,rfl,Nat.le_refl _,Nat.le_refl _,fun _ _ e=>e,fun _ _ _=>rfl,fun _=>Nat.le_refl _,fun _ i=>i,fun _ i=>.inl i,fun _ o=>.inl o⟩
theorem Hk{P:Program}(hm:P.follows .mixedOrders=true):Fh P (aY P):=by
 intro call nt hc id ops g w t h a t' h' H T D e Q K
 refine wp_region_draw fun tk=>?_
 rw[hm]
 change (iu (Hf ops.toList&&(RF ops.toList&&Ah P call ops.toList (vg P call ops.toList) [])) (oh P call nt ops.toList (vg P call ops.toList) []) (fun _ _=>.bad):mV) t h=.ok t' h' at e
 cases hB:(Hf ops.toList&&(RF ops.toList&&Ah P call ops.toList (vg P call ops.toList) []))with
 |false=>rw[hB]at e;cases e
 |true=>
 rw[hB]at e
 change oh P call nt ops.toList (vg P call ops.toList) [] t h=.ok t' h' at e
 simp only[Bool.and_eq_true]at hB
 obtain⟨Kk,Ci,wS⟩:=hB
 obtain⟨pl,W0⟩: ∃ pl,pl=vg P call ops.toList:=⟨_,rfl⟩
 rw[<-W0]at e wS
 have L:=A8 (RE Kk) tk
 let c0:Cx:=⟨P,call,ops,nt,t,t',fun _=>0,fun _=>0,g,w,h,h'⟩
 have acq: ∀ i j d,c0.mg i d->c0.mg j d->i=j:=Cx.Xr (c:=c0) Ci
 have jw:nt<=512:=T.1
 have F:=Cx.tX (c:=c0) jw pl [] t h e
 have ic: ∀ u,u<512->(∀ j,¬ c0.mg j u)->c0.te.at u=c0.t0.at u:=fun u hu hd=>F u hu (fun j hj=>absurd hj (hd j))
 obtain⟨nx,bd,_,kr,ah2,hgi⟩:=Cx.C7 (c:=c0) jw ic acq pl [] t h (fun _=>0) (fun _=>0) e (fun u _ _=>rfl) (fun j hj=>by cases hj)
 let c:Cx:=c0.wi nx bd
 have gG: ∀ {i k},c.dB i k->i<c.ops.size:=fun⟨o,ho,_⟩=>(Array.getElem?_eq_some_iff.1 ho).1
 have G0:c.RC:=
  ⟨fun i hi=>(hgi i (gG hi) (by simp)).1.1 hi,fun i hi=>(hgi i (gG hi) (by simp)).1.2 hi,acq,ah2,ic,hc,jw⟩
 have wV:g.to h.next=g:=RJ H
 refine Cx.sim (c:=c) G0 K _ [] [] pl g {w with drawn:=w.drawn+1} h a L ?_
 exact
 {run:=kr
  stat:=Cx.Hj (c:=c) pl [] wS
  closed:=fun j hj=>by cases hj
  zf:=fun i hi=>.inl ((hgi i (gG hi) (by simp)).2.2 hi)
  P':=fun i _ h=>by cases h
  vK:=fun j hj=>by cases hj
  Vl:=fun i hi=>.inl ((hgi i (gG hi) (by simp)).2.1 hi)
  st:=⟨(by rw[wV];exact HR.heap (w:=w) rfl H),(by rw[wV];exact Jg _ _ _ _),(fun i _ h=>by cases h),(fun i _ j _ h=>by cases h)⟩
  Vm:=fun id x m=>.inl (by
   refine Classical.byContradiction fun k=>?_
   rw[H.fresh id (by omega)]at m;cases m)
  qJ:=fun j hj=>by cases hj
  free:=fun u v hu hd eu=>by
   obtain⟨h1,h2⟩:=T.2.2 u v hu eu
   refine⟨h1,?_⟩
   rw[wV]
   exact VR.gg (vh (w:=w) (w':={w with drawn:=w.drawn+1}) rfl) _ _ h2
  size:=T.2.1
  defers:=D}
end Go.Ab

noncomputable section
namespace Go.Ab
variable [Io]
def Fv(F:Func):Code:=match F.body with
 |some c=>c
 |none=>.skip
omit [Io] in
theorem bb{P:Program}{draw:cX->Nat->Array Oper->mV}{f:FuncId}{F:Func}{b:Fb}(h1:P.funcs[f]? =some F)(h2: ∀ args w,(callFunc f args).run P w=.ok (.enter f args) w)
 (h3:F.body.isSome=true)(h4:b.ntmps=F.ntmps)(h5:Nat.ble b.ntmps 512=true)(h6:LC P b.ntmps F.results.toList=some b.res)
 (h7:b.body=fun call n=>gO P (draw call b.ntmps) call n b.ntmps (Fv F)):bF P draw f b:=by
 refine⟨⟨F,Fv F,h1,?_,h4,Nat.ble_eq.mp h5,h6,h7⟩,h2⟩
 unfold Fv
 cases h:F.body with
 |none=>rw[h]at h3;cases h3
 |some c=>rfl
def L7{α:Type}(p:Nat->α->Prop)(a b:Nat):Tr α->Prop
 | .nil=>True
 | .node l v r=>(∀ x,v=some x->p b x)/\L7 p (2*a) (a+b) l/\L7 p (2*a) (2*a+b) r
omit [Io] in
theorem L7.get{α:Type}{p:Nat->α->Prop}: ∀ {t:Tr α} {a b:Nat},L7 p a b t-> ∀ k x,t.get k=some x->p (a*k+b) x
 | .nil,a,b,_,k,x,e=>by cases e
 | .node l v r,a,b,⟨h1,h2,h3⟩,k,x,e=>by
  rw[Tr.qw]at e
  by_cases h0:k=0
  ·subst h0
   rw[if_pos rfl]at e
   simpa using h1 x e
  ·rw[if_neg h0]at e
   by_cases hk:k % 2=1
   ·rw[if_pos hk]at e
    have:=h2.get _ x e
    have e2:2*a*(k / 2)+(a+b)=a*k+b:=by
     have:k=2*(k / 2)+1:=by omega
     generalize k / 2=m at*
     subst this
     rw[Nat.mul_add,Nat.mul_one,<-Nat.mul_assoc,Nat.mul_comm a 2]
     omega
    rwa [e2]at this
   ·rw[if_neg hk]at e
    have:=h3.get _ x e
    have e2:2*a*(k / 2 - 1)+(2*a+b)=a*k+b:=by
     have:k=2*(k / 2 - 1)+2:=by omega
     generalize k / 2 - 1=m at*
     subst this
     rw[Nat.mul_add,<-Nat.mul_assoc,Nat.mul_comm a 2]
     omega
    rwa [e2]at this
omit [Io] in
theorem AL{α:Type}{p:Nat->α->Prop}{b:Nat}: ∀ x,(none:Option α)=some x->p b x:=fun _ e=>by cases e
end Go.Ab

noncomputable section
namespace Go.Ab
variable [Io]
structure Jh(w w':World):Prop where
 os:w'.os=w.os
 tape:w'.tape=w.tape
 output:w'.output=w.output
 size:w.heap.size<=w'.heap.size
 rL: ∀ b,b<w.heap.size->w'.heap[b]? =w.heap[b]?
omit [Io] in
theorem Jh.rows{w w':World}(K:Jh w w')(b:Nat):dU w b<=dU w' b:=by
 unfold dU
 by_cases h:b<w.heap.size
 ·rw[K.rL b h];exact Nat.le_refl _
 ·rw[Array.getElem?_eq_none (by omega)];exact Nat.zero_le _
def gE(fw:Nat->Prop):G:=⟨fun _=>none,fw⟩
theorem C8{fw:Nat->Prop}{w:World}(h: ∀ b,fw b->b<w.heap.size)(t:nJ (gE fw) w):HR (gE fw) w (fR 0):=
 ⟨fun _ _=>rfl,(fun _ _ e=>by cases e),(fun _ _ _ _ _ _ _ e=>by cases e),h,t⟩
omit [Io] in
theorem Hl{fw:Nat->Prop}{w:World}{g':G}{w':World}{h':Hp}(E:Ext (gE fw) w (fR 0) g' w' h'):Jh w w':=
 ⟨E.os,E.tape,E.output,E.size,fun b hb=>E.rL b hb (by rintro⟨id,cs,s,e,_⟩;cases e)⟩
def mapA(f:AV->Option AV)(l:List AV):Option (List AV):=
 List.rec (some []) (fun a _ ih=>match f a with
  |some b=>match ih with
   |some r=>some (b::r)
   |none=>none
  |none=>none) l
theorem Hm{g g':G}{w:World}{f:AV->Option AV}(hf: ∀ a a' v,f a=some a'->VR g w a v->VR g' w a' v): ∀ {l l':List AV} {vs:List Value},mapA f l=some l'->bD g w l vs->bD g' w l' vs
 | [],l',vs,e,h=>by cases e;simpa only[bD]using h
 |a::l,l',vs,e,h=>by
  change (match f a with|some b=>(match mapA f l with|some r=>some (b::r)|none=>none)|none=>none)=some l' at e
  simp only[bD]at h
  obtain⟨v,r,rfl,hv,hr⟩:=h
  cases h1:f a with
  |none=>rw[h1]at e;cases e
  |some b=>
   cases h2:mapA f l with
   |none=>rw[h1,h2]at e;cases e
   |some r'=>
    rw[h1,h2]at e
    cases e
    simp only[bD]
    exact⟨v,r,rfl,hf a b v h1 hv,Hm hf h2 hr⟩
end Go.Ab

noncomputable section
namespace Go.Ab
end Go.Ab

noncomputable section
namespace Go.Ab
variable [Io]
end Go.Ab
namespace Go.Ab
end Go.Ab

noncomputable section
namespace Go.Ab
variable [Io]
section
variable {P:Program}{call:cX}
end
end Go.Ab

noncomputable section
namespace Go.Ab
end Go.Ab

noncomputable section
namespace Go.Ab
def isT(r:Ro):Bool:=match r with
 | .ok (.bool b) _=>b
 | _=>false
theorem Xs{r:Ro}(h:isT r=true): ∃ h',r=.ok (.bool true) h':=by
 unfold isT at h
 split at h
 ·subst h;exact⟨_,rfl⟩
 ·cases h
theorem Jh.below{w w':World}(K:Jh w w'):Go.RowKit.Below w.heap.size w w':=⟨K.os,K.tape,K.output,K.size,K.rL⟩
theorem Xt[Io]{P:Program}{call:cX}(hc:eQ P call){f:FuncId}{args:List AV}{vs:List Value}(e:isT (call f args (fR 0))=true)(w:World){fw:Nat->Prop}(hi: ∀ b,fw b->b<w.heap.size)(ht:nJ (gE fw) w)(hv:bD (gE fw) w args vs):
 Calls P f vs.toArray w fun e w'=>e=.returned (.bool true)/\Go.RowKit.Below w.heap.size w w':=by
 obtain⟨h',e'⟩:=Xs e
 refine((hc f args (fR 0) _ h' e').2 (gE fw) w vs (C8 hi ht) hv).mono ?_
 rintro e w' ⟨x,g',rfl,E,H',hx⟩
 simp only[VR]at hx
 subst hx
 exact⟨rfl,(Hl E).below⟩
end Go.Ab

noncomputable section
namespace Go.Ab
variable [Io]
section
variable {P:Program}
def C9(fn:FuncId->Option Fb)(n:Nat)(c:cX):cX:=fun f args h=>match fn f with
 |none=>.bad
 |some b=>iu (Nat.ble (len args) b.ntmps) (match b.body c n (ph args 0 Tm.none) h with
  | .norm t h=>fin b.res t h
  | .ret t h=>fin b.res t h
  | _=>.bad) .bad
theorem L9{draw:cX->Nat->Array Oper->mV}(hd:Fh P draw){fn:FuncId->Option Fb}(hf: ∀ f b,fn f=some b->bF P draw f b)(n:Nat){c:cX}(hc:eQ P c):eQ P (C9 fn n c):=by
 intro f args h v h' e
 change (match fn f with
  |none=>Ro.bad
  |some b=>iu (Nat.ble (len args) b.ntmps) (match b.body (c) n (ph args 0 Tm.none) h with| .norm t h=>fin b.res t h| .ret t h=>fin b.res t h| _=>.bad) .bad)=.ok v h' at e
 cases hb:fn f with
 |none=>rw[hb]at e;cases e
 |some b=>
 rw[hb]at e
 simp only at e
 cases hle:Nat.ble (len args) b.ntmps with
 |false=>rw[hle]at e;cases e
 |true=>
 rw[hle]at e
 change (match b.body (c) n (ph args 0 Tm.none) h with| .norm t h=>fin b.res t h| .ret t h=>fin b.res t h| _=>.bad)=Ro.ok v h' at e
 rw[bM]at hle
 have acs:args.length<=b.ntmps:=Nat.ble_eq.mp hle
 have F0:=hf f b hb
 obtain⟨F,cd,hF,hcb,jw,qm,ah3,acu⟩:=F0.ex
 refine⟨F0.enter,fun g w vs H hv=>?_⟩
 rw[acu]at e
 have acv:=A7 hc (draw:=draw (c) b.ntmps) (nt:=b.ntmps) (fun id ops=>hd _ _ hc id ops) n cd
 have hvl:=hv.length
 have Ha:(vs.toArray++Array.replicate (F.ntmps - vs.toArray.size) undef).size=b.ntmps:=by simp;omega
 have hT0:TR g w b.ntmps Tm.none (vs.toArray++Array.replicate (F.ntmps - vs.toArray.size) undef):=
  ⟨qm,Ha,fun i v hi e=>by rw[Tm.AL i hi]at e;cases e⟩
 have hT:=tK args vs 0 b.ntmps Tm.none _ hv (by omega) hT0 (fun j v e=>by
  rw[Array.getElem?_append_left (by have:=(List.getElem?_eq_some_iff.1 e).1;simpa using this)]
  simpa using e)
 refine calls_of_wp hF hcb ?_
 have:=acv g w _ h {tmps:=vs.toArray++Array.replicate (F.ntmps - vs.toArray.size) undef,defers:=[]}
  (bodyPost P F (fun e w'=> ∃ x g',e=.returned x/\Ext g w h g' w' h'/\HR g' w' h'/\VR g' w' v x)) H hT rfl
 have L': ∀ t1 h1,fin b.res t1 h1=.ok v h'-> ∀ g' w' (a':Act),Ext g w h g' w' h1->HR g' w' h1->TR g' w' b.ntmps t1 a'.tmps->a'.defers=[]->
  a'.defers=[]/\ ∃ x,(results F a'.tmps).run P w'=.ok x w'/\ ∃ y g',Ending.returned x=.returned y/\Ext g w h g' w' h'/\HR g' w' h'/\VR g' w' v y:=by
  intro t1 h1 ah5 g' w' a' E' H' T' D'
  obtain⟨rfl,x,hx,LF⟩:=Xe H' T' ah3 ah5
  exact⟨D',x,hx,x,g',rfl,E',H',LF⟩
 simp only at e
 cases hr:gO P (draw (c) b.ntmps) (c) n b.ntmps cd (ph args 0 Tm.none) h with
 |bad=>rw[hr]at e;cases e
 |norm t1 h1=>rw[hr]at e this;exact this (L' t1 h1 e)
 |ret t1 h1=>rw[hr]at e this;exact this (L' t1 h1 e)
 |exit i t1 h1=>rw[hr]at e;cases e
end
end Go.Ab

noncomputable section
namespace Go.Ab
open Go.ChangeShapes Go.WideShapes Go.ChangeAt Go.RowKit Go.Deep Go.Joins
end Go.Ab

noncomputable section
namespace Go.Ab
variable [Io]
end Go.Ab
namespace Go.Ab
variable [Io]
section
variable {P:Program}
def Ma(fn:FuncId->Option Fb)(wr:cX->cX)(n:Nat)(d:Nat):cX:=Nat.rec (fun _ _ _=>.bad) (fun _ ih=>C9 fn n (wr ih)) d
theorem xW{draw:cX->Nat->Array Oper->mV}(hd:Fh P draw){fn:FuncId->Option Fb}(hf: ∀ f b,fn f=some b->bF P draw f b){wr:cX->cX}
 (hw: ∀ c,eQ P c->eQ P (wr c))(n:Nat): ∀ d,eQ P (Ma fn wr n d)
 |0=>by intro f args h v h' e;cases e
 |d+1=>L9 hd hf n (hw _ (xW hd hf hw n d))
theorem bD.split{g:G}{w:World}: ∀ {l r:List AV} {vs:List Value},bD g w (l++r) vs-> ∃ us ts,vs=us++ts/\bD g w l us/\bD g w r ts
 | [],r,vs,h=>⟨[],vs,rfl,by simp[bD],h⟩
 |a::l,r,vs,h=>by
  simp only[List.cons_append,bD]at h
  obtain⟨v,l',rfl,q,p⟩:=h
  obtain⟨us,ts,rfl,h1,h2⟩:=bD.split p
  refine⟨v::us,ts,rfl,?_,h2⟩
  simp only[bD]
  exact⟨v,us,rfl,q,h1⟩
end
end Go.Ab
namespace Go.Ab
variable [Io]
end Go.Ab
