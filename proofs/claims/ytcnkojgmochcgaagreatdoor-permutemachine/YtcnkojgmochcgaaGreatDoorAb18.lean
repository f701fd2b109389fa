import Derived.Test.YtcnkojgmochcgaaGreatDoorAbC
noncomputable section
namespace Go.Ab
variable [Io]
def G.to(g:G)(N:Nat):G:=⟨fun id=>if id<N then g.m id else none,g.nQ⟩
omit [Io] in
theorem Ec(g:G)(w:World):w5 g w g w:=⟨fun _ _ e=>e,fun _ i=>i,fun _ _=>rfl,fun _=>Nat.le_refl _⟩
omit [Io] in
theorem uX(g:G)(w:World){N M:Nat}(h:N<=M):w5 (g.to N) w (g.to M) w:=
 ⟨(by
   intro id x e
   simp only[G.to]at e ⊢
   by_cases h1:id<N
   ·rw[if_pos h1]at e;rw[if_pos (by omega)];exact e
   ·rw[if_neg h1]at e;cases e),fun _ i=>i,fun _ _=>rfl,fun _=>Nat.le_refl _⟩
def oO(N:Nat):Hp:=⟨N,.nil⟩
theorem Sy{g:G}{w:World}{N:Nat}(h: ∀ b,g.nQ b->b<w.heap.size):HC g w (oO N):=⟨(fun _ _ e=>by cases e),h⟩
section
variable {P:Program}{call:mS}{o:Oper}
theorem As{ops:Array Oper}{g w nt t h}{a:Act}{v:AV}{h':Hp}(T:TR g w nt t a.tmps)
 (e:r8 P call nt ops.toList o t h=.ok v h'):(Region.wanted o (yielded ops a.tmps)=true/\(uV P call o.op).2 t h=.ok v h')∨
  (Region.wanted o (yielded ops a.tmps)=false/\v=pz/\h'=h):=by
 unfold r8 at e
 cases hg:o.guard with
 |none=>
  rw[hg]at e
  exact .inl ⟨by simp[Region.wanted,hg],e⟩
 |some p=>
  obtain⟨j,want⟩:=p
  rw[hg]at e
  simp only[pn]at e
  cases hj:ops.toList[j]? with
  |none=>simp only[hj]at e;cases e
  |some oj=>
  simp only[hj]at e
  cases hd:oj.dst with
  |none=>simp only[hd]at e;cases e
  |some d=>
  simp only[hd]at e
  cases hb:Nat.blt d nt with
  |false=>simp only[hb]at e;cases e
  |true=>
  simp only[hb]at e
  have QR:=cM.1 hb
  change gF (oT d) want (uV P call o.op).2 t h=.ok v h' at e
  have hj':ops[j]? =some oj:=by simpa using hj
  have uO:=T.2.1
  have hy: ∀ y,a.tmps.getD d undef=y->yielded ops a.tmps j=match y with| .bool b=>some b| _=>none:=by
   intro y hy
   have:a.tmps[d]? =some y:=by
    rw[Array.getD_eq_getD_getElem?]at hy
    rw[Array.getElem?_eq_getElem (by omega)]at hy ⊢
    simpa using hy
   simp[yielded,hj',hd,this]
   cases y<;>rfl
  unfold gF at e
  split at e
  ·rename_i b GC
   have hv:=(T.2.2 d _ (by have:=T.1;omega) GC).2
   simp only[VR]at hv
   have Yf:=hy _ hv
   cases Yg:(pH want b (!b))with
   |true=>
    rw[Yg]at e
    have:b=want:=by cases want<;>cases b<;>simp[pH]at Yg<;>rfl
    exact .inl ⟨by simp[Region.wanted,hg,Yf,this],e⟩
   |false=>
    rw[Yg]at e
    have:b≠want:=by cases want<;>cases b<;>simp[pH]at Yg<;>simp
    cases e
    exact .inr ⟨by simp[Region.wanted,hg,Yf,this],rfl,rfl⟩
  ·rename_i GC
   have hv:=(T.2.2 d _ (by have:=T.1;omega) GC).2
   simp only[VR]at hv
   obtain⟨vs,hv,nP⟩:=hv
   have Yf:=hy _ hv
   cases e
   exact .inr ⟨by simp[Region.wanted,hg,Yf],rfl,rfl⟩
  ·cases e
theorem Ho(g:G)(w:World):VR g w pz undef:=by simp only[pz,VR];exact⟨_,rfl,by simp[cH]⟩
theorem Ed(hc:nv P call){ops:Array Oper}{i:Nat}(hi:ops[i]? =some o){g w nt t h}{a:Act}{v:AV}{h':Hp}(px:(uV P call o.op).1=.p0∨(uV P call o.op).1=.p1)
 (H:HC g w h)(T:TR g w nt t a.tmps)(e:r8 P call nt ops.toList o t h=.ok v h'){Q:Exit->Act->World->Prop}{rest:List Nat}
 (K: ∀ x,VR g w v x->wpOps P ops Q rest (a.put o.dst x) w):wpOps P ops Q (i::rest) a w:=by
 rw[wpOps,hi]
 simp only
 have hp:cN P o (uV P call o.op).2:=by
  have:=Fj (o:=o) hc
  cases h:uV P call o.op with
  |mk c f=>
   rw[h]at this px
   cases c
   ·exact this
   ·exact this
   ·rcases px with h|h<;>cases h
   ·rcases px with h|h<;>cases h
 rcases As T e with⟨hw,e⟩|⟨hw,rfl,rfl⟩
 ·rw[if_pos hw]
  obtain⟨rfl,x,hx,hv⟩:=hp g w nt t h a v h' H T e
  refine .inl ?_
  unfold Oper.wp
  rw[hx]
  exact K x hv
 ·rw[if_neg (by simp[hw])]
  exact K undef (Ho g w)
theorem Sz(hc:nv P call){ops:Array Oper}{i:Nat}(hi:ops[i]? =some o){g w nt t h}{a:Act}{v:AV}{h':Hp}(px:(uV P call o.op).1=.al)
 (H:HC g w h)(T:TR g w nt t a.tmps)(e:r8 P call nt ops.toList o t h=.ok v h'){Q:Exit->Act->World->Prop}{rest:List Nat}
 (K1:h'=h-> ∀ x w',(w'=w∨ ∃ ob,w'=w.alloc ob)->(∀ g' w',VR g' w' v x)->wpOps P ops Q rest (a.put o.dst x) w')
 (K2: ∀ cs C el vs x,h'=nn h cs->cH g w cs.toL vs->(∀ (j:Nat) (v:Value),vs[j]? =some v->C[j]? =some v)->
  (∀ g' w',g'.m h.next=some (w.heap.size,0)->C.size<=nE w' w.heap.size->VR g' w' v x)->wpOps P ops Q rest (a.put o.dst x) (w.alloc (.cells C el))):
 wpOps P ops Q (i::rest) a w:=by
 rw[wpOps,hi]
 simp only
 have hp:uy P o (uV P call o.op).2:=by
  have:=Fj (o:=o) hc
  cases h:uV P call o.op with
  |mk c f=>rw[h]at this px;simp only at px;subst px;exact this
 rcases As T e with⟨hw,e⟩|⟨hw,rfl,rfl⟩
 ·rw[if_pos hw]
  rcases hp g w nt t h a v h' H T e with⟨rfl,x,C,el,hr,hv⟩|⟨cs,C,el,vs,x,rfl,hr,nP,hC,hv⟩
  ·refine .inl ?_
   unfold Oper.wp
   rw[hr]
   exact K1 rfl x _ (.inr ⟨_,rfl⟩) hv
  ·refine .inl ?_
   unfold Oper.wp
   rw[hr]
   exact K2 cs C el vs x rfl nP hC hv
 ·rw[if_neg (by simp[hw])]
  exact K1 rfl undef _ (.inl rfl) (fun g w=>Ho g w)
omit [Io] in
theorem yu{nt:Nat}{all:List Oper}(px:(uV P call o.op).1=.p0):rN (r8 P call nt all o):=by
 have hf:rN (uV P call o.op).2:=Yv px
 unfold r8
 cases o.guard with
 |none=>exact hf
 |some p=>
  obtain⟨j,want⟩:=p
  simp only
  split
  ·split
   ·refine M4 ?_
    intro t h h0
    unfold gF
    split
    ·rename_i b _
     cases pH want b (!b)
     ·rfl
     ·exact hf t h h0
    ·rfl
    ·rfl
   ·exact mV
  ·exact mV
omit [Io] in
theorem Hr{nt:Nat}{all:List Oper}(px:(uV P call o.op).1=.al):Py (r8 P call nt all o):=by
 have hf:Py (uV P call o.op).2:=Sx px
 unfold r8
 cases o.guard with
 |none=>exact hf
 |some p=>
  obtain⟨j,want⟩:=p
  simp only
  split
  ·split
   ·refine Ch ?_
    intro t h v h' e h0 hn
    unfold gF at e ⊢
    split at e
    ·rename_i b hb
     cases hw:pH want b (!b)with
     |false=>rw[hw]at e;cases e;exact .inl ⟨rfl,rfl⟩
     |true=>rw[hw]at e;exact hf t h v h' e h0 hn
    ·cases e
     exact .inl ⟨rfl,rfl⟩
    ·cases e
   ·exact qi
  ·exact qi
end
end Go.Ab

noncomputable section
namespace Go.Ab
variable [Io]
inductive sM where
 |last (pre pA:List Nat)
 |cons (pre pA:List Nat) (q:Nat) (rest:sM)
def sM.pre:sM->List Nat
 | .last p _=>p
 | .cons p _ _ _=>p
def sM.pA:sM->List Nat
 | .last _ a=>a
 | .cons _ a _ r=>a++r.pA
def sM.Di:sM->List Nat
 | .last _ _=>[]
 | .cons _ _ q r=>q::r.Di
structure Cx where
 P:Program
 call:mS
 ops:Array Oper
 nt:Nat
 t0:Tm
 te:Tm
 nx:Nat->Nat
 bd:Nat->Nat
 g0:G
 w0:World
 h0:Hp
 hE:Hp
namespace Cx
variable (c:Cx)
def np(i:Nat)(k:Cl):Prop:= ∃ o,c.ops[i]? =some o/\(uV c.P c.call o.op).1=k
def FE(i:Nat):nY:=match c.ops[i]? with
 |some o=>r8 c.P c.call c.nt c.ops.toList o
 |none=>cW
def sV(i d:Nat):Prop:= ∃ o,c.ops[i]? =some o/\o.dst=some d
def Xa(i:Nat):List Nat:=match c.ops[i]? with
 |some o=>wE c.ops.toList o
 |none=>[]
def An(i j:Nat):Prop:=J7 c.ops.toList i j=true
def uY(i N:Nat):Prop:= ∀ u∈c.Xa i,u<c.nt/\((∀ j,c.sV j u->c.An i j/\c.bd j<=N)∨ ∀ j,c.sV j u->c.An j i)
open Classical in
def QS(i:Nat):List Nat->Tm
 | []=>Tm.none
 |u::l=>Tm.put (QS i l) u (if ∃ j,c.sV j u/\c.An i j then Tm.at c.te u else Tm.at c.t0 u)
def rf(i:Nat):Tm:=c.QS i (c.Xa i)
def Slot(i:Nat)(v:AV):Prop:= ∀ d,c.sV i d->d<c.nt/\c.te.at d=some v
def P1s(pre:List Nat)(h:Hp):Prop:= ∀ i∈pre,c.np i .p1-> ∃ v,c.FE i (c.rf i) h=.ok v h/\c.Slot i v/\c.uY i h.next
def AK:List Nat->Hp->Hp->Prop
 | [],h,h1=>h1=h
 |i::l,h,h1=>(c.np i .p0/\AK l h h1)∨(c.np i .al/\c.nx i=h.next/\((c.bd i=c.nx i/\AK l h h1)∨
  ∃ v cs,c.bd i=c.nx i+1/\c.FE i (c.rf i) (oO (c.nx i))=.ok v (nn (oO (c.nx i)) cs)/\AK l (nn h cs) h1))
def Dz:sM->Hp->Prop
 | .last pre pA,h=>c.P1s pre h/\c.AK pA h c.hE
 | .cons pre pA q rest,h=>c.P1s pre h/\ ∃ h1,c.AK pA h h1/\c.np q .ch/\ ∃ v h2,c.FE q (c.rf q) h1=.ok v h2/\c.Slot q v/\c.uY q h1.next/\
   c.bd q=h2.next/\h1.next<=h2.next/\Dz rest h2
def M5:List Nat->sM->Prop
 |past,.last pre _=> ∀ i,c.np i .p1->(∃ j∈past,c.An j i)∨i∈pre
 |past,.cons pre pA q rest=>(∀ i,c.np i .p1->(∃ j∈past,c.An j i)∨(∃ j∈q::rest.Di,c.An i j)∨i∈pre)/\(∀ i∈pA,c.np i .al->c.An q i)/\
  (∀ q'∈rest.Di,c.An q' q)/\M5 (q::past) rest
structure Yw:Prop where
 p0: ∀ i,c.np i .p0-> ∃ v,(∀ h,c.FE i (c.rf i) h=.ok v h)/\c.Slot i v/\c.uY i (c.bd i)
 al: ∀ i,c.np i .al-> ∃ v,c.Slot i v/\c.uY i (c.nx i)/\((c.FE i (c.rf i) (oO (c.nx i))=.ok v (oO (c.nx i))/\c.bd i=c.nx i)∨
  ∃ cs,c.FE i (c.rf i) (oO (c.nx i))=.ok v (nn (oO (c.nx i)) cs)/\c.bd i=c.nx i+1)
 dst: ∀ i j d,c.sV i d->c.sV j d->i=j
 top: ∀ i,i<c.ops.size->c.bd i<=c.hE.next
 same: ∀ u,u<512->(∀ j,¬ c.sV j u)->c.te.at u=c.t0.at u
 call:nv c.P c.call
 nt:c.nt<=512
omit [Io] in
theorem vU{h1:Hp}: ∀ {l:List Nat} {h:Hp},c.AK l h h1->h.next<=h1.next
 | [],h,e=>by cases e;exact Nat.le_refl _
 |i::l,h,e=>by
  rcases e with⟨_,e⟩|⟨_,_,⟨_,e⟩|⟨v,cs,_,_,e⟩⟩
  ·exact vU e
  ·exact vU e
  ·have:=vU e
   exact Nat.le_trans (Nat.le_succ _) this
omit [Io] in
theorem th{h1:Hp}: ∀ {l:List Nat} {h:Hp},c.AK l h h1-> ∀ i∈l,c.np i .al->h.next<=c.nx i/\(c.bd i=c.nx i+1->c.nx i<h1.next)
 | [],h,e,i,hi,_=>by cases hi
 |j::l,h,e,i,hi,hc=>by
  rcases e with⟨hj,e⟩|⟨hj,hn,⟨hb,e⟩|⟨v,cs,hb,_,e⟩⟩
  ·rcases List.mem_cons.1 hi with rfl|hi
   ·obtain⟨o,ho,h1⟩:=hj
    obtain⟨o',sW,h2⟩:=hc
    rw[ho]at sW
    cases sW
    rw[h1]at h2
    cases h2
   ·exact th e i hi hc
  ·rcases List.mem_cons.1 hi with rfl|hi
   ·exact⟨by omega,fun h=>by omega⟩
   ·exact th e i hi hc
  ·rcases List.mem_cons.1 hi with rfl|hi
   ·have:=vU c e
    have:h.next+1<=h1.next:=this
    exact⟨by omega,fun _=>by omega⟩
   ·have:=th e i hi hc
    have h2:h.next+1<=c.nx i:=this.1
    exact⟨by omega,this.2⟩
omit [Io] in
theorem xB: ∀ {pl:sM} {h:Hp},c.Dz pl h-> ∀ i∈pl.pA,c.np i .al->h.next<=c.nx i
 | .last pre pA,h,⟨_,e⟩,i,hi,hc=>(c.th e i hi hc).1
 | .cons pre pA q rest,h,⟨_,h1,e,_,v,h2,_,_,_,_,hle,r⟩,i,hi,hc=>by
  rcases List.mem_append.1 hi with hi|hi
  ·exact(c.th e i hi hc).1
  ·exact Nat.le_trans (c.vU e) (Nat.le_trans hle (xB r i hi hc))
omit [Io] in
theorem rr{i:Nat}{k:Cl}(h:c.np i k){k':Cl}(h':c.np i k'):k=k':=by
 obtain⟨o,ho,h1⟩:=h
 obtain⟨o',sW,h2⟩:=h'
 rw[ho]at sW
 cases sW
 exact h1.symm.trans h2
omit [Io] in
theorem yw{h1:Hp}: ∀ {l:List Nat} {h:Hp},c.AK l h h1-> ∀ i∈l,∀ j∈l,c.np i .al->c.np j .al->c.bd i=c.nx i+1->c.bd j=c.nx j+1->c.nx i=c.nx j->i=j
 | [],h,e,i,hi,_,_,_,_,_,_,_=>by cases hi
 |k::l,h,e,i,hi,j,hj,ci,cj,bi,bj,Yx=>by
  rcases e with⟨hk,e⟩|⟨hk,hn,⟨hb,e⟩|⟨v,cs,hb,_,e⟩⟩
  ·have ni:i≠k:=fun e=>by subst e;cases c.rr hk ci
   have nj:j≠k:=fun e=>by subst e;cases c.rr hk cj
   exact yw e i ((List.mem_cons.1 hi).resolve_left ni) j ((List.mem_cons.1 hj).resolve_left nj) ci cj bi bj Yx
  ·have ni:i≠k:=fun e=>by subst e;omega
   have nj:j≠k:=fun e=>by subst e;omega
   exact yw e i ((List.mem_cons.1 hi).resolve_left ni) j ((List.mem_cons.1 hj).resolve_left nj) ci cj bi bj Yx
  ·by_cases ni:i=k<;>by_cases nj:j=k
   ·exact ni.trans nj.symm
   ·have:=(c.th e j ((List.mem_cons.1 hj).resolve_left nj) cj).1
    have:h.next+1<=c.nx j:=this
    subst ni
    omega
   ·have:=(c.th e i ((List.mem_cons.1 hi).resolve_left ni) ci).1
    have:h.next+1<=c.nx i:=this
    subst nj
    omega
   ·exact yw e i ((List.mem_cons.1 hi).resolve_left ni) j ((List.mem_cons.1 hj).resolve_left nj) ci cj bi bj Yx
omit [Io] in
theorem yx: ∀ {pl:sM} {h:Hp},c.Dz pl h-> ∀ i∈pl.pA,∀ j∈pl.pA,c.np i .al->c.np j .al->c.bd i=c.nx i+1->c.bd j=c.nx j+1->c.nx i=c.nx j->i=j
 | .last pre pA,h,⟨_,e⟩,i,hi,j,hj,ci,cj,bi,bj,Yx=>c.yw e i hi j hj ci cj bi bj Yx
 | .cons pre pA q rest,h,⟨_,h1,e,_,v,h2,_,_,_,_,hle,r⟩,i,hi,j,hj,ci,cj,bi,bj,Yx=>by
  rcases List.mem_append.1 hi with hi|hi<;>rcases List.mem_append.1 hj with hj|hj
  ·exact c.yw e i hi j hj ci cj bi bj Yx
  ·have:=(c.th e i hi ci).2 bi
   have:=c.xB r j hj cj
   omega
  ·have:=(c.th e j hj cj).2 bj
   have:=c.xB r i hi ci
   omega
  ·exact yx r i hi j hj ci cj bi bj Yx
def Pz(g:G)(w:World)(h:Hp)(i:Nat):Prop:=
 c.bd i=c.nx i∨ ∃ v cs b C,∃ el:FT C,∃ vs,c.bd i=c.nx i+1/\c.FE i (c.rf i) (oO (c.nx i))=.ok v (nn (oO (c.nx i)) cs)/\g.m (c.nx i)=some (b,0)/\w.heap[b]? =some (.cells C el.el el.fz)/\
  ¬ g.nQ b/\ ¬ qc (g.to h.next) h b/\c.w0.heap.size<=b/\cH (g.to (c.nx i)) w cs.toL vs/\ ∀ (j:Nat) (v:Value),vs[j]? =some v->C[j]? =some v
structure St(g:G)(w:World)(h:Hp)(A D:List Nat):Prop where
 hr:HR (g.to h.next) w h
 ext:Ext c.g0 c.w0 c.h0 (g.to h.next) w h
 J': ∀ i∈A,i∈D->c.np i .al->c.Pz g w h i
 PC: ∀ i∈A,∀ j∈A,i∈D->j∈D->c.np i .al->c.np j .al->c.bd i=c.nx i+1->c.bd j=c.nx j+1-> ∀ b,g.m (c.nx i)=some (b,0)->g.m (c.nx j)=some (b,0)->i=j
omit [Io] in
theorem vV{h:Hp}{cs:Rw}{id:Nat}:(nn h cs).cw.get id=if id=h.next then some cs else h.cw.get id:=Tr.qQ _ _ _ _
omit [Io] in
theorem SA{h:Hp}{cs cs':Rw}(e:nn h cs=nn h cs'):cs=cs':=by
 have h1:(nn h cs).cw.get h.next=some cs:=by rw[vV,if_pos rfl]
 rw[e,vV,if_pos rfl]at h1
 exact(Option.some.inj h1).symm
theorem ais{g:G}{w:World}{h:Hp}(H:HR (g.to h.next) w h){b:Nat}{C:Array Value}{el:FT C}{cs:Rw}{vs:List Value}(hm:g.m h.next=some (b,0))
 (hw:w.heap[b]? =some (.cells C el.el el.fz))(hi: ¬ g.nQ b)(ho: ¬ qc (g.to h.next) h b)(hv:cH (g.to h.next) w cs.toL vs)(hC: ∀ (j:Nat) (v:Value),vs[j]? =some v->C[j]? =some v):
 HR (g.to (nn h cs).next) w (nn h cs)/\ ∀ b',qc (g.to (nn h cs).next) (nn h cs) b'->qc (g.to h.next) h b'∨b'=b:=by
 have hn:(nn h cs).next=h.next+1:=rfl
 have hM:=uX g w (N:=h.next) (M:=h.next+1) (by omega)
 have hle: ∀ id cs',h.cw.get id=some cs'->id<h.next:=by
  intro id cs' e
  refine Classical.byContradiction fun k=>?_
  obtain⟨b',s,_,_,_,MG,_⟩:=H.cw id cs' e
  rw[H.fresh id (by omega)]at MG
  cases MG
 have Ba: ∀ id,id<h.next->(g.to (h.next+1)).m id=(g.to h.next).m id:=by
  intro id k
  simp only[G.to]
  rw[if_pos (by omega),if_pos k]
 have hat:(g.to (h.next+1)).m h.next=some (b,0):=by
  simp only[G.to]
  rw[if_pos (by omega)]
  exact hm
 rw[hn]
 refine⟨⟨?_,?_,?_,fun k i=>H.nQ k i,fun p hp=>H.tb p hp⟩,?_⟩
 ·intro id qd
  have:h.next+1<=id:=qd
  simp only[G.to]
  rw[if_neg (by omega)]
 ·intro id cs' e
  rw[vV]at e
  by_cases qd:id=h.next
  ·subst qd
   rw[if_pos rfl]at e
   cases e
   exact⟨b,0,C,el,vs,hat,hw,hi,cH.oG hM _ _ hv,by simpa using hC⟩
  ·rw[if_neg qd]at e
   obtain⟨b',s,C',el',vs',MG,hw',vw,vA,hc'⟩:=H.cw id cs' e
   exact⟨b',s,C',el',vs',by rw[Ba id (hle id cs' e)];exact MG,hw',vw,cH.oG hM _ _ vA,hc'⟩
 ·intro id Am b1 s s' MI BS e1 e2 m1 m2
  rw[vV]at e1 e2
  by_cases h1:id=h.next<;>by_cases h2:Am=h.next
  ·exact h1.trans h2.symm
  ·subst h1
   rw[if_neg h2]at e2
   rw[hat]at m1
   obtain⟨rfl,_⟩:=Prod.mk.inj (Option.some.inj m1)
   rw[Ba Am (hle Am _ e2)]at m2
   exact absurd ⟨Am,BS,s',e2,m2⟩ ho
  ·subst h2
   rw[if_neg h1]at e1
   rw[hat]at m2
   obtain⟨rfl,_⟩:=Prod.mk.inj (Option.some.inj m2)
   rw[Ba id (hle id _ e1)]at m1
   exact absurd ⟨id,MI,s,e1,m1⟩ ho
  ·rw[if_neg h1]at e1
   rw[if_neg h2]at e2
   rw[Ba id (hle id _ e1)]at m1
   rw[Ba Am (hle Am _ e2)]at m2
   exact H.inj id Am b1 s s' MI BS e1 e2 m1 m2
 ·rintro b' ⟨id,cs',s,e,m⟩
  rw[vV]at e
  by_cases qd:id=h.next
  ·subst qd
   rw[hat]at m
   obtain⟨rfl,_⟩:=Prod.mk.inj (Option.some.inj m)
   exact .inr rfl
  ·rw[if_neg qd]at e
   rw[Ba id (hle id _ e)]at m
   exact .inl ⟨id,cs',s,e,m⟩
omit [Io] in
theorem PD{g:G}{w:World}{h:Hp}{b:Nat}{cs:Rw}(E:Ext c.g0 c.w0 c.h0 (g.to h.next) w h)(hb:c.w0.heap.size<=b)
 (hO: ∀ b',qc (g.to (nn h cs).next) (nn h cs) b'->qc (g.to h.next) h b'∨b'=b):Ext c.g0 c.w0 c.h0 (g.to (nn h cs).next) w (nn h cs) where
 os:=E.os
 tape:=E.tape
 output:=E.output
 size:=E.size
 next:=Nat.le_trans E.next (Nat.le_succ _)
 m:=fun id x e=>(uX g w (N:=h.next) (M:=h.next+1) (by omega)).m id x (E.m id x e)
 vG:=E.vG
 rows:=E.rows
 nQ:=E.nQ
 O5:=E.O5
 uw:=fun k o=>by
  rcases hO k o with o|rfl
  ·exact E.uw k o
  ·exact .inr hb
theorem settle{g:G}{w:World}{D A:List Nat}{h1:Hp}: ∀ (l:List Nat) (h:Hp),c.AK l h h1->(∀ i∈l,c.np i .al->i∈D)->c.St g w h (l++A) D->
 (∀ i∈A,c.np i .al->h1.next<=c.nx i)->c.St g w h1 A D
 | [],h,e,_,S,_=>by cases e;exact S
 |i::l,h,e,hd,S,hA=>by
  have Ka:=fun j hj=>hd j (List.mem_cons_of_mem i hj)
  have S':c.St g w h (l++A) D:=⟨S.hr,S.ext,fun j hj=>S.J' j (List.mem_cons_of_mem _ hj),fun j hj k hk=>S.PC j (List.mem_cons_of_mem _ hj) k (List.mem_cons_of_mem _ hk)⟩
  rcases e with⟨_,e⟩|⟨hk,hn,⟨hb,e⟩|⟨v,cs,hb,hF,e⟩⟩
  ·exact settle l h e Ka S' hA
  ·exact settle l h e Ka S' hA
  ·have Ee:=hd i List.mem_cons_self hk
   rcases S.J' i List.mem_cons_self Ee hk with hp|⟨v',cs',b,C,el,vs,_,hF',hm,hw,him,hO,hb0,hv,hC⟩
   ·omega
   rw[hF]at hF'
   obtain⟨rfl,rj⟩:=Ro.ok.inj hF'
   obtain rfl:=SA rj
   rw[hn]at hm hv
   obtain⟨hr',hO'⟩:=ais S.hr hm hw him hO hv hC
   refine settle l (nn h cs) e Ka ⟨hr',c.PD S.ext hb0 hO',?_,S'.PC⟩ hA
   intro j hj Kb GD
   rcases S'.J' j hj Kb GD with hp|⟨v2,BS,b2,C2,el2,W7,GC,hF2,Pc,RI,anW,hO2,anX,hv2,hC2⟩
   ·exact .inl hp
   ·refine .inr ⟨v2,BS,b2,C2,el2,W7,GC,hF2,Pc,RI,anW,fun o=>?_,anX,hv2,hC2⟩
    rcases hO' _ o with o|rfl
    ·exact hO2 o
    ·have hjn:h.next+1<=c.nx j:=by
      rcases List.mem_append.1 hj with hj|hj
      ·exact(c.th e j hj GD).1
      ·exact Nat.le_trans (c.vU e) (hA j hj GD)
     have:=S.PC i List.mem_cons_self j (List.mem_cons_of_mem _ hj) Ee Kb hk GD hb GC b2 (by rw[hn];exact hm) Pc
     subst this
     omega
end Cx
end Go.Ab

noncomputable section
namespace Go.Ab
variable [Io]
namespace Cx
variable (c:Cx)
structure Inv(g:G)(w:World)(h:Hp)(a:Act)(D past:List Nat)(pl:sM):Prop where
 run:c.Dz pl h
 stat:c.M5 past pl
 closed:Fo c.ops.toList D
 Di: ∀ i,c.np i .ch->i∈pl.Di∨i∈D
 Xb: ∀ i∈pl.Di,i∉D
 At: ∀ j∈past,j∈D
 alc: ∀ i,c.np i .al->i∈pl.pA∨i∈D
 st:c.St g w h pl.pA D
 dom: ∀ id x,g.m id=some x->id<h.next∨ ∃ i∈pl.pA,i∈D/\c.np i .al/\c.bd i=c.nx i+1/\id=c.nx i
 vW: ∀ j∈D,∀ d,c.sV j d->d<c.nt/\ ∃ v,c.te.at d=some v/\VR (g.to (max (c.bd j) h.next)) w v (a.tmps.getD d undef)
 free: ∀ u v,u<512->(∀ j∈D,¬ c.sV j u)->c.t0.at u=some v->u<c.nt/\VR (g.to h.next) w v (a.tmps.getD u undef)
 size:a.tmps.size=c.nt
 defers:a.defers=[]
variable {c}
omit [Io] in
theorem Au{i:Nat}{o:Oper}(ho:c.ops[i]? =some o):c.FE i=r8 c.P c.call c.nt c.ops.toList o:=by unfold FE;rw[ho]
omit [Io] in
theorem adV{i:Nat}{o:Oper}(ho:c.ops[i]? =some o):c.Xa i=wE c.ops.toList o:=by unfold Xa;rw[ho]
omit [Io] in
theorem SB{i:Nat}: ∀ (l:List Nat),(∀ u∈l,u<512)-> ∀ u v,u<512->(c.QS i l).at u=some v->u∈l/\(((∃ j,c.sV j u/\c.An i j)/\c.te.at u=some v)∨((¬ ∃ j,c.sV j u/\c.An i j)/\c.t0.at u=some v))
 | [],_,u,v,hu,e=>by rw[QS,Tm.EW u hu]at e;cases e
 |x::l,hl,u,v,hu,e=>by
  rw[QS,Tm.qy _ _ _ _ (hl x List.mem_cons_self) hu]at e
  by_cases hx:u=x
  ·subst hx
   rw[if_pos rfl]at e
   refine⟨List.mem_cons_self,?_⟩
   by_cases hw: ∃ j,c.sV j u/\c.An i j
   ·rw[if_pos hw]at e;exact .inl ⟨hw,e⟩
   ·rw[if_neg hw]at e;exact .inr ⟨hw,e⟩
  ·rw[if_neg hx]at e
   obtain⟨h1,h2⟩:=SB l (fun y hy=>hl y (List.mem_cons_of_mem _ hy)) u v hu e
   exact⟨List.mem_cons_of_mem _ h1,h2⟩
theorem Inv.reads{g w h a D past pl}(I:c.Inv g w h a D past pl)(qt:c.nt<=512){i N M:Nat}(hr:c.uY i M)(Ee:i∉D)(hD: ∀ j,c.An i j->j∈D)(hM:M<=N)(hN:h.next<=N):
 TR (g.to N) w c.nt (c.rf i) a.tmps:=by
 have oI: ∀ u∈c.Xa i,u<512:=fun u hu=>Nat.lt_of_lt_of_le (hr u hu).1 qt
 refine⟨qt,I.size,fun u v hu e=>?_⟩
 obtain⟨hm,W9⟩:=SB _ oI u v hu e
 refine⟨(hr u hm).1,?_⟩
 rcases W9 with⟨⟨j,hj,hA⟩,e⟩|⟨hno,e⟩
 ·rcases(hr u hm).2 with h1|h1
  ·obtain⟨_,hb⟩:=h1 j hj
   obtain⟨_,v',e',hv⟩:=I.vW j (hD j hA) u hj
   rw[e]at e'
   cases e'
   exact VR.oG (uX g w (by omega)) _ _ hv
  ·exact absurd (I.closed j (hD j hA) i (h1 j hj)) Ee
 ·refine VR.oG (uX g w hN) _ _ (I.free u v hu (fun j Kb hj=>?_) e).2
  rcases(hr u hm).2 with h1|h1
  ·exact hno ⟨j,hj,(h1 j hj).1⟩
  ·exact Ee (I.closed j Kb i (h1 j hj))
omit [Io] in
theorem Fs{a:Act}{od:Option Nat}{x:Value}{d:Nat}(hd:d<a.tmps.size):(a.put od x).tmps.getD d undef=if od=some d then x else a.tmps.getD d undef:=by
 cases od with
 |none=>rfl
 |some e=>
  show(a.tmps.setIfInBounds e x).getD d undef=_
  rw[Array.getD_eq_getD_getElem?,Array.getD_eq_getD_getElem?]
  by_cases he:e=d
  ·subst he
   rw[Array.getElem?_setIfInBounds_self_of_lt hd,if_pos rfl];rfl
  ·rw[Array.getElem?_setIfInBounds_ne he,if_neg (fun k=>he (Option.some.inj k))]
omit [Io] in
theorem Ci{a:Act}{od:Option Nat}{x:Value}:(a.put od x).tmps.size=a.tmps.size:=by
 cases od with
 |none=>rfl
 |some e=>show(a.tmps.setIfInBounds e x).size=_;simp
omit [Io] in
theorem put_defers{a:Act}{od:Option Nat}{x:Value}:(a.put od x).defers=a.defers:=by cases od<;>rfl
theorem zJ{g:G}{w w':World}{g':G}{a:Act}{D:List Nat}{i:Nat}{o:Oper}{x:Value}{N N':Nat}(G0:c.Yw)(ho:c.ops[i]? =some o)
 (hs:a.tmps.size=c.nt)
 (vW: ∀ j∈D,∀ d,c.sV j d->d<c.nt/\ ∃ v,c.te.at d=some v/\VR (g.to (max (c.bd j) N)) w v (a.tmps.getD d undef))
 (mono: ∀ j∈D,w5 (g.to (max (c.bd j) N)) w (g'.to (max (c.bd j) N')) w')(hi:i∉D)
 (hx: ∀ d,c.sV i d->d<c.nt/\ ∃ v,c.te.at d=some v/\VR (g'.to (max (c.bd i) N')) w' v x):
 ∀ j∈i::D,∀ d,c.sV j d->d<c.nt/\ ∃ v,c.te.at d=some v/\VR (g'.to (max (c.bd j) N')) w' v ((a.put o.dst x).tmps.getD d undef):=by
 intro j hj d hd
 by_cases Jz:j=i
 ·subst Jz
  obtain⟨h1,v,h2,h3⟩:=hx d hd
  refine⟨h1,v,h2,?_⟩
  obtain⟨o',sW,Ka⟩:=hd
  rw[ho]at sW
  cases sW
  rw[Fs (by omega),if_pos Ka]
  exact h3
 ·obtain⟨h1,v,h2,h3⟩:=vW j ((List.mem_cons.1 hj).resolve_left Jz) d hd
  refine⟨h1,v,h2,?_⟩
  rw[Fs (by omega),if_neg (fun k=>Jz (G0.dst j i d hd ⟨o,ho,k⟩))]
  exact VR.oG (mono j ((List.mem_cons.1 hj).resolve_left Jz)) _ _ h3
theorem Cj{g:G}{w w':World}{g':G}{a:Act}{D:List Nat}{i:Nat}{o:Oper}{x:Value}{N N':Nat}(ho:c.ops[i]? =some o)(hs:a.tmps.size=c.nt)
 (free: ∀ u v,u<512->(∀ j∈D,¬ c.sV j u)->c.t0.at u=some v->u<c.nt/\VR (g.to N) w v (a.tmps.getD u undef))(mono:w5 (g.to N) w (g'.to N') w'):
 ∀ u v,u<512->(∀ j∈i::D,¬ c.sV j u)->c.t0.at u=some v->u<c.nt/\VR (g'.to N') w' v ((a.put o.dst x).tmps.getD u undef):=by
 intro u v hu hd e
 obtain⟨h1,h2⟩:=free u v hu (fun j hj=>hd j (List.mem_cons_of_mem _ hj)) e
 refine⟨h1,?_⟩
 rw[Fs (by omega),if_neg (fun k=>hd i List.mem_cons_self ⟨o,ho,k⟩)]
 exact VR.oG mono _ _ h2
theorem Inv.put{g w h a D past pl}(G0:c.Yw)(I:c.Inv g w h a D past pl){i:Nat}{o:Oper}(ho:c.ops[i]? =some o)(hi:i∉D)(hC:Fo c.ops.toList (i::D))
 (hk:c.np i .p0∨c.np i .p1){v:AV}{x:Value}(hs:c.Slot i v)(hx:VR (g.to (max (c.bd i) h.next)) w v x):c.Inv g w h (a.put o.dst x) (i::D) past pl:=by
 have Kc: ∀ j,c.np j .al->j∈i::D->j∈D:=by
  intro j hj h
  refine(List.mem_cons.1 h).resolve_left fun e=>?_
  subst e
  rcases hk with hk|hk<;>cases c.rr hk hj
 exact
 {run:=I.run
  stat:=I.stat
  closed:=hC
  Di:=fun j hj=>(I.Di j hj).imp id (List.mem_cons_of_mem _)
  Xb:=fun j hj h=>by
   rcases List.mem_cons.1 h with rfl|h
   ·have:c.np j .ch:=by
     have key: ∀ {pl:sM} {h:Hp},c.Dz pl h-> ∀ j∈pl.Di,c.np j .ch:=by
      intro pl
      induction pl with
      |last pre pA=>intro h r j hj;cases hj
      |cons pre pA q rest ih=>
       intro h r j hj
       obtain⟨_,h1,_,hq,v,h2,_,_,_,_,_,r⟩:=r
       rcases List.mem_cons.1 hj with rfl|hj
       ·exact hq
       ·exact ih r j hj
     exact key I.run j hj
    rcases hk with hk|hk<;>cases c.rr hk this
   ·exact I.Xb j hj h
  At:=fun j hj=>List.mem_cons_of_mem _ (I.At j hj)
  alc:=fun j hj=>(I.alc j hj).imp id (List.mem_cons_of_mem _)
  st:=⟨I.st.hr,I.st.ext,fun j hj hD hc=>I.st.J' j hj (Kc j hc hD) hc,fun j hj k hk jD kD jc kc=>I.st.PC j hj k hk (Kc j jc jD) (Kc k kc kD) jc kc⟩
  dom:=fun n y e=>(I.dom n y e).imp id fun⟨j,hj,hD,r⟩=>⟨j,hj,List.mem_cons_of_mem _ hD,r⟩
  vW:=zJ G0 ho I.size I.vW (fun j _=>Ec _ _) hi (fun d hd=>⟨(hs d hd).1,v,(hs d hd).2,hx⟩)
  free:=Cj ho I.size I.free (Ec _ _)
  size:=by rw[Ci];exact I.size
  defers:=by rw[put_defers];exact I.defers}
omit [Io] in
theorem M6: ∀ {pl:sM} {h:Hp},c.Dz pl h-> ∀ j∈pl.Di,c.np j .ch:=by
 intro pl
 induction pl with
 |last pre pA=>intro h r j hj;cases hj
 |cons pre pA q rest ih=>
  intro h r j hj
  obtain⟨_,h1,_,hq,v,h2,_,_,_,_,_,r⟩:=r
  rcases List.mem_cons.1 hj with rfl|hj
  ·exact hq
  ·exact ih r j hj
omit [Io] in
theorem adW{pl:sM}{h:Hp}(r:c.Dz pl h):c.P1s pl.pre h:=by
 cases pl with
 |last pre pA=>exact r.1
 |cons pre pA q rest=>exact r.1
omit [Io] in
theorem Yy{past:List Nat}{pl:sM}(s:c.M5 past pl): ∀ i,c.np i .p1->(∃ j∈past,c.An j i)∨(∃ j∈pl.Di,c.An i j)∨i∈pl.pre:=by
 cases pl with
 |last pre pA=>exact fun i hi=>(s i hi).imp id .inr
 |cons pre pA q rest=>exact s.1
omit [Io] in
theorem uZ{w:World}{ob:Obj}{b:Nat}:(w.alloc ob).heap[b]? =if b=w.heap.size then some ob else w.heap[b]? :=by
 show(w.heap.push _)[b]? =_
 rw[Array.getElem?_push]
omit [Io] in
theorem xC{g g':G}{w:World}{ob:Obj}(hm: ∀ id x,g.m id=some x->g'.m id=some x)(hi:g'.nQ=g.nQ)(hb: ∀ b,g.nQ b->b<w.heap.size):w5 g w g' (w.alloc ob):=
 ⟨hm,fun b i=>by rw[hi];exact i,fun b i=>by
  have:=hb b i
  rw[uZ,if_neg (by omega)],fun b=>by
  unfold nE
  rw[uZ]
  by_cases h:b=w.heap.size
  ·subst h;simp
  ·rw[if_neg h];exact Nat.le_refl _⟩
theorem Ke{g g':G}{w:World}{h:Hp}{ob:Obj}{i:Nat}(hm: ∀ id x,g.m id=some x->g'.m id=some x)(hi:g'.nQ=g.nQ)(hb: ∀ b,g.nQ b->b<w.heap.size)
 (Ba:g'.to h.next=g.to h.next)(p:c.Pz g w h i):c.Pz g' (w.alloc ob) h i:=by
 rcases p with p|⟨v,cs,b,C,el,vs,h1,h2,h3,h4,h5,h6,h7,h8,h9⟩
 ·exact .inl p
 ·have oI:=(Array.getElem?_eq_some_iff.1 h4).1
  refine .inr ⟨v,cs,b,C,el,vs,h1,h2,hm _ _ h3,by rw[uZ,if_neg (by omega)];exact h4,by rw[hi];exact h5,by rw[Ba];exact h6,h7,?_,h9⟩
  refine cH.oG ?_ _ _ h8
  refine xC ?_ (by simp only[G.to];exact hi) (by simp only[G.to];exact hb)
  intro id x e
  simp only[G.to]at e ⊢
  by_cases qd:id<c.nx i
  ·rw[if_pos qd]at e ⊢;exact hm _ _ e
  ·rw[if_neg qd]at e;cases e
end Cx
end Go.Ab

noncomputable section
namespace Go.Ab
variable [Io]
namespace Cx
variable {c:Cx}
omit [Io] in
theorem G.SC{g:G}{id b N:Nat}(h:N<=id):(g.add id b).to N=g.to N:=by
 unfold Go.Ab.G.to G.add
 congr 1
 funext k
 by_cases hk:k<N
 ·simp only[hk,if_true]
  rw[if_neg (by omega)]
 ·simp only[hk,if_false]
theorem sim(G0:c.Yw){Q:Exit->Act->World->Prop}(K:uz c.g0 c.w0 c.h0 c.nt c.te c.hE (Q .normal)): ∀ (s D past:List Nat) (pl:sM) (g:G) (w:World) (h:Hp) (a:Act),
 Ym c.ops D s->c.Inv g w h a D past pl->wpOps c.P c.ops Q s a w
 | [],D,past,pl,g,w,h,a,L,I=>by
  have PE: ∀ i,i<c.ops.size->i∈D:=L
  have oI: ∀ {i k},c.np i k->i<c.ops.size:=fun⟨o,ho,_⟩=>(Array.getElem?_eq_some_iff.1 ho).1
  show Q .normal a w
  cases pl with
  |cons pre pA q rest=>
   exact absurd (PE q (oI (M6 I.run q List.mem_cons_self))) (I.Xb q List.mem_cons_self)
  |last pre pA=>
   have S:=c.settle (A:=[]) pA h I.run.2 (fun i _ hc=>PE i (oI hc)) (by rw[List.append_nil];exact I.st) (fun i hi=>by cases hi)
   refine K _ _ _ S.ext S.hr ⟨G0.nt,I.size,fun u v hu e=>?_⟩ I.defers
   have hle:=c.vU I.run.2
   by_cases hd: ∃ j,c.sV j u
   ·obtain⟨j,hj⟩:=hd
    obtain⟨o,ho,_⟩:=id hj
    have hjs:=(Array.getElem?_eq_some_iff.1 ho).1
    obtain⟨h1,v',e',hv⟩:=I.vW j (PE j hjs) u hj
    rw[e]at e'
    cases e'
    have:=G0.top j hjs
    exact⟨h1,VR.oG (uX g w (by omega)) _ _ hv⟩
   ·rw[G0.same u hu (fun j hj=>hd ⟨j,hj⟩)]at e
    obtain⟨h1,h2⟩:=I.free u v hu (fun j _ hj=>hd ⟨j,hj⟩) e
    exact⟨h1,VR.oG (uX g w hle) _ _ h2⟩
 |i::s,D,past,pl,g,w,h,a,⟨his,Ee,hE,L⟩,I=>by
  obtain⟨o,ho⟩: ∃ o,c.ops[i]? =some o:=⟨c.ops[i],Array.getElem?_eq_getElem his⟩
  obtain⟨Ft,hC⟩:=Hk I.closed ho hE
  have Kf: ∀ b,g.nQ b->b<w.heap.size:=I.st.hr.nQ
  cases hk:(uV c.P c.call o.op).1 with
  |p0=>
   have px:c.np i .p0:=⟨o,ho,hk⟩
   obtain⟨v,hF,hS,hR⟩:=G0.p0 i px
   have T:=I.reads G0.nt hR Ee Ft (N:=max (c.bd i) h.next) (by omega) (by omega)
   have e:r8 c.P c.call c.nt c.ops.toList o (c.rf i) (oO 0)=.ok v (oO 0):=by
    rw[<-Au ho];exact hF _
   exact Ed G0.call ho (.inl hk) (Sy (g:=g.to (max (c.bd i) h.next)) Kf) T e fun x hx=>sim G0 K s _ _ _ _ _ _ _ L (I.put G0 ho Ee hC (.inl px) hS hx)
  |p1=>
   have px:c.np i .p1:=⟨o,ho,hk⟩
   have adI:i∈pl.pre:=by
    rcases Yy I.stat i px with⟨j,hj,hA⟩|⟨j,hj,hA⟩|h
    ·exact absurd (I.closed j (I.At j hj) i hA) Ee
    ·exact absurd (Ft j hA) (I.Xb j hj)
    ·exact h
   obtain⟨v,hF,hS,hR⟩:=adW I.run i adI px
   have T:=I.reads G0.nt hR Ee Ft (N:=h.next) (Nat.le_refl _) (Nat.le_refl _)
   have e:r8 c.P c.call c.nt c.ops.toList o (c.rf i) h=.ok v h:=by
    rw[<-Au ho];exact hF
   exact Ed G0.call ho (.inr hk) I.st.hr.toHC T e fun x hx=>sim G0 K s _ _ _ _ _ _ _ L
    (I.put G0 ho Ee hC (.inr px) hS (VR.oG (uX g w (by omega)) _ _ hx))
  |al=>
   have px:c.np i .al:=⟨o,ho,hk⟩
   obtain⟨v,hS,hR,hF⟩:=G0.al i px
   have Fl:i∈pl.pA:=(I.alc i px).resolve_right Ee
   have hnx:=c.xB I.run i Fl px
   have T:=I.reads G0.nt hR Ee Ft (N:=c.nx i) (Nat.le_refl _) hnx
   obtain⟨h',hh',hF'⟩: ∃ h',((h'=oO (c.nx i)/\c.bd i=c.nx i)∨ ∃ cs,h'=nn (oO (c.nx i)) cs/\c.bd i=c.nx i+1)/\c.FE i (c.rf i) (oO (c.nx i))=.ok v h':=by
    rcases hF with⟨h1,h2⟩|⟨cs,h1,h2⟩
    ·exact⟨_,.inl ⟨rfl,h2⟩,h1⟩
    ·exact⟨_,.inr ⟨cs,rfl,h2⟩,h1⟩
   have e:r8 c.P c.call c.nt c.ops.toList o (c.rf i) (oO (c.nx i))=.ok v h':=by
    rw[<-Au ho];exact hF'
   have Kc: ∀ j,j∈i::D->j≠i->j∈D:=fun j hj xg=>(List.mem_cons.1 hj).resolve_left xg
   have fin: ∀ (g':G) (w':World) (x:Value),(∀ id y,g.m id=some y->g'.m id=some y)->g'.nQ=g.nQ->g'.to h.next=g.to h.next->(w'=w∨ ∃ ob,w'=w.alloc ob)->
    c.Pz g' w' h i->(∀ id y,g'.m id=some y->g.m id=some y∨(c.bd i=c.nx i+1/\id=c.nx i))->
    (∀ j∈pl.pA,j∈D->c.np j .al->c.bd j=c.nx j+1->c.bd i=c.nx i+1-> ∀ b,g'.m (c.nx i)=some (b,0)->g'.m (c.nx j)=some (b,0)->i=j)->
    VR (g'.to (max (c.bd i) h.next)) w' v x->c.Inv g' w' h (a.put o.dst x) (i::D) past pl:=by
    intro g' w' x hm hi Ba hw hp adY ab7 hx
    have M: ∀ N,w5 (g.to N) w (g'.to N) w':=by
     intro N
     have hmN: ∀ id y,(g.to N).m id=some y->(g'.to N).m id=some y:=by
      intro id y e
      simp only[Go.Ab.G.to]at e ⊢
      by_cases qd:id<N
      ·rw[if_pos qd]at e ⊢;exact hm _ _ e
      ·rw[if_neg qd]at e;cases e
     rcases hw with rfl|⟨ob,rfl⟩
     ·exact⟨hmN,fun b k=>by simp only[Go.Ab.G.to]at k ⊢;rw[hi];exact k,fun _ _=>rfl,fun _=>Nat.le_refl _⟩
     ·exact xC hmN (by simp only[Go.Ab.G.to];exact hi) (by simp only[Go.Ab.G.to];exact Kf)
    have ait: ∀ j,c.Pz g w h j->c.Pz g' w' h j:=by
     intro j p
     rcases hw with rfl|⟨ob,rfl⟩
     ·rcases p with p|⟨v,cs,b,C,el,vs,h1,h2,h3,h4,h5,h6,h7,h8,h9⟩
      ·exact .inl p
      ·exact .inr ⟨v,cs,b,C,el,vs,h1,h2,hm _ _ h3,h4,by rw[hi];exact h5,by rw[Ba];exact h6,h7,cH.oG (M _) _ _ h8,h9⟩
     ·exact Ke hm hi Kf Ba p
    have uP:HR (g'.to h.next) w' h/\Ext c.g0 c.w0 c.h0 (g'.to h.next) w' h:=by
     rw[Ba]
     rcases hw with rfl|⟨ob,rfl⟩
     ·exact⟨I.st.hr,I.st.ext⟩
     ·obtain⟨E,H⟩:=G2 I.st.hr ob
      exact⟨H,I.st.ext.trans E⟩
    exact
    {run:=I.run
     stat:=I.stat
     closed:=hC
     Di:=fun j hj=>(I.Di j hj).imp id (List.mem_cons_of_mem _)
     Xb:=fun j hj h=>by
      rcases List.mem_cons.1 h with rfl|h
      ·cases c.rr px (M6 I.run j hj)
      ·exact I.Xb j hj h
     At:=fun j hj=>List.mem_cons_of_mem _ (I.At j hj)
     alc:=fun j hj=>(I.alc j hj).imp id (List.mem_cons_of_mem _)
     st:=⟨uP.1,uP.2,fun j hj Kb GD=>by
      by_cases Jz:j=i
      ·subst Jz;exact hp
      ·exact ait j (I.st.J' j hj (Kc j Kb Jz) GD),fun j hj k hk jD kD jc kc bj bk b mj mk=>by
      by_cases Jz:j=i<;>by_cases hki:k=i
      ·exact Jz.trans hki.symm
      ·subst Jz
       exact ab7 k hk (Kc k kD hki) kc bk bj b mj mk
      ·subst hki
       exact(ab7 j hj (Kc j jD Jz) jc bj bk b mk mj).symm
      ·have nj:g.m (c.nx j)=some (b,0):=by
        rcases adY _ _ mj with m|⟨b1,b2⟩
        ·exact m
        ·exact absurd (c.yx I.run j hj i Fl jc px bj b1 b2) Jz
       have nk:g.m (c.nx k)=some (b,0):=by
        rcases adY _ _ mk with m|⟨b1,b2⟩
        ·exact m
        ·exact absurd (c.yx I.run k hk i Fl kc px bk b1 b2) hki
       exact I.st.PC j hj k hk (Kc j jD Jz) (Kc k kD hki) jc kc bj bk b nj nk⟩
     dom:=fun n y e=>by
      rcases adY n y e with m|⟨b1,b2⟩
      ·exact(I.dom n y m).imp id fun⟨j,hj,hD,r⟩=>⟨j,hj,List.mem_cons_of_mem _ hD,r⟩
      ·exact .inr ⟨i,Fl,List.mem_cons_self,px,b1,b2⟩
     vW:=zJ G0 ho I.size I.vW (fun j _=>M _) Ee (fun d hd=>⟨(hS d hd).1,v,(hS d hd).2,hx⟩)
     free:=Cj ho I.size I.free (M _)
     size:=by rw[Ci];exact I.size
     defers:=by rw[put_defers];exact I.defers}
   refine Sz G0.call ho hk (Sy (g:=g.to (c.nx i)) Kf) T e (fun h1 x w' hw hv=>?_) (fun cs C el vs x h1 nP hCv hv=>?_)
   ·have hb:c.bd i=c.nx i:=by
     rcases hh' with⟨_,h2⟩|⟨cs,h2,_⟩
     ·exact h2
     ·rw[h2]at h1
      have:=congrArg Hp.next h1
      exact absurd this (Nat.succ_ne_self _)
    exact sim G0 K s _ _ _ _ _ _ _ L (fin g w' x (fun _ _ m=>m) rfl rfl hw (.inl hb) (fun id y m=>.inl m) (fun j _ _ _ _ k=>by omega) (hv _ _))
   ·have hb:c.bd i=c.nx i+1:=by
     rcases hh' with⟨h2,_⟩|⟨cs',_,h2⟩
     ·rw[h2]at h1
      have:=congrArg Hp.next h1
      exact absurd this.symm (Nat.succ_ne_self _)
     ·exact h2
    have aiv:g.m (c.nx i)=none:=by
     cases hm:g.m (c.nx i)with
     |none=>rfl
     |some y=>
      rcases I.dom _ _ hm with h|⟨j,hj,hD,GD,hjb,hje⟩
      ·omega
      ·have:=c.yx I.run i Fl j hj px GD hb hjb hje
       exact absurd (this▸hD) Ee
    have MG: ∀ id y,g.m id=some y->(g.add (c.nx i) w.heap.size).m id=some y:=by
     intro id y m
     simp only[G.add]
     rw[if_neg (fun k=>by rw[k,aiv]at m;cases m)]
     exact m
    have hat:(g.add (c.nx i) w.heap.size).m (c.nx i)=some (w.heap.size,0):=by simp[G.add]
    have Ba:(g.add (c.nx i) w.heap.size).to h.next=g.to h.next:=G.SC hnx
    have Dv:(w.alloc (.cells C el)).heap[w.heap.size]? =some (.cells C el (0,0)):=by rw[uZ,if_pos rfl]
    have xw:C.size<=nE (w.alloc (.cells C el)) w.heap.size:=by rw[xi];exact Nat.le_refl _
    rw[h1]at hF'
    refine sim G0 K s _ _ _ _ _ _ _ L (fin (g.add (c.nx i) w.heap.size) _ x MG rfl Ba (.inr ⟨_,rfl⟩) (.inr ⟨v,cs,w.heap.size,C,FT.nw C el,vs,hb,hF',hat,Dv,?_,?_,I.st.ext.size,?_,hCv⟩)
     (fun id y m=>?_) (fun j hj Kb GD hjb _ b m1 m2=>?_) (hv _ _ ?_ xw))
    ·intro k
     exact absurd (Kf _ k) (Nat.lt_irrefl _)
    ·rw[Ba]
     rintro⟨id,cs',s,e,m⟩
     obtain⟨_,_,_,hw,_⟩:=I.st.hr.row e m
     have:=(Array.getElem?_eq_some_iff.1 hw).1
     omega
    ·have hT:(g.add (c.nx i) w.heap.size).to (c.nx i)=g.to (c.nx i):=G.SC (Nat.le_refl _)
     rw[hT]
     exact cH.oG (xC (fun _ _ m=>m) rfl (by simp only[Go.Ab.G.to];exact Kf)) _ _ nP
    ·by_cases qd:id=c.nx i
     ·exact .inr ⟨hb,qd⟩
     ·simp only[G.add,if_neg qd]at m
      exact .inl m
    ·rw[hat]at m1
     obtain⟨rfl,_⟩:=Prod.mk.inj (Option.some.inj m1)
     have xg:c.nx j≠c.nx i:=fun k=>Ee (c.yx I.run i Fl j hj px GD hb hjb k.symm▸Kb)
     simp only[G.add,if_neg xg]at m2
     rcases I.st.J' j hj Kb GD with hp|⟨_,_,b,_,_,_,_,_,h3,h4,_⟩
     ·omega
     ·rw[m2]at h3
      obtain⟨rfl,_⟩:=Prod.mk.inj (Option.some.inj h3)
      have:=(Array.getElem?_eq_some_iff.1 h4).1
      omega
    ·show(Go.Ab.G.to _ _).m (c.nx i)=_
     simp only[Go.Ab.G.to]
     rw[if_pos (by omega)]
     exact hat
  |ch=>
   have px:c.np i .ch:=⟨o,ho,hk⟩
   have Fl:=(I.Di i px).resolve_right Ee
   cases pl with
   |last pre pA=>cases Fl
   |cons pre pA q rest=>
    have hq:i=q:=by
     rcases List.mem_cons.1 Fl with h|h
     ·exact h
     ·exact absurd (Ft q (I.stat.2.2.1 i h)) (I.Xb q List.mem_cons_self)
    subst hq
    obtain⟨_,h1,adZ,_,v,h2,hF,hS,hR,hb,hle,rz⟩:=I.run
    have anZ:=c.vU adZ
    have S:=c.settle pA h adZ (fun j hj hc=>Ft j (I.stat.2.1 j hj hc)) I.st (fun j hj hc=>Nat.le_trans hle (c.xB rz j hj hc))
    have T:=I.reads G0.nt hR Ee Ft (N:=h1.next) (Nat.le_refl _) anZ
    have e:r8 c.P c.call c.nt c.ops.toList o (c.rf i) h1=.ok v h2:=by
     rw[<-Au ho];exact hF
    refine Fk G0.call ho S.hr T e fun g' w' x E H' hv=>?_
    obtain⟨G',hG'⟩: ∃ G':G,G'=⟨fun id=>if id<h2.next then g'.m id else g.m id,g'.nQ⟩:=⟨_,rfl⟩
    have Ba:G'.to h2.next=g':=by
     rw[hG']
     unfold Go.Ab.G.to
     cases g' with
     |mk m im=>
      simp only[G.mk.injEq,and_true]
      funext id
      by_cases qd:id<h2.next
      ·simp only[qd,if_true]
      ·simp only[qd,if_false]
       exact(H'.fresh id (by omega)).symm
    have M0:=E.mono S.hr.toHC
    have ab8: ∀ id y,g.m id=some y->h1.next<=id->h2.next<=id/\ ∃ j∈rest.pA,j∈D/\c.np j .al/\c.bd j=c.nx j+1/\id=c.nx j:=by
     intro id y m qd
     rcases I.dom id y m with h|⟨j,hj,Kb,GD,hjb,rfl⟩
     ·omega
     ·rcases List.mem_append.1 hj with hj|hj
      ·have:=(c.th adZ j hj GD).2 hjb
       omega
      ·exact⟨c.xB rz j hj GD,j,hj,Kb,GD,hjb,rfl⟩
    have hm: ∀ id y,g.m id=some y->G'.m id=some y:=by
     intro id y m
     rw[hG']
     show(if id<h2.next then g'.m id else g.m id)=some y
     by_cases qd:id<h2.next
     ·rw[if_pos qd]
      have:id<h1.next:=by
       refine Classical.byContradiction fun k=>?_
       have:=(ab8 id y m (by omega)).1
       omega
      exact E.m id y (by simp only[Go.Ab.G.to];rw[if_pos this];exact m)
     ·rw[if_neg qd];exact m
    have him:G'.nQ=g'.nQ:=by rw[hG']
    have M: ∀ B B',B<=B'->w5 (g.to B) w (G'.to B') w':=by
     intro B B' hB
     refine⟨?_,fun b k=>?_,fun b k=>?_,E.rows⟩
     ·intro id y k
      simp only[Go.Ab.G.to]at k ⊢
      by_cases qd:id<B
      ·rw[if_pos qd]at k
       rw[if_pos (by omega)]
       exact hm id y k
      ·rw[if_neg qd]at k;cases k
     ·show G'.nQ b
      rw[him]
      exact E.nQ b k
     ·exact E.vG b (Kf b k) (S.hr.sS k)
    refine sim G0 K s (i::D) (i::past) rest G' w' h2 (a.put o.dst x) L ?_
    have M7: ∀ j∈rest.pA,j∈pA++rest.pA:=fun j hj=>List.mem_append_right _ hj
    have Kc: ∀ j,c.np j .al->j∈i::D->j∈D:=by
     intro j hj h
     refine(List.mem_cons.1 h).resolve_left fun e=>?_
     subst e
     cases c.rr px hj
    exact
    {run:=rz
     stat:=I.stat.2.2.2
     closed:=hC
     Di:=fun j hj=>by
      rcases I.Di j hj with h|h
      ·rcases List.mem_cons.1 h with rfl|h
       ·exact .inr List.mem_cons_self
       ·exact .inl h
      ·exact .inr (List.mem_cons_of_mem _ h)
     Xb:=fun j hj h=>by
      rcases List.mem_cons.1 h with rfl|h
      ·
       exact absurd (Ft j (I.stat.2.2.1 j hj)) Ee
      ·exact I.Xb j (List.mem_cons_of_mem _ hj) h
     At:=fun j hj=>by
      rcases List.mem_cons.1 hj with rfl|hj
      ·exact List.mem_cons_self
      ·exact List.mem_cons_of_mem _ (I.At j hj)
     alc:=fun j hj=>by
      rcases I.alc j hj with h|h
      ·rcases List.mem_append.1 h with h|h
       ·exact .inr (List.mem_cons_of_mem _ (Ft j (I.stat.2.1 j h hj)))
       ·exact .inl h
      ·exact .inr (List.mem_cons_of_mem _ h)
     st:=⟨by rw[Ba];exact H',by rw[Ba];exact S.ext.trans E,fun j hj Kb GD=>by
      rcases S.J' j hj (Kc j GD Kb) GD with p|⟨v,cs,b,C,el,vs,vp,XW,h3,h4,h5,h6,h7,h8,h9⟩
      ·exact .inl p
      ·have oI:=(Array.getElem?_eq_some_iff.1 h4).1
       refine .inr ⟨v,cs,b,C,el,vs,vp,XW,hm _ _ h3,by rw[E.vG b oI h6];exact h4,?_,?_,h7,cH.oG (M _ _ (Nat.le_refl _)) _ _ h8,h9⟩
       ·rw[him]
        intro k
        rcases E.O5 b k with k|k|k
        ·exact h5 k
        ·exact h6 k
        ·omega
       ·rw[Ba]
        intro k
        rcases E.uw b k with k|k
        ·exact h6 k
        ·omega,fun j hj k hk jD kD jc kc bj bk b mj mk=>by
      have e1: ∀ l∈rest.pA,l∈D->c.np l .al->c.bd l=c.nx l+1->G'.m (c.nx l)=some (b,0)->g.m (c.nx l)=some (b,0):=by
       intro l hl lD lc lb ml
       have:=c.xB rz l hl lc
       rw[hG']at ml
       simp only at ml
       rw[if_neg (by omega)]at ml
       exact ml
      exact I.st.PC j (M7 j hj) k (M7 k hk) (Kc j jc jD) (Kc k kc kD) jc kc bj bk b (e1 j hj (Kc j jc jD) jc bj mj) (e1 k hk (Kc k kc kD) kc bk mk)⟩
     dom:=fun n y m=>by
      by_cases hn:n<h2.next
      ·exact .inl hn
      ·rw[hG']at m
       simp only at m
       rw[if_neg hn]at m
       obtain⟨_,j,hj,Kb,r⟩:=ab8 n y m (by omega)
       exact .inr ⟨j,hj,List.mem_cons_of_mem _ Kb,r⟩
     vW:=zJ G0 ho I.size I.vW (fun j _=>M _ _ (by omega)) Ee (fun d hd=>⟨(hS d hd).1,v,(hS d hd).2,by
      have:max (c.bd i) h2.next=h2.next:=by omega
      rw[this,Ba];exact hv⟩)
     free:=Cj ho I.size I.free (M _ _ (by omega))
     size:=by rw[Ci];exact I.size
     defers:=by rw[put_defers];exact I.defers}
end Cx
end Go.Ab

noncomputable section
namespace Go.Ab
variable [Io]
def SD:Value->Value->Bool
 | .string a,.string b=>a.data.toList == b.data.toList
 | .pointer none,.pointer none=>true
 | .map none,.map none=>true
 | .nilFunc,.nilFunc=>true
 | .nilIface,.nilIface=>true
 | .slice none n c,.slice none n' c'=>Nat.beq n n'&&Nat.beq c c'
 | _,_=>false
mutual
def tD:AV->AV->Bool
 | .int k n,.int k' n'=>qp k k'&&eqI n n'
 | .bool a,.bool b=> !(xor a b)
 | .sc a,.sc b=>SD a b
 | .agg a,.agg b=>qL a b
 | .wZ a,.wZ b=>qL a b
 | .ref i o,.ref i' o'=>Nat.beq i i'&&Nat.beq o o'
 | .nW i o n s,.nW i' o' n' s'=>Nat.beq i i'&&Nat.beq o o'&&Nat.beq n n'&&Nat.beq s s'
 | .rJ n a,.rJ m b=>Nat.beq n m&&qL a b
 | .py a,.py b=>qL a b
 | .pO,.pO=>true
 | .ur,.ur=>true
 | .fn f a,.fn f' b=>Nat.beq f f'&&qL a b
 | .sym k s lo hi o,.sym k' s' nK vw o'=>qp k k'&&(JK s s'&&(eqI lo nK&&(eqI hi vw&&eqI o o')))
 | .any,.any=>true
 | _,_=>false
def qL:List AV->List AV->Bool
 | [],[]=>true
 |a::l,b::r=>tD a b&&qL l r
 | _,_=>false
end
omit [Io] in
theorem yy{a b:Int}(h:eqI a b=true):a=b:=by
 cases a<;>cases b<;>simp[eqI]at h<;>simp[h]
omit [Io] in
theorem SE{a b:ByteArray}(h:(a.data.toList == b.data.toList)=true):a=b:=by
 cases a with
 |mk a=>cases b with
  |mk b=>
   congr 1
   exact Array.toList_inj.1 (by simpa using h)
omit [Io] in
theorem SF{a b:Value}(h:SD a b=true):a=b:=by
 unfold SD at h
 split at h
 ·rw[SE h]
 all_goals first|rfl|(cases h;done)|(rw[Bool.and_eq_true]at h;rw[Nat.eq_of_beq_eq_true h.1,Nat.eq_of_beq_eq_true h.2])
section
omit [Io]
mutual
theorem Bb: ∀ (a b:AV),tD a b=true->a=b
 | .int k n,b,h=>by cases b<;>simp only[tD,Bool.and_eq_true]at h<;>try cases h
                    rename_i h1 h2
                    rw[oc.1 h1,yy h2]
 | .bool x,b,h=>by cases b<;>simp only[tD]at h<;>try cases h
                   rename_i y
                   cases x<;>cases y<;>first|rfl|cases h
 | .sc x,b,h=>by cases b<;>simp only[tD]at h<;>try cases h
                 rw[SF h]
 | .agg x,b,h=>by cases b<;>simp only[tD]at h<;>try cases h
                  rw[qj _ _ h]
 | .wZ x,b,h=>by cases b<;>simp only[tD]at h<;>try cases h
                 rw[qj _ _ h]
 | .ref i o,b,h=>by cases b<;>simp only[tD,Bool.and_eq_true,Nat.beq_eq]at h<;>try cases h
                    rename_i h1 h2
                    rw[h1,h2]
 | .nW i o n s,b,h=>by cases b<;>simp only[tD,Bool.and_eq_true,Nat.beq_eq]at h<;>try (cases h;done)
                       obtain⟨⟨⟨h1,h2⟩,h3⟩,h4⟩:=h
                       rw[h1,h2,h3,h4]
 | .rJ n x,b,h=>by cases b<;>simp only[tD,Bool.and_eq_true,Nat.beq_eq]at h<;>try cases h
                   rename_i h1 h2
                   rw[h1,qj _ _ h2]
 | .py x,b,h=>by cases b<;>simp only[tD]at h<;>try cases h
                 rw[qj _ _ h]
 | .pO,b,h=>by cases b<;>simp only[tD]at h<;>first|rfl|cases h
 | .ur,b,h=>by cases b<;>simp only[tD]at h<;>first|rfl|cases h
 | .any,b,h=>by cases b<;>simp only[tD]at h<;>first|rfl|cases h
 | .sym k s lo hi o,b,h=>by cases b<;>simp only[tD,Bool.and_eq_true]at h<;>try (cases h;done)
                            obtain⟨h1,h2,h3,h4,h5⟩:=h
                            rw[oc.1 h1,RM h2,yy h3,yy h4,yy h5]
 | .fn f x,b,h=>by cases b<;>simp only[tD,Bool.and_eq_true,Nat.beq_eq]at h<;>try cases h
                   rename_i h1 h2
                   rw[h1,qj _ _ h2]
theorem qj: ∀ (a b:List AV),qL a b=true->a=b
 | [],b,h=>by cases b with
  |nil=>rfl
  |cons _ _=>simp[qL]at h
 |a::l,b,h=>by
  cases b with
  |nil=>simp[qL]at h
  |cons c r=>
   simp only[qL,Bool.and_eq_true]at h
   rw[Bb _ _ h.1,qj _ _ h.2]
end
end
def ck(s:n9)(f:nY)(k:tH):tH:=fun t h=>Ro.rec Rt.bad (fun v _=>Option.rec Rt.bad (fun u=>Bool.rec Rt.bad (k t h) (tD u v)) (s t)) (f t h)
def mn(f:nY):nY:=fun t h=>Ro.rec Ro.bad (fun v h'=>Bool.rec Ro.bad (Ro.ok v h') (Nat.ble h.next h'.next)) (f t h)
def aix:Cl->Cl->Bool
 | .p0,.p0| .p1,.p1| .al,.al| .ch,.ch=>true
 | _,_=>false
omit [Io] in
theorem SG{a b:Cl}(h:aix a b=true):a=b:=by cases a<;>cases b<;>first|rfl|cases h
def sr(i:Nat)(l:List Nat):Bool:=List.rec false (fun a _ ih=>Bool.rec ih true (Nat.beq a i)) l
omit [Io] in
theorem rO{i:Nat}: ∀ {l:List Nat},sr i l=true↔i∈l
 | []=>by simp[sr]
 |a::l=>by
  show(Bool.rec (sr i l) true (Nat.beq a i):Bool)=true↔_
  cases h:Nat.beq a i with
  |true=>
   have:=Nat.eq_of_beq_eq_true h
   subst this
   simp
  |false=>
   have: ¬ i=a:=fun e=>by subst e;simp at h
   simp only[List.mem_cons,this,false_or]
   exact rO
def Kg(p:Nat->Bool)(l:List Nat):Bool:=List.rec false (fun a _ ih=>Bool.rec ih true (p a)) l
omit [Io] in
theorem yz{p:Nat->Bool}: ∀ {l:List Nat},Kg p l=true↔ ∃ i∈l,p i=true
 | []=>by simp[Kg]
 |a::l=>by
  show(Bool.rec (Kg p l) true (p a):Bool)=true↔_
  cases h:p a with
  |true=>simp[h]
  |false=>simp only[List.mem_cons,exists_eq_or_imp,h,Bool.false_eq_true,false_or];exact yz
def allI(p:Nat->Oper->Bool)(l:List Oper):Nat->Bool:=
 List.rec (fun _=>true) (fun o _ ih i=>Bool.rec false (ih (Nat.add i 1)) (p i o)) l
omit [Io] in
theorem Ef{p:Nat->Oper->Bool}: ∀ {l:List Oper} {k:Nat},allI p l k=true-> ∀ i o,l[i]? =some o->p (k+i) o=true
 | [],k,_,i,o,h=>by simp at h
 |a::l,k,hh,i,o,h=>by
  change (Bool.rec false (allI p l (k+1)) (p k a):Bool)=true at hh
  cases hp:p k a with
  |false=>rw[hp]at hh;cases hh
  |true=>
   rw[hp]at hh
   cases i with
   |zero=>simp at h;subst h;exact hp
   |succ i=>
    have:=Ef hh i o (by simpa using h)
    rwa [show k+1+i=k+(i+1) by omega]at this
omit [Io] in
theorem rP{p:Nat->Oper->Bool}{l:List Oper}(h:allI p l 0=true)(i:Nat)(o:Oper)(ho:l[i]? =some o):p i o=true:=by
 have:=Ef h i o ho
 simpa using this
def M8(l:List Oper):Bool:=allI (fun i o=>oD (fun e=>Bool.rec true (Nat.blt e.on i) (Region.binds .any e)) o.after.toList) l 0
omit [Io] in
theorem Yz{ops:Array Oper}(h:M8 ops.toList=true):Down ops:=by
 intro i o e ho he hb
 have:=rP h i o (by simpa using ho)
 rw[pQ,List.all_eq_true]at this
 have:=this e (by simpa using he)
 rw[hb]at this
 exact cM.1 this
def Eg(o:Oper)(d:Nat):Bool:=match o.dst with
 |some e=>Nat.beq e d
 |none=>false
omit [Io] in
theorem zK{o:Oper}{d:Nat}(h:o.dst=some d):Eg o d=true:=by unfold Eg;rw[h];simp
def YA(l:List Oper):Bool:=allI (fun i o=>match o.dst with
 |some d=>allI (fun j o'=>Bool.rec true (Nat.beq i j) (Eg o' d)) l 0
 |none=>true) l 0
section
variable (P:Program)(call:mS)(nt:Nat)(L:List Oper)
def yA(k:Cl)(i:Nat):Bool:=match sa L i with
 |some o=>aix (uV P call o.op).1 k
 |none=>false
def JA(cU:List Nat)(i:Nat):Bool:=match sa L i with
 |some o=>oD (fun u=>Nat.blt u nt&&Bool.rec (allI (fun j o'=>Bool.rec true (!sr j cU&&(J7 L j i&& !J7 L i j)) (Eg o' u)) L 0) true (allI (fun j o'=>Bool.rec true (sr j cU&&J7 L i j) (Eg o' u)) L 0)) (wE L o)
 |none=>false
def YB(i:Nat)(k:tH):tH:=match sa L i with
 |some o=>match o.dst with
  |some d=>pH (Nat.blt d nt) (st (sT d) (r8 P call nt L o) k) (fun _ _=>.bad)
  |none=>sn (r8 P call nt L o) k
 |none=>fun _ _=>.bad
def ad0(i:Nat)(k:tH):tH:=match sa L i with
 |some o=>match o.dst with
  |some d=>pH (Nat.blt d nt) (ck (oT d) (r8 P call nt L o) k) (fun _ _=>.bad)
  |none=>sn (r8 P call nt L o) k
 |none=>fun _ _=>.bad
def runM(i:Nat)(k:tH):tH:=match sa L i with
 |some o=>match o.dst with
  |some d=>pH (Nat.blt d nt) (st (sT d) (mn (r8 P call nt L o)) k) (fun _ _=>.bad)
  |none=>sn (mn (r8 P call nt L o)) k
 |none=>fun _ _=>.bad
def Hs:List Nat->List Nat->(List Nat->tH)->tH
 | [],cU,k=>k cU
 |i::l,cU,k=>pH (JA nt L cU i) (pH (sr i cU) (pH (yA P call L .p1 i) (ad0 P call nt L i (Hs l cU k)) (fun _ _=>.bad))
  (pH (yA P call L .p0 i||yA P call L .p1 i) (YB P call nt L i (Hs l (i::cU) k)) (fun _ _=>.bad))) (fun _ _=>.bad)
def Kh:List Nat->List Nat->(List Nat->tH)->tH
 | [],cU,k=>k cU
 |i::l,cU,k=>pH (JA nt L cU i&&(!sr i cU&&(yA P call L .p0 i||yA P call L .al i))) (YB P call nt L i (Kh l (i::cU) k)) (fun _ _=>.bad)
def uB:sM->List Nat->tH
 | .last pre pA,cU=>Hs P call nt L pre cU fun cU=>Kh P call nt L pA cU fun cU=>pH (allI (fun i _=>sr i cU) L 0) fi (fun _ _=>.bad)
 | .cons pre pA q rest,cU=>Hs P call nt L pre cU fun cU=>Kh P call nt L pA cU fun cU=>
   pH (JA nt L cU q&&(!sr q cU&&yA P call L .ch q)) (runM P call nt L q (uB rest (q::cU))) (fun _ _=>.bad)
def Eh:sM->List Nat->Bool
 | .last pre _,past=>allI (fun i _=>Bool.rec true (Kg (fun j=>J7 L j i) past||sr i pre) (yA P call L .p1 i)) L 0
 | .cons pre pA q rest,past=>allI (fun i _=>Bool.rec true (Kg (fun j=>J7 L j i) past||(Kg (fun j=>J7 L i j) (q::rest.Di)||sr i pre)) (yA P call L .p1 i)) L 0&&
   (oD (fun i=>Bool.rec true (J7 L q i) (yA P call L .al i)) pA&&(oD (fun q'=>J7 L q' q) rest.Di&&Eh rest (q::past)))
end
end Go.Ab

noncomputable section
namespace Go.Ab
variable [Io]
section
variable {P:Program}{call:mS}
def QT(f:nY):Prop:= ∀ t h v h',f t h=.ok v h'->h'=h
omit [Io] in
theorem Fu{b:Bool}{x:Ro}{v:AV}{h:Hp}(e:(bif b then x else .bad)=.ok v h):x=.ok v h:=by cases b;cases e;exact e
omit [Io] in
theorem tj:QT cW:=by intro t h v h' e;cases e
omit [Io] in
theorem SH{c:Bool}{f:nY}(i:QT f):QT (pH c f cW):=by cases c;exact tj;exact i
omit [Io] in
theorem YC{n:Nat}{b:Bool}{x:n9}:QT (rL n b x):=by
 intro t h v h' e
 unfold rL at e
 split at e
 ·split at e
  ·cases e;rfl
  ·cases e
 ·cases e
omit [Io] in
theorem PF{x:n9}{lo hi:Option n9}:QT (qO x lo hi):=by
 intro t h v h' e
 unfold qO at e
 split at e
 ·split at e
  ·cases e;rfl
  ·cases e
 ·cases e
omit [Io] in
theorem SI{n:Nat}{x:n9}{lo hi:Option n9}:QT (ub n x lo hi):=by
 intro t h v h' e
 unfold ub at e
 split at e
 ·split at e
  ·cases e;rfl
  ·cases e
 ·split at e
  ·have e:=Fu e
   cases e;rfl
  ·cases e
 ·split at e
  ·cases e;rfl
  ·cases e
 ·cases e
omit [Io] in
theorem PG{n:Nat}{x:n9}{lo hi:Option n9}:QT (oE n x lo hi):=by
 intro t h v h' e
 unfold oE at e
 split at e
 ·rename_i a hx
  cases hE:xq a with
  |false=>rw[hE]at e;exact SI _ _ _ _ e
  |true=>
   rw[hE]at e
   simp only[cond_true]at e
   split at e
   ·cases e;rfl
   ·cases e
 ·cases e
omit [Io] in
theorem PH{n m:Nat}{x:n9}{lo hi:Option n9}:QT (pP n m x lo hi):=by
 intro t h v h' e
 unfold pP at e
 split at e
 ·split at e
  ·split at e
   ·have e:=Fu e
    cases e;rfl
   ·cases e
  ·cases e
 ·cases e
omit [Io] in
theorem ad2{x y z:n9}:QT (BQ x y z):=by
 intro t h v h' e
 unfold BQ at e
 split at e
 ·split at e
  ·have e:=Fu e
   split at e
   ·cases e;rfl
   ·cases e;rfl
   ·cases e;rfl
   ·cases e
  ·cases e
 ·cases e
omit [Io] in
theorem ad3{o:Op}(hc:(uV P call o).1=.p1):QT (uV P call o).2:=by
 cases o<;>simp only[uV]at hc ⊢
 case load T x=>
  unfold Hc
  split
  ·split
   ·exact YC
   ·exact tj
  ·exact tj
 case slice T x lo hi mx=>
  cases mx with
  |some m=>
   simp only
   unfold yp
   split
   ·split
    ·split
     ·exact ad2
     ·exact tj
    ·exact tj
   ·exact tj
  |none=>
   simp only
   unfold B8
   split
   ·exact PF
   ·split
    ·exact PG
    ·exact tj
   ·split
    ·exact SH PH
    ·exact tj
   ·exact tj
 case binOp op T x y yT=>cases h:Hb P op T<;>rw[h]at hc<;>cases hc
 case unOp op T x=>cases h:cUn op<;>rw[h]at hc<;>cases hc
 case convert S D x=>
  cases h:P.underlying D with
  |none=>rw[h]at hc;cases hc
  |some d=>cases d<;>rw[h]at hc<;>cases hc
 case makeFunc f first caps=>
  cases f<;>try (cases hc;done)
  simp only at hc
  cases h:first.toList<;>rw[h]at hc<;>cases hc
 case makeMap T r=>cases r<;>cases hc
 case call c=>cases h:qh P c<;>rw[h]at hc<;>cases hc
 all_goals (cases hc)
omit [Io] in
theorem SJ{nt:Nat}{all:List Oper}{o:Oper}(px:(uV P call o.op).1=.p1):QT (r8 P call nt all o):=by
 have hf:QT (uV P call o.op).2:=ad3 px
 unfold r8
 cases o.guard with
 |none=>exact hf
 |some p=>
  obtain⟨j,want⟩:=p
  simp only
  split
  ·split
   ·refine SH ?_
    intro t h v h' e
    unfold gF at e
    split at e
    ·rename_i b _
     cases hw:pH want b (!b)with
     |false=>rw[hw]at e;cases e;rfl
     |true=>rw[hw]at e;exact hf t h v h' e
    ·cases e;rfl
    ·cases e
   ·exact tj
  ·exact tj
end
omit [Io] in
theorem uC{b x:Bool}(h:(Bool.rec true x b:Bool)=true)(hb:b=true):x=true:=by subst hb;exact h
namespace Cx
variable {c:Cx}
omit [Io] in
theorem rG{k:Cl}{i:Nat}:yA c.P c.call c.ops.toList k i=true↔c.np i k:=by
 unfold yA np
 rw[pn]
 constructor
 ·intro h
  split at h
  ·rename_i o ho
   exact⟨o,by simpa using ho,SG h⟩
  ·cases h
 ·rintro⟨o,ho,hk⟩
  have:c.ops.toList[i]? =some o:=by simpa using ho
  rw[this,<-hk]
  simp only
  cases(uV c.P c.call o.op).1<;>rfl
omit [Io] in
theorem Ck{cU:List Nat}{i:Nat}(h:JA c.nt c.ops.toList cU i=true): ∀ u∈c.Xa i,u<c.nt/\((∀ j,c.sV j u->j∈cU/\c.An i j)∨ ∀ j,c.sV j u->j∉cU/\c.An j i/\ ¬ c.An i j):=by
 unfold JA at h
 rw[pn]at h
 unfold Xa
 intro u hu
 cases ho:c.ops[i]? with
 |none=>rw[ho]at hu;cases hu
 |some o=>
  rw[ho]at hu
  have:c.ops.toList[i]? =some o:=by simpa using ho
  rw[this]at h
  simp only[pQ,List.all_eq_true]at h
  have:=h u hu
  rw[Bool.and_eq_true]at this
  refine⟨cM.1 this.1,?_⟩
  cases h1:allI (fun j o'=>Bool.rec true (sr j cU&&J7 c.ops.toList i j) (Eg o' u)) c.ops.toList 0 with
  |true=>
   refine .inl ?_
   rintro j ⟨oj,hoj,hd⟩
   have h2:=uC (rP h1 j oj (by simpa using hoj)) (zK hd)
   rw[Bool.and_eq_true,rO]at h2
   exact h2
  |false=>
   rw[h1]at this
   refine .inr ?_
   rintro j ⟨oj,hoj,hd⟩
   have h2:=uC (rP this.2 j oj (by simpa using hoj)) (zK hd)
   simp only[Bool.and_eq_true,Bool.not_eq_true']at h2
   refine⟨fun k=>?_,h2.2.1,fun k=>?_⟩
   ·rw[rO.2 k]at h2;cases h2.1
   ·unfold An at k;rw[k]at h2;cases h2.2.2
def Cov(c:Cx)(cU:List Nat)(u:Nat):Prop:= ∀ j,c.sV j u->j∈cU
def FrO(c:Cx)(cU:List Nat)(t:Tm):Prop:= ∀ u,u<512->(∀ j,c.sV j u->j∉cU)->t.at u=c.t0.at u
def Fr(c:Cx)(cU:List Nat)(t:Tm):Prop:= ∀ u,u<512->c.Cov cU u->c.te.at u=t.at u
omit [Io] in
theorem yB{i:Nat}{k:tH}{t:Tm}{h:Hp}{te:Tm}{hE:Hp}(e:YB c.P c.call c.nt c.ops.toList i k t h=.ok te hE):
 ∃ o v h1 t1,c.ops[i]? =some o/\r8 c.P c.call c.nt c.ops.toList o t h=.ok v h1/\k t1 h1=.ok te hE/\((∃ d,o.dst=some d/\d<c.nt/\t1=sT d v t)∨(o.dst=none/\t1=t)):=by
 unfold YB at e
 rw[pn]at e
 cases ho:c.ops.toList[i]? with
 |none=>rw[ho]at e;cases e
 |some o=>
  rw[ho]at e
  simp only at e
  have sW:c.ops[i]? =some o:=by simpa using ho
  cases hd:o.dst with
  |none=>
   rw[hd]at e
   change sn (r8 c.P c.call c.nt c.ops.toList o) k t h=_ at e
   unfold sn at e
   cases hg:r8 c.P c.call c.nt c.ops.toList o t h with
   |bad=>rw[hg]at e;cases e
   |ok v h1=>rw[hg]at e;exact⟨o,v,h1,t,sW,hg,e,.inr ⟨hd,rfl⟩⟩
  |some d=>
   rw[hd]at e
   simp only at e
   cases hb:Nat.blt d c.nt with
   |false=>rw[hb]at e;cases e
   |true=>
    rw[hb]at e
    change st (sT d) (r8 c.P c.call c.nt c.ops.toList o) k t h=_ at e
    unfold st at e
    cases hg:r8 c.P c.call c.nt c.ops.toList o t h with
    |bad=>rw[hg]at e;cases e
    |ok v h1=>rw[hg]at e;exact⟨o,v,h1,_,sW,hg,e,.inl ⟨d,hd,cM.1 hb,rfl⟩⟩
omit [Io] in
theorem M9{f:nY}{t:Tm}{h h':Hp}{v:AV}(e:mn f t h=.ok v h'):f t h=.ok v h'/\h.next<=h'.next:=by
 unfold mn at e
 cases hf:f t h with
 |bad=>rw[hf]at e;cases e
 |ok v1 h1=>
  rw[hf]at e
  change (Bool.rec Ro.bad (Ro.ok v1 h1) (Nat.ble h.next h1.next):Ro)=_ at e
  cases hb:Nat.ble h.next h1.next with
  |false=>rw[hb]at e;cases e
  |true=>rw[hb]at e;cases e;exact⟨rfl,Nat.ble_eq.mp hb⟩
omit [Io] in
theorem Ht{i:Nat}{k:tH}{t:Tm}{h:Hp}{te:Tm}{hE:Hp}(e:runM c.P c.call c.nt c.ops.toList i k t h=.ok te hE):
 ∃ o v h1 t1,c.ops[i]? =some o/\r8 c.P c.call c.nt c.ops.toList o t h=.ok v h1/\h.next<=h1.next/\k t1 h1=.ok te hE/\((∃ d,o.dst=some d/\d<c.nt/\t1=sT d v t)∨(o.dst=none/\t1=t)):=by
 unfold runM at e
 rw[pn]at e
 cases ho:c.ops.toList[i]? with
 |none=>rw[ho]at e;cases e
 |some o=>
  rw[ho]at e
  simp only at e
  have sW:c.ops[i]? =some o:=by simpa using ho
  cases hd:o.dst with
  |none=>
   rw[hd]at e
   change sn (mn (r8 c.P c.call c.nt c.ops.toList o)) k t h=_ at e
   unfold sn at e
   cases hg:mn (r8 c.P c.call c.nt c.ops.toList o) t h with
   |bad=>rw[hg]at e;cases e
   |ok v h1=>rw[hg]at e;exact⟨o,v,h1,t,sW,(M9 hg).1,(M9 hg).2,e,.inr ⟨hd,rfl⟩⟩
  |some d=>
   rw[hd]at e
   simp only at e
   cases hb:Nat.blt d c.nt with
   |false=>rw[hb]at e;cases e
   |true=>
    rw[hb]at e
    change st (sT d) (mn (r8 c.P c.call c.nt c.ops.toList o)) k t h=_ at e
    unfold st at e
    cases hg:mn (r8 c.P c.call c.nt c.ops.toList o) t h with
    |bad=>rw[hg]at e;cases e
    |ok v h1=>rw[hg]at e;exact⟨o,v,h1,_,sW,(M9 hg).1,(M9 hg).2,e,.inl ⟨d,hd,cM.1 hb,rfl⟩⟩
omit [Io] in
theorem Hu{i:Nat}{k:tH}{t:Tm}{h:Hp}{te:Tm}{hE:Hp}(hc:c.np i .p1)(e:ad0 c.P c.call c.nt c.ops.toList i k t h=.ok te hE):
 ∃ o v,c.ops[i]? =some o/\r8 c.P c.call c.nt c.ops.toList o t h=.ok v h/\k t h=.ok te hE/\ ∀ d,o.dst=some d->d<c.nt/\t.at d=some v:=by
 unfold ad0 at e
 rw[pn]at e
 cases ho:c.ops.toList[i]? with
 |none=>rw[ho]at e;cases e
 |some o=>
  rw[ho]at e
  simp only at e
  have sW:c.ops[i]? =some o:=by simpa using ho
  have hlv: ∀ v h1,r8 c.P c.call c.nt c.ops.toList o t h=.ok v h1->h1=h:=by
   intro v h1 hg
   obtain⟨o',vp,XW⟩:=hc
   rw[sW]at vp
   cases vp
   exact SJ XW _ _ _ _ hg
  cases hd:o.dst with
  |none=>
   rw[hd]at e
   change sn (r8 c.P c.call c.nt c.ops.toList o) k t h=_ at e
   unfold sn at e
   cases hg:r8 c.P c.call c.nt c.ops.toList o t h with
   |bad=>rw[hg]at e;cases e
   |ok v h1=>
    rw[hg]at e
    obtain rfl:=hlv v h1 hg
    exact⟨o,v,sW,hg,e,fun d h=>by rw[hd]at h;cases h⟩
  |some d=>
   rw[hd]at e
   simp only at e
   cases hb:Nat.blt d c.nt with
   |false=>rw[hb]at e;cases e
   |true=>
    rw[hb]at e
    change ck (oT d) (r8 c.P c.call c.nt c.ops.toList o) k t h=_ at e
    unfold ck at e
    cases hg:r8 c.P c.call c.nt c.ops.toList o t h with
    |bad=>rw[hg]at e;cases e
    |ok v h1=>
     rw[hg]at e
     obtain rfl:=hlv v h1 hg
     change (Option.rec Rt.bad (fun u=>Bool.rec Rt.bad (k t h1) (tD u v)) (t.at d):Rt)=_ at e
     cases ht:t.at d with
     |none=>rw[ht]at e;cases e
     |some u=>
      rw[ht]at e
      change (Bool.rec Rt.bad (k t h1) (tD u v):Rt)=_ at e
      cases hq:tD u v with
      |false=>rw[hq]at e;cases e
      |true=>
       rw[hq]at e
       obtain rfl:=Bb _ _ hq
       exact⟨o,u,sW,hg,e,fun d' h=>by rw[hd]at h;cases h;exact⟨cM.1 hb,ht⟩⟩
omit [Io] in
theorem yC{cU:List Nat}{i:Nat}{o:Oper}{t t1:Tm}{v:AV}(qt:c.nt<=512)(ho:c.ops[i]? =some o)(hi:i∉cU)
 (ht:(∃ d,o.dst=some d/\d<c.nt/\t1=sT d v t)∨(o.dst=none/\t1=t))(F:c.Fr (i::cU) t1):c.Fr cU t:=by
 intro u hu hc
 rw[F u hu (fun j hj=>List.mem_cons_of_mem _ (hc j hj))]
 rcases ht with⟨d,hd,QR,rfl⟩|⟨_,rfl⟩
 ·show(Tm.put t d (some v)).at u=t.at u
  rw[Tm.qy _ _ _ _ (Nat.lt_of_lt_of_le QR qt) hu,if_neg]
  intro e
  subst e
  exact hi (hc i ⟨o,ho,hd⟩)
 ·rfl
omit [Io] in
theorem uD{i:Nat}{l:List Nat}(h:sr i l=false):i∉l:=fun k=>by rw[rO.2 k]at h;cases h
omit [Io] in
theorem wF(qt:c.nt<=512){k:List Nat->tH}(hk: ∀ cU t h,k cU t h=.ok c.te c.hE->c.Fr cU t): ∀ (pre cU:List Nat) (t:Tm) (h:Hp),
 Hs c.P c.call c.nt c.ops.toList pre cU k t h=.ok c.te c.hE->c.Fr cU t
 | [],cU,t,h,e=>hk cU t h e
 |i::l,cU,t,h,e=>by
  unfold Hs at e
  cases h1:JA c.nt c.ops.toList cU i with
  |false=>rw[h1]at e;cases e
  |true=>
  rw[h1]at e
  simp only[pH]at e
  cases h2:sr i cU with
  |true=>
   rw[h2]at e
   cases h3:yA c.P c.call c.ops.toList .p1 i with
   |false=>rw[h3]at e;cases e
   |true=>
    rw[h3]at e
    obtain⟨o,v,_,_,e,_⟩:=Hu (rG.1 h3) e
    exact wF qt hk l cU t h e
  |false=>
   rw[h2]at e
   cases h3:(yA c.P c.call c.ops.toList .p0 i||yA c.P c.call c.ops.toList .p1 i)with
   |false=>rw[h3]at e;cases e
   |true=>
    rw[h3]at e
    obtain⟨o,v,vp,t1,ho,_,e,ht⟩:=yB e
    exact yC qt ho (uD h2) ht (wF qt hk l (i::cU) t1 vp e)
omit [Io] in
theorem u4(qt:c.nt<=512){k:List Nat->tH}(hk: ∀ cU t h,k cU t h=.ok c.te c.hE->c.Fr cU t): ∀ (pA cU:List Nat) (t:Tm) (h:Hp),
 Kh c.P c.call c.nt c.ops.toList pA cU k t h=.ok c.te c.hE->c.Fr cU t
 | [],cU,t,h,e=>hk cU t h e
 |i::l,cU,t,h,e=>by
  unfold Kh at e
  cases h1:(JA c.nt c.ops.toList cU i&&(!sr i cU&&(yA c.P c.call c.ops.toList .p0 i||yA c.P c.call c.ops.toList .al i)))with
  |false=>rw[h1]at e;cases e
  |true=>
   rw[h1]at e
   simp only[pH]at e
   simp only[Bool.and_eq_true,Bool.not_eq_true']at h1
   obtain⟨o,v,vp,t1,ho,_,e,ht⟩:=yB e
   exact yC qt ho (uD h1.2.1) ht (u4 qt hk l (i::cU) t1 vp e)
omit [Io] in
theorem yD(qt:c.nt<=512): ∀ (pl:sM) (cU:List Nat) (t:Tm) (h:Hp),uB c.P c.call c.nt c.ops.toList pl cU t h=.ok c.te c.hE->c.Fr cU t
 | .last pre pA,cU,t,h,e=>by
  unfold uB at e
  refine wF qt (fun cU t h e=>?_) pre cU t h e
  refine u4 qt (fun cU t h e=>?_) pA cU t h e
  cases hb:allI (fun i _=>sr i cU) c.ops.toList 0 with
  |false=>rw[hb]at e;cases e
  |true=>
   rw[hb]at e
   obtain⟨rfl,_⟩:=Rt.ok.inj e
   exact fun u _ _=>rfl
 | .cons pre pA q rest,cU,t,h,e=>by
  unfold uB at e
  refine wF qt (fun cU t h e=>?_) pre cU t h e
  refine u4 qt (fun cU t h e=>?_) pA cU t h e
  cases h1:(JA c.nt c.ops.toList cU q&&(!sr q cU&&yA c.P c.call c.ops.toList .ch q))with
  |false=>rw[h1]at e;cases e
  |true=>
   rw[h1]at e
   simp only[pH]at e
   simp only[Bool.and_eq_true,Bool.not_eq_true']at h1
   obtain⟨o,v,vp,t1,ho,_,_,e,ht⟩:=Ht e
   exact yC qt ho (uD h1.2.1) ht (yD qt rest (q::cU) t1 vp e)
omit [Io] in
theorem Cm{cU:List Nat}{i:Nat}{o:Oper}{t t1:Tm}{v:AV}(qt:c.nt<=512)(ho:c.ops[i]? =some o)
 (ht:(∃ d,o.dst=some d/\d<c.nt/\t1=sT d v t)∨(o.dst=none/\t1=t))(F:c.FrO cU t):c.FrO (i::cU) t1:=by
 intro u hu hc
 rw[<-F u hu (fun j hj k=>hc j hj (List.mem_cons_of_mem _ k))]
 rcases ht with⟨d,hd,QR,rfl⟩|⟨_,rfl⟩
 ·show(Tm.put t d (some v)).at u=t.at u
  rw[Tm.qy _ _ _ _ (Nat.lt_of_lt_of_le QR qt) hu,if_neg]
  intro e
  subst e
  exact hc i ⟨o,ho,hd⟩ List.mem_cons_self
 ·rfl
omit [Io] in
theorem aiy{i u:Nat}(oI: ∀ u∈c.Xa i,u<512)(hu:u∈c.Xa i):((∃ j,c.sV j u/\c.An i j)/\(c.rf i).at u=c.te.at u)∨((¬ ∃ j,c.sV j u/\c.An i j)/\(c.rf i).at u=c.t0.at u):=by
 have key: ∀ (l:List Nat),(∀ u∈l,u<512)->u∈l->((∃ j,c.sV j u/\c.An i j)/\(c.QS i l).at u=c.te.at u)∨((¬ ∃ j,c.sV j u/\c.An i j)/\(c.QS i l).at u=c.t0.at u):=by
  intro l
  induction l with
  |nil=>intro _ h;cases h
  |cons x l ih=>
   intro hl hm
   rw[QS,Tm.qy _ _ _ _ (hl x List.mem_cons_self) (hl u hm)]
   by_cases hx:u=x
   ·subst hx
    rw[if_pos rfl]
    by_cases hw: ∃ j,c.sV j u/\c.An i j
    ·rw[if_pos hw];exact .inl ⟨hw,rfl⟩
    ·rw[if_neg hw];exact .inr ⟨hw,rfl⟩
   ·rw[if_neg hx]
    exact ih (fun y hy=>hl y (List.mem_cons_of_mem _ hy)) ((List.mem_cons.1 hm).resolve_left hx)
 exact key _ oI hu
omit [Io] in
theorem Hv{cU:List Nat}{i:Nat}{o:Oper}{t:Tm}{h h1:Hp}{v:AV}(qt:c.nt<=512)(pD: ∀ u,u<512->(∀ j,¬ c.sV j u)->c.te.at u=c.t0.at u)(F:c.Fr cU t)(hO:c.FrO cU t)(ho:c.ops[i]? =some o)(hr:JA c.nt c.ops.toList cU i=true)
 (e:r8 c.P c.call c.nt c.ops.toList o t h=.ok v h1):c.FE i (c.rf i) h=.ok v h1:=by
 rw[Au ho,<-e]
 refine Yp fun u hu=>?_
 rw[<-adV ho]at hu
 have oI: ∀ u∈c.Xa i,u<512:=fun u hu=>Nat.lt_of_lt_of_le (Ck hr u hu).1 qt
 obtain⟨_,W9⟩:=Ck hr u hu
 rcases aiy oI hu with⟨⟨j,hj,hA⟩,er⟩|⟨hno,er⟩
 ·rw[er]
  rcases W9 with h1|h1
  ·exact F u (oI u hu) (fun j hj=>(h1 j hj).1)
  ·exact absurd hA (h1 j hj).2.2
 ·rw[er]
  rcases W9 with h1|h1
  ·have hn: ∀ j,¬ c.sV j u:=fun j hj=>hno ⟨j,hj,(h1 j hj).2⟩
   rw[<-pD u (oI u hu) hn]
   exact F u (oI u hu) (fun j hj=>absurd hj (hn j))
  ·exact(hO u (oI u hu) (fun j hj=>(h1 j hj).1)).symm
omit [Io] in
theorem zL{cU:List Nat}{i:Nat}{o:Oper}{t t1:Tm}{v:AV}(qt:c.nt<=512)(GF: ∀ i j d,c.sV i d->c.sV j d->i=j)(ho:c.ops[i]? =some o)
 (ht:(∃ d,o.dst=some d/\d<c.nt/\t1=sT d v t)∨(o.dst=none/\t1=t))(F:c.Fr (i::cU) t1):c.Slot i v:=by
 intro d hd
 obtain⟨o',sW,Ka⟩:=id hd
 rw[ho]at sW
 cases sW
 rcases ht with⟨d2,MN,QR,rfl⟩|⟨hn,_⟩
 ·rw[Ka]at MN
  cases MN
  refine⟨QR,?_⟩
  rw[F d (Nat.lt_of_lt_of_le QR qt) (fun j hj=>by rw[GF j i d hj hd];exact List.mem_cons_self)]
  show(Tm.put t d (some v)).at d=_
  rw[Tm.qy _ _ _ _ (Nat.lt_of_lt_of_le QR qt) (Nat.lt_of_lt_of_le QR qt),if_pos rfl]
 ·rw[Ka]at hn;cases hn
end Cx
end Go.Ab
