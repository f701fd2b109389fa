import Derived.Test.YtcnkojgmochcgaaGreatDoorAbC
noncomputable section
namespace Go.Ab
variable [Io]
section
variable {P:Program}{call:bV}
def gi(f:dh):Prop:= ∀ t h h0,f t h=(match f t h0 with| .ok v _=>.ok v h| .bad=>.bad)
omit [Io] in
theorem gi.ok{f:dh}(i:gi f){t:Tm}{h h':Hp}{v:AV}(e:f t h=.ok v h'):h'=h/\ ∀ h0,f t h0=.ok v h0:=by
 refine⟨?_,fun h0=>by rw[i t h0 h,e]⟩
 have:=i t h h
 rw[e]at this
 exact(Ro.ok.inj this).2
omit [Io] in
theorem ca:gi bE:=fun _ _ _=>rfl
omit [Io] in
theorem zE{c:Bool}{f:dh}(i:gi f):gi (ek c f bE):=by cases c;exact ca;exact i
omit [Io] in
theorem kG{x:dk}:gi (aa x):=by intro t h h0;unfold aa;cases x t<;>rfl
omit [Io] in
theorem DQ{c x y:dk}:gi (aR c x y):=by
 intro t h h0;unfold aR;cases c t<;>try rfl
 rename_i a;cases a<;>try rfl
 rename_i b;cases b
 ·exact kG t h h0
 ·exact kG t h h0
omit [Io] in
theorem ID{x:dk}:gi (aB x):=by intro t h h0;unfold aB;cases x t<;>try rfl
                               rename_i a;cases a<;>rfl
omit [Io] in
theorem tU{f:AV->AV->Option AV}{x y:dk}:gi (af f x y):=by
 intro t h h0;unfold af;cases x t<;>try rfl
 rename_i a;cases y t<;>try rfl
 rename_i b;simp only;cases f a b<;>rfl
omit [Io] in
theorem DR{f:AV->Option AV}{x:dk}:gi (bL f x):=by
 intro t h h0;unfold bL;cases x t<;>try rfl
 rename_i a;simp only;cases f a<;>rfl
omit [Io] in
theorem Nr{f:FuncId}{l:List dk}:gi (GR f l):=by intro t h h0;unfold GR;cases nP l t<;>rfl
omit [Io] in
theorem BJ{z:List AV}{ps:List (Nat×Nat×dk)}:gi (ao z ps):=by
 intro t h h0;unfold ao;cases iX ps t<;>try rfl
 rename_i vs;simp only;cases p8 vs z<;>rfl
omit [Io] in
theorem rP{n:Nat}{x:dk}:gi (ab n x):=by intro t h h0;unfold ab;cases x t<;>try rfl
                                        rename_i a;cases a<;>rfl
omit [Io] in
theorem BK{n m:Nat}{b:Bool}{x:dk}:gi (iy n m b x):=by
 intro t h h0;unfold iy;cases x t<;>try rfl
 rename_i a;cases a<;>try rfl
 rename_i cs;simp only;cases part b cs n m<;>rfl
omit [Io] in
theorem IE{n:Nat}{x y:dk}:gi (bq n x y):=by
 intro t h h0;unfold bq;cases y t<;>try rfl
 rename_i a;cases a<;>try rfl
 rename_i k i;cases i<;>try rfl
 rename_i i;simp only;cases x t<;>try rfl
 rename_i a;cases a<;>try rfl
 ·rename_i id off m sz;simp only;cases(Nat.blt i m&&Nat.beq sz n)<;>rfl
 ·rename_i m cs;simp only;cases Nat.blt i m<;>rfl
omit [Io] in
theorem IF{m n:Nat}{x y:dk}:gi (j9 m n x y):=by
 intro t h h0;unfold j9;cases y t<;>try rfl
 rename_i a;cases a<;>try rfl
 rename_i k i;cases i<;>try rfl
 rename_i i;simp only;cases x t<;>try rfl
 rename_i a;cases a<;>try rfl
 ·simp only;cases Nat.blt i m<;>rfl
 ·simp only;cases Nat.blt i m<;>rfl
omit [Io] in
theorem BL{m n:Nat}{b:Bool}{x y:dk}:gi (gH m n b x y):=by
 intro t h h0;unfold gH;cases x t<;>try rfl
 rename_i a;cases a<;>try rfl
 rename_i cs;simp only;cases y t<;>try rfl
 rename_i a;cases a<;>try rfl
 rename_i k i;cases i<;>try rfl
 rename_i i;simp only;cases Nat.blt i m<;>try rfl
 simp only[cond_true];cases part b cs (Nat.mul i n) n<;>rfl
omit [Io] in
theorem x9{x y:dk}:gi (bK x y):=by
 intro t h h0;unfold bK;cases x t<;>try rfl
 rename_i a;cases a<;>try rfl
 rename_i v;cases v<;>try rfl
 rename_i s;simp only;cases y t<;>try rfl
 rename_i a;cases a<;>try rfl
 ·rename_i k i;cases i<;>try rfl
  rename_i i;simp only;cases gG s.data.toList i<;>rfl
 ·rename_i k sv lo hi o;simp only;cases(!(ez (Int.add lo o) 0)&&ez (Int.add hi o) (.ofNat s.size))<;>rfl
omit [Io] in
theorem vM{x:dk}{i:Nat}:gi (aJ x i):=by
 intro t h h0;unfold aJ;cases x t<;>try rfl
 rename_i a;cases a<;>try rfl
 rename_i vs;simp only;cases gG vs i<;>rfl
omit [Io] in
theorem DS{x:dk}:gi (fy x):=by
 intro t h h0;unfold fy;cases x t<;>try rfl
 rename_i a;cases a<;>try rfl
 rename_i v;cases v<;>rfl
omit [Io] in
theorem IG{x:dk}:gi (aT x):=by
 intro t h h0;unfold aT;cases x t<;>try rfl
 rename_i a;cases a<;>rfl
omit [Io] in
theorem IH{x:dk}:gi (mC x):=by
 intro t h h0;unfold mC;cases x t<;>try rfl
 rename_i a;cases a<;>rfl
omit [Io] in
theorem II{o:Op}(hc:(jM P call o).1=.p0):gi (jM P call o).2:=by
 cases o<;>simp only[jM]at hc ⊢
 case move x=>exact kG
 case assign x=>exact kG
 case pick c x y=>exact DQ
 case alloc T=>cases hc
 case box T x=>cases hc
 case build T ps=>
  unfold qm
  split
  ·split
   ·split
    ·exact BJ
    ·exact ca
   ·exact ca
  ·exact ca
 case buildSlice T n ps=>cases hc
 case load T x=>cases hc
 case store T x y=>cases hc
 case nilCheck x=>exact ID
 case binOp op T x y yT=>
  cases vB P op T with
  |some f=>exact tU
  |none=>exact ca
 case unOp op T x=>
  cases Nn op with
  |some f=>exact DR
  |none=>exact ca
 case convert S D x=>
  have dV:gi (su P S D x):=by
   unfold su
   split
   ·split
    ·exact DR
    ·exact ca
   ·exact ca
  split
  ·rename_i h
   rw[h]at hc
   cases hc
  ·exact dV
 case makeFunc f first caps=>
  cases f<;>try (cases hc;done)
  simp only
  cases first.toList with
  |nil=>exact Nr
  |cons a l=>exact ca
 case makeSlice T l c=>cases hc
 case slice T x lo hi mx=>cases mx<;>cases hc
 case fieldAddr T x n=>
  unfold iC
  split
  ·split
   ·split
    ·exact zE rP
    ·exact ca
   ·exact ca
  ·exact ca
 case field T x n=>
  unfold qx
  split
  ·split
   ·split
    ·split
     ·exact BK
     ·exact ca
    ·exact ca
   ·exact ca
  ·exact ca
 case indexAddr T x y=>
  unfold iD
  split
  ·split
   ·exact IE
   ·exact ca
  ·split
   ·exact IF
   ·exact ca
  ·exact ca
 case index T x y=>
  unfold qy
  split
  ·split
   ·split
    ·exact BL
    ·exact ca
   ·exact ca
  ·exact x9
  ·exact ca
 case extract x i=>exact vM
 case call c=>
  cases hb:eR P c with
  |none=>rw[hb]at hc;cases hc
  |some f=>
   simp only
   unfold eR at hb
   split at hb
   ·split at hb
    ·cases hb
     unfold Dz
     split
     ·exact DS
     ·exact IG
     ·exact kG
     ·exact ca
    ·cases hb;exact ca
   ·split at hb
    ·cases hb
     unfold DA
     split
     ·exact IH
     ·exact ca
    ·cases hb;exact ca
   ·split at hb
    ·cases hb;exact tU
    ·cases hb;exact ca
   ·split at hb
    ·cases hb;exact tU
    ·cases hb;exact ca
   ·cases hb
 case makeMap T r=>cases r<;>cases hc
 all_goals (cases hc)
def BM(f:dh):Prop:= ∀ t h v h',f t h=.ok v h'-> ∀ h0:Hp,h0.next=h.next->(h'=h/\f t h0=.ok v h0)∨ ∃ cs,h'=cy h cs/\f t h0=.ok v (cy h0 cs)
omit [Io] in
theorem eT:BM bE:=by intro t h v h' e;cases e
omit [Io] in
theorem qH{c:Bool}{f:dh}(i:BM f):BM (ek c f bE):=by cases c;exact eT;exact i
omit [Io] in
theorem DT{o:Op}(hc:(jM P call o).1=.al):BM (jM P call o).2:=by
 cases o<;>simp only[jM]at hc ⊢
 case alloc T=>
  unfold DB
  split
  ·intro t h v h' e h0 hn
   cases e
   exact .inr ⟨_,rfl,by unfold cf;rw[hn]⟩
  ·exact eT
 case box T x=>
  intro t h v h' e h0 hn
  unfold cp at e ⊢
  cases hx:aU x t with
  |none=>rw[hx]at e;cases e
  |some a=>rw[hx]at e;cases e;exact .inr ⟨_,rfl,by rw[hn]⟩
 case buildSlice T n ps=>
  unfold C4
  split
  ·split
   ·split
    ·refine qH ?_
     rename_i ie iS _ z RA
     intro t h v h' e h0 hn
     unfold bp at e ⊢
     cases hp:iW (jK ps.toList) t with
     |none=>rw[hp]at e;cases e
     |some vs=>
      rw[hp]at e
      simp only at e ⊢
      cases hz:Nat.beq n 0 with
      |true=>
       rw[hz]at e
       cases vs with
       |nil=>cases e;exact .inl ⟨rfl,rfl⟩
       |cons _ _=>cases e
      |false=>
       rw[hz]at e
       simp only[cond_false]at e ⊢
       cases hf:la n ie.size z vs with
       |none=>rw[hf]at e;cases e
       |some cs=>rw[hf]at e;cases e;exact .inr ⟨_,rfl,by rw[hn]⟩
    ·exact eT
   ·exact eT
  ·exact eT
 case makeSlice T l c=>
  unfold vp
  split
  ·split
   ·split
    ·refine qH ?_
     rename_i ie iS _ z RA
     intro t h v h' e h0 hn
     unfold jo at e ⊢
     cases hl:aU l t with
     |none=>rw[hl]at e;cases e
     |some a=>
     cases a<;>try (rw[hl]at e;cases e;done)
     rename_i k i
     cases i<;>try (rw[hl]at e;cases e;done)
     rename_i i
     rw[hl]at e
     simp only at e ⊢
     cases HU:aU c t with
     |none=>rw[HU]at e;cases e
     |some a=>
     cases a<;>try (rw[HU]at e;cases e;done)
     rename_i k2 j
     cases j<;>try (rw[HU]at e;cases e;done)
     rename_i j
     rw[HU]at e
     simp only at e ⊢
     cases hb:(Nat.ble i j&&Nat.ble (Nat.mul j ie.bytes) 70368744177664)with
     |false=>rw[hb]at e;cases e
     |true=>
     rw[hb]at e
     simp only[cond_true]at e ⊢
     cases hz:Nat.beq j 0 with
     |true=>rw[hz]at e;cases e;exact .inl ⟨rfl,rfl⟩
     |false=>rw[hz]at e;cases e;exact .inr ⟨_,rfl,by simp only[cond_false];rw[hn]⟩
    ·exact eT
   ·exact eT
  ·exact eT
 case binOp op T x y yT=>cases h:vB P op T<;>rw[h]at hc<;>cases hc
 case unOp op T x=>cases h:Nn op<;>rw[h]at hc<;>cases hc
 case convert S D x=>
  cases h:P.underlying D with
  |none=>rw[h]at hc;cases hc
  |some d=>cases d<;>rw[h]at hc<;>cases hc
 case makeFunc f first caps=>
  cases f<;>try (cases hc;done)
  simp only at hc
  cases h:first.toList<;>rw[h]at hc<;>cases hc
 case slice T x lo hi mx=>cases mx<;>cases hc
 case makeMap T r=>cases r<;>cases hc
 case call c=>cases h:eR P c<;>rw[h]at hc<;>cases hc
 all_goals (cases hc)
end
end Go.Ab

noncomputable section
namespace Go.Ab
variable [Io]
def G.to(g:G)(N:Nat):G:=⟨fun id=>if id<N then g.m id else none,g.cV⟩
omit [Io] in
theorem sy(g:G)(w:World):jr g w g w:=⟨fun _ _ e=>e,fun _ i=>i,fun _ _=>rfl,fun _=>Nat.le_refl _⟩
omit [Io] in
theorem jr.trans{g w g1 w1 g2 w2}(a:jr g w g1 w1)(b:jr g1 w1 g2 w2):jr g w g2 w2:=
 ⟨fun id x e=>b.m id x (a.m id x e),fun k i=>b.cV k (a.cV k i),fun k i=>(b.qc k (a.cV k i)).trans (a.qc k i),fun k=>Nat.le_trans (a.rows k) (b.rows k)⟩
omit [Io] in
theorem jO(g:G)(w:World){N M:Nat}(h:N<=M):jr (g.to N) w (g.to M) w:=
 ⟨(by
   intro id x e
   simp only[G.to]at e ⊢
   by_cases h1:id<N
   ·rw[if_pos h1]at e;rw[if_pos (by omega)];exact e
   ·rw[if_neg h1]at e;cases e),fun _ i=>i,fun _ _=>rfl,fun _=>Nat.le_refl _⟩
def dM(N:Nat):Hp:=⟨N,.nil⟩
theorem DU{g:G}{w:World}{N:Nat}(h: ∀ b,g.cV b->b<w.heap.size):HC g w (dM N):=⟨(fun _ _ e=>by cases e),h⟩
section
variable {P:Program}{call:bV}{o:Oper}
theorem oQ{ops:Array Oper}{g w nt t h}{a:Act}{v:AV}{h':Hp}(T:TR g w nt t a.tmps)
 (e:gA P call nt ops.toList o t h=.ok v h'):(Region.wanted o (yielded ops a.tmps)=true/\(jM P call o.op).2 t h=.ok v h')∨
  (Region.wanted o (yielded ops a.tmps)=false/\v=ej/\h'=h):=by
 unfold gA at e
 cases hg:o.guard with
 |none=>
  rw[hg]at e
  exact .inl ⟨by simp[Region.wanted,hg],e⟩
 |some p=>
  obtain⟨j,want⟩:=p
  rw[hg]at e
  simp only[ec]at e
  cases hj:ops.toList[j]? with
  |none=>simp only[hj]at e;cases e
  |some oj=>
  simp only[hj]at e
  cases hd:oj.dst with
  |none=>simp only[hd]at e;cases e
  |some d=>
  simp only[hd]at e
  cases hb:Nat.blt d nt with
  |false=>simp only[hb]at e;cases e
  |true=>
  simp only[hb]at e
  have Ct:=bt.1 hb
  change gF (oT d) want (jM P call o.op).2 t h=.ok v h' at e
  have Y3:ops[j]? =some oj:=by simpa using hj
  have lM:=T.2.1
  have hy: ∀ y,a.tmps.getD d undef=y->yielded ops a.tmps j=match y with| .bool b=>some b| _=>none:=by
   intro y hy
   have:a.tmps[d]? =some y:=by
    rw[Array.getD_eq_getD_getElem?]at hy
    rw[Array.getElem?_eq_getElem (by omega)]at hy ⊢
    simpa using hy
   simp[yielded,Y3,hd,this]
   cases y<;>rfl
  unfold gF at e
  split at e
  ·rename_i b si
   have hv:=(T.2.2 d _ (by have:=T.1;omega) si).2
   simp only[VR]at hv
   have zA:=hy _ hv
   cases Iu:(ek want b (!b))with
   |true=>
    rw[Iu]at e
    have:b=want:=by cases want<;>cases b<;>simp[ek]at Iu<;>rfl
    exact .inl ⟨by simp[Region.wanted,hg,zA,this],e⟩
   |false=>
    rw[Iu]at e
    have:b≠want:=by cases want<;>cases b<;>simp[ek]at Iu<;>simp
    cases e
    exact .inr ⟨by simp[Region.wanted,hg,zA,this],rfl,rfl⟩
  ·rename_i si
   have hv:=(T.2.2 d _ (by have:=T.1;omega) si).2
   simp only[VR]at hv
   obtain⟨vs,hv,da⟩:=hv
   have zA:=hy _ hv
   cases e
   exact .inr ⟨by simp[Region.wanted,hg,zA],rfl,rfl⟩
  ·cases e
theorem vN(g:G)(w:World):VR g w ej undef:=by simp only[ej,VR];exact⟨_,rfl,by simp[bA]⟩
theorem sA(hc:cI P call){ops:Array Oper}{i:Nat}(hi:ops[i]? =some o){g w nt t h}{a:Act}{v:AV}{h':Hp}(dL:(jM P call o.op).1=.p0∨(jM P call o.op).1=.p1)
 (H:HC g w h)(T:TR g w nt t a.tmps)(e:gA P call nt ops.toList o t h=.ok v h'){Q:Exit->Act->World->Prop}{rest:List Nat}
 (K: ∀ x,VR g w v x->wpOps P ops Q rest (a.put o.dst x) w):wpOps P ops Q (i::rest) a w:=by
 rw[wpOps,hi]
 simp only
 have hp:bG P o (jM P call o.op).2:=by
  have:=tO (o:=o) hc
  cases h:jM P call o.op with
  |mk c f=>
   rw[h]at this dL
   cases c
   ·exact this
   ·exact this
   ·rcases dL with h|h<;>cases h
   ·rcases dL with h|h<;>cases h
 rcases oQ T e with⟨hw,e⟩|⟨hw,rfl,rfl⟩
 ·rw[if_pos hw]
  obtain⟨rfl,x,hx,hv⟩:=hp g w nt t h a v h' H T e
  refine .inl ?_
  unfold Oper.wp
  rw[hx]
  exact K x hv
 ·rw[if_neg (by simp[hw])]
  exact K undef (vN g w)
theorem DV(hc:cI P call){ops:Array Oper}{i:Nat}(hi:ops[i]? =some o){g w nt t h}{a:Act}{v:AV}{h':Hp}(dL:(jM P call o.op).1=.al)
 (H:HC g w h)(T:TR g w nt t a.tmps)(e:gA P call nt ops.toList o t h=.ok v h'){Q:Exit->Act->World->Prop}{rest:List Nat}
 (K1:h'=h-> ∀ x w',(w'=w∨ ∃ ob,w'=w.alloc ob)->(∀ g' w',VR g' w' v x)->wpOps P ops Q rest (a.put o.dst x) w')
 (K2: ∀ cs C el vs x,h'=cy h cs->bA g w cs.toL vs->(∀ (j:Nat) (v:Value),vs[j]? =some v->C[j]? =some v)->
  (∀ g' w',g'.m h.next=some (w.heap.size,0)->C.size<=cO w' w.heap.size->VR g' w' v x)->wpOps P ops Q rest (a.put o.dst x) (w.alloc (.cells C el))):
 wpOps P ops Q (i::rest) a w:=by
 rw[wpOps,hi]
 simp only
 have hp:jt P o (jM P call o.op).2:=by
  have:=tO (o:=o) hc
  cases h:jM P call o.op with
  |mk c f=>rw[h]at this dL;simp only at dL;subst dL;exact this
 rcases oQ T e with⟨hw,e⟩|⟨hw,rfl,rfl⟩
 ·rw[if_pos hw]
  rcases hp g w nt t h a v h' H T e with⟨rfl,x,C,el,hr,hv⟩|⟨cs,C,el,vs,x,rfl,hr,da,hC,hv⟩
  ·refine .inl ?_
   unfold Oper.wp
   rw[hr]
   exact K1 rfl x _ (.inr ⟨_,rfl⟩) hv
  ·refine .inl ?_
   unfold Oper.wp
   rw[hr]
   exact K2 cs C el vs x rfl da hC hv
 ·rw[if_neg (by simp[hw])]
  exact K1 rfl undef _ (.inl rfl) (fun g w=>vN g w)
omit [Io] in
theorem mR{nt:Nat}{all:List Oper}(dL:(jM P call o.op).1=.p0):gi (gA P call nt all o):=by
 have hf:gi (jM P call o.op).2:=II dL
 unfold gA
 cases o.guard with
 |none=>exact hf
 |some p=>
  obtain⟨j,want⟩:=p
  simp only
  split
  ·split
   ·refine zE ?_
    intro t h h0
    unfold gF
    split
    ·rename_i b _
     cases ek want b (!b)
     ·rfl
     ·exact hf t h h0
    ·rfl
    ·rfl
   ·exact ca
  ·exact ca
omit [Io] in
theorem vO{nt:Nat}{all:List Oper}(dL:(jM P call o.op).1=.al):BM (gA P call nt all o):=by
 have hf:BM (jM P call o.op).2:=DT dL
 unfold gA
 cases o.guard with
 |none=>exact hf
 |some p=>
  obtain⟨j,want⟩:=p
  simp only
  split
  ·split
   ·refine qH ?_
    intro t h v h' e h0 hn
    unfold gF at e ⊢
    split at e
    ·rename_i b hb
     cases hw:ek want b (!b)with
     |false=>rw[hw]at e;cases e;exact .inl ⟨rfl,rfl⟩
     |true=>rw[hw]at e;exact hf t h v h' e h0 hn
    ·cases e
     exact .inl ⟨rfl,rfl⟩
    ·cases e
   ·exact eT
  ·exact eT
end
end Go.Ab

noncomputable section
namespace Go.Ab
variable [Io]
inductive gZ where
 |last (pre eo:List Nat)
 |cons (pre eo:List Nat) (q:Nat) (rest:gZ)
def gZ.pre:gZ->List Nat
 | .last p _=>p
 | .cons p _ _ _=>p
def gZ.eo:gZ->List Nat
 | .last _ a=>a
 | .cons _ a _ r=>a++r.eo
def gZ.rE:gZ->List Nat
 | .last _ _=>[]
 | .cons _ _ q r=>q::r.rE
structure Cx where
 P:Program
 call:bV
 ops:Array Oper
 nt:Nat
 t0:Tm
 te:Tm
 nx:Nat->Nat
 bd:Nat->Nat
 g0:G
 w0:World
 h0:Hp
 hE:Hp
namespace Cx
variable (c:Cx)
def cz(i:Nat)(k:Cl):Prop:= ∃ o,c.ops[i]? =some o/\(jM c.P c.call o.op).1=k
def FE(i:Nat):dh:=match c.ops[i]? with
 |some o=>gA c.P c.call c.nt c.ops.toList o
 |none=>bE
def ik(i d:Nat):Prop:= ∃ o,c.ops[i]? =some o/\o.dst=some d
def GW(i:Nat):List Nat:=match c.ops[i]? with
 |some o=>lA c.ops.toList o
 |none=>[]
def An(i j:Nat):Prop:=x7 c.ops.toList i j=true
def jP(i N:Nat):Prop:= ∀ u∈c.GW i,u<c.nt/\((∀ j,c.ik j u->c.An i j/\c.bd j<=N)∨ ∀ j,c.ik j u->c.An j i)
open Classical in
def Cu(i:Nat):List Nat->Tm
 | []=>Tm.none
 |u::l=>Tm.put (Cu i l) u (if ∃ j,c.ik j u/\c.An i j then Tm.at c.te u else Tm.at c.t0 u)
def rf(i:Nat):Tm:=c.Cu i (c.GW i)
def Slot(i:Nat)(v:AV):Prop:= ∀ d,c.ik i d->d<c.nt/\c.te.at d=some v
def XX(pre:List Nat)(h:Hp):Prop:= ∀ i∈pre,c.cz i .p1-> ∃ v,c.FE i (c.rf i) h=.ok v h/\c.Slot i v/\c.jP i h.next
def pe:List Nat->Hp->Hp->Prop
 | [],h,h1=>h1=h
 |i::l,h,h1=>(c.cz i .p0/\pe l h h1)∨(c.cz i .al/\c.nx i=h.next/\((c.bd i=c.nx i/\pe l h h1)∨
  ∃ v cs,c.bd i=c.nx i+1/\c.FE i (c.rf i) (dM (c.nx i))=.ok v (cy (dM (c.nx i)) cs)/\pe l (cy h cs) h1))
def rQ:gZ->Hp->Prop
 | .last pre eo,h=>c.XX pre h/\c.pe eo h c.hE
 | .cons pre eo q rest,h=>c.XX pre h/\ ∃ h1,c.pe eo h h1/\c.cz q .ch/\ ∃ v h2,c.FE q (c.rf q) h1=.ok v h2/\c.Slot q v/\c.jP q h1.next/\
   c.bd q=h2.next/\h1.next<=h2.next/\rQ rest h2
def zF:List Nat->gZ->Prop
 |past,.last pre _=> ∀ i,c.cz i .p1->(∃ j∈past,c.An j i)∨i∈pre
 |past,.cons pre eo q rest=>(∀ i,c.cz i .p1->(∃ j∈past,c.An j i)∨(∃ j∈q::rest.rE,c.An i j)∨i∈pre)/\(∀ i∈eo,c.cz i .al->c.An q i)/\
  (∀ q'∈rest.rE,c.An q' q)/\zF (q::past) rest
structure IJ:Prop where
 p0: ∀ i,c.cz i .p0-> ∃ v,(∀ h,c.FE i (c.rf i) h=.ok v h)/\c.Slot i v/\c.jP i (c.bd i)
 al: ∀ i,c.cz i .al-> ∃ v,c.Slot i v/\c.jP i (c.nx i)/\((c.FE i (c.rf i) (dM (c.nx i))=.ok v (dM (c.nx i))/\c.bd i=c.nx i)∨
  ∃ cs,c.FE i (c.rf i) (dM (c.nx i))=.ok v (cy (dM (c.nx i)) cs)/\c.bd i=c.nx i+1)
 dst: ∀ i j d,c.ik i d->c.ik j d->i=j
 top: ∀ i,i<c.ops.size->c.bd i<=c.hE.next
 same: ∀ u,u<512->(∀ j,¬ c.ik j u)->c.te.at u=c.t0.at u
 call:cI c.P c.call
 nt:c.nt<=512
omit [Io] in
theorem kI{h1:Hp}: ∀ {l:List Nat} {h:Hp},c.pe l h h1->h.next<=h1.next
 | [],h,e=>by cases e;exact Nat.le_refl _
 |i::l,h,e=>by
  rcases e with⟨_,e⟩|⟨_,_,⟨_,e⟩|⟨v,cs,_,_,e⟩⟩
  ·exact kI e
  ·exact kI e
  ·have:=kI e
   exact Nat.le_trans (Nat.le_succ _) this
omit [Io] in
theorem iE{h1:Hp}: ∀ {l:List Nat} {h:Hp},c.pe l h h1-> ∀ i∈l,c.cz i .al->h.next<=c.nx i/\(c.bd i=c.nx i+1->c.nx i<h1.next)
 | [],h,e,i,hi,_=>by cases hi
 |j::l,h,e,i,hi,hc=>by
  rcases e with⟨hj,e⟩|⟨hj,hn,⟨hb,e⟩|⟨v,cs,hb,_,e⟩⟩
  ·rcases List.mem_cons.1 hi with rfl|hi
   ·obtain⟨o,ho,h1⟩:=hj
    obtain⟨o',il,h2⟩:=hc
    rw[ho]at il
    cases il
    rw[h1]at h2
    cases h2
   ·exact iE e i hi hc
  ·rcases List.mem_cons.1 hi with rfl|hi
   ·exact⟨by omega,fun h=>by omega⟩
   ·exact iE e i hi hc
  ·rcases List.mem_cons.1 hi with rfl|hi
   ·have:=kI c e
    have:h.next+1<=h1.next:=this
    exact⟨by omega,fun _=>by omega⟩
   ·have:=iE e i hi hc
    have h2:h.next+1<=c.nx i:=this.1
    exact⟨by omega,this.2⟩
omit [Io] in
theorem l9: ∀ {pl:gZ} {h:Hp},c.rQ pl h-> ∀ i∈pl.eo,c.cz i .al->h.next<=c.nx i
 | .last pre eo,h,⟨_,e⟩,i,hi,hc=>(c.iE e i hi hc).1
 | .cons pre eo q rest,h,⟨_,h1,e,_,v,h2,_,_,_,_,hle,r⟩,i,hi,hc=>by
  rcases List.mem_append.1 hi with hi|hi
  ·exact(c.iE e i hi hc).1
  ·exact Nat.le_trans (c.kI e) (Nat.le_trans hle (l9 r i hi hc))
omit [Io] in
theorem fS{i:Nat}{k:Cl}(h:c.cz i k){k':Cl}(h':c.cz i k'):k=k':=by
 obtain⟨o,ho,h1⟩:=h
 obtain⟨o',il,h2⟩:=h'
 rw[ho]at il
 cases il
 exact h1.symm.trans h2
omit [Io] in
theorem mS{h1:Hp}: ∀ {l:List Nat} {h:Hp},c.pe l h h1-> ∀ i∈l,∀ j∈l,c.cz i .al->c.cz j .al->c.bd i=c.nx i+1->c.bd j=c.nx j+1->c.nx i=c.nx j->i=j
 | [],h,e,i,hi,_,_,_,_,_,_,_=>by cases hi
 |k::l,h,e,i,hi,j,hj,ci,cj,bi,bj,Lq=>by
  rcases e with⟨hk,e⟩|⟨hk,hn,⟨hb,e⟩|⟨v,cs,hb,_,e⟩⟩
  ·have ni:i≠k:=fun e=>by subst e;cases c.fS hk ci
   have nj:j≠k:=fun e=>by subst e;cases c.fS hk cj
   exact mS e i ((List.mem_cons.1 hi).resolve_left ni) j ((List.mem_cons.1 hj).resolve_left nj) ci cj bi bj Lq
  ·have ni:i≠k:=fun e=>by subst e;omega
   have nj:j≠k:=fun e=>by subst e;omega
   exact mS e i ((List.mem_cons.1 hi).resolve_left ni) j ((List.mem_cons.1 hj).resolve_left nj) ci cj bi bj Lq
  ·by_cases ni:i=k<;>by_cases nj:j=k
   ·exact ni.trans nj.symm
   ·have:=(c.iE e j ((List.mem_cons.1 hj).resolve_left nj) cj).1
    have:h.next+1<=c.nx j:=this
    subst ni
    omega
   ·have:=(c.iE e i ((List.mem_cons.1 hi).resolve_left ni) ci).1
    have:h.next+1<=c.nx i:=this
    subst nj
    omega
   ·exact mS e i ((List.mem_cons.1 hi).resolve_left ni) j ((List.mem_cons.1 hj).resolve_left nj) ci cj bi bj Lq
omit [Io] in
theorem mT: ∀ {pl:gZ} {h:Hp},c.rQ pl h-> ∀ i∈pl.eo,∀ j∈pl.eo,c.cz i .al->c.cz j .al->c.bd i=c.nx i+1->c.bd j=c.nx j+1->c.nx i=c.nx j->i=j
 | .last pre eo,h,⟨_,e⟩,i,hi,j,hj,ci,cj,bi,bj,Lq=>c.mS e i hi j hj ci cj bi bj Lq
 | .cons pre eo q rest,h,⟨_,h1,e,_,v,h2,_,_,_,_,hle,r⟩,i,hi,j,hj,ci,cj,bi,bj,Lq=>by
  rcases List.mem_append.1 hi with hi|hi<;>rcases List.mem_append.1 hj with hj|hj
  ·exact c.mS e i hi j hj ci cj bi bj Lq
  ·have:=(c.iE e i hi ci).2 bi
   have:=c.l9 r j hj cj
   omega
  ·have:=(c.iE e j hj cj).2 bj
   have:=c.l9 r i hi ci
   omega
  ·exact mT r i hi j hj ci cj bi bj Lq
def BN(g:G)(w:World)(h:Hp)(i:Nat):Prop:=
 c.bd i=c.nx i∨ ∃ v cs b C,∃ el:FT C,∃ vs,c.bd i=c.nx i+1/\c.FE i (c.rf i) (dM (c.nx i))=.ok v (cy (dM (c.nx i)) cs)/\g.m (c.nx i)=some (b,0)/\w.heap[b]? =some (.cells C el.el el.fz)/\
  ¬ g.cV b/\ ¬ eN (g.to h.next) h b/\c.w0.heap.size<=b/\bA (g.to (c.nx i)) w cs.toL vs/\ ∀ (j:Nat) (v:Value),vs[j]? =some v->C[j]? =some v
structure St(g:G)(w:World)(h:Hp)(A D:List Nat):Prop where
 hr:HR (g.to h.next) w h
 ext:Ext c.g0 c.w0 c.h0 (g.to h.next) w h
 ya: ∀ i∈A,i∈D->c.cz i .al->c.BN g w h i
 BO: ∀ i∈A,∀ j∈A,i∈D->j∈D->c.cz i .al->c.cz j .al->c.bd i=c.nx i+1->c.bd j=c.nx j+1-> ∀ b,g.m (c.nx i)=some (b,0)->g.m (c.nx j)=some (b,0)->i=j
omit [Io] in
theorem kJ{h:Hp}{cs:Rw}{id:Nat}:(cy h cs).aQ.get id=if id=h.next then some cs else h.aQ.get id:=Tr.fA _ _ _ _
omit [Io] in
theorem DW{h:Hp}{cs cs':Rw}(e:cy h cs=cy h cs'):cs=cs':=by
 have h1:(cy h cs).aQ.get h.next=some cs:=by rw[kJ,if_pos rfl]
 rw[e,kJ,if_pos rfl]at h1
 exact(Option.some.inj h1).symm
theorem RB{g:G}{w:World}{h:Hp}(H:HR (g.to h.next) w h){b:Nat}{C:Array Value}{el:FT C}{cs:Rw}{vs:List Value}(hm:g.m h.next=some (b,0))
 (hw:w.heap[b]? =some (.cells C el.el el.fz))(hi: ¬ g.cV b)(ho: ¬ eN (g.to h.next) h b)(hv:bA (g.to h.next) w cs.toL vs)(hC: ∀ (j:Nat) (v:Value),vs[j]? =some v->C[j]? =some v):
 HR (g.to (cy h cs).next) w (cy h cs)/\ ∀ b',eN (g.to (cy h cs).next) (cy h cs) b'->eN (g.to h.next) h b'∨b'=b:=by
 have hn:(cy h cs).next=h.next+1:=rfl
 have hM:=jO g w (N:=h.next) (M:=h.next+1) (by omega)
 have hle: ∀ id cs',h.aQ.get id=some cs'->id<h.next:=by
  intro id cs' e
  refine Classical.byContradiction fun k=>?_
  obtain⟨b',s,_,_,_,pB,_⟩:=H.aQ id cs' e
  rw[H.fresh id (by omega)]at pB
  cases pB
 have pL: ∀ id,id<h.next->(g.to (h.next+1)).m id=(g.to h.next).m id:=by
  intro id k
  simp only[G.to]
  rw[if_pos (by omega),if_pos k]
 have Lr:(g.to (h.next+1)).m h.next=some (b,0):=by
  simp only[G.to]
  rw[if_pos (by omega)]
  exact hm
 rw[hn]
 refine⟨⟨?_,?_,?_,fun k i=>H.cV k i,fun p hp=>H.tb p hp⟩,?_⟩
 ·intro id eO
  have:h.next+1<=id:=eO
  simp only[G.to]
  rw[if_neg (by omega)]
 ·intro id cs' e
  rw[kJ]at e
  by_cases eO:id=h.next
  ·subst eO
   rw[if_pos rfl]at e
   cases e
   exact⟨b,0,C,el,vs,Lr,hw,hi,bA.dB hM _ _ hv,by simpa using hC⟩
  ·rw[if_neg eO]at e
   obtain⟨b',s,C',el',Q0,pB,YZ,nR,kb,YG⟩:=H.aQ id cs' e
   exact⟨b',s,C',el',Q0,by rw[pL id (hle id cs' e)];exact pB,YZ,nR,bA.dB hM _ _ kb,YG⟩
 ·intro id o6 b1 s s' ze qe e1 e2 m1 m2
  rw[kJ]at e1 e2
  by_cases h1:id=h.next<;>by_cases h2:o6=h.next
  ·exact h1.trans h2.symm
  ·subst h1
   rw[if_neg h2]at e2
   rw[Lr]at m1
   obtain⟨rfl,_⟩:=Prod.mk.inj (Option.some.inj m1)
   rw[pL o6 (hle o6 _ e2)]at m2
   exact absurd ⟨o6,qe,s',e2,m2⟩ ho
  ·subst h2
   rw[if_neg h1]at e1
   rw[Lr]at m2
   obtain⟨rfl,_⟩:=Prod.mk.inj (Option.some.inj m2)
   rw[pL id (hle id _ e1)]at m1
   exact absurd ⟨id,ze,s,e1,m1⟩ ho
  ·rw[if_neg h1]at e1
   rw[if_neg h2]at e2
   rw[pL id (hle id _ e1)]at m1
   rw[pL o6 (hle o6 _ e2)]at m2
   exact H.inj id o6 b1 s s' ze qe e1 e2 m1 m2
 ·rintro b' ⟨id,cs',s,e,m⟩
  rw[kJ]at e
  by_cases eO:id=h.next
  ·subst eO
   rw[Lr]at m
   obtain⟨rfl,_⟩:=Prod.mk.inj (Option.some.inj m)
   exact .inr rfl
  ·rw[if_neg eO]at e
   rw[pL id (hle id _ e)]at m
   exact .inl ⟨id,cs',s,e,m⟩
omit [Io] in
theorem BP{g:G}{w:World}{h:Hp}{b:Nat}{cs:Rw}(E:Ext c.g0 c.w0 c.h0 (g.to h.next) w h)(hb:c.w0.heap.size<=b)
 (hO: ∀ b',eN (g.to (cy h cs).next) (cy h cs) b'->eN (g.to h.next) h b'∨b'=b):Ext c.g0 c.w0 c.h0 (g.to (cy h cs).next) w (cy h cs) where
 os:=E.os
 tape:=E.tape
 output:=E.output
 size:=E.size
 next:=Nat.le_trans E.next (Nat.le_succ _)
 m:=fun id x e=>(jO g w (N:=h.next) (M:=h.next+1) (by omega)).m id x (E.m id x e)
 j2:=E.j2
 rows:=E.rows
 cV:=E.cV
 Bi:=E.Bi
 jq:=fun k o=>by
  rcases hO k o with o|rfl
  ·exact E.jq k o
  ·exact .inr hb
theorem settle{g:G}{w:World}{D A:List Nat}{h1:Hp}: ∀ (l:List Nat) (h:Hp),c.pe l h h1->(∀ i∈l,c.cz i .al->i∈D)->c.St g w h (l++A) D->
 (∀ i∈A,c.cz i .al->h1.next<=c.nx i)->c.St g w h1 A D
 | [],h,e,_,S,_=>by cases e;exact S
 |i::l,h,e,hd,S,hA=>by
  have sB:=fun j hj=>hd j (List.mem_cons_of_mem i hj)
  have S':c.St g w h (l++A) D:=⟨S.hr,S.ext,fun j hj=>S.ya j (List.mem_cons_of_mem _ hj),fun j hj k hk=>S.BO j (List.mem_cons_of_mem _ hj) k (List.mem_cons_of_mem _ hk)⟩
  rcases e with⟨_,e⟩|⟨hk,hn,⟨hb,e⟩|⟨v,cs,hb,hF,e⟩⟩
  ·exact settle l h e sB S' hA
  ·exact settle l h e sB S' hA
  ·have sC:=hd i List.mem_cons_self hk
   rcases S.ya i List.mem_cons_self sC hk with hp|⟨v',cs',b,C,el,vs,_,Qs,hm,hw,Qr,hO,RC,hv,hC⟩
   ·omega
   rw[hF]at Qs
   obtain⟨rfl,fO⟩:=Ro.ok.inj Qs
   obtain rfl:=DW fO
   rw[hn]at hm hv
   obtain⟨Q4,hO'⟩:=RB S.hr hm hw Qr hO hv hC
   refine settle l (cy h cs) e sB ⟨Q4,c.BP S.ext RC hO',?_,S'.BO⟩ hA
   intro j hj yb uU
   rcases S'.ya j hj yb uU with hp|⟨v2,qe,b2,C2,MB,C8,si,hF2,Bq,C9,Y8,hO2,Y9,Ll,hC2⟩
   ·exact .inl hp
   ·refine .inr ⟨v2,qe,b2,C2,MB,C8,si,hF2,Bq,C9,Y8,fun o=>?_,Y9,Ll,hC2⟩
    rcases hO' _ o with o|rfl
    ·exact hO2 o
    ·have hjn:h.next+1<=c.nx j:=by
      rcases List.mem_append.1 hj with hj|hj
      ·exact(c.iE e j hj uU).1
      ·exact Nat.le_trans (c.kI e) (hA j hj uU)
     have:=S.BO i List.mem_cons_self j (List.mem_cons_of_mem _ hj) sC yb hk uU hb si b2 (by rw[hn];exact hm) Bq
     subst this
     omega
end Cx
end Go.Ab

noncomputable section
namespace Go.Ab
variable [Io]
namespace Cx
variable (c:Cx)
structure Inv(g:G)(w:World)(h:Hp)(a:Act)(D past:List Nat)(pl:gZ):Prop where
 run:c.rQ pl h
 stat:c.zF past pl
 closed:tT c.ops.toList D
 rE: ∀ i,c.cz i .ch->i∈pl.rE∨i∈D
 GX: ∀ i∈pl.rE,i∉D
 oS: ∀ j∈past,j∈D
 Ls: ∀ i,c.cz i .al->i∈pl.eo∨i∈D
 st:c.St g w h pl.eo D
 Lt: ∀ id x,g.m id=some x->id<h.next∨ ∃ i∈pl.eo,i∈D/\c.cz i .al/\c.bd i=c.nx i+1/\id=c.nx i
 kK: ∀ j∈D,∀ d,c.ik j d->d<c.nt/\ ∃ v,c.te.at d=some v/\VR (g.to (max (c.bd j) h.next)) w v (a.tmps.getD d undef)
 free: ∀ u v,u<512->(∀ j∈D,¬ c.ik j u)->c.t0.at u=some v->u<c.nt/\VR (g.to h.next) w v (a.tmps.getD u undef)
 size:a.tmps.size=c.nt
 defers:a.defers=[]
variable {c}
omit [Io] in
theorem oU{i:Nat}{o:Oper}(ho:c.ops[i]? =some o):c.FE i=gA c.P c.call c.nt c.ops.toList o:=by unfold FE;rw[ho]
omit [Io] in
theorem Ns{i:Nat}{o:Oper}(ho:c.ops[i]? =some o):c.GW i=lA c.ops.toList o:=by unfold GW;rw[ho]
omit [Io] in
theorem DX{i:Nat}: ∀ (l:List Nat),(∀ u∈l,u<512)-> ∀ u v,u<512->(c.Cu i l).at u=some v->u∈l/\(((∃ j,c.ik j u/\c.An i j)/\c.te.at u=some v)∨((¬ ∃ j,c.ik j u/\c.An i j)/\c.t0.at u=some v))
 | [],_,u,v,hu,e=>by rw[Cu,Tm.pC u hu]at e;cases e
 |x::l,hl,u,v,hu,e=>by
  rw[Cu,Tm.fh _ _ _ _ (hl x List.mem_cons_self) hu]at e
  by_cases hx:u=x
  ·subst hx
   rw[if_pos rfl]at e
   refine⟨List.mem_cons_self,?_⟩
   by_cases hw: ∃ j,c.ik j u/\c.An i j
   ·rw[if_pos hw]at e;exact .inl ⟨hw,e⟩
   ·rw[if_neg hw]at e;exact .inr ⟨hw,e⟩
  ·rw[if_neg hx]at e
   obtain⟨h1,h2⟩:=DX l (fun y hy=>hl y (List.mem_cons_of_mem _ hy)) u v hu e
   exact⟨List.mem_cons_of_mem _ h1,h2⟩
theorem Inv.reads{g w h a D past pl}(I:c.Inv g w h a D past pl)(eS:c.nt<=512){i N M:Nat}(hr:c.jP i M)(sC:i∉D)(hD: ∀ j,c.An i j->j∈D)(hM:M<=N)(hN:h.next<=N):
 TR (g.to N) w c.nt (c.rf i) a.tmps:=by
 have eg: ∀ u∈c.GW i,u<512:=fun u hu=>Nat.lt_of_lt_of_le (hr u hu).1 eS
 refine⟨eS,I.size,fun u v hu e=>?_⟩
 obtain⟨hm,GV⟩:=DX _ eg u v hu e
 refine⟨(hr u hm).1,?_⟩
 rcases GV with⟨⟨j,hj,hA⟩,e⟩|⟨Y',e⟩
 ·rcases(hr u hm).2 with h1|h1
  ·obtain⟨_,hb⟩:=h1 j hj
   obtain⟨_,v',e',hv⟩:=I.kK j (hD j hA) u hj
   rw[e]at e'
   cases e'
   exact VR.dB (jO g w (by omega)) _ _ hv
  ·exact absurd (I.closed j (hD j hA) i (h1 j hj)) sC
 ·refine VR.dB (jO g w hN) _ _ (I.free u v hu (fun j yb hj=>?_) e).2
  rcases(hr u hm).2 with h1|h1
  ·exact Y' ⟨j,hj,(h1 j hj).1⟩
  ·exact sC (I.closed j yb i (h1 j hj))
omit [Io] in
theorem tV{a:Act}{od:Option Nat}{x:Value}{d:Nat}(hd:d<a.tmps.size):(a.put od x).tmps.getD d undef=if od=some d then x else a.tmps.getD d undef:=by
 cases od with
 |none=>rfl
 |some e=>
  show(a.tmps.setIfInBounds e x).getD d undef=_
  rw[Array.getD_eq_getD_getElem?,Array.getD_eq_getD_getElem?]
  by_cases he:e=d
  ·subst he
   rw[Array.getElem?_setIfInBounds_self_of_lt hd,if_pos rfl];rfl
  ·rw[Array.getElem?_setIfInBounds_ne he,if_neg (fun k=>he (Option.some.inj k))]
omit [Io] in
theorem qI{a:Act}{od:Option Nat}{x:Value}:(a.put od x).tmps.size=a.tmps.size:=by
 cases od with
 |none=>rfl
 |some e=>show(a.tmps.setIfInBounds e x).size=_;simp
omit [Io] in
theorem put_defers{a:Act}{od:Option Nat}{x:Value}:(a.put od x).defers=a.defers:=by cases od<;>rfl
theorem n9{g:G}{w w':World}{g':G}{a:Act}{D:List Nat}{i:Nat}{o:Oper}{x:Value}{N N':Nat}(G0:c.IJ)(ho:c.ops[i]? =some o)
 (hs:a.tmps.size=c.nt)
 (kK: ∀ j∈D,∀ d,c.ik j d->d<c.nt/\ ∃ v,c.te.at d=some v/\VR (g.to (max (c.bd j) N)) w v (a.tmps.getD d undef))
 (mono: ∀ j∈D,jr (g.to (max (c.bd j) N)) w (g'.to (max (c.bd j) N')) w')(hi:i∉D)
 (hx: ∀ d,c.ik i d->d<c.nt/\ ∃ v,c.te.at d=some v/\VR (g'.to (max (c.bd i) N')) w' v x):
 ∀ j∈i::D,∀ d,c.ik j d->d<c.nt/\ ∃ v,c.te.at d=some v/\VR (g'.to (max (c.bd j) N')) w' v ((a.put o.dst x).tmps.getD d undef):=by
 intro j hj d hd
 by_cases xz:j=i
 ·subst xz
  obtain⟨h1,v,h2,h3⟩:=hx d hd
  refine⟨h1,v,h2,?_⟩
  obtain⟨o',il,sB⟩:=hd
  rw[ho]at il
  cases il
  rw[tV (by omega),if_pos sB]
  exact h3
 ·obtain⟨h1,v,h2,h3⟩:=kK j ((List.mem_cons.1 hj).resolve_left xz) d hd
  refine⟨h1,v,h2,?_⟩
  rw[tV (by omega),if_neg (fun k=>xz (G0.dst j i d hd ⟨o,ho,k⟩))]
  exact VR.dB (mono j ((List.mem_cons.1 hj).resolve_left xz)) _ _ h3
theorem qJ{g:G}{w w':World}{g':G}{a:Act}{D:List Nat}{i:Nat}{o:Oper}{x:Value}{N N':Nat}(ho:c.ops[i]? =some o)(hs:a.tmps.size=c.nt)
 (free: ∀ u v,u<512->(∀ j∈D,¬ c.ik j u)->c.t0.at u=some v->u<c.nt/\VR (g.to N) w v (a.tmps.getD u undef))(mono:jr (g.to N) w (g'.to N') w'):
 ∀ u v,u<512->(∀ j∈i::D,¬ c.ik j u)->c.t0.at u=some v->u<c.nt/\VR (g'.to N') w' v ((a.put o.dst x).tmps.getD u undef):=by
 intro u v hu hd e
 obtain⟨h1,h2⟩:=free u v hu (fun j hj=>hd j (List.mem_cons_of_mem _ hj)) e
 refine⟨h1,?_⟩
 rw[tV (by omega),if_neg (fun k=>hd i List.mem_cons_self ⟨o,ho,k⟩)]
 exact VR.dB mono _ _ h2
theorem Inv.put{g w h a D past pl}(G0:c.IJ)(I:c.Inv g w h a D past pl){i:Nat}{o:Oper}(ho:c.ops[i]? =some o)(hi:i∉D)(hC:tT c.ops.toList (i::D))
 (hk:c.cz i .p0∨c.cz i .p1){v:AV}{x:Value}(hs:c.Slot i v)(hx:VR (g.to (max (c.bd i) h.next)) w v x):c.Inv g w h (a.put o.dst x) (i::D) past pl:=by
 have yc: ∀ j,c.cz j .al->j∈i::D->j∈D:=by
  intro j hj h
  refine(List.mem_cons.1 h).resolve_left fun e=>?_
  subst e
  rcases hk with hk|hk<;>cases c.fS hk hj
 exact
 {run:=I.run
  stat:=I.stat
  closed:=hC
  rE:=fun j hj=>(I.rE j hj).imp id (List.mem_cons_of_mem _)
  GX:=fun j hj h=>by
   rcases List.mem_cons.1 h with rfl|h
   ·have:c.cz j .ch:=by
     have key: ∀ {pl:gZ} {h:Hp},c.rQ pl h-> ∀ j∈pl.rE,c.cz j .ch:=by
      intro pl
      induction pl with
      |last pre eo=>intro h r j hj;cases hj
      |cons pre eo q rest ih=>
       intro h r j hj
       obtain⟨_,h1,_,hq,v,h2,_,_,_,_,_,r⟩:=r
       rcases List.mem_cons.1 hj with rfl|hj
       ·exact hq
       ·exact ih r j hj
     exact key I.run j hj
    rcases hk with hk|hk<;>cases c.fS hk this
   ·exact I.GX j hj h
  oS:=fun j hj=>List.mem_cons_of_mem _ (I.oS j hj)
  Ls:=fun j hj=>(I.Ls j hj).imp id (List.mem_cons_of_mem _)
  st:=⟨I.st.hr,I.st.ext,fun j hj hD hc=>I.st.ya j hj (yc j hc hD) hc,fun j hj k hk jD kD jc kc=>I.st.BO j hj k hk (yc j jc jD) (yc k kc kD) jc kc⟩
  Lt:=fun n y e=>(I.Lt n y e).imp id fun⟨j,hj,hD,r⟩=>⟨j,hj,List.mem_cons_of_mem _ hD,r⟩
  kK:=n9 G0 ho I.size I.kK (fun j _=>sy _ _) hi (fun d hd=>⟨(hs d hd).1,v,(hs d hd).2,hx⟩)
  free:=qJ ho I.size I.free (sy _ _)
  size:=by rw[qI];exact I.size
  defers:=by rw[put_defers];exact I.defers}
omit [Io] in
theorem zG: ∀ {pl:gZ} {h:Hp},c.rQ pl h-> ∀ j∈pl.rE,c.cz j .ch:=by
 intro pl
 induction pl with
 |last pre eo=>intro h r j hj;cases hj
 |cons pre eo q rest ih=>
  intro h r j hj
  obtain⟨_,h1,_,hq,v,h2,_,_,_,_,_,r⟩:=r
  rcases List.mem_cons.1 hj with rfl|hj
  ·exact hq
  ·exact ih r j hj
omit [Io] in
theorem Nt{pl:gZ}{h:Hp}(r:c.rQ pl h):c.XX pl.pre h:=by
 cases pl with
 |last pre eo=>exact r.1
 |cons pre eo q rest=>exact r.1
omit [Io] in
theorem IK{past:List Nat}{pl:gZ}(s:c.zF past pl): ∀ i,c.cz i .p1->(∃ j∈past,c.An j i)∨(∃ j∈pl.rE,c.An i j)∨i∈pl.pre:=by
 cases pl with
 |last pre eo=>exact fun i hi=>(s i hi).imp id .inr
 |cons pre eo q rest=>exact s.1
omit [Io] in
theorem jQ{w:World}{ob:Obj}{b:Nat}:(w.alloc ob).heap[b]? =if b=w.heap.size then some ob else w.heap[b]? :=by
 show(w.heap.push _)[b]? =_
 rw[Array.getElem?_push]
omit [Io] in
theorem ma{g g':G}{w:World}{ob:Obj}(hm: ∀ id x,g.m id=some x->g'.m id=some x)(hi:g'.cV=g.cV)(hb: ∀ b,g.cV b->b<w.heap.size):jr g w g' (w.alloc ob):=
 ⟨hm,fun b i=>by rw[hi];exact i,fun b i=>by
  have:=hb b i
  rw[jQ,if_neg (by omega)],fun b=>by
  unfold cO
  rw[jQ]
  by_cases h:b=w.heap.size
  ·subst h;simp
  ·rw[if_neg h];exact Nat.le_refl _⟩
theorem yd{g g':G}{w:World}{h:Hp}{ob:Obj}{i:Nat}(hm: ∀ id x,g.m id=some x->g'.m id=some x)(hi:g'.cV=g.cV)(hb: ∀ b,g.cV b->b<w.heap.size)
 (pL:g'.to h.next=g.to h.next)(p:c.BN g w h i):c.BN g' (w.alloc ob) h i:=by
 rcases p with p|⟨v,cs,b,C,el,vs,h1,h2,h3,h4,h5,h6,h7,h8,h9⟩
 ·exact .inl p
 ·have eg:=(Array.getElem?_eq_some_iff.1 h4).1
  refine .inr ⟨v,cs,b,C,el,vs,h1,h2,hm _ _ h3,by rw[jQ,if_neg (by omega)];exact h4,by rw[hi];exact h5,by rw[pL];exact h6,h7,?_,h9⟩
  refine bA.dB ?_ _ _ h8
  refine ma ?_ (by simp only[G.to];exact hi) (by simp only[G.to];exact hb)
  intro id x e
  simp only[G.to]at e ⊢
  by_cases eO:id<c.nx i
  ·rw[if_pos eO]at e ⊢;exact hm _ _ e
  ·rw[if_neg eO]at e;cases e
end Cx
end Go.Ab

noncomputable section
namespace Go.Ab
variable [Io]
namespace Cx
variable {c:Cx}
omit [Io] in
theorem G.DY{g:G}{id b N:Nat}(h:N<=id):(g.add id b).to N=g.to N:=by
 unfold Go.Ab.G.to G.add
 congr 1
 funext k
 by_cases hk:k<N
 ·simp only[hk,if_true]
  rw[if_neg (by omega)]
 ·simp only[hk,if_false]
theorem Qt(G0:c.IJ){Q:Exit->Act->World->Prop}(K:jv c.g0 c.w0 c.h0 c.nt c.te c.hE (Q .normal)): ∀ (s D past:List Nat) (pl:gZ) (g:G) (w:World) (h:Hp) (a:Act),
 Iz c.ops D s->c.Inv g w h a D past pl->wpOps c.P c.ops Q s a w
 | [],D,past,pl,g,w,h,a,L,I=>by
  have vP: ∀ i,i<c.ops.size->i∈D:=L
  have eg: ∀ {i k},c.cz i k->i<c.ops.size:=fun⟨o,ho,_⟩=>(Array.getElem?_eq_some_iff.1 ho).1
  show Q .normal a w
  cases pl with
  |cons pre eo q rest=>
   exact absurd (vP q (eg (zG I.run q List.mem_cons_self))) (I.GX q List.mem_cons_self)
  |last pre eo=>
   have S:=c.settle (A:=[]) eo h I.run.2 (fun i _ hc=>vP i (eg hc)) (by rw[List.append_nil];exact I.st) (fun i hi=>by cases hi)
   refine K _ _ _ S.ext S.hr ⟨G0.nt,I.size,fun u v hu e=>?_⟩ I.defers
   have hle:=c.kI I.run.2
   by_cases hd: ∃ j,c.ik j u
   ·obtain⟨j,hj⟩:=hd
    obtain⟨o,ho,_⟩:=id hj
    have Q1:=(Array.getElem?_eq_some_iff.1 ho).1
    obtain⟨h1,v',e',hv⟩:=I.kK j (vP j Q1) u hj
    rw[e]at e'
    cases e'
    have:=G0.top j Q1
    exact⟨h1,VR.dB (jO g w (by omega)) _ _ hv⟩
   ·rw[G0.same u hu (fun j hj=>hd ⟨j,hj⟩)]at e
    obtain⟨h1,h2⟩:=I.free u v hu (fun j _ hj=>hd ⟨j,hj⟩) e
    exact⟨h1,VR.dB (jO g w hle) _ _ h2⟩
 |i::s,D,past,pl,g,w,h,a,⟨his,sC,hE,L⟩,I=>by
  obtain⟨o,ho⟩: ∃ o,c.ops[i]? =some o:=⟨c.ops[i],Array.getElem?_eq_getElem his⟩
  obtain⟨tW,hC⟩:=vJ I.closed ho hE
  have ye: ∀ b,g.cV b->b<w.heap.size:=I.st.hr.cV
  cases hk:(jM c.P c.call o.op).1 with
  |p0=>
   have dL:c.cz i .p0:=⟨o,ho,hk⟩
   obtain⟨v,hF,hS,hR⟩:=G0.p0 i dL
   have T:=I.reads G0.nt hR sC tW (N:=max (c.bd i) h.next) (by omega) (by omega)
   have e:gA c.P c.call c.nt c.ops.toList o (c.rf i) (dM 0)=.ok v (dM 0):=by
    rw[<-oU ho];exact hF _
   exact sA G0.call ho (.inl hk) (DU (g:=g.to (max (c.bd i) h.next)) ye) T e fun x hx=>Qt G0 K s _ _ _ _ _ _ _ L (I.put G0 ho sC hC (.inl dL) hS hx)
  |p1=>
   have dL:c.cz i .p1:=⟨o,ho,hk⟩
   have MC:i∈pl.pre:=by
    rcases IK I.stat i dL with⟨j,hj,hA⟩|⟨j,hj,hA⟩|h
    ·exact absurd (I.closed j (I.oS j hj) i hA) sC
    ·exact absurd (tW j hA) (I.GX j hj)
    ·exact h
   obtain⟨v,hF,hS,hR⟩:=Nt I.run i MC dL
   have T:=I.reads G0.nt hR sC tW (N:=h.next) (Nat.le_refl _) (Nat.le_refl _)
   have e:gA c.P c.call c.nt c.ops.toList o (c.rf i) h=.ok v h:=by
    rw[<-oU ho];exact hF
   exact sA G0.call ho (.inr hk) I.st.hr.toHC T e fun x hx=>Qt G0 K s _ _ _ _ _ _ _ L
    (I.put G0 ho sC hC (.inr dL) hS (VR.dB (jO g w (by omega)) _ _ hx))
  |al=>
   have dL:c.cz i .al:=⟨o,ho,hk⟩
   obtain⟨v,hS,hR,hF⟩:=G0.al i dL
   have zD:i∈pl.eo:=(I.Ls i dL).resolve_right sC
   have XV:=c.l9 I.run i zD dL
   have T:=I.reads G0.nt hR sC tW (N:=c.nx i) (Nat.le_refl _) XV
   obtain⟨h',hh',Qs⟩: ∃ h',((h'=dM (c.nx i)/\c.bd i=c.nx i)∨ ∃ cs,h'=cy (dM (c.nx i)) cs/\c.bd i=c.nx i+1)/\c.FE i (c.rf i) (dM (c.nx i))=.ok v h':=by
    rcases hF with⟨h1,h2⟩|⟨cs,h1,h2⟩
    ·exact⟨_,.inl ⟨rfl,h2⟩,h1⟩
    ·exact⟨_,.inr ⟨cs,rfl,h2⟩,h1⟩
   have e:gA c.P c.call c.nt c.ops.toList o (c.rf i) (dM (c.nx i))=.ok v h':=by
    rw[<-oU ho];exact Qs
   have yc: ∀ j,j∈i::D->j≠i->j∈D:=fun j hj lj=>(List.mem_cons.1 hj).resolve_left lj
   have fin: ∀ (g':G) (w':World) (x:Value),(∀ id y,g.m id=some y->g'.m id=some y)->g'.cV=g.cV->g'.to h.next=g.to h.next->(w'=w∨ ∃ ob,w'=w.alloc ob)->
    c.BN g' w' h i->(∀ id y,g'.m id=some y->g.m id=some y∨(c.bd i=c.nx i+1/\id=c.nx i))->
    (∀ j∈pl.eo,j∈D->c.cz j .al->c.bd j=c.nx j+1->c.bd i=c.nx i+1-> ∀ b,g'.m (c.nx i)=some (b,0)->g'.m (c.nx j)=some (b,0)->i=j)->
    VR (g'.to (max (c.bd i) h.next)) w' v x->c.Inv g' w' h (a.put o.dst x) (i::D) past pl:=by
    intro g' w' x hm hi pL hw hp Nu Lu hx
    have M: ∀ N,jr (g.to N) w (g'.to N) w':=by
     intro N
     have hmN: ∀ id y,(g.to N).m id=some y->(g'.to N).m id=some y:=by
      intro id y e
      simp only[Go.Ab.G.to]at e ⊢
      by_cases eO:id<N
      ·rw[if_pos eO]at e ⊢;exact hm _ _ e
      ·rw[if_neg eO]at e;cases e
     rcases hw with rfl|⟨ob,rfl⟩
     ·exact⟨hmN,fun b k=>by simp only[Go.Ab.G.to]at k ⊢;rw[hi];exact k,fun _ _=>rfl,fun _=>Nat.le_refl _⟩
     ·exact ma hmN (by simp only[Go.Ab.G.to];exact hi) (by simp only[Go.Ab.G.to];exact ye)
    have RD: ∀ j,c.BN g w h j->c.BN g' w' h j:=by
     intro j p
     rcases hw with rfl|⟨ob,rfl⟩
     ·rcases p with p|⟨v,cs,b,C,el,vs,h1,h2,h3,h4,h5,h6,h7,h8,h9⟩
      ·exact .inl p
      ·exact .inr ⟨v,cs,b,C,el,vs,h1,h2,hm _ _ h3,h4,by rw[hi];exact h5,by rw[pL];exact h6,h7,bA.dB (M _) _ _ h8,h9⟩
     ·exact yd hm hi ye pL p
    have pH:HR (g'.to h.next) w' h/\Ext c.g0 c.w0 c.h0 (g'.to h.next) w' h:=by
     rw[pL]
     rcases hw with rfl|⟨ob,rfl⟩
     ·exact⟨I.st.hr,I.st.ext⟩
     ·obtain⟨E,H⟩:=vm I.st.hr ob
      exact⟨H,I.st.ext.trans E⟩
    exact
    {run:=I.run
     stat:=I.stat
     closed:=hC
     rE:=fun j hj=>(I.rE j hj).imp id (List.mem_cons_of_mem _)
     GX:=fun j hj h=>by
      rcases List.mem_cons.1 h with rfl|h
      ·cases c.fS dL (zG I.run j hj)
      ·exact I.GX j hj h
     oS:=fun j hj=>List.mem_cons_of_mem _ (I.oS j hj)
     Ls:=fun j hj=>(I.Ls j hj).imp id (List.mem_cons_of_mem _)
     st:=⟨pH.1,pH.2,fun j hj yb uU=>by
      by_cases xz:j=i
      ·subst xz;exact hp
      ·exact RD j (I.st.ya j hj (yc j yb xz) uU),fun j hj k hk jD kD jc kc bj bk b mj mk=>by
      by_cases xz:j=i<;>by_cases RE:k=i
      ·exact xz.trans RE.symm
      ·subst xz
       exact Lu k hk (yc k kD RE) kc bk bj b mj mk
      ·subst RE
       exact(Lu j hj (yc j jD xz) jc bj bk b mk mj).symm
      ·have nj:g.m (c.nx j)=some (b,0):=by
        rcases Nu _ _ mj with m|⟨b1,b2⟩
        ·exact m
        ·exact absurd (c.mT I.run j hj i zD jc dL bj b1 b2) xz
       have nk:g.m (c.nx k)=some (b,0):=by
        rcases Nu _ _ mk with m|⟨b1,b2⟩
        ·exact m
        ·exact absurd (c.mT I.run k hk i zD kc dL bk b1 b2) RE
       exact I.st.BO j hj k hk (yc j jD xz) (yc k kD RE) jc kc bj bk b nj nk⟩
     Lt:=fun n y e=>by
      rcases Nu n y e with m|⟨b1,b2⟩
      ·exact(I.Lt n y m).imp id fun⟨j,hj,hD,r⟩=>⟨j,hj,List.mem_cons_of_mem _ hD,r⟩
      ·exact .inr ⟨i,zD,List.mem_cons_self,dL,b1,b2⟩
     kK:=n9 G0 ho I.size I.kK (fun j _=>M _) sC (fun d hd=>⟨(hS d hd).1,v,(hS d hd).2,hx⟩)
     free:=qJ ho I.size I.free (M _)
     size:=by rw[qI];exact I.size
     defers:=by rw[put_defers];exact I.defers}
   refine DV G0.call ho hk (DU (g:=g.to (c.nx i)) ye) T e (fun h1 x w' hw hv=>?_) (fun cs C el vs x h1 da hCv hv=>?_)
   ·have hb:c.bd i=c.nx i:=by
     rcases hh' with⟨_,h2⟩|⟨cs,h2,_⟩
     ·exact h2
     ·rw[h2]at h1
      have:=congrArg Hp.next h1
      exact absurd this (Nat.succ_ne_self _)
    exact Qt G0 K s _ _ _ _ _ _ _ L (fin g w' x (fun _ _ m=>m) rfl rfl hw (.inl hb) (fun id y m=>.inl m) (fun j _ _ _ _ k=>by omega) (hv _ _))
   ·have hb:c.bd i=c.nx i+1:=by
     rcases hh' with⟨h2,_⟩|⟨cs',_,h2⟩
     ·rw[h2]at h1
      have:=congrArg Hp.next h1
      exact absurd this.symm (Nat.succ_ne_self _)
     ·exact h2
    have RF:g.m (c.nx i)=none:=by
     cases hm:g.m (c.nx i)with
     |none=>rfl
     |some y=>
      rcases I.Lt _ _ hm with h|⟨j,hj,hD,uU,Qu,hje⟩
      ·omega
      ·have:=c.mT I.run i zD j hj dL uU hb Qu hje
       exact absurd (this▸hD) sC
    have pB: ∀ id y,g.m id=some y->(g.add (c.nx i) w.heap.size).m id=some y:=by
     intro id y m
     simp only[G.add]
     rw[if_neg (fun k=>by rw[k,RF]at m;cases m)]
     exact m
    have Lr:(g.add (c.nx i) w.heap.size).m (c.nx i)=some (w.heap.size,0):=by simp[G.add]
    have pL:(g.add (c.nx i) w.heap.size).to h.next=g.to h.next:=G.DY XV
    have rM:(w.alloc (.cells C el)).heap[w.heap.size]? =some (.cells C el (0,0)):=by rw[jQ,if_pos rfl]
    have l5:C.size<=cO (w.alloc (.cells C el)) w.heap.size:=by rw[lU];exact Nat.le_refl _
    rw[h1]at Qs
    refine Qt G0 K s _ _ _ _ _ _ _ L (fin (g.add (c.nx i) w.heap.size) _ x pB rfl pL (.inr ⟨_,rfl⟩) (.inr ⟨v,cs,w.heap.size,C,FT.nw C el,vs,hb,Qs,Lr,rM,?_,?_,I.st.ext.size,?_,hCv⟩)
     (fun id y m=>?_) (fun j hj yb uU Qu _ b m1 m2=>?_) (hv _ _ ?_ l5))
    ·intro k
     exact absurd (ye _ k) (Nat.lt_irrefl _)
    ·rw[pL]
     rintro⟨id,cs',s,e,m⟩
     obtain⟨_,_,_,hw,_⟩:=I.st.hr.row e m
     have:=(Array.getElem?_eq_some_iff.1 hw).1
     omega
    ·have hT:(g.add (c.nx i) w.heap.size).to (c.nx i)=g.to (c.nx i):=G.DY (Nat.le_refl _)
     rw[hT]
     exact bA.dB (ma (fun _ _ m=>m) rfl (by simp only[Go.Ab.G.to];exact ye)) _ _ da
    ·by_cases eO:id=c.nx i
     ·exact .inr ⟨hb,eO⟩
     ·simp only[G.add,if_neg eO]at m
      exact .inl m
    ·rw[Lr]at m1
     obtain⟨rfl,_⟩:=Prod.mk.inj (Option.some.inj m1)
     have lj:c.nx j≠c.nx i:=fun k=>sC (c.mT I.run i zD j hj dL uU hb Qu k.symm▸yb)
     simp only[G.add,if_neg lj]at m2
     rcases I.st.ya j hj yb uU with hp|⟨_,_,b,_,_,_,_,_,h3,h4,_⟩
     ·omega
     ·rw[m2]at h3
      obtain⟨rfl,_⟩:=Prod.mk.inj (Option.some.inj h3)
      have:=(Array.getElem?_eq_some_iff.1 h4).1
      omega
    ·show(Go.Ab.G.to _ _).m (c.nx i)=_
     simp only[Go.Ab.G.to]
     rw[if_pos (by omega)]
     exact Lr
  |ch=>
   have dL:c.cz i .ch:=⟨o,ho,hk⟩
   have zD:=(I.rE i dL).resolve_right sC
   cases pl with
   |last pre eo=>cases zD
   |cons pre eo q rest=>
    have hq:i=q:=by
     rcases List.mem_cons.1 zD with h|h
     ·exact h
     ·exact absurd (tW q (I.stat.2.2.1 i h)) (I.GX q List.mem_cons_self)
    subst hq
    obtain⟨_,h1,Nv,_,v,h2,hF,hS,hR,hb,hle,fV⟩:=I.run
    have Za:=c.kI Nv
    have S:=c.settle eo h Nv (fun j hj hc=>tW j (I.stat.2.1 j hj hc)) I.st (fun j hj hc=>Nat.le_trans hle (c.l9 fV j hj hc))
    have T:=I.reads G0.nt hR sC tW (N:=h1.next) (Nat.le_refl _) Za
    have e:gA c.P c.call c.nt c.ops.toList o (c.rf i) h1=.ok v h2:=by
     rw[<-oU ho];exact hF
    refine tP G0.call ho S.hr T e fun g' w' x E H' hv=>?_
    obtain⟨G',RG⟩: ∃ G':G,G'=⟨fun id=>if id<h2.next then g'.m id else g.m id,g'.cV⟩:=⟨_,rfl⟩
    have pL:G'.to h2.next=g':=by
     rw[RG]
     unfold Go.Ab.G.to
     cases g' with
     |mk m im=>
      simp only[G.mk.injEq,and_true]
      funext id
      by_cases eO:id<h2.next
      ·simp only[eO,if_true]
      ·simp only[eO,if_false]
       exact(H'.fresh id (by omega)).symm
    have M0:=E.mono S.hr.toHC
    have Lv: ∀ id y,g.m id=some y->h1.next<=id->h2.next<=id/\ ∃ j∈rest.eo,j∈D/\c.cz j .al/\c.bd j=c.nx j+1/\id=c.nx j:=by
     intro id y m eO
     rcases I.Lt id y m with h|⟨j,hj,yb,uU,Qu,rfl⟩
     ·omega
     ·rcases List.mem_append.1 hj with hj|hj
      ·have:=(c.iE Nv j hj uU).2 Qu
       omega
      ·exact⟨c.l9 fV j hj uU,j,hj,yb,uU,Qu,rfl⟩
    have hm: ∀ id y,g.m id=some y->G'.m id=some y:=by
     intro id y m
     rw[RG]
     show(if id<h2.next then g'.m id else g.m id)=some y
     by_cases eO:id<h2.next
     ·rw[if_pos eO]
      have:id<h1.next:=by
       refine Classical.byContradiction fun k=>?_
       have:=(Lv id y m (by omega)).1
       omega
      exact E.m id y (by simp only[Go.Ab.G.to];rw[if_pos this];exact m)
     ·rw[if_neg eO];exact m
    have Qr:G'.cV=g'.cV:=by rw[RG]
    have M: ∀ B B',B<=B'->jr (g.to B) w (G'.to B') w':=by
     intro B B' hB
     refine⟨?_,fun b k=>?_,fun b k=>?_,E.rows⟩
     ·intro id y k
      simp only[Go.Ab.G.to]at k ⊢
      by_cases eO:id<B
      ·rw[if_pos eO]at k
       rw[if_pos (by omega)]
       exact hm id y k
      ·rw[if_neg eO]at k;cases k
     ·show G'.cV b
      rw[Qr]
      exact E.cV b k
     ·exact E.j2 b (ye b k) (S.hr.ig k)
    refine Qt G0 K s (i::D) (i::past) rest G' w' h2 (a.put o.dst x) L ?_
    have zH: ∀ j∈rest.eo,j∈eo++rest.eo:=fun j hj=>List.mem_append_right _ hj
    have yc: ∀ j,c.cz j .al->j∈i::D->j∈D:=by
     intro j hj h
     refine(List.mem_cons.1 h).resolve_left fun e=>?_
     subst e
     cases c.fS dL hj
    exact
    {run:=fV
     stat:=I.stat.2.2.2
     closed:=hC
     rE:=fun j hj=>by
      rcases I.rE j hj with h|h
      ·rcases List.mem_cons.1 h with rfl|h
       ·exact .inr List.mem_cons_self
       ·exact .inl h
      ·exact .inr (List.mem_cons_of_mem _ h)
     GX:=fun j hj h=>by
      rcases List.mem_cons.1 h with rfl|h
      ·
       exact absurd (tW j (I.stat.2.2.1 j hj)) sC
      ·exact I.GX j (List.mem_cons_of_mem _ hj) h
     oS:=fun j hj=>by
      rcases List.mem_cons.1 hj with rfl|hj
      ·exact List.mem_cons_self
      ·exact List.mem_cons_of_mem _ (I.oS j hj)
     Ls:=fun j hj=>by
      rcases I.Ls j hj with h|h
      ·rcases List.mem_append.1 h with h|h
       ·exact .inr (List.mem_cons_of_mem _ (tW j (I.stat.2.1 j h hj)))
       ·exact .inl h
      ·exact .inr (List.mem_cons_of_mem _ h)
     st:=⟨by rw[pL];exact H',by rw[pL];exact S.ext.trans E,fun j hj yb uU=>by
      rcases S.ya j hj (yc j uU yb) uU with p|⟨v,cs,b,C,el,vs,ju,Cs,h3,h4,h5,h6,h7,h8,h9⟩
      ·exact .inl p
      ·have eg:=(Array.getElem?_eq_some_iff.1 h4).1
       refine .inr ⟨v,cs,b,C,el,vs,ju,Cs,hm _ _ h3,by rw[E.j2 b eg h6];exact h4,?_,?_,h7,bA.dB (M _ _ (Nat.le_refl _)) _ _ h8,h9⟩
       ·rw[Qr]
        intro k
        rcases E.Bi b k with k|k|k
        ·exact h5 k
        ·exact h6 k
        ·omega
       ·rw[pL]
        intro k
        rcases E.jq b k with k|k
        ·exact h6 k
        ·omega,fun j hj k hk jD kD jc kc bj bk b mj mk=>by
      have e1: ∀ l∈rest.eo,l∈D->c.cz l .al->c.bd l=c.nx l+1->G'.m (c.nx l)=some (b,0)->g.m (c.nx l)=some (b,0):=by
       intro l hl lD lc lb ml
       have:=c.l9 fV l hl lc
       rw[RG]at ml
       simp only at ml
       rw[if_neg (by omega)]at ml
       exact ml
      exact I.st.BO j (zH j hj) k (zH k hk) (yc j jc jD) (yc k kc kD) jc kc bj bk b (e1 j hj (yc j jc jD) jc bj mj) (e1 k hk (yc k kc kD) kc bk mk)⟩
     Lt:=fun n y m=>by
      by_cases hn:n<h2.next
      ·exact .inl hn
      ·rw[RG]at m
       simp only at m
       rw[if_neg hn]at m
       obtain⟨_,j,hj,yb,r⟩:=Lv n y m (by omega)
       exact .inr ⟨j,hj,List.mem_cons_of_mem _ yb,r⟩
     kK:=n9 G0 ho I.size I.kK (fun j _=>M _ _ (by omega)) sC (fun d hd=>⟨(hS d hd).1,v,(hS d hd).2,by
      have:max (c.bd i) h2.next=h2.next:=by omega
      rw[this,pL];exact hv⟩)
     free:=qJ ho I.size I.free (M _ _ (by omega))
     size:=by rw[qI];exact I.size
     defers:=by rw[put_defers];exact I.defers}
end Cx
end Go.Ab

noncomputable section
namespace Go.Ab
variable [Io]
def DZ:Value->Value->Bool
 | .string a,.string b=>a.data.toList == b.data.toList
 | .pointer none,.pointer none=>true
 | .map none,.map none=>true
 | .nilFunc,.nilFunc=>true
 | .nilIface,.nilIface=>true
 | .slice none n c,.slice none n' c'=>Nat.beq n n'&&Nat.beq c c'
 | _,_=>false
mutual
def iK:AV->AV->Bool
 | .int k n,.int k' n'=>eI k k'&&eqI n n'
 | .bool a,.bool b=> !(xor a b)
 | .sc a,.sc b=>DZ a b
 | .agg a,.agg b=>fv a b
 | .mw a,.mw b=>fv a b
 | .ref i o,.ref i' o'=>Nat.beq i i'&&Nat.beq o o'
 | .dj i o n s,.dj i' o' n' s'=>Nat.beq i i'&&Nat.beq o o'&&Nat.beq n n'&&Nat.beq s s'
 | .fc n a,.fc m b=>Nat.beq n m&&fv a b
 | .eh a,.eh b=>fv a b
 | .cW,.cW=>true
 | .jm,.jm=>true
 | .fn f a,.fn f' b=>Nat.beq f f'&&fv a b
 | .sym k s lo hi o,.sym k' s' Qj nR o'=>eI k k'&&(rI s s'&&(eqI lo Qj&&(eqI hi nR&&eqI o o')))
 | .any,.any=>true
 | _,_=>false
def fv:List AV->List AV->Bool
 | [],[]=>true
 |a::l,b::r=>iK a b&&fv l r
 | _,_=>false
end
omit [Io] in
theorem mU{a b:Int}(h:eqI a b=true):a=b:=by
 cases a<;>cases b<;>simp[eqI]at h<;>simp[h]
omit [Io] in
theorem D0{a b:ByteArray}(h:(a.data.toList == b.data.toList)=true):a=b:=by
 cases a with
 |mk a=>cases b with
  |mk b=>
   congr 1
   exact Array.toList_inj.1 (by simpa using h)
omit [Io] in
theorem D2{a b:Value}(h:DZ a b=true):a=b:=by
 unfold DZ at h
 split at h
 ·rw[D0 h]
 all_goals first|rfl|(cases h;done)|(rw[Bool.and_eq_true]at h;rw[Nat.eq_of_beq_eq_true h.1,Nat.eq_of_beq_eq_true h.2])
section
omit [Io]
mutual
theorem pM: ∀ (a b:AV),iK a b=true->a=b
 | .int k n,b,h=>by cases b<;>simp only[iK,Bool.and_eq_true]at h<;>try cases h
                    rename_i h1 h2
                    rw[bH.1 h1,mU h2]
 | .bool x,b,h=>by cases b<;>simp only[iK]at h<;>try cases h
                   rename_i y
                   cases x<;>cases y<;>first|rfl|cases h
 | .sc x,b,h=>by cases b<;>simp only[iK]at h<;>try cases h
                 rw[D2 h]
 | .agg x,b,h=>by cases b<;>simp only[iK]at h<;>try cases h
                  rw[eU _ _ h]
 | .mw x,b,h=>by cases b<;>simp only[iK]at h<;>try cases h
                 rw[eU _ _ h]
 | .ref i o,b,h=>by cases b<;>simp only[iK,Bool.and_eq_true,Nat.beq_eq]at h<;>try cases h
                    rename_i h1 h2
                    rw[h1,h2]
 | .dj i o n s,b,h=>by cases b<;>simp only[iK,Bool.and_eq_true,Nat.beq_eq]at h<;>try (cases h;done)
                       obtain⟨⟨⟨h1,h2⟩,h3⟩,h4⟩:=h
                       rw[h1,h2,h3,h4]
 | .fc n x,b,h=>by cases b<;>simp only[iK,Bool.and_eq_true,Nat.beq_eq]at h<;>try cases h
                   rename_i h1 h2
                   rw[h1,eU _ _ h2]
 | .eh x,b,h=>by cases b<;>simp only[iK]at h<;>try cases h
                 rw[eU _ _ h]
 | .cW,b,h=>by cases b<;>simp only[iK]at h<;>first|rfl|cases h
 | .jm,b,h=>by cases b<;>simp only[iK]at h<;>first|rfl|cases h
 | .any,b,h=>by cases b<;>simp only[iK]at h<;>first|rfl|cases h
 | .sym k s lo hi o,b,h=>by cases b<;>simp only[iK,Bool.and_eq_true]at h<;>try (cases h;done)
                            obtain⟨h1,h2,h3,h4,h5⟩:=h
                            rw[bH.1 h1,mN h2,mU h3,mU h4,mU h5]
 | .fn f x,b,h=>by cases b<;>simp only[iK,Bool.and_eq_true,Nat.beq_eq]at h<;>try cases h
                   rename_i h1 h2
                   rw[h1,eU _ _ h2]
theorem eU: ∀ (a b:List AV),fv a b=true->a=b
 | [],b,h=>by cases b with
  |nil=>rfl
  |cons _ _=>simp[fv]at h
 |a::l,b,h=>by
  cases b with
  |nil=>simp[fv]at h
  |cons c r=>
   simp only[fv,Bool.and_eq_true]at h
   rw[pM _ _ h.1,eU _ _ h.2]
end
end
def ck(s:dk)(f:dh)(k:iu):iu:=fun t h=>Ro.rec Rt.bad (fun v _=>Option.rec Rt.bad (fun u=>Bool.rec Rt.bad (k t h) (iK u v)) (s t)) (f t h)
def mn(f:dh):dh:=fun t h=>Ro.rec Ro.bad (fun v h'=>Bool.rec Ro.bad (Ro.ok v h') (Nat.ble h.next h'.next)) (f t h)
def RH:Cl->Cl->Bool
 | .p0,.p0| .p1,.p1| .al,.al| .ch,.ch=>true
 | _,_=>false
omit [Io] in
theorem D3{a b:Cl}(h:RH a b=true):a=b:=by cases a<;>cases b<;>first|rfl|cases h
def gM(i:Nat)(l:List Nat):Bool:=List.rec false (fun a _ ih=>Bool.rec ih true (Nat.beq a i)) l
omit [Io] in
theorem gj{i:Nat}: ∀ {l:List Nat},gM i l=true↔i∈l
 | []=>by simp[gM]
 |a::l=>by
  show(Bool.rec (gM i l) true (Nat.beq a i):Bool)=true↔_
  cases h:Nat.beq a i with
  |true=>
   have:=Nat.eq_of_beq_eq_true h
   subst this
   simp
  |false=>
   have: ¬ i=a:=fun e=>by subst e;simp at h
   simp only[List.mem_cons,this,false_or]
   exact gj
def yf(p:Nat->Bool)(l:List Nat):Bool:=List.rec false (fun a _ ih=>Bool.rec ih true (p a)) l
omit [Io] in
theorem mV{p:Nat->Bool}: ∀ {l:List Nat},yf p l=true↔ ∃ i∈l,p i=true
 | []=>by simp[yf]
 |a::l=>by
  show(Bool.rec (yf p l) true (p a):Bool)=true↔_
  cases h:p a with
  |true=>simp[h]
  |false=>simp only[List.mem_cons,exists_eq_or_imp,h,Bool.false_eq_true,false_or];exact mV
def allI(p:Nat->Oper->Bool)(l:List Oper):Nat->Bool:=
 List.rec (fun _=>true) (fun o _ ih i=>Bool.rec false (ih (Nat.add i 1)) (p i o)) l
omit [Io] in
theorem sD{p:Nat->Oper->Bool}: ∀ {l:List Oper} {k:Nat},allI p l k=true-> ∀ i o,l[i]? =some o->p (k+i) o=true
 | [],k,_,i,o,h=>by simp at h
 |a::l,k,hh,i,o,h=>by
  change (Bool.rec false (allI p l (k+1)) (p k a):Bool)=true at hh
  cases hp:p k a with
  |false=>rw[hp]at hh;cases hh
  |true=>
   rw[hp]at hh
   cases i with
   |zero=>simp at h;subst h;exact hp
   |succ i=>
    have:=sD hh i o (by simpa using h)
    rwa [show k+1+i=k+(i+1) by omega]at this
omit [Io] in
theorem gk{p:Nat->Oper->Bool}{l:List Oper}(h:allI p l 0=true)(i:Nat)(o:Oper)(ho:l[i]? =some o):p i o=true:=by
 have:=sD h i o ho
 simpa using this
def zI(l:List Oper):Bool:=allI (fun i o=>dJ (fun e=>Bool.rec true (Nat.blt e.on i) (Region.binds .any e)) o.after.toList) l 0
omit [Io] in
theorem IL{ops:Array Oper}(h:zI ops.toList=true):Down ops:=by
 intro i o e ho he hb
 have:=gk h i o (by simpa using ho)
 rw[eJ,List.all_eq_true]at this
 have:=this e (by simpa using he)
 rw[hb]at this
 exact bt.1 this
def sE(o:Oper)(d:Nat):Bool:=match o.dst with
 |some e=>Nat.beq e d
 |none=>false
omit [Io] in
theorem oc{o:Oper}{d:Nat}(h:o.dst=some d):sE o d=true:=by unfold sE;rw[h];simp
def IM(l:List Oper):Bool:=allI (fun i o=>match o.dst with
 |some d=>allI (fun j o'=>Bool.rec true (Nat.beq i j) (sE o' d)) l 0
 |none=>true) l 0
section
variable (P:Program)(call:bV)(nt:Nat)(L:List Oper)
def mW(k:Cl)(i:Nat):Bool:=match gG L i with
 |some o=>RH (jM P call o.op).1 k
 |none=>false
def xA(bN:List Nat)(i:Nat):Bool:=match gG L i with
 |some o=>dJ (fun u=>Nat.blt u nt&&Bool.rec (allI (fun j o'=>Bool.rec true (!gM j bN&&(x7 L j i&& !x7 L i j)) (sE o' u)) L 0) true (allI (fun j o'=>Bool.rec true (gM j bN&&x7 L i j) (sE o' u)) L 0)) (lA L o)
 |none=>false
def IN(i:Nat)(k:iu):iu:=match gG L i with
 |some o=>match o.dst with
  |some d=>ek (Nat.blt d nt) (st (sT d) (gA P call nt L o) k) (fun _ _=>.bad)
  |none=>sn (gA P call nt L o) k
 |none=>fun _ _=>.bad
def Nw(i:Nat)(k:iu):iu:=match gG L i with
 |some o=>match o.dst with
  |some d=>ek (Nat.blt d nt) (ck (oT d) (gA P call nt L o) k) (fun _ _=>.bad)
  |none=>sn (gA P call nt L o) k
 |none=>fun _ _=>.bad
def runM(i:Nat)(k:iu):iu:=match gG L i with
 |some o=>match o.dst with
  |some d=>ek (Nat.blt d nt) (st (sT d) (mn (gA P call nt L o)) k) (fun _ _=>.bad)
  |none=>sn (mn (gA P call nt L o)) k
 |none=>fun _ _=>.bad
def vQ:List Nat->List Nat->(List Nat->iu)->iu
 | [],bN,k=>k bN
 |i::l,bN,k=>ek (xA nt L bN i) (ek (gM i bN) (ek (mW P call L .p1 i) (Nw P call nt L i (vQ l bN k)) (fun _ _=>.bad))
  (ek (mW P call L .p0 i||mW P call L .p1 i) (IN P call nt L i (vQ l (i::bN) k)) (fun _ _=>.bad))) (fun _ _=>.bad)
def yg:List Nat->List Nat->(List Nat->iu)->iu
 | [],bN,k=>k bN
 |i::l,bN,k=>ek (xA nt L bN i&&(!gM i bN&&(mW P call L .p0 i||mW P call L .al i))) (IN P call nt L i (yg l (i::bN) k)) (fun _ _=>.bad)
def jx:gZ->List Nat->iu
 | .last pre eo,bN=>vQ P call nt L pre bN fun bN=>yg P call nt L eo bN fun bN=>ek (allI (fun i _=>gM i bN) L 0) fi (fun _ _=>.bad)
 | .cons pre eo q rest,bN=>vQ P call nt L pre bN fun bN=>yg P call nt L eo bN fun bN=>
   ek (xA nt L bN q&&(!gM q bN&&mW P call L .ch q)) (runM P call nt L q (jx rest (q::bN))) (fun _ _=>.bad)
def sF:gZ->List Nat->Bool
 | .last pre _,past=>allI (fun i _=>Bool.rec true (yf (fun j=>x7 L j i) past||gM i pre) (mW P call L .p1 i)) L 0
 | .cons pre eo q rest,past=>allI (fun i _=>Bool.rec true (yf (fun j=>x7 L j i) past||(yf (fun j=>x7 L i j) (q::rest.rE)||gM i pre)) (mW P call L .p1 i)) L 0&&
   (dJ (fun i=>Bool.rec true (x7 L q i) (mW P call L .al i)) eo&&(dJ (fun q'=>x7 L q' q) rest.rE&&sF rest (q::past)))
end
end Go.Ab
