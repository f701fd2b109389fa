import Derived.Test.YtcnkojgmochcgaaGreatDoorAbC
noncomputable section
namespace Go.Ab
variable [Io]
section
variable {P:Program}{call:bP}
def gj(f:dg):Prop:= ∀ t h h0,f t h=(match f t h0 with| .ok v _=>.ok v h| .bad=>.bad)
omit [Io] in
theorem gj.ok{f:dg}(i:gj f){t:Tm}{h h':Hp}{v:AV}(e:f t h=.ok v h'):h'=h/\ ∀ h0,f t h0=.ok v h0:=by
 refine⟨?_,fun h0=>by rw[i t h0 h,e]⟩
 have:=i t h h
 rw[e]at this
 exact(Ro.ok.inj this).2
omit [Io] in
theorem ca:gj bA:=fun _ _ _=>rfl
omit [Io] in
theorem zt{c:Bool}{f:dg}(i:gj f):gj (ej c f bA):=by cases c;exact ca;exact i
omit [Io] in
theorem kK{x:dj}:gj (aa x):=by intro t h h0;unfold aa;cases x t<;>rfl
omit [Io] in
theorem DG{c x y:dj}:gj (aO c x y):=by
 intro t h h0;unfold aO;cases c t<;>try rfl
 rename_i a;cases a<;>try rfl
 rename_i b;cases b
 ·exact kK t h h0
 ·exact kK t h h0
omit [Io] in
theorem Is{x:dj}:gj (aA x):=by intro t h h0;unfold aA;cases x t<;>try rfl
                               rename_i a;cases a<;>rfl
omit [Io] in
theorem tK{f:AV->AV->Option AV}{x y:dj}:gj (af f x y):=by
 intro t h h0;unfold af;cases x t<;>try rfl
 rename_i a;cases y t<;>try rfl
 rename_i b;simp only;cases f a b<;>rfl
omit [Io] in
theorem DH{f:AV->Option AV}{x:dj}:gj (bF f x):=by
 intro t h h0;unfold bF;cases x t<;>try rfl
 rename_i a;simp only;cases f a<;>rfl
omit [Io] in
theorem NB{f:FuncId}{l:List dj}:gj (GF f l):=by intro t h h0;unfold GF;cases nQ l t<;>rfl
omit [Io] in
theorem Bw{z:List AV}{ps:List (Nat×Nat×dj)}:gj (an z ps):=by
 intro t h h0;unfold an;cases iS ps t<;>try rfl
 rename_i vs;simp only;cases pW vs z<;>rfl
omit [Io] in
theorem rH{n:Nat}{x:dj}:gj (ab n x):=by intro t h h0;unfold ab;cases x t<;>try rfl
                                        rename_i a;cases a<;>rfl
omit [Io] in
theorem Bx{n m:Nat}{b:Bool}{x:dj}:gj (ij n m b x):=by
 intro t h h0;unfold ij;cases x t<;>try rfl
 rename_i a;cases a<;>try rfl
 rename_i cs;simp only;cases part b cs n m<;>rfl
omit [Io] in
theorem It{n:Nat}{x y:dj}:gj (bg n x y):=by
 intro t h h0;unfold bg;cases y t<;>try rfl
 rename_i a;cases a<;>try rfl
 rename_i k i;cases i<;>try rfl
 rename_i i;simp only;cases x t<;>try rfl
 rename_i a;cases a<;>try rfl
 ·rename_i id off m sz;simp only;cases(Nat.blt i m&&Nat.beq sz n)<;>rfl
 ·rename_i m cs;simp only;cases Nat.blt i m<;>rfl
omit [Io] in
theorem Iu{m n:Nat}{x y:dj}:gj (j9 m n x y):=by
 intro t h h0;unfold j9;cases y t<;>try rfl
 rename_i a;cases a<;>try rfl
 rename_i k i;cases i<;>try rfl
 rename_i i;simp only;cases x t<;>try rfl
 rename_i a;cases a<;>try rfl
 ·simp only;cases Nat.blt i m<;>rfl
 ·simp only;cases Nat.blt i m<;>rfl
omit [Io] in
theorem By{m n:Nat}{b:Bool}{x y:dj}:gj (gy m n b x y):=by
 intro t h h0;unfold gy;cases x t<;>try rfl
 rename_i a;cases a<;>try rfl
 rename_i cs;simp only;cases y t<;>try rfl
 rename_i a;cases a<;>try rfl
 rename_i k i;cases i<;>try rfl
 rename_i i;simp only;cases Nat.blt i m<;>try rfl
 simp only[cond_true];cases part b cs (Nat.mul i n) n<;>rfl
omit [Io] in
theorem x9{x y:dj}:gj (bG x y):=by
 intro t h h0;unfold bG;cases x t<;>try rfl
 rename_i a;cases a<;>try rfl
 rename_i v;cases v<;>try rfl
 rename_i s;simp only;cases y t<;>try rfl
 rename_i a;cases a<;>try rfl
 ·rename_i k i;cases i<;>try rfl
  rename_i i;simp only;cases gx s.data.toList i<;>rfl
 ·rename_i k sv lo hi o;simp only;cases(!(ez (Int.add lo o) 0)&&ez (Int.add hi o) (.ofNat s.size))<;>rfl
omit [Io] in
theorem vK{x:dj}{i:Nat}:gj (aD x i):=by
 intro t h h0;unfold aD;cases x t<;>try rfl
 rename_i a;cases a<;>try rfl
 rename_i vs;simp only;cases gx vs i<;>rfl
omit [Io] in
theorem DI{x:dj}:gj (fB x):=by
 intro t h h0;unfold fB;cases x t<;>try rfl
 rename_i a;cases a<;>try rfl
 rename_i v;cases v<;>rfl
omit [Io] in
theorem Iv{x:dj}:gj (aP x):=by
 intro t h h0;unfold aP;cases x t<;>try rfl
 rename_i a;cases a<;>rfl
omit [Io] in
theorem Iw{x:dj}:gj (mH x):=by
 intro t h h0;unfold mH;cases x t<;>try rfl
 rename_i a;cases a<;>rfl
omit [Io] in
theorem Ix{o:Op}(hc:(jG P call o).1=.p0):gj (jG P call o).2:=by
 cases o<;>simp only[jG]at hc ⊢
 case move x=>exact kK
 case assign x=>exact kK
 case pick c x y=>exact DG
 case alloc T=>cases hc
 case box T x=>cases hc
 case build T ps=>
  unfold qe
  split
  ·split
   ·split
    ·exact Bw
    ·exact ca
   ·exact ca
  ·exact ca
 case buildSlice T n ps=>cases hc
 case load T x=>cases hc
 case store T x y=>cases hc
 case nilCheck x=>exact Is
 case binOp op T x y yT=>
  cases vz P op T with
  |some f=>exact tK
  |none=>exact ca
 case unOp op T x=>
  cases Nw op with
  |some f=>exact DH
  |none=>exact ca
 case convert S D x=>
  have dR:gj (sa P S D x):=by
   unfold sa
   split
   ·split
    ·exact DH
    ·exact ca
   ·exact ca
  split
  ·rename_i h
   rw[h]at hc
   cases hc
  ·exact dR
 case makeFunc f first caps=>
  cases f<;>try (cases hc;done)
  simp only
  cases first.toList with
  |nil=>exact NB
  |cons a l=>exact ca
 case makeSlice T l c=>cases hc
 case slice T x lo hi mx=>cases mx<;>cases hc
 case fieldAddr T x n=>
  unfold iu
  split
  ·split
   ·split
    ·exact zt rH
    ·exact ca
   ·exact ca
  ·exact ca
 case field T x n=>
  unfold qm
  split
  ·split
   ·split
    ·split
     ·exact Bx
     ·exact ca
    ·exact ca
   ·exact ca
  ·exact ca
 case indexAddr T x y=>
  unfold iw
  split
  ·split
   ·exact It
   ·exact ca
  ·split
   ·exact Iu
   ·exact ca
  ·exact ca
 case index T x y=>
  unfold qn
  split
  ·split
   ·split
    ·exact By
    ·exact ca
   ·exact ca
  ·exact x9
  ·exact ca
 case extract x i=>exact vK
 case call c=>
  cases hb:eW P c with
  |none=>rw[hb]at hc;cases hc
  |some f=>
   simp only
   unfold eW at hb
   split at hb
   ·split at hb
    ·cases hb
     unfold Dp
     split
     ·exact DI
     ·exact Iv
     ·exact kK
     ·exact ca
    ·cases hb;exact ca
   ·split at hb
    ·cases hb
     unfold Dq
     split
     ·exact Iw
     ·exact ca
    ·cases hb;exact ca
   ·split at hb
    ·cases hb;exact tK
    ·cases hb;exact ca
   ·split at hb
    ·cases hb;exact tK
    ·cases hb;exact ca
   ·cases hb
 case makeMap T r=>cases r<;>cases hc
 all_goals (cases hc)
def Bz(f:dg):Prop:= ∀ t h v h',f t h=.ok v h'-> ∀ h0:Hp,h0.next=h.next->(h'=h/\f t h0=.ok v h0)∨ ∃ cs,h'=cx h cs/\f t h0=.ok v (cx h0 cs)
omit [Io] in
theorem eY:Bz bA:=by intro t h v h' e;cases e
omit [Io] in
theorem qz{c:Bool}{f:dg}(i:Bz f):Bz (ej c f bA):=by cases c;exact eY;exact i
omit [Io] in
theorem DJ{o:Op}(hc:(jG P call o).1=.al):Bz (jG P call o).2:=by
 cases o<;>simp only[jG]at hc ⊢
 case alloc T=>
  unfold Dr
  split
  ·intro t h v h' e h0 hn
   cases e
   exact .inr ⟨_,rfl,by unfold bX;rw[hn]⟩
  ·exact eY
 case box T x=>
  intro t h v h' e h0 hn
  unfold cb at e ⊢
  cases hx:aR x t with
  |none=>rw[hx]at e;cases e
  |some a=>rw[hx]at e;cases e;exact .inr ⟨_,rfl,by rw[hn]⟩
 case buildSlice T n ps=>
  unfold CS
  split
  ·split
   ·split
    ·refine qz ?_
     rename_i ie iN _ z hz0
     intro t h v h' e h0 hn
     unfold bf at e ⊢
     cases hp:iR (jE ps.toList) t with
     |none=>rw[hp]at e;cases e
     |some vs=>
      rw[hp]at e
      simp only at e ⊢
      cases hz:Nat.beq n 0 with
      |true=>
       rw[hz]at e
       cases vs with
       |nil=>cases e;exact .inl ⟨rfl,rfl⟩
       |cons _ _=>cases e
      |false=>
       rw[hz]at e
       simp only[cond_false]at e ⊢
       cases hf:la n ie.size z vs with
       |none=>rw[hf]at e;cases e
       |some cs=>rw[hf]at e;cases e;exact .inr ⟨_,rfl,by rw[hn]⟩
    ·exact eY
   ·exact eY
  ·exact eY
 case makeSlice T l c=>
  unfold vo
  split
  ·split
   ·split
    ·refine qz ?_
     rename_i ie iN _ z hz0
     intro t h v h' e h0 hn
     unfold jf at e ⊢
     cases hl:aR l t with
     |none=>rw[hl]at e;cases e
     |some a=>
     cases a<;>try (rw[hl]at e;cases e;done)
     rename_i k i
     cases i<;>try (rw[hl]at e;cases e;done)
     rename_i i
     rw[hl]at e
     simp only at e ⊢
     cases HJ:aR c t with
     |none=>rw[HJ]at e;cases e
     |some a=>
     cases a<;>try (rw[HJ]at e;cases e;done)
     rename_i k2 j
     cases j<;>try (rw[HJ]at e;cases e;done)
     rename_i j
     rw[HJ]at e
     simp only at e ⊢
     cases hb:(Nat.ble i j&&Nat.ble (Nat.mul j ie.bytes) 70368744177664)with
     |false=>rw[hb]at e;cases e
     |true=>
     rw[hb]at e
     simp only[cond_true]at e ⊢
     cases hz:Nat.beq j 0 with
     |true=>rw[hz]at e;cases e;exact .inl ⟨rfl,rfl⟩
     |false=>rw[hz]at e;cases e;exact .inr ⟨_,rfl,by simp only[cond_false];rw[hn]⟩
    ·exact eY
   ·exact eY
  ·exact eY
 case binOp op T x y yT=>cases h:vz P op T<;>rw[h]at hc<;>cases hc
 case unOp op T x=>cases h:Nw op<;>rw[h]at hc<;>cases hc
 case convert S D x=>
  cases h:P.underlying D with
  |none=>rw[h]at hc;cases hc
  |some d=>cases d<;>rw[h]at hc<;>cases hc
 case makeFunc f first caps=>
  cases f<;>try (cases hc;done)
  simp only at hc
  cases h:first.toList<;>rw[h]at hc<;>cases hc
 case slice T x lo hi mx=>cases mx<;>cases hc
 case makeMap T r=>cases r<;>cases hc
 case call c=>cases h:eW P c<;>rw[h]at hc<;>cases hc
 all_goals (cases hc)
end
end Go.Ab

noncomputable section
namespace Go.Ab
variable [Io]
def G.to(g:G)(N:Nat):G:=⟨fun id=>if id<N then g.m id else none,g.cT⟩
omit [Io] in
theorem sd(g:G)(w:World):jh g w g w:=⟨fun _ _ e=>e,fun _ i=>i,fun _ _=>rfl,fun _=>Nat.le_refl _⟩
omit [Io] in
theorem jh.trans{g w g1 w1 g2 w2}(a:jh g w g1 w1)(b:jh g1 w1 g2 w2):jh g w g2 w2:=
 ⟨fun id x e=>b.m id x (a.m id x e),fun k i=>b.cT k (a.cT k i),fun k i=>(b.keep k (a.cT k i)).trans (a.keep k i),fun k=>Nat.le_trans (a.rows k) (b.rows k)⟩
omit [Io] in
theorem jI(g:G)(w:World){N M:Nat}(h:N<=M):jh (g.to N) w (g.to M) w:=
 ⟨(by
   intro id x e
   simp only[G.to]at e ⊢
   by_cases h1:id<N
   ·rw[if_pos h1]at e;rw[if_pos (by omega)];exact e
   ·rw[if_neg h1]at e;cases e),fun _ i=>i,fun _ _=>rfl,fun _=>Nat.le_refl _⟩
def dL(N:Nat):Hp:=⟨N,.nil⟩
theorem DK{g:G}{w:World}{N:Nat}(h: ∀ b,g.cT b->b<w.heap.size):HC g w (dL N):=⟨(fun _ _ e=>by cases e),h⟩
section
variable {P:Program}{call:bP}{o:Oper}
theorem oQ{ops:Array Oper}{g w nt t h}{a:Act}{v:AV}{h':Hp}(T:TR g w nt t a.tmps)
 (e:gv P call nt ops.toList o t h=.ok v h'):(Region.wanted o (yielded ops a.tmps)=true/\(jG P call o.op).2 t h=.ok v h')∨
  (Region.wanted o (yielded ops a.tmps)=false/\v=eh/\h'=h):=by
 unfold gv at e
 cases hg:o.guard with
 |none=>
  rw[hg]at e
  exact .inl ⟨by simp[Region.wanted,hg],e⟩
 |some p=>
  obtain⟨j,want⟩:=p
  rw[hg]at e
  simp only[dW]at e
  cases hj:ops.toList[j]? with
  |none=>simp only[hj]at e;cases e
  |some oj=>
  simp only[hj]at e
  cases hd:oj.dst with
  |none=>simp only[hd]at e;cases e
  |some d=>
  simp only[hd]at e
  cases hb:Nat.blt d nt with
  |false=>simp only[hb]at e;cases e
  |true=>
  simp only[hb]at e
  have zm:=bh.1 hb
  change gF (oT d) want (jG P call o.op).2 t h=.ok v h' at e
  have Zk:ops[j]? =some oj:=by simpa using hj
  have lx:=T.2.1
  have hy: ∀ y,a.tmps.getD d undef=y->yielded ops a.tmps j=match y with| .bool b=>some b| _=>none:=by
   intro y hy
   have:a.tmps[d]? =some y:=by
    rw[Array.getD_eq_getD_getElem?]at hy
    rw[Array.getElem?_eq_getElem (by omega)]at hy ⊢
    simpa using hy
   simp[yielded,Zk,hd,this]
   cases y<;>rfl
  unfold gF at e
  split at e
  ·rename_i b uO
   have hv:=(T.2.2 d _ (by have:=T.1;omega) uO).2
   simp only[VR]at hv
   have Ig:=hy _ hv
   cases Ih:(ej want b (!b))with
   |true=>
    rw[Ih]at e
    have:b=want:=by cases want<;>cases b<;>simp[ej]at Ih<;>rfl
    exact .inl ⟨by simp[Region.wanted,hg,Ig,this],e⟩
   |false=>
    rw[Ih]at e
    have:b≠want:=by cases want<;>cases b<;>simp[ej]at Ih<;>simp
    cases e
    exact .inr ⟨by simp[Region.wanted,hg,Ig,this],rfl,rfl⟩
  ·rename_i uO
   have hv:=(T.2.2 d _ (by have:=T.1;omega) uO).2
   simp only[VR]at hv
   obtain⟨vs,hv,cU⟩:=hv
   have Ig:=hy _ hv
   cases e
   exact .inr ⟨by simp[Region.wanted,hg,Ig],rfl,rfl⟩
  ·cases e
theorem vL(g:G)(w:World):VR g w eh undef:=by simp only[eh,VR];exact⟨_,rfl,by simp[bq]⟩
theorem sf(hc:cC P call){ops:Array Oper}{i:Nat}(hi:ops[i]? =some o){g w nt t h}{a:Act}{v:AV}{h':Hp}(dH:(jG P call o.op).1=.p0∨(jG P call o.op).1=.p1)
 (H:HC g w h)(T:TR g w nt t a.tmps)(e:gv P call nt ops.toList o t h=.ok v h'){Q:Exit->Act->World->Prop}{rest:List Nat}
 (K: ∀ x,VR g w v x->wpOps P ops Q rest (a.put o.dst x) w):wpOps P ops Q (i::rest) a w:=by
 rw[wpOps,hi]
 simp only
 have hp:bC P o (jG P call o.op).2:=by
  have:=tE (o:=o) hc
  cases h:jG P call o.op with
  |mk c f=>
   rw[h]at this dH
   cases c
   ·exact this
   ·exact this
   ·rcases dH with h|h<;>cases h
   ·rcases dH with h|h<;>cases h
 rcases oQ T e with⟨hw,e⟩|⟨hw,rfl,rfl⟩
 ·rw[if_pos hw]
  obtain⟨rfl,x,hx,hv⟩:=hp g w nt t h a v h' H T e
  refine .inl ?_
  unfold Oper.wp
  rw[hx]
  exact K x hv
 ·rw[if_neg (by simp[hw])]
  exact K undef (vL g w)
theorem DL(hc:cC P call){ops:Array Oper}{i:Nat}(hi:ops[i]? =some o){g w nt t h}{a:Act}{v:AV}{h':Hp}(dH:(jG P call o.op).1=.al)
 (H:HC g w h)(T:TR g w nt t a.tmps)(e:gv P call nt ops.toList o t h=.ok v h'){Q:Exit->Act->World->Prop}{rest:List Nat}
 (K1:h'=h-> ∀ x w',(w'=w∨ ∃ ob,w'=w.alloc ob)->(∀ g' w',VR g' w' v x)->wpOps P ops Q rest (a.put o.dst x) w')
 (K2: ∀ cs C el vs x,h'=cx h cs->bq g w cs.toL vs->(∀ (j:Nat) (v:Value),vs[j]? =some v->C[j]? =some v)->
  (∀ g' w',g'.m h.next=some (w.heap.size,0)->C.size<=cM w' w.heap.size->VR g' w' v x)->wpOps P ops Q rest (a.put o.dst x) (w.alloc (.cells C el))):
 wpOps P ops Q (i::rest) a w:=by
 rw[wpOps,hi]
 simp only
 have hp:jj P o (jG P call o.op).2:=by
  have:=tE (o:=o) hc
  cases h:jG P call o.op with
  |mk c f=>rw[h]at this dH;simp only at dH;subst dH;exact this
 rcases oQ T e with⟨hw,e⟩|⟨hw,rfl,rfl⟩
 ·rw[if_pos hw]
  rcases hp g w nt t h a v h' H T e with⟨rfl,x,C,el,hr,hv⟩|⟨cs,C,el,vs,x,rfl,hr,cU,hC,hv⟩
  ·refine .inl ?_
   unfold Oper.wp
   rw[hr]
   exact K1 rfl x _ (.inr ⟨_,rfl⟩) hv
  ·refine .inl ?_
   unfold Oper.wp
   rw[hr]
   exact K2 cs C el vs x rfl cU hC hv
 ·rw[if_neg (by simp[hw])]
  exact K1 rfl undef _ (.inl rfl) (fun g w=>vL g w)
omit [Io] in
theorem mW{nt:Nat}{all:List Oper}(dH:(jG P call o.op).1=.p0):gj (gv P call nt all o):=by
 have hf:gj (jG P call o.op).2:=Ix dH
 unfold gv
 cases o.guard with
 |none=>exact hf
 |some p=>
  obtain⟨j,want⟩:=p
  simp only
  split
  ·split
   ·refine zt ?_
    intro t h h0
    unfold gF
    split
    ·rename_i b _
     cases ej want b (!b)
     ·rfl
     ·exact hf t h h0
    ·rfl
    ·rfl
   ·exact ca
  ·exact ca
omit [Io] in
theorem vM{nt:Nat}{all:List Oper}(dH:(jG P call o.op).1=.al):Bz (gv P call nt all o):=by
 have hf:Bz (jG P call o.op).2:=DJ dH
 unfold gv
 cases o.guard with
 |none=>exact hf
 |some p=>
  obtain⟨j,want⟩:=p
  simp only
  split
  ·split
   ·refine qz ?_
    intro t h v h' e h0 hn
    unfold gF at e ⊢
    split at e
    ·rename_i b hb
     cases hw:ej want b (!b)with
     |false=>rw[hw]at e;cases e;exact .inl ⟨rfl,rfl⟩
     |true=>rw[hw]at e;exact hf t h v h' e h0 hn
    ·cases e
     exact .inl ⟨rfl,rfl⟩
    ·cases e
   ·exact eY
  ·exact eY
end
end Go.Ab

noncomputable section
namespace Go.Ab
variable [Io]
inductive gS where
 |last (pre en:List Nat)
 |cons (pre en:List Nat) (q:Nat) (rest:gS)
def gS.pre:gS->List Nat
 | .last p _=>p
 | .cons p _ _ _=>p
def gS.en:gS->List Nat
 | .last _ a=>a
 | .cons _ a _ r=>a++r.en
def gS.ru:gS->List Nat
 | .last _ _=>[]
 | .cons _ _ q r=>q::r.ru
structure Cx where
 P:Program
 call:bP
 ops:Array Oper
 nt:Nat
 t0:Tm
 te:Tm
 nx:Nat->Nat
 bd:Nat->Nat
 g0:G
 w0:World
 h0:Hp
 hE:Hp
namespace Cx
variable (c:Cx)
def cy(i:Nat)(k:Cl):Prop:= ∃ o,c.ops[i]? =some o/\(jG c.P c.call o.op).1=k
def FE(i:Nat):dg:=match c.ops[i]? with
 |some o=>gv c.P c.call c.nt c.ops.toList o
 |none=>bA
def gZ(i d:Nat):Prop:= ∃ o,c.ops[i]? =some o/\o.dst=some d
def GM(i:Nat):List Nat:=match c.ops[i]? with
 |some o=>lA c.ops.toList o
 |none=>[]
def An(i j:Nat):Prop:=x7 c.ops.toList i j=true
def jJ(i N:Nat):Prop:= ∀ u∈c.GM i,u<c.nt/\((∀ j,c.gZ j u->c.An i j/\c.bd j<=N)∨ ∀ j,c.gZ j u->c.An j i)
open Classical in
def Ch(i:Nat):List Nat->Tm
 | []=>Tm.none
 |u::l=>Tm.put (Ch i l) u (if ∃ j,c.gZ j u/\c.An i j then Tm.at c.te u else Tm.at c.t0 u)
def rf(i:Nat):Tm:=c.Ch i (c.GM i)
def Slot(i:Nat)(v:AV):Prop:= ∀ d,c.gZ i d->d<c.nt/\c.te.at d=some v
def Yj(pre:List Nat)(h:Hp):Prop:= ∀ i∈pre,c.cy i .p1-> ∃ v,c.FE i (c.rf i) h=.ok v h/\c.Slot i v/\c.jJ i h.next
def o7:List Nat->Hp->Hp->Prop
 | [],h,h1=>h1=h
 |i::l,h,h1=>(c.cy i .p0/\o7 l h h1)∨(c.cy i .al/\c.nx i=h.next/\((c.bd i=c.nx i/\o7 l h h1)∨
  ∃ v cs,c.bd i=c.nx i+1/\c.FE i (c.rf i) (dL (c.nx i))=.ok v (cx (dL (c.nx i)) cs)/\o7 l (cx h cs) h1))
def rI:gS->Hp->Prop
 | .last pre en,h=>c.Yj pre h/\c.o7 en h c.hE
 | .cons pre en q rest,h=>c.Yj pre h/\ ∃ h1,c.o7 en h h1/\c.cy q .ch/\ ∃ v h2,c.FE q (c.rf q) h1=.ok v h2/\c.Slot q v/\c.jJ q h1.next/\
   c.bd q=h2.next/\h1.next<=h2.next/\rI rest h2
def zu:List Nat->gS->Prop
 |past,.last pre _=> ∀ i,c.cy i .p1->(∃ j∈past,c.An j i)∨i∈pre
 |past,.cons pre en q rest=>(∀ i,c.cy i .p1->(∃ j∈past,c.An j i)∨(∃ j∈q::rest.ru,c.An i j)∨i∈pre)/\(∀ i∈en,c.cy i .al->c.An q i)/\
  (∀ q'∈rest.ru,c.An q' q)/\zu (q::past) rest
structure Iy:Prop where
 p0: ∀ i,c.cy i .p0-> ∃ v,(∀ h,c.FE i (c.rf i) h=.ok v h)/\c.Slot i v/\c.jJ i (c.bd i)
 al: ∀ i,c.cy i .al-> ∃ v,c.Slot i v/\c.jJ i (c.nx i)/\((c.FE i (c.rf i) (dL (c.nx i))=.ok v (dL (c.nx i))/\c.bd i=c.nx i)∨
  ∃ cs,c.FE i (c.rf i) (dL (c.nx i))=.ok v (cx (dL (c.nx i)) cs)/\c.bd i=c.nx i+1)
 dst: ∀ i j d,c.gZ i d->c.gZ j d->i=j
 top: ∀ i,i<c.ops.size->c.bd i<=c.hE.next
 same: ∀ u,u<512->(∀ j,¬ c.gZ j u)->c.te.at u=c.t0.at u
 call:cC c.P c.call
 nt:c.nt<=512
omit [Io] in
theorem kL{h1:Hp}: ∀ {l:List Nat} {h:Hp},c.o7 l h h1->h.next<=h1.next
 | [],h,e=>by cases e;exact Nat.le_refl _
 |i::l,h,e=>by
  rcases e with⟨_,e⟩|⟨_,_,⟨_,e⟩|⟨v,cs,_,_,e⟩⟩
  ·exact kL e
  ·exact kL e
  ·have:=kL e
   exact Nat.le_trans (Nat.le_succ _) this
omit [Io] in
theorem iy{h1:Hp}: ∀ {l:List Nat} {h:Hp},c.o7 l h h1-> ∀ i∈l,c.cy i .al->h.next<=c.nx i/\(c.bd i=c.nx i+1->c.nx i<h1.next)
 | [],h,e,i,hi,_=>by cases hi
 |j::l,h,e,i,hi,hc=>by
  rcases e with⟨hj,e⟩|⟨hj,hn,⟨hb,e⟩|⟨v,cs,hb,_,e⟩⟩
  ·rcases List.mem_cons.1 hi with rfl|hi
   ·obtain⟨o,ho,h1⟩:=hj
    obtain⟨o',hI,h2⟩:=hc
    rw[ho]at hI
    cases hI
    rw[h1]at h2
    cases h2
   ·exact iy e i hi hc
  ·rcases List.mem_cons.1 hi with rfl|hi
   ·exact⟨by omega,fun h=>by omega⟩
   ·exact iy e i hi hc
  ·rcases List.mem_cons.1 hi with rfl|hi
   ·have:=kL c e
    have:h.next+1<=h1.next:=this
    exact⟨by omega,fun _=>by omega⟩
   ·have:=iy e i hi hc
    have h2:h.next+1<=c.nx i:=this.1
    exact⟨by omega,this.2⟩
omit [Io] in
theorem mg: ∀ {pl:gS} {h:Hp},c.rI pl h-> ∀ i∈pl.en,c.cy i .al->h.next<=c.nx i
 | .last pre en,h,⟨_,e⟩,i,hi,hc=>(c.iy e i hi hc).1
 | .cons pre en q rest,h,⟨_,h1,e,_,v,h2,_,_,_,_,hle,r⟩,i,hi,hc=>by
  rcases List.mem_append.1 hi with hi|hi
  ·exact(c.iy e i hi hc).1
  ·exact Nat.le_trans (c.kL e) (Nat.le_trans hle (mg r i hi hc))
omit [Io] in
theorem fS{i:Nat}{k:Cl}(h:c.cy i k){k':Cl}(h':c.cy i k'):k=k':=by
 obtain⟨o,ho,h1⟩:=h
 obtain⟨o',hI,h2⟩:=h'
 rw[ho]at hI
 cases hI
 exact h1.symm.trans h2
omit [Io] in
theorem mX{h1:Hp}: ∀ {l:List Nat} {h:Hp},c.o7 l h h1-> ∀ i∈l,∀ j∈l,c.cy i .al->c.cy j .al->c.bd i=c.nx i+1->c.bd j=c.nx j+1->c.nx i=c.nx j->i=j
 | [],h,e,i,hi,_,_,_,_,_,_,_=>by cases hi
 |k::l,h,e,i,hi,j,hj,ci,cj,bi,bj,GN=>by
  rcases e with⟨hk,e⟩|⟨hk,hn,⟨hb,e⟩|⟨v,cs,hb,_,e⟩⟩
  ·have ni:i≠k:=fun e=>by subst e;cases c.fS hk ci
   have nj:j≠k:=fun e=>by subst e;cases c.fS hk cj
   exact mX e i ((List.mem_cons.1 hi).resolve_left ni) j ((List.mem_cons.1 hj).resolve_left nj) ci cj bi bj GN
  ·have ni:i≠k:=fun e=>by subst e;omega
   have nj:j≠k:=fun e=>by subst e;omega
   exact mX e i ((List.mem_cons.1 hi).resolve_left ni) j ((List.mem_cons.1 hj).resolve_left nj) ci cj bi bj GN
  ·by_cases ni:i=k<;>by_cases nj:j=k
   ·exact ni.trans nj.symm
   ·have:=(c.iy e j ((List.mem_cons.1 hj).resolve_left nj) cj).1
    have:h.next+1<=c.nx j:=this
    subst ni
    omega
   ·have:=(c.iy e i ((List.mem_cons.1 hi).resolve_left ni) ci).1
    have:h.next+1<=c.nx i:=this
    subst nj
    omega
   ·exact mX e i ((List.mem_cons.1 hi).resolve_left ni) j ((List.mem_cons.1 hj).resolve_left nj) ci cj bi bj GN
omit [Io] in
theorem mY: ∀ {pl:gS} {h:Hp},c.rI pl h-> ∀ i∈pl.en,∀ j∈pl.en,c.cy i .al->c.cy j .al->c.bd i=c.nx i+1->c.bd j=c.nx j+1->c.nx i=c.nx j->i=j
 | .last pre en,h,⟨_,e⟩,i,hi,j,hj,ci,cj,bi,bj,GN=>c.mX e i hi j hj ci cj bi bj GN
 | .cons pre en q rest,h,⟨_,h1,e,_,v,h2,_,_,_,_,hle,r⟩,i,hi,j,hj,ci,cj,bi,bj,GN=>by
  rcases List.mem_append.1 hi with hi|hi<;>rcases List.mem_append.1 hj with hj|hj
  ·exact c.mX e i hi j hj ci cj bi bj GN
  ·have:=(c.iy e i hi ci).2 bi
   have:=c.mg r j hj cj
   omega
  ·have:=(c.iy e j hj cj).2 bj
   have:=c.mg r i hi ci
   omega
  ·exact mY r i hi j hj ci cj bi bj GN
def BA(g:G)(w:World)(h:Hp)(i:Nat):Prop:=
 c.bd i=c.nx i∨ ∃ v cs b C,∃ el:FT C,∃ vs,c.bd i=c.nx i+1/\c.FE i (c.rf i) (dL (c.nx i))=.ok v (cx (dL (c.nx i)) cs)/\g.m (c.nx i)=some (b,0)/\w.heap[b]? =some (.cells C el.el el.fz)/\
  ¬ g.cT b/\ ¬ eT (g.to h.next) h b/\c.w0.heap.size<=b/\bq (g.to (c.nx i)) w cs.toL vs/\ ∀ (j:Nat) (v:Value),vs[j]? =some v->C[j]? =some v
structure St(g:G)(w:World)(h:Hp)(A D:List Nat):Prop where
 hr:HR (g.to h.next) w h
 ext:Ext c.g0 c.w0 c.h0 (g.to h.next) w h
 ya: ∀ i∈A,i∈D->c.cy i .al->c.BA g w h i
 BB: ∀ i∈A,∀ j∈A,i∈D->j∈D->c.cy i .al->c.cy j .al->c.bd i=c.nx i+1->c.bd j=c.nx j+1-> ∀ b,g.m (c.nx i)=some (b,0)->g.m (c.nx j)=some (b,0)->i=j
omit [Io] in
theorem kM{h:Hp}{cs:Rw}{id:Nat}:(cx h cs).aN.get id=if id=h.next then some cs else h.aN.get id:=Tr.eO _ _ _ _
omit [Io] in
theorem DM{h:Hp}{cs cs':Rw}(e:cx h cs=cx h cs'):cs=cs':=by
 have h1:(cx h cs).aN.get h.next=some cs:=by rw[kM,if_pos rfl]
 rw[e,kM,if_pos rfl]at h1
 exact(Option.some.inj h1).symm
theorem RM{g:G}{w:World}{h:Hp}(H:HR (g.to h.next) w h){b:Nat}{C:Array Value}{el:FT C}{cs:Rw}{vs:List Value}(hm:g.m h.next=some (b,0))
 (hw:w.heap[b]? =some (.cells C el.el el.fz))(hi: ¬ g.cT b)(ho: ¬ eT (g.to h.next) h b)(hv:bq (g.to h.next) w cs.toL vs)(hC: ∀ (j:Nat) (v:Value),vs[j]? =some v->C[j]? =some v):
 HR (g.to (cx h cs).next) w (cx h cs)/\ ∀ b',eT (g.to (cx h cs).next) (cx h cs) b'->eT (g.to h.next) h b'∨b'=b:=by
 have hn:(cx h cs).next=h.next+1:=rfl
 have hM:=jI g w (N:=h.next) (M:=h.next+1) (by omega)
 have hle: ∀ id cs',h.aN.get id=some cs'->id<h.next:=by
  intro id cs' e
  refine Classical.byContradiction fun k=>?_
  obtain⟨b',s,_,_,_,yZ,_⟩:=H.aN id cs' e
  rw[H.fresh id (by omega)]at yZ
  cases yZ
 have pG: ∀ id,id<h.next->(g.to (h.next+1)).m id=(g.to h.next).m id:=by
  intro id k
  simp only[G.to]
  rw[if_pos (by omega),if_pos k]
 have Lt:(g.to (h.next+1)).m h.next=some (b,0):=by
  simp only[G.to]
  rw[if_pos (by omega)]
  exact hm
 rw[hn]
 refine⟨⟨?_,?_,?_,fun k i=>H.cT k i,fun p hp=>H.tb p hp⟩,?_⟩
 ·intro id eC
  have:h.next+1<=id:=eC
  simp only[G.to]
  rw[if_neg (by omega)]
 ·intro id cs' e
  rw[kM]at e
  by_cases eC:id=h.next
  ·subst eC
   rw[if_pos rfl]at e
   cases e
   exact⟨b,0,C,el,vs,Lt,hw,hi,bq.dA hM _ _ hv,by simpa using hC⟩
  ·rw[if_neg eC]at e
   obtain⟨b',s,C',el',Ra,yZ,Zh,nT,jx,Y0⟩:=H.aN id cs' e
   exact⟨b',s,C',el',Ra,by rw[pG id (hle id cs' e)];exact yZ,Zh,nT,bq.dA hM _ _ jx,Y0⟩
 ·intro id nU b1 s s' y5 p6 e1 e2 m1 m2
  rw[kM]at e1 e2
  by_cases h1:id=h.next<;>by_cases h2:nU=h.next
  ·exact h1.trans h2.symm
  ·subst h1
   rw[if_neg h2]at e2
   rw[Lt]at m1
   obtain⟨rfl,_⟩:=Prod.mk.inj (Option.some.inj m1)
   rw[pG nU (hle nU _ e2)]at m2
   exact absurd ⟨nU,p6,s',e2,m2⟩ ho
  ·subst h2
   rw[if_neg h1]at e1
   rw[Lt]at m2
   obtain⟨rfl,_⟩:=Prod.mk.inj (Option.some.inj m2)
   rw[pG id (hle id _ e1)]at m1
   exact absurd ⟨id,y5,s,e1,m1⟩ ho
  ·rw[if_neg h1]at e1
   rw[if_neg h2]at e2
   rw[pG id (hle id _ e1)]at m1
   rw[pG nU (hle nU _ e2)]at m2
   exact H.inj id nU b1 s s' y5 p6 e1 e2 m1 m2
 ·rintro b' ⟨id,cs',s,e,m⟩
  rw[kM]at e
  by_cases eC:id=h.next
  ·subst eC
   rw[Lt]at m
   obtain⟨rfl,_⟩:=Prod.mk.inj (Option.some.inj m)
   exact .inr rfl
  ·rw[if_neg eC]at e
   rw[pG id (hle id _ e)]at m
   exact .inl ⟨id,cs',s,e,m⟩
omit [Io] in
theorem BC{g:G}{w:World}{h:Hp}{b:Nat}{cs:Rw}(E:Ext c.g0 c.w0 c.h0 (g.to h.next) w h)(hb:c.w0.heap.size<=b)
 (hO: ∀ b',eT (g.to (cx h cs).next) (cx h cs) b'->eT (g.to h.next) h b'∨b'=b):Ext c.g0 c.w0 c.h0 (g.to (cx h cs).next) w (cx h cs) where
 os:=E.os
 tape:=E.tape
 output:=E.output
 size:=E.size
 next:=Nat.le_trans E.next (Nat.le_succ _)
 m:=fun id x e=>(jI g w (N:=h.next) (M:=h.next+1) (by omega)).m id x (E.m id x e)
 j2:=E.j2
 rows:=E.rows
 cT:=E.cT
 A7:=E.A7
 jg:=fun k o=>by
  rcases hO k o with o|rfl
  ·exact E.jg k o
  ·exact .inr hb
theorem settle{g:G}{w:World}{D A:List Nat}{h1:Hp}: ∀ (l:List Nat) (h:Hp),c.o7 l h h1->(∀ i∈l,c.cy i .al->i∈D)->c.St g w h (l++A) D->
 (∀ i∈A,c.cy i .al->h1.next<=c.nx i)->c.St g w h1 A D
 | [],h,e,_,S,_=>by cases e;exact S
 |i::l,h,e,hd,S,hA=>by
  have uP:=fun j hj=>hd j (List.mem_cons_of_mem i hj)
  have S':c.St g w h (l++A) D:=⟨S.hr,S.ext,fun j hj=>S.ya j (List.mem_cons_of_mem _ hj),fun j hj k hk=>S.BB j (List.mem_cons_of_mem _ hj) k (List.mem_cons_of_mem _ hk)⟩
  rcases e with⟨_,e⟩|⟨hk,hn,⟨hb,e⟩|⟨v,cs,hb,hF,e⟩⟩
  ·exact settle l h e uP S' hA
  ·exact settle l h e uP S' hA
  ·have si:=hd i List.mem_cons_self hk
   rcases S.ya i List.mem_cons_self si hk with hp|⟨v',cs',b,C,el,vs,_,QE,hm,hw,QD,hO,RO,hv,hC⟩
   ·omega
   rw[hF]at QE
   obtain⟨rfl,fh⟩:=Ro.ok.inj QE
   obtain rfl:=DM fh
   rw[hn]at hm hv
   obtain⟨Re,hO'⟩:=RM S.hr hm hw QD hO hv hC
   refine settle l (cx h cs) e uP ⟨Re,c.BC S.ext RO hO',?_,S'.BB⟩ hA
   intro j hj yb tL
   rcases S'.ya j hj yb tL with hp|⟨v2,p6,b2,C2,MJ,CX,uO,hF2,Be,CY,Zr,hO2,Zs,Lo,hC2⟩
   ·exact .inl hp
   ·refine .inr ⟨v2,p6,b2,C2,MJ,CX,uO,hF2,Be,CY,Zr,fun o=>?_,Zs,Lo,hC2⟩
    rcases hO' _ o with o|rfl
    ·exact hO2 o
    ·have hjn:h.next+1<=c.nx j:=by
      rcases List.mem_append.1 hj with hj|hj
      ·exact(c.iy e j hj tL).1
      ·exact Nat.le_trans (c.kL e) (hA j hj tL)
     have:=S.BB i List.mem_cons_self j (List.mem_cons_of_mem _ hj) si yb hk tL hb uO b2 (by rw[hn];exact hm) Be
     subst this
     omega
end Cx
end Go.Ab

noncomputable section
namespace Go.Ab
variable [Io]
namespace Cx
variable (c:Cx)
structure Inv(g:G)(w:World)(h:Hp)(a:Act)(D past:List Nat)(pl:gS):Prop where
 run:c.rI pl h
 stat:c.zu past pl
 closed:tJ c.ops.toList D
 ru: ∀ i,c.cy i .ch->i∈pl.ru∨i∈D
 GO: ∀ i∈pl.ru,i∉D
 oS: ∀ j∈past,j∈D
 Lu: ∀ i,c.cy i .al->i∈pl.en∨i∈D
 st:c.St g w h pl.en D
 Lv: ∀ id x,g.m id=some x->id<h.next∨ ∃ i∈pl.en,i∈D/\c.cy i .al/\c.bd i=c.nx i+1/\id=c.nx i
 kN: ∀ j∈D,∀ d,c.gZ j d->d<c.nt/\ ∃ v,c.te.at d=some v/\VR (g.to (max (c.bd j) h.next)) w v (a.tmps.getD d undef)
 free: ∀ u v,u<512->(∀ j∈D,¬ c.gZ j u)->c.t0.at u=some v->u<c.nt/\VR (g.to h.next) w v (a.tmps.getD u undef)
 size:a.tmps.size=c.nt
 defers:a.defers=[]
variable {c}
omit [Io] in
theorem oU{i:Nat}{o:Oper}(ho:c.ops[i]? =some o):c.FE i=gv c.P c.call c.nt c.ops.toList o:=by unfold FE;rw[ho]
omit [Io] in
theorem NC{i:Nat}{o:Oper}(ho:c.ops[i]? =some o):c.GM i=lA c.ops.toList o:=by unfold GM;rw[ho]
omit [Io] in
theorem DN{i:Nat}: ∀ (l:List Nat),(∀ u∈l,u<512)-> ∀ u v,u<512->(c.Ch i l).at u=some v->u∈l/\(((∃ j,c.gZ j u/\c.An i j)/\c.te.at u=some v)∨((¬ ∃ j,c.gZ j u/\c.An i j)/\c.t0.at u=some v))
 | [],_,u,v,hu,e=>by rw[Ch,Tm.py u hu]at e;cases e
 |x::l,hl,u,v,hu,e=>by
  rw[Ch,Tm.fj _ _ _ _ (hl x List.mem_cons_self) hu]at e
  by_cases hx:u=x
  ·subst hx
   rw[if_pos rfl]at e
   refine⟨List.mem_cons_self,?_⟩
   by_cases hw: ∃ j,c.gZ j u/\c.An i j
   ·rw[if_pos hw]at e;exact .inl ⟨hw,e⟩
   ·rw[if_neg hw]at e;exact .inr ⟨hw,e⟩
  ·rw[if_neg hx]at e
   obtain⟨h1,h2⟩:=DN l (fun y hy=>hl y (List.mem_cons_of_mem _ hy)) u v hu e
   exact⟨List.mem_cons_of_mem _ h1,h2⟩
theorem Inv.reads{g w h a D past pl}(I:c.Inv g w h a D past pl)(eX:c.nt<=512){i N M:Nat}(hr:c.jJ i M)(si:i∉D)(hD: ∀ j,c.An i j->j∈D)(hM:M<=N)(hN:h.next<=N):
 TR (g.to N) w c.nt (c.rf i) a.tmps:=by
 have ee: ∀ u∈c.GM i,u<512:=fun u hu=>Nat.lt_of_lt_of_le (hr u hu).1 eX
 refine⟨eX,I.size,fun u v hu e=>?_⟩
 obtain⟨hm,GL⟩:=DN _ ee u v hu e
 refine⟨(hr u hm).1,?_⟩
 rcases GL with⟨⟨j,hj,hA⟩,e⟩|⟨Zt,e⟩
 ·rcases(hr u hm).2 with h1|h1
  ·obtain⟨_,hb⟩:=h1 j hj
   obtain⟨_,v',e',hv⟩:=I.kN j (hD j hA) u hj
   rw[e]at e'
   cases e'
   exact VR.dA (jI g w (by omega)) _ _ hv
  ·exact absurd (I.closed j (hD j hA) i (h1 j hj)) si
 ·refine VR.dA (jI g w hN) _ _ (I.free u v hu (fun j yb hj=>?_) e).2
  rcases(hr u hm).2 with h1|h1
  ·exact Zt ⟨j,hj,(h1 j hj).1⟩
  ·exact si (I.closed j yb i (h1 j hj))
omit [Io] in
theorem tN{a:Act}{od:Option Nat}{x:Value}{d:Nat}(hd:d<a.tmps.size):(a.put od x).tmps.getD d undef=if od=some d then x else a.tmps.getD d undef:=by
 cases od with
 |none=>rfl
 |some e=>
  show(a.tmps.setIfInBounds e x).getD d undef=_
  rw[Array.getD_eq_getD_getElem?,Array.getD_eq_getD_getElem?]
  by_cases he:e=d
  ·subst he
   rw[Array.getElem?_setIfInBounds_self_of_lt hd,if_pos rfl];rfl
  ·rw[Array.getElem?_setIfInBounds_ne he,if_neg (fun k=>he (Option.some.inj k))]
omit [Io] in
theorem qA{a:Act}{od:Option Nat}{x:Value}:(a.put od x).tmps.size=a.tmps.size:=by
 cases od with
 |none=>rfl
 |some e=>show(a.tmps.setIfInBounds e x).size=_;simp
omit [Io] in
theorem put_defers{a:Act}{od:Option Nat}{x:Value}:(a.put od x).defers=a.defers:=by cases od<;>rfl
theorem og{g:G}{w w':World}{g':G}{a:Act}{D:List Nat}{i:Nat}{o:Oper}{x:Value}{N N':Nat}(G0:c.Iy)(ho:c.ops[i]? =some o)
 (hs:a.tmps.size=c.nt)
 (kN: ∀ j∈D,∀ d,c.gZ j d->d<c.nt/\ ∃ v,c.te.at d=some v/\VR (g.to (max (c.bd j) N)) w v (a.tmps.getD d undef))
 (mono: ∀ j∈D,jh (g.to (max (c.bd j) N)) w (g'.to (max (c.bd j) N')) w')(hi:i∉D)
 (hx: ∀ d,c.gZ i d->d<c.nt/\ ∃ v,c.te.at d=some v/\VR (g'.to (max (c.bd i) N')) w' v x):
 ∀ j∈i::D,∀ d,c.gZ j d->d<c.nt/\ ∃ v,c.te.at d=some v/\VR (g'.to (max (c.bd j) N')) w' v ((a.put o.dst x).tmps.getD d undef):=by
 intro j hj d hd
 by_cases xy:j=i
 ·subst xy
  obtain⟨h1,v,h2,h3⟩:=hx d hd
  refine⟨h1,v,h2,?_⟩
  obtain⟨o',hI,uP⟩:=hd
  rw[ho]at hI
  cases hI
  rw[tN (by omega),if_pos uP]
  exact h3
 ·obtain⟨h1,v,h2,h3⟩:=kN j ((List.mem_cons.1 hj).resolve_left xy) d hd
  refine⟨h1,v,h2,?_⟩
  rw[tN (by omega),if_neg (fun k=>xy (G0.dst j i d hd ⟨o,ho,k⟩))]
  exact VR.dA (mono j ((List.mem_cons.1 hj).resolve_left xy)) _ _ h3
theorem qB{g:G}{w w':World}{g':G}{a:Act}{D:List Nat}{i:Nat}{o:Oper}{x:Value}{N N':Nat}(ho:c.ops[i]? =some o)(hs:a.tmps.size=c.nt)
 (free: ∀ u v,u<512->(∀ j∈D,¬ c.gZ j u)->c.t0.at u=some v->u<c.nt/\VR (g.to N) w v (a.tmps.getD u undef))(mono:jh (g.to N) w (g'.to N') w'):
 ∀ u v,u<512->(∀ j∈i::D,¬ c.gZ j u)->c.t0.at u=some v->u<c.nt/\VR (g'.to N') w' v ((a.put o.dst x).tmps.getD u undef):=by
 intro u v hu hd e
 obtain⟨h1,h2⟩:=free u v hu (fun j hj=>hd j (List.mem_cons_of_mem _ hj)) e
 refine⟨h1,?_⟩
 rw[tN (by omega),if_neg (fun k=>hd i List.mem_cons_self ⟨o,ho,k⟩)]
 exact VR.dA mono _ _ h2
theorem Inv.put{g w h a D past pl}(G0:c.Iy)(I:c.Inv g w h a D past pl){i:Nat}{o:Oper}(ho:c.ops[i]? =some o)(hi:i∉D)(hC:tJ c.ops.toList (i::D))
 (hk:c.cy i .p0∨c.cy i .p1){v:AV}{x:Value}(hs:c.Slot i v)(hx:VR (g.to (max (c.bd i) h.next)) w v x):c.Inv g w h (a.put o.dst x) (i::D) past pl:=by
 have yc: ∀ j,c.cy j .al->j∈i::D->j∈D:=by
  intro j hj h
  refine(List.mem_cons.1 h).resolve_left fun e=>?_
  subst e
  rcases hk with hk|hk<;>cases c.fS hk hj
 exact
 {run:=I.run
  stat:=I.stat
  closed:=hC
  ru:=fun j hj=>(I.ru j hj).imp id (List.mem_cons_of_mem _)
  GO:=fun j hj h=>by
   rcases List.mem_cons.1 h with rfl|h
   ·have:c.cy j .ch:=by
     have key: ∀ {pl:gS} {h:Hp},c.rI pl h-> ∀ j∈pl.ru,c.cy j .ch:=by
      intro pl
      induction pl with
      |last pre en=>intro h r j hj;cases hj
      |cons pre en q rest ih=>
       intro h r j hj
       obtain⟨_,h1,_,hq,v,h2,_,_,_,_,_,r⟩:=r
       rcases List.mem_cons.1 hj with rfl|hj
       ·exact hq
       ·exact ih r j hj
     exact key I.run j hj
    rcases hk with hk|hk<;>cases c.fS hk this
   ·exact I.GO j hj h
  oS:=fun j hj=>List.mem_cons_of_mem _ (I.oS j hj)
  Lu:=fun j hj=>(I.Lu j hj).imp id (List.mem_cons_of_mem _)
  st:=⟨I.st.hr,I.st.ext,fun j hj hD hc=>I.st.ya j hj (yc j hc hD) hc,fun j hj k hk jD kD jc kc=>I.st.BB j hj k hk (yc j jc jD) (yc k kc kD) jc kc⟩
  Lv:=fun n y e=>(I.Lv n y e).imp id fun⟨j,hj,hD,r⟩=>⟨j,hj,List.mem_cons_of_mem _ hD,r⟩
  kN:=og G0 ho I.size I.kN (fun j _=>sd _ _) hi (fun d hd=>⟨(hs d hd).1,v,(hs d hd).2,hx⟩)
  free:=qB ho I.size I.free (sd _ _)
  size:=by rw[qA];exact I.size
  defers:=by rw[put_defers];exact I.defers}
omit [Io] in
theorem zw: ∀ {pl:gS} {h:Hp},c.rI pl h-> ∀ j∈pl.ru,c.cy j .ch:=by
 intro pl
 induction pl with
 |last pre en=>intro h r j hj;cases hj
 |cons pre en q rest ih=>
  intro h r j hj
  obtain⟨_,h1,_,hq,v,h2,_,_,_,_,_,r⟩:=r
  rcases List.mem_cons.1 hj with rfl|hj
  ·exact hq
  ·exact ih r j hj
omit [Io] in
theorem ND{pl:gS}{h:Hp}(r:c.rI pl h):c.Yj pl.pre h:=by
 cases pl with
 |last pre en=>exact r.1
 |cons pre en q rest=>exact r.1
omit [Io] in
theorem Iz{past:List Nat}{pl:gS}(s:c.zu past pl): ∀ i,c.cy i .p1->(∃ j∈past,c.An j i)∨(∃ j∈pl.ru,c.An i j)∨i∈pl.pre:=by
 cases pl with
 |last pre en=>exact fun i hi=>(s i hi).imp id .inr
 |cons pre en q rest=>exact s.1
omit [Io] in
theorem jK{w:World}{ob:Obj}{b:Nat}:(w.alloc ob).heap[b]? =if b=w.heap.size then some ob else w.heap[b]? :=by
 show(w.heap.push _)[b]? =_
 rw[Array.getElem?_push]
omit [Io] in
theorem mh{g g':G}{w:World}{ob:Obj}(hm: ∀ id x,g.m id=some x->g'.m id=some x)(hi:g'.cT=g.cT)(hb: ∀ b,g.cT b->b<w.heap.size):jh g w g' (w.alloc ob):=
 ⟨hm,fun b i=>by rw[hi];exact i,fun b i=>by
  have:=hb b i
  rw[jK,if_neg (by omega)],fun b=>by
  unfold cM
  rw[jK]
  by_cases h:b=w.heap.size
  ·subst h;simp
  ·rw[if_neg h];exact Nat.le_refl _⟩
theorem yd{g g':G}{w:World}{h:Hp}{ob:Obj}{i:Nat}(hm: ∀ id x,g.m id=some x->g'.m id=some x)(hi:g'.cT=g.cT)(hb: ∀ b,g.cT b->b<w.heap.size)
 (pG:g'.to h.next=g.to h.next)(p:c.BA g w h i):c.BA g' (w.alloc ob) h i:=by
 rcases p with p|⟨v,cs,b,C,el,vs,h1,h2,h3,h4,h5,h6,h7,h8,h9⟩
 ·exact .inl p
 ·have ee:=(Array.getElem?_eq_some_iff.1 h4).1
  refine .inr ⟨v,cs,b,C,el,vs,h1,h2,hm _ _ h3,by rw[jK,if_neg (by omega)];exact h4,by rw[hi];exact h5,by rw[pG];exact h6,h7,?_,h9⟩
  refine bq.dA ?_ _ _ h8
  refine mh ?_ (by simp only[G.to];exact hi) (by simp only[G.to];exact hb)
  intro id x e
  simp only[G.to]at e ⊢
  by_cases eC:id<c.nx i
  ·rw[if_pos eC]at e ⊢;exact hm _ _ e
  ·rw[if_neg eC]at e;cases e
end Cx
end Go.Ab

noncomputable section
namespace Go.Ab
variable [Io]
namespace Cx
variable {c:Cx}
omit [Io] in
theorem G.DO{g:G}{id b N:Nat}(h:N<=id):(g.add id b).to N=g.to N:=by
 unfold Go.Ab.G.to G.add
 congr 1
 funext k
 by_cases hk:k<N
 ·simp only[hk,if_true]
  rw[if_neg (by omega)]
 ·simp only[hk,if_false]
theorem QF(G0:c.Iy){Q:Exit->Act->World->Prop}(K:jk c.g0 c.w0 c.h0 c.nt c.te c.hE (Q .normal)): ∀ (s D past:List Nat) (pl:gS) (g:G) (w:World) (h:Hp) (a:Act),
 Im c.ops D s->c.Inv g w h a D past pl->wpOps c.P c.ops Q s a w
 | [],D,past,pl,g,w,h,a,L,I=>by
  have BD: ∀ i,i<c.ops.size->i∈D:=L
  have ee: ∀ {i k},c.cy i k->i<c.ops.size:=fun⟨o,ho,_⟩=>(Array.getElem?_eq_some_iff.1 ho).1
  show Q .normal a w
  cases pl with
  |cons pre en q rest=>
   exact absurd (BD q (ee (zw I.run q List.mem_cons_self))) (I.GO q List.mem_cons_self)
  |last pre en=>
   have S:=c.settle (A:=[]) en h I.run.2 (fun i _ hc=>BD i (ee hc)) (by rw[List.append_nil];exact I.st) (fun i hi=>by cases hi)
   refine K _ _ _ S.ext S.hr ⟨G0.nt,I.size,fun u v hu e=>?_⟩ I.defers
   have hle:=c.kL I.run.2
   by_cases hd: ∃ j,c.gZ j u
   ·obtain⟨j,hj⟩:=hd
    obtain⟨o,ho,_⟩:=id hj
    have Rb:=(Array.getElem?_eq_some_iff.1 ho).1
    obtain⟨h1,v',e',hv⟩:=I.kN j (BD j Rb) u hj
    rw[e]at e'
    cases e'
    have:=G0.top j Rb
    exact⟨h1,VR.dA (jI g w (by omega)) _ _ hv⟩
   ·rw[G0.same u hu (fun j hj=>hd ⟨j,hj⟩)]at e
    obtain⟨h1,h2⟩:=I.free u v hu (fun j _ hj=>hd ⟨j,hj⟩) e
    exact⟨h1,VR.dA (jI g w hle) _ _ h2⟩
 |i::s,D,past,pl,g,w,h,a,⟨his,si,hE,L⟩,I=>by
  obtain⟨o,ho⟩: ∃ o,c.ops[i]? =some o:=⟨c.ops[i],Array.getElem?_eq_getElem his⟩
  obtain⟨tO,hC⟩:=vH I.closed ho hE
  have ye: ∀ b,g.cT b->b<w.heap.size:=I.st.hr.cT
  cases hk:(jG c.P c.call o.op).1 with
  |p0=>
   have dH:c.cy i .p0:=⟨o,ho,hk⟩
   obtain⟨v,hF,hS,hR⟩:=G0.p0 i dH
   have T:=I.reads G0.nt hR si tO (N:=max (c.bd i) h.next) (by omega) (by omega)
   have e:gv c.P c.call c.nt c.ops.toList o (c.rf i) (dL 0)=.ok v (dL 0):=by
    rw[<-oU ho];exact hF _
   exact sf G0.call ho (.inl hk) (DK (g:=g.to (max (c.bd i) h.next)) ye) T e fun x hx=>QF G0 K s _ _ _ _ _ _ _ L (I.put G0 ho si hC (.inl dH) hS hx)
  |p1=>
   have dH:c.cy i .p1:=⟨o,ho,hk⟩
   have MK:i∈pl.pre:=by
    rcases Iz I.stat i dH with⟨j,hj,hA⟩|⟨j,hj,hA⟩|h
    ·exact absurd (I.closed j (I.oS j hj) i hA) si
    ·exact absurd (tO j hA) (I.GO j hj)
    ·exact h
   obtain⟨v,hF,hS,hR⟩:=ND I.run i MK dH
   have T:=I.reads G0.nt hR si tO (N:=h.next) (Nat.le_refl _) (Nat.le_refl _)
   have e:gv c.P c.call c.nt c.ops.toList o (c.rf i) h=.ok v h:=by
    rw[<-oU ho];exact hF
   exact sf G0.call ho (.inr hk) I.st.hr.toHC T e fun x hx=>QF G0 K s _ _ _ _ _ _ _ L
    (I.put G0 ho si hC (.inr dH) hS (VR.dA (jI g w (by omega)) _ _ hx))
  |al=>
   have dH:c.cy i .al:=⟨o,ho,hk⟩
   obtain⟨v,hS,hR,hF⟩:=G0.al i dH
   have zq:i∈pl.en:=(I.Lu i dH).resolve_right si
   have QC:=c.mg I.run i zq dH
   have T:=I.reads G0.nt hR si tO (N:=c.nx i) (Nat.le_refl _) QC
   obtain⟨h',hh',QE⟩: ∃ h',((h'=dL (c.nx i)/\c.bd i=c.nx i)∨ ∃ cs,h'=cx (dL (c.nx i)) cs/\c.bd i=c.nx i+1)/\c.FE i (c.rf i) (dL (c.nx i))=.ok v h':=by
    rcases hF with⟨h1,h2⟩|⟨cs,h1,h2⟩
    ·exact⟨_,.inl ⟨rfl,h2⟩,h1⟩
    ·exact⟨_,.inr ⟨cs,rfl,h2⟩,h1⟩
   have e:gv c.P c.call c.nt c.ops.toList o (c.rf i) (dL (c.nx i))=.ok v h':=by
    rw[<-oU ho];exact QE
   have yc: ∀ j,j∈i::D->j≠i->j∈D:=fun j hj kj=>(List.mem_cons.1 hj).resolve_left kj
   have fin: ∀ (g':G) (w':World) (x:Value),(∀ id y,g.m id=some y->g'.m id=some y)->g'.cT=g.cT->g'.to h.next=g.to h.next->(w'=w∨ ∃ ob,w'=w.alloc ob)->
    c.BA g' w' h i->(∀ id y,g'.m id=some y->g.m id=some y∨(c.bd i=c.nx i+1/\id=c.nx i))->
    (∀ j∈pl.en,j∈D->c.cy j .al->c.bd j=c.nx j+1->c.bd i=c.nx i+1-> ∀ b,g'.m (c.nx i)=some (b,0)->g'.m (c.nx j)=some (b,0)->i=j)->
    VR (g'.to (max (c.bd i) h.next)) w' v x->c.Inv g' w' h (a.put o.dst x) (i::D) past pl:=by
    intro g' w' x hm hi pG hw hp NF Lw hx
    have M: ∀ N,jh (g.to N) w (g'.to N) w':=by
     intro N
     have hmN: ∀ id y,(g.to N).m id=some y->(g'.to N).m id=some y:=by
      intro id y e
      simp only[Go.Ab.G.to]at e ⊢
      by_cases eC:id<N
      ·rw[if_pos eC]at e ⊢;exact hm _ _ e
      ·rw[if_neg eC]at e;cases e
     rcases hw with rfl|⟨ob,rfl⟩
     ·exact⟨hmN,fun b k=>by simp only[Go.Ab.G.to]at k ⊢;rw[hi];exact k,fun _ _=>rfl,fun _=>Nat.le_refl _⟩
     ·exact mh hmN (by simp only[Go.Ab.G.to];exact hi) (by simp only[Go.Ab.G.to];exact ye)
    have RP: ∀ j,c.BA g w h j->c.BA g' w' h j:=by
     intro j p
     rcases hw with rfl|⟨ob,rfl⟩
     ·rcases p with p|⟨v,cs,b,C,el,vs,h1,h2,h3,h4,h5,h6,h7,h8,h9⟩
      ·exact .inl p
      ·exact .inr ⟨v,cs,b,C,el,vs,h1,h2,hm _ _ h3,h4,by rw[hi];exact h5,by rw[pG];exact h6,h7,bq.dA (M _) _ _ h8,h9⟩
     ·exact yd hm hi ye pG p
    have oM:HR (g'.to h.next) w' h/\Ext c.g0 c.w0 c.h0 (g'.to h.next) w' h:=by
     rw[pG]
     rcases hw with rfl|⟨ob,rfl⟩
     ·exact⟨I.st.hr,I.st.ext⟩
     ·obtain⟨E,H⟩:=vm I.st.hr ob
      exact⟨H,I.st.ext.trans E⟩
    exact
    {run:=I.run
     stat:=I.stat
     closed:=hC
     ru:=fun j hj=>(I.ru j hj).imp id (List.mem_cons_of_mem _)
     GO:=fun j hj h=>by
      rcases List.mem_cons.1 h with rfl|h
      ·cases c.fS dH (zw I.run j hj)
      ·exact I.GO j hj h
     oS:=fun j hj=>List.mem_cons_of_mem _ (I.oS j hj)
     Lu:=fun j hj=>(I.Lu j hj).imp id (List.mem_cons_of_mem _)
     st:=⟨oM.1,oM.2,fun j hj yb tL=>by
      by_cases xy:j=i
      ·subst xy;exact hp
      ·exact RP j (I.st.ya j hj (yc j yb xy) tL),fun j hj k hk jD kD jc kc bj bk b mj mk=>by
      by_cases xy:j=i<;>by_cases RQ:k=i
      ·exact xy.trans RQ.symm
      ·subst xy
       exact Lw k hk (yc k kD RQ) kc bk bj b mj mk
      ·subst RQ
       exact(Lw j hj (yc j jD xy) jc bj bk b mk mj).symm
      ·have nj:g.m (c.nx j)=some (b,0):=by
        rcases NF _ _ mj with m|⟨b1,b2⟩
        ·exact m
        ·exact absurd (c.mY I.run j hj i zq jc dH bj b1 b2) xy
       have nk:g.m (c.nx k)=some (b,0):=by
        rcases NF _ _ mk with m|⟨b1,b2⟩
        ·exact m
        ·exact absurd (c.mY I.run k hk i zq kc dH bk b1 b2) RQ
       exact I.st.BB j hj k hk (yc j jD xy) (yc k kD RQ) jc kc bj bk b nj nk⟩
     Lv:=fun n y e=>by
      rcases NF n y e with m|⟨b1,b2⟩
      ·exact(I.Lv n y m).imp id fun⟨j,hj,hD,r⟩=>⟨j,hj,List.mem_cons_of_mem _ hD,r⟩
      ·exact .inr ⟨i,zq,List.mem_cons_self,dH,b1,b2⟩
     kN:=og G0 ho I.size I.kN (fun j _=>M _) si (fun d hd=>⟨(hS d hd).1,v,(hS d hd).2,hx⟩)
     free:=qB ho I.size I.free (M _)
     size:=by rw[qA];exact I.size
     defers:=by rw[put_defers];exact I.defers}
   refine DL G0.call ho hk (DK (g:=g.to (c.nx i)) ye) T e (fun h1 x w' hw hv=>?_) (fun cs C el vs x h1 cU hCv hv=>?_)
   ·have hb:c.bd i=c.nx i:=by
     rcases hh' with⟨_,h2⟩|⟨cs,h2,_⟩
     ·exact h2
     ·rw[h2]at h1
      have:=congrArg Hp.next h1
      exact absurd this (Nat.succ_ne_self _)
    exact QF G0 K s _ _ _ _ _ _ _ L (fin g w' x (fun _ _ m=>m) rfl rfl hw (.inl hb) (fun id y m=>.inl m) (fun j _ _ _ _ k=>by omega) (hv _ _))
   ·have hb:c.bd i=c.nx i+1:=by
     rcases hh' with⟨h2,_⟩|⟨cs',_,h2⟩
     ·rw[h2]at h1
      have:=congrArg Hp.next h1
      exact absurd this.symm (Nat.succ_ne_self _)
     ·exact h2
    have RR:g.m (c.nx i)=none:=by
     cases hm:g.m (c.nx i)with
     |none=>rfl
     |some y=>
      rcases I.Lv _ _ hm with h|⟨j,hj,hD,tL,QG,hje⟩
      ·omega
      ·have:=c.mY I.run i zq j hj dH tL hb QG hje
       exact absurd (this▸hD) si
    have yZ: ∀ id y,g.m id=some y->(g.add (c.nx i) w.heap.size).m id=some y:=by
     intro id y m
     simp only[G.add]
     rw[if_neg (fun k=>by rw[k,RR]at m;cases m)]
     exact m
    have Lt:(g.add (c.nx i) w.heap.size).m (c.nx i)=some (w.heap.size,0):=by simp[G.add]
    have pG:(g.add (c.nx i) w.heap.size).to h.next=g.to h.next:=G.DO QC
    have rE:(w.alloc (.cells C el)).heap[w.heap.size]? =some (.cells C el (0,0)):=by rw[jK,if_pos rfl]
    have kb:C.size<=cM (w.alloc (.cells C el)) w.heap.size:=by rw[lY];exact Nat.le_refl _
    rw[h1]at QE
    refine QF G0 K s _ _ _ _ _ _ _ L (fin (g.add (c.nx i) w.heap.size) _ x yZ rfl pG (.inr ⟨_,rfl⟩) (.inr ⟨v,cs,w.heap.size,C,FT.nw C el,vs,hb,QE,Lt,rE,?_,?_,I.st.ext.size,?_,hCv⟩)
     (fun id y m=>?_) (fun j hj yb tL QG _ b m1 m2=>?_) (hv _ _ ?_ kb))
    ·intro k
     exact absurd (ye _ k) (Nat.lt_irrefl _)
    ·rw[pG]
     rintro⟨id,cs',s,e,m⟩
     obtain⟨_,_,_,hw,_⟩:=I.st.hr.row e m
     have:=(Array.getElem?_eq_some_iff.1 hw).1
     omega
    ·have hT:(g.add (c.nx i) w.heap.size).to (c.nx i)=g.to (c.nx i):=G.DO (Nat.le_refl _)
     rw[hT]
     exact bq.dA (mh (fun _ _ m=>m) rfl (by simp only[Go.Ab.G.to];exact ye)) _ _ cU
    ·by_cases eC:id=c.nx i
     ·exact .inr ⟨hb,eC⟩
     ·simp only[G.add,if_neg eC]at m
      exact .inl m
    ·rw[Lt]at m1
     obtain⟨rfl,_⟩:=Prod.mk.inj (Option.some.inj m1)
     have kj:c.nx j≠c.nx i:=fun k=>si (c.mY I.run i zq j hj dH tL hb QG k.symm▸yb)
     simp only[G.add,if_neg kj]at m2
     rcases I.st.ya j hj yb tL with hp|⟨_,_,b,_,_,_,_,_,h3,h4,_⟩
     ·omega
     ·rw[m2]at h3
      obtain⟨rfl,_⟩:=Prod.mk.inj (Option.some.inj h3)
      have:=(Array.getElem?_eq_some_iff.1 h4).1
      omega
    ·show(Go.Ab.G.to _ _).m (c.nx i)=_
     simp only[Go.Ab.G.to]
     rw[if_pos (by omega)]
     exact Lt
  |ch=>
   have dH:c.cy i .ch:=⟨o,ho,hk⟩
   have zq:=(I.ru i dH).resolve_right si
   cases pl with
   |last pre en=>cases zq
   |cons pre en q rest=>
    have hq:i=q:=by
     rcases List.mem_cons.1 zq with h|h
     ·exact h
     ·exact absurd (tO q (I.stat.2.2.1 i h)) (I.GO q List.mem_cons_self)
    subst hq
    obtain⟨_,h1,NG,_,v,h2,hF,hS,hR,hb,hle,fX⟩:=I.run
    have Zu:=c.kL NG
    have S:=c.settle en h NG (fun j hj hc=>tO j (I.stat.2.1 j hj hc)) I.st (fun j hj hc=>Nat.le_trans hle (c.mg fX j hj hc))
    have T:=I.reads G0.nt hR si tO (N:=h1.next) (Nat.le_refl _) Zu
    have e:gv c.P c.call c.nt c.ops.toList o (c.rf i) h1=.ok v h2:=by
     rw[<-oU ho];exact hF
    refine tF G0.call ho S.hr T e fun g' w' x E H' hv=>?_
    obtain⟨G',RS⟩: ∃ G':G,G'=⟨fun id=>if id<h2.next then g'.m id else g.m id,g'.cT⟩:=⟨_,rfl⟩
    have pG:G'.to h2.next=g':=by
     rw[RS]
     unfold Go.Ab.G.to
     cases g' with
     |mk m im=>
      simp only[G.mk.injEq,and_true]
      funext id
      by_cases eC:id<h2.next
      ·simp only[eC,if_true]
      ·simp only[eC,if_false]
       exact(H'.fresh id (by omega)).symm
    have M0:=E.mono S.hr.toHC
    have Lx: ∀ id y,g.m id=some y->h1.next<=id->h2.next<=id/\ ∃ j∈rest.en,j∈D/\c.cy j .al/\c.bd j=c.nx j+1/\id=c.nx j:=by
     intro id y m eC
     rcases I.Lv id y m with h|⟨j,hj,yb,tL,QG,rfl⟩
     ·omega
     ·rcases List.mem_append.1 hj with hj|hj
      ·have:=(c.iy NG j hj tL).2 QG
       omega
      ·exact⟨c.mg fX j hj tL,j,hj,yb,tL,QG,rfl⟩
    have hm: ∀ id y,g.m id=some y->G'.m id=some y:=by
     intro id y m
     rw[RS]
     show(if id<h2.next then g'.m id else g.m id)=some y
     by_cases eC:id<h2.next
     ·rw[if_pos eC]
      have:id<h1.next:=by
       refine Classical.byContradiction fun k=>?_
       have:=(Lx id y m (by omega)).1
       omega
      exact E.m id y (by simp only[Go.Ab.G.to];rw[if_pos this];exact m)
     ·rw[if_neg eC];exact m
    have QD:G'.cT=g'.cT:=by rw[RS]
    have M: ∀ B B',B<=B'->jh (g.to B) w (G'.to B') w':=by
     intro B B' hB
     refine⟨?_,fun b k=>?_,fun b k=>?_,E.rows⟩
     ·intro id y k
      simp only[Go.Ab.G.to]at k ⊢
      by_cases eC:id<B
      ·rw[if_pos eC]at k
       rw[if_pos (by omega)]
       exact hm id y k
      ·rw[if_neg eC]at k;cases k
     ·show G'.cT b
      rw[QD]
      exact E.cT b k
     ·exact E.j2 b (ye b k) (S.hr.gX k)
    refine QF G0 K s (i::D) (i::past) rest G' w' h2 (a.put o.dst x) L ?_
    have zx: ∀ j∈rest.en,j∈en++rest.en:=fun j hj=>List.mem_append_right _ hj
    have yc: ∀ j,c.cy j .al->j∈i::D->j∈D:=by
     intro j hj h
     refine(List.mem_cons.1 h).resolve_left fun e=>?_
     subst e
     cases c.fS dH hj
    exact
    {run:=fX
     stat:=I.stat.2.2.2
     closed:=hC
     ru:=fun j hj=>by
      rcases I.ru j hj with h|h
      ·rcases List.mem_cons.1 h with rfl|h
       ·exact .inr List.mem_cons_self
       ·exact .inl h
      ·exact .inr (List.mem_cons_of_mem _ h)
     GO:=fun j hj h=>by
      rcases List.mem_cons.1 h with rfl|h
      ·
       exact absurd (tO j (I.stat.2.2.1 j hj)) si
      ·exact I.GO j (List.mem_cons_of_mem _ hj) h
     oS:=fun j hj=>by
      rcases List.mem_cons.1 hj with rfl|hj
      ·exact List.mem_cons_self
      ·exact List.mem_cons_of_mem _ (I.oS j hj)
     Lu:=fun j hj=>by
      rcases I.Lu j hj with h|h
      ·rcases List.mem_append.1 h with h|h
       ·exact .inr (List.mem_cons_of_mem _ (tO j (I.stat.2.1 j h hj)))
       ·exact .inl h
      ·exact .inr (List.mem_cons_of_mem _ h)
     st:=⟨by rw[pG];exact H',by rw[pG];exact S.ext.trans E,fun j hj yb tL=>by
      rcases S.ya j hj (yc j tL yb) tL with p|⟨v,cs,b,C,el,vs,kd,Cf,h3,h4,h5,h6,h7,h8,h9⟩
      ·exact .inl p
      ·have ee:=(Array.getElem?_eq_some_iff.1 h4).1
       refine .inr ⟨v,cs,b,C,el,vs,kd,Cf,hm _ _ h3,by rw[E.j2 b ee h6];exact h4,?_,?_,h7,bq.dA (M _ _ (Nat.le_refl _)) _ _ h8,h9⟩
       ·rw[QD]
        intro k
        rcases E.A7 b k with k|k|k
        ·exact h5 k
        ·exact h6 k
        ·omega
       ·rw[pG]
        intro k
        rcases E.jg b k with k|k
        ·exact h6 k
        ·omega,fun j hj k hk jD kD jc kc bj bk b mj mk=>by
      have e1: ∀ l∈rest.en,l∈D->c.cy l .al->c.bd l=c.nx l+1->G'.m (c.nx l)=some (b,0)->g.m (c.nx l)=some (b,0):=by
       intro l hl lD lc lb ml
       have:=c.mg fX l hl lc
       rw[RS]at ml
       simp only at ml
       rw[if_neg (by omega)]at ml
       exact ml
      exact I.st.BB j (zx j hj) k (zx k hk) (yc j jc jD) (yc k kc kD) jc kc bj bk b (e1 j hj (yc j jc jD) jc bj mj) (e1 k hk (yc k kc kD) kc bk mk)⟩
     Lv:=fun n y m=>by
      by_cases hn:n<h2.next
      ·exact .inl hn
      ·rw[RS]at m
       simp only at m
       rw[if_neg hn]at m
       obtain⟨_,j,hj,yb,r⟩:=Lx n y m (by omega)
       exact .inr ⟨j,hj,List.mem_cons_of_mem _ yb,r⟩
     kN:=og G0 ho I.size I.kN (fun j _=>M _ _ (by omega)) si (fun d hd=>⟨(hS d hd).1,v,(hS d hd).2,by
      have:max (c.bd i) h2.next=h2.next:=by omega
      rw[this,pG];exact hv⟩)
     free:=qB ho I.size I.free (M _ _ (by omega))
     size:=by rw[qA];exact I.size
     defers:=by rw[put_defers];exact I.defers}
end Cx
end Go.Ab

noncomputable section
namespace Go.Ab
variable [Io]
def DP:Value->Value->Bool
 | .string a,.string b=>a.data.toList == b.data.toList
 | .pointer none,.pointer none=>true
 | .map none,.map none=>true
 | .nilFunc,.nilFunc=>true
 | .nilIface,.nilIface=>true
 | .slice none n c,.slice none n' c'=>Nat.beq n n'&&Nat.beq c c'
 | _,_=>false
mutual
def iG:AV->AV->Bool
 | .int k n,.int k' n'=>eM k k'&&eqI n n'
 | .bool a,.bool b=> !(xor a b)
 | .sc a,.sc b=>DP a b
 | .agg a,.agg b=>fx a b
 | .mD a,.mD b=>fx a b
 | .ref i o,.ref i' o'=>Nat.beq i i'&&Nat.beq o o'
 | .cR i o n s,.cR i' o' n' s'=>Nat.beq i i'&&Nat.beq o o'&&Nat.beq n n'&&Nat.beq s s'
 | .fg n a,.fg m b=>Nat.beq n m&&fx a b
 | .eg a,.eg b=>fx a b
 | .cS,.cS=>true
 | .iQ,.iQ=>true
 | .fn f a,.fn f' b=>Nat.beq f f'&&fx a b
 | .sym k s lo hi o,.sym k' s' Qv nT o'=>eM k k'&&(rz s s'&&(eqI lo Qv&&(eqI hi nT&&eqI o o')))
 | .any,.any=>true
 | _,_=>false
def fx:List AV->List AV->Bool
 | [],[]=>true
 |a::l,b::r=>iG a b&&fx l r
 | _,_=>false
end
omit [Io] in
theorem mZ{a b:Int}(h:eqI a b=true):a=b:=by
 cases a<;>cases b<;>simp[eqI]at h<;>simp[h]
omit [Io] in
theorem DQ{a b:ByteArray}(h:(a.data.toList == b.data.toList)=true):a=b:=by
 cases a with
 |mk a=>cases b with
  |mk b=>
   congr 1
   exact Array.toList_inj.1 (by simpa using h)
omit [Io] in
theorem DR{a b:Value}(h:DP a b=true):a=b:=by
 unfold DP at h
 split at h
 ·rw[DQ h]
 all_goals first|rfl|(cases h;done)|(rw[Bool.and_eq_true]at h;rw[Nat.eq_of_beq_eq_true h.1,Nat.eq_of_beq_eq_true h.2])
section
omit [Io]
mutual
theorem pH: ∀ (a b:AV),iG a b=true->a=b
 | .int k n,b,h=>by cases b<;>simp only[iG,Bool.and_eq_true]at h<;>try cases h
                    rename_i h1 h2
                    rw[bD.1 h1,mZ h2]
 | .bool x,b,h=>by cases b<;>simp only[iG]at h<;>try cases h
                   rename_i y
                   cases x<;>cases y<;>first|rfl|cases h
 | .sc x,b,h=>by cases b<;>simp only[iG]at h<;>try cases h
                 rw[DR h]
 | .agg x,b,h=>by cases b<;>simp only[iG]at h<;>try cases h
                  rw[eZ _ _ h]
 | .mD x,b,h=>by cases b<;>simp only[iG]at h<;>try cases h
                 rw[eZ _ _ h]
 | .ref i o,b,h=>by cases b<;>simp only[iG,Bool.and_eq_true,Nat.beq_eq]at h<;>try cases h
                    rename_i h1 h2
                    rw[h1,h2]
 | .cR i o n s,b,h=>by cases b<;>simp only[iG,Bool.and_eq_true,Nat.beq_eq]at h<;>try (cases h;done)
                       obtain⟨⟨⟨h1,h2⟩,h3⟩,h4⟩:=h
                       rw[h1,h2,h3,h4]
 | .fg n x,b,h=>by cases b<;>simp only[iG,Bool.and_eq_true,Nat.beq_eq]at h<;>try cases h
                   rename_i h1 h2
                   rw[h1,eZ _ _ h2]
 | .eg x,b,h=>by cases b<;>simp only[iG]at h<;>try cases h
                 rw[eZ _ _ h]
 | .cS,b,h=>by cases b<;>simp only[iG]at h<;>first|rfl|cases h
 | .iQ,b,h=>by cases b<;>simp only[iG]at h<;>first|rfl|cases h
 | .any,b,h=>by cases b<;>simp only[iG]at h<;>first|rfl|cases h
 | .sym k s lo hi o,b,h=>by cases b<;>simp only[iG,Bool.and_eq_true]at h<;>try (cases h;done)
                            obtain⟨h1,h2,h3,h4,h5⟩:=h
                            rw[bD.1 h1,mT h2,mZ h3,mZ h4,mZ h5]
 | .fn f x,b,h=>by cases b<;>simp only[iG,Bool.and_eq_true,Nat.beq_eq]at h<;>try cases h
                   rename_i h1 h2
                   rw[h1,eZ _ _ h2]
theorem eZ: ∀ (a b:List AV),fx a b=true->a=b
 | [],b,h=>by cases b with
  |nil=>rfl
  |cons _ _=>simp[fx]at h
 |a::l,b,h=>by
  cases b with
  |nil=>simp[fx]at h
  |cons c r=>
   simp only[fx,Bool.and_eq_true]at h
   rw[pH _ _ h.1,eZ _ _ h.2]
end
end
def ck(s:dj)(f:dg)(k:ic):ic:=fun t h=>Ro.rec Rt.bad (fun v _=>Option.rec Rt.bad (fun u=>Bool.rec Rt.bad (k t h) (iG u v)) (s t)) (f t h)
def mn(f:dg):dg:=fun t h=>Ro.rec Ro.bad (fun v h'=>Bool.rec Ro.bad (Ro.ok v h') (Nat.ble h.next h'.next)) (f t h)
def RT:Cl->Cl->Bool
 | .p0,.p0| .p1,.p1| .al,.al| .ch,.ch=>true
 | _,_=>false
omit [Io] in
theorem DS{a b:Cl}(h:RT a b=true):a=b:=by cases a<;>cases b<;>first|rfl|cases h
def gG(i:Nat)(l:List Nat):Bool:=List.rec false (fun a _ ih=>Bool.rec ih true (Nat.beq a i)) l
omit [Io] in
theorem gk{i:Nat}: ∀ {l:List Nat},gG i l=true↔i∈l
 | []=>by simp[gG]
 |a::l=>by
  show(Bool.rec (gG i l) true (Nat.beq a i):Bool)=true↔_
  cases h:Nat.beq a i with
  |true=>
   have:=Nat.eq_of_beq_eq_true h
   subst this
   simp
  |false=>
   have: ¬ i=a:=fun e=>by subst e;simp at h
   simp only[List.mem_cons,this,false_or]
   exact gk
def yf(p:Nat->Bool)(l:List Nat):Bool:=List.rec false (fun a _ ih=>Bool.rec ih true (p a)) l
omit [Io] in
theorem na{p:Nat->Bool}: ∀ {l:List Nat},yf p l=true↔ ∃ i∈l,p i=true
 | []=>by simp[yf]
 |a::l=>by
  show(Bool.rec (yf p l) true (p a):Bool)=true↔_
  cases h:p a with
  |true=>simp[h]
  |false=>simp only[List.mem_cons,exists_eq_or_imp,h,Bool.false_eq_true,false_or];exact na
def allI(p:Nat->Oper->Bool)(l:List Oper):Nat->Bool:=
 List.rec (fun _=>true) (fun o _ ih i=>Bool.rec false (ih (Nat.add i 1)) (p i o)) l
omit [Io] in
theorem sj{p:Nat->Oper->Bool}: ∀ {l:List Oper} {k:Nat},allI p l k=true-> ∀ i o,l[i]? =some o->p (k+i) o=true
 | [],k,_,i,o,h=>by simp at h
 |a::l,k,hh,i,o,h=>by
  change (Bool.rec false (allI p l (k+1)) (p k a):Bool)=true at hh
  cases hp:p k a with
  |false=>rw[hp]at hh;cases hh
  |true=>
   rw[hp]at hh
   cases i with
   |zero=>simp at h;subst h;exact hp
   |succ i=>
    have:=sj hh i o (by simpa using h)
    rwa [show k+1+i=k+(i+1) by omega]at this
omit [Io] in
theorem gm{p:Nat->Oper->Bool}{l:List Oper}(h:allI p l 0=true)(i:Nat)(o:Oper)(ho:l[i]? =some o):p i o=true:=by
 have:=sj h i o ho
 simpa using this
def zy(l:List Oper):Bool:=allI (fun i o=>dK (fun e=>Bool.rec true (Nat.blt e.on i) (Region.binds .any e)) o.after.toList) l 0
omit [Io] in
theorem IA{ops:Array Oper}(h:zy ops.toList=true):Down ops:=by
 intro i o e ho he hb
 have:=gm h i o (by simpa using ho)
 rw[eP,List.all_eq_true]at this
 have:=this e (by simpa using he)
 rw[hb]at this
 exact bh.1 this
def so(o:Oper)(d:Nat):Bool:=match o.dst with
 |some e=>Nat.beq e d
 |none=>false
omit [Io] in
theorem oh{o:Oper}{d:Nat}(h:o.dst=some d):so o d=true:=by unfold so;rw[h];simp
def IB(l:List Oper):Bool:=allI (fun i o=>match o.dst with
 |some d=>allI (fun j o'=>Bool.rec true (Nat.beq i j) (so o' d)) l 0
 |none=>true) l 0
section
variable (P:Program)(call:bP)(nt:Nat)(L:List Oper)
def nb(k:Cl)(i:Nat):Bool:=match gx L i with
 |some o=>RT (jG P call o.op).1 k
 |none=>false
def xz(bH:List Nat)(i:Nat):Bool:=match gx L i with
 |some o=>dK (fun u=>Nat.blt u nt&&Bool.rec (allI (fun j o'=>Bool.rec true (!gG j bH&&(x7 L j i&& !x7 L i j)) (so o' u)) L 0) true (allI (fun j o'=>Bool.rec true (gG j bH&&x7 L i j) (so o' u)) L 0)) (lA L o)
 |none=>false
def IC(i:Nat)(k:ic):ic:=match gx L i with
 |some o=>match o.dst with
  |some d=>ej (Nat.blt d nt) (st (sT d) (gv P call nt L o) k) (fun _ _=>.bad)
  |none=>sn (gv P call nt L o) k
 |none=>fun _ _=>.bad
def NH(i:Nat)(k:ic):ic:=match gx L i with
 |some o=>match o.dst with
  |some d=>ej (Nat.blt d nt) (ck (oT d) (gv P call nt L o) k) (fun _ _=>.bad)
  |none=>sn (gv P call nt L o) k
 |none=>fun _ _=>.bad
def runM(i:Nat)(k:ic):ic:=match gx L i with
 |some o=>match o.dst with
  |some d=>ej (Nat.blt d nt) (st (sT d) (mn (gv P call nt L o)) k) (fun _ _=>.bad)
  |none=>sn (mn (gv P call nt L o)) k
 |none=>fun _ _=>.bad
def vN:List Nat->List Nat->(List Nat->ic)->ic
 | [],bH,k=>k bH
 |i::l,bH,k=>ej (xz nt L bH i) (ej (gG i bH) (ej (nb P call L .p1 i) (NH P call nt L i (vN l bH k)) (fun _ _=>.bad))
  (ej (nb P call L .p0 i||nb P call L .p1 i) (IC P call nt L i (vN l (i::bH) k)) (fun _ _=>.bad))) (fun _ _=>.bad)
def yg:List Nat->List Nat->(List Nat->ic)->ic
 | [],bH,k=>k bH
 |i::l,bH,k=>ej (xz nt L bH i&&(!gG i bH&&(nb P call L .p0 i||nb P call L .al i))) (IC P call nt L i (yg l (i::bH) k)) (fun _ _=>.bad)
def jm:gS->List Nat->ic
 | .last pre en,bH=>vN P call nt L pre bH fun bH=>yg P call nt L en bH fun bH=>ej (allI (fun i _=>gG i bH) L 0) fi (fun _ _=>.bad)
 | .cons pre en q rest,bH=>vN P call nt L pre bH fun bH=>yg P call nt L en bH fun bH=>
   ej (xz nt L bH q&&(!gG q bH&&nb P call L .ch q)) (runM P call nt L q (jm rest (q::bH))) (fun _ _=>.bad)
def sr:gS->List Nat->Bool
 | .last pre _,past=>allI (fun i _=>Bool.rec true (yf (fun j=>x7 L j i) past||gG i pre) (nb P call L .p1 i)) L 0
 | .cons pre en q rest,past=>allI (fun i _=>Bool.rec true (yf (fun j=>x7 L j i) past||(yf (fun j=>x7 L i j) (q::rest.ru)||gG i pre)) (nb P call L .p1 i)) L 0&&
   (dK (fun i=>Bool.rec true (x7 L q i) (nb P call L .al i)) en&&(dK (fun q'=>x7 L q' q) rest.ru&&sr rest (q::past)))
end
end Go.Ab
