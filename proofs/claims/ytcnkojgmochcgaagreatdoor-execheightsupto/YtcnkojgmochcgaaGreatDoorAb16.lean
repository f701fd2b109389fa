import Derived.Test.YtcnkojgmochcgaaGreatDoorAbE
noncomputable section
namespace Go.Ab
variable [Io]
section
variable {P:Program}{call:cY}
omit [Io] in
theorem rb{t t':Tm}: ∀ (l:List Operand),(∀ x∈l,ba x t=ba x t')->sA (l.map ba) t=sA (l.map ba) t'
 | [],_=>rfl
 |x::l,h=>by
  show(Option.rec none (fun v=>Option.rec none (fun vs=>some (v::vs)) (sA (l.map ba) t)) (ba x t):Option (List AV))=
   Option.rec none (fun v=>Option.rec none (fun vs=>some (v::vs)) (sA (l.map ba) t')) (ba x t')
  rw[h x List.mem_cons_self,rb l fun y hy=>h y (List.mem_cons_of_mem _ hy)]
omit [Io] in
theorem vo{t t':Tm}: ∀ (l:List (Nat×Operand)),(∀ x∈l.map (·.2),ba x t=ba x t')->mJ (nL l) t=mJ (nL l) t'
 | [],_=>rfl
 |p::l,h=>by
  show(match ba p.2 t with|some v=>(match mJ (nL l) t with|some vs=>some ((p.1,v)::vs)|none=>none)|none=>none)=
   (match ba p.2 t' with|some v=>(match mJ (nL l) t' with|some vs=>some ((p.1,v)::vs)|none=>none)|none=>none)
  rw[h p.2 List.mem_cons_self,vo l fun y hy=>h y (List.mem_cons_of_mem _ hy)]
omit [Io] in
theorem vp{t t':Tm}{place:Nat->Option (Nat×Nat)}: ∀ (l:List (Nat×Operand)) (ps:List (Nat×Nat×eR)),sM place l=some ps->(∀ x∈l.map (·.2),ba x t=ba x t')->mK ps t=mK ps t'
 | [],ps,e,_=>by cases e;rfl
 |p::l,ps,e,h=>by
  change (match place p.1 with|some (off,size)=>(match sM place l with|some r=>some ((off,size,ba p.2)::r)|none=>none)|none=>none)=some ps at e
  split at e
  ·split at e
   ·rename_i r hr
    cases e
    show(match ba p.2 t with|some v=>(match mK r t with|some vs=>some ((_,_,v)::vs)|none=>none)|none=>none)=
     (match ba p.2 t' with|some v=>(match mK r t' with|some vs=>some ((_,_,v)::vs)|none=>none)|none=>none)
    rw[h p.2 List.mem_cons_self,vp l r hr fun y hy=>h y (List.mem_cons_of_mem _ hy)]
   ·cases e
  ·cases e
omit [Io] in
theorem vq{t t':Tm}{d:Nat}(x:Option Operand)(h: ∀ y∈x.toList,ba y t=ba y t'):mL (x.map ba) t d=mL (x.map ba) t' d:=by
 cases x with
 |none=>rfl
 |some y=>simp only[Option.map_some,mL,h y (by simp)]
omit [Io] in
theorem Ch{t t':Tm}{n:Nat}(lo hi:Option Operand)(h1: ∀ y∈lo.toList,ba y t=ba y t')(h2: ∀ y∈hi.toList,ba y t=ba y t'):
 bounds (lo.map ba) (hi.map ba) t n=bounds (lo.map ba) (hi.map ba) t' n:=by
 unfold bounds
 rw[vq lo h1,vq hi h2]
def eZ(t t':Tm)(h:Hp)(f:eP):Prop:=f t h=f t' h
omit [Io] in
theorem MP{t t':Tm}{h:Hp}:eZ t t' h cq:=rfl
omit [Io] in
theorem lg{t t':Tm}{h:Hp}{c:Bool}{f:eP}(e:eZ t t' h f):eZ t t' h (gD c f cq):=by cases c;exact MP;exact e
omit [Io] in
theorem Ig{t t':Tm}{h:Hp}{c:Bool}{f f':eP}(e:eZ t t' h f)(e':eZ t t' h f'):eZ t t' h (gD c f f'):=by cases c;exact e';exact e
omit [Io] in
theorem MQ{t t':Tm}{h:Hp}(o:Op)(e: ∀ x∈o.operands.toList,ba x t=ba x t'):eZ t t' h (nM P call o).2:=by
 cases o<;>simp only[nM]
 case move x=>simp only[eZ,aa,e x (by simp[Op.operands])]
 case assign x=>simp only[eZ,aa,e x (by simp[Op.operands])]
 case pick c x y=>simp only[eZ,aS,aa,e c (by simp[Op.operands]),e x (by simp[Op.operands]),e y (by simp[Op.operands])]
 case alloc T=>unfold HX;split<;>rfl
 case box T x=>simp only[eZ,dr,e x (by simp[Op.operands])]
 case build T ps=>
  unfold u9
  split
  ·split
   ·split
    ·rename_i q h3
     simp only[eZ,aq,vp (t:=t) (t':=t') ps.toList q h3 (fun x hx=>e x (by simpa[Op.operands]using hx))]
    ·rfl
   ·rfl
  ·rfl
 case buildSlice T n ps=>
  have hp:=vo (t:=t) (t':=t') ps.toList (fun x hx=>e x (by simpa[Op.operands]using hx))
  unfold Hj
  split
  ·split
   ·split
    ·refine lg ?_
     simp only[eZ,bH,hp]
    ·rfl
   ·rfl
  ·rfl
 case load T x=>
  unfold zV
  split
  ·split
   ·simp only[eZ,bc,e x (by simp[Op.operands])]
   ·rfl
  ·rfl
 case store T x y=>
  unfold ye
  split
  ·refine lg ?_
   simp only[eZ,aA,e x (by simp[Op.operands]),e y (by simp[Op.operands])]
  ·rfl
 case nilCheck x=>simp only[eZ,aD,e x (by simp[Op.operands])]
 case binOp op T x y yT=>
  cases zU P op T with
  |none=>rfl
  |some f=>simp only[eZ,ae,e x (by simp[Op.operands]),e y (by simp[Op.operands])]
 case unOp op T x=>
  cases SA op with
  |none=>rfl
  |some f=>simp only[eZ,cE,e x (by simp[Op.operands])]
 case convert S D x=>
  have hx:=e x (by simp[Op.operands])
  split
  ·simp only[yh]
   split
   ·split
    ·split
     ·simp only[eZ,nH,hx]
     ·rfl
    ·rfl
   ·split
    ·split
     ·refine lg ?_
      simp only[eZ,qb,hx]
     ·rfl
    ·rfl
   ·rfl
  ·simp only[xj]
   split
   ·split
    ·simp only[eZ,cE,hx]
    ·rfl
   ·rfl
 case makeFunc f first caps=>
  cases f<;>try rfl
  simp only
  split
  ·simp only[eZ,Lw,rb (t:=t) (t':=t') caps.toList (fun x hx=>e x (by simp[Op.operands];exact .inr (by simpa using hx)))]
  ·rfl
 case makeMap T r=>cases r<;>rfl
 case makeSlice T l c=>
  have h1:=e l (by simp[Op.operands])
  have h2:=e c (by simp[Op.operands])
  unfold zO
  split
  ·split
   ·split
    ·refine lg ?_
     simp only[eZ,lO,h1,h2]
    ·rfl
   ·rfl
  ·rfl
 case slice T x lo hi mx=>
  cases mx with
  |some m=>
   have hx:=e x (by simp[Op.operands])
   have hm:=e m (by simp[Op.operands])
   have hh: ∀ y∈hi.toList,ba y t=ba y t':=fun y hy=>e y (by simp[Op.operands];right;right;left;simpa using hy)
   simp only
   unfold q9
   split
   ·rename_i y
    have hy:=hh y (by simp)
    split
    ·split
     ·simp only[eZ,uW,wO,hx,hy,hm]
     ·rfl
    ·rfl
   ·rfl
  |none=>
  have hx:=e x (by simp[Op.operands])
  have hl: ∀ y∈lo.toList,ba y t=ba y t':=fun y hy=>e y (by simp[Op.operands];right;left;simpa using hy)
  have hh: ∀ y∈hi.toList,ba y t=ba y t':=fun y hy=>e y (by simp[Op.operands];right;right;simpa using hy)
  have hb: ∀ n,bounds (lo.map ba) (hi.map ba) t n=bounds (lo.map ba) (hi.map ba) t' n:=fun n=>Ch lo hi hl hh
  simp only
  unfold vg
  split
  ·simp only[eZ,dG,hx,hb]
  ·split
   ·simp only[eZ,cB,mM,hx,hb]
   ·rfl
  ·split
   ·refine lg ?_
    simp only[eZ,gq,hx,hb]
   ·rfl
  ·rfl
 case fieldAddr T x n=>
  have hx:=e x (by simp[Op.operands])
  unfold lU
  split
  ·split
   ·split
    ·refine lg ?_
     simp only[eZ,ab,hx]
    ·rfl
   ·rfl
  ·rfl
 case field T x n=>
  have hx:=e x (by simp[Op.operands])
  unfold ve
  split
  ·split
   ·split
    ·split
     ·simp only[eZ,lP,hx]
     ·rfl
    ·rfl
   ·rfl
  ·rfl
 case indexAddr T x y=>
  have hx:=e x (by simp[Op.operands])
  have hy:=e y (by simp[Op.operands])
  unfold lV
  split
  ·split
   ·simp only[eZ,bt,hx,hy]
   ·rfl
  ·split
   ·simp only[eZ,oB,hx,hy]
   ·rfl
  ·rfl
 case index T x y=>
  have hx:=e x (by simp[Op.operands])
  have hy:=e y (by simp[Op.operands])
  unfold vf
  split
  ·split
   ·split
    ·simp only[eZ,kF,hx,hy]
    ·rfl
   ·rfl
  ·simp only[eZ,cC,hx,hy]
  ·rfl
 case extract x i=>simp only[eZ,aL,e x (by simp[Op.operands])]
 case call c=>
  have lW: ∀ x∈c.args.toList,ba x t=ba x t':=fun x hx=>e x (by simp[Op.operands,Call.operands];right;simpa using hx)
  cases hb:iA P c with
  |some f=>
   simp only
   unfold iA at hb
   split at hb
   ·split at hb
    ·rename_i x T h1 h2
     cases hb
     have hx:=lW x (by simp[h1])
     unfold HV
     split
     ·simp only[eZ,jf,hx]
     ·simp only[eZ,aT,wO,hx]
     ·rfl
     ·rfl
    ·cases hb;rfl
   ·split at hb
    ·rename_i x T h1 h2
     cases hb
     have hx:=lW x (by simp[h1])
     unfold HW
     split
     ·simp only[eZ,qS,wO,hx]
     ·rfl
    ·cases hb;rfl
   ·split at hb
    ·rename_i x y h1
     cases hb
     simp only[eZ,sD,ae,lW x (by simp[h1]),lW y (by simp[h1])]
    ·cases hb;rfl
   ·split at hb
    ·rename_i x y h1
     cases hb
     simp only[eZ,wD,ae,lW x (by simp[h1]),lW y (by simp[h1])]
    ·cases hb;rfl
   ·cases hb
  |none=>
   simp only
   unfold Dx
   split
   ·split
    ·rename_i s x T T' h1 h2
     have h3:=lW s (by simp[h1])
     have h4:=lW x (by simp[h1])
     refine Ig ?_ ?_
     ·unfold uy
      split
      ·split
       ·split
        ·refine lg ?_
         simp only[eZ,aQ,nI,wO,h3,h4]
        ·rfl
       ·rfl
      ·rfl
     ·unfold Du
      split
      ·unfold Dt
       split
       ·split
        ·split
         ·split
          ·refine lg ?_
           simp only[eZ,qU,h3,h4]
          ·rfl
         ·rfl
        ·rfl
       ·rfl
      ·unfold Ds
       split
       ·split
        ·split
         ·split
          ·refine lg ?_
           simp only[eZ,n9,h3,h4]
          ·rfl
         ·rfl
        ·rfl
       ·rfl
    ·rfl
   ·split
    ·rename_i d s T T' h1 h2
     have h3:=lW d (by simp[h1])
     have h4:=lW s (by simp[h1])
     unfold Dw
     split
     ·split
      ·simp only[eZ,jL,wO,h3,h4]
      ·rfl
     ·rfl
    ·rfl
   ·rename_i f args qy
    simp only[eZ,aj,rb (t:=t) (t':=t') args.toList lW]
   ·rename_i f args qy _
    have hf:=e f (by simp[Op.operands,Call.operands])
    simp only[eZ,gH,hf,rb (t:=t) (t':=t') args.toList lW]
   ·rfl
 all_goals rfl
def z8:Operand->List Nat
 | .tmp i=>[i]
 | _=>[]
def pP(all:List Oper)(o:Oper):List Nat:=
 app (List.rec [] (fun x _ ih=>app (z8 x) ih) o.op.operands.toList) (match o.guard with
  |none=>[]
  |some (j,_)=>match kE all j with
   |some oj=>match oj.dst with
    |some d=>[d]
    |none=>[]
   |none=>[])
omit [Io] in
theorem Aa{x:Operand}{i:Nat}: ∀ {l:List Operand},x∈l->i∈z8 x->i∈(List.rec [] (fun x _ ih=>app (z8 x) ih) l:List Nat)
 | [],h,_=>by cases h
 |y::l,h,hi=>by
  show i∈app (z8 y) _
  rw[dn]
  cases h with
  |head=>exact List.mem_append_left _ hi
  |tail _ h=>exact List.mem_append_right _ (Aa h hi)
omit [Io] in
theorem MR{nt:Nat}{all:List Oper}{o:Oper}{t t':Tm}{h:Hp}(e: ∀ u∈pP all o,t.at u=t'.at u):kC P call nt all o t h=kC P call nt all o t' h:=by
 have hx: ∀ x∈o.op.operands.toList,ba x t=ba x t':=by
  intro x hx
  cases x with
  |tmp i=>
   have:=e i (by unfold pP;rw[dn];exact List.mem_append_left _ (Aa hx (by simp[z8])))
   show gD (Nat.blt i 512) (oT i) oX t=gD (Nat.blt i 512) (oT i) oX t'
   cases Nat.blt i 512
   ·rfl
   ·exact this
  |const v=>show(match LN v with|some a=>oC a|none=>oX) t=(match LN v with|some a=>oC a|none=>oX) t';cases LN v<;>rfl
  |global g=>rfl
  |func f=>rfl
 have hd:=MQ (P:=P) (call:=call) (h:=h) o.op hx
 unfold kC
 cases hg:o.guard with
 |none=>exact hd
 |some p=>
  obtain⟨j,want⟩:=p
  simp only
  cases hj:kE all j with
  |none=>rfl
  |some oj=>
   simp only
   cases hdj:oj.dst with
   |none=>rfl
   |some d=>
    simp only
    cases Nat.blt d nt with
    |false=>rfl
    |true=>
     have Dr:t.at d=t'.at d:=e d (by
      unfold pP
      rw[dn,hg]
      refine List.mem_append_right _ ?_
      simp[hj,hdj])
     show gF (oT d) want (nM P call o.op).2 t h=gF (oT d) want (nM P call o.op).2 t' h
     unfold gF
     unfold eZ at hd
     rw[hd]
     show(match t.at d with|some (.bool b)=>_|some (.qP [])=>_| _=>_)=(match t'.at d with|some (.bool b)=>_|some (.qP [])=>_| _=>_)
     rw[Dr]
end
end Go.Ab

noncomputable section
namespace Go.Ab
variable [Io]
section
variable {P:Program}{call:cY}
def ke(f:eP):Prop:= ∀ t h h0,f t h=(match f t h0 with| .ok v _=>.ok v h| .bad=>.bad)
omit [Io] in
theorem ke.ok{f:eP}(i:ke f){t:Tm}{h h':Hp}{v:AV}(e:f t h=.ok v h'):h'=h/\ ∀ h0,f t h0=.ok v h0:=by
 refine⟨?_,fun h0=>by rw[i t h0 h,e]⟩
 have:=i t h h
 rw[e]at this
 exact(Ro.ok.inj this).2
omit [Io] in
theorem dx:ke cq:=fun _ _ _=>rfl
omit [Io] in
theorem DA{c:Bool}{f:eP}(i:ke f):ke (gD c f cq):=by cases c;exact dx;exact i
omit [Io] in
theorem o5{x:eR}:ke (aa x):=by intro t h h0;unfold aa;cases x t<;>rfl
omit [Io] in
theorem Ih{c x y:eR}:ke (aS c x y):=by
 intro t h h0;unfold aS;cases c t<;>try rfl
 rename_i a;cases a<;>try rfl
 rename_i b;cases b
 ·exact o5 t h h0
 ·exact o5 t h h0
omit [Io] in
theorem MS{x:eR}:ke (aD x):=by intro t h h0;unfold aD;cases x t<;>try rfl
                               rename_i a;cases a<;>rfl
omit [Io] in
theorem yp{f:AV->AV->Option AV}{x y:eR}:ke (ae f x y):=by
 intro t h h0;unfold ae;cases x t<;>try rfl
 rename_i a;cases y t<;>try rfl
 rename_i b;simp only;cases f a b<;>rfl
omit [Io] in
theorem Ii{f:AV->Option AV}{x:eR}:ke (cE f x):=by
 intro t h h0;unfold cE;cases x t<;>try rfl
 rename_i a;simp only;cases f a<;>rfl
omit [Io] in
theorem SC{f:FuncId}{l:List eR}:ke (Lw f l):=by intro t h h0;unfold Lw;cases sA l t<;>rfl
omit [Io] in
theorem FF{z:List AV}{ps:List (Nat×Nat×eR)}:ke (aq z ps):=by
 intro t h h0;unfold aq;cases mK ps t<;>try rfl
 rename_i vs;simp only;cases uU vs z<;>rfl
omit [Io] in
theorem wJ{n:Nat}{x:eR}:ke (ab n x):=by intro t h h0;unfold ab;cases x t<;>try rfl
                                        rename_i a;cases a<;>rfl
omit [Io] in
theorem FG{n m:Nat}{b:Bool}{x:eR}:ke (lP n m b x):=by
 intro t h h0;unfold lP;cases x t<;>try rfl
 rename_i a;cases a<;>try rfl
 rename_i cs;simp only;cases part b cs n m<;>rfl
omit [Io] in
theorem MT{n:Nat}{x y:eR}:ke (bt n x y):=by
 intro t h h0;unfold bt;cases y t<;>try rfl
 rename_i a;cases a<;>try rfl
 rename_i k i;cases i<;>try rfl
 rename_i i;simp only;cases x t<;>try rfl
 rename_i a;cases a<;>try rfl
 ·rename_i id off m sz;simp only;cases(Nat.blt i m&&Nat.beq sz n)<;>rfl
 ·rename_i m cs;simp only;cases Nat.blt i m<;>rfl
omit [Io] in
theorem MU{m n:Nat}{x y:eR}:ke (oB m n x y):=by
 intro t h h0;unfold oB;cases y t<;>try rfl
 rename_i a;cases a<;>try rfl
 rename_i k i;cases i<;>try rfl
 rename_i i;simp only;cases x t<;>try rfl
 rename_i a;cases a<;>try rfl
 ·simp only;cases Nat.blt i m<;>rfl
 ·simp only;cases Nat.blt i m<;>rfl
omit [Io] in
theorem FI{m n:Nat}{b:Bool}{x y:eR}:ke (kF m n b x y):=by
 intro t h h0;unfold kF;cases x t<;>try rfl
 rename_i a;cases a<;>try rfl
 rename_i cs;simp only;cases y t<;>try rfl
 rename_i a;cases a<;>try rfl
 rename_i k i;cases i<;>try rfl
 rename_i i;simp only;cases Nat.blt i m<;>try rfl
 simp only[cond_true];cases part b cs (Nat.mul i n) n<;>rfl
omit [Io] in
theorem Ci{x y:eR}:ke (cC x y):=by
 intro t h h0;unfold cC;cases x t<;>try rfl
 rename_i a;cases a<;>try rfl
 rename_i v;cases v<;>try rfl
 rename_i s;simp only;cases y t<;>try rfl
 rename_i a;cases a<;>try rfl
 ·rename_i k i;cases i<;>try rfl
  rename_i i;simp only;cases kE s.data.toList i<;>rfl
 ·rename_i k sv lo hi o;simp only;cases(!(p5 (Int.add lo o) 0)&&p5 (Int.add hi o) (.ofNat s.size))<;>rfl
omit [Io] in
theorem Ac{x:eR}{i:Nat}:ke (aL x i):=by
 intro t h h0;unfold aL;cases x t<;>try rfl
 rename_i a;cases a<;>try rfl
 rename_i vs;simp only;cases kE vs i<;>rfl
omit [Io] in
theorem Ij{x:eR}:ke (jf x):=by
 intro t h h0;unfold jf;cases x t<;>try rfl
 rename_i a;cases a<;>try rfl
 rename_i v;cases v<;>rfl
omit [Io] in
theorem MV{x:eR}:ke (aT x):=by
 intro t h h0;unfold aT;cases x t<;>try rfl
 rename_i a;cases a<;>rfl
omit [Io] in
theorem MW{x:eR}:ke (qS x):=by
 intro t h h0;unfold qS;cases x t<;>try rfl
 rename_i a;cases a<;>rfl
omit [Io] in
theorem MX{o:Op}(hc:(nM P call o).1=.p0):ke (nM P call o).2:=by
 cases o<;>simp only[nM]at hc ⊢
 case move x=>exact o5
 case assign x=>exact o5
 case pick c x y=>exact Ih
 case alloc T=>cases hc
 case box T x=>cases hc
 case build T ps=>
  unfold u9
  split
  ·split
   ·split
    ·exact FF
    ·exact dx
   ·exact dx
  ·exact dx
 case buildSlice T n ps=>cases hc
 case load T x=>cases hc
 case store T x y=>cases hc
 case nilCheck x=>exact MS
 case binOp op T x y yT=>
  cases zU P op T with
  |some f=>exact yp
  |none=>exact dx
 case unOp op T x=>
  cases SA op with
  |some f=>exact Ii
  |none=>exact dx
 case convert S D x=>
  have fL:ke (xj P S D x):=by
   unfold xj
   split
   ·split
    ·exact Ii
    ·exact dx
   ·exact dx
  split
  ·rename_i h
   rw[h]at hc
   cases hc
  ·exact fL
 case makeFunc f first caps=>
  cases f<;>try (cases hc;done)
  simp only
  cases first.toList with
  |nil=>exact SC
  |cons a l=>exact dx
 case makeSlice T l c=>cases hc
 case slice T x lo hi mx=>cases mx<;>cases hc
 case fieldAddr T x n=>
  unfold lU
  split
  ·split
   ·split
    ·exact DA wJ
    ·exact dx
   ·exact dx
  ·exact dx
 case field T x n=>
  unfold ve
  split
  ·split
   ·split
    ·split
     ·exact FG
     ·exact dx
    ·exact dx
   ·exact dx
  ·exact dx
 case indexAddr T x y=>
  unfold lV
  split
  ·split
   ·exact MT
   ·exact dx
  ·split
   ·exact MU
   ·exact dx
  ·exact dx
 case index T x y=>
  unfold vf
  split
  ·split
   ·split
    ·exact FI
    ·exact dx
   ·exact dx
  ·exact Ci
  ·exact dx
 case extract x i=>exact Ac
 case call c=>
  cases hb:iA P c with
  |none=>rw[hb]at hc;cases hc
  |some f=>
   simp only
   unfold iA at hb
   split at hb
   ·split at hb
    ·cases hb
     unfold HV
     split
     ·exact Ij
     ·exact MV
     ·exact o5
     ·exact dx
    ·cases hb;exact dx
   ·split at hb
    ·cases hb
     unfold HW
     split
     ·exact MW
     ·exact dx
    ·cases hb;exact dx
   ·split at hb
    ·cases hb;exact yp
    ·cases hb;exact dx
   ·split at hb
    ·cases hb;exact yp
    ·cases hb;exact dx
   ·cases hb
 case makeMap T r=>cases r<;>cases hc
 all_goals (cases hc)
def FJ(f:eP):Prop:= ∀ t h v h',f t h=.ok v h'-> ∀ h0:Hp,h0.next=h.next->(h'=h/\f t h0=.ok v h0)∨ ∃ cs,h'=dK h cs/\f t h0=.ok v (dK h0 cs)
omit [Io] in
theorem iB:FJ cq:=by intro t h v h' e;cases e
omit [Io] in
theorem vr{c:Bool}{f:eP}(i:FJ f):FJ (gD c f cq):=by cases c;exact iB;exact i
omit [Io] in
theorem Ik{o:Op}(hc:(nM P call o).1=.al):FJ (nM P call o).2:=by
 cases o<;>simp only[nM]at hc ⊢
 case alloc T=>
  unfold HX
  split
  ·intro t h v h' e h0 hn
   cases e
   exact .inr ⟨_,rfl,by unfold dB;rw[hn]⟩
  ·exact iB
 case box T x=>
  intro t h v h' e h0 hn
  unfold dr at e ⊢
  cases hx:ba x t with
  |none=>rw[hx]at e;cases e
  |some a=>rw[hx]at e;cases e;exact .inr ⟨_,rfl,by rw[hn]⟩
 case buildSlice T n ps=>
  unfold Hj
  split
  ·split
   ·split
    ·refine vr ?_
     rename_i ie mu _ z V7
     intro t h v h' e h0 hn
     unfold bH at e ⊢
     cases hp:mJ (nL ps.toList) t with
     |none=>rw[hp]at e;cases e
     |some vs=>
      rw[hp]at e
      simp only at e ⊢
      cases hz:Nat.beq n 0 with
      |true=>
       rw[hz]at e
       cases vs with
       |nil=>cases e;exact .inl ⟨rfl,rfl⟩
       |cons _ _=>cases e
      |false=>
       rw[hz]at e
       simp only[cond_false]at e ⊢
       cases hf:pJ n ie.size z vs with
       |none=>rw[hf]at e;cases e
       |some cs=>rw[hf]at e;cases e;exact .inr ⟨_,rfl,by rw[hn]⟩
    ·exact iB
   ·exact iB
  ·exact iB
 case makeSlice T l c=>
  unfold zO
  split
  ·split
   ·split
    ·refine vr ?_
     rename_i ie mu _ z V7
     intro t h v h' e h0 hn
     unfold lO at e ⊢
     cases hl:ba l t with
     |none=>rw[hl]at e;cases e
     |some a=>
     cases a<;>try (rw[hl]at e;cases e;done)
     rename_i k i
     cases i<;>try (rw[hl]at e;cases e;done)
     rename_i i
     rw[hl]at e
     simp only at e ⊢
     cases Mt:ba c t with
     |none=>rw[Mt]at e;cases e
     |some a=>
     cases a<;>try (rw[Mt]at e;cases e;done)
     rename_i k2 j
     cases j<;>try (rw[Mt]at e;cases e;done)
     rename_i j
     rw[Mt]at e
     simp only at e ⊢
     cases hb:(Nat.ble i j&&Nat.ble (Nat.mul j ie.bytes) 70368744177664)with
     |false=>rw[hb]at e;cases e
     |true=>
     rw[hb]at e
     simp only[cond_true]at e ⊢
     cases hz:Nat.beq j 0 with
     |true=>rw[hz]at e;cases e;exact .inl ⟨rfl,rfl⟩
     |false=>rw[hz]at e;cases e;exact .inr ⟨_,rfl,by simp only[cond_false];rw[hn]⟩
    ·exact iB
   ·exact iB
  ·exact iB
 case binOp op T x y yT=>cases h:zU P op T<;>rw[h]at hc<;>cases hc
 case unOp op T x=>cases h:SA op<;>rw[h]at hc<;>cases hc
 case convert S D x=>
  cases h:P.underlying D with
  |none=>rw[h]at hc;cases hc
  |some d=>cases d<;>rw[h]at hc<;>cases hc
 case makeFunc f first caps=>
  cases f<;>try (cases hc;done)
  simp only at hc
  cases h:first.toList<;>rw[h]at hc<;>cases hc
 case slice T x lo hi mx=>cases mx<;>cases hc
 case makeMap T r=>cases r<;>cases hc
 case call c=>cases h:iA P c<;>rw[h]at hc<;>cases hc
 all_goals (cases hc)
end
end Go.Ab

noncomputable section
namespace Go.Ab
variable [Io]
def G.to(g:G)(N:Nat):G:=⟨fun id=>if id<N then g.m id else none,g.eL⟩
omit [Io] in
theorem xl(g:G)(w:World):p6 g w g w:=⟨fun _ _ e=>e,fun _ i=>i,fun _ _=>rfl,fun _=>Nat.le_refl _⟩
omit [Io] in
theorem nO(g:G)(w:World){N M:Nat}(h:N<=M):p6 (g.to N) w (g.to M) w:=
 ⟨(by
   intro id x e
   simp only[G.to]at e ⊢
   by_cases h1:id<N
   ·rw[if_pos h1]at e;rw[if_pos (by omega)];exact e
   ·rw[if_neg h1]at e;cases e),fun _ i=>i,fun _ _=>rfl,fun _=>Nat.le_refl _⟩
def fC(N:Nat):Hp:=⟨N,.nil⟩
theorem Il{g:G}{w:World}{N:Nat}(h: ∀ b,g.eL b->b<w.heap.size):HC g w (fC N):=⟨(fun _ _ e=>by cases e),h⟩
section
variable {P:Program}{call:cY}{o:Oper}
theorem tC{ops:Array Oper}{g w nt t h}{a:Act}{v:AV}{h':Hp}(T:TR g w nt t a.tmps)
 (e:kC P call nt ops.toList o t h=.ok v h'):(Region.wanted o (yielded ops a.tmps)=true/\(nM P call o.op).2 t h=.ok v h')∨
  (Region.wanted o (yielded ops a.tmps)=false/\v=gk/\h'=h):=by
 unfold kC at e
 cases hg:o.guard with
 |none=>
  rw[hg]at e
  exact .inl ⟨by simp[Region.wanted,hg],e⟩
 |some p=>
  obtain⟨j,want⟩:=p
  rw[hg]at e
  simp only[fQ]at e
  cases hj:ops.toList[j]? with
  |none=>simp only[hj]at e;cases e
  |some oj=>
  simp only[hj]at e
  cases hd:oj.dst with
  |none=>simp only[hd]at e;cases e
  |some d=>
  simp only[hd]at e
  cases hb:Nat.blt d nt with
  |false=>simp only[hb]at e;cases e
  |true=>
  simp only[hb]at e
  have GB:=ct.1 hb
  change gF (oT d) want (nM P call o.op).2 t h=.ok v h' at e
  have hj':ops[j]? =some oj:=by simpa using hj
  have pO:=T.2.1
  have hy: ∀ y,a.tmps.getD d undef=y->yielded ops a.tmps j=match y with| .bool b=>some b| _=>none:=by
   intro y hy
   have:a.tmps[d]? =some y:=by
    rw[Array.getD_eq_getD_getElem?]at hy
    rw[Array.getElem?_eq_getElem (by omega)]at hy ⊢
    simpa using hy
   simp[yielded,hj',hd,this]
   cases y<;>rfl
  unfold gF at e
  split at e
  ·rename_i b yc
   have hv:=(T.2.2 d _ (by have:=T.1;omega) yc).2
   simp only[VR]at hv
   have MH:=hy _ hv
   cases MI:(gD want b (!b))with
   |true=>
    rw[MI]at e
    have:b=want:=by cases want<;>cases b<;>simp[gD]at MI<;>rfl
    exact .inl ⟨by simp[Region.wanted,hg,MH,this],e⟩
   |false=>
    rw[MI]at e
    have:b≠want:=by cases want<;>cases b<;>simp[gD]at MI<;>simp
    cases e
    exact .inr ⟨by simp[Region.wanted,hg,MH,this],rfl,rfl⟩
  ·rename_i yc
   have hv:=(T.2.2 d _ (by have:=T.1;omega) yc).2
   simp only[VR]at hv
   obtain⟨vs,hv,eE⟩:=hv
   have MH:=hy _ hv
   cases e
   exact .inr ⟨by simp[Region.wanted,hg,MH],rfl,rfl⟩
  ·cases e
theorem Ad(g:G)(w:World):VR g w gk undef:=by simp only[gk,VR];exact⟨_,rfl,by simp[bQ]⟩
theorem xm(hc:dR P call){ops:Array Oper}{i:Nat}(hi:ops[i]? =some o){g w nt t h}{a:Act}{v:AV}{h':Hp}(fF:(nM P call o.op).1=.p0∨(nM P call o.op).1=.p1)
 (H:HC g w h)(T:TR g w nt t a.tmps)(e:kC P call nt ops.toList o t h=.ok v h'){Q:Exit->Act->World->Prop}{rest:List Nat}
 (K: ∀ x,VR g w v x->wpOps P ops Q rest (a.put o.dst x) w):wpOps P ops Q (i::rest) a w:=by
 rw[wpOps,hi]
 simp only
 have hp:cy P o (nM P call o.op).2:=by
  have:=yk (o:=o) hc
  cases h:nM P call o.op with
  |mk c f=>
   rw[h]at this fF
   cases c
   ·exact this
   ·exact this
   ·rcases fF with h|h<;>cases h
   ·rcases fF with h|h<;>cases h
 rcases tC T e with⟨hw,e⟩|⟨hw,rfl,rfl⟩
 ·rw[if_pos hw]
  obtain⟨rfl,x,hx,hv⟩:=hp g w nt t h a v h' H T e
  refine .inl ?_
  unfold Oper.wp
  rw[hx]
  exact K x hv
 ·rw[if_neg (by simp[hw])]
  exact K undef (Ad g w)
theorem Im(hc:dR P call){ops:Array Oper}{i:Nat}(hi:ops[i]? =some o){g w nt t h}{a:Act}{v:AV}{h':Hp}(fF:(nM P call o.op).1=.al)
 (H:HC g w h)(T:TR g w nt t a.tmps)(e:kC P call nt ops.toList o t h=.ok v h'){Q:Exit->Act->World->Prop}{rest:List Nat}
 (K1:h'=h-> ∀ x w',(w'=w∨ ∃ ob,w'=w.alloc ob)->(∀ g' w',VR g' w' v x)->wpOps P ops Q rest (a.put o.dst x) w')
 (K2: ∀ cs C el vs x,h'=dK h cs->bQ g w cs.toL vs->(∀ (j:Nat) (v:Value),vs[j]? =some v->C[j]? =some v)->
  (∀ g' w',g'.m h.next=some (w.heap.size,0)->C.size<=ed w' w.heap.size->VR g' w' v x)->wpOps P ops Q rest (a.put o.dst x) (w.alloc (.cells C el))):
 wpOps P ops Q (i::rest) a w:=by
 rw[wpOps,hi]
 simp only
 have hp:nd P o (nM P call o.op).2:=by
  have:=yk (o:=o) hc
  cases h:nM P call o.op with
  |mk c f=>rw[h]at this fF;simp only at fF;subst fF;exact this
 rcases tC T e with⟨hw,e⟩|⟨hw,rfl,rfl⟩
 ·rw[if_pos hw]
  rcases hp g w nt t h a v h' H T e with⟨rfl,x,C,el,hr,hv⟩|⟨cs,C,el,vs,x,rfl,hr,eE,hC,hv⟩
  ·refine .inl ?_
   unfold Oper.wp
   rw[hr]
   exact K1 rfl x _ (.inr ⟨_,rfl⟩) hv
  ·refine .inl ?_
   unfold Oper.wp
   rw[hr]
   exact K2 cs C el vs x rfl eE hC hv
 ·rw[if_neg (by simp[hw])]
  exact K1 rfl undef _ (.inl rfl) (fun g w=>Ad g w)
omit [Io] in
theorem rh{nt:Nat}{all:List Oper}(fF:(nM P call o.op).1=.p0):ke (kC P call nt all o):=by
 have hf:ke (nM P call o.op).2:=MX fF
 unfold kC
 cases o.guard with
 |none=>exact hf
 |some p=>
  obtain⟨j,want⟩:=p
  simp only
  split
  ·split
   ·refine DA ?_
    intro t h h0
    unfold gF
    split
    ·rename_i b _
     cases gD want b (!b)
     ·rfl
     ·exact hf t h h0
    ·rfl
    ·rfl
   ·exact dx
  ·exact dx
omit [Io] in
theorem Ae{nt:Nat}{all:List Oper}(fF:(nM P call o.op).1=.al):FJ (kC P call nt all o):=by
 have hf:FJ (nM P call o.op).2:=Ik fF
 unfold kC
 cases o.guard with
 |none=>exact hf
 |some p=>
  obtain⟨j,want⟩:=p
  simp only
  split
  ·split
   ·refine vr ?_
    intro t h v h' e h0 hn
    unfold gF at e ⊢
    split at e
    ·rename_i b hb
     cases hw:gD want b (!b)with
     |false=>rw[hw]at e;cases e;exact .inl ⟨rfl,rfl⟩
     |true=>rw[hw]at e;exact hf t h v h' e h0 hn
    ·cases e
     exact .inl ⟨rfl,rfl⟩
    ·cases e
   ·exact iB
  ·exact iB
end
end Go.Ab

noncomputable section
namespace Go.Ab
variable [Io]
inductive lh where
 |last (pre gy:List Nat)
 |cons (pre gy:List Nat) (q:Nat) (rest:lh)
def lh.pre:lh->List Nat
 | .last p _=>p
 | .cons p _ _ _=>p
def lh.gy:lh->List Nat
 | .last _ a=>a
 | .cons _ a _ r=>a++r.gy
def lh.wz:lh->List Nat
 | .last _ _=>[]
 | .cons _ _ q r=>q::r.wz
structure Cx where
 P:Program
 call:cY
 ops:Array Oper
 nt:Nat
 t0:Tm
 te:Tm
 nx:Nat->Nat
 bd:Nat->Nat
 g0:G
 w0:World
 h0:Hp
 hE:Hp
namespace Cx
variable (c:Cx)
def dM(i:Nat)(k:Cl):Prop:= ∃ o,c.ops[i]? =some o/\(nM c.P c.call o.op).1=k
def FE(i:Nat):eP:=match c.ops[i]? with
 |some o=>kC c.P c.call c.nt c.ops.toList o
 |none=>cq
def lM(i d:Nat):Prop:= ∃ o,c.ops[i]? =some o/\o.dst=some d
def LC(i:Nat):List Nat:=match c.ops[i]? with
 |some o=>pP c.ops.toList o
 |none=>[]
def An(i j:Nat):Prop:=Cf c.ops.toList i j=true
def nP(i N:Nat):Prop:= ∀ u∈c.LC i,u<c.nt/\((∀ j,c.lM j u->c.An i j/\c.bd j<=N)∨ ∀ j,c.lM j u->c.An j i)
open Classical in
def GC(i:Nat):List Nat->Tm
 | []=>Tm.none
 |u::l=>Tm.put (GC i l) u (if ∃ j,c.lM j u/\c.An i j then Tm.at c.te u else Tm.at c.t0 u)
def rf(i:Nat):Tm:=c.GC i (c.LC i)
def Slot(i:Nat)(v:AV):Prop:= ∀ d,c.lM i d->d<c.nt/\c.te.at d=some v
def P1s(pre:List Nat)(h:Hp):Prop:= ∀ i∈pre,c.dM i .p1-> ∃ v,c.FE i (c.rf i) h=.ok v h/\c.Slot i v/\c.nP i h.next
def tW:List Nat->Hp->Hp->Prop
 | [],h,h1=>h1=h
 |i::l,h,h1=>(c.dM i .p0/\tW l h h1)∨(c.dM i .al/\c.nx i=h.next/\((c.bd i=c.nx i/\tW l h h1)∨
  ∃ v cs,c.bd i=c.nx i+1/\c.FE i (c.rf i) (fC (c.nx i))=.ok v (dK (fC (c.nx i)) cs)/\tW l (dK h cs) h1))
def wK:lh->Hp->Prop
 | .last pre gy,h=>c.P1s pre h/\c.tW gy h c.hE
 | .cons pre gy q rest,h=>c.P1s pre h/\ ∃ h1,c.tW gy h h1/\c.dM q .ch/\ ∃ v h2,c.FE q (c.rf q) h1=.ok v h2/\c.Slot q v/\c.nP q h1.next/\
   c.bd q=h2.next/\h1.next<=h2.next/\wK rest h2
def DB:List Nat->lh->Prop
 |past,.last pre _=> ∀ i,c.dM i .p1->(∃ j∈past,c.An j i)∨i∈pre
 |past,.cons pre gy q rest=>(∀ i,c.dM i .p1->(∃ j∈past,c.An j i)∨(∃ j∈q::rest.wz,c.An i j)∨i∈pre)/\(∀ i∈gy,c.dM i .al->c.An q i)/\
  (∀ q'∈rest.wz,c.An q' q)/\DB (q::past) rest
structure MY:Prop where
 p0: ∀ i,c.dM i .p0-> ∃ v,(∀ h,c.FE i (c.rf i) h=.ok v h)/\c.Slot i v/\c.nP i (c.bd i)
 al: ∀ i,c.dM i .al-> ∃ v,c.Slot i v/\c.nP i (c.nx i)/\((c.FE i (c.rf i) (fC (c.nx i))=.ok v (fC (c.nx i))/\c.bd i=c.nx i)∨
  ∃ cs,c.FE i (c.rf i) (fC (c.nx i))=.ok v (dK (fC (c.nx i)) cs)/\c.bd i=c.nx i+1)
 dst: ∀ i j d,c.lM i d->c.lM j d->i=j
 top: ∀ i,i<c.ops.size->c.bd i<=c.hE.next
 same: ∀ u,u<512->(∀ j,¬ c.lM j u)->c.te.at u=c.t0.at u
 call:dR c.P c.call
 nt:c.nt<=512
omit [Io] in
theorem o6{h1:Hp}: ∀ {l:List Nat} {h:Hp},c.tW l h h1->h.next<=h1.next
 | [],h,e=>by cases e;exact Nat.le_refl _
 |i::l,h,e=>by
  rcases e with⟨_,e⟩|⟨_,_,⟨_,e⟩|⟨v,cs,_,_,e⟩⟩
  ·exact o6 e
  ·exact o6 e
  ·have:=o6 e
   exact Nat.le_trans (Nat.le_succ _) this
omit [Io] in
theorem lX{h1:Hp}: ∀ {l:List Nat} {h:Hp},c.tW l h h1-> ∀ i∈l,c.dM i .al->h.next<=c.nx i/\(c.bd i=c.nx i+1->c.nx i<h1.next)
 | [],h,e,i,hi,_=>by cases hi
 |j::l,h,e,i,hi,hc=>by
  rcases e with⟨hj,e⟩|⟨hj,hn,⟨hb,e⟩|⟨v,cs,hb,_,e⟩⟩
  ·rcases List.mem_cons.1 hi with rfl|hi
   ·obtain⟨o,ho,h1⟩:=hj
    obtain⟨o',j3,h2⟩:=hc
    rw[ho]at j3
    cases j3
    rw[h1]at h2
    cases h2
   ·exact lX e i hi hc
  ·rcases List.mem_cons.1 hi with rfl|hi
   ·exact⟨by omega,fun h=>by omega⟩
   ·exact lX e i hi hc
  ·rcases List.mem_cons.1 hi with rfl|hi
   ·have:=o6 c e
    have:h.next+1<=h1.next:=this
    exact⟨by omega,fun _=>by omega⟩
   ·have:=lX e i hi hc
    have h2:h.next+1<=c.nx i:=this.1
    exact⟨by omega,this.2⟩
omit [Io] in
theorem qB: ∀ {pl:lh} {h:Hp},c.wK pl h-> ∀ i∈pl.gy,c.dM i .al->h.next<=c.nx i
 | .last pre gy,h,⟨_,e⟩,i,hi,hc=>(c.lX e i hi hc).1
 | .cons pre gy q rest,h,⟨_,h1,e,_,v,h2,_,_,_,_,hle,r⟩,i,hi,hc=>by
  rcases List.mem_append.1 hi with hi|hi
  ·exact(c.lX e i hi hc).1
  ·exact Nat.le_trans (c.o6 e) (Nat.le_trans hle (qB r i hi hc))
omit [Io] in
theorem jM{i:Nat}{k:Cl}(h:c.dM i k){k':Cl}(h':c.dM i k'):k=k':=by
 obtain⟨o,ho,h1⟩:=h
 obtain⟨o',j3,h2⟩:=h'
 rw[ho]at j3
 cases j3
 exact h1.symm.trans h2
omit [Io] in
theorem ri{h1:Hp}: ∀ {l:List Nat} {h:Hp},c.tW l h h1-> ∀ i∈l,∀ j∈l,c.dM i .al->c.dM j .al->c.bd i=c.nx i+1->c.bd j=c.nx j+1->c.nx i=c.nx j->i=j
 | [],h,e,i,hi,_,_,_,_,_,_,_=>by cases hi
 |k::l,h,e,i,hi,j,hj,ci,cj,bi,bj,LD=>by
  rcases e with⟨hk,e⟩|⟨hk,hn,⟨hb,e⟩|⟨v,cs,hb,_,e⟩⟩
  ·have ni:i≠k:=fun e=>by subst e;cases c.jM hk ci
   have nj:j≠k:=fun e=>by subst e;cases c.jM hk cj
   exact ri e i ((List.mem_cons.1 hi).resolve_left ni) j ((List.mem_cons.1 hj).resolve_left nj) ci cj bi bj LD
  ·have ni:i≠k:=fun e=>by subst e;omega
   have nj:j≠k:=fun e=>by subst e;omega
   exact ri e i ((List.mem_cons.1 hi).resolve_left ni) j ((List.mem_cons.1 hj).resolve_left nj) ci cj bi bj LD
  ·by_cases ni:i=k<;>by_cases nj:j=k
   ·exact ni.trans nj.symm
   ·have:=(c.lX e j ((List.mem_cons.1 hj).resolve_left nj) cj).1
    have:h.next+1<=c.nx j:=this
    subst ni
    omega
   ·have:=(c.lX e i ((List.mem_cons.1 hi).resolve_left ni) ci).1
    have:h.next+1<=c.nx i:=this
    subst nj
    omega
   ·exact ri e i ((List.mem_cons.1 hi).resolve_left ni) j ((List.mem_cons.1 hj).resolve_left nj) ci cj bi bj LD
omit [Io] in
theorem rj: ∀ {pl:lh} {h:Hp},c.wK pl h-> ∀ i∈pl.gy,∀ j∈pl.gy,c.dM i .al->c.dM j .al->c.bd i=c.nx i+1->c.bd j=c.nx j+1->c.nx i=c.nx j->i=j
 | .last pre gy,h,⟨_,e⟩,i,hi,j,hj,ci,cj,bi,bj,LD=>c.ri e i hi j hj ci cj bi bj LD
 | .cons pre gy q rest,h,⟨_,h1,e,_,v,h2,_,_,_,_,hle,r⟩,i,hi,j,hj,ci,cj,bi,bj,LD=>by
  rcases List.mem_append.1 hi with hi|hi<;>rcases List.mem_append.1 hj with hj|hj
  ·exact c.ri e i hi j hj ci cj bi bj LD
  ·have:=(c.lX e i hi ci).2 bi
   have:=c.qB r j hj cj
   omega
  ·have:=(c.lX e j hj cj).2 bj
   have:=c.qB r i hi ci
   omega
  ·exact rj r i hi j hj ci cj bi bj LD
def FK(g:G)(w:World)(h:Hp)(i:Nat):Prop:=
 c.bd i=c.nx i∨ ∃ v cs b C,∃ el:FT C,∃ vs,c.bd i=c.nx i+1/\c.FE i (c.rf i) (fC (c.nx i))=.ok v (dK (fC (c.nx i)) cs)/\g.m (c.nx i)=some (b,0)/\w.heap[b]? =some (.cells C el.el el.fz)/\
  ¬ g.eL b/\ ¬ ik (g.to h.next) h b/\c.w0.heap.size<=b/\bQ (g.to (c.nx i)) w cs.toL vs/\ ∀ (j:Nat) (v:Value),vs[j]? =some v->C[j]? =some v
structure St(g:G)(w:World)(h:Hp)(A D:List Nat):Prop where
 hr:HR (g.to h.next) w h
 ext:Ext c.g0 c.w0 c.h0 (g.to h.next) w h
 Cj: ∀ i∈A,i∈D->c.dM i .al->c.FK g w h i
 FL: ∀ i∈A,∀ j∈A,i∈D->j∈D->c.dM i .al->c.dM j .al->c.bd i=c.nx i+1->c.bd j=c.nx j+1-> ∀ b,g.m (c.nx i)=some (b,0)->g.m (c.nx j)=some (b,0)->i=j
omit [Io] in
theorem o7{h:Hp}{cs:Rw}{id:Nat}:(dK h cs).aU.get id=if id=h.next then some cs else h.aU.get id:=Tr.gZ _ _ _ _
omit [Io] in
theorem Ip{h:Hp}{cs cs':Rw}(e:dK h cs=dK h cs'):cs=cs':=by
 have h1:(dK h cs).aU.get h.next=some cs:=by rw[o7,if_pos rfl]
 rw[e,o7,if_pos rfl]at h1
 exact(Option.some.inj h1).symm
theorem Xh{g:G}{w:World}{h:Hp}(H:HR (g.to h.next) w h){b:Nat}{C:Array Value}{el:FT C}{cs:Rw}{vs:List Value}(hm:g.m h.next=some (b,0))
 (hw:w.heap[b]? =some (.cells C el.el el.fz))(hi: ¬ g.eL b)(ho: ¬ ik (g.to h.next) h b)(hv:bQ (g.to h.next) w cs.toL vs)(hC: ∀ (j:Nat) (v:Value),vs[j]? =some v->C[j]? =some v):
 HR (g.to (dK h cs).next) w (dK h cs)/\ ∀ b',ik (g.to (dK h cs).next) (dK h cs) b'->ik (g.to h.next) h b'∨b'=b:=by
 have hn:(dK h cs).next=h.next+1:=rfl
 have hM:=nO g w (N:=h.next) (M:=h.next+1) (by omega)
 have hle: ∀ id cs',h.aU.get id=some cs'->id<h.next:=by
  intro id cs' e
  refine Classical.byContradiction fun k=>?_
  obtain⟨b',s,_,_,_,Di,_⟩:=H.aU id cs' e
  rw[H.fresh id (by omega)]at Di
  cases Di
 have uA: ∀ id,id<h.next->(g.to (h.next+1)).m id=(g.to h.next).m id:=by
  intro id k
  simp only[G.to]
  rw[if_pos (by omega),if_pos k]
 have BJ:(g.to (h.next+1)).m h.next=some (b,0):=by
  simp only[G.to]
  rw[if_pos (by omega)]
  exact hm
 rw[hn]
 refine⟨⟨?_,?_,?_,fun k i=>H.eL k i,fun p hp=>H.tb p hp⟩,?_⟩
 ·intro id gK
  have:h.next+1<=id:=gK
  simp only[G.to]
  rw[if_neg (by omega)]
 ·intro id cs' e
  rw[o7]at e
  by_cases gK:id=h.next
  ·subst gK
   rw[if_pos rfl]at e
   cases e
   exact⟨b,0,C,el,vs,BJ,hw,hi,bQ.fk hM _ _ hv,by simpa using hC⟩
  ·rw[if_neg gK]at e
   obtain⟨b',s,C',el',WN,Di,hw',sC,nF,WO⟩:=H.aU id cs' e
   exact⟨b',s,C',el',WN,by rw[uA id (hle id cs' e)];exact Di,hw',sC,bQ.fk hM _ _ nF,WO⟩
 ·intro id sE b1 s s' Dk uY e1 e2 m1 m2
  rw[o7]at e1 e2
  by_cases h1:id=h.next<;>by_cases h2:sE=h.next
  ·exact h1.trans h2.symm
  ·subst h1
   rw[if_neg h2]at e2
   rw[BJ]at m1
   obtain⟨rfl,_⟩:=Prod.mk.inj (Option.some.inj m1)
   rw[uA sE (hle sE _ e2)]at m2
   exact absurd ⟨sE,uY,s',e2,m2⟩ ho
  ·subst h2
   rw[if_neg h1]at e1
   rw[BJ]at m2
   obtain⟨rfl,_⟩:=Prod.mk.inj (Option.some.inj m2)
   rw[uA id (hle id _ e1)]at m1
   exact absurd ⟨id,Dk,s,e1,m1⟩ ho
  ·rw[if_neg h1]at e1
   rw[if_neg h2]at e2
   rw[uA id (hle id _ e1)]at m1
   rw[uA sE (hle sE _ e2)]at m2
   exact H.inj id sE b1 s s' Dk uY e1 e2 m1 m2
 ·rintro b' ⟨id,cs',s,e,m⟩
  rw[o7]at e
  by_cases gK:id=h.next
  ·subst gK
   rw[BJ]at m
   obtain⟨rfl,_⟩:=Prod.mk.inj (Option.some.inj m)
   exact .inr rfl
  ·rw[if_neg gK]at e
   rw[uA id (hle id _ e)]at m
   exact .inl ⟨id,cs',s,e,m⟩
omit [Io] in
theorem FM{g:G}{w:World}{h:Hp}{b:Nat}{cs:Rw}(E:Ext c.g0 c.w0 c.h0 (g.to h.next) w h)(hb:c.w0.heap.size<=b)
 (hO: ∀ b',ik (g.to (dK h cs).next) (dK h cs) b'->ik (g.to h.next) h b'∨b'=b):Ext c.g0 c.w0 c.h0 (g.to (dK h cs).next) w (dK h cs) where
 os:=E.os
 tape:=E.tape
 output:=E.output
 size:=E.size
 next:=Nat.le_trans E.next (Nat.le_succ _)
 m:=fun id x e=>(nO g w (N:=h.next) (M:=h.next+1) (by omega)).m id x (E.m id x e)
 oL:=E.oL
 rows:=E.rows
 eL:=E.eL
 E8:=E.E8
 mZ:=fun k o=>by
  rcases hO k o with o|rfl
  ·exact E.mZ k o
  ·exact .inr hb
theorem settle{g:G}{w:World}{D A:List Nat}{h1:Hp}: ∀ (l:List Nat) (h:Hp),c.tW l h h1->(∀ i∈l,c.dM i .al->i∈D)->c.St g w h (l++A) D->
 (∀ i∈A,c.dM i .al->h1.next<=c.nx i)->c.St g w h1 A D
 | [],h,e,_,S,_=>by cases e;exact S
 |i::l,h,e,hd,S,hA=>by
  have Ck:=fun j hj=>hd j (List.mem_cons_of_mem i hj)
  have S':c.St g w h (l++A) D:=⟨S.hr,S.ext,fun j hj=>S.Cj j (List.mem_cons_of_mem _ hj),fun j hj k hk=>S.FL j (List.mem_cons_of_mem _ hj) k (List.mem_cons_of_mem _ hk)⟩
  rcases e with⟨_,e⟩|⟨hk,hn,⟨hb,e⟩|⟨v,cs,hb,hF,e⟩⟩
  ·exact settle l h e Ck S' hA
  ·exact settle l h e Ck S' hA
  ·have xn:=hd i List.mem_cons_self hk
   rcases S.Cj i List.mem_cons_self xn hk with hp|⟨v',cs',b,C,el,vs,_,V8,hm,hw,V6,hO,Xi,hv,hC⟩
   ·omega
   rw[hF]at V8
   obtain⟨rfl,gu⟩:=Ro.ok.inj V8
   obtain rfl:=Ip gu
   rw[hn]at hm hv
   obtain⟨WT,Xj⟩:=Xh S.hr hm hw V6 hO hv hC
   refine settle l (dK h cs) e Ck ⟨WT,c.FM S.ext Xi Xj,?_,S'.FL⟩ hA
   intro j hj Cm yq
   rcases S'.Cj j hj Cm yq with hp|⟨v2,uY,b2,C2,Sl,Ly,yc,hF2,Fj,Hr,ae2,hO2,ae3,QG,hC2⟩
   ·exact .inl hp
   ·refine .inr ⟨v2,uY,b2,C2,Sl,Ly,yc,hF2,Fj,Hr,ae2,fun o=>?_,ae3,QG,hC2⟩
    rcases Xj _ o with o|rfl
    ·exact hO2 o
    ·have hjn:h.next+1<=c.nx j:=by
      rcases List.mem_append.1 hj with hj|hj
      ·exact(c.lX e j hj yq).1
      ·exact Nat.le_trans (c.o6 e) (hA j hj yq)
     have:=S.FL i List.mem_cons_self j (List.mem_cons_of_mem _ hj) xn Cm hk yq hb yc b2 (by rw[hn];exact hm) Fj
     subst this
     omega
end Cx
end Go.Ab

noncomputable section
namespace Go.Ab
variable [Io]
namespace Cx
variable (c:Cx)
structure Inv(g:G)(w:World)(h:Hp)(a:Act)(D past:List Nat)(pl:lh):Prop where
 run:c.wK pl h
 stat:c.DB past pl
 closed:yo c.ops.toList D
 wz: ∀ i,c.dM i .ch->i∈pl.wz∨i∈D
 LF: ∀ i∈pl.wz,i∉D
 tD: ∀ j∈past,j∈D
 QL: ∀ i,c.dM i .al->i∈pl.gy∨i∈D
 st:c.St g w h pl.gy D
 QM: ∀ id x,g.m id=some x->id<h.next∨ ∃ i∈pl.gy,i∈D/\c.dM i .al/\c.bd i=c.nx i+1/\id=c.nx i
 o8: ∀ j∈D,∀ d,c.lM j d->d<c.nt/\ ∃ v,c.te.at d=some v/\VR (g.to (max (c.bd j) h.next)) w v (a.tmps.getD d undef)
 free: ∀ u v,u<512->(∀ j∈D,¬ c.lM j u)->c.t0.at u=some v->u<c.nt/\VR (g.to h.next) w v (a.tmps.getD u undef)
 size:a.tmps.size=c.nt
 defers:a.defers=[]
variable {c}
omit [Io] in
theorem tE{i:Nat}{o:Oper}(ho:c.ops[i]? =some o):c.FE i=kC c.P c.call c.nt c.ops.toList o:=by unfold FE;rw[ho]
omit [Io] in
theorem SD{i:Nat}{o:Oper}(ho:c.ops[i]? =some o):c.LC i=pP c.ops.toList o:=by unfold LC;rw[ho]
omit [Io] in
theorem Iq{i:Nat}: ∀ (l:List Nat),(∀ u∈l,u<512)-> ∀ u v,u<512->(c.GC i l).at u=some v->u∈l/\(((∃ j,c.lM j u/\c.An i j)/\c.te.at u=some v)∨((¬ ∃ j,c.lM j u/\c.An i j)/\c.t0.at u=some v))
 | [],_,u,v,hu,e=>by rw[GC,Tm.xW u hu]at e;cases e
 |x::l,hl,u,v,hu,e=>by
  rw[GC,Tm.iM _ _ _ _ (hl x List.mem_cons_self) hu]at e
  by_cases hx:u=x
  ·subst hx
   rw[if_pos rfl]at e
   refine⟨List.mem_cons_self,?_⟩
   by_cases hw: ∃ j,c.lM j u/\c.An i j
   ·rw[if_pos hw]at e;exact .inl ⟨hw,e⟩
   ·rw[if_neg hw]at e;exact .inr ⟨hw,e⟩
  ·rw[if_neg hx]at e
   obtain⟨h1,h2⟩:=Iq l (fun y hy=>hl y (List.mem_cons_of_mem _ hy)) u v hu e
   exact⟨List.mem_cons_of_mem _ h1,h2⟩
theorem Inv.reads{g w h a D past pl}(I:c.Inv g w h a D past pl)(iK:c.nt<=512){i N M:Nat}(hr:c.nP i M)(xn:i∉D)(hD: ∀ j,c.An i j->j∈D)(hM:M<=N)(hN:h.next<=N):
 TR (g.to N) w c.nt (c.rf i) a.tmps:=by
 have fO: ∀ u∈c.LC i,u<512:=fun u hu=>Nat.lt_of_lt_of_le (hr u hu).1 iK
 refine⟨iK,I.size,fun u v hu e=>?_⟩
 obtain⟨hm,LA⟩:=Iq _ fO u v hu e
 refine⟨(hr u hm).1,?_⟩
 rcases LA with⟨⟨j,hj,hA⟩,e⟩|⟨hno,e⟩
 ·rcases(hr u hm).2 with h1|h1
  ·obtain⟨_,hb⟩:=h1 j hj
   obtain⟨_,v',e',hv⟩:=I.o8 j (hD j hA) u hj
   rw[e]at e'
   cases e'
   exact VR.fk (nO g w (by omega)) _ _ hv
  ·exact absurd (I.closed j (hD j hA) i (h1 j hj)) xn
 ·refine VR.fk (nO g w hN) _ _ (I.free u v hu (fun j Cm hj=>?_) e).2
  rcases(hr u hm).2 with h1|h1
  ·exact hno ⟨j,hj,(h1 j hj).1⟩
  ·exact xn (I.closed j Cm i (h1 j hj))
omit [Io] in
theorem yr{a:Act}{od:Option Nat}{x:Value}{d:Nat}(hd:d<a.tmps.size):(a.put od x).tmps.getD d undef=if od=some d then x else a.tmps.getD d undef:=by
 cases od with
 |none=>rfl
 |some e=>
  show(a.tmps.setIfInBounds e x).getD d undef=_
  rw[Array.getD_eq_getD_getElem?,Array.getD_eq_getD_getElem?]
  by_cases he:e=d
  ·subst he
   rw[Array.getElem?_setIfInBounds_self_of_lt hd,if_pos rfl];rfl
  ·rw[Array.getElem?_setIfInBounds_ne he,if_neg (fun k=>he (Option.some.inj k))]
omit [Io] in
theorem vt{a:Act}{od:Option Nat}{x:Value}:(a.put od x).tmps.size=a.tmps.size:=by
 cases od with
 |none=>rfl
 |some e=>show(a.tmps.setIfInBounds e x).size=_;simp
omit [Io] in
theorem put_defers{a:Act}{od:Option Nat}{x:Value}:(a.put od x).defers=a.defers:=by cases od<;>rfl
theorem sQ{g:G}{w w':World}{g':G}{a:Act}{D:List Nat}{i:Nat}{o:Oper}{x:Value}{N N':Nat}(G0:c.MY)(ho:c.ops[i]? =some o)
 (hs:a.tmps.size=c.nt)
 (o8: ∀ j∈D,∀ d,c.lM j d->d<c.nt/\ ∃ v,c.te.at d=some v/\VR (g.to (max (c.bd j) N)) w v (a.tmps.getD d undef))
 (mono: ∀ j∈D,p6 (g.to (max (c.bd j) N)) w (g'.to (max (c.bd j) N')) w')(hi:i∉D)
 (hx: ∀ d,c.lM i d->d<c.nt/\ ∃ v,c.te.at d=some v/\VR (g'.to (max (c.bd i) N')) w' v x):
 ∀ j∈i::D,∀ d,c.lM j d->d<c.nt/\ ∃ v,c.te.at d=some v/\VR (g'.to (max (c.bd j) N')) w' v ((a.put o.dst x).tmps.getD d undef):=by
 intro j hj d hd
 by_cases BI:j=i
 ·subst BI
  obtain⟨h1,v,h2,h3⟩:=hx d hd
  refine⟨h1,v,h2,?_⟩
  obtain⟨o',j3,Ck⟩:=hd
  rw[ho]at j3
  cases j3
  rw[yr (by omega),if_pos Ck]
  exact h3
 ·obtain⟨h1,v,h2,h3⟩:=o8 j ((List.mem_cons.1 hj).resolve_left BI) d hd
  refine⟨h1,v,h2,?_⟩
  rw[yr (by omega),if_neg (fun k=>BI (G0.dst j i d hd ⟨o,ho,k⟩))]
  exact VR.fk (mono j ((List.mem_cons.1 hj).resolve_left BI)) _ _ h3
theorem vv{g:G}{w w':World}{g':G}{a:Act}{D:List Nat}{i:Nat}{o:Oper}{x:Value}{N N':Nat}(ho:c.ops[i]? =some o)(hs:a.tmps.size=c.nt)
 (free: ∀ u v,u<512->(∀ j∈D,¬ c.lM j u)->c.t0.at u=some v->u<c.nt/\VR (g.to N) w v (a.tmps.getD u undef))(mono:p6 (g.to N) w (g'.to N') w'):
 ∀ u v,u<512->(∀ j∈i::D,¬ c.lM j u)->c.t0.at u=some v->u<c.nt/\VR (g'.to N') w' v ((a.put o.dst x).tmps.getD u undef):=by
 intro u v hu hd e
 obtain⟨h1,h2⟩:=free u v hu (fun j hj=>hd j (List.mem_cons_of_mem _ hj)) e
 refine⟨h1,?_⟩
 rw[yr (by omega),if_neg (fun k=>hd i List.mem_cons_self ⟨o,ho,k⟩)]
 exact VR.fk mono _ _ h2
theorem Inv.put{g w h a D past pl}(G0:c.MY)(I:c.Inv g w h a D past pl){i:Nat}{o:Oper}(ho:c.ops[i]? =some o)(hi:i∉D)(hC:yo c.ops.toList (i::D))
 (hk:c.dM i .p0∨c.dM i .p1){v:AV}{x:Value}(hs:c.Slot i v)(hx:VR (g.to (max (c.bd i) h.next)) w v x):c.Inv g w h (a.put o.dst x) (i::D) past pl:=by
 have Cn: ∀ j,c.dM j .al->j∈i::D->j∈D:=by
  intro j hj h
  refine(List.mem_cons.1 h).resolve_left fun e=>?_
  subst e
  rcases hk with hk|hk<;>cases c.jM hk hj
 exact
 {run:=I.run
  stat:=I.stat
  closed:=hC
  wz:=fun j hj=>(I.wz j hj).imp id (List.mem_cons_of_mem _)
  LF:=fun j hj h=>by
   rcases List.mem_cons.1 h with rfl|h
   ·have:c.dM j .ch:=by
     have key: ∀ {pl:lh} {h:Hp},c.wK pl h-> ∀ j∈pl.wz,c.dM j .ch:=by
      intro pl
      induction pl with
      |last pre gy=>intro h r j hj;cases hj
      |cons pre gy q rest ih=>
       intro h r j hj
       obtain⟨_,h1,_,hq,v,h2,_,_,_,_,_,r⟩:=r
       rcases List.mem_cons.1 hj with rfl|hj
       ·exact hq
       ·exact ih r j hj
     exact key I.run j hj
    rcases hk with hk|hk<;>cases c.jM hk this
   ·exact I.LF j hj h
  tD:=fun j hj=>List.mem_cons_of_mem _ (I.tD j hj)
  QL:=fun j hj=>(I.QL j hj).imp id (List.mem_cons_of_mem _)
  st:=⟨I.st.hr,I.st.ext,fun j hj hD hc=>I.st.Cj j hj (Cn j hc hD) hc,fun j hj k hk jD kD jc kc=>I.st.FL j hj k hk (Cn j jc jD) (Cn k kc kD) jc kc⟩
  QM:=fun n y e=>(I.QM n y e).imp id fun⟨j,hj,hD,r⟩=>⟨j,hj,List.mem_cons_of_mem _ hD,r⟩
  o8:=sQ G0 ho I.size I.o8 (fun j _=>xl _ _) hi (fun d hd=>⟨(hs d hd).1,v,(hs d hd).2,hx⟩)
  free:=vv ho I.size I.free (xl _ _)
  size:=by rw[vt];exact I.size
  defers:=by rw[put_defers];exact I.defers}
omit [Io] in
theorem DC: ∀ {pl:lh} {h:Hp},c.wK pl h-> ∀ j∈pl.wz,c.dM j .ch:=by
 intro pl
 induction pl with
 |last pre gy=>intro h r j hj;cases hj
 |cons pre gy q rest ih=>
  intro h r j hj
  obtain⟨_,h1,_,hq,v,h2,_,_,_,_,_,r⟩:=r
  rcases List.mem_cons.1 hj with rfl|hj
  ·exact hq
  ·exact ih r j hj
omit [Io] in
theorem SE{pl:lh}{h:Hp}(r:c.wK pl h):c.P1s pl.pre h:=by
 cases pl with
 |last pre gy=>exact r.1
 |cons pre gy q rest=>exact r.1
omit [Io] in
theorem MZ{past:List Nat}{pl:lh}(s:c.DB past pl): ∀ i,c.dM i .p1->(∃ j∈past,c.An j i)∨(∃ j∈pl.wz,c.An i j)∨i∈pl.pre:=by
 cases pl with
 |last pre gy=>exact fun i hi=>(s i hi).imp id .inr
 |cons pre gy q rest=>exact s.1
omit [Io] in
theorem nQ{w:World}{ob:Obj}{b:Nat}:(w.alloc ob).heap[b]? =if b=w.heap.size then some ob else w.heap[b]? :=by
 show(w.heap.push _)[b]? =_
 rw[Array.getElem?_push]
omit [Io] in
theorem qC{g g':G}{w:World}{ob:Obj}(hm: ∀ id x,g.m id=some x->g'.m id=some x)(hi:g'.eL=g.eL)(hb: ∀ b,g.eL b->b<w.heap.size):p6 g w g' (w.alloc ob):=
 ⟨hm,fun b i=>by rw[hi];exact i,fun b i=>by
  have:=hb b i
  rw[nQ,if_neg (by omega)],fun b=>by
  unfold ed
  rw[nQ]
  by_cases h:b=w.heap.size
  ·subst h;simp
  ·rw[if_neg h];exact Nat.le_refl _⟩
theorem Co{g g':G}{w:World}{h:Hp}{ob:Obj}{i:Nat}(hm: ∀ id x,g.m id=some x->g'.m id=some x)(hi:g'.eL=g.eL)(hb: ∀ b,g.eL b->b<w.heap.size)
 (uA:g'.to h.next=g.to h.next)(p:c.FK g w h i):c.FK g' (w.alloc ob) h i:=by
 rcases p with p|⟨v,cs,b,C,el,vs,h1,h2,h3,h4,h5,h6,h7,h8,h9⟩
 ·exact .inl p
 ·have fO:=(Array.getElem?_eq_some_iff.1 h4).1
  refine .inr ⟨v,cs,b,C,el,vs,h1,h2,hm _ _ h3,by rw[nQ,if_neg (by omega)];exact h4,by rw[hi];exact h5,by rw[uA];exact h6,h7,?_,h9⟩
  refine bQ.fk ?_ _ _ h8
  refine qC ?_ (by simp only[G.to];exact hi) (by simp only[G.to];exact hb)
  intro id x e
  simp only[G.to]at e ⊢
  by_cases gK:id<c.nx i
  ·rw[if_pos gK]at e ⊢;exact hm _ _ e
  ·rw[if_neg gK]at e;cases e
end Cx
end Go.Ab

noncomputable section
namespace Go.Ab
variable [Io]
namespace Cx
variable {c:Cx}
omit [Io] in
theorem G.Ir{g:G}{id b N:Nat}(h:N<=id):(g.add id b).to N=g.to N:=by
 unfold Go.Ab.G.to G.add
 congr 1
 funext k
 by_cases hk:k<N
 ·simp only[hk,if_true]
  rw[if_neg (by omega)]
 ·simp only[hk,if_false]
theorem V9(G0:c.MY){Q:Exit->Act->World->Prop}(K:iP c.g0 c.w0 c.h0 c.nt c.te c.hE (Q .normal)): ∀ (s D past:List Nat) (pl:lh) (g:G) (w:World) (h:Hp) (a:Act),
 MO c.ops D s->c.Inv g w h a D past pl->wpOps c.P c.ops Q s a w
 | [],D,past,pl,g,w,h,a,L,I=>by
  have sR: ∀ i,i<c.ops.size->i∈D:=L
  have fO: ∀ {i k},c.dM i k->i<c.ops.size:=fun⟨o,ho,_⟩=>(Array.getElem?_eq_some_iff.1 ho).1
  show Q .normal a w
  cases pl with
  |cons pre gy q rest=>
   exact absurd (sR q (fO (DC I.run q List.mem_cons_self))) (I.LF q List.mem_cons_self)
  |last pre gy=>
   have S:=c.settle (A:=[]) gy h I.run.2 (fun i _ hc=>sR i (fO hc)) (by rw[List.append_nil];exact I.st) (fun i hi=>by cases hi)
   refine K _ _ _ S.ext S.hr ⟨G0.nt,I.size,fun u v hu e=>?_⟩ I.defers
   have hle:=c.o6 I.run.2
   by_cases hd: ∃ j,c.lM j u
   ·obtain⟨j,hj⟩:=hd
    obtain⟨o,ho,_⟩:=id hj
    have Fg:=(Array.getElem?_eq_some_iff.1 ho).1
    obtain⟨h1,v',e',hv⟩:=I.o8 j (sR j Fg) u hj
    rw[e]at e'
    cases e'
    have:=G0.top j Fg
    exact⟨h1,VR.fk (nO g w (by omega)) _ _ hv⟩
   ·rw[G0.same u hu (fun j hj=>hd ⟨j,hj⟩)]at e
    obtain⟨h1,h2⟩:=I.free u v hu (fun j _ hj=>hd ⟨j,hj⟩) e
    exact⟨h1,VR.fk (nO g w hle) _ _ h2⟩
 |i::s,D,past,pl,g,w,h,a,⟨his,xn,hE,L⟩,I=>by
  obtain⟨o,ho⟩: ∃ o,c.ops[i]? =some o:=⟨c.ops[i],Array.getElem?_eq_getElem his⟩
  obtain⟨yt,hC⟩:=z7 I.closed ho hE
  have Cp: ∀ b,g.eL b->b<w.heap.size:=I.st.hr.eL
  cases hk:(nM c.P c.call o.op).1 with
  |p0=>
   have fF:c.dM i .p0:=⟨o,ho,hk⟩
   obtain⟨v,hF,hS,hR⟩:=G0.p0 i fF
   have T:=I.reads G0.nt hR xn yt (N:=max (c.bd i) h.next) (by omega) (by omega)
   have e:kC c.P c.call c.nt c.ops.toList o (c.rf i) (fC 0)=.ok v (fC 0):=by
    rw[<-tE ho];exact hF _
   exact xm G0.call ho (.inl hk) (Il (g:=g.to (max (c.bd i) h.next)) Cp) T e fun x hx=>V9 G0 K s _ _ _ _ _ _ _ L (I.put G0 ho xn hC (.inl fF) hS hx)
  |p1=>
   have fF:c.dM i .p1:=⟨o,ho,hk⟩
   have Sm:i∈pl.pre:=by
    rcases MZ I.stat i fF with⟨j,hj,hA⟩|⟨j,hj,hA⟩|h
    ·exact absurd (I.closed j (I.tD j hj) i hA) xn
    ·exact absurd (yt j hA) (I.LF j hj)
    ·exact h
   obtain⟨v,hF,hS,hR⟩:=SE I.run i Sm fF
   have T:=I.reads G0.nt hR xn yt (N:=h.next) (Nat.le_refl _) (Nat.le_refl _)
   have e:kC c.P c.call c.nt c.ops.toList o (c.rf i) h=.ok v h:=by
    rw[<-tE ho];exact hF
   exact xm G0.call ho (.inr hk) I.st.hr.toHC T e fun x hx=>V9 G0 K s _ _ _ _ _ _ _ L
    (I.put G0 ho xn hC (.inr fF) hS (VR.fk (nO g w (by omega)) _ _ hx))
  |al=>
   have fF:c.dM i .al:=⟨o,ho,hk⟩
   obtain⟨v,hS,hR,hF⟩:=G0.al i fF
   have Dy:i∈pl.gy:=(I.QL i fF).resolve_right xn
   have GA:=c.qB I.run i Dy fF
   have T:=I.reads G0.nt hR xn yt (N:=c.nx i) (Nat.le_refl _) GA
   obtain⟨h',hh',V8⟩: ∃ h',((h'=fC (c.nx i)/\c.bd i=c.nx i)∨ ∃ cs,h'=dK (fC (c.nx i)) cs/\c.bd i=c.nx i+1)/\c.FE i (c.rf i) (fC (c.nx i))=.ok v h':=by
    rcases hF with⟨h1,h2⟩|⟨cs,h1,h2⟩
    ·exact⟨_,.inl ⟨rfl,h2⟩,h1⟩
    ·exact⟨_,.inr ⟨cs,rfl,h2⟩,h1⟩
   have e:kC c.P c.call c.nt c.ops.toList o (c.rf i) (fC (c.nx i))=.ok v h':=by
    rw[<-tE ho];exact V8
   have Cn: ∀ j,j∈i::D->j≠i->j∈D:=fun j hj mW=>(List.mem_cons.1 hj).resolve_left mW
   have fin: ∀ (g':G) (w':World) (x:Value),(∀ id y,g.m id=some y->g'.m id=some y)->g'.eL=g.eL->g'.to h.next=g.to h.next->(w'=w∨ ∃ ob,w'=w.alloc ob)->
    c.FK g' w' h i->(∀ id y,g'.m id=some y->g.m id=some y∨(c.bd i=c.nx i+1/\id=c.nx i))->
    (∀ j∈pl.gy,j∈D->c.dM j .al->c.bd j=c.nx j+1->c.bd i=c.nx i+1-> ∀ b,g'.m (c.nx i)=some (b,0)->g'.m (c.nx j)=some (b,0)->i=j)->
    VR (g'.to (max (c.bd i) h.next)) w' v x->c.Inv g' w' h (a.put o.dst x) (i::D) past pl:=by
    intro g' w' x hm hi uA hw hp SF QN hx
    have M: ∀ N,p6 (g.to N) w (g'.to N) w':=by
     intro N
     have hmN: ∀ id y,(g.to N).m id=some y->(g'.to N).m id=some y:=by
      intro id y e
      simp only[Go.Ab.G.to]at e ⊢
      by_cases gK:id<N
      ·rw[if_pos gK]at e ⊢;exact hm _ _ e
      ·rw[if_neg gK]at e;cases e
     rcases hw with rfl|⟨ob,rfl⟩
     ·exact⟨hmN,fun b k=>by simp only[Go.Ab.G.to]at k ⊢;rw[hi];exact k,fun _ _=>rfl,fun _=>Nat.le_refl _⟩
     ·exact qC hmN (by simp only[Go.Ab.G.to];exact hi) (by simp only[Go.Ab.G.to];exact Cp)
    have Xk: ∀ j,c.FK g w h j->c.FK g' w' h j:=by
     intro j p
     rcases hw with rfl|⟨ob,rfl⟩
     ·rcases p with p|⟨v,cs,b,C,el,vs,h1,h2,h3,h4,h5,h6,h7,h8,h9⟩
      ·exact .inl p
      ·exact .inr ⟨v,cs,b,C,el,vs,h1,h2,hm _ _ h3,h4,by rw[hi];exact h5,by rw[uA];exact h6,h7,bQ.fk (M _) _ _ h8,h9⟩
     ·exact Co hm hi Cp uA p
    have qe:HR (g'.to h.next) w' h/\Ext c.g0 c.w0 c.h0 (g'.to h.next) w' h:=by
     rw[uA]
     rcases hw with rfl|⟨ob,rfl⟩
     ·exact⟨I.st.hr,I.st.ext⟩
     ·obtain⟨E,H⟩:=zM I.st.hr ob
      exact⟨H,I.st.ext.trans E⟩
    exact
    {run:=I.run
     stat:=I.stat
     closed:=hC
     wz:=fun j hj=>(I.wz j hj).imp id (List.mem_cons_of_mem _)
     LF:=fun j hj h=>by
      rcases List.mem_cons.1 h with rfl|h
      ·cases c.jM fF (DC I.run j hj)
      ·exact I.LF j hj h
     tD:=fun j hj=>List.mem_cons_of_mem _ (I.tD j hj)
     QL:=fun j hj=>(I.QL j hj).imp id (List.mem_cons_of_mem _)
     st:=⟨qe.1,qe.2,fun j hj Cm yq=>by
      by_cases BI:j=i
      ·subst BI;exact hp
      ·exact Xk j (I.st.Cj j hj (Cn j Cm BI) yq),fun j hj k hk jD kD jc kc bj bk b mj mk=>by
      by_cases BI:j=i<;>by_cases Xl:k=i
      ·exact BI.trans Xl.symm
      ·subst BI
       exact QN k hk (Cn k kD Xl) kc bk bj b mj mk
      ·subst Xl
       exact(QN j hj (Cn j jD BI) jc bj bk b mk mj).symm
      ·have nj:g.m (c.nx j)=some (b,0):=by
        rcases SF _ _ mj with m|⟨b1,b2⟩
        ·exact m
        ·exact absurd (c.rj I.run j hj i Dy jc fF bj b1 b2) BI
       have nk:g.m (c.nx k)=some (b,0):=by
        rcases SF _ _ mk with m|⟨b1,b2⟩
        ·exact m
        ·exact absurd (c.rj I.run k hk i Dy kc fF bk b1 b2) Xl
       exact I.st.FL j hj k hk (Cn j jD BI) (Cn k kD Xl) jc kc bj bk b nj nk⟩
     QM:=fun n y e=>by
      rcases SF n y e with m|⟨b1,b2⟩
      ·exact(I.QM n y m).imp id fun⟨j,hj,hD,r⟩=>⟨j,hj,List.mem_cons_of_mem _ hD,r⟩
      ·exact .inr ⟨i,Dy,List.mem_cons_self,fF,b1,b2⟩
     o8:=sQ G0 ho I.size I.o8 (fun j _=>M _) xn (fun d hd=>⟨(hS d hd).1,v,(hS d hd).2,hx⟩)
     free:=vv ho I.size I.free (M _)
     size:=by rw[vt];exact I.size
     defers:=by rw[put_defers];exact I.defers}
   refine Im G0.call ho hk (Il (g:=g.to (c.nx i)) Cp) T e (fun h1 x w' hw hv=>?_) (fun cs C el vs x h1 eE hCv hv=>?_)
   ·have hb:c.bd i=c.nx i:=by
     rcases hh' with⟨_,h2⟩|⟨cs,h2,_⟩
     ·exact h2
     ·rw[h2]at h1
      have:=congrArg Hp.next h1
      exact absurd this (Nat.succ_ne_self _)
    exact V9 G0 K s _ _ _ _ _ _ _ L (fin g w' x (fun _ _ m=>m) rfl rfl hw (.inl hb) (fun id y m=>.inl m) (fun j _ _ _ _ k=>by omega) (hv _ _))
   ·have hb:c.bd i=c.nx i+1:=by
     rcases hh' with⟨h2,_⟩|⟨cs',_,h2⟩
     ·rw[h2]at h1
      have:=congrArg Hp.next h1
      exact absurd this.symm (Nat.succ_ne_self _)
     ·exact h2
    have Xm:g.m (c.nx i)=none:=by
     cases hm:g.m (c.nx i)with
     |none=>rfl
     |some y=>
      rcases I.QM _ _ hm with h|⟨j,hj,hD,yq,Wa,hje⟩
      ·omega
      ·have:=c.rj I.run i Dy j hj fF yq hb Wa hje
       exact absurd (this▸hD) xn
    have Di: ∀ id y,g.m id=some y->(g.add (c.nx i) w.heap.size).m id=some y:=by
     intro id y m
     simp only[G.add]
     rw[if_neg (fun k=>by rw[k,Xm]at m;cases m)]
     exact m
    have BJ:(g.add (c.nx i) w.heap.size).m (c.nx i)=some (w.heap.size,0):=by simp[G.add]
    have uA:(g.add (c.nx i) w.heap.size).to h.next=g.to h.next:=G.Ir GA
    have wG:(w.alloc (.cells C el)).heap[w.heap.size]? =some (.cells C el (0,0)):=by rw[nQ,if_pos rfl]
    have oD:C.size<=ed (w.alloc (.cells C el)) w.heap.size:=by rw[qd];exact Nat.le_refl _
    rw[h1]at V8
    refine V9 G0 K s _ _ _ _ _ _ _ L (fin (g.add (c.nx i) w.heap.size) _ x Di rfl uA (.inr ⟨_,rfl⟩) (.inr ⟨v,cs,w.heap.size,C,FT.nw C el,vs,hb,V8,BJ,wG,?_,?_,I.st.ext.size,?_,hCv⟩)
     (fun id y m=>?_) (fun j hj Cm yq Wa _ b m1 m2=>?_) (hv _ _ ?_ oD))
    ·intro k
     exact absurd (Cp _ k) (Nat.lt_irrefl _)
    ·rw[uA]
     rintro⟨id,cs',s,e,m⟩
     obtain⟨_,_,_,hw,_⟩:=I.st.hr.row e m
     have:=(Array.getElem?_eq_some_iff.1 hw).1
     omega
    ·have hT:(g.add (c.nx i) w.heap.size).to (c.nx i)=g.to (c.nx i):=G.Ir (Nat.le_refl _)
     rw[hT]
     exact bQ.fk (qC (fun _ _ m=>m) rfl (by simp only[Go.Ab.G.to];exact Cp)) _ _ eE
    ·by_cases gK:id=c.nx i
     ·exact .inr ⟨hb,gK⟩
     ·simp only[G.add,if_neg gK]at m
      exact .inl m
    ·rw[BJ]at m1
     obtain⟨rfl,_⟩:=Prod.mk.inj (Option.some.inj m1)
     have mW:c.nx j≠c.nx i:=fun k=>xn (c.rj I.run i Dy j hj fF yq hb Wa k.symm▸Cm)
     simp only[G.add,if_neg mW]at m2
     rcases I.st.Cj j hj Cm yq with hp|⟨_,_,b,_,_,_,_,_,h3,h4,_⟩
     ·omega
     ·rw[m2]at h3
      obtain⟨rfl,_⟩:=Prod.mk.inj (Option.some.inj h3)
      have:=(Array.getElem?_eq_some_iff.1 h4).1
      omega
    ·show(Go.Ab.G.to _ _).m (c.nx i)=_
     simp only[Go.Ab.G.to]
     rw[if_pos (by omega)]
     exact BJ
  |ch=>
   have fF:c.dM i .ch:=⟨o,ho,hk⟩
   have Dy:=(I.wz i fF).resolve_right xn
   cases pl with
   |last pre gy=>cases Dy
   |cons pre gy q rest=>
    have hq:i=q:=by
     rcases List.mem_cons.1 Dy with h|h
     ·exact h
     ·exact absurd (yt q (I.stat.2.2.1 i h)) (I.LF q List.mem_cons_self)
    subst hq
    obtain⟨_,h1,SG,_,v,h2,hF,hS,hR,hb,hle,jV⟩:=I.run
    have ae6:=c.o6 SG
    have S:=c.settle gy h SG (fun j hj hc=>yt j (I.stat.2.1 j hj hc)) I.st (fun j hj hc=>Nat.le_trans hle (c.qB jV j hj hc))
    have T:=I.reads G0.nt hR xn yt (N:=h1.next) (Nat.le_refl _) ae6
    have e:kC c.P c.call c.nt c.ops.toList o (c.rf i) h1=.ok v h2:=by
     rw[<-tE ho];exact hF
    refine ym G0.call ho S.hr T e fun g' w' x E H' hv=>?_
    obtain⟨G',Xn⟩: ∃ G':G,G'=⟨fun id=>if id<h2.next then g'.m id else g.m id,g'.eL⟩:=⟨_,rfl⟩
    have uA:G'.to h2.next=g':=by
     rw[Xn]
     unfold Go.Ab.G.to
     cases g' with
     |mk m im=>
      simp only[G.mk.injEq,and_true]
      funext id
      by_cases gK:id<h2.next
      ·simp only[gK,if_true]
      ·simp only[gK,if_false]
       exact(H'.fresh id (by omega)).symm
    have M0:=E.mono S.hr.toHC
    have QO: ∀ id y,g.m id=some y->h1.next<=id->h2.next<=id/\ ∃ j∈rest.gy,j∈D/\c.dM j .al/\c.bd j=c.nx j+1/\id=c.nx j:=by
     intro id y m gK
     rcases I.QM id y m with h|⟨j,hj,Cm,yq,Wa,rfl⟩
     ·omega
     ·rcases List.mem_append.1 hj with hj|hj
      ·have:=(c.lX SG j hj yq).2 Wa
       omega
      ·exact⟨c.qB jV j hj yq,j,hj,Cm,yq,Wa,rfl⟩
    have hm: ∀ id y,g.m id=some y->G'.m id=some y:=by
     intro id y m
     rw[Xn]
     show(if id<h2.next then g'.m id else g.m id)=some y
     by_cases gK:id<h2.next
     ·rw[if_pos gK]
      have:id<h1.next:=by
       refine Classical.byContradiction fun k=>?_
       have:=(QO id y m (by omega)).1
       omega
      exact E.m id y (by simp only[Go.Ab.G.to];rw[if_pos this];exact m)
     ·rw[if_neg gK];exact m
    have V6:G'.eL=g'.eL:=by rw[Xn]
    have M: ∀ B B',B<=B'->p6 (g.to B) w (G'.to B') w':=by
     intro B B' hB
     refine⟨?_,fun b k=>?_,fun b k=>?_,E.rows⟩
     ·intro id y k
      simp only[Go.Ab.G.to]at k ⊢
      by_cases gK:id<B
      ·rw[if_pos gK]at k
       rw[if_pos (by omega)]
       exact hm id y k
      ·rw[if_neg gK]at k;cases k
     ·show G'.eL b
      rw[V6]
      exact E.eL b k
     ·exact E.oL b (Cp b k) (S.hr.lK k)
    refine V9 G0 K s (i::D) (i::past) rest G' w' h2 (a.put o.dst x) L ?_
    have DD: ∀ j∈rest.gy,j∈gy++rest.gy:=fun j hj=>List.mem_append_right _ hj
    have Cn: ∀ j,c.dM j .al->j∈i::D->j∈D:=by
     intro j hj h
     refine(List.mem_cons.1 h).resolve_left fun e=>?_
     subst e
     cases c.jM fF hj
    exact
    {run:=jV
     stat:=I.stat.2.2.2
     closed:=hC
     wz:=fun j hj=>by
      rcases I.wz j hj with h|h
      ·rcases List.mem_cons.1 h with rfl|h
       ·exact .inr List.mem_cons_self
       ·exact .inl h
      ·exact .inr (List.mem_cons_of_mem _ h)
     LF:=fun j hj h=>by
      rcases List.mem_cons.1 h with rfl|h
      ·
       exact absurd (yt j (I.stat.2.2.1 j hj)) xn
      ·exact I.LF j (List.mem_cons_of_mem _ hj) h
     tD:=fun j hj=>by
      rcases List.mem_cons.1 hj with rfl|hj
      ·exact List.mem_cons_self
      ·exact List.mem_cons_of_mem _ (I.tD j hj)
     QL:=fun j hj=>by
      rcases I.QL j hj with h|h
      ·rcases List.mem_append.1 h with h|h
       ·exact .inr (List.mem_cons_of_mem _ (yt j (I.stat.2.1 j h hj)))
       ·exact .inl h
      ·exact .inr (List.mem_cons_of_mem _ h)
     st:=⟨by rw[uA];exact H',by rw[uA];exact S.ext.trans E,fun j hj Cm yq=>by
      rcases S.Cj j hj (Cn j yq Cm) yq with p|⟨v,cs,b,C,el,vs,oh,Ms,h3,h4,h5,h6,h7,h8,h9⟩
      ·exact .inl p
      ·have fO:=(Array.getElem?_eq_some_iff.1 h4).1
       refine .inr ⟨v,cs,b,C,el,vs,oh,Ms,hm _ _ h3,by rw[E.oL b fO h6];exact h4,?_,?_,h7,bQ.fk (M _ _ (Nat.le_refl _)) _ _ h8,h9⟩
       ·rw[V6]
        intro k
        rcases E.E8 b k with k|k|k
        ·exact h5 k
        ·exact h6 k
        ·omega
       ·rw[uA]
        intro k
        rcases E.mZ b k with k|k
        ·exact h6 k
        ·omega,fun j hj k hk jD kD jc kc bj bk b mj mk=>by
      have e1: ∀ l∈rest.gy,l∈D->c.dM l .al->c.bd l=c.nx l+1->G'.m (c.nx l)=some (b,0)->g.m (c.nx l)=some (b,0):=by
       intro l hl lD lc lb ml
       have:=c.qB jV l hl lc
       rw[Xn]at ml
       simp only at ml
       rw[if_neg (by omega)]at ml
       exact ml
      exact I.st.FL j (DD j hj) k (DD k hk) (Cn j jc jD) (Cn k kc kD) jc kc bj bk b (e1 j hj (Cn j jc jD) jc bj mj) (e1 k hk (Cn k kc kD) kc bk mk)⟩
     QM:=fun n y m=>by
      by_cases hn:n<h2.next
      ·exact .inl hn
      ·rw[Xn]at m
       simp only at m
       rw[if_neg hn]at m
       obtain⟨_,j,hj,Cm,r⟩:=QO n y m (by omega)
       exact .inr ⟨j,hj,List.mem_cons_of_mem _ Cm,r⟩
     o8:=sQ G0 ho I.size I.o8 (fun j _=>M _ _ (by omega)) xn (fun d hd=>⟨(hS d hd).1,v,(hS d hd).2,by
      have:max (c.bd i) h2.next=h2.next:=by omega
      rw[this,uA];exact hv⟩)
     free:=vv ho I.size I.free (M _ _ (by omega))
     size:=by rw[vt];exact I.size
     defers:=by rw[put_defers];exact I.defers}
end Cx
end Go.Ab

noncomputable section
namespace Go.Ab
variable [Io]
def Is:Value->Value->Bool
 | .string a,.string b=>a.data.toList == b.data.toList
 | .pointer none,.pointer none=>true
 | .map none,.map none=>true
 | .nilFunc,.nilFunc=>true
 | .nilIface,.nilIface=>true
 | .slice none n c,.slice none n' c'=>Nat.beq n n'&&Nat.beq c c'
 | _,_=>false
mutual
def mf:AV->AV->Bool
 | .int k n,.int k' n'=>ka k k'&&eqI n n'
 | .bool a,.bool b=> !(xor a b)
 | .sc a,.sc b=>Is a b
 | .agg a,.agg b=>i6 a b
 | .qP a,.qP b=>i6 a b
 | .ref i o,.ref i' o'=>Nat.beq i i'&&Nat.beq o o'
 | .dV i o n s,.dV i' o' n' s'=>Nat.beq i i'&&Nat.beq o o'&&Nat.beq n n'&&Nat.beq s s'
 | .iw n a,.iw m b=>Nat.beq n m&&i6 a b
 | .gj a,.gj b=>i6 a b
 | .eD,.eD=>true
 | .mI,.mI=>true
 | .fn f a,.fn f' b=>Nat.beq f f'&&i6 a b
 | .sym k s lo hi o,.sym k' s' lo' sC o'=>ka k k'&&(E5 s s'&&(eqI lo lo'&&(eqI hi sC&&eqI o o')))
 | .any,.any=>true
 | _,_=>false
def i6:List AV->List AV->Bool
 | [],[]=>true
 |a::l,b::r=>mf a b&&i6 l r
 | _,_=>false
end
omit [Io] in
theorem rk{a b:Int}(h:eqI a b=true):a=b:=by
 cases a<;>cases b<;>simp[eqI]at h<;>simp[h]
omit [Io] in
theorem It{a b:ByteArray}(h:(a.data.toList == b.data.toList)=true):a=b:=by
 cases a with
 |mk a=>cases b with
  |mk b=>
   congr 1
   exact Array.toList_inj.1 (by simpa using h)
omit [Io] in
theorem Iu{a b:Value}(h:Is a b=true):a=b:=by
 unfold Is at h
 split at h
 ·rw[It h]
 all_goals first|rfl|(cases h;done)|(rw[Bool.and_eq_true]at h;rw[Nat.eq_of_beq_eq_true h.1,Nat.eq_of_beq_eq_true h.2])
section
omit [Io]
mutual
theorem uB: ∀ (a b:AV),mf a b=true->a=b
 | .int k n,b,h=>by cases b<;>simp only[mf,Bool.and_eq_true]at h<;>try cases h
                    rename_i h1 h2
                    rw[eY.1 h1,rk h2]
 | .bool x,b,h=>by cases b<;>simp only[mf]at h<;>try cases h
                   rename_i y
                   cases x<;>cases y<;>first|rfl|cases h
 | .sc x,b,h=>by cases b<;>simp only[mf]at h<;>try cases h
                 rw[Iu h]
 | .agg x,b,h=>by cases b<;>simp only[mf]at h<;>try cases h
                  rw[iC _ _ h]
 | .qP x,b,h=>by cases b<;>simp only[mf]at h<;>try cases h
                 rw[iC _ _ h]
 | .ref i o,b,h=>by cases b<;>simp only[mf,Bool.and_eq_true,Nat.beq_eq]at h<;>try cases h
                    rename_i h1 h2
                    rw[h1,h2]
 | .dV i o n s,b,h=>by cases b<;>simp only[mf,Bool.and_eq_true,Nat.beq_eq]at h<;>try (cases h;done)
                       obtain⟨⟨⟨h1,h2⟩,h3⟩,h4⟩:=h
                       rw[h1,h2,h3,h4]
 | .iw n x,b,h=>by cases b<;>simp only[mf,Bool.and_eq_true,Nat.beq_eq]at h<;>try cases h
                   rename_i h1 h2
                   rw[h1,iC _ _ h2]
 | .gj x,b,h=>by cases b<;>simp only[mf]at h<;>try cases h
                 rw[iC _ _ h]
 | .eD,b,h=>by cases b<;>simp only[mf]at h<;>first|rfl|cases h
 | .mI,b,h=>by cases b<;>simp only[mf]at h<;>first|rfl|cases h
 | .any,b,h=>by cases b<;>simp only[mf]at h<;>first|rfl|cases h
 | .sym k s lo hi o,b,h=>by cases b<;>simp only[mf,Bool.and_eq_true]at h<;>try (cases h;done)
                            obtain⟨h1,h2,h3,h4,h5⟩:=h
                            rw[eY.1 h1,Hv h2,rk h3,rk h4,rk h5]
 | .fn f x,b,h=>by cases b<;>simp only[mf,Bool.and_eq_true,Nat.beq_eq]at h<;>try cases h
                   rename_i h1 h2
                   rw[h1,iC _ _ h2]
theorem iC: ∀ (a b:List AV),i6 a b=true->a=b
 | [],b,h=>by cases b with
  |nil=>rfl
  |cons _ _=>simp[i6]at h
 |a::l,b,h=>by
  cases b with
  |nil=>simp[i6]at h
  |cons c r=>
   simp only[i6,Bool.and_eq_true]at h
   rw[uB _ _ h.1,iC _ _ h.2]
end
end
def ck(s:eR)(f:eP)(k:me):me:=fun t h=>Ro.rec Rt.bad (fun v _=>Option.rec Rt.bad (fun u=>Bool.rec Rt.bad (k t h) (mf u v)) (s t)) (f t h)
def mn(f:eP):eP:=fun t h=>Ro.rec Ro.bad (fun v h'=>Bool.rec Ro.bad (Ro.ok v h') (Nat.ble h.next h'.next)) (f t h)
def Xo:Cl->Cl->Bool
 | .p0,.p0| .p1,.p1| .al,.al| .ch,.ch=>true
 | _,_=>false
omit [Io] in
theorem Iv{a b:Cl}(h:Xo a b=true):a=b:=by cases a<;>cases b<;>first|rfl|cases h
def kL(i:Nat)(l:List Nat):Bool:=List.rec false (fun a _ ih=>Bool.rec ih true (Nat.beq a i)) l
omit [Io] in
theorem kf{i:Nat}: ∀ {l:List Nat},kL i l=true↔i∈l
 | []=>by simp[kL]
 |a::l=>by
  show(Bool.rec (kL i l) true (Nat.beq a i):Bool)=true↔_
  cases h:Nat.beq a i with
  |true=>
   have:=Nat.eq_of_beq_eq_true h
   subst this
   simp
  |false=>
   have: ¬ i=a:=fun e=>by subst e;simp at h
   simp only[List.mem_cons,this,false_or]
   exact kf
def Cq(p:Nat->Bool)(l:List Nat):Bool:=List.rec false (fun a _ ih=>Bool.rec ih true (p a)) l
omit [Io] in
theorem rm{p:Nat->Bool}: ∀ {l:List Nat},Cq p l=true↔ ∃ i∈l,p i=true
 | []=>by simp[Cq]
 |a::l=>by
  show(Bool.rec (Cq p l) true (p a):Bool)=true↔_
  cases h:p a with
  |true=>simp[h]
  |false=>simp only[List.mem_cons,exists_eq_or_imp,h,Bool.false_eq_true,false_or];exact rm
def allI(p:Nat->Oper->Bool)(l:List Oper):Nat->Bool:=
 List.rec (fun _=>true) (fun o _ ih i=>Bool.rec false (ih (Nat.add i 1)) (p i o)) l
omit [Io] in
theorem xp{p:Nat->Oper->Bool}: ∀ {l:List Oper} {k:Nat},allI p l k=true-> ∀ i o,l[i]? =some o->p (k+i) o=true
 | [],k,_,i,o,h=>by simp at h
 |a::l,k,hh,i,o,h=>by
  change (Bool.rec false (allI p l (k+1)) (p k a):Bool)=true at hh
  cases hp:p k a with
  |false=>rw[hp]at hh;cases hh
  |true=>
   rw[hp]at hh
   cases i with
   |zero=>simp at h;subst h;exact hp
   |succ i=>
    have:=xp hh i o (by simpa using h)
    rwa [show k+1+i=k+(i+1) by omega]at this
omit [Io] in
theorem kg{p:Nat->Oper->Bool}{l:List Oper}(h:allI p l 0=true)(i:Nat)(o:Oper)(ho:l[i]? =some o):p i o=true:=by
 have:=xp h i o ho
 simpa using this
def DE(l:List Oper):Bool:=allI (fun i o=>fB (fun e=>Bool.rec true (Nat.blt e.on i) (Region.binds .any e)) o.after.toList) l 0
omit [Io] in
theorem M3{ops:Array Oper}(h:DE ops.toList=true):Down ops:=by
 intro i o e ho he hb
 have:=kg h i o (by simpa using ho)
 rw[hI,List.all_eq_true]at this
 have:=this e (by simpa using he)
 rw[hb]at this
 exact ct.1 this
def xq(o:Oper)(d:Nat):Bool:=match o.dst with
 |some e=>Nat.beq e d
 |none=>false
omit [Io] in
theorem sS{o:Oper}{d:Nat}(h:o.dst=some d):xq o d=true:=by unfold xq;rw[h];simp
def M4(l:List Oper):Bool:=allI (fun i o=>match o.dst with
 |some d=>allI (fun j o'=>Bool.rec true (Nat.beq i j) (xq o' d)) l 0
 |none=>true) l 0
section
variable (P:Program)(call:cY)(nt:Nat)(L:List Oper)
def rq(k:Cl)(i:Nat):Bool:=match kE L i with
 |some o=>Xo (nM P call o.op).1 k
 |none=>false
def BK(cM:List Nat)(i:Nat):Bool:=match kE L i with
 |some o=>fB (fun u=>Nat.blt u nt&&Bool.rec (allI (fun j o'=>Bool.rec true (!kL j cM&&(Cf L j i&& !Cf L i j)) (xq o' u)) L 0) true (allI (fun j o'=>Bool.rec true (kL j cM&&Cf L i j) (xq o' u)) L 0)) (pP L o)
 |none=>false
def M5(i:Nat)(k:me):me:=match kE L i with
 |some o=>match o.dst with
  |some d=>gD (Nat.blt d nt) (st (sT d) (kC P call nt L o) k) (fun _ _=>.bad)
  |none=>sn (kC P call nt L o) k
 |none=>fun _ _=>.bad
def SH(i:Nat)(k:me):me:=match kE L i with
 |some o=>match o.dst with
  |some d=>gD (Nat.blt d nt) (ck (oT d) (kC P call nt L o) k) (fun _ _=>.bad)
  |none=>sn (kC P call nt L o) k
 |none=>fun _ _=>.bad
def runM(i:Nat)(k:me):me:=match kE L i with
 |some o=>match o.dst with
  |some d=>gD (Nat.blt d nt) (st (sT d) (mn (kC P call nt L o)) k) (fun _ _=>.bad)
  |none=>sn (mn (kC P call nt L o)) k
 |none=>fun _ _=>.bad
def Af:List Nat->List Nat->(List Nat->me)->me
 | [],cM,k=>k cM
 |i::l,cM,k=>gD (BK nt L cM i) (gD (kL i cM) (gD (rq P call L .p1 i) (SH P call nt L i (Af l cM k)) (fun _ _=>.bad))
  (gD (rq P call L .p0 i||rq P call L .p1 i) (M5 P call nt L i (Af l (i::cM) k)) (fun _ _=>.bad))) (fun _ _=>.bad)
def Cr:List Nat->List Nat->(List Nat->me)->me
 | [],cM,k=>k cM
 |i::l,cM,k=>gD (BK nt L cM i&&(!kL i cM&&(rq P call L .p0 i||rq P call L .al i))) (M5 P call nt L i (Cr l (i::cM) k)) (fun _ _=>.bad)
def ng:lh->List Nat->me
 | .last pre gy,cM=>Af P call nt L pre cM fun cM=>Cr P call nt L gy cM fun cM=>gD (allI (fun i _=>kL i cM) L 0) fi (fun _ _=>.bad)
 | .cons pre gy q rest,cM=>Af P call nt L pre cM fun cM=>Cr P call nt L gy cM fun cM=>
   gD (BK nt L cM q&&(!kL q cM&&rq P call L .ch q)) (runM P call nt L q (ng rest (q::cM))) (fun _ _=>.bad)
def xr:lh->List Nat->Bool
 | .last pre _,past=>allI (fun i _=>Bool.rec true (Cq (fun j=>Cf L j i) past||kL i pre) (rq P call L .p1 i)) L 0
 | .cons pre gy q rest,past=>allI (fun i _=>Bool.rec true (Cq (fun j=>Cf L j i) past||(Cq (fun j=>Cf L i j) (q::rest.wz)||kL i pre)) (rq P call L .p1 i)) L 0&&
   (fB (fun i=>Bool.rec true (Cf L q i) (rq P call L .al i)) gy&&(fB (fun q'=>Cf L q' q) rest.wz&&xr rest (q::past)))
end
end Go.Ab
