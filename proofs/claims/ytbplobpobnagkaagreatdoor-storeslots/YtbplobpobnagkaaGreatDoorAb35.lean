import Derived.Test.YtbplobpobnagkaaGreatDoorAb21
noncomputable section
namespace Go.Ab
variable [Io]
def uA(n:Nat):Hp->AV->Option AV:=
 Nat.rec (fun _ _=>none) (fun _ ih h a=>match a with
  | .ff id off n sz=>match h.aP.get id with
   |some cs=>match cs.lO off (Nat.mul n sz)with
    |some l=>match mapA (ih h) l with
     |some l=>some (.lj n l)
     |none=>none
    |none=>none
   |none=>none
  | .ref id off=>match h.aP.get id with
   |some cs=>match cs.lO off (Nat.sub cs.n off)with
    |some l=>match mapA (ih h) l with
     |some l=>some (.jC l)
     |none=>none
    |none=>none
   |none=>none
  | .agg l=>match mapA (ih h) l with
   |some l=>some (.agg l)
   |none=>none
  | .wK l=>match mapA (ih h) l with
   |some l=>some (.wK l)
   |none=>none
  | .fn f l=>match mapA (ih h) l with
   |some l=>some (.fn f l)
   |none=>none
  | .lj _ _=>none
  | .jC _=>none
  |a=>some a) n
theorem RT{g g':G}{w:World}{h:Hp}(H:HR g w h)(ho: ∀ b,j1 g h b->g'.fx b): ∀ (n:Nat) (a a':AV) (v:Value),uA n h a=some a'->VR g w a v->VR g' w a' v:=by
 intro n
 induction n with
 |zero=>intro a a' v e;cases e
 |succ n ih=>
  intro a a' v e hv
  have hm:= @HG _ g g' w (uA n h) ih
  cases a with
  |int k n=>cases e;simpa only[VR]using hv
  |bool b=>cases e;simpa only[VR]using hv
  |sc x=>cases e;simpa only[VR]using hv
  |fk=>cases e;simpa only[VR]using hv
  |qk=>cases e;simpa only[VR]using hv
  |sym k s lo hi o=>cases e;simpa only[VR]using hv
  |any=>cases e;simpa only[VR]using hv
  |agg l=>
   change (match mapA (uA n h) l with|some l=>some (AV.agg l)|none=>none)=some a' at e
   cases h1:mapA (uA n h) l with
   |none=>rw[h1]at e;cases e
   |some l'=>
    rw[h1]at e
    cases e
    simp only[VR]at hv ⊢
    obtain⟨vs,e,q⟩:=hv
    exact⟨vs,e,hm h1 q⟩
  |wK l=>
   change (match mapA (uA n h) l with|some l=>some (AV.wK l)|none=>none)=some a' at e
   cases h1:mapA (uA n h) l with
   |none=>rw[h1]at e;cases e
   |some l'=>
    rw[h1]at e
    cases e
    simp only[VR]at hv ⊢
    obtain⟨vs,e,q⟩:=hv
    exact⟨vs,e,hm h1 q⟩
  |fn f l=>
   change (match mapA (uA n h) l with|some l=>some (AV.fn f l)|none=>none)=some a' at e
   cases h1:mapA (uA n h) l with
   |none=>rw[h1]at e;cases e
   |some l'=>
    rw[h1]at e
    cases e
    simp only[VR]at hv ⊢
    obtain⟨vs,e,q⟩:=hv
    exact⟨vs,e,hm h1 q⟩
  |lj m l=>cases e
  |jC l=>cases e
  |ref id off=>
   change (match h.aP.get id with|some cs=>(match cs.lO off (Nat.sub cs.n off)with|some l=>(match mapA (uA n h) l with|some l=>some (AV.jC l)|none=>none)|none=>none)|none=>none)=some a' at e
   cases h0:h.aP.get id with
   |none=>rw[h0]at e;cases e
   |some cs=>
   rw[h0]at e
   simp only at e
   cases hs:cs.lO off (Nat.sub cs.n off)with
   |none=>rw[hs]at e;cases e
   |some l=>
   rw[hs]at e
   simp only at e
   cases h1:mapA (uA n h) l with
   |none=>rw[h1]at e;cases e
   |some l'=>
    rw[h1]at e
    cases e
    obtain⟨rfl,_,_⟩:=mG hs
    simp only[VR]at hv ⊢
    obtain⟨b,s,hmm,rfl⟩:=hv
    obtain⟨C,el,vs,hw,_,eH,hC⟩:=H.row h0 hmm
    exact⟨b,s+off,(vs.drop off).take (Nat.sub cs.n off),rfl,ho b ⟨id,cs,s,h0,hmm⟩,((jL hw hC).drop off).take _,hm h1 ((eH.drop off).take _)⟩
  |ff id off m sz=>
   change (match h.aP.get id with|some cs=>(match cs.lO off (Nat.mul m sz)with|some l=>(match mapA (uA n h) l with|some l=>some (AV.lj m l)|none=>none)|none=>none)|none=>none)=some a' at e
   cases h0:h.aP.get id with
   |none=>rw[h0]at e;cases e
   |some cs=>
   rw[h0]at e
   simp only at e
   cases hs:cs.lO off (Nat.mul m sz)with
   |none=>rw[hs]at e;cases e
   |some l=>
   rw[hs]at e
   simp only at e
   cases h1:mapA (uA n h) l with
   |none=>rw[h1]at e;cases e
   |some l'=>
    rw[h1]at e
    cases e
    obtain⟨rfl,hlen,_⟩:=mG hs
    simp only[VR]at hv ⊢
    rcases hv with⟨rfl,x,rfl⟩|⟨b,s,cap,hmm,rfl,hle,_⟩
    ·refine⟨x,0,rfl,Nat.le_refl _,.inl ⟨rfl,?_⟩⟩
     have hz:Nat.mul 0 sz=0:=Nat.zero_mul sz
     rw[hz]at h1
     simp only[List.take_zero]at h1
     cases h1
     rfl
    ·obtain⟨C,el,vs,hw,_,eH,hC⟩:=H.row h0 hmm
     exact⟨_,cap,rfl,hle,.inr ⟨b,s+off,(vs.drop off).take (Nat.mul m sz),rfl,ho b ⟨id,cs,s,h0,hmm⟩,((jL hw hC).drop off).take _,hm h1 ((eH.drop off).take _)⟩⟩
mutual
def qp:AV->Bool
 | .agg l=>pQ l
 | .wK l=>pQ l
 | .lj _ l=>pQ l
 | .jC l=>pQ l
 | .fn _ l=>pQ l
 | .ref _ _=>false
 | .ff _ _ _ _=>false
 | _=>true
def pQ:List AV->Bool
 | []=>true
 |a::l=>qp a&&pQ l
end
mutual
theorem VR.qp{g:G}{w:World}: ∀ (a:AV) (v:Value),qp a=true->VR g w a v->VR (gE g.fx) w a v
 | .int _ _,v,n,r=>by simpa only[VR]using r
 | .bool _,v,n,r=>by simpa only[VR]using r
 | .sc _,v,n,r=>by simpa only[VR]using r
 | .fk,v,n,r=>by simpa only[VR]using r
 | .qk,v,n,r=>by simpa only[VR]using r
 | .any,v,n,r=>by simpa only[VR]using r
 | .sym _ _ _ _ _,v,n,r=>by simpa only[VR]using r
 | .ref _ _,v,n,r=>by cases n
 | .ff _ _ _ _,v,n,r=>by cases n
 | .agg cs,v,n,r=>by
  simp only[VR]at r ⊢
  obtain⟨vs,e,q⟩:=r
  exact⟨vs,e,bL.qp cs _ n q⟩
 | .wK cs,v,n,r=>by
  simp only[VR]at r ⊢
  obtain⟨vs,e,q⟩:=r
  exact⟨vs,e,bL.qp cs _ n q⟩
 | .fn f cs,v,n,r=>by
  simp only[VR]at r ⊢
  obtain⟨vs,e,q⟩:=r
  exact⟨vs,e,bL.qp cs _ n q⟩
 | .lj m cs,v,n,r=>by
  simp only[VR]at r ⊢
  obtain⟨a,cap,e,l,r⟩:=r
  refine⟨a,cap,e,l,?_⟩
  rcases r with r|⟨b,o,vs,e,i,c,q⟩
  ·exact .inl r
  ·exact .inr ⟨b,o,vs,e,i,c,bL.qp cs _ n q⟩
 | .jC cs,v,n,r=>by
  simp only[VR]at r ⊢
  obtain⟨b,o,vs,e,i,c,q⟩:=r
  exact⟨b,o,vs,e,i,c,bL.qp cs _ n q⟩
theorem bL.qp{g:G}{w:World}: ∀ (l:List AV) (vs:List Value),pQ l=true->bL g w l vs->bL (gE g.fx) w l vs
 | [],vs,n,r=>by simpa only[bL]using r
 |a::l,vs,n,r=>by
  simp only[pQ,Bool.and_eq_true]at n
  simp only[bL]at r ⊢
  obtain⟨v,l',e,q,r⟩:=r
  exact⟨v,l',e,VR.qp a v n.1 q,bL.qp l l' n.2 r⟩
end
def dK(P:Program)(f:FuncId)(args:List AV)(v:AV):Prop:=
 (∀ as w,(callFunc f as).run P w=.ok (.enter f as) w)/\ ∀ (g:G) (w:World) (vs:List Value),(∀ b,g.fx b->b<w.heap.size)->nQ g w->bL g w args vs->
  Calls P f vs.toArray w fun e w'=> ∃ x,e=.returned x/\Jv w w'/\VR (gE fun b=>w.heap.size<=b/\b<w'.heap.size) w' v x
def aiG(r:Ro):Option AV:=Ro.rec none (fun v h=>uA 8 h v) r
theorem Jw{P:Program}{call:cZ}(hc:eR P call){f:FuncId}{args:List AV}{v':AV}(e:aiG (call f args (fQ 0))=some v')(ha:pQ args=true):dK P f args v':=by
 cases hr:call f args (fQ 0)with
 |bad=>rw[hr]at e;cases e
 |ok v h'=>
 rw[hr]at e
 have hf:uA 8 h' v=some v':=e
 obtain⟨hen,Ap⟩:=hc f args (fQ 0) v h' hr
 refine⟨hen,fun g w vs hi ht hv=>(Ap (gE g.fx) w vs (Dm hi ht) (bL.qp _ _ ha hv)).mono ?_⟩
 rintro e w' ⟨x,g',rfl,E,H',hx⟩
 refine⟨x,rfl,HF E,RT H' (fun b k=>?_) 8 v v' x hf hx⟩
 rcases E.og b k with⟨id,cs,s,e,_⟩|k1
 ·cases e
 ·obtain⟨id,cs,s,e,m⟩:=k
  obtain⟨_,_,_,hw,_⟩:=H'.row e m
  exact⟨k1,(Array.getElem?_eq_some_iff.1 hw).1⟩
end Go.Ab

noncomputable section
namespace Go.Ab
inductive Od where
 |t (i:Nat)
 |c (v:AV)
 |zz
 |w (o:Od)
inductive BF where
 |add|sub|mul|quo|rem|and|or|xor|andNot|shl|shr|lss|leq|gtr|geq
 |eqI (neg:Bool)|eqB (neg:Bool)|QC (neg:Bool)|eqP (neg:Bool)|eqN (neg:Bool)|nh (neg:Bool) (l:List Bool)
inductive UF where
 |not|neg|xor|int (k:IntKind)
inductive kJ where
 |mv (a:Od)|pk (c a b:Od)|nw (cs:List AV)|bx (a:Od)|bd (z:List AV) (ps:List (Nat×Nat×Od))|rw(n sz:Nat) (z:List AV) (ps:List (Nat×Od))
 |ld (sz:Nat) (agg:Bool) (a:Od)|sto (sz:Nat) (a b:Od)|nl (a:Od)|bn (f:BF) (a b:Od)|un (f:UF) (a:Od)|bys (a:Od)|fn (f:FuncId) (cap:List Od)
 |mk (size bytes:Nat) (zero:List AV) (l c:Od)|slS (a:Od) (lo hi:Option Od)|slN (size:Nat) (a:Od) (lo hi:Option Od)|slA (n size:Nat) (a:Od) (lo hi:Option Od)
 |fa (off:Nat) (a:Od)|fd (off size:Nat) (agg:Bool) (a:Od)|ixS (size:Nat) (a i:Od)|ixA (n size:Nat) (a i:Od)|ix (n size:Nat) (agg:Bool) (a i:Od)|ixT (a i:Od)
 |ex (a:Od) (i:Nat)|lnT (a:Od)|ln (a:Od)|ap (size bytes:Nat) (s a:Od)|apZ (size bytes:Nat) (z:List AV) (s a:Od)|apS (bytes:Nat) (s a:Od)|mrk (a:Od)
 |cpy (size:Nat) (d s:Od)|emp (a b c:Od)|min (a b:Od)|max (a b:Od)|map|cap (a:Od)|bad|call (f:FuncId) (args:List Od)|callV (f:Od) (args:List Od)
 |gd (j:Od) (want:Bool) (f:kJ)|mn (f:kJ)
inductive zI where
 |fi
 |st (i:Nat) (f:kJ) (k:zI)
 |sn (f:kJ) (k:zI)
 |ck (s:Od) (f:kJ) (k:zI)
inductive qt where
 |rg (r:zI)|sk|sq (a b:qt)|cif (c:Od) (a b:qt)|bl (id:Nat) (b:qt)|lp (b:qt)|ex (i:Nat)|rt|bad
structure dB where
 ntmps:Nat
 res:List RV
 code:qt
def bF(o:Od):eN:=Od.rec (fun i=>oT i) (fun v=>oC v) oX (fun _ ih=>wO ih) o
def BF.f:BF->AV->AV->Option AV
 | .add=>bA| .sub=>fC| .mul=>mF| .quo=>G8| .rem=>z9| .and=>lH| .or=>nq| .xor=>G9| .andNot=>px| .shl=>lI| .shr=>lJ
 | .lss=>a8| .leq=>iq| .gtr=>fT| .geq=>fJ
 | .eqI n=>aD n| .eqB n=>AZ n| .QC n=>A0 n| .eqP n=>qz n| .eqN n=>nK n| .nh n l=>Fh n l
def UF.f:UF->AV->Option AV
 | .not=>jY| .neg=>KS| .xor=>IK| .int k=>cp k
def FU(call:cZ)(o:kJ):eG:=match o with
 | .mv a=>aa (bF a)| .pk c a b=>aW (bF c) (bF a) (bF b)| .nw cs=>dJ cs| .bx a=>dV (bF a)
 | .bd z ps=>au z (ps.map fun p=>(p.1,p.2.1,bF p.2.2))| .rw n sz z ps=>bC n sz z (ps.map fun p=>(p.1,bF p.2))
 | .ld sz agg a=>bh sz agg (bF a)| .sto sz a b=>aF sz (bF a) (bF b)| .nl a=>bt (bF a)| .bn f a b=>ah f.f (bF a) (bF b)| .un f a=>fm f.f (bF a)
 | .bys a=>py (bF a)| .fn f cap=>Qc f (cap.map bF)| .mk s b z l c=>oe s b z (bF l) (bF c)
 | .slS a lo hi=>dk (bF a) (lo.map bF) (hi.map bF)| .slN s a lo hi=>dg s (bF a) (lo.map bF) (hi.map bF)| .slA n s a lo hi=>fX n s (bF a) (lo.map bF) (hi.map bF)
 | .fa off a=>ab off (bF a)| .fd off s g a=>nP off s g (bF a)| .ixS s a i=>bH s (bF a) (bF i)| .ixA n s a i=>sj n s (bF a) (bF i)| .ix n s g a i=>ly n s g (bF a) (bF i)| .ixT a i=>cF (bF a) (bF i)
 | .ex a i=>aO (bF a) i| .lnT a=>jZ (bF a)| .ln a=>aV (bF a)| .ap s b x y=>aK s b (bF x) (bF y)| .apZ s b z x y=>sF s b z (bF x) (bF y)| .apS b x y=>tZ b (bF x) (bF y)
 | .mrk a=>sG (bF a)| .cpy s d a=>kr s (bF d) (bF a)| .emp a b c=>xG (bF a) (bF b) (bF c)| .min a b=>A1 (bF a) (bF b)| .max a b=>A2 (bF a) (bF b)| .map=>IL| .cap a=>tX (bF a)| .bad=>bP
 | .call f args=>an call f (args.map bF)| .callV f args=>iu call (bF f) (args.map bF)
 | .gd j want f=>gF (bF j) want (FU call f)| .mn f=>mn (FU call f)
def KD(call:cZ)(r:zI):ng:=
 zI.rec Go.Ab.fi (fun i f _ ih=>st (sT i) (FU call f) ih) (fun f _ ih=>sn (FU call f) ih) (fun s f _ ih=>ck (bF s) (FU call f) ih) r
def gD(call:cZ)(n:Nat)(c:qt):zt:=
 qt.rec (fun r=>ai (KD call r)) bU (fun _ _ a b=>af a b) (fun c _ _ a b=>bu (bF c) a b) (fun id _ b=>di id b) (fun _ b=>iw n b) (fun i=>jd i) cN CH c
def dB.fb(b:dB):Fb:=⟨b.ntmps,b.res,fun call n=>gD call n b.code⟩
namespace X
abbrev oC(v:AV):Od:=.c v
abbrev oT(i:Nat):Od:=.t i
abbrev oX:Od:=.zz
abbrev wO(o:Od):Od:=.w o
abbrev aa:=kJ.mv
abbrev aW:=kJ.pk
abbrev dJ:=kJ.nw
abbrev dV:=kJ.bx
abbrev au:=kJ.bd
abbrev bC:=kJ.rw
abbrev bh:=kJ.ld
abbrev aF:=kJ.sto
abbrev bt:=kJ.nl
abbrev ah:=kJ.bn
abbrev fm:=kJ.un
abbrev py:=kJ.bys
abbrev Qc:=kJ.fn
abbrev oe:=kJ.mk
abbrev dk:=kJ.slS
abbrev dg:=kJ.slN
abbrev fX:=kJ.slA
abbrev ab:=kJ.fa
abbrev nP:=kJ.fd
abbrev bH:=kJ.ixS
abbrev sj:=kJ.ixA
abbrev ly:=kJ.ix
abbrev cF:=kJ.ixT
abbrev aO:=kJ.ex
abbrev jZ:=kJ.lnT
abbrev aV:=kJ.ln
abbrev aK:=kJ.ap
abbrev sF:=kJ.apZ
abbrev tZ:=kJ.apS
abbrev sG:=kJ.mrk
abbrev kr:=kJ.cpy
abbrev xG:=kJ.emp
abbrev A1:=kJ.min
abbrev A2:=kJ.max
abbrev IL:=kJ.map
abbrev tX:=kJ.cap
abbrev bP:=kJ.bad
abbrev an(_:Unit)(f:FuncId)(args:List Od):=kJ.call f args
abbrev iu(_:Unit)(f:Od)(args:List Od):=kJ.callV f args
abbrev gF:=kJ.gd
abbrev mn:=kJ.mn
abbrev fi:=zI.fi
abbrev st:=zI.st
abbrev sn:=zI.sn
abbrev ck:=zI.ck
abbrev ai:=qt.rg
abbrev bU:=qt.sk
abbrev af:=qt.sq
abbrev bu:=qt.cif
abbrev di:=qt.bl
abbrev iw(_:Unit)(b:qt):=qt.lp b
abbrev jd:=qt.ex
abbrev cN:=qt.rt
abbrev CH:=qt.bad
abbrev bA:=BF.add
abbrev fC:=BF.sub
abbrev mF:=BF.mul
abbrev G8:=BF.quo
abbrev z9:=BF.rem
abbrev lH:=BF.and
abbrev nq:=BF.or
abbrev G9:=BF.xor
abbrev px:=BF.andNot
abbrev lI:=BF.shl
abbrev lJ:=BF.shr
abbrev a8:=BF.lss
abbrev iq:=BF.leq
abbrev fT:=BF.gtr
abbrev fJ:=BF.geq
abbrev aD:=BF.eqI
abbrev AZ:=BF.eqB
abbrev A0:=BF.QC
abbrev qz:=BF.eqP
abbrev nK:=BF.eqN
abbrev Fh:=BF.nh
abbrev jY:=UF.not
abbrev KS:=UF.neg
abbrev IK:=UF.xor
abbrev cp:=UF.int
abbrev bS(n:Nat)(r:List RV)(b:Unit->Unit->qt):dB:=⟨n,r,b () ()⟩
end X
end Go.Ab

noncomputable section
namespace Go.Ab
namespace Lf
inductive Ty where
 |int (k:IntKind)|bool|str|ae (t:Ty)|pair (a b:Ty)
@[reducible] noncomputable def den(t:Ty):Type:=Ty.rec (fun _=>Int) Bool ByteArray (fun _ ih=>List ih) (fun _ _ a b=>a×b) t
def ao(t:Ty):den t:=Ty.rec (motive:=den) (fun _=>(0:Int)) false ByteArray.empty (fun _ _=>[]) (fun _ _ a b=>(a,b)) t
def size(t:Ty):Nat:=Ty.rec (motive:=fun _=>Nat) (fun _=>1) 1 1 (fun _ _=>1) (fun _ _ a b=>Nat.add a b) t
def wm:(a b:Ty)->Option (PLift (a=b))
 | .int k,.int k'=>if h:k=k' then some ⟨by rw[h]⟩else none
 | .bool,.bool=>some ⟨rfl⟩
 | .str,.str=>some ⟨rfl⟩
 | .ae a,.ae b=>match wm a b with
  |some ⟨h⟩=>some ⟨by rw[h]⟩
  |none=>none
 | .pair a b,.pair c d=>match wm a c with
  |some ⟨h⟩=>match wm b d with
   |some ⟨k⟩=>some ⟨by rw[h,k]⟩
   |none=>none
  |none=>none
 | _,_=>none
inductive Sv where
 |i (k:IntKind) (n:Int)
 |b (b:Bool)
 |a (v:AV)
 |c (m:Nat) (t:Ty) (x:den t)
 |ag (l:List Sv)
 |tu (l:List Sv)
 |fn (f:FuncId) (l:List Sv)
 |rf (r o:Nat)
 |re (r sz i o:Nat)
 |os (r sz:Nat)
 |ss (r sz off n:Nat)
 |xo (r sz off n:Nat)
 |zp (l:List Sv)
inductive Row where
 |o (g:Nat) (l:List Sv)
 |l (t:Ty) (x:List (den t))
 |zo (l:List Sv)
 |z (t:Ty) (x:List (den t))
structure Hq where
 next:Nat
 aP:Tr Row
abbrev Tq:=F8 (F8 (F8 (Option Sv)))
def Tq.at(t:Tq)(i:Nat):Option Sv:=((t.Cw (i / 64)).Cw (i / 8 % 8)).Cw (i % 8)
def Tq.put(t:Tq)(i:Nat)(v:Option Sv):Tq:=t.EY ((t.Cw (i / 64)).EY (((t.Cw (i / 64)).Cw (i / 8 % 8)).EY v (i % 8)) (i / 8 % 8)) (i / 64)
def Tq.none:Tq:=F8.all (F8.all (F8.all Option.none))
inductive T (α:Type) where
 |bad
 |ok (a:α)
 |br (c:Bool) (a b:T α)
 |ck (c:Bool) (a:T α)
def T.val{α:Type}(x:T α):Option α:=T.rec (motive:=fun _=>Option α) none (fun a=>some a) (fun c _ _ a b=>bif c then a else b) (fun c _ a=>bif c then a else none) x
def T.bd{α β:Type}(x:T α)(f:α->T β):T β:=T.rec (motive:=fun _=>T β) .bad (fun a=>f a) (fun c _ _ a b=>.br c a b) (fun c _ a=>.ck c a) x
def T.of{α:Type}:Option α->T α
 |some a=>.ok a
 |none=>.bad
inductive LB where
 |l (b:Bool)
 |t (b:Bool)
def LB.v:LB->Bool
 | .l b=>b
 | .t b=>b
def LB.and:LB->LB->LB
 | .l true,y=>y
 | .l false,_=>.l false
 | .t _,.l false=>.l false
 | .t a,.l true=>.t a
 | .t a,.t b=>.t (a&&b)
def ckL{α:Type}(c:LB)(x:T α):T α:=match c with
 | .l true=>x
 | .l false=>.bad
 | .t b=>.ck b x
def svB:LB->Sv
 | .l b=>.b b
 | .t b=>.c 0 .bool b
def Sv.cells:Sv->List Sv
 | .ag l=>l
 |w=>[w]
def Dp:Sv->Bool
 | .ag _| .tu _=>false
 | _=>true
def VO:AV->Bool
 | .sc _| .fk| .qk| .any=>true
 | _=>false
def ofA:AV->Option Sv
 | .int k n=>some (.i k n)
 | .bool b=>some (.b b)
 | .sc v=>some (.a (.sc v))
 | .fk=>some (.a .fk)
 | .qk=>some (.a .qk)
 | .wK []=>some (.tu [])
 | .fn f []=>some (.fn f [])
 | _=>none
def Jx(l:List AV):Option (List Sv):=List.rec (some []) (fun a _ ih=>match ofA a with
 |some b=>match ih with
  |some r=>some (b::r)
  |none=>none
 |none=>none) l
def j5(o:Od)(t:Tq):Option Sv:=match o with
 | .t i=>bif Nat.blt i 512 then t.at i else none
 | .c v=>ofA v
 | _=>none
def opw(o:Od)(t:Tq):Option Sv:=match o with
 | .w o=>j5 o t
 | _=>none
def Mu(l:List Od)(t:Tq):Option (List Sv):=List.rec (some []) (fun o _ ih=>match j5 o t with
 |some v=>match ih with
  |some vs=>some (v::vs)
  |none=>none
 |none=>none) l
def toN:Sv->Option (IntKind×Int)
 | .i k n=>some (k,n)
 | .c _ (.int k) x=>some (k,x)
 | _=>none
def toB:Sv->Option LB
 | .b b=>some (.l b)
 | .c _ .bool x=>some (.t x)
 | _=>none
def toS:Sv->Option (Bool×ByteArray)
 | .a (.sc (.string s))=>some (true,s)
 | .c _ .str x=>some (false,x)
 | _=>none
def bw(k:IntKind)(a b:Int):Int:=eZ k (a+b)
def bQ(k:IntKind)(a b:Int):Int:=eZ k (a - b)
def yj(k:IntKind)(a b:Int):Int:=eZ k (a*b)
def aiH(k:IntKind)(a b:Int):Int:=eZ k (Int.tdiv a b)
def pR(_k:IntKind)(a b:Int):Int:=Int.tmod a b
def intOf:Option AV->Int
 |some (.int _ n)=>n
 | _=>0
def qD(k:IntKind)(a b:Int):Int:=intOf (Qy (.int k a) (.int k b))
def FV(k:IntKind)(a b:Int):Int:=intOf (bOr (.int k a) (.int k b))
def aiI(k:IntKind)(a b:Int):Int:=intOf (Qz (.int k a) (.int k b))
def RU(k:IntKind)(a b:Int):Int:=intOf (px (.int k a) (.int k b))
def Jy(k:IntKind)(a b:Int):Int:=intOf (Fe (.int k a) (.int .u64 b))
def sw(k:IntKind)(a b:Int):Int:=intOf (Ff (.int k a) (.int .u64 b))
def adh(k:IntKind)(a:Int):Int:=eZ k (0 - a)
def adi(k:IntKind)(a:Int):Int:=intOf (IK (.int k a))
def bq(k:IntKind)(a:Int):Int:=eZ k a
inductive Cls where
 |ar (f:IntKind->Int->Int->Int)
 |dv (f:IntKind->Int->Int->Int)
 |sh (f:IntKind->Int->Int->Int)
 |cm (f:Int->Int->Bool)
 |no
def Mv:BF->Cls
 | .add=>.ar bw| .sub=>.ar bQ| .mul=>.ar yj| .and=>.ar qD| .or=>.ar FV| .xor=>.ar aiI| .andNot=>.ar RU
 | .quo=>.dv aiH| .rem=>.dv pR| .shl=>.sh Jy| .shr=>.sh sw
 | .lss=>.cm fun a b=>decide (a<b)| .leq=>.cm fun a b=>decide (a<=b)| .gtr=>.cm fun a b=>decide (b<a)| .geq=>.cm fun a b=>decide (b<=a)
 | .eqI neg=>.cm (match neg with|false=>fun a b=>decide (a=b)|true=>fun a b=> !decide (a=b))
 | _=>.no
def Mw:Sv->Bool
 | .i _ _=>true
 | _=>false
def RW(i:Bool)(x y:Sv):Option LB:=match i with
 |true=>match x,y with
  | .i k a,.i k' b=>bif jA k k' then some (.l (eqI a b))else none
  |x,y=>match toN x,toN y with
   |some (k,a),some (k',b)=>bif jA k k' then some (.t (decide (a=b)))else none
   | _,_=>none
 |false=>match toB x,toB y with
  |some (.l a),some (.l b)=>some (.l (!(xor a b)))
  |some a,some b=>some (.t (!(xor a.v b.v)))
  | _,_=>none
def XP(l:List Bool):List Sv->List Sv->Option LB:=
 List.rec (fun _ _=>some (.l true)) (fun i _ ih xs ys=>match xs,ys with
  |x::xs,y::ys=>match RW i x y with
   |some c=>match ih xs ys with
    |some d=>some (c.and d)
    |none=>none
   |none=>none
  | _,_=>none) l
def XQ(neg:Bool)(c:LB):LB:=match neg,c with
 |false,c=>c
 |true,.l b=>.l (!b)
 |true,.t b=>.t (!b)
def Mx:Sv->Bool
 | .rf _ _| .re _ _ _ _| .zp _=>true
 | _=>false
def XR(f:BF)(x y:Sv):T Sv:=match x,y with
 | .i k a,.i k' b=>(match f.f (.int k a) (.int k' b)with
  |some (.int k r)=>.ok (.i k r)
  |some (.bool r)=>.ok (.b r)
  | _=>.bad)
 |x,y=>match toN x,toN y with
  |some (k,a),some (k',b)=>(match Mv f with
   | .ar g=>bif jA k k' then .ok (.c 0 (.int k) (g k a b))else .bad
   | .dv g=>bif jA k k' then(bif Mw y then(bif eqI b 0 then .bad else .ok (.c 0 (.int k) (g k a b)))else .ck (!decide (b=0)) (.ok (.c 0 (.int k) (g k a b))))else .bad
   | .sh g=>(bif Mw y then(bif la b 0 then .bad else .ok (.c 0 (.int k) (g k a b)))else .ck (decide (0<=b)) (.ok (.c 0 (.int k) (g k a b))))
   | .cm g=>bif jA k k' then .ok (.c 0 .bool (g a b))else .bad
   | .no=>.bad)
  | _,_=>.bad
def XS(f:BF)(x y:Sv):T Sv:=match f with
 | .eqB neg=>match toB x,toB y with
  |some (.l a),some (.l b)=>.ok (.b (bif neg then xor a b else !(xor a b)))
  |some a,some b=>.ok (.c 0 .bool (match neg with|true=>xor a.v b.v|false=> !(xor a.v b.v)))
  | _,_=>.bad
 | .QC neg=>match toS x,toS y with
  |some (true,a),some (true,b)=>.ok (.b (bif neg then !(eqStr a b)else eqStr a b))
  |some (_,a),some (_,b)=>.ok (.c 0 .bool (match neg with|true=> !(eqStr a b)|false=>eqStr a b))
  | _,_=>.bad
 | .eqP neg=>match x,y with
  | .a (.sc (.pointer none)),.a (.sc (.pointer none))=>.ok (.b (!neg))
  | .a (.sc (.pointer none)),y=>bif Mx y then .ok (.b neg)else .bad
  |x,.a (.sc (.pointer none))=>bif Mx x then .ok (.b neg)else .bad
  | _,_=>.bad
 | .eqN neg=>match x,y with
  | .a v,.a w=>bif isNil w then(match AY v with
   |some b=>.ok (.b (bif neg then !b else b))
   |none=>.bad)else .bad
  | .xo _ _ _ _,.a w=>bif isNil w then .ok (.b neg)else .bad
  | .c _ (.ae _) x,.a w=>bif isNil w then .ck (!(Nat.beq x.length 0)) (.ok (.b neg))else .bad
  | _,_=>.bad
 | .nh neg l=>match x,y with
  | .ag xs,.ag ys=>match XP l xs ys with
   |some c=>.ok (svB (XQ neg c))
   |none=>.bad
  | _,_=>.bad
 |f=>XR f x y
def XT(f:UF)(x:Sv):Option Sv:=match f with
 | .not=>match toB x with
  |some (.l b)=>some (.b (!b))
  |some (.t b)=>some (.c 0 .bool (!b))
  |none=>none
 | .neg=>match x with
  | .i k n=>some (.i k (adh k n))
  | .c _ (.int k) n=>some (.c 0 (.int k) (adh k n))
  | _=>none
 | .xor=>match x with
  | .i k n=>some (.i k (adi k n))
  | .c _ (.int k) n=>some (.c 0 (.int k) (adi k n))
  | _=>none
 | .int k=>match x with
  | .i _ n=>some (.i k (bq k n))
  | .c _ (.int _) n=>some (.c 0 (.int k) (bq k n))
  | _=>none
def nT(t:Ty):den t->List Sv:=
 Ty.rec (motive:=fun t=>den t->List Sv) (fun k x=>[.c 0 (.int k) x]) (fun x=>[.c 0 .bool x]) (fun x=>[.c 0 .str x]) (fun t _ x=>[.c 0 (.ae t) x]) (fun _ _ sY xD x=>app (sY x.1) (xD x.2)) t
def adj(l:List Sv)(off n:Nat):Option (List Sv):=match tk n (dp off l)with
 |r=>bif Nat.beq (len r) n then some r else none
def yk(agg:Bool)(l:List Sv)(off sz:Nat):Option Sv:=match adj l off sz with
 |none=>none
 |some r=>bif agg then some (.ag r)else match r with
  | [c]=>some c
  | _=>none
def lV(l:List Sv)(off:Nat)(new:List Sv):List Sv:=app (tk off l) (app new (dp (Nat.add off (len new)) l))
def Bv(l:List (Nat×Nat×Sv)):List Sv->Option (List Sv):=
 List.rec (fun cells=>some cells) (fun p _ ih cells=>
  bif Nat.beq (len p.2.2.cells) p.2.1&&Nat.ble (Nat.add p.1 p.2.1) (len cells)then ih (lV cells p.1 p.2.2.cells)else none) l
def Bw(l:List (Nat×Nat×Od))(t:Tq):Option (List (Nat×Nat×Sv)):=
 List.rec (some []) (fun p _ ih=>match j5 p.2.2 t with
  |some v=>match ih with
   |some vs=>some ((p.1,p.2.1,v)::vs)
   |none=>none
  |none=>none) l
def Bx(l:List (Nat×Od))(t:Tq):Option (List (Nat×Sv)):=
 List.rec (some []) (fun p _ ih=>match j5 p.2 t with
  |some v=>match ih with
   |some vs=>some ((p.1,v)::vs)
   |none=>none
  |none=>none) l
def yl(size:Nat)(l:List (Nat×Sv)):Nat->Option (List Sv):=
 List.rec (fun _=>some []) (fun p _ ih i=>
  bif Nat.beq p.1 i&&Nat.beq (len p.2.cells) size then(match ih (Nat.add i 1)with|some r=>some (app p.2.cells r)|none=>none)else none) l
def XU(n:Nat)(z:List Sv):List Sv:=Nat.rec [] (fun _ ih=>app z ih) n
def Bz(size:Nat)(l:List (Nat×Sv)):List (Nat×Nat×Sv):=List.rec [] (fun p _ ih=>(Nat.mul p.1 size,size,p.2)::ih) l
def Dq(n size:Nat)(zero:List Sv)(l:List (Nat×Sv)):Option (List Sv):=
 match bif Nat.beq (len l) n then yl size l 0 else none with
 |some cs=>some cs
 |none=>Bv (Bz size l) (XU n zero)
def eI(h:Hq)(r:Row):Hq:=⟨Nat.add h.next 1,h.aP.set h.next (some r)⟩
def jq(h:Hq)(id:Nat)(r:Option Row):Hq:=⟨h.next,h.aP.set id r⟩
def rdS(t:Ty)(f:List Sv->Hq->Option (den t×List Sv×Hq))(n:Nat):List Sv->Hq->Option (List (den t)×Hq):=
 Nat.rec (fun _ h=>some ([],h)) (fun _ ih l h=>match f l h with
  |some (x,r,h)=>match ih r h with
   |some (xs,h)=>some (x::xs,h)
   |none=>none
  |none=>none) n
def VP(t:Ty)(f:List Sv->Hq->Option (den t×List Sv×Hq))(n off:Nat)(l:List Sv)(h:Hq):Option (List (den t)×Hq):=bif Nat.ble off (len l)then rdS t f n (dp off l) h else none
def dI:AV->Bool
 | .fk=>true
 |a=>sX a
def asL(t:Ty)(f:List Sv->Hq->Option (den t×List Sv×Hq))(v:Sv)(h:Hq):Option (List (den t)×Hq):=match v with
 | .a w=>bif dI w then some ([],h)else none
 | .c _ (.ae t') x=>match wm t' t with
  |some ⟨e⟩=>some (e▸x,h)
  |none=>none
 | .os r _=>match h.aP.get r with
  |some (.l t' x)=>(match wm t' t with
   |some ⟨e⟩=>some (e▸x,jq h r (some (.z t' x)))
   |none=>none)
  |some (.z t' x)=>(match wm t' t with
   |some ⟨e⟩=>some (e▸x,h)
   |none=>none)
  | _=>none
 | .ss r _ off n=>match h.aP.get r with
  |some (.l t' x)=>(match wm t' t with
   |some ⟨e⟩=>some (((e▸x:List (den t)).drop off).take n,jq h r (some (.z t' x)))
   |none=>none)
  |some (.z t' x)=>(match wm t' t with
   |some ⟨e⟩=>some (((e▸x:List (den t)).drop off).take n,h)
   |none=>none)
  | _=>none
 | .xo r sz off n=>bif Nat.beq sz (size t)then(match h.aP.get r with
  |some (.o _ l)=>VP t f n off l (jq h r (some (.zo l)))
  |some (.zo l)=>VP t f n off l h
  | _=>none)else none
 | _=>none
def VQ(t:Ty):List Sv->Hq->Option (den t×List Sv×Hq):=
 Ty.rec (motive:=fun t=>List Sv->Hq->Option (den t×List Sv×Hq))
  (fun k l h=>match l with
   |v::r=>match toN v with
    |some (k',n)=>bif jA k k' then some (n,r,h)else none
    |none=>none
   | []=>none)
  (fun l h=>match l with
   |v::r=>match toB v with
    |some b=>some (b.v,r,h)
    |none=>none
   | []=>none)
  (fun l h=>match l with
   |v::r=>match toS v with
    |some (_,s)=>some (s,r,h)
    |none=>none
   | []=>none)
  (fun t ih l h=>match l with
   |v::r=>match asL t ih v h with
    |some (x,h)=>some (x,r,h)
    |none=>none
   | []=>none)
  (fun _ _ sY xD l h=>match sY l h with
   |some (x,r,h)=>match xD r h with
    |some (y,r,h)=>some ((x,y),r,h)
    |none=>none
   |none=>none) t
def XV(t:Ty)(v:Sv)(h:Hq):Option (List (den t)×Hq):=asL t (VQ t) v h
def adk(v:Sv)(h:Hq):Option Ty:=match v with
 | .c _ (.ae t) _=>some t
 | .os r _=>match h.aP.get r with
  |some (.l t _)=>some t
  |some (.z t _)=>some t
  | _=>none
 | .ss r _ _ _=>match h.aP.get r with
  |some (.l t _)=>some t
  |some (.z t _)=>some t
  | _=>none
 | _=>none
def XW(v:Sv)(h:Hq):Option Sv:=match v with
 | .a w=>bif dI w then some (.i .i64 0)else none
 | .c _ (.ae _) x=>some (.c 0 (.int .i64) (Int.ofNat x.length))
 | .os r _=>match h.aP.get r with
  |some (.l _ x)=>some (.c 0 (.int .i64) (Int.ofNat x.length))
  |some (.z _ x)=>some (.c 0 (.int .i64) (Int.ofNat x.length))
  | _=>none
 | .ss _ _ _ n=>some (.c 0 (.int .i64) (Int.ofNat n))
 | .xo _ _ _ n=>some (.i .i64 (.ofNat n))
 | _=>none
end Lf
end Go.Ab

noncomputable section
namespace Go.Ab
namespace Lf
abbrev OpR:=T (Sv×Tq×Hq)
abbrev fo:=Tq->Hq->OpR
abbrev eJ:=FuncId->List Sv->Hq->T (Sv×Hq)
def okV(v:Sv)(t:Tq)(h:Hq):OpR:=.ok (v,t,h)
def okO(v:Option Sv)(t:Tq)(h:Hq):OpR:=match v with
 |some v=>.ok (v,t,h)
 |none=>.bad
def q9:Sv:=.tu []
def ym(x:Od):fo:=fun t h=>okO (j5 x t) t h
def tp{α:Type}(j:Od)(t:Tq)(a b:Tq->T α):T α:=match j with
 | .t i=>bif Nat.blt i 512 then(match t.at i with
  |some (.b c)=>bif c then a t else b t
  |some (.c _ .bool x)=>.br x (a (t.put i (some (.b true)))) (b (t.put i (some (.b false))))
  | _=>.bad)else .bad
 | .c (.bool c)=>bif c then a t else b t
 | _=>.bad
def VS(c a b:Od):fo:=fun t h=>tp c t (fun t=>ym a t h) (fun t=>ym b t h)
def XX(cs:List AV):fo:=fun t h=>match Jx cs with|some l=>okV (.rf h.next 0) t (eI h (.o 0 l))|none=>.bad
def XY(a:Od):fo:=fun t h=>match j5 a t with|some v=>okV (.rf h.next 0) t (eI h (.o 0 v.cells))|none=>.bad
def FW(z:List AV)(ps:List (Nat×Nat×Od)):fo:=fun t h=>match Jx z with
 |some z=>match Bw ps t with
  |some vs=>match Bv vs z with
   |some cs=>okV (.ag cs) t h
   |none=>.bad
  |none=>.bad
 |none=>.bad
def XZ(n sz:Nat)(z:List AV)(ps:List (Nat×Od)):fo:=fun t h=>match Bx ps t with
 |some vs=>bif Nat.beq n 0 then(match vs with| []=>okV (.a .qk) t h| _=>.bad)else(match Jx z with
  |some z=>match Dq n sz z vs with
   |some cs=>bif cu Dp cs&&(Nat.blt 0 sz&&Nat.beq (len cs) (Nat.mul n sz))then okV (.xo h.next sz 0 n) t (eI h (.o 0 cs))else .bad
   |none=>.bad
  |none=>.bad)
 |none=>.bad
def My(h:Hq)(r sz i:Nat):Option (List Sv):=match h.aP.get r with
 |some (.l t x)=>bif Nat.beq sz (size t)then some (nT t (x.getD i (ao t)))else none
 |some (.z t x)=>bif Nat.beq sz (size t)then some (nT t (x.getD i (ao t)))else none
 | _=>none
def yn(h:Hq)(r:Nat):Option (List Sv):=match h.aP.get r with
 |some (.o _ l)=>some l
 |some (.zo l)=>some l
 | _=>none
def Aw(sz:Nat)(agg:Bool)(a:Sv)(h:Hq):Option Sv:=bif Nat.blt 0 sz then(match a with
 | .rf r o=>match yn h r with
  |some l=>yk agg l o sz
  |none=>none
 | .re r s i o=>match My h r s i with
  |some l=>yk agg l o sz
  |none=>none
 | .zp l=>yk agg l 0 sz
 | _=>none)else none
def HH(sz:Nat)(agg:Bool)(a:Od):fo:=fun t h=>match j5 a t with
 |some p=>okO (Aw sz agg p h) t h
 |none=>.bad
def FX(sz:Nat)(a b:Od):fo:=fun t h=>match j5 b t with
 |some v=>bif Nat.beq (len v.cells) sz&&cu Dp v.cells then(match j5 a t with
  |some (.rf r o)=>match h.aP.get r with
   |some (.o g l)=>bif Nat.ble (Nat.add o (len v.cells)) (len l)then okV q9 t (jq h r (some (.o g (lV l o v.cells))))else .bad
   | _=>.bad
  |some (.re r s i o)=>match h.aP.get r with
   |some (.l ty x)=>bif Nat.beq s (size ty)&&Nat.ble (Nat.add o (len v.cells)) s then(match VQ ty (lV (nT ty (x.getD i (ao ty))) o v.cells) h with
    |some (y,[],h')=>(match h'.aP.get r with
     |some (.l _ _)=>okV q9 t (jq h' r (some (.l ty (x.set i y))))
     | _=>.bad)
    | _=>.bad)else .bad
   | _=>.bad
  | _=>.bad)else .bad
 |none=>.bad
def HI(a:Od):fo:=fun t h=>match j5 a t with
 |some (.rf r o)=>okV (.rf r o) t h
 |some (.re r s i o)=>okV (.re r s i o) t h
 |some (.zp c)=>okV (.zp c) t h
 |some (.fn f c)=>okV (.fn f c) t h
 | _=>.bad
def RX(f:BF)(a b:Od):fo:=fun t h=>match j5 a t with
 |some x=>match j5 b t with
  |some y=>(XS f x y).bd fun v=>okV v t h
  |none=>.bad
 |none=>.bad
def sUn(f:UF)(a:Od):fo:=fun t h=>match j5 a t with
 |some x=>okO (XT f x) t h
 |none=>.bad
def sFn(f:FuncId)(cap:List Od):fo:=fun t h=>match Mu cap t with
 |some vs=>okV (.fn f vs) t h
 |none=>.bad
def pS(off:Nat)(a:Od):fo:=fun t h=>match j5 a t with
 |some (.rf r o)=>okV (.rf r (Nat.add o off)) t h
 |some (.re r s i o)=>okV (.re r s i (Nat.add o off)) t h
 |some (.zp l)=>bif Nat.ble off (len l)then okV (.zp (dp off l)) t h else .bad
 | _=>.bad
def BA(off size:Nat)(agg:Bool)(a:Od):fo:=fun t h=>match j5 a t with
 |some (.ag cs)=>okO (yk agg cs off size) t h
 | _=>.bad
def aU(i n:Int):Bool:=decide (0<=i)&&decide (i<n)
def RY(size:Nat)(a i:Od):fo:=fun t h=>match j5 i t with
 |some iv=>match toN iv with
  |some (_,n)=>match j5 a t with
   |some (.os r s)=>match h.aP.get r with
    |some (.l _ x)=>bif Nat.beq s size then .ck (aU n (Int.ofNat x.length)) (okV (.re r s n.toNat 0) t h)else .bad
    |some (.z _ x)=>bif Nat.beq s size then .ck (aU n (Int.ofNat x.length)) (okV (.re r s n.toNat 0) t h)else .bad
    | _=>.bad
   |some (.ss r s off m)=>bif Nat.beq s size then .ck (aU n (Int.ofNat m)) (okV (.re r s (off+n.toNat) 0) t h)else .bad
   |some (.xo r s off m)=>match iv with
    | .i _ (.ofNat k)=>bif Nat.beq s size&&Nat.blt k m then okV (.rf r (Nat.add off (Nat.mul k s))) t h else .bad
    | _=>.bad
   |some (.c _ (.ae ty) x)=>bif Nat.beq size (Lf.size ty)then .ck (aU n (Int.ofNat x.length)) (okV (.zp (nT ty (x.getD n.toNat (ao ty)))) t h)else .bad
   | _=>.bad
  |none=>.bad
 |none=>.bad
def RZ(n size:Nat)(a i:Od):fo:=fun t h=>match j5 i t with
 |some (.i _ (.ofNat k))=>bif Nat.blt k n then(match j5 a t with
  |some (.rf r o)=>okV (.rf r (Nat.add o (Nat.mul k size))) t h
  |some (.zp l)=>bif Nat.ble (Nat.mul k size) (len l)then okV (.zp (dp (Nat.mul k size) l)) t h else .bad
  | _=>.bad)else .bad
 | _=>.bad
def FY(k:IntKind)(l:List Sv):Option (List Int):=List.rec (some []) (fun v _ ih=>match toN v with
 |some (k',n)=>bif jA k k' then(match ih with
  |some r=>some (n::r)
  |none=>none)else none
 |none=>none) l
def BB(n size:Nat)(agg:Bool)(a i:Od):fo:=fun t h=>match j5 a t with
 |some (.ag cs)=>match j5 i t with
  |some (.i _ (.ofNat k))=>bif Nat.blt k n then okO (yk agg cs (Nat.mul k size) size) t h else .bad
  |some (.c _ (.int _) x)=>bif agg|| !(Nat.beq size 1)then .bad else(match cs with
   |v::_=>match toN v with
    |some (k,_)=>match FY k cs with
     |some l=>bif Nat.beq (len l) n then .ck (aU x (Int.ofNat n)) (okV (.c 0 (.int k) (l.getD x.toNat 0)) t h)else .bad
     |none=>.bad
    |none=>.bad
   | []=>.bad)
  | _=>.bad
 | _=>.bad
def xp(a i:Od):fo:=fun t h=>match j5 a t with
 |some v=>match toS v with
  |some (_,s)=>match j5 i t with
   |some iv=>match toN iv with
    |some (_,n)=>.ck (aU n (Int.ofNat s.size)) (okV (.c 0 (.int .u8) (Int.ofNat ((s.data.toList.getD n.toNat 0).toNat))) t h)
    |none=>.bad
   |none=>.bad
  |none=>.bad
 |none=>.bad
def HJ(a:Od):fo:=fun t h=>match j5 a t with
 |some v=>match toS v with
  |some (true,s)=>okV (.i .i64 (.ofNat s.size)) t h
  |some (false,s)=>okV (.c 0 (.int .i64) (Int.ofNat s.size)) t h
  |none=>.bad
 |none=>.bad
def uB(a:Od)(i:Nat):fo:=fun t h=>match j5 a t with
 |some (.tu vs)=>okO (lr vs i) t h
 | _=>.bad
def cQ(a:Od):fo:=fun t h=>match opw a t with
 |some v=>okO (XW v h) t h
 |none=>.bad
def zJ(o:Option Od)(t:Tq)(d:Sv):Option (Bool×Int):=match(match o with
 |none=>some d
 |some o=>j5 o t)with
 |some v=>match toN v with
  |some (_,n)=>some (Mw v,n)
  |none=>none
 |none=>none
def eK(l u n:Int):Bool:=decide (0<=l)&&(decide (l<=u)&&decide (u<=n))
def uC(size:Nat)(a:Od)(lo hi:Option Od):fo:=fun t h=>match j5 a t with
 |some v=>match XW v h with
  |some m=>match toN m with
   |some (_,n)=>match zJ lo t (.i .i64 0)with
    |some (ll,l)=>match zJ hi t m with
     |some (lu,u)=>(match v with
      | .a w=>bif sX w then .ck (eK l u n) (okV (.a w) t h)else .bad
      | .os r s=>bif Nat.beq s size then .ck (eK l u n) (okV (.ss r s l.toNat (u.toNat - l.toNat)) t h)else .bad
      | .ss r s off _=>bif Nat.beq s size then .ck (eK l u n) (okV (.ss r s (off+l.toNat) (u.toNat - l.toNat)) t h)else .bad
      | .xo r s off _=>bif (ll&&lu)&&(Nat.beq s size&&eK l u n)then okV (.xo r s (Nat.add off (Nat.mul l.toNat s)) (Nat.sub u.toNat l.toNat)) t h else .bad
      | .c _ (.ae ty) x=>bif Nat.beq size (Lf.size ty)then .ck (eK l u n) (okV (.c 0 (.ae ty) ((x.drop l.toNat).take (u.toNat - l.toNat))) t h)else .bad
      | _=>.bad)
     |none=>.bad
    |none=>.bad
   |none=>.bad
  |none=>.bad
 |none=>.bad
def uD(n size:Nat)(a:Od)(lo hi:Option Od):fo:=fun t h=>match j5 a t with
 |some (.rf r o)=>match zJ lo t (.i .i64 0)with
  |some (true,l)=>match zJ hi t (.i .i64 (.ofNat n))with
   |some (true,u)=>match yn h r with
    |some cs=>bif Nat.ble (Nat.add o (Nat.mul n size)) (len cs)&&(eK l u (Int.ofNat n)&&Nat.blt 0 size)then okV (.xo r size (Nat.add o (Nat.mul l.toNat size)) (Nat.sub u.toNat l.toNat)) t h else .bad
    |none=>.bad
   | _=>.bad
  | _=>.bad
 | _=>.bad
def BC(a:Od)(lo hi:Option Od):fo:=fun t h=>match j5 a t with
 |some v=>match toS v with
  |some (true,s)=>match zJ lo t (.i .i64 0)with
   |some (true,l)=>match zJ hi t (.i .i64 (.ofNat s.size))with
    |some (true,u)=>bif eK l u (Int.ofNat s.size)then okV (.a (.sc (.string (s.extract l.toNat u.toNat)))) t h else .bad
    | _=>.bad
   | _=>.bad
  | _=>.bad
 |none=>.bad
def roomy(bytes n:Nat):Bool:=decide (n*bytes<=70368744177664)&&decide (n<=70368744177664)
def uE(v:Sv)(h:Hq):Option (Nat×List Sv):=match v with
 | .a w=>bif dI w then some (0,[])else none
 | .xo r s off n=>match yn h r with
  |some l=>bif Nat.ble (Nat.add off (Nat.mul n s)) (len l)then some (n,tk (Nat.mul n s) (dp off l))else none
  |none=>none
 | _=>none
def kill(v:Sv)(h:Hq):Option Hq:=match v with
 | .a _=>some h
 | .os r _=>match h.aP.get r with
  |some (.l _ _)=>some (jq h r none)
  | _=>none
 | .ss r _ _ _=>match h.aP.get r with
  |some (.l _ _)=>some (jq h r none)
  | _=>none
 | .xo r _ _ _=>match h.aP.get r with
  |some (.o _ _)=>some (jq h r none)
  | _=>none
 | _=>none
def Mz(t:Ty)(v:Sv)(h:Hq):Option (List (den t)×Hq):=match v with
 | .os r _=>match h.aP.get r with
  |some (.l t' x)=>match wm t' t with
   |some ⟨e⟩=>some (e▸x,h)
   |none=>none
  | _=>none
 | .ss r _ off n=>match h.aP.get r with
  |some (.l t' x)=>match wm t' t with
   |some ⟨e⟩=>some (((e▸x:List (den t)).drop off).take n,h)
   |none=>none
  | _=>none
 | .a w=>bif dI w then some ([],h)else none
 | .xo r sz off n=>match h.aP.get r with
  |some (.o _ l)=>bif Nat.beq sz (size t)then VP t (VQ t) n off l h else none
  | _=>none
 | _=>none
def X5(bytes:Nat)(t:Ty)(s:Sv)(new:List (den t))(tq:Tq)(h:Hq):OpR:=match Mz t s h with
 |some (x,h1)=>match kill s h1 with
  |some h2=>.ck (roomy bytes (x.length+new.length)) (okV (.os h2.next (size t)) tq (eI h2 (.l t (app x new))))
  |none=>.bad
 |none=>.bad
def R1(s:Sv)(d:Nat):Nat:=match s with
 | .os _ z=>z
 | .ss _ z _ _=>z
 | .xo _ z _ _=>z
 | _=>d
def MA(size bytes:Nat)(s x:Sv)(t:Tq)(h:Hq):OpR:=bif Nat.beq (R1 s size) size&&(Nat.beq (R1 x size) size&&Nat.blt 0 size)then(match uE x h with
 |some (0,_)=>(match s with
  | .a w=>bif sX w then okV s t h else .bad
  | .os _ _=>okV s t h
  | .ss _ _ _ _=>okV s t h
  | .xo _ _ _ _=>okV s t h
  | _=>.bad)
 |some (m,new)=>(match uE s h with
  |some (n,so)=>match kill s h with
   |some h2=>bif roomy bytes (Nat.add n m)&&cu Dp new then okV (.xo h2.next size 0 (Nat.add n m)) t (eI h2 (.o 0 (app so new)))else .bad
   |none=>.bad
  |none=>match adk s h with
   |some ty=>bif Nat.beq size (Lf.size ty)then(match XV ty x h with
    |some (new,h1)=>X5 bytes ty s new t h1
    |none=>.bad)else .bad
   |none=>.bad)
 |none=>(match adk x h with
  |some ty=>bif Nat.beq size (Lf.size ty)then(match XV ty x h with
   |some (new,h1)=>X5 bytes ty s new t h1
   |none=>.bad)else .bad
  |none=>.bad))else .bad
def BD(size bytes:Nat)(s x:Od):fo:=fun t h=>match j5 s t with
 |some s=>match j5 x t with
  |some x=>MA size bytes s x t h
  |none=>.bad
 |none=>.bad
def aiL:AV->Option Ty
 | .int k _=>some (.int k)
 | .bool _=>some .bool
 | .sc (.string _)=>some .str
 | .sc (.slice none 0 0)=>some (.ae (.int .i64))
 | _=>none
def tyZ(l:List AV):Option Ty:=List.rec none (fun a r ih=>match aiL a with
 |some t=>match r with
  | []=>some t
  | _=>match ih with
   |some u=>some (.pair t u)
   |none=>none
 |none=>none) l
def HK(z:List AV):Option ((t:Ty)×den t):=match tyZ z with
 |some t=>match Jx z with
  |some l=>match VQ t l ⟨0,.nil⟩with
   |some (x,[],_)=>some ⟨t,x⟩
   | _=>none
  |none=>none
 |none=>none
def MC(size bytes:Nat)(z:List AV)(s x:Od):fo:=fun t h=>match j5 s t with
 |some sv=>match j5 x t with
  |some xv=>match toN xv with
   |some (_,n)=>bif Nat.beq (R1 sv size) size then(match HK z with
    |some ⟨ty,y⟩=>bif Nat.beq size (Lf.size ty)&&Nat.beq size (len z)then(.ck (decide (0<=n)) (X5 bytes ty sv (List.replicate n.toNat y) t h))else .bad
    |none=>.bad)else .bad
   |none=>.bad
  |none=>.bad
 |none=>.bad
def MD(bytes:Nat)(s x:Od):fo:=fun t h=>match j5 s t with
 |some sv=>match j5 x t with
  |some xv=>match toS xv with
   |some (_,y)=>bif Nat.beq (R1 sv 1) 1 then X5 bytes (.int .u8) sv (y.data.toList.map fun b=>Int.ofNat b.toNat) t h else .bad
   |none=>.bad
  |none=>.bad
 |none=>.bad
def FZ(x:Od):fo:=fun t h=>match j5 x t with
 |some v=>match toS v with
  |some (_,y)=>okV (.os h.next 1) t (eI h (.l (.int .u8) (y.data.toList.map fun b=>Int.ofNat b.toNat)))
  |none=>.bad
 |none=>.bad
def Jz(a b:Od):Bool:=match a,b with
 | .t i,.t j=>Nat.beq i j
 | .c (.int _ m),.c (.int _ n)=>eqI m n
 | _,_=>false
def ME(size bytes:Nat)(z:List AV)(l c:Od):fo:=fun t h=>match j5 l t with
 |some lv=>match j5 c t with
  |some cv=>match toN lv with
   |some (_,l')=>match toN cv with
    |some (_,c')=>match HK z with
     |some ⟨ty,y⟩=>bif Nat.beq size (Lf.size ty)&&Nat.beq size (len z)then
      .ck ((decide (0<=l')&&decide (l'<=c'))&&decide (c'.toNat*bytes<=70368744177664))
       (okV (bif Jz l c then .os h.next size else .ss h.next size 0 l'.toNat) t (eI h (.l ty (List.replicate c'.toNat y))))else .bad
     |none=>.bad
    |none=>.bad
   |none=>.bad
  |none=>.bad
 |none=>.bad
def X6(x y z:Od):fo:=fun t h=>match j5 y t with
 |some (.i _ (.ofNat 0))=>match j5 z t with
  |some (.i _ (.ofNat 0))=>match opw x t with
   |some (.a w)=>bif dI w then okV (.a .fk) t h else .bad
   |some (.os _ _)=>okV (.a .fk) t h
   |some (.ss _ _ _ _)=>okV (.a .fk) t h
   |some (.xo _ _ _ _)=>okV (.a .fk) t h
   |some (.c _ (.ae _) _)=>okV (.a .fk) t h
   | _=>.bad
  | _=>.bad
 | _=>.bad
def ek(x:Od):fo:=fun t h=>match opw x t with
 |some (.a w)=>bif dI w then okV (.i .i64 0) t h else .bad
 | _=>.bad
def F3(mx:Bool)(a b:Od):fo:=fun t h=>match j5 a t with
 |some x=>match j5 b t with
  |some y=>match x,y with
   | .i k m,.i k' n=>bif jA k k' then okV (.i k (bif mx then(bif la m n then n else m)else(bif la n m then n else m))) t h else .bad
   |x,y=>match toN x,toN y with
    |some (k,m),some (k',n)=>bif jA k k' then okV (.c 0 (.int k) (match mx with|true=>max m n|false=>min m n)) t h else .bad
    | _,_=>.bad
  |none=>.bad
 |none=>.bad
def MF(t:Ty)(v:Sv)(h:Hq):Option (List (den t)×Hq):=match Mz t v h with
 |some r=>some r
 |none=>XV t v h
def R3(size:Nat)(sv:Sv)(r sz off n:Nat)(t:Tq)(h:Hq):OpR:=match h.aP.get r with
 |some (.l ty x)=>bif Nat.blt 0 size&&(Nat.beq sz size&&Nat.beq size (Lf.size ty))then(match MF ty sv h with
  |some (y,h1)=>(match h1.aP.get r with
   |some (.l _ _)=>okV (.c 0 (.int .i64) (Int.ofNat (min y.length n))) t (jq h1 r (some (.l ty (app (x.take off) (app (y.take (min y.length n)) (x.drop (Nat.add off (min y.length n))))))))
   | _=>.bad)
  |none=>.bad)else .bad
 | _=>.bad
def MG(size:Nat)(d s:Od):fo:=fun t h=>match opw s t with
 |some sv=>(match opw d t with
  |some (.os r sz)=>(match h.aP.get r with
   |some (.l _ x)=>R3 size sv r sz 0 x.length t h
   | _=>.bad)
  |some (.ss r sz off n)=>R3 size sv r sz off n t h
  | _=>.bad)
 |none=>.bad
def MH(call:eJ)(f:FuncId)(args:List Od):fo:=fun t h=>match Mu args t with
 |some vs=>(call f vs h).bd fun p=>okV p.1 t p.2
 |none=>.bad
def F4(call:eJ)(f:Od)(args:List Od):fo:=fun t h=>match j5 f t with
 |some (.fn k cap)=>match Mu args t with
  |some vs=>(call k (app vs cap) h).bd fun p=>okV p.1 t p.2
  |none=>.bad
 | _=>.bad
def j6(l:List Sv):Nat->List Sv×Nat:=List.rec (fun n=>([],n)) (fun a _ ih n=>match a with
 | .c m (.ae t) x=>bif Nat.beq m 0 then(.c n (.ae t) x::(ih (Nat.add n 1)).1,(ih (Nat.add n 1)).2)else(a::(ih n).1,(ih n).2)
 |a=>(a::(ih n).1,(ih n).2)) l
def X7(b:Od)(f:fo):fo:=fun t h=>match b with
 | .t i=>bif Nat.blt i 512 then(match t.at i with
  |some (.ag l)=>f (t.put i (some (.ag (j6 l h.next).1))) ⟨(j6 l h.next).2,h.aP⟩
  | _=>f t h)else f t h
 | _=>f t h
def MI(a:Od):fo:=fun t h=>match j5 a t with
 |some (.os r sz)=>match h.aP.get r with
  |some (.l _ x)=>.ck (!(Nat.beq x.length 0)) (okV (.os r sz) t h)
  | _=>.bad
 |some (.xo r sz off n)=>match h.aP.get r with
  |some (.o _ _)=>bif Nat.beq n 0 then .bad else okV (.xo r sz off n) t h
  | _=>.bad
 | _=>.bad
def yo(call:eJ)(o:kJ):fo:=match o with
 | .mv a=>ym a| .pk c a b=>VS c a b| .nw cs=>XX cs| .bx a=>XY a| .bd z ps=>FW z ps| .rw n sz z ps=>XZ n sz z ps
 | .ld sz g a=>HH sz g a| .sto sz a b=>X7 b (FX sz a b)| .nl a=>HI a| .bn f a b=>RX f a b| .un f a=>sUn f a| .fn f cap=>sFn f cap
 | .fa off a=>pS off a| .fd off s g a=>BA off s g a| .ixS s a i=>RY s a i| .ixA n s a i=>RZ n s a i| .ix n s g a i=>BB n s g a i| .ixT a i=>xp a i
 | .slN s a lo hi=>uC s a lo hi| .slA n s a lo hi=>uD n s a lo hi| .slS a lo hi=>BC a lo hi| .ex a i=>uB a i| .ln a=>cQ a| .lnT a=>HJ a
 | .ap s b x y=>BD s b x y| .apZ s b z x y=>MC s b z x y| .apS b x y=>MD b x y| .bys a=>FZ a| .mk s b z l c=>ME s b z l c
 | .emp a b c=>X6 a b c| .cap a=>ek a| .mrk a=>MI a| .min a b=>F3 false a b| .max a b=>F3 true a b
 | .map=>fun t h=>okV (.a .any) t h
 | .cpy sz d a=>MG sz d a
 | .call f args=>MH call f args| .callV f args=>F4 call f args
 | _=>fun _ _=>.bad
def X8(j:Od)(want:Bool)(f:fo):fo:=fun t h=>match j5 j t with
 |some (.tu [])=>okV q9 t h
 | _=>tp j t (fun t=>bif want then f t h else okV q9 t h) (fun t=>bif want then okV q9 t h else f t h)
def VT(call:eJ)(o:kJ):fo:=match o with
 | .gd j w (.mn f)=>X8 j w (yo call f)
 | .gd j w f=>X8 j w (yo call f)
 | .mn (.gd j w f)=>X8 j w (yo call f)
 | .mn f=>yo call f
 |o=>yo call o
def HL(u v:Sv):Option LB:=match u,v with
 | .i k a,.i k' b=>bif jA k k'&&eqI a b then some (.l true)else none
 | .b a,.b b=>bif a then(bif b then some (.l true)else none)else(bif b then none else some (.l true))
 | .a v,.a w=>bif nh v w then some (.l true)else none
 | .rf r o,.rf r' o'=>bif Nat.beq r r'&&Nat.beq o o' then some (.l true)else none
 | .re r s i o,.re r' s' i' o'=>bif Nat.beq r r'&&(Nat.beq s s'&&Nat.beq o o')then some (.t (decide (i=i')))else none
 | .os r s,.os r' s'=>bif Nat.beq r r'&&Nat.beq s s' then some (.l true)else none
 | .ss r s o n,.ss r' s' o' n'=>bif Nat.beq r r'&&Nat.beq s s' then some (.t (decide (o=o')&&decide (n=n')))else none
 | .xo r s o n,.xo r' s' o' n'=>bif Nat.beq r r'&&(Nat.beq s s'&&(Nat.beq o o'&&Nat.beq n n'))then some (.l true)else none
 | .c m (.ae t) _,.c m' (.ae t') _=>bif Nat.blt 0 m&&Nat.beq m m' then some (.l true)else none
 |u,v=>match toN u,toN v with
  |some (k,a),some (k',b)=>bif jA k k' then some (.t (decide (a=b)))else none
  | _,_=>match toB u,toB v with
   |some a,some b=>some (.t (!(xor a.v b.v)))
   | _,_=>none
def HM:List Sv->List Sv->Option LB
 | [],[]=>some (.l true)
 |a::l,b::m=>match HL a b with
  |some c=>match HM l m with
   |some d=>some (c.and d)
   |none=>none
  |none=>none
 | _,_=>none
def Dr(u v:Sv):Option LB:=match u,v with
 | .ag l,.ag m=>HM l m
 |u,v=>HL u v
inductive Oc where
 |norm (t:Tq) (h:Hq)
 |ret (t:Tq) (h:Hq)
 |exit (i:Nat) (t:Tq) (h:Hq)
abbrev fA:=Tq->Hq->T Oc
def Ds(s:Od)(sz:Nat)(g:Bool)(a:Od)(t:Tq)(h:Hq)(k:T (Tq×Hq)):T (Tq×Hq):=match j5 a t with
 |some p=>(match Aw sz g p h with
  |some v=>(match j5 s t with
   |some u=>(match Dr u v with
    |some c=>ckL c k
    |none=>.bad)
   |none=>.bad)
  |none=>.bad)
 |none=>.bad
def MJ(s:Od)(sz:Nat)(a:Od)(lo hi:Option Od)(t:Tq)(h:Hq)(k:T (Tq×Hq)):T (Tq×Hq):=(uC sz a lo hi t h).bd fun p=>match j5 s t with
 |some u=>(match Dr u p.1 with
  |some c=>ckL c k
  |none=>.bad)
 |none=>.bad
def MK(s:Od)(n sz:Nat)(a:Od)(lo hi:Option Od)(t:Tq)(h:Hq)(k:T (Tq×Hq)):T (Tq×Hq):=(uD n sz a lo hi t h).bd fun p=>match j5 s t with
 |some u=>(match Dr u p.1 with
  |some c=>ckL c k
  |none=>.bad)
 |none=>.bad
def zK(s:Od)(t:Tq)(k:T (Tq×Hq)):T (Tq×Hq):=match j5 s t with
 |some (.tu [])=>k
 | _=>.bad
def wR(call:eJ)(r:zI):Tq->Hq->T (Tq×Hq):=
 zI.rec (motive:=fun _=>Tq->Hq->T (Tq×Hq)) (fun t h=>.ok (t,h))
  (fun i f _ ih t h=>bif Nat.blt i 512 then(VT call f t h).bd fun p=>ih (p.2.1.put i (some p.1)) p.2.2 else .bad)
  (fun f _ ih t h=>(VT call f t h).bd fun p=>ih p.2.1 p.2.2)
  (fun s f _ ih t h=>match f with
   | .ld sz g a=>Ds s sz g a t h (ih t h)
   | .slN sz a lo hi=>MJ s sz a lo hi t h (ih t h)
   | .slA n sz a lo hi=>MK s n sz a lo hi t h (ih t h)
   | .gd j w (.ld sz g a)=>(match j5 j t with
    |some (.b c)=>bif (bif w then c else !c)then Ds s sz g a t h (ih t h)else zK s t (ih t h)
    |some (.tu [])=>zK s t (ih t h)
    | _=>.bad)
   | _=>.bad) r
def nU:kJ->Bool
 | .mv _| .pk _ _ _| .ld _ _ _| .nl _| .bn _ _ _| .un _ _| .fa _ _| .fd _ _ _ _| .ixS _ _ _| .ixT _ _| .ex _ _| .ln _| .lnT _| .min _ _| .max _ _=>true
 | .gd _ _ (.mn _)=>false
 | .gd _ _ (.gd _ _ _)=>false
 | .gd _ _ f=>nU f
 | _=>false
def yp(r:zI):Bool:=zI.rec true (fun _ f _ ih=>bif nU f then ih else false) (fun f _ ih=>bif nU f then ih else false) (fun _ _ _ ih=>ih) r
def yq(r:zI):List Nat:=zI.rec [] (fun i _ _ ih=>i::ih) (fun _ _ ih=>ih) (fun _ _ _ ih=>ih) r
def mgV(c:Bool)(v w:Sv):Option Sv:=match v,w with
 | .b x,.b y=>bif (bif x then y else !y)then some (.b x)else some (.c 0 .bool (bif c then x else y))
 | .a x,.a y=>bif nh x y then some (.a x)else none
 | .rf r o,.rf r' o'=>bif Nat.beq r r'&&Nat.beq o o' then some (.rf r o)else none
 | .os r o,.os r' o'=>bif Nat.beq r r'&&Nat.beq o o' then some (.os r o)else none
 | .c m (.ae t) x,.c m' (.ae t') y=>(match wm t' t with
  |some ⟨e⟩=>some (.c 0 (.ae t) (bif c then x else(e▸y:List (den t))))
  |none=>none)
 | .i k x,.i k' y=>bif jA k k' then(bif eqI x y then some (.i k x)else some (.c 0 (.int k) (bif c then x else y)))else none
 |v,w=>match toN v,toN w with
  |some (k,x),some (k',y)=>bif jA k k' then some (.c 0 (.int k) (bif c then x else y))else none
  | _,_=>match toB v,toB w with
   |some x,some y=>some (.c 0 .bool (bif c then x.v else y.v))
   | _,_=>none
def mgO(c:Bool)(v w:Option Sv):Option Sv:=match v with
 |some v=>(match w with
  |some w=>mgV c v w
  |none=>none)
 |none=>none
def mgT(zx:List Nat)(c:Bool)(T0 a b:Tq):Tq:=List.rec T0 (fun i _ ih=>ih.put i (mgO c (a.at i) (b.at i))) zx
def LB.cond(c:Bool):LB->LB->LB
 | .l true,.l true=>.l true
 | .l x,.l y=>.t (bif c then x else y)
 | .l x,.t y=>.t (bif c then x else y)
 | .t x,.l y=>.t (bif c then x else y)
 | .t x,.t y=>.t (bif c then x else y)
def VU(zx:List Nat)(T0:Tq)(x:T (Tq×Hq)):LB×Tq:=T.rec (motive:=fun _=>LB×Tq) (.l false,T0) (fun p=>(.l true,p.1))
 (fun c _ _ a b=>(LB.cond c a.1 b.1,mgT zx c T0 a.2 b.2))
 (fun c _ a=>(LB.and (.t c) a.1,a.2)) x
def R4(call:eJ)(r:zI):Tq->Hq->T (Tq×Hq):=fun t h=>bif yp r&&cu (fun i=>Nat.blt i 512) (yq r)then(match VU (yq r) t (wR call r t h)with
 |(c,t')=>ckL c (.ok (t',h)))else wR call r t h
def JA(a:T Oc)(b:fA):T Oc:=a.bd fun o=>match o with
 | .norm t h=>b t h
 |o=>.ok o
def blO(id:Nat)(a:T Oc):T Oc:=a.bd fun o=>match o with
 | .exit i t h=>.ok (bif Nat.beq i id then .norm t h else .exit i t h)
 |o=>.ok o
def VV(L:Nat->Option fA)(call:eJ)(m:Nat)(c:qt):fA:=
 qt.rec (motive:=fun _=>fA) (fun r t h=>(R4 call r t h).bd fun p=>.ok (.norm p.1 p.2)) (fun t h=>.ok (.norm t h))
  (fun _ _ a b t h=>JA (a t h) b)
  (fun c _ _ a b t h=>tp c t (fun t=>a t h) (fun t=>b t h))
  (fun id _ b t h=>match L id with
   |some f=>f t h
   |none=>blO id (b t h))
  (fun _ b=>Nat.rec (motive:=fun _=>fA) (fun _ _=>.bad) (fun _ ih t h=>JA (b t h) ih) m)
  (fun i t h=>.ok (.exit i t h)) (fun t h=>.ok (.ret t h)) (fun _ _=>.bad) c
def X9(t:Tq)(h:Hq):RV->Option Sv
 | .tmp i=>bif Nat.blt i 512 then t.at i else none
 | .cell i size agg=>match(bif Nat.blt i 512 then t.at i else none)with
  |some p=>Aw size agg p h
  |none=>none
def ML(t:Tq)(h:Hq)(l:List RV):Option (List Sv):=List.rec (some []) (fun r _ ih=>match X9 t h r with
 |some v=>match ih with
  |some vs=>some (v::vs)
  |none=>none
 |none=>none) l
def MM(res:List RV)(t:Tq)(h:Hq):T (Sv×Hq):=match ML t h res with
 |some [v]=>.ok (v,h)
 |some vs=>.ok (.tu vs,h)
 |none=>.bad
def F5(l:List Sv):Nat->Tq->Tq:=List.rec (fun _ t=>t) (fun v _ ih i t=>ih (Nat.add i 1) (t.put i (some v))) l
def Dt(L:Nat->Option fA)(b:dB)(m:Nat)(c:eJ)(args:List Sv)(h:Hq):T (Sv×Hq):=
 bif Nat.ble (len args) b.ntmps then(VV L c m b.code (F5 args 0 Tq.none) h).bd fun o=>match o with
  | .norm t h=>MM b.res t h
  | .ret t h=>MM b.res t h
  | _=>.bad else .bad
end Lf
end Go.Ab

noncomputable section
namespace Go.Ab
namespace Lf
structure Kr where
 av:AV
 n:Nat
structure En where
 K:Nat->Kr
 tk:Nat->AV
 G:Nat->Option Rw
 A:Nat->AV
section
variable {α:Type}
def kR(E:α->List AV->Prop):List α->List AV->Prop
 | [],cs=>cs=[]
 |x::xs,cs=> ∃ c r,cs=c++r/\E x c/\kR E xs r
theorem kR.mono{E E':α->List AV->Prop}(h: ∀ x c,E x c->E' x c): ∀ {l:List α} {cs:List AV},kR E l cs->kR E' l cs
 | [],_,e=>e
 | _::_,_,⟨c,r,e,a,b⟩=>⟨c,r,e,h _ _ a,kR.mono h b⟩
theorem kR.app{E:α->List AV->Prop}: ∀ {l m:List α} {cs ds:List AV},kR E l cs->kR E m ds->kR E (l++m) (cs++ds)
 | [],_,_,_,e,k=>by have e':_=[]:=e;subst e';simpa using k
 | _::_,_,_,_,⟨c,r,e,a,b⟩,k=>by subst e;exact⟨c,r++_,by simp,a,kR.app b k⟩
theorem kR.length{E:α->List AV->Prop}{s:Nat}(h: ∀ x c,E x c->c.length=s): ∀ {l:List α} {cs:List AV},kR E l cs->cs.length=l.length*s
 | [],_,e=>by have e':_=[]:=e;subst e';simp
 | _::_,_,⟨c,r,e,a,b⟩=>by subst e;rw[List.length_append,h _ _ a,kR.length h b,List.length_cons,Nat.succ_mul];omega
theorem kR.drop{E:α->List AV->Prop}{s:Nat}(h: ∀ x c,E x c->c.length=s): ∀ (n:Nat) {l:List α} {cs:List AV},kR E l cs->kR E (l.drop n) (cs.drop (n*s))
 |0,_,_,e=>by simpa using e
 |n+1,[],_,e=>by have e':_=[]:=e;subst e';simp;rfl
 |n+1,_::_,_,⟨c,r,e,a,b⟩=>by
  subst e
  have:=kR.drop h n b
  rw[List.drop_succ_cons,Nat.succ_mul,Nat.add_comm,<-List.drop_drop,List.drop_append_of_le_length (by rw[h _ _ a];exact Nat.le_refl _),<-h _ _ a,List.drop_length,List.nil_append,h _ _ a]
  exact this
theorem kR.take{E:α->List AV->Prop}{s:Nat}(h: ∀ x c,E x c->c.length=s): ∀ (n:Nat) {l:List α} {cs:List AV},kR E l cs->kR E (l.take n) (cs.take (n*s))
 |0,_,_,e=>by simp;rfl
 |n+1,[],_,e=>by have e':_=[]:=e;subst e';simp;rfl
 |n+1,_::_,_,⟨c,r,e,a,b⟩=>by
  subst e
  have:=kR.take h n b
  refine⟨c,r.take (n*s),?_,a,this⟩
  rw[Nat.succ_mul,Nat.add_comm,<-h _ _ a,List.take_length_add_append]
theorem kR.get{E:α->List AV->Prop}{s:Nat}(h: ∀ x c,E x c->c.length=s){l:List α}{cs:List AV}(e:kR E l cs){i:Nat}(hi:i<l.length)(d:α):E (l.getD i d) ((cs.drop (i*s)).take s):=by
 induction l generalizing cs i with
 |nil=>simp at hi
 |cons x l ih=>
  obtain⟨c,r,rfl,a,b⟩:=e
  cases i with
  |zero=>simp only[Nat.zero_mul,List.drop_zero,List.getD_cons_zero];rw[List.take_append_of_le_length (by rw[h _ _ a];exact Nat.le_refl _),<-h _ _ a,List.take_length];exact a
  |succ i=>
   rw[List.getD_cons_succ,Nat.succ_mul,Nat.add_comm,<-List.drop_drop,List.drop_append_of_le_length (by rw[h _ _ a];exact Nat.le_refl _),<-h _ _ a,List.drop_length,List.nil_append,h _ _ a]
   exact ih b (by simpa using hi)
end
def JB(G:Nat->Option Rw)(t:Ty)(E:den t->List AV->Prop)(x:List (den t))(a:AV):Prop:=
 (dI a=true/\x=[])∨ ∃ ls,kR E x ls/\(a=.lj x.length ls∨ ∃ id base row,a=.ff id base x.length (size t)/\G id=some row/\row.lO base (x.length*size t)=some ls)
def EV(G:Nat->Option Rw):(t:Ty)->den t->List AV->Prop
 | .int k,x,cs=>cs=[.int k x]
 | .bool,x,cs=>cs=[.bool x]
 | .str,x,cs=>cs=[.sc (.string x)]
 | .ae t,x,cs=> ∃ a,cs=[a]/\JB G t (EV G t) x a
 | .pair a b,x,cs=> ∃ c d,cs=c++d/\EV G a x.1 c/\EV G b x.2 d
def R5(G G':Nat->Option Rw):Prop:= ∀ id row,G id=some row->G' id=some row
theorem JB.mono{G G':Nat->Option Rw}(h:R5 G G'){t:Ty}{E E':den t->List AV->Prop}(he: ∀ x c,E x c->E' x c){x:List (den t)}{a:AV}(k:JB G t E x a):JB G' t E' x a:=by
 rcases k with k|⟨ls,k1,k2⟩
 ·exact .inl k
 ·refine .inr ⟨ls,k1.mono he,?_⟩
  rcases k2 with k2|⟨id,base,row,e,g,s⟩
  ·exact .inl k2
  ·exact .inr ⟨id,base,row,e,h _ _ g,s⟩
theorem EV.mono{G G':Nat->Option Rw}(h:R5 G G'): ∀ (t:Ty) (x:den t) (cs:List AV),EV G t x cs->EV G' t x cs
 | .int _,_,_,e=>e
 | .bool,_,_,e=>e
 | .str,_,_,e=>e
 | .ae t,_,_,⟨a,e,k⟩=>⟨a,e,k.mono h (EV.mono h t)⟩
 | .pair a b,_,_,⟨c,d,e,k1,k2⟩=>⟨c,d,e,EV.mono h a _ _ k1,EV.mono h b _ _ k2⟩
theorem EV.length{G:Nat->Option Rw}: ∀ (t:Ty) (x:den t) (cs:List AV),EV G t x cs->cs.length=size t
 | .int _,_,_,e=>by have e':_=_:=e;rw[e'];rfl
 | .bool,_,_,e=>by have e':_=_:=e;rw[e'];rfl
 | .str,_,_,e=>by have e':_=_:=e;rw[e'];rfl
 | .ae t,_,_,⟨a,e,k⟩=>by rw[e];rfl
 | .pair a b,_,_,⟨c,d,e,k1,k2⟩=>by
  have h1:=EV.length a _ _ k1
  have h2:=EV.length b _ _ k2
  show _=Nat.add (size a) (size b)
  rw[e,List.length_append,h1,h2];rfl
theorem pT{a:AV}(h:dI a=true):dN a=true:=by cases a<;>first|rfl|cases h
theorem EV.dN{G:Nat->Option Rw}: ∀ (t:Ty) (x:den t) (cs:List AV),EV G t x cs-> ∀ a,a∈cs->dN a=true
 | .int _,_,_,e=>by have e':_=_:=e;rw[e'];intro a ha;simp at ha;subst ha;rfl
 | .bool,_,_,e=>by have e':_=_:=e;rw[e'];intro a ha;simp at ha;subst ha;rfl
 | .str,_,_,e=>by have e':_=_:=e;rw[e'];intro a ha;simp at ha;subst ha;rfl
 | .ae t,_,_,⟨a,e,k⟩=>by
  rw[e];intro b hb;simp at hb;subst hb
  rcases k with⟨k,_⟩|⟨_,_,k|⟨_,_,_,k,_⟩⟩
  ·exact pT k
  ·rw[k];rfl
  ·rw[k];rfl
 | .pair a b,_,_,⟨c,d,e,k1,k2⟩=>by
  rw[e];intro x hx
  rcases List.mem_append.1 hx with h|h
  ·exact EV.dN a _ _ k1 x h
  ·exact EV.dN b _ _ k2 x h
theorem kR.dN{α:Type}{E:α->List AV->Prop}(h: ∀ x c,E x c-> ∀ a,a∈c->dN a=true): ∀ {l:List α} {cs:List AV},kR E l cs-> ∀ a,a∈cs->dN a=true
 | [],_,e=>by have e':_=[]:=e;subst e';intro a ha;simp at ha
 | _::_,_,⟨c,r,e,a,b⟩=>by
  subst e;intro y hy
  rcases List.mem_append.1 hy with k|k
  ·exact h _ _ a y k
  ·exact kR.dN h b y k
mutual
inductive V (E:En) (N:Nat):Sv->AV->Prop
 |i {k n}:V E N (.i k n) (.int k n)
 |b {b}:V E N (.b b) (.bool b)
 |a {v}:VO v=true->V E N (.a v) v
 |c {m t x a}:EV E.G t x [a]->(m≠0->m<N/\a=E.tk m)->V E N (.c m t x) a
 |ag {l l'}:Vs E N l l'->V E N (.ag l) (.agg l')
 |tu {l l'}:Vs E N l l'->V E N (.tu l) (.wK l')
 |fn {f l l'}:Vs E N l l'->V E N (.fn f l) (.fn f l')
 |rf {r o id}:r<N->(E.K r).av=.ref id 0->V E N (.rf r o) (.ref id o)
 |re {r sz i o id base n}:r<N->(E.K r).av=.ff id base n sz->i<n->V E N (.re r sz i o) (.ref id (base+i*sz+o))
 |os {r sz}:r<N->((dI (E.K r).av=true/\(E.K r).n=0)∨ ∃ id base,(E.K r).av=.ff id base (E.K r).n sz)->V E N (.os r sz) (E.K r).av
 |se {r sz off}:r<N->dI (E.K r).av=true->(E.K r).n=0->off=0->V E N (.ss r sz off 0) (E.K r).av
 |ss {r sz off n id base}:r<N->(E.K r).av=.ff id base (E.K r).n sz->off+n<=(E.K r).n->V E N (.ss r sz off n) (.ff id (base+off*sz) n sz)
 |xo {r sz off n id}:r<N->(E.K r).av=.ref id 0->V E N (.xo r sz off n) (.ff id off n sz)
 |zp {l l' r}:Vs E N l l'->V E N (.zp l) (.jC (l'++r))
 |zr {l l' id off row}:Vs E N l l'->E.G id=some row->row.lO off l.length=some l'->V E N (.zp l) (.ref id off)
inductive Vs (E:En) (N:Nat):List Sv->List AV->Prop
 |nil:Vs E N [] []
 |cons {a c l l'}:V E N a c->Vs E N l l'->Vs E N (a::l) (c::l')
end
structure xq(E E':En)(N:Nat):Prop where
 K: ∀ r,r<N->E'.K r=E.K r
 tk: ∀ r,r<N->E'.tk r=E.tk r
 G:R5 E.G E'.G
 A:E'.A=E.A
theorem xq.refl(E:En)(N:Nat):xq E E N:=⟨fun _ _=>rfl,fun _ _=>rfl,fun _ _ e=>e,rfl⟩
section
variable {E E':En}{N N':Nat}
mutual
theorem V.mono(h:xq E E' N)(hN:N<=N'): ∀ {a c},V E N a c->V E' N' a c
 | _,_,.i=>.i
 | _,_,.b=>.b
 | _,_,.a k=>.a k
 | _,_,.c k m=>.c (EV.mono h.G _ _ _ k) fun e=>⟨Nat.lt_of_lt_of_le (m e).1 hN,by rw[h.tk _ (m e).1];exact(m e).2⟩
 | _,_,.ag k=>.ag (Vs.mono h hN k)
 | _,_,.tu k=>.tu (Vs.mono h hN k)
 | _,_,.fn k=>.fn (Vs.mono h hN k)
 | _,_,.rf a b=>.rf (Nat.lt_of_lt_of_le a hN) (by rw[h.K _ a];exact b)
 | _,_,.re a b c=>.re (Nat.lt_of_lt_of_le a hN) (by rw[h.K _ a];exact b) c
 | _,_,.os (r:=r) a b=>by rw[<-h.K _ a];exact .os (Nat.lt_of_lt_of_le a hN) (by rw[h.K _ a];exact b)
 | _,_,.se (r:=r) a b c d=>by rw[<-h.K _ a];exact .se (Nat.lt_of_lt_of_le a hN) (by rw[h.K _ a];exact b) (by rw[h.K _ a];exact c) d
 | _,_,.ss a b c=>.ss (Nat.lt_of_lt_of_le a hN) (by rw[h.K _ a];exact b) (by rw[h.K _ a];exact c)
 | _,_,.xo a b=>.xo (Nat.lt_of_lt_of_le a hN) (by rw[h.K _ a];exact b)
 | _,_,.zp k=>.zp (Vs.mono h hN k)
 | _,_,.zr k g s=>.zr (Vs.mono h hN k) (h.G _ _ g) s
theorem Vs.mono(h:xq E E' N)(hN:N<=N'): ∀ {l l'},Vs E N l l'->Vs E' N' l l'
 | _,_,.nil=>.nil
 | _,_,.cons a b=>.cons (V.mono h hN a) (Vs.mono h hN b)
end
theorem Vs.length{l l'}(h:Vs E N l l'):l.length=l'.length:=by
 induction l generalizing l' with
 |nil=>cases h;rfl
 |cons a l ih=>cases h with|cons _ h=>simp[ih h]
theorem Vs.app{l l' m m'}(h:Vs E N l l')(k:Vs E N m m'):Vs E N (l++m) (l'++m'):=by
 induction l generalizing l' with
 |nil=>cases h;exact k
 |cons a l ih=>cases h with|cons a h=>exact .cons a (ih h)
theorem Vs.drop{l l'}(h:Vs E N l l')(n:Nat):Vs E N (l.drop n) (l'.drop n):=by
 induction n generalizing l l' with
 |zero=>simpa using h
 |succ n ih=>
  cases h with
  |nil=>simp;exact .nil
  |cons a h=>simpa using ih h
theorem Vs.take{l l'}(h:Vs E N l l')(n:Nat):Vs E N (l.take n) (l'.take n):=by
 induction n generalizing l l' with
 |zero=>simp;exact .nil
 |succ n ih=>
  cases h with
  |nil=>simp;exact .nil
  |cons a h=>simpa using .cons a (ih h)
theorem Vs.get{l l'}(h:Vs E N l l'){i:Nat}{a}(e:l[i]? =some a): ∃ c,l'[i]? =some c/\V E N a c:=by
 induction l generalizing l' i with
 |nil=>simp at e
 |cons b l ih=>
  cases h with
  |cons hb h=>
   cases i with
   |zero=>simp at e;subst e;exact⟨_,by simp,hb⟩
   |succ i=>simpa using ih h (by simpa using e)
theorem Du{c:AV}(h:VO c=true):dN c=true:=by cases c<;>first|rfl|cases h
theorem Dv{c:AV}(h:dN c=true):c.cells=[c]:=by cases c<;>first|rfl|cases h
theorem V.one{a c}(h:V E N a c)(e:Dp a=true):dN c=true:=by
 cases h with
 |a h=>exact Du h
 |c h _=>exact EV.dN _ _ _ h _ (by simp)
 |ag h=>cases e
 |tu h=>cases e
 |os _ h=>rcases h with⟨h,_⟩|⟨_,_,h⟩
          ·exact pT h
          ·rw[h];rfl
 |se _ h _ _=>exact pT h
 | _=>rfl
theorem V.cells{a c}(h:V E N a c):Vs E N a.cells c.cells:=by
 by_cases e:Dp a=true
 ·rw[Dv (h.one e)]
  have:a.cells=[a]:=by cases a<;>first|rfl|cases e
  rw[this];exact .cons h .nil
 ·cases h with
  |ag h=>exact h
  |tu h=>exact .cons (.tu h) .nil
  | _=>exact(e rfl).elim
theorem Vs.Fi{l l'}(h:Vs E N l l')(e: ∀ a,a∈l->Dp a=true): ∀ a,a∈l'->dN a=true:=by
 induction l generalizing l' with
 |nil=>cases h;intro a ha;simp at ha
 |cons b l ih=>
  cases h with
  |cons hb h=>
   intro a ha
   rcases List.mem_cons.1 ha with k|k
   ·subst k;exact hb.one (e _ List.mem_cons_self)
   ·exact ih h (fun a ha=>e a (List.mem_cons_of_mem _ ha)) a k
theorem beq_true{a b:Nat}(h:Nat.beq a b=true):a=b:=Nat.eq_of_beq_eq_true h
theorem bV{α:Type}{b:Bool}{x:Option α}{y:α}(h:(bif b then x else none)=some y):b=true/\x=some y:=by cases b<;>simp_all
theorem JC{l:List Sv}{off n:Nat}{r:List Sv}(h:adj l off n=some r):r=(l.drop off).take n/\r.length=n:=by
 change (bif Nat.beq (len (tk n (dp off l))) n then some (tk n (dp off l))else none)=some r at h
 rw[qO,j3,bW]at h
 cases hb:Nat.beq (List.take n (List.drop off l)).length n with
 |false=>rw[hb]at h;cases h
 |true=>rw[hb]at h;cases h;exact⟨rfl,beq_true hb⟩
theorem tt{l:List AV}{off n:Nat}(h:((l.drop off).take n).length=n):xf l off n=some ((l.drop off).take n):=by
 change (bif Nat.beq (len (tk n (dp off l))) n then some (tk n (dp off l))else none)=_
 rw[qO,j3,bW,h,Nat.beq_refl]
 rfl
theorem oD{agg:Bool}{l:List Sv}{l':List AV}{off n:Nat}{r:Sv}(h:Vs E N l l')(e:yk agg l off n=some r): ∃ c,part agg l' off n=some c/\V E N r c:=by
 unfold yk at e
 split at e
 ·cases e
 ·rename_i s hs
  obtain⟨rfl,hl⟩:=JC hs
  have hv:=(h.drop off).take n
  have hsg:=tt (l:=l') (off:=off) (n:=n) (by rw[<-hv.length,hl])
  unfold part
  rw[hsg]
  cases agg with
  |true=>cases e;exact⟨_,rfl,.ag hv⟩
  |false=>
   simp only[cond_false]at e ⊢
   generalize (List.take n (List.drop off l))=s at e hv
   generalize (List.take n (List.drop off l'))=s' at hv ⊢
   split at e
   ·cases e
    cases hv with
    |cons a b=>cases b;exact⟨_,rfl,a⟩
   ·cases e
theorem F6{r:Rw}{off k:Nat}(h:off+k<=r.toL.length):r.lO off k=some ((r.toL.drop off).take k):=by
 rw[eO]at h
 have hs:r.lO off k=some (r.cells k off):=by unfold Rw.lO;rw[show Nat.ble (Nat.add off k) r.n=true from(by rw[Nat.ble_eq];exact h)];rfl
 rw[hs,(mG hs).1]
theorem eS{r:Rw}{off k:Nat}{l:List AV}:r.lO off k=some l↔off+k<=r.n/\l=(r.toL.drop off).take k:=by
 constructor
 ·intro h
  have h1:=mG h
  unfold Rw.lO at h
  obtain⟨hb,_⟩:=bV h
  exact⟨by have:=Nat.le_of_ble_eq_true hb;exact this,h1.1⟩
 ·rintro⟨h,rfl⟩;exact F6 (by rw[eO];exact h)
theorem MN{agg:Bool}{r:Rw}{off n:Nat}{c:AV}(hn:0<n)(h:part agg r.toL off n=some c):sE agg r off n=some c:=by
 unfold part at h
 split at h
 ·cases h
 ·rename_i s hs
  obtain⟨rfl,hl⟩:=lP hs
  unfold sE
  rw[F6 (by rw[List.length_take,List.length_drop]at hl;omega)];exact h
theorem rW{G:Nat->Option Rw}(hg:E.G=G): ∀ (t:Ty) (x:den t) (cs:List AV),EV G t x cs->Vs E N (nT t x) cs
 | .int _,_,_,e=>by have e':_=_:=e;subst e';exact .cons (.c (by rw[hg];exact e) (fun h=>(h rfl).elim)) .nil
 | .bool,_,_,e=>by have e':_=_:=e;subst e';exact .cons (.c (by rw[hg];exact e) (fun h=>(h rfl).elim)) .nil
 | .str,_,_,e=>by have e':_=_:=e;subst e';exact .cons (.c (by rw[hg];exact e) (fun h=>(h rfl).elim)) .nil
 | .ae t,_,_,⟨a,e,k⟩=>by subst e;exact .cons (.c (by rw[hg];exact⟨a,rfl,k⟩) (fun h=>(h rfl).elim)) .nil
 | .pair a b,x,_,⟨c,d,e,k1,k2⟩=>by
  subst e
  show Vs E N (app (nT a x.1) (nT b x.2)) _
  rw[bp]
  exact(rW hg a _ _ k1).app (rW hg b _ _ k2)
end
def Row.live:Row->Bool
 | .o _ _| .l _ _=>true
 | _=>false
def own(H:Hq)(r:Nat):Prop:= ∃ R,H.aP.get r=some R/\R.live=true
def lE:AV->Option Nat
 | .ref id _=>some id
 | .ff id _ _ _=>some id
 | _=>none
theorem JD{a:AV}(h:dI a=true):lE a=none:=by cases a<;>first|rfl|cases h
def LR(G:Nat->Option Rw)(t:Ty)(x:List (den t))(k:Kr)(S:Nat->Option Rw):Prop:=
 x.length=k.n/\((dI k.av=true/\x=[])∨ ∃ id base row ls,k.av=.ff id base k.n (size t)/\S id=some row/\row.lO base (k.n*size t)=some ls/\kR (EV G t) x ls)
def RV(E:En)(N:Nat)(h:Hp)(k:Kr):Row->Prop
 | .o g l=> ∃ id row,k.av=.ref id 0/\h.aP.get id=some row/\Vs E N l row.toL/\(g≠0->k.av=E.A g)
 | .zo l=> ∃ id row,k.av=.ref id 0/\E.G id=some row/\Vs E N l row.toL
 | .l t x=>LR E.G t x k h.aP.get
 | .z t x=>LR E.G t x k E.G
structure SR(E:En)(H:Hq)(h:Hp):Prop where
 row: ∀ r R,H.aP.get r=some R->r<H.next/\RV E H.next h (E.K r) R
 inj: ∀ r r' id,own H r->own H r'->lE (E.K r).av=some id->lE (E.K r').av=some id->r=r'
 lt: ∀ r id,own H r->lE (E.K r).av=some id->id<h.next
 g: ∀ id row,E.G id=some row->id<h.next/\h.aP.get id=some row/\ ∀ r,own H r->lE (E.K r).av≠some id
def TV(E:En)(N:Nat)(T:Tq)(t:Tm):Prop:= ∀ i v,i<512->T.at i=some v-> ∃ a,t.at i=some a/\V E N v a
structure Nx(E E':En)(H H':Hq)(h h':Hp):Prop where
 e:xq E E' H.next
 le:H.next<=H'.next
 CC:h.next<=h'.next
 ow: ∀ r id,own H' r->lE (E'.K r).av=some id->(∃ r0,own H r0/\lE (E.K r0).av=some id)∨h.next<=id
 gw: ∀ id row,E'.G id=some row->E.G id=some row∨(∃ r0,own H r0/\lE (E.K r0).av=some id)∨h.next<=id
 fr: ∀ id,id<h.next->(∀ r,own H r->lE (E.K r).av≠some id)->h'.aP.get id=h.aP.get id
theorem Nx.refl(E:En)(H:Hq)(h:Hp):Nx E E H H h h:=
 ⟨xq.refl _ _,Nat.le_refl _,Nat.le_refl _,fun r _ a b=>.inl ⟨r,a,b⟩,fun _ _ a=>.inl a,fun _ _ _=>rfl⟩
theorem xq.trans{E E1 E2:En}{N N1:Nat}(a:xq E E1 N)(b:xq E1 E2 N1)(h:N<=N1):xq E E2 N where
 K r hr:=(b.K r (Nat.lt_of_lt_of_le hr h)).trans (a.K r hr)
 tk r hr:=(b.tk r (Nat.lt_of_lt_of_le hr h)).trans (a.tk r hr)
 G id row e:=b.G id row (a.G id row e)
 A:=b.A.trans a.A
theorem Nx.trans{E E1 E2:En}{H H1 H2:Hq}{h h1 h2:Hp}(a:Nx E E1 H H1 h h1)(b:Nx E1 E2 H1 H2 h1 h2):Nx E E2 H H2 h h2 where
 e:=a.e.trans b.e a.le
 le:=Nat.le_trans a.le b.le
 CC:=Nat.le_trans a.CC b.CC
 ow r id k e:=by
  rcases b.ow r id k e with⟨r0,k0,e0⟩|k0
  ·exact a.ow r0 id k0 e0
  ·exact .inr (Nat.le_trans a.CC k0)
 gw id row e:=by
  rcases b.gw id row e with k|⟨r0,k0,e0⟩|k
  ·exact a.gw id row k
  ·rcases a.ow r0 id k0 e0 with k|k
   ·exact .inr (.inl k)
   ·exact .inr (.inr k)
  ·exact .inr (.inr (Nat.le_trans a.CC k))
 fr id hi hn:=by
  rw[b.fr id (Nat.lt_of_lt_of_le hi a.CC) fun r k e=>?_,a.fr id hi hn]
  rcases a.ow r id k e with⟨r0,k0,e0⟩|k0
  ·exact hn r0 k0 e0
  ·omega
theorem TV.mono{E E':En}{N N':Nat}{T:Tq}{t:Tm}(h:TV E N T t)(e:xq E E' N)(hN:N<=N'):TV E' N' T t:=fun i v hi hv=>by
 obtain⟨a,h1,h2⟩:=h i v hi hv
 exact⟨a,h1,h2.mono e hN⟩
theorem Tq.jF(t:Tq)(i j:Nat)(x:Option Sv)(hi:i<512)(hj:j<512):(t.put i x).at j=if j=i then x else t.at j:=by
 unfold Tq.at Tq.put
 rw[F8.rP _ _ _ _ (by omega) (by omega)]
 by_cases h1:j / 64=i / 64
 ·rw[if_pos h1,F8.rP _ _ _ _ (by omega) (by omega)]
  by_cases h2:j / 8 % 8=i / 8 % 8
  ·rw[if_pos h2,F8.rP _ _ _ _ (by omega) (by omega)]
   by_cases h3:j % 8=i % 8
   ·rw[if_pos h3,if_pos (by omega)]
   ·rw[if_neg h3,if_neg (by omega),h1,h2]
  ·rw[if_neg h2,if_neg (by omega),h1]
 ·rw[if_neg h1,if_neg (by omega)]
section
variable {α β:Type}
theorem T.pU(a:α):(T.ok a).val=some a:=rfl
theorem T.dW(c:Bool)(a b:T α):(T.br c a b).val=bif c then a.val else b.val:=rfl
theorem T.j7(c:Bool)(a:T α):(T.ck c a).val=bif c then a.val else none:=rfl
theorem T.MO(x:T α)(f:α->T β):(x.bd f).val=x.val.bind fun a=>(f a).val:=by
 induction x with
 |bad=>rfl
 |ok a=>rfl
 |br c a b sY xD=>
  show(bif c then(a.bd f).val else(b.bd f).val)=(bif c then a.val else b.val).bind _
  cases c<;>simp[sY,xD]
 |ck c a ih=>
  show(bif c then(a.bd f).val else none)=(bif c then a.val else none).bind _
  cases c<;>simp[ih]
theorem T.dm{x:T α}{f:α->T β}{b:β}(h:(x.bd f).val=some b): ∃ a,x.val=some a/\(f a).val=some b:=by
 rw[T.MO]at h
 cases e:x.val with
 |none=>rw[e]at h;cases h
 |some a=>rw[e]at h;exact⟨a,rfl,h⟩
theorem T.ba{c:Bool}{x:T α}{b:α}(h:(T.ck c x).val=some b):c=true/\x.val=some b:=by
 rw[T.j7]at h;exact bV h
theorem mQ{c:LB}{x:T α}{b:α}(h:(ckL c x).val=some b):c.v=true/\x.val=some b:=by
 cases c with
 |l c=>cases c with
  |true=>exact⟨rfl,h⟩
  |false=>cases h
 |t c=>exact T.ba h
end
def Ev{α:Type}(p:Nat->Nat->α)(r:α):Prop:= ∃ M,∀ n d,M<=n->M<=d->p n d=r
theorem Ev.const{α:Type}{x r:α}(h:x=r):Ev (fun _ _=>x) r:=⟨0,fun _ _ _ _=>h⟩
abbrev aB:=Nat->Nat->cZ
abbrev OpN:=Nat->Nat->eG
def fg(f:fo)(g:OpN):Prop:= ∀ (E:En) (T:Tq) (t:Tm) (H:Hq) (h:Hp) (v:Sv) (T':Tq) (H':Hq),TV E H.next T t->SR E H h->(f T H).val=some (v,T',H')->
 ∃ c h' E',Ev (fun n d=>g n d t h) (.ok c h')/\Nx E E' H H' h h'/\SR E' H' h'/\V E' H'.next v c/\TV E' H'.next T' t
theorem dh{f:fo}{g:eG}(k: ∀ (E:En) (T:Tq) (t:Tm) (H:Hq) (h:Hp) (v:Sv) (T':Tq) (H':Hq),TV E H.next T t->SR E H h->(f T H).val=some (v,T',H')->H'=H/\T'=T/\ ∃ c,g t h=.ok c h/\V E H.next v c):fg f (fun _ _=>g):=by
 intro E T t H h v T' H' hT hH e
 obtain⟨rfl,rfl,c,e1,hv⟩:=k E T t H h v T' H' hT hH e
 exact⟨c,h,E,Ev.const e1,Nx.refl _ _ _,hH,hv,hT⟩
theorem R6{g:OpN}:fg (fun _ _=>.bad) g:=by intro E T t H h v T' H' _ _ e;cases e
end Lf
end Go.Ab
