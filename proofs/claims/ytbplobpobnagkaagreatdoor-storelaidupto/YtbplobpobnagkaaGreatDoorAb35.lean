import Derived.Test.YtbplobpobnagkaaGreatDoorAb21
noncomputable section
namespace Go.Ab
variable [Io]
def tY(n:Nat):Hp->AV->Option AV:=
 Nat.rec (fun _ _=>none) (fun _ ih h a=>match a with
  | .ff id off n sz=>match h.aL.get id with
   |some cs=>match cs.lG off (Nat.mul n sz)with
    |some l=>match mapA (ih h) l with
     |some l=>some (.kX n l)
     |none=>none
    |none=>none
   |none=>none
  | .ref id off=>match h.aL.get id with
   |some cs=>match cs.lG off (Nat.sub cs.n off)with
    |some l=>match mapA (ih h) l with
     |some l=>some (.jy l)
     |none=>none
    |none=>none
   |none=>none
  | .agg l=>match mapA (ih h) l with
   |some l=>some (.agg l)
   |none=>none
  | .wm l=>match mapA (ih h) l with
   |some l=>some (.wm l)
   |none=>none
  | .fn f l=>match mapA (ih h) l with
   |some l=>some (.fn f l)
   |none=>none
  | .kX _ _=>none
  | .jy _=>none
  |a=>some a) n
theorem RK{g g':G}{w:World}{h:Hp}(H:HR g w h)(ho: ∀ b,jW g h b->g'.fw b): ∀ (n:Nat) (a a':AV) (v:Value),tY n h a=some a'->VR g w a v->VR g' w a' v:=by
 intro n
 induction n with
 |zero=>intro a a' v e;cases e
 |succ n ih=>
  intro a a' v e hv
  have hm:= @Hm _ g g' w (tY n h) ih
  cases a with
  |int k n=>cases e;simpa only[VR]using hv
  |bool b=>cases e;simpa only[VR]using hv
  |sc x=>cases e;simpa only[VR]using hv
  |fm=>cases e;simpa only[VR]using hv
  |p'=>cases e;simpa only[VR]using hv
  |sym k s lo hi o=>cases e;simpa only[VR]using hv
  |any=>cases e;simpa only[VR]using hv
  |agg l=>
   change (match mapA (tY n h) l with|some l=>some (AV.agg l)|none=>none)=some a' at e
   cases h1:mapA (tY n h) l with
   |none=>rw[h1]at e;cases e
   |some l'=>
    rw[h1]at e
    cases e
    simp only[VR]at hv ⊢
    obtain⟨vs,e,q⟩:=hv
    exact⟨vs,e,hm h1 q⟩
  |wm l=>
   change (match mapA (tY n h) l with|some l=>some (AV.wm l)|none=>none)=some a' at e
   cases h1:mapA (tY n h) l with
   |none=>rw[h1]at e;cases e
   |some l'=>
    rw[h1]at e
    cases e
    simp only[VR]at hv ⊢
    obtain⟨vs,e,q⟩:=hv
    exact⟨vs,e,hm h1 q⟩
  |fn f l=>
   change (match mapA (tY n h) l with|some l=>some (AV.fn f l)|none=>none)=some a' at e
   cases h1:mapA (tY n h) l with
   |none=>rw[h1]at e;cases e
   |some l'=>
    rw[h1]at e
    cases e
    simp only[VR]at hv ⊢
    obtain⟨vs,e,q⟩:=hv
    exact⟨vs,e,hm h1 q⟩
  |kX m l=>cases e
  |jy l=>cases e
  |ref id off=>
   change (match h.aL.get id with|some cs=>(match cs.lG off (Nat.sub cs.n off)with|some l=>(match mapA (tY n h) l with|some l=>some (AV.jy l)|none=>none)|none=>none)|none=>none)=some a' at e
   cases h0:h.aL.get id with
   |none=>rw[h0]at e;cases e
   |some cs=>
   rw[h0]at e
   simp only at e
   cases hs:cs.lG off (Nat.sub cs.n off)with
   |none=>rw[hs]at e;cases e
   |some l=>
   rw[hs]at e
   simp only at e
   cases h1:mapA (tY n h) l with
   |none=>rw[h1]at e;cases e
   |some l'=>
    rw[h1]at e
    cases e
    obtain⟨rfl,_,_⟩:=mu hs
    simp only[VR]at hv ⊢
    obtain⟨b,s,hmm,rfl⟩:=hv
    obtain⟨C,el,vs,hw,_,eI,hC⟩:=H.row h0 hmm
    exact⟨b,s+off,(vs.drop off).take (Nat.sub cs.n off),rfl,ho b ⟨id,cs,s,h0,hmm⟩,((jI hw hC).drop off).take _,hm h1 ((eI.drop off).take _)⟩
  |ff id off m sz=>
   change (match h.aL.get id with|some cs=>(match cs.lG off (Nat.mul m sz)with|some l=>(match mapA (tY n h) l with|some l=>some (AV.kX m l)|none=>none)|none=>none)|none=>none)=some a' at e
   cases h0:h.aL.get id with
   |none=>rw[h0]at e;cases e
   |some cs=>
   rw[h0]at e
   simp only at e
   cases hs:cs.lG off (Nat.mul m sz)with
   |none=>rw[hs]at e;cases e
   |some l=>
   rw[hs]at e
   simp only at e
   cases h1:mapA (tY n h) l with
   |none=>rw[h1]at e;cases e
   |some l'=>
    rw[h1]at e
    cases e
    obtain⟨rfl,hlen,_⟩:=mu hs
    simp only[VR]at hv ⊢
    rcases hv with⟨rfl,x,rfl⟩|⟨b,s,cap,hmm,rfl,hle,_⟩
    ·refine⟨x,0,rfl,Nat.le_refl _,.inl ⟨rfl,?_⟩⟩
     have hz:Nat.mul 0 sz=0:=Nat.zero_mul sz
     rw[hz]at h1
     simp only[List.take_zero]at h1
     cases h1
     rfl
    ·obtain⟨C,el,vs,hw,_,eI,hC⟩:=H.row h0 hmm
     exact⟨_,cap,rfl,hle,.inr ⟨b,s+off,(vs.drop off).take (Nat.mul m sz),rfl,ho b ⟨id,cs,s,h0,hmm⟩,((jI hw hC).drop off).take _,hm h1 ((eI.drop off).take _)⟩⟩
mutual
def qd:AV->Bool
 | .agg l=>pE l
 | .wm l=>pE l
 | .kX _ l=>pE l
 | .jy l=>pE l
 | .fn _ l=>pE l
 | .ref _ _=>false
 | .ff _ _ _ _=>false
 | _=>true
def pE:List AV->Bool
 | []=>true
 |a::l=>qd a&&pE l
end
mutual
theorem VR.qd{g:G}{w:World}: ∀ (a:AV) (v:Value),qd a=true->VR g w a v->VR (gE g.fw) w a v
 | .int _ _,v,n,r=>by simpa only[VR]using r
 | .bool _,v,n,r=>by simpa only[VR]using r
 | .sc _,v,n,r=>by simpa only[VR]using r
 | .fm,v,n,r=>by simpa only[VR]using r
 | .p',v,n,r=>by simpa only[VR]using r
 | .any,v,n,r=>by simpa only[VR]using r
 | .sym _ _ _ _ _,v,n,r=>by simpa only[VR]using r
 | .ref _ _,v,n,r=>by cases n
 | .ff _ _ _ _,v,n,r=>by cases n
 | .agg cs,v,n,r=>by
  simp only[VR]at r ⊢
  obtain⟨vs,e,q⟩:=r
  exact⟨vs,e,bD.qd cs _ n q⟩
 | .wm cs,v,n,r=>by
  simp only[VR]at r ⊢
  obtain⟨vs,e,q⟩:=r
  exact⟨vs,e,bD.qd cs _ n q⟩
 | .fn f cs,v,n,r=>by
  simp only[VR]at r ⊢
  obtain⟨vs,e,q⟩:=r
  exact⟨vs,e,bD.qd cs _ n q⟩
 | .kX m cs,v,n,r=>by
  simp only[VR]at r ⊢
  obtain⟨a,cap,e,l,r⟩:=r
  refine⟨a,cap,e,l,?_⟩
  rcases r with r|⟨b,o,vs,e,i,c,q⟩
  ·exact .inl r
  ·exact .inr ⟨b,o,vs,e,i,c,bD.qd cs _ n q⟩
 | .jy cs,v,n,r=>by
  simp only[VR]at r ⊢
  obtain⟨b,o,vs,e,i,c,q⟩:=r
  exact⟨b,o,vs,e,i,c,bD.qd cs _ n q⟩
theorem bD.qd{g:G}{w:World}: ∀ (l:List AV) (vs:List Value),pE l=true->bD g w l vs->bD (gE g.fw) w l vs
 | [],vs,n,r=>by simpa only[bD]using r
 |a::l,vs,n,r=>by
  simp only[pE,Bool.and_eq_true]at n
  simp only[bD]at r ⊢
  obtain⟨v,l',e,q,r⟩:=r
  exact⟨v,l',e,VR.qd a v n.1 q,bD.qd l l' n.2 r⟩
end
def dL(P:Program)(f:FuncId)(args:List AV)(v:AV):Prop:=
 (∀ as w,(callFunc f as).run P w=.ok (.enter f as) w)/\ ∀ (g:G) (w:World) (vs:List Value),(∀ b,g.fw b->b<w.heap.size)->nJ g w->bD g w args vs->
  Calls P f vs.toArray w fun e w'=> ∃ x,e=.returned x/\Jh w w'/\VR (gE fun b=>w.heap.size<=b/\b<w'.heap.size) w' v x
def ah6(r:Ro):Option AV:=Ro.rec none (fun v h=>tY 8 h v) r
theorem Ji{P:Program}{call:cX}(hc:eQ P call){f:FuncId}{args:List AV}{v':AV}(e:ah6 (call f args (fR 0))=some v')(ha:pE args=true):dL P f args v':=by
 cases hr:call f args (fR 0)with
 |bad=>rw[hr]at e;cases e
 |ok v h'=>
 rw[hr]at e
 have hf:tY 8 h' v=some v':=e
 obtain⟨hen,Aa⟩:=hc f args (fR 0) v h' hr
 refine⟨hen,fun g w vs hi ht hv=>(Aa (gE g.fw) w vs (C8 hi ht) (bD.qd _ _ ha hv)).mono ?_⟩
 rintro e w' ⟨x,g',rfl,E,H',hx⟩
 refine⟨x,rfl,Hl E,RK H' (fun b k=>?_) 8 v v' x hf hx⟩
 rcases E.n5 b k with⟨id,cs,s,e,_⟩|k1
 ·cases e
 ·obtain⟨id,cs,s,e,m⟩:=k
  obtain⟨_,_,_,hw,_⟩:=H'.row e m
  exact⟨k1,(Array.getElem?_eq_some_iff.1 hw).1⟩
end Go.Ab

noncomputable section
namespace Go.Ab
inductive Od where
 |t (i:Nat)
 |c (v:AV)
 |zz
 |w (o:Od)
inductive BF where
 |add|sub|mul|quo|rem|and|or|xor|andNot|shl|shr|lss|leq|gtr|geq
 |eqI (neg:Bool)|eqB (neg:Bool)|Qt (neg:Bool)|eqP (neg:Bool)|eqN (neg:Bool)|mX (neg:Bool) (l:List Bool)
inductive UF where
 |not|neg|xor|int (k:IntKind)
inductive ku where
 |mv (a:Od)|pk (c a b:Od)|nw (cs:List AV)|bx (a:Od)|bd (z:List AV) (ps:List (Nat×Nat×Od))|rw(n sz:Nat) (z:List AV) (ps:List (Nat×Od))
 |ld (sz:Nat) (agg:Bool) (a:Od)|sto (sz:Nat) (a b:Od)|nl (a:Od)|bn (f:BF) (a b:Od)|un (f:UF) (a:Od)|bys (a:Od)|bs (a:Od)|fn (f:FuncId) (cap:List Od)
 |mk (size bytes:Nat) (zero:List AV) (l c:Od)|slS (a:Od) (lo hi:Option Od)|slN (size:Nat) (a:Od) (lo hi:Option Od)|slA (n size:Nat) (a:Od) (lo hi:Option Od)
 |fa (off:Nat) (a:Od)|fd (off size:Nat) (agg:Bool) (a:Od)|ixS (size:Nat) (a i:Od)|ixA (n size:Nat) (a i:Od)|ix (n size:Nat) (agg:Bool) (a i:Od)|ixT (a i:Od)
 |ex (a:Od) (i:Nat)|lnT (a:Od)|ln (a:Od)|ap (size bytes:Nat) (s a:Od)|apZ (size bytes:Nat) (z:List AV) (s a:Od)|apS (bytes:Nat) (s a:Od)|mrk (a:Od)
 |cpy (size:Nat) (d s:Od)|emp (a b c:Od)|min (a b:Od)|max (a b:Od)|map|cap (a:Od)|bad|call (f:FuncId) (args:List Od)|callV (f:Od) (args:List Od)
 |gd (j:Od) (want:Bool) (f:ku)|mn (f:ku)
inductive zu where
 |fi
 |st (i:Nat) (f:ku) (k:zu)
 |sn (f:ku) (k:zu)
 |ck (s:Od) (f:ku) (k:zu)
inductive qe where
 |rg (r:zu)|sk|sq (a b:qe)|cif (c:Od) (a b:qe)|bl (id:Nat) (b:qe)|lp (b:qe)|ex (i:Nat)|rt|bad
structure dC where
 ntmps:Nat
 res:List RV
 code:qe
def bB(o:Od):eJ:=Od.rec (fun i=>oT i) (fun v=>oC v) oX (fun _ ih=>wO ih) o
def BF.f:BF->AV->AV->Option AV
 | .add=>bA| .sub=>fB| .mul=>mZ| .quo=>GQ| .rem=>GP| .and=>nZ| .or=>nD| .xor=>GR| .andNot=>pe| .shl=>mr| .shr=>lC
 | .lss=>a8| .leq=>hJ| .gtr=>fI| .geq=>gf
 | .eqI n=>aF n| .eqB n=>Co n| .Qt n=>zh n| .eqP n=>nX n| .eqN n=>nC n| .mX n l=>EP n l
def UF.f:UF->AV->Option AV
 | .not=>km| .neg=>Kz| .xor=>Is| .int k=>bV k
def Fw(call:cX)(o:ku):eH:=match o with
 | .mv a=>aa (bB a)| .pk c a b=>aV (bB c) (bB a) (bB b)| .nw cs=>dY cs| .bx a=>en (bB a)
 | .bd z ps=>au z (ps.map fun p=>(p.1,p.2.1,bB p.2.2))| .rw n sz z ps=>bC n sz z (ps.map fun p=>(p.1,bB p.2))
 | .ld sz agg a=>bg sz agg (bB a)| .sto sz a b=>aH sz (bB a) (bB b)| .nl a=>bq (bB a)| .bn f a b=>ah f.f (bB a) (bB b)| .un f a=>fg f.f (bB a)
 | .bys a=>pf (bB a)| .bs a=>wu (bB a)| .fn f cap=>P4 f (cap.map bB)| .mk s b z l c=>m0 s b z (bB l) (bB c)
 | .slS a lo hi=>dg (bB a) (lo.map bB) (hi.map bB)| .slN s a lo hi=>cK s (bB a) (lo.map bB) (hi.map bB)| .slA n s a lo hi=>iO n s (bB a) (lo.map bB) (hi.map bB)
 | .fa off a=>ab off (bB a)| .fd off s g a=>nI off s g (bB a)| .ixS s a i=>bG s (bB a) (bB i)| .ixA n s a i=>rK n s (bB a) (bB i)| .ix n s g a i=>kZ n s g (bB a) (bB i)| .ixT a i=>cq (bB a) (bB i)
 | .ex a i=>aS (bB a) i| .lnT a=>jU (bB a)| .ln a=>aW (bB a)| .ap s b x y=>aO s b (bB x) (bB y)| .apZ s b z x y=>rY s b z (bB x) (bB y)| .apS b x y=>tx b (bB x) (bB y)
 | .mrk a=>rZ (bB a)| .cpy s d a=>jV s (bB d) (bB a)| .emp a b c=>xr (bB a) (bB b) (bB c)| .min a b=>AH (bB a) (bB b)| .max a b=>AJ (bB a) (bB b)| .map=>It| .cap a=>tv (bB a)| .bad=>bE
 | .call f args=>an call f (args.map bB)| .callV f args=>iy call (bB f) (args.map bB)
 | .gd j want f=>gF (bB j) want (Fw call f)| .mn f=>mn (Fw call f)
def Kn(call:cX)(r:zu):mV:=
 zu.rec Go.Ab.fi (fun i f _ ih=>st (sT i) (Fw call f) ih) (fun f _ ih=>sn (Fw call f) ih) (fun s f _ ih=>ck (bB s) (Fw call f) ih) r
def gy(call:cX)(n:Nat)(c:qe):ze:=
 qe.rec (fun r=>ai (Kn call r)) bR (fun _ _ a b=>af a b) (fun c _ _ a b=>bu (bB c) a b) (fun id _ b=>dn id b) (fun _ b=>iP n b) (fun i=>jk i) cD Cr c
def dC.fb(b:dC):Fb:=⟨b.ntmps,b.res,fun call n=>gy call n b.code⟩
namespace X
abbrev oC(v:AV):Od:=.c v
abbrev oT(i:Nat):Od:=.t i
abbrev oX:Od:=.zz
abbrev wO(o:Od):Od:=.w o
abbrev aa:=ku.mv
abbrev aV:=ku.pk
abbrev dY:=ku.nw
abbrev en:=ku.bx
abbrev au:=ku.bd
abbrev bC:=ku.rw
abbrev bg:=ku.ld
abbrev aH:=ku.sto
abbrev bq:=ku.nl
abbrev ah:=ku.bn
abbrev fg:=ku.un
abbrev pf:=ku.bys
abbrev wu:=ku.bs
abbrev P4:=ku.fn
abbrev m0:=ku.mk
abbrev dg:=ku.slS
abbrev cK:=ku.slN
abbrev iO:=ku.slA
abbrev ab:=ku.fa
abbrev nI:=ku.fd
abbrev bG:=ku.ixS
abbrev rK:=ku.ixA
abbrev kZ:=ku.ix
abbrev cq:=ku.ixT
abbrev aS:=ku.ex
abbrev jU:=ku.lnT
abbrev aW:=ku.ln
abbrev aO:=ku.ap
abbrev rY:=ku.apZ
abbrev tx:=ku.apS
abbrev rZ:=ku.mrk
abbrev jV:=ku.cpy
abbrev xr:=ku.emp
abbrev AH:=ku.min
abbrev AJ:=ku.max
abbrev It:=ku.map
abbrev tv:=ku.cap
abbrev bE:=ku.bad
abbrev an(_:Unit)(f:FuncId)(args:List Od):=ku.call f args
abbrev iy(_:Unit)(f:Od)(args:List Od):=ku.callV f args
abbrev gF:=ku.gd
abbrev mn:=ku.mn
abbrev fi:=zu.fi
abbrev st:=zu.st
abbrev sn:=zu.sn
abbrev ck:=zu.ck
abbrev ai:=qe.rg
abbrev bR:=qe.sk
abbrev af:=qe.sq
abbrev bu:=qe.cif
abbrev dn:=qe.bl
abbrev iP(_:Unit)(b:qe):=qe.lp b
abbrev jk:=qe.ex
abbrev cD:=qe.rt
abbrev Cr:=qe.bad
abbrev bA:=BF.add
abbrev fB:=BF.sub
abbrev mZ:=BF.mul
abbrev GQ:=BF.quo
abbrev GP:=BF.rem
abbrev nZ:=BF.and
abbrev nD:=BF.or
abbrev GR:=BF.xor
abbrev pe:=BF.andNot
abbrev mr:=BF.shl
abbrev lC:=BF.shr
abbrev a8:=BF.lss
abbrev hJ:=BF.leq
abbrev fI:=BF.gtr
abbrev gf:=BF.geq
abbrev aF:=BF.eqI
abbrev Co:=BF.eqB
abbrev zh:=BF.Qt
abbrev nX:=BF.eqP
abbrev nC:=BF.eqN
abbrev EP:=BF.mX
abbrev km:=UF.not
abbrev Kz:=UF.neg
abbrev Is:=UF.xor
abbrev bV:=UF.int
abbrev bP(n:Nat)(r:List RV)(b:Unit->Unit->qe):dC:=⟨n,r,b () ()⟩
end X
end Go.Ab

noncomputable section
namespace Go.Ab
namespace Lf
inductive Ty where
 |int (k:IntKind)|bool|str|ae (t:Ty)|pair (a b:Ty)
@[reducible] noncomputable def den(t:Ty):Type:=Ty.rec (fun _=>Int) Bool ByteArray (fun _ ih=>List ih) (fun _ _ a b=>a×b) t
def aq(t:Ty):den t:=Ty.rec (motive:=den) (fun _=>(0:Int)) false ByteArray.empty (fun _ _=>[]) (fun _ _ a b=>(a,b)) t
def size(t:Ty):Nat:=Ty.rec (motive:=fun _=>Nat) (fun _=>1) 1 1 (fun _ _=>1) (fun _ _ a b=>Nat.add a b) t
def vM:(a b:Ty)->Option (PLift (a=b))
 | .int k,.int k'=>if h:k=k' then some ⟨by rw[h]⟩else none
 | .bool,.bool=>some ⟨rfl⟩
 | .str,.str=>some ⟨rfl⟩
 | .ae a,.ae b=>match vM a b with
  |some ⟨h⟩=>some ⟨by rw[h]⟩
  |none=>none
 | .pair a b,.pair c d=>match vM a c with
  |some ⟨h⟩=>match vM b d with
   |some ⟨k⟩=>some ⟨by rw[h,k]⟩
   |none=>none
  |none=>none
 | _,_=>none
inductive Sv where
 |i (k:IntKind) (n:Int)
 |b (b:Bool)
 |a (v:AV)
 |c (m:Nat) (t:Ty) (x:den t)
 |ag (l:List Sv)
 |tu (l:List Sv)
 |fn (f:FuncId) (l:List Sv)
 |rf (r o:Nat)
 |re (r sz i o:Nat)
 |os (r sz:Nat)
 |ss (r sz off n:Nat)
 |xo (r sz off n:Nat)
 |zp (l:List Sv)
inductive Row where
 |o (g:Nat) (l:List Sv)
 |l (t:Ty) (x:List (den t))
 |zo (l:List Sv)
 |z (t:Ty) (x:List (den t))
structure Hq where
 next:Nat
 aL:Tr Row
abbrev Tq:=F8 (F8 (F8 (Option Sv)))
def Tq.at(t:Tq)(i:Nat):Option Sv:=((t.Cd (i / 64)).Cd (i / 8 % 8)).Cd (i % 8)
def Tq.put(t:Tq)(i:Nat)(v:Option Sv):Tq:=t.EE ((t.Cd (i / 64)).EE (((t.Cd (i / 64)).Cd (i / 8 % 8)).EE v (i % 8)) (i / 8 % 8)) (i / 64)
def Tq.none:Tq:=F8.all (F8.all (F8.all Option.none))
inductive T (α:Type) where
 |bad
 |ok (a:α)
 |br (c:Bool) (a b:T α)
 |ck (c:Bool) (a:T α)
def T.val{α:Type}(x:T α):Option α:=T.rec (motive:=fun _=>Option α) none (fun a=>some a) (fun c _ _ a b=>bif c then a else b) (fun c _ a=>bif c then a else none) x
def T.bd{α β:Type}(x:T α)(f:α->T β):T β:=T.rec (motive:=fun _=>T β) .bad (fun a=>f a) (fun c _ _ a b=>.br c a b) (fun c _ a=>.ck c a) x
def T.of{α:Type}:Option α->T α
 |some a=>.ok a
 |none=>.bad
inductive LB where
 |l (b:Bool)
 |t (b:Bool)
def LB.v:LB->Bool
 | .l b=>b
 | .t b=>b
def LB.and:LB->LB->LB
 | .l true,y=>y
 | .l false,_=>.l false
 | .t _,.l false=>.l false
 | .t a,.l true=>.t a
 | .t a,.t b=>.t (a&&b)
def ckL{α:Type}(c:LB)(x:T α):T α:=match c with
 | .l true=>x
 | .l false=>.bad
 | .t b=>.ck b x
def svB:LB->Sv
 | .l b=>.b b
 | .t b=>.c 0 .bool b
def Sv.cells:Sv->List Sv
 | .ag l=>l
 |w=>[w]
def Da:Sv->Bool
 | .ag _| .tu _=>false
 | _=>true
def Vu:AV->Bool
 | .sc _| .fm| .p'| .any=>true
 | _=>false
def ofA:AV->Option Sv
 | .int k n=>some (.i k n)
 | .bool b=>some (.b b)
 | .sc v=>some (.a (.sc v))
 | .fm=>some (.a .fm)
 | .p'=>some (.a .p')
 | .wm []=>some (.tu [])
 | .fn f []=>some (.fn f [])
 | _=>none
def Jj(l:List AV):Option (List Sv):=List.rec (some []) (fun a _ ih=>match ofA a with
 |some b=>match ih with
  |some r=>some (b::r)
  |none=>none
 |none=>none) l
def jS(o:Od)(t:Tq):Option Sv:=match o with
 | .t i=>bif Nat.blt i 512 then t.at i else none
 | .c v=>ofA v
 | _=>none
def opw(o:Od)(t:Tq):Option Sv:=match o with
 | .w o=>jS o t
 | _=>none
def Mb(l:List Od)(t:Tq):Option (List Sv):=List.rec (some []) (fun o _ ih=>match jS o t with
 |some v=>match ih with
  |some vs=>some (v::vs)
  |none=>none
 |none=>none) l
def toN:Sv->Option (IntKind×Int)
 | .i k n=>some (k,n)
 | .c _ (.int k) x=>some (k,x)
 | _=>none
def toB:Sv->Option LB
 | .b b=>some (.l b)
 | .c _ .bool x=>some (.t x)
 | _=>none
def toS:Sv->Option (Bool×ByteArray)
 | .a (.sc (.string s))=>some (true,s)
 | .c _ .str x=>some (false,x)
 | _=>none
def cr(k:IntKind)(a b:Int):Int:=eX k (a+b)
def bN(k:IntKind)(a b:Int):Int:=eX k (a - b)
def xX(k:IntKind)(a b:Int):Int:=eX k (a*b)
def ah7(k:IntKind)(a b:Int):Int:=eX k (Int.tdiv a b)
def ah8(_k:IntKind)(a b:Int):Int:=Int.tmod a b
def intOf:Option AV->Int
 |some (.int _ n)=>n
 | _=>0
def Xu(k:IntKind)(a b:Int):Int:=intOf (Qp (.int k a) (.int k b))
def Mc(k:IntKind)(a b:Int):Int:=intOf (bOr (.int k a) (.int k b))
def ah9(k:IntKind)(a b:Int):Int:=intOf (Qq (.int k a) (.int k b))
def RL(k:IntKind)(a b:Int):Int:=intOf (pe (.int k a) (.int k b))
def acz(k:IntKind)(a b:Int):Int:=intOf (EM (.int k a) (.int .u64 b))
def rO(k:IntKind)(a b:Int):Int:=intOf (EN (.int k a) (.int .u64 b))
def acA(k:IntKind)(a:Int):Int:=eX k (0 - a)
def acB(k:IntKind)(a:Int):Int:=intOf (Is (.int k a))
def bf(k:IntKind)(a:Int):Int:=eX k a
inductive Cls where
 |ar (f:IntKind->Int->Int->Int)
 |dv (f:IntKind->Int->Int->Int)
 |sh (f:IntKind->Int->Int->Int)
 |cm (f:Int->Int->Bool)
 |no
def Md:BF->Cls
 | .add=>.ar cr| .sub=>.ar bN| .mul=>.ar xX| .and=>.ar Xu| .or=>.ar Mc| .xor=>.ar ah9| .andNot=>.ar RL
 | .quo=>.dv ah7| .rem=>.dv ah8| .shl=>.sh acz| .shr=>.sh rO
 | .lss=>.cm fun a b=>decide (a<b)| .leq=>.cm fun a b=>decide (a<=b)| .gtr=>.cm fun a b=>decide (b<a)| .geq=>.cm fun a b=>decide (b<=a)
 | .eqI neg=>.cm (match neg with|false=>fun a b=>decide (a=b)|true=>fun a b=> !decide (a=b))
 | _=>.no
def Me:Sv->Bool
 | .i _ _=>true
 | _=>false
def RM(i:Bool)(x y:Sv):Option LB:=match i with
 |true=>match x,y with
  | .i k a,.i k' b=>bif jv k k' then some (.l (eqI a b))else none
  |x,y=>match toN x,toN y with
   |some (k,a),some (k',b)=>bif jv k k' then some (.t (decide (a=b)))else none
   | _,_=>none
 |false=>match toB x,toB y with
  |some (.l a),some (.l b)=>some (.l (!(xor a b)))
  |some a,some b=>some (.t (!(xor a.v b.v)))
  | _,_=>none
def Xv(l:List Bool):List Sv->List Sv->Option LB:=
 List.rec (fun _ _=>some (.l true)) (fun i _ ih xs ys=>match xs,ys with
  |x::xs,y::ys=>match RM i x y with
   |some c=>match ih xs ys with
    |some d=>some (c.and d)
    |none=>none
   |none=>none
  | _,_=>none) l
def Xw(neg:Bool)(c:LB):LB:=match neg,c with
 |false,c=>c
 |true,.l b=>.l (!b)
 |true,.t b=>.t (!b)
def Mf:Sv->Bool
 | .rf _ _| .re _ _ _ _| .zp _=>true
 | _=>false
def Xx(f:BF)(x y:Sv):T Sv:=match x,y with
 | .i k a,.i k' b=>(match f.f (.int k a) (.int k' b)with
  |some (.int k r)=>.ok (.i k r)
  |some (.bool r)=>.ok (.b r)
  | _=>.bad)
 |x,y=>match toN x,toN y with
  |some (k,a),some (k',b)=>(match Md f with
   | .ar g=>bif jv k k' then .ok (.c 0 (.int k) (g k a b))else .bad
   | .dv g=>bif jv k k' then(bif Me y then(bif eqI b 0 then .bad else .ok (.c 0 (.int k) (g k a b)))else .ck (!decide (b=0)) (.ok (.c 0 (.int k) (g k a b))))else .bad
   | .sh g=>(bif Me y then(bif kV b 0 then .bad else .ok (.c 0 (.int k) (g k a b)))else .ck (decide (0<=b)) (.ok (.c 0 (.int k) (g k a b))))
   | .cm g=>bif jv k k' then .ok (.c 0 .bool (g a b))else .bad
   | .no=>.bad)
  | _,_=>.bad
def Xy(f:BF)(x y:Sv):T Sv:=match f with
 | .eqB neg=>match toB x,toB y with
  |some (.l a),some (.l b)=>.ok (.b (bif neg then xor a b else !(xor a b)))
  |some a,some b=>.ok (.c 0 .bool (match neg with|true=>xor a.v b.v|false=> !(xor a.v b.v)))
  | _,_=>.bad
 | .Qt neg=>match toS x,toS y with
  |some (true,a),some (true,b)=>.ok (.b (bif neg then !(eqStr a b)else eqStr a b))
  |some (_,a),some (_,b)=>.ok (.c 0 .bool (match neg with|true=> !(eqStr a b)|false=>eqStr a b))
  | _,_=>.bad
 | .eqP neg=>match x,y with
  | .a (.sc (.pointer none)),.a (.sc (.pointer none))=>.ok (.b (!neg))
  | .a (.sc (.pointer none)),y=>bif Mf y then .ok (.b neg)else .bad
  |x,.a (.sc (.pointer none))=>bif Mf x then .ok (.b neg)else .bad
  | _,_=>.bad
 | .eqN neg=>match x,y with
  | .a v,.a w=>bif isNil w then(match AG v with
   |some b=>.ok (.b (bif neg then !b else b))
   |none=>.bad)else .bad
  | .xo _ _ _ _,.a w=>bif isNil w then .ok (.b neg)else .bad
  | .c _ (.ae _) x,.a w=>bif isNil w then .ck (!(Nat.beq x.length 0)) (.ok (.b neg))else .bad
  | _,_=>.bad
 | .mX neg l=>match x,y with
  | .ag xs,.ag ys=>match Xv l xs ys with
   |some c=>.ok (svB (Xw neg c))
   |none=>.bad
  | _,_=>.bad
 |f=>Xx f x y
def Xz(f:UF)(x:Sv):Option Sv:=match f with
 | .not=>match toB x with
  |some (.l b)=>some (.b (!b))
  |some (.t b)=>some (.c 0 .bool (!b))
  |none=>none
 | .neg=>match x with
  | .i k n=>some (.i k (acA k n))
  | .c _ (.int k) n=>some (.c 0 (.int k) (acA k n))
  | _=>none
 | .xor=>match x with
  | .i k n=>some (.i k (acB k n))
  | .c _ (.int k) n=>some (.c 0 (.int k) (acB k n))
  | _=>none
 | .int k=>match x with
  | .i _ n=>some (.i k (bf k n))
  | .c _ (.int _) n=>some (.c 0 (.int k) (bf k n))
  | _=>none
def nL(t:Ty):den t->List Sv:=
 Ty.rec (motive:=fun t=>den t->List Sv) (fun k x=>[.c 0 (.int k) x]) (fun x=>[.c 0 .bool x]) (fun x=>[.c 0 .str x]) (fun t _ x=>[.c 0 (.ae t) x]) (fun _ _ sB xm x=>app (sB x.1) (xm x.2)) t
def acC(l:List Sv)(off n:Nat):Option (List Sv):=match tk n (dp off l)with
 |r=>bif Nat.beq (len r) n then some r else none
def xY(agg:Bool)(l:List Sv)(off sz:Nat):Option Sv:=match acC l off sz with
 |none=>none
 |some r=>bif agg then some (.ag r)else match r with
  | [c]=>some c
  | _=>none
def lL(l:List Sv)(off:Nat)(new:List Sv):List Sv:=app (tk off l) (app new (dp (Nat.add off (len new)) l))
def Be(l:List (Nat×Nat×Sv)):List Sv->Option (List Sv):=
 List.rec (fun cells=>some cells) (fun p _ ih cells=>
  bif Nat.beq (len p.2.2.cells) p.2.1&&Nat.ble (Nat.add p.1 p.2.1) (len cells)then ih (lL cells p.1 p.2.2.cells)else none) l
def Bf(l:List (Nat×Nat×Od))(t:Tq):Option (List (Nat×Nat×Sv)):=
 List.rec (some []) (fun p _ ih=>match jS p.2.2 t with
  |some v=>match ih with
   |some vs=>some ((p.1,p.2.1,v)::vs)
   |none=>none
  |none=>none) l
def Bg(l:List (Nat×Od))(t:Tq):Option (List (Nat×Sv)):=
 List.rec (some []) (fun p _ ih=>match jS p.2 t with
  |some v=>match ih with
   |some vs=>some ((p.1,v)::vs)
   |none=>none
  |none=>none) l
def xZ(size:Nat)(l:List (Nat×Sv)):Nat->Option (List Sv):=
 List.rec (fun _=>some []) (fun p _ ih i=>
  bif Nat.beq p.1 i&&Nat.beq (len p.2.cells) size then(match ih (Nat.add i 1)with|some r=>some (app p.2.cells r)|none=>none)else none) l
def XA(n:Nat)(z:List Sv):List Sv:=Nat.rec [] (fun _ ih=>app z ih) n
def Bh(size:Nat)(l:List (Nat×Sv)):List (Nat×Nat×Sv):=List.rec [] (fun p _ ih=>(Nat.mul p.1 size,size,p.2)::ih) l
def Db(n size:Nat)(zero:List Sv)(l:List (Nat×Sv)):Option (List Sv):=
 match bif Nat.beq (len l) n then xZ size l 0 else none with
 |some cs=>some cs
 |none=>Be (Bh size l) (XA n zero)
def eK(h:Hq)(r:Row):Hq:=⟨Nat.add h.next 1,h.aL.set h.next (some r)⟩
def jo(h:Hq)(id:Nat)(r:Option Row):Hq:=⟨h.next,h.aL.set id r⟩
def rdS(t:Ty)(f:List Sv->Hq->Option (den t×List Sv×Hq))(n:Nat):List Sv->Hq->Option (List (den t)×Hq):=
 Nat.rec (fun _ h=>some ([],h)) (fun _ ih l h=>match f l h with
  |some (x,r,h)=>match ih r h with
   |some (xs,h)=>some (x::xs,h)
   |none=>none
  |none=>none) n
def Vv(t:Ty)(f:List Sv->Hq->Option (den t×List Sv×Hq))(n off:Nat)(l:List Sv)(h:Hq):Option (List (den t)×Hq):=bif Nat.ble off (len l)then rdS t f n (dp off l) h else none
def dH:AV->Bool
 | .fm=>true
 |a=>sA a
def asL(t:Ty)(f:List Sv->Hq->Option (den t×List Sv×Hq))(v:Sv)(h:Hq):Option (List (den t)×Hq):=match v with
 | .a w=>bif dH w then some ([],h)else none
 | .c _ (.ae t') x=>match vM t' t with
  |some ⟨e⟩=>some (e▸x,h)
  |none=>none
 | .os r _=>match h.aL.get r with
  |some (.l t' x)=>(match vM t' t with
   |some ⟨e⟩=>some (e▸x,jo h r (some (.z t' x)))
   |none=>none)
  |some (.z t' x)=>(match vM t' t with
   |some ⟨e⟩=>some (e▸x,h)
   |none=>none)
  | _=>none
 | .ss r _ off n=>match h.aL.get r with
  |some (.l t' x)=>(match vM t' t with
   |some ⟨e⟩=>some (((e▸x:List (den t)).drop off).take n,jo h r (some (.z t' x)))
   |none=>none)
  |some (.z t' x)=>(match vM t' t with
   |some ⟨e⟩=>some (((e▸x:List (den t)).drop off).take n,h)
   |none=>none)
  | _=>none
 | .xo r sz off n=>bif Nat.beq sz (size t)then(match h.aL.get r with
  |some (.o _ l)=>Vv t f n off l (jo h r (some (.zo l)))
  |some (.zo l)=>Vv t f n off l h
  | _=>none)else none
 | _=>none
def Vw(t:Ty):List Sv->Hq->Option (den t×List Sv×Hq):=
 Ty.rec (motive:=fun t=>List Sv->Hq->Option (den t×List Sv×Hq))
  (fun k l h=>match l with
   |v::r=>match toN v with
    |some (k',n)=>bif jv k k' then some (n,r,h)else none
    |none=>none
   | []=>none)
  (fun l h=>match l with
   |v::r=>match toB v with
    |some b=>some (b.v,r,h)
    |none=>none
   | []=>none)
  (fun l h=>match l with
   |v::r=>match toS v with
    |some (_,s)=>some (s,r,h)
    |none=>none
   | []=>none)
  (fun t ih l h=>match l with
   |v::r=>match asL t ih v h with
    |some (x,h)=>some (x,r,h)
    |none=>none
   | []=>none)
  (fun _ _ sB xm l h=>match sB l h with
   |some (x,r,h)=>match xm r h with
    |some (y,r,h)=>some ((x,y),r,h)
    |none=>none
   |none=>none) t
def lst(t:Ty)(v:Sv)(h:Hq):Option (List (den t)×Hq):=asL t (Vw t) v h
def acD(v:Sv)(h:Hq):Option Ty:=match v with
 | .c _ (.ae t) _=>some t
 | .os r _=>match h.aL.get r with
  |some (.l t _)=>some t
  |some (.z t _)=>some t
  | _=>none
 | .ss r _ _ _=>match h.aL.get r with
  |some (.l t _)=>some t
  |some (.z t _)=>some t
  | _=>none
 | _=>none
def XB(v:Sv)(h:Hq):Option Sv:=match v with
 | .a w=>bif dH w then some (.i .i64 0)else none
 | .c _ (.ae _) x=>some (.c 0 (.int .i64) (Int.ofNat x.length))
 | .os r _=>match h.aL.get r with
  |some (.l _ x)=>some (.c 0 (.int .i64) (Int.ofNat x.length))
  |some (.z _ x)=>some (.c 0 (.int .i64) (Int.ofNat x.length))
  | _=>none
 | .ss _ _ _ n=>some (.c 0 (.int .i64) (Int.ofNat n))
 | .xo _ _ _ n=>some (.i .i64 (.ofNat n))
 | _=>none
end Lf
end Go.Ab

noncomputable section
namespace Go.Ab
namespace Lf
abbrev OpR:=T (Sv×Tq×Hq)
abbrev fh:=Tq->Hq->OpR
abbrev eL:=FuncId->List Sv->Hq->T (Sv×Hq)
def okV(v:Sv)(t:Tq)(h:Hq):OpR:=.ok (v,t,h)
def okO(v:Option Sv)(t:Tq)(h:Hq):OpR:=match v with
 |some v=>.ok (v,t,h)
 |none=>.bad
def qK:Sv:=.tu []
def x'(x:Od):fh:=fun t h=>okO (jS x t) t h
def sK{α:Type}(j:Od)(t:Tq)(a b:Tq->T α):T α:=match j with
 | .t i=>bif Nat.blt i 512 then(match t.at i with
  |some (.b c)=>bif c then a t else b t
  |some (.c _ .bool x)=>.br x (a (t.put i (some (.b true)))) (b (t.put i (some (.b false))))
  | _=>.bad)else .bad
 | .c (.bool c)=>bif c then a t else b t
 | _=>.bad
def Vx(c a b:Od):fh:=fun t h=>sK c t (fun t=>x' a t h) (fun t=>x' b t h)
def XC(cs:List AV):fh:=fun t h=>match Jj cs with|some l=>okV (.rf h.next 0) t (eK h (.o 0 l))|none=>.bad
def XD(a:Od):fh:=fun t h=>match jS a t with|some v=>okV (.rf h.next 0) t (eK h (.o 0 v.cells))|none=>.bad
def Fx(z:List AV)(ps:List (Nat×Nat×Od)):fh:=fun t h=>match Jj z with
 |some z=>match Bf ps t with
  |some vs=>match Be vs z with
   |some cs=>okV (.ag cs) t h
   |none=>.bad
  |none=>.bad
 |none=>.bad
def XE(n sz:Nat)(z:List AV)(ps:List (Nat×Od)):fh:=fun t h=>match Bg ps t with
 |some vs=>bif Nat.beq n 0 then(match vs with| []=>okV (.a .p') t h| _=>.bad)else(match Jj z with
  |some z=>match Db n sz z vs with
   |some cs=>bif cf Da cs&&(Nat.blt 0 sz&&Nat.beq (len cs) (Nat.mul n sz))then okV (.xo h.next sz 0 n) t (eK h (.o 0 cs))else .bad
   |none=>.bad
  |none=>.bad)
 |none=>.bad
def Mg(h:Hq)(r sz i:Nat):Option (List Sv):=match h.aL.get r with
 |some (.l t x)=>bif Nat.beq sz (size t)then some (nL t (x.getD i (aq t)))else none
 |some (.z t x)=>bif Nat.beq sz (size t)then some (nL t (x.getD i (aq t)))else none
 | _=>none
def ya(h:Hq)(r:Nat):Option (List Sv):=match h.aL.get r with
 |some (.o _ l)=>some l
 |some (.zo l)=>some l
 | _=>none
def Aj(sz:Nat)(agg:Bool)(a:Sv)(h:Hq):Option Sv:=bif Nat.blt 0 sz then(match a with
 | .rf r o=>match ya h r with
  |some l=>xY agg l o sz
  |none=>none
 | .re r s i o=>match Mg h r s i with
  |some l=>xY agg l o sz
  |none=>none
 | .zp l=>xY agg l 0 sz
 | _=>none)else none
def Hn(sz:Nat)(agg:Bool)(a:Od):fh:=fun t h=>match jS a t with
 |some p=>okO (Aj sz agg p h) t h
 |none=>.bad
def Fy(sz:Nat)(a b:Od):fh:=fun t h=>match jS b t with
 |some v=>bif Nat.beq (len v.cells) sz&&cf Da v.cells then(match jS a t with
  |some (.rf r o)=>match h.aL.get r with
   |some (.o g l)=>bif Nat.ble (Nat.add o (len v.cells)) (len l)then okV qK t (jo h r (some (.o g (lL l o v.cells))))else .bad
   | _=>.bad
  |some (.re r s i o)=>match h.aL.get r with
   |some (.l ty x)=>bif Nat.beq s (size ty)&&Nat.ble (Nat.add o (len v.cells)) s then(match Vw ty (lL (nL ty (x.getD i (aq ty))) o v.cells) h with
    |some (y,[],h')=>(match h'.aL.get r with
     |some (.l _ _)=>okV qK t (jo h' r (some (.l ty (x.set i y))))
     | _=>.bad)
    | _=>.bad)else .bad
   | _=>.bad
  | _=>.bad)else .bad
 |none=>.bad
def Ho(a:Od):fh:=fun t h=>match jS a t with
 |some (.rf r o)=>okV (.rf r o) t h
 |some (.re r s i o)=>okV (.re r s i o) t h
 |some (.zp c)=>okV (.zp c) t h
 |some (.fn f c)=>okV (.fn f c) t h
 | _=>.bad
def RO(f:BF)(a b:Od):fh:=fun t h=>match jS a t with
 |some x=>match jS b t with
  |some y=>(Xy f x y).bd fun v=>okV v t h
  |none=>.bad
 |none=>.bad
def sUn(f:UF)(a:Od):fh:=fun t h=>match jS a t with
 |some x=>okO (Xz f x) t h
 |none=>.bad
def sFn(f:FuncId)(cap:List Od):fh:=fun t h=>match Mb cap t with
 |some vs=>okV (.fn f vs) t h
 |none=>.bad
def pF(off:Nat)(a:Od):fh:=fun t h=>match jS a t with
 |some (.rf r o)=>okV (.rf r (Nat.add o off)) t h
 |some (.re r s i o)=>okV (.re r s i (Nat.add o off)) t h
 |some (.zp l)=>bif Nat.ble off (len l)then okV (.zp (dp off l)) t h else .bad
 | _=>.bad
def Bi(off size:Nat)(agg:Bool)(a:Od):fh:=fun t h=>match jS a t with
 |some (.ag cs)=>okO (xY agg cs off size) t h
 | _=>.bad
def bm(i n:Int):Bool:=decide (0<=i)&&decide (i<n)
def RP(size:Nat)(a i:Od):fh:=fun t h=>match jS i t with
 |some iv=>match toN iv with
  |some (_,n)=>match jS a t with
   |some (.os r s)=>match h.aL.get r with
    |some (.l _ x)=>bif Nat.beq s size then .ck (bm n (Int.ofNat x.length)) (okV (.re r s n.toNat 0) t h)else .bad
    |some (.z _ x)=>bif Nat.beq s size then .ck (bm n (Int.ofNat x.length)) (okV (.re r s n.toNat 0) t h)else .bad
    | _=>.bad
   |some (.ss r s off m)=>bif Nat.beq s size then .ck (bm n (Int.ofNat m)) (okV (.re r s (off+n.toNat) 0) t h)else .bad
   |some (.xo r s off m)=>match iv with
    | .i _ (.ofNat k)=>bif Nat.beq s size&&Nat.blt k m then okV (.rf r (Nat.add off (Nat.mul k s))) t h else .bad
    | _=>.bad
   |some (.c _ (.ae ty) x)=>bif Nat.beq size (Lf.size ty)then .ck (bm n (Int.ofNat x.length)) (okV (.zp (nL ty (x.getD n.toNat (aq ty)))) t h)else .bad
   | _=>.bad
  |none=>.bad
 |none=>.bad
def RQ(n size:Nat)(a i:Od):fh:=fun t h=>match jS i t with
 |some (.i _ (.ofNat k))=>bif Nat.blt k n then(match jS a t with
  |some (.rf r o)=>okV (.rf r (Nat.add o (Nat.mul k size))) t h
  |some (.zp l)=>bif Nat.ble (Nat.mul k size) (len l)then okV (.zp (dp (Nat.mul k size) l)) t h else .bad
  | _=>.bad)else .bad
 | _=>.bad
def FA(k:IntKind)(l:List Sv):Option (List Int):=List.rec (some []) (fun v _ ih=>match toN v with
 |some (k',n)=>bif jv k k' then(match ih with
  |some r=>some (n::r)
  |none=>none)else none
 |none=>none) l
def Bj(n size:Nat)(agg:Bool)(a i:Od):fh:=fun t h=>match jS a t with
 |some (.ag cs)=>match jS i t with
  |some (.i _ (.ofNat k))=>bif Nat.blt k n then okO (xY agg cs (Nat.mul k size) size) t h else .bad
  |some (.c _ (.int _) x)=>bif agg|| !(Nat.beq size 1)then .bad else(match cs with
   |v::_=>match toN v with
    |some (k,_)=>match FA k cs with
     |some l=>bif Nat.beq (len l) n then .ck (bm x (Int.ofNat n)) (okV (.c 0 (.int k) (l.getD x.toNat 0)) t h)else .bad
     |none=>.bad
    |none=>.bad
   | []=>.bad)
  | _=>.bad
 | _=>.bad
def wZ(a i:Od):fh:=fun t h=>match jS a t with
 |some v=>match toS v with
  |some (_,s)=>match jS i t with
   |some iv=>match toN iv with
    |some (_,n)=>.ck (bm n (Int.ofNat s.size)) (okV (.c 0 (.int .u8) (Int.ofNat ((s.data.toList.getD n.toNat 0).toNat))) t h)
    |none=>.bad
   |none=>.bad
  |none=>.bad
 |none=>.bad
def Hr(a:Od):fh:=fun t h=>match jS a t with
 |some v=>match toS v with
  |some (true,s)=>okV (.i .i64 (.ofNat s.size)) t h
  |some (false,s)=>okV (.c 0 (.int .i64) (Int.ofNat s.size)) t h
  |none=>.bad
 |none=>.bad
def tZ(a:Od)(i:Nat):fh:=fun t h=>match jS a t with
 |some (.tu vs)=>okO (kY vs i) t h
 | _=>.bad
def cF(a:Od):fh:=fun t h=>match opw a t with
 |some v=>okO (XB v h) t h
 |none=>.bad
def zw(o:Option Od)(t:Tq)(d:Sv):Option (Bool×Int):=match(match o with
 |none=>some d
 |some o=>jS o t)with
 |some v=>match toN v with
  |some (_,n)=>some (Me v,n)
  |none=>none
 |none=>none
def dV(l u n:Int):Bool:=decide (0<=l)&&(decide (l<=u)&&decide (u<=n))
def ua(size:Nat)(a:Od)(lo hi:Option Od):fh:=fun t h=>match jS a t with
 |some v=>match XB v h with
  |some m=>match toN m with
   |some (_,n)=>match zw lo t (.i .i64 0)with
    |some (ll,l)=>match zw hi t m with
     |some (lu,u)=>(match v with
      | .a w=>bif sA w then .ck (dV l u n) (okV (.a w) t h)else .bad
      | .os r s=>bif Nat.beq s size then .ck (dV l u n) (okV (.ss r s l.toNat (u.toNat - l.toNat)) t h)else .bad
      | .ss r s off _=>bif Nat.beq s size then .ck (dV l u n) (okV (.ss r s (off+l.toNat) (u.toNat - l.toNat)) t h)else .bad
      | .xo r s off _=>bif (ll&&lu)&&(Nat.beq s size&&dV l u n)then okV (.xo r s (Nat.add off (Nat.mul l.toNat s)) (Nat.sub u.toNat l.toNat)) t h else .bad
      | .c _ (.ae ty) x=>bif Nat.beq size (Lf.size ty)then .ck (dV l u n) (okV (.c 0 (.ae ty) ((x.drop l.toNat).take (u.toNat - l.toNat))) t h)else .bad
      | _=>.bad)
     |none=>.bad
    |none=>.bad
   |none=>.bad
  |none=>.bad
 |none=>.bad
def ub(n size:Nat)(a:Od)(lo hi:Option Od):fh:=fun t h=>match jS a t with
 |some (.rf r o)=>match zw lo t (.i .i64 0)with
  |some (true,l)=>match zw hi t (.i .i64 (.ofNat n))with
   |some (true,u)=>match ya h r with
    |some cs=>bif Nat.ble (Nat.add o (Nat.mul n size)) (len cs)&&(dV l u (Int.ofNat n)&&Nat.blt 0 size)then okV (.xo r size (Nat.add o (Nat.mul l.toNat size)) (Nat.sub u.toNat l.toNat)) t h else .bad
    |none=>.bad
   | _=>.bad
  | _=>.bad
 | _=>.bad
def Bk(a:Od)(lo hi:Option Od):fh:=fun t h=>match jS a t with
 |some v=>match toS v with
  |some (true,s)=>match zw lo t (.i .i64 0)with
   |some (true,l)=>match zw hi t (.i .i64 (.ofNat s.size))with
    |some (true,u)=>bif dV l u (Int.ofNat s.size)then okV (.a (.sc (.string (s.extract l.toNat u.toNat)))) t h else .bad
    | _=>.bad
   | _=>.bad
  | _=>.bad
 |none=>.bad
def roomy(bytes n:Nat):Bool:=decide (n*bytes<=70368744177664)&&decide (n<=70368744177664)
def uc(v:Sv)(h:Hq):Option (Nat×List Sv):=match v with
 | .a w=>bif dH w then some (0,[])else none
 | .xo r s off n=>match ya h r with
  |some l=>bif Nat.ble (Nat.add off (Nat.mul n s)) (len l)then some (n,tk (Nat.mul n s) (dp off l))else none
  |none=>none
 | _=>none
def kill(v:Sv)(h:Hq):Option Hq:=match v with
 | .a _=>some h
 | .os r _=>match h.aL.get r with
  |some (.l _ _)=>some (jo h r none)
  | _=>none
 | .ss r _ _ _=>match h.aL.get r with
  |some (.l _ _)=>some (jo h r none)
  | _=>none
 | .xo r _ _ _=>match h.aL.get r with
  |some (.o _ _)=>some (jo h r none)
  | _=>none
 | _=>none
def Mh(t:Ty)(v:Sv)(h:Hq):Option (List (den t)×Hq):=match v with
 | .os r _=>match h.aL.get r with
  |some (.l t' x)=>match vM t' t with
   |some ⟨e⟩=>some (e▸x,h)
   |none=>none
  | _=>none
 | .ss r _ off n=>match h.aL.get r with
  |some (.l t' x)=>match vM t' t with
   |some ⟨e⟩=>some (((e▸x:List (den t)).drop off).take n,h)
   |none=>none
  | _=>none
 | .a w=>bif dH w then some ([],h)else none
 | .xo r sz off n=>match h.aL.get r with
  |some (.o _ l)=>bif Nat.beq sz (size t)then Vv t (Vw t) n off l h else none
  | _=>none
 | _=>none
def yb(t:Ty)(v:Sv)(h:Hq):Option (List (den t)×Hq):=match Mh t v h with
 |some r=>some r
 |none=>lst t v h
def XF(bytes:Nat)(t:Ty)(s:Sv)(new:List (den t))(tq:Tq)(h:Hq):OpR:=match Mh t s h with
 |some (x,h1)=>match kill s h1 with
  |some h2=>.ck (roomy bytes (x.length+new.length)) (okV (.os h2.next (size t)) tq (eK h2 (.l t (app x new))))
  |none=>.bad
 |none=>.bad
def RR(s:Sv)(d:Nat):Nat:=match s with
 | .os _ z=>z
 | .ss _ z _ _=>z
 | .xo _ z _ _=>z
 | _=>d
def Mi(size bytes:Nat)(s x:Sv)(t:Tq)(h:Hq):OpR:=bif Nat.beq (RR s size) size&&(Nat.beq (RR x size) size&&Nat.blt 0 size)then(match uc x h with
 |some (0,_)=>(match s with
  | .a w=>bif sA w then okV s t h else .bad
  | .os _ _=>okV s t h
  | .ss _ _ _ _=>okV s t h
  | .xo _ _ _ _=>okV s t h
  | _=>.bad)
 |some (m,new)=>(match uc s h with
  |some (n,rL)=>match kill s h with
   |some h2=>bif roomy bytes (Nat.add n m)&&cf Da new then okV (.xo h2.next size 0 (Nat.add n m)) t (eK h2 (.o 0 (app rL new)))else .bad
   |none=>.bad
  |none=>match acD s h with
   |some ty=>bif Nat.beq size (Lf.size ty)then(match yb ty x h with
    |some (new,h1)=>XF bytes ty s new t h1
    |none=>.bad)else .bad
   |none=>.bad)
 |none=>(match acD x h with
  |some ty=>bif Nat.beq size (Lf.size ty)then(match yb ty x h with
   |some (new,h1)=>XF bytes ty s new t h1
   |none=>.bad)else .bad
  |none=>.bad))else .bad
def Bl(size bytes:Nat)(s x:Od):fh:=fun t h=>match jS s t with
 |some s=>match jS x t with
  |some x=>Mi size bytes s x t h
  |none=>.bad
 |none=>.bad
def aib:AV->Option Ty
 | .int k _=>some (.int k)
 | .bool _=>some .bool
 | .sc (.string _)=>some .str
 | .sc (.slice none 0 0)=>some (.ae (.int .i64))
 | _=>none
def tyZ(l:List AV):Option Ty:=List.rec none (fun a r ih=>match aib a with
 |some t=>match r with
  | []=>some t
  | _=>match ih with
   |some u=>some (.pair t u)
   |none=>none
 |none=>none) l
def Hs(z:List AV):Option ((t:Ty)×den t):=match tyZ z with
 |some t=>match Jj z with
  |some l=>match Vw t l ⟨0,.nil⟩with
   |some (x,[],_)=>some ⟨t,x⟩
   | _=>none
  |none=>none
 |none=>none
def Mj(size bytes:Nat)(z:List AV)(s x:Od):fh:=fun t h=>match jS s t with
 |some sv=>match jS x t with
  |some xv=>match toN xv with
   |some (_,n)=>bif Nat.beq (RR sv size) size then(match Hs z with
    |some ⟨ty,y⟩=>bif Nat.beq size (Lf.size ty)&&Nat.beq size (len z)then(.ck (decide (0<=n)) (XF bytes ty sv (List.replicate n.toNat y) t h))else .bad
    |none=>.bad)else .bad
   |none=>.bad
  |none=>.bad
 |none=>.bad
def Mk(bytes:Nat)(s x:Od):fh:=fun t h=>match jS s t with
 |some sv=>match jS x t with
  |some xv=>match toS xv with
   |some (_,y)=>bif Nat.beq (RR sv 1) 1 then XF bytes (.int .u8) sv (y.data.toList.map fun b=>Int.ofNat b.toNat) t h else .bad
   |none=>.bad
  |none=>.bad
 |none=>.bad
def FB(x:Od):fh:=fun t h=>match jS x t with
 |some v=>match toS v with
  |some (_,y)=>okV (.os h.next 1) t (eK h (.l (.int .u8) (y.data.toList.map fun b=>Int.ofNat b.toNat)))
  |none=>.bad
 |none=>.bad
def XG(x:Od):fh:=fun t h=>match jS x t with
 |some v=>(match yb (.int .u8) v h with
  |some (y,h1)=>okV (.c 0 .str (wq y)) t h1
  |none=>.bad)
 |none=>.bad
def Jk(a b:Od):Bool:=match a,b with
 | .t i,.t j=>Nat.beq i j
 | .c (.int _ m),.c (.int _ n)=>eqI m n
 | _,_=>false
def Ml(size bytes:Nat)(z:List AV)(l c:Od):fh:=fun t h=>match jS l t with
 |some lv=>match jS c t with
  |some cv=>match toN lv with
   |some (_,l')=>match toN cv with
    |some (_,c')=>match Hs z with
     |some ⟨ty,y⟩=>bif Nat.beq size (Lf.size ty)&&Nat.beq size (len z)then
      .ck ((decide (0<=l')&&decide (l'<=c'))&&decide (c'.toNat*bytes<=70368744177664))
       (okV (bif Jk l c then .os h.next size else .ss h.next size 0 l'.toNat) t (eK h (.l ty (List.replicate c'.toNat y))))else .bad
     |none=>.bad
    |none=>.bad
   |none=>.bad
  |none=>.bad
 |none=>.bad
def XH(x y z:Od):fh:=fun t h=>match jS y t with
 |some (.i _ (.ofNat 0))=>match jS z t with
  |some (.i _ (.ofNat 0))=>match opw x t with
   |some (.a w)=>bif dH w then okV (.a .fm) t h else .bad
   |some (.os _ _)=>okV (.a .fm) t h
   |some (.ss _ _ _ _)=>okV (.a .fm) t h
   |some (.xo _ _ _ _)=>okV (.a .fm) t h
   |some (.c _ (.ae _) _)=>okV (.a .fm) t h
   | _=>.bad
  | _=>.bad
 | _=>.bad
def ez(x:Od):fh:=fun t h=>match opw x t with
 |some (.a w)=>bif dH w then okV (.i .i64 0) t h else .bad
 | _=>.bad
def FC(mx:Bool)(a b:Od):fh:=fun t h=>match jS a t with
 |some x=>match jS b t with
  |some y=>match x,y with
   | .i k m,.i k' n=>bif jv k k' then okV (.i k (bif mx then(bif kV m n then n else m)else(bif kV n m then n else m))) t h else .bad
   |x,y=>match toN x,toN y with
    |some (k,m),some (k',n)=>bif jv k k' then okV (.c 0 (.int k) (match mx with|true=>max m n|false=>min m n)) t h else .bad
    | _,_=>.bad
  |none=>.bad
 |none=>.bad
def RS(size:Nat)(sv:Sv)(r sz off n:Nat)(t:Tq)(h:Hq):OpR:=match h.aL.get r with
 |some (.l ty x)=>bif Nat.blt 0 size&&(Nat.beq sz size&&Nat.beq size (Lf.size ty))then(match yb ty sv h with
  |some (y,h1)=>(match h1.aL.get r with
   |some (.l _ _)=>okV (.c 0 (.int .i64) (Int.ofNat (min y.length n))) t (jo h1 r (some (.l ty (app (x.take off) (app (y.take (min y.length n)) (x.drop (Nat.add off (min y.length n))))))))
   | _=>.bad)
  |none=>.bad)else .bad
 | _=>.bad
def Mm(size:Nat)(d s:Od):fh:=fun t h=>match opw s t with
 |some sv=>(match opw d t with
  |some (.os r sz)=>(match h.aL.get r with
   |some (.l _ x)=>RS size sv r sz 0 x.length t h
   | _=>.bad)
  |some (.ss r sz off n)=>RS size sv r sz off n t h
  | _=>.bad)
 |none=>.bad
def Mn(call:eL)(f:FuncId)(args:List Od):fh:=fun t h=>match Mb args t with
 |some vs=>(call f vs h).bd fun p=>okV p.1 t p.2
 |none=>.bad
def FD(call:eL)(f:Od)(args:List Od):fh:=fun t h=>match jS f t with
 |some (.fn k cap)=>match Mb args t with
  |some vs=>(call k (app vs cap) h).bd fun p=>okV p.1 t p.2
  |none=>.bad
 | _=>.bad
def j1(l:List Sv):Nat->List Sv×Nat:=List.rec (fun n=>([],n)) (fun a _ ih n=>match a with
 | .c m (.ae t) x=>bif Nat.beq m 0 then(.c n (.ae t) x::(ih (Nat.add n 1)).1,(ih (Nat.add n 1)).2)else(a::(ih n).1,(ih n).2)
 |a=>(a::(ih n).1,(ih n).2)) l
def XI(b:Od)(f:fh):fh:=fun t h=>match b with
 | .t i=>bif Nat.blt i 512 then(match t.at i with
  |some (.ag l)=>f (t.put i (some (.ag (j1 l h.next).1))) ⟨(j1 l h.next).2,h.aL⟩
  | _=>f t h)else f t h
 | _=>f t h
def Mo(a:Od):fh:=fun t h=>match jS a t with
 |some (.os r sz)=>match h.aL.get r with
  |some (.l _ x)=>.ck (!(Nat.beq x.length 0)) (okV (.os r sz) t h)
  | _=>.bad
 |some (.xo r sz off n)=>match h.aL.get r with
  |some (.o _ _)=>bif Nat.beq n 0 then .bad else okV (.xo r sz off n) t h
  | _=>.bad
 | _=>.bad
def yc(call:eL)(o:ku):fh:=match o with
 | .mv a=>x' a| .pk c a b=>Vx c a b| .nw cs=>XC cs| .bx a=>XD a| .bd z ps=>Fx z ps| .rw n sz z ps=>XE n sz z ps
 | .ld sz g a=>Hn sz g a| .sto sz a b=>XI b (Fy sz a b)| .nl a=>Ho a| .bn f a b=>RO f a b| .un f a=>sUn f a| .fn f cap=>sFn f cap
 | .fa off a=>pF off a| .fd off s g a=>Bi off s g a| .ixS s a i=>RP s a i| .ixA n s a i=>RQ n s a i| .ix n s g a i=>Bj n s g a i| .ixT a i=>wZ a i
 | .slN s a lo hi=>ua s a lo hi| .slA n s a lo hi=>ub n s a lo hi| .slS a lo hi=>Bk a lo hi| .ex a i=>tZ a i| .ln a=>cF a| .lnT a=>Hr a
 | .ap s b x y=>Bl s b x y| .apZ s b z x y=>Mj s b z x y| .apS b x y=>Mk b x y| .bys a=>FB a| .bs a=>XG a| .mk s b z l c=>Ml s b z l c
 | .emp a b c=>XH a b c| .cap a=>ez a| .mrk a=>Mo a| .min a b=>FC false a b| .max a b=>FC true a b
 | .map=>fun t h=>okV (.a .any) t h
 | .cpy sz d a=>Mm sz d a
 | .call f args=>Mn call f args| .callV f args=>FD call f args
 | _=>fun _ _=>.bad
def XJ(j:Od)(want:Bool)(f:fh):fh:=fun t h=>match jS j t with
 |some (.tu [])=>okV qK t h
 | _=>sK j t (fun t=>bif want then f t h else okV qK t h) (fun t=>bif want then okV qK t h else f t h)
def Vy(call:eL)(o:ku):fh:=match o with
 | .gd j w (.mn f)=>XJ j w (yc call f)
 | .gd j w f=>XJ j w (yc call f)
 | .mn (.gd j w f)=>XJ j w (yc call f)
 | .mn f=>yc call f
 |o=>yc call o
def Ht(u v:Sv):Option LB:=match u,v with
 | .i k a,.i k' b=>bif jv k k'&&eqI a b then some (.l true)else none
 | .b a,.b b=>bif a then(bif b then some (.l true)else none)else(bif b then none else some (.l true))
 | .a v,.a w=>bif mX v w then some (.l true)else none
 | .rf r o,.rf r' o'=>bif Nat.beq r r'&&Nat.beq o o' then some (.l true)else none
 | .re r s i o,.re r' s' i' o'=>bif Nat.beq r r'&&(Nat.beq s s'&&Nat.beq o o')then some (.t (decide (i=i')))else none
 | .os r s,.os r' s'=>bif Nat.beq r r'&&Nat.beq s s' then some (.l true)else none
 | .ss r s o n,.ss r' s' o' n'=>bif Nat.beq r r'&&Nat.beq s s' then some (.t (decide (o=o')&&decide (n=n')))else none
 | .xo r s o n,.xo r' s' o' n'=>bif Nat.beq r r'&&(Nat.beq s s'&&(Nat.beq o o'&&Nat.beq n n'))then some (.l true)else none
 | .c m (.ae t) _,.c m' (.ae t') _=>bif Nat.blt 0 m&&Nat.beq m m' then some (.l true)else none
 |u,v=>match toN u,toN v with
  |some (k,a),some (k',b)=>bif jv k k' then some (.t (decide (a=b)))else none
  | _,_=>match toB u,toB v with
   |some a,some b=>some (.t (!(xor a.v b.v)))
   | _,_=>none
def Hu:List Sv->List Sv->Option LB
 | [],[]=>some (.l true)
 |a::l,b::m=>match Ht a b with
  |some c=>match Hu l m with
   |some d=>some (c.and d)
   |none=>none
  |none=>none
 | _,_=>none
def Dc(u v:Sv):Option LB:=match u,v with
 | .ag l,.ag m=>Hu l m
 |u,v=>Ht u v
inductive Oc where
 |norm (t:Tq) (h:Hq)
 |ret (t:Tq) (h:Hq)
 |exit (i:Nat) (t:Tq) (h:Hq)
abbrev fD:=Tq->Hq->T Oc
def Dd(s:Od)(sz:Nat)(g:Bool)(a:Od)(t:Tq)(h:Hq)(k:T (Tq×Hq)):T (Tq×Hq):=match jS a t with
 |some p=>(match Aj sz g p h with
  |some v=>(match jS s t with
   |some u=>(match Dc u v with
    |some c=>ckL c k
    |none=>.bad)
   |none=>.bad)
  |none=>.bad)
 |none=>.bad
def Mp(s:Od)(sz:Nat)(a:Od)(lo hi:Option Od)(t:Tq)(h:Hq)(k:T (Tq×Hq)):T (Tq×Hq):=(ua sz a lo hi t h).bd fun p=>match jS s t with
 |some u=>(match Dc u p.1 with
  |some c=>ckL c k
  |none=>.bad)
 |none=>.bad
def Mq(s:Od)(n sz:Nat)(a:Od)(lo hi:Option Od)(t:Tq)(h:Hq)(k:T (Tq×Hq)):T (Tq×Hq):=(ub n sz a lo hi t h).bd fun p=>match jS s t with
 |some u=>(match Dc u p.1 with
  |some c=>ckL c k
  |none=>.bad)
 |none=>.bad
def zx(s:Od)(t:Tq)(k:T (Tq×Hq)):T (Tq×Hq):=match jS s t with
 |some (.tu [])=>k
 | _=>.bad
def wB(call:eL)(r:zu):Tq->Hq->T (Tq×Hq):=
 zu.rec (motive:=fun _=>Tq->Hq->T (Tq×Hq)) (fun t h=>.ok (t,h))
  (fun i f _ ih t h=>bif Nat.blt i 512 then(Vy call f t h).bd fun p=>ih (p.2.1.put i (some p.1)) p.2.2 else .bad)
  (fun f _ ih t h=>(Vy call f t h).bd fun p=>ih p.2.1 p.2.2)
  (fun s f _ ih t h=>match f with
   | .ld sz g a=>Dd s sz g a t h (ih t h)
   | .slN sz a lo hi=>Mp s sz a lo hi t h (ih t h)
   | .slA n sz a lo hi=>Mq s n sz a lo hi t h (ih t h)
   | .gd j w (.ld sz g a)=>(match jS j t with
    |some (.b c)=>bif (bif w then c else !c)then Dd s sz g a t h (ih t h)else zx s t (ih t h)
    |some (.tu [])=>zx s t (ih t h)
    | _=>.bad)
   | _=>.bad) r
def nM:ku->Bool
 | .mv _| .pk _ _ _| .ld _ _ _| .nl _| .bn _ _ _| .un _ _| .fa _ _| .fd _ _ _ _| .ixS _ _ _| .ixT _ _| .ex _ _| .ln _| .lnT _| .min _ _| .max _ _=>true
 | .gd _ _ (.mn _)=>false
 | .gd _ _ (.gd _ _ _)=>false
 | .gd _ _ f=>nM f
 | _=>false
def yd(r:zu):Bool:=zu.rec true (fun _ f _ ih=>bif nM f then ih else false) (fun f _ ih=>bif nM f then ih else false) (fun _ _ _ ih=>ih) r
def ye(r:zu):List Nat:=zu.rec [] (fun i _ _ ih=>i::ih) (fun _ _ ih=>ih) (fun _ _ _ ih=>ih) r
def mgV(c:Bool)(v w:Sv):Option Sv:=match v,w with
 | .b x,.b y=>bif (bif x then y else !y)then some (.b x)else some (.c 0 .bool (bif c then x else y))
 | .a x,.a y=>bif mX x y then some (.a x)else none
 | .rf r o,.rf r' o'=>bif Nat.beq r r'&&Nat.beq o o' then some (.rf r o)else none
 | .os r o,.os r' o'=>bif Nat.beq r r'&&Nat.beq o o' then some (.os r o)else none
 | .c m (.ae t) x,.c m' (.ae t') y=>(match vM t' t with
  |some ⟨e⟩=>some (.c 0 (.ae t) (bif c then x else(e▸y:List (den t))))
  |none=>none)
 | .i k x,.i k' y=>bif jv k k' then(bif eqI x y then some (.i k x)else some (.c 0 (.int k) (bif c then x else y)))else none
 |v,w=>match toN v,toN w with
  |some (k,x),some (k',y)=>bif jv k k' then some (.c 0 (.int k) (bif c then x else y))else none
  | _,_=>match toB v,toB w with
   |some x,some y=>some (.c 0 .bool (bif c then x.v else y.v))
   | _,_=>none
def mgO(c:Bool)(v w:Option Sv):Option Sv:=match v with
 |some v=>(match w with
  |some w=>mgV c v w
  |none=>none)
 |none=>none
def mgT(zg:List Nat)(c:Bool)(T0 a b:Tq):Tq:=List.rec T0 (fun i _ ih=>ih.put i (mgO c (a.at i) (b.at i))) zg
def LB.cond(c:Bool):LB->LB->LB
 | .l true,.l true=>.l true
 | .l x,.l y=>.t (bif c then x else y)
 | .l x,.t y=>.t (bif c then x else y)
 | .t x,.l y=>.t (bif c then x else y)
 | .t x,.t y=>.t (bif c then x else y)
def Vz(zg:List Nat)(T0:Tq)(x:T (Tq×Hq)):LB×Tq:=T.rec (motive:=fun _=>LB×Tq) (.l false,T0) (fun p=>(.l true,p.1))
 (fun c _ _ a b=>(LB.cond c a.1 b.1,mgT zg c T0 a.2 b.2))
 (fun c _ a=>(LB.and (.t c) a.1,a.2)) x
def RT(call:eL)(r:zu):Tq->Hq->T (Tq×Hq):=fun t h=>bif yd r&&cf (fun i=>Nat.blt i 512) (ye r)then(match Vz (ye r) t (wB call r t h)with
 |(c,t')=>ckL c (.ok (t',h)))else wB call r t h
def Jl(a:T Oc)(b:fD):T Oc:=a.bd fun o=>match o with
 | .norm t h=>b t h
 |o=>.ok o
def blO(id:Nat)(a:T Oc):T Oc:=a.bd fun o=>match o with
 | .exit i t h=>.ok (bif Nat.beq i id then .norm t h else .exit i t h)
 |o=>.ok o
def VA(L:Nat->Option fD)(call:eL)(m:Nat)(c:qe):fD:=
 qe.rec (motive:=fun _=>fD) (fun r t h=>(RT call r t h).bd fun p=>.ok (.norm p.1 p.2)) (fun t h=>.ok (.norm t h))
  (fun _ _ a b t h=>Jl (a t h) b)
  (fun c _ _ a b t h=>sK c t (fun t=>a t h) (fun t=>b t h))
  (fun id _ b t h=>match L id with
   |some f=>f t h
   |none=>blO id (b t h))
  (fun _ b=>Nat.rec (motive:=fun _=>fD) (fun _ _=>.bad) (fun _ ih t h=>Jl (b t h) ih) m)
  (fun i t h=>.ok (.exit i t h)) (fun t h=>.ok (.ret t h)) (fun _ _=>.bad) c
def XK(t:Tq)(h:Hq):RV->Option Sv
 | .tmp i=>bif Nat.blt i 512 then t.at i else none
 | .cell i size agg=>match(bif Nat.blt i 512 then t.at i else none)with
  |some p=>Aj size agg p h
  |none=>none
def Mr(t:Tq)(h:Hq)(l:List RV):Option (List Sv):=List.rec (some []) (fun r _ ih=>match XK t h r with
 |some v=>match ih with
  |some vs=>some (v::vs)
  |none=>none
 |none=>none) l
def Ms(res:List RV)(t:Tq)(h:Hq):T (Sv×Hq):=match Mr t h res with
 |some [v]=>.ok (v,h)
 |some vs=>.ok (.tu vs,h)
 |none=>.bad
def FF(l:List Sv):Nat->Tq->Tq:=List.rec (fun _ t=>t) (fun v _ ih i t=>ih (Nat.add i 1) (t.put i (some v))) l
def De(L:Nat->Option fD)(b:dC)(m:Nat)(c:eL)(args:List Sv)(h:Hq):T (Sv×Hq):=
 bif Nat.ble (len args) b.ntmps then(VA L c m b.code (FF args 0 Tq.none) h).bd fun o=>match o with
  | .norm t h=>Ms b.res t h
  | .ret t h=>Ms b.res t h
  | _=>.bad else .bad
end Lf
end Go.Ab

noncomputable section
namespace Go.Ab
namespace Lf
structure Kr where
 av:AV
 n:Nat
structure En where
 K:Nat->Kr
 tk:Nat->AV
 G:Nat->Option Rw
 A:Nat->AV
section
variable {α:Type}
def kG(E:α->List AV->Prop):List α->List AV->Prop
 | [],cs=>cs=[]
 |x::xs,cs=> ∃ c r,cs=c++r/\E x c/\kG E xs r
theorem kG.mono{E E':α->List AV->Prop}(h: ∀ x c,E x c->E' x c): ∀ {l:List α} {cs:List AV},kG E l cs->kG E' l cs
 | [],_,e=>e
 | _::_,_,⟨c,r,e,a,b⟩=>⟨c,r,e,h _ _ a,kG.mono h b⟩
theorem kG.app{E:α->List AV->Prop}: ∀ {l m:List α} {cs ds:List AV},kG E l cs->kG E m ds->kG E (l++m) (cs++ds)
 | [],_,_,_,e,k=>by have e':_=[]:=e;subst e';simpa using k
 | _::_,_,_,_,⟨c,r,e,a,b⟩,k=>by subst e;exact⟨c,r++_,by simp,a,kG.app b k⟩
theorem kG.length{E:α->List AV->Prop}{s:Nat}(h: ∀ x c,E x c->c.length=s): ∀ {l:List α} {cs:List AV},kG E l cs->cs.length=l.length*s
 | [],_,e=>by have e':_=[]:=e;subst e';simp
 | _::_,_,⟨c,r,e,a,b⟩=>by subst e;rw[List.length_append,h _ _ a,kG.length h b,List.length_cons,Nat.succ_mul];omega
theorem kG.drop{E:α->List AV->Prop}{s:Nat}(h: ∀ x c,E x c->c.length=s): ∀ (n:Nat) {l:List α} {cs:List AV},kG E l cs->kG E (l.drop n) (cs.drop (n*s))
 |0,_,_,e=>by simpa using e
 |n+1,[],_,e=>by have e':_=[]:=e;subst e';simp;rfl
 |n+1,_::_,_,⟨c,r,e,a,b⟩=>by
  subst e
  have:=kG.drop h n b
  rw[List.drop_succ_cons,Nat.succ_mul,Nat.add_comm,<-List.drop_drop,List.drop_append_of_le_length (by rw[h _ _ a];exact Nat.le_refl _),<-h _ _ a,List.drop_length,List.nil_append,h _ _ a]
  exact this
theorem kG.take{E:α->List AV->Prop}{s:Nat}(h: ∀ x c,E x c->c.length=s): ∀ (n:Nat) {l:List α} {cs:List AV},kG E l cs->kG E (l.take n) (cs.take (n*s))
 |0,_,_,e=>by simp;rfl
 |n+1,[],_,e=>by have e':_=[]:=e;subst e';simp;rfl
 |n+1,_::_,_,⟨c,r,e,a,b⟩=>by
  subst e
  have:=kG.take h n b
  refine⟨c,r.take (n*s),?_,a,this⟩
  rw[Nat.succ_mul,Nat.add_comm,<-h _ _ a,List.take_length_add_append]
theorem kG.get{E:α->List AV->Prop}{s:Nat}(h: ∀ x c,E x c->c.length=s){l:List α}{cs:List AV}(e:kG E l cs){i:Nat}(hi:i<l.length)(d:α):E (l.getD i d) ((cs.drop (i*s)).take s):=by
 induction l generalizing cs i with
 |nil=>simp at hi
 |cons x l ih=>
  obtain⟨c,r,rfl,a,b⟩:=e
  cases i with
  |zero=>simp only[Nat.zero_mul,List.drop_zero,List.getD_cons_zero];rw[List.take_append_of_le_length (by rw[h _ _ a];exact Nat.le_refl _),<-h _ _ a,List.take_length];exact a
  |succ i=>
   rw[List.getD_cons_succ,Nat.succ_mul,Nat.add_comm,<-List.drop_drop,List.drop_append_of_le_length (by rw[h _ _ a];exact Nat.le_refl _),<-h _ _ a,List.drop_length,List.nil_append,h _ _ a]
   exact ih b (by simpa using hi)
end
def Jm(G:Nat->Option Rw)(t:Ty)(E:den t->List AV->Prop)(x:List (den t))(a:AV):Prop:=
 (dH a=true/\x=[])∨ ∃ ls,kG E x ls/\(a=.kX x.length ls∨ ∃ id base row,a=.ff id base x.length (size t)/\G id=some row/\row.lG base (x.length*size t)=some ls)
def EV(G:Nat->Option Rw):(t:Ty)->den t->List AV->Prop
 | .int k,x,cs=>cs=[.int k x]
 | .bool,x,cs=>cs=[.bool x]
 | .str,x,cs=>cs=[.sc (.string x)]
 | .ae t,x,cs=> ∃ a,cs=[a]/\Jm G t (EV G t) x a
 | .pair a b,x,cs=> ∃ c d,cs=c++d/\EV G a x.1 c/\EV G b x.2 d
def RU(G G':Nat->Option Rw):Prop:= ∀ id row,G id=some row->G' id=some row
theorem Jm.mono{G G':Nat->Option Rw}(h:RU G G'){t:Ty}{E E':den t->List AV->Prop}(he: ∀ x c,E x c->E' x c){x:List (den t)}{a:AV}(k:Jm G t E x a):Jm G' t E' x a:=by
 rcases k with k|⟨ls,k1,k2⟩
 ·exact .inl k
 ·refine .inr ⟨ls,k1.mono he,?_⟩
  rcases k2 with k2|⟨id,base,row,e,g,s⟩
  ·exact .inl k2
  ·exact .inr ⟨id,base,row,e,h _ _ g,s⟩
theorem EV.mono{G G':Nat->Option Rw}(h:RU G G'): ∀ (t:Ty) (x:den t) (cs:List AV),EV G t x cs->EV G' t x cs
 | .int _,_,_,e=>e
 | .bool,_,_,e=>e
 | .str,_,_,e=>e
 | .ae t,_,_,⟨a,e,k⟩=>⟨a,e,k.mono h (EV.mono h t)⟩
 | .pair a b,_,_,⟨c,d,e,k1,k2⟩=>⟨c,d,e,EV.mono h a _ _ k1,EV.mono h b _ _ k2⟩
theorem EV.length{G:Nat->Option Rw}: ∀ (t:Ty) (x:den t) (cs:List AV),EV G t x cs->cs.length=size t
 | .int _,_,_,e=>by have e':_=_:=e;rw[e'];rfl
 | .bool,_,_,e=>by have e':_=_:=e;rw[e'];rfl
 | .str,_,_,e=>by have e':_=_:=e;rw[e'];rfl
 | .ae t,_,_,⟨a,e,k⟩=>by rw[e];rfl
 | .pair a b,_,_,⟨c,d,e,k1,k2⟩=>by
  have h1:=EV.length a _ _ k1
  have h2:=EV.length b _ _ k2
  show _=Nat.add (size a) (size b)
  rw[e,List.length_append,h1,h2];rfl
theorem pG{a:AV}(h:dH a=true):dQ a=true:=by cases a<;>first|rfl|cases h
theorem EV.dQ{G:Nat->Option Rw}: ∀ (t:Ty) (x:den t) (cs:List AV),EV G t x cs-> ∀ a,a∈cs->dQ a=true
 | .int _,_,_,e=>by have e':_=_:=e;rw[e'];intro a ha;simp at ha;subst ha;rfl
 | .bool,_,_,e=>by have e':_=_:=e;rw[e'];intro a ha;simp at ha;subst ha;rfl
 | .str,_,_,e=>by have e':_=_:=e;rw[e'];intro a ha;simp at ha;subst ha;rfl
 | .ae t,_,_,⟨a,e,k⟩=>by
  rw[e];intro b hb;simp at hb;subst hb
  rcases k with⟨k,_⟩|⟨_,_,k|⟨_,_,_,k,_⟩⟩
  ·exact pG k
  ·rw[k];rfl
  ·rw[k];rfl
 | .pair a b,_,_,⟨c,d,e,k1,k2⟩=>by
  rw[e];intro x hx
  rcases List.mem_append.1 hx with h|h
  ·exact EV.dQ a _ _ k1 x h
  ·exact EV.dQ b _ _ k2 x h
theorem kG.dQ{α:Type}{E:α->List AV->Prop}(h: ∀ x c,E x c-> ∀ a,a∈c->dQ a=true): ∀ {l:List α} {cs:List AV},kG E l cs-> ∀ a,a∈cs->dQ a=true
 | [],_,e=>by have e':_=[]:=e;subst e';intro a ha;simp at ha
 | _::_,_,⟨c,r,e,a,b⟩=>by
  subst e;intro y hy
  rcases List.mem_append.1 hy with k|k
  ·exact h _ _ a y k
  ·exact kG.dQ h b y k
mutual
inductive V (E:En) (N:Nat):Sv->AV->Prop
 |i {k n}:V E N (.i k n) (.int k n)
 |b {b}:V E N (.b b) (.bool b)
 |a {v}:Vu v=true->V E N (.a v) v
 |c {m t x a}:EV E.G t x [a]->(m≠0->m<N/\a=E.tk m)->V E N (.c m t x) a
 |ag {l l'}:Vs E N l l'->V E N (.ag l) (.agg l')
 |tu {l l'}:Vs E N l l'->V E N (.tu l) (.wm l')
 |fn {f l l'}:Vs E N l l'->V E N (.fn f l) (.fn f l')
 |rf {r o id}:r<N->(E.K r).av=.ref id 0->V E N (.rf r o) (.ref id o)
 |re {r sz i o id base n}:r<N->(E.K r).av=.ff id base n sz->i<n->V E N (.re r sz i o) (.ref id (base+i*sz+o))
 |os {r sz}:r<N->((dH (E.K r).av=true/\(E.K r).n=0)∨ ∃ id base,(E.K r).av=.ff id base (E.K r).n sz)->V E N (.os r sz) (E.K r).av
 |se {r sz off}:r<N->dH (E.K r).av=true->(E.K r).n=0->off=0->V E N (.ss r sz off 0) (E.K r).av
 |ss {r sz off n id base}:r<N->(E.K r).av=.ff id base (E.K r).n sz->off+n<=(E.K r).n->V E N (.ss r sz off n) (.ff id (base+off*sz) n sz)
 |xo {r sz off n id}:r<N->(E.K r).av=.ref id 0->V E N (.xo r sz off n) (.ff id off n sz)
 |zp {l l' r}:Vs E N l l'->V E N (.zp l) (.jy (l'++r))
 |zr {l l' id off row}:Vs E N l l'->E.G id=some row->row.lG off l.length=some l'->V E N (.zp l) (.ref id off)
inductive Vs (E:En) (N:Nat):List Sv->List AV->Prop
 |nil:Vs E N [] []
 |cons {a c l l'}:V E N a c->Vs E N l l'->Vs E N (a::l) (c::l')
end
structure w7(E E':En)(N:Nat):Prop where
 K: ∀ r,r<N->E'.K r=E.K r
 tk: ∀ r,r<N->E'.tk r=E.tk r
 G:RU E.G E'.G
 A:E'.A=E.A
theorem w7.refl(E:En)(N:Nat):w7 E E N:=⟨fun _ _=>rfl,fun _ _=>rfl,fun _ _ e=>e,rfl⟩
section
variable {E E':En}{N N':Nat}
mutual
theorem V.mono(h:w7 E E' N)(hN:N<=N'): ∀ {a c},V E N a c->V E' N' a c
 | _,_,.i=>.i
 | _,_,.b=>.b
 | _,_,.a k=>.a k
 | _,_,.c k m=>.c (EV.mono h.G _ _ _ k) fun e=>⟨Nat.lt_of_lt_of_le (m e).1 hN,by rw[h.tk _ (m e).1];exact(m e).2⟩
 | _,_,.ag k=>.ag (Vs.mono h hN k)
 | _,_,.tu k=>.tu (Vs.mono h hN k)
 | _,_,.fn k=>.fn (Vs.mono h hN k)
 | _,_,.rf a b=>.rf (Nat.lt_of_lt_of_le a hN) (by rw[h.K _ a];exact b)
 | _,_,.re a b c=>.re (Nat.lt_of_lt_of_le a hN) (by rw[h.K _ a];exact b) c
 | _,_,.os (r:=r) a b=>by rw[<-h.K _ a];exact .os (Nat.lt_of_lt_of_le a hN) (by rw[h.K _ a];exact b)
 | _,_,.se (r:=r) a b c d=>by rw[<-h.K _ a];exact .se (Nat.lt_of_lt_of_le a hN) (by rw[h.K _ a];exact b) (by rw[h.K _ a];exact c) d
 | _,_,.ss a b c=>.ss (Nat.lt_of_lt_of_le a hN) (by rw[h.K _ a];exact b) (by rw[h.K _ a];exact c)
 | _,_,.xo a b=>.xo (Nat.lt_of_lt_of_le a hN) (by rw[h.K _ a];exact b)
 | _,_,.zp k=>.zp (Vs.mono h hN k)
 | _,_,.zr k g s=>.zr (Vs.mono h hN k) (h.G _ _ g) s
theorem Vs.mono(h:w7 E E' N)(hN:N<=N'): ∀ {l l'},Vs E N l l'->Vs E' N' l l'
 | _,_,.nil=>.nil
 | _,_,.cons a b=>.cons (V.mono h hN a) (Vs.mono h hN b)
end
theorem Vs.length{l l'}(h:Vs E N l l'):l.length=l'.length:=by
 induction l generalizing l' with
 |nil=>cases h;rfl
 |cons a l ih=>cases h with|cons _ h=>simp[ih h]
theorem Vs.app{l l' m m'}(h:Vs E N l l')(k:Vs E N m m'):Vs E N (l++m) (l'++m'):=by
 induction l generalizing l' with
 |nil=>cases h;exact k
 |cons a l ih=>cases h with|cons a h=>exact .cons a (ih h)
theorem Vs.drop{l l'}(h:Vs E N l l')(n:Nat):Vs E N (l.drop n) (l'.drop n):=by
 induction n generalizing l l' with
 |zero=>simpa using h
 |succ n ih=>
  cases h with
  |nil=>simp;exact .nil
  |cons a h=>simpa using ih h
theorem Vs.take{l l'}(h:Vs E N l l')(n:Nat):Vs E N (l.take n) (l'.take n):=by
 induction n generalizing l l' with
 |zero=>simp;exact .nil
 |succ n ih=>
  cases h with
  |nil=>simp;exact .nil
  |cons a h=>simpa using .cons a (ih h)
theorem Vs.get{l l'}(h:Vs E N l l'){i:Nat}{a}(e:l[i]? =some a): ∃ c,l'[i]? =some c/\V E N a c:=by
 induction l generalizing l' i with
 |nil=>simp at e
 |cons b l ih=>
  cases h with
  |cons hb h=>
   cases i with
   |zero=>simp at e;subst e;exact⟨_,by simp,hb⟩
   |succ i=>simpa using ih h (by simpa using e)
theorem Df{c:AV}(h:Vu c=true):dQ c=true:=by cases c<;>first|rfl|cases h
theorem Dg{c:AV}(h:dQ c=true):c.cells=[c]:=by cases c<;>first|rfl|cases h
theorem V.one{a c}(h:V E N a c)(e:Da a=true):dQ c=true:=by
 cases h with
 |a h=>exact Df h
 |c h _=>exact EV.dQ _ _ _ h _ (by simp)
 |ag h=>cases e
 |tu h=>cases e
 |os _ h=>rcases h with⟨h,_⟩|⟨_,_,h⟩
          ·exact pG h
          ·rw[h];rfl
 |se _ h _ _=>exact pG h
 | _=>rfl
theorem V.cells{a c}(h:V E N a c):Vs E N a.cells c.cells:=by
 by_cases e:Da a=true
 ·rw[Dg (h.one e)]
  have:a.cells=[a]:=by cases a<;>first|rfl|cases e
  rw[this];exact .cons h .nil
 ·cases h with
  |ag h=>exact h
  |tu h=>exact .cons (.tu h) .nil
  | _=>exact(e rfl).elim
theorem Vs.ER{l l'}(h:Vs E N l l')(e: ∀ a,a∈l->Da a=true): ∀ a,a∈l'->dQ a=true:=by
 induction l generalizing l' with
 |nil=>cases h;intro a ha;simp at ha
 |cons b l ih=>
  cases h with
  |cons hb h=>
   intro a ha
   rcases List.mem_cons.1 ha with k|k
   ·subst k;exact hb.one (e _ List.mem_cons_self)
   ·exact ih h (fun a ha=>e a (List.mem_cons_of_mem _ ha)) a k
theorem beq_true{a b:Nat}(h:Nat.beq a b=true):a=b:=Nat.eq_of_beq_eq_true h
theorem bQ{α:Type}{b:Bool}{x:Option α}{y:α}(h:(bif b then x else none)=some y):b=true/\x=some y:=by cases b<;>simp_all
theorem Jn{l:List Sv}{off n:Nat}{r:List Sv}(h:acC l off n=some r):r=(l.drop off).take n/\r.length=n:=by
 change (bif Nat.beq (len (tk n (dp off l))) n then some (tk n (dp off l))else none)=some r at h
 rw[qx,jY,bM]at h
 cases hb:Nat.beq (List.take n (List.drop off l)).length n with
 |false=>rw[hb]at h;cases h
 |true=>rw[hb]at h;cases h;exact⟨rfl,beq_true hb⟩
theorem sL{l:List AV}{off n:Nat}(h:((l.drop off).take n).length=n):wN l off n=some ((l.drop off).take n):=by
 change (bif Nat.beq (len (tk n (dp off l))) n then some (tk n (dp off l))else none)=_
 rw[qx,jY,bM,h,Nat.beq_refl]
 rfl
theorem ov{agg:Bool}{l:List Sv}{l':List AV}{off n:Nat}{r:Sv}(h:Vs E N l l')(e:xY agg l off n=some r): ∃ c,part agg l' off n=some c/\V E N r c:=by
 unfold xY at e
 split at e
 ·cases e
 ·rename_i s hs
  obtain⟨rfl,hl⟩:=Jn hs
  have hv:=(h.drop off).take n
  have hsg:=sL (l:=l') (off:=off) (n:=n) (by rw[<-hv.length,hl])
  unfold part
  rw[hsg]
  cases agg with
  |true=>cases e;exact⟨_,rfl,.ag hv⟩
  |false=>
   simp only[cond_false]at e ⊢
   generalize (List.take n (List.drop off l))=s at e hv
   generalize (List.take n (List.drop off l'))=s' at hv ⊢
   split at e
   ·cases e
    cases hv with
    |cons a b=>cases b;exact⟨_,rfl,a⟩
   ·cases e
theorem FG{r:Rw}{off k:Nat}(h:off+k<=r.toL.length):r.lG off k=some ((r.toL.drop off).take k):=by
 rw[eN]at h
 have hs:r.lG off k=some (r.cells k off):=by unfold Rw.lG;rw[show Nat.ble (Nat.add off k) r.n=true from(by rw[Nat.ble_eq];exact h)];rfl
 rw[hs,(mu hs).1]
theorem eR{r:Rw}{off k:Nat}{l:List AV}:r.lG off k=some l↔off+k<=r.n/\l=(r.toL.drop off).take k:=by
 constructor
 ·intro h
  have h1:=mu h
  unfold Rw.lG at h
  obtain⟨hb,_⟩:=bQ h
  exact⟨by have:=Nat.le_of_ble_eq_true hb;exact this,h1.1⟩
 ·rintro⟨h,rfl⟩;exact FG (by rw[eN];exact h)
theorem Mt{agg:Bool}{r:Rw}{off n:Nat}{c:AV}(hn:0<n)(h:part agg r.toL off n=some c):rX agg r off n=some c:=by
 unfold part at h
 split at h
 ·cases h
 ·rename_i s hs
  obtain⟨rfl,hl⟩:=lH hs
  unfold rX
  rw[FG (by rw[List.length_take,List.length_drop]at hl;omega)];exact h
theorem rz{G:Nat->Option Rw}(hg:E.G=G): ∀ (t:Ty) (x:den t) (cs:List AV),EV G t x cs->Vs E N (nL t x) cs
 | .int _,_,_,e=>by have e':_=_:=e;subst e';exact .cons (.c (by rw[hg];exact e) (fun h=>(h rfl).elim)) .nil
 | .bool,_,_,e=>by have e':_=_:=e;subst e';exact .cons (.c (by rw[hg];exact e) (fun h=>(h rfl).elim)) .nil
 | .str,_,_,e=>by have e':_=_:=e;subst e';exact .cons (.c (by rw[hg];exact e) (fun h=>(h rfl).elim)) .nil
 | .ae t,_,_,⟨a,e,k⟩=>by subst e;exact .cons (.c (by rw[hg];exact⟨a,rfl,k⟩) (fun h=>(h rfl).elim)) .nil
 | .pair a b,x,_,⟨c,d,e,k1,k2⟩=>by
  subst e
  show Vs E N (app (nL a x.1) (nL b x.2)) _
  rw[bp]
  exact(rz hg a _ _ k1).app (rz hg b _ _ k2)
end
def Row.live:Row->Bool
 | .o _ _| .l _ _=>true
 | _=>false
def own(H:Hq)(r:Nat):Prop:= ∃ R,H.aL.get r=some R/\R.live=true
def ly:AV->Option Nat
 | .ref id _=>some id
 | .ff id _ _ _=>some id
 | _=>none
theorem Jo{a:AV}(h:dH a=true):ly a=none:=by cases a<;>first|rfl|cases h
def LR(G:Nat->Option Rw)(t:Ty)(x:List (den t))(k:Kr)(S:Nat->Option Rw):Prop:=
 x.length=k.n/\((dH k.av=true/\x=[])∨ ∃ id base row ls,k.av=.ff id base k.n (size t)/\S id=some row/\row.lG base (k.n*size t)=some ls/\kG (EV G t) x ls)
def RV(E:En)(N:Nat)(h:Hp)(k:Kr):Row->Prop
 | .o g l=> ∃ id row,k.av=.ref id 0/\h.aL.get id=some row/\Vs E N l row.toL/\(g≠0->k.av=E.A g)
 | .zo l=> ∃ id row,k.av=.ref id 0/\E.G id=some row/\Vs E N l row.toL
 | .l t x=>LR E.G t x k h.aL.get
 | .z t x=>LR E.G t x k E.G
structure SR(E:En)(H:Hq)(h:Hp):Prop where
 row: ∀ r R,H.aL.get r=some R->r<H.next/\RV E H.next h (E.K r) R
 inj: ∀ r r' id,own H r->own H r'->ly (E.K r).av=some id->ly (E.K r').av=some id->r=r'
 lt: ∀ r id,own H r->ly (E.K r).av=some id->id<h.next
 g: ∀ id row,E.G id=some row->id<h.next/\h.aL.get id=some row/\ ∀ r,own H r->ly (E.K r).av≠some id
def TV(E:En)(N:Nat)(T:Tq)(t:Tm):Prop:= ∀ i v,i<512->T.at i=some v-> ∃ a,t.at i=some a/\V E N v a
structure Nx(E E':En)(H H':Hq)(h h':Hp):Prop where
 e:w7 E E' H.next
 le:H.next<=H'.next
 Cj:h.next<=h'.next
 ow: ∀ r id,own H' r->ly (E'.K r).av=some id->(∃ r0,own H r0/\ly (E.K r0).av=some id)∨h.next<=id
 gw: ∀ id row,E'.G id=some row->E.G id=some row∨(∃ r0,own H r0/\ly (E.K r0).av=some id)∨h.next<=id
 fr: ∀ id,id<h.next->(∀ r,own H r->ly (E.K r).av≠some id)->h'.aL.get id=h.aL.get id
theorem Nx.refl(E:En)(H:Hq)(h:Hp):Nx E E H H h h:=
 ⟨w7.refl _ _,Nat.le_refl _,Nat.le_refl _,fun r _ a b=>.inl ⟨r,a,b⟩,fun _ _ a=>.inl a,fun _ _ _=>rfl⟩
theorem w7.trans{E E1 E2:En}{N N1:Nat}(a:w7 E E1 N)(b:w7 E1 E2 N1)(h:N<=N1):w7 E E2 N where
 K r hr:=(b.K r (Nat.lt_of_lt_of_le hr h)).trans (a.K r hr)
 tk r hr:=(b.tk r (Nat.lt_of_lt_of_le hr h)).trans (a.tk r hr)
 G id row e:=b.G id row (a.G id row e)
 A:=b.A.trans a.A
theorem Nx.trans{E E1 E2:En}{H H1 H2:Hq}{h h1 h2:Hp}(a:Nx E E1 H H1 h h1)(b:Nx E1 E2 H1 H2 h1 h2):Nx E E2 H H2 h h2 where
 e:=a.e.trans b.e a.le
 le:=Nat.le_trans a.le b.le
 Cj:=Nat.le_trans a.Cj b.Cj
 ow r id k e:=by
  rcases b.ow r id k e with⟨r0,k0,e0⟩|k0
  ·exact a.ow r0 id k0 e0
  ·exact .inr (Nat.le_trans a.Cj k0)
 gw id row e:=by
  rcases b.gw id row e with k|⟨r0,k0,e0⟩|k
  ·exact a.gw id row k
  ·rcases a.ow r0 id k0 e0 with k|k
   ·exact .inr (.inl k)
   ·exact .inr (.inr k)
  ·exact .inr (.inr (Nat.le_trans a.Cj k))
 fr id hi hn:=by
  rw[b.fr id (Nat.lt_of_lt_of_le hi a.Cj) fun r k e=>?_,a.fr id hi hn]
  rcases a.ow r id k e with⟨r0,k0,e0⟩|k0
  ·exact hn r0 k0 e0
  ·omega
theorem TV.mono{E E':En}{N N':Nat}{T:Tq}{t:Tm}(h:TV E N T t)(e:w7 E E' N)(hN:N<=N'):TV E' N' T t:=fun i v hi hv=>by
 obtain⟨a,h1,h2⟩:=h i v hi hv
 exact⟨a,h1,h2.mono e hN⟩
theorem Tq.jA(t:Tq)(i j:Nat)(x:Option Sv)(hi:i<512)(hj:j<512):(t.put i x).at j=if j=i then x else t.at j:=by
 unfold Tq.at Tq.put
 rw[F8.rk _ _ _ _ (by omega) (by omega)]
 by_cases h1:j / 64=i / 64
 ·rw[if_pos h1,F8.rk _ _ _ _ (by omega) (by omega)]
  by_cases h2:j / 8 % 8=i / 8 % 8
  ·rw[if_pos h2,F8.rk _ _ _ _ (by omega) (by omega)]
   by_cases h3:j % 8=i % 8
   ·rw[if_pos h3,if_pos (by omega)]
   ·rw[if_neg h3,if_neg (by omega),h1,h2]
  ·rw[if_neg h2,if_neg (by omega),h1]
 ·rw[if_neg h1,if_neg (by omega)]
section
variable {α β:Type}
theorem T.pH(a:α):(T.ok a).val=some a:=rfl
theorem T.dZ(c:Bool)(a b:T α):(T.br c a b).val=bif c then a.val else b.val:=rfl
theorem T.j2(c:Bool)(a:T α):(T.ck c a).val=bif c then a.val else none:=rfl
theorem T.Mu(x:T α)(f:α->T β):(x.bd f).val=x.val.bind fun a=>(f a).val:=by
 induction x with
 |bad=>rfl
 |ok a=>rfl
 |br c a b sB xm=>
  show(bif c then(a.bd f).val else(b.bd f).val)=(bif c then a.val else b.val).bind _
  cases c<;>simp[sB,xm]
 |ck c a ih=>
  show(bif c then(a.bd f).val else none)=(bif c then a.val else none).bind _
  cases c<;>simp[ih]
theorem T.dh{x:T α}{f:α->T β}{b:β}(h:(x.bd f).val=some b): ∃ a,x.val=some a/\(f a).val=some b:=by
 rw[T.Mu]at h
 cases e:x.val with
 |none=>rw[e]at h;cases h
 |some a=>rw[e]at h;exact⟨a,rfl,h⟩
theorem T.aX{c:Bool}{x:T α}{b:α}(h:(T.ck c x).val=some b):c=true/\x.val=some b:=by
 rw[T.j2]at h;exact bQ h
theorem mF{c:LB}{x:T α}{b:α}(h:(ckL c x).val=some b):c.v=true/\x.val=some b:=by
 cases c with
 |l c=>cases c with
  |true=>exact⟨rfl,h⟩
  |false=>cases h
 |t c=>exact T.aX h
end
def Ev{α:Type}(p:Nat->Nat->α)(r:α):Prop:= ∃ M,∀ n d,M<=n->M<=d->p n d=r
theorem Ev.const{α:Type}{x r:α}(h:x=r):Ev (fun _ _=>x) r:=⟨0,fun _ _ _ _=>h⟩
abbrev aA:=Nat->Nat->cX
abbrev OpN:=Nat->Nat->eH
def eS(f:fh)(g:OpN):Prop:= ∀ (E:En) (T:Tq) (t:Tm) (H:Hq) (h:Hp) (v:Sv) (T':Tq) (H':Hq),TV E H.next T t->SR E H h->(f T H).val=some (v,T',H')->
 ∃ c h' E',Ev (fun n d=>g n d t h) (.ok c h')/\Nx E E' H H' h h'/\SR E' H' h'/\V E' H'.next v c/\TV E' H'.next T' t
theorem db{f:fh}{g:eH}(k: ∀ (E:En) (T:Tq) (t:Tm) (H:Hq) (h:Hp) (v:Sv) (T':Tq) (H':Hq),TV E H.next T t->SR E H h->(f T H).val=some (v,T',H')->H'=H/\T'=T/\ ∃ c,g t h=.ok c h/\V E H.next v c):eS f (fun _ _=>g):=by
 intro E T t H h v T' H' hT hH e
 obtain⟨rfl,rfl,c,e1,hv⟩:=k E T t H h v T' H' hT hH e
 exact⟨c,h,E,Ev.const e1,Nx.refl _ _ _,hH,hv,hT⟩
theorem RW{g:OpN}:eS (fun _ _=>.bad) g:=by intro E T t H h v T' H' _ _ e;cases e
end Lf
end Go.Ab
