import Derived.Test.YtjeanplhkkpdmaaGreatDoorAb21
noncomputable section
namespace Go.Ab
variable [Io]
def wA(n:Nat):Hp->AV->Option AV:=
 Nat.rec (fun _ _=>none) (fun _ ih h a=>match a with
  | .jS id off n sz=>match h.cw.get id with
   |some cs=>match cs.oV off (Nat.mul n sz)with
    |some l=>match mapA (ih h) l with
     |some l=>some (.qT n l)
     |none=>none
    |none=>none
   |none=>none
  | .ref id off=>match h.cw.get id with
   |some cs=>match cs.oV off (Nat.sub cs.n off)with
    |some l=>match mapA (ih h) l with
     |some l=>some (.mN l)
     |none=>none
    |none=>none
   |none=>none
  | .agg l=>match mapA (ih h) l with
   |some l=>some (.agg l)
   |none=>none
  | .yv l=>match mapA (ih h) l with
   |some l=>some (.yv l)
   |none=>none
  | .fn f l=>match mapA (ih h) l with
   |some l=>some (.fn f l)
   |none=>none
  | .qT _ _=>none
  | .mN _=>none
  |a=>some a) n
theorem Vi{g g':G}{w:World}{h:Hp}(H:HR g w h)(ho: ∀ b,nn g h b->g'.j3 b): ∀ (n:Nat) (a a':AV) (v:Value),wA n h a=some a'->VR g w a v->VR g' w a' v:=by
 intro n
 induction n with
 |zero=>intro a a' v e;cases e
 |succ n ih=>
  intro a a' v e hv
  have hm:= @JC _ g g' w (wA n h) ih
  cases a with
  |int k n=>cases e;simpa only[VR]using hv
  |bool b=>cases e;simpa only[VR]using hv
  |sc x=>cases e;simpa only[VR]using hv
  |mB=>cases e;simpa only[VR]using hv
  |sK=>cases e;simpa only[VR]using hv
  |sym k s lo hi o=>cases e;simpa only[VR]using hv
  |any=>cases e;simpa only[VR]using hv
  |agg l=>
   change (match mapA (wA n h) l with|some l=>some (AV.agg l)|none=>none)=some a' at e
   cases h1:mapA (wA n h) l with
   |none=>rw[h1]at e;cases e
   |some l'=>
    rw[h1]at e
    cases e
    simp only[VR]at hv ⊢
    obtain⟨vs,e,q⟩:=hv
    exact⟨vs,e,hm h1 q⟩
  |yv l=>
   change (match mapA (wA n h) l with|some l=>some (AV.yv l)|none=>none)=some a' at e
   cases h1:mapA (wA n h) l with
   |none=>rw[h1]at e;cases e
   |some l'=>
    rw[h1]at e
    cases e
    simp only[VR]at hv ⊢
    obtain⟨vs,e,q⟩:=hv
    exact⟨vs,e,hm h1 q⟩
  |fn f l=>
   change (match mapA (wA n h) l with|some l=>some (AV.fn f l)|none=>none)=some a' at e
   cases h1:mapA (wA n h) l with
   |none=>rw[h1]at e;cases e
   |some l'=>
    rw[h1]at e
    cases e
    simp only[VR]at hv ⊢
    obtain⟨vs,e,q⟩:=hv
    exact⟨vs,e,hm h1 q⟩
  |qT m l=>cases e
  |mN l=>cases e
  |ref id off=>
   change (match h.cw.get id with|some cs=>(match cs.oV off (Nat.sub cs.n off)with|some l=>(match mapA (wA n h) l with|some l=>some (AV.mN l)|none=>none)|none=>none)|none=>none)=some a' at e
   cases h0:h.cw.get id with
   |none=>rw[h0]at e;cases e
   |some cs=>
   rw[h0]at e
   simp only at e
   cases hs:cs.oV off (Nat.sub cs.n off)with
   |none=>rw[hs]at e;cases e
   |some l=>
   rw[hs]at e
   simp only at e
   cases h1:mapA (wA n h) l with
   |none=>rw[h1]at e;cases e
   |some l'=>
    rw[h1]at e
    cases e
    obtain⟨rfl,_,_⟩:=pO hs
    simp only[VR]at hv ⊢
    obtain⟨b,s,hmm,rfl⟩:=hv
    obtain⟨C,el,vs,hw,_,jE,hC⟩:=H.row h0 hmm
    exact⟨b,s+off,(vs.drop off).take (Nat.sub cs.n off),rfl,ho b ⟨id,cs,s,h0,hmm⟩,((mX hw hC).drop off).take _,hm h1 ((jE.drop off).take _)⟩
  |jS id off m sz=>
   change (match h.cw.get id with|some cs=>(match cs.oV off (Nat.mul m sz)with|some l=>(match mapA (wA n h) l with|some l=>some (AV.qT m l)|none=>none)|none=>none)|none=>none)=some a' at e
   cases h0:h.cw.get id with
   |none=>rw[h0]at e;cases e
   |some cs=>
   rw[h0]at e
   simp only at e
   cases hs:cs.oV off (Nat.mul m sz)with
   |none=>rw[hs]at e;cases e
   |some l=>
   rw[hs]at e
   simp only at e
   cases h1:mapA (wA n h) l with
   |none=>rw[h1]at e;cases e
   |some l'=>
    rw[h1]at e
    cases e
    obtain⟨rfl,hlen,_⟩:=pO hs
    simp only[VR]at hv ⊢
    rcases hv with⟨rfl,x,rfl⟩|⟨b,s,cap,hmm,rfl,hle,_⟩
    ·refine⟨x,0,rfl,Nat.le_refl _,.inl ⟨rfl,?_⟩⟩
     have hz:Nat.mul 0 sz=0:=Nat.zero_mul sz
     rw[hz]at h1
     simp only[List.take_zero]at h1
     cases h1
     rfl
    ·obtain⟨C,el,vs,hw,_,jE,hC⟩:=H.row h0 hmm
     exact⟨_,cap,rfl,hle,.inr ⟨b,s+off,(vs.drop off).take (Nat.mul m sz),rfl,ho b ⟨id,cs,s,h0,hmm⟩,((mX hw hC).drop off).take _,hm h1 ((jE.drop off).take _)⟩⟩
mutual
def sV:AV->Bool
 | .agg l=>sa l
 | .yv l=>sa l
 | .qT _ l=>sa l
 | .mN l=>sa l
 | .fn _ l=>sa l
 | .ref _ _=>false
 | .jS _ _ _ _=>false
 | _=>true
def sa:List AV->Bool
 | []=>true
 |a::l=>sV a&&sa l
end
mutual
theorem VR.sV{g:G}{w:World}: ∀ (a:AV) (v:Value),sV a=true->VR g w a v->VR (gE g.j3) w a v
 | .int _ _,v,n,r=>by simpa only[VR]using r
 | .bool _,v,n,r=>by simpa only[VR]using r
 | .sc _,v,n,r=>by simpa only[VR]using r
 | .mB,v,n,r=>by simpa only[VR]using r
 | .sK,v,n,r=>by simpa only[VR]using r
 | .any,v,n,r=>by simpa only[VR]using r
 | .sym _ _ _ _ _,v,n,r=>by simpa only[VR]using r
 | .ref _ _,v,n,r=>by cases n
 | .jS _ _ _ _,v,n,r=>by cases n
 | .agg cs,v,n,r=>by
  simp only[VR]at r ⊢
  obtain⟨vs,e,q⟩:=r
  exact⟨vs,e,cZ.sV cs _ n q⟩
 | .yv cs,v,n,r=>by
  simp only[VR]at r ⊢
  obtain⟨vs,e,q⟩:=r
  exact⟨vs,e,cZ.sV cs _ n q⟩
 | .fn f cs,v,n,r=>by
  simp only[VR]at r ⊢
  obtain⟨vs,e,q⟩:=r
  exact⟨vs,e,cZ.sV cs _ n q⟩
 | .qT m cs,v,n,r=>by
  simp only[VR]at r ⊢
  obtain⟨a,cap,e,l,r⟩:=r
  refine⟨a,cap,e,l,?_⟩
  rcases r with r|⟨b,o,vs,e,i,c,q⟩
  ·exact .inl r
  ·exact .inr ⟨b,o,vs,e,i,c,cZ.sV cs _ n q⟩
 | .mN cs,v,n,r=>by
  simp only[VR]at r ⊢
  obtain⟨b,o,vs,e,i,c,q⟩:=r
  exact⟨b,o,vs,e,i,c,cZ.sV cs _ n q⟩
theorem cZ.sV{g:G}{w:World}: ∀ (l:List AV) (vs:List Value),sa l=true->cZ g w l vs->cZ (gE g.j3) w l vs
 | [],vs,n,r=>by simpa only[cZ]using r
 |a::l,vs,n,r=>by
  simp only[sa,Bool.and_eq_true]at n
  simp only[cZ]at r ⊢
  obtain⟨v,l',e,q,r⟩:=r
  exact⟨v,l',e,VR.sV a v n.1 q,cZ.sV l l' n.2 r⟩
end
def qH(P:Program)(f:FuncId)(args:List AV)(v:AV):Prop:=
 (∀ as w,(callFunc f as).run P w=.ok (.enter f as) w)/\ ∀ (g:G) (w:World) (vs:List Value),(∀ b,g.j3 b->b<w.heap.size)->qF g w->cZ g w args vs->
  Calls P f vs.toArray w fun e w'=> ∃ x,e=.returned x/\Lq w w'/\VR (gE fun b=>w.heap.size<=b/\b<w'.heap.size) w' v x
def alI(r:Ro):Option AV:=Ro.rec none (fun v h=>wA 8 h v) r
theorem Lr{P:Program}{call:iP}(hc:jL P call){f:FuncId}{args:List AV}{v':AV}(e:alI (call f args (kb 0))=some v')(ha:sa args=true):qH P f args v':=by
 cases hr:call f args (kb 0)with
 |bad=>rw[hr]at e;cases e
 |ok v h'=>
 rw[hr]at e
 have hf:wA 8 h' v=some v':=e
 obtain⟨hen,Cf⟩:=hc f args (kb 0) v h' hr
 refine⟨hen,fun g w vs hi ht hv=>(Cf (gE g.j3) w vs (FA hi ht) (cZ.sV _ _ ha hv)).mono ?_⟩
 rintro e w' ⟨x,g',rfl,E,H',hx⟩
 refine⟨x,rfl,JB E,Vi H' (fun b k=>?_) 8 v v' x hf hx⟩
 rcases E.qV b k with⟨id,cs,s,e,_⟩|k1
 ·cases e
 ·obtain⟨id,cs,s,e,m⟩:=k
  obtain⟨_,_,_,hw,_⟩:=H'.row e m
  exact⟨k1,(Array.getElem?_eq_some_iff.1 hw).1⟩
end Go.Ab

noncomputable section
namespace Go.Ab
inductive Od where
 |t (i:Nat)
 |c (v:AV)
 |zz
 |w (o:Od)
inductive BF where
 |add|sub|mul|quo|rem|and|or|xor|andNot|shl|shr|lss|leq|gtr|geq
 |eqI (neg:Bool)|eqB (neg:Bool)|Kz (neg:Bool)|eqP (neg:Bool)|eqN (neg:Bool)|qf (neg:Bool) (l:List Bool)
inductive UF where
 |not|neg|xor|int (k:IntKind)
inductive jz where
 |mv (a:Od)|pk (c a b:Od)|nw (cs:List AV)|bx (a:Od)|bd (z:List AV) (ps:List (Nat×Nat×Od))|rw(n sz:Nat) (z:List AV) (ps:List (Nat×Od))
 |ld (sz:Nat) (agg:Bool) (a:Od)|sto (sz:Nat) (a b:Od)|nl (a:Od)|bn (f:BF) (a b:Od)|un (f:UF) (a:Od)|bys (a:Od)|bs (a:Od)|fn (f:FuncId) (cap:List Od)
 |mk (size bytes:Nat) (zero:List AV) (l c:Od)|slS (a:Od) (lo hi:Option Od)|slN (size:Nat) (a:Od) (lo hi:Option Od)|slA (n size:Nat) (a:Od) (lo hi:Option Od)
 |fa (off:Nat) (a:Od)|fd (off size:Nat) (agg:Bool) (a:Od)|ixS (size:Nat) (a i:Od)|ixA (n size:Nat) (a i:Od)|ix (n size:Nat) (agg:Bool) (a i:Od)|ixT (a i:Od)
 |ex (a:Od) (i:Nat)|lnT (a:Od)|ln (a:Od)|ap (size bytes:Nat) (s a:Od)|apZ (size bytes:Nat) (z:List AV) (s a:Od)|apS (bytes:Nat) (s a:Od)|mrk (a:Od)
 |cpy (size:Nat) (d s:Od)|emp (a b c:Od)|min (a b:Od)|max (a b:Od)|map|cap (a:Od)|bad|call (f:FuncId) (args:List Od)|callV (f:Od) (args:List Od)
 |gd (j:Od) (want:Bool) (f:jz)|mn (f:jz)
inductive uX where
 |fi
 |st (i:Nat) (f:jz) (k:uX)
 |sn (f:jz) (k:uX)
 |ck (s:Od) (f:jz) (k:uX)
inductive qR where
 |rg (r:uX)|sk|sq (a b:qR)|cif (c:Od) (a b:qR)|bl (id:Nat) (b:qR)|lp (b:qR)|ex (i:Nat)|rt|bad
structure xF where
 ntmps:Nat
 res:List RV
 code:qR
def cY(o:Od):jF:=Od.rec (fun i=>oT i) (fun v=>oC v) oX (fun _ ih=>wO ih) o
def BF.f:BF->AV->AV->Option AV
 | .add=>qi| .sub=>oe| .mul=>sL| .quo=>oO| .rem=>vQ| .and=>ya| .or=>zG| .xor=>EG| .andNot=>rS| .shl=>uQ| .shr=>vR
 | .lss=>sM| .leq=>xZ| .gtr=>tc| .geq=>nK
 | .eqI n=>yb n| .eqB n=>Bq n| .Kz n=>Br n| .eqP n=>CR n| .eqN n=>zE n| .qf n l=>Bv n l
def UF.f:UF->AV->Option AV
 | .not=>KA| .neg=>G9| .xor=>KB| .int k=>zL k
def HI(call:iP)(o:jz):jC:=match o with
 | .mv a=>mC (cY a)| .pk c a b=>sN (cY c) (cY a) (cY b)| .nw cs=>Ha cs| .bx a=>Bw (cY a)
 | .bd z ps=>qC z (ps.map fun p=>(p.1,p.2.1,cY p.2.2))| .rw n sz z ps=>zJ n sz z (ps.map fun p=>(p.1,cY p.2))
 | .ld sz agg a=>og sz agg (cY a)| .sto sz a b=>pL sz (cY a) (cY b)| .nl a=>zK (cY a)| .bn f a b=>sZ f.f (cY a) (cY b)| .un f a=>EH f.f (cY a)
 | .bys a=>rT (cY a)| .bs a=>yz (cY a)| .fn f cap=>Tw f (cap.map cY)| .mk s b z l c=>oP s b z (cY l) (cY c)
 | .slS a lo hi=>nT (cY a) (lo.map cY) (hi.map cY)| .slN s a lo hi=>j9 s (cY a) (lo.map cY) (hi.map cY)| .slA n s a lo hi=>lQ n s (cY a) (lo.map cY) (hi.map cY)
 | .fa off a=>jk off (cY a)| .fd off s g a=>pN off s g (cY a)| .ixS s a i=>vT s (cY a) (cY i)| .ixA n s a i=>yx n s (cY a) (cY i)| .ix n s g a i=>oI n s g (cY a) (cY i)| .ixT a i=>nU (cY a) (cY i)
 | .ex a i=>lC (cY a) i| .lnT a=>sO (cY a)| .ln a=>zN (cY a)| .ap s b x y=>ka s b (cY x) (cY y)| .apZ s b z x y=>tf s b z (cY x) (cY y)| .apS b x y=>vV b (cY x) (cY y)
 | .mrk a=>uS (cY a)| .cpy s d a=>oQ s (cY d) (cY a)| .emp a b c=>zP (cY a) (cY b) (cY c)| .min a b=>Bx (cY a) (cY b)| .max a b=>Bz (cY a) (cY b)| .map=>KC| .cap a=>zM (cY a)| .bad=>iw
 | .call f args=>yc call f (args.map cY)| .callV f args=>th call (cY f) (args.map cY)
 | .gd j want f=>gF (cY j) want (HI call f)| .mn f=>mn (HI call f)
def MX(call:iP)(r:uX):qh:=
 uX.rec Go.Ab.fi (fun i f _ ih=>st (sT i) (HI call f) ih) (fun f _ ih=>sn (HI call f) ih) (fun s f _ ih=>ck (cY s) (HI call f) ih) r
def ly(call:iP)(n:Nat)(c:qR):Bn:=
 qR.rec (fun r=>cRg (MX call r)) uT (fun _ _ a b=>jw a b) (fun c _ _ a b=>TZ (cY c) a b) (fun id _ b=>B0 id b) (fun _ b=>T3 n b) (fun i=>YU i) jn EI c
def xF.fb(b:xF):Fb:=⟨b.ntmps,b.res,fun call n=>ly call n b.code⟩
namespace X
abbrev oC(v:AV):Od:=.c v
abbrev oT(i:Nat):Od:=.t i
abbrev oX:Od:=.zz
abbrev wO(o:Od):Od:=.w o
abbrev mC:=jz.mv
abbrev sN:=jz.pk
abbrev Ha:=jz.nw
abbrev Bw:=jz.bx
abbrev qC:=jz.bd
abbrev zJ:=jz.rw
abbrev og:=jz.ld
abbrev pL:=jz.sto
abbrev zK:=jz.nl
abbrev sZ:=jz.bn
abbrev EH:=jz.un
abbrev rT:=jz.bys
abbrev yz:=jz.bs
abbrev Tw:=jz.fn
abbrev oP:=jz.mk
abbrev nT:=jz.slS
abbrev j9:=jz.slN
abbrev lQ:=jz.slA
abbrev jk:=jz.fa
abbrev pN:=jz.fd
abbrev vT:=jz.ixS
abbrev yx:=jz.ixA
abbrev oI:=jz.ix
abbrev nU:=jz.ixT
abbrev lC:=jz.ex
abbrev sO:=jz.lnT
abbrev zN:=jz.ln
abbrev ka:=jz.ap
abbrev tf:=jz.apZ
abbrev vV:=jz.apS
abbrev uS:=jz.mrk
abbrev oQ:=jz.cpy
abbrev zP:=jz.emp
abbrev Bx:=jz.min
abbrev Bz:=jz.max
abbrev KC:=jz.map
abbrev zM:=jz.cap
abbrev iw:=jz.bad
abbrev yc(_:Unit)(f:FuncId)(args:List Od):=jz.call f args
abbrev th(_:Unit)(f:Od)(args:List Od):=jz.callV f args
abbrev gF:=jz.gd
abbrev mn:=jz.mn
abbrev fi:=uX.fi
abbrev st:=uX.st
abbrev sn:=uX.sn
abbrev ck:=uX.ck
abbrev cRg:=qR.rg
abbrev uT:=qR.sk
abbrev jw:=qR.sq
abbrev TZ:=qR.cif
abbrev B0:=qR.bl
abbrev T3(_:Unit)(b:qR):=qR.lp b
abbrev YU:=qR.ex
abbrev jn:=qR.rt
abbrev EI:=qR.bad
abbrev qi:=BF.add
abbrev oe:=BF.sub
abbrev sL:=BF.mul
abbrev oO:=BF.quo
abbrev vQ:=BF.rem
abbrev ya:=BF.and
abbrev zG:=BF.or
abbrev EG:=BF.xor
abbrev rS:=BF.andNot
abbrev uQ:=BF.shl
abbrev vR:=BF.shr
abbrev sM:=BF.lss
abbrev xZ:=BF.leq
abbrev tc:=BF.gtr
abbrev nK:=BF.geq
abbrev yb:=BF.eqI
abbrev Bq:=BF.eqB
abbrev Br:=BF.Kz
abbrev CR:=BF.eqP
abbrev zE:=BF.eqN
abbrev Bv:=BF.qf
abbrev KA:=UF.not
abbrev G9:=UF.neg
abbrev KB:=UF.xor
abbrev zL:=UF.int
abbrev alJ(n:Nat)(r:List RV)(b:Unit->Unit->qR):xF:=⟨n,r,b () ()⟩
end X
end Go.Ab

noncomputable section
namespace Go.Ab
namespace Lf
inductive Ty where
 |int (k:IntKind)|bool|str|ca (t:Ty)|pair (a b:Ty)
@[reducible] noncomputable def den(t:Ty):Type:=Ty.rec (fun _=>Int) Bool ByteArray (fun _ ih=>List ih) (fun _ _ a b=>a×b) t
def cr(t:Ty):den t:=Ty.rec (motive:=den) (fun _=>(0:Int)) false ByteArray.empty (fun _ _=>[]) (fun _ _ a b=>(a,b)) t
def size(t:Ty):Nat:=Ty.rec (motive:=fun _=>Nat) (fun _=>1) 1 1 (fun _ _=>1) (fun _ _ a b=>Nat.add a b) t
def yk:(a b:Ty)->Option (PLift (a=b))
 | .int k,.int k'=>if h:k=k' then some ⟨by rw[h]⟩else none
 | .bool,.bool=>some ⟨rfl⟩
 | .str,.str=>some ⟨rfl⟩
 | .ca a,.ca b=>match yk a b with
  |some ⟨h⟩=>some ⟨by rw[h]⟩
  |none=>none
 | .pair a b,.pair c d=>match yk a c with
  |some ⟨h⟩=>match yk b d with
   |some ⟨k⟩=>some ⟨by rw[h,k]⟩
   |none=>none
  |none=>none
 | _,_=>none
inductive Sv where
 |i (k:IntKind) (n:Int)
 |b (b:Bool)
 |a (v:AV)
 |c (m:Nat) (t:Ty) (x:den t)
 |ag (l:List Sv)
 |tu (l:List Sv)
 |fn (f:FuncId) (l:List Sv)
 |rf (r o:Nat)
 |re (r sz i o:Nat)
 |os (r sz:Nat)
 |ss (r sz off n:Nat)
 |xo (r sz off n:Nat)
 |zp (l:List Sv)
inductive Row where
 |o (g:Nat) (l:List Sv)
 |l (t:Ty) (x:List (den t))
 |zo (l:List Sv)
 |z (t:Ty) (x:List (den t))
structure Hq where
 next:Nat
 cw:Tr Row
abbrev Tq:=F8 (F8 (F8 (Option Sv)))
def Tq.at(t:Tq)(i:Nat):Option Sv:=((t.Ex (i / 64)).Ex (i / 8 % 8)).Ex (i % 8)
def Tq.put(t:Tq)(i:Nat)(v:Option Sv):Tq:=t.GX ((t.Ex (i / 64)).GX (((t.Ex (i / 64)).Ex (i / 8 % 8)).GX v (i % 8)) (i / 8 % 8)) (i / 64)
def Tq.none:Tq:=F8.all (F8.all (F8.all Option.none))
inductive T (α:Type) where
 |bad
 |ok (a:α)
 |br (c:Bool) (a b:T α)
 |ck (c:Bool) (a:T α)
def T.val{α:Type}(x:T α):Option α:=T.rec (motive:=fun _=>Option α) none (fun a=>some a) (fun c _ _ a b=>bif c then a else b) (fun c _ a=>bif c then a else none) x
def T.bd{α β:Type}(x:T α)(f:α->T β):T β:=T.rec (motive:=fun _=>T β) .bad (fun a=>f a) (fun c _ _ a b=>.br c a b) (fun c _ a=>.ck c a) x
def T.of{α:Type}:Option α->T α
 |some a=>.ok a
 |none=>.bad
inductive LB where
 |l (b:Bool)
 |t (b:Bool)
def LB.v:LB->Bool
 | .l b=>b
 | .t b=>b
def LB.and:LB->LB->LB
 | .l true,y=>y
 | .l false,_=>.l false
 | .t _,.l false=>.l false
 | .t a,.l true=>.t a
 | .t a,.t b=>.t (a&&b)
def ckL{α:Type}(c:LB)(x:T α):T α:=match c with
 | .l true=>x
 | .l false=>.bad
 | .t b=>.ck b x
def svB:LB->Sv
 | .l b=>.b b
 | .t b=>.c 0 .bool b
def Sv.cells:Sv->List Sv
 | .ag l=>l
 |w=>[w]
def FC:Sv->Bool
 | .ag _| .tu _=>false
 | _=>true
def Zb:AV->Bool
 | .sc _| .mB| .sK| .any=>true
 | _=>false
def ofA:AV->Option Sv
 | .int k n=>some (.i k n)
 | .bool b=>some (.b b)
 | .sc v=>some (.a (.sc v))
 | .mB=>some (.a .mB)
 | .sK=>some (.a .sK)
 | .yv []=>some (.tu [])
 | .fn f []=>some (.fn f [])
 | _=>none
def Ls(l:List AV):Option (List Sv):=List.rec (some []) (fun a _ ih=>match ofA a with
 |some b=>match ih with
  |some r=>some (b::r)
  |none=>none
 |none=>none) l
def ng(o:Od)(t:Tq):Option Sv:=match o with
 | .t i=>bif Nat.blt i 512 then t.at i else none
 | .c v=>ofA v
 | _=>none
def opw(o:Od)(t:Tq):Option Sv:=match o with
 | .w o=>ng o t
 | _=>none
def OX(l:List Od)(t:Tq):Option (List Sv):=List.rec (some []) (fun o _ ih=>match ng o t with
 |some v=>match ih with
  |some vs=>some (v::vs)
  |none=>none
 |none=>none) l
def toN:Sv->Option (IntKind×Int)
 | .i k n=>some (k,n)
 | .c _ (.int k) x=>some (k,x)
 | _=>none
def toB:Sv->Option LB
 | .b b=>some (.l b)
 | .c _ .bool x=>some (.t x)
 | _=>none
def toS:Sv->Option (Bool×ByteArray)
 | .a (.sc (.string s))=>some (true,s)
 | .c _ .str x=>some (false,x)
 | _=>none
def iA(k:IntKind)(a b:Int):Int:=ja k (a+b)
def il(k:IntKind)(a b:Int):Int:=ja k (a - b)
def vt(k:IntKind)(a b:Int):Int:=ja k (a*b)
def Vj(k:IntKind)(a b:Int):Int:=ja k (Int.tdiv a b)
def aaX(_k:IntKind)(a b:Int):Int:=Int.tmod a b
def intOf:Option AV->Int
 |some (.int _ n)=>n
 | _=>0
def FD(k:IntKind)(a b:Int):Int:=intOf (TU (.int k a) (.int k b))
def xG(k:IntKind)(a b:Int):Int:=intOf (bOr (.int k a) (.int k b))
def aaY(k:IntKind)(a b:Int):Int:=intOf (TW (.int k a) (.int k b))
def Vk(k:IntKind)(a b:Int):Int:=intOf (rS (.int k a) (.int k b))
def BJ(k:IntKind)(a b:Int):Int:=intOf (G6 (.int k a) (.int .u64 b))
def pX(k:IntKind)(a b:Int):Int:=intOf (G7 (.int k a) (.int .u64 b))
def agI(k:IntKind)(a:Int):Int:=ja k (0 - a)
def agJ(k:IntKind)(a:Int):Int:=intOf (KB (.int k a))
def cE(k:IntKind)(a:Int):Int:=ja k a
inductive Cls where
 |ar (f:IntKind->Int->Int->Int)
 |dv (f:IntKind->Int->Int->Int)
 |sh (f:IntKind->Int->Int->Int)
 |cm (f:Int->Int->Bool)
 |no
def OY:BF->Cls
 | .add=>.ar iA| .sub=>.ar il| .mul=>.ar vt| .and=>.ar FD| .or=>.ar xG| .xor=>.ar aaY| .andNot=>.ar Vk
 | .quo=>.dv Vj| .rem=>.dv aaX| .shl=>.sh BJ| .shr=>.sh pX
 | .lss=>.cm fun a b=>decide (a<b)| .leq=>.cm fun a b=>decide (a<=b)| .gtr=>.cm fun a b=>decide (b<a)| .geq=>.cm fun a b=>decide (b<=a)
 | .eqI neg=>.cm (match neg with|false=>fun a b=>decide (a=b)|true=>fun a b=> !decide (a=b))
 | _=>.no
def OZ:Sv->Bool
 | .i _ _=>true
 | _=>false
def Vl(i:Bool)(x y:Sv):Option LB:=match i with
 |true=>match x,y with
  | .i k a,.i k' b=>bif mK k k' then some (.l (eqI a b))else none
  |x,y=>match toN x,toN y with
   |some (k,a),some (k',b)=>bif mK k k' then some (.t (decide (a=b)))else none
   | _,_=>none
 |false=>match toB x,toB y with
  |some (.l a),some (.l b)=>some (.l (!(xor a b)))
  |some a,some b=>some (.t (!(xor a.v b.v)))
  | _,_=>none
def aaZ(l:List Bool):List Sv->List Sv->Option LB:=
 List.rec (fun _ _=>some (.l true)) (fun i _ ih xs ys=>match xs,ys with
  |x::xs,y::ys=>match Vl i x y with
   |some c=>match ih xs ys with
    |some d=>some (c.and d)
    |none=>none
   |none=>none
  | _,_=>none) l
def aa0(neg:Bool)(c:LB):LB:=match neg,c with
 |false,c=>c
 |true,.l b=>.l (!b)
 |true,.t b=>.t (!b)
def O0:Sv->Bool
 | .rf _ _| .re _ _ _ _| .zp _=>true
 | _=>false
def aa1(f:BF)(x y:Sv):T Sv:=match x,y with
 | .i k a,.i k' b=>(match f.f (.int k a) (.int k' b)with
  |some (.int k r)=>.ok (.i k r)
  |some (.bool r)=>.ok (.b r)
  | _=>.bad)
 |x,y=>match toN x,toN y with
  |some (k,a),some (k',b)=>(match OY f with
   | .ar g=>bif mK k k' then .ok (.c 0 (.int k) (g k a b))else .bad
   | .dv g=>bif mK k k' then(bif OZ y then(bif eqI b 0 then .bad else .ok (.c 0 (.int k) (g k a b)))else .ck (!decide (b=0)) (.ok (.c 0 (.int k) (g k a b))))else .bad
   | .sh g=>(bif OZ y then(bif oD b 0 then .bad else .ok (.c 0 (.int k) (g k a b)))else .ck (decide (0<=b)) (.ok (.c 0 (.int k) (g k a b))))
   | .cm g=>bif mK k k' then .ok (.c 0 .bool (g a b))else .bad
   | .no=>.bad)
  | _,_=>.bad
def sBn(f:BF)(x y:Sv):T Sv:=match f with
 | .eqB neg=>match toB x,toB y with
  |some (.l a),some (.l b)=>.ok (.b (bif neg then xor a b else !(xor a b)))
  |some a,some b=>.ok (.c 0 .bool (match neg with|true=>xor a.v b.v|false=> !(xor a.v b.v)))
  | _,_=>.bad
 | .Kz neg=>match toS x,toS y with
  |some (true,a),some (true,b)=>.ok (.b (bif neg then !(eqStr a b)else eqStr a b))
  |some (_,a),some (_,b)=>.ok (.c 0 .bool (match neg with|true=> !(eqStr a b)|false=>eqStr a b))
  | _,_=>.bad
 | .eqP neg=>match x,y with
  | .a (.sc (.pointer none)),.a (.sc (.pointer none))=>.ok (.b (!neg))
  | .a (.sc (.pointer none)),y=>bif O0 y then .ok (.b neg)else .bad
  |x,.a (.sc (.pointer none))=>bif O0 x then .ok (.b neg)else .bad
  | _,_=>.bad
 | .eqN neg=>match x,y with
  | .a v,.a w=>bif isNil w then(match CQ v with
   |some b=>.ok (.b (bif neg then !b else b))
   |none=>.bad)else .bad
  | .xo _ _ _ _,.a w=>bif isNil w then .ok (.b neg)else .bad
  | .c _ (.ca _) x,.a w=>bif isNil w then .ck (!(Nat.beq x.length 0)) (.ok (.b neg))else .bad
  | _,_=>.bad
 | .qf neg l=>match x,y with
  | .ag xs,.ag ys=>match aaZ l xs ys with
   |some c=>.ok (svB (aa0 neg c))
   |none=>.bad
  | _,_=>.bad
 |f=>aa1 f x y
def aa3(f:UF)(x:Sv):Option Sv:=match f with
 | .not=>match toB x with
  |some (.l b)=>some (.b (!b))
  |some (.t b)=>some (.c 0 .bool (!b))
  |none=>none
 | .neg=>match x with
  | .i k n=>some (.i k (agI k n))
  | .c _ (.int k) n=>some (.c 0 (.int k) (agI k n))
  | _=>none
 | .xor=>match x with
  | .i k n=>some (.i k (agJ k n))
  | .c _ (.int k) n=>some (.c 0 (.int k) (agJ k n))
  | _=>none
 | .int k=>match x with
  | .i _ n=>some (.i k (cE k n))
  | .c _ (.int _) n=>some (.c 0 (.int k) (cE k n))
  | _=>none
def qI(t:Ty):den t->List Sv:=
 Ty.rec (motive:=fun t=>den t->List Sv) (fun k x=>[.c 0 (.int k) x]) (fun x=>[.c 0 .bool x]) (fun x=>[.c 0 .str x]) (fun t _ x=>[.c 0 (.ca t) x]) (fun _ _ vi zF x=>app (vi x.1) (zF x.2)) t
def agK(l:List Sv)(off n:Nat):Option (List Sv):=match tk n (dp off l)with
 |r=>bif Nat.beq (len r) n then some r else none
def Ap(agg:Bool)(l:List Sv)(off sz:Nat):Option Sv:=match agK l off sz with
 |none=>none
 |some r=>bif agg then some (.ag r)else match r with
  | [c]=>some c
  | _=>none
def pe(l:List Sv)(off:Nat)(new:List Sv):List Sv:=app (tk off l) (app new (dp (Nat.add off (len new)) l))
def Dm(l:List (Nat×Nat×Sv)):List Sv->Option (List Sv):=
 List.rec (fun cells=>some cells) (fun p _ ih cells=>
  bif Nat.beq (len p.2.2.cells) p.2.1&&Nat.ble (Nat.add p.1 p.2.1) (len cells)then ih (pe cells p.1 p.2.2.cells)else none) l
def Dn(l:List (Nat×Nat×Od))(t:Tq):Option (List (Nat×Nat×Sv)):=
 List.rec (some []) (fun p _ ih=>match ng p.2.2 t with
  |some v=>match ih with
   |some vs=>some ((p.1,p.2.1,v)::vs)
   |none=>none
  |none=>none) l
def Dp(l:List (Nat×Od))(t:Tq):Option (List (Nat×Sv)):=
 List.rec (some []) (fun p _ ih=>match ng p.2 t with
  |some v=>match ih with
   |some vs=>some ((p.1,v)::vs)
   |none=>none
  |none=>none) l
def Aq(size:Nat)(l:List (Nat×Sv)):Nat->Option (List Sv):=
 List.rec (fun _=>some []) (fun p _ ih i=>
  bif Nat.beq p.1 i&&Nat.beq (len p.2.cells) size then(match ih (Nat.add i 1)with|some r=>some (app p.2.cells r)|none=>none)else none) l
def aa4(n:Nat)(z:List Sv):List Sv:=Nat.rec [] (fun _ ih=>app z ih) n
def Dq(size:Nat)(l:List (Nat×Sv)):List (Nat×Nat×Sv):=List.rec [] (fun p _ ih=>(Nat.mul p.1 size,size,p.2)::ih) l
def FF(n size:Nat)(zero:List Sv)(l:List (Nat×Sv)):Option (List Sv):=
 match bif Nat.beq (len l) n then Aq size l 0 else none with
 |some cs=>some cs
 |none=>Dm (Dq size l) (aa4 n zero)
def jG(h:Hq)(r:Row):Hq:=⟨Nat.add h.next 1,h.cw.set h.next (some r)⟩
def mG(h:Hq)(id:Nat)(r:Option Row):Hq:=⟨h.next,h.cw.set id r⟩
def rdS(t:Ty)(f:List Sv->Hq->Option (den t×List Sv×Hq))(n:Nat):List Sv->Hq->Option (List (den t)×Hq):=
 Nat.rec (fun _ h=>some ([],h)) (fun _ ih l h=>match f l h with
  |some (x,r,h)=>match ih r h with
   |some (xs,h)=>some (x::xs,h)
   |none=>none
  |none=>none) n
def Zc(t:Ty)(f:List Sv->Hq->Option (den t×List Sv×Hq))(n off:Nat)(l:List Sv)(h:Hq):Option (List (den t)×Hq):=bif Nat.ble off (len l)then rdS t f n (dp off l) h else none
def jf:AV->Bool
 | .mB=>true
 |a=>vh a
def asL(t:Ty)(f:List Sv->Hq->Option (den t×List Sv×Hq))(v:Sv)(h:Hq):Option (List (den t)×Hq):=match v with
 | .a w=>bif jf w then some ([],h)else none
 | .c _ (.ca t') x=>match yk t' t with
  |some ⟨e⟩=>some (e▸x,h)
  |none=>none
 | .os r _=>match h.cw.get r with
  |some (.l t' x)=>(match yk t' t with
   |some ⟨e⟩=>some (e▸x,mG h r (some (.z t' x)))
   |none=>none)
  |some (.z t' x)=>(match yk t' t with
   |some ⟨e⟩=>some (e▸x,h)
   |none=>none)
  | _=>none
 | .ss r _ off n=>match h.cw.get r with
  |some (.l t' x)=>(match yk t' t with
   |some ⟨e⟩=>some (((e▸x:List (den t)).drop off).take n,mG h r (some (.z t' x)))
   |none=>none)
  |some (.z t' x)=>(match yk t' t with
   |some ⟨e⟩=>some (((e▸x:List (den t)).drop off).take n,h)
   |none=>none)
  | _=>none
 | .xo r sz off n=>bif Nat.beq sz (size t)then(match h.cw.get r with
  |some (.o _ l)=>Zc t f n off l (mG h r (some (.zo l)))
  |some (.zo l)=>Zc t f n off l h
  | _=>none)else none
 | _=>none
def Zd(t:Ty):List Sv->Hq->Option (den t×List Sv×Hq):=
 Ty.rec (motive:=fun t=>List Sv->Hq->Option (den t×List Sv×Hq))
  (fun k l h=>match l with
   |v::r=>match toN v with
    |some (k',n)=>bif mK k k' then some (n,r,h)else none
    |none=>none
   | []=>none)
  (fun l h=>match l with
   |v::r=>match toB v with
    |some b=>some (b.v,r,h)
    |none=>none
   | []=>none)
  (fun l h=>match l with
   |v::r=>match toS v with
    |some (_,s)=>some (s,r,h)
    |none=>none
   | []=>none)
  (fun t ih l h=>match l with
   |v::r=>match asL t ih v h with
    |some (x,h)=>some (x,r,h)
    |none=>none
   | []=>none)
  (fun _ _ vi zF l h=>match vi l h with
   |some (x,r,h)=>match zF r h with
    |some (y,r,h)=>some ((x,y),r,h)
    |none=>none
   |none=>none) t
def lst(t:Ty)(v:Sv)(h:Hq):Option (List (den t)×Hq):=asL t (Zd t) v h
def agL(v:Sv)(h:Hq):Option Ty:=match v with
 | .c _ (.ca t) _=>some t
 | .os r _=>match h.cw.get r with
  |some (.l t _)=>some t
  |some (.z t _)=>some t
  | _=>none
 | .ss r _ _ _=>match h.cw.get r with
  |some (.l t _)=>some t
  |some (.z t _)=>some t
  | _=>none
 | _=>none
def aa5(v:Sv)(h:Hq):Option Sv:=match v with
 | .a w=>bif jf w then some (.i .i64 0)else none
 | .c _ (.ca _) x=>some (.c 0 (.int .i64) (Int.ofNat x.length))
 | .os r _=>match h.cw.get r with
  |some (.l _ x)=>some (.c 0 (.int .i64) (Int.ofNat x.length))
  |some (.z _ x)=>some (.c 0 (.int .i64) (Int.ofNat x.length))
  | _=>none
 | .ss _ _ _ n=>some (.c 0 (.int .i64) (Int.ofNat n))
 | .xo _ _ _ n=>some (.i .i64 (.ofNat n))
 | _=>none
end Lf
end Go.Ab

noncomputable section
namespace Go.Ab
namespace Lf
abbrev OpR:=T (Sv×Tq×Hq)
abbrev jT:=Tq->Hq->OpR
abbrev jH:=FuncId->List Sv->Hq->T (Sv×Hq)
def okV(v:Sv)(t:Tq)(h:Hq):OpR:=.ok (v,t,h)
def okO(v:Option Sv)(t:Tq)(h:Hq):OpR:=match v with
 |some v=>.ok (v,t,h)
 |none=>.bad
def tG:Sv:=.tu []
def Ar(x:Od):jT:=fun t h=>okO (ng x t) t h
def vu{α:Type}(j:Od)(t:Tq)(a b:Tq->T α):T α:=match j with
 | .t i=>bif Nat.blt i 512 then(match t.at i with
  |some (.b c)=>bif c then a t else b t
  |some (.c _ .bool x)=>.br x (a (t.put i (some (.b true)))) (b (t.put i (some (.b false))))
  | _=>.bad)else .bad
 | .c (.bool c)=>bif c then a t else b t
 | _=>.bad
def Ze(c a b:Od):jT:=fun t h=>vu c t (fun t=>Ar a t h) (fun t=>Ar b t h)
def aa6(cs:List AV):jT:=fun t h=>match Ls cs with|some l=>okV (.rf h.next 0) t (jG h (.o 0 l))|none=>.bad
def aa7(a:Od):jT:=fun t h=>match ng a t with|some v=>okV (.rf h.next 0) t (jG h (.o 0 v.cells))|none=>.bad
def HJ(z:List AV)(ps:List (Nat×Nat×Od)):jT:=fun t h=>match Ls z with
 |some z=>match Dn ps t with
  |some vs=>match Dm vs z with
   |some cs=>okV (.ag cs) t h
   |none=>.bad
  |none=>.bad
 |none=>.bad
def aa8(n sz:Nat)(z:List AV)(ps:List (Nat×Od)):jT:=fun t h=>match Dp ps t with
 |some vs=>bif Nat.beq n 0 then(match vs with| []=>okV (.a .sK) t h| _=>.bad)else(match Ls z with
  |some z=>match FF n sz z vs with
   |some cs=>bif iD FC cs&&(Nat.blt 0 sz&&Nat.beq (len cs) (Nat.mul n sz))then okV (.xo h.next sz 0 n) t (jG h (.o 0 cs))else .bad
   |none=>.bad
  |none=>.bad)
 |none=>.bad
def O1(h:Hq)(r sz i:Nat):Option (List Sv):=match h.cw.get r with
 |some (.l t x)=>bif Nat.beq sz (size t)then some (qI t (x.getD i (cr t)))else none
 |some (.z t x)=>bif Nat.beq sz (size t)then some (qI t (x.getD i (cr t)))else none
 | _=>none
def As(h:Hq)(r:Nat):Option (List Sv):=match h.cw.get r with
 |some (.o _ l)=>some l
 |some (.zo l)=>some l
 | _=>none
def Cn(sz:Nat)(agg:Bool)(a:Sv)(h:Hq):Option Sv:=bif Nat.blt 0 sz then(match a with
 | .rf r o=>match As h r with
  |some l=>Ap agg l o sz
  |none=>none
 | .re r s i o=>match O1 h r s i with
  |some l=>Ap agg l o sz
  |none=>none
 | .zp l=>Ap agg l 0 sz
 | _=>none)else none
def JD(sz:Nat)(agg:Bool)(a:Od):jT:=fun t h=>match ng a t with
 |some p=>okO (Cn sz agg p h) t h
 |none=>.bad
def HK(sz:Nat)(a b:Od):jT:=fun t h=>match ng b t with
 |some v=>bif Nat.beq (len v.cells) sz&&iD FC v.cells then(match ng a t with
  |some (.rf r o)=>match h.cw.get r with
   |some (.o g l)=>bif Nat.ble (Nat.add o (len v.cells)) (len l)then okV tG t (mG h r (some (.o g (pe l o v.cells))))else .bad
   | _=>.bad
  |some (.re r s i o)=>match h.cw.get r with
   |some (.l ty x)=>bif Nat.beq s (size ty)&&Nat.ble (Nat.add o (len v.cells)) s then(match Zd ty (pe (qI ty (x.getD i (cr ty))) o v.cells) h with
    |some (y,[],h')=>(match h'.cw.get r with
     |some (.l _ _)=>okV tG t (mG h' r (some (.l ty (x.set i y))))
     | _=>.bad)
    | _=>.bad)else .bad
   | _=>.bad
  | _=>.bad)else .bad
 |none=>.bad
def JE(a:Od):jT:=fun t h=>match ng a t with
 |some (.rf r o)=>okV (.rf r o) t h
 |some (.re r s i o)=>okV (.re r s i o) t h
 |some (.zp c)=>okV (.zp c) t h
 |some (.fn f c)=>okV (.fn f c) t h
 | _=>.bad
def Vm(f:BF)(a b:Od):jT:=fun t h=>match ng a t with
 |some x=>match ng b t with
  |some y=>(sBn f x y).bd fun v=>okV v t h
  |none=>.bad
 |none=>.bad
def sUn(f:UF)(a:Od):jT:=fun t h=>match ng a t with
 |some x=>okO (aa3 f x) t h
 |none=>.bad
def sFn(f:FuncId)(cap:List Od):jT:=fun t h=>match OX cap t with
 |some vs=>okV (.fn f vs) t h
 |none=>.bad
def sd(off:Nat)(a:Od):jT:=fun t h=>match ng a t with
 |some (.rf r o)=>okV (.rf r (Nat.add o off)) t h
 |some (.re r s i o)=>okV (.re r s i (Nat.add o off)) t h
 |some (.zp l)=>bif Nat.ble off (len l)then okV (.zp (dp off l)) t h else .bad
 | _=>.bad
def Dr(off size:Nat)(agg:Bool)(a:Od):jT:=fun t h=>match ng a t with
 |some (.ag cs)=>okO (Ap agg cs off size) t h
 | _=>.bad
def ij(i n:Int):Bool:=decide (0<=i)&&decide (i<n)
def Vn(r s off:Nat)(n:Int)(t:Tq)(h:Hq):Nat->Nat->T (Sv×Tq×Hq):=fun f=>Nat.rec (fun _=>.bad) (fun f ih j=>bif Nat.beq f 0 then .ck (decide (n=Int.ofNat j)) (okV (.rf r (Nat.add off (Nat.mul j s))) t h)else .br (decide (n=Int.ofNat j)) (okV (.rf r (Nat.add off (Nat.mul j s))) t h) (ih (Nat.succ j))) f
theorem xH{r s off:Nat}{n:Int}{t:Tq}{h:Hq}{y:Sv×Tq×Hq}: ∀ {f j:Nat},(Vn r s off n t h f j).val=some y-> ∃ i,n=((i:Nat):Int)/\i<j+f/\(okV (.rf r (Nat.add off (Nat.mul i s))) t h:T (Sv×Tq×Hq)).val=some y
 |0,j,e=>by cases e
 |f+1,j,e=>by
  have e:(bif Nat.beq f 0 then(.ck (decide (n=Int.ofNat j)) (okV (.rf r (Nat.add off (Nat.mul j s))) t h):T (Sv×Tq×Hq))else .br (decide (n=Int.ofNat j)) (okV (.rf r (Nat.add off (Nat.mul j s))) t h) (Vn r s off n t h f (Nat.succ j))).val=some y:=e
  cases hf:Nat.beq f 0 with
  |true=>
   rw[hf,cond_true]at e
   have e:(bif decide (n=Int.ofNat j)then(okV (.rf r (Nat.add off (Nat.mul j s))) t h:T (Sv×Tq×Hq)).val else none)=some y:=e
   by_cases q:n=Int.ofNat j
   ·rw[decide_eq_true q]at e
    exact⟨j,q,by omega,e⟩
   ·rw[decide_eq_false q]at e
    cases e
  |false=>
   rw[hf,cond_false]at e
   have e:(bif decide (n=Int.ofNat j)then(okV (.rf r (Nat.add off (Nat.mul j s))) t h:T (Sv×Tq×Hq)).val else(Vn r s off n t h f (Nat.succ j)).val)=some y:=e
   by_cases q:n=Int.ofNat j
   ·rw[decide_eq_true q]at e
    exact⟨j,q,by omega,e⟩
   ·rw[decide_eq_false q]at e
    obtain⟨i,a,b,c⟩:=xH e
    exact⟨i,a,by omega,c⟩
def Vo(size:Nat)(a i:Od):jT:=fun t h=>match ng i t with
 |some iv=>match toN iv with
  |some (_,n)=>match ng a t with
   |some (.os r s)=>match h.cw.get r with
    |some (.l _ x)=>bif Nat.beq s size then .ck (ij n (Int.ofNat x.length)) (okV (.re r s n.toNat 0) t h)else .bad
    |some (.z _ x)=>bif Nat.beq s size then .ck (ij n (Int.ofNat x.length)) (okV (.re r s n.toNat 0) t h)else .bad
    | _=>.bad
   |some (.ss r s off m)=>bif Nat.beq s size then .ck (ij n (Int.ofNat m)) (okV (.re r s (off+n.toNat) 0) t h)else .bad
   |some (.xo r s off m)=>match iv with
    | .i _ (.ofNat k)=>bif Nat.beq s size&&Nat.blt k m then okV (.rf r (Nat.add off (Nat.mul k s))) t h else .bad
    | _=>bif Nat.beq s size then Vn r s off n t h m 0 else .bad
   |some (.c _ (.ca ty) x)=>bif Nat.beq size (Lf.size ty)then .ck (ij n (Int.ofNat x.length)) (okV (.zp (qI ty (x.getD n.toNat (cr ty)))) t h)else .bad
   | _=>.bad
  |none=>.bad
 |none=>.bad
def Vp(n size:Nat)(a i:Od):jT:=fun t h=>match ng i t with
 |some (.i _ (.ofNat k))=>bif Nat.blt k n then(match ng a t with
  |some (.rf r o)=>okV (.rf r (Nat.add o (Nat.mul k size))) t h
  |some (.zp l)=>bif Nat.ble (Nat.mul k size) (len l)then okV (.zp (dp (Nat.mul k size) l)) t h else .bad
  | _=>.bad)else .bad
 | _=>.bad
def HL(k:IntKind)(l:List Sv):Option (List Int):=List.rec (some []) (fun v _ ih=>match toN v with
 |some (k',n)=>bif mK k k' then(match ih with
  |some r=>some (n::r)
  |none=>none)else none
 |none=>none) l
def Ds(n size:Nat)(agg:Bool)(a i:Od):jT:=fun t h=>match ng a t with
 |some (.ag cs)=>match ng i t with
  |some (.i _ (.ofNat k))=>bif Nat.blt k n then okO (Ap agg cs (Nat.mul k size) size) t h else .bad
  |some (.c _ (.int _) x)=>bif agg|| !(Nat.beq size 1)then .bad else(match cs with
   |v::_=>match toN v with
    |some (k,_)=>match HL k cs with
     |some l=>bif Nat.beq (len l) n then .ck (ij x (Int.ofNat n)) (okV (.c 0 (.int k) (l.getD x.toNat 0)) t h)else .bad
     |none=>.bad
    |none=>.bad
   | []=>.bad)
  | _=>.bad
 | _=>.bad
def zi(a i:Od):jT:=fun t h=>match ng a t with
 |some v=>match toS v with
  |some (_,s)=>match ng i t with
   |some iv=>match toN iv with
    |some (_,n)=>.ck (ij n (Int.ofNat s.size)) (okV (.c 0 (.int .u8) (Int.ofNat ((s.data.toList.getD n.toNat 0).toNat))) t h)
    |none=>.bad
   |none=>.bad
  |none=>.bad
 |none=>.bad
def JF(a:Od):jT:=fun t h=>match ng a t with
 |some v=>match toS v with
  |some (true,s)=>okV (.i .i64 (.ofNat s.size)) t h
  |some (false,s)=>okV (.c 0 (.int .i64) (Int.ofNat s.size)) t h
  |none=>.bad
 |none=>.bad
def wB(a:Od)(i:Nat):jT:=fun t h=>match ng a t with
 |some (.tu vs)=>okO (oH vs i) t h
 | _=>.bad
def iJ(a:Od):jT:=fun t h=>match opw a t with
 |some v=>okO (aa5 v h) t h
 |none=>.bad
def BK(o:Option Od)(t:Tq)(d:Sv):Option (Bool×Int):=match(match o with
 |none=>some d
 |some o=>ng o t)with
 |some v=>match toN v with
  |some (_,n)=>some (OZ v,n)
  |none=>none
 |none=>none
def jy(l u n:Int):Bool:=decide (0<=l)&&(decide (l<=u)&&decide (u<=n))
def brN{β:Type}(n:Int)(F:Nat->T β):Nat->Nat->T β:=fun f=>Nat.rec (fun _=>.bad) (fun f ih j=>bif Nat.beq f 0 then .ck (decide (n=Int.ofNat j)) (F j)else .br (decide (n=Int.ofNat j)) (F j) (ih (Nat.succ j))) f
theorem At{β:Type}{n:Int}{F:Nat->T β}{y:β}: ∀ {f j:Nat},(brN n F f j).val=some y-> ∃ i,n=((i:Nat):Int)/\i<j+f/\(F i).val=some y
 |0,j,e=>by cases e
 |f+1,j,e=>by
  have e:(bif Nat.beq f 0 then(.ck (decide (n=Int.ofNat j)) (F j):T β)else .br (decide (n=Int.ofNat j)) (F j) (brN n F f (Nat.succ j))).val=some y:=e
  cases hf:Nat.beq f 0 with
  |true=>
   rw[hf,cond_true]at e
   have e:(bif decide (n=Int.ofNat j)then(F j).val else none)=some y:=e
   by_cases q:n=Int.ofNat j
   ·rw[decide_eq_true q]at e
    exact⟨j,q,by omega,e⟩
   ·rw[decide_eq_false q]at e
    cases e
  |false=>
   rw[hf,cond_false]at e
   have e:(bif decide (n=Int.ofNat j)then(F j).val else(brN n F f (Nat.succ j)).val)=some y:=e
   by_cases q:n=Int.ofNat j
   ·rw[decide_eq_true q]at e
    exact⟨j,q,by omega,e⟩
   ·rw[decide_eq_false q]at e
    obtain⟨i,a,b,c⟩:=At e
    exact⟨i,a,by omega,c⟩
def wC(size:Nat)(a:Od)(lo hi:Option Od):jT:=fun t h=>match ng a t with
 |some v=>match aa5 v h with
  |some m=>match toN m with
   |some (_,n)=>match BK lo t (.i .i64 0)with
    |some (ll,l)=>match BK hi t m with
     |some (lu,u)=>(match v with
      | .a w=>bif vh w then .ck (jy l u n) (okV (.a w) t h)else .bad
      | .os r s=>bif Nat.beq s size then .ck (jy l u n) (okV (.ss r s l.toNat (u.toNat - l.toNat)) t h)else .bad
      | .ss r s off _=>bif Nat.beq s size then .ck (jy l u n) (okV (.ss r s (off+l.toNat) (u.toNat - l.toNat)) t h)else .bad
      | .xo r s off k=>bif ll&&lu then(bif (ll&&lu)&&(Nat.beq s size&&jy l u n)then okV (.xo r s (Nat.add off (Nat.mul l.toNat s)) (Nat.sub u.toNat l.toNat)) t h else .bad)else(bif Nat.beq s size then brN l (fun i=>brN u (fun j=>bif Nat.ble i j then okV (.xo r s (Nat.add off (Nat.mul i s)) (Nat.sub j i)) t h else .bad) (Nat.succ k) 0) (Nat.succ k) 0 else .bad)
      | .c _ (.ca ty) x=>bif Nat.beq size (Lf.size ty)then .ck (jy l u n) (okV (.c 0 (.ca ty) ((x.drop l.toNat).take (u.toNat - l.toNat))) t h)else .bad
      | _=>.bad)
     |none=>.bad
    |none=>.bad
   |none=>.bad
  |none=>.bad
 |none=>.bad
def wD(n size:Nat)(a:Od)(lo hi:Option Od):jT:=fun t h=>match ng a t with
 |some (.rf r o)=>match BK lo t (.i .i64 0)with
  |some (true,l)=>match BK hi t (.i .i64 (.ofNat n))with
   |some (true,u)=>match As h r with
    |some cs=>bif Nat.ble (Nat.add o (Nat.mul n size)) (len cs)&&(jy l u (Int.ofNat n)&&Nat.blt 0 size)then okV (.xo r size (Nat.add o (Nat.mul l.toNat size)) (Nat.sub u.toNat l.toNat)) t h else .bad
    |none=>.bad
   | _=>.bad
  | _=>.bad
 | _=>.bad
def Dt(a:Od)(lo hi:Option Od):jT:=fun t h=>match ng a t with
 |some v=>match toS v with
  |some (true,s)=>match BK lo t (.i .i64 0)with
   |some (true,l)=>match BK hi t (.i .i64 (.ofNat s.size))with
    |some (true,u)=>bif jy l u (Int.ofNat s.size)then okV (.a (.sc (.string (s.extract l.toNat u.toNat)))) t h else .bad
    | _=>.bad
   | _=>.bad
  | _=>.bad
 |none=>.bad
def roomy(bytes n:Nat):Bool:=decide (n*bytes<=70368744177664)&&decide (n<=70368744177664)
def wE(v:Sv)(h:Hq):Option (Nat×List Sv):=match v with
 | .a w=>bif jf w then some (0,[])else none
 | .xo r s off n=>match As h r with
  |some l=>bif Nat.ble (Nat.add off (Nat.mul n s)) (len l)then some (n,tk (Nat.mul n s) (dp off l))else none
  |none=>none
 | _=>none
def kill(v:Sv)(h:Hq):Option Hq:=match v with
 | .a _=>some h
 | .os r _=>match h.cw.get r with
  |some (.l _ _)=>some (mG h r none)
  | _=>none
 | .ss r _ _ _=>match h.cw.get r with
  |some (.l _ _)=>some (mG h r none)
  | _=>none
 | .xo r _ _ _=>match h.cw.get r with
  |some (.o _ _)=>some (mG h r none)
  | _=>none
 | _=>none
def O2(t:Ty)(v:Sv)(h:Hq):Option (List (den t)×Hq):=match v with
 | .os r _=>match h.cw.get r with
  |some (.l t' x)=>match yk t' t with
   |some ⟨e⟩=>some (e▸x,h)
   |none=>none
  | _=>none
 | .ss r _ off n=>match h.cw.get r with
  |some (.l t' x)=>match yk t' t with
   |some ⟨e⟩=>some (((e▸x:List (den t)).drop off).take n,h)
   |none=>none
  | _=>none
 | .a w=>bif jf w then some ([],h)else none
 | .xo r sz off n=>match h.cw.get r with
  |some (.o _ l)=>bif Nat.beq sz (size t)then Zc t (Zd t) n off l h else none
  | _=>none
 | _=>none
def Au(t:Ty)(v:Sv)(h:Hq):Option (List (den t)×Hq):=match O2 t v h with
 |some r=>some r
 |none=>lst t v h
def apT(bytes:Nat)(t:Ty)(s:Sv)(new:List (den t))(tq:Tq)(h:Hq):OpR:=match O2 t s h with
 |some (x,h1)=>match kill s h1 with
  |some h2=>.ck (roomy bytes (x.length+new.length)) (okV (.os h2.next (size t)) tq (jG h2 (.l t (app x new))))
  |none=>.bad
 |none=>.bad
def Vq(s:Sv)(d:Nat):Nat:=match s with
 | .os _ z=>z
 | .ss _ z _ _=>z
 | .xo _ z _ _=>z
 | _=>d
def O3(size bytes:Nat)(s x:Sv)(t:Tq)(h:Hq):OpR:=bif Nat.beq (Vq s size) size&&(Nat.beq (Vq x size) size&&Nat.blt 0 size)then(match wE x h with
 |some (0,_)=>(match s with
  | .a w=>bif vh w then okV s t h else .bad
  | .os _ _=>okV s t h
  | .ss _ _ _ _=>okV s t h
  | .xo _ _ _ _=>okV s t h
  | _=>.bad)
 |some (m,new)=>(match wE s h with
  |some (n,uL)=>match kill s h with
   |some h2=>bif roomy bytes (Nat.add n m)&&iD FC new then okV (.xo h2.next size 0 (Nat.add n m)) t (jG h2 (.o 0 (app uL new)))else .bad
   |none=>.bad
  |none=>match agL s h with
   |some ty=>bif Nat.beq size (Lf.size ty)then(match Au ty x h with
    |some (new,h1)=>apT bytes ty s new t h1
    |none=>.bad)else .bad
   |none=>.bad)
 |none=>(match agL x h with
  |some ty=>bif Nat.beq size (Lf.size ty)then(match Au ty x h with
   |some (new,h1)=>apT bytes ty s new t h1
   |none=>.bad)else .bad
  |none=>.bad))else .bad
def Du(size bytes:Nat)(s x:Od):jT:=fun t h=>match ng s t with
 |some s=>match ng x t with
  |some x=>O3 size bytes s x t h
  |none=>.bad
 |none=>.bad
def alM:AV->Option Ty
 | .int k _=>some (.int k)
 | .bool _=>some .bool
 | .sc (.string _)=>some .str
 | .sc (.slice none 0 0)=>some (.ca (.int .i64))
 | _=>none
def tyZ(l:List AV):Option Ty:=List.rec none (fun a r ih=>match alM a with
 |some t=>match r with
  | []=>some t
  | _=>match ih with
   |some u=>some (.pair t u)
   |none=>none
 |none=>none) l
def JG(z:List AV):Option ((t:Ty)×den t):=match tyZ z with
 |some t=>match Ls z with
  |some l=>match Zd t l ⟨0,.nil⟩with
   |some (x,[],_)=>some ⟨t,x⟩
   | _=>none
  |none=>none
 |none=>none
def O4(size bytes:Nat)(z:List AV)(s x:Od):jT:=fun t h=>match ng s t with
 |some sv=>match ng x t with
  |some xv=>match toN xv with
   |some (_,n)=>bif Nat.beq (Vq sv size) size then(match JG z with
    |some ⟨ty,y⟩=>bif Nat.beq size (Lf.size ty)&&Nat.beq size (len z)then(.ck (decide (0<=n)) (apT bytes ty sv (List.replicate n.toNat y) t h))else .bad
    |none=>.bad)else .bad
   |none=>.bad
  |none=>.bad
 |none=>.bad
def O5(bytes:Nat)(s x:Od):jT:=fun t h=>match ng s t with
 |some sv=>match ng x t with
  |some xv=>match toS xv with
   |some (_,y)=>bif Nat.beq (Vq sv 1) 1 then apT bytes (.int .u8) sv (y.data.toList.map fun b=>Int.ofNat b.toNat) t h else .bad
   |none=>.bad
  |none=>.bad
 |none=>.bad
def HM(x:Od):jT:=fun t h=>match ng x t with
 |some v=>match toS v with
  |some (_,y)=>okV (.os h.next 1) t (jG h (.l (.int .u8) (y.data.toList.map fun b=>Int.ofNat b.toNat)))
  |none=>.bad
 |none=>.bad
def aa'(x:Od):jT:=fun t h=>match ng x t with
 |some v=>(match Au (.int .u8) v h with
  |some (y,h1)=>okV (.c 0 .str (yy y)) t h1
  |none=>.bad)
 |none=>.bad
def Lt(a b:Od):Bool:=match a,b with
 | .t i,.t j=>Nat.beq i j
 | .c (.int _ m),.c (.int _ n)=>eqI m n
 | _,_=>false
def O6(size bytes:Nat)(z:List AV)(l c:Od):jT:=fun t h=>match ng l t with
 |some lv=>match ng c t with
  |some cv=>match toN lv with
   |some (_,l')=>match toN cv with
    |some (_,c')=>match JG z with
     |some ⟨ty,y⟩=>bif Nat.beq size (Lf.size ty)&&Nat.beq size (len z)then
      .ck ((decide (0<=l')&&decide (l'<=c'))&&decide (c'.toNat*bytes<=70368744177664))
       (okV (bif Lt l c then .os h.next size else .ss h.next size 0 l'.toNat) t (jG h (.l ty (List.replicate c'.toNat y))))else .bad
     |none=>.bad
    |none=>.bad
   |none=>.bad
  |none=>.bad
 |none=>.bad
def aba(x y z:Od):jT:=fun t h=>match ng y t with
 |some (.i _ (.ofNat 0))=>match ng z t with
  |some (.i _ (.ofNat 0))=>match opw x t with
   |some (.a w)=>bif jf w then okV (.a .mB) t h else .bad
   |some (.os _ _)=>okV (.a .mB) t h
   |some (.ss _ _ _ _)=>okV (.a .mB) t h
   |some (.xo _ _ _ _)=>okV (.a .mB) t h
   |some (.c _ (.ca _) _)=>okV (.a .mB) t h
   | _=>.bad
  | _=>.bad
 | _=>.bad
def jx(x:Od):jT:=fun t h=>match opw x t with
 |some (.a w)=>bif jf w then okV (.i .i64 0) t h else .bad
 | _=>.bad
def HN(mx:Bool)(a b:Od):jT:=fun t h=>match ng a t with
 |some x=>match ng b t with
  |some y=>match x,y with
   | .i k m,.i k' n=>bif mK k k' then okV (.i k (bif mx then(bif oD m n then n else m)else(bif oD n m then n else m))) t h else .bad
   |x,y=>match toN x,toN y with
    |some (k,m),some (k',n)=>bif mK k k' then okV (.c 0 (.int k) (match mx with|true=>max m n|false=>min m n)) t h else .bad
    | _,_=>.bad
  |none=>.bad
 |none=>.bad
def Vr(size:Nat)(sv:Sv)(r sz off n:Nat)(t:Tq)(h:Hq):OpR:=match h.cw.get r with
 |some (.l ty x)=>bif Nat.blt 0 size&&(Nat.beq sz size&&Nat.beq size (Lf.size ty))then(match Au ty sv h with
  |some (y,h1)=>(match h1.cw.get r with
   |some (.l _ _)=>okV (.c 0 (.int .i64) (Int.ofNat (min y.length n))) t (mG h1 r (some (.l ty (app (x.take off) (app (y.take (min y.length n)) (x.drop (Nat.add off (min y.length n))))))))
   | _=>.bad)
  |none=>.bad)else .bad
 | _=>.bad
def O7(size:Nat)(d s:Od):jT:=fun t h=>match opw s t with
 |some sv=>(match opw d t with
  |some (.os r sz)=>(match h.cw.get r with
   |some (.l _ x)=>Vr size sv r sz 0 x.length t h
   | _=>.bad)
  |some (.ss r sz off n)=>Vr size sv r sz off n t h
  | _=>.bad)
 |none=>.bad
def O8(call:jH)(f:FuncId)(args:List Od):jT:=fun t h=>match OX args t with
 |some vs=>(call f vs h).bd fun p=>okV p.1 t p.2
 |none=>.bad
def HO(call:jH)(f:Od)(args:List Od):jT:=fun t h=>match ng f t with
 |some (.fn k cap)=>match OX args t with
  |some vs=>(call k (app vs cap) h).bd fun p=>okV p.1 t p.2
  |none=>.bad
 | _=>.bad
def jm(l:List Sv):Nat->List Sv×Nat:=List.rec (fun n=>([],n)) (fun a _ ih n=>match a with
 | .c m (.ca t) x=>bif Nat.beq m 0 then(.c n (.ca t) x::(ih (Nat.add n 1)).1,(ih (Nat.add n 1)).2)else(a::(ih n).1,(ih n).2)
 |a=>(a::(ih n).1,(ih n).2)) l
def abb(b:Od)(f:jT):jT:=fun t h=>match b with
 | .t i=>bif Nat.blt i 512 then(match t.at i with
  |some (.ag l)=>f (t.put i (some (.ag (jm l h.next).1))) ⟨(jm l h.next).2,h.cw⟩
  | _=>f t h)else f t h
 | _=>f t h
def O9(a:Od):jT:=fun t h=>match ng a t with
 |some (.os r sz)=>match h.cw.get r with
  |some (.l _ x)=>.ck (!(Nat.beq x.length 0)) (okV (.os r sz) t h)
  | _=>.bad
 |some (.xo r sz off n)=>match h.cw.get r with
  |some (.o _ _)=>bif Nat.beq n 0 then .bad else okV (.xo r sz off n) t h
  | _=>.bad
 | _=>.bad
def Av(call:jH)(o:jz):jT:=match o with
 | .mv a=>Ar a| .pk c a b=>Ze c a b| .nw cs=>aa6 cs| .bx a=>aa7 a| .bd z ps=>HJ z ps| .rw n sz z ps=>aa8 n sz z ps
 | .ld sz g a=>JD sz g a| .sto sz a b=>abb b (HK sz a b)| .nl a=>JE a| .bn f a b=>Vm f a b| .un f a=>sUn f a| .fn f cap=>sFn f cap
 | .fa off a=>sd off a| .fd off s g a=>Dr off s g a| .ixS s a i=>Vo s a i| .ixA n s a i=>Vp n s a i| .ix n s g a i=>Ds n s g a i| .ixT a i=>zi a i
 | .slN s a lo hi=>wC s a lo hi| .slA n s a lo hi=>wD n s a lo hi| .slS a lo hi=>Dt a lo hi| .ex a i=>wB a i| .ln a=>iJ a| .lnT a=>JF a
 | .ap s b x y=>Du s b x y| .apZ s b z x y=>O4 s b z x y| .apS b x y=>O5 b x y| .bys a=>HM a| .bs a=>aa' a| .mk s b z l c=>O6 s b z l c
 | .emp a b c=>aba a b c| .cap a=>jx a| .mrk a=>O9 a| .min a b=>HN false a b| .max a b=>HN true a b
 | .map=>fun t h=>okV (.a .any) t h
 | .cpy sz d a=>O7 sz d a
 | .call f args=>O8 call f args| .callV f args=>HO call f args
 | _=>fun _ _=>.bad
def sGd(j:Od)(want:Bool)(f:jT):jT:=fun t h=>match ng j t with
 |some (.tu [])=>okV tG t h
 | _=>vu j t (fun t=>bif want then f t h else okV tG t h) (fun t=>bif want then okV tG t h else f t h)
def Zf(call:jH)(o:jz):jT:=match o with
 | .gd j w (.mn f)=>sGd j w (Av call f)
 | .gd j w f=>sGd j w (Av call f)
 | .mn (.gd j w f)=>sGd j w (Av call f)
 | .mn f=>Av call f
 |o=>Av call o
def JH(u v:Sv):Option LB:=match u,v with
 | .i k a,.i k' b=>bif mK k k'&&eqI a b then some (.l true)else none
 | .b a,.b b=>bif a then(bif b then some (.l true)else none)else(bif b then none else some (.l true))
 | .a v,.a w=>bif qf v w then some (.l true)else none
 | .rf r o,.rf r' o'=>bif Nat.beq r r'&&Nat.beq o o' then some (.l true)else none
 | .re r s i o,.re r' s' i' o'=>bif Nat.beq r r'&&(Nat.beq s s'&&Nat.beq o o')then some (.t (decide (i=i')))else none
 | .os r s,.os r' s'=>bif Nat.beq r r'&&Nat.beq s s' then some (.l true)else none
 | .ss r s o n,.ss r' s' o' n'=>bif Nat.beq r r'&&Nat.beq s s' then some (.t (decide (o=o')&&decide (n=n')))else none
 | .xo r s o n,.xo r' s' o' n'=>bif Nat.beq r r'&&(Nat.beq s s'&&(Nat.beq o o'&&Nat.beq n n'))then some (.l true)else none
 | .c m (.ca t) _,.c m' (.ca t') _=>bif Nat.blt 0 m&&Nat.beq m m' then some (.l true)else none
 |u,v=>match toN u,toN v with
  |some (k,a),some (k',b)=>bif mK k k' then some (.t (decide (a=b)))else none
  | _,_=>match toB u,toB v with
   |some a,some b=>some (.t (!(xor a.v b.v)))
   | _,_=>none
def JI:List Sv->List Sv->Option LB
 | [],[]=>some (.l true)
 |a::l,b::m=>match JH a b with
  |some c=>match JI l m with
   |some d=>some (c.and d)
   |none=>none
  |none=>none
 | _,_=>none
def FG(u v:Sv):Option LB:=match u,v with
 | .ag l,.ag m=>JI l m
 |u,v=>JH u v
inductive Oc where
 |norm (t:Tq) (h:Hq)
 |ret (t:Tq) (h:Hq)
 |exit (i:Nat) (t:Tq) (h:Hq)
abbrev kE:=Tq->Hq->T Oc
def FH(s:Od)(sz:Nat)(g:Bool)(a:Od)(t:Tq)(h:Hq)(k:T (Tq×Hq)):T (Tq×Hq):=match ng a t with
 |some p=>(match Cn sz g p h with
  |some v=>(match ng s t with
   |some u=>(match FG u v with
    |some c=>ckL c k
    |none=>.bad)
   |none=>.bad)
  |none=>.bad)
 |none=>.bad
def O'(s:Od)(sz:Nat)(a:Od)(lo hi:Option Od)(t:Tq)(h:Hq)(k:T (Tq×Hq)):T (Tq×Hq):=(wC sz a lo hi t h).bd fun p=>match ng s t with
 |some u=>(match FG u p.1 with
  |some c=>ckL c k
  |none=>.bad)
 |none=>.bad
def Pa(s:Od)(n sz:Nat)(a:Od)(lo hi:Option Od)(t:Tq)(h:Hq)(k:T (Tq×Hq)):T (Tq×Hq):=(wD n sz a lo hi t h).bd fun p=>match ng s t with
 |some u=>(match FG u p.1 with
  |some c=>ckL c k
  |none=>.bad)
 |none=>.bad
def BL(s:Od)(t:Tq)(k:T (Tq×Hq)):T (Tq×Hq):=match ng s t with
 |some (.tu [])=>k
 | _=>.bad
def yF(call:jH)(r:uX):Tq->Hq->T (Tq×Hq):=
 uX.rec (motive:=fun _=>Tq->Hq->T (Tq×Hq)) (fun t h=>.ok (t,h))
  (fun i f _ ih t h=>bif Nat.blt i 512 then(Zf call f t h).bd fun p=>ih (p.2.1.put i (some p.1)) p.2.2 else .bad)
  (fun f _ ih t h=>(Zf call f t h).bd fun p=>ih p.2.1 p.2.2)
  (fun s f _ ih t h=>match f with
   | .ld sz g a=>FH s sz g a t h (ih t h)
   | .slN sz a lo hi=>O' s sz a lo hi t h (ih t h)
   | .slA n sz a lo hi=>Pa s n sz a lo hi t h (ih t h)
   | .gd j w (.ld sz g a)=>(match ng j t with
    |some (.b c)=>bif (bif w then c else !c)then FH s sz g a t h (ih t h)else BL s t (ih t h)
    |some (.tu [])=>BL s t (ih t h)
    | _=>.bad)
   | _=>.bad) r
def qJ:jz->Bool
 | .mv _| .pk _ _ _| .ld _ _ _| .nl _| .bn _ _ _| .un _ _| .fa _ _| .fd _ _ _ _| .ixS _ _ _| .ixT _ _| .ex _ _| .ln _| .lnT _| .min _ _| .max _ _=>true
 | .gd _ _ (.mn _)=>false
 | .gd _ _ (.gd _ _ _)=>false
 | .gd _ _ f=>qJ f
 | _=>false
def Aw(r:uX):Bool:=uX.rec true (fun _ f _ ih=>bif qJ f then ih else false) (fun f _ ih=>bif qJ f then ih else false) (fun _ _ _ ih=>ih) r
def wF(r:uX):List Nat:=uX.rec [] (fun i _ _ ih=>i::ih) (fun _ _ ih=>ih) (fun _ _ _ ih=>ih) r
def mgV(c:Bool)(v w:Sv):Option Sv:=match v,w with
 | .b x,.b y=>bif (bif x then y else !y)then some (.b x)else some (.c 0 .bool (bif c then x else y))
 | .a x,.a y=>bif qf x y then some (.a x)else none
 | .rf r o,.rf r' o'=>bif Nat.beq r r'&&Nat.beq o o' then some (.rf r o)else none
 | .os r o,.os r' o'=>bif Nat.beq r r'&&Nat.beq o o' then some (.os r o)else none
 | .c m (.ca t) x,.c m' (.ca t') y=>(match yk t' t with
  |some ⟨e⟩=>some (.c 0 (.ca t) (bif c then x else(e▸y:List (den t))))
  |none=>none)
 | .i k x,.i k' y=>bif mK k k' then(bif eqI x y then some (.i k x)else some (.c 0 (.int k) (bif c then x else y)))else none
 |v,w=>match toN v,toN w with
  |some (k,x),some (k',y)=>bif mK k k' then some (.c 0 (.int k) (bif c then x else y))else none
  | _,_=>match toB v,toB w with
   |some x,some y=>some (.c 0 .bool (bif c then x.v else y.v))
   | _,_=>none
def mgO(c:Bool)(v w:Option Sv):Option Sv:=match v with
 |some v=>(match w with
  |some w=>mgV c v w
  |none=>none)
 |none=>none
def mgT(Bp:List Nat)(c:Bool)(T0 a b:Tq):Tq:=List.rec T0 (fun i _ ih=>ih.put i (mgO c (a.at i) (b.at i))) Bp
def LB.cond(c:Bool):LB->LB->LB
 | .l true,.l true=>.l true
 | .l x,.l y=>.t (bif c then x else y)
 | .l x,.t y=>.t (bif c then x else y)
 | .t x,.l y=>.t (bif c then x else y)
 | .t x,.t y=>.t (bif c then x else y)
def Zg(Bp:List Nat)(T0:Tq)(x:T (Tq×Hq)):LB×Tq:=T.rec (motive:=fun _=>LB×Tq) (.l false,T0) (fun p=>(.l true,p.1))
 (fun c _ _ a b=>(LB.cond c a.1 b.1,mgT Bp c T0 a.2 b.2))
 (fun c _ a=>(LB.and (.t c) a.1,a.2)) x
def Vt(call:jH)(r:uX):Tq->Hq->T (Tq×Hq):=fun t h=>bif Aw r&&iD (fun i=>Nat.blt i 512) (wF r)then(match Zg (wF r) t (yF call r t h)with
 |(c,t')=>ckL c (.ok (t',h)))else yF call r t h
def Lu(a:T Oc)(b:kE):T Oc:=a.bd fun o=>match o with
 | .norm t h=>b t h
 |o=>.ok o
def blO(id:Nat)(a:T Oc):T Oc:=a.bd fun o=>match o with
 | .exit i t h=>.ok (bif Nat.beq i id then .norm t h else .exit i t h)
 |o=>.ok o
def Co(l:List Nat)(k:Tq->Hq->T Oc):Tq->Hq->T Oc:=List.rec k (fun i _ ih t h=>bif Nat.blt i 512 then(match t.at i with
 |some (.zp l)=>ih (t.put i (some (.zp (jm l h.next).1))) ⟨(jm l h.next).2,h.cw⟩
 | _=>ih t h)else ih t h) l
def Zh(L:Nat->Option kE)(call:jH)(m:Nat)(c:qR):kE:=
 qR.rec (motive:=fun _=>kE) (fun r t h=>(Vt call r t h).bd fun p=>Co (wF r) (fun t h=>.ok (.norm t h)) p.1 p.2) (fun t h=>.ok (.norm t h))
  (fun _ _ a b t h=>Lu (a t h) b)
  (fun c _ _ a b t h=>vu c t (fun t=>a t h) (fun t=>b t h))
  (fun id _ b t h=>match L id with
   |some f=>f t h
   |none=>blO id (b t h))
  (fun _ b=>Nat.rec (motive:=fun _=>kE) (fun _ _=>.bad) (fun _ ih t h=>Lu (b t h) ih) m)
  (fun i t h=>.ok (.exit i t h)) (fun t h=>.ok (.ret t h)) (fun _ _=>.bad) c
def abd(t:Tq)(h:Hq):RV->Option Sv
 | .tmp i=>bif Nat.blt i 512 then t.at i else none
 | .cell i size agg=>match(bif Nat.blt i 512 then t.at i else none)with
  |some p=>Cn size agg p h
  |none=>none
def Pb(t:Tq)(h:Hq)(l:List RV):Option (List Sv):=List.rec (some []) (fun r _ ih=>match abd t h r with
 |some v=>match ih with
  |some vs=>some (v::vs)
  |none=>none
 |none=>none) l
def Pc(res:List RV)(t:Tq)(h:Hq):T (Sv×Hq):=match Pb t h res with
 |some [v]=>.ok (v,h)
 |some vs=>.ok (.tu vs,h)
 |none=>.bad
def HP(l:List Sv):Nat->Tq->Tq:=List.rec (fun _ t=>t) (fun v _ ih i t=>ih (Nat.add i 1) (t.put i (some v))) l
def FI(L:Nat->Option kE)(b:xF)(m:Nat)(c:jH)(args:List Sv)(h:Hq):T (Sv×Hq):=
 bif Nat.ble (len args) b.ntmps then(Zh L c m b.code (HP args 0 Tq.none) h).bd fun o=>match o with
  | .norm t h=>Pc b.res t h
  | .ret t h=>Pc b.res t h
  | _=>.bad else .bad
end Lf
end Go.Ab
