import Derived.Test.YtjeanplhkkpdmaaGreatDoorAb21
noncomputable section
namespace Go.Ab
variable [Io]
def BA(n:Nat):Hp->AV->Option AV:=
 Nat.rec (fun _ _=>none) (fun _ ih h a=>match a with
  | .my id off n sz=>match h.cz.get id with
   |some cs=>match cs.sQ off (Nat.mul n sz)with
    |some l=>match mapA (ih h) l with
     |some l=>some (.vG n l)
     |none=>none
    |none=>none
   |none=>none
  | .ref id off=>match h.cz.get id with
   |some cs=>match cs.sQ off (Nat.sub cs.n off)with
    |some l=>match mapA (ih h) l with
     |some l=>some (.qi l)
     |none=>none
    |none=>none
   |none=>none
  | .agg l=>match mapA (ih h) l with
   |some l=>some (.agg l)
   |none=>none
  | .DO l=>match mapA (ih h) l with
   |some l=>some (.DO l)
   |none=>none
  | .fn f l=>match mapA (ih h) l with
   |some l=>some (.fn f l)
   |none=>none
  | .vG _ _=>none
  | .qi _=>none
  |a=>some a) n
theorem acr{g g':G}{w:World}{h:Hp}(H:HR g w h)(ho: ∀ b,qM g h b->g'.mM b): ∀ (n:Nat) (a a':AV) (v:Value),BA n h a=some a'->VR g w a v->VR g' w a' v:=by
 intro n
 induction n with
 |zero=>intro a a' v e;cases e
 |succ n ih=>
  intro a a' v e hv;have hm:= @Qc _ g g' w (BA n h) ih;cases a with
  |int k n=>cases e;simpa only[VR]using hv
  |bool b=>cases e;simpa only[VR]using hv
  |sc x=>cases e;simpa only[VR]using hv
  |pR=>cases e;simpa only[VR]using hv
  |xr=>cases e;simpa only[VR]using hv
  |sym k s lo hi o=>cases e;simpa only[VR]using hv
  |any=>cases e;simpa only[VR]using hv
  |agg l=>
   change (match mapA (BA n h) l with|some l=>some (AV.agg l)|none=>none)=some a' at e
   cases h1:mapA (BA n h) l with
   |none=>rw[h1]at e;cases e
   |some l'=>
    rw[h1]at e;cases e;simp only[VR]at hv ⊢;obtain⟨vs,e,q⟩:=hv;exact⟨vs,e,hm h1 q⟩
  |DO l=>
   change (match mapA (BA n h) l with|some l=>some (AV.DO l)|none=>none)=some a' at e
   cases h1:mapA (BA n h) l with
   |none=>rw[h1]at e;cases e
   |some l'=>
    rw[h1]at e;cases e;simp only[VR]at hv ⊢;obtain⟨vs,e,q⟩:=hv;exact⟨vs,e,hm h1 q⟩
  |fn f l=>
   change (match mapA (BA n h) l with|some l=>some (AV.fn f l)|none=>none)=some a' at e
   cases h1:mapA (BA n h) l with
   |none=>rw[h1]at e;cases e
   |some l'=>
    rw[h1]at e;cases e;simp only[VR]at hv ⊢;obtain⟨vs,e,q⟩:=hv;exact⟨vs,e,hm h1 q⟩
  |vG m l=>cases e
  |qi l=>cases e
  |ref id off=>
   change (match h.cz.get id with|some cs=>(match cs.sQ off (Nat.sub cs.n off)with|some l=>(match mapA (BA n h) l with|some l=>some (AV.qi l)|none=>none)|none=>none)|none=>none)=some a' at e
   cases h0:h.cz.get id with
   |none=>rw[h0]at e;cases e
   |some cs=>
   rw[h0]at e;simp only at e;cases hs:cs.sQ off (Nat.sub cs.n off)with
   |none=>rw[hs]at e;cases e
   |some l=>
   rw[hs]at e;simp only at e;cases h1:mapA (BA n h) l with
   |none=>rw[h1]at e;cases e
   |some l'=>
    rw[h1]at e;cases e;obtain⟨rfl,_,_⟩:=tK hs;simp only[VR]at hv ⊢;obtain⟨b,s,hmm,rfl⟩:=hv;obtain⟨C,el,vs,hw,_,lP,hC⟩:=H.row h0 hmm;exact⟨b,s+off,(vs.drop off).take (Nat.sub cs.n off),rfl,ho b ⟨id,cs,s,h0,hmm⟩,((qu hw hC).drop off).take _,hm h1 ((lP.drop off).take _)⟩
  |my id off m sz=>
   change (match h.cz.get id with|some cs=>(match cs.sQ off (Nat.mul m sz)with|some l=>(match mapA (BA n h) l with|some l=>some (AV.vG m l)|none=>none)|none=>none)|none=>none)=some a' at e
   cases h0:h.cz.get id with
   |none=>rw[h0]at e;cases e
   |some cs=>
   rw[h0]at e;simp only at e;cases hs:cs.sQ off (Nat.mul m sz)with
   |none=>rw[hs]at e;cases e
   |some l=>
   rw[hs]at e;simp only at e;cases h1:mapA (BA n h) l with
   |none=>rw[h1]at e;cases e
   |some l'=>
    rw[h1]at e;cases e;obtain⟨rfl,hlen,_⟩:=tK hs;simp only[VR]at hv ⊢
    rcases hv with⟨rfl,x,rfl⟩|⟨b,s,cap,hmm,rfl,hle,_⟩
    ·refine⟨x,0,rfl,Nat.le_refl _,.inl ⟨rfl,?_⟩⟩;have hz:Nat.mul 0 sz=0:=Nat.zero_mul sz;rw[hz]at h1;simp only[List.take_zero]at h1;cases h1;rfl
    ·obtain⟨C,el,vs,hw,_,lP,hC⟩:=H.row h0 hmm;exact⟨_,cap,rfl,hle,.inr ⟨b,s+off,(vs.drop off).take (Nat.mul m sz),rfl,ho b ⟨id,cs,s,h0,hmm⟩,((qu hw hC).drop off).take _,hm h1 ((lP.drop off).take _)⟩⟩
mutual
def xA:AV->Bool
 | .agg l=>wX l
 | .DO l=>wX l
 | .vG _ l=>wX l
 | .qi l=>wX l
 | .fn _ l=>wX l
 | .ref _ _=>false
 | .my _ _ _ _=>false
 | _=>true
def wX:List AV->Bool
 | []=>true
 |a::l=>xA a&&wX l
end
mutual
theorem VR.xA{g:G}{w:World}: ∀ (a:AV) (v:Value),xA a=true->VR g w a v->VR (gE g.mM) w a v
 | .int _ _,v,n,r=>by simpa only[VR]using r
 | .bool _,v,n,r=>by simpa only[VR]using r
 | .sc _,v,n,r=>by simpa only[VR]using r
 | .pR,v,n,r=>by simpa only[VR]using r
 | .xr,v,n,r=>by simpa only[VR]using r
 | .any,v,n,r=>by simpa only[VR]using r
 | .sym _ _ _ _ _,v,n,r=>by simpa only[VR]using r
 | .ref _ _,v,n,r=>by cases n
 | .my _ _ _ _,v,n,r=>by cases n
 | .agg cs,v,n,r=>by
  simp only[VR]at r ⊢;obtain⟨vs,e,q⟩:=r;exact⟨vs,e,jy.xA cs _ n q⟩
 | .DO cs,v,n,r=>by
  simp only[VR]at r ⊢;obtain⟨vs,e,q⟩:=r;exact⟨vs,e,jy.xA cs _ n q⟩
 | .fn f cs,v,n,r=>by
  simp only[VR]at r ⊢;obtain⟨vs,e,q⟩:=r;exact⟨vs,e,jy.xA cs _ n q⟩
 | .vG m cs,v,n,r=>by
  simp only[VR]at r ⊢;obtain⟨a,cap,e,l,r⟩:=r;refine⟨a,cap,e,l,?_⟩
  rcases r with r|⟨b,o,vs,e,i,c,q⟩
  ·exact .inl r
  ·exact .inr ⟨b,o,vs,e,i,c,jy.xA cs _ n q⟩
 | .qi cs,v,n,r=>by
  simp only[VR]at r ⊢;obtain⟨b,o,vs,e,i,c,q⟩:=r;exact⟨b,o,vs,e,i,c,jy.xA cs _ n q⟩
theorem jy.xA{g:G}{w:World}: ∀ (l:List AV) (vs:List Value),wX l=true->jy g w l vs->jy (gE g.mM) w l vs
 | [],vs,n,r=>by simpa only[jy]using r
 |a::l,vs,n,r=>by
  simp only[wX,Bool.and_eq_true]at n;simp only[jy]at r ⊢;obtain⟨v,l',e,q,r⟩:=r;exact⟨v,l',e,VR.xA a v n.1 q,jy.xA l l' n.2 r⟩
end
def vo(P:Program)(f:FuncId)(args:List AV)(v:AV):Prop:=
 (∀ as w,(callFunc f as).run P w=.ok (.enter f as) w)/\ ∀ (g:G) (w:World) (vs:List Value),(∀ b,g.mM b->b<w.heap.size)->vm g w->jy g w args vs->
  Calls P f vs.toArray w fun e w'=> ∃ x,e=.returned x/\Sk w w'/\VR (gE fun b=>w.heap.size<=b/\b<w'.heap.size) w' v x
def ayP(r:Ro):Option AV:=Ro.rec none (fun v h=>BA 8 h v) r
theorem Sl{P:Program}{call:kh}(hc:mb P call){f:FuncId}{args:List AV}{v':AV}(e:ayP (call f args (nf 0))=some v')(ha:wX args=true):vo P f args v':=by
 cases hr:call f args (nf 0)with
 |bad=>rw[hr]at e;cases e
 |ok v h'=>
 rw[hr]at e;have hf:BA 8 h' v=some v':=e;obtain⟨hen,HP⟩:=hc f args (nf 0) v h' hr;refine⟨hen,fun g w vs hi ht hv=>(HP (gE g.mM) w vs (LJ hi ht) (jy.xA _ _ ha hv)).mono ?_⟩;rintro e w' ⟨x,g',rfl,E,H',hx⟩;refine⟨x,rfl,Qb E,acr H' (fun b k=>?_) 8 v v' x hf hx⟩
 rcases E.vJ b k with⟨id,cs,s,e,_⟩|k1
 ·cases e
 ·obtain⟨id,cs,s,e,m⟩:=k;obtain⟨_,_,_,hw,_⟩:=H'.row e m;exact⟨k1,(Array.getElem?_eq_some_iff.1 hw).1⟩
end Go.Ab
noncomputable section
namespace Go.Ab
inductive Od where
 |t (i:Nat)
 |c (v:AV)
 |zz
 |w (o:Od)
inductive BF where
 |add|sub|mul|quo|rem|and|or|xor|andNot|shl|shr|lss|leq|gtr|geq
 |eqI (neg:Bool)|eqB (neg:Bool)|eqS (neg:Bool)|eqP (neg:Bool)|eqN (neg:Bool)|uE (neg:Bool) (l:List Bool)
inductive UF where
 |not|neg|xor|int (k:IntKind)
inductive lK where
 |mv (a:Od)|pk (c a b:Od)|nw (cs:List AV)|bx (a:Od)|bd (z:List AV) (ps:List (Nat×Nat×Od))|rw(n sz:Nat) (z:List AV) (ps:List (Nat×Od))
 |ld (sz:Nat) (agg:Bool) (a:Od)|sto (sz:Nat) (a b:Od)|nl (a:Od)|bn (f:BF) (a b:Od)|un (f:UF) (a:Od)|bys (a:Od)|bs (a:Od)|fn (f:FuncId) (cap:List Od)
 |mk (size bytes:Nat) (zero:List AV) (l c:Od)|slS (a:Od) (lo hi:Option Od)|slN (size:Nat) (a:Od) (lo hi:Option Od)|slA (n size:Nat) (a:Od) (lo hi:Option Od)
 |fa (off:Nat) (a:Od)|fd (off size:Nat) (agg:Bool) (a:Od)|ixS (size:Nat) (a i:Od)|ixA (n size:Nat) (a i:Od)|ix (n size:Nat) (agg:Bool) (a i:Od)|ixT (a i:Od)
 |ex (a:Od) (i:Nat)|lnT (a:Od)|ln (a:Od)|ap (size bytes:Nat) (s a:Od)|apZ (size bytes:Nat) (z:List AV) (s a:Od)|apS (bytes:Nat) (s a:Od)|mrk (a:Od)
 |cpy (size:Nat) (d s:Od)|emp (a b c:Od)|min (a b:Od)|max (a b:Od)|map|cap (a:Od)|bad|call (f:FuncId) (args:List Od)|callV (f:Od) (args:List Od)
 |gd (j:Od) (want:Bool) (f:lK)|mn (f:lK)
inductive zH where
 |fi
 |st (i:Nat) (f:lK) (k:zH)
 |sn (f:lK) (k:zH)
 |ck (s:Od) (f:lK) (k:zH)
inductive vV where
 |rg (r:zH)|sk|sq (a b:vV)|cif (c:Od) (a b:vV)|bl (id:Nat) (b:vV)|lp (b:vV)|ex (i:Nat)|rt|bad
structure Cv where
 ntmps:Nat
 res:List RV
 code:vV
def cY(o:Od):lT:=Od.rec (fun i=>oT i) (fun v=>oC v) oX (fun _ ih=>wO ih) o
def BF.f:BF->AV->AV->Option AV
 | .add=>pF| .sub=>oM| .mul=>pS| .quo=>qt| .rem=>zy| .and=>vI| .or=>EO| .xor=>EP| .andNot=>sR| .shl=>tG| .shr=>A8
 | .lss=>qJ| .leq=>tF| .gtr=>pT| .geq=>pG
 | .eqI n=>Du n| .eqB n=>KT n| .eqS n=>IG n| .eqP n=>II n| .eqN n=>EM n| .uE n l=>ER n l
def UF.f:UF->AV->Option AV
 | .not=>Rp| .neg=>Rq| .xor=>NH| .int k=>EX k
def Oh(call:kh)(o:lK):lO:=match o with
 | .mv a=>pW (cY a)| .pk c a b=>xt (cY c) (cY a) (cY b)| .nw cs=>NI cs| .bx a=>GY (cY a)
 | .bd z ps=>vi z (ps.map fun p=>(p.1,p.2.1,cY p.2.2))| .rw n sz z ps=>EU n sz z (ps.map fun p=>(p.1,cY p.2))
 | .ld sz agg a=>r7 sz agg (cY a)| .sto sz a b=>tH sz (cY a) (cY b)| .nl a=>EW (cY a)| .bn f a b=>xF f.f (cY a) (cY b)| .un f a=>KV f.f (cY a)
 | .bys a=>wJ (cY a)| .bs a=>GZ (cY a)| .fn f cap=>kFn f (cap.map cY)| .mk s b z l c=>sN s b z (cY l) (cY c)
 | .slS a lo hi=>qK (cY a) (lo.map cY) (hi.map cY)| .slN s a lo hi=>mQ s (cY a) (lo.map cY) (hi.map cY)| .slA n s a lo hi=>ph n s (cY a) (lo.map cY) (hi.map cY)
 | .fa off a=>kO off (cY a)| .fd off s g a=>tJ off s g (cY a)| .ixS s a i=>A' s (cY a) (cY i)| .ixA n s a i=>zi n s (cY a) (cY i)| .ix n s g a i=>sE n s g (cY a) (cY i)| .ixT a i=>qL (cY a) (cY i)
 | .ex a i=>oN (cY a) i| .lnT a=>xu (cY a)| .ln a=>EZ (cY a)| .ap s b x y=>mR s b (cY x) (cY y)| .apZ s b z x y=>xJ s b z (cY x) (cY y)| .apS b x y=>Bb b (cY x) (cY y)
 | .mrk a=>zC (cY a)| .cpy s d a=>sO s (cY d) (cY a)| .emp a b c=>G1 (cY a) (cY b) (cY c)| .min a b=>G2 (cY a) (cY b)| .max a b=>G3 (cY a) (cY b)| .map=>Ru| .cap a=>EY (cY a)| .bad=>jL
 | .call f args=>Dv call f (args.map cY)| .callV f args=>xK call (cY f) (args.map cY)
 | .gd j want f=>gF (cY j) want (Oh call f)| .mn f=>mn (Oh call f)
def T9(call:kh)(r:zH):uM:=
 zH.rec Go.Ab.fi (fun i f _ ih=>st (sT i) (Oh call f) ih) (fun f _ ih=>sn (Oh call f) ih) (fun s f _ ih=>ck (cY s) (Oh call f) ih) r
def nO(call:kh)(n:Nat)(c:vV):GP:=
 vV.rec (fun r=>cRg (T9 call r)) xw (fun _ _ a b=>lF a b) (fun c _ _ a b=>cIf (cY c) a b) (fun id _ b=>Cu id b) (fun _ b=>cLp n b) (fun i=>Ur i) ks NJ c
def Cv.fb(b:Cv):Fb:=⟨b.ntmps,b.res,fun call n=>nO call n b.code⟩
namespace X
abbrev oC(v:AV):Od:=.c v
abbrev oX:Od:=.zz
abbrev wO(o:Od):Od:=.w o
abbrev pW:=lK.mv
abbrev xt:=lK.pk
abbrev NI:=lK.nw
abbrev GY:=lK.bx
abbrev vi:=lK.bd
abbrev EU:=lK.rw
abbrev r7:=lK.ld
abbrev tH:=lK.sto
abbrev EW:=lK.nl
abbrev xF:=lK.bn
abbrev KV:=lK.un
abbrev wJ:=lK.bys
abbrev GZ:=lK.bs
abbrev sN:=lK.mk
abbrev qK:=lK.slS
abbrev mQ:=lK.slN
abbrev ph:=lK.slA
abbrev kO:=lK.fa
abbrev tJ:=lK.fd
abbrev A':=lK.ixS
abbrev zi:=lK.ixA
abbrev sE:=lK.ix
abbrev qL:=lK.ixT
abbrev oN:=lK.ex
abbrev xu:=lK.lnT
abbrev EZ:=lK.ln
abbrev mR:=lK.ap
abbrev xJ:=lK.apZ
abbrev Bb:=lK.apS
abbrev zC:=lK.mrk
abbrev sO:=lK.cpy
abbrev G2:=lK.min
abbrev G3:=lK.max
abbrev Ru:=lK.map
abbrev EY:=lK.cap
abbrev jL:=lK.bad
abbrev Dv(_:Unit)(f:FuncId)(args:List Od):=lK.call f args
abbrev xK(_:Unit)(f:Od)(args:List Od):=lK.callV f args
abbrev gF:=lK.gd
abbrev mn:=lK.mn
abbrev fi:=zH.fi
abbrev st:=zH.st
abbrev sn:=zH.sn
abbrev ck:=zH.ck
abbrev cRg:=vV.rg
abbrev xw:=vV.sk
abbrev lF:=vV.sq
abbrev cIf:=vV.cif
abbrev Cu:=vV.bl
abbrev cLp(_:Unit)(b:vV):=vV.lp b
abbrev Ur:=vV.ex
abbrev ks:=vV.rt
abbrev pF:=BF.add
abbrev oM:=BF.sub
abbrev pS:=BF.mul
abbrev qt:=BF.quo
abbrev zy:=BF.rem
abbrev vI:=BF.and
abbrev EO:=BF.or
abbrev EP:=BF.xor
abbrev sR:=BF.andNot
abbrev tG:=BF.shl
abbrev A8:=BF.shr
abbrev qJ:=BF.lss
abbrev tF:=BF.leq
abbrev pT:=BF.gtr
abbrev pG:=BF.geq
abbrev Du:=BF.eqI
abbrev KT:=BF.eqB
abbrev IG:=BF.eqS
abbrev II:=BF.eqP
abbrev EM:=BF.eqN
abbrev ER:=BF.uE
abbrev Rp:=UF.not
abbrev Rq:=UF.neg
abbrev NH:=UF.xor
abbrev EX:=UF.int
abbrev ayQ(n:Nat)(r:List RV)(b:Unit->Unit->vV):Cv:=⟨n,r,b () ()⟩
end X
end Go.Ab
noncomputable section
namespace Go.Ab
namespace Lf
inductive Ty where
 |int (k:IntKind)|bool|str|cq (t:Ty)|pair (a b:Ty)
@[reducible] noncomputable def den(t:Ty):Type:=Ty.rec (fun _=>Int) Bool ByteArray (fun _ ih=>List ih) (fun _ _ a b=>a×b) t
def cr(t:Ty):den t:=Ty.rec (motive:=den) (fun _=>(0:Int)) false ByteArray.empty (fun _ _=>[]) (fun _ _ a b=>(a,b)) t
def size(t:Ty):Nat:=Ty.rec (motive:=fun _=>Nat) (fun _=>1) 1 1 (fun _ _=>1) (fun _ _ a b=>Nat.add a b) t
def DF:(a b:Ty)->Option (PLift (a=b))
 | .int k,.int k'=>if h:k=k' then some ⟨by rw[h]⟩else none
 | .bool,.bool=>some ⟨rfl⟩
 | .str,.str=>some ⟨rfl⟩
 | .cq a,.cq b=>match DF a b with
  |some ⟨h⟩=>some ⟨by rw[h]⟩
  |none=>none
 | .pair a b,.pair c d=>match DF a c with
  |some ⟨h⟩=>match DF b d with
   |some ⟨k⟩=>some ⟨by rw[h,k]⟩
   |none=>none
  |none=>none
 | _,_=>none
inductive Sv where
 |i (k:IntKind) (n:Int)
 |b (b:Bool)
 |a (v:AV)
 |c (m:Nat) (t:Ty) (x:den t)
 |ag (l:List Sv)
 |tu (l:List Sv)
 |fn (f:FuncId) (l:List Sv)
 |rf (r o:Nat)
 |re (r sz i o:Nat)
 |os (r sz:Nat)
 |ss (r sz off n:Nat)
 |xo (r sz off n:Nat)
 |zp (l:List Sv)
inductive Row where
 |o (g:Nat) (l:List Sv)
 |l (t:Ty) (x:List (den t))
 |zo (l:List Sv)
 |z (t:Ty) (x:List (den t))
structure Hq where
 next:Nat
 cz:Tr Row
abbrev Tq:=F8 (F8 (F8 (Option Sv)))
def Tq.at(t:Tq)(i:Nat):Option Sv:=((t.KJ (i / 64)).KJ (i / 8 % 8)).KJ (i % 8)
def Tq.put(t:Tq)(i:Nat)(v:Option Sv):Tq:=t.Ns ((t.KJ (i / 64)).Ns (((t.KJ (i / 64)).KJ (i / 8 % 8)).Ns v (i % 8)) (i / 8 % 8)) (i / 64)
def Tq.none:Tq:=F8.all (F8.all (F8.all Option.none))
inductive T (α:Type) where
 |bad
 |ok (a:α)
 |br (c:Bool) (a b:T α)
 |ck (c:Bool) (a:T α)
def T.val{α:Type}(x:T α):Option α:=T.rec (motive:=fun _=>Option α) none (fun a=>some a) (fun c _ _ a b=>bif c then a else b) (fun c _ a=>bif c then a else none) x
def T.bd{α β:Type}(x:T α)(f:α->T β):T β:=T.rec (motive:=fun _=>T β) .bad (fun a=>f a) (fun c _ _ a b=>.br c a b) (fun c _ a=>.ck c a) x
def T.of{α:Type}:Option α->T α
 |some a=>.ok a
 |none=>.bad
inductive LB where
 |l (b:Bool)
 |t (b:Bool)
def LB.v:LB->Bool
 | .l b=>b
 | .t b=>b
def LB.and:LB->LB->LB
 | .l true,y=>y
 | .l false,_=>.l false
 | .t _,.l false=>.l false
 | .t a,.l true=>.t a
 | .t a,.t b=>.t (a&&b)
def ckL{α:Type}(c:LB)(x:T α):T α:=match c with
 | .l true=>x
 | .l false=>.bad
 | .t b=>.ck b x
def svB:LB->Sv
 | .l b=>.b b
 | .t b=>.c 0 .bool b
def Sv.cells:Sv->List Sv
 | .ag l=>l
 |w=>[w]
def LL:Sv->Bool
 | .ag _| .tu _=>false
 | _=>true
def aiE:AV->Bool
 | .sc _| .pR| .xr| .any=>true
 | _=>false
def ofA:AV->Option Sv
 | .int k n=>some (.i k n)
 | .bool b=>some (.b b)
 | .sc v=>some (.a (.sc v))
 | .pR=>some (.a .pR)
 | .xr=>some (.a .xr)
 | .DO []=>some (.tu [])
 | .fn f []=>some (.fn f [])
 | _=>none
def Sm(l:List AV):Option (List Sv):=List.rec (some []) (fun a _ ih=>match ofA a with
 |some b=>match ih with
  |some r=>some (b::r)
  |none=>none
 |none=>none) l
def qx(o:Od)(t:Tq):Option Sv:=match o with
 | .t i=>bif Nat.blt i 512 then t.at i else none
 | .c v=>ofA v
 | _=>none
def opw(o:Od)(t:Tq):Option Sv:=match o with
 | .w o=>qx o t
 | _=>none
def VZ(l:List Od)(t:Tq):Option (List Sv):=List.rec (some []) (fun o _ ih=>match qx o t with
 |some v=>match ih with
  |some vs=>some (v::vs)
  |none=>none
 |none=>none) l
def toN:Sv->Option (IntKind×Int)
 | .i k n=>some (k,n)
 | .c _ (.int k) x=>some (k,x)
 | _=>none
def toB:Sv->Option LB
 | .b b=>some (.l b)
 | .c _ .bool x=>some (.t x)
 | _=>none
def toS:Sv->Option (Bool×ByteArray)
 | .a (.sc (.string s))=>some (true,s)
 | .c _ .str x=>some (false,x)
 | _=>none
def jR(k:IntKind)(a b:Int):Int:=kK k (a+b)
def jF(k:IntKind)(a b:Int):Int:=kK k (a - b)
def V0(k:IntKind)(a b:Int):Int:=kK k (a*b)
def V1(k:IntKind)(a b:Int):Int:=kK k (Int.tdiv a b)
def Sn(_k:IntKind)(a b:Int):Int:=Int.tmod a b
def intOf:Option AV->Int
 |some (.int _ n)=>n
 | _=>0
def wY(k:IntKind)(a b:Int):Int:=intOf (aa8 (.int k a) (.int k b))
def Cw(k:IntKind)(a b:Int):Int:=intOf (bOr (.int k a) (.int k b))
def asd(k:IntKind)(a b:Int):Int:=intOf (aa9 (.int k a) (.int k b))
def Qd(k:IntKind)(a b:Int):Int:=intOf (sR (.int k a) (.int k b))
def FD(k:IntKind)(a b:Int):Int:=intOf (ND (.int k a) (.int .u64 b))
def qR(k:IntKind)(a b:Int):Int:=intOf (NF (.int k a) (.int .u64 b))
def So(k:IntKind)(a:Int):Int:=kK k (0 - a)
def akr(k:IntKind)(a:Int):Int:=intOf (NH (.int k a))
def cI(k:IntKind)(a:Int):Int:=kK k a
inductive Cls where
 |ar (f:IntKind->Int->Int->Int)
 |dv (f:IntKind->Int->Int->Int)
 |sh (f:IntKind->Int->Int->Int)
 |cm (f:Int->Int->Bool)
 |no
def V2:BF->Cls
 | .add=>.ar jR| .sub=>.ar jF| .mul=>.ar V0| .and=>.ar wY| .or=>.ar Cw| .xor=>.ar asd| .andNot=>.ar Qd
 | .quo=>.dv V1| .rem=>.dv Sn| .shl=>.sh FD| .shr=>.sh qR
 | .lss=>.cm fun a b=>decide (a<b)| .leq=>.cm fun a b=>decide (a<=b)| .gtr=>.cm fun a b=>decide (b<a)| .geq=>.cm fun a b=>decide (b<=a)
 | .eqI neg=>.cm (match neg with|false=>fun a b=>decide (a=b)|true=>fun a b=> !decide (a=b))
 | _=>.no
def V3:Sv->Bool
 | .i _ _=>true
 | _=>false
def acs(i:Bool)(x y:Sv):Option LB:=match i with
 |true=>match x,y with
  | .i k a,.i k' b=>bif qf k k' then some (.l (eqI a b))else none
  |x,y=>match toN x,toN y with
   |some (k,a),some (k',b)=>bif qf k k' then some (.t (decide (a=b)))else none
   | _,_=>none
 |false=>match toB x,toB y with
  |some (.l a),some (.l b)=>some (.l (!(xor a b)))
  |some a,some b=>some (.t (!(xor a.v b.v)))
  | _,_=>none
def aks(l:List Bool):List Sv->List Sv->Option LB:=
 List.rec (fun _ _=>some (.l true)) (fun i _ ih xs ys=>match xs,ys with
  |x::xs,y::ys=>match acs i x y with
   |some c=>match ih xs ys with
    |some d=>some (c.and d)
    |none=>none
   |none=>none
  | _,_=>none) l
def akt(neg:Bool)(c:LB):LB:=match neg,c with
 |false,c=>c
 |true,.l b=>.l (!b)
 |true,.t b=>.t (!b)
def V4:Sv->Bool
 | .rf _ _| .re _ _ _ _| .zp _=>true
 | _=>false
def aku(f:BF)(x y:Sv):T Sv:=match x,y with
 | .i k a,.i k' b=>(match f.f (.int k a) (.int k' b)with
  |some (.int k r)=>.ok (.i k r)
  |some (.bool r)=>.ok (.b r)
  | _=>.bad)
 |x,y=>match toN x,toN y with
  |some (k,a),some (k',b)=>(match V2 f with
   | .ar g=>bif qf k k' then .ok (.c 0 (.int k) (g k a b))else .bad
   | .dv g=>bif qf k k' then(bif V3 y then(bif eqI b 0 then .bad else .ok (.c 0 (.int k) (g k a b)))else .ck (!decide (b=0)) (.ok (.c 0 (.int k) (g k a b))))else .bad
   | .sh g=>(bif V3 y then(bif sB b 0 then .bad else .ok (.c 0 (.int k) (g k a b)))else .ck (decide (0<=b)) (.ok (.c 0 (.int k) (g k a b))))
   | .cm g=>bif qf k k' then .ok (.c 0 .bool (g a b))else .bad
   | .no=>.bad)
  | _,_=>.bad
def sBn(f:BF)(x y:Sv):T Sv:=match f with
 | .eqB neg=>match toB x,toB y with
  |some (.l a),some (.l b)=>.ok (.b (bif neg then xor a b else !(xor a b)))
  |some a,some b=>.ok (.c 0 .bool (match neg with|true=>xor a.v b.v|false=> !(xor a.v b.v)))
  | _,_=>.bad
 | .eqS neg=>match toS x,toS y with
  |some (true,a),some (true,b)=>.ok (.b (bif neg then !(eqStr a b)else eqStr a b))
  |some (_,a),some (_,b)=>.ok (.c 0 .bool (match neg with|true=> !(eqStr a b)|false=>eqStr a b))
  | _,_=>.bad
 | .eqP neg=>match x,y with
  | .a (.sc (.pointer none)),.a (.sc (.pointer none))=>.ok (.b (!neg))
  | .a (.sc (.pointer none)),y=>bif V4 y then .ok (.b neg)else .bad
  |x,.a (.sc (.pointer none))=>bif V4 x then .ok (.b neg)else .bad
  | _,_=>.bad
 | .eqN neg=>match x,y with
  | .a v,.a w=>bif isNil w then(match IF v with
   |some b=>.ok (.b (bif neg then !b else b))
   |none=>.bad)else .bad
  | .xo _ _ _ _,.a w=>bif isNil w then .ok (.b neg)else .bad
  | .c _ (.cq _) x,.a w=>bif isNil w then .ck (!(Nat.beq x.length 0)) (.ok (.b neg))else .bad
  | _,_=>.bad
 | .uE neg l=>match x,y with
  | .ag xs,.ag ys=>match aks l xs ys with
   |some c=>.ok (svB (akt neg c))
   |none=>.bad
  | _,_=>.bad
 |f=>aku f x y
def akw(f:UF)(x:Sv):Option Sv:=match f with
 | .not=>match toB x with
  |some (.l b)=>some (.b (!b))
  |some (.t b)=>some (.c 0 .bool (!b))
  |none=>none
 | .neg=>match x with
  | .i k n=>some (.i k (So k n))
  | .c _ (.int k) n=>some (.c 0 (.int k) (So k n))
  | _=>none
 | .xor=>match x with
  | .i k n=>some (.i k (akr k n))
  | .c _ (.int k) n=>some (.c 0 (.int k) (akr k n))
  | _=>none
 | .int k=>match x with
  | .i _ n=>some (.i k (cI k n))
  | .c _ (.int _) n=>some (.c 0 (.int k) (cI k n))
  | _=>none
def vp(t:Ty):den t->List Sv:=
 Ty.rec (motive:=fun t=>den t->List Sv) (fun k x=>[.c 0 (.int k) x]) (fun x=>[.c 0 .bool x]) (fun x=>[.c 0 .str x]) (fun t _ x=>[.c 0 (.cq t) x]) (fun _ _ Aa EN x=>app (Aa x.1) (EN x.2)) t
def ase(l:List Sv)(off n:Nat):Option (List Sv):=match tk n (dp off l)with
 |r=>bif Nat.beq (len r) n then some r else none
def FF(agg:Bool)(l:List Sv)(off sz:Nat):Option Sv:=match ase l off sz with
 |none=>none
 |some r=>bif agg then some (.ag r)else match r with
  | [c]=>some c
  | _=>none
def sZ(l:List Sv)(off:Nat)(new:List Sv):List Sv:=app (tk off l) (app new (dp (Nat.add off (len new)) l))
def Jf(l:List (Nat×Nat×Sv)):List Sv->Option (List Sv):=
 List.rec (fun cells=>some cells) (fun p _ ih cells=>
  bif Nat.beq (len p.2.2.cells) p.2.1&&Nat.ble (Nat.add p.1 p.2.1) (len cells)then ih (sZ cells p.1 p.2.2.cells)else none) l
def Jg(l:List (Nat×Nat×Od))(t:Tq):Option (List (Nat×Nat×Sv)):=
 List.rec (some []) (fun p _ ih=>match qx p.2.2 t with
  |some v=>match ih with
   |some vs=>some ((p.1,p.2.1,v)::vs)
   |none=>none
  |none=>none) l
def Jh(l:List (Nat×Od))(t:Tq):Option (List (Nat×Sv)):=
 List.rec (some []) (fun p _ ih=>match qx p.2 t with
  |some v=>match ih with
   |some vs=>some ((p.1,v)::vs)
   |none=>none
  |none=>none) l
def FG(size:Nat)(l:List (Nat×Sv)):Nat->Option (List Sv):=
 List.rec (fun _=>some []) (fun p _ ih i=>
  bif Nat.beq p.1 i&&Nat.beq (len p.2.cells) size then(match ih (Nat.add i 1)with|some r=>some (app p.2.cells r)|none=>none)else none) l
def akx(n:Nat)(z:List Sv):List Sv:=Nat.rec [] (fun _ ih=>app z ih) n
def Ji(size:Nat)(l:List (Nat×Sv)):List (Nat×Nat×Sv):=List.rec [] (fun p _ ih=>(Nat.mul p.1 size,size,p.2)::ih) l
def LM(n size:Nat)(zero:List Sv)(l:List (Nat×Sv)):Option (List Sv):=
 match bif Nat.beq (len l) n then FG size l 0 else none with
 |some cs=>some cs
 |none=>Jf (Ji size l) (akx n zero)
def lU(h:Hq)(r:Row):Hq:=⟨Nat.add h.next 1,h.cz.set h.next (some r)⟩
def qa(h:Hq)(id:Nat)(r:Option Row):Hq:=⟨h.next,h.cz.set id r⟩
def rdS(t:Ty)(f:List Sv->Hq->Option (den t×List Sv×Hq))(n:Nat):List Sv->Hq->Option (List (den t)×Hq):=
 Nat.rec (fun _ h=>some ([],h)) (fun _ ih l h=>match f l h with
  |some (x,r,h)=>match ih r h with
   |some (xs,h)=>some (x::xs,h)
   |none=>none
  |none=>none) n
def rdX(t:Ty)(f:List Sv->Hq->Option (den t×List Sv×Hq))(n off:Nat)(l:List Sv)(h:Hq):Option (List (den t)×Hq):=bif Nat.ble off (len l)then rdS t f n (dp off l) h else none
def kJ:AV->Bool
 | .pR=>true
 |a=>z9 a
def asL(t:Ty)(f:List Sv->Hq->Option (den t×List Sv×Hq))(v:Sv)(h:Hq):Option (List (den t)×Hq):=match v with
 | .a w=>bif kJ w then some ([],h)else none
 | .c _ (.cq t') x=>match DF t' t with
  |some ⟨e⟩=>some (e▸x,h)
  |none=>none
 | .os r _=>match h.cz.get r with
  |some (.l t' x)=>(match DF t' t with
   |some ⟨e⟩=>some (e▸x,qa h r (some (.z t' x)))
   |none=>none)
  |some (.z t' x)=>(match DF t' t with
   |some ⟨e⟩=>some (e▸x,h)
   |none=>none)
  | _=>none
 | .ss r _ off n=>match h.cz.get r with
  |some (.l t' x)=>(match DF t' t with
   |some ⟨e⟩=>some (((e▸x:List (den t)).drop off).take n,qa h r (some (.z t' x)))
   |none=>none)
  |some (.z t' x)=>(match DF t' t with
   |some ⟨e⟩=>some (((e▸x:List (den t)).drop off).take n,h)
   |none=>none)
  | _=>none
 | .xo r sz off n=>bif Nat.beq sz (size t)then(match h.cz.get r with
  |some (.o _ l)=>rdX t f n off l (qa h r (some (.zo l)))
  |some (.zo l)=>rdX t f n off l h
  | _=>none)else none
 | _=>none
def asT(t:Ty):List Sv->Hq->Option (den t×List Sv×Hq):=
 Ty.rec (motive:=fun t=>List Sv->Hq->Option (den t×List Sv×Hq))
  (fun k l h=>match l with
   |v::r=>match toN v with
    |some (k',n)=>bif qf k k' then some (n,r,h)else none
    |none=>none
   | []=>none)
  (fun l h=>match l with
   |v::r=>match toB v with
    |some b=>some (b.v,r,h)
    |none=>none
   | []=>none)
  (fun l h=>match l with
   |v::r=>match toS v with
    |some (_,s)=>some (s,r,h)
    |none=>none
   | []=>none)
  (fun t ih l h=>match l with
   |v::r=>match asL t ih v h with
    |some (x,h)=>some (x,r,h)
    |none=>none
   | []=>none)
  (fun _ _ Aa EN l h=>match Aa l h with
   |some (x,r,h)=>match EN r h with
    |some (y,r,h)=>some ((x,y),r,h)
    |none=>none
   |none=>none) t
def lst(t:Ty)(v:Sv)(h:Hq):Option (List (den t)×Hq):=asL t (asT t) v h
def asf(v:Sv)(h:Hq):Option Ty:=match v with
 | .c _ (.cq t) _=>some t
 | .os r _=>match h.cz.get r with
  |some (.l t _)=>some t
  |some (.z t _)=>some t
  | _=>none
 | .ss r _ _ _=>match h.cz.get r with
  |some (.l t _)=>some t
  |some (.z t _)=>some t
  | _=>none
 | _=>none
def aky(v:Sv)(h:Hq):Option Sv:=match v with
 | .a w=>bif kJ w then some (.i .i64 0)else none
 | .c _ (.cq _) x=>some (.c 0 (.int .i64) (Int.ofNat x.length))
 | .os r _=>match h.cz.get r with
  |some (.l _ x)=>some (.c 0 (.int .i64) (Int.ofNat x.length))
  |some (.z _ x)=>some (.c 0 (.int .i64) (Int.ofNat x.length))
  | _=>none
 | .ss _ _ _ n=>some (.c 0 (.int .i64) (Int.ofNat n))
 | .xo _ _ _ n=>some (.i .i64 (.ofNat n))
 | _=>none
end Lf
end Go.Ab
noncomputable section
namespace Go.Ab
namespace Lf
abbrev OpR:=T (Sv×Tq×Hq)
abbrev mc:=Tq->Hq->OpR
abbrev lL:=FuncId->List Sv->Hq->T (Sv×Hq)
def okV(v:Sv)(t:Tq)(h:Hq):OpR:=.ok (v,t,h)
def okO(v:Option Sv)(t:Tq)(h:Hq):OpR:=match v with
 |some v=>.ok (v,t,h)
 |none=>.bad
def x':Sv:=.tu []
def FH(x:Od):mc:=fun t h=>okO (qx x t) t h
def Ak{α:Type}(j:Od)(t:Tq)(a b:Tq->T α):T α:=match j with
 | .t i=>bif Nat.blt i 512 then(match t.at i with
  |some (.b c)=>bif c then a t else b t
  |some (.c _ .bool x)=>.br x (a (t.put i (some (.b true)))) (b (t.put i (some (.b false))))
  | _=>.bad)else .bad
 | .c (.bool c)=>bif c then a t else b t
 | _=>.bad
def aiH(c a b:Od):mc:=fun t h=>Ak c t (fun t=>FH a t h) (fun t=>FH b t h)
def akz(cs:List AV):mc:=fun t h=>match Sm cs with|some l=>okV (.rf h.next 0) t (lU h (.o 0 l))|none=>.bad
def akA(a:Od):mc:=fun t h=>match qx a t with|some v=>okV (.rf h.next 0) t (lU h (.o 0 v.cells))|none=>.bad
def Oi(z:List AV)(ps:List (Nat×Nat×Od)):mc:=fun t h=>match Sm z with
 |some z=>match Jg ps t with
  |some vs=>match Jf vs z with
   |some cs=>okV (.ag cs) t h
   |none=>.bad
  |none=>.bad
 |none=>.bad
def akB(n sz:Nat)(z:List AV)(ps:List (Nat×Od)):mc:=fun t h=>match Jh ps t with
 |some vs=>bif Nat.beq n 0 then(match vs with| []=>okV (.a .xr) t h| _=>.bad)else(match Sm z with
  |some z=>match LM n sz z vs with
   |some cs=>bif jC LL cs&&(Nat.blt 0 sz&&Nat.beq (len cs) (Nat.mul n sz))then okV (.xo h.next sz 0 n) t (lU h (.o 0 cs))else .bad
   |none=>.bad
  |none=>.bad)
 |none=>.bad
def V5(h:Hq)(r sz i:Nat):Option (List Sv):=match h.cz.get r with
 |some (.l t x)=>bif Nat.beq sz (size t)then some (vp t (x.getD i (cr t)))else none
 |some (.z t x)=>bif Nat.beq sz (size t)then some (vp t (x.getD i (cr t)))else none
 | _=>none
def FI(h:Hq)(r:Nat):Option (List Sv):=match h.cz.get r with
 |some (.o _ l)=>some l
 |some (.zo l)=>some l
 | _=>none
def HX(sz:Nat)(agg:Bool)(a:Sv)(h:Hq):Option Sv:=bif Nat.blt 0 sz then(match a with
 | .rf r o=>match FI h r with
  |some l=>FF agg l o sz
  |none=>none
 | .re r s i o=>match V5 h r s i with
  |some l=>FF agg l o sz
  |none=>none
 | .zp l=>FF agg l 0 sz
 | _=>none)else none
def Qe(sz:Nat)(agg:Bool)(a:Od):mc:=fun t h=>match qx a t with
 |some p=>okO (HX sz agg p h) t h
 |none=>.bad
def Oj(sz:Nat)(a b:Od):mc:=fun t h=>match qx b t with
 |some v=>bif Nat.beq (len v.cells) sz&&jC LL v.cells then(match qx a t with
  |some (.rf r o)=>match h.cz.get r with
   |some (.o g l)=>bif Nat.ble (Nat.add o (len v.cells)) (len l)then okV x' t (qa h r (some (.o g (sZ l o v.cells))))else .bad
   | _=>.bad
  |some (.re r s i o)=>match h.cz.get r with
   |some (.l ty x)=>bif Nat.beq s (size ty)&&Nat.ble (Nat.add o (len v.cells)) s then(match asT ty (sZ (vp ty (x.getD i (cr ty))) o v.cells) h with
    |some (y,[],h')=>(match h'.cz.get r with
     |some (.l _ _)=>okV x' t (qa h' r (some (.l ty (x.set i y))))
     | _=>.bad)
    | _=>.bad)else .bad
   | _=>.bad
  | _=>.bad)else .bad
 |none=>.bad
def Qf(a:Od):mc:=fun t h=>match qx a t with
 |some (.rf r o)=>okV (.rf r o) t h
 |some (.re r s i o)=>okV (.re r s i o) t h
 |some (.zp c)=>okV (.zp c) t h
 |some (.fn f c)=>okV (.fn f c) t h
 | _=>.bad
def acu(f:BF)(a b:Od):mc:=fun t h=>match qx a t with
 |some x=>match qx b t with
  |some y=>(sBn f x y).bd fun v=>okV v t h
  |none=>.bad
 |none=>.bad
def sUn(f:UF)(a:Od):mc:=fun t h=>match qx a t with
 |some x=>okO (akw f x) t h
 |none=>.bad
def sFn(f:FuncId)(cap:List Od):mc:=fun t h=>match VZ cap t with
 |some vs=>okV (.fn f vs) t h
 |none=>.bad
def wZ(off:Nat)(a:Od):mc:=fun t h=>match qx a t with
 |some (.rf r o)=>okV (.rf r (Nat.add o off)) t h
 |some (.re r s i o)=>okV (.re r s i (Nat.add o off)) t h
 |some (.zp l)=>bif Nat.ble off (len l)then okV (.zp (dp off l)) t h else .bad
 | _=>.bad
def Jj(off size:Nat)(agg:Bool)(a:Od):mc:=fun t h=>match qx a t with
 |some (.ag cs)=>okO (FF agg cs off size) t h
 | _=>.bad
def jA(i n:Int):Bool:=decide (0<=i)&&decide (i<n)
def V6(r s off:Nat)(n:Int)(t:Tq)(h:Hq):Nat->Nat->T (Sv×Tq×Hq):=fun f=>Nat.rec (fun _=>.bad) (fun f ih j=>bif Nat.beq f 0 then .ck (decide (n=Int.ofNat j)) (okV (.rf r (Nat.add off (Nat.mul j s))) t h)else .br (decide (n=Int.ofNat j)) (okV (.rf r (Nat.add off (Nat.mul j s))) t h) (ih (Nat.succ j))) f
theorem yO{r s off:Nat}{n:Int}{t:Tq}{h:Hq}{y:Sv×Tq×Hq}: ∀ {f j:Nat},(V6 r s off n t h f j).val=some y-> ∃ i,n=((i:Nat):Int)/\i<j+f/\(okV (.rf r (Nat.add off (Nat.mul i s))) t h:T (Sv×Tq×Hq)).val=some y
 |0,j,e=>by cases e
 |f+1,j,e=>by
  have e:(bif Nat.beq f 0 then(.ck (decide (n=Int.ofNat j)) (okV (.rf r (Nat.add off (Nat.mul j s))) t h):T (Sv×Tq×Hq))else .br (decide (n=Int.ofNat j)) (okV (.rf r (Nat.add off (Nat.mul j s))) t h) (V6 r s off n t h f (Nat.succ j))).val=some y:=e;cases hf:Nat.beq f 0 with
  |true=>
   rw[hf,cond_true]at e;have e:(bif decide (n=Int.ofNat j)then(okV (.rf r (Nat.add off (Nat.mul j s))) t h:T (Sv×Tq×Hq)).val else none)=some y:=e;by_cases q:n=Int.ofNat j
   ·rw[decide_eq_true q]at e;exact⟨j,q,by omega,e⟩
   ·rw[decide_eq_false q]at e;cases e
  |false=>
   rw[hf,cond_false]at e;have e:(bif decide (n=Int.ofNat j)then(okV (.rf r (Nat.add off (Nat.mul j s))) t h:T (Sv×Tq×Hq)).val else(V6 r s off n t h f (Nat.succ j)).val)=some y:=e;by_cases q:n=Int.ofNat j
   ·rw[decide_eq_true q]at e;exact⟨j,q,by omega,e⟩
   ·rw[decide_eq_false q]at e;obtain⟨i,a,b,c⟩:=yO e;exact⟨i,a,by omega,c⟩
def acv(size:Nat)(a i:Od):mc:=fun t h=>match qx i t with
 |some iv=>match toN iv with
  |some (_,n)=>match qx a t with
   |some (.os r s)=>match h.cz.get r with
    |some (.l _ x)=>bif Nat.beq s size then .ck (jA n (Int.ofNat x.length)) (okV (.re r s n.toNat 0) t h)else .bad
    |some (.z _ x)=>bif Nat.beq s size then .ck (jA n (Int.ofNat x.length)) (okV (.re r s n.toNat 0) t h)else .bad
    | _=>.bad
   |some (.ss r s off m)=>bif Nat.beq s size then .ck (jA n (Int.ofNat m)) (okV (.re r s (off+n.toNat) 0) t h)else .bad
   |some (.xo r s off m)=>match iv with
    | .i _ (.ofNat k)=>bif Nat.beq s size&&Nat.blt k m then okV (.rf r (Nat.add off (Nat.mul k s))) t h else .bad
    | _=>bif Nat.beq s size then V6 r s off n t h m 0 else .bad
   |some (.c _ (.cq ty) x)=>bif Nat.beq size (Lf.size ty)then .ck (jA n (Int.ofNat x.length)) (okV (.zp (vp ty (x.getD n.toNat (cr ty)))) t h)else .bad
   | _=>.bad
  |none=>.bad
 |none=>.bad
def V7(n size:Nat)(a i:Od):mc:=fun t h=>match qx i t with
 |some (.i _ (.ofNat k))=>bif Nat.blt k n then(match qx a t with
  |some (.rf r o)=>okV (.rf r (Nat.add o (Nat.mul k size))) t h
  |some (.zp l)=>bif Nat.ble (Nat.mul k size) (len l)then okV (.zp (dp (Nat.mul k size) l)) t h else .bad
  | _=>.bad)else .bad
 | _=>.bad
def Jk(k:IntKind)(l:List Sv):Option (List Int):=List.rec (some []) (fun v _ ih=>match toN v with
 |some (k',n)=>bif qf k k' then(match ih with
  |some r=>some (n::r)
  |none=>none)else none
 |none=>none) l
def ixZ(n o:Nat)(x:Int)(l:List Sv)(t:Tq)(h:Hq):T (Sv×Tq×Hq):=match(l.drop o).take n with
 |v::w=>(match toN v with
  |some (k,_)=>(match Jk k (v::w)with
   |some nl=>bif Nat.beq (len nl) n then .ck (jA x (Int.ofNat n)) (okV (.zp [.c 0 (.int k) (nl.getD x.toNat 0)]) t h)else .bad
   |none=>.bad)
  |none=>.bad)
 | []=>.bad
def acw(n size:Nat)(a i:Od):mc:=fun t h=>match qx i t with
 |some (.c _ (.int _) x)=>bif Nat.beq size 1 then(match qx a t with
  |some (.rf r o)=>(match h.cz.get r with
   |some (.o _ _)=>V6 r size o x t h n 0
   |some (.zo l)=>ixZ n o x l t h
   | _=>.bad)
  | _=>.bad)else .bad
 | _=>V7 n size a i t h
def Jl(n size:Nat)(agg:Bool)(a i:Od):mc:=fun t h=>match qx a t with
 |some (.ag cs)=>match qx i t with
  |some (.i _ (.ofNat k))=>bif Nat.blt k n then okO (FF agg cs (Nat.mul k size) size) t h else .bad
  |some (.c _ (.int _) x)=>bif agg|| !(Nat.beq size 1)then .bad else(match cs with
   |v::_=>match toN v with
    |some (k,_)=>match Jk k cs with
     |some l=>bif Nat.beq (len l) n then .ck (jA x (Int.ofNat n)) (okV (.c 0 (.int k) (l.getD x.toNat 0)) t h)else .bad
     |none=>.bad
    |none=>.bad
   | []=>.bad)
  | _=>.bad
 | _=>.bad
def Es(a i:Od):mc:=fun t h=>match qx a t with
 |some v=>match toS v with
  |some (_,s)=>match qx i t with
   |some iv=>match toN iv with
    |some (_,n)=>.ck (jA n (Int.ofNat s.size)) (okV (.c 0 (.int .u8) (Int.ofNat ((s.data.toList.getD n.toNat 0).toNat))) t h)
    |none=>.bad
   |none=>.bad
  |none=>.bad
 |none=>.bad
def Qg(a:Od):mc:=fun t h=>match qx a t with
 |some v=>match toS v with
  |some (true,s)=>okV (.i .i64 (.ofNat s.size)) t h
  |some (false,s)=>okV (.c 0 (.int .i64) (Int.ofNat s.size)) t h
  |none=>.bad
 |none=>.bad
def BB(a:Od)(i:Nat):mc:=fun t h=>match qx a t with
 |some (.tu vs)=>okO (sD vs i) t h
 | _=>.bad
def jY(a:Od):mc:=fun t h=>match opw a t with
 |some v=>okO (aky v h) t h
 |none=>.bad
def Hc(o:Option Od)(t:Tq)(d:Sv):Option (Bool×Int):=match(match o with
 |none=>some d
 |some o=>qx o t)with
 |some v=>match toN v with
  |some (_,n)=>some (V3 v,n)
  |none=>none
 |none=>none
def mS(l u n:Int):Bool:=decide (0<=l)&&(decide (l<=u)&&decide (u<=n))
def brN{β:Type}(n:Int)(F:Nat->T β):Nat->Nat->T β:=fun f=>Nat.rec (fun _=>.bad) (fun f ih j=>bif Nat.beq f 0 then .ck (decide (n=Int.ofNat j)) (F j)else .br (decide (n=Int.ofNat j)) (F j) (ih (Nat.succ j))) f
theorem FJ{β:Type}{n:Int}{F:Nat->T β}{y:β}: ∀ {f j:Nat},(brN n F f j).val=some y-> ∃ i,n=((i:Nat):Int)/\i<j+f/\(F i).val=some y
 |0,j,e=>by cases e
 |f+1,j,e=>by
  have e:(bif Nat.beq f 0 then(.ck (decide (n=Int.ofNat j)) (F j):T β)else .br (decide (n=Int.ofNat j)) (F j) (brN n F f (Nat.succ j))).val=some y:=e;cases hf:Nat.beq f 0 with
  |true=>
   rw[hf,cond_true]at e;have e:(bif decide (n=Int.ofNat j)then(F j).val else none)=some y:=e;by_cases q:n=Int.ofNat j
   ·rw[decide_eq_true q]at e;exact⟨j,q,by omega,e⟩
   ·rw[decide_eq_false q]at e;cases e
  |false=>
   rw[hf,cond_false]at e;have e:(bif decide (n=Int.ofNat j)then(F j).val else(brN n F f (Nat.succ j)).val)=some y:=e;by_cases q:n=Int.ofNat j
   ·rw[decide_eq_true q]at e;exact⟨j,q,by omega,e⟩
   ·rw[decide_eq_false q]at e;obtain⟨i,a,b,c⟩:=FJ e;exact⟨i,a,by omega,c⟩
def BC(size:Nat)(a:Od)(lo hi:Option Od):mc:=fun t h=>match qx a t with
 |some v=>match aky v h with
  |some m=>match toN m with
   |some (_,n)=>match Hc lo t (.i .i64 0)with
    |some (ll,l)=>match Hc hi t m with
     |some (lu,u)=>(match v with
      | .a w=>bif z9 w then .ck (mS l u n) (okV (.a w) t h)else .bad
      | .os r s=>bif Nat.beq s size then .ck (mS l u n) (okV (.ss r s l.toNat (u.toNat - l.toNat)) t h)else .bad
      | .ss r s off _=>bif Nat.beq s size then .ck (mS l u n) (okV (.ss r s (off+l.toNat) (u.toNat - l.toNat)) t h)else .bad
      | .xo r s off k=>bif ll&&lu then(bif (ll&&lu)&&(Nat.beq s size&&mS l u n)then okV (.xo r s (Nat.add off (Nat.mul l.toNat s)) (Nat.sub u.toNat l.toNat)) t h else .bad)else(bif Nat.beq s size then brN l (fun i=>brN u (fun j=>bif Nat.ble i j then okV (.xo r s (Nat.add off (Nat.mul i s)) (Nat.sub j i)) t h else .bad) (Nat.succ k) 0) (Nat.succ k) 0 else .bad)
      | .c _ (.cq ty) x=>bif Nat.beq size (Lf.size ty)then .ck (mS l u n) (okV (.c 0 (.cq ty) ((x.drop l.toNat).take (u.toNat - l.toNat))) t h)else .bad
      | _=>.bad)
     |none=>.bad
    |none=>.bad
   |none=>.bad
  |none=>.bad
 |none=>.bad
def BD(n size:Nat)(a:Od)(lo hi:Option Od):mc:=fun t h=>match qx a t with
 |some (.rf r o)=>match Hc lo t (.i .i64 0)with
  |some (true,l)=>match Hc hi t (.i .i64 (.ofNat n))with
   |some (true,u)=>match FI h r with
    |some cs=>bif Nat.ble (Nat.add o (Nat.mul n size)) (len cs)&&(mS l u (Int.ofNat n)&&Nat.blt 0 size)then okV (.xo r size (Nat.add o (Nat.mul l.toNat size)) (Nat.sub u.toNat l.toNat)) t h else .bad
    |none=>.bad
   | _=>.bad
  | _=>.bad
 | _=>.bad
def Jm(a:Od)(lo hi:Option Od):mc:=fun t h=>match qx a t with
 |some v=>match toS v with
  |some (true,s)=>match Hc lo t (.i .i64 0)with
   |some (true,l)=>match Hc hi t (.i .i64 (.ofNat s.size))with
    |some (true,u)=>bif mS l u (Int.ofNat s.size)then okV (.a (.sc (.string (s.extract l.toNat u.toNat)))) t h else .bad
    | _=>.bad
   | _=>.bad
  | _=>.bad
 |none=>.bad
def roomy(bytes n:Nat):Bool:=decide (n*bytes<=70368744177664)&&decide (n<=70368744177664)
def BE(v:Sv)(h:Hq):Option (Nat×List Sv):=match v with
 | .a w=>bif kJ w then some (0,[])else none
 | .xo r s off n=>match FI h r with
  |some l=>bif Nat.ble (Nat.add off (Nat.mul n s)) (len l)then some (n,tk (Nat.mul n s) (dp off l))else none
  |none=>none
 | _=>none
def kill(v:Sv)(h:Hq):Option Hq:=match v with
 | .a _=>some h
 | .os r _=>match h.cz.get r with
  |some (.l _ _)=>some (qa h r none)
  | _=>none
 | .ss r _ _ _=>match h.cz.get r with
  |some (.l _ _)=>some (qa h r none)
  | _=>none
 | .xo r _ _ _=>match h.cz.get r with
  |some (.o _ _)=>some (qa h r none)
  | _=>none
 | _=>none
def V8(t:Ty)(v:Sv)(h:Hq):Option (List (den t)×Hq):=match v with
 | .os r _=>match h.cz.get r with
  |some (.l t' x)=>match DF t' t with
   |some ⟨e⟩=>some (e▸x,h)
   |none=>none
  | _=>none
 | .ss r _ off n=>match h.cz.get r with
  |some (.l t' x)=>match DF t' t with
   |some ⟨e⟩=>some (((e▸x:List (den t)).drop off).take n,h)
   |none=>none
  | _=>none
 | .a w=>bif kJ w then some ([],h)else none
 | .xo r sz off n=>match h.cz.get r with
  |some (.o _ l)=>bif Nat.beq sz (size t)then rdX t (asT t) n off l h else none
  | _=>none
 | _=>none
def FK(t:Ty)(v:Sv)(h:Hq):Option (List (den t)×Hq):=match V8 t v h with
 |some r=>some r
 |none=>lst t v h
def apT(bytes:Nat)(t:Ty)(s:Sv)(new:List (den t))(tq:Tq)(h:Hq):OpR:=match V8 t s h with
 |some (x,h1)=>match kill s h1 with
  |some h2=>.ck (roomy bytes (x.length+new.length)) (okV (.os h2.next (size t)) tq (lU h2 (.l t (app x new))))
  |none=>.bad
 |none=>.bad
def acx(s:Sv)(d:Nat):Nat:=match s with
 | .os _ z=>z
 | .ss _ z _ _=>z
 | .xo _ z _ _=>z
 | _=>d
def V9(size bytes:Nat)(s x:Sv)(t:Tq)(h:Hq):OpR:=bif Nat.beq (acx s size) size&&(Nat.beq (acx x size) size&&Nat.blt 0 size)then(match BE x h with
 |some (0,_)=>(match s with
  | .a w=>bif z9 w then okV s t h else .bad
  | .os _ _=>okV s t h
  | .ss _ _ _ _=>okV s t h
  | .xo _ _ _ _=>okV s t h
  | _=>.bad)
 |some (m,new)=>(match BE s h with
  |some (n,zj)=>match kill s h with
   |some h2=>bif roomy bytes (Nat.add n m)&&jC LL new then okV (.xo h2.next size 0 (Nat.add n m)) t (lU h2 (.o 0 (app zj new)))else .bad
   |none=>.bad
  |none=>match asf s h with
   |some ty=>bif Nat.beq size (Lf.size ty)then(match FK ty x h with
    |some (new,h1)=>apT bytes ty s new t h1
    |none=>.bad)else .bad
   |none=>.bad)
 |none=>(match asf x h with
  |some ty=>bif Nat.beq size (Lf.size ty)then(match FK ty x h with
   |some (new,h1)=>apT bytes ty s new t h1
   |none=>.bad)else .bad
  |none=>.bad))else .bad
def Jn(size bytes:Nat)(s x:Od):mc:=fun t h=>match qx s t with
 |some s=>match qx x t with
  |some x=>V9 size bytes s x t h
  |none=>.bad
 |none=>.bad
def ayT:AV->Option Ty
 | .int k _=>some (.int k)
 | .bool _=>some .bool
 | .sc (.string _)=>some .str
 | .sc (.slice none 0 0)=>some (.cq (.int .i64))
 | _=>none
def tyZ(l:List AV):Option Ty:=List.rec none (fun a r ih=>match ayT a with
 |some t=>match r with
  | []=>some t
  | _=>match ih with
   |some u=>some (.pair t u)
   |none=>none
 |none=>none) l
def Qh(z:List AV):Option ((t:Ty)×den t):=match tyZ z with
 |some t=>match Sm z with
  |some l=>match asT t l ⟨0,.nil⟩with
   |some (x,[],_)=>some ⟨t,x⟩
   | _=>none
  |none=>none
 |none=>none
def V'(size bytes:Nat)(z:List AV)(s x:Od):mc:=fun t h=>match qx s t with
 |some sv=>match qx x t with
  |some xv=>match toN xv with
   |some (_,n)=>bif Nat.beq (acx sv size) size then(match Qh z with
    |some ⟨ty,y⟩=>bif Nat.beq size (Lf.size ty)&&Nat.beq size (len z)then(.ck (decide (0<=n)) (apT bytes ty sv (List.replicate n.toNat y) t h))else .bad
    |none=>.bad)else .bad
   |none=>.bad
  |none=>.bad
 |none=>.bad
def Wa(bytes:Nat)(s x:Od):mc:=fun t h=>match qx s t with
 |some sv=>match qx x t with
  |some xv=>match toS xv with
   |some (_,y)=>bif Nat.beq (acx sv 1) 1 then apT bytes (.int .u8) sv (y.data.toList.map fun b=>Int.ofNat b.toNat) t h else .bad
   |none=>.bad
  |none=>.bad
 |none=>.bad
def Ol(x:Od):mc:=fun t h=>match qx x t with
 |some v=>match toS v with
  |some (_,y)=>okV (.os h.next 1) t (lU h (.l (.int .u8) (y.data.toList.map fun b=>Int.ofNat b.toNat)))
  |none=>.bad
 |none=>.bad
def akD(x:Od):mc:=fun t h=>match qx x t with
 |some v=>(match FK (.int .u8) v h with
  |some (y,h1)=>okV (.c 0 .str (KW y)) t h1
  |none=>.bad)
 |none=>.bad
def Sp(a b:Od):Bool:=match a,b with
 | .t i,.t j=>Nat.beq i j
 | .c (.int _ m),.c (.int _ n)=>eqI m n
 | _,_=>false
def Wb(size bytes:Nat)(z:List AV)(l c:Od):mc:=fun t h=>match qx l t with
 |some lv=>match qx c t with
  |some cv=>match toN lv with
   |some (_,l')=>match toN cv with
    |some (_,c')=>match Qh z with
     |some ⟨ty,y⟩=>bif Nat.beq size (Lf.size ty)&&Nat.beq size (len z)then
      .ck ((decide (0<=l')&&decide (l'<=c'))&&decide (c'.toNat*bytes<=70368744177664))
       (okV (bif Sp l c then .os h.next size else .ss h.next size 0 l'.toNat) t (lU h (.l ty (List.replicate c'.toNat y))))else .bad
     |none=>.bad
    |none=>.bad
   |none=>.bad
  |none=>.bad
 |none=>.bad
def akE(x y z:Od):mc:=fun t h=>match qx y t with
 |some (.i _ (.ofNat 0))=>match qx z t with
  |some (.i _ (.ofNat 0))=>match opw x t with
   |some (.a w)=>bif kJ w then okV (.a .pR) t h else .bad
   |some (.os _ _)=>okV (.a .pR) t h
   |some (.ss _ _ _ _)=>okV (.a .pR) t h
   |some (.xo _ _ _ _)=>okV (.a .pR) t h
   |some (.c _ (.cq _) _)=>okV (.a .pR) t h
   | _=>.bad
  | _=>.bad
 | _=>.bad
def lG(x:Od):mc:=fun t h=>match opw x t with
 |some (.a w)=>bif kJ w then okV (.i .i64 0) t h else .bad
 | _=>.bad
def Om(mx:Bool)(a b:Od):mc:=fun t h=>match qx a t with
 |some x=>match qx b t with
  |some y=>match x,y with
   | .i k m,.i k' n=>bif qf k k' then okV (.i k (bif mx then(bif sB m n then n else m)else(bif sB n m then n else m))) t h else .bad
   |x,y=>match toN x,toN y with
    |some (k,m),some (k',n)=>bif qf k k' then okV (.c 0 (.int k) (match mx with|true=>max m n|false=>min m n)) t h else .bad
    | _,_=>.bad
  |none=>.bad
 |none=>.bad
def acy(size:Nat)(sv:Sv)(r sz off n:Nat)(t:Tq)(h:Hq):OpR:=match h.cz.get r with
 |some (.l ty x)=>bif Nat.blt 0 size&&(Nat.beq sz size&&Nat.beq size (Lf.size ty))then(match FK ty sv h with
  |some (y,h1)=>(match h1.cz.get r with
   |some (.l _ _)=>okV (.c 0 (.int .i64) (Int.ofNat (min y.length n))) t (qa h1 r (some (.l ty (app (x.take off) (app (y.take (min y.length n)) (x.drop (Nat.add off (min y.length n))))))))
   | _=>.bad)
  |none=>.bad)else .bad
 | _=>.bad
def Wc(size:Nat)(d s:Od):mc:=fun t h=>match opw s t with
 |some sv=>(match opw d t with
  |some (.os r sz)=>(match h.cz.get r with
   |some (.l _ x)=>acy size sv r sz 0 x.length t h
   | _=>.bad)
  |some (.ss r sz off n)=>acy size sv r sz off n t h
  | _=>.bad)
 |none=>.bad
def Wd(call:lL)(f:FuncId)(args:List Od):mc:=fun t h=>match VZ args t with
 |some vs=>(call f vs h).bd fun p=>okV p.1 t p.2
 |none=>.bad
def On(call:lL)(f:Od)(args:List Od):mc:=fun t h=>match qx f t with
 |some (.fn k cap)=>match VZ args t with
  |some vs=>(call k (app vs cap) h).bd fun p=>okV p.1 t p.2
  |none=>.bad
 | _=>.bad
def kQ(l:List Sv):Nat->List Sv×Nat:=List.rec (fun n=>([],n)) (fun a _ ih n=>match a with
 | .c m (.cq t) x=>bif Nat.beq m 0 then(.c n (.cq t) x::(ih (Nat.add n 1)).1,(ih (Nat.add n 1)).2)else(a::(ih n).1,(ih n).2)
 |a=>(a::(ih n).1,(ih n).2)) l
def akF(b:Od)(f:mc):mc:=fun t h=>match b with
 | .t i=>bif Nat.blt i 512 then(match t.at i with
  |some (.ag l)=>f (t.put i (some (.ag (kQ l h.next).1))) ⟨(kQ l h.next).2,h.cz⟩
  | _=>f t h)else f t h
 | _=>f t h
def We(a:Od):mc:=fun t h=>match qx a t with
 |some (.os r sz)=>match h.cz.get r with
  |some (.l _ x)=>.ck (!(Nat.beq x.length 0)) (okV (.os r sz) t h)
  | _=>.bad
 |some (.xo r sz off n)=>match h.cz.get r with
  |some (.o _ _)=>bif Nat.beq n 0 then .bad else okV (.xo r sz off n) t h
  | _=>.bad
 | _=>.bad
def FM(call:lL)(o:lK):mc:=match o with
 | .mv a=>FH a| .pk c a b=>aiH c a b| .nw cs=>akz cs| .bx a=>akA a| .bd z ps=>Oi z ps| .rw n sz z ps=>akB n sz z ps
 | .ld sz g a=>Qe sz g a| .sto sz a b=>akF b (Oj sz a b)| .nl a=>Qf a| .bn f a b=>acu f a b| .un f a=>sUn f a| .fn f cap=>sFn f cap
 | .fa off a=>wZ off a| .fd off s g a=>Jj off s g a| .ixS s a i=>acv s a i| .ixA n s a i=>acw n s a i| .ix n s g a i=>Jl n s g a i| .ixT a i=>Es a i
 | .slN s a lo hi=>BC s a lo hi| .slA n s a lo hi=>BD n s a lo hi| .slS a lo hi=>Jm a lo hi| .ex a i=>BB a i| .ln a=>jY a| .lnT a=>Qg a
 | .ap s b x y=>Jn s b x y| .apZ s b z x y=>V' s b z x y| .apS b x y=>Wa b x y| .bys a=>Ol a| .bs a=>akD a| .mk s b z l c=>Wb s b z l c
 | .emp a b c=>akE a b c| .cap a=>lG a| .mrk a=>We a| .min a b=>Om false a b| .max a b=>Om true a b
 | .map=>fun t h=>okV (.a .any) t h
 | .cpy sz d a=>Wc sz d a
 | .call f args=>Wd call f args| .callV f args=>On call f args
 | _=>fun _ _=>.bad
def sGd(j:Od)(want:Bool)(f:mc):mc:=fun t h=>match qx j t with
 |some (.tu [])=>okV x' t h
 | _=>Ak j t (fun t=>bif want then f t h else okV x' t h) (fun t=>bif want then okV x' t h else f t h)
def sOp(call:lL)(o:lK):mc:=match o with
 | .gd j w (.mn f)=>sGd j w (FM call f)
 | .gd j w f=>sGd j w (FM call f)
 | .mn (.gd j w f)=>sGd j w (FM call f)
 | .mn f=>FM call f
 |o=>FM call o
def Qi(u v:Sv):Option LB:=match u,v with
 | .i k a,.i k' b=>bif qf k k'&&eqI a b then some (.l true)else none
 | .b a,.b b=>bif a then(bif b then some (.l true)else none)else(bif b then none else some (.l true))
 | .a v,.a w=>bif uE v w then some (.l true)else none
 | .rf r o,.rf r' o'=>bif Nat.beq r r'&&Nat.beq o o' then some (.l true)else none
 | .re r s i o,.re r' s' i' o'=>bif Nat.beq r r'&&(Nat.beq s s'&&Nat.beq o o')then some (.t (decide (i=i')))else none
 | .os r s,.os r' s'=>bif Nat.beq r r'&&Nat.beq s s' then some (.l true)else none
 | .ss r s o n,.ss r' s' o' n'=>bif Nat.beq r r'&&Nat.beq s s' then some (.t (decide (o=o')&&decide (n=n')))else none
 | .xo r s o n,.xo r' s' o' n'=>bif Nat.beq r r'&&(Nat.beq s s'&&(Nat.beq o o'&&Nat.beq n n'))then some (.l true)else none
 | .c m (.cq t) _,.c m' (.cq t') _=>bif Nat.blt 0 m&&Nat.beq m m' then some (.l true)else none
 |u,v=>match toN u,toN v with
  |some (k,a),some (k',b)=>bif qf k k' then some (.t (decide (a=b)))else none
  | _,_=>match toB u,toB v with
   |some a,some b=>some (.t (!(xor a.v b.v)))
   | _,_=>none
def Qj:List Sv->List Sv->Option LB
 | [],[]=>some (.l true)
 |a::l,b::m=>match Qi a b with
  |some c=>match Qj l m with
   |some d=>some (c.and d)
   |none=>none
  |none=>none
 | _,_=>none
def LN(u v:Sv):Option LB:=match u,v with
 | .ag l,.ag m=>Qj l m
 |u,v=>Qi u v
inductive Oc where
 |norm (t:Tq) (h:Hq)
 |ret (t:Tq) (h:Hq)
 |exit (i:Nat) (t:Tq) (h:Hq)
abbrev mB:=Tq->Hq->T Oc
def LO(s:Od)(sz:Nat)(g:Bool)(a:Od)(t:Tq)(h:Hq)(k:T (Tq×Hq)):T (Tq×Hq):=match qx a t with
 |some p=>(match HX sz g p h with
  |some v=>(match qx s t with
   |some u=>(match LN u v with
    |some c=>ckL c k
    |none=>.bad)
   |none=>.bad)
  |none=>.bad)
 |none=>.bad
def Wg(s:Od)(sz:Nat)(a:Od)(lo hi:Option Od)(t:Tq)(h:Hq)(k:T (Tq×Hq)):T (Tq×Hq):=(BC sz a lo hi t h).bd fun p=>match qx s t with
 |some u=>(match LN u p.1 with
  |some c=>ckL c k
  |none=>.bad)
 |none=>.bad
def Wh(s:Od)(n sz:Nat)(a:Od)(lo hi:Option Od)(t:Tq)(h:Hq)(k:T (Tq×Hq)):T (Tq×Hq):=(BD n sz a lo hi t h).bd fun p=>match qx s t with
 |some u=>(match LN u p.1 with
  |some c=>ckL c k
  |none=>.bad)
 |none=>.bad
def Hd(s:Od)(t:Tq)(k:T (Tq×Hq)):T (Tq×Hq):=match qx s t with
 |some (.tu [])=>k
 | _=>.bad
def DU(call:lL)(r:zH):Tq->Hq->T (Tq×Hq):=
 zH.rec (motive:=fun _=>Tq->Hq->T (Tq×Hq)) (fun t h=>.ok (t,h))
  (fun i f _ ih t h=>bif Nat.blt i 512 then(sOp call f t h).bd fun p=>ih (p.2.1.put i (some p.1)) p.2.2 else .bad)
  (fun f _ ih t h=>(sOp call f t h).bd fun p=>ih p.2.1 p.2.2)
  (fun s f _ ih t h=>match f with
   | .ld sz g a=>LO s sz g a t h (ih t h)
   | .slN sz a lo hi=>Wg s sz a lo hi t h (ih t h)
   | .slA n sz a lo hi=>Wh s n sz a lo hi t h (ih t h)
   | .gd j w (.ld sz g a)=>(match qx j t with
    |some (.b c)=>bif (bif w then c else !c)then LO s sz g a t h (ih t h)else Hd s t (ih t h)
    |some (.tu [])=>Hd s t (ih t h)
    | _=>.bad)
   | _=>.bad) r
def vq:lK->Bool
 | .mv _| .pk _ _ _| .ld _ _ _| .nl _| .bn _ _ _| .un _ _| .fa _ _| .fd _ _ _ _| .ixS _ _ _| .ixT _ _| .ex _ _| .ln _| .lnT _| .min _ _| .max _ _=>true
 | .gd _ _ (.mn _)=>false
 | .gd _ _ (.gd _ _ _)=>false
 | .gd _ _ f=>vq f
 | _=>false
def FN(r:zH):Bool:=zH.rec true (fun _ f _ ih=>bif vq f then ih else false) (fun f _ ih=>bif vq f then ih else false) (fun _ _ _ ih=>ih) r
def BG(r:zH):List Nat:=zH.rec [] (fun i _ _ ih=>i::ih) (fun _ _ ih=>ih) (fun _ _ _ ih=>ih) r
def mgV(c:Bool)(v w:Sv):Option Sv:=match v,w with
 | .b x,.b y=>bif (bif x then y else !y)then some (.b x)else some (.c 0 .bool (bif c then x else y))
 | .a x,.a y=>bif uE x y then some (.a x)else none
 | .rf r o,.rf r' o'=>bif Nat.beq r r'&&Nat.beq o o' then some (.rf r o)else none
 | .os r o,.os r' o'=>bif Nat.beq r r'&&Nat.beq o o' then some (.os r o)else none
 | .c m (.cq t) x,.c m' (.cq t') y=>(match DF t' t with
  |some ⟨e⟩=>some (.c 0 (.cq t) (bif c then x else(e▸y:List (den t))))
  |none=>none)
 | .i k x,.i k' y=>bif qf k k' then(bif eqI x y then some (.i k x)else some (.c 0 (.int k) (bif c then x else y)))else none
 |v,w=>match toN v,toN w with
  |some (k,x),some (k',y)=>bif qf k k' then some (.c 0 (.int k) (bif c then x else y))else none
  | _,_=>match toB v,toB w with
   |some x,some y=>some (.c 0 .bool (bif c then x.v else y.v))
   | _,_=>none
def mgO(c:Bool)(v w:Option Sv):Option Sv:=match v with
 |some v=>(match w with
  |some w=>mgV c v w
  |none=>none)
 |none=>none
def mgT(GR:List Nat)(c:Bool)(T0 a b:Tq):Tq:=List.rec T0 (fun i _ ih=>ih.put i (mgO c (a.at i) (b.at i))) GR
def LB.cond(c:Bool):LB->LB->LB
 | .l true,.l true=>.l true
 | .l x,.l y=>.t (bif c then x else y)
 | .l x,.t y=>.t (bif c then x else y)
 | .t x,.l y=>.t (bif c then x else y)
 | .t x,.t y=>.t (bif c then x else y)
def mgR(GR:List Nat)(T0:Tq)(x:T (Tq×Hq)):LB×Tq:=T.rec (motive:=fun _=>LB×Tq) (.l false,T0) (fun p=>(.l true,p.1))
 (fun c _ _ a b=>(LB.cond c a.1 b.1,mgT GR c T0 a.2 b.2))
 (fun c _ a=>(LB.and (.t c) a.1,a.2)) x
def acz(call:lL)(r:zH):Tq->Hq->T (Tq×Hq):=fun t h=>bif FN r&&jC (fun i=>Nat.blt i 512) (BG r)then(match mgR (BG r) t (DU call r t h)with
 |(c,t')=>ckL c (.ok (t',h)))else DU call r t h
def Sq(a:T Oc)(b:mB):T Oc:=a.bd fun o=>match o with
 | .norm t h=>b t h
 |o=>.ok o
def blO(id:Nat)(a:T Oc):T Oc:=a.bd fun o=>match o with
 | .exit i t h=>.ok (bif Nat.beq i id then .norm t h else .exit i t h)
 |o=>.ok o
def HY(l:List Nat)(k:Tq->Hq->T Oc):Tq->Hq->T Oc:=List.rec k (fun i _ ih t h=>bif Nat.blt i 512 then(match t.at i with
 |some (.zp l)=>ih (t.put i (some (.zp (kQ l h.next).1))) ⟨(kQ l h.next).2,h.cz⟩
 | _=>ih t h)else ih t h) l
def sCd(L:Nat->Option mB)(call:lL)(m:Nat)(c:vV):mB:=
 vV.rec (motive:=fun _=>mB) (fun r t h=>(acz call r t h).bd fun p=>HY (BG r) (fun t h=>.ok (.norm t h)) p.1 p.2) (fun t h=>.ok (.norm t h))
  (fun _ _ a b t h=>Sq (a t h) b)
  (fun c _ _ a b t h=>Ak c t (fun t=>a t h) (fun t=>b t h))
  (fun id _ b t h=>match L id with
   |some f=>f t h
   |none=>blO id (b t h))
  (fun _ b=>Nat.rec (motive:=fun _=>mB) (fun _ _=>.bad) (fun _ ih t h=>Sq (b t h) ih) m)
  (fun i t h=>.ok (.exit i t h)) (fun t h=>.ok (.ret t h)) (fun _ _=>.bad) c
def akH(t:Tq)(h:Hq):RV->Option Sv
 | .tmp i=>bif Nat.blt i 512 then t.at i else none
 | .cell i size agg=>match(bif Nat.blt i 512 then t.at i else none)with
  |some p=>HX size agg p h
  |none=>none
def Wi(t:Tq)(h:Hq)(l:List RV):Option (List Sv):=List.rec (some []) (fun r _ ih=>match akH t h r with
 |some v=>match ih with
  |some vs=>some (v::vs)
  |none=>none
 |none=>none) l
def Wj(res:List RV)(t:Tq)(h:Hq):T (Sv×Hq):=match Wi t h res with
 |some [v]=>.ok (v,h)
 |some vs=>.ok (.tu vs,h)
 |none=>.bad
def Oo(l:List Sv):Nat->Tq->Tq:=List.rec (fun _ t=>t) (fun v _ ih i t=>ih (Nat.add i 1) (t.put i (some v))) l
def LP(L:Nat->Option mB)(b:Cv)(m:Nat)(c:lL)(args:List Sv)(h:Hq):T (Sv×Hq):=
 bif Nat.ble (len args) b.ntmps then(sCd L c m b.code (Oo args 0 Tq.none) h).bd fun o=>match o with
  | .norm t h=>Wj b.res t h
  | .ret t h=>Wj b.res t h
  | _=>.bad else .bad
end Lf
end Go.Ab
