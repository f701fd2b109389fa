import Derived.Test.YtcnkojgmochcgaaGreatDoorAb23
noncomputable section
namespace Go.Ab
namespace Lf
inductive Ty where
 |int (k:IntKind)|bool|str|aC (t:Ty)|pair (a b:Ty)
@[reducible] noncomputable def den(t:Ty):Type:=Ty.rec (fun _=>Int) Bool ByteArray (fun _ ih=>List ih) (fun _ _ a b=>a×b) t
def aE(t:Ty):den t:=Ty.rec (motive:=den) (fun _=>(0:Int)) false ByteArray.empty (fun _ _=>[]) (fun _ _ a b=>(a,b)) t
def size(t:Ty):Nat:=Ty.rec (motive:=fun _=>Nat) (fun _=>1) 1 1 (fun _ _=>1) (fun _ _ a b=>Nat.add a b) t
def sf:(a b:Ty)->Option (PLift (a=b))
 | .int k,.int k'=>if h:k=k' then some ⟨by rw[h]⟩else none
 | .bool,.bool=>some ⟨rfl⟩
 | .str,.str=>some ⟨rfl⟩
 | .aC a,.aC b=>match sf a b with
  |some ⟨h⟩=>some ⟨by rw[h]⟩
  |none=>none
 | .pair a b,.pair c d=>match sf a c with
  |some ⟨h⟩=>match sf b d with
   |some ⟨k⟩=>some ⟨by rw[h,k]⟩
   |none=>none
  |none=>none
 | _,_=>none
inductive Sv where
 |i (k:IntKind) (n:Int)
 |b (b:Bool)
 |a (v:AV)
 |c (m:Nat) (t:Ty) (x:den t)
 |ag (l:List Sv)
 |tu (l:List Sv)
 |fn (f:FuncId) (l:List Sv)
 |rf (r o:Nat)
 |re (r sz i o:Nat)
 |os (r sz:Nat)
 |ss (r sz off n:Nat)
 |xo (r sz off n:Nat)
 |zp (l:List Sv)
inductive Row where
 |o (g:Nat) (l:List Sv)
 |l (t:Ty) (x:List (den t))
 |zo (l:List Sv)
 |z (t:Ty) (x:List (den t))
structure Hq where
 next:Nat
 aU:Tr Row
abbrev Tq:=F8 (F8 (F8 (Option Sv)))
def Tq.at(t:Tq)(i:Nat):Option Sv:=((t.xR (i / 64)).xR (i / 8 % 8)).xR (i % 8)
def Tq.put(t:Tq)(i:Nat)(v:Option Sv):Tq:=t.BC ((t.xR (i / 64)).BC (((t.xR (i / 64)).xR (i / 8 % 8)).BC v (i % 8)) (i / 8 % 8)) (i / 64)
def Tq.none:Tq:=F8.all (F8.all (F8.all Option.none))
inductive T (α:Type) where
 |bad
 |ok (a:α)
 |br (c:Bool) (a b:T α)
 |ck (c:Bool) (a:T α)
def T.val{α:Type}(x:T α):Option α:=T.rec (motive:=fun _=>Option α) none (fun a=>some a) (fun c _ _ a b=>bif c then a else b) (fun c _ a=>bif c then a else none) x
def T.bd{α β:Type}(x:T α)(f:α->T β):T β:=T.rec (motive:=fun _=>T β) .bad (fun a=>f a) (fun c _ _ a b=>.br c a b) (fun c _ a=>.ck c a) x
def T.of{α:Type}:Option α->T α
 |some a=>.ok a
 |none=>.bad
inductive LB where
 |l (b:Bool)
 |t (b:Bool)
def LB.v:LB->Bool
 | .l b=>b
 | .t b=>b
def LB.and:LB->LB->LB
 | .l true,y=>y
 | .l false,_=>.l false
 | .t _,.l false=>.l false
 | .t a,.l true=>.t a
 | .t a,.t b=>.t (a&&b)
def ckL{α:Type}(c:LB)(x:T α):T α:=match c with
 | .l true=>x
 | .l false=>.bad
 | .t b=>.ck b x
def svB:LB->Sv
 | .l b=>.b b
 | .t b=>.c 0 .bool b
def Sv.cells:Sv->List Sv
 | .ag l=>l
 |w=>[w]
def Ao:Sv->Bool
 | .ag _| .tu _=>false
 | _=>true
def QT:AV->Bool
 | .sc _| .eD| .mI| .any=>true
 | _=>false
def Xw:AV->Option Sv
 | .int k n=>some (.i k n)
 | .bool b=>some (.b b)
 | .sc v=>some (.a (.sc v))
 | .eD=>some (.a .eD)
 | .mI=>some (.a .mI)
 | .qP []=>some (.tu [])
 | .fn f []=>some (.fn f [])
 | _=>none
def FU(l:List AV):Option (List Sv):=List.rec (some []) (fun a _ ih=>match Xw a with
 |some b=>match ih with
  |some r=>some (b::r)
  |none=>none
 |none=>none) l
def jG(o:Od)(t:Tq):Option Sv:=match o with
 | .t i=>bif Nat.blt i 512 then t.at i else none
 | .c v=>Xw v
 | _=>none
def Wd(o:Od)(t:Tq):Option Sv:=match o with
 | .w o=>jG o t
 | _=>none
def IJ(l:List Od)(t:Tq):Option (List Sv):=List.rec (some []) (fun o _ ih=>match jG o t with
 |some v=>match ih with
  |some vs=>some (v::vs)
  |none=>none
 |none=>none) l
def toN:Sv->Option (IntKind×Int)
 | .i k n=>some (k,n)
 | .c _ (.int k) x=>some (k,x)
 | _=>none
def toB:Sv->Option LB
 | .b b=>some (.l b)
 | .c _ .bool x=>some (.t x)
 | _=>none
def toS:Sv->Option (Bool×ByteArray)
 | .a (.sc (.string s))=>some (true,s)
 | .c _ .str x=>some (false,x)
 | _=>none
def bL(k:IntKind)(a b:Int):Int:=fM k (a+b)
def aV(k:IntKind)(a b:Int):Int:=fM k (a - b)
def kh(k:IntKind)(a b:Int):Int:=fM k (a*b)
def sX(k:IntKind)(a b:Int):Int:=fM k (Int.tdiv a b)
def sY(_k:IntKind)(a b:Int):Int:=Int.tmod a b
def intOf:Option AV->Int
 |some (.int _ n)=>n
 | _=>0
def dm(k:IntKind)(a b:Int):Int:=intOf (LQ (.int k a) (.int k b))
def IK(k:IntKind)(a b:Int):Int:=intOf (bOr (.int k a) (.int k b))
def IL(k:IntKind)(a b:Int):Int:=intOf (LS (.int k a) (.int k b))
def Nb(k:IntKind)(a b:Int):Int:=intOf (nG (.int k a) (.int k b))
def tX(k:IntKind)(a b:Int):Int:=intOf (BQ (.int k a) (.int .u64 b))
def lj(k:IntKind)(a b:Int):Int:=intOf (BR (.int k a) (.int .u64 b))
def wN(k:IntKind)(a:Int):Int:=fM k (0 - a)
def Xx(k:IntKind)(a:Int):Int:=intOf (E6 (.int k a))
def ao(k:IntKind)(a:Int):Int:=fM k a
inductive Cls where
 |ar (f:IntKind->Int->Int->Int)
 |dv (f:IntKind->Int->Int->Int)
 |sh (f:IntKind->Int->Int->Int)
 |cm (f:Int->Int->Bool)
 |no
def IM:BF->Cls
 | .add=>.ar bL| .sub=>.ar aV| .mul=>.ar kh| .and=>.ar dm| .or=>.ar IK| .xor=>.ar IL| .andNot=>.ar Nb
 | .quo=>.dv sX| .rem=>.dv sY| .shl=>.sh tX| .shr=>.sh lj
 | .lss=>.cm fun a b=>decide (a<b)| .leq=>.cm fun a b=>decide (a<=b)| .gtr=>.cm fun a b=>decide (b<a)| .geq=>.cm fun a b=>decide (b<=a)
 | .eqI neg=>.cm (match neg with|false=>fun a b=>decide (a=b)|true=>fun a b=> !decide (a=b))
 | _=>.no
def IP:Sv->Bool
 | .i _ _=>true
 | _=>false
def Nc(i:Bool)(x y:Sv):Option LB:=match i with
 |true=>match x,y with
  | .i k a,.i k' b=>bif ka k k' then some (.l (eqI a b))else none
  |x,y=>match toN x,toN y with
   |some (k,a),some (k',b)=>bif ka k k' then some (.t (decide (a=b)))else none
   | _,_=>none
 |false=>match toB x,toB y with
  |some (.l a),some (.l b)=>some (.l (!(xor a b)))
  |some a,some b=>some (.t (!(xor a.v b.v)))
  | _,_=>none
def SS(l:List Bool):List Sv->List Sv->Option LB:=
 List.rec (fun _ _=>some (.l true)) (fun i _ ih xs ys=>match xs,ys with
  |x::xs,y::ys=>match Nc i x y with
   |some c=>match ih xs ys with
    |some d=>some (c.and d)
    |none=>none
   |none=>none
  | _,_=>none) l
def SU(neg:Bool)(c:LB):LB:=match neg,c with
 |false,c=>c
 |true,.l b=>.l (!b)
 |true,.t b=>.t (!b)
def IQ:Sv->Bool
 | .rf _ _| .re _ _ _ _| .zp _=>true
 | _=>false
def SW(f:BF)(x y:Sv):T Sv:=match x,y with
 | .i k a,.i k' b=>(match f.f (.int k a) (.int k' b)with
  |some (.int k r)=>.ok (.i k r)
  |some (.bool r)=>.ok (.b r)
  | _=>.bad)
 |x,y=>match toN x,toN y with
  |some (k,a),some (k',b)=>(match IM f with
   | .ar g=>bif ka k k' then .ok (.c 0 (.int k) (g k a b))else .bad
   | .dv g=>bif ka k k' then(bif IP y then(bif eqI b 0 then .bad else .ok (.c 0 (.int k) (g k a b)))else .ck (!decide (b=0)) (.ok (.c 0 (.int k) (g k a b))))else .bad
   | .sh g=>(bif IP y then(bif p5 b 0 then .bad else .ok (.c 0 (.int k) (g k a b)))else .ck (decide (0<=b)) (.ok (.c 0 (.int k) (g k a b))))
   | .cm g=>bif ka k k' then .ok (.c 0 .bool (g a b))else .bad
   | .no=>.bad)
  | _,_=>.bad
def SX(f:BF)(x y:Sv):T Sv:=match f with
 | .WK neg=>match toB x,toB y with
  |some (.l a),some (.l b)=>.ok (.b (bif neg then xor a b else !(xor a b)))
  |some a,some b=>.ok (.c 0 .bool (match neg with|true=>xor a.v b.v|false=> !(xor a.v b.v)))
  | _,_=>.bad
 | .QC neg=>match toS x,toS y with
  |some (true,a),some (true,b)=>.ok (.b (bif neg then !(eqStr a b)else eqStr a b))
  |some (_,a),some (_,b)=>.ok (.c 0 .bool (match neg with|true=> !(eqStr a b)|false=>eqStr a b))
  | _,_=>.bad
 | .eqP neg=>match x,y with
  | .a (.sc (.pointer none)),.a (.sc (.pointer none))=>.ok (.b (!neg))
  | .a (.sc (.pointer none)),y=>bif IQ y then .ok (.b neg)else .bad
  |x,.a (.sc (.pointer none))=>bif IQ x then .ok (.b neg)else .bad
  | _,_=>.bad
 | .eqN neg=>match x,y with
  | .a v,.a w=>bif isNil w then(match xS v with
   |some b=>.ok (.b (bif neg then !b else b))
   |none=>.bad)else .bad
  | .xo _ _ _ _,.a w=>bif isNil w then .ok (.b neg)else .bad
  | .c _ (.aC _) x,.a w=>bif isNil w then .ck (!(Nat.beq x.length 0)) (.ok (.b neg))else .bad
  | _,_=>.bad
 | .mf neg l=>match x,y with
  | .ag xs,.ag ys=>match SS l xs ys with
   |some c=>.ok (svB (SU neg c))
   |none=>.bad
  | _,_=>.bad
 |f=>SW f x y
def SY(f:UF)(x:Sv):Option Sv:=match f with
 | .not=>match toB x with
  |some (.l b)=>some (.b (!b))
  |some (.t b)=>some (.c 0 .bool (!b))
  |none=>none
 | .neg=>match x with
  | .i k n=>some (.i k (wN k n))
  | .c _ (.int k) n=>some (.c 0 (.int k) (wN k n))
  | _=>none
 | .xor=>match x with
  | .i k n=>some (.i k (Xx k n))
  | .c _ (.int k) n=>some (.c 0 (.int k) (Xx k n))
  | _=>none
 | .int k=>match x with
  | .i _ n=>some (.i k (ao k n))
  | .c _ (.int _) n=>some (.c 0 (.int k) (ao k n))
  | _=>none
def mN(t:Ty):den t->List Sv:=
 Ty.rec (motive:=fun t=>den t->List Sv) (fun k x=>[.c 0 (.int k) x]) (fun x=>[.c 0 .bool x]) (fun x=>[.c 0 .str x]) (fun t _ x=>[.c 0 (.aC t) x]) (fun _ _ qv uT x=>app (qv x.1) (uT x.2)) t
def Xy(l:List Sv)(off n:Nat):Option (List Sv):=match tk n (dp off l)with
 |r=>bif Nat.beq (len r) n then some r else none
def vA(agg:Bool)(l:List Sv)(off sz:Nat):Option Sv:=match Xy l off sz with
 |none=>none
 |some r=>bif agg then some (.ag r)else match r with
  | [c]=>some c
  | _=>none
def Ap(l:List Sv)(off:Nat)(new:List Sv):List Sv:=app (tk off l) (app new (dp (Nat.add off (len new)) l))
def yy(l:List (Nat×Nat×Sv)):List Sv->Option (List Sv):=
 List.rec (fun cells=>some cells) (fun p _ ih cells=>
  bif Nat.beq (len p.2.2.cells) p.2.1&&Nat.ble (Nat.add p.1 p.2.1) (len cells)then ih (Ap cells p.1 p.2.2.cells)else none) l
def yz(l:List (Nat×Nat×Od))(t:Tq):Option (List (Nat×Nat×Sv)):=
 List.rec (some []) (fun p _ ih=>match jG p.2.2 t with
  |some v=>match ih with
   |some vs=>some ((p.1,p.2.1,v)::vs)
   |none=>none
  |none=>none) l
def yA(l:List (Nat×Od))(t:Tq):Option (List (Nat×Sv)):=
 List.rec (some []) (fun p _ ih=>match jG p.2 t with
  |some v=>match ih with
   |some vs=>some ((p.1,v)::vs)
   |none=>none
  |none=>none) l
def vB(size:Nat)(l:List (Nat×Sv)):Nat->Option (List Sv):=
 List.rec (fun _=>some []) (fun p _ ih i=>
  bif Nat.beq p.1 i&&Nat.beq (len p.2.cells) size then(match ih (Nat.add i 1)with|some r=>some (app p.2.cells r)|none=>none)else none) l
def SZ(n:Nat)(z:List Sv):List Sv:=Nat.rec [] (fun _ ih=>app z ih) n
def yB(size:Nat)(l:List (Nat×Sv)):List (Nat×Nat×Sv):=List.rec [] (fun p _ ih=>(Nat.mul p.1 size,size,p.2)::ih) l
def Aq(n size:Nat)(zero:List Sv)(l:List (Nat×Sv)):Option (List Sv):=
 match bif Nat.beq (len l) n then vB size l 0 else none with
 |some cs=>some cs
 |none=>yy (yB size l) (SZ n zero)
def dP(h:Hq)(r:Row):Hq:=⟨Nat.add h.next 1,h.aU.set h.next (some r)⟩
def iD(h:Hq)(id:Nat)(r:Option Row):Hq:=⟨h.next,h.aU.set id r⟩
def rdS(t:Ty)(f:List Sv->Hq->Option (den t×List Sv×Hq))(n:Nat):List Sv->Hq->Option (List (den t)×Hq):=
 Nat.rec (fun _ h=>some ([],h)) (fun _ ih l h=>match f l h with
  |some (x,r,h)=>match ih r h with
   |some (xs,h)=>some (x::xs,h)
   |none=>none
  |none=>none) n
def QU(t:Ty)(f:List Sv->Hq->Option (den t×List Sv×Hq))(n off:Nat)(l:List Sv)(h:Hq):Option (List (den t)×Hq):=bif Nat.ble off (len l)then rdS t f n (dp off l) h else none
def dH:AV->Bool
 | .eD=>true
 |a=>qu a
def asL(t:Ty)(f:List Sv->Hq->Option (den t×List Sv×Hq))(v:Sv)(h:Hq):Option (List (den t)×Hq):=match v with
 | .a w=>bif dH w then some ([],h)else none
 | .c _ (.aC t') x=>match sf t' t with
  |some ⟨e⟩=>some (e▸x,h)
  |none=>none
 | .os r _=>match h.aU.get r with
  |some (.l t' x)=>(match sf t' t with
   |some ⟨e⟩=>some (e▸x,iD h r (some (.z t' x)))
   |none=>none)
  |some (.z t' x)=>(match sf t' t with
   |some ⟨e⟩=>some (e▸x,h)
   |none=>none)
  | _=>none
 | .ss r _ off n=>match h.aU.get r with
  |some (.l t' x)=>(match sf t' t with
   |some ⟨e⟩=>some (((e▸x:List (den t)).drop off).take n,iD h r (some (.z t' x)))
   |none=>none)
  |some (.z t' x)=>(match sf t' t with
   |some ⟨e⟩=>some (((e▸x:List (den t)).drop off).take n,h)
   |none=>none)
  | _=>none
 | .xo r sz off n=>bif Nat.beq sz (size t)then(match h.aU.get r with
  |some (.o _ l)=>QU t f n off l (iD h r (some (.zo l)))
  |some (.zo l)=>QU t f n off l h
  | _=>none)else none
 | _=>none
def QV(t:Ty):List Sv->Hq->Option (den t×List Sv×Hq):=
 Ty.rec (motive:=fun t=>List Sv->Hq->Option (den t×List Sv×Hq))
  (fun k l h=>match l with
   |v::r=>match toN v with
    |some (k',n)=>bif ka k k' then some (n,r,h)else none
    |none=>none
   | []=>none)
  (fun l h=>match l with
   |v::r=>match toB v with
    |some b=>some (b.v,r,h)
    |none=>none
   | []=>none)
  (fun l h=>match l with
   |v::r=>match toS v with
    |some (_,s)=>some (s,r,h)
    |none=>none
   | []=>none)
  (fun t ih l h=>match l with
   |v::r=>match asL t ih v h with
    |some (x,h)=>some (x,r,h)
    |none=>none
   | []=>none)
  (fun _ _ qv uT l h=>match qv l h with
   |some (x,r,h)=>match uT r h with
    |some (y,r,h)=>some ((x,y),r,h)
    |none=>none
   |none=>none) t
def S4(t:Ty)(v:Sv)(h:Hq):Option (List (den t)×Hq):=asL t (QV t) v h
def Xz(v:Sv)(h:Hq):Option Ty:=match v with
 | .c _ (.aC t) _=>some t
 | .os r _=>match h.aU.get r with
  |some (.l t _)=>some t
  |some (.z t _)=>some t
  | _=>none
 | .ss r _ _ _=>match h.aU.get r with
  |some (.l t _)=>some t
  |some (.z t _)=>some t
  | _=>none
 | _=>none
def S5(v:Sv)(h:Hq):Option Sv:=match v with
 | .a w=>bif dH w then some (.i .i64 0)else none
 | .c _ (.aC _) x=>some (.c 0 (.int .i64) (Int.ofNat x.length))
 | .os r _=>match h.aU.get r with
  |some (.l _ x)=>some (.c 0 (.int .i64) (Int.ofNat x.length))
  |some (.z _ x)=>some (.c 0 (.int .i64) (Int.ofNat x.length))
  | _=>none
 | .ss _ _ _ n=>some (.c 0 (.int .i64) (Int.ofNat n))
 | .xo _ _ _ n=>some (.i .i64 (.ofNat n))
 | _=>none
end Lf
end Go.Ab

noncomputable section
namespace Go.Ab
namespace Lf
abbrev We:=T (Sv×Tq×Hq)
abbrev eV:=Tq->Hq->We
abbrev fP:=FuncId->List Sv->Hq->T (Sv×Hq)
def okV(v:Sv)(t:Tq)(h:Hq):We:=.ok (v,t,h)
def okO(v:Option Sv)(t:Tq)(h:Hq):We:=match v with
 |some v=>.ok (v,t,h)
 |none=>.bad
def pd:Sv:=.tu []
def vC(x:Od):eV:=fun t h=>okO (jG x t) t h
def qE{α:Type}(j:Od)(t:Tq)(a b:Tq->T α):T α:=match j with
 | .t i=>bif Nat.blt i 512 then(match t.at i with
  |some (.b c)=>bif c then a t else b t
  |some (.c _ .bool x)=>.br x (a (t.put i (some (.b true)))) (b (t.put i (some (.b false))))
  | _=>.bad)else .bad
 | .c (.bool c)=>bif c then a t else b t
 | _=>.bad
def QW(c a b:Od):eV:=fun t h=>qE c t (fun t=>vC a t h) (fun t=>vC b t h)
def S6(cs:List AV):eV:=fun t h=>match FU cs with|some l=>okV (.rf h.next 0) t (dP h (.o 0 l))|none=>.bad
def S7(a:Od):eV:=fun t h=>match jG a t with|some v=>okV (.rf h.next 0) t (dP h (.o 0 v.cells))|none=>.bad
def Cv(z:List AV)(ps:List (Nat×Nat×Od)):eV:=fun t h=>match FU z with
 |some z=>match yz ps t with
  |some vs=>match yy vs z with
   |some cs=>okV (.ag cs) t h
   |none=>.bad
  |none=>.bad
 |none=>.bad
def S8(n sz:Nat)(z:List AV)(ps:List (Nat×Od)):eV:=fun t h=>match yA ps t with
 |some vs=>bif Nat.beq n 0 then(match vs with| []=>okV (.a .mI) t h| _=>.bad)else(match FU z with
  |some z=>match Aq n sz z vs with
   |some cs=>bif fB Ao cs&&(Nat.blt 0 sz&&Nat.beq (len cs) (Nat.mul n sz))then okV (.xo h.next sz 0 n) t (dP h (.o 0 cs))else .bad
   |none=>.bad
  |none=>.bad)
 |none=>.bad
def IU(h:Hq)(r sz i:Nat):Option (List Sv):=match h.aU.get r with
 |some (.l t x)=>bif Nat.beq sz (size t)then some (mN t (x.getD i (aE t)))else none
 |some (.z t x)=>bif Nat.beq sz (size t)then some (mN t (x.getD i (aE t)))else none
 | _=>none
def vD(h:Hq)(r:Nat):Option (List Sv):=match h.aU.get r with
 |some (.o _ l)=>some l
 |some (.zo l)=>some l
 | _=>none
def xw(sz:Nat)(agg:Bool)(a:Sv)(h:Hq):Option Sv:=bif Nat.blt 0 sz then(match a with
 | .rf r o=>match vD h r with
  |some l=>vA agg l o sz
  |none=>none
 | .re r s i o=>match IU h r s i with
  |some l=>vA agg l o sz
  |none=>none
 | .zp l=>vA agg l 0 sz
 | _=>none)else none
def DL(sz:Nat)(agg:Bool)(a:Od):eV:=fun t h=>match jG a t with
 |some p=>okO (xw sz agg p h) t h
 |none=>.bad
def Cw(sz:Nat)(a b:Od):eV:=fun t h=>match jG b t with
 |some v=>bif Nat.beq (len v.cells) sz&&fB Ao v.cells then(match jG a t with
  |some (.rf r o)=>match h.aU.get r with
   |some (.o g l)=>bif Nat.ble (Nat.add o (len v.cells)) (len l)then okV pd t (iD h r (some (.o g (Ap l o v.cells))))else .bad
   | _=>.bad
  |some (.re r s i o)=>match h.aU.get r with
   |some (.l ty x)=>bif Nat.beq s (size ty)&&Nat.ble (Nat.add o (len v.cells)) s then(match QV ty (Ap (mN ty (x.getD i (aE ty))) o v.cells) h with
    |some (y,[],h')=>(match h'.aU.get r with
     |some (.l _ _)=>okV pd t (iD h' r (some (.l ty (x.set i y))))
     | _=>.bad)
    | _=>.bad)else .bad
   | _=>.bad
  | _=>.bad)else .bad
 |none=>.bad
def DM(a:Od):eV:=fun t h=>match jG a t with
 |some (.rf r o)=>okV (.rf r o) t h
 |some (.re r s i o)=>okV (.re r s i o) t h
 |some (.zp c)=>okV (.zp c) t h
 |some (.fn f c)=>okV (.fn f c) t h
 | _=>.bad
def Nd(f:BF)(a b:Od):eV:=fun t h=>match jG a t with
 |some x=>match jG b t with
  |some y=>(SX f x y).bd fun v=>okV v t h
  |none=>.bad
 |none=>.bad
def sUn(f:UF)(a:Od):eV:=fun t h=>match jG a t with
 |some x=>okO (SY f x) t h
 |none=>.bad
def sFn(f:FuncId)(cap:List Od):eV:=fun t h=>match IJ cap t with
 |some vs=>okV (.fn f vs) t h
 |none=>.bad
def nU(off:Nat)(a:Od):eV:=fun t h=>match jG a t with
 |some (.rf r o)=>okV (.rf r (Nat.add o off)) t h
 |some (.re r s i o)=>okV (.re r s i (Nat.add o off)) t h
 |some (.zp l)=>bif Nat.ble off (len l)then okV (.zp (dp off l)) t h else .bad
 | _=>.bad
def yC(off size:Nat)(agg:Bool)(a:Od):eV:=fun t h=>match jG a t with
 |some (.ag cs)=>okO (vA agg cs off size) t h
 | _=>.bad
def bF(i n:Int):Bool:=decide (0<=i)&&decide (i<n)
def Nf(size:Nat)(a i:Od):eV:=fun t h=>match jG i t with
 |some iv=>match toN iv with
  |some (_,n)=>match jG a t with
   |some (.os r s)=>match h.aU.get r with
    |some (.l _ x)=>bif Nat.beq s size then .ck (bF n (Int.ofNat x.length)) (okV (.re r s n.toNat 0) t h)else .bad
    |some (.z _ x)=>bif Nat.beq s size then .ck (bF n (Int.ofNat x.length)) (okV (.re r s n.toNat 0) t h)else .bad
    | _=>.bad
   |some (.ss r s off m)=>bif Nat.beq s size then .ck (bF n (Int.ofNat m)) (okV (.re r s (off+n.toNat) 0) t h)else .bad
   |some (.xo r s off m)=>match iv with
    | .i _ (.ofNat k)=>bif Nat.beq s size&&Nat.blt k m then okV (.rf r (Nat.add off (Nat.mul k s))) t h else .bad
    | _=>.bad
   |some (.c _ (.aC ty) x)=>bif Nat.beq size (Lf.size ty)then .ck (bF n (Int.ofNat x.length)) (okV (.zp (mN ty (x.getD n.toNat (aE ty)))) t h)else .bad
   | _=>.bad
  |none=>.bad
 |none=>.bad
def Ng(n size:Nat)(a i:Od):eV:=fun t h=>match jG i t with
 |some (.i _ (.ofNat k))=>bif Nat.blt k n then(match jG a t with
  |some (.rf r o)=>okV (.rf r (Nat.add o (Nat.mul k size))) t h
  |some (.zp l)=>bif Nat.ble (Nat.mul k size) (len l)then okV (.zp (dp (Nat.mul k size) l)) t h else .bad
  | _=>.bad)else .bad
 | _=>.bad
def Cy(k:IntKind)(l:List Sv):Option (List Int):=List.rec (some []) (fun v _ ih=>match toN v with
 |some (k',n)=>bif ka k k' then(match ih with
  |some r=>some (n::r)
  |none=>none)else none
 |none=>none) l
def yD(n size:Nat)(agg:Bool)(a i:Od):eV:=fun t h=>match jG a t with
 |some (.ag cs)=>match jG i t with
  |some (.i _ (.ofNat k))=>bif Nat.blt k n then okO (vA agg cs (Nat.mul k size) size) t h else .bad
  |some (.c _ (.int _) x)=>bif agg|| !(Nat.beq size 1)then .bad else(match cs with
   |v::_=>match toN v with
    |some (k,_)=>match Cy k cs with
     |some l=>bif Nat.beq (len l) n then .ck (bF x (Int.ofNat n)) (okV (.c 0 (.int k) (l.getD x.toNat 0)) t h)else .bad
     |none=>.bad
    |none=>.bad
   | []=>.bad)
  | _=>.bad
 | _=>.bad
def uE(a i:Od):eV:=fun t h=>match jG a t with
 |some v=>match toS v with
  |some (_,s)=>match jG i t with
   |some iv=>match toN iv with
    |some (_,n)=>.ck (bF n (Int.ofNat s.size)) (okV (.c 0 (.int .u8) (Int.ofNat ((s.data.toList.getD n.toNat 0).toNat))) t h)
    |none=>.bad
   |none=>.bad
  |none=>.bad
 |none=>.bad
def DN(a:Od):eV:=fun t h=>match jG a t with
 |some v=>match toS v with
  |some (true,s)=>okV (.i .i64 (.ofNat s.size)) t h
  |some (false,s)=>okV (.c 0 (.int .i64) (Int.ofNat s.size)) t h
  |none=>.bad
 |none=>.bad
def rB(a:Od)(i:Nat):eV:=fun t h=>match jG a t with
 |some (.tu vs)=>okO (kE vs i) t h
 | _=>.bad
def dc(a:Od):eV:=fun t h=>match Wd a t with
 |some v=>okO (S5 v h) t h
 |none=>.bad
def wP(o:Option Od)(t:Tq)(d:Sv):Option (Bool×Int):=match(match o with
 |none=>some d
 |some o=>jG o t)with
 |some v=>match toN v with
  |some (_,n)=>some (IP v,n)
  |none=>none
 |none=>none
def dy(l u n:Int):Bool:=decide (0<=l)&&(decide (l<=u)&&decide (u<=n))
def rD(size:Nat)(a:Od)(lo hi:Option Od):eV:=fun t h=>match jG a t with
 |some v=>match S5 v h with
  |some m=>match toN m with
   |some (_,n)=>match wP lo t (.i .i64 0)with
    |some (ll,l)=>match wP hi t m with
     |some (lu,u)=>(match v with
      | .a w=>bif qu w then .ck (dy l u n) (okV (.a w) t h)else .bad
      | .os r s=>bif Nat.beq s size then .ck (dy l u n) (okV (.ss r s l.toNat (u.toNat - l.toNat)) t h)else .bad
      | .ss r s off _=>bif Nat.beq s size then .ck (dy l u n) (okV (.ss r s (off+l.toNat) (u.toNat - l.toNat)) t h)else .bad
      | .xo r s off _=>bif (ll&&lu)&&(Nat.beq s size&&dy l u n)then okV (.xo r s (Nat.add off (Nat.mul l.toNat s)) (Nat.sub u.toNat l.toNat)) t h else .bad
      | .c _ (.aC ty) x=>bif Nat.beq size (Lf.size ty)then .ck (dy l u n) (okV (.c 0 (.aC ty) ((x.drop l.toNat).take (u.toNat - l.toNat))) t h)else .bad
      | _=>.bad)
     |none=>.bad
    |none=>.bad
   |none=>.bad
  |none=>.bad
 |none=>.bad
def yE(n size:Nat)(a:Od)(lo hi:Option Od):eV:=fun t h=>match jG a t with
 |some (.rf r o)=>match wP lo t (.i .i64 0)with
  |some (true,l)=>match wP hi t (.i .i64 (.ofNat n))with
   |some (true,u)=>match vD h r with
    |some cs=>bif Nat.ble (Nat.add o (Nat.mul n size)) (len cs)&&(dy l u (Int.ofNat n)&&Nat.blt 0 size)then okV (.xo r size (Nat.add o (Nat.mul l.toNat size)) (Nat.sub u.toNat l.toNat)) t h else .bad
    |none=>.bad
   | _=>.bad
  | _=>.bad
 | _=>.bad
def yF(a:Od)(lo hi:Option Od):eV:=fun t h=>match jG a t with
 |some v=>match toS v with
  |some (true,s)=>match wP lo t (.i .i64 0)with
   |some (true,l)=>match wP hi t (.i .i64 (.ofNat s.size))with
    |some (true,u)=>bif dy l u (Int.ofNat s.size)then okV (.a (.sc (.string (s.extract l.toNat u.toNat)))) t h else .bad
    | _=>.bad
   | _=>.bad
  | _=>.bad
 |none=>.bad
def roomy(bytes n:Nat):Bool:=decide (n*bytes<=70368744177664)&&decide (n<=70368744177664)
def rE(v:Sv)(h:Hq):Option (Nat×List Sv):=match v with
 | .a w=>bif dH w then some (0,[])else none
 | .xo r s off n=>match vD h r with
  |some l=>bif Nat.ble (Nat.add off (Nat.mul n s)) (len l)then some (n,tk (Nat.mul n s) (dp off l))else none
  |none=>none
 | _=>none
def kill(v:Sv)(h:Hq):Option Hq:=match v with
 | .a _=>some h
 | .os r _=>match h.aU.get r with
  |some (.l _ _)=>some (iD h r none)
  | _=>none
 | .ss r _ _ _=>match h.aU.get r with
  |some (.l _ _)=>some (iD h r none)
  | _=>none
 | .xo r _ _ _=>match h.aU.get r with
  |some (.o _ _)=>some (iD h r none)
  | _=>none
 | _=>none
def Ar(t:Ty)(v:Sv)(h:Hq):Option (List (den t)×Hq):=match v with
 | .os r _=>match h.aU.get r with
  |some (.l t' x)=>match sf t' t with
   |some ⟨e⟩=>some (e▸x,h)
   |none=>none
  | _=>none
 | .ss r _ off n=>match h.aU.get r with
  |some (.l t' x)=>match sf t' t with
   |some ⟨e⟩=>some (((e▸x:List (den t)).drop off).take n,h)
   |none=>none
  | _=>none
 | .a w=>bif dH w then some ([],h)else none
 | .xo r sz off n=>match h.aU.get r with
  |some (.o _ l)=>bif Nat.beq sz (size t)then QU t (QV t) n off l h else none
  | _=>none
 | _=>none
def S9(bytes:Nat)(t:Ty)(s:Sv)(new:List (den t))(tq:Tq)(h:Hq):We:=match Ar t s h with
 |some (x,h1)=>match kill s h1 with
  |some h2=>.ck (roomy bytes (x.length+new.length)) (okV (.os h2.next (size t)) tq (dP h2 (.l t (app x new))))
  |none=>.bad
 |none=>.bad
def Nh(s:Sv)(d:Nat):Nat:=match s with
 | .os _ z=>z
 | .ss _ z _ _=>z
 | .xo _ z _ _=>z
 | _=>d
def IV(size bytes:Nat)(s x:Sv)(t:Tq)(h:Hq):We:=bif Nat.beq (Nh s size) size&&(Nat.beq (Nh x size) size&&Nat.blt 0 size)then(match rE x h with
 |some (0,_)=>(match s with
  | .a w=>bif qu w then okV s t h else .bad
  | .os _ _=>okV s t h
  | .ss _ _ _ _=>okV s t h
  | .xo _ _ _ _=>okV s t h
  | _=>.bad)
 |some (m,new)=>(match rE s h with
  |some (n,oL)=>match kill s h with
   |some h2=>bif roomy bytes (Nat.add n m)&&fB Ao new then okV (.xo h2.next size 0 (Nat.add n m)) t (dP h2 (.o 0 (app oL new)))else .bad
   |none=>.bad
  |none=>match Xz s h with
   |some ty=>bif Nat.beq size (Lf.size ty)then(match S4 ty x h with
    |some (new,h1)=>S9 bytes ty s new t h1
    |none=>.bad)else .bad
   |none=>.bad)
 |none=>(match Xz x h with
  |some ty=>bif Nat.beq size (Lf.size ty)then(match S4 ty x h with
   |some (new,h1)=>S9 bytes ty s new t h1
   |none=>.bad)else .bad
  |none=>.bad))else .bad
def yG(size bytes:Nat)(s x:Od):eV:=fun t h=>match jG s t with
 |some s=>match jG x t with
  |some x=>IV size bytes s x t h
  |none=>.bad
 |none=>.bad
def aff:AV->Option Ty
 | .int k _=>some (.int k)
 | .bool _=>some .bool
 | .sc (.string _)=>some .str
 | .sc (.slice none 0 0)=>some (.aC (.int .i64))
 | _=>none
def tyZ(l:List AV):Option Ty:=List.rec none (fun a r ih=>match aff a with
 |some t=>match r with
  | []=>some t
  | _=>match ih with
   |some u=>some (.pair t u)
   |none=>none
 |none=>none) l
def DO(z:List AV):Option ((t:Ty)×den t):=match tyZ z with
 |some t=>match FU z with
  |some l=>match QV t l ⟨0,.nil⟩with
   |some (x,[],_)=>some ⟨t,x⟩
   | _=>none
  |none=>none
 |none=>none
def IW(size bytes:Nat)(z:List AV)(s x:Od):eV:=fun t h=>match jG s t with
 |some sv=>match jG x t with
  |some xv=>match toN xv with
   |some (_,n)=>bif Nat.beq (Nh sv size) size then(match DO z with
    |some ⟨ty,y⟩=>bif Nat.beq size (Lf.size ty)&&Nat.beq size (len z)then(.ck (decide (0<=n)) (S9 bytes ty sv (List.replicate n.toNat y) t h))else .bad
    |none=>.bad)else .bad
   |none=>.bad
  |none=>.bad
 |none=>.bad
def IX(bytes:Nat)(s x:Od):eV:=fun t h=>match jG s t with
 |some sv=>match jG x t with
  |some xv=>match toS xv with
   |some (_,y)=>bif Nat.beq (Nh sv 1) 1 then S9 bytes (.int .u8) sv (y.data.toList.map fun b=>Int.ofNat b.toNat) t h else .bad
   |none=>.bad
  |none=>.bad
 |none=>.bad
def Cz(x:Od):eV:=fun t h=>match jG x t with
 |some v=>match toS v with
  |some (_,y)=>okV (.os h.next 1) t (dP h (.l (.int .u8) (y.data.toList.map fun b=>Int.ofNat b.toNat)))
  |none=>.bad
 |none=>.bad
def FV(a b:Od):Bool:=match a,b with
 | .t i,.t j=>Nat.beq i j
 | .c (.int _ m),.c (.int _ n)=>eqI m n
 | _,_=>false
def IY(size bytes:Nat)(z:List AV)(l c:Od):eV:=fun t h=>match jG l t with
 |some lv=>match jG c t with
  |some cv=>match toN lv with
   |some (_,l')=>match toN cv with
    |some (_,c')=>match DO z with
     |some ⟨ty,y⟩=>bif Nat.beq size (Lf.size ty)&&Nat.beq size (len z)then
      .ck ((decide (0<=l')&&decide (l'<=c'))&&decide (c'.toNat*bytes<=70368744177664))
       (okV (bif FV l c then .os h.next size else .ss h.next size 0 l'.toNat) t (dP h (.l ty (List.replicate c'.toNat y))))else .bad
     |none=>.bad
    |none=>.bad
   |none=>.bad
  |none=>.bad
 |none=>.bad
def Ta(x y z:Od):eV:=fun t h=>match jG y t with
 |some (.i _ (.ofNat 0))=>match jG z t with
  |some (.i _ (.ofNat 0))=>match Wd x t with
   |some (.a w)=>bif dH w then okV (.a .eD) t h else .bad
   |some (.os _ _)=>okV (.a .eD) t h
   |some (.ss _ _ _ _)=>okV (.a .eD) t h
   |some (.xo _ _ _ _)=>okV (.a .eD) t h
   |some (.c _ (.aC _) _)=>okV (.a .eD) t h
   | _=>.bad
  | _=>.bad
 | _=>.bad
def eH(x:Od):eV:=fun t h=>match Wd x t with
 |some (.a w)=>bif dH w then okV (.i .i64 0) t h else .bad
 | _=>.bad
def CA(mx:Bool)(a b:Od):eV:=fun t h=>match jG a t with
 |some x=>match jG b t with
  |some y=>match x,y with
   | .i k m,.i k' n=>bif ka k k' then okV (.i k (bif mx then(bif p5 m n then n else m)else(bif p5 n m then n else m))) t h else .bad
   |x,y=>match toN x,toN y with
    |some (k,m),some (k',n)=>bif ka k k' then okV (.c 0 (.int k) (match mx with|true=>max m n|false=>min m n)) t h else .bad
    | _,_=>.bad
  |none=>.bad
 |none=>.bad
def IZ(t:Ty)(v:Sv)(h:Hq):Option (List (den t)×Hq):=match Ar t v h with
 |some r=>some r
 |none=>S4 t v h
def Ni(size:Nat)(sv:Sv)(r sz off n:Nat)(t:Tq)(h:Hq):We:=match h.aU.get r with
 |some (.l ty x)=>bif Nat.blt 0 size&&(Nat.beq sz size&&Nat.beq size (Lf.size ty))then(match IZ ty sv h with
  |some (y,h1)=>(match h1.aU.get r with
   |some (.l _ _)=>okV (.c 0 (.int .i64) (Int.ofNat (min y.length n))) t (iD h1 r (some (.l ty (app (x.take off) (app (y.take (min y.length n)) (x.drop (Nat.add off (min y.length n))))))))
   | _=>.bad)
  |none=>.bad)else .bad
 | _=>.bad
def I0(size:Nat)(d s:Od):eV:=fun t h=>match Wd s t with
 |some sv=>(match Wd d t with
  |some (.os r sz)=>(match h.aU.get r with
   |some (.l _ x)=>Ni size sv r sz 0 x.length t h
   | _=>.bad)
  |some (.ss r sz off n)=>Ni size sv r sz off n t h
  | _=>.bad)
 |none=>.bad
def I1(call:fP)(f:FuncId)(args:List Od):eV:=fun t h=>match IJ args t with
 |some vs=>(call f vs h).bd fun p=>okV p.1 t p.2
 |none=>.bad
def CB(call:fP)(f:Od)(args:List Od):eV:=fun t h=>match jG f t with
 |some (.fn k cap)=>match IJ args t with
  |some vs=>(call k (app vs cap) h).bd fun p=>okV p.1 t p.2
  |none=>.bad
 | _=>.bad
def ji(l:List Sv):Nat->List Sv×Nat:=List.rec (fun n=>([],n)) (fun a _ ih n=>match a with
 | .c m (.aC t) x=>bif Nat.beq m 0 then(.c n (.aC t) x::(ih (Nat.add n 1)).1,(ih (Nat.add n 1)).2)else(a::(ih n).1,(ih n).2)
 |a=>(a::(ih n).1,(ih n).2)) l
def Tb(b:Od)(f:eV):eV:=fun t h=>match b with
 | .t i=>bif Nat.blt i 512 then(match t.at i with
  |some (.ag l)=>f (t.put i (some (.ag (ji l h.next).1))) ⟨(ji l h.next).2,h.aU⟩
  | _=>f t h)else f t h
 | _=>f t h
def I2(a:Od):eV:=fun t h=>match jG a t with
 |some (.os r sz)=>match h.aU.get r with
  |some (.l _ x)=>.ck (!(Nat.beq x.length 0)) (okV (.os r sz) t h)
  | _=>.bad
 |some (.xo r sz off n)=>match h.aU.get r with
  |some (.o _ _)=>bif Nat.beq n 0 then .bad else okV (.xo r sz off n) t h
  | _=>.bad
 | _=>.bad
def vE(call:fP)(o:j5):eV:=match o with
 | .mv a=>vC a| .pk c a b=>QW c a b| .nw cs=>S6 cs| .bx a=>S7 a| .bd z ps=>Cv z ps| .rw n sz z ps=>S8 n sz z ps
 | .ld sz g a=>DL sz g a| .sto sz a b=>Tb b (Cw sz a b)| .nl a=>DM a| .bn f a b=>Nd f a b| .un f a=>sUn f a| .fn f cap=>sFn f cap
 | .fa off a=>nU off a| .fd off s g a=>yC off s g a| .ixS s a i=>Nf s a i| .ixA n s a i=>Ng n s a i| .ix n s g a i=>yD n s g a i| .ixT a i=>uE a i
 | .slN s a lo hi=>rD s a lo hi| .slA n s a lo hi=>yE n s a lo hi| .slS a lo hi=>yF a lo hi| .ex a i=>rB a i| .ln a=>dc a| .lnT a=>DN a
 | .ap s b x y=>yG s b x y| .apZ s b z x y=>IW s b z x y| .apS b x y=>IX b x y| .bys a=>Cz a| .mk s b z l c=>IY s b z l c
 | .emp a b c=>Ta a b c| .cap a=>eH a| .mrk a=>I2 a| .min a b=>CA false a b| .max a b=>CA true a b
 | .map=>fun t h=>okV (.a .any) t h
 | .cpy sz d a=>I0 sz d a
 | .call f args=>I1 call f args| .callV f args=>CB call f args
 | _=>fun _ _=>.bad
def Tc(j:Od)(want:Bool)(f:eV):eV:=fun t h=>match jG j t with
 |some (.tu [])=>okV pd t h
 | _=>qE j t (fun t=>bif want then f t h else okV pd t h) (fun t=>bif want then okV pd t h else f t h)
def QX(call:fP)(o:j5):eV:=match o with
 | .gd j w (.mn f)=>Tc j w (vE call f)
 | .gd j w f=>Tc j w (vE call f)
 | .mn (.gd j w f)=>Tc j w (vE call f)
 | .mn f=>vE call f
 |o=>vE call o
def DQ(u v:Sv):Option LB:=match u,v with
 | .i k a,.i k' b=>bif ka k k'&&eqI a b then some (.l true)else none
 | .b a,.b b=>bif a then(bif b then some (.l true)else none)else(bif b then none else some (.l true))
 | .a v,.a w=>bif mf v w then some (.l true)else none
 | .rf r o,.rf r' o'=>bif Nat.beq r r'&&Nat.beq o o' then some (.l true)else none
 | .re r s i o,.re r' s' i' o'=>bif Nat.beq r r'&&(Nat.beq s s'&&Nat.beq o o')then some (.t (decide (i=i')))else none
 | .os r s,.os r' s'=>bif Nat.beq r r'&&Nat.beq s s' then some (.l true)else none
 | .ss r s o n,.ss r' s' o' n'=>bif Nat.beq r r'&&Nat.beq s s' then some (.t (decide (o=o')&&decide (n=n')))else none
 | .xo r s o n,.xo r' s' o' n'=>bif Nat.beq r r'&&(Nat.beq s s'&&(Nat.beq o o'&&Nat.beq n n'))then some (.l true)else none
 | .c m (.aC t) _,.c m' (.aC t') _=>bif Nat.blt 0 m&&Nat.beq m m' then some (.l true)else none
 |u,v=>match toN u,toN v with
  |some (k,a),some (k',b)=>bif ka k k' then some (.t (decide (a=b)))else none
  | _,_=>match toB u,toB v with
   |some a,some b=>some (.t (!(xor a.v b.v)))
   | _,_=>none
def DR:List Sv->List Sv->Option LB
 | [],[]=>some (.l true)
 |a::l,b::m=>match DQ a b with
  |some c=>match DR l m with
   |some d=>some (c.and d)
   |none=>none
  |none=>none
 | _,_=>none
def DS(u v:Sv):Option LB:=match u,v with
 | .ag l,.ag m=>DR l m
 |u,v=>DQ u v
inductive Oc where
 |norm (t:Tq) (h:Hq)
 |ret (t:Tq) (h:Hq)
 |exit (i:Nat) (t:Tq) (h:Hq)
abbrev i7:=Tq->Hq->T Oc
def As(s:Od)(sz:Nat)(g:Bool)(a:Od)(t:Tq)(h:Hq)(k:T (Tq×Hq)):T (Tq×Hq):=match jG a t with
 |some p=>(match xw sz g p h with
  |some v=>(match jG s t with
   |some u=>(match DS u v with
    |some c=>ckL c k
    |none=>.bad)
   |none=>.bad)
  |none=>.bad)
 |none=>.bad
def I3(s:Od)(sz:Nat)(a:Od)(lo hi:Option Od)(t:Tq)(h:Hq)(k:T (Tq×Hq)):T (Tq×Hq):=(rD sz a lo hi t h).bd fun p=>match jG s t with
 |some u=>(match DS u p.1 with
  |some c=>ckL c k
  |none=>.bad)
 |none=>.bad
def wQ(s:Od)(t:Tq)(k:T (Tq×Hq)):T (Tq×Hq):=match jG s t with
 |some (.tu [])=>k
 | _=>.bad
def vF(call:fP)(r:wM):Tq->Hq->T (Tq×Hq):=
 wM.rec (motive:=fun _=>Tq->Hq->T (Tq×Hq)) (fun t h=>.ok (t,h))
  (fun i f _ ih t h=>bif Nat.blt i 512 then(QX call f t h).bd fun p=>ih (p.2.1.put i (some p.1)) p.2.2 else .bad)
  (fun f _ ih t h=>(QX call f t h).bd fun p=>ih p.2.1 p.2.2)
  (fun s f _ ih t h=>match f with
   | .ld sz g a=>As s sz g a t h (ih t h)
   | .slN sz a lo hi=>I3 s sz a lo hi t h (ih t h)
   | .gd j w (.ld sz g a)=>(match jG j t with
    |some (.b c)=>bif (bif w then c else !c)then As s sz g a t h (ih t h)else wQ s t (ih t h)
    |some (.tu [])=>wQ s t (ih t h)
    | _=>.bad)
   | _=>.bad) r
def mO:j5->Bool
 | .mv _| .pk _ _ _| .ld _ _ _| .nl _| .bn _ _ _| .un _ _| .fa _ _| .fd _ _ _ _| .ixS _ _ _| .ixT _ _| .ex _ _| .ln _| .lnT _| .min _ _| .max _ _=>true
 | .gd _ _ (.mn _)=>false
 | .gd _ _ (.gd _ _ _)=>false
 | .gd _ _ f=>mO f
 | _=>false
def vG(r:wM):Bool:=wM.rec true (fun _ f _ ih=>bif mO f then ih else false) (fun f _ ih=>bif mO f then ih else false) (fun _ _ _ ih=>ih) r
def vH(r:wM):List Nat:=wM.rec [] (fun i _ _ ih=>i::ih) (fun _ _ ih=>ih) (fun _ _ _ ih=>ih) r
def mgV(c:Bool)(v w:Sv):Option Sv:=match v,w with
 | .b x,.b y=>bif (bif x then y else !y)then some (.b x)else some (.c 0 .bool (bif c then x else y))
 | .a x,.a y=>bif mf x y then some (.a x)else none
 | .rf r o,.rf r' o'=>bif Nat.beq r r'&&Nat.beq o o' then some (.rf r o)else none
 | .os r o,.os r' o'=>bif Nat.beq r r'&&Nat.beq o o' then some (.os r o)else none
 | .c m (.aC t) x,.c m' (.aC t') y=>(match sf t' t with
  |some ⟨e⟩=>some (.c 0 (.aC t) (bif c then x else(e▸y:List (den t))))
  |none=>none)
 | .i k x,.i k' y=>bif ka k k' then(bif eqI x y then some (.i k x)else some (.c 0 (.int k) (bif c then x else y)))else none
 |v,w=>match toN v,toN w with
  |some (k,x),some (k',y)=>bif ka k k' then some (.c 0 (.int k) (bif c then x else y))else none
  | _,_=>match toB v,toB w with
   |some x,some y=>some (.c 0 .bool (bif c then x.v else y.v))
   | _,_=>none
def Wf(c:Bool)(v w:Option Sv):Option Sv:=match v with
 |some v=>(match w with
  |some w=>mgV c v w
  |none=>none)
 |none=>none
def Wg(wB:List Nat)(c:Bool)(T0 a b:Tq):Tq:=List.rec T0 (fun i _ ih=>ih.put i (Wf c (a.at i) (b.at i))) wB
def LB.cond(c:Bool):LB->LB->LB
 | .l true,.l true=>.l true
 | .l x,.l y=>.t (bif c then x else y)
 | .l x,.t y=>.t (bif c then x else y)
 | .t x,.l y=>.t (bif c then x else y)
 | .t x,.t y=>.t (bif c then x else y)
def QY(wB:List Nat)(T0:Tq)(x:T (Tq×Hq)):LB×Tq:=T.rec (motive:=fun _=>LB×Tq) (.l false,T0) (fun p=>(.l true,p.1))
 (fun c _ _ a b=>(LB.cond c a.1 b.1,Wg wB c T0 a.2 b.2))
 (fun c _ a=>(LB.and (.t c) a.1,a.2)) x
def Nj(call:fP)(r:wM):Tq->Hq->T (Tq×Hq):=fun t h=>bif vG r&&fB (fun i=>Nat.blt i 512) (vH r)then(match QY (vH r) t (vF call r t h)with
 |(c,t')=>ckL c (.ok (t',h)))else vF call r t h
def FW(a:T Oc)(b:i7):T Oc:=a.bd fun o=>match o with
 | .norm t h=>b t h
 |o=>.ok o
def blO(id:Nat)(a:T Oc):T Oc:=a.bd fun o=>match o with
 | .exit i t h=>.ok (bif Nat.beq i id then .norm t h else .exit i t h)
 |o=>.ok o
def QZ(L:Nat->Option i7)(call:fP)(m:Nat)(c:ou):i7:=
 ou.rec (motive:=fun _=>i7) (fun r t h=>(Nj call r t h).bd fun p=>.ok (.norm p.1 p.2)) (fun t h=>.ok (.norm t h))
  (fun _ _ a b t h=>FW (a t h) b)
  (fun c _ _ a b t h=>qE c t (fun t=>a t h) (fun t=>b t h))
  (fun id _ b t h=>match L id with
   |some f=>f t h
   |none=>blO id (b t h))
  (fun _ b=>Nat.rec (motive:=fun _=>i7) (fun _ _=>.bad) (fun _ ih t h=>FW (b t h) ih) m)
  (fun i t h=>.ok (.exit i t h)) (fun t h=>.ok (.ret t h)) (fun _ _=>.bad) c
def Td(t:Tq)(h:Hq):RV->Option Sv
 | .tmp i=>bif Nat.blt i 512 then t.at i else none
 | .cell i size agg=>match(bif Nat.blt i 512 then t.at i else none)with
  |some p=>xw size agg p h
  |none=>none
def I4(t:Tq)(h:Hq)(l:List RV):Option (List Sv):=List.rec (some []) (fun r _ ih=>match Td t h r with
 |some v=>match ih with
  |some vs=>some (v::vs)
  |none=>none
 |none=>none) l
def I5(res:List RV)(t:Tq)(h:Hq):T (Sv×Hq):=match I4 t h res with
 |some [v]=>.ok (v,h)
 |some vs=>.ok (.tu vs,h)
 |none=>.bad
def CC(l:List Sv):Nat->Tq->Tq:=List.rec (fun _ t=>t) (fun v _ ih i t=>ih (Nat.add i 1) (t.put i (some v))) l
def At(L:Nat->Option i7)(b:cQ)(m:Nat)(c:fP)(args:List Sv)(h:Hq):T (Sv×Hq):=
 bif Nat.ble (len args) b.ntmps then(QZ L c m b.code (CC args 0 Tq.none) h).bd fun o=>match o with
  | .norm t h=>I5 b.res t h
  | .ret t h=>I5 b.res t h
  | _=>.bad else .bad
end Lf
end Go.Ab

noncomputable section
namespace Go.Ab
namespace Lf
structure Kr where
 av:AV
 n:Nat
structure En where
 K:Nat->Kr
 tk:Nat->AV
 G:Nat->Option Rw
 A:Nat->AV
section
variable {α:Type}
def jH(E:α->List AV->Prop):List α->List AV->Prop
 | [],cs=>cs=[]
 |x::xs,cs=> ∃ c r,cs=c++r/\E x c/\jH E xs r
theorem jH.mono{E E':α->List AV->Prop}(h: ∀ x c,E x c->E' x c): ∀ {l:List α} {cs:List AV},jH E l cs->jH E' l cs
 | [],_,e=>e
 | _::_,_,⟨c,r,e,a,b⟩=>⟨c,r,e,h _ _ a,jH.mono h b⟩
theorem jH.app{E:α->List AV->Prop}: ∀ {l m:List α} {cs ds:List AV},jH E l cs->jH E m ds->jH E (l++m) (cs++ds)
 | [],_,_,_,e,k=>by have e':_=[]:=e;subst e';simpa using k
 | _::_,_,_,_,⟨c,r,e,a,b⟩,k=>by subst e;exact⟨c,r++_,by simp,a,jH.app b k⟩
theorem jH.length{E:α->List AV->Prop}{s:Nat}(h: ∀ x c,E x c->c.length=s): ∀ {l:List α} {cs:List AV},jH E l cs->cs.length=l.length*s
 | [],_,e=>by have e':_=[]:=e;subst e';simp
 | _::_,_,⟨c,r,e,a,b⟩=>by subst e;rw[List.length_append,h _ _ a,jH.length h b,List.length_cons,Nat.succ_mul];omega
theorem jH.drop{E:α->List AV->Prop}{s:Nat}(h: ∀ x c,E x c->c.length=s): ∀ (n:Nat) {l:List α} {cs:List AV},jH E l cs->jH E (l.drop n) (cs.drop (n*s))
 |0,_,_,e=>by simpa using e
 |n+1,[],_,e=>by have e':_=[]:=e;subst e';simp;rfl
 |n+1,_::_,_,⟨c,r,e,a,b⟩=>by
  subst e
  have:=jH.drop h n b
  rw[List.drop_succ_cons,Nat.succ_mul,Nat.add_comm,<-List.drop_drop,List.drop_append_of_le_length (by rw[h _ _ a];exact Nat.le_refl _),<-h _ _ a,List.drop_length,List.nil_append,h _ _ a]
  exact this
theorem jH.take{E:α->List AV->Prop}{s:Nat}(h: ∀ x c,E x c->c.length=s): ∀ (n:Nat) {l:List α} {cs:List AV},jH E l cs->jH E (l.take n) (cs.take (n*s))
 |0,_,_,e=>by simp;rfl
 |n+1,[],_,e=>by have e':_=[]:=e;subst e';simp;rfl
 |n+1,_::_,_,⟨c,r,e,a,b⟩=>by
  subst e
  have:=jH.take h n b
  refine⟨c,r.take (n*s),?_,a,this⟩
  rw[Nat.succ_mul,Nat.add_comm,<-h _ _ a,List.take_length_add_append]
theorem jH.get{E:α->List AV->Prop}{s:Nat}(h: ∀ x c,E x c->c.length=s){l:List α}{cs:List AV}(e:jH E l cs){i:Nat}(hi:i<l.length)(d:α):E (l.getD i d) ((cs.drop (i*s)).take s):=by
 induction l generalizing cs i with
 |nil=>simp at hi
 |cons x l ih=>
  obtain⟨c,r,rfl,a,b⟩:=e
  cases i with
  |zero=>simp only[Nat.zero_mul,List.drop_zero,List.getD_cons_zero];rw[List.take_append_of_le_length (by rw[h _ _ a];exact Nat.le_refl _),<-h _ _ a,List.take_length];exact a
  |succ i=>
   rw[List.getD_cons_succ,Nat.succ_mul,Nat.add_comm,<-List.drop_drop,List.drop_append_of_le_length (by rw[h _ _ a];exact Nat.le_refl _),<-h _ _ a,List.drop_length,List.nil_append,h _ _ a]
   exact ih b (by simpa using hi)
end
def DT(G:Nat->Option Rw)(t:Ty)(E:den t->List AV->Prop)(x:List (den t))(a:AV):Prop:=
 (dH a=true/\x=[])∨ ∃ ls,jH E x ls/\(a=.iw x.length ls∨ ∃ id base row,a=.dV id base x.length (size t)/\G id=some row/\row.jd base (x.length*size t)=some ls)
def EV(G:Nat->Option Rw):(t:Ty)->den t->List AV->Prop
 | .int k,x,cs=>cs=[.int k x]
 | .bool,x,cs=>cs=[.bool x]
 | .str,x,cs=>cs=[.sc (.string x)]
 | .aC t,x,cs=> ∃ a,cs=[a]/\DT G t (EV G t) x a
 | .pair a b,x,cs=> ∃ c d,cs=c++d/\EV G a x.1 c/\EV G b x.2 d
def Nk(G G':Nat->Option Rw):Prop:= ∀ id row,G id=some row->G' id=some row
theorem DT.mono{G G':Nat->Option Rw}(h:Nk G G'){t:Ty}{E E':den t->List AV->Prop}(he: ∀ x c,E x c->E' x c){x:List (den t)}{a:AV}(k:DT G t E x a):DT G' t E' x a:=by
 rcases k with k|⟨ls,k1,k2⟩
 ·exact .inl k
 ·refine .inr ⟨ls,k1.mono he,?_⟩
  rcases k2 with k2|⟨id,base,row,e,g,s⟩
  ·exact .inl k2
  ·exact .inr ⟨id,base,row,e,h _ _ g,s⟩
theorem EV.mono{G G':Nat->Option Rw}(h:Nk G G'): ∀ (t:Ty) (x:den t) (cs:List AV),EV G t x cs->EV G' t x cs
 | .int _,_,_,e=>e
 | .bool,_,_,e=>e
 | .str,_,_,e=>e
 | .aC t,_,_,⟨a,e,k⟩=>⟨a,e,k.mono h (EV.mono h t)⟩
 | .pair a b,_,_,⟨c,d,e,k1,k2⟩=>⟨c,d,e,EV.mono h a _ _ k1,EV.mono h b _ _ k2⟩
theorem EV.length{G:Nat->Option Rw}: ∀ (t:Ty) (x:den t) (cs:List AV),EV G t x cs->cs.length=size t
 | .int _,_,_,e=>by have e':_=_:=e;rw[e'];rfl
 | .bool,_,_,e=>by have e':_=_:=e;rw[e'];rfl
 | .str,_,_,e=>by have e':_=_:=e;rw[e'];rfl
 | .aC t,_,_,⟨a,e,k⟩=>by rw[e];rfl
 | .pair a b,_,_,⟨c,d,e,k1,k2⟩=>by
  have h1:=EV.length a _ _ k1
  have h2:=EV.length b _ _ k2
  show _=Nat.add (size a) (size b)
  rw[e,List.length_append,h1,h2];rfl
theorem nV{a:AV}(h:dH a=true):dU a=true:=by cases a<;>first|rfl|cases h
theorem EV.dU{G:Nat->Option Rw}: ∀ (t:Ty) (x:den t) (cs:List AV),EV G t x cs-> ∀ a,a∈cs->dU a=true
 | .int _,_,_,e=>by have e':_=_:=e;rw[e'];intro a ha;simp at ha;subst ha;rfl
 | .bool,_,_,e=>by have e':_=_:=e;rw[e'];intro a ha;simp at ha;subst ha;rfl
 | .str,_,_,e=>by have e':_=_:=e;rw[e'];intro a ha;simp at ha;subst ha;rfl
 | .aC t,_,_,⟨a,e,k⟩=>by
  rw[e];intro b hb;simp at hb;subst hb
  rcases k with⟨k,_⟩|⟨_,_,k|⟨_,_,_,k,_⟩⟩
  ·exact nV k
  ·rw[k];rfl
  ·rw[k];rfl
 | .pair a b,_,_,⟨c,d,e,k1,k2⟩=>by
  rw[e];intro x hx
  rcases List.mem_append.1 hx with h|h
  ·exact EV.dU a _ _ k1 x h
  ·exact EV.dU b _ _ k2 x h
theorem jH.dU{α:Type}{E:α->List AV->Prop}(h: ∀ x c,E x c-> ∀ a,a∈c->dU a=true): ∀ {l:List α} {cs:List AV},jH E l cs-> ∀ a,a∈cs->dU a=true
 | [],_,e=>by have e':_=[]:=e;subst e';intro a ha;simp at ha
 | _::_,_,⟨c,r,e,a,b⟩=>by
  subst e;intro y hy
  rcases List.mem_append.1 hy with k|k
  ·exact h _ _ a y k
  ·exact jH.dU h b y k
mutual
inductive V (E:En) (N:Nat):Sv->AV->Prop
 |i {k n}:V E N (.i k n) (.int k n)
 |b {b}:V E N (.b b) (.bool b)
 |a {v}:QT v=true->V E N (.a v) v
 |c {m t x a}:EV E.G t x [a]->(m≠0->m<N/\a=E.tk m)->V E N (.c m t x) a
 |ag {l l'}:Vs E N l l'->V E N (.ag l) (.agg l')
 |tu {l l'}:Vs E N l l'->V E N (.tu l) (.qP l')
 |fn {f l l'}:Vs E N l l'->V E N (.fn f l) (.fn f l')
 |rf {r o id}:r<N->(E.K r).av=.ref id 0->V E N (.rf r o) (.ref id o)
 |re {r sz i o id base n}:r<N->(E.K r).av=.dV id base n sz->i<n->V E N (.re r sz i o) (.ref id (base+i*sz+o))
 |os {r sz}:r<N->((dH (E.K r).av=true/\(E.K r).n=0)∨ ∃ id base,(E.K r).av=.dV id base (E.K r).n sz)->V E N (.os r sz) (E.K r).av
 |se {r sz off}:r<N->dH (E.K r).av=true->(E.K r).n=0->off=0->V E N (.ss r sz off 0) (E.K r).av
 |ss {r sz off n id base}:r<N->(E.K r).av=.dV id base (E.K r).n sz->off+n<=(E.K r).n->V E N (.ss r sz off n) (.dV id (base+off*sz) n sz)
 |xo {r sz off n id}:r<N->(E.K r).av=.ref id 0->V E N (.xo r sz off n) (.dV id off n sz)
 |zp {l l' r}:Vs E N l l'->V E N (.zp l) (.gj (l'++r))
 |zr {l l' id off row}:Vs E N l l'->E.G id=some row->row.jd off l.length=some l'->V E N (.zp l) (.ref id off)
inductive Vs (E:En) (N:Nat):List Sv->List AV->Prop
 |nil:Vs E N [] []
 |cons {a c l l'}:V E N a c->Vs E N l l'->Vs E N (a::l) (c::l')
end
structure uF(E E':En)(N:Nat):Prop where
 K: ∀ r,r<N->E'.K r=E.K r
 tk: ∀ r,r<N->E'.tk r=E.tk r
 G:Nk E.G E'.G
 A:E'.A=E.A
theorem uF.refl(E:En)(N:Nat):uF E E N:=⟨fun _ _=>rfl,fun _ _=>rfl,fun _ _ e=>e,rfl⟩
section
variable {E E':En}{N N':Nat}
mutual
theorem V.mono(h:uF E E' N)(hN:N<=N'): ∀ {a c},V E N a c->V E' N' a c
 | _,_,.i=>.i
 | _,_,.b=>.b
 | _,_,.a k=>.a k
 | _,_,.c k m=>.c (EV.mono h.G _ _ _ k) fun e=>⟨Nat.lt_of_lt_of_le (m e).1 hN,by rw[h.tk _ (m e).1];exact(m e).2⟩
 | _,_,.ag k=>.ag (Vs.mono h hN k)
 | _,_,.tu k=>.tu (Vs.mono h hN k)
 | _,_,.fn k=>.fn (Vs.mono h hN k)
 | _,_,.rf a b=>.rf (Nat.lt_of_lt_of_le a hN) (by rw[h.K _ a];exact b)
 | _,_,.re a b c=>.re (Nat.lt_of_lt_of_le a hN) (by rw[h.K _ a];exact b) c
 | _,_,.os (r:=r) a b=>by rw[<-h.K _ a];exact .os (Nat.lt_of_lt_of_le a hN) (by rw[h.K _ a];exact b)
 | _,_,.se (r:=r) a b c d=>by rw[<-h.K _ a];exact .se (Nat.lt_of_lt_of_le a hN) (by rw[h.K _ a];exact b) (by rw[h.K _ a];exact c) d
 | _,_,.ss a b c=>.ss (Nat.lt_of_lt_of_le a hN) (by rw[h.K _ a];exact b) (by rw[h.K _ a];exact c)
 | _,_,.xo a b=>.xo (Nat.lt_of_lt_of_le a hN) (by rw[h.K _ a];exact b)
 | _,_,.zp k=>.zp (Vs.mono h hN k)
 | _,_,.zr k g s=>.zr (Vs.mono h hN k) (h.G _ _ g) s
theorem Vs.mono(h:uF E E' N)(hN:N<=N'): ∀ {l l'},Vs E N l l'->Vs E' N' l l'
 | _,_,.nil=>.nil
 | _,_,.cons a b=>.cons (V.mono h hN a) (Vs.mono h hN b)
end
theorem Vs.length{l l'}(h:Vs E N l l'):l.length=l'.length:=by
 induction l generalizing l' with
 |nil=>cases h;rfl
 |cons a l ih=>cases h with|cons _ h=>simp[ih h]
theorem Vs.app{l l' m m'}(h:Vs E N l l')(k:Vs E N m m'):Vs E N (l++m) (l'++m'):=by
 induction l generalizing l' with
 |nil=>cases h;exact k
 |cons a l ih=>cases h with|cons a h=>exact .cons a (ih h)
theorem Vs.drop{l l'}(h:Vs E N l l')(n:Nat):Vs E N (l.drop n) (l'.drop n):=by
 induction n generalizing l l' with
 |zero=>simpa using h
 |succ n ih=>
  cases h with
  |nil=>simp;exact .nil
  |cons a h=>simpa using ih h
theorem Vs.take{l l'}(h:Vs E N l l')(n:Nat):Vs E N (l.take n) (l'.take n):=by
 induction n generalizing l l' with
 |zero=>simp;exact .nil
 |succ n ih=>
  cases h with
  |nil=>simp;exact .nil
  |cons a h=>simpa using .cons a (ih h)
theorem Vs.get{l l'}(h:Vs E N l l'){i:Nat}{a}(e:l[i]? =some a): ∃ c,l'[i]? =some c/\V E N a c:=by
 induction l generalizing l' i with
 |nil=>simp at e
 |cons b l ih=>
  cases h with
  |cons hb h=>
   cases i with
   |zero=>simp at e;subst e;exact⟨_,by simp,hb⟩
   |succ i=>simpa using ih h (by simpa using e)
theorem Au{c:AV}(h:QT c=true):dU c=true:=by cases c<;>first|rfl|cases h
theorem Av{c:AV}(h:dU c=true):c.cells=[c]:=by cases c<;>first|rfl|cases h
theorem V.one{a c}(h:V E N a c)(e:Ao a=true):dU c=true:=by
 cases h with
 |a h=>exact Au h
 |c h _=>exact EV.dU _ _ _ h _ (by simp)
 |ag h=>cases e
 |tu h=>cases e
 |os _ h=>rcases h with⟨h,_⟩|⟨_,_,h⟩
          ·exact nV h
          ·rw[h];rfl
 |se _ h _ _=>exact nV h
 | _=>rfl
theorem V.cells{a c}(h:V E N a c):Vs E N a.cells c.cells:=by
 by_cases e:Ao a=true
 ·rw[Av (h.one e)]
  have:a.cells=[a]:=by cases a<;>first|rfl|cases e
  rw[this];exact .cons h .nil
 ·cases h with
  |ag h=>exact h
  |tu h=>exact .cons (.tu h) .nil
  | _=>exact(e rfl).elim
theorem Vs.BU{l l'}(h:Vs E N l l')(e: ∀ a,a∈l->Ao a=true): ∀ a,a∈l'->dU a=true:=by
 induction l generalizing l' with
 |nil=>cases h;intro a ha;simp at ha
 |cons b l ih=>
  cases h with
  |cons hb h=>
   intro a ha
   rcases List.mem_cons.1 ha with k|k
   ·subst k;exact hb.one (e _ List.mem_cons_self)
   ·exact ih h (fun a ha=>e a (List.mem_cons_of_mem _ ha)) a k
theorem beq_true{a b:Nat}(h:Nat.beq a b=true):a=b:=Nat.eq_of_beq_eq_true h
theorem cD{α:Type}{b:Bool}{x:Option α}{y:α}(h:(bif b then x else none)=some y):b=true/\x=some y:=by cases b<;>simp_all
theorem FX{l:List Sv}{off n:Nat}{r:List Sv}(h:Xy l off n=some r):r=(l.drop off).take n/\r.length=n:=by
 change (bif Nat.beq (len (tk n (dp off l))) n then some (tk n (dp off l))else none)=some r at h
 rw[oP,jg,cF]at h
 cases hb:Nat.beq (List.take n (List.drop off l)).length n with
 |false=>rw[hb]at h;cases h
 |true=>rw[hb]at h;cases h;exact⟨rfl,beq_true hb⟩
theorem qF{l:List AV}{off n:Nat}(h:((l.drop off).take n).length=n):ur l off n=some ((l.drop off).take n):=by
 change (bif Nat.beq (len (tk n (dp off l))) n then some (tk n (dp off l))else none)=_
 rw[oP,jg,cF,h,Nat.beq_refl]
 rfl
theorem nn{agg:Bool}{l:List Sv}{l':List AV}{off n:Nat}{r:Sv}(h:Vs E N l l')(e:vA agg l off n=some r): ∃ c,part agg l' off n=some c/\V E N r c:=by
 unfold vA at e
 split at e
 ·cases e
 ·rename_i s hs
  obtain⟨rfl,hl⟩:=FX hs
  have hv:=(h.drop off).take n
  have Q0:=qF (l:=l') (off:=off) (n:=n) (by rw[<-hv.length,hl])
  unfold part
  rw[Q0]
  cases agg with
  |true=>cases e;exact⟨_,rfl,.ag hv⟩
  |false=>
   simp only[cond_false]at e ⊢
   generalize (List.take n (List.drop off l))=s at e hv
   generalize (List.take n (List.drop off l'))=s' at hv ⊢
   split at e
   ·cases e
    cases hv with
    |cons a b=>cases b;exact⟨_,rfl,a⟩
   ·cases e
theorem CD{r:Rw}{off k:Nat}(h:off+k<=r.toL.length):r.jd off k=some ((r.toL.drop off).take k):=by
 rw[eM]at h
 have hs:r.jd off k=some (r.cells k off):=by unfold Rw.jd;rw[show Nat.ble (Nat.add off k) r.n=true from(by rw[Nat.ble_eq];exact h)];rfl
 rw[hs,(iz hs).1]
theorem ek{r:Rw}{off k:Nat}{l:List AV}:r.jd off k=some l↔off+k<=r.n/\l=(r.toL.drop off).take k:=by
 constructor
 ·intro h
  have h1:=iz h
  unfold Rw.jd at h
  obtain⟨hb,_⟩:=cD h
  exact⟨by have:=Nat.le_of_ble_eq_true hb;exact this,h1.1⟩
 ·rintro⟨h,rfl⟩;exact CD (by rw[eM];exact h)
theorem I6{agg:Bool}{r:Rw}{off n:Nat}{c:AV}(hn:0<n)(h:part agg r.toL off n=some c):qa agg r off n=some c:=by
 unfold part at h
 split at h
 ·cases h
 ·rename_i s hs
  obtain⟨rfl,hl⟩:=kZ hs
  unfold qa
  rw[CD (by rw[List.length_take,List.length_drop]at hl;omega)];exact h
theorem pR{G:Nat->Option Rw}(hg:E.G=G): ∀ (t:Ty) (x:den t) (cs:List AV),EV G t x cs->Vs E N (mN t x) cs
 | .int _,_,_,e=>by have e':_=_:=e;subst e';exact .cons (.c (by rw[hg];exact e) (fun h=>(h rfl).elim)) .nil
 | .bool,_,_,e=>by have e':_=_:=e;subst e';exact .cons (.c (by rw[hg];exact e) (fun h=>(h rfl).elim)) .nil
 | .str,_,_,e=>by have e':_=_:=e;subst e';exact .cons (.c (by rw[hg];exact e) (fun h=>(h rfl).elim)) .nil
 | .aC t,_,_,⟨a,e,k⟩=>by subst e;exact .cons (.c (by rw[hg];exact⟨a,rfl,k⟩) (fun h=>(h rfl).elim)) .nil
 | .pair a b,x,_,⟨c,d,e,k1,k2⟩=>by
  subst e
  show Vs E N (app (mN a x.1) (mN b x.2)) _
  rw[dn]
  exact(pR hg a _ _ k1).app (pR hg b _ _ k2)
end
def Row.live:Row->Bool
 | .o _ _| .l _ _=>true
 | _=>false
def own(H:Hq)(r:Nat):Prop:= ∃ R,H.aU.get r=some R/\R.live=true
def jN:AV->Option Nat
 | .ref id _=>some id
 | .dV id _ _ _=>some id
 | _=>none
theorem FY{a:AV}(h:dH a=true):jN a=none:=by cases a<;>first|rfl|cases h
def LR(G:Nat->Option Rw)(t:Ty)(x:List (den t))(k:Kr)(S:Nat->Option Rw):Prop:=
 x.length=k.n/\((dH k.av=true/\x=[])∨ ∃ id base row ls,k.av=.dV id base k.n (size t)/\S id=some row/\row.jd base (k.n*size t)=some ls/\jH (EV G t) x ls)
def RV(E:En)(N:Nat)(h:Hp)(k:Kr):Row->Prop
 | .o g l=> ∃ id row,k.av=.ref id 0/\h.aU.get id=some row/\Vs E N l row.toL/\(g≠0->k.av=E.A g)
 | .zo l=> ∃ id row,k.av=.ref id 0/\E.G id=some row/\Vs E N l row.toL
 | .l t x=>LR E.G t x k h.aU.get
 | .z t x=>LR E.G t x k E.G
structure SR(E:En)(H:Hq)(h:Hp):Prop where
 row: ∀ r R,H.aU.get r=some R->r<H.next/\RV E H.next h (E.K r) R
 inj: ∀ r r' id,own H r->own H r'->jN (E.K r).av=some id->jN (E.K r').av=some id->r=r'
 lt: ∀ r id,own H r->jN (E.K r).av=some id->id<h.next
 g: ∀ id row,E.G id=some row->id<h.next/\h.aU.get id=some row/\ ∀ r,own H r->jN (E.K r).av≠some id
def TV(E:En)(N:Nat)(T:Tq)(t:Tm):Prop:= ∀ i v,i<512->T.at i=some v-> ∃ a,t.at i=some a/\V E N v a
structure Nx(E E':En)(H H':Hq)(h h':Hp):Prop where
 e:uF E E' H.next
 le:H.next<=H'.next
 yH:h.next<=h'.next
 ow: ∀ r id,own H' r->jN (E'.K r).av=some id->(∃ r0,own H r0/\jN (E.K r0).av=some id)∨h.next<=id
 gw: ∀ id row,E'.G id=some row->E.G id=some row∨(∃ r0,own H r0/\jN (E.K r0).av=some id)∨h.next<=id
 fr: ∀ id,id<h.next->(∀ r,own H r->jN (E.K r).av≠some id)->h'.aU.get id=h.aU.get id
theorem Nx.refl(E:En)(H:Hq)(h:Hp):Nx E E H H h h:=
 ⟨uF.refl _ _,Nat.le_refl _,Nat.le_refl _,fun r _ a b=>.inl ⟨r,a,b⟩,fun _ _ a=>.inl a,fun _ _ _=>rfl⟩
theorem uF.trans{E E1 E2:En}{N N1:Nat}(a:uF E E1 N)(b:uF E1 E2 N1)(h:N<=N1):uF E E2 N where
 K r hr:=(b.K r (Nat.lt_of_lt_of_le hr h)).trans (a.K r hr)
 tk r hr:=(b.tk r (Nat.lt_of_lt_of_le hr h)).trans (a.tk r hr)
 G id row e:=b.G id row (a.G id row e)
 A:=b.A.trans a.A
theorem Nx.trans{E E1 E2:En}{H H1 H2:Hq}{h h1 h2:Hp}(a:Nx E E1 H H1 h h1)(b:Nx E1 E2 H1 H2 h1 h2):Nx E E2 H H2 h h2 where
 e:=a.e.trans b.e a.le
 le:=Nat.le_trans a.le b.le
 yH:=Nat.le_trans a.yH b.yH
 ow r id k e:=by
  rcases b.ow r id k e with⟨r0,k0,e0⟩|k0
  ·exact a.ow r0 id k0 e0
  ·exact .inr (Nat.le_trans a.yH k0)
 gw id row e:=by
  rcases b.gw id row e with k|⟨r0,k0,e0⟩|k
  ·exact a.gw id row k
  ·rcases a.ow r0 id k0 e0 with k|k
   ·exact .inr (.inl k)
   ·exact .inr (.inr k)
  ·exact .inr (.inr (Nat.le_trans a.yH k))
 fr id hi hn:=by
  rw[b.fr id (Nat.lt_of_lt_of_le hi a.yH) fun r k e=>?_,a.fr id hi hn]
  rcases a.ow r id k e with⟨r0,k0,e0⟩|k0
  ·exact hn r0 k0 e0
  ·omega
theorem TV.mono{E E':En}{N N':Nat}{T:Tq}{t:Tm}(h:TV E N T t)(e:uF E E' N)(hN:N<=N'):TV E' N' T t:=fun i v hi hv=>by
 obtain⟨a,h1,h2⟩:=h i v hi hv
 exact⟨a,h1,h2.mono e hN⟩
theorem Tq.iM(t:Tq)(i j:Nat)(x:Option Sv)(hi:i<512)(hj:j<512):(t.put i x).at j=if j=i then x else t.at j:=by
 unfold Tq.at Tq.put
 rw[F8.pK _ _ _ _ (by omega) (by omega)]
 by_cases h1:j / 64=i / 64
 ·rw[if_pos h1,F8.pK _ _ _ _ (by omega) (by omega)]
  by_cases h2:j / 8 % 8=i / 8 % 8
  ·rw[if_pos h2,F8.pK _ _ _ _ (by omega) (by omega)]
   by_cases h3:j % 8=i % 8
   ·rw[if_pos h3,if_pos (by omega)]
   ·rw[if_neg h3,if_neg (by omega),h1,h2]
  ·rw[if_neg h2,if_neg (by omega),h1]
 ·rw[if_neg h1,if_neg (by omega)]
section
variable {α β:Type}
theorem T.yI(c:Bool)(a b:T α):(T.br c a b).val=bif c then a.val else b.val:=rfl
theorem T.I7(c:Bool)(a:T α):(T.ck c a).val=bif c then a.val else none:=rfl
theorem T.I8(x:T α)(f:α->T β):(x.bd f).val=x.val.bind fun a=>(f a).val:=by
 induction x with
 |bad=>rfl
 |ok a=>rfl
 |br c a b qv uT=>
  show(bif c then(a.bd f).val else(b.bd f).val)=(bif c then a.val else b.val).bind _
  cases c<;>simp[qv,uT]
 |ck c a ih=>
  show(bif c then(a.bd f).val else none)=(bif c then a.val else none).bind _
  cases c<;>simp[ih]
theorem T.dQ{x:T α}{f:α->T β}{b:β}(h:(x.bd f).val=some b): ∃ a,x.val=some a/\(f a).val=some b:=by
 rw[T.I8]at h
 cases e:x.val with
 |none=>rw[e]at h;cases h
 |some a=>rw[e]at h;exact⟨a,rfl,h⟩
theorem T.dj{c:Bool}{x:T α}{b:α}(h:(T.ck c x).val=some b):c=true/\x.val=some b:=by
 rw[T.I7]at h;exact cD h
theorem pe{c:LB}{x:T α}{b:α}(h:(ckL c x).val=some b):c.v=true/\x.val=some b:=by
 cases c with
 |l c=>cases c with
  |true=>exact⟨rfl,h⟩
  |false=>cases h
 |t c=>exact T.dj h
end
def Ev{α:Type}(p:Nat->Nat->α)(r:α):Prop:= ∃ M,∀ n d,M<=n->M<=d->p n d=r
theorem Ev.const{α:Type}{x r:α}(h:x=r):Ev (fun _ _=>x) r:=⟨0,fun _ _ _ _=>h⟩
abbrev bb:=Nat->Nat->cY
abbrev XA:=Nat->Nat->eP
def eT(f:eV)(g:XA):Prop:= ∀ (E:En) (T:Tq) (t:Tm) (H:Hq) (h:Hp) (v:Sv) (T':Tq) (H':Hq),TV E H.next T t->SR E H h->(f T H).val=some (v,T',H')->
 ∃ c h' E',Ev (fun n d=>g n d t h) (.ok c h')/\Nx E E' H H' h h'/\SR E' H' h'/\V E' H'.next v c/\TV E' H'.next T' t
theorem dC{f:eV}{g:eP}(k: ∀ (E:En) (T:Tq) (t:Tm) (H:Hq) (h:Hp) (v:Sv) (T':Tq) (H':Hq),TV E H.next T t->SR E H h->(f T H).val=some (v,T',H')->H'=H/\T'=T/\ ∃ c,g t h=.ok c h/\V E H.next v c):eT f (fun _ _=>g):=by
 intro E T t H h v T' H' hT hH e
 obtain⟨rfl,rfl,c,e1,hv⟩:=k E T t H h v T' H' hT hH e
 exact⟨c,h,E,Ev.const e1,Nx.refl _ _ _,hH,hv,hT⟩
theorem Nl{g:XA}:eT (fun _ _=>.bad) g:=by intro E T t H h v T' H' _ _ e;cases e
end Lf
end Go.Ab

noncomputable section
namespace Go.Ab
namespace Lf
section
variable {E:En}{N:Nat}
theorem I9{a:AV}{b:Sv}(h:Xw a=some b):V E N b a:=by
 unfold Xw at h
 split at h
 ·cases h;exact .i
 ·cases h;exact .b
 ·cases h;exact .a rfl
 ·cases h;exact .a rfl
 ·cases h;exact .a rfl
 ·cases h;exact .tu .nil
 ·cases h;exact .fn .nil
 ·cases h
theorem rF{l:List AV}: ∀ {m:List Sv},FU l=some m->Vs E N m l:=by
 induction l with
 |nil=>intro m h;cases h;exact .nil
 |cons a l ih=>
  intro m h
  change (match Xw a with|some b=>(match FU l with|some r=>some (b::r)|none=>none)|none=>none)=some m at h
  split at h
  ·rename_i b hb
   split at h
   ·rename_i r hr;cases h;exact .cons (I9 hb) (ih hr)
   ·cases h
  ·cases h
theorem bX{T:Tq}{t:Tm}(hT:TV E N T t){o:Od}{a:Sv}(h:jG o T=some a): ∃ c,cf o t=some c/\V E N a c:=by
 cases o with
 |t i=>
  change (bif Nat.blt i 512 then T.at i else none)=some a at h
  obtain⟨hi,h⟩:=cD h
  exact hT i a (ct.1 hi) h
 |c v=>exact⟨v,rfl,I9 h⟩
 |zz=>cases h
 |w o=>cases h
theorem mP{T:Tq}{t:Tm}(hT:TV E N T t){o:Od}{a:Sv}(h:Wd o T=some a): ∃ c,cf o t=some (sy c)/\V E N a c:=by
 cases o with
 |w o=>
  obtain⟨c,hc,hv⟩:=bX hT (o:=o) h
  refine⟨c,?_,hv⟩
  show(Option.rec none (fun a=>some (sy a)) (cf o t):Option AV)=_
  rw[hc]
 | _=>cases h
theorem yJ{T:Tq}{t:Tm}(hT:TV E N T t): ∀ {l:List Od} {vs:List Sv},IJ l T=some vs->(∃ cs,sA (l.map cf) t=some cs/\Vs E N vs cs):=by
 intro l
 induction l with
 |nil=>intro vs h;cases h;exact⟨[],rfl,.nil⟩
 |cons o l ih=>
  intro vs h
  change (match jG o T with|some v=>(match IJ l T with|some vs=>some (v::vs)|none=>none)|none=>none)=some vs at h
  split at h
  ·rename_i v hv
   split at h
   ·rename_i us hu
    cases h
    obtain⟨c,hc,fL⟩:=bX hT hv
    obtain⟨cs,gu,Te⟩:=ih hu
    refine⟨c::cs,?_,.cons fL Te⟩
    show(Option.rec none (fun v=>Option.rec none (fun vs=>some (v::vs)) (sA (l.map cf) t)) (cf o t):Option (List AV))=_
    rw[hc,gu]
   ·cases h
  ·cases h
theorem gO{v:Sv}{x:LB}{a:AV}(h:V E N v a)(e:toB v=some x):a=.bool x.v:=by
 cases h with
 |b=>cases e;rfl
 |c k _=>
  unfold toB at e
  split at e
  ·rename_i h;cases h
  ·rename_i h;cases h;cases e
   have k':[a]=[AV.bool _]:=k
   injection k'
  ·cases e
 | _=>cases e
theorem gP{v:Sv}{k:IntKind}{n:Int}{a:AV}(h:V E N v a)(e:toN v=some (k,n)):a=.int k n:=by
 cases h with
 |i=>cases e;rfl
 |c q _=>
  unfold toN at e
  split at e
  ·rename_i h;cases h
  ·rename_i h;cases h;cases e
   have k':[a]=[AV.int _ _]:=q
   injection k'
  ·cases e
 | _=>cases e
theorem ov{v:Sv}{l:Bool}{s:ByteArray}{a:AV}(h:V E N v a)(e:toS v=some (l,s)):a=.sc (.string s):=by
 cases h with
 |a h=>
  unfold toS at e
  split at e
  ·rename_i h;cases h;cases e;rfl
  ·rename_i h;cases h
  ·cases e
 |c q _=>
  unfold toS at e
  split at e
  ·rename_i h;cases h
  ·rename_i h;cases h;cases e
   have k':[a]=[AV.sc (.string _)]:=q
   injection k'
  ·cases e
 | _=>cases e
theorem fI{k:IntKind}{n:Int}:V E N (.c 0 (.int k) n) (.int k n):=.c rfl fun h=>(h rfl).elim
theorem lr{b:Bool}:V E N (.c 0 .bool b) (.bool b):=.c rfl fun h=>(h rfl).elim
theorem Tf{c:LB}:V E N (svB c) (.bool c.v):=by cases c with
 |l b=>exact .b
 |t b=>exact lr
theorem sZ{α:Type}{j:Od}{T:Tq}{t:Tm}{a b:Tq->Lf.T α}{r:α}(hT:TV E N T t)(h:(qE j T a b).val=some r):
 ∃ c T1,cf j t=some (.bool c)/\TV E N T1 t/\(c=true->(a T1).val=some r)/\(c=false->(b T1).val=some r):=by
 unfold qE at h
 split at h
 ·rename_i i
  cases hb:Nat.blt i 512 with
  |false=>rw[hb]at h;cases h
  |true=>
   rw[hb]at h
   simp only[cond_true]at h
   split at h
   ·rename_i c hc
    obtain⟨x,hx,hv⟩:=hT i _ (ct.1 hb) hc
    cases hv
    refine⟨c,T,hx,hT,fun e=>?_,fun e=>?_⟩<;>subst e<;>exact h
   ·rename_i m x hc
    obtain⟨y,hy,hv⟩:=hT i _ (ct.1 hb) hc
    have:=gO hv rfl
    subst this
    have key: ∀ c:Bool,c=x->TV E N (T.put i (some (.b c))) t:=by
     intro c hcx j v hj hv
     rw[Tq.iM _ _ _ _ (ct.1 hb) hj]at hv
     split at hv
     ·rename_i e;subst e;cases hv;exact⟨_,hy,by rw[hcx];exact .b⟩
     ·exact hT j v hj hv
    cases x with
    |true=>exact⟨true,_,hy,key true rfl,fun _=>h,fun e=>by cases e⟩
    |false=>exact⟨false,_,hy,key false rfl,(fun e=>by cases e),fun _=>h⟩
   ·cases h
 ·rename_i c
  refine⟨c,T,rfl,hT,fun e=>?_,fun e=>?_⟩<;>subst e<;>exact h
 ·cases h
theorem vI(x:Od):eT (vC x) (fun _ _=>aa (cf x)):=dC (by
 intro E T t H h v T' H' hT hH e
 unfold vC okO at e
 split at e
 ·rename_i v' hv
  cases e
  obtain⟨c,hc,fL⟩:=bX hT hv
  refine⟨rfl,rfl,c,?_,fL⟩
  show(Option.rec Go.Ab.Ro.bad (fun v=>Go.Ab.Ro.ok v h) (cf x t):Go.Ab.Ro)=_
  rw[hc]
 ·cases e)
theorem I'(c a b:Od):eT (QW c a b) (fun _ _=>aS (cf c) (cf a) (cf b)):=by
 intro E T t H h v T' H' hT hH e
 obtain⟨x,T1,hx,qO,h1,h2⟩:=sZ hT e
 have hk:aS (cf c) (cf a) (cf b) t h=bif x then aa (cf a) t h else aa (cf b) t h:=by unfold aS;rw[hx]
 cases x with
 |true=>
  obtain⟨c',h',E',e1,e2⟩:=vI a E T1 t H h v T' H' qO hH (h1 rfl)
  exact⟨c',h',E',by simp only[hk];exact e1,e2⟩
 |false=>
  obtain⟨c',h',E',e1,e2⟩:=vI b E T1 t H h v T' H' qO hH (h2 rfl)
  exact⟨c',h',E',by simp only[hk];exact e1,e2⟩
theorem l4{v:Option Sv}{t T':Tq}{h H':Hq}{w:Sv}(e:(okO v t h).val=some (w,T',H')):v=some w/\T'=t/\H'=h:=by
 unfold okO at e
 split at e
 ·cases e;exact⟨rfl,rfl,rfl⟩
 ·cases e
theorem bA{v:Sv}{t T':Tq}{h H':Hq}{w:Sv}(e:(okV v t h).val=some (w,T',H')):v=w/\T'=t/\H'=h:=by cases e;exact⟨rfl,rfl,rfl⟩
theorem Aw(a:Od)(i:Nat):eT (rB a i) (fun _ _=>aL (cf a) i):=dC (by
 intro E T t H h v T' H' hT hH e
 unfold rB at e
 split at e
 ·rename_i vs hv
  obtain⟨e1,rfl,rfl⟩:=l4 e
  obtain⟨c,hc,fL⟩:=bX hT hv
  cases fL with
  |tu k=>
   rw[fQ]at e1
   obtain⟨c,h1,h2⟩:=k.get e1
   refine⟨rfl,rfl,c,?_,h2⟩
   unfold aL
   rw[hc]
   simp only[fQ,h1]
 ·cases e)
theorem FZ(off size:Nat)(agg:Bool)(a:Od):eT (yC off size agg a) (fun _ _=>lP off size agg (cf a)):=dC (by
 intro E T t H h v T' H' hT hH e
 unfold yC at e
 split at e
 ·rename_i vs hv
  obtain⟨e1,rfl,rfl⟩:=l4 e
  obtain⟨c,hc,fL⟩:=bX hT hv
  cases fL with
  |ag k=>
   obtain⟨c,h1,h2⟩:=nn k e1
   refine⟨rfl,rfl,c,?_,h2⟩
   unfold lP
   rw[hc]
   simp only[h1]
 ·cases e)
theorem Tg(f:FuncId)(cap:List Od):eT (sFn f cap) (fun _ _=>Lw f (cap.map cf)):=dC (by
 intro E T t H h v T' H' hT hH e
 unfold sFn at e
 split at e
 ·rename_i vs hv
  obtain⟨rfl,rfl,rfl⟩:=bA e
  obtain⟨c,hc,fL⟩:=yJ hT hv
  refine⟨rfl,rfl,_,?_,.fn fL⟩
  unfold Lw
  rw[hc]
 ·cases e)
theorem Nn(a:Od):eT (DM a) (fun _ _=>aD (cf a)):=dC (by
 intro E T t H h v T' H' hT hH e
 unfold DM at e
 split at e
 all_goals first
  |(cases e;done)
  |(rename_i hv
    obtain⟨rfl,rfl,rfl⟩:=bA e
    obtain⟨c,hc,fL⟩:=bX hT hv
    refine⟨rfl,rfl,c,?_,fL⟩
    unfold aD
    rw[hc]
    cases fL<;>rfl))
theorem wR(off:Nat)(a:Od):eT (nU off a) (fun _ _=>ab off (cf a)):=dC (by
 intro E T t H h v T' H' hT hH e
 unfold nU at e
 split at e
 ·rename_i r o hv
  obtain⟨rfl,rfl,rfl⟩:=bA e
  obtain⟨c,hc,fL⟩:=bX hT hv
  cases fL with
  |rf h1 h2=>exact⟨rfl,rfl,_,by unfold ab;rw[hc],.rf h1 h2⟩
 ·rename_i r s i o hv
  obtain⟨rfl,rfl,rfl⟩:=bA e
  obtain⟨c,hc,fL⟩:=bX hT hv
  cases fL with
  |re h1 h2 h3=>exact⟨rfl,rfl,_,by unfold ab;rw[hc],by have:=V.re (o:=o+off) h1 h2 h3;rw[<-Nat.add_assoc]at this;exact this⟩
 ·rename_i l hv
  cases hb:Nat.ble off (len l)with
  |false=>rw[hb]at e;cases e
  |true=>
   rw[hb]at e
   obtain⟨rfl,rfl,rfl⟩:=bA e
   have hle:off<=l.length:=by have:=Nat.le_of_ble_eq_true hb;rwa [cF]at this
   obtain⟨c,hc,fL⟩:=bX hT hv
   rw[jg]
   cases fL with
   |zp k=>
    rename_i l' r
    refine⟨rfl,rfl,_,by unfold ab;rw[hc],?_⟩
    rw[jg,List.drop_append_of_le_length (by rw[<-k.length];exact hle)]
    exact .zp (k.drop off)
   |zr k g s=>
    rename_i l' id o row
    refine⟨rfl,rfl,_,by unfold ab;rw[hc],?_⟩
    refine .zr (k.drop off) g ?_
    obtain⟨s1,s2⟩:=ek.1 s
    rw[List.length_drop]
    refine ek.2 ⟨by have e1:Nat.add o off=o+off:=rfl;omega,?_⟩
    rw[s2,List.drop_take,List.drop_drop]
    rfl
 ·cases e)
end
end Lf
end Go.Ab
