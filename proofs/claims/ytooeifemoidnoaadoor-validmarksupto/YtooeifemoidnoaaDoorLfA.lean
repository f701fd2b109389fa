import Derived.Test.YtooeifemoidnoaaDoorAb27
noncomputable section
namespace Go.Ab
namespace Lf
inductive Ty where
 |int (k:IntKind)|bool|str|sli (t:Ty)|pair (a b:Ty)
@[reducible] noncomputable def den(t:Ty):Type:=Ty.rec (fun _=>Int) Bool ByteArray (fun _ ih=>List ih) (fun _ _ a b=>a×b) t
def dflt(t:Ty):den t:=Ty.rec (motive:=den) (fun _=>(0:Int)) false ByteArray.empty (fun _ _=>[]) (fun _ _ a b=>(a,b)) t
def size(t:Ty):Nat:=Ty.rec (motive:=fun _=>Nat) (fun _=>1) 1 1 (fun _ _=>1) (fun _ _ a b=>Nat.add a b) t
def teq:(a b:Ty)->Option (PLift (a=b))
 | .int k,.int k'=>if h:k=k' then some ⟨by rw[h]⟩else none
 | .bool,.bool=>some ⟨rfl⟩
 | .str,.str=>some ⟨rfl⟩
 | .sli a,.sli b=>match teq a b with
  |some ⟨h⟩=>some ⟨by rw[h]⟩
  |none=>none
 | .pair a b,.pair c d=>match teq a c with
  |some ⟨h⟩=>match teq b d with
   |some ⟨k⟩=>some ⟨by rw[h,k]⟩
   |none=>none
  |none=>none
 | _,_=>none
inductive Sv where
 |i (k:IntKind) (n:Int)
 |b (b:Bool)
 |a (v:AV)
 |c (m:Nat) (t:Ty) (x:den t)
 |ag (l:List Sv)
 |tu (l:List Sv)
 |fn (f:FuncId) (l:List Sv)
 |rf (r o:Nat)
 |re (r sz i o:Nat)
 |os (r sz:Nat)
 |ss (r sz off n:Nat)
 |xo (r sz off n:Nat)
 |zp (l:List Sv)
inductive Row where
 |o (g:Nat) (l:List Sv)
 |l (t:Ty) (x:List (den t))
 |zo (l:List Sv)
 |z (t:Ty) (x:List (den t))
structure Hq where
 next:Nat
 objs:Tr Row
abbrev Tq:=F8 (F8 (F8 (Option Sv)))
def Tq.at(t:Tq)(i:Nat):Option Sv:=((t.sel (i / 64)).sel (i / 8 % 8)).sel (i % 8)
def Tq.put(t:Tq)(i:Nat)(v:Option Sv):Tq:=t.upd ((t.sel (i / 64)).upd (((t.sel (i / 64)).sel (i / 8 % 8)).upd v (i % 8)) (i / 8 % 8)) (i / 64)
def Tq.none:Tq:=F8.all (F8.all (F8.all Option.none))
inductive T (α:Type) where
 |bad
 |ok (a:α)
 |br (c:Bool) (a b:T α)
 |ck (c:Bool) (a:T α)
def T.val{α:Type}(x:T α):Option α:=T.rec (motive:=fun _=>Option α) none (fun a=>some a) (fun c _ _ a b=>bif c then a else b) (fun c _ a=>bif c then a else none) x
def T.bd{α β:Type}(x:T α)(f:α->T β):T β:=T.rec (motive:=fun _=>T β) .bad (fun a=>f a) (fun c _ _ a b=>.br c a b) (fun c _ a=>.ck c a) x
def T.of{α:Type}:Option α->T α
 |some a=>.ok a
 |none=>.bad
inductive LB where
 |l (b:Bool)
 |t (b:Bool)
def LB.v:LB->Bool
 | .l b=>b
 | .t b=>b
def LB.and:LB->LB->LB
 | .l true,y=>y
 | .l false,_=>.l false
 | .t _,.l false=>.l false
 | .t a,.l true=>.t a
 | .t a,.t b=>.t (a&&b)
def ckL{α:Type}(c:LB)(x:T α):T α:=match c with
 | .l true=>x
 | .l false=>.bad
 | .t b=>.ck b x
def svB:LB->Sv
 | .l b=>.b b
 | .t b=>.c 0 .bool b
def Sv.cells:Sv->List Sv
 | .ag l=>l
 |w=>[w]
def one1:Sv->Bool
 | .ag _| .tu _=>false
 | _=>true
def leafV:AV->Bool
 | .sc _| .esl| .nel| .any=>true
 | _=>false
def ofA:AV->Option Sv
 | .int k n=>some (.i k n)
 | .bool b=>some (.b b)
 | .sc v=>some (.a (.sc v))
 | .esl=>some (.a .esl)
 | .nel=>some (.a .nel)
 | .tup []=>some (.tu [])
 | .fn f []=>some (.fn f [])
 | _=>none
def ofAs(l:List AV):Option (List Sv):=List.rec (some []) (fun a _ ih=>match ofA a with
 |some b=>match ih with
  |some r=>some (b::r)
  |none=>none
 |none=>none) l
def opd(o:Od)(t:Tq):Option Sv:=match o with
 | .t i=>bif Nat.blt i 512 then t.at i else none
 | .c v=>ofA v
 | _=>none
def opw(o:Od)(t:Tq):Option Sv:=match o with
 | .w o=>opd o t
 | _=>none
def opdl(l:List Od)(t:Tq):Option (List Sv):=List.rec (some []) (fun o _ ih=>match opd o t with
 |some v=>match ih with
  |some vs=>some (v::vs)
  |none=>none
 |none=>none) l
def toN:Sv->Option (IntKind×Int)
 | .i k n=>some (k,n)
 | .c _ (.int k) x=>some (k,x)
 | _=>none
def toB:Sv->Option LB
 | .b b=>some (.l b)
 | .c _ .bool x=>some (.t x)
 | _=>none
def toS:Sv->Option (Bool×ByteArray)
 | .a (.sc (.string s))=>some (true,s)
 | .c _ .str x=>some (false,x)
 | _=>none
def addW(k:IntKind)(a b:Int):Int:=wrapF k (a+b)
def subW(k:IntKind)(a b:Int):Int:=wrapF k (a - b)
def mulW(k:IntKind)(a b:Int):Int:=wrapF k (a*b)
def quoW(k:IntKind)(a b:Int):Int:=wrapF k (Int.tdiv a b)
def remW(_k:IntKind)(a b:Int):Int:=Int.tmod a b
def intOf:Option AV->Int
 |some (.int _ n)=>n
 | _=>0
def andW(k:IntKind)(a b:Int):Int:=intOf (bAnd (.int k a) (.int k b))
def orW(k:IntKind)(a b:Int):Int:=intOf (bOr (.int k a) (.int k b))
def xorW(k:IntKind)(a b:Int):Int:=intOf (bXor (.int k a) (.int k b))
def andNotW(k:IntKind)(a b:Int):Int:=intOf (bAndNot (.int k a) (.int k b))
def shlW(k:IntKind)(a b:Int):Int:=intOf (bShl (.int k a) (.int .u64 b))
def shrW(k:IntKind)(a b:Int):Int:=intOf (bShr (.int k a) (.int .u64 b))
def negW(k:IntKind)(a:Int):Int:=wrapF k (0 - a)
def notW(k:IntKind)(a:Int):Int:=intOf (uXor (.int k a))
def cvtW(k:IntKind)(a:Int):Int:=wrapF k a
inductive Cls where
 |ar (f:IntKind->Int->Int->Int)
 |dv (f:IntKind->Int->Int->Int)
 |sh (f:IntKind->Int->Int->Int)
 |cm (f:Int->Int->Bool)
 |no
def clsF:BF->Cls
 | .add=>.ar addW| .sub=>.ar subW| .mul=>.ar mulW| .and=>.ar andW| .or=>.ar orW| .xor=>.ar xorW| .andNot=>.ar andNotW
 | .quo=>.dv quoW| .rem=>.dv remW| .shl=>.sh shlW| .shr=>.sh shrW
 | .lss=>.cm fun a b=>decide (a<b)| .leq=>.cm fun a b=>decide (a<=b)| .gtr=>.cm fun a b=>decide (b<a)| .geq=>.cm fun a b=>decide (b<=a)
 | .eqI neg=>.cm (match neg with|false=>fun a b=>decide (a=b)|true=>fun a b=> !decide (a=b))
 | _=>.no
def litI:Sv->Bool
 | .i _ _=>true
 | _=>false
def eqL1(i:Bool)(x y:Sv):Option LB:=match i with
 |true=>match x,y with
  | .i k a,.i k' b=>bif eqK k k' then some (.l (eqI a b))else none
  |x,y=>match toN x,toN y with
   |some (k,a),some (k',b)=>bif eqK k k' then some (.t (decide (a=b)))else none
   | _,_=>none
 |false=>match toB x,toB y with
  |some (.l a),some (.l b)=>some (.l (!(xor a b)))
  |some a,some b=>some (.t (!(xor a.v b.v)))
  | _,_=>none
def eqLs(l:List Bool):List Sv->List Sv->Option LB:=
 List.rec (fun _ _=>some (.l true)) (fun i _ ih xs ys=>match xs,ys with
  |x::xs,y::ys=>match eqL1 i x y with
   |some c=>match ih xs ys with
    |some d=>some (c.and d)
    |none=>none
   |none=>none
  | _,_=>none) l
def negL(neg:Bool)(c:LB):LB:=match neg,c with
 |false,c=>c
 |true,.l b=>.l (!b)
 |true,.t b=>.t (!b)
def isPt:Sv->Bool
 | .rf _ _| .re _ _ _ _| .zp _=>true
 | _=>false
def sBnN(f:BF)(x y:Sv):T Sv:=match x,y with
 | .i k a,.i k' b=>(match f.f (.int k a) (.int k' b)with
  |some (.int k r)=>.ok (.i k r)
  |some (.bool r)=>.ok (.b r)
  | _=>.bad)
 |x,y=>match toN x,toN y with
  |some (k,a),some (k',b)=>(match clsF f with
   | .ar g=>bif eqK k k' then .ok (.c 0 (.int k) (g k a b))else .bad
   | .dv g=>bif eqK k k' then(bif litI y then(bif eqI b 0 then .bad else .ok (.c 0 (.int k) (g k a b)))else .ck (!decide (b=0)) (.ok (.c 0 (.int k) (g k a b))))else .bad
   | .sh g=>(bif litI y then(bif ltI b 0 then .bad else .ok (.c 0 (.int k) (g k a b)))else .ck (decide (0<=b)) (.ok (.c 0 (.int k) (g k a b))))
   | .cm g=>bif eqK k k' then .ok (.c 0 .bool (g a b))else .bad
   | .no=>.bad)
  | _,_=>.bad
def sBn(f:BF)(x y:Sv):T Sv:=match f with
 | .eqB neg=>match toB x,toB y with
  |some (.l a),some (.l b)=>.ok (.b (bif neg then xor a b else !(xor a b)))
  |some a,some b=>.ok (.c 0 .bool (match neg with|true=>xor a.v b.v|false=> !(xor a.v b.v)))
  | _,_=>.bad
 | .eqS neg=>match toS x,toS y with
  |some (true,a),some (true,b)=>.ok (.b (bif neg then !(eqStr a b)else eqStr a b))
  |some (_,a),some (_,b)=>.ok (.c 0 .bool (match neg with|true=> !(eqStr a b)|false=>eqStr a b))
  | _,_=>.bad
 | .eqP neg=>match x,y with
  | .a (.sc (.pointer none)),.a (.sc (.pointer none))=>.ok (.b (!neg))
  | .a (.sc (.pointer none)),y=>bif isPt y then .ok (.b neg)else .bad
  |x,.a (.sc (.pointer none))=>bif isPt x then .ok (.b neg)else .bad
  | _,_=>.bad
 | .eqN neg=>match x,y with
  | .a v,.a w=>bif isNil w then(match eqN1 v with
   |some b=>.ok (.b (bif neg then !b else b))
   |none=>.bad)else .bad
  | .xo _ _ _ _,.a w=>bif isNil w then .ok (.b neg)else .bad
  | .c _ (.sli _) x,.a w=>bif isNil w then .ck (!(Nat.beq x.length 0)) (.ok (.b neg))else .bad
  | _,_=>.bad
 | .eqA neg l=>match x,y with
  | .ag xs,.ag ys=>match eqLs l xs ys with
   |some c=>.ok (svB (negL neg c))
   |none=>.bad
  | _,_=>.bad
 |f=>sBnN f x y
def sUn1(f:UF)(x:Sv):Option Sv:=match f with
 | .not=>match toB x with
  |some (.l b)=>some (.b (!b))
  |some (.t b)=>some (.c 0 .bool (!b))
  |none=>none
 | .neg=>match x with
  | .i k n=>some (.i k (negW k n))
  | .c _ (.int k) n=>some (.c 0 (.int k) (negW k n))
  | _=>none
 | .xor=>match x with
  | .i k n=>some (.i k (notW k n))
  | .c _ (.int k) n=>some (.c 0 (.int k) (notW k n))
  | _=>none
 | .int k=>match x with
  | .i _ n=>some (.i k (cvtW k n))
  | .c _ (.int _) n=>some (.c 0 (.int k) (cvtW k n))
  | _=>none
def cellsT(t:Ty):den t->List Sv:=
 Ty.rec (motive:=fun t=>den t->List Sv) (fun k x=>[.c 0 (.int k) x]) (fun x=>[.c 0 .bool x]) (fun x=>[.c 0 .str x]) (fun t _ x=>[.c 0 (.sli t) x]) (fun _ _ iha ihb x=>app (iha x.1) (ihb x.2)) t
def segS(l:List Sv)(off n:Nat):Option (List Sv):=match tk n (dp off l)with
 |r=>bif Nat.beq (len r) n then some r else none
def part1(agg:Bool)(l:List Sv)(off sz:Nat):Option Sv:=match segS l off sz with
 |none=>none
 |some r=>bif agg then some (.ag r)else match r with
  | [c]=>some c
  | _=>none
def putS(l:List Sv)(off:Nat)(new:List Sv):List Sv:=app (tk off l) (app new (dp (Nat.add off (len new)) l))
def fillGS(l:List (Nat×Nat×Sv)):List Sv->Option (List Sv):=
 List.rec (fun cells=>some cells) (fun p _ ih cells=>
  bif Nat.beq (len p.2.2.cells) p.2.1&&Nat.ble (Nat.add p.1 p.2.1) (len cells)then ih (putS cells p.1 p.2.2.cells)else none) l
def parts3S(l:List (Nat×Nat×Od))(t:Tq):Option (List (Nat×Nat×Sv)):=
 List.rec (some []) (fun p _ ih=>match opd p.2.2 t with
  |some v=>match ih with
   |some vs=>some ((p.1,p.2.1,v)::vs)
   |none=>none
  |none=>none) l
def parts2S(l:List (Nat×Od))(t:Tq):Option (List (Nat×Sv)):=
 List.rec (some []) (fun p _ ih=>match opd p.2 t with
  |some v=>match ih with
   |some vs=>some ((p.1,v)::vs)
   |none=>none
  |none=>none) l
def fillSS(size:Nat)(l:List (Nat×Sv)):Nat->Option (List Sv):=
 List.rec (fun _=>some []) (fun p _ ih i=>
  bif Nat.beq p.1 i&&Nat.beq (len p.2.cells) size then(match ih (Nat.add i 1)with|some r=>some (app p.2.cells r)|none=>none)else none) l
def repS(n:Nat)(z:List Sv):List Sv:=Nat.rec [] (fun _ ih=>app z ih) n
def scaleS(size:Nat)(l:List (Nat×Sv)):List (Nat×Nat×Sv):=List.rec [] (fun p _ ih=>(Nat.mul p.1 size,size,p.2)::ih) l
def fillRowS(n size:Nat)(zero:List Sv)(l:List (Nat×Sv)):Option (List Sv):=
 match bif Nat.beq (len l) n then fillSS size l 0 else none with
 |some cs=>some cs
 |none=>fillGS (scaleS size l) (repS n zero)
def newQ(h:Hq)(r:Row):Hq:=⟨Nat.add h.next 1,h.objs.set h.next (some r)⟩
def setQ(h:Hq)(id:Nat)(r:Option Row):Hq:=⟨h.next,h.objs.set id r⟩
def rdS(t:Ty)(f:List Sv->Hq->Option (den t×List Sv×Hq))(n:Nat):List Sv->Hq->Option (List (den t)×Hq):=
 Nat.rec (fun _ h=>some ([],h)) (fun _ ih l h=>match f l h with
  |some (x,r,h)=>match ih r h with
   |some (xs,h)=>some (x::xs,h)
   |none=>none
  |none=>none) n
def rdX(t:Ty)(f:List Sv->Hq->Option (den t×List Sv×Hq))(n off:Nat)(l:List Sv)(h:Hq):Option (List (den t)×Hq):=bif Nat.ble off (len l)then rdS t f n (dp off l) h else none
def emptyV:AV->Bool
 | .esl=>true
 |a=>isE a
def asL(t:Ty)(f:List Sv->Hq->Option (den t×List Sv×Hq))(v:Sv)(h:Hq):Option (List (den t)×Hq):=match v with
 | .a w=>bif emptyV w then some ([],h)else none
 | .c _ (.sli t') x=>match teq t' t with
  |some ⟨e⟩=>some (e▸x,h)
  |none=>none
 | .os r _=>match h.objs.get r with
  |some (.l t' x)=>(match teq t' t with
   |some ⟨e⟩=>some (e▸x,setQ h r (some (.z t' x)))
   |none=>none)
  |some (.z t' x)=>(match teq t' t with
   |some ⟨e⟩=>some (e▸x,h)
   |none=>none)
  | _=>none
 | .ss r _ off n=>match h.objs.get r with
  |some (.l t' x)=>(match teq t' t with
   |some ⟨e⟩=>some (((e▸x:List (den t)).drop off).take n,setQ h r (some (.z t' x)))
   |none=>none)
  |some (.z t' x)=>(match teq t' t with
   |some ⟨e⟩=>some (((e▸x:List (den t)).drop off).take n,h)
   |none=>none)
  | _=>none
 | .xo r sz off n=>bif Nat.beq sz (size t)then(match h.objs.get r with
  |some (.o _ l)=>rdX t f n off l (setQ h r (some (.zo l)))
  |some (.zo l)=>rdX t f n off l h
  | _=>none)else none
 | _=>none
def asT(t:Ty):List Sv->Hq->Option (den t×List Sv×Hq):=
 Ty.rec (motive:=fun t=>List Sv->Hq->Option (den t×List Sv×Hq))
  (fun k l h=>match l with
   |v::r=>match toN v with
    |some (k',n)=>bif eqK k k' then some (n,r,h)else none
    |none=>none
   | []=>none)
  (fun l h=>match l with
   |v::r=>match toB v with
    |some b=>some (b.v,r,h)
    |none=>none
   | []=>none)
  (fun l h=>match l with
   |v::r=>match toS v with
    |some (_,s)=>some (s,r,h)
    |none=>none
   | []=>none)
  (fun t ih l h=>match l with
   |v::r=>match asL t ih v h with
    |some (x,h)=>some (x,r,h)
    |none=>none
   | []=>none)
  (fun _ _ iha ihb l h=>match iha l h with
   |some (x,r,h)=>match ihb r h with
    |some (y,r,h)=>some ((x,y),r,h)
    |none=>none
   |none=>none) t
def lst(t:Ty)(v:Sv)(h:Hq):Option (List (den t)×Hq):=asL t (asT t) v h
def tyOf(v:Sv)(h:Hq):Option Ty:=match v with
 | .c _ (.sli t) _=>some t
 | .os r _=>match h.objs.get r with
  |some (.l t _)=>some t
  |some (.z t _)=>some t
  | _=>none
 | .ss r _ _ _=>match h.objs.get r with
  |some (.l t _)=>some t
  |some (.z t _)=>some t
  | _=>none
 | _=>none
def lenS(v:Sv)(h:Hq):Option Sv:=match v with
 | .a w=>bif emptyV w then some (.i .i64 0)else none
 | .c _ (.sli _) x=>some (.c 0 (.int .i64) (Int.ofNat x.length))
 | .os r _=>match h.objs.get r with
  |some (.l _ x)=>some (.c 0 (.int .i64) (Int.ofNat x.length))
  |some (.z _ x)=>some (.c 0 (.int .i64) (Int.ofNat x.length))
  | _=>none
 | .ss _ _ _ n=>some (.c 0 (.int .i64) (Int.ofNat n))
 | .xo _ _ _ n=>some (.i .i64 (.ofNat n))
 | _=>none
end Lf
end Go.Ab

noncomputable section
namespace Go.Ab
namespace Lf
abbrev OpR:=T (Sv×Tq×Hq)
abbrev SOpF:=Tq->Hq->OpR
abbrev CallQ:=FuncId->List Sv->Hq->T (Sv×Hq)
def okV(v:Sv)(t:Tq)(h:Hq):OpR:=.ok (v,t,h)
def okO(v:Option Sv)(t:Tq)(h:Hq):OpR:=match v with
 |some v=>.ok (v,t,h)
 |none=>.bad
def undefS:Sv:=.tu []
def sMove(x:Od):SOpF:=fun t h=>okO (opd x t) t h
def splitB{α:Type}(j:Od)(t:Tq)(a b:Tq->T α):T α:=match j with
 | .t i=>bif Nat.blt i 512 then(match t.at i with
  |some (.b c)=>bif c then a t else b t
  |some (.c _ .bool x)=>.br x (a (t.put i (some (.b true)))) (b (t.put i (some (.b false))))
  | _=>.bad)else .bad
 | .c (.bool c)=>bif c then a t else b t
 | _=>.bad
def sPick(c a b:Od):SOpF:=fun t h=>splitB c t (fun t=>sMove a t h) (fun t=>sMove b t h)
def sNew(cs:List AV):SOpF:=fun t h=>match ofAs cs with|some l=>okV (.rf h.next 0) t (newQ h (.o 0 l))|none=>.bad
def sBox(a:Od):SOpF:=fun t h=>match opd a t with|some v=>okV (.rf h.next 0) t (newQ h (.o 0 v.cells))|none=>.bad
def sBuild(z:List AV)(ps:List (Nat×Nat×Od)):SOpF:=fun t h=>match ofAs z with
 |some z=>match parts3S ps t with
  |some vs=>match fillGS vs z with
   |some cs=>okV (.ag cs) t h
   |none=>.bad
  |none=>.bad
 |none=>.bad
def sRow(n sz:Nat)(z:List AV)(ps:List (Nat×Od)):SOpF:=fun t h=>match parts2S ps t with
 |some vs=>bif Nat.beq n 0 then(match vs with| []=>okV (.a .nel) t h| _=>.bad)else(match ofAs z with
  |some z=>match fillRowS n sz z vs with
   |some cs=>bif allB one1 cs&&(Nat.blt 0 sz&&Nat.beq (len cs) (Nat.mul n sz))then okV (.xo h.next sz 0 n) t (newQ h (.o 0 cs))else .bad
   |none=>.bad
  |none=>.bad)
 |none=>.bad
def elemS(h:Hq)(r sz i:Nat):Option (List Sv):=match h.objs.get r with
 |some (.l t x)=>bif Nat.beq sz (size t)then some (cellsT t (x.getD i (dflt t)))else none
 |some (.z t x)=>bif Nat.beq sz (size t)then some (cellsT t (x.getD i (dflt t)))else none
 | _=>none
def plainS(h:Hq)(r:Nat):Option (List Sv):=match h.objs.get r with
 |some (.o _ l)=>some l
 |some (.zo l)=>some l
 | _=>none
def loadS(sz:Nat)(agg:Bool)(a:Sv)(h:Hq):Option Sv:=bif Nat.blt 0 sz then(match a with
 | .rf r o=>match plainS h r with
  |some l=>part1 agg l o sz
  |none=>none
 | .re r s i o=>match elemS h r s i with
  |some l=>part1 agg l o sz
  |none=>none
 | .zp l=>part1 agg l 0 sz
 | _=>none)else none
def sLoad(sz:Nat)(agg:Bool)(a:Od):SOpF:=fun t h=>match opd a t with
 |some p=>okO (loadS sz agg p h) t h
 |none=>.bad
def sStore(sz:Nat)(a b:Od):SOpF:=fun t h=>match opd b t with
 |some v=>bif Nat.beq (len v.cells) sz&&allB one1 v.cells then(match opd a t with
  |some (.rf r o)=>match h.objs.get r with
   |some (.o g l)=>bif Nat.ble (Nat.add o (len v.cells)) (len l)then okV undefS t (setQ h r (some (.o g (putS l o v.cells))))else .bad
   | _=>.bad
  |some (.re r s i o)=>match h.objs.get r with
   |some (.l ty x)=>bif Nat.beq s (size ty)&&Nat.ble (Nat.add o (len v.cells)) s then(match asT ty (putS (cellsT ty (x.getD i (dflt ty))) o v.cells) h with
    |some (y,[],h')=>(match h'.objs.get r with
     |some (.l _ _)=>okV undefS t (setQ h' r (some (.l ty (x.set i y))))
     | _=>.bad)
    | _=>.bad)else .bad
   | _=>.bad
  | _=>.bad)else .bad
 |none=>.bad
def sNilc(a:Od):SOpF:=fun t h=>match opd a t with
 |some (.rf r o)=>okV (.rf r o) t h
 |some (.re r s i o)=>okV (.re r s i o) t h
 |some (.zp c)=>okV (.zp c) t h
 |some (.fn f c)=>okV (.fn f c) t h
 | _=>.bad
def sBin(f:BF)(a b:Od):SOpF:=fun t h=>match opd a t with
 |some x=>match opd b t with
  |some y=>(sBn f x y).bd fun v=>okV v t h
  |none=>.bad
 |none=>.bad
def sUn(f:UF)(a:Od):SOpF:=fun t h=>match opd a t with
 |some x=>okO (sUn1 f x) t h
 |none=>.bad
def sFn(f:FuncId)(cap:List Od):SOpF:=fun t h=>match opdl cap t with
 |some vs=>okV (.fn f vs) t h
 |none=>.bad
def sFieldAddr(off:Nat)(a:Od):SOpF:=fun t h=>match opd a t with
 |some (.rf r o)=>okV (.rf r (Nat.add o off)) t h
 |some (.re r s i o)=>okV (.re r s i (Nat.add o off)) t h
 |some (.zp l)=>bif Nat.ble off (len l)then okV (.zp (dp off l)) t h else .bad
 | _=>.bad
def sField(off size:Nat)(agg:Bool)(a:Od):SOpF:=fun t h=>match opd a t with
 |some (.ag cs)=>okO (part1 agg cs off size) t h
 | _=>.bad
def ixOk(i n:Int):Bool:=decide (0<=i)&&decide (i<n)
def sIxS(size:Nat)(a i:Od):SOpF:=fun t h=>match opd i t with
 |some iv=>match toN iv with
  |some (_,n)=>match opd a t with
   |some (.os r s)=>match h.objs.get r with
    |some (.l _ x)=>bif Nat.beq s size then .ck (ixOk n (Int.ofNat x.length)) (okV (.re r s n.toNat 0) t h)else .bad
    |some (.z _ x)=>bif Nat.beq s size then .ck (ixOk n (Int.ofNat x.length)) (okV (.re r s n.toNat 0) t h)else .bad
    | _=>.bad
   |some (.ss r s off m)=>bif Nat.beq s size then .ck (ixOk n (Int.ofNat m)) (okV (.re r s (off+n.toNat) 0) t h)else .bad
   |some (.xo r s off m)=>match iv with
    | .i _ (.ofNat k)=>bif Nat.beq s size&&Nat.blt k m then okV (.rf r (Nat.add off (Nat.mul k s))) t h else .bad
    | _=>.bad
   |some (.c _ (.sli ty) x)=>bif Nat.beq size (Lf.size ty)then .ck (ixOk n (Int.ofNat x.length)) (okV (.zp (cellsT ty (x.getD n.toNat (dflt ty)))) t h)else .bad
   | _=>.bad
  |none=>.bad
 |none=>.bad
def sIxA(n size:Nat)(a i:Od):SOpF:=fun t h=>match opd i t with
 |some (.i _ (.ofNat k))=>bif Nat.blt k n then(match opd a t with
  |some (.rf r o)=>okV (.rf r (Nat.add o (Nat.mul k size))) t h
  |some (.zp l)=>bif Nat.ble (Nat.mul k size) (len l)then okV (.zp (dp (Nat.mul k size) l)) t h else .bad
  | _=>.bad)else .bad
 | _=>.bad
def numsOf(k:IntKind)(l:List Sv):Option (List Int):=List.rec (some []) (fun v _ ih=>match toN v with
 |some (k',n)=>bif eqK k k' then(match ih with
  |some r=>some (n::r)
  |none=>none)else none
 |none=>none) l
def sIndex(n size:Nat)(agg:Bool)(a i:Od):SOpF:=fun t h=>match opd a t with
 |some (.ag cs)=>match opd i t with
  |some (.i _ (.ofNat k))=>bif Nat.blt k n then okO (part1 agg cs (Nat.mul k size) size) t h else .bad
  |some (.c _ (.int _) x)=>bif agg|| !(Nat.beq size 1)then .bad else(match cs with
   |v::_=>match toN v with
    |some (k,_)=>match numsOf k cs with
     |some l=>bif Nat.beq (len l) n then .ck (ixOk x (Int.ofNat n)) (okV (.c 0 (.int k) (l.getD x.toNat 0)) t h)else .bad
     |none=>.bad
    |none=>.bad
   | []=>.bad)
  | _=>.bad
 | _=>.bad
def sIndexS(a i:Od):SOpF:=fun t h=>match opd a t with
 |some v=>match toS v with
  |some (_,s)=>match opd i t with
   |some iv=>match toN iv with
    |some (_,n)=>.ck (ixOk n (Int.ofNat s.size)) (okV (.c 0 (.int .u8) (Int.ofNat ((s.data.toList.getD n.toNat 0).toNat))) t h)
    |none=>.bad
   |none=>.bad
  |none=>.bad
 |none=>.bad
def sLenT(a:Od):SOpF:=fun t h=>match opd a t with
 |some v=>match toS v with
  |some (true,s)=>okV (.i .i64 (.ofNat s.size)) t h
  |some (false,s)=>okV (.c 0 (.int .i64) (Int.ofNat s.size)) t h
  |none=>.bad
 |none=>.bad
def sExtract(a:Od)(i:Nat):SOpF:=fun t h=>match opd a t with
 |some (.tu vs)=>okO (getN vs i) t h
 | _=>.bad
def sLen(a:Od):SOpF:=fun t h=>match opw a t with
 |some v=>okO (lenS v h) t h
 |none=>.bad
def bndN(o:Option Od)(t:Tq)(d:Sv):Option (Bool×Int):=match(match o with
 |none=>some d
 |some o=>opd o t)with
 |some v=>match toN v with
  |some (_,n)=>some (litI v,n)
  |none=>none
 |none=>none
def cutOk(l u n:Int):Bool:=decide (0<=l)&&(decide (l<=u)&&decide (u<=n))
def sSliceN(size:Nat)(a:Od)(lo hi:Option Od):SOpF:=fun t h=>match opd a t with
 |some v=>match lenS v h with
  |some m=>match toN m with
   |some (_,n)=>match bndN lo t (.i .i64 0)with
    |some (ll,l)=>match bndN hi t m with
     |some (lu,u)=>(match v with
      | .a w=>bif isE w then .ck (cutOk l u n) (okV (.a w) t h)else .bad
      | .os r s=>bif Nat.beq s size then .ck (cutOk l u n) (okV (.ss r s l.toNat (u.toNat - l.toNat)) t h)else .bad
      | .ss r s off _=>bif Nat.beq s size then .ck (cutOk l u n) (okV (.ss r s (off+l.toNat) (u.toNat - l.toNat)) t h)else .bad
      | .xo r s off _=>bif (ll&&lu)&&(Nat.beq s size&&cutOk l u n)then okV (.xo r s (Nat.add off (Nat.mul l.toNat s)) (Nat.sub u.toNat l.toNat)) t h else .bad
      | .c _ (.sli ty) x=>bif Nat.beq size (Lf.size ty)then .ck (cutOk l u n) (okV (.c 0 (.sli ty) ((x.drop l.toNat).take (u.toNat - l.toNat))) t h)else .bad
      | _=>.bad)
     |none=>.bad
    |none=>.bad
   |none=>.bad
  |none=>.bad
 |none=>.bad
def sSliceA(n size:Nat)(a:Od)(lo hi:Option Od):SOpF:=fun t h=>match opd a t with
 |some (.rf r o)=>match bndN lo t (.i .i64 0)with
  |some (true,l)=>match bndN hi t (.i .i64 (.ofNat n))with
   |some (true,u)=>match plainS h r with
    |some cs=>bif Nat.ble (Nat.add o (Nat.mul n size)) (len cs)&&(cutOk l u (Int.ofNat n)&&Nat.blt 0 size)then okV (.xo r size (Nat.add o (Nat.mul l.toNat size)) (Nat.sub u.toNat l.toNat)) t h else .bad
    |none=>.bad
   | _=>.bad
  | _=>.bad
 | _=>.bad
def sSliceS(a:Od)(lo hi:Option Od):SOpF:=fun t h=>match opd a t with
 |some v=>match toS v with
  |some (true,s)=>match bndN lo t (.i .i64 0)with
   |some (true,l)=>match bndN hi t (.i .i64 (.ofNat s.size))with
    |some (true,u)=>bif cutOk l u (Int.ofNat s.size)then okV (.a (.sc (.string (s.extract l.toNat u.toNat)))) t h else .bad
    | _=>.bad
   | _=>.bad
  | _=>.bad
 |none=>.bad
def roomy(bytes n:Nat):Bool:=decide (n*bytes<=70368744177664)&&decide (n<=70368744177664)
def litCells(v:Sv)(h:Hq):Option (Nat×List Sv):=match v with
 | .a w=>bif emptyV w then some (0,[])else none
 | .xo r s off n=>match plainS h r with
  |some l=>bif Nat.ble (Nat.add off (Nat.mul n s)) (len l)then some (n,tk (Nat.mul n s) (dp off l))else none
  |none=>none
 | _=>none
def kill(v:Sv)(h:Hq):Option Hq:=match v with
 | .a _=>some h
 | .os r _=>match h.objs.get r with
  |some (.l _ _)=>some (setQ h r none)
  | _=>none
 | .ss r _ _ _=>match h.objs.get r with
  |some (.l _ _)=>some (setQ h r none)
  | _=>none
 | .xo r _ _ _=>match h.objs.get r with
  |some (.o _ _)=>some (setQ h r none)
  | _=>none
 | _=>none
def peek(t:Ty)(v:Sv)(h:Hq):Option (List (den t)×Hq):=match v with
 | .os r _=>match h.objs.get r with
  |some (.l t' x)=>match teq t' t with
   |some ⟨e⟩=>some (e▸x,h)
   |none=>none
  | _=>none
 | .ss r _ off n=>match h.objs.get r with
  |some (.l t' x)=>match teq t' t with
   |some ⟨e⟩=>some (((e▸x:List (den t)).drop off).take n,h)
   |none=>none
  | _=>none
 | .a w=>bif emptyV w then some ([],h)else none
 | .xo r sz off n=>match h.objs.get r with
  |some (.o _ l)=>bif Nat.beq sz (size t)then rdX t (asT t) n off l h else none
  | _=>none
 | _=>none
def apT(bytes:Nat)(t:Ty)(s:Sv)(new:List (den t))(tq:Tq)(h:Hq):OpR:=match peek t s h with
 |some (x,h1)=>match kill s h1 with
  |some h2=>.ck (roomy bytes (x.length+new.length)) (okV (.os h2.next (size t)) tq (newQ h2 (.l t (app x new))))
  |none=>.bad
 |none=>.bad
def szOf(s:Sv)(d:Nat):Nat:=match s with
 | .os _ z=>z
 | .ss _ z _ _=>z
 | .xo _ z _ _=>z
 | _=>d
def sAppV(size bytes:Nat)(s x:Sv)(t:Tq)(h:Hq):OpR:=bif Nat.beq (szOf s size) size&&(Nat.beq (szOf x size) size&&Nat.blt 0 size)then(match litCells x h with
 |some (0,_)=>(match s with
  | .a w=>bif isE w then okV s t h else .bad
  | .os _ _=>okV s t h
  | .ss _ _ _ _=>okV s t h
  | .xo _ _ _ _=>okV s t h
  | _=>.bad)
 |some (m,new)=>(match litCells s h with
  |some (n,old)=>match kill s h with
   |some h2=>bif roomy bytes (Nat.add n m)&&allB one1 new then okV (.xo h2.next size 0 (Nat.add n m)) t (newQ h2 (.o 0 (app old new)))else .bad
   |none=>.bad
  |none=>match tyOf s h with
   |some ty=>bif Nat.beq size (Lf.size ty)then(match lst ty x h with
    |some (new,h1)=>apT bytes ty s new t h1
    |none=>.bad)else .bad
   |none=>.bad)
 |none=>(match tyOf x h with
  |some ty=>bif Nat.beq size (Lf.size ty)then(match lst ty x h with
   |some (new,h1)=>apT bytes ty s new t h1
   |none=>.bad)else .bad
  |none=>.bad))else .bad
def sAppend(size bytes:Nat)(s x:Od):SOpF:=fun t h=>match opd s t with
 |some s=>match opd x t with
  |some x=>sAppV size bytes s x t h
  |none=>.bad
 |none=>.bad
def tyZ1:AV->Option Ty
 | .int k _=>some (.int k)
 | .bool _=>some .bool
 | .sc (.string _)=>some .str
 | .sc (.slice none 0 0)=>some (.sli (.int .i64))
 | _=>none
def tyZ(l:List AV):Option Ty:=List.rec none (fun a r ih=>match tyZ1 a with
 |some t=>match r with
  | []=>some t
  | _=>match ih with
   |some u=>some (.pair t u)
   |none=>none
 |none=>none) l
def zeroT(z:List AV):Option ((t:Ty)×den t):=match tyZ z with
 |some t=>match ofAs z with
  |some l=>match asT t l ⟨0,.nil⟩with
   |some (x,[],_)=>some ⟨t,x⟩
   | _=>none
  |none=>none
 |none=>none
def sAppZ(size bytes:Nat)(z:List AV)(s x:Od):SOpF:=fun t h=>match opd s t with
 |some sv=>match opd x t with
  |some xv=>match toN xv with
   |some (_,n)=>bif Nat.beq (szOf sv size) size then(match zeroT z with
    |some ⟨ty,y⟩=>bif Nat.beq size (Lf.size ty)&&Nat.beq size (len z)then(.ck (decide (0<=n)) (apT bytes ty sv (List.replicate n.toNat y) t h))else .bad
    |none=>.bad)else .bad
   |none=>.bad
  |none=>.bad
 |none=>.bad
def sAppS(bytes:Nat)(s x:Od):SOpF:=fun t h=>match opd s t with
 |some sv=>match opd x t with
  |some xv=>match toS xv with
   |some (_,y)=>bif Nat.beq (szOf sv 1) 1 then apT bytes (.int .u8) sv (y.data.toList.map fun b=>Int.ofNat b.toNat) t h else .bad
   |none=>.bad
  |none=>.bad
 |none=>.bad
def sBytes(x:Od):SOpF:=fun t h=>match opd x t with
 |some v=>match toS v with
  |some (_,y)=>okV (.os h.next 1) t (newQ h (.l (.int .u8) (y.data.toList.map fun b=>Int.ofNat b.toNat)))
  |none=>.bad
 |none=>.bad
def eqOd(a b:Od):Bool:=match a,b with
 | .t i,.t j=>Nat.beq i j
 | .c (.int _ m),.c (.int _ n)=>eqI m n
 | _,_=>false
def sMake(size bytes:Nat)(z:List AV)(l c:Od):SOpF:=fun t h=>match opd l t with
 |some lv=>match opd c t with
  |some cv=>match toN lv with
   |some (_,l')=>match toN cv with
    |some (_,c')=>match zeroT z with
     |some ⟨ty,y⟩=>bif Nat.beq size (Lf.size ty)&&Nat.beq size (len z)then
      .ck ((decide (0<=l')&&decide (l'<=c'))&&decide (c'.toNat*bytes<=70368744177664))
       (okV (bif eqOd l c then .os h.next size else .ss h.next size 0 l'.toNat) t (newQ h (.l ty (List.replicate c'.toNat y))))else .bad
     |none=>.bad
    |none=>.bad
   |none=>.bad
  |none=>.bad
 |none=>.bad
def sEmp(x y z:Od):SOpF:=fun t h=>match opd y t with
 |some (.i _ (.ofNat 0))=>match opd z t with
  |some (.i _ (.ofNat 0))=>match opw x t with
   |some (.a w)=>bif emptyV w then okV (.a .esl) t h else .bad
   |some (.os _ _)=>okV (.a .esl) t h
   |some (.ss _ _ _ _)=>okV (.a .esl) t h
   |some (.xo _ _ _ _)=>okV (.a .esl) t h
   |some (.c _ (.sli _) _)=>okV (.a .esl) t h
   | _=>.bad
  | _=>.bad
 | _=>.bad
def sCap(x:Od):SOpF:=fun t h=>match opw x t with
 |some (.a w)=>bif emptyV w then okV (.i .i64 0) t h else .bad
 | _=>.bad
def sMin(mx:Bool)(a b:Od):SOpF:=fun t h=>match opd a t with
 |some x=>match opd b t with
  |some y=>match x,y with
   | .i k m,.i k' n=>bif eqK k k' then okV (.i k (bif mx then(bif ltI m n then n else m)else(bif ltI n m then n else m))) t h else .bad
   |x,y=>match toN x,toN y with
    |some (k,m),some (k',n)=>bif eqK k k' then okV (.c 0 (.int k) (match mx with|true=>max m n|false=>min m n)) t h else .bad
    | _,_=>.bad
  |none=>.bad
 |none=>.bad
def sCall(call:CallQ)(f:FuncId)(args:List Od):SOpF:=fun t h=>match opdl args t with
 |some vs=>(call f vs h).bd fun p=>okV p.1 t p.2
 |none=>.bad
def sCallV(call:CallQ)(f:Od)(args:List Od):SOpF:=fun t h=>match opd f t with
 |some (.fn k cap)=>match opdl args t with
  |some vs=>(call k (app vs cap) h).bd fun p=>okV p.1 t p.2
  |none=>.bad
 | _=>.bad
def mintL(l:List Sv):Nat->List Sv×Nat:=List.rec (fun n=>([],n)) (fun a _ ih n=>match a with
 | .c m (.sli t) x=>bif Nat.beq m 0 then(.c n (.sli t) x::(ih (Nat.add n 1)).1,(ih (Nat.add n 1)).2)else(a::(ih n).1,(ih n).2)
 |a=>(a::(ih n).1,(ih n).2)) l
def sPre(b:Od)(f:SOpF):SOpF:=fun t h=>match b with
 | .t i=>bif Nat.blt i 512 then(match t.at i with
  |some (.ag l)=>f (t.put i (some (.ag (mintL l h.next).1))) ⟨(mintL l h.next).2,h.objs⟩
  | _=>f t h)else f t h
 | _=>f t h
def sMark(a:Od):SOpF:=fun t h=>match opd a t with
 |some (.os r sz)=>match h.objs.get r with
  |some (.l _ x)=>.ck (!(Nat.beq x.length 0)) (okV (.os r sz) t h)
  | _=>.bad
 |some (.xo r sz off n)=>match h.objs.get r with
  |some (.o _ _)=>bif Nat.beq n 0 then .bad else okV (.xo r sz off n) t h
  | _=>.bad
 | _=>.bad
def sOp0(call:CallQ)(o:OpK):SOpF:=match o with
 | .mv a=>sMove a| .pk c a b=>sPick c a b| .nw cs=>sNew cs| .bx a=>sBox a| .bd z ps=>sBuild z ps| .rw n sz z ps=>sRow n sz z ps
 | .ld sz g a=>sLoad sz g a| .sto sz a b=>sPre b (sStore sz a b)| .nl a=>sNilc a| .bn f a b=>sBin f a b| .un f a=>sUn f a| .fn f cap=>sFn f cap
 | .fa off a=>sFieldAddr off a| .fd off s g a=>sField off s g a| .ixS s a i=>sIxS s a i| .ixA n s a i=>sIxA n s a i| .ix n s g a i=>sIndex n s g a i| .ixT a i=>sIndexS a i
 | .slN s a lo hi=>sSliceN s a lo hi| .slA n s a lo hi=>sSliceA n s a lo hi| .slS a lo hi=>sSliceS a lo hi| .ex a i=>sExtract a i| .ln a=>sLen a| .lnT a=>sLenT a
 | .ap s b x y=>sAppend s b x y| .apZ s b z x y=>sAppZ s b z x y| .apS b x y=>sAppS b x y| .bys a=>sBytes a| .mk s b z l c=>sMake s b z l c
 | .emp a b c=>sEmp a b c| .cap a=>sCap a| .mrk a=>sMark a| .min a b=>sMin false a b| .max a b=>sMin true a b
 | .map=>fun t h=>okV (.a .any) t h
 | .call f args=>sCall call f args| .callV f args=>sCallV call f args
 | _=>fun _ _=>.bad
def sGd(j:Od)(want:Bool)(f:SOpF):SOpF:=fun t h=>match opd j t with
 |some (.tu [])=>okV undefS t h
 | _=>splitB j t (fun t=>bif want then f t h else okV undefS t h) (fun t=>bif want then okV undefS t h else f t h)
def sOp(call:CallQ)(o:OpK):SOpF:=match o with
 | .gd j w (.mn f)=>sGd j w (sOp0 call f)
 | .gd j w f=>sGd j w (sOp0 call f)
 | .mn (.gd j w f)=>sGd j w (sOp0 call f)
 | .mn f=>sOp0 call f
 |o=>sOp0 call o
def same1(u v:Sv):Option LB:=match u,v with
 | .i k a,.i k' b=>bif eqK k k'&&eqI a b then some (.l true)else none
 | .b a,.b b=>bif a then(bif b then some (.l true)else none)else(bif b then none else some (.l true))
 | .a v,.a w=>bif eqA v w then some (.l true)else none
 | .rf r o,.rf r' o'=>bif Nat.beq r r'&&Nat.beq o o' then some (.l true)else none
 | .re r s i o,.re r' s' i' o'=>bif Nat.beq r r'&&(Nat.beq s s'&&Nat.beq o o')then some (.t (decide (i=i')))else none
 | .os r s,.os r' s'=>bif Nat.beq r r'&&Nat.beq s s' then some (.l true)else none
 | .ss r s o n,.ss r' s' o' n'=>bif Nat.beq r r'&&Nat.beq s s' then some (.t (decide (o=o')&&decide (n=n')))else none
 | .xo r s o n,.xo r' s' o' n'=>bif Nat.beq r r'&&(Nat.beq s s'&&(Nat.beq o o'&&Nat.beq n n'))then some (.l true)else none
 | .c m (.sli t) _,.c m' (.sli t') _=>bif Nat.blt 0 m&&Nat.beq m m' then some (.l true)else none
 |u,v=>match toN u,toN v with
  |some (k,a),some (k',b)=>bif eqK k k' then some (.t (decide (a=b)))else none
  | _,_=>match toB u,toB v with
   |some a,some b=>some (.t (!(xor a.v b.v)))
   | _,_=>none
def sameL:List Sv->List Sv->Option LB
 | [],[]=>some (.l true)
 |a::l,b::m=>match same1 a b with
  |some c=>match sameL l m with
   |some d=>some (c.and d)
   |none=>none
  |none=>none
 | _,_=>none
def sameS(u v:Sv):Option LB:=match u,v with
 | .ag l,.ag m=>sameL l m
 |u,v=>same1 u v
inductive Oc where
 |norm (t:Tq) (h:Hq)
 |ret (t:Tq) (h:Hq)
 |exit (i:Nat) (t:Tq) (h:Hq)
abbrev CdR:=Tq->Hq->T Oc
def ckLd(s:Od)(sz:Nat)(g:Bool)(a:Od)(t:Tq)(h:Hq)(k:T (Tq×Hq)):T (Tq×Hq):=match opd a t with
 |some p=>(match loadS sz g p h with
  |some v=>(match opd s t with
   |some u=>(match sameS u v with
    |some c=>ckL c k
    |none=>.bad)
   |none=>.bad)
  |none=>.bad)
 |none=>.bad
def ckUn(s:Od)(t:Tq)(k:T (Tq×Hq)):T (Tq×Hq):=match opd s t with
 |some (.tu [])=>k
 | _=>.bad
def sRg(call:CallQ)(r:RgK):Tq->Hq->T (Tq×Hq):=
 RgK.rec (motive:=fun _=>Tq->Hq->T (Tq×Hq)) (fun t h=>.ok (t,h))
  (fun i f _ ih t h=>bif Nat.blt i 512 then(sOp call f t h).bd fun p=>ih (p.2.1.put i (some p.1)) p.2.2 else .bad)
  (fun f _ ih t h=>(sOp call f t h).bd fun p=>ih p.2.1 p.2.2)
  (fun s f _ ih t h=>match f with
   | .ld sz g a=>ckLd s sz g a t h (ih t h)
   | .gd j w (.ld sz g a)=>(match opd j t with
    |some (.b c)=>bif (bif w then c else !c)then ckLd s sz g a t h (ih t h)else ckUn s t (ih t h)
    |some (.tu [])=>ckUn s t (ih t h)
    | _=>.bad)
   | _=>.bad) r
def pureOp:OpK->Bool
 | .mv _| .pk _ _ _| .ld _ _ _| .nl _| .bn _ _ _| .un _ _| .fa _ _| .fd _ _ _ _| .ixS _ _ _| .ixT _ _| .ex _ _| .ln _| .lnT _| .min _ _| .max _ _=>true
 | .gd _ _ (.mn _)=>false
 | .gd _ _ (.gd _ _ _)=>false
 | .gd _ _ f=>pureOp f
 | _=>false
def pureRg(r:RgK):Bool:=RgK.rec true (fun _ f _ ih=>bif pureOp f then ih else false) (fun f _ ih=>bif pureOp f then ih else false) (fun _ _ _ ih=>ih) r
def asgRg(r:RgK):List Nat:=RgK.rec [] (fun i _ _ ih=>i::ih) (fun _ _ ih=>ih) (fun _ _ _ ih=>ih) r
def mgV(c:Bool)(v w:Sv):Option Sv:=match v,w with
 | .b x,.b y=>bif (bif x then y else !y)then some (.b x)else some (.c 0 .bool (bif c then x else y))
 | .a x,.a y=>bif eqA x y then some (.a x)else none
 | .rf r o,.rf r' o'=>bif Nat.beq r r'&&Nat.beq o o' then some (.rf r o)else none
 | .os r o,.os r' o'=>bif Nat.beq r r'&&Nat.beq o o' then some (.os r o)else none
 | .c m (.sli t) x,.c m' (.sli t') y=>(match teq t' t with
  |some ⟨e⟩=>some (.c 0 (.sli t) (bif c then x else(e▸y:List (den t))))
  |none=>none)
 | .i k x,.i k' y=>bif eqK k k' then(bif eqI x y then some (.i k x)else some (.c 0 (.int k) (bif c then x else y)))else none
 |v,w=>match toN v,toN w with
  |some (k,x),some (k',y)=>bif eqK k k' then some (.c 0 (.int k) (bif c then x else y))else none
  | _,_=>match toB v,toB w with
   |some x,some y=>some (.c 0 .bool (bif c then x.v else y.v))
   | _,_=>none
def mgO(c:Bool)(v w:Option Sv):Option Sv:=match v with
 |some v=>(match w with
  |some w=>mgV c v w
  |none=>none)
 |none=>none
def mgT(asg:List Nat)(c:Bool)(T0 a b:Tq):Tq:=List.rec T0 (fun i _ ih=>ih.put i (mgO c (a.at i) (b.at i))) asg
def LB.cond(c:Bool):LB->LB->LB
 | .l true,.l true=>.l true
 | .l x,.l y=>.t (bif c then x else y)
 | .l x,.t y=>.t (bif c then x else y)
 | .t x,.l y=>.t (bif c then x else y)
 | .t x,.t y=>.t (bif c then x else y)
def mgR(asg:List Nat)(T0:Tq)(x:T (Tq×Hq)):LB×Tq:=T.rec (motive:=fun _=>LB×Tq) (.l false,T0) (fun p=>(.l true,p.1))
 (fun c _ _ a b=>(LB.cond c a.1 b.1,mgT asg c T0 a.2 b.2))
 (fun c _ a=>(LB.and (.t c) a.1,a.2)) x
def sRgM(call:CallQ)(r:RgK):Tq->Hq->T (Tq×Hq):=fun t h=>bif pureRg r&&allB (fun i=>Nat.blt i 512) (asgRg r)then(match mgR (asgRg r) t (sRg call r t h)with
 |(c,t')=>ckL c (.ok (t',h)))else sRg call r t h
def seqO(a:T Oc)(b:CdR):T Oc:=a.bd fun o=>match o with
 | .norm t h=>b t h
 |o=>.ok o
def blO(id:Nat)(a:T Oc):T Oc:=a.bd fun o=>match o with
 | .exit i t h=>.ok (bif Nat.beq i id then .norm t h else .exit i t h)
 |o=>.ok o
def sCd(L:Nat->Option CdR)(call:CallQ)(m:Nat)(c:CdK):CdR:=
 CdK.rec (motive:=fun _=>CdR) (fun r t h=>(sRgM call r t h).bd fun p=>.ok (.norm p.1 p.2)) (fun t h=>.ok (.norm t h))
  (fun _ _ a b t h=>seqO (a t h) b)
  (fun c _ _ a b t h=>splitB c t (fun t=>a t h) (fun t=>b t h))
  (fun id _ b t h=>match L id with
   |some f=>f t h
   |none=>blO id (b t h))
  (fun _ b=>Nat.rec (motive:=fun _=>CdR) (fun _ _=>.bad) (fun _ ih t h=>seqO (b t h) ih) m)
  (fun i t h=>.ok (.exit i t h)) (fun t h=>.ok (.ret t h)) (fun _ _=>.bad) c
def sRes(t:Tq)(h:Hq):RV->Option Sv
 | .tmp i=>bif Nat.blt i 512 then t.at i else none
 | .cell i size agg=>match(bif Nat.blt i 512 then t.at i else none)with
  |some p=>loadS size agg p h
  |none=>none
def sRess(t:Tq)(h:Hq)(l:List RV):Option (List Sv):=List.rec (some []) (fun r _ ih=>match sRes t h r with
 |some v=>match ih with
  |some vs=>some (v::vs)
  |none=>none
 |none=>none) l
def sFin(res:List RV)(t:Tq)(h:Hq):T (Sv×Hq):=match sRess t h res with
 |some [v]=>.ok (v,h)
 |some vs=>.ok (.tu vs,h)
 |none=>.bad
def sEnter(l:List Sv):Nat->Tq->Tq:=List.rec (fun _ t=>t) (fun v _ ih i t=>ih (Nat.add i 1) (t.put i (some v))) l
def sStep(L:Nat->Option CdR)(b:FbK)(m:Nat)(c:CallQ)(args:List Sv)(h:Hq):T (Sv×Hq):=
 bif Nat.ble (len args) b.ntmps then(sCd L c m b.code (sEnter args 0 Tq.none) h).bd fun o=>match o with
  | .norm t h=>sFin b.res t h
  | .ret t h=>sFin b.res t h
  | _=>.bad else .bad
end Lf
end Go.Ab

noncomputable section
namespace Go.Ab
namespace Lf
structure Kr where
 av:AV
 n:Nat
structure En where
 K:Nat->Kr
 tk:Nat->AV
 G:Nat->Option Rw
 A:Nat->AV
section
variable {α:Type}
def Els(E:α->List AV->Prop):List α->List AV->Prop
 | [],cs=>cs=[]
 |x::xs,cs=> ∃ c r,cs=c++r/\E x c/\Els E xs r
theorem Els.mono{E E':α->List AV->Prop}(h: ∀ x c,E x c->E' x c): ∀ {l:List α} {cs:List AV},Els E l cs->Els E' l cs
 | [],_,e=>e
 | _::_,_,⟨c,r,e,a,b⟩=>⟨c,r,e,h _ _ a,Els.mono h b⟩
theorem Els.app{E:α->List AV->Prop}: ∀ {l m:List α} {cs ds:List AV},Els E l cs->Els E m ds->Els E (l++m) (cs++ds)
 | [],_,_,_,e,k=>by have e':_=[]:=e;subst e';simpa using k
 | _::_,_,_,_,⟨c,r,e,a,b⟩,k=>by subst e;exact⟨c,r++_,by simp,a,Els.app b k⟩
theorem Els.length{E:α->List AV->Prop}{s:Nat}(h: ∀ x c,E x c->c.length=s): ∀ {l:List α} {cs:List AV},Els E l cs->cs.length=l.length*s
 | [],_,e=>by have e':_=[]:=e;subst e';simp
 | _::_,_,⟨c,r,e,a,b⟩=>by subst e;rw[List.length_append,h _ _ a,Els.length h b,List.length_cons,Nat.succ_mul];omega
theorem Els.drop{E:α->List AV->Prop}{s:Nat}(h: ∀ x c,E x c->c.length=s): ∀ (n:Nat) {l:List α} {cs:List AV},Els E l cs->Els E (l.drop n) (cs.drop (n*s))
 |0,_,_,e=>by simpa using e
 |n+1,[],_,e=>by have e':_=[]:=e;subst e';simp;rfl
 |n+1,_::_,_,⟨c,r,e,a,b⟩=>by
  subst e
  have:=Els.drop h n b
  rw[List.drop_succ_cons,Nat.succ_mul,Nat.add_comm,<-List.drop_drop,List.drop_append_of_le_length (by rw[h _ _ a];exact Nat.le_refl _),<-h _ _ a,List.drop_length,List.nil_append,h _ _ a]
  exact this
theorem Els.take{E:α->List AV->Prop}{s:Nat}(h: ∀ x c,E x c->c.length=s): ∀ (n:Nat) {l:List α} {cs:List AV},Els E l cs->Els E (l.take n) (cs.take (n*s))
 |0,_,_,e=>by simp;rfl
 |n+1,[],_,e=>by have e':_=[]:=e;subst e';simp;rfl
 |n+1,_::_,_,⟨c,r,e,a,b⟩=>by
  subst e
  have:=Els.take h n b
  refine⟨c,r.take (n*s),?_,a,this⟩
  rw[Nat.succ_mul,Nat.add_comm,<-h _ _ a,List.take_length_add_append]
theorem Els.get{E:α->List AV->Prop}{s:Nat}(h: ∀ x c,E x c->c.length=s){l:List α}{cs:List AV}(e:Els E l cs){i:Nat}(hi:i<l.length)(d:α):E (l.getD i d) ((cs.drop (i*s)).take s):=by
 induction l generalizing cs i with
 |nil=>simp at hi
 |cons x l ih=>
  obtain⟨c,r,rfl,a,b⟩:=e
  cases i with
  |zero=>simp only[Nat.zero_mul,List.drop_zero,List.getD_cons_zero];rw[List.take_append_of_le_length (by rw[h _ _ a];exact Nat.le_refl _),<-h _ _ a,List.take_length];exact a
  |succ i=>
   rw[List.getD_cons_succ,Nat.succ_mul,Nat.add_comm,<-List.drop_drop,List.drop_append_of_le_length (by rw[h _ _ a];exact Nat.le_refl _),<-h _ _ a,List.drop_length,List.nil_append,h _ _ a]
   exact ih b (by simpa using hi)
end
def CVs(G:Nat->Option Rw)(t:Ty)(E:den t->List AV->Prop)(x:List (den t))(a:AV):Prop:=
 (emptyV a=true/\x=[])∨ ∃ ls,Els E x ls/\(a=.isl x.length ls∨ ∃ id base row,a=.hsl id base x.length (size t)/\G id=some row/\row.seg base (x.length*size t)=some ls)
def EV(G:Nat->Option Rw):(t:Ty)->den t->List AV->Prop
 | .int k,x,cs=>cs=[.int k x]
 | .bool,x,cs=>cs=[.bool x]
 | .str,x,cs=>cs=[.sc (.string x)]
 | .sli t,x,cs=> ∃ a,cs=[a]/\CVs G t (EV G t) x a
 | .pair a b,x,cs=> ∃ c d,cs=c++d/\EV G a x.1 c/\EV G b x.2 d
def GLe(G G':Nat->Option Rw):Prop:= ∀ id row,G id=some row->G' id=some row
theorem CVs.mono{G G':Nat->Option Rw}(h:GLe G G'){t:Ty}{E E':den t->List AV->Prop}(he: ∀ x c,E x c->E' x c){x:List (den t)}{a:AV}(k:CVs G t E x a):CVs G' t E' x a:=by
 rcases k with k|⟨ls,k1,k2⟩
 ·exact .inl k
 ·refine .inr ⟨ls,k1.mono he,?_⟩
  rcases k2 with k2|⟨id,base,row,e,g,s⟩
  ·exact .inl k2
  ·exact .inr ⟨id,base,row,e,h _ _ g,s⟩
theorem EV.mono{G G':Nat->Option Rw}(h:GLe G G'): ∀ (t:Ty) (x:den t) (cs:List AV),EV G t x cs->EV G' t x cs
 | .int _,_,_,e=>e
 | .bool,_,_,e=>e
 | .str,_,_,e=>e
 | .sli t,_,_,⟨a,e,k⟩=>⟨a,e,k.mono h (EV.mono h t)⟩
 | .pair a b,_,_,⟨c,d,e,k1,k2⟩=>⟨c,d,e,EV.mono h a _ _ k1,EV.mono h b _ _ k2⟩
theorem EV.length{G:Nat->Option Rw}: ∀ (t:Ty) (x:den t) (cs:List AV),EV G t x cs->cs.length=size t
 | .int _,_,_,e=>by have e':_=_:=e;rw[e'];rfl
 | .bool,_,_,e=>by have e':_=_:=e;rw[e'];rfl
 | .str,_,_,e=>by have e':_=_:=e;rw[e'];rfl
 | .sli t,_,_,⟨a,e,k⟩=>by rw[e];rfl
 | .pair a b,_,_,⟨c,d,e,k1,k2⟩=>by
  have h1:=EV.length a _ _ k1
  have h2:=EV.length b _ _ k2
  show _=Nat.add (size a) (size b)
  rw[e,List.length_append,h1,h2];rfl
theorem emptyV_cell1{a:AV}(h:emptyV a=true):cell1 a=true:=by cases a<;>first|rfl|cases h
theorem EV.cell1{G:Nat->Option Rw}: ∀ (t:Ty) (x:den t) (cs:List AV),EV G t x cs-> ∀ a,a∈cs->cell1 a=true
 | .int _,_,_,e=>by have e':_=_:=e;rw[e'];intro a ha;simp at ha;subst ha;rfl
 | .bool,_,_,e=>by have e':_=_:=e;rw[e'];intro a ha;simp at ha;subst ha;rfl
 | .str,_,_,e=>by have e':_=_:=e;rw[e'];intro a ha;simp at ha;subst ha;rfl
 | .sli t,_,_,⟨a,e,k⟩=>by
  rw[e];intro b hb;simp at hb;subst hb
  rcases k with⟨k,_⟩|⟨_,_,k|⟨_,_,_,k,_⟩⟩
  ·exact emptyV_cell1 k
  ·rw[k];rfl
  ·rw[k];rfl
 | .pair a b,_,_,⟨c,d,e,k1,k2⟩=>by
  rw[e];intro x hx
  rcases List.mem_append.1 hx with h|h
  ·exact EV.cell1 a _ _ k1 x h
  ·exact EV.cell1 b _ _ k2 x h
theorem Els.cell1{α:Type}{E:α->List AV->Prop}(h: ∀ x c,E x c-> ∀ a,a∈c->cell1 a=true): ∀ {l:List α} {cs:List AV},Els E l cs-> ∀ a,a∈cs->cell1 a=true
 | [],_,e=>by have e':_=[]:=e;subst e';intro a ha;simp at ha
 | _::_,_,⟨c,r,e,a,b⟩=>by
  subst e;intro y hy
  rcases List.mem_append.1 hy with k|k
  ·exact h _ _ a y k
  ·exact Els.cell1 h b y k
mutual
inductive V (E:En) (N:Nat):Sv->AV->Prop
 |i {k n}:V E N (.i k n) (.int k n)
 |b {b}:V E N (.b b) (.bool b)
 |a {v}:leafV v=true->V E N (.a v) v
 |c {m t x a}:EV E.G t x [a]->(m≠0->m<N/\a=E.tk m)->V E N (.c m t x) a
 |ag {l l'}:Vs E N l l'->V E N (.ag l) (.agg l')
 |tu {l l'}:Vs E N l l'->V E N (.tu l) (.tup l')
 |fn {f l l'}:Vs E N l l'->V E N (.fn f l) (.fn f l')
 |rf {r o id}:r<N->(E.K r).av=.ref id 0->V E N (.rf r o) (.ref id o)
 |re {r sz i o id base n}:r<N->(E.K r).av=.hsl id base n sz->i<n->V E N (.re r sz i o) (.ref id (base+i*sz+o))
 |os {r sz}:r<N->((emptyV (E.K r).av=true/\(E.K r).n=0)∨ ∃ id base,(E.K r).av=.hsl id base (E.K r).n sz)->V E N (.os r sz) (E.K r).av
 |se {r sz off}:r<N->emptyV (E.K r).av=true->(E.K r).n=0->off=0->V E N (.ss r sz off 0) (E.K r).av
 |ss {r sz off n id base}:r<N->(E.K r).av=.hsl id base (E.K r).n sz->off+n<=(E.K r).n->V E N (.ss r sz off n) (.hsl id (base+off*sz) n sz)
 |xo {r sz off n id}:r<N->(E.K r).av=.ref id 0->V E N (.xo r sz off n) (.hsl id off n sz)
 |zp {l l' r}:Vs E N l l'->V E N (.zp l) (.iptr (l'++r))
 |zr {l l' id off row}:Vs E N l l'->E.G id=some row->row.seg off l.length=some l'->V E N (.zp l) (.ref id off)
inductive Vs (E:En) (N:Nat):List Sv->List AV->Prop
 |nil:Vs E N [] []
 |cons {a c l l'}:V E N a c->Vs E N l l'->Vs E N (a::l) (c::l')
end
structure ELe(E E':En)(N:Nat):Prop where
 K: ∀ r,r<N->E'.K r=E.K r
 tk: ∀ r,r<N->E'.tk r=E.tk r
 G:GLe E.G E'.G
 A:E'.A=E.A
theorem ELe.refl(E:En)(N:Nat):ELe E E N:=⟨fun _ _=>rfl,fun _ _=>rfl,fun _ _ e=>e,rfl⟩
section
variable {E E':En}{N N':Nat}
mutual
theorem V.mono(h:ELe E E' N)(hN:N<=N'): ∀ {a c},V E N a c->V E' N' a c
 | _,_,.i=>.i
 | _,_,.b=>.b
 | _,_,.a k=>.a k
 | _,_,.c k m=>.c (EV.mono h.G _ _ _ k) fun e=>⟨Nat.lt_of_lt_of_le (m e).1 hN,by rw[h.tk _ (m e).1];exact(m e).2⟩
 | _,_,.ag k=>.ag (Vs.mono h hN k)
 | _,_,.tu k=>.tu (Vs.mono h hN k)
 | _,_,.fn k=>.fn (Vs.mono h hN k)
 | _,_,.rf a b=>.rf (Nat.lt_of_lt_of_le a hN) (by rw[h.K _ a];exact b)
 | _,_,.re a b c=>.re (Nat.lt_of_lt_of_le a hN) (by rw[h.K _ a];exact b) c
 | _,_,.os (r:=r) a b=>by rw[<-h.K _ a];exact .os (Nat.lt_of_lt_of_le a hN) (by rw[h.K _ a];exact b)
 | _,_,.se (r:=r) a b c d=>by rw[<-h.K _ a];exact .se (Nat.lt_of_lt_of_le a hN) (by rw[h.K _ a];exact b) (by rw[h.K _ a];exact c) d
 | _,_,.ss a b c=>.ss (Nat.lt_of_lt_of_le a hN) (by rw[h.K _ a];exact b) (by rw[h.K _ a];exact c)
 | _,_,.xo a b=>.xo (Nat.lt_of_lt_of_le a hN) (by rw[h.K _ a];exact b)
 | _,_,.zp k=>.zp (Vs.mono h hN k)
 | _,_,.zr k g s=>.zr (Vs.mono h hN k) (h.G _ _ g) s
theorem Vs.mono(h:ELe E E' N)(hN:N<=N'): ∀ {l l'},Vs E N l l'->Vs E' N' l l'
 | _,_,.nil=>.nil
 | _,_,.cons a b=>.cons (V.mono h hN a) (Vs.mono h hN b)
end
theorem Vs.length{l l'}(h:Vs E N l l'):l.length=l'.length:=by
 induction l generalizing l' with
 |nil=>cases h;rfl
 |cons a l ih=>cases h with|cons _ h=>simp[ih h]
theorem Vs.app{l l' m m'}(h:Vs E N l l')(k:Vs E N m m'):Vs E N (l++m) (l'++m'):=by
 induction l generalizing l' with
 |nil=>cases h;exact k
 |cons a l ih=>cases h with|cons a h=>exact .cons a (ih h)
theorem Vs.drop{l l'}(h:Vs E N l l')(n:Nat):Vs E N (l.drop n) (l'.drop n):=by
 induction n generalizing l l' with
 |zero=>simpa using h
 |succ n ih=>
  cases h with
  |nil=>simp;exact .nil
  |cons a h=>simpa using ih h
theorem Vs.take{l l'}(h:Vs E N l l')(n:Nat):Vs E N (l.take n) (l'.take n):=by
 induction n generalizing l l' with
 |zero=>simp;exact .nil
 |succ n ih=>
  cases h with
  |nil=>simp;exact .nil
  |cons a h=>simpa using .cons a (ih h)
theorem Vs.get{l l'}(h:Vs E N l l'){i:Nat}{a}(e:l[i]? =some a): ∃ c,l'[i]? =some c/\V E N a c:=by
 induction l generalizing l' i with
 |nil=>simp at e
 |cons b l ih=>
  cases h with
  |cons hb h=>
   cases i with
   |zero=>simp at e;subst e;exact⟨_,by simp,hb⟩
   |succ i=>simpa using ih h (by simpa using e)
theorem leafV_cell1{c:AV}(h:leafV c=true):cell1 c=true:=by cases c<;>first|rfl|cases h
theorem cell1_cells{c:AV}(h:cell1 c=true):c.cells=[c]:=by cases c<;>first|rfl|cases h
theorem V.one{a c}(h:V E N a c)(e:one1 a=true):cell1 c=true:=by
 cases h with
 |a h=>exact leafV_cell1 h
 |c h _=>exact EV.cell1 _ _ _ h _ (by simp)
 |ag h=>cases e
 |tu h=>cases e
 |os _ h=>rcases h with⟨h,_⟩|⟨_,_,h⟩
          ·exact emptyV_cell1 h
          ·rw[h];rfl
 |se _ h _ _=>exact emptyV_cell1 h
 | _=>rfl
theorem V.cells{a c}(h:V E N a c):Vs E N a.cells c.cells:=by
 by_cases e:one1 a=true
 ·rw[cell1_cells (h.one e)]
  have:a.cells=[a]:=by cases a<;>first|rfl|cases e
  rw[this];exact .cons h .nil
 ·cases h with
  |ag h=>exact h
  |tu h=>exact .cons (.tu h) .nil
  | _=>exact(e rfl).elim
theorem Vs.ones{l l'}(h:Vs E N l l')(e: ∀ a,a∈l->one1 a=true): ∀ a,a∈l'->cell1 a=true:=by
 induction l generalizing l' with
 |nil=>cases h;intro a ha;simp at ha
 |cons b l ih=>
  cases h with
  |cons hb h=>
   intro a ha
   rcases List.mem_cons.1 ha with k|k
   ·subst k;exact hb.one (e _ List.mem_cons_self)
   ·exact ih h (fun a ha=>e a (List.mem_cons_of_mem _ ha)) a k
theorem beq_true{a b:Nat}(h:Nat.beq a b=true):a=b:=Nat.eq_of_beq_eq_true h
theorem condS{α:Type}{b:Bool}{x:Option α}{y:α}(h:(bif b then x else none)=some y):b=true/\x=some y:=by cases b<;>simp_all
theorem segS_some{l:List Sv}{off n:Nat}{r:List Sv}(h:segS l off n=some r):r=(l.drop off).take n/\r.length=n:=by
 change (bif Nat.beq (len (tk n (dp off l))) n then some (tk n (dp off l))else none)=some r at h
 rw[tk_eq,dp_eq,len_eq]at h
 cases hb:Nat.beq (List.take n (List.drop off l)).length n with
 |false=>rw[hb]at h;cases h
 |true=>rw[hb]at h;cases h;exact⟨rfl,beq_true hb⟩
theorem segment_of{l:List AV}{off n:Nat}(h:((l.drop off).take n).length=n):segment l off n=some ((l.drop off).take n):=by
 change (bif Nat.beq (len (tk n (dp off l))) n then some (tk n (dp off l))else none)=_
 rw[tk_eq,dp_eq,len_eq,h,Nat.beq_refl]
 rfl
theorem part1_ok{agg:Bool}{l:List Sv}{l':List AV}{off n:Nat}{r:Sv}(h:Vs E N l l')(e:part1 agg l off n=some r): ∃ c,part agg l' off n=some c/\V E N r c:=by
 unfold part1 at e
 split at e
 ·cases e
 ·rename_i s hs
  obtain⟨rfl,hl⟩:=segS_some hs
  have hv:=(h.drop off).take n
  have hsg:=segment_of (l:=l') (off:=off) (n:=n) (by rw[<-hv.length,hl])
  unfold part
  rw[hsg]
  cases agg with
  |true=>cases e;exact⟨_,rfl,.ag hv⟩
  |false=>
   simp only[cond_false]at e ⊢
   generalize (List.take n (List.drop off l))=s at e hv
   generalize (List.take n (List.drop off l'))=s' at hv ⊢
   split at e
   ·cases e
    cases hv with
    |cons a b=>cases b;exact⟨_,rfl,a⟩
   ·cases e
theorem seg_of{r:Rw}{off k:Nat}(h:off+k<=r.toL.length):r.seg off k=some ((r.toL.drop off).take k):=by
 rw[toL_len]at h
 have hs:r.seg off k=some (r.cells k off):=by unfold Rw.seg;rw[show Nat.ble (Nat.add off k) r.n=true from(by rw[Nat.ble_eq];exact h)];rfl
 rw[hs,(seg_some hs).1]
theorem seg_iff{r:Rw}{off k:Nat}{l:List AV}:r.seg off k=some l↔off+k<=r.n/\l=(r.toL.drop off).take k:=by
 constructor
 ·intro h
  have h1:=seg_some h
  unfold Rw.seg at h
  obtain⟨hb,_⟩:=condS h
  exact⟨by have:=Nat.le_of_ble_eq_true hb;exact this,h1.1⟩
 ·rintro⟨h,rfl⟩;exact seg_of (by rw[toL_len];exact h)
theorem partR_of{agg:Bool}{r:Rw}{off n:Nat}{c:AV}(hn:0<n)(h:part agg r.toL off n=some c):partR agg r off n=some c:=by
 unfold part at h
 split at h
 ·cases h
 ·rename_i s hs
  obtain⟨rfl,hl⟩:=segment_some hs
  unfold partR
  rw[seg_of (by rw[List.length_take,List.length_drop]at hl;omega)];exact h
theorem cellsT_ok{G:Nat->Option Rw}(hg:E.G=G): ∀ (t:Ty) (x:den t) (cs:List AV),EV G t x cs->Vs E N (cellsT t x) cs
 | .int _,_,_,e=>by have e':_=_:=e;subst e';exact .cons (.c (by rw[hg];exact e) (fun h=>(h rfl).elim)) .nil
 | .bool,_,_,e=>by have e':_=_:=e;subst e';exact .cons (.c (by rw[hg];exact e) (fun h=>(h rfl).elim)) .nil
 | .str,_,_,e=>by have e':_=_:=e;subst e';exact .cons (.c (by rw[hg];exact e) (fun h=>(h rfl).elim)) .nil
 | .sli t,_,_,⟨a,e,k⟩=>by subst e;exact .cons (.c (by rw[hg];exact⟨a,rfl,k⟩) (fun h=>(h rfl).elim)) .nil
 | .pair a b,x,_,⟨c,d,e,k1,k2⟩=>by
  subst e
  show Vs E N (app (cellsT a x.1) (cellsT b x.2)) _
  rw[app_eq]
  exact(cellsT_ok hg a _ _ k1).app (cellsT_ok hg b _ _ k2)
end
def Row.live:Row->Bool
 | .o _ _| .l _ _=>true
 | _=>false
def own(H:Hq)(r:Nat):Prop:= ∃ R,H.objs.get r=some R/\R.live=true
def ido:AV->Option Nat
 | .ref id _=>some id
 | .hsl id _ _ _=>some id
 | _=>none
theorem ido_empty{a:AV}(h:emptyV a=true):ido a=none:=by cases a<;>first|rfl|cases h
def LR(G:Nat->Option Rw)(t:Ty)(x:List (den t))(k:Kr)(S:Nat->Option Rw):Prop:=
 x.length=k.n/\((emptyV k.av=true/\x=[])∨ ∃ id base row ls,k.av=.hsl id base k.n (size t)/\S id=some row/\row.seg base (k.n*size t)=some ls/\Els (EV G t) x ls)
def RV(E:En)(N:Nat)(h:Hp)(k:Kr):Row->Prop
 | .o g l=> ∃ id row,k.av=.ref id 0/\h.objs.get id=some row/\Vs E N l row.toL/\(g≠0->k.av=E.A g)
 | .zo l=> ∃ id row,k.av=.ref id 0/\E.G id=some row/\Vs E N l row.toL
 | .l t x=>LR E.G t x k h.objs.get
 | .z t x=>LR E.G t x k E.G
structure SR(E:En)(H:Hq)(h:Hp):Prop where
 row: ∀ r R,H.objs.get r=some R->r<H.next/\RV E H.next h (E.K r) R
 inj: ∀ r r' id,own H r->own H r'->ido (E.K r).av=some id->ido (E.K r').av=some id->r=r'
 lt: ∀ r id,own H r->ido (E.K r).av=some id->id<h.next
 g: ∀ id row,E.G id=some row->id<h.next/\h.objs.get id=some row/\ ∀ r,own H r->ido (E.K r).av≠some id
def TV(E:En)(N:Nat)(T:Tq)(t:Tm):Prop:= ∀ i v,i<512->T.at i=some v-> ∃ a,t.at i=some a/\V E N v a
structure Nx(E E':En)(H H':Hq)(h h':Hp):Prop where
 e:ELe E E' H.next
 le:H.next<=H'.next
 le':h.next<=h'.next
 ow: ∀ r id,own H' r->ido (E'.K r).av=some id->(∃ r0,own H r0/\ido (E.K r0).av=some id)∨h.next<=id
 gw: ∀ id row,E'.G id=some row->E.G id=some row∨(∃ r0,own H r0/\ido (E.K r0).av=some id)∨h.next<=id
 fr: ∀ id,id<h.next->(∀ r,own H r->ido (E.K r).av≠some id)->h'.objs.get id=h.objs.get id
theorem Nx.refl(E:En)(H:Hq)(h:Hp):Nx E E H H h h:=
 ⟨ELe.refl _ _,Nat.le_refl _,Nat.le_refl _,fun r _ a b=>.inl ⟨r,a,b⟩,fun _ _ a=>.inl a,fun _ _ _=>rfl⟩
theorem ELe.trans{E E1 E2:En}{N N1:Nat}(a:ELe E E1 N)(b:ELe E1 E2 N1)(h:N<=N1):ELe E E2 N where
 K r hr:=(b.K r (Nat.lt_of_lt_of_le hr h)).trans (a.K r hr)
 tk r hr:=(b.tk r (Nat.lt_of_lt_of_le hr h)).trans (a.tk r hr)
 G id row e:=b.G id row (a.G id row e)
 A:=b.A.trans a.A
theorem Nx.trans{E E1 E2:En}{H H1 H2:Hq}{h h1 h2:Hp}(a:Nx E E1 H H1 h h1)(b:Nx E1 E2 H1 H2 h1 h2):Nx E E2 H H2 h h2 where
 e:=a.e.trans b.e a.le
 le:=Nat.le_trans a.le b.le
 le':=Nat.le_trans a.le' b.le'
 ow r id k e:=by
  rcases b.ow r id k e with⟨r0,k0,e0⟩|k0
  ·exact a.ow r0 id k0 e0
  ·exact .inr (Nat.le_trans a.le' k0)
 gw id row e:=by
  rcases b.gw id row e with k|⟨r0,k0,e0⟩|k
  ·exact a.gw id row k
  ·rcases a.ow r0 id k0 e0 with k|k
   ·exact .inr (.inl k)
   ·exact .inr (.inr k)
  ·exact .inr (.inr (Nat.le_trans a.le' k))
 fr id hi hn:=by
  rw[b.fr id (Nat.lt_of_lt_of_le hi a.le') fun r k e=>?_,a.fr id hi hn]
  rcases a.ow r id k e with⟨r0,k0,e0⟩|k0
  ·exact hn r0 k0 e0
  ·omega
theorem TV.mono{E E':En}{N N':Nat}{T:Tq}{t:Tm}(h:TV E N T t)(e:ELe E E' N)(hN:N<=N'):TV E' N' T t:=fun i v hi hv=>by
 obtain⟨a,h1,h2⟩:=h i v hi hv
 exact⟨a,h1,h2.mono e hN⟩
theorem Tq.at_put(t:Tq)(i j:Nat)(x:Option Sv)(hi:i<512)(hj:j<512):(t.put i x).at j=if j=i then x else t.at j:=by
 unfold Tq.at Tq.put
 rw[F8.sel_upd _ _ _ _ (by omega) (by omega)]
 by_cases h1:j / 64=i / 64
 ·rw[if_pos h1,F8.sel_upd _ _ _ _ (by omega) (by omega)]
  by_cases h2:j / 8 % 8=i / 8 % 8
  ·rw[if_pos h2,F8.sel_upd _ _ _ _ (by omega) (by omega)]
   by_cases h3:j % 8=i % 8
   ·rw[if_pos h3,if_pos (by omega)]
   ·rw[if_neg h3,if_neg (by omega),h1,h2]
  ·rw[if_neg h2,if_neg (by omega),h1]
 ·rw[if_neg h1,if_neg (by omega)]
section
variable {α β:Type}
theorem T.val_ok(a:α):(T.ok a).val=some a:=rfl
theorem T.val_br(c:Bool)(a b:T α):(T.br c a b).val=bif c then a.val else b.val:=rfl
theorem T.val_ck(c:Bool)(a:T α):(T.ck c a).val=bif c then a.val else none:=rfl
theorem T.val_bd(x:T α)(f:α->T β):(x.bd f).val=x.val.bind fun a=>(f a).val:=by
 induction x with
 |bad=>rfl
 |ok a=>rfl
 |br c a b iha ihb=>
  show(bif c then(a.bd f).val else(b.bd f).val)=(bif c then a.val else b.val).bind _
  cases c<;>simp[iha,ihb]
 |ck c a ih=>
  show(bif c then(a.bd f).val else none)=(bif c then a.val else none).bind _
  cases c<;>simp[ih]
theorem T.bd_some{x:T α}{f:α->T β}{b:β}(h:(x.bd f).val=some b): ∃ a,x.val=some a/\(f a).val=some b:=by
 rw[T.val_bd]at h
 cases e:x.val with
 |none=>rw[e]at h;cases h
 |some a=>rw[e]at h;exact⟨a,rfl,h⟩
theorem T.ck_some{c:Bool}{x:T α}{b:α}(h:(T.ck c x).val=some b):c=true/\x.val=some b:=by
 rw[T.val_ck]at h;exact condS h
theorem ckL_some{c:LB}{x:T α}{b:α}(h:(ckL c x).val=some b):c.v=true/\x.val=some b:=by
 cases c with
 |l c=>cases c with
  |true=>exact⟨rfl,h⟩
  |false=>cases h
 |t c=>exact T.ck_some h
end
def Ev{α:Type}(p:Nat->Nat->α)(r:α):Prop:= ∃ M,∀ n d,M<=n->M<=d->p n d=r
theorem Ev.const{α:Type}{x r:α}(h:x=r):Ev (fun _ _=>x) r:=⟨0,fun _ _ _ _=>h⟩
abbrev CallN:=Nat->Nat->CallF
abbrev OpN:=Nat->Nat->OpF
def SimF(f:SOpF)(g:OpN):Prop:= ∀ (E:En) (T:Tq) (t:Tm) (H:Hq) (h:Hp) (v:Sv) (T':Tq) (H':Hq),TV E H.next T t->SR E H h->(f T H).val=some (v,T',H')->
 ∃ c h' E',Ev (fun n d=>g n d t h) (.ok c h')/\Nx E E' H H' h h'/\SR E' H' h'/\V E' H'.next v c/\TV E' H'.next T' t
theorem sim_same{f:SOpF}{g:OpF}(k: ∀ (E:En) (T:Tq) (t:Tm) (H:Hq) (h:Hp) (v:Sv) (T':Tq) (H':Hq),TV E H.next T t->SR E H h->(f T H).val=some (v,T',H')->H'=H/\T'=T/\ ∃ c,g t h=.ok c h/\V E H.next v c):SimF f (fun _ _=>g):=by
 intro E T t H h v T' H' hT hH e
 obtain⟨rfl,rfl,c,e1,hv⟩:=k E T t H h v T' H' hT hH e
 exact⟨c,h,E,Ev.const e1,Nx.refl _ _ _,hH,hv,hT⟩
theorem sim_bad{g:OpN}:SimF (fun _ _=>.bad) g:=by intro E T t H h v T' H' _ _ e;cases e
end Lf
end Go.Ab
