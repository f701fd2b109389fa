import Derived.Test.YtcnkojgmochcgaaGreatDoorAb23
noncomputable section
namespace Go.Ab
namespace Lf
inductive Ty where
 |int (k:IntKind)|bool|str|aB (t:Ty)|pair (a b:Ty)
@[reducible] noncomputable def den(t:Ty):Type:=Ty.rec (fun _=>Int) Bool ByteArray (fun _ ih=>List ih) (fun _ _ a b=>a×b) t
def bJ(t:Ty):den t:=Ty.rec (motive:=den) (fun _=>(0:Int)) false ByteArray.empty (fun _ _=>[]) (fun _ _ a b=>(a,b)) t
def size(t:Ty):Nat:=Ty.rec (motive:=fun _=>Nat) (fun _=>1) 1 1 (fun _ _=>1) (fun _ _ a b=>Nat.add a b) t
def nM:(a b:Ty)->Option (PLift (a=b))
 | .int k,.int k'=>if h:k=k' then some ⟨by rw[h]⟩else none
 | .bool,.bool=>some ⟨rfl⟩
 | .str,.str=>some ⟨rfl⟩
 | .aB a,.aB b=>match nM a b with
  |some ⟨h⟩=>some ⟨by rw[h]⟩
  |none=>none
 | .pair a b,.pair c d=>match nM a c with
  |some ⟨h⟩=>match nM b d with
   |some ⟨k⟩=>some ⟨by rw[h,k]⟩
   |none=>none
  |none=>none
 | _,_=>none
inductive Sv where
 |i (k:IntKind) (n:Int)
 |b (b:Bool)
 |a (v:AV)
 |c (m:Nat) (t:Ty) (x:den t)
 |ag (l:List Sv)
 |tu (l:List Sv)
 |fn (f:FuncId) (l:List Sv)
 |rf (r o:Nat)
 |re (r sz i o:Nat)
 |os (r sz:Nat)
 |ss (r sz off n:Nat)
 |xo (r sz off n:Nat)
 |zp (l:List Sv)
inductive Row where
 |o (g:Nat) (l:List Sv)
 |l (t:Ty) (x:List (den t))
 |zo (l:List Sv)
 |z (t:Ty) (x:List (den t))
structure Hq where
 next:Nat
 aN:Tr Row
abbrev Tq:=F8 (F8 (F8 (Option Sv)))
def Tq.at(t:Tq)(i:Nat):Option Sv:=((t.xq (i / 64)).xq (i / 8 % 8)).xq (i % 8)
def Tq.put(t:Tq)(i:Nat)(v:Option Sv):Tq:=t.xr ((t.xq (i / 64)).xr (((t.xq (i / 64)).xq (i / 8 % 8)).xr v (i % 8)) (i / 8 % 8)) (i / 64)
def Tq.none:Tq:=F8.all (F8.all (F8.all Option.none))
inductive T (α:Type) where
 |bad
 |ok (a:α)
 |br (c:Bool) (a b:T α)
 |ck (c:Bool) (a:T α)
def T.val{α:Type}(x:T α):Option α:=T.rec (motive:=fun _=>Option α) none (fun a=>some a) (fun c _ _ a b=>bif c then a else b) (fun c _ a=>bif c then a else none) x
def T.bd{α β:Type}(x:T α)(f:α->T β):T β:=T.rec (motive:=fun _=>T β) .bad (fun a=>f a) (fun c _ _ a b=>.br c a b) (fun c _ a=>.ck c a) x
def T.of{α:Type}:Option α->T α
 |some a=>.ok a
 |none=>.bad
inductive LB where
 |l (b:Bool)
 |t (b:Bool)
def LB.v:LB->Bool
 | .l b=>b
 | .t b=>b
def LB.and:LB->LB->LB
 | .l true,y=>y
 | .l false,_=>.l false
 | .t _,.l false=>.l false
 | .t a,.l true=>.t a
 | .t a,.t b=>.t (a&&b)
def Yq{α:Type}(c:LB)(x:T α):T α:=match c with
 | .l true=>x
 | .l false=>.bad
 | .t b=>.ck b x
def svB:LB->Sv
 | .l b=>.b b
 | .t b=>.c 0 .bool b
def Sv.cells:Sv->List Sv
 | .ag l=>l
 |w=>[w]
def vV:Sv->Bool
 | .ag _| .tu _=>false
 | _=>true
def LD:AV->Bool
 | .sc _| .cS| .iQ| .any=>true
 | _=>false
def RZ:AV->Option Sv
 | .int k n=>some (.i k n)
 | .bool b=>some (.b b)
 | .sc v=>some (.a (.sc v))
 | .cS=>some (.a .cS)
 | .iQ=>some (.a .iQ)
 | .mD []=>some (.tu [])
 | .fn f []=>some (.fn f [])
 | _=>none
def BK(l:List AV):Option (List Sv):=List.rec (some []) (fun a _ ih=>match RZ a with
 |some b=>match ih with
  |some r=>some (b::r)
  |none=>none
 |none=>none) l
def fO(o:Od)(t:Tq):Option Sv:=match o with
 | .t i=>bif Nat.blt i 512 then t.at i else none
 | .c v=>RZ v
 | _=>none
def QJ(o:Od)(t:Tq):Option Sv:=match o with
 | .w o=>fO o t
 | _=>none
def D6(l:List Od)(t:Tq):Option (List Sv):=List.rec (some []) (fun o _ ih=>match fO o t with
 |some v=>match ih with
  |some vs=>some (v::vs)
  |none=>none
 |none=>none) l
def toN:Sv->Option (IntKind×Int)
 | .i k n=>some (k,n)
 | .c _ (.int k) x=>some (k,x)
 | _=>none
def toB:Sv->Option LB
 | .b b=>some (.l b)
 | .c _ .bool x=>some (.t x)
 | _=>none
def toS:Sv->Option (Bool×ByteArray)
 | .a (.sc (.string s))=>some (true,s)
 | .c _ .str x=>some (false,x)
 | _=>none
def bV(k:IntKind)(a b:Int):Int:=cI k (a+b)
def aW(k:IntKind)(a b:Int):Int:=cI k (a - b)
def Zz(k:IntKind)(a b:Int):Int:=cI k (a*b)
def ZA(k:IntKind)(a b:Int):Int:=cI k (Int.tdiv a b)
def ou(_k:IntKind)(a b:Int):Int:=Int.tmod a b
def intOf:Option AV->Int
 |some (.int _ n)=>n
 | _=>0
def NR(k:IntKind)(a b:Int):Int:=intOf (A1 (.int k a) (.int k b))
def orW(k:IntKind)(a b:Int):Int:=intOf (Qu (.int k a) (.int k b))
def ZB(k:IntKind)(a b:Int):Int:=intOf (A2 (.int k a) (.int k b))
def II(k:IntKind)(a b:Int):Int:=intOf (jy (.int k a) (.int k b))
def R2(k:IntKind)(a b:Int):Int:=intOf (sX (.int k a) (.int .u64 b))
def R4(k:IntKind)(a b:Int):Int:=intOf (sY (.int k a) (.int .u64 b))
def R5(k:IntKind)(a:Int):Int:=cI k (0 - a)
def R6(k:IntKind)(a:Int):Int:=intOf (A5 (.int k a))
def dB(k:IntKind)(a:Int):Int:=cI k a
inductive Cls where
 |ar (f:IntKind->Int->Int->Int)
 |dv (f:IntKind->Int->Int->Int)
 |sh (f:IntKind->Int->Int->Int)
 |cm (f:Int->Int->Bool)
 |no
def D7:BF->Cls
 | .add=>.ar bV| .sub=>.ar aW| .mul=>.ar Zz| .and=>.ar NR| .or=>.ar orW| .xor=>.ar ZB| .andNot=>.ar II
 | .quo=>.dv ZA| .rem=>.dv ou| .shl=>.sh R2| .shr=>.sh R4
 | .lss=>.cm fun a b=>decide (a<b)| .leq=>.cm fun a b=>decide (a<=b)| .gtr=>.cm fun a b=>decide (b<a)| .geq=>.cm fun a b=>decide (b<=a)
 | .eqI neg=>.cm (match neg with|false=>fun a b=>decide (a=b)|true=>fun a b=> !decide (a=b))
 | _=>.no
def D8:Sv->Bool
 | .i _ _=>true
 | _=>false
def IJ(i:Bool)(x y:Sv):Option LB:=match i with
 |true=>match x,y with
  | .i k a,.i k' b=>bif eM k k' then some (.l (eqI a b))else none
  |x,y=>match toN x,toN y with
   |some (k,a),some (k',b)=>bif eM k k' then some (.t (decide (a=b)))else none
   | _,_=>none
 |false=>match toB x,toB y with
  |some (.l a),some (.l b)=>some (.l (!(xor a b)))
  |some a,some b=>some (.t (!(xor a.v b.v)))
  | _,_=>none
def NS(l:List Bool):List Sv->List Sv->Option LB:=
 List.rec (fun _ _=>some (.l true)) (fun i _ ih xs ys=>match xs,ys with
  |x::xs,y::ys=>match IJ i x y with
   |some c=>match ih xs ys with
    |some d=>some (c.and d)
    |none=>none
   |none=>none
  | _,_=>none) l
def NT(neg:Bool)(c:LB):LB:=match neg,c with
 |false,c=>c
 |true,.l b=>.l (!b)
 |true,.t b=>.t (!b)
def D9:Sv->Bool
 | .rf _ _| .re _ _ _ _| .zp _=>true
 | _=>false
def NU(f:BF)(x y:Sv):T Sv:=match x,y with
 | .i k a,.i k' b=>(match f.f (.int k a) (.int k' b)with
  |some (.int k r)=>.ok (.i k r)
  |some (.bool r)=>.ok (.b r)
  | _=>.bad)
 |x,y=>match toN x,toN y with
  |some (k,a),some (k',b)=>(match D7 f with
   | .ar g=>bif eM k k' then .ok (.c 0 (.int k) (g k a b))else .bad
   | .dv g=>bif eM k k' then(bif D8 y then(bif eqI b 0 then .bad else .ok (.c 0 (.int k) (g k a b)))else .ck (!decide (b=0)) (.ok (.c 0 (.int k) (g k a b))))else .bad
   | .sh g=>(bif D8 y then(bif ez b 0 then .bad else .ok (.c 0 (.int k) (g k a b)))else .ck (decide (0<=b)) (.ok (.c 0 (.int k) (g k a b))))
   | .cm g=>bif eM k k' then .ok (.c 0 .bool (g a b))else .bad
   | .no=>.bad)
  | _,_=>.bad
def NV(f:BF)(x y:Sv):T Sv:=match f with
 | .Li neg=>match toB x,toB y with
  |some (.l a),some (.l b)=>.ok (.b (bif neg then xor a b else !(xor a b)))
  |some a,some b=>.ok (.c 0 .bool (match neg with|true=>xor a.v b.v|false=> !(xor a.v b.v)))
  | _,_=>.bad
 | .GD neg=>match toS x,toS y with
  |some (true,a),some (true,b)=>.ok (.b (bif neg then !(eqStr a b)else eqStr a b))
  |some (_,a),some (_,b)=>.ok (.c 0 .bool (match neg with|true=> !(eqStr a b)|false=>eqStr a b))
  | _,_=>.bad
 | .Yo neg=>match x,y with
  | .a (.sc (.pointer none)),.a (.sc (.pointer none))=>.ok (.b (!neg))
  | .a (.sc (.pointer none)),y=>bif D9 y then .ok (.b neg)else .bad
  |x,.a (.sc (.pointer none))=>bif D9 x then .ok (.b neg)else .bad
  | _,_=>.bad
 | .Yp neg=>match x,y with
  | .a v,.a w=>bif isNil w then(match sU v with
   |some b=>.ok (.b (bif neg then !b else b))
   |none=>.bad)else .bad
  | .xo _ _ _ _,.a w=>bif isNil w then .ok (.b neg)else .bad
  | .c _ (.aB _) x,.a w=>bif isNil w then .ck (!(Nat.beq x.length 0)) (.ok (.b neg))else .bad
  | _,_=>.bad
 | .iG neg l=>match x,y with
  | .ag xs,.ag ys=>match NS l xs ys with
   |some c=>.ok (svB (NT neg c))
   |none=>.bad
  | _,_=>.bad
 |f=>NU f x y
def NW(f:UF)(x:Sv):Option Sv:=match f with
 | .not=>match toB x with
  |some (.l b)=>some (.b (!b))
  |some (.t b)=>some (.c 0 .bool (!b))
  |none=>none
 | .neg=>match x with
  | .i k n=>some (.i k (R5 k n))
  | .c _ (.int k) n=>some (.c 0 (.int k) (R5 k n))
  | _=>none
 | .xor=>match x with
  | .i k n=>some (.i k (R6 k n))
  | .c _ (.int k) n=>some (.c 0 (.int k) (R6 k n))
  | _=>none
 | .int k=>match x with
  | .i _ n=>some (.i k (dB k n))
  | .c _ (.int _) n=>some (.c 0 (.int k) (dB k n))
  | _=>none
def iV(t:Ty):den t->List Sv:=
 Ty.rec (motive:=fun t=>den t->List Sv) (fun k x=>[.c 0 (.int k) x]) (fun x=>[.c 0 .bool x]) (fun x=>[.c 0 .str x]) (fun t _ x=>[.c 0 (.aB t) x]) (fun _ _ ma pV x=>app (ma x.1) (pV x.2)) t
def R7(l:List Sv)(off n:Nat):Option (List Sv):=match tk n (dp off l)with
 |r=>bif Nat.beq (len r) n then some r else none
def qG(agg:Bool)(l:List Sv)(off sz:Nat):Option Sv:=match R7 l off sz with
 |none=>none
 |some r=>bif agg then some (.ag r)else match r with
  | [c]=>some c
  | _=>none
def vW(l:List Sv)(off:Nat)(new:List Sv):List Sv:=app (tk off l) (app new (dp (Nat.add off (len new)) l))
def tU(l:List (Nat×Nat×Sv)):List Sv->Option (List Sv):=
 List.rec (fun cells=>some cells) (fun p _ ih cells=>
  bif Nat.beq (len p.2.2.cells) p.2.1&&Nat.ble (Nat.add p.1 p.2.1) (len cells)then ih (vW cells p.1 p.2.2.cells)else none) l
def tV(l:List (Nat×Nat×Od))(t:Tq):Option (List (Nat×Nat×Sv)):=
 List.rec (some []) (fun p _ ih=>match fO p.2.2 t with
  |some v=>match ih with
   |some vs=>some ((p.1,p.2.1,v)::vs)
   |none=>none
  |none=>none) l
def tW(l:List (Nat×Od))(t:Tq):Option (List (Nat×Sv)):=
 List.rec (some []) (fun p _ ih=>match fO p.2 t with
  |some v=>match ih with
   |some vs=>some ((p.1,v)::vs)
   |none=>none
  |none=>none) l
def qH(size:Nat)(l:List (Nat×Sv)):Nat->Option (List Sv):=
 List.rec (fun _=>some []) (fun p _ ih i=>
  bif Nat.beq p.1 i&&Nat.beq (len p.2.cells) size then(match ih (Nat.add i 1)with|some r=>some (app p.2.cells r)|none=>none)else none) l
def NX(n:Nat)(z:List Sv):List Sv:=Nat.rec [] (fun _ ih=>app z ih) n
def tX(size:Nat)(l:List (Nat×Sv)):List (Nat×Nat×Sv):=List.rec [] (fun p _ ih=>(Nat.mul p.1 size,size,p.2)::ih) l
def vX(n size:Nat)(zero:List Sv)(l:List (Nat×Sv)):Option (List Sv):=
 match bif Nat.beq (len l) n then qH size l 0 else none with
 |some cs=>some cs
 |none=>tU (tX size l) (NX n zero)
def cA(h:Hq)(r:Row):Hq:=⟨Nat.add h.next 1,h.aN.set h.next (some r)⟩
def fc(h:Hq)(id:Nat)(r:Option Row):Hq:=⟨h.next,h.aN.set id r⟩
def ZC(t:Ty)(f:List Sv->Hq->Option (den t×List Sv×Hq))(n:Nat):List Sv->Hq->Option (List (den t)×Hq):=
 Nat.rec (fun _ h=>some ([],h)) (fun _ ih l h=>match f l h with
  |some (x,r,h)=>match ih r h with
   |some (xs,h)=>some (x::xs,h)
   |none=>none
  |none=>none) n
def LF(t:Ty)(f:List Sv->Hq->Option (den t×List Sv×Hq))(n off:Nat)(l:List Sv)(h:Hq):Option (List (den t)×Hq):=bif Nat.ble off (len l)then ZC t f n (dp off l) h else none
def cu:AV->Bool
 | .cS=>true
 |a=>l8 a
def Yr(t:Ty)(f:List Sv->Hq->Option (den t×List Sv×Hq))(v:Sv)(h:Hq):Option (List (den t)×Hq):=match v with
 | .a w=>bif cu w then some ([],h)else none
 | .c _ (.aB t') x=>match nM t' t with
  |some ⟨e⟩=>some (e▸x,h)
  |none=>none
 | .os r _=>match h.aN.get r with
  |some (.l t' x)=>(match nM t' t with
   |some ⟨e⟩=>some (e▸x,fc h r (some (.z t' x)))
   |none=>none)
  |some (.z t' x)=>(match nM t' t with
   |some ⟨e⟩=>some (e▸x,h)
   |none=>none)
  | _=>none
 | .ss r _ off n=>match h.aN.get r with
  |some (.l t' x)=>(match nM t' t with
   |some ⟨e⟩=>some (((e▸x:List (den t)).drop off).take n,fc h r (some (.z t' x)))
   |none=>none)
  |some (.z t' x)=>(match nM t' t with
   |some ⟨e⟩=>some (((e▸x:List (den t)).drop off).take n,h)
   |none=>none)
  | _=>none
 | .xo r sz off n=>bif Nat.beq sz (size t)then(match h.aN.get r with
  |some (.o _ l)=>LF t f n off l (fc h r (some (.zo l)))
  |some (.zo l)=>LF t f n off l h
  | _=>none)else none
 | _=>none
def LG(t:Ty):List Sv->Hq->Option (den t×List Sv×Hq):=
 Ty.rec (motive:=fun t=>List Sv->Hq->Option (den t×List Sv×Hq))
  (fun k l h=>match l with
   |v::r=>match toN v with
    |some (k',n)=>bif eM k k' then some (n,r,h)else none
    |none=>none
   | []=>none)
  (fun l h=>match l with
   |v::r=>match toB v with
    |some b=>some (b.v,r,h)
    |none=>none
   | []=>none)
  (fun l h=>match l with
   |v::r=>match toS v with
    |some (_,s)=>some (s,r,h)
    |none=>none
   | []=>none)
  (fun t ih l h=>match l with
   |v::r=>match Yr t ih v h with
    |some (x,h)=>some (x,r,h)
    |none=>none
   | []=>none)
  (fun _ _ ma pV l h=>match ma l h with
   |some (x,r,h)=>match pV r h with
    |some (y,r,h)=>some ((x,y),r,h)
    |none=>none
   |none=>none) t
def NY(t:Ty)(v:Sv)(h:Hq):Option (List (den t)×Hq):=Yr t (LG t) v h
def R8(v:Sv)(h:Hq):Option Ty:=match v with
 | .c _ (.aB t) _=>some t
 | .os r _=>match h.aN.get r with
  |some (.l t _)=>some t
  |some (.z t _)=>some t
  | _=>none
 | .ss r _ _ _=>match h.aN.get r with
  |some (.l t _)=>some t
  |some (.z t _)=>some t
  | _=>none
 | _=>none
def NZ(v:Sv)(h:Hq):Option Sv:=match v with
 | .a w=>bif cu w then some (.i .i64 0)else none
 | .c _ (.aB _) x=>some (.c 0 (.int .i64) (Int.ofNat x.length))
 | .os r _=>match h.aN.get r with
  |some (.l _ x)=>some (.c 0 (.int .i64) (Int.ofNat x.length))
  |some (.z _ x)=>some (.c 0 (.int .i64) (Int.ofNat x.length))
  | _=>none
 | .ss _ _ _ n=>some (.c 0 (.int .i64) (Int.ofNat n))
 | .xo _ _ _ n=>some (.i .i64 (.ofNat n))
 | _=>none
end Lf
end Go.Ab

noncomputable section
namespace Go.Ab
namespace Lf
abbrev QK:=T (Sv×Tq×Hq)
abbrev dq:=Tq->Hq->QK
abbrev dV:=FuncId->List Sv->Hq->T (Sv×Hq)
def okV(v:Sv)(t:Tq)(h:Hq):QK:=.ok (v,t,h)
def okO(v:Option Sv)(t:Tq)(h:Hq):QK:=match v with
 |some v=>.ok (v,t,h)
 |none=>.bad
def kP:Sv:=.tu []
def qI(x:Od):dq:=fun t h=>okO (fO x t) t h
def mm{α:Type}(j:Od)(t:Tq)(a b:Tq->T α):T α:=match j with
 | .t i=>bif Nat.blt i 512 then(match t.at i with
  |some (.b c)=>bif c then a t else b t
  |some (.c _ .bool x)=>.br x (a (t.put i (some (.b true)))) (b (t.put i (some (.b false))))
  | _=>.bad)else .bad
 | .c (.bool c)=>bif c then a t else b t
 | _=>.bad
def LH(c a b:Od):dq:=fun t h=>mm c t (fun t=>qI a t h) (fun t=>qI b t h)
def N2(cs:List AV):dq:=fun t h=>match BK cs with|some l=>okV (.rf h.next 0) t (cA h (.o 0 l))|none=>.bad
def N3(a:Od):dq:=fun t h=>match fO a t with|some v=>okV (.rf h.next 0) t (cA h (.o 0 v.cells))|none=>.bad
def yj(z:List AV)(ps:List (Nat×Nat×Od)):dq:=fun t h=>match BK z with
 |some z=>match tV ps t with
  |some vs=>match tU vs z with
   |some cs=>okV (.ag cs) t h
   |none=>.bad
  |none=>.bad
 |none=>.bad
def N4(n sz:Nat)(z:List AV)(ps:List (Nat×Od)):dq:=fun t h=>match tW ps t with
 |some vs=>bif Nat.beq n 0 then(match vs with| []=>okV (.a .iQ) t h| _=>.bad)else(match BK z with
  |some z=>match vX n sz z vs with
   |some cs=>bif dK vV cs&&(Nat.blt 0 sz&&Nat.beq (len cs) (Nat.mul n sz))then okV (.xo h.next sz 0 n) t (cA h (.o 0 cs))else .bad
   |none=>.bad
  |none=>.bad)
 |none=>.bad
def Ea(h:Hq)(r sz i:Nat):Option (List Sv):=match h.aN.get r with
 |some (.l t x)=>bif Nat.beq sz (size t)then some (iV t (x.getD i (bJ t)))else none
 |some (.z t x)=>bif Nat.beq sz (size t)then some (iV t (x.getD i (bJ t)))else none
 | _=>none
def qJ(h:Hq)(r:Nat):Option (List Sv):=match h.aN.get r with
 |some (.o _ l)=>some l
 |some (.zo l)=>some l
 | _=>none
def sw(sz:Nat)(agg:Bool)(a:Sv)(h:Hq):Option Sv:=bif Nat.blt 0 sz then(match a with
 | .rf r o=>match qJ h r with
  |some l=>qG agg l o sz
  |none=>none
 | .re r s i o=>match Ea h r s i with
  |some l=>qG agg l o sz
  |none=>none
 | .zp l=>qG agg l 0 sz
 | _=>none)else none
def zH(sz:Nat)(agg:Bool)(a:Od):dq:=fun t h=>match fO a t with
 |some p=>okO (sw sz agg p h) t h
 |none=>.bad
def yk(sz:Nat)(a b:Od):dq:=fun t h=>match fO b t with
 |some v=>bif Nat.beq (len v.cells) sz&&dK vV v.cells then(match fO a t with
  |some (.rf r o)=>match h.aN.get r with
   |some (.o g l)=>bif Nat.ble (Nat.add o (len v.cells)) (len l)then okV kP t (fc h r (some (.o g (vW l o v.cells))))else .bad
   | _=>.bad
  |some (.re r s i o)=>match h.aN.get r with
   |some (.l ty x)=>bif Nat.beq s (size ty)&&Nat.ble (Nat.add o (len v.cells)) s then(match LG ty (vW (iV ty (x.getD i (bJ ty))) o v.cells) h with
    |some (y,[],h')=>(match h'.aN.get r with
     |some (.l _ _)=>okV kP t (fc h' r (some (.l ty (x.set i y))))
     | _=>.bad)
    | _=>.bad)else .bad
   | _=>.bad
  | _=>.bad)else .bad
 |none=>.bad
def zI(a:Od):dq:=fun t h=>match fO a t with
 |some (.rf r o)=>okV (.rf r o) t h
 |some (.re r s i o)=>okV (.re r s i o) t h
 |some (.zp c)=>okV (.zp c) t h
 |some (.fn f c)=>okV (.fn f c) t h
 | _=>.bad
def IK(f:BF)(a b:Od):dq:=fun t h=>match fO a t with
 |some x=>match fO b t with
  |some y=>(NV f x y).bd fun v=>okV v t h
  |none=>.bad
 |none=>.bad
def Ys(f:UF)(a:Od):dq:=fun t h=>match fO a t with
 |some x=>okO (NW f x) t h
 |none=>.bad
def ZD(f:FuncId)(cap:List Od):dq:=fun t h=>match D6 cap t with
 |some vs=>okV (.fn f vs) t h
 |none=>.bad
def jO(off:Nat)(a:Od):dq:=fun t h=>match fO a t with
 |some (.rf r o)=>okV (.rf r (Nat.add o off)) t h
 |some (.re r s i o)=>okV (.re r s i (Nat.add o off)) t h
 |some (.zp l)=>bif Nat.ble off (len l)then okV (.zp (dp off l)) t h else .bad
 | _=>.bad
def tY(off size:Nat)(agg:Bool)(a:Od):dq:=fun t h=>match fO a t with
 |some (.ag cs)=>okO (qG agg cs off size) t h
 | _=>.bad
def cg(i n:Int):Bool:=decide (0<=i)&&decide (i<n)
def IL(size:Nat)(a i:Od):dq:=fun t h=>match fO i t with
 |some iv=>match toN iv with
  |some (_,n)=>match fO a t with
   |some (.os r s)=>match h.aN.get r with
    |some (.l _ x)=>bif Nat.beq s size then .ck (cg n (Int.ofNat x.length)) (okV (.re r s n.toNat 0) t h)else .bad
    |some (.z _ x)=>bif Nat.beq s size then .ck (cg n (Int.ofNat x.length)) (okV (.re r s n.toNat 0) t h)else .bad
    | _=>.bad
   |some (.ss r s off m)=>bif Nat.beq s size then .ck (cg n (Int.ofNat m)) (okV (.re r s (off+n.toNat) 0) t h)else .bad
   |some (.xo r s off m)=>match iv with
    | .i _ (.ofNat k)=>bif Nat.beq s size&&Nat.blt k m then okV (.rf r (Nat.add off (Nat.mul k s))) t h else .bad
    | _=>.bad
   |some (.c _ (.aB ty) x)=>bif Nat.beq size (Lf.size ty)then .ck (cg n (Int.ofNat x.length)) (okV (.zp (iV ty (x.getD n.toNat (bJ ty)))) t h)else .bad
   | _=>.bad
  |none=>.bad
 |none=>.bad
def IM(n size:Nat)(a i:Od):dq:=fun t h=>match fO i t with
 |some (.i _ (.ofNat k))=>bif Nat.blt k n then(match fO a t with
  |some (.rf r o)=>okV (.rf r (Nat.add o (Nat.mul k size))) t h
  |some (.zp l)=>bif Nat.ble (Nat.mul k size) (len l)then okV (.zp (dp (Nat.mul k size) l)) t h else .bad
  | _=>.bad)else .bad
 | _=>.bad
def yl(k:IntKind)(l:List Sv):Option (List Int):=List.rec (some []) (fun v _ ih=>match toN v with
 |some (k',n)=>bif eM k k' then(match ih with
  |some r=>some (n::r)
  |none=>none)else none
 |none=>none) l
def tZ(n size:Nat)(agg:Bool)(a i:Od):dq:=fun t h=>match fO a t with
 |some (.ag cs)=>match fO i t with
  |some (.i _ (.ofNat k))=>bif Nat.blt k n then okO (qG agg cs (Nat.mul k size) size) t h else .bad
  |some (.c _ (.int _) x)=>bif agg|| !(Nat.beq size 1)then .bad else(match cs with
   |v::_=>match toN v with
    |some (k,_)=>match yl k cs with
     |some l=>bif Nat.beq (len l) n then .ck (cg x (Int.ofNat n)) (okV (.c 0 (.int k) (l.getD x.toNat 0)) t h)else .bad
     |none=>.bad
    |none=>.bad
   | []=>.bad)
  | _=>.bad
 | _=>.bad
def pK(a i:Od):dq:=fun t h=>match fO a t with
 |some v=>match toS v with
  |some (_,s)=>match fO i t with
   |some iv=>match toN iv with
    |some (_,n)=>.ck (cg n (Int.ofNat s.size)) (okV (.c 0 (.int .u8) (Int.ofNat ((s.data.toList.getD n.toNat 0).toNat))) t h)
    |none=>.bad
   |none=>.bad
  |none=>.bad
 |none=>.bad
def zJ(a:Od):dq:=fun t h=>match fO a t with
 |some v=>match toS v with
  |some (true,s)=>okV (.i .i64 (.ofNat s.size)) t h
  |some (false,s)=>okV (.c 0 (.int .i64) (Int.ofNat s.size)) t h
  |none=>.bad
 |none=>.bad
def nm(a:Od)(i:Nat):dq:=fun t h=>match fO a t with
 |some (.tu vs)=>okO (gx vs i) t h
 | _=>.bad
def bS(a:Od):dq:=fun t h=>match QJ a t with
 |some v=>okO (NZ v h) t h
 |none=>.bad
def rK(o:Option Od)(t:Tq)(d:Sv):Option (Bool×Int):=match(match o with
 |none=>some d
 |some o=>fO o t)with
 |some v=>match toN v with
  |some (_,n)=>some (D8 v,n)
  |none=>none
 |none=>none
def cF(l u n:Int):Bool:=decide (0<=l)&&(decide (l<=u)&&decide (u<=n))
def nn(size:Nat)(a:Od)(lo hi:Option Od):dq:=fun t h=>match fO a t with
 |some v=>match NZ v h with
  |some m=>match toN m with
   |some (_,n)=>match rK lo t (.i .i64 0)with
    |some (ll,l)=>match rK hi t m with
     |some (lu,u)=>(match v with
      | .a w=>bif l8 w then .ck (cF l u n) (okV (.a w) t h)else .bad
      | .os r s=>bif Nat.beq s size then .ck (cF l u n) (okV (.ss r s l.toNat (u.toNat - l.toNat)) t h)else .bad
      | .ss r s off _=>bif Nat.beq s size then .ck (cF l u n) (okV (.ss r s (off+l.toNat) (u.toNat - l.toNat)) t h)else .bad
      | .xo r s off _=>bif (ll&&lu)&&(Nat.beq s size&&cF l u n)then okV (.xo r s (Nat.add off (Nat.mul l.toNat s)) (Nat.sub u.toNat l.toNat)) t h else .bad
      | .c _ (.aB ty) x=>bif Nat.beq size (Lf.size ty)then .ck (cF l u n) (okV (.c 0 (.aB ty) ((x.drop l.toNat).take (u.toNat - l.toNat))) t h)else .bad
      | _=>.bad)
     |none=>.bad
    |none=>.bad
   |none=>.bad
  |none=>.bad
 |none=>.bad
def ua(n size:Nat)(a:Od)(lo hi:Option Od):dq:=fun t h=>match fO a t with
 |some (.rf r o)=>match rK lo t (.i .i64 0)with
  |some (true,l)=>match rK hi t (.i .i64 (.ofNat n))with
   |some (true,u)=>match qJ h r with
    |some cs=>bif Nat.ble (Nat.add o (Nat.mul n size)) (len cs)&&(cF l u (Int.ofNat n)&&Nat.blt 0 size)then okV (.xo r size (Nat.add o (Nat.mul l.toNat size)) (Nat.sub u.toNat l.toNat)) t h else .bad
    |none=>.bad
   | _=>.bad
  | _=>.bad
 | _=>.bad
def ub(a:Od)(lo hi:Option Od):dq:=fun t h=>match fO a t with
 |some v=>match toS v with
  |some (true,s)=>match rK lo t (.i .i64 0)with
   |some (true,l)=>match rK hi t (.i .i64 (.ofNat s.size))with
    |some (true,u)=>bif cF l u (Int.ofNat s.size)then okV (.a (.sc (.string (s.extract l.toNat u.toNat)))) t h else .bad
    | _=>.bad
   | _=>.bad
  | _=>.bad
 |none=>.bad
def roomy(bytes n:Nat):Bool:=decide (n*bytes<=70368744177664)&&decide (n<=70368744177664)
def np(v:Sv)(h:Hq):Option (Nat×List Sv):=match v with
 | .a w=>bif cu w then some (0,[])else none
 | .xo r s off n=>match qJ h r with
  |some l=>bif Nat.ble (Nat.add off (Nat.mul n s)) (len l)then some (n,tk (Nat.mul n s) (dp off l))else none
  |none=>none
 | _=>none
def kill(v:Sv)(h:Hq):Option Hq:=match v with
 | .a _=>some h
 | .os r _=>match h.aN.get r with
  |some (.l _ _)=>some (fc h r none)
  | _=>none
 | .ss r _ _ _=>match h.aN.get r with
  |some (.l _ _)=>some (fc h r none)
  | _=>none
 | .xo r _ _ _=>match h.aN.get r with
  |some (.o _ _)=>some (fc h r none)
  | _=>none
 | _=>none
def vY(t:Ty)(v:Sv)(h:Hq):Option (List (den t)×Hq):=match v with
 | .os r _=>match h.aN.get r with
  |some (.l t' x)=>match nM t' t with
   |some ⟨e⟩=>some (e▸x,h)
   |none=>none
  | _=>none
 | .ss r _ off n=>match h.aN.get r with
  |some (.l t' x)=>match nM t' t with
   |some ⟨e⟩=>some (((e▸x:List (den t)).drop off).take n,h)
   |none=>none
  | _=>none
 | .a w=>bif cu w then some ([],h)else none
 | .xo r sz off n=>match h.aN.get r with
  |some (.o _ l)=>bif Nat.beq sz (size t)then LF t (LG t) n off l h else none
  | _=>none
 | _=>none
def N5(bytes:Nat)(t:Ty)(s:Sv)(new:List (den t))(tq:Tq)(h:Hq):QK:=match vY t s h with
 |some (x,h1)=>match kill s h1 with
  |some h2=>.ck (roomy bytes (x.length+new.length)) (okV (.os h2.next (size t)) tq (cA h2 (.l t (app x new))))
  |none=>.bad
 |none=>.bad
def IN(s:Sv)(d:Nat):Nat:=match s with
 | .os _ z=>z
 | .ss _ z _ _=>z
 | .xo _ z _ _=>z
 | _=>d
def Eb(size bytes:Nat)(s x:Sv)(t:Tq)(h:Hq):QK:=bif Nat.beq (IN s size) size&&(Nat.beq (IN x size) size&&Nat.blt 0 size)then(match np x h with
 |some (0,_)=>(match s with
  | .a w=>bif l8 w then okV s t h else .bad
  | .os _ _=>okV s t h
  | .ss _ _ _ _=>okV s t h
  | .xo _ _ _ _=>okV s t h
  | _=>.bad)
 |some (m,new)=>(match np s h with
  |some (n,j2)=>match kill s h with
   |some h2=>bif roomy bytes (Nat.add n m)&&dK vV new then okV (.xo h2.next size 0 (Nat.add n m)) t (cA h2 (.o 0 (app j2 new)))else .bad
   |none=>.bad
  |none=>match R8 s h with
   |some ty=>bif Nat.beq size (Lf.size ty)then(match NY ty x h with
    |some (new,h1)=>N5 bytes ty s new t h1
    |none=>.bad)else .bad
   |none=>.bad)
 |none=>(match R8 x h with
  |some ty=>bif Nat.beq size (Lf.size ty)then(match NY ty x h with
   |some (new,h1)=>N5 bytes ty s new t h1
   |none=>.bad)else .bad
  |none=>.bad))else .bad
def uc(size bytes:Nat)(s x:Od):dq:=fun t h=>match fO s t with
 |some s=>match fO x t with
  |some x=>Eb size bytes s x t h
  |none=>.bad
 |none=>.bad
def ZE:AV->Option Ty
 | .int k _=>some (.int k)
 | .bool _=>some .bool
 | .sc (.string _)=>some .str
 | .sc (.slice none 0 0)=>some (.aB (.int .i64))
 | _=>none
def tyZ(l:List AV):Option Ty:=List.rec none (fun a r ih=>match ZE a with
 |some t=>match r with
  | []=>some t
  | _=>match ih with
   |some u=>some (.pair t u)
   |none=>none
 |none=>none) l
def zK(z:List AV):Option ((t:Ty)×den t):=match tyZ z with
 |some t=>match BK z with
  |some l=>match LG t l ⟨0,.nil⟩with
   |some (x,[],_)=>some ⟨t,x⟩
   | _=>none
  |none=>none
 |none=>none
def Ec(size bytes:Nat)(z:List AV)(s x:Od):dq:=fun t h=>match fO s t with
 |some sv=>match fO x t with
  |some xv=>match toN xv with
   |some (_,n)=>bif Nat.beq (IN sv size) size then(match zK z with
    |some ⟨ty,y⟩=>bif Nat.beq size (Lf.size ty)&&Nat.beq size (len z)then(.ck (decide (0<=n)) (N5 bytes ty sv (List.replicate n.toNat y) t h))else .bad
    |none=>.bad)else .bad
   |none=>.bad
  |none=>.bad
 |none=>.bad
def Ed(bytes:Nat)(s x:Od):dq:=fun t h=>match fO s t with
 |some sv=>match fO x t with
  |some xv=>match toS xv with
   |some (_,y)=>bif Nat.beq (IN sv 1) 1 then N5 bytes (.int .u8) sv (y.data.toList.map fun b=>Int.ofNat b.toNat) t h else .bad
   |none=>.bad
  |none=>.bad
 |none=>.bad
def ym(x:Od):dq:=fun t h=>match fO x t with
 |some v=>match toS v with
  |some (_,y)=>okV (.os h.next 1) t (cA h (.l (.int .u8) (y.data.toList.map fun b=>Int.ofNat b.toNat)))
  |none=>.bad
 |none=>.bad
def BL(a b:Od):Bool:=match a,b with
 | .t i,.t j=>Nat.beq i j
 | .c (.int _ m),.c (.int _ n)=>eqI m n
 | _,_=>false
def Ee(size bytes:Nat)(z:List AV)(l c:Od):dq:=fun t h=>match fO l t with
 |some lv=>match fO c t with
  |some cv=>match toN lv with
   |some (_,l')=>match toN cv with
    |some (_,c')=>match zK z with
     |some ⟨ty,y⟩=>bif Nat.beq size (Lf.size ty)&&Nat.beq size (len z)then
      .ck ((decide (0<=l')&&decide (l'<=c'))&&decide (c'.toNat*bytes<=70368744177664))
       (okV (bif BL l c then .os h.next size else .ss h.next size 0 l'.toNat) t (cA h (.l ty (List.replicate c'.toNat y))))else .bad
     |none=>.bad
    |none=>.bad
   |none=>.bad
  |none=>.bad
 |none=>.bad
def N6(x y z:Od):dq:=fun t h=>match fO y t with
 |some (.i _ (.ofNat 0))=>match fO z t with
  |some (.i _ (.ofNat 0))=>match QJ x t with
   |some (.a w)=>bif cu w then okV (.a .cS) t h else .bad
   |some (.os _ _)=>okV (.a .cS) t h
   |some (.ss _ _ _ _)=>okV (.a .cS) t h
   |some (.xo _ _ _ _)=>okV (.a .cS) t h
   |some (.c _ (.aB _) _)=>okV (.a .cS) t h
   | _=>.bad
  | _=>.bad
 | _=>.bad
def cY(x:Od):dq:=fun t h=>match QJ x t with
 |some (.a w)=>bif cu w then okV (.i .i64 0) t h else .bad
 | _=>.bad
def yn(mx:Bool)(a b:Od):dq:=fun t h=>match fO a t with
 |some x=>match fO b t with
  |some y=>match x,y with
   | .i k m,.i k' n=>bif eM k k' then okV (.i k (bif mx then(bif ez m n then n else m)else(bif ez n m then n else m))) t h else .bad
   |x,y=>match toN x,toN y with
    |some (k,m),some (k',n)=>bif eM k k' then okV (.c 0 (.int k) (match mx with|true=>max m n|false=>min m n)) t h else .bad
    | _,_=>.bad
  |none=>.bad
 |none=>.bad
def Ef(t:Ty)(v:Sv)(h:Hq):Option (List (den t)×Hq):=match vY t v h with
 |some r=>some r
 |none=>NY t v h
def IP(size:Nat)(sv:Sv)(r sz off n:Nat)(t:Tq)(h:Hq):QK:=match h.aN.get r with
 |some (.l ty x)=>bif Nat.blt 0 size&&(Nat.beq sz size&&Nat.beq size (Lf.size ty))then(match Ef ty sv h with
  |some (y,h1)=>(match h1.aN.get r with
   |some (.l _ _)=>okV (.c 0 (.int .i64) (Int.ofNat (min y.length n))) t (fc h1 r (some (.l ty (app (x.take off) (app (y.take (min y.length n)) (x.drop (Nat.add off (min y.length n))))))))
   | _=>.bad)
  |none=>.bad)else .bad
 | _=>.bad
def Eg(size:Nat)(d s:Od):dq:=fun t h=>match QJ s t with
 |some sv=>(match QJ d t with
  |some (.os r sz)=>(match h.aN.get r with
   |some (.l _ x)=>IP size sv r sz 0 x.length t h
   | _=>.bad)
  |some (.ss r sz off n)=>IP size sv r sz off n t h
  | _=>.bad)
 |none=>.bad
def Eh(call:dV)(f:FuncId)(args:List Od):dq:=fun t h=>match D6 args t with
 |some vs=>(call f vs h).bd fun p=>okV p.1 t p.2
 |none=>.bad
def yo(call:dV)(f:Od)(args:List Od):dq:=fun t h=>match fO f t with
 |some (.fn k cap)=>match D6 args t with
  |some vs=>(call k (app vs cap) h).bd fun p=>okV p.1 t p.2
  |none=>.bad
 | _=>.bad
def fG(l:List Sv):Nat->List Sv×Nat:=List.rec (fun n=>([],n)) (fun a _ ih n=>match a with
 | .c m (.aB t) x=>bif Nat.beq m 0 then(.c n (.aB t) x::(ih (Nat.add n 1)).1,(ih (Nat.add n 1)).2)else(a::(ih n).1,(ih n).2)
 |a=>(a::(ih n).1,(ih n).2)) l
def N7(b:Od)(f:dq):dq:=fun t h=>match b with
 | .t i=>bif Nat.blt i 512 then(match t.at i with
  |some (.ag l)=>f (t.put i (some (.ag (fG l h.next).1))) ⟨(fG l h.next).2,h.aN⟩
  | _=>f t h)else f t h
 | _=>f t h
def Ei(a:Od):dq:=fun t h=>match fO a t with
 |some (.os r sz)=>match h.aN.get r with
  |some (.l _ x)=>.ck (!(Nat.beq x.length 0)) (okV (.os r sz) t h)
  | _=>.bad
 |some (.xo r sz off n)=>match h.aN.get r with
  |some (.o _ _)=>bif Nat.beq n 0 then .bad else okV (.xo r sz off n) t h
  | _=>.bad
 | _=>.bad
def qK(call:dV)(o:gb):dq:=match o with
 | .mv a=>qI a| .pk c a b=>LH c a b| .nw cs=>N2 cs| .bx a=>N3 a| .bd z ps=>yj z ps| .rw n sz z ps=>N4 n sz z ps
 | .ld sz g a=>zH sz g a| .sto sz a b=>N7 b (yk sz a b)| .nl a=>zI a| .bn f a b=>IK f a b| .un f a=>Ys f a| .fn f cap=>ZD f cap
 | .fa off a=>jO off a| .fd off s g a=>tY off s g a| .ixS s a i=>IL s a i| .ixA n s a i=>IM n s a i| .ix n s g a i=>tZ n s g a i| .ixT a i=>pK a i
 | .slN s a lo hi=>nn s a lo hi| .slA n s a lo hi=>ua n s a lo hi| .slS a lo hi=>ub a lo hi| .ex a i=>nm a i| .ln a=>bS a| .lnT a=>zJ a
 | .ap s b x y=>uc s b x y| .apZ s b z x y=>Ec s b z x y| .apS b x y=>Ed b x y| .bys a=>ym a| .mk s b z l c=>Ee s b z l c
 | .emp a b c=>N6 a b c| .cap a=>cY a| .mrk a=>Ei a| .min a b=>yn false a b| .max a b=>yn true a b
 | .map=>fun t h=>okV (.a .any) t h
 | .cpy sz d a=>Eg sz d a
 | .call f args=>Eh call f args| .callV f args=>yo call f args
 | _=>fun _ _=>.bad
def N8(j:Od)(want:Bool)(f:dq):dq:=fun t h=>match fO j t with
 |some (.tu [])=>okV kP t h
 | _=>mm j t (fun t=>bif want then f t h else okV kP t h) (fun t=>bif want then okV kP t h else f t h)
def LI(call:dV)(o:gb):dq:=match o with
 | .gd j w (.mn f)=>N8 j w (qK call f)
 | .gd j w f=>N8 j w (qK call f)
 | .mn (.gd j w f)=>N8 j w (qK call f)
 | .mn f=>qK call f
 |o=>qK call o
def zL(u v:Sv):Option LB:=match u,v with
 | .i k a,.i k' b=>bif eM k k'&&eqI a b then some (.l true)else none
 | .b a,.b b=>bif a then(bif b then some (.l true)else none)else(bif b then none else some (.l true))
 | .a v,.a w=>bif iG v w then some (.l true)else none
 | .rf r o,.rf r' o'=>bif Nat.beq r r'&&Nat.beq o o' then some (.l true)else none
 | .re r s i o,.re r' s' i' o'=>bif Nat.beq r r'&&(Nat.beq s s'&&Nat.beq o o')then some (.t (decide (i=i')))else none
 | .os r s,.os r' s'=>bif Nat.beq r r'&&Nat.beq s s' then some (.l true)else none
 | .ss r s o n,.ss r' s' o' n'=>bif Nat.beq r r'&&Nat.beq s s' then some (.t (decide (o=o')&&decide (n=n')))else none
 | .xo r s o n,.xo r' s' o' n'=>bif Nat.beq r r'&&(Nat.beq s s'&&(Nat.beq o o'&&Nat.beq n n'))then some (.l true)else none
 | .c m (.aB t) _,.c m' (.aB t') _=>bif Nat.blt 0 m&&Nat.beq m m' then some (.l true)else none
 |u,v=>match toN u,toN v with
  |some (k,a),some (k',b)=>bif eM k k' then some (.t (decide (a=b)))else none
  | _,_=>match toB u,toB v with
   |some a,some b=>some (.t (!(xor a.v b.v)))
   | _,_=>none
def zM:List Sv->List Sv->Option LB
 | [],[]=>some (.l true)
 |a::l,b::m=>match zL a b with
  |some c=>match zM l m with
   |some d=>some (c.and d)
   |none=>none
  |none=>none
 | _,_=>none
def zN(u v:Sv):Option LB:=match u,v with
 | .ag l,.ag m=>zM l m
 |u,v=>zL u v
inductive Oc where
 |norm (t:Tq) (h:Hq)
 |ret (t:Tq) (h:Hq)
 |exit (i:Nat) (t:Tq) (h:Hq)
abbrev fT:=Tq->Hq->T Oc
def vZ(s:Od)(sz:Nat)(g:Bool)(a:Od)(t:Tq)(h:Hq)(k:T (Tq×Hq)):T (Tq×Hq):=match fO a t with
 |some p=>(match sw sz g p h with
  |some v=>(match fO s t with
   |some u=>(match zN u v with
    |some c=>Yq c k
    |none=>.bad)
   |none=>.bad)
  |none=>.bad)
 |none=>.bad
def Ej(s:Od)(sz:Nat)(a:Od)(lo hi:Option Od)(t:Tq)(h:Hq)(k:T (Tq×Hq)):T (Tq×Hq):=(nn sz a lo hi t h).bd fun p=>match fO s t with
 |some u=>(match zN u p.1 with
  |some c=>Yq c k
  |none=>.bad)
 |none=>.bad
def rL(s:Od)(t:Tq)(k:T (Tq×Hq)):T (Tq×Hq):=match fO s t with
 |some (.tu [])=>k
 | _=>.bad
def qL(call:dV)(r:rJ):Tq->Hq->T (Tq×Hq):=
 rJ.rec (motive:=fun _=>Tq->Hq->T (Tq×Hq)) (fun t h=>.ok (t,h))
  (fun i f _ ih t h=>bif Nat.blt i 512 then(LI call f t h).bd fun p=>ih (p.2.1.put i (some p.1)) p.2.2 else .bad)
  (fun f _ ih t h=>(LI call f t h).bd fun p=>ih p.2.1 p.2.2)
  (fun s f _ ih t h=>match f with
   | .ld sz g a=>vZ s sz g a t h (ih t h)
   | .slN sz a lo hi=>Ej s sz a lo hi t h (ih t h)
   | .gd j w (.ld sz g a)=>(match fO j t with
    |some (.b c)=>bif (bif w then c else !c)then vZ s sz g a t h (ih t h)else rL s t (ih t h)
    |some (.tu [])=>rL s t (ih t h)
    | _=>.bad)
   | _=>.bad) r
def iW:gb->Bool
 | .mv _| .pk _ _ _| .ld _ _ _| .nl _| .bn _ _ _| .un _ _| .fa _ _| .fd _ _ _ _| .ixS _ _ _| .ixT _ _| .ex _ _| .ln _| .lnT _| .min _ _| .max _ _=>true
 | .gd _ _ (.mn _)=>false
 | .gd _ _ (.gd _ _ _)=>false
 | .gd _ _ f=>iW f
 | _=>false
def qM(r:rJ):Bool:=rJ.rec true (fun _ f _ ih=>bif iW f then ih else false) (fun f _ ih=>bif iW f then ih else false) (fun _ _ _ ih=>ih) r
def qN(r:rJ):List Nat:=rJ.rec [] (fun i _ _ ih=>i::ih) (fun _ _ ih=>ih) (fun _ _ _ ih=>ih) r
def ZF(c:Bool)(v w:Sv):Option Sv:=match v,w with
 | .b x,.b y=>bif (bif x then y else !y)then some (.b x)else some (.c 0 .bool (bif c then x else y))
 | .a x,.a y=>bif iG x y then some (.a x)else none
 | .rf r o,.rf r' o'=>bif Nat.beq r r'&&Nat.beq o o' then some (.rf r o)else none
 | .os r o,.os r' o'=>bif Nat.beq r r'&&Nat.beq o o' then some (.os r o)else none
 | .c m (.aB t) x,.c m' (.aB t') y=>(match nM t' t with
  |some ⟨e⟩=>some (.c 0 (.aB t) (bif c then x else(e▸y:List (den t))))
  |none=>none)
 | .i k x,.i k' y=>bif eM k k' then(bif eqI x y then some (.i k x)else some (.c 0 (.int k) (bif c then x else y)))else none
 |v,w=>match toN v,toN w with
  |some (k,x),some (k',y)=>bif eM k k' then some (.c 0 (.int k) (bif c then x else y))else none
  | _,_=>match toB v,toB w with
   |some x,some y=>some (.c 0 .bool (bif c then x.v else y.v))
   | _,_=>none
def QL(c:Bool)(v w:Option Sv):Option Sv:=match v with
 |some v=>(match w with
  |some w=>ZF c v w
  |none=>none)
 |none=>none
def QM(ry:List Nat)(c:Bool)(T0 a b:Tq):Tq:=List.rec T0 (fun i _ ih=>ih.put i (QL c (a.at i) (b.at i))) ry
def LB.cond(c:Bool):LB->LB->LB
 | .l true,.l true=>.l true
 | .l x,.l y=>.t (bif c then x else y)
 | .l x,.t y=>.t (bif c then x else y)
 | .t x,.l y=>.t (bif c then x else y)
 | .t x,.t y=>.t (bif c then x else y)
def LJ(ry:List Nat)(T0:Tq)(x:T (Tq×Hq)):LB×Tq:=T.rec (motive:=fun _=>LB×Tq) (.l false,T0) (fun p=>(.l true,p.1))
 (fun c _ _ a b=>(LB.cond c a.1 b.1,QM ry c T0 a.2 b.2))
 (fun c _ a=>(LB.and (.t c) a.1,a.2)) x
def IQ(call:dV)(r:rJ):Tq->Hq->T (Tq×Hq):=fun t h=>bif qM r&&dK (fun i=>Nat.blt i 512) (qN r)then(match LJ (qN r) t (qL call r t h)with
 |(c,t')=>Yq c (.ok (t',h)))else qL call r t h
def BM(a:T Oc)(b:fT):T Oc:=a.bd fun o=>match o with
 | .norm t h=>b t h
 |o=>.ok o
def blO(id:Nat)(a:T Oc):T Oc:=a.bd fun o=>match o with
 | .exit i t h=>.ok (bif Nat.beq i id then .norm t h else .exit i t h)
 |o=>.ok o
def LK(L:Nat->Option fT)(call:dV)(m:Nat)(c:j7):fT:=
 j7.rec (motive:=fun _=>fT) (fun r t h=>(IQ call r t h).bd fun p=>.ok (.norm p.1 p.2)) (fun t h=>.ok (.norm t h))
  (fun _ _ a b t h=>BM (a t h) b)
  (fun c _ _ a b t h=>mm c t (fun t=>a t h) (fun t=>b t h))
  (fun id _ b t h=>match L id with
   |some f=>f t h
   |none=>blO id (b t h))
  (fun _ b=>Nat.rec (motive:=fun _=>fT) (fun _ _=>.bad) (fun _ ih t h=>BM (b t h) ih) m)
  (fun i t h=>.ok (.exit i t h)) (fun t h=>.ok (.ret t h)) (fun _ _=>.bad) c
def N9(t:Tq)(h:Hq):RV->Option Sv
 | .tmp i=>bif Nat.blt i 512 then t.at i else none
 | .cell i size agg=>match(bif Nat.blt i 512 then t.at i else none)with
  |some p=>sw size agg p h
  |none=>none
def Ek(t:Tq)(h:Hq)(l:List RV):Option (List Sv):=List.rec (some []) (fun r _ ih=>match N9 t h r with
 |some v=>match ih with
  |some vs=>some (v::vs)
  |none=>none
 |none=>none) l
def El(res:List RV)(t:Tq)(h:Hq):T (Sv×Hq):=match Ek t h res with
 |some [v]=>.ok (v,h)
 |some vs=>.ok (.tu vs,h)
 |none=>.bad
def yp(l:List Sv):Nat->Tq->Tq:=List.rec (fun _ t=>t) (fun v _ ih i t=>ih (Nat.add i 1) (t.put i (some v))) l
def wa(L:Nat->Option fT)(b:bM)(m:Nat)(c:dV)(args:List Sv)(h:Hq):T (Sv×Hq):=
 bif Nat.ble (len args) b.ntmps then(LK L c m b.code (yp args 0 Tq.none) h).bd fun o=>match o with
  | .norm t h=>El b.res t h
  | .ret t h=>El b.res t h
  | _=>.bad else .bad
end Lf
end Go.Ab

noncomputable section
namespace Go.Ab
namespace Lf
structure Kr where
 av:AV
 n:Nat
structure En where
 K:Nat->Kr
 tk:Nat->AV
 G:Nat->Option Rw
 A:Nat->AV
section
variable {α:Type}
def fP(E:α->List AV->Prop):List α->List AV->Prop
 | [],cs=>cs=[]
 |x::xs,cs=> ∃ c r,cs=c++r/\E x c/\fP E xs r
theorem fP.mono{E E':α->List AV->Prop}(h: ∀ x c,E x c->E' x c): ∀ {l:List α} {cs:List AV},fP E l cs->fP E' l cs
 | [],_,e=>e
 | _::_,_,⟨c,r,e,a,b⟩=>⟨c,r,e,h _ _ a,fP.mono h b⟩
theorem fP.app{E:α->List AV->Prop}: ∀ {l m:List α} {cs ds:List AV},fP E l cs->fP E m ds->fP E (l++m) (cs++ds)
 | [],_,_,_,e,k=>by have e':_=[]:=e;subst e';simpa using k
 | _::_,_,_,_,⟨c,r,e,a,b⟩,k=>by subst e;exact⟨c,r++_,by simp,a,fP.app b k⟩
theorem fP.length{E:α->List AV->Prop}{s:Nat}(h: ∀ x c,E x c->c.length=s): ∀ {l:List α} {cs:List AV},fP E l cs->cs.length=l.length*s
 | [],_,e=>by have e':_=[]:=e;subst e';simp
 | _::_,_,⟨c,r,e,a,b⟩=>by subst e;rw[List.length_append,h _ _ a,fP.length h b,List.length_cons,Nat.succ_mul];omega
theorem fP.drop{E:α->List AV->Prop}{s:Nat}(h: ∀ x c,E x c->c.length=s): ∀ (n:Nat) {l:List α} {cs:List AV},fP E l cs->fP E (l.drop n) (cs.drop (n*s))
 |0,_,_,e=>by simpa using e
 |n+1,[],_,e=>by have e':_=[]:=e;subst e';simp;rfl
 |n+1,_::_,_,⟨c,r,e,a,b⟩=>by
  subst e
  have:=fP.drop h n b
  rw[List.drop_succ_cons,Nat.succ_mul,Nat.add_comm,<-List.drop_drop,List.drop_append_of_le_length (by rw[h _ _ a];exact Nat.le_refl _),<-h _ _ a,List.drop_length,List.nil_append,h _ _ a]
  exact this
theorem fP.take{E:α->List AV->Prop}{s:Nat}(h: ∀ x c,E x c->c.length=s): ∀ (n:Nat) {l:List α} {cs:List AV},fP E l cs->fP E (l.take n) (cs.take (n*s))
 |0,_,_,e=>by simp;rfl
 |n+1,[],_,e=>by have e':_=[]:=e;subst e';simp;rfl
 |n+1,_::_,_,⟨c,r,e,a,b⟩=>by
  subst e
  have:=fP.take h n b
  refine⟨c,r.take (n*s),?_,a,this⟩
  rw[Nat.succ_mul,Nat.add_comm,<-h _ _ a,List.take_length_add_append]
theorem fP.get{E:α->List AV->Prop}{s:Nat}(h: ∀ x c,E x c->c.length=s){l:List α}{cs:List AV}(e:fP E l cs){i:Nat}(hi:i<l.length)(d:α):E (l.getD i d) ((cs.drop (i*s)).take s):=by
 induction l generalizing cs i with
 |nil=>simp at hi
 |cons x l ih=>
  obtain⟨c,r,rfl,a,b⟩:=e
  cases i with
  |zero=>simp only[Nat.zero_mul,List.drop_zero,List.getD_cons_zero];rw[List.take_append_of_le_length (by rw[h _ _ a];exact Nat.le_refl _),<-h _ _ a,List.take_length];exact a
  |succ i=>
   rw[List.getD_cons_succ,Nat.succ_mul,Nat.add_comm,<-List.drop_drop,List.drop_append_of_le_length (by rw[h _ _ a];exact Nat.le_refl _),<-h _ _ a,List.drop_length,List.nil_append,h _ _ a]
   exact ih b (by simpa using hi)
end
def zO(G:Nat->Option Rw)(t:Ty)(E:den t->List AV->Prop)(x:List (den t))(a:AV):Prop:=
 (cu a=true/\x=[])∨ ∃ ls,fP E x ls/\(a=.fg x.length ls∨ ∃ id base row,a=.cR id base x.length (size t)/\G id=some row/\row.fy base (x.length*size t)=some ls)
def EV(G:Nat->Option Rw):(t:Ty)->den t->List AV->Prop
 | .int k,x,cs=>cs=[.int k x]
 | .bool,x,cs=>cs=[.bool x]
 | .str,x,cs=>cs=[.sc (.string x)]
 | .aB t,x,cs=> ∃ a,cs=[a]/\zO G t (EV G t) x a
 | .pair a b,x,cs=> ∃ c d,cs=c++d/\EV G a x.1 c/\EV G b x.2 d
def IS(G G':Nat->Option Rw):Prop:= ∀ id row,G id=some row->G' id=some row
theorem zO.mono{G G':Nat->Option Rw}(h:IS G G'){t:Ty}{E E':den t->List AV->Prop}(he: ∀ x c,E x c->E' x c){x:List (den t)}{a:AV}(k:zO G t E x a):zO G' t E' x a:=by
 rcases k with k|⟨ls,k1,k2⟩
 ·exact .inl k
 ·refine .inr ⟨ls,k1.mono he,?_⟩
  rcases k2 with k2|⟨id,base,row,e,g,s⟩
  ·exact .inl k2
  ·exact .inr ⟨id,base,row,e,h _ _ g,s⟩
theorem EV.mono{G G':Nat->Option Rw}(h:IS G G'): ∀ (t:Ty) (x:den t) (cs:List AV),EV G t x cs->EV G' t x cs
 | .int _,_,_,e=>e
 | .bool,_,_,e=>e
 | .str,_,_,e=>e
 | .aB t,_,_,⟨a,e,k⟩=>⟨a,e,k.mono h (EV.mono h t)⟩
 | .pair a b,_,_,⟨c,d,e,k1,k2⟩=>⟨c,d,e,EV.mono h a _ _ k1,EV.mono h b _ _ k2⟩
theorem EV.length{G:Nat->Option Rw}: ∀ (t:Ty) (x:den t) (cs:List AV),EV G t x cs->cs.length=size t
 | .int _,_,_,e=>by have e':_=_:=e;rw[e'];rfl
 | .bool,_,_,e=>by have e':_=_:=e;rw[e'];rfl
 | .str,_,_,e=>by have e':_=_:=e;rw[e'];rfl
 | .aB t,_,_,⟨a,e,k⟩=>by rw[e];rfl
 | .pair a b,_,_,⟨c,d,e,k1,k2⟩=>by
  have h1:=EV.length a _ _ k1
  have h2:=EV.length b _ _ k2
  show _=Nat.add (size a) (size b)
  rw[e,List.length_append,h1,h2];rfl
theorem jP{a:AV}(h:cu a=true):cH a=true:=by cases a<;>first|rfl|cases h
theorem EV.cH{G:Nat->Option Rw}: ∀ (t:Ty) (x:den t) (cs:List AV),EV G t x cs-> ∀ a,a∈cs->cH a=true
 | .int _,_,_,e=>by have e':_=_:=e;rw[e'];intro a ha;simp at ha;subst ha;rfl
 | .bool,_,_,e=>by have e':_=_:=e;rw[e'];intro a ha;simp at ha;subst ha;rfl
 | .str,_,_,e=>by have e':_=_:=e;rw[e'];intro a ha;simp at ha;subst ha;rfl
 | .aB t,_,_,⟨a,e,k⟩=>by
  rw[e];intro b hb;simp at hb;subst hb
  rcases k with⟨k,_⟩|⟨_,_,k|⟨_,_,_,k,_⟩⟩
  ·exact jP k
  ·rw[k];rfl
  ·rw[k];rfl
 | .pair a b,_,_,⟨c,d,e,k1,k2⟩=>by
  rw[e];intro x hx
  rcases List.mem_append.1 hx with h|h
  ·exact EV.cH a _ _ k1 x h
  ·exact EV.cH b _ _ k2 x h
theorem fP.cH{α:Type}{E:α->List AV->Prop}(h: ∀ x c,E x c-> ∀ a,a∈c->cH a=true): ∀ {l:List α} {cs:List AV},fP E l cs-> ∀ a,a∈cs->cH a=true
 | [],_,e=>by have e':_=[]:=e;subst e';intro a ha;simp at ha
 | _::_,_,⟨c,r,e,a,b⟩=>by
  subst e;intro y hy
  rcases List.mem_append.1 hy with k|k
  ·exact h _ _ a y k
  ·exact fP.cH h b y k
mutual
inductive V (E:En) (N:Nat):Sv->AV->Prop
 |i {k n}:V E N (.i k n) (.int k n)
 |b {b}:V E N (.b b) (.bool b)
 |a {v}:LD v=true->V E N (.a v) v
 |c {m t x a}:EV E.G t x [a]->(m≠0->m<N/\a=E.tk m)->V E N (.c m t x) a
 |ag {l l'}:Vs E N l l'->V E N (.ag l) (.agg l')
 |tu {l l'}:Vs E N l l'->V E N (.tu l) (.mD l')
 |fn {f l l'}:Vs E N l l'->V E N (.fn f l) (.fn f l')
 |rf {r o id}:r<N->(E.K r).av=.ref id 0->V E N (.rf r o) (.ref id o)
 |re {r sz i o id base n}:r<N->(E.K r).av=.cR id base n sz->i<n->V E N (.re r sz i o) (.ref id (base+i*sz+o))
 |os {r sz}:r<N->((cu (E.K r).av=true/\(E.K r).n=0)∨ ∃ id base,(E.K r).av=.cR id base (E.K r).n sz)->V E N (.os r sz) (E.K r).av
 |se {r sz off}:r<N->cu (E.K r).av=true->(E.K r).n=0->off=0->V E N (.ss r sz off 0) (E.K r).av
 |ss {r sz off n id base}:r<N->(E.K r).av=.cR id base (E.K r).n sz->off+n<=(E.K r).n->V E N (.ss r sz off n) (.cR id (base+off*sz) n sz)
 |xo {r sz off n id}:r<N->(E.K r).av=.ref id 0->V E N (.xo r sz off n) (.cR id off n sz)
 |zp {l l' r}:Vs E N l l'->V E N (.zp l) (.eg (l'++r))
 |zr {l l' id off row}:Vs E N l l'->E.G id=some row->row.fy off l.length=some l'->V E N (.zp l) (.ref id off)
inductive Vs (E:En) (N:Nat):List Sv->List AV->Prop
 |nil:Vs E N [] []
 |cons {a c l l'}:V E N a c->Vs E N l l'->Vs E N (a::l) (c::l')
end
structure pL(E E':En)(N:Nat):Prop where
 K: ∀ r,r<N->E'.K r=E.K r
 tk: ∀ r,r<N->E'.tk r=E.tk r
 G:IS E.G E'.G
 A:E'.A=E.A
theorem pL.refl(E:En)(N:Nat):pL E E N:=⟨fun _ _=>rfl,fun _ _=>rfl,fun _ _ e=>e,rfl⟩
section
variable {E E':En}{N N':Nat}
mutual
theorem V.mono(h:pL E E' N)(hN:N<=N'): ∀ {a c},V E N a c->V E' N' a c
 | _,_,.i=>.i
 | _,_,.b=>.b
 | _,_,.a k=>.a k
 | _,_,.c k m=>.c (EV.mono h.G _ _ _ k) fun e=>⟨Nat.lt_of_lt_of_le (m e).1 hN,by rw[h.tk _ (m e).1];exact(m e).2⟩
 | _,_,.ag k=>.ag (Vs.mono h hN k)
 | _,_,.tu k=>.tu (Vs.mono h hN k)
 | _,_,.fn k=>.fn (Vs.mono h hN k)
 | _,_,.rf a b=>.rf (Nat.lt_of_lt_of_le a hN) (by rw[h.K _ a];exact b)
 | _,_,.re a b c=>.re (Nat.lt_of_lt_of_le a hN) (by rw[h.K _ a];exact b) c
 | _,_,.os (r:=r) a b=>by rw[<-h.K _ a];exact .os (Nat.lt_of_lt_of_le a hN) (by rw[h.K _ a];exact b)
 | _,_,.se (r:=r) a b c d=>by rw[<-h.K _ a];exact .se (Nat.lt_of_lt_of_le a hN) (by rw[h.K _ a];exact b) (by rw[h.K _ a];exact c) d
 | _,_,.ss a b c=>.ss (Nat.lt_of_lt_of_le a hN) (by rw[h.K _ a];exact b) (by rw[h.K _ a];exact c)
 | _,_,.xo a b=>.xo (Nat.lt_of_lt_of_le a hN) (by rw[h.K _ a];exact b)
 | _,_,.zp k=>.zp (Vs.mono h hN k)
 | _,_,.zr k g s=>.zr (Vs.mono h hN k) (h.G _ _ g) s
theorem Vs.mono(h:pL E E' N)(hN:N<=N'): ∀ {l l'},Vs E N l l'->Vs E' N' l l'
 | _,_,.nil=>.nil
 | _,_,.cons a b=>.cons (V.mono h hN a) (Vs.mono h hN b)
end
theorem Vs.length{l l'}(h:Vs E N l l'):l.length=l'.length:=by
 induction l generalizing l' with
 |nil=>cases h;rfl
 |cons a l ih=>cases h with|cons _ h=>simp[ih h]
theorem Vs.app{l l' m m'}(h:Vs E N l l')(k:Vs E N m m'):Vs E N (l++m) (l'++m'):=by
 induction l generalizing l' with
 |nil=>cases h;exact k
 |cons a l ih=>cases h with|cons a h=>exact .cons a (ih h)
theorem Vs.drop{l l'}(h:Vs E N l l')(n:Nat):Vs E N (l.drop n) (l'.drop n):=by
 induction n generalizing l l' with
 |zero=>simpa using h
 |succ n ih=>
  cases h with
  |nil=>simp;exact .nil
  |cons a h=>simpa using ih h
theorem Vs.take{l l'}(h:Vs E N l l')(n:Nat):Vs E N (l.take n) (l'.take n):=by
 induction n generalizing l l' with
 |zero=>simp;exact .nil
 |succ n ih=>
  cases h with
  |nil=>simp;exact .nil
  |cons a h=>simpa using .cons a (ih h)
theorem Vs.get{l l'}(h:Vs E N l l'){i:Nat}{a}(e:l[i]? =some a): ∃ c,l'[i]? =some c/\V E N a c:=by
 induction l generalizing l' i with
 |nil=>simp at e
 |cons b l ih=>
  cases h with
  |cons hb h=>
   cases i with
   |zero=>simp at e;subst e;exact⟨_,by simp,hb⟩
   |succ i=>simpa using ih h (by simpa using e)
theorem wb{c:AV}(h:LD c=true):cH c=true:=by cases c<;>first|rfl|cases h
theorem wc{c:AV}(h:cH c=true):c.cells=[c]:=by cases c<;>first|rfl|cases h
theorem V.one{a c}(h:V E N a c)(e:vV a=true):cH c=true:=by
 cases h with
 |a h=>exact wb h
 |c h _=>exact EV.cH _ _ _ h _ (by simp)
 |ag h=>cases e
 |tu h=>cases e
 |os _ h=>rcases h with⟨h,_⟩|⟨_,_,h⟩
          ·exact jP h
          ·rw[h];rfl
 |se _ h _ _=>exact jP h
 | _=>rfl
theorem V.cells{a c}(h:V E N a c):Vs E N a.cells c.cells:=by
 by_cases e:vV a=true
 ·rw[wc (h.one e)]
  have:a.cells=[a]:=by cases a<;>first|rfl|cases e
  rw[this];exact .cons h .nil
 ·cases h with
  |ag h=>exact h
  |tu h=>exact .cons (.tu h) .nil
  | _=>exact(e rfl).elim
theorem Vs.xF{l l'}(h:Vs E N l l')(e: ∀ a,a∈l->vV a=true): ∀ a,a∈l'->cH a=true:=by
 induction l generalizing l' with
 |nil=>cases h;intro a ha;simp at ha
 |cons b l ih=>
  cases h with
  |cons hb h=>
   intro a ha
   rcases List.mem_cons.1 ha with k|k
   ·subst k;exact hb.one (e _ List.mem_cons_self)
   ·exact ih h (fun a ha=>e a (List.mem_cons_of_mem _ ha)) a k
theorem beq_true{a b:Nat}(h:Nat.beq a b=true):a=b:=Nat.eq_of_beq_eq_true h
theorem bb{α:Type}{b:Bool}{x:Option α}{y:α}(h:(bif b then x else none)=some y):b=true/\x=some y:=by cases b<;>simp_all
theorem BN{l:List Sv}{off n:Nat}{r:List Sv}(h:R7 l off n=some r):r=(l.drop off).take n/\r.length=n:=by
 change (bif Nat.beq (len (tk n (dp off l))) n then some (tk n (dp off l))else none)=some r at h
 rw[kp,fC,bE]at h
 cases hb:Nat.beq (List.take n (List.drop off l)).length n with
 |false=>rw[hb]at h;cases h
 |true=>rw[hb]at h;cases h;exact⟨rfl,beq_true hb⟩
theorem mq{l:List AV}{off n:Nat}(h:((l.drop off).take n).length=n):px l off n=some ((l.drop off).take n):=by
 change (bif Nat.beq (len (tk n (dp off l))) n then some (tk n (dp off l))else none)=_
 rw[kp,fC,bE,h,Nat.beq_refl]
 rfl
theorem jq{agg:Bool}{l:List Sv}{l':List AV}{off n:Nat}{r:Sv}(h:Vs E N l l')(e:qG agg l off n=some r): ∃ c,part agg l' off n=some c/\V E N r c:=by
 unfold qG at e
 split at e
 ·cases e
 ·rename_i s hs
  obtain⟨rfl,hl⟩:=BN hs
  have hv:=(h.drop off).take n
  have QN:=mq (l:=l') (off:=off) (n:=n) (by rw[<-hv.length,hl])
  unfold part
  rw[QN]
  cases agg with
  |true=>cases e;exact⟨_,rfl,.ag hv⟩
  |false=>
   simp only[cond_false]at e ⊢
   generalize (List.take n (List.drop off l))=s at e hv
   generalize (List.take n (List.drop off l'))=s' at hv ⊢
   split at e
   ·cases e
    cases hv with
    |cons a b=>cases b;exact⟨_,rfl,a⟩
   ·cases e
theorem yq{r:Rw}{off k:Nat}(h:off+k<=r.toL.length):r.fy off k=some ((r.toL.drop off).take k):=by
 rw[da]at h
 have hs:r.fy off k=some (r.cells k off):=by unfold Rw.fy;rw[show Nat.ble (Nat.add off k) r.n=true from(by rw[Nat.ble_eq];exact h)];rfl
 rw[hs,(eV hs).1]
theorem cP{r:Rw}{off k:Nat}{l:List AV}:r.fy off k=some l↔off+k<=r.n/\l=(r.toL.drop off).take k:=by
 constructor
 ·intro h
  have h1:=eV h
  unfold Rw.fy at h
  obtain⟨hb,_⟩:=bb h
  exact⟨by have:=Nat.le_of_ble_eq_true hb;exact this,h1.1⟩
 ·rintro⟨h,rfl⟩;exact yq (by rw[da];exact h)
theorem Em{agg:Bool}{r:Rw}{off n:Nat}{c:AV}(hn:0<n)(h:part agg r.toL off n=some c):lV agg r off n=some c:=by
 unfold part at h
 split at h
 ·cases h
 ·rename_i s hs
  obtain⟨rfl,hl⟩:=gO hs
  unfold lV
  rw[yq (by rw[List.length_take,List.length_drop]at hl;omega)];exact h
theorem lC{G:Nat->Option Rw}(hg:E.G=G): ∀ (t:Ty) (x:den t) (cs:List AV),EV G t x cs->Vs E N (iV t x) cs
 | .int _,_,_,e=>by have e':_=_:=e;subst e';exact .cons (.c (by rw[hg];exact e) (fun h=>(h rfl).elim)) .nil
 | .bool,_,_,e=>by have e':_=_:=e;subst e';exact .cons (.c (by rw[hg];exact e) (fun h=>(h rfl).elim)) .nil
 | .str,_,_,e=>by have e':_=_:=e;subst e';exact .cons (.c (by rw[hg];exact e) (fun h=>(h rfl).elim)) .nil
 | .aB t,_,_,⟨a,e,k⟩=>by subst e;exact .cons (.c (by rw[hg];exact⟨a,rfl,k⟩) (fun h=>(h rfl).elim)) .nil
 | .pair a b,x,_,⟨c,d,e,k1,k2⟩=>by
  subst e
  show Vs E N (app (iV a x.1) (iV b x.2)) _
  rw[bQ]
  exact(lC hg a _ _ k1).app (lC hg b _ _ k2)
end
def Row.live:Row->Bool
 | .o _ _| .l _ _=>true
 | _=>false
def own(H:Hq)(r:Nat):Prop:= ∃ R,H.aN.get r=some R/\R.live=true
def fU:AV->Option Nat
 | .ref id _=>some id
 | .cR id _ _ _=>some id
 | _=>none
theorem BO{a:AV}(h:cu a=true):fU a=none:=by cases a<;>first|rfl|cases h
def LR(G:Nat->Option Rw)(t:Ty)(x:List (den t))(k:Kr)(S:Nat->Option Rw):Prop:=
 x.length=k.n/\((cu k.av=true/\x=[])∨ ∃ id base row ls,k.av=.cR id base k.n (size t)/\S id=some row/\row.fy base (k.n*size t)=some ls/\fP (EV G t) x ls)
def RV(E:En)(N:Nat)(h:Hp)(k:Kr):Row->Prop
 | .o g l=> ∃ id row,k.av=.ref id 0/\h.aN.get id=some row/\Vs E N l row.toL/\(g≠0->k.av=E.A g)
 | .zo l=> ∃ id row,k.av=.ref id 0/\E.G id=some row/\Vs E N l row.toL
 | .l t x=>LR E.G t x k h.aN.get
 | .z t x=>LR E.G t x k E.G
structure SR(E:En)(H:Hq)(h:Hp):Prop where
 row: ∀ r R,H.aN.get r=some R->r<H.next/\RV E H.next h (E.K r) R
 inj: ∀ r r' id,own H r->own H r'->fU (E.K r).av=some id->fU (E.K r').av=some id->r=r'
 lt: ∀ r id,own H r->fU (E.K r).av=some id->id<h.next
 g: ∀ id row,E.G id=some row->id<h.next/\h.aN.get id=some row/\ ∀ r,own H r->fU (E.K r).av≠some id
def TV(E:En)(N:Nat)(T:Tq)(t:Tm):Prop:= ∀ i v,i<512->T.at i=some v-> ∃ a,t.at i=some a/\V E N v a
structure Nx(E E':En)(H H':Hq)(h h':Hp):Prop where
 e:pL E E' H.next
 le:H.next<=H'.next
 ud:h.next<=h'.next
 ow: ∀ r id,own H' r->fU (E'.K r).av=some id->(∃ r0,own H r0/\fU (E.K r0).av=some id)∨h.next<=id
 gw: ∀ id row,E'.G id=some row->E.G id=some row∨(∃ r0,own H r0/\fU (E.K r0).av=some id)∨h.next<=id
 fr: ∀ id,id<h.next->(∀ r,own H r->fU (E.K r).av≠some id)->h'.aN.get id=h.aN.get id
theorem Nx.refl(E:En)(H:Hq)(h:Hp):Nx E E H H h h:=
 ⟨pL.refl _ _,Nat.le_refl _,Nat.le_refl _,fun r _ a b=>.inl ⟨r,a,b⟩,fun _ _ a=>.inl a,fun _ _ _=>rfl⟩
theorem pL.trans{E E1 E2:En}{N N1:Nat}(a:pL E E1 N)(b:pL E1 E2 N1)(h:N<=N1):pL E E2 N where
 K r hr:=(b.K r (Nat.lt_of_lt_of_le hr h)).trans (a.K r hr)
 tk r hr:=(b.tk r (Nat.lt_of_lt_of_le hr h)).trans (a.tk r hr)
 G id row e:=b.G id row (a.G id row e)
 A:=b.A.trans a.A
theorem Nx.trans{E E1 E2:En}{H H1 H2:Hq}{h h1 h2:Hp}(a:Nx E E1 H H1 h h1)(b:Nx E1 E2 H1 H2 h1 h2):Nx E E2 H H2 h h2 where
 e:=a.e.trans b.e a.le
 le:=Nat.le_trans a.le b.le
 ud:=Nat.le_trans a.ud b.ud
 ow r id k e:=by
  rcases b.ow r id k e with⟨r0,k0,e0⟩|k0
  ·exact a.ow r0 id k0 e0
  ·exact .inr (Nat.le_trans a.ud k0)
 gw id row e:=by
  rcases b.gw id row e with k|⟨r0,k0,e0⟩|k
  ·exact a.gw id row k
  ·rcases a.ow r0 id k0 e0 with k|k
   ·exact .inr (.inl k)
   ·exact .inr (.inr k)
  ·exact .inr (.inr (Nat.le_trans a.ud k))
 fr id hi hn:=by
  rw[b.fr id (Nat.lt_of_lt_of_le hi a.ud) fun r k e=>?_,a.fr id hi hn]
  rcases a.ow r id k e with⟨r0,k0,e0⟩|k0
  ·exact hn r0 k0 e0
  ·omega
theorem TV.mono{E E':En}{N N':Nat}{T:Tq}{t:Tm}(h:TV E N T t)(e:pL E E' N)(hN:N<=N'):TV E' N' T t:=fun i v hi hv=>by
 obtain⟨a,h1,h2⟩:=h i v hi hv
 exact⟨a,h1,h2.mono e hN⟩
theorem Tq.fj(t:Tq)(i j:Nat)(x:Option Sv)(hi:i<512)(hj:j<512):(t.put i x).at j=if j=i then x else t.at j:=by
 unfold Tq.at Tq.put
 rw[F8.lg _ _ _ _ (by omega) (by omega)]
 by_cases h1:j / 64=i / 64
 ·rw[if_pos h1,F8.lg _ _ _ _ (by omega) (by omega)]
  by_cases h2:j / 8 % 8=i / 8 % 8
  ·rw[if_pos h2,F8.lg _ _ _ _ (by omega) (by omega)]
   by_cases h3:j % 8=i % 8
   ·rw[if_pos h3,if_pos (by omega)]
   ·rw[if_neg h3,if_neg (by omega),h1,h2]
  ·rw[if_neg h2,if_neg (by omega),h1]
 ·rw[if_neg h1,if_neg (by omega)]
section
variable {α β:Type}
theorem T.Eo(c:Bool)(a b:T α):(T.br c a b).val=bif c then a.val else b.val:=rfl
theorem T.Oa(c:Bool)(a:T α):(T.ck c a).val=bif c then a.val else none:=rfl
theorem T.Ep(x:T α)(f:α->T β):(x.bd f).val=x.val.bind fun a=>(f a).val:=by
 induction x with
 |bad=>rfl
 |ok a=>rfl
 |br c a b ma pV=>
  show(bif c then(a.bd f).val else(b.bd f).val)=(bif c then a.val else b.val).bind _
  cases c<;>simp[ma,pV]
 |ck c a ih=>
  show(bif c then(a.bd f).val else none)=(bif c then a.val else none).bind _
  cases c<;>simp[ih]
theorem T.cD{x:T α}{f:α->T β}{b:β}(h:(x.bd f).val=some b): ∃ a,x.val=some a/\(f a).val=some b:=by
 rw[T.Ep]at h
 cases e:x.val with
 |none=>rw[e]at h;cases h
 |some a=>rw[e]at h;exact⟨a,rfl,h⟩
theorem T.bU{c:Bool}{x:T α}{b:α}(h:(T.ck c x).val=some b):c=true/\x.val=some b:=by
 rw[T.Oa]at h;exact bb h
theorem kQ{c:LB}{x:T α}{b:α}(h:(Yq c x).val=some b):c.v=true/\x.val=some b:=by
 cases c with
 |l c=>cases c with
  |true=>exact⟨rfl,h⟩
  |false=>cases h
 |t c=>exact T.bU h
end
def Ev{α:Type}(p:Nat->Nat->α)(r:α):Prop:= ∃ M,∀ n d,M<=n->M<=d->p n d=r
theorem Ev.const{α:Type}{x r:α}(h:x=r):Ev (fun _ _=>x) r:=⟨0,fun _ _ _ _=>h⟩
abbrev aV:=Nat->Nat->bP
abbrev R9:=Nat->Nat->dg
def dn(f:dq)(g:R9):Prop:= ∀ (E:En) (T:Tq) (t:Tm) (H:Hq) (h:Hp) (v:Sv) (T':Tq) (H':Hq),TV E H.next T t->SR E H h->(f T H).val=some (v,T',H')->
 ∃ c h' E',Ev (fun n d=>g n d t h) (.ok c h')/\Nx E E' H H' h h'/\SR E' H' h'/\V E' H'.next v c/\TV E' H'.next T' t
theorem cq{f:dq}{g:dg}(k: ∀ (E:En) (T:Tq) (t:Tm) (H:Hq) (h:Hp) (v:Sv) (T':Tq) (H':Hq),TV E H.next T t->SR E H h->(f T H).val=some (v,T',H')->H'=H/\T'=T/\ ∃ c,g t h=.ok c h/\V E H.next v c):dn f (fun _ _=>g):=by
 intro E T t H h v T' H' hT hH e
 obtain⟨rfl,rfl,c,e1,hv⟩:=k E T t H h v T' H' hT hH e
 exact⟨c,h,E,Ev.const e1,Nx.refl _ _ _,hH,hv,hT⟩
theorem IT{g:R9}:dn (fun _ _=>.bad) g:=by intro E T t H h v T' H' _ _ e;cases e
end Lf
end Go.Ab

noncomputable section
namespace Go.Ab
namespace Lf
section
variable {E:En}{N:Nat}
theorem Er{a:AV}{b:Sv}(h:RZ a=some b):V E N b a:=by
 unfold RZ at h
 split at h
 ·cases h;exact .i
 ·cases h;exact .b
 ·cases h;exact .a rfl
 ·cases h;exact .a rfl
 ·cases h;exact .a rfl
 ·cases h;exact .tu .nil
 ·cases h;exact .fn .nil
 ·cases h
theorem nq{l:List AV}: ∀ {m:List Sv},BK l=some m->Vs E N m l:=by
 induction l with
 |nil=>intro m h;cases h;exact .nil
 |cons a l ih=>
  intro m h
  change (match RZ a with|some b=>(match BK l with|some r=>some (b::r)|none=>none)|none=>none)=some m at h
  split at h
  ·rename_i b hb
   split at h
   ·rename_i r hr;cases h;exact .cons (Er hb) (ih hr)
   ·cases h
  ·cases h
theorem bu{T:Tq}{t:Tm}(hT:TV E N T t){o:Od}{a:Sv}(h:fO o T=some a): ∃ c,bz o t=some c/\V E N a c:=by
 cases o with
 |t i=>
  change (bif Nat.blt i 512 then T.at i else none)=some a at h
  obtain⟨hi,h⟩:=bb h
  exact hT i a (bh.1 hi) h
 |c v=>exact⟨v,rfl,Er h⟩
 |zz=>cases h
 |w o=>cases h
theorem iX{T:Tq}{t:Tm}(hT:TV E N T t){o:Od}{a:Sv}(h:QJ o T=some a): ∃ c,bz o t=some (nP c)/\V E N a c:=by
 cases o with
 |w o=>
  obtain⟨c,hc,hv⟩:=bu hT (o:=o) h
  refine⟨c,?_,hv⟩
  show(Option.rec none (fun a=>some (nP a)) (bz o t):Option AV)=_
  rw[hc]
 | _=>cases h
theorem ue{T:Tq}{t:Tm}(hT:TV E N T t): ∀ {l:List Od} {vs:List Sv},D6 l T=some vs->(∃ cs,nQ (l.map bz) t=some cs/\Vs E N vs cs):=by
 intro l
 induction l with
 |nil=>intro vs h;cases h;exact⟨[],rfl,.nil⟩
 |cons o l ih=>
  intro vs h
  change (match fO o T with|some v=>(match D6 l T with|some vs=>some (v::vs)|none=>none)|none=>none)=some vs at h
  split at h
  ·rename_i v hv
   split at h
   ·rename_i us hu
    cases h
    obtain⟨c,hc,dR⟩:=bu hT hv
    obtain⟨cs,fh,Ob⟩:=ih hu
    refine⟨c::cs,?_,.cons dR Ob⟩
    show(Option.rec none (fun v=>Option.rec none (fun vs=>some (v::vs)) (nQ (l.map bz) t)) (bz o t):Option (List AV))=_
    rw[hc,fh]
   ·cases h
  ·cases h
theorem eF{v:Sv}{x:LB}{a:AV}(h:V E N v a)(e:toB v=some x):a=.bool x.v:=by
 cases h with
 |b=>cases e;rfl
 |c k _=>
  unfold toB at e
  split at e
  ·rename_i h;cases h
  ·rename_i h;cases h;cases e
   have k':[a]=[AV.bool _]:=k
   injection k'
  ·cases e
 | _=>cases e
theorem eG{v:Sv}{k:IntKind}{n:Int}{a:AV}(h:V E N v a)(e:toN v=some (k,n)):a=.int k n:=by
 cases h with
 |i=>cases e;rfl
 |c q _=>
  unfold toN at e
  split at e
  ·rename_i h;cases h
  ·rename_i h;cases h;cases e
   have k':[a]=[AV.int _ _]:=q
   injection k'
  ·cases e
 | _=>cases e
theorem j8{v:Sv}{l:Bool}{s:ByteArray}{a:AV}(h:V E N v a)(e:toS v=some (l,s)):a=.sc (.string s):=by
 cases h with
 |a h=>
  unfold toS at e
  split at e
  ·rename_i h;cases h;cases e;rfl
  ·rename_i h;cases h
  ·cases e
 |c q _=>
  unfold toS at e
  split at e
  ·rename_i h;cases h
  ·rename_i h;cases h;cases e
   have k':[a]=[AV.sc (.string _)]:=q
   injection k'
  ·cases e
 | _=>cases e
theorem dO{k:IntKind}{n:Int}:V E N (.c 0 (.int k) n) (.int k n):=.c rfl fun h=>(h rfl).elim
theorem gT{b:Bool}:V E N (.c 0 .bool b) (.bool b):=.c rfl fun h=>(h rfl).elim
theorem Oe{c:LB}:V E N (svB c) (.bool c.v):=by cases c with
 |l b=>exact .b
 |t b=>exact gT
theorem ov{α:Type}{j:Od}{T:Tq}{t:Tm}{a b:Tq->Lf.T α}{r:α}(hT:TV E N T t)(h:(mm j T a b).val=some r):
 ∃ c T1,bz j t=some (.bool c)/\TV E N T1 t/\(c=true->(a T1).val=some r)/\(c=false->(b T1).val=some r):=by
 unfold mm at h
 split at h
 ·rename_i i
  cases hb:Nat.blt i 512 with
  |false=>rw[hb]at h;cases h
  |true=>
   rw[hb]at h
   simp only[cond_true]at h
   split at h
   ·rename_i c hc
    obtain⟨x,hx,hv⟩:=hT i _ (bh.1 hb) hc
    cases hv
    refine⟨c,T,hx,hT,fun e=>?_,fun e=>?_⟩<;>subst e<;>exact h
   ·rename_i m x hc
    obtain⟨y,hy,hv⟩:=hT i _ (bh.1 hb) hc
    have:=eF hv rfl
    subst this
    have key: ∀ c:Bool,c=x->TV E N (T.put i (some (.b c))) t:=by
     intro c hcx j v hj hv
     rw[Tq.fj _ _ _ _ (bh.1 hb) hj]at hv
     split at hv
     ·rename_i e;subst e;cases hv;exact⟨_,hy,by rw[hcx];exact .b⟩
     ·exact hT j v hj hv
    cases x with
    |true=>exact⟨true,_,hy,key true rfl,fun _=>h,fun e=>by cases e⟩
    |false=>exact⟨false,_,hy,key false rfl,(fun e=>by cases e),fun _=>h⟩
   ·cases h
 ·rename_i c
  refine⟨c,T,rfl,hT,fun e=>?_,fun e=>?_⟩<;>subst e<;>exact h
 ·cases h
theorem qO(x:Od):dn (qI x) (fun _ _=>aa (bz x)):=cq (by
 intro E T t H h v T' H' hT hH e
 unfold qI okO at e
 split at e
 ·rename_i v' hv
  cases e
  obtain⟨c,hc,dR⟩:=bu hT hv
  refine⟨rfl,rfl,c,?_,dR⟩
  show(Option.rec Go.Ab.Ro.bad (fun v=>Go.Ab.Ro.ok v h) (bz x t):Go.Ab.Ro)=_
  rw[hc]
 ·cases e)
theorem Es(c a b:Od):dn (LH c a b) (fun _ _=>aO (bz c) (bz a) (bz b)):=by
 intro E T t H h v T' H' hT hH e
 obtain⟨x,T1,hx,mB,h1,h2⟩:=ov hT e
 have hk:aO (bz c) (bz a) (bz b) t h=bif x then aa (bz a) t h else aa (bz b) t h:=by unfold aO;rw[hx]
 cases x with
 |true=>
  obtain⟨c',h',E',e1,e2⟩:=qO a E T1 t H h v T' H' mB hH (h1 rfl)
  exact⟨c',h',E',by simp only[hk];exact e1,e2⟩
 |false=>
  obtain⟨c',h',E',e1,e2⟩:=qO b E T1 t H h v T' H' mB hH (h2 rfl)
  exact⟨c',h',E',by simp only[hk];exact e1,e2⟩
theorem iB{v:Option Sv}{t T':Tq}{h H':Hq}{w:Sv}(e:(okO v t h).val=some (w,T',H')):v=some w/\T'=t/\H'=h:=by
 unfold okO at e
 split at e
 ·cases e;exact⟨rfl,rfl,rfl⟩
 ·cases e
theorem ba{v:Sv}{t T':Tq}{h H':Hq}{w:Sv}(e:(okV v t h).val=some (w,T',H')):v=w/\T'=t/\H'=h:=by cases e;exact⟨rfl,rfl,rfl⟩
theorem we(a:Od)(i:Nat):dn (nm a i) (fun _ _=>aD (bz a) i):=cq (by
 intro E T t H h v T' H' hT hH e
 unfold nm at e
 split at e
 ·rename_i vs hv
  obtain⟨e1,rfl,rfl⟩:=iB e
  obtain⟨c,hc,dR⟩:=bu hT hv
  cases dR with
  |tu k=>
   rw[dW]at e1
   obtain⟨c,h1,h2⟩:=k.get e1
   refine⟨rfl,rfl,c,?_,h2⟩
   unfold aD
   rw[hc]
   simp only[dW,h1]
 ·cases e)
theorem BP(off size:Nat)(agg:Bool)(a:Od):dn (tY off size agg a) (fun _ _=>ij off size agg (bz a)):=cq (by
 intro E T t H h v T' H' hT hH e
 unfold tY at e
 split at e
 ·rename_i vs hv
  obtain⟨e1,rfl,rfl⟩:=iB e
  obtain⟨c,hc,dR⟩:=bu hT hv
  cases dR with
  |ag k=>
   obtain⟨c,h1,h2⟩:=jq k e1
   refine⟨rfl,rfl,c,?_,h2⟩
   unfold ij
   rw[hc]
   simp only[h1]
 ·cases e)
theorem Of(f:FuncId)(cap:List Od):dn (ZD f cap) (fun _ _=>GF f (cap.map bz)):=cq (by
 intro E T t H h v T' H' hT hH e
 unfold ZD at e
 split at e
 ·rename_i vs hv
  obtain⟨rfl,rfl,rfl⟩:=ba e
  obtain⟨c,hc,dR⟩:=ue hT hv
  refine⟨rfl,rfl,_,?_,.fn dR⟩
  unfold GF
  rw[hc]
 ·cases e)
theorem IU(a:Od):dn (zI a) (fun _ _=>aA (bz a)):=cq (by
 intro E T t H h v T' H' hT hH e
 unfold zI at e
 split at e
 all_goals first
  |(cases e;done)
  |(rename_i hv
    obtain⟨rfl,rfl,rfl⟩:=ba e
    obtain⟨c,hc,dR⟩:=bu hT hv
    refine⟨rfl,rfl,c,?_,dR⟩
    unfold aA
    rw[hc]
    cases dR<;>rfl))
theorem rM(off:Nat)(a:Od):dn (jO off a) (fun _ _=>ab off (bz a)):=cq (by
 intro E T t H h v T' H' hT hH e
 unfold jO at e
 split at e
 ·rename_i r o hv
  obtain⟨rfl,rfl,rfl⟩:=ba e
  obtain⟨c,hc,dR⟩:=bu hT hv
  cases dR with
  |rf h1 h2=>exact⟨rfl,rfl,_,by unfold ab;rw[hc],.rf h1 h2⟩
 ·rename_i r s i o hv
  obtain⟨rfl,rfl,rfl⟩:=ba e
  obtain⟨c,hc,dR⟩:=bu hT hv
  cases dR with
  |re h1 h2 h3=>exact⟨rfl,rfl,_,by unfold ab;rw[hc],by have:=V.re (o:=o+off) h1 h2 h3;rw[<-Nat.add_assoc]at this;exact this⟩
 ·rename_i l hv
  cases hb:Nat.ble off (len l)with
  |false=>rw[hb]at e;cases e
  |true=>
   rw[hb]at e
   obtain⟨rfl,rfl,rfl⟩:=ba e
   have hle:off<=l.length:=by have:=Nat.le_of_ble_eq_true hb;rwa [bE]at this
   obtain⟨c,hc,dR⟩:=bu hT hv
   rw[fC]
   cases dR with
   |zp k=>
    rename_i l' r
    refine⟨rfl,rfl,_,by unfold ab;rw[hc],?_⟩
    rw[fC,List.drop_append_of_le_length (by rw[<-k.length];exact hle)]
    exact .zp (k.drop off)
   |zr k g s=>
    rename_i l' id o row
    refine⟨rfl,rfl,_,by unfold ab;rw[hc],?_⟩
    refine .zr (k.drop off) g ?_
    obtain⟨s1,s2⟩:=cP.1 s
    rw[List.length_drop]
    refine cP.2 ⟨by have e1:Nat.add o off=o+off:=rfl;omega,?_⟩
    rw[s2,List.drop_take,List.drop_drop]
    rfl
 ·cases e)
end
end Lf
end Go.Ab
