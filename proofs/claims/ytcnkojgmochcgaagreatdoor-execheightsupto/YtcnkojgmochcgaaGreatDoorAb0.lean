import Derived.Calls
import Derived.Laws.Sem
import Derived.Laws.AppendOwn
import Derived.Laws.MakeOwn
import Derived.Laws.CopyRow
noncomputable section
namespace Go.Ab
def gD{α:Type}(c:Bool)(a b:α):α:=Bool.rec b a c
inductive Tr (α:Type) where
 |nil
 |node (l:Tr α) (v:Option α) (r:Tr α)
def Tr.get{α:Type}(t:Tr α):Nat->Option α:=
 Tr.rec (fun _=>none) (fun _ v _ gl gr n=>Bool.rec (Bool.rec (gr (Nat.sub (Nat.div n 2) 1)) (gl (Nat.div n 2)) (Nat.beq (Nat.mod n 2) 1)) v (Nat.beq n 0)) t
def Tr.lf{α:Type}(t:Tr α):Tr α:=Tr.rec .nil (fun l _ _ _ _=>l) t
def Tr.rt{α:Type}(t:Tr α):Tr α:=Tr.rec .nil (fun _ _ r _ _=>r) t
def Tr.hd{α:Type}(t:Tr α):Option α:=Tr.rec none (fun _ v _ _ _=>v) t
def Tr.BP{α:Type}(f:Nat):Tr α->Nat->Option α->Tr α:=
 Nat.rec (fun t _ _=>t) (fun _ go t n x=>
  Bool.rec (Bool.rec (.node t.lf t.hd (go t.rt (Nat.sub (Nat.div n 2) 1) x)) (.node (go t.lf (Nat.div n 2) x) t.hd t.rt) (Nat.beq (Nat.mod n 2) 1))
   (.node t.lf x t.rt) (Nat.beq n 0)) f
def Tr.set{α:Type}(t:Tr α)(n:Nat)(x:Option α):Tr α:=Tr.BP (Nat.succ n) t n x
structure F8(α:Type) where
 a0:α
 a1:α
 a2:α
 a3:α
 a4:α
 a5:α
 a6:α
 a7:α
def F8.xR{α:Type}(f:F8 α):Nat->α
 |0=>f.a0|1=>f.a1|2=>f.a2|3=>f.a3|4=>f.a4|5=>f.a5|6=>f.a6| _=>f.a7
def F8.BC{α:Type}(f:F8 α)(x:α):Nat->F8 α
 |0=>⟨x,f.a1,f.a2,f.a3,f.a4,f.a5,f.a6,f.a7⟩
 |1=>⟨f.a0,x,f.a2,f.a3,f.a4,f.a5,f.a6,f.a7⟩
 |2=>⟨f.a0,f.a1,x,f.a3,f.a4,f.a5,f.a6,f.a7⟩
 |3=>⟨f.a0,f.a1,f.a2,x,f.a4,f.a5,f.a6,f.a7⟩
 |4=>⟨f.a0,f.a1,f.a2,f.a3,x,f.a5,f.a6,f.a7⟩
 |5=>⟨f.a0,f.a1,f.a2,f.a3,f.a4,x,f.a6,f.a7⟩
 |6=>⟨f.a0,f.a1,f.a2,f.a3,f.a4,f.a5,x,f.a7⟩
 | _=>⟨f.a0,f.a1,f.a2,f.a3,f.a4,f.a5,f.a6,x⟩
def F8.all{α:Type}(x:α):F8 α:=⟨x,x,x,x,x,x,x,x⟩
inductive SV where
 |var (i:Nat)
 |GQ (i:Nat)
 |umod (i c:Nat)
 |lin (i:Nat) (m:Int)
 |dig (i p m:Nat)
 |cl (i:Nat) (l h:Int)
 |pr (i:Nat) (l h:Int) (j:Nat)
 |ad (i j:Nat) (l h:Int)
 |Lu (n:Int)
 |sm (l:List Nat)
 |ix (l:List Nat) (a:SV) (o:Int)
 |tm (f:Nat) (k k':IntKind) (a:SV) (oa:Int) (b:SV) (ob:Int)
 |bits (l:List Nat)
inductive AV where
 |int (k:IntKind) (n:Int)
 |bool (b:Bool)
 |sc (v:Value)
 |agg (cs:List AV)
 |qP (vs:List AV)
 |ref (id off:Nat)
 |dV (id off len sz:Nat)
 |iw (len:Nat) (cs:List AV)
 |gj (cs:List AV)
 |eD
 |mI
 |fn (f:FuncId) (cap:List AV)
 |sym (k:IntKind) (s:SV) (lo hi off:Int)
 |any
 deriving Inhabited
abbrev Tm:=F8 (F8 (F8 (Option AV)))
def Tm.at(t:Tm)(i:Nat):Option AV:=((t.xR (i / 64)).xR (i / 8 % 8)).xR (i % 8)
def Tm.put(t:Tm)(i:Nat)(v:Option AV):Tm:=t.BC ((t.xR (i / 64)).BC (((t.xR (i / 64)).xR (i / 8 % 8)).BC v (i % 8)) (i / 8 % 8)) (i / 64)
def Tm.none:Tm:=F8.all (F8.all (F8.all Option.none))
structure Rw where
 n:Nat
 d:List AV
 t:Tr AV
structure Hp where
 next:Nat
 aU:Tr Rw
inductive Ro where
 |bad
 |ok (v:AV) (h:Hp)
inductive Rt where
 |bad
 |ok (t:Tm) (h:Hp)
inductive Rc where
 |bad
 |norm (t:Tm) (h:Hp)
 |ret (t:Tm) (h:Hp)
 |exit (i:Nat) (t:Tm) (h:Hp)
abbrev eR:=Tm->Option AV
abbrev eP:=Tm->Hp->Ro
abbrev me:=Tm->Hp->Rt
abbrev wy:=Tm->Hp->Rc
abbrev cY:=FuncId->List AV->Hp->Ro
def app{α:Type}(l r:List α):List α:=List.rec r (fun a _ ih=>a::ih) l
def len{α:Type}(l:List α):Nat:=List.rec (fun n=>n) (fun _ _ ih n=>ih (Nat.add n 1)) l (0:Nat)
def tk{α:Type}(n:Nat)(l:List α):List α:=
 List.rec (fun _=>[]) (fun a _ ih n=>Bool.rec (a::ih (Nat.sub n 1)) [] (Nat.beq n 0)) l n
def dp{α:Type}(n:Nat)(l:List α):List α:=
 List.rec (fun _=>[]) (fun a r ih n=>Bool.rec (ih (Nat.sub n 1)) (a::r) (Nat.beq n 0)) l n
def kE{α:Type}(l:List α)(n:Nat):Option α:=
 List.rec (fun _=>none) (fun a _ ih n=>Bool.rec (ih (Nat.sub n 1)) (some a) (Nat.beq n 0)) l n
def fB{α:Type}(p:α->Bool)(l:List α):Bool:=List.rec true (fun a _ ih=>bif p a then ih else false) l
def leaf:Value->Option AV
 | .int k n=>some (.int k n)
 | .bool b=>some (.bool b)
 | .string s=>some (.sc (.string s))
 | .pointer none=>some (.sc (.pointer none))
 | .slice none 0 0=>some (.sc (.slice none 0 0))
 | .map none=>some (.sc (.map none))
 | .nilFunc=>some (.sc .nilFunc)
 | .nilIface=>some (.sc .nilIface)
 | _=>none
def leaves(l:List Value):Option (List AV):=
 List.rec (some []) (fun v _ ih=>match leaf v with
  |some a=>match ih with
   |some r=>some (a::r)
   |none=>none
  |none=>none) l
def LN:Value->Option AV
 | .agg cs=>match leaves cs.toList with|some l=>some (.agg l)|none=>none
 | .tuple cs=>match leaves cs.toList with|some l=>some (.qP l)|none=>none
 |v=>leaf v
def AV.cells:AV->List AV
 | .agg cs=>cs
 |v=>[v]
def dU:AV->Bool
 | .agg _| .qP _=>false
 | _=>true
def gk:AV:=.qP []
def isNil:AV->Bool
 | .sc (.slice none n c)=>Nat.beq n 0&&Nat.beq c 0
 | _=>false
def qu:AV->Bool
 | .mI=>true
 |a=>isNil a
def Lv:AV->Bool
 | .mI=>true
 | .eD=>true
 | .dV _ _ n _=>Nat.beq n 0
 | .iw n _=>Nat.beq n 0
 |a=>isNil a
def sy(a:AV):AV:=bif qu a then .eD else a
def xS(a:AV):Option Bool:=bif isNil a then some true else match a with
 | .mI=>some false
 | .dV _ _ _ _=>some false
 | .iw n _=>bif Nat.beq n 0 then none else some false
 | _=>none
def Rw.cell(r:Rw)(i:Nat):AV:=Option.rec (Option.rec gk (fun v=>v) (kE r.d (Nat.mod i (len r.d)))) (fun v=>v) (r.t.get i)
def Rw.cells(r:Rw)(k:Nat):Nat->List AV:=Nat.rec (fun _=>[]) (fun _ ih i=>r.cell i::ih (Nat.add i 1)) k
def Rw.toL(r:Rw):List AV:=r.cells r.n 0
def lN(l:List AV):Nat->Tr AV->Tr AV:=List.rec (fun _ t=>t) (fun a _ ih i t=>ih (Nat.add i 1) (t.set i (some a))) l
def uq(l:List AV):Rw:=⟨len l,[],lN l 0 .nil⟩
def Rw.jd(r:Rw)(off k:Nat):Option (List AV):=bif Nat.ble (Nat.add off k) r.n then some (r.cells k off)else none
def Rw.put(r:Rw)(off:Nat)(l:List AV):Rw:=⟨r.n,r.d,lN l off r.t⟩
def Rw.app(r:Rw)(l:List AV):Rw:=⟨Nat.add r.n (len l),r.d,lN l r.n r.t⟩
def Rw.upto(r:Rw)(m:Nat):Rw:=⟨m,r.d,r.t⟩
def Rw.sub(r:Rw)(off k:Nat):Option Rw:=bif Nat.ble (Nat.add off k) r.n then some (bif Nat.beq off 0 then r.upto k else uq (r.cells k off))else none
def oT(i:Nat):eR:=fun t=>Tm.at t i
def wO(x:eR):eR:=fun t=>Option.rec none (fun a=>some (sy a)) (x t)
abbrev WG:=AV->Tm->Tm
def sT(i:Nat):WG:=fun v t=>Tm.put t i (some v)
def oC(v:AV):eR:=fun _=>some v
def oX:eR:=fun _=>none
def sA(l:List eR)(t:Tm):Option (List AV):=
 List.rec (some []) (fun o _ ih=>Option.rec none (fun v=>Option.rec none (fun vs=>some (v::vs)) ih) (o t)) l
def dK(h:Hp)(cs:Rw):Hp:=⟨Nat.add h.next 1,h.aU.set h.next (some cs)⟩
def gY(h:Hp)(id:Nat)(cs:Option Rw):Hp:=⟨h.next,h.aU.set id cs⟩
def fM(k:IntKind)(n:Int):Int:=
 match k with
 | .u8=>Int.emod n 256| .u16=>Int.emod n 65536| .u32=>Int.emod n 4294967296| .u64=>Int.emod n 18446744073709551616
 | .i8=>Int.sub (Int.emod (Int.add n 128) 256) 128| .i16=>Int.sub (Int.emod (Int.add n 32768) 65536) 32768
 | .i32=>Int.sub (Int.emod (Int.add n 2147483648) 4294967296) 2147483648
 | .i64=>Int.sub (Int.emod (Int.add n 9223372036854775808) 18446744073709551616) 9223372036854775808
def ka:IntKind->IntKind->Bool
 | .i8,.i8| .i16,.i16| .i32,.i32| .i64,.i64| .u8,.u8| .u16,.u16| .u32,.u32| .u64,.u64=>true
 | _,_=>false
def p5:Int->Int->Bool
 | .ofNat a,.ofNat b=>Nat.blt a b
 | .ofNat _,.negSucc _=>false
 | .negSucc _,.ofNat _=>true
 | .negSucc a,.negSucc b=>Nat.blt b a
def eqI:Int->Int->Bool
 | .ofNat a,.ofNat b=>Nat.beq a b
 | .negSucc a,.negSucc b=>Nat.beq a b
 | _,_=>false
def j2(s:Sem Value):Option Value:=
 match s with
 | .pure v=>some v
 | _=>none
def mX(f:IntKind->Int->Int->Option AV)(x y:AV):Option AV:=
 match x,y with
 | .int k a,.int k' b=>bif ka k k' then f k a b else none
 | _,_=>none
def R7:AV->AV->Option AV:=mX fun k a b=>some (.int k (fM k (Int.add a b)))
def R8:AV->AV->Option AV:=mX fun k a b=>some (.int k (fM k (Int.sub a b)))
def R9:AV->AV->Option AV:=mX fun k a b=>some (.int k (fM k (Int.mul a b)))
def LO:AV->AV->Option AV:=mX fun k a b=>bif eqI b 0 then none else some (.int k (fM k (Int.tdiv a b)))
def LP:AV->AV->Option AV:=mX fun k a b=>bif eqI b 0 then none else some (.int k (Int.tmod a b))
def Sa:AV->AV->Option AV:=mX fun _ a b=>some (.bool (p5 a b))
def Sb:AV->AV->Option AV:=mX fun _ a b=>some (.bool (!(p5 b a)))
def Sc:AV->AV->Option AV:=mX fun _ a b=>some (.bool (p5 b a))
def Sd:AV->AV->Option AV:=mX fun _ a b=>some (.bool (!(p5 a b)))
def tw:IntKind->Nat
 | .i8=>128| .i16=>32768| .i32=>2147483648| .i64=>9223372036854775808
 | .u8=>256| .u16=>65536| .u32=>4294967296| .u64=>18446744073709551616
def GR:IntKind->Nat
 | .i8| .u8=>8| .i16| .u16=>16| .i32| .u32=>32| .i64| .u64=>64
def uQ(s:Option Value):Option AV:=match s with
 |some v=>LN v
 |none=>none
def w5(op:BinOp)(f:Nat->Nat->Nat):AV->AV->Option AV:=mX fun k a b=>
 match a,b with
 | .ofNat a,.ofNat b=>bif Nat.blt a (tw k)&&Nat.blt b (tw k)then some (.int k (.ofNat (f a b)))else uQ (j2 (Op.intBits op k (.ofNat a) (.ofNat b)))
 |a,b=>uQ (j2 (Op.intBits op k a b))
def LQ:AV->AV->Option AV:=w5 .and Nat.land
def bOr:AV->AV->Option AV:=w5 .or Nat.lor
def LS:AV->AV->Option AV:=w5 .xor Nat.xor
def nG:AV->AV->Option AV:=mX fun k a b=>uQ (j2 (Op.intBits .andNot k a b))
def uR(a b:Nat):Nat:=bif Nat.ble a b then a else b
def BQ(x y:AV):Option AV:=
 match x,y with
 | .int k a,.int _ (.ofNat n)=>some (.int k (fM k (Int.mul a (.ofNat (Nat.pow 2 (uR n (GR k)))))))
 | _,_=>none
def BR(x y:AV):Option AV:=
 match x,y with
 | .int k a,.int _ (.ofNat n)=>some (.int k (Int.fdiv a (.ofNat (Nat.pow 2 (uR n (GR k))))))
 | _,_=>none
def eqStr(a b:ByteArray):Bool:=a.toList == b.toList
def GS(neg:Bool):AV->AV->Option AV:=mX fun _ a b=>some (.bool (bif neg then !(eqI a b)else eqI a b))
def xU(neg:Bool)(x y:AV):Option AV:=
 match x,y with
 | .bool a,.bool b=>some (.bool (bif neg then xor a b else !(xor a b)))
 | _,_=>none
def uS(neg:Bool)(x y:AV):Option AV:=
 match x,y with
 | .sc (.string a),.sc (.string b)=>some (.bool (bif neg then !(eqStr a b)else eqStr a b))
 | _,_=>none
def kW(neg:Bool)(x y:AV):Option AV:=
 match x,y with
 | .ref _ _,.sc (.pointer none)| .gj _,.sc (.pointer none)| .sc (.pointer none),.ref _ _| .sc (.pointer none),.gj _=>some (.bool neg)
 | .sc (.pointer none),.sc (.pointer none)=>some (.bool (!neg))
 | _,_=>none
def kX(neg:Bool)(x y:AV):Option AV:=bif isNil y then Option.rec none (fun b=>some (.bool (bif neg then !b else b))) (xS x)else none
def V0:IntKind->Int
 | .i8=> -128| .i16=> -32768| .i32=> -2147483648| .i64=> -9223372036854775808| _=>0
def Se:IntKind->Int
 | .i8=>127| .i16=>32767| .i32=>2147483647| .i64=>9223372036854775807
 | .u8=>255| .u16=>65535| .u32=>4294967295| .u64=>18446744073709551615
def LU:IntKind->Int
 | .i8| .u8=>256| .i16| .u16=>65536| .i32| .u32=>4294967296| .i64| .u64=>18446744073709551616
def sB:List Nat->List Nat->Bool
 | [],[]=>true
 |a::l,b::m=>bif Nat.beq a b then sB l m else false
 | _,_=>false
def mY:SV->SV->Bool
 | .var i,.var j=>Nat.beq i j
 | .GQ i,.GQ j=>Nat.beq i j
 | .umod i c,.umod j d=>Nat.beq i j&&Nat.beq c d
 | .lin i m,.lin j n=>Nat.beq i j&&eqI m n
 | .dig i p m,.dig j q n=>Nat.beq i j&&(Nat.beq p q&&Nat.beq m n)
 | .bits l,.bits m=>sB l m
 | .Lu m,.Lu n=>eqI m n
 | .sm l,.sm m=>sB l m
 | .cl i l h,.cl i' l' h'=>Nat.beq i i'&&(eqI l l'&&eqI h h')
 | .pr i l h j,.pr i' l' h' j'=>Nat.beq i i'&&(eqI l l'&&(eqI h h'&&Nat.beq j j'))
 | .ad i j l h,.ad i' j' l' h'=>Nat.beq i i'&&(Nat.beq j j'&&(eqI l l'&&eqI h h'))
 | _,_=>false
def E5(a:SV):SV->Bool:=
 SV.rec (motive:=fun _=>SV->Bool) (fun i=>mY (.var i)) (fun i=>mY (.GQ i)) (fun i c=>mY (.umod i c)) (fun i m=>mY (.lin i m)) (fun i p m=>mY (.dig i p m))
  (fun i l h=>mY (.cl i l h)) (fun i l h j=>mY (.pr i l h j)) (fun i j l h=>mY (.ad i j l h)) (fun n=>mY (.Lu n)) (fun l=>mY (.sm l))
  (fun l _ o qv y=>match y with
   | .ix l2 a2 o2=>sB l l2&&(eqI o o2&&qv a2)
   | _=>false)
  (fun f k k' _ oa _ ob qv uT y=>match y with
   | .tm f2 k2 k2' a2 oa2 b2 ob2=>Nat.beq f f2&&(ka k k2&&(ka k' k2'&&(eqI oa oa2&&(eqI ob ob2&&(qv a2&&uT b2)))))
   | _=>false) (fun l=>mY (.bits l)) a
def Sf(k:IntKind)(lo hi off:Int):Bool:= !(p5 (Int.add lo off) (V0 k))&& !(p5 (Se k) (Int.add hi off))
def LV(k:IntKind)(s:SV)(lo hi off:Int):Option AV:=
 bif Sf k lo hi off then some (.sym k s lo hi off)else
 bif Sf k lo hi (Int.add off (LU k))then some (.sym k s lo hi (Int.add off (LU k)))else
 bif Sf k lo hi (Int.sub off (LU k))then some (.sym k s lo hi (Int.sub off (LU k)))else none
def WH(b:List Nat)(a:List Nat):Option (List Nat):=List.rec (bif sB [] b then some []else none) (fun x r ih=>bif sB (x::r) b then some []else match ih with
 |some m=>some (x::m)
 |none=>none) a
def aj'(x y:AV):Option AV:=match x,y with
 | .sym k s lo hi o,.int k' c=>bif ka k k' then LV k s lo hi (Int.sub o c)else none
 | .sym k s lo hi o,.sym k' s' lo' sC o'=>bif ka k k'&&E5 s s' then some (.int k (fM k (Int.sub o o')))else bif ka k k' then(match s,s' with
  | .ad i j l h,.var i'=>bif Nat.beq i i'&& !(p5 h l)then LV k (.cl j l h) l h (Int.sub o o')else none
  | .sm a,.sm b=>(match WH b a with
   |some m=>LV k (.sm m) (Int.sub lo sC) (Int.sub hi lo') (Int.sub o o')
   |none=>none)
  | .sm a,.var i=>(match WH [i] a with
   |some m=>LV k (.sm m) (Int.sub lo sC) (Int.sub hi lo') (Int.sub o o')
   |none=>none)
  | _,_=>none)else none
 | _,_=>none
def WI(_ _:AV):Option Bool:=none
def LW(w:Nat):Nat->List Nat:=Nat.rec (fun _=>[]) (fun _ ih n=>Nat.mod n 2::ih (Nat.div n 2)) w
def Dg(w:Nat):Nat->List Nat:=Nat.rec (fun _=>[]) (fun _ ih b=>b::ih (Nat.add b 1)) w
def WJ(n:Nat):List Nat:=Nat.rec [] (fun _ ih=>(0:Nat)::ih) n
def hiB(l:List Nat):Nat:=List.rec (0:Nat) (fun c _ ih=>Nat.add (Nat.mul 2 ih) (Bool.rec 1 0 (Nat.beq c 0))) l
def loB(l:List Nat):Nat:=List.rec (0:Nat) (fun c _ ih=>Nat.add (Nat.mul 2 ih) (Bool.rec 0 1 (Nat.beq c 1))) l
def aex(l:List Nat):Bool:=List.rec true (fun c _ ih=>Bool.rec false ih (Nat.blt c 2)) l
def mkB(k:IntKind)(l:List Nat):Option AV:=
 bif p5 (Se k) (.ofNat (hiB l))then none else
 bif aex l then some (.int k (.ofNat (hiB l)))else some (.sym k (.bits l) (.ofNat (loB l)) (.ofNat (hiB l)) 0)
def toB(x:AV):Option (IntKind×List Nat):=match x with
 | .int k (.ofNat n)=>bif Nat.blt n (tw k)then some (k,LW 64 n)else none
 | .sym k (.bits l) _ (.ofNat hi) (.ofNat o)=>bif Nat.beq o 0&&Nat.blt hi (tw k)then some (k,l)else none
 | .sym k (.var i) (.ofNat _) (.ofNat hi) (.ofNat o)=>
  bif Nat.beq o 0&&(Nat.blt hi (tw k)&&(Nat.blt hi (Nat.pow 2 (Nat.add (Nat.log2 hi) 1))&&Nat.ble (Nat.add (Nat.log2 hi) 1) 64))then
   some (k,app (Dg (Nat.add (Nat.log2 hi) 1) (Nat.add 2 (Nat.mul 64 i))) (WJ (Nat.sub 63 (Nat.log2 hi))))else none
 | .sym k (.GQ i) _ (.ofNat hi) (.ofNat o)=>bif Nat.beq o 0&&Nat.blt hi (tw k)then some (k,Dg 64 (Nat.add 2 (Nat.mul 64 i)))else none
 | _=>none
def aey(f:Nat->Nat->Option Nat)(l:List Nat):List Nat->Option (List Nat):=
 List.rec (fun m=>List.rec (some []) (fun _ _ _=>none) m) (fun a _ ih m=>List.rec none (fun b m _=>
  match f a b with
  |some c=>match ih m with
   |some r=>some (c::r)
   |none=>none
  |none=>none) m) l
def zB(f:Nat->Nat->Option Nat)(x y:AV):Option AV:=match toB x,toB y with
 |some (k,l),some (k',m)=>bif ka k k' then(match aey f l m with
  |some r=>mkB k r
  |none=>none)else none
 | _,_=>none
def WK(x y:AV):Option Bool:=match toB x,toB y with
 |some (k,l),some (k',m)=>bif ka k k'&&sB l m then some true else none
 | _,_=>none
def QC(_ _:AV):Option Bool:=none
def tR(f s:AV->AV->Option AV):AV->AV->Option AV:=fun x y=>Option.rec (s x y) (fun v=>some v) (f x y)
def WM(f s:AV->Option AV):AV->Option AV:=fun x=>Option.rec (s x) (fun v=>some v) (f x)
def Dh:AV->Option AV
 | .int k n=>some (.int k (fM k (Int.sub 0 n)))
 | _=>none
def GU(k:IntKind):AV->Option AV
 | .int _ n=>some (.int k (fM k n))
 | _=>none
def opF(f:Nat)(k:IntKind)(m n:Int):Option AV:=match f with
 |0=>R7 (.int k m) (.int k n)
 |1=>R8 (.int k m) (.int k n)
 |2=>R9 (.int k m) (.int k n)
 |3=>LO (.int k m) (.int k n)
 |4=>LP (.int k m) (.int k n)
 |5=>LQ (.int k m) (.int k n)
 |6=>bOr (.int k m) (.int k n)
 |7=>LS (.int k m) (.int k n)
 |8=>BQ (.int k m) (.int .u64 n)
 |9=>BR (.int k m) (.int .u64 n)
 |10=>Dh (.int k m)
 | _=>GU k (.int k m)
def tmF(f:Nat)(k:IntKind)(m n:Int):Int:=match opF f k m n with
 |some (.int _ r)=>r
 | _=>0
def Sg(x:AV):Option (IntKind×SV×Int×Int×Int):=match x with
 | .int k n=>some (k,.Lu n,0,n,n)
 | .sym k s lo hi o=>some (k,s,o,Int.add lo o,Int.add hi o)
 | _=>none
def tS(f:Nat)(ok:IntKind->IntKind->Int->Int->Int->Int->Bool)(x y:AV):Option AV:=match Sg x with
 |some (k,s,o,l,u)=>match Sg y with
  |some (k',s',o',l',u')=>bif ok k k' l u l' u' then some (.sym k (.tm f k k' s o s' o') (V0 k) (Se k) 0)else none
  |none=>none
 |none=>none
def t1(f:Nat)(k:IntKind)(x:AV):Option AV:=match Sg x with
 |some (k',s,o,_,_)=>some (.sym k (.tm f k k' s o (.Lu 0) 0) (V0 k) (Se k) 0)
 |none=>none
def zq:AV->AV->Option AV:=fun _ _=>none
def aY:AV->AV->Option AV:=tR R7 zq
def dk:AV->AV->Option AV:=tR R8 zq
def p':AV->AV->Option AV:=tR LP zq
def qQ:AV->AV->Option AV:=tR LO zq
def iy:AV->AV->Option AV:=tR R9 zq
def aX:AV->AV->Option AV:=tR Sa zq
def dL:AV->AV->Option AV:=tR Sb zq
def dN:AV->AV->Option AV:=tR Sc zq
def cA:AV->AV->Option AV:=tR Sd zq
def dO:AV->AV->Option AV:=tR LQ zq
def kb:AV->AV->Option AV:=tR bOr zq
def w6:AV->AV->Option AV:=tR LS zq
def iU:AV->AV->Option AV:=tR BQ zq
def dY:AV->AV->Option AV:=tR BR zq
def ak(neg:Bool):AV->AV->Option AV:=tR (GS neg) zq
def V1(i:Bool)(x y:AV):Option Bool:=bif i then
 (match x,y with
 | .int k a,.int k' b=>bif ka k k' then some (eqI a b)else none
 | _,_=>QC x y)else
 (match x,y with
 | .bool a,.bool b=>some (!(xor a b))
 | _,_=>none)
def zA(l:List Bool):List AV->List AV->Option Bool:=
 List.rec (fun _ _=>some true) (fun i _ ih xs ys=>match xs with
  | []=>none
  |x::xs=>match ys with
   | []=>none
   |y::ys=>match V1 i x y with
    |none=>none
    |some c=>Bool.rec (some false) (ih xs ys) c) l
def BS(neg:Bool)(l:List Bool)(x y:AV):Option AV:=match x with
 | .agg xs=>match y with
  | .agg ys=>match zA l xs ys with
   |some c=>some (.bool (bif neg then !c else c))
   |none=>none
  | _=>none
 | _=>none
def gC:AV->Option AV
 | .bool b=>some (.bool (!b))
 | _=>none
def xV(x:AV):Option AV:=Option.rec (match Sg x with|some (k,_,_,_,_)=>t1 10 k x|none=>none) (fun r=>some r) (Dh x)
def E6:AV->Option AV
 | .int k n=>uQ (j2 (Op.unary .xor (.int k n)))
 | _=>none
def put(cs:List AV)(off:Nat)(new:List AV):List AV:=app (tk off cs) (app new (dp (Nat.add off (len new)) cs))
def ur(cs:List AV)(off n:Nat):Option (List AV):=
 match tk n (dp off cs)with
 |l=>bif Nat.beq (len l) n then some l else none
def part(agg:Bool)(cs:List AV)(off size:Nat):Option AV:=
 match ur cs off size with
 |none=>none
 |some l=>bif agg then some (.agg l)else match l with
  | [c]=>some c
  | _=>none
def qa(agg:Bool)(r:Rw)(off size:Nat):Option AV:=
 match r.jd off size with
 |none=>none
 |some l=>bif agg then some (.agg l)else match l with
  | [c]=>some c
  | _=>none
def uU(l:List (Nat×Nat×AV)):List AV->Option (List AV):=
 List.rec (fun cells=>some cells) (fun p _ ih cells=>
  bif Nat.beq (len p.2.2.cells) p.2.1&&Nat.ble (Nat.add p.1 p.2.1) (len cells)then ih (put cells p.1 p.2.2.cells)else none) l
def qR(size:Nat)(l:List (Nat×AV)):Nat->Option (List AV):=
 List.rec (fun _=>some []) (fun p _ ih i=>
  bif Nat.beq p.1 i&&Nat.beq (len p.2.cells) size then(match ih (Nat.add i 1)with|some r=>some (app p.2.cells r)|none=>none)else none) l
def mJ(l:List (Nat×eR))(t:Tm):Option (List (Nat×AV)):=
 List.rec (some []) (fun p _ ih=>match p.2 t with
  |some v=>match ih with
   |some vs=>some ((p.1,v)::vs)
   |none=>none
  |none=>none) l
def mK(l:List (Nat×Nat×eR))(t:Tm):Option (List (Nat×Nat×AV)):=
 List.rec (some []) (fun p _ ih=>match p.2.2 t with
  |some v=>match ih with
   |some vs=>some ((p.1,p.2.1,v)::vs)
   |none=>none
  |none=>none) l
def fE(n:Nat)(z:List AV):List AV:=Nat.rec [] (fun _ ih=>app z ih) n
def scale(size:Nat)(l:List (Nat×AV)):List (Nat×Nat×AV):=
 List.rec [] (fun p _ ih=>(Nat.mul p.1 size,size,p.2)::ih) l
def pJ(n size:Nat)(zero:List AV)(l:List (Nat×AV)):Option (List AV):=
 match bif Nat.beq (len l) n then qR size l 0 else none with
 |some cs=>some cs
 |none=>uU (scale size l) (fE n zero)
def uV(h:Hp)(size:Nat)(agg:Bool)(a:AV):Option AV:=
 match a with
 | .ref id off=>match h.aU.get id with
  |some cs=>qa agg cs off size
  |none=>none
 | .gj cs=>part agg cs 0 size
 | _=>none
def dZ(h:Hp):AV->Option (Nat×List AV)
 | .eD=>some (0,[])
 | .iw n cs=>some (n,cs)
 | .dV id off n sz=>match h.aU.get id with
  |some cs=>match cs.jd off (Nat.mul n sz)with
   |some l=>some (n,l)
   |none=>none
  |none=>none
 | _=>none
def aa(x:eR):eP:=fun t h=>Option.rec Ro.bad (fun v=>Ro.ok v h) (x t)
def aS(c a b:eR):eP:=fun t h=>match c t with
 |some (.bool c)=>bif c then aa a t h else aa b t h
 | _=>.bad
def dB(cs:List AV):eP:=fun _ h=>.ok (.ref h.next 0) (dK h (uq cs))
def dr(x:eR):eP:=fun t h=>match x t with
 |some v=>.ok (.ref h.next 0) (dK h (uq v.cells))
 |none=>.bad
def aq(zero:List AV)(parts:List (Nat×Nat×eR)):eP:=fun t h=>match mK parts t with
 |some vs=>match uU vs zero with
  |some cs=>.ok (.agg cs) h
  |none=>.bad
 |none=>.bad
def bH(n size:Nat)(zero:List AV)(parts:List (Nat×eR)):eP:=fun t h=>match mJ parts t with
 |some vs=>bif Nat.beq n 0 then(match vs with| []=>.ok .mI h| _=>.bad)else match pJ n size zero vs with
  |some cs=>.ok (.dV h.next 0 n size) (dK h (uq cs))
  |none=>.bad
 |none=>.bad
def bc(size:Nat)(agg:Bool)(a:eR):eP:=fun t h=>match a t with
 |some a=>match uV h size agg a with
  |some v=>.ok v h
  |none=>.bad
 |none=>.bad
def aA(size:Nat)(a x:eR):eP:=fun t h=>match a t with
 |some (.ref id off)=>match x t with
  |some v=>match h.aU.get id with
   |some cs=>bif Nat.beq (len v.cells) size&&(Nat.ble (Nat.add off (len v.cells)) cs.n&&fB dU v.cells)then
    .ok gk (gY h id (some (cs.put off v.cells)))
    else .bad
   |none=>.bad
  |none=>.bad
 | _=>.bad
def aD(x:eR):eP:=fun t h=>match x t with
 |some (.ref i o)=>.ok (.ref i o) h
 |some (.gj cs)=>.ok (.gj cs) h
 |some (.fn f c)=>.ok (.fn f c) h
 | _=>.bad
def ae(f:AV->AV->Option AV)(x y:eR):eP:=fun t h=>
 Option.rec Ro.bad (fun a=>Option.rec Ro.bad (fun b=>Option.rec Ro.bad (fun v=>Ro.ok v h) (f a b)) (y t)) (x t)
def cE(f:AV->Option AV)(x:eR):eP:=fun t h=>Option.rec Ro.bad (fun a=>Option.rec Ro.bad (fun v=>Ro.ok v h) (f a)) (x t)
def aP(k:IntKind):AV->Option AV:=WM (GU k) fun _=>none
def nH(x:eR):eP:=fun t h=>match x t with
 |some (.sc (.string s))=>.ok (.dV h.next 0 s.size 1) (dK h (uq (s.data.toList.map fun b=>.int .u8 (.ofNat b.toNat))))
 | _=>.bad
def Lw(f:FuncId)(cap:List eR):eP:=fun t h=>match sA cap t with
 |some vs=>.ok (.fn f vs) h
 |none=>.bad
def lO(size bytes:Nat)(zero:List AV)(l c:eR):eP:=fun t h=>match l t with
 |some (.int _ (.ofNat l))=>match c t with
  |some (.int _ (.ofNat c))=>bif Nat.ble l c&&Nat.ble (Nat.mul c bytes) 70368744177664 then
    bif Nat.beq c 0 then .ok .mI h else .ok (.dV h.next 0 l size) (dK h ⟨Nat.mul c (len zero),zero,.nil⟩)
   else .bad
  | _=>.bad
 | _=>.bad
def mL(o:Option eR)(t:Tm)(d:Nat):Option Nat:=match o with
 |none=>some d
 |some o=>match o t with
  |some (.int _ (.ofNat n))=>some n
  | _=>none
def bounds(lo hi:Option eR)(t:Tm)(n:Nat):Option (Nat×Nat):=match mL lo t 0 with
 |some l=>match mL hi t n with
  |some h=>bif Nat.ble l h&&Nat.ble h n then some (l,h)else none
  |none=>none
 |none=>none
def dG(x:eR)(lo hi:Option eR):eP:=fun t h=>match x t with
 |some (.sc (.string s))=>match bounds lo hi t s.size with
  |some (l,e)=>.ok (.sc (.string (s.extract l e))) h
  |none=>.bad
 | _=>.bad
def mM(size:Nat)(x:eR)(lo hi:Option eR):eP:=fun t h=>match x t with
 |some .eD=>match bounds lo hi t 0 with
  |some _=>.ok .eD h
  |none=>.bad
 |some (.dV id off n sz)=>match bounds lo hi t n with
  |some (l,e)=>bif Nat.beq sz size then .ok (.dV id (Nat.add off (Nat.mul l size)) (Nat.sub e l) sz) h else .bad
  |none=>.bad
 |some (.iw n cs)=>match bounds lo hi t n with
  |some (l,e)=>.ok (.iw (Nat.sub e l) (tk (Nat.mul (Nat.sub e l) size) (dp (Nat.mul l size) cs))) h
  |none=>.bad
 | _=>.bad
def cB(size:Nat)(x:eR)(lo hi:Option eR):eP:=fun t h=>match x t with
 |some a=>bif qu a then(match bounds lo hi t 0 with
  |some _=>.ok a h
  |none=>.bad)else mM size x lo hi t h
 |none=>.bad
def qS(x:eR):eP:=fun t h=>match x t with
 |some .eD=>.ok (.int .i64 0) h
 | _=>.bad
def gq(n size:Nat)(x:eR)(lo hi:Option eR):eP:=fun t h=>match x t with
 |some (.ref id off)=>match bounds lo hi t n with
  |some (l,e)=>match h.aU.get id with
   |some cs=>bif Nat.ble (Nat.add off (Nat.mul n size)) cs.n then .ok (.dV id (Nat.add off (Nat.mul l size)) (Nat.sub e l) size) h else .bad
   |none=>.bad
  |none=>.bad
 | _=>.bad
def ab(off:Nat)(x:eR):eP:=fun t h=>match x t with
 |some (.ref id o)=>.ok (.ref id (Nat.add o off)) h
 |some (.gj cs)=>.ok (.gj (dp off cs)) h
 | _=>.bad
def lP(off size:Nat)(agg:Bool)(x:eR):eP:=fun t h=>match x t with
 |some (.agg cs)=>match part agg cs off size with
  |some v=>.ok v h
  |none=>.bad
 | _=>.bad
def bt(size:Nat)(x i:eR):eP:=fun t h=>match i t with
 |some (.int _ (.ofNat i))=>match x t with
  |some (.dV id off n sz)=>bif Nat.blt i n&&Nat.beq sz size then .ok (.ref id (Nat.add off (Nat.mul i size))) h else .bad
  |some (.iw n cs)=>bif Nat.blt i n then .ok (.gj (dp (Nat.mul i size) cs)) h else .bad
  | _=>.bad
 | _=>.bad
def oB(n size:Nat)(x i:eR):eP:=fun t h=>match i t with
 |some (.int _ (.ofNat i))=>match x t with
  |some (.ref id off)=>bif Nat.blt i n then .ok (.ref id (Nat.add off (Nat.mul i size))) h else .bad
  |some (.gj cs)=>bif Nat.blt i n then .ok (.gj (dp (Nat.mul i size) cs)) h else .bad
  | _=>.bad
 | _=>.bad
def kF(n size:Nat)(agg:Bool)(x i:eR):eP:=fun t h=>match x t with
 |some (.agg cs)=>match i t with
  |some (.int _ (.ofNat i))=>bif Nat.blt i n then(match part agg cs (Nat.mul i size) size with
   |some v=>.ok v h
   |none=>.bad)else .bad
  | _=>.bad
 | _=>.bad
def cC(x i:eR):eP:=fun t h=>match x t with
 |some (.sc (.string s))=>match i t with
  |some (.int _ (.ofNat i))=>match kE s.data.toList i with
   |some b=>.ok (.int .u8 b.toNat) h
   |none=>.bad
  |some (.sym _ a lo hi o)=>bif !(p5 (Int.add lo o) 0)&&p5 (Int.add hi o) (.ofNat s.size)then .ok (.sym .u8 (.ix (s.data.toList.map UInt8.toNat) a o) 0 255 0) h else .bad
  | _=>.bad
 | _=>.bad
def aL(x:eR)(i:Nat):eP:=fun t h=>match x t with
 |some (.qP vs)=>match kE vs i with
  |some v=>.ok v h
  |none=>.bad
 | _=>.bad
def jf(x:eR):eP:=fun t h=>match x t with
 |some (.sc (.string s))=>.ok (.int .i64 (.ofNat s.size)) h
 | _=>.bad
def aT(x:eR):eP:=fun t h=>match x t with
 |some (.dV _ _ n _)=>.ok (.int .i64 (.ofNat n)) h
 |some (.iw n _)=>.ok (.int .i64 (.ofNat n)) h
 |some .eD=>.ok (.int .i64 0) h
 | _=>.bad
def qT(size bytes:Nat)(h:Hp)(s:AV)(n:Nat)(new:List AV):Ro:=match s with
 | .eD=>bif Nat.beq n 0 then .ok .eD h else
   bif Nat.ble (Nat.mul n bytes) 70368744177664&&(fB dU new&&(Nat.beq (len new) (Nat.mul n size)&&Nat.ble n 70368744177664))then .ok (.dV h.next 0 n size) (dK h (uq new))else .bad
 | .dV id off ln sz=>bif Nat.beq n 0 then .ok (.dV id off ln sz) h else match h.aU.get id with
  |none=>.bad
  |some cs=>match cs.sub off (Nat.mul ln sz)with
   |none=>.bad
   |some pre=>bif Nat.ble (Nat.mul (Nat.add ln n) bytes) 70368744177664&&(Nat.beq sz size&&(fB dU new&&(Nat.beq (len new) (Nat.mul n size)&&Nat.ble (Nat.add ln n) 70368744177664)))then
    .ok (.dV h.next 0 (Nat.add ln n) sz) (dK (gY h id none) (pre.app new))else .bad
 | .iw ln cs=>bif Nat.beq n 0 then .ok (.iw ln cs) h else .bad
 | _=>.bad
def nI(size bytes:Nat)(s x:eR):eP:=fun t h=>match s t with
 |some s=>match x t with
  |some x=>match dZ h x with
   |none=>.bad
   |some (n,new)=>qT size bytes h s n new
  |none=>.bad
 |none=>.bad
def aQ(size bytes:Nat)(s x:eR):eP:=fun t h=>match s t with
 |some a=>match x t with
  |some b=>bif qu a&&Lv b then .ok a h else nI size bytes (wO s) (wO x) t h
  |none=>.bad
 |none=>.bad
def n9(size bytes:Nat)(zero:List AV)(s x:eR):eP:=fun t h=>match s t with
 |some a=>match x t with
  |some (.int _ (.ofNat n))=>bif qu a&&Nat.beq n 0 then .ok a h else qT size bytes h (sy a) n (fE n zero)
  | _=>.bad
 |none=>.bad
def qU(bytes:Nat)(s x:eR):eP:=fun t h=>match s t with
 |some a=>match x t with
  |some (.sc (.string b))=>bif qu a&&Nat.beq b.size 0 then .ok a h else qT 1 bytes h (sy a) b.size (b.data.toList.map fun b=>.int .u8 (.ofNat b.toNat))
  | _=>.bad
 |none=>.bad
def qb(x:eR):eP:=fun t h=>match x t with
 |some (.dV id off n sz)=>bif Nat.beq n 0 then .bad else(match h.aU.get id with
  |some _=>.ok (.dV id off n sz) h
  |none=>.bad)
 | _=>.bad
def jL(size:Nat)(d s:eR):eP:=fun t h=>match d t with
 |some .eD=>match s t with
  |some x=>match dZ h x with
   |some _=>.ok (.int .i64 (.ofNat 0)) h
   |none=>.bad
  |none=>.bad
 |some (.dV id off n sz)=>match s t with
  |some x=>match dZ h x with
   |some (m,src)=>bif Nat.beq (uR m n) 0 then .ok (.int .i64 (.ofNat 0)) h else match h.aU.get id with
    |some cs=>bif (Nat.blt 0 size&&(Nat.beq sz size&&(Nat.beq (len src) (Nat.mul m size)&&fB dU src)))&&Nat.ble (Nat.add off (Nat.mul (uR m n) size)) cs.n then
     .ok (.int .i64 (.ofNat (uR m n))) (gY h id (some (cs.put off (tk (Nat.mul (uR m n) size) src))))else .bad
    |none=>.bad
   |none=>.bad
  |none=>.bad
 | _=>.bad
def uW(x y z:eR):eP:=fun t h=>match y t with
 |some (.int _ (.ofNat y))=>match z t with
  |some (.int _ (.ofNat z))=>bif Nat.beq y 0&&Nat.beq z 0 then(match x t with
   |some .eD=>.ok .eD h
   |some (.dV _ _ _ _)=>.ok .eD h
   |some (.iw _ _)=>.ok .eD h
   | _=>.bad)else .bad
  | _=>.bad
 | _=>.bad
def sD(x y:eR):eP:=ae (tR (mX fun k a b=>some (.int k (bif p5 b a then b else a))) fun x y=>Option.rec none (fun c=>some (bif c then y else x)) (WI y x)) x y
def wD(x y:eR):eP:=ae (tR (mX fun k a b=>some (.int k (bif p5 a b then b else a))) fun x y=>Option.rec none (fun c=>some (bif c then y else x)) (WI x y)) x y
def E7:eP:=fun _ h=>.ok .any h
def cq:eP:=fun _ _=>.bad
def aj(call:cY)(f:FuncId)(args:List eR):eP:=fun t h=>match sA args t with
 |some vs=>call f vs h
 |none=>.bad
def gH(call:cY)(f:eR)(args:List eR):eP:=fun t h=>match f t with
 |some (.fn k cap)=>match sA args t with
  |some vs=>call k (app vs cap) h
  |none=>.bad
 | _=>.bad
def fi:me:=fun t h=>.ok t h
def st(s:WG)(f:eP)(k:me):me:=fun t h=>Ro.rec Rt.bad (fun v h=>k (s v t) h) (f t h)
def sn(f:eP)(k:me):me:=fun t h=>Ro.rec Rt.bad (fun _ h=>k t h) (f t h)
def ah(r:me):wy:=fun t h=>Rt.rec Rc.bad (fun t h=>Rc.norm t h) (r t h)
def bf:wy:=fun t h=>.norm t h
def af(a b:wy):wy:=fun t h=>Rc.rec Rc.bad (fun t h=>b t h) (fun t h=>Rc.ret t h) (fun i t h=>Rc.exit i t h) (a t h)
def aI(c:eR)(a b:wy):wy:=fun t h=>match c t with
 |some (.bool c)=>Bool.rec (b t h) (a t h) c
 | _=>.bad
def cH(id:Nat)(b:wy):wy:=fun t h=>
 Rc.rec Rc.bad (fun t h=>Rc.norm t h) (fun t h=>Rc.ret t h) (fun i t h=>Bool.rec (Rc.exit i t h) (Rc.norm t h) (Nat.beq i id)) (b t h)
def fh(n:Nat)(b:wy):wy:=
 Nat.rec (fun _ _=>.bad) (fun _ ih t h=>Rc.rec Rc.bad (fun t h=>ih t h) (fun t h=>Rc.ret t h) (fun i t h=>Rc.exit i t h) (b t h)) n
def fq(i:Nat):wy:=fun t h=>.exit i t h
def bg:wy:=fun t h=>.ret t h
def zC:wy:=fun _ _=>.bad
inductive RV where
 |tmp (i:Nat)
 |cell (i size:Nat) (agg:Bool)
def GV(t:Tm)(h:Hp):RV->Option AV
 | .tmp i=>Tm.at t i
 | .cell i size agg=>match Tm.at t i with
  |some a=>uV h size agg a
  |none=>none
def w7(t:Tm)(h:Hp)(l:List RV):Option (List AV):=
 List.rec (some []) (fun r _ ih=>match GV t h r with
  |some v=>match ih with
   |some vs=>some (v::vs)
   |none=>none
  |none=>none) l
structure Fb where
 ntmps:Nat
 res:List RV
 body:cY->Nat->wy
def nJ(l:List AV):Nat->Tm->Tm:=
 List.rec (fun _ t=>t) (fun v _ ih i t=>ih (Nat.add i 1) (Tm.put t i (some v))) l
def fin(res:List RV)(t:Tm)(h:Hp):Ro:=
 match w7 t h res with
 |some [v]=>.ok v h
 |some vs=>.ok (.qP vs) h
 |none=>.bad
end Go.Ab


noncomputable section
namespace Go.Ab
def ofB:List Bool->Nat
 | []=>0
 |b::l=>b.toNat+2*ofB l
end Go.Ab

noncomputable section
namespace Go.Ab
class Io where
 io:Nat->Int
 tb:List (Nat×List Value)
variable [Io]
def aeA(c:Nat):Bool:=match c with
 |0=>false
 |1=>true
 |c+2=>(Io.io (c / 64) % 18446744073709551616).toNat.testBit (c % 64)
def GW(l h x:Int):Int:=if x<l then l else if h<x then h else x
def gJ:SV->Int
 | .var i=>Io.io i
 | .GQ i=>Io.io i % 18446744073709551616
 | .umod i c=>(Io.io i % 18446744073709551616) % (c:Int)
 | .lin i m=>m*Io.io i
 | .dig i p m=>(Io.io i / (p:Int)) % (m:Int)
 | .bits l=>(ofB (l.map aeA):Int)
 | .cl i l h=>GW l h (Io.io i)
 | .pr i l h j=>GW l h (Io.io i)+4294967296*Io.io j
 | .ad i j l h=>Io.io i+GW l h (Io.io j)
 | .Lu n=>n
 | .sm l=>(l.map Io.io).foldr (· + ·) 0
 | .ix l a o=>(l.getD (gJ a+o).toNat 0:Nat)
 | .tm f k _ a oa b ob=>tmF f k (gJ a+oa) (gJ b+ob)
structure G where
 m:Nat->Option (Nat×Nat)
 eL:Nat->Prop
def ed(w:World)(b:Nat):Nat:=match w.heap[b]? with
 |some (.cells c _ _)=>c.size
 | _=>0
def ee(w:World)(b o:Nat)(vs:List Value):Prop:= ∀ j v,vs[j]? =some v->w.cell? ⟨b,o+j,none⟩=some v
mutual
def VR(g:G)(w:World):AV->Value->Prop
 | .int k n,v=>v=.int k n
 | .bool b,v=>v=.bool b
 | .sc x,v=>v=x/\x.oneCell'=true
 | .agg cs,v=> ∃ vs,v=.agg vs/\bQ g w cs vs.toList
 | .qP cs,v=> ∃ vs,v=.tuple vs/\bQ g w cs vs.toList
 | .ref id off,v=> ∃ b s,g.m id=some (b,s)/\v=.pointer (some ⟨b,s+off,none⟩)
 | .dV id off n sz,v=>(n=0/\ ∃ a,v=.slice (some a) 0 0)∨
   ∃ b s cap,g.m id=some (b,s)/\v=.slice (some ⟨b,s+off,none⟩) n cap/\n<=cap/\s+off+cap*sz<=ed w b
 | .iw n cs,v=> ∃ a cap,v=.slice a n cap/\n<=cap/\
   ((n=0/\cs=[])∨ ∃ b o vs,a=some ⟨b,o,none⟩/\g.eL b/\ee w b o vs/\bQ g w cs vs)
 | .gj cs,v=> ∃ b o vs,v=.pointer (some ⟨b,o,none⟩)/\g.eL b/\ee w b o vs/\bQ g w cs vs
 | .eD,v=> ∃ a,v=.slice a 0 0
 | .mI,v=> ∃ a,v=.slice (some a) 0 0
 | .fn f cap,v=> ∃ vs,v=.func (.func f) #[] vs/\bQ g w cap vs.toList
 | .sym k s lo hi off,v=>v=.int k (gJ s+off)/\lo<=gJ s/\gJ s<=hi
 | .any,v=>v.oneCell'=true
def bQ(g:G)(w:World):List AV->List Value->Prop
 | [],l=>l=[]
 |a::r,l=> ∃ v l',l=v::l'/\VR g w a v/\bQ g w r l'
end
def ik(g:G)(h:Hp)(b:Nat):Prop:= ∃ id cs s,h.aU.get id=some cs/\g.m id=some (b,s)
structure FT(C:Array Value) where
 el:TypeId
 fz:Nat×Nat
 ok':fz.1=fz.2∨C.size<=fz.1
omit [Io] in
theorem FT.ok{C:Array Value}(e:FT C): ∀ i,i<C.size-> ¬ (e.fz.1<=i/\i<e.fz.2):=fun i hi h=>by have:=e.ok';omega
def FT.nw(C:Array Value)(el:TypeId):FT C:=⟨el,(0,0),.inl rfl⟩
def FT.to{C C':Array Value}(e:FT C)(h:C'.size=C.size):FT C':=⟨e.el,e.fz,by have:=e.ok';omega⟩
def kY(g:G)(w:World):Prop:= ∀ p,p∈Io.tb->g.eL p.1/\ee w p.1 0 p.2
structure HR(g:G)(w:World)(h:Hp):Prop where
 fresh: ∀ id,h.next<=id->g.m id=none
 aU: ∀ id cs,h.aU.get id=some cs-> ∃ b s C,∃ el:FT C,∃ vs,g.m id=some (b,s)/\w.heap[b]? =some (.cells C el.el el.fz)/\ ¬ g.eL b/\bQ g w cs.toL vs/\(∀ j v,vs[j]? =some v->C[s+j]? =some v)
 inj: ∀ id sE b s s' cs cs',h.aU.get id=some cs->h.aU.get sE=some cs'->g.m id=some (b,s)->g.m sE=some (b,s')->id=sE
 eL: ∀ b,g.eL b->b<w.heap.size
 tb:kY g w
structure HC(g:G)(w:World)(h:Hp):Prop where
 aU: ∀ id cs,h.aU.get id=some cs-> ∃ b s C,∃ el:FT C,∃ vs,g.m id=some (b,s)/\w.heap[b]? =some (.cells C el.el el.fz)/\ ¬ g.eL b/\bQ g w cs.toL vs/\(∀ j v,vs[j]? =some v->C[s+j]? =some v)
 eL: ∀ b,g.eL b->b<w.heap.size
theorem HR.toHC{g w h}(H:HR g w h):HC g w h:=⟨H.aU,H.eL⟩
structure Ext(g:G)(w:World)(h:Hp)(g':G)(w':World)(h':Hp):Prop where
 os:w'.os=w.os
 tape:w'.tape=w.tape
 output:w'.output=w.output
 size:w.heap.size<=w'.heap.size
 next:h.next<=h'.next
 m: ∀ id x,g.m id=some x->g'.m id=some x
 oL: ∀ b,b<w.heap.size-> ¬ ik g h b->w'.heap[b]? =w.heap[b]?
 rows: ∀ b,ed w b<=ed w' b
 eL: ∀ b,g.eL b->g'.eL b
 E8: ∀ b,g'.eL b->g.eL b∨ik g h b∨w.heap.size<=b
 mZ: ∀ b,ik g' h' b->ik g h b∨w.heap.size<=b
omit [Io] in
theorem Ext.refl(g:G)(w:World)(h:Hp):Ext g w h g w h:=
 ⟨rfl,rfl,rfl,Nat.le_refl _,Nat.le_refl _,fun _ _ e=>e,fun _ _ _=>rfl,fun _=>Nat.le_refl _,fun _ i=>i,fun _ i=>.inl i,fun _ o=>.inl o⟩
omit [Io] in
theorem Ext.trans{g w h g1 w1 h1 g2 w2 h2}(a:Ext g w h g1 w1 h1)(b:Ext g1 w1 h1 g2 w2 h2):Ext g w h g2 w2 h2 where
 os:=b.os.trans a.os
 tape:=b.tape.trans a.tape
 output:=b.output.trans a.output
 size:=Nat.le_trans a.size b.size
 next:=Nat.le_trans a.next b.next
 m:=fun id x e=>b.m id x (a.m id x e)
 oL:=fun k hk ho=>(b.oL k (Nat.lt_of_lt_of_le hk a.size) (fun o=>(a.mZ k o).elim ho (fun e=>absurd hk (Nat.not_lt.2 e)))).trans (a.oL k hk ho)
 rows:=fun k=>Nat.le_trans (a.rows k) (b.rows k)
 eL:=fun k i=>b.eL k (a.eL k i)
 E8:=fun k i=>by
  rcases b.E8 k i with i|o|l
  ·exact a.E8 k i
  ·rcases a.mZ k o with o|l
   ·exact .inr (.inl o)
   ·exact .inr (.inr l)
  ·exact .inr (.inr (Nat.le_trans a.size l))
 mZ:=fun k o=>by
  rcases b.mZ k o with o|l
  ·exact a.mZ k o
  ·exact .inr (Nat.le_trans a.size l)
theorem HC.lK{g w h}(H:HC g w h){b:Nat}(i:g.eL b): ¬ ik g h b:=by
 rintro⟨id,cs,s,hg,hm⟩
 obtain⟨b',s',C,el,vs,Di,_,hi,_⟩:=H.aU id cs hg
 rw[hm]at Di
 obtain⟨rfl,rfl⟩:=Prod.mk.inj (Option.some.inj Di)
 exact hi i
theorem HR.lK{g w h}(H:HR g w h){b:Nat}(i:g.eL b): ¬ ik g h b:=H.toHC.lK i
structure p6(g:G)(w:World)(g':G)(w':World):Prop where
 m: ∀ id x,g.m id=some x->g'.m id=some x
 eL: ∀ b,g.eL b->g'.eL b
 keep: ∀ b,g.eL b->w'.heap[b]? =w.heap[b]?
 rows: ∀ b,ed w b<=ed w' b
theorem Ext.mono{g w h g' w' h'}(H:HC g w h)(E:Ext g w h g' w' h'):p6 g w g' w':=
 ⟨E.m,E.eL,fun b i=>E.oL b (H.eL b i) (H.lK i),E.rows⟩
omit [Io] in
theorem ee.keep{w w':World}{b o vs}(h:w'.heap[b]? =w.heap[b]?)(c:ee w b o vs):ee w' b o vs:=by
 intro j v hj
 have:=c j v hj
 unfold World.cell? at this ⊢
 rw[h]
 exact this
theorem kY.mono{g w g' w'}(E:p6 g w g' w')(t:kY g w):kY g' w':=fun p hp=>⟨E.eL _ (t p hp).1,ee.keep (E.keep _ (t p hp).1) (t p hp).2⟩
theorem kY.ext{g w h g' w' h'}(H:HR g w h)(E:Ext g w h g' w' h'):kY g' w':=kY.mono (E.mono H.toHC) H.tb
mutual
theorem VR.fk{g w g' w'}(E:p6 g w g' w'): ∀ (a:AV) (v:Value),VR g w a v->VR g' w' a v
 | .int _ _,v,r=>by simpa only[VR]using r
 | .bool _,v,r=>by simpa only[VR]using r
 | .sc _,v,r=>by simpa only[VR]using r
 | .eD,v,r=>by simpa only[VR]using r
 | .mI,v,r=>by simpa only[VR]using r
 | .sym _ _ _ _ _,v,r=>by simpa only[VR]using r
 | .any,v,r=>by simpa only[VR]using r
 | .agg cs,v,r=>by
  simp only[VR]at r ⊢
  obtain⟨vs,e,q⟩:=r
  exact⟨vs,e,bQ.fk E cs _ q⟩
 | .qP cs,v,r=>by
  simp only[VR]at r ⊢
  obtain⟨vs,e,q⟩:=r
  exact⟨vs,e,bQ.fk E cs _ q⟩
 | .fn f cs,v,r=>by
  simp only[VR]at r ⊢
  obtain⟨vs,e,q⟩:=r
  exact⟨vs,e,bQ.fk E cs _ q⟩
 | .ref id off,v,r=>by
  simp only[VR]at r ⊢
  obtain⟨b,s,e,q⟩:=r
  exact⟨b,s,E.m _ _ e,q⟩
 | .dV id off n sz,v,r=>by
  simp only[VR]at r ⊢
  rcases r with r|⟨b,s,cap,e,q,l,z⟩
  ·exact .inl r
  ·exact .inr ⟨b,s,cap,E.m _ _ e,q,l,Nat.le_trans z (E.rows b)⟩
 | .iw n cs,v,r=>by
  simp only[VR]at r ⊢
  obtain⟨a,cap,e,l,r⟩:=r
  refine⟨a,cap,e,l,?_⟩
  rcases r with r|⟨b,o,vs,e,i,c,q⟩
  ·exact .inl r
  ·exact .inr ⟨b,o,vs,e,E.eL b i,c.keep (E.keep b i),bQ.fk E cs _ q⟩
 | .gj cs,v,r=>by
  simp only[VR]at r ⊢
  obtain⟨b,o,vs,e,i,c,q⟩:=r
  exact⟨b,o,vs,e,E.eL b i,c.keep (E.keep b i),bQ.fk E cs _ q⟩
theorem bQ.fk{g w g' w'}(E:p6 g w g' w'): ∀ (l:List AV) (vs:List Value),bQ g w l vs->bQ g' w' l vs
 | [],vs,r=>by simpa only[bQ]using r
 |a::l,vs,r=>by
  simp only[bQ]at r ⊢
  obtain⟨v,l',e,q,r⟩:=r
  exact⟨v,l',e,VR.fk E a v q,bQ.fk E l l' r⟩
end
theorem VR.mono{g w h g' w' h'}(H:HR g w h)(E:Ext g w h g' w' h')(a:AV)(v:Value)(r:VR g w a v):VR g' w' a v:=VR.fk (E.mono H.toHC) a v r
theorem bQ.mono{g w h g' w' h'}(H:HR g w h)(E:Ext g w h g' w' h')(l:List AV)(vs:List Value)(r:bQ g w l vs):bQ g' w' l vs:=bQ.fk (E.mono H.toHC) l vs r
omit [Io] in
theorem Tr.get_nil{α:Type}(n:Nat):(Tr.nil:Tr α).get n=none:=rfl
omit [Io] in
theorem Tr.oO{α:Type}(l r:Tr α)(v:Option α)(n:Nat):
 (Tr.node l v r).get n=if n=0 then v else if n % 2=1 then l.get (n / 2)else r.get (n / 2 - 1):=by
 show gD (Nat.beq n 0) v (gD (Nat.beq (Nat.mod n 2) 1) (l.get (Nat.div n 2)) (r.get (Nat.sub (Nat.div n 2) 1)))=_
 by_cases h:n=0
 ·subst h;rfl
 ·rw[if_neg h,show Nat.beq n 0=false from by cases n with|zero=>exact absurd rfl h|succ n=>rfl]
  by_cases h2:n % 2=1
  ·rw[if_pos h2,show Nat.beq (Nat.mod n 2) 1=true from by rw[show Nat.mod n 2=1 from h2];rfl];rfl
  ·rw[if_neg h2,show Nat.beq (Nat.mod n 2) 1=false from by rw[show Nat.mod n 2=0 from by show n % 2=0;omega];rfl];rfl
omit [Io] in
theorem Tr.get_eq{α:Type}(t:Tr α)(n:Nat):
 t.get n=if n=0 then t.hd else if n % 2=1 then t.lf.get (n / 2)else t.rt.get (n / 2 - 1):=by
 cases t with
 |nil=>simp[Tr.get_nil,Tr.hd,Tr.lf,Tr.rt]
 |node l v r=>rw[Tr.oO];rfl
omit [Io] in
theorem Tr.E9{α:Type}(f:Nat)(t:Tr α)(n:Nat)(x:Option α):
 Tr.BP (f+1) t n x=if n=0 then .node t.lf x t.rt else if n % 2=1 then .node (Tr.BP f t.lf (n / 2) x) t.hd t.rt
  else .node t.lf t.hd (Tr.BP f t.rt (n / 2 - 1) x):=by
 show gD (Nat.beq n 0) (Tr.node t.lf x t.rt) (gD (Nat.beq (Nat.mod n 2) 1) (Tr.node (Tr.BP f t.lf (Nat.div n 2) x) t.hd t.rt)
  (Tr.node t.lf t.hd (Tr.BP f t.rt (Nat.sub (Nat.div n 2) 1) x)))=_
 by_cases h:n=0
 ·subst h;rfl
 ·rw[if_neg h,show Nat.beq n 0=false from by cases n with|zero=>exact absurd rfl h|succ n=>rfl]
  by_cases h2:n % 2=1
  ·rw[if_pos h2,show Nat.beq (Nat.mod n 2) 1=true from by rw[show Nat.mod n 2=1 from h2];rfl];rfl
  ·rw[if_neg h2,show Nat.beq (Nat.mod n 2) 1=false from by rw[show Nat.mod n 2=0 from by show n % 2=0;omega];rfl];rfl
omit [Io] in
theorem Tr.GX{α:Type}(f:Nat): ∀ (t:Tr α) (n:Nat) (x:Option α) (k:Nat),n<f->(Tr.BP f t n x).get k=if k=n then x else t.get k:=by
 induction f with
 |zero=>intro t n x k h;omega
 |succ f ih=>
  intro t n x k h
  rw[Tr.E9]
  by_cases h0:n=0
  ·subst h0
   rw[if_pos rfl,Tr.oO,Tr.get_eq t]
   by_cases hk:k=0
   ·simp[hk]
   ·simp[hk]
  ·rw[if_neg h0]
   by_cases h1:n % 2=1
   ·rw[if_pos h1,Tr.oO,Tr.get_eq t k]
    by_cases hk:k=0
    ·subst hk;simp;intro e;omega
    ·simp only[hk,if_false]
     by_cases LX:k % 2=1
     ·simp only[LX,if_true]
      rw[ih _ _ _ _ (by omega)]
      by_cases e:k=n
      ·subst e;simp
      ·rw[if_neg e,if_neg (by omega)]
     ·simp only[LX,if_false]
      rw[if_neg (by intro e;subst e;omega)]
   ·rw[if_neg h1,Tr.oO,Tr.get_eq t k]
    by_cases hk:k=0
    ·subst hk;simp;intro e;omega
    ·simp only[hk,if_false]
     by_cases LX:k % 2=1
     ·simp only[LX,if_true]
      rw[if_neg (by intro e;subst e;omega)]
     ·simp only[LX,if_false]
      rw[ih _ _ _ _ (by omega)]
      by_cases e:k=n
      ·subst e;simp
      ·rw[if_neg e,if_neg (by omega)]
omit [Io] in
theorem Tr.gZ{α:Type}(t:Tr α)(n:Nat)(x:Option α)(k:Nat):(t.set n x).get k=if k=n then x else t.get k:=
 Tr.GX _ t n x k (Nat.lt_succ_self n)
omit [Io] in
theorem F8.pK{α:Type}(f:F8 α)(x:α)(i j:Nat)(hi:i<8)(hj:j<8):(f.BC x i).xR j=if j=i then x else f.xR j:=by
 rcases(by omega:i=0∨i=1∨i=2∨i=3∨i=4∨i=5∨i=6∨i=7)with rfl|rfl|rfl|rfl|rfl|rfl|rfl|rfl<;>
 rcases(by omega:j=0∨j=1∨j=2∨j=3∨j=4∨j=5∨j=6∨j=7)with rfl|rfl|rfl|rfl|rfl|rfl|rfl|rfl<;>rfl
omit [Io] in
theorem Tm.iM(t:Tm)(i j:Nat)(x:Option AV)(hi:i<512)(hj:j<512):(t.put i x).at j=if j=i then x else t.at j:=by
 unfold Tm.put Tm.at
 rw[F8.pK _ _ _ _ (by omega) (by omega)]
 by_cases h1:j / 64=i / 64
 ·rw[if_pos h1,F8.pK _ _ _ _ (by omega) (by omega)]
  by_cases h2:j / 8 % 8=i / 8 % 8
  ·rw[if_pos h2,F8.pK _ _ _ _ (by omega) (by omega)]
   by_cases h3:j % 8=i % 8
   ·rw[if_pos h3,if_pos (by omega)]
   ·rw[if_neg h3,if_neg (by intro e;subst e;exact h3 rfl),h1,h2]
  ·rw[if_neg h2,if_neg (by intro e;subst e;exact h2 rfl),h1]
 ·rw[if_neg h1,if_neg (by intro e;subst e;exact h1 rfl)]
omit [Io] in
theorem Tm.xW(j:Nat)(hj:j<512):Tm.none.at j=Option.none:=by
 unfold Tm.none Tm.at
 rcases(by omega:j / 64=0∨j / 64=1∨j / 64=2∨j / 64=3∨j / 64=4∨j / 64=5∨j / 64=6∨j / 64=7)with h|h|h|h|h|h|h|h<;>rw[h]<;>
 rcases(by omega:j / 8 % 8=0∨j / 8 % 8=1∨j / 8 % 8=2∨j / 8 % 8=3∨j / 8 % 8=4∨j / 8 % 8=5∨j / 8 % 8=6∨j / 8 % 8=7)with h|h|h|h|h|h|h|h<;>rw[h]<;>
 rcases(by omega:j % 8=0∨j % 8=1∨j % 8=2∨j % 8=3∨j % 8=4∨j % 8=5∨j % 8=6∨j % 8=7)with h|h|h|h|h|h|h|h<;>rw[h]<;>rfl
def TR(g:G)(w:World)(nt:Nat)(t:Tm)(tmps:Array Value):Prop:=
 nt<=512/\tmps.size=nt/\ ∀ i v,i<512->t.at i=some v->i<nt/\VR g w v (tmps.getD i undef)
theorem TR.mono{g w h g' w' h' nt t tmps}(H:HR g w h)(E:Ext g w h g' w' h')(r:TR g w nt t tmps):TR g' w' nt t tmps:=
 ⟨r.1,r.2.1,fun i v hi e=>⟨(r.2.2 i v hi e).1,VR.mono H E _ _ (r.2.2 i v hi e).2⟩⟩
theorem TR.put{g w nt t tmps}(r:TR g w nt t tmps){d:Nat}(hd:d<nt){a:AV}{v:Value}(hv:VR g w a v):
 TR g w nt (t.put d (some a)) (tmps.setIfInBounds d v):=by
 obtain⟨h1,h2,h3⟩:=r
 refine⟨h1,by simpa using h2,fun i x hi e=>?_⟩
 rw[Tm.iM _ _ _ _ (by omega) hi]at e
 by_cases gK:i=d
 ·subst gK
  rw[if_pos rfl]at e
  obtain rfl:=Option.some.inj e
  refine⟨hd,?_⟩
  rw[Array.getD_eq_getD_getElem?,Array.getElem?_setIfInBounds_self_of_lt (by omega)]
  exact hv
 ·rw[if_neg gK]at e
  refine⟨(h3 i x hi e).1,?_⟩
  have:=(h3 i x hi e).2
  rw[Array.getD_eq_getD_getElem?]at this ⊢
  rw[Array.getElem?_setIfInBounds_ne (by omega)]
  exact this
end Go.Ab

noncomputable section
namespace Go.Ab
variable [Io]
omit [Io] in
theorem dn{α:Type}(l r:List α):app l r=l++r:=by
 induction l with
 |nil=>rfl
 |cons a l ih=>exact congrArg (a:: ·) ih
omit [Io] in
theorem LY{α:Type}(l:List α): ∀ n,(List.rec (motive:=fun _=>Nat->Nat) (fun n=>n) (fun _ _ ih n=>ih (Nat.add n 1)) l:Nat->Nat) n=n+l.length:=by
 induction l with
 |nil=>intro n;rfl
 |cons a l ih=>intro n;refine(ih (n+1)).trans ?_;simp;omega
omit [Io] in
theorem cF{α:Type}(l:List α):len l=l.length:=(LY l 0).trans (Nat.zero_add _)
omit [Io] in
theorem oP{α:Type}(l:List α): ∀ n,tk n l=l.take n:=by
 induction l with
 |nil=>intro n;cases n<;>rfl
 |cons a l ih=>intro n;cases n with
  |zero=>rfl
  |succ n=>exact congrArg (a:: ·) (ih n)
omit [Io] in
theorem jg{α:Type}(l:List α): ∀ n,dp n l=l.drop n:=by
 induction l with
 |nil=>intro n;cases n<;>rfl
 |cons a l ih=>intro n;cases n with
  |zero=>rfl
  |succ n=>exact ih n
omit [Io] in
theorem fQ{α:Type}(l:List α): ∀ n,kE l n=l[n]? :=by
 induction l with
 |nil=>intro n;rfl
 |cons a l ih=>intro n;cases n with
  |zero=>rfl
  |succ n=>refine(ih n).trans ?_;simp
omit [Io] in
theorem hI{α:Type}(p:α->Bool)(l:List α):fB p l=l.all p:=by
 induction l with
 |nil=>rfl
 |cons a l ih=>show(bif p a then fB p l else false)=_;rw[ih];cases h:p a<;>simp[h]
omit [Io] in
theorem put_eq(cs:List AV)(off:Nat)(new:List AV):put cs off new=cs.take off++(new++cs.drop (off+new.length)):=by
 unfold put;rw[dn,dn,oP,jg,cF];rfl
omit [Io] in
theorem kZ{cs:List AV}{off n:Nat}{l:List AV}(h:ur cs off n=some l):l=(cs.drop off).take n/\l.length=n:=by
 change (bif Nat.beq (len (tk n (dp off cs))) n then some (tk n (dp off cs))else none)=some l at h
 rw[oP,jg,cF]at h
 by_cases e:(List.take n (List.drop off cs)).length=n
 ·rw[show Nat.beq (List.take n (List.drop off cs)).length n=true from Nat.beq_eq.mpr e]at h
  obtain rfl:=Option.some.inj h
  exact⟨rfl,e⟩
 ·rw[show Nat.beq (List.take n (List.drop off cs)).length n=false from Bool.eq_false_iff.mpr (fun k=>e (Nat.eq_of_beq_eq_true k))]at h
  cases h
omit [Io] in
theorem sF(r:Rw): ∀ k i,(r.cells k i).length=k
 |0,_=>rfl
 |k+1,i=>by show(r.cell i::r.cells k (i+1)).length=_;rw[List.length_cons,sF r k (i+1)]
omit [Io] in
theorem sH(r:Rw): ∀ (k i j:Nat),(r.cells k i)[j]? =if j<k then some (r.cell (i+j))else none
 |0,i,j=>by show([]:List AV)[j]? =_;simp
 |k+1,i,0=>by show(r.cell i::r.cells k (i+1))[0]? =_;simp
 |k+1,i,j+1=>by
  show(r.cell i::r.cells k (i+1))[j+1]? =_
  rw[List.getElem?_cons_succ,sH r k (i+1) j,show i+1+j=i+(j+1) by omega]
  by_cases h:j<k
  ·rw[if_pos h,if_pos (by omega)]
  ·rw[if_neg h,if_neg (by omega)]
omit [Io] in
theorem eM(r:Rw):r.toL.length=r.n:=sF r r.n 0
omit [Io] in
theorem mq(r:Rw)(j:Nat):r.toL[j]? =if j<r.n then some (r.cell j)else none:=by
 unfold Rw.toL;rw[sH,Nat.zero_add]
omit [Io] in
theorem iN: ∀ (l:List AV) (i:Nat) (t:Tr AV) (j:Nat),(lN l i t).get j=if i<=j/\j<i+l.length then l[j - i]? else t.get j
 | [],i,t,j=>by show t.get j=_;rw[if_neg (by simp)]
 |a::l,i,t,j=>by
  show(lN l (i+1) (t.set i (some a))).get j=_
  rw[iN l (i+1) _ j,Tr.gZ]
  simp only[List.length_cons]
  by_cases h:i=j
  ·subst h
   rw[if_neg (by omega),if_pos rfl,if_pos (by omega),Nat.sub_self]
   rfl
  ·by_cases h2:i+1<=j/\j<i+1+l.length
   ·rw[if_pos h2,if_pos (by omega),show j - i=(j - (i+1))+1 by omega,List.getElem?_cons_succ]
   ·rw[if_neg h2,if_neg (fun e=>h e.symm),if_neg (by omega)]
omit [Io] in
theorem sI{r:Rw}{i:Nat}{v:AV}(h:r.t.get i=some v):r.cell i=v:=by unfold Rw.cell;rw[h]
omit [Io] in
theorem xX{r r':Rw}{i:Nat}(h:r.t.get i=r'.t.get i)(hd:r.d=r'.d):r.cell i=r'.cell i:=by unfold Rw.cell;rw[h,hd]
omit [Io] in
theorem hJ(l:List AV):(uq l).toL=l:=by
 apply List.ext_getElem?
 intro j
 rw[mq]
 show(if j<len l then _ else _)=_
 rw[cF]
 by_cases h:j<l.length
 ·rw[if_pos h,sI (v:=l[j])]
  ·rw[List.getElem?_eq_getElem h]
  ·show(lN l 0 .nil).get j=_
   rw[iN,if_pos (by omega),Nat.sub_zero,List.getElem?_eq_getElem h]
 ·rw[if_neg h,List.getElem?_eq_none (by omega)]
omit [Io] in
theorem iz{r:Rw}{off k:Nat}{l:List AV}(h:r.jd off k=some l):l=(r.toL.drop off).take k/\l.length=k/\off+k<=r.n:=by
 unfold Rw.jd at h
 cases hb:Nat.ble (Nat.add off k) r.n with
 |false=>rw[hb]at h;cases h
 |true=>
  rw[hb]at h
  cases h
  have hle:off+k<=r.n:=Nat.le_of_ble_eq_true hb
  refine⟨?_,sF r k off,hle⟩
  apply List.ext_getElem?
  intro j
  rw[sH,List.getElem?_take,List.getElem?_drop,mq]
  by_cases h:j<k
  ·rw[if_pos h,if_pos h,if_pos (by omega)]
  ·rw[if_neg h,if_neg h]
omit [Io] in
theorem zD{r:Rw}{off k:Nat}{l:List AV}(h:r.jd off k=some l):ur r.toL off k=some l:=by
 obtain⟨rfl,hl,_⟩:=iz h
 change (bif Nat.beq (len (tk k (dp off r.toL))) k then some (tk k (dp off r.toL))else none)=_
 rw[oP,jg,cF,hl,Nat.beq_refl]
 rfl
omit [Io] in
theorem uX{agg:Bool}{r:Rw}{off size:Nat}{v:AV}(h:qa agg r off size=some v):part agg r.toL off size=some v:=by
 unfold qa at h
 split at h
 ·cases h
 ·rename_i l e
  unfold part
  rw[zD e]
  exact h
omit [Io] in
theorem pL{r:Rw}{off:Nat}{l:List AV}(h:off+l.length<=r.n):(r.put off l).toL=put r.toL off l:=by
 rw[put_eq]
 apply List.ext_getElem?
 intro j
 rw[mq]
 show(if j<r.n then some ((r.put off l).cell j)else none)=_
 have hl:=eM r
 by_cases h1:j<off
 ·rw[if_pos (by omega),List.getElem?_append_left (by rw[List.length_take];omega),List.getElem?_take,if_pos h1,mq,if_pos (by omega)]
  congr 1
  refine xX ?_ rfl
  show(lN l off r.t).get j=_
  rw[iN,if_neg (by omega)]
 ·rw[List.getElem?_append_right (by rw[List.length_take];omega),List.length_take,hl,Nat.min_eq_left (by omega)]
  by_cases h2:j<off+l.length
  ·rw[if_pos (by omega),List.getElem?_append_left (by omega),List.getElem?_eq_getElem (by omega)]
   congr 1
   refine sI ?_
   show(lN l off r.t).get j=_
   rw[iN,if_pos (by omega),List.getElem?_eq_getElem (by omega)]
  ·rw[List.getElem?_append_right (by omega),List.getElem?_drop,show off+l.length+(j - off - l.length)=j by omega,mq]
   by_cases h3:j<r.n
   ·rw[if_pos h3,if_pos h3]
    congr 1
    refine xX ?_ rfl
    show(lN l off r.t).get j=_
    rw[iN,if_neg (by omega)]
   ·rw[if_neg h3,if_neg h3]
omit [Io] in
theorem qV(r:Rw)(l:List AV):(r.app l).toL=r.toL++l:=by
 apply List.ext_getElem?
 intro j
 rw[mq]
 show(if j<Nat.add r.n (len l)then some ((r.app l).cell j)else none)=_
 rw[cF]
 have hl:=eM r
 have ha:Nat.add r.n l.length=r.n+l.length:=rfl
 rw[ha]
 by_cases h1:j<r.n
 ·rw[if_pos (by omega),List.getElem?_append_left (by omega),mq,if_pos h1]
  congr 1
  refine xX ?_ rfl
  show(lN l r.n r.t).get j=_
  rw[iN,if_neg (by omega)]
 ·rw[List.getElem?_append_right (by omega),hl]
  by_cases h2:j<r.n+l.length
  ·rw[if_pos h2,List.getElem?_eq_getElem (by omega)]
   congr 1
   refine sI ?_
   show(lN l r.n r.t).get j=_
   rw[iN,if_pos (by omega),List.getElem?_eq_getElem (by omega)]
  ·rw[if_neg h2,List.getElem?_eq_none (by omega)]
omit [Io] in
theorem zE{r p:Rw}{off k:Nat}(h:r.sub off k=some p):p.toL=(r.toL.drop off).take k/\p.toL.length=k:=by
 unfold Rw.sub at h
 cases hb:Nat.ble (Nat.add off k) r.n with
 |false=>rw[hb]at h;cases h
 |true=>
  rw[hb]at h
  have hle:off+k<=r.n:=Nat.le_of_ble_eq_true hb
  cases h
  have hs:r.jd off k=some (r.cells k off):=by unfold Rw.jd;rw[hb];rfl
  obtain⟨e1,e2,_⟩:=iz hs
  cases h0:Nat.beq off 0 with
  |true=>
   obtain rfl:=Nat.eq_of_beq_eq_true h0
   have:(r.upto k).toL=r.cells k 0:=rfl
   rw[cond_true,this,<-e1]
   exact⟨rfl,e2⟩
  |false=>
   rw[cond_false,hJ,<-e1]
   exact⟨rfl,e2⟩
omit [Io] in
theorem tx(z:List AV): ∀ (c j:Nat),(fE c z)[j]? =if j<c*z.length then z[j % z.length]? else none
 |0,j=>by show([]:List AV)[j]? =_;simp
 |c+1,j=>by
  show(app z (fE c z))[j]? =_
  rw[dn]
  by_cases h:j<z.length
  ·rw[List.getElem?_append_left h,Nat.mod_eq_of_lt h,if_pos (by rw[Nat.add_mul];omega)]
  ·have aeC:j % z.length=(j - z.length) % z.length:=Nat.mod_eq_sub_mod (by omega)
   rw[List.getElem?_append_right (by omega),tx z c,aeC,Nat.add_mul,Nat.one_mul]
   by_cases h2:j - z.length<c*z.length
   ·rw[if_pos h2,if_pos (by omega)]
   ·rw[if_neg h2,if_neg (by omega)]
omit [Io] in
theorem Dj(c:Nat)(z:List AV):(⟨Nat.mul c (len z),z,.nil⟩:Rw).toL=fE c z:=by
 apply List.ext_getElem?
 intro j
 rw[mq,tx]
 show(if j<Nat.mul c (len z)then some (Rw.cell ⟨Nat.mul c (len z),z,.nil⟩ j)else none)=_
 rw[cF]
 by_cases h:j<c*z.length
 ·have hm:Nat.mul c z.length=c*z.length:=rfl
  rw[hm,if_pos h,if_pos h]
  have hz:0<z.length:=by
   rcases Nat.eq_zero_or_pos z.length with e|e
   ·rw[e]at h;simp at h
   ·exact e
  have:j % z.length<z.length:=Nat.mod_lt _ hz
  show some (Option.rec (Option.rec gk (fun v=>v) (kE z (Nat.mod j (len z)))) (fun v=>v) ((Tr.nil:Tr AV).get j):AV)=_
  rw[Tr.get_nil,fQ,cF,show Nat.mod j z.length=j % z.length from rfl,List.getElem?_eq_getElem this]
 ·have hm:Nat.mul c z.length=c*z.length:=rfl
  rw[hm,if_neg h,if_neg h]
theorem bQ.length{g w}: ∀ {l:List AV} {vs:List Value},bQ g w l vs->vs.length=l.length
 | [],vs,h=>by simp only[bQ]at h;subst h;rfl
 |a::l,vs,h=>by
  simp only[bQ]at h
  obtain⟨v,l',rfl,_,r⟩:=h
  simp[bQ.length r]
theorem bQ.take{g w}: ∀ {l:List AV} {vs:List Value} (n:Nat),bQ g w l vs->bQ g w (l.take n) (vs.take n)
 | [],vs,n,h=>by simp only[bQ]at h;subst h;simp[bQ]
 |a::l,vs,0,h=>by simp[bQ]
 |a::l,vs,n+1,h=>by
  simp only[bQ]at h
  obtain⟨v,l',rfl,q,r⟩:=h
  simp only[List.take_succ_cons,bQ]
  exact⟨v,_,rfl,q,bQ.take n r⟩
theorem bQ.drop{g w}: ∀ {l:List AV} {vs:List Value} (n:Nat),bQ g w l vs->bQ g w (l.drop n) (vs.drop n)
 | [],vs,n,h=>by simp only[bQ]at h;subst h;simp[bQ]
 |a::l,vs,0,h=>h
 |a::l,vs,n+1,h=>by
  simp only[bQ]at h
  obtain⟨v,l',rfl,q,r⟩:=h
  exact bQ.drop n r
theorem bQ.append{g w}: ∀ {l r:List AV} {vs us:List Value},bQ g w l vs->bQ g w r us->bQ g w (l++r) (vs++us)
 | [],r,vs,us,h,k=>by simp only[bQ]at h;subst h;exact k
 |a::l,r,vs,us,h,k=>by
  simp only[bQ]at h
  obtain⟨v,l',rfl,q,p⟩:=h
  simp only[List.cons_append,bQ]
  exact⟨v,_,rfl,q,bQ.append p k⟩
theorem bQ.get{g w}: ∀ {l:List AV} {vs:List Value},bQ g w l vs-> ∀ (i:Nat) (a:AV),l[i]? =some a-> ∃ v,vs[i]? =some v/\VR g w a v
 | [],vs,h,i,a,e=>by simp at e
 |b::l,vs,h,0,a,e=>by
  simp only[bQ]at h
  obtain⟨v,l',rfl,q,p⟩:=h
  simp at e;subst e
  exact⟨v,rfl,q⟩
 |b::l,vs,h,i+1,a,e=>by
  simp only[bQ]at h
  obtain⟨v,l',rfl,q,p⟩:=h
  simpa using bQ.get p i a (by simpa using e)
theorem bQ.repeat{g w}{l:List AV}{vs:List Value}(h:bQ g w l vs): ∀ n,bQ g w (fE n l) (List.replicate n vs).flatten
 |0=>by show bQ g w [] _;simp[bQ]
 |n+1=>by
  show bQ g w (app l (fE n l)) _
  rw[dn,List.replicate_succ,List.flatten_cons]
  exact bQ.append h (bQ.repeat h n)
theorem bQ.one{g w}{a:AV}{v:Value}(h:VR g w a v):bQ g w [a] [v]:=by
 simp only[bQ];exact⟨v,[],rfl,h,rfl⟩
theorem VR.cells{g w}{a:AV}{v:Value}(h:VR g w a v):bQ g w a.cells v.cells.toList:=by
 cases a with
 |agg cs=>
  simp only[VR]at h
  obtain⟨vs,rfl,q⟩:=h
  exact q
 |sc x=>
  simp only[VR]at h
  obtain⟨rfl,h1⟩:=h
  have:v.cells= #[v]:=by cases v<;>first|rfl|(simp[Value.oneCell']at h1)
  rw[this]
  exact bQ.one (by simp[VR,h1])
 |sym k s lo hi off=>have h':=h;simp only[VR]at h;obtain⟨rfl,_⟩:=h;exact bQ.one h'
 |any=>
  have h1:=h
  simp only[VR]at h1
  have:v.cells= #[v]:=by cases v<;>first|rfl|(simp[Value.oneCell']at h1)
  rw[this]
  exact bQ.one h
 |dV id off n sz=>
  have h':=h
  simp only[VR]at h
  rcases h with⟨_,a,rfl⟩|⟨b,s,cap,_,rfl,_⟩<;>exact bQ.one h'
 |int k n=>have h':=h;simp only[VR]at h;subst h;exact bQ.one h'
 |bool b=>have h':=h;simp only[VR]at h;subst h;exact bQ.one h'
 |qP cs=>have h':=h;simp only[VR]at h;obtain⟨_,rfl,_⟩:=h;exact bQ.one h'
 |ref id off=>have h':=h;simp only[VR]at h;obtain⟨_,_,_,rfl⟩:=h;exact bQ.one h'
 |iw n cs=>have h':=h;simp only[VR]at h;obtain⟨_,_,rfl,_⟩:=h;exact bQ.one h'
 |gj cs=>have h':=h;simp only[VR]at h;obtain⟨_,_,_,rfl,_⟩:=h;exact bQ.one h'
 |eD=>have h':=h;simp only[VR]at h;obtain⟨_,rfl⟩:=h;exact bQ.one h'
 |mI=>have h':=h;simp only[VR]at h;obtain⟨_,rfl⟩:=h;exact bQ.one h'
 |fn f cap=>have h':=h;simp only[VR]at h;obtain⟨_,rfl,_⟩:=h;exact bQ.one h'
theorem VR.one{g w}{a:AV}{v:Value}(h:VR g w a v)(c:dU a=true):v.oneCell'=true:=by
 cases a with
 |agg cs=>cases c
 |qP cs=>cases c
 |sc x=>simp only[VR]at h;obtain⟨rfl,h1⟩:=h;exact h1
 |sym k s lo hi off=>simp only[VR]at h;obtain⟨rfl,_⟩:=h;rfl
 |any=>simpa only[VR]using h
 |dV id off n sz=>
  simp only[VR]at h
  rcases h with⟨_,a,rfl⟩|⟨b,s,cap,_,rfl,_⟩<;>rfl
 |int k n=>simp only[VR]at h;subst h;rfl
 |bool b=>simp only[VR]at h;subst h;rfl
 |ref id off=>simp only[VR]at h;obtain⟨_,_,_,rfl⟩:=h;rfl
 |iw n cs=>simp only[VR]at h;obtain⟨_,_,rfl,_⟩:=h;rfl
 |gj cs=>simp only[VR]at h;obtain⟨_,_,_,rfl,_⟩:=h;rfl
 |eD=>simp only[VR]at h;obtain⟨_,rfl⟩:=h;rfl
 |mI=>simp only[VR]at h;obtain⟨_,rfl⟩:=h;rfl
 |fn f cap=>simp only[VR]at h;obtain⟨_,rfl,_⟩:=h;rfl
theorem bQ.BU{g w}: ∀ {l:List AV} {vs:List Value},bQ g w l vs->fB dU l=true-> ∀ v∈vs,v.oneCell'=true
 | [],vs,h,_,v,e=>by simp only[bQ]at h;subst h;cases e
 |a::l,vs,h,c,v,e=>by
  simp only[bQ]at h
  obtain⟨u,l',rfl,q,p⟩:=h
  rw[hI]at c
  simp at c
  cases e with
  |head=>exact VR.one q c.1
  |tail _ e=>exact bQ.BU p (by rw[hI];simpa using c.2) v e
omit [Io] in
theorem ee.drop{w:World}{b o:Nat}{vs:List Value}(h:ee w b o vs)(n:Nat):ee w b (o+n) (vs.drop n):=by
 intro j v e
 rw[List.getElem?_drop]at e
 have:=h (n+j) v e
 rwa [Nat.add_assoc]
omit [Io] in
theorem ee.take{w:World}{b o:Nat}{vs:List Value}(h:ee w b o vs)(n:Nat):ee w b o (vs.take n):=by
 intro j v e
 rw[List.getElem?_take]at e
 split at e
 ·exact h j v e
 ·cases e
theorem HC.row{g w h}(H:HC g w h){id:Nat}{cs:Rw}(e:h.aU.get id=some cs){b s:Nat}(hm:g.m id=some (b,s)):
 ∃ C,∃ el:FT C,∃ vs,w.heap[b]? =some (.cells C el.el el.fz)/\ ¬ g.eL b/\bQ g w cs.toL vs/\(∀ (j:Nat) (v:Value),vs[j]? =some v->C[s+j]? =some v):=by
 obtain⟨b',s',C,el,vs,Di,hw,hi,hv,hc⟩:=H.aU id cs e
 rw[hm]at Di
 obtain⟨rfl,rfl⟩:=Prod.mk.inj (Option.some.inj Di)
 exact⟨C,el,vs,hw,hi,hv,hc⟩
theorem HR.row{g w h}(H:HR g w h){id:Nat}{cs:Rw}(e:h.aU.get id=some cs){b s:Nat}(hm:g.m id=some (b,s)):
 ∃ C,∃ el:FT C,∃ vs,w.heap[b]? =some (.cells C el.el el.fz)/\ ¬ g.eL b/\bQ g w cs.toL vs/\(∀ (j:Nat) (v:Value),vs[j]? =some v->C[s+j]? =some v):=H.toHC.row e hm
omit [Io] in
theorem fN{w:World}{b s:Nat}{C:Array Value}{el fz}{vs:List Value}(hw:w.heap[b]? =some (.cells C el fz))(hc: ∀ (j:Nat) (v:Value),vs[j]? =some v->C[s+j]? =some v):
 ee w b s vs:=by
 intro j v e
 simp[World.cell?,hw,hc j v e]
omit [Io] in
theorem iV{w:World}{b:Nat}{C:Array Value}{el fz}(hw:w.heap[b]? =some (.cells C el fz)):ed w b=C.size:=by
 simp[ed,hw]
def G.add(g:G)(id b:Nat):G:=⟨fun i=>if i=id then some (b,0)else g.m i,g.eL⟩
theorem zF{g w h}(H:HR g w h){w':World}{cs:Rw}{C:Array Value}(el:FT C){vs:List Value}(h1:w'.os=w.os)(h2:w'.tape=w.tape)(h3:w'.output=w.output)(h4:w'.heap.size=w.heap.size+1)
 (hp: ∀ b,w'.heap[b]? =if b=w.heap.size then some (.cells C el.el el.fz)else w.heap[b]?)(hv:bQ g w cs.toL vs)(hc: ∀ (j:Nat) (v:Value),vs[j]? =some v->C[j]? =some v):
 Ext g w h (g.add h.next w.heap.size) w' (dK h cs)/\HR (g.add h.next w.heap.size) w' (dK h cs):=by
 have hg: ∀ id,(dK h cs).aU.get id=if id=h.next then some cs else h.aU.get id:=fun id=>Tr.gZ _ _ _ _
 have mW: ∀ id x,g.m id=some x->id≠h.next:=by
  intro id x e he
  rw[H.fresh id (by omega)]at e;cases e
 have E:Ext g w h (g.add h.next w.heap.size) w' (dK h cs):=by
  refine⟨h1,h2,h3,by omega,Nat.le_succ _,?_,?_,?_,fun _ i=>i,fun _ i=>.inl i,?_⟩
  ·intro id x e
   simp only[G.add,if_neg (mW id x e)]
   exact e
  ·intro b hb _
   rw[hp,if_neg (by omega)]
  ·intro b
   unfold ed
   rw[hp]
   by_cases hb:b=w.heap.size
   ·subst hb;simp
   ·rw[if_neg hb];exact Nat.le_refl _
  ·rintro b ⟨id,cs',s,e,m⟩
   rw[hg]at e
   by_cases gK:id=h.next
   ·subst gK
    simp only[G.add,if_true]at m
    obtain⟨rfl,_⟩:=Prod.mk.inj (Option.some.inj m)
    exact .inr (Nat.le_refl _)
   ·rw[if_neg gK]at e
    simp only[G.add,if_neg gK]at m
    exact .inl ⟨id,cs',s,e,m⟩
 refine⟨E,?_,?_,?_,?_,kY.ext H E⟩
 ·intro id gK
  have akc:h.next+1<=id:=gK
  simp only[G.add]
  rw[if_neg (by omega)]
  exact H.fresh id (by omega)
 ·intro id cs' e
  rw[hg]at e
  by_cases gK:id=h.next
  ·subst gK
   rw[if_pos rfl]at e
   obtain rfl:=Option.some.inj e
   refine⟨w.heap.size,0,C,el,vs,by simp[G.add],by rw[hp,if_pos rfl],?_,bQ.mono H E _ _ hv,by simpa using hc⟩
   intro i
   exact absurd (H.eL _ i) (by omega)
  ·rw[if_neg gK]at e
   obtain⟨b,s,C',el',WN,hm,hw,hi,nF,WO⟩:=H.aU id cs' e
   have hb:b<w.heap.size:=(Array.getElem?_eq_some_iff.1 hw).1
   exact⟨b,s,C',el',WN,by simp only[G.add,if_neg gK];exact hm,by rw[hp,if_neg (by omega)];exact hw,hi,bQ.mono H E _ _ nF,WO⟩
 ·intro id sE b s s' Dk uY e1 e2 m1 m2
  rw[hg]at e1 e2
  have oL: ∀ id x b s,id≠h.next->h.aU.get id=some x->g.m id=some (b,s)->b≠w.heap.size:=by
   intro id x b s _ e m hb
   obtain⟨_,_,_,hw,_⟩:=H.row e m
   have:=(Array.getElem?_eq_some_iff.1 hw).1
   omega
  by_cases k1:id=h.next<;>by_cases k2:sE=h.next
  ·exact k1.trans k2.symm
  ·subst k1
   rw[if_neg k2]at e2
   simp only[G.add,if_true]at m1
   simp only[G.add,if_neg k2]at m2
   obtain⟨rfl,_⟩:=Prod.mk.inj (Option.some.inj m1)
   exact absurd rfl (oL sE _ _ _ k2 e2 m2)
  ·subst k2
   rw[if_neg k1]at e1
   simp only[G.add,if_true]at m2
   simp only[G.add,if_neg k1]at m1
   obtain⟨rfl,_⟩:=Prod.mk.inj (Option.some.inj m2)
   exact absurd rfl (oL id _ _ _ k1 e1 m1)
  ·rw[if_neg k1]at e1
   rw[if_neg k2]at e2
   simp only[G.add,if_neg k1]at m1
   simp only[G.add,if_neg k2]at m2
   exact H.inj id sE b s s' Dk uY e1 e2 m1 m2
 ·intro b i
  have:=H.eL b i
  omega
theorem uu{g w h}(H:HR g w h){cs:Rw}{C:Array Value}(el:TypeId){vs:List Value}(hv:bQ g w cs.toL vs)(hc: ∀ (j:Nat) (v:Value),vs[j]? =some v->C[j]? =some v):
 Ext g w h (g.add h.next w.heap.size) (w.alloc (.cells C el)) (dK h cs)/\HR (g.add h.next w.heap.size) (w.alloc (.cells C el)) (dK h cs):=
 zF H (FT.nw C el) rfl rfl rfl (by show(w.heap.push _).size=_;rw[Array.size_push]) (fun b=>by
  show(w.heap.push _)[b]? =_
  rw[Array.getElem?_push];rfl) hv hc
theorem xY{g:G}{w h C el n c sz}(hn:n<=c)(hc:c*sz<=C.size):
 VR (g.add h (World.heap w).size) (w.alloc (.cells C el)) (.dV h 0 n sz) (.slice (some ⟨w.heap.size,0,none⟩) n c):=by
 simp only[VR]
 refine .inr ⟨w.heap.size,0,c,by simp[G.add],rfl,hn,?_⟩
 have:(w.alloc (.cells C el)).heap[w.heap.size]? =some (.cells C el):=by
  show(w.heap.push _)[w.heap.size]? =_
  simp
 rw[iV this]
 omega
end Go.Ab
