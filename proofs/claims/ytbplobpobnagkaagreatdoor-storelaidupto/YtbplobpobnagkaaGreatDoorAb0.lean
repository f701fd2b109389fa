import Derived.Calls
import Derived.Laws.Sem
import Derived.Laws.AppendOwn
import Derived.Laws.MakeOwn
import Derived.Laws.CopyRow
noncomputable section
namespace Go.Ab
def iu{α:Type}(c:Bool)(a b:α):α:=Bool.rec b a c
inductive Tr (α:Type) where
 |nil
 |node (l:Tr α) (v:Option α) (r:Tr α)
def Tr.get{α:Type}(t:Tr α):Nat->Option α:=
 Tr.rec (fun _=>none) (fun _ v _ gl gr n=>Bool.rec (Bool.rec (gr (Nat.sub (Nat.div n 2) 1)) (gl (Nat.div n 2)) (Nat.beq (Nat.mod n 2) 1)) v (Nat.beq n 0)) t
def Tr.lf{α:Type}(t:Tr α):Tr α:=Tr.rec .nil (fun l _ _ _ _=>l) t
def Tr.rt{α:Type}(t:Tr α):Tr α:=Tr.rec .nil (fun _ _ r _ _=>r) t
def Tr.hd{α:Type}(t:Tr α):Option α:=Tr.rec none (fun _ v _ _ _=>v) t
def Tr.EK{α:Type}(f:Nat):Tr α->Nat->Option α->Tr α:=
 Nat.rec (fun t _ _=>t) (fun _ go t n x=>
  Bool.rec (Bool.rec (.node t.lf t.hd (go t.rt (Nat.sub (Nat.div n 2) 1) x)) (.node (go t.lf (Nat.div n 2) x) t.hd t.rt) (Nat.beq (Nat.mod n 2) 1))
   (.node t.lf x t.rt) (Nat.beq n 0)) f
def Tr.set{α:Type}(t:Tr α)(n:Nat)(x:Option α):Tr α:=Tr.EK (Nat.succ n) t n x
structure F8(α:Type) where
 a0:α
 a1:α
 a2:α
 a3:α
 a4:α
 a5:α
 a6:α
 a7:α
def F8.Cd{α:Type}(f:F8 α):Nat->α
 |0=>f.a0|1=>f.a1|2=>f.a2|3=>f.a3|4=>f.a4|5=>f.a5|6=>f.a6| _=>f.a7
def F8.EE{α:Type}(f:F8 α)(x:α):Nat->F8 α
 |0=>⟨x,f.a1,f.a2,f.a3,f.a4,f.a5,f.a6,f.a7⟩
 |1=>⟨f.a0,x,f.a2,f.a3,f.a4,f.a5,f.a6,f.a7⟩
 |2=>⟨f.a0,f.a1,x,f.a3,f.a4,f.a5,f.a6,f.a7⟩
 |3=>⟨f.a0,f.a1,f.a2,x,f.a4,f.a5,f.a6,f.a7⟩
 |4=>⟨f.a0,f.a1,f.a2,f.a3,x,f.a5,f.a6,f.a7⟩
 |5=>⟨f.a0,f.a1,f.a2,f.a3,f.a4,x,f.a6,f.a7⟩
 |6=>⟨f.a0,f.a1,f.a2,f.a3,f.a4,f.a5,x,f.a7⟩
 | _=>⟨f.a0,f.a1,f.a2,f.a3,f.a4,f.a5,f.a6,x⟩
def F8.all{α:Type}(x:α):F8 α:=⟨x,x,x,x,x,x,x,x⟩
inductive SV where
 |var (i:Nat)
 |EL (i:Nat)
 |umod (i c:Nat)
 |lin (i:Nat) (m:Int)
 |P2 (i p m:Nat)
 |cl (i:Nat) (l h:Int)
 |pr (i:Nat) (l h:Int) (j:Nat)
 |ad (i j:Nat) (l h:Int)
 |WJ (n:Int)
 |sm (l:List Nat)
 |ix (l:List Nat) (a:SV) (o:Int)
 |tm (f:Nat) (k k':IntKind) (a:SV) (oa:Int) (b:SV) (ob:Int)
 |bits (l:List Nat)
inductive AV where
 |int (k:IntKind) (n:Int)
 |bool (b:Bool)
 |sc (v:Value)
 |agg (cs:List AV)
 |wm (vs:List AV)
 |ref (id off:Nat)
 |ff (id off len sz:Nat)
 |kX (len:Nat) (cs:List AV)
 |jy (cs:List AV)
 |fm
 |p'
 |fn (f:FuncId) (cap:List AV)
 |sym (k:IntKind) (s:SV) (lo hi off:Int)
 |any
 deriving Inhabited
abbrev Tm:=F8 (F8 (F8 (Option AV)))
def Tm.at(t:Tm)(i:Nat):Option AV:=((t.Cd (i / 64)).Cd (i / 8 % 8)).Cd (i % 8)
def Tm.put(t:Tm)(i:Nat)(v:Option AV):Tm:=t.EE ((t.Cd (i / 64)).EE (((t.Cd (i / 64)).Cd (i / 8 % 8)).EE v (i % 8)) (i / 8 % 8)) (i / 64)
def Tm.none:Tm:=F8.all (F8.all (F8.all Option.none))
structure Rw where
 n:Nat
 d:List AV
 t:Tr AV
structure Hp where
 next:Nat
 aL:Tr Rw
inductive Ro where
 |bad
 |ok (v:AV) (h:Hp)
inductive Rt where
 |bad
 |ok (t:Tm) (h:Hp)
inductive Rc where
 |bad
 |norm (t:Tm) (h:Hp)
 |ret (t:Tm) (h:Hp)
 |exit (i:Nat) (t:Tm) (h:Hp)
abbrev eJ:=Tm->Option AV
abbrev eH:=Tm->Hp->Ro
abbrev mV:=Tm->Hp->Rt
abbrev ze:=Tm->Hp->Rc
abbrev cX:=FuncId->List AV->Hp->Ro
def app{α:Type}(l r:List α):List α:=List.rec r (fun a _ ih=>a::ih) l
def len{α:Type}(l:List α):Nat:=List.rec (fun n=>n) (fun _ _ ih n=>ih (Nat.add n 1)) l (0:Nat)
def tk{α:Type}(n:Nat)(l:List α):List α:=
 List.rec (fun _=>[]) (fun a _ ih n=>Bool.rec (a::ih (Nat.sub n 1)) [] (Nat.beq n 0)) l n
def dp{α:Type}(n:Nat)(l:List α):List α:=
 List.rec (fun _=>[]) (fun a r ih n=>Bool.rec (ih (Nat.sub n 1)) (a::r) (Nat.beq n 0)) l n
def kY{α:Type}(l:List α)(n:Nat):Option α:=
 List.rec (fun _=>none) (fun a _ ih n=>Bool.rec (ih (Nat.sub n 1)) (some a) (Nat.beq n 0)) l n
def cf{α:Type}(p:α->Bool)(l:List α):Bool:=List.rec true (fun a _ ih=>bif p a then ih else false) l
def leaf:Value->Option AV
 | .int k n=>some (.int k n)
 | .bool b=>some (.bool b)
 | .string s=>some (.sc (.string s))
 | .pointer none=>some (.sc (.pointer none))
 | .slice none 0 0=>some (.sc (.slice none 0 0))
 | .map none=>some (.sc (.map none))
 | .nilFunc=>some (.sc .nilFunc)
 | .nilIface=>some (.sc .nilIface)
 | _=>none
def leaves(l:List Value):Option (List AV):=
 List.rec (some []) (fun v _ ih=>match leaf v with
  |some a=>match ih with
   |some r=>some (a::r)
   |none=>none
  |none=>none) l
def Qm:Value->Option AV
 | .agg cs=>match leaves cs.toList with|some l=>some (.agg l)|none=>none
 | .tuple cs=>match leaves cs.toList with|some l=>some (.wm l)|none=>none
 |v=>leaf v
def AV.cells:AV->List AV
 | .agg cs=>cs
 |v=>[v]
def dQ:AV->Bool
 | .agg _| .wm _=>false
 | _=>true
def gQ:AV:=.wm []
def isNil:AV->Bool
 | .sc (.slice none n c)=>Nat.beq n 0&&Nat.beq c 0
 | _=>false
def sA:AV->Bool
 | .p'=>true
 |a=>isNil a
def P3:AV->Bool
 | .p'=>true
 | .fm=>true
 | .ff _ _ n _=>Nat.beq n 0
 | .kX n _=>Nat.beq n 0
 |a=>isNil a
def uS(a:AV):AV:=bif sA a then .fm else a
def AG(a:AV):Option Bool:=bif isNil a then some true else match a with
 | .p'=>some false
 | .ff _ _ _ _=>some false
 | .kX n _=>bif Nat.beq n 0 then none else some false
 | _=>none
def Rw.cell(r:Rw)(i:Nat):AV:=Option.rec (Option.rec gQ (fun v=>v) (kY r.d (Nat.mod i (len r.d)))) (fun v=>v) (r.t.get i)
def Rw.cells(r:Rw)(k:Nat):Nat->List AV:=Nat.rec (fun _=>[]) (fun _ ih i=>r.cell i::ih (Nat.add i 1)) k
def Rw.toL(r:Rw):List AV:=r.cells r.n 0
def mq(l:List AV):Nat->Tr AV->Tr AV:=List.rec (fun _ t=>t) (fun a _ ih i t=>ih (Nat.add i 1) (t.set i (some a))) l
def wM(l:List AV):Rw:=⟨len l,[],mq l 0 .nil⟩
def Rw.lG(r:Rw)(off k:Nat):Option (List AV):=bif Nat.ble (Nat.add off k) r.n then some (r.cells k off)else none
def Rw.put(r:Rw)(off:Nat)(l:List AV):Rw:=⟨r.n,r.d,mq l off r.t⟩
def Rw.app(r:Rw)(l:List AV):Rw:=⟨Nat.add r.n (len l),r.d,mq l r.n r.t⟩
def Rw.upto(r:Rw)(m:Nat):Rw:=⟨m,r.d,r.t⟩
def Rw.sub(r:Rw)(off k:Nat):Option Rw:=bif Nat.ble (Nat.add off k) r.n then some (bif Nat.beq off 0 then r.upto k else wM (r.cells k off))else none
def oT(i:Nat):eJ:=fun t=>Tm.at t i
def wO(x:eJ):eJ:=fun t=>Option.rec none (fun a=>some (uS a)) (x t)
abbrev abI:=AV->Tm->Tm
def sT(i:Nat):abI:=fun v t=>Tm.put t i (some v)
def oC(v:AV):eJ:=fun _=>some v
def oX:eJ:=fun _=>none
def uV(l:List eJ)(t:Tm):Option (List AV):=
 List.rec (some []) (fun o _ ih=>Option.rec none (fun v=>Option.rec none (fun vs=>some (v::vs)) ih) (o t)) l
def dw(h:Hp)(cs:Rw):Hp:=⟨Nat.add h.next 1,h.aL.set h.next (some cs)⟩
def jz(h:Hp)(id:Nat)(cs:Option Rw):Hp:=⟨h.next,h.aL.set id cs⟩
def eX(k:IntKind)(n:Int):Int:=
 match k with
 | .u8=>Int.emod n 256| .u16=>Int.emod n 65536| .u32=>Int.emod n 4294967296| .u64=>Int.emod n 18446744073709551616
 | .i8=>Int.sub (Int.emod (Int.add n 128) 256) 128| .i16=>Int.sub (Int.emod (Int.add n 32768) 65536) 32768
 | .i32=>Int.sub (Int.emod (Int.add n 2147483648) 4294967296) 2147483648
 | .i64=>Int.sub (Int.emod (Int.add n 9223372036854775808) 18446744073709551616) 9223372036854775808
def jv:IntKind->IntKind->Bool
 | .i8,.i8| .i16,.i16| .i32,.i32| .i64,.i64| .u8,.u8| .u16,.u16| .u32,.u32| .u64,.u64=>true
 | _,_=>false
def kV:Int->Int->Bool
 | .ofNat a,.ofNat b=>Nat.blt a b
 | .ofNat _,.negSucc _=>false
 | .negSucc _,.ofNat _=>true
 | .negSucc a,.negSucc b=>Nat.blt b a
def eqI:Int->Int->Bool
 | .ofNat a,.ofNat b=>Nat.beq a b
 | .negSucc a,.negSucc b=>Nat.beq a b
 | _,_=>false
def kE(s:Sem Value):Option Value:=
 match s with
 | .pure v=>some v
 | _=>none
def mY(f:IntKind->Int->Int->Option AV)(x y:AV):Option AV:=
 match x,y with
 | .int k a,.int k' b=>bif jv k k' then f k a b else none
 | _,_=>none
def WK:AV->AV->Option AV:=mY fun k a b=>some (.int k (eX k (Int.add a b)))
def WL:AV->AV->Option AV:=mY fun k a b=>some (.int k (eX k (Int.sub a b)))
def WM:AV->AV->Option AV:=mY fun k a b=>some (.int k (eX k (Int.mul a b)))
def Qn:AV->AV->Option AV:=mY fun k a b=>bif eqI b 0 then none else some (.int k (eX k (Int.tdiv a b)))
def Qo:AV->AV->Option AV:=mY fun k a b=>bif eqI b 0 then none else some (.int k (Int.tmod a b))
def WN:AV->AV->Option AV:=mY fun _ a b=>some (.bool (kV a b))
def WO:AV->AV->Option AV:=mY fun _ a b=>some (.bool (!(kV b a)))
def WQ:AV->AV->Option AV:=mY fun _ a b=>some (.bool (kV b a))
def WR:AV->AV->Option AV:=mY fun _ a b=>some (.bool (!(kV a b)))
def je:IntKind->Nat
 | .i8=>128| .i16=>32768| .i32=>2147483648| .i64=>9223372036854775808
 | .u8=>256| .u16=>65536| .u32=>4294967296| .u64=>18446744073709551616
def rW:IntKind->Nat
 | .i8| .u8=>8| .i16| .u16=>16| .i32| .u32=>32| .i64| .u64=>64
def xk(s:Option Value):Option AV:=match s with
 |some v=>Qm v
 |none=>none
def zQ(op:BinOp)(f:Nat->Nat->Nat):AV->AV->Option AV:=mY fun k a b=>
 match a,b with
 | .ofNat a,.ofNat b=>bif Nat.blt a (je k)&&Nat.blt b (je k)then some (.int k (.ofNat (f a b)))else xk (kE (Op.intBits op k (.ofNat a) (.ofNat b)))
 |a,b=>xk (kE (Op.intBits op k a b))
def Qp:AV->AV->Option AV:=zQ .and Nat.land
def bOr:AV->AV->Option AV:=zQ .or Nat.lor
def Qq:AV->AV->Option AV:=zQ .xor Nat.xor
def pe:AV->AV->Option AV:=mY fun k a b=>xk (kE (Op.intBits .andNot k a b))
def xl(a b:Nat):Nat:=bif Nat.ble a b then a else b
def EM(x y:AV):Option AV:=
 match x,y with
 | .int k a,.int _ (.ofNat n)=>some (.int k (eX k (Int.mul a (.ofNat (Nat.pow 2 (xl n (rW k)))))))
 | _,_=>none
def EN(x y:AV):Option AV:=
 match x,y with
 | .int k a,.int _ (.ofNat n)=>some (.int k (Int.fdiv a (.ofNat (Nat.pow 2 (xl n (rW k))))))
 | _,_=>none
def eqStr(a b:ByteArray):Bool:=a.toList == b.toList
def Kw(neg:Bool):AV->AV->Option AV:=mY fun _ a b=>some (.bool (bif neg then !(eqI a b)else eqI a b))
def Co(neg:Bool)(x y:AV):Option AV:=
 match x,y with
 | .bool a,.bool b=>some (.bool (bif neg then xor a b else !(xor a b)))
 | _,_=>none
def zh(neg:Bool)(x y:AV):Option AV:=
 match x,y with
 | .sc (.string a),.sc (.string b)=>some (.bool (bif neg then !(eqStr a b)else eqStr a b))
 | _,_=>none
def nX(neg:Bool)(x y:AV):Option AV:=
 match x,y with
 | .ref _ _,.sc (.pointer none)| .jy _,.sc (.pointer none)| .sc (.pointer none),.ref _ _| .sc (.pointer none),.jy _=>some (.bool neg)
 | .sc (.pointer none),.sc (.pointer none)=>some (.bool (!neg))
 | _,_=>none
def nC(neg:Bool)(x y:AV):Option AV:=bif isNil y then Option.rec none (fun b=>some (.bool (bif neg then !b else b))) (AG x)else none
def WS:IntKind->Int
 | .i8=> -128| .i16=> -32768| .i32=> -2147483648| .i64=> -9223372036854775808| _=>0
def U9:IntKind->Int
 | .i8=>127| .i16=>32767| .i32=>2147483647| .i64=>9223372036854775807
 | .u8=>255| .u16=>65535| .u32=>4294967295| .u64=>18446744073709551615
def Qr:IntKind->Int
 | .i8| .u8=>256| .i16| .u16=>65536| .i32| .u32=>4294967296| .i64| .u64=>18446744073709551616
def uW:List Nat->List Nat->Bool
 | [],[]=>true
 |a::l,b::m=>bif Nat.beq a b then uW l m else false
 | _,_=>false
def nY:SV->SV->Bool
 | .var i,.var j=>Nat.beq i j
 | .EL i,.EL j=>Nat.beq i j
 | .umod i c,.umod j d=>Nat.beq i j&&Nat.beq c d
 | .lin i m,.lin j n=>Nat.beq i j&&eqI m n
 | .P2 i p m,.P2 j q n=>Nat.beq i j&&(Nat.beq p q&&Nat.beq m n)
 | .bits l,.bits m=>uW l m
 | .WJ m,.WJ n=>eqI m n
 | .sm l,.sm m=>uW l m
 | .cl i l h,.cl i' l' h'=>Nat.beq i i'&&(eqI l l'&&eqI h h')
 | .pr i l h j,.pr i' l' h' j'=>Nat.beq i i'&&(eqI l l'&&(eqI h h'&&Nat.beq j j'))
 | .ad i j l h,.ad i' j' l' h'=>Nat.beq i i'&&(Nat.beq j j'&&(eqI l l'&&eqI h h'))
 | _,_=>false
def EO(a:SV):SV->Bool:=
 SV.rec (motive:=fun _=>SV->Bool) (fun i=>nY (.var i)) (fun i=>nY (.EL i)) (fun i c=>nY (.umod i c)) (fun i m=>nY (.lin i m)) (fun i p m=>nY (.P2 i p m))
  (fun i l h=>nY (.cl i l h)) (fun i l h j=>nY (.pr i l h j)) (fun i j l h=>nY (.ad i j l h)) (fun n=>nY (.WJ n)) (fun l=>nY (.sm l))
  (fun l _ o sB y=>match y with
   | .ix l2 a2 o2=>uW l l2&&(eqI o o2&&sB a2)
   | _=>false)
  (fun f k k' _ oa _ ob sB xm y=>match y with
   | .tm f2 k2 k2' a2 oa2 b2 ob2=>Nat.beq f f2&&(jv k k2&&(jv k' k2'&&(eqI oa oa2&&(eqI ob ob2&&(sB a2&&xm b2)))))
   | _=>false) (fun l=>nY (.bits l)) a
def WT(k:IntKind)(lo hi off:Int):Bool:= !(kV (Int.add lo off) (WS k))&& !(kV (U9 k) (Int.add hi off))
def zi(k:IntKind)(s:SV)(lo hi off:Int):Option AV:=
 bif WT k lo hi off then some (.sym k s lo hi off)else
 bif WT k lo hi (Int.add off (Qr k))then some (.sym k s lo hi (Int.add off (Qr k)))else
 bif WT k lo hi (Int.sub off (Qr k))then some (.sym k s lo hi (Int.sub off (Qr k)))else none
def an'(x y:AV):Option AV:=match x,y with
 | .sym k s lo hi o,.int k' c=>bif jv k k' then zi k s lo hi (Int.add o c)else none
 | .int k' c,.sym k s lo hi o=>bif jv k k' then zi k s lo hi (Int.add o c)else none
 | _,_=>none
def abJ(b:List Nat)(a:List Nat):Option (List Nat):=List.rec (bif uW [] b then some []else none) (fun x r ih=>bif uW (x::r) b then some []else match ih with
 |some m=>some (x::m)
 |none=>none) a
def aoa(x y:AV):Option AV:=match x,y with
 | .sym k s lo hi o,.int k' c=>bif jv k k' then zi k s lo hi (Int.sub o c)else none
 | .sym k s lo hi o,.sym k' s' lo' uX o'=>bif jv k k'&&EO s s' then some (.int k (eX k (Int.sub o o')))else bif jv k k' then(match s,s' with
  | .ad i j l h,.var i'=>bif Nat.beq i i'&& !(kV h l)then zi k (.cl j l h) l h (Int.sub o o')else none
  | .sm a,.sm b=>(match abJ b a with
   |some m=>zi k (.sm m) (Int.sub lo uX) (Int.sub hi lo') (Int.sub o o')
   |none=>none)
  | .sm a,.var i=>(match abJ [i] a with
   |some m=>zi k (.sm m) (Int.sub lo uX) (Int.sub hi lo') (Int.sub o o')
   |none=>none)
  | _,_=>none)else none
 | _,_=>none
def Kx(_ _:AV):Option Bool:=none
def Qs(w:Nat):Nat->List Nat:=Nat.rec (fun _=>[]) (fun _ ih n=>Nat.mod n 2::ih (Nat.div n 2)) w
def GN(w:Nat):Nat->List Nat:=Nat.rec (fun _=>[]) (fun _ ih b=>b::ih (Nat.add b 1)) w
def Cp(n:Nat):List Nat:=Nat.rec [] (fun _ ih=>(0:Nat)::ih) n
def hiB(l:List Nat):Nat:=List.rec (0:Nat) (fun c _ ih=>Nat.add (Nat.mul 2 ih) (Bool.rec 1 0 (Nat.beq c 0))) l
def loB(l:List Nat):Nat:=List.rec (0:Nat) (fun c _ ih=>Nat.add (Nat.mul 2 ih) (Bool.rec 0 1 (Nat.beq c 1))) l
def ahl(l:List Nat):Bool:=List.rec true (fun c _ ih=>Bool.rec false ih (Nat.blt c 2)) l
def mkB(k:IntKind)(l:List Nat):Option AV:=
 bif kV (U9 k) (.ofNat (hiB l))then none else
 bif ahl l then some (.int k (.ofNat (hiB l)))else some (.sym k (.bits l) (.ofNat (loB l)) (.ofNat (hiB l)) 0)
def toB(x:AV):Option (IntKind×List Nat):=match x with
 | .int k (.ofNat n)=>bif Nat.blt n (je k)then some (k,Qs 64 n)else none
 | .sym k (.bits l) _ (.ofNat hi) (.ofNat o)=>bif Nat.beq o 0&&Nat.blt hi (je k)then some (k,l)else none
 | .sym k (.var i) (.ofNat _) (.ofNat hi) (.ofNat o)=>
  bif Nat.beq o 0&&(Nat.blt hi (je k)&&(Nat.blt hi (Nat.pow 2 (Nat.add (Nat.log2 hi) 1))&&Nat.ble (Nat.add (Nat.log2 hi) 1) 64))then
   some (k,app (GN (Nat.add (Nat.log2 hi) 1) (Nat.add 2 (Nat.mul 64 i))) (Cp (Nat.sub 63 (Nat.log2 hi))))else none
 | .sym k (.EL i) _ (.ofNat hi) (.ofNat o)=>bif Nat.beq o 0&&Nat.blt hi (je k)then some (k,GN 64 (Nat.add 2 (Nat.mul 64 i)))else none
 | _=>none
def ahm(f:Nat->Nat->Option Nat)(l:List Nat):List Nat->Option (List Nat):=
 List.rec (fun m=>List.rec (some []) (fun _ _ _=>none) m) (fun a _ ih m=>List.rec none (fun b m _=>
  match f a b with
  |some c=>match ih m with
   |some r=>some (c::r)
   |none=>none
  |none=>none) m) l
def ahn(a b:Nat):Option Nat:=bif Nat.beq a 0||Nat.beq b 0 then some 0 else bif Nat.beq a 1 then some b else bif Nat.beq b 1||Nat.beq a b then some a else none
def or1(a b:Nat):Option Nat:=bif Nat.beq a 1||Nat.beq b 1 then some 1 else bif Nat.beq a 0 then some b else bif Nat.beq b 0||Nat.beq a b then some a else none
def aho(a b:Nat):Option Nat:=bif Nat.beq a b then some 0 else bif Nat.beq a 0 then some b else bif Nat.beq b 0 then some a else none
def zB(f:Nat->Nat->Option Nat)(x y:AV):Option AV:=match toB x,toB y with
 |some (k,l),some (k',m)=>bif jv k k' then(match ahm f l m with
  |some r=>mkB k r
  |none=>none)else none
 | _,_=>none
def abK:IntKind->Bool
 | .u8| .u16| .u32| .u64=>true
 | _=>false
def aod:AV->AV->Option AV:=zB ahn
def sOr:AV->AV->Option AV:=zB or1
def aoe:AV->AV->Option AV:=zB aho
def aof(x y:AV):Option AV:=match toB x with
 |some (k,l)=>match y with
  | .int _ (.ofNat n)=>bif abK k then mkB k (app (tk (rW k) (app (Cp (xl n (rW k))) l)) (Cp (Nat.sub 64 (rW k))))else none
  | _=>none
 |none=>none
def aog(x y:AV):Option AV:=match toB x with
 |some (k,l)=>match y with
  | .int _ (.ofNat n)=>mkB k (app (dp (xl n (rW k)) l) (Cp (xl n (rW k))))
  | _=>none
 |none=>none
def abL(k:IntKind)(x:AV):Option AV:=match toB x with
 |some (_,l)=>bif abK k then mkB k (app (tk (rW k) l) (Cp (Nat.sub 64 (rW k))))else none
 |none=>none
def eqB(x y:AV):Option Bool:=match toB x,toB y with
 |some (k,l),some (k',m)=>bif jv k k'&&uW l m then some true else none
 | _,_=>none
def ahp(x y:AV):Option Bool:=match x,y with
 | .sym k _ lo hi o,.int k' c=>bif jv k k' then(bif kV c (Int.add lo o)||kV (Int.add hi o) c then some false else bif eqI (Int.add lo o) c&&eqI (Int.add hi o) c then some true else none)else none
 | .int k' c,.sym k _ lo hi o=>bif jv k k' then(bif kV c (Int.add lo o)||kV (Int.add hi o) c then some false else bif eqI (Int.add lo o) c&&eqI (Int.add hi o) c then some true else none)else none
 | .sym k s _ _ o,.sym k' s' _ _ o'=>bif jv k k'&&EO s s' then some (eqI o o')else none
 | _,_=>none
def aoh(x y:AV):Option Bool:=Option.rec (eqB x y) (fun b=>some b) (ahp x y)
def eqL(x y:AV):Option Bool:=match Kx x y with
 |some true=>some false
 | _=>match Kx y x with
  |some true=>some false
  | _=>none
def Qt(_ _:AV):Option Bool:=none
def aoi(x y:AV):Option AV:=Option.rec none (fun b=>some (.bool b)) (Kx x y)
def aoj(x y:AV):Option AV:=Option.rec none (fun b=>some (.bool b)) (Kx y x)
def aok(x y:AV):Option AV:=Option.rec none (fun b=>some (.bool (!b))) (Kx y x)
def aol(x y:AV):Option AV:=Option.rec none (fun b=>some (.bool (!b))) (Kx x y)
def sEq(neg:Bool)(x y:AV):Option AV:=Option.rec none (fun b=>some (.bool (bif neg then !b else b))) (Qt x y)
def aom(x y:AV):Option AV:=match x,y with
 | .sym k s lo hi o,.int k' (.ofNat c)=>bif jv k k'&&(Nat.blt 0 c&& !(kV (Int.add lo o) 0))then
   (bif eqI (Int.fdiv (Int.add lo o) (.ofNat c)) (Int.fdiv (Int.add hi o) (.ofNat c))then some (.sym k s lo hi (Int.sub o (Int.mul (Int.fdiv (Int.add lo o) (.ofNat c)) (.ofNat c))))else
   match k,s,o with
   | .u64,.EL i,.ofNat 0=>some (.sym .u64 (.umod i c) 0 (Int.sub (.ofNat c) 1) 0)
   |k,.var i,.ofNat 0=>some (.sym k (.P2 i 1 c) 0 (Int.sub (.ofNat c) 1) 0)
   |k,.P2 i p m,.ofNat 0=>bif Nat.beq m 0 then some (.sym k (.P2 i p c) 0 (Int.sub (.ofNat c) 1) 0)else none
   |k,.pr i l h _,.ofNat 0=>bif Nat.beq c 4294967296&&(!(kV l 0)&&(kV h 4294967296&& !(kV h l)))then some (bif eqI l h then .int k l else .sym k (.cl i l h) l h 0)else none
   |k,.lin _ (.ofNat m),.ofNat o=>bif Nat.beq (Nat.mod m c) 0 then some (.int k (.ofNat (Nat.mod o c)))else none
   | _,_,_=>none)else none
 | _,_=>none
def aon(x y:AV):Option AV:=match x,y with
 | .sym k s lo hi o,.int k' (.ofNat c)=>bif jv k k'&&(Nat.blt 0 c&& !(kV (Int.add lo o) 0))then
   (bif eqI (Int.fdiv (Int.add lo o) (.ofNat c)) (Int.fdiv (Int.add hi o) (.ofNat c))then some (.int k (eX k (Int.fdiv (Int.add lo o) (.ofNat c))))else
   match s,o with
   | .var i,.ofNat 0=>zi k (.P2 i c 0) (Int.fdiv lo (.ofNat c)) (Int.fdiv hi (.ofNat c)) 0
   | .P2 i p m,.ofNat 0=>bif Nat.beq m 0 then zi k (.P2 i (Nat.mul p c) 0) (Int.fdiv lo (.ofNat c)) (Int.fdiv hi (.ofNat c)) 0 else none
   | _,_=>none)else none
 | _,_=>none
def abM(k:IntKind)(i:Nat)(lo hi o:Int)(c:Nat):Option AV:=bif Nat.blt 0 c then zi k (.lin i (.ofNat c)) (Int.mul (.ofNat c) lo) (Int.mul (.ofNat c) hi) (Int.mul (.ofNat c) o)else none
def aoo(x y:AV):Option AV:=match x,y with
 | .sym k (.var i) lo hi o,.int k' (.ofNat c)=>bif jv k k' then abM k i lo hi o c else none
 | .int k' (.ofNat c),.sym k (.var i) lo hi o=>bif jv k k' then abM k i lo hi o c else none
 | _,_=>none
def abN(k k':IntKind)(s:SV)(o:Int)(x:AV):Option AV:=match k,k',s,o with
 | .u64,.i64,.var i,0=>some (.sym .u64 (.EL i) 0 18446744073709551615 0)
 | .u32,_,.pr i l h _,.ofNat 0=>bif !(kV l 0)&&(kV h 4294967296&& !(kV h l))then some (bif eqI l h then .int .u32 l else .sym .u32 (.cl i l h) l h 0)else none
 | _,_,_,_=>abL k x
def aop(k:IntKind)(x:AV):Option AV:=match x with
 | .sym k' s lo hi o=>Option.rec (abN k k' s o x) (fun r=>some r) (zi k s lo hi o)
 | _=>none
def wo(f s:AV->AV->Option AV):AV->AV->Option AV:=fun x y=>Option.rec (s x y) (fun v=>some v) (f x y)
def abO(f s:AV->Option AV):AV->Option AV:=fun x=>Option.rec (s x) (fun v=>some v) (f x)
def GO:AV->Option AV
 | .int k n=>some (.int k (eX k (Int.sub 0 n)))
 | _=>none
def Ky(k:IntKind):AV->Option AV
 | .int _ n=>some (.int k (eX k n))
 | _=>none
def opF(f:Nat)(k:IntKind)(m n:Int):Option AV:=match f with
 |0=>WK (.int k m) (.int k n)
 |1=>WL (.int k m) (.int k n)
 |2=>WM (.int k m) (.int k n)
 |3=>Qn (.int k m) (.int k n)
 |4=>Qo (.int k m) (.int k n)
 |5=>Qp (.int k m) (.int k n)
 |6=>bOr (.int k m) (.int k n)
 |7=>Qq (.int k m) (.int k n)
 |8=>EM (.int k m) (.int .u64 n)
 |9=>EN (.int k m) (.int .u64 n)
 |10=>GO (.int k m)
 | _=>Ky k (.int k m)
def tmF(f:Nat)(k:IntKind)(m n:Int):Int:=match opF f k m n with
 |some (.int _ r)=>r
 | _=>0
def WU(x:AV):Option (IntKind×SV×Int×Int×Int):=match x with
 | .int k n=>some (k,.WJ n,0,n,n)
 | .sym k s lo hi o=>some (k,s,o,Int.add lo o,Int.add hi o)
 | _=>none
def inK(k:IntKind)(l u:Int):Bool:= !(kV l (WS k))&& !(kV (U9 k) u)
def tS(f:Nat)(ok:IntKind->IntKind->Int->Int->Int->Int->Bool)(x y:AV):Option AV:=match WU x with
 |some (k,s,o,l,u)=>match WU y with
  |some (k',s',o',l',u')=>bif ok k k' l u l' u' then some (.sym k (.tm f k k' s o s' o') (WS k) (U9 k) 0)else none
  |none=>none
 |none=>none
def t1(f:Nat)(k:IntKind)(x:AV):Option AV:=match WU x with
 |some (k',s,o,_,_)=>some (.sym k (.tm f k k' s o (.WJ 0) 0) (WS k) (U9 k) 0)
 |none=>none
def aoq(k k':IntKind)(_ _ _ _:Int):Bool:=jv k k'
def aor(k k':IntKind)(l u l' u':Int):Bool:=jv k k'&&(inK k l u&&(kV 0 l'||kV u' 0))
def alE(_ _:IntKind)(_ _ l' _:Int):Bool:= !(kV l' 0)
def alF(k _:IntKind)(l u l' _:Int):Bool:=inK k l u&& !(kV l' 0)
def uK:IntKind->IntKind
 | .i8=>.u8| .i16=>.u16| .i32=>.u32| .i64=>.u64|k=>k
def aos(k:IntKind)(x:AV):Option AV:=Option.rec (t1 11 k x) (fun r=>t1 11 k r) (abL (uK k) x)
def Ce:AV->AV->Option AV:=fun _ _=>none
def bA:AV->AV->Option AV:=wo WK Ce
def fB:AV->AV->Option AV:=wo WL Ce
def GP:AV->AV->Option AV:=wo Qo Ce
def GQ:AV->AV->Option AV:=wo Qn Ce
def mZ:AV->AV->Option AV:=wo WM Ce
def a8:AV->AV->Option AV:=wo WN Ce
def hJ:AV->AV->Option AV:=wo WO Ce
def fI:AV->AV->Option AV:=wo WQ Ce
def gf:AV->AV->Option AV:=wo WR Ce
def nZ:AV->AV->Option AV:=wo Qp Ce
def nD:AV->AV->Option AV:=wo bOr Ce
def GR:AV->AV->Option AV:=wo Qq Ce
def mr:AV->AV->Option AV:=wo EM Ce
def lC:AV->AV->Option AV:=wo EN Ce
def aF(neg:Bool):AV->AV->Option AV:=wo (Kw neg) Ce
def eq1(i:Bool)(x y:AV):Option Bool:=bif i then
 (match x,y with
 | .int k a,.int k' b=>bif jv k k' then some (eqI a b)else none
 | _,_=>Qt x y)else
 (match x,y with
 | .bool a,.bool b=>some (!(xor a b))
 | _,_=>none)
def Cq(l:List Bool):List AV->List AV->Option Bool:=
 List.rec (fun _ _=>some true) (fun i _ ih xs ys=>match xs with
  | []=>none
  |x::xs=>match ys with
   | []=>none
   |y::ys=>match eq1 i x y with
    |none=>none
    |some c=>Bool.rec (some false) (ih xs ys) c) l
def EP(neg:Bool)(l:List Bool)(x y:AV):Option AV:=match x with
 | .agg xs=>match y with
  | .agg ys=>match Cq l xs ys with
   |some c=>some (.bool (bif neg then !c else c))
   |none=>none
  | _=>none
 | _=>none
def km:AV->Option AV
 | .bool b=>some (.bool (!b))
 | _=>none
def Kz(x:AV):Option AV:=Option.rec (match WU x with|some (k,_,_,_,_)=>t1 10 k x|none=>none) (fun r=>some r) (GO x)
def Is:AV->Option AV
 | .int k n=>xk (kE (Op.unary .xor (.int k n)))
 | _=>none
def put(cs:List AV)(off:Nat)(new:List AV):List AV:=app (tk off cs) (app new (dp (Nat.add off (len new)) cs))
def wN(cs:List AV)(off n:Nat):Option (List AV):=
 match tk n (dp off cs)with
 |l=>bif Nat.beq (len l) n then some l else none
def part(agg:Bool)(cs:List AV)(off size:Nat):Option AV:=
 match wN cs off size with
 |none=>none
 |some l=>bif agg then some (.agg l)else match l with
  | [c]=>some c
  | _=>none
def rX(agg:Bool)(r:Rw)(off size:Nat):Option AV:=
 match r.lG off size with
 |none=>none
 |some l=>bif agg then some (.agg l)else match l with
  | [c]=>some c
  | _=>none
def xn(l:List (Nat×Nat×AV)):List AV->Option (List AV):=
 List.rec (fun cells=>some cells) (fun p _ ih cells=>
  bif Nat.beq (len p.2.2.cells) p.2.1&&Nat.ble (Nat.add p.1 p.2.1) (len cells)then ih (put cells p.1 p.2.2.cells)else none) l
def tt(size:Nat)(l:List (Nat×AV)):Nat->Option (List AV):=
 List.rec (fun _=>some []) (fun p _ ih i=>
  bif Nat.beq p.1 i&&Nat.beq (len p.2.cells) size then(match ih (Nat.add i 1)with|some r=>some (app p.2.cells r)|none=>none)else none) l
def nE(l:List (Nat×eJ))(t:Tm):Option (List (Nat×AV)):=
 List.rec (some []) (fun p _ ih=>match p.2 t with
  |some v=>match ih with
   |some vs=>some ((p.1,v)::vs)
   |none=>none
  |none=>none) l
def nF(l:List (Nat×Nat×eJ))(t:Tm):Option (List (Nat×Nat×AV)):=
 List.rec (some []) (fun p _ ih=>match p.2.2 t with
  |some v=>match ih with
   |some vs=>some ((p.1,p.2.1,v)::vs)
   |none=>none
  |none=>none) l
def fX(n:Nat)(z:List AV):List AV:=Nat.rec [] (fun _ ih=>app z ih) n
def scale(size:Nat)(l:List (Nat×AV)):List (Nat×Nat×AV):=
 List.rec [] (fun p _ ih=>(Nat.mul p.1 size,size,p.2)::ih) l
def rj(n size:Nat)(zero:List AV)(l:List (Nat×AV)):Option (List AV):=
 match bif Nat.beq (len l) n then tt size l 0 else none with
 |some cs=>some cs
 |none=>xn (scale size l) (fX n zero)
def xp(h:Hp)(size:Nat)(agg:Bool)(a:AV):Option AV:=
 match a with
 | .ref id off=>match h.aL.get id with
  |some cs=>rX agg cs off size
  |none=>none
 | .jy cs=>part agg cs 0 size
 | _=>none
def dk(h:Hp):AV->Option (Nat×List AV)
 | .fm=>some (0,[])
 | .kX n cs=>some (n,cs)
 | .ff id off n sz=>match h.aL.get id with
  |some cs=>match cs.lG off (Nat.mul n sz)with
   |some l=>some (n,l)
   |none=>none
  |none=>none
 | _=>none
def aa(x:eJ):eH:=fun t h=>Option.rec Ro.bad (fun v=>Ro.ok v h) (x t)
def aV(c a b:eJ):eH:=fun t h=>match c t with
 |some (.bool c)=>bif c then aa a t h else aa b t h
 | _=>.bad
def dY(cs:List AV):eH:=fun _ h=>.ok (.ref h.next 0) (dw h (wM cs))
def en(x:eJ):eH:=fun t h=>match x t with
 |some v=>.ok (.ref h.next 0) (dw h (wM v.cells))
 |none=>.bad
def au(zero:List AV)(parts:List (Nat×Nat×eJ)):eH:=fun t h=>match nF parts t with
 |some vs=>match xn vs zero with
  |some cs=>.ok (.agg cs) h
  |none=>.bad
 |none=>.bad
def bC(n size:Nat)(zero:List AV)(parts:List (Nat×eJ)):eH:=fun t h=>match nE parts t with
 |some vs=>bif Nat.beq n 0 then(match vs with| []=>.ok .p' h| _=>.bad)else match rj n size zero vs with
  |some cs=>.ok (.ff h.next 0 n size) (dw h (wM cs))
  |none=>.bad
 |none=>.bad
def bg(size:Nat)(agg:Bool)(a:eJ):eH:=fun t h=>match a t with
 |some a=>match xp h size agg a with
  |some v=>.ok v h
  |none=>.bad
 |none=>.bad
def aH(size:Nat)(a x:eJ):eH:=fun t h=>match a t with
 |some (.ref id off)=>match x t with
  |some v=>match h.aL.get id with
   |some cs=>bif Nat.beq (len v.cells) size&&(Nat.ble (Nat.add off (len v.cells)) cs.n&&cf dQ v.cells)then
    .ok gQ (jz h id (some (cs.put off v.cells)))
    else .bad
   |none=>.bad
  |none=>.bad
 | _=>.bad
def bq(x:eJ):eH:=fun t h=>match x t with
 |some (.ref i o)=>.ok (.ref i o) h
 |some (.jy cs)=>.ok (.jy cs) h
 |some (.fn f c)=>.ok (.fn f c) h
 | _=>.bad
def ah(f:AV->AV->Option AV)(x y:eJ):eH:=fun t h=>
 Option.rec Ro.bad (fun a=>Option.rec Ro.bad (fun b=>Option.rec Ro.bad (fun v=>Ro.ok v h) (f a b)) (y t)) (x t)
def fg(f:AV->Option AV)(x:eJ):eH:=fun t h=>Option.rec Ro.bad (fun a=>Option.rec Ro.bad (fun v=>Ro.ok v h) (f a)) (x t)
def bV(k:IntKind):AV->Option AV:=abO (Ky k) fun _=>none
def pf(x:eJ):eH:=fun t h=>match x t with
 |some (.sc (.string s))=>.ok (.ff h.next 0 s.size 1) (dw h (wM (s.data.toList.map fun b=>.int .u8 (.ofNat b.toNat))))
 | _=>.bad
def P4(f:FuncId)(cap:List eJ):eH:=fun t h=>match uV cap t with
 |some vs=>.ok (.fn f vs) h
 |none=>.bad
def m0(size bytes:Nat)(zero:List AV)(l c:eJ):eH:=fun t h=>match l t with
 |some (.int _ (.ofNat l))=>match c t with
  |some (.int _ (.ofNat c))=>bif Nat.ble l c&&Nat.ble (Nat.mul c bytes) 70368744177664 then
    bif Nat.beq c 0 then .ok .p' h else .ok (.ff h.next 0 l size) (dw h ⟨Nat.mul c (len zero),zero,.nil⟩)
   else .bad
  | _=>.bad
 | _=>.bad
def nG(o:Option eJ)(t:Tm)(d:Nat):Option Nat:=match o with
 |none=>some d
 |some o=>match o t with
  |some (.int _ (.ofNat n))=>some n
  | _=>none
def bounds(lo hi:Option eJ)(t:Tm)(n:Nat):Option (Nat×Nat):=match nG lo t 0 with
 |some l=>match nG hi t n with
  |some h=>bif Nat.ble l h&&Nat.ble h n then some (l,h)else none
  |none=>none
 |none=>none
def dg(x:eJ)(lo hi:Option eJ):eH:=fun t h=>match x t with
 |some (.sc (.string s))=>match bounds lo hi t s.size with
  |some (l,e)=>.ok (.sc (.string (s.extract l e))) h
  |none=>.bad
 | _=>.bad
def nH(size:Nat)(x:eJ)(lo hi:Option eJ):eH:=fun t h=>match x t with
 |some .fm=>match bounds lo hi t 0 with
  |some _=>.ok .fm h
  |none=>.bad
 |some (.ff id off n sz)=>match bounds lo hi t n with
  |some (l,e)=>bif Nat.beq sz size then .ok (.ff id (Nat.add off (Nat.mul l size)) (Nat.sub e l) sz) h else .bad
  |none=>.bad
 |some (.kX n cs)=>match bounds lo hi t n with
  |some (l,e)=>.ok (.kX (Nat.sub e l) (tk (Nat.mul (Nat.sub e l) size) (dp (Nat.mul l size) cs))) h
  |none=>.bad
 | _=>.bad
def cK(size:Nat)(x:eJ)(lo hi:Option eJ):eH:=fun t h=>match x t with
 |some a=>bif sA a then(match bounds lo hi t 0 with
  |some _=>.ok a h
  |none=>.bad)else nH size x lo hi t h
 |none=>.bad
def tv(x:eJ):eH:=fun t h=>match x t with
 |some .fm=>.ok (.int .i64 0) h
 | _=>.bad
def iO(n size:Nat)(x:eJ)(lo hi:Option eJ):eH:=fun t h=>match x t with
 |some (.ref id off)=>match bounds lo hi t n with
  |some (l,e)=>match h.aL.get id with
   |some cs=>bif Nat.ble (Nat.add off (Nat.mul n size)) cs.n then .ok (.ff id (Nat.add off (Nat.mul l size)) (Nat.sub e l) size) h else .bad
   |none=>.bad
  |none=>.bad
 | _=>.bad
def ab(off:Nat)(x:eJ):eH:=fun t h=>match x t with
 |some (.ref id o)=>.ok (.ref id (Nat.add o off)) h
 |some (.jy cs)=>.ok (.jy (dp off cs)) h
 | _=>.bad
def nI(off size:Nat)(agg:Bool)(x:eJ):eH:=fun t h=>match x t with
 |some (.agg cs)=>match part agg cs off size with
  |some v=>.ok v h
  |none=>.bad
 | _=>.bad
def bG(size:Nat)(x i:eJ):eH:=fun t h=>match i t with
 |some (.int _ (.ofNat i))=>match x t with
  |some (.ff id off n sz)=>bif Nat.blt i n&&Nat.beq sz size then .ok (.ref id (Nat.add off (Nat.mul i size))) h else .bad
  |some (.kX n cs)=>bif Nat.blt i n then .ok (.jy (dp (Nat.mul i size) cs)) h else .bad
  | _=>.bad
 | _=>.bad
def rK(n size:Nat)(x i:eJ):eH:=fun t h=>match i t with
 |some (.int _ (.ofNat i))=>match x t with
  |some (.ref id off)=>bif Nat.blt i n then .ok (.ref id (Nat.add off (Nat.mul i size))) h else .bad
  |some (.jy cs)=>bif Nat.blt i n then .ok (.jy (dp (Nat.mul i size) cs)) h else .bad
  | _=>.bad
 | _=>.bad
def kZ(n size:Nat)(agg:Bool)(x i:eJ):eH:=fun t h=>match x t with
 |some (.agg cs)=>match i t with
  |some (.int _ (.ofNat i))=>bif Nat.blt i n then(match part agg cs (Nat.mul i size) size with
   |some v=>.ok v h
   |none=>.bad)else .bad
  | _=>.bad
 | _=>.bad
def cq(x i:eJ):eH:=fun t h=>match x t with
 |some (.sc (.string s))=>match i t with
  |some (.int _ (.ofNat i))=>match kY s.data.toList i with
   |some b=>.ok (.int .u8 b.toNat) h
   |none=>.bad
  |some (.sym _ a lo hi o)=>bif !(kV (Int.add lo o) 0)&&kV (Int.add hi o) (.ofNat s.size)then .ok (.sym .u8 (.ix (s.data.toList.map UInt8.toNat) a o) 0 255 0) h else .bad
  | _=>.bad
 | _=>.bad
def aS(x:eJ)(i:Nat):eH:=fun t h=>match x t with
 |some (.wm vs)=>match kY vs i with
  |some v=>.ok v h
  |none=>.bad
 | _=>.bad
def jU(x:eJ):eH:=fun t h=>match x t with
 |some (.sc (.string s))=>.ok (.int .i64 (.ofNat s.size)) h
 | _=>.bad
def aW(x:eJ):eH:=fun t h=>match x t with
 |some (.ff _ _ n _)=>.ok (.int .i64 (.ofNat n)) h
 |some (.kX n _)=>.ok (.int .i64 (.ofNat n)) h
 |some .fm=>.ok (.int .i64 0) h
 | _=>.bad
def tw(size bytes:Nat)(h:Hp)(s:AV)(n:Nat)(new:List AV):Ro:=match s with
 | .fm=>bif Nat.beq n 0 then .ok .fm h else
   bif Nat.ble (Nat.mul n bytes) 70368744177664&&(cf dQ new&&(Nat.beq (len new) (Nat.mul n size)&&Nat.ble n 70368744177664))then .ok (.ff h.next 0 n size) (dw h (wM new))else .bad
 | .ff id off ln sz=>bif Nat.beq n 0 then .ok (.ff id off ln sz) h else match h.aL.get id with
  |none=>.bad
  |some cs=>match cs.sub off (Nat.mul ln sz)with
   |none=>.bad
   |some pre=>bif Nat.ble (Nat.mul (Nat.add ln n) bytes) 70368744177664&&(Nat.beq sz size&&(cf dQ new&&(Nat.beq (len new) (Nat.mul n size)&&Nat.ble (Nat.add ln n) 70368744177664)))then
    .ok (.ff h.next 0 (Nat.add ln n) sz) (dw (jz h id none) (pre.app new))else .bad
 | .kX ln cs=>bif Nat.beq n 0 then .ok (.kX ln cs) h else .bad
 | _=>.bad
def pg(size bytes:Nat)(s x:eJ):eH:=fun t h=>match s t with
 |some s=>match x t with
  |some x=>match dk h x with
   |none=>.bad
   |some (n,new)=>tw size bytes h s n new
  |none=>.bad
 |none=>.bad
def aO(size bytes:Nat)(s x:eJ):eH:=fun t h=>match s t with
 |some a=>match x t with
  |some b=>bif sA a&&P3 b then .ok a h else pg size bytes (wO s) (wO x) t h
  |none=>.bad
 |none=>.bad
def rY(size bytes:Nat)(zero:List AV)(s x:eJ):eH:=fun t h=>match s t with
 |some a=>match x t with
  |some (.int _ (.ofNat n))=>bif sA a&&Nat.beq n 0 then .ok a h else tw size bytes h (uS a) n (fX n zero)
  | _=>.bad
 |none=>.bad
def tx(bytes:Nat)(s x:eJ):eH:=fun t h=>match s t with
 |some a=>match x t with
  |some (.sc (.string b))=>bif sA a&&Nat.beq b.size 0 then .ok a h else tw 1 bytes h (uS a) b.size (b.data.toList.map fun b=>.int .u8 (.ofNat b.toNat))
  | _=>.bad
 |none=>.bad
def rZ(x:eJ):eH:=fun t h=>match x t with
 |some (.ff id off n sz)=>bif Nat.beq n 0 then .bad else(match h.aL.get id with
  |some _=>.ok (.ff id off n sz) h
  |none=>.bad)
 | _=>.bad
def xq(l:List AV):Option (List Int):=List.rec (some []) (fun a _ ih=>match a with
 | .int .u8 n=>(match ih with
  |some r=>some (n::r)
  |none=>none)
 | _=>none) l
def wq(l:List Int):ByteArray:=⟨(l.map fun n=>UInt8.ofNat n.toNat).toArray⟩
def wu(x:eJ):eH:=fun t h=>match wO x t with
 |some a=>(match dk h a with
  |some (n,cs)=>(match xq cs with
   |some l=>bif Nat.beq (len l) n then .ok (.sc (.string (wq l))) h else .bad
   |none=>.bad)
  |none=>.bad)
 |none=>.bad
def jV(size:Nat)(d s:eJ):eH:=fun t h=>match d t with
 |some .fm=>match s t with
  |some x=>match dk h x with
   |some _=>.ok (.int .i64 (.ofNat 0)) h
   |none=>.bad
  |none=>.bad
 |some (.ff id off n sz)=>match s t with
  |some x=>match dk h x with
   |some (m,src)=>bif Nat.beq (xl m n) 0 then .ok (.int .i64 (.ofNat 0)) h else match h.aL.get id with
    |some cs=>bif (Nat.blt 0 size&&(Nat.beq sz size&&(Nat.beq (len src) (Nat.mul m size)&&cf dQ src)))&&Nat.ble (Nat.add off (Nat.mul (xl m n) size)) cs.n then
     .ok (.int .i64 (.ofNat (xl m n))) (jz h id (some (cs.put off (tk (Nat.mul (xl m n) size) src))))else .bad
    |none=>.bad
   |none=>.bad
  |none=>.bad
 | _=>.bad
def xr(x y z:eJ):eH:=fun t h=>match y t with
 |some (.int _ (.ofNat y))=>match z t with
  |some (.int _ (.ofNat z))=>bif Nat.beq y 0&&Nat.beq z 0 then(match x t with
   |some .fm=>.ok .fm h
   |some (.ff _ _ _ _)=>.ok .fm h
   |some (.kX _ _)=>.ok .fm h
   | _=>.bad)else .bad
  | _=>.bad
 | _=>.bad
def AH(x y:eJ):eH:=ah (wo (mY fun k a b=>some (.int k (bif kV b a then b else a))) fun x y=>Option.rec none (fun c=>some (bif c then y else x)) (Kx y x)) x y
def AJ(x y:eJ):eH:=ah (wo (mY fun k a b=>some (.int k (bif kV a b then b else a))) fun x y=>Option.rec none (fun c=>some (bif c then y else x)) (Kx x y)) x y
def It:eH:=fun _ h=>.ok .any h
def bE:eH:=fun _ _=>.bad
def an(call:cX)(f:FuncId)(args:List eJ):eH:=fun t h=>match uV args t with
 |some vs=>call f vs h
 |none=>.bad
def iy(call:cX)(f:eJ)(args:List eJ):eH:=fun t h=>match f t with
 |some (.fn k cap)=>match uV args t with
  |some vs=>call k (app vs cap) h
  |none=>.bad
 | _=>.bad
def fi:mV:=fun t h=>.ok t h
def st(s:abI)(f:eH)(k:mV):mV:=fun t h=>Ro.rec Rt.bad (fun v h=>k (s v t) h) (f t h)
def sn(f:eH)(k:mV):mV:=fun t h=>Ro.rec Rt.bad (fun _ h=>k t h) (f t h)
def ai(r:mV):ze:=fun t h=>Rt.rec Rc.bad (fun t h=>Rc.norm t h) (r t h)
def bR:ze:=fun t h=>.norm t h
def af(a b:ze):ze:=fun t h=>Rc.rec Rc.bad (fun t h=>b t h) (fun t h=>Rc.ret t h) (fun i t h=>Rc.exit i t h) (a t h)
def bu(c:eJ)(a b:ze):ze:=fun t h=>match c t with
 |some (.bool c)=>Bool.rec (b t h) (a t h) c
 | _=>.bad
def dn(id:Nat)(b:ze):ze:=fun t h=>
 Rc.rec Rc.bad (fun t h=>Rc.norm t h) (fun t h=>Rc.ret t h) (fun i t h=>Bool.rec (Rc.exit i t h) (Rc.norm t h) (Nat.beq i id)) (b t h)
def iP(n:Nat)(b:ze):ze:=
 Nat.rec (fun _ _=>.bad) (fun _ ih t h=>Rc.rec Rc.bad (fun t h=>ih t h) (fun t h=>Rc.ret t h) (fun i t h=>Rc.exit i t h) (b t h)) n
def jk(i:Nat):ze:=fun t h=>.exit i t h
def cD:ze:=fun t h=>.ret t h
def Cr:ze:=fun _ _=>.bad
inductive RV where
 |tmp (i:Nat)
 |cell (i size:Nat) (agg:Bool)
def KA(t:Tm)(h:Hp):RV->Option AV
 | .tmp i=>Tm.at t i
 | .cell i size agg=>match Tm.at t i with
  |some a=>xp h size agg a
  |none=>none
def zR(t:Tm)(h:Hp)(l:List RV):Option (List AV):=
 List.rec (some []) (fun r _ ih=>match KA t h r with
  |some v=>match ih with
   |some vs=>some (v::vs)
   |none=>none
  |none=>none) l
structure Fb where
 ntmps:Nat
 res:List RV
 body:cX->Nat->ze
def ph(l:List AV):Nat->Tm->Tm:=
 List.rec (fun _ t=>t) (fun v _ ih i t=>ih (Nat.add i 1) (Tm.put t i (some v))) l
def fin(res:List RV)(t:Tm)(h:Hp):Ro:=
 match zR t h res with
 |some [v]=>.ok v h
 |some vs=>.ok (.wm vs) h
 |none=>.bad
end Go.Ab


noncomputable section
namespace Go.Ab
def zS:List Bool->Nat
 | []=>0
 |b::l=>b.toNat+2*zS l
theorem eZ: ∀ (l:List Bool) (i:Nat),(zS l).testBit i=l.getD i false
 | [],i=>by simp[zS]
 |b::l,0=>by
  simp only[zS,Nat.testBit_zero]
  cases b<;>simp<;>omega
 |b::l,i+1=>by
  have h:(b.toNat+2*zS l) / 2=zS l:=by cases b<;>simp<;>omega
  rw[zS,Nat.testBit_succ,h,eZ l i]
  simp
theorem afP{l m:List Bool}(h: ∀ i,l.getD i false=m.getD i false):zS l=zS m:=
 Nat.eq_of_testBit_eq fun i=>by rw[eZ,eZ,h]
theorem afQ(f:Bool->Bool->Bool)(g:Nat->Nat->Nat)(hg: ∀ a b i,(g a b).testBit i=f (a.testBit i) (b.testBit i))(hf:f false false=false)
 (l m:List Bool)(h:l.length=m.length):zS (List.zipWith f l m)=g (zS l) (zS m):=by
 apply Nat.eq_of_testBit_eq
 intro i
 rw[eZ,hg,eZ,eZ]
 by_cases hi:i<l.length
 ·simp[List.getD,List.getElem?_zipWith,hi,h▸hi]
 ·simp[List.getD,List.getElem?_zipWith,List.getElem?_eq_none (Nat.le_of_not_lt hi),List.getElem?_eq_none (Nat.le_of_not_lt (h▸hi)),hf]
theorem abP(l:List Bool)(n:Nat):zS (l.take n)=zS l % 2 ^ n:=by
 apply Nat.eq_of_testBit_eq
 intro i
 rw[eZ,Nat.testBit_mod_two_pow,eZ]
 by_cases h:i<n<;>simp[List.getD,List.getElem?_take,h]
theorem abQ(l:List Bool)(n:Nat):zS (l.drop n)=zS l / 2 ^ n:=by
 apply Nat.eq_of_testBit_eq
 intro i
 rw[eZ,<-Nat.shiftRight_eq_div_pow,Nat.testBit_shiftRight,eZ]
 simp[List.getD,List.getElem?_drop]
theorem afR(l:List Bool)(n:Nat):zS (List.replicate n false++l)=zS l*2 ^ n:=by
 induction n with
 |zero=>simp
 |succ n ih=>
  simp only[List.replicate_succ,List.cons_append,zS,ih,Nat.pow_succ]
  simp;rw[Nat.mul_comm 2,Nat.mul_assoc]
end Go.Ab

noncomputable section
namespace Go.Ab
class Io where
 io:Nat->Int
 tb:List (Nat×List Value)
variable [Io]
def ahr(c:Nat):Bool:=match c with
 |0=>false
 |1=>true
 |c+2=>(Io.io (c / 64) % 18446744073709551616).toNat.testBit (c % 64)
def KB(l h x:Int):Int:=if x<l then l else if h<x then h else x
def iz:SV->Int
 | .var i=>Io.io i
 | .EL i=>Io.io i % 18446744073709551616
 | .umod i c=>(Io.io i % 18446744073709551616) % (c:Int)
 | .lin i m=>m*Io.io i
 | .P2 i p m=>(Io.io i / (p:Int)) % (m:Int)
 | .bits l=>(zS (l.map ahr):Int)
 | .cl i l h=>KB l h (Io.io i)
 | .pr i l h j=>KB l h (Io.io i)+4294967296*Io.io j
 | .ad i j l h=>Io.io i+KB l h (Io.io j)
 | .WJ n=>n
 | .sm l=>(l.map Io.io).foldr (· + ·) 0
 | .ix l a o=>(l.getD (iz a+o).toNat 0:Nat)
 | .tm f k _ a oa b ob=>tmF f k (iz a+oa) (iz b+ob)
structure G where
 m:Nat->Option (Nat×Nat)
 fw:Nat->Prop
def dU(w:World)(b:Nat):Nat:=match w.heap[b]? with
 |some (.cells c _ _)=>c.size
 | _=>0
def ee(w:World)(b o:Nat)(vs:List Value):Prop:= ∀ j v,vs[j]? =some v->w.cell? ⟨b,o+j,none⟩=some v
mutual
def VR(g:G)(w:World):AV->Value->Prop
 | .int k n,v=>v=.int k n
 | .bool b,v=>v=.bool b
 | .sc x,v=>v=x/\x.oneCell'=true
 | .agg cs,v=> ∃ vs,v=.agg vs/\bD g w cs vs.toList
 | .wm cs,v=> ∃ vs,v=.tuple vs/\bD g w cs vs.toList
 | .ref id off,v=> ∃ b s,g.m id=some (b,s)/\v=.pointer (some ⟨b,s+off,none⟩)
 | .ff id off n sz,v=>(n=0/\ ∃ a,v=.slice (some a) 0 0)∨
   ∃ b s cap,g.m id=some (b,s)/\v=.slice (some ⟨b,s+off,none⟩) n cap/\n<=cap/\s+off+cap*sz<=dU w b
 | .kX n cs,v=> ∃ a cap,v=.slice a n cap/\n<=cap/\
   ((n=0/\cs=[])∨ ∃ b o vs,a=some ⟨b,o,none⟩/\g.fw b/\ee w b o vs/\bD g w cs vs)
 | .jy cs,v=> ∃ b o vs,v=.pointer (some ⟨b,o,none⟩)/\g.fw b/\ee w b o vs/\bD g w cs vs
 | .fm,v=> ∃ a,v=.slice a 0 0
 | .p',v=> ∃ a,v=.slice (some a) 0 0
 | .fn f cap,v=> ∃ vs,v=.func (.func f) #[] vs/\bD g w cap vs.toList
 | .sym k s lo hi off,v=>v=.int k (iz s+off)/\lo<=iz s/\iz s<=hi
 | .any,v=>v.oneCell'=true
def bD(g:G)(w:World):List AV->List Value->Prop
 | [],l=>l=[]
 |a::r,l=> ∃ v l',l=v::l'/\VR g w a v/\bD g w r l'
end
def jW(g:G)(h:Hp)(b:Nat):Prop:= ∃ id cs s,h.aL.get id=some cs/\g.m id=some (b,s)
structure FT(C:Array Value) where
 el:TypeId
 fz:Nat×Nat
 ok':fz.1=fz.2∨C.size<=fz.1
omit [Io] in
theorem FT.ok{C:Array Value}(e:FT C): ∀ i,i<C.size-> ¬ (e.fz.1<=i/\i<e.fz.2):=fun i hi h=>by have:=e.ok';omega
def FT.nw(C:Array Value)(el:TypeId):FT C:=⟨el,(0,0),.inl rfl⟩
def FT.to{C C':Array Value}(e:FT C)(h:C'.size=C.size):FT C':=⟨e.el,e.fz,by have:=e.ok';omega⟩
def nJ(g:G)(w:World):Prop:= ∀ p,p∈Io.tb->g.fw p.1/\ee w p.1 0 p.2
structure HR(g:G)(w:World)(h:Hp):Prop where
 fresh: ∀ id,h.next<=id->g.m id=none
 aL: ∀ id cs,h.aL.get id=some cs-> ∃ b s C,∃ el:FT C,∃ vs,g.m id=some (b,s)/\w.heap[b]? =some (.cells C el.el el.fz)/\ ¬ g.fw b/\bD g w cs.toL vs/\(∀ j v,vs[j]? =some v->C[s+j]? =some v)
 inj: ∀ id xt b s s' cs cs',h.aL.get id=some cs->h.aL.get xt=some cs'->g.m id=some (b,s)->g.m xt=some (b,s')->id=xt
 fw: ∀ b,g.fw b->b<w.heap.size
 tb:nJ g w
structure HC(g:G)(w:World)(h:Hp):Prop where
 aL: ∀ id cs,h.aL.get id=some cs-> ∃ b s C,∃ el:FT C,∃ vs,g.m id=some (b,s)/\w.heap[b]? =some (.cells C el.el el.fz)/\ ¬ g.fw b/\bD g w cs.toL vs/\(∀ j v,vs[j]? =some v->C[s+j]? =some v)
 fw: ∀ b,g.fw b->b<w.heap.size
theorem HR.toHC{g w h}(H:HR g w h):HC g w h:=⟨H.aL,H.fw⟩
structure Ext(g:G)(w:World)(h:Hp)(g':G)(w':World)(h':Hp):Prop where
 os:w'.os=w.os
 tape:w'.tape=w.tape
 output:w'.output=w.output
 size:w.heap.size<=w'.heap.size
 next:h.next<=h'.next
 m: ∀ id x,g.m id=some x->g'.m id=some x
 rL: ∀ b,b<w.heap.size-> ¬ jW g h b->w'.heap[b]? =w.heap[b]?
 rows: ∀ b,dU w b<=dU w' b
 fw: ∀ b,g.fw b->g'.fw b
 Iu: ∀ b,g'.fw b->g.fw b∨jW g h b∨w.heap.size<=b
 n5: ∀ b,jW g' h' b->jW g h b∨w.heap.size<=b
omit [Io] in
theorem Ext.refl(g:G)(w:World)(h:Hp):Ext g w h g w h:=
 ⟨rfl,rfl,rfl,Nat.le_refl _,Nat.le_refl _,fun _ _ e=>e,fun _ _ _=>rfl,fun _=>Nat.le_refl _,fun _ i=>i,fun _ i=>.inl i,fun _ o=>.inl o⟩
omit [Io] in
theorem Ext.trans{g w h g1 w1 h1 g2 w2 h2}(a:Ext g w h g1 w1 h1)(b:Ext g1 w1 h1 g2 w2 h2):Ext g w h g2 w2 h2 where
 os:=b.os.trans a.os
 tape:=b.tape.trans a.tape
 output:=b.output.trans a.output
 size:=Nat.le_trans a.size b.size
 next:=Nat.le_trans a.next b.next
 m:=fun id x e=>b.m id x (a.m id x e)
 rL:=fun k hk ho=>(b.rL k (Nat.lt_of_lt_of_le hk a.size) (fun o=>(a.n5 k o).elim ho (fun e=>absurd hk (Nat.not_lt.2 e)))).trans (a.rL k hk ho)
 rows:=fun k=>Nat.le_trans (a.rows k) (b.rows k)
 fw:=fun k i=>b.fw k (a.fw k i)
 Iu:=fun k i=>by
  rcases b.Iu k i with i|o|l
  ·exact a.Iu k i
  ·rcases a.n5 k o with o|l
   ·exact .inr (.inl o)
   ·exact .inr (.inr l)
  ·exact .inr (.inr (Nat.le_trans a.size l))
 n5:=fun k o=>by
  rcases b.n5 k o with o|l
  ·exact a.n5 k o
  ·exact .inr (Nat.le_trans a.size l)
theorem HC.mc{g w h}(H:HC g w h){b:Nat}(i:g.fw b): ¬ jW g h b:=by
 rintro⟨id,cs,s,hg,hm⟩
 obtain⟨b',s',C,el,vs,Ki,_,hi,_⟩:=H.aL id cs hg
 rw[hm]at Ki
 obtain⟨rfl,rfl⟩:=Prod.mk.inj (Option.some.inj Ki)
 exact hi i
theorem HR.mc{g w h}(H:HR g w h){b:Nat}(i:g.fw b): ¬ jW g h b:=H.toHC.mc i
structure tz(g:G)(w:World)(g':G)(w':World):Prop where
 m: ∀ id x,g.m id=some x->g'.m id=some x
 fw: ∀ b,g.fw b->g'.fw b
 AK: ∀ b,g.fw b->w'.heap[b]? =w.heap[b]?
 rows: ∀ b,dU w b<=dU w' b
theorem Ext.mono{g w h g' w' h'}(H:HC g w h)(E:Ext g w h g' w' h'):tz g w g' w':=
 ⟨E.m,E.fw,fun b i=>E.rL b (H.fw b i) (H.mc i),E.rows⟩
omit [Io] in
theorem ee.AK{w w':World}{b o vs}(h:w'.heap[b]? =w.heap[b]?)(c:ee w b o vs):ee w' b o vs:=by
 intro j v hj
 have:=c j v hj
 unfold World.cell? at this ⊢
 rw[h]
 exact this
theorem nJ.mono{g w g' w'}(E:tz g w g' w')(t:nJ g w):nJ g' w':=fun p hp=>⟨E.fw _ (t p hp).1,ee.AK (E.AK _ (t p hp).1) (t p hp).2⟩
theorem nJ.ext{g w h g' w' h'}(H:HR g w h)(E:Ext g w h g' w' h'):nJ g' w':=nJ.mono (E.mono H.toHC) H.tb
mutual
theorem VR.gg{g w g' w'}(E:tz g w g' w'): ∀ (a:AV) (v:Value),VR g w a v->VR g' w' a v
 | .int _ _,v,r=>by simpa only[VR]using r
 | .bool _,v,r=>by simpa only[VR]using r
 | .sc _,v,r=>by simpa only[VR]using r
 | .fm,v,r=>by simpa only[VR]using r
 | .p',v,r=>by simpa only[VR]using r
 | .sym _ _ _ _ _,v,r=>by simpa only[VR]using r
 | .any,v,r=>by simpa only[VR]using r
 | .agg cs,v,r=>by
  simp only[VR]at r ⊢
  obtain⟨vs,e,q⟩:=r
  exact⟨vs,e,bD.gg E cs _ q⟩
 | .wm cs,v,r=>by
  simp only[VR]at r ⊢
  obtain⟨vs,e,q⟩:=r
  exact⟨vs,e,bD.gg E cs _ q⟩
 | .fn f cs,v,r=>by
  simp only[VR]at r ⊢
  obtain⟨vs,e,q⟩:=r
  exact⟨vs,e,bD.gg E cs _ q⟩
 | .ref id off,v,r=>by
  simp only[VR]at r ⊢
  obtain⟨b,s,e,q⟩:=r
  exact⟨b,s,E.m _ _ e,q⟩
 | .ff id off n sz,v,r=>by
  simp only[VR]at r ⊢
  rcases r with r|⟨b,s,cap,e,q,l,z⟩
  ·exact .inl r
  ·exact .inr ⟨b,s,cap,E.m _ _ e,q,l,Nat.le_trans z (E.rows b)⟩
 | .kX n cs,v,r=>by
  simp only[VR]at r ⊢
  obtain⟨a,cap,e,l,r⟩:=r
  refine⟨a,cap,e,l,?_⟩
  rcases r with r|⟨b,o,vs,e,i,c,q⟩
  ·exact .inl r
  ·exact .inr ⟨b,o,vs,e,E.fw b i,c.AK (E.AK b i),bD.gg E cs _ q⟩
 | .jy cs,v,r=>by
  simp only[VR]at r ⊢
  obtain⟨b,o,vs,e,i,c,q⟩:=r
  exact⟨b,o,vs,e,E.fw b i,c.AK (E.AK b i),bD.gg E cs _ q⟩
theorem bD.gg{g w g' w'}(E:tz g w g' w'): ∀ (l:List AV) (vs:List Value),bD g w l vs->bD g' w' l vs
 | [],vs,r=>by simpa only[bD]using r
 |a::l,vs,r=>by
  simp only[bD]at r ⊢
  obtain⟨v,l',e,q,r⟩:=r
  exact⟨v,l',e,VR.gg E a v q,bD.gg E l l' r⟩
end
theorem VR.mono{g w h g' w' h'}(H:HR g w h)(E:Ext g w h g' w' h')(a:AV)(v:Value)(r:VR g w a v):VR g' w' a v:=VR.gg (E.mono H.toHC) a v r
theorem bD.mono{g w h g' w' h'}(H:HR g w h)(E:Ext g w h g' w' h')(l:List AV)(vs:List Value)(r:bD g w l vs):bD g' w' l vs:=bD.gg (E.mono H.toHC) l vs r
omit [Io] in
theorem Tr.get_nil{α:Type}(n:Nat):(Tr.nil:Tr α).get n=none:=rfl
omit [Io] in
theorem Tr.qw{α:Type}(l r:Tr α)(v:Option α)(n:Nat):
 (Tr.node l v r).get n=if n=0 then v else if n % 2=1 then l.get (n / 2)else r.get (n / 2 - 1):=by
 show iu (Nat.beq n 0) v (iu (Nat.beq (Nat.mod n 2) 1) (l.get (Nat.div n 2)) (r.get (Nat.sub (Nat.div n 2) 1)))=_
 by_cases h:n=0
 ·subst h;rfl
 ·rw[if_neg h,show Nat.beq n 0=false from by cases n with|zero=>exact absurd rfl h|succ n=>rfl]
  by_cases h2:n % 2=1
  ·rw[if_pos h2,show Nat.beq (Nat.mod n 2) 1=true from by rw[show Nat.mod n 2=1 from h2];rfl];rfl
  ·rw[if_neg h2,show Nat.beq (Nat.mod n 2) 1=false from by rw[show Nat.mod n 2=0 from by show n % 2=0;omega];rfl];rfl
omit [Io] in
theorem Tr.get_eq{α:Type}(t:Tr α)(n:Nat):
 t.get n=if n=0 then t.hd else if n % 2=1 then t.lf.get (n / 2)else t.rt.get (n / 2 - 1):=by
 cases t with
 |nil=>simp[Tr.get_nil,Tr.hd,Tr.lf,Tr.rt]
 |node l v r=>rw[Tr.qw];rfl
omit [Io] in
theorem Tr.Iv{α:Type}(f:Nat)(t:Tr α)(n:Nat)(x:Option α):
 Tr.EK (f+1) t n x=if n=0 then .node t.lf x t.rt else if n % 2=1 then .node (Tr.EK f t.lf (n / 2) x) t.hd t.rt
  else .node t.lf t.hd (Tr.EK f t.rt (n / 2 - 1) x):=by
 show iu (Nat.beq n 0) (Tr.node t.lf x t.rt) (iu (Nat.beq (Nat.mod n 2) 1) (Tr.node (Tr.EK f t.lf (Nat.div n 2) x) t.hd t.rt)
  (Tr.node t.lf t.hd (Tr.EK f t.rt (Nat.sub (Nat.div n 2) 1) x)))=_
 by_cases h:n=0
 ·subst h;rfl
 ·rw[if_neg h,show Nat.beq n 0=false from by cases n with|zero=>exact absurd rfl h|succ n=>rfl]
  by_cases h2:n % 2=1
  ·rw[if_pos h2,show Nat.beq (Nat.mod n 2) 1=true from by rw[show Nat.mod n 2=1 from h2];rfl];rfl
  ·rw[if_neg h2,show Nat.beq (Nat.mod n 2) 1=false from by rw[show Nat.mod n 2=0 from by show n % 2=0;omega];rfl];rfl
omit [Io] in
theorem Tr.KC{α:Type}(f:Nat): ∀ (t:Tr α) (n:Nat) (x:Option α) (k:Nat),n<f->(Tr.EK f t n x).get k=if k=n then x else t.get k:=by
 induction f with
 |zero=>intro t n x k h;omega
 |succ f ih=>
  intro t n x k h
  rw[Tr.Iv]
  by_cases h0:n=0
  ·subst h0
   rw[if_pos rfl,Tr.qw,Tr.get_eq t]
   by_cases hk:k=0
   ·simp[hk]
   ·simp[hk]
  ·rw[if_neg h0]
   by_cases h1:n % 2=1
   ·rw[if_pos h1,Tr.qw,Tr.get_eq t k]
    by_cases hk:k=0
    ·subst hk;simp;intro e;omega
    ·simp only[hk,if_false]
     by_cases hk1:k % 2=1
     ·simp only[hk1,if_true]
      rw[ih _ _ _ _ (by omega)]
      by_cases e:k=n
      ·subst e;simp
      ·rw[if_neg e,if_neg (by omega)]
     ·simp only[hk1,if_false]
      rw[if_neg (by intro e;subst e;omega)]
   ·rw[if_neg h1,Tr.qw,Tr.get_eq t k]
    by_cases hk:k=0
    ·subst hk;simp;intro e;omega
    ·simp only[hk,if_false]
     by_cases hk1:k % 2=1
     ·simp only[hk1,if_true]
      rw[if_neg (by intro e;subst e;omega)]
     ·simp only[hk1,if_false]
      rw[ih _ _ _ _ (by omega)]
      by_cases e:k=n
      ·subst e;simp
      ·rw[if_neg e,if_neg (by omega)]
omit [Io] in
theorem Tr.jX{α:Type}(t:Tr α)(n:Nat)(x:Option α)(k:Nat):(t.set n x).get k=if k=n then x else t.get k:=
 Tr.KC _ t n x k (Nat.lt_succ_self n)
omit [Io] in
theorem F8.rk{α:Type}(f:F8 α)(x:α)(i j:Nat)(hi:i<8)(hj:j<8):(f.EE x i).Cd j=if j=i then x else f.Cd j:=by
 rcases(by omega:i=0∨i=1∨i=2∨i=3∨i=4∨i=5∨i=6∨i=7)with rfl|rfl|rfl|rfl|rfl|rfl|rfl|rfl<;>
 rcases(by omega:j=0∨j=1∨j=2∨j=3∨j=4∨j=5∨j=6∨j=7)with rfl|rfl|rfl|rfl|rfl|rfl|rfl|rfl<;>rfl
omit [Io] in
theorem Tm.jA(t:Tm)(i j:Nat)(x:Option AV)(hi:i<512)(hj:j<512):(t.put i x).at j=if j=i then x else t.at j:=by
 unfold Tm.put Tm.at
 rw[F8.rk _ _ _ _ (by omega) (by omega)]
 by_cases h1:j / 64=i / 64
 ·rw[if_pos h1,F8.rk _ _ _ _ (by omega) (by omega)]
  by_cases h2:j / 8 % 8=i / 8 % 8
  ·rw[if_pos h2,F8.rk _ _ _ _ (by omega) (by omega)]
   by_cases h3:j % 8=i % 8
   ·rw[if_pos h3,if_pos (by omega)]
   ·rw[if_neg h3,if_neg (by intro e;subst e;exact h3 rfl),h1,h2]
  ·rw[if_neg h2,if_neg (by intro e;subst e;exact h2 rfl),h1]
 ·rw[if_neg h1,if_neg (by intro e;subst e;exact h1 rfl)]
omit [Io] in
theorem Tm.AL(j:Nat)(hj:j<512):Tm.none.at j=Option.none:=by
 unfold Tm.none Tm.at
 rcases(by omega:j / 64=0∨j / 64=1∨j / 64=2∨j / 64=3∨j / 64=4∨j / 64=5∨j / 64=6∨j / 64=7)with h|h|h|h|h|h|h|h<;>rw[h]<;>
 rcases(by omega:j / 8 % 8=0∨j / 8 % 8=1∨j / 8 % 8=2∨j / 8 % 8=3∨j / 8 % 8=4∨j / 8 % 8=5∨j / 8 % 8=6∨j / 8 % 8=7)with h|h|h|h|h|h|h|h<;>rw[h]<;>
 rcases(by omega:j % 8=0∨j % 8=1∨j % 8=2∨j % 8=3∨j % 8=4∨j % 8=5∨j % 8=6∨j % 8=7)with h|h|h|h|h|h|h|h<;>rw[h]<;>rfl
def TR(g:G)(w:World)(nt:Nat)(t:Tm)(tmps:Array Value):Prop:=
 nt<=512/\tmps.size=nt/\ ∀ i v,i<512->t.at i=some v->i<nt/\VR g w v (tmps.getD i undef)
theorem TR.mono{g w h g' w' h' nt t tmps}(H:HR g w h)(E:Ext g w h g' w' h')(r:TR g w nt t tmps):TR g' w' nt t tmps:=
 ⟨r.1,r.2.1,fun i v hi e=>⟨(r.2.2 i v hi e).1,VR.mono H E _ _ (r.2.2 i v hi e).2⟩⟩
theorem TR.put{g w nt t tmps}(r:TR g w nt t tmps){d:Nat}(hd:d<nt){a:AV}{v:Value}(hv:VR g w a v):
 TR g w nt (t.put d (some a)) (tmps.setIfInBounds d v):=by
 obtain⟨h1,h2,h3⟩:=r
 refine⟨h1,by simpa using h2,fun i x hi e=>?_⟩
 rw[Tm.jA _ _ _ _ (by omega) hi]at e
 by_cases jB:i=d
 ·subst jB
  rw[if_pos rfl]at e
  obtain rfl:=Option.some.inj e
  refine⟨hd,?_⟩
  rw[Array.getD_eq_getD_getElem?,Array.getElem?_setIfInBounds_self_of_lt (by omega)]
  exact hv
 ·rw[if_neg jB]at e
  refine⟨(h3 i x hi e).1,?_⟩
  have:=(h3 i x hi e).2
  rw[Array.getD_eq_getD_getElem?]at this ⊢
  rw[Array.getElem?_setIfInBounds_ne (by omega)]
  exact this
end Go.Ab
