import Derived.Calls
import Derived.Laws.Sem
import Derived.Laws.AppendOwn
import Derived.Laws.MakeOwn
import Derived.Laws.CopyRow
noncomputable section
namespace Go.Ab
def pH{α:Type}(c:Bool)(a b:α):α:=Bool.rec b a c
inductive Tr (α:Type) where
 |nil
 |node (l:Tr α) (v:Option α) (r:Tr α)
def Tr.get{α:Type}(t:Tr α):Nat->Option α:=
 Tr.rec (fun _=>none) (fun _ v _ gl gr n=>Bool.rec (Bool.rec (gr (Nat.sub (Nat.div n 2) 1)) (gl (Nat.div n 2)) (Nat.beq (Nat.mod n 2) 1)) v (Nat.beq n 0)) t
def Tr.lf{α:Type}(t:Tr α):Tr α:=Tr.rec .nil (fun l _ _ _ _=>l) t
def Tr.rt{α:Type}(t:Tr α):Tr α:=Tr.rec .nil (fun _ _ r _ _=>r) t
def Tr.hd{α:Type}(t:Tr α):Option α:=Tr.rec none (fun _ v _ _ _=>v) t
def Tr.JG{α:Type}(f:Nat):Tr α->Nat->Option α->Tr α:=
 Nat.rec (fun t _ _=>t) (fun _ go t n x=>
  Bool.rec (Bool.rec (.node t.lf t.hd (go t.rt (Nat.sub (Nat.div n 2) 1) x)) (.node (go t.lf (Nat.div n 2) x) t.hd t.rt) (Nat.beq (Nat.mod n 2) 1))
   (.node t.lf x t.rt) (Nat.beq n 0)) f
def Tr.set{α:Type}(t:Tr α)(n:Nat)(x:Option α):Tr α:=Tr.JG (Nat.succ n) t n x
structure F8(α:Type) where
 a0:α
 a1:α
 a2:α
 a3:α
 a4:α
 a5:α
 a6:α
 a7:α
def F8.qw{α:Type}(f:F8 α):Nat->α
 |0=>f.a0|1=>f.a1|2=>f.a2|3=>f.a3|4=>f.a4|5=>f.a5|6=>f.a6| _=>f.a7
def F8.rh{α:Type}(f:F8 α)(x:α):Nat->F8 α
 |0=>⟨x,f.a1,f.a2,f.a3,f.a4,f.a5,f.a6,f.a7⟩
 |1=>⟨f.a0,x,f.a2,f.a3,f.a4,f.a5,f.a6,f.a7⟩
 |2=>⟨f.a0,f.a1,x,f.a3,f.a4,f.a5,f.a6,f.a7⟩
 |3=>⟨f.a0,f.a1,f.a2,x,f.a4,f.a5,f.a6,f.a7⟩
 |4=>⟨f.a0,f.a1,f.a2,f.a3,x,f.a5,f.a6,f.a7⟩
 |5=>⟨f.a0,f.a1,f.a2,f.a3,f.a4,x,f.a6,f.a7⟩
 |6=>⟨f.a0,f.a1,f.a2,f.a3,f.a4,f.a5,x,f.a7⟩
 | _=>⟨f.a0,f.a1,f.a2,f.a3,f.a4,f.a5,f.a6,x⟩
def F8.all{α:Type}(x:α):F8 α:=⟨x,x,x,x,x,x,x,x⟩
inductive SV where
 |var (i:Nat)
 |JH (i:Nat)
 |umod (i c:Nat)
 |lin (i:Nat) (m:Int)
 |W1 (i p m:Nat)
 |cl (i:Nat) (l h:Int)
 |pr (i:Nat) (l h:Int) (j:Nat)
 |ad (i j:Nat) (l h:Int)
 |con (n:Int)
 |sm (l:List Nat)
 |ix (l:List Nat) (a:SV) (o:Int)
 |tm (f:Nat) (k k':IntKind) (a:SV) (oa:Int) (b:SV) (ob:Int)
 |bits (l:List Nat)
inductive AV where
 |int (k:IntKind) (n:Int)
 |bool (b:Bool)
 |sc (v:Value)
 |agg (cs:List AV)
 |wZ (vs:List AV)
 |ref (id off:Nat)
 |nW (id off len sz:Nat)
 |rJ (len:Nat) (cs:List AV)
 |py (cs:List AV)
 |pO
 |ur
 |fn (f:FuncId) (cap:List AV)
 |sym (k:IntKind) (s:SV) (lo hi off:Int)
 |any
 deriving Inhabited
abbrev Tm:=F8 (F8 (F8 (Option AV)))
def Tm.at(t:Tm)(i:Nat):Option AV:=((t.qw (i / 64)).qw (i / 8 % 8)).qw (i % 8)
def Tm.put(t:Tm)(i:Nat)(v:Option AV):Tm:=t.rh ((t.qw (i / 64)).rh (((t.qw (i / 64)).qw (i / 8 % 8)).rh v (i % 8)) (i / 8 % 8)) (i / 64)
def Tm.none:Tm:=F8.all (F8.all (F8.all Option.none))
structure Rw where
 n:Nat
 d:List AV
 t:Tr AV
structure Hp where
 next:Nat
 cw:Tr Rw
inductive Ro where
 |bad
 |ok (v:AV) (h:Hp)
inductive Rt where
 |bad
 |ok (t:Tm) (h:Hp)
inductive Rc where
 |bad
 |norm (t:Tm) (h:Hp)
 |ret (t:Tm) (h:Hp)
 |exit (i:Nat) (t:Tm) (h:Hp)
abbrev n9:=Tm->Option AV
abbrev nY:=Tm->Hp->Ro
abbrev tH:=Tm->Hp->Rt
abbrev Dh:=Tm->Hp->Rc
abbrev mS:=FuncId->List AV->Hp->Ro
def app{α:Type}(l r:List α):List α:=List.rec r (fun a _ ih=>a::ih) l
def len{α:Type}(l:List α):Nat:=List.rec (fun n=>n) (fun _ _ ih n=>ih (Nat.add n 1)) l (0:Nat)
def tk{α:Type}(n:Nat)(l:List α):List α:=
 List.rec (fun _=>[]) (fun a _ ih n=>Bool.rec (a::ih (Nat.sub n 1)) [] (Nat.beq n 0)) l n
def dp{α:Type}(n:Nat)(l:List α):List α:=
 List.rec (fun _=>[]) (fun a r ih n=>Bool.rec (ih (Nat.sub n 1)) (a::r) (Nat.beq n 0)) l n
def sa{α:Type}(l:List α)(n:Nat):Option α:=
 List.rec (fun _=>none) (fun a _ ih n=>Bool.rec (ih (Nat.sub n 1)) (some a) (Nat.beq n 0)) l n
def oD{α:Type}(p:α->Bool)(l:List α):Bool:=List.rec true (fun a _ ih=>bif p a then ih else false) l
def leaf:Value->Option AV
 | .int k n=>some (.int k n)
 | .bool b=>some (.bool b)
 | .string s=>some (.sc (.string s))
 | .pointer none=>some (.sc (.pointer none))
 | .slice none 0 0=>some (.sc (.slice none 0 0))
 | .map none=>some (.sc (.map none))
 | .nilFunc=>some (.sc .nilFunc)
 | .nilIface=>some (.sc .nilIface)
 | _=>none
def leaves(l:List Value):Option (List AV):=
 List.rec (some []) (fun v _ ih=>match leaf v with
  |some a=>match ih with
   |some r=>some (a::r)
   |none=>none
  |none=>none) l
def O1:Value->Option AV
 | .agg cs=>match leaves cs.toList with|some l=>some (.agg l)|none=>none
 | .tuple cs=>match leaves cs.toList with|some l=>some (.wZ l)|none=>none
 |v=>leaf v
def AV.cells:AV->List AV
 | .agg cs=>cs
 |v=>[v]
def nA:AV->Bool
 | .agg _| .wZ _=>false
 | _=>true
def pz:AV:=.wZ []
def isNil:AV->Bool
 | .sc (.slice none n c)=>Nat.beq n 0&&Nat.beq c 0
 | _=>false
def xq:AV->Bool
 | .ur=>true
 |a=>isNil a
def W3:AV->Bool
 | .ur=>true
 | .pO=>true
 | .nW _ _ n _=>Nat.beq n 0
 | .rJ n _=>Nat.beq n 0
 |a=>isNil a
def zt(a:AV):AV:=bif xq a then .pO else a
def ET(a:AV):Option Bool:=bif isNil a then some true else match a with
 | .ur=>some false
 | .nW _ _ _ _=>some false
 | .rJ n _=>bif Nat.beq n 0 then none else some false
 | _=>none
def Rw.cell(r:Rw)(i:Nat):AV:=Option.rec (Option.rec pz (fun v=>v) (sa r.d (Nat.mod i (len r.d)))) (fun v=>v) (r.t.get i)
def Rw.cells(r:Rw)(k:Nat):Nat->List AV:=Nat.rec (fun _=>[]) (fun _ ih i=>r.cell i::ih (Nat.add i 1)) k
def Rw.toL(r:Rw):List AV:=r.cells r.n 0
def sZ(l:List AV):Nat->Tr AV->Tr AV:=List.rec (fun _ t=>t) (fun a _ ih i t=>ih (Nat.add i 1) (t.set i (some a))) l
def A5(l:List AV):Rw:=⟨len l,[],sZ l 0 .nil⟩
def Rw.ri(r:Rw)(off k:Nat):Option (List AV):=bif Nat.ble (Nat.add off k) r.n then some (r.cells k off)else none
def Rw.put(r:Rw)(off:Nat)(l:List AV):Rw:=⟨r.n,r.d,sZ l off r.t⟩
def Rw.app(r:Rw)(l:List AV):Rw:=⟨Nat.add r.n (len l),r.d,sZ l r.n r.t⟩
def Rw.upto(r:Rw)(m:Nat):Rw:=⟨m,r.d,r.t⟩
def Rw.sub(r:Rw)(off k:Nat):Option Rw:=bif Nat.ble (Nat.add off k) r.n then some (bif Nat.beq off 0 then r.upto k else A5 (r.cells k off))else none
def oT(i:Nat):n9:=fun t=>Tm.at t i
def wO(x:n9):n9:=fun t=>Option.rec none (fun a=>some (zt a)) (x t)
abbrev ahQ:=AV->Tm->Tm
def sT(i:Nat):ahQ:=fun v t=>Tm.put t i (some v)
def oC(v:AV):n9:=fun _=>some v
def oX:n9:=fun _=>none
def zu(l:List n9)(t:Tm):Option (List AV):=
 List.rec (some []) (fun o _ ih=>Option.rec none (fun v=>Option.rec none (fun vs=>some (v::vs)) ih) (o t)) l
def nn(h:Hp)(cs:Rw):Hp:=⟨Nat.add h.next 1,h.cw.set h.next (some cs)⟩
def qx(h:Hp)(id:Nat)(cs:Option Rw):Hp:=⟨h.next,h.cw.set id cs⟩
def oZ(k:IntKind)(n:Int):Int:=
 match k with
 | .u8=>Int.emod n 256| .u16=>Int.emod n 65536| .u32=>Int.emod n 4294967296| .u64=>Int.emod n 18446744073709551616
 | .i8=>Int.sub (Int.emod (Int.add n 128) 256) 128| .i16=>Int.sub (Int.emod (Int.add n 32768) 65536) 32768
 | .i32=>Int.sub (Int.emod (Int.add n 2147483648) 4294967296) 2147483648
 | .i64=>Int.sub (Int.emod (Int.add n 9223372036854775808) 18446744073709551616) 9223372036854775808
def qp:IntKind->IntKind->Bool
 | .i8,.i8| .i16,.i16| .i32,.i32| .i64,.i64| .u8,.u8| .u16,.u16| .u32,.u32| .u64,.u64=>true
 | _,_=>false
def r7:Int->Int->Bool
 | .ofNat a,.ofNat b=>Nat.blt a b
 | .ofNat _,.negSucc _=>false
 | .negSucc _,.ofNat _=>true
 | .negSucc a,.negSucc b=>Nat.blt b a
def eqI:Int->Int->Bool
 | .ofNat a,.ofNat b=>Nat.beq a b
 | .negSucc a,.negSucc b=>Nat.beq a b
 | _,_=>false
def rF(s:Sem Value):Option Value:=
 match s with
 | .pure v=>some v
 | _=>none
def tE(f:IntKind->Int->Int->Option AV)(x y:AV):Option AV:=
 match x,y with
 | .int k a,.int k' b=>bif qp k k' then f k a b else none
 | _,_=>none
def adq:AV->AV->Option AV:=tE fun k a b=>some (.int k (oZ k (Int.add a b)))
def adr:AV->AV->Option AV:=tE fun k a b=>some (.int k (oZ k (Int.sub a b)))
def ads:AV->AV->Option AV:=tE fun k a b=>some (.int k (oZ k (Int.mul a b)))
def Xi:AV->AV->Option AV:=tE fun k a b=>bif eqI b 0 then none else some (.int k (oZ k (Int.tdiv a b)))
def Xj:AV->AV->Option AV:=tE fun k a b=>bif eqI b 0 then none else some (.int k (Int.tmod a b))
def adt:AV->AV->Option AV:=tE fun _ a b=>some (.bool (r7 a b))
def adu:AV->AV->Option AV:=tE fun _ a b=>some (.bool (!(r7 b a)))
def adv:AV->AV->Option AV:=tE fun _ a b=>some (.bool (r7 b a))
def adw:AV->AV->Option AV:=tE fun _ a b=>some (.bool (!(r7 a b)))
def lim:IntKind->Nat
 | .i8=>128| .i16=>32768| .i32=>2147483648| .i64=>9223372036854775808
 | .u8=>256| .u16=>65536| .u32=>4294967296| .u64=>18446744073709551616
def xd:IntKind->Nat
 | .i8| .u8=>8| .i16| .u16=>16| .i32| .u32=>32| .i64| .u64=>64
def BC(s:Option Value):Option AV:=match s with
 |some v=>O1 v
 |none=>none
def DV(op:BinOp)(f:Nat->Nat->Nat):AV->AV->Option AV:=tE fun k a b=>
 match a,b with
 | .ofNat a,.ofNat b=>bif Nat.blt a (lim k)&&Nat.blt b (lim k)then some (.int k (.ofNat (f a b)))else BC (rF (Op.intBits op k (.ofNat a) (.ofNat b)))
 |a,b=>BC (rF (Op.intBits op k a b))
def Xk:AV->AV->Option AV:=DV .and Nat.land
def bOr:AV->AV->Option AV:=DV .or Nat.lor
def Xl:AV->AV->Option AV:=DV .xor Nat.xor
def sI:AV->AV->Option AV:=tE fun k a b=>BC (rF (Op.intBits .andNot k a b))
def tW(a b:Nat):Nat:=bif Nat.ble a b then a else b
def JI(x y:AV):Option AV:=
 match x,y with
 | .int k a,.int _ (.ofNat n)=>some (.int k (oZ k (Int.mul a (.ofNat (Nat.pow 2 (tW n (xd k)))))))
 | _,_=>none
def JJ(x y:AV):Option AV:=
 match x,y with
 | .int k a,.int _ (.ofNat n)=>some (.int k (Int.fdiv a (.ofNat (Nat.pow 2 (tW n (xd k))))))
 | _,_=>none
def eqStr(a b:ByteArray):Bool:=a.toList == b.toList
def Q6(neg:Bool):AV->AV->Option AV:=tE fun _ a b=>some (.bool (bif neg then !(eqI a b)else eqI a b))
def EU(neg:Bool)(x y:AV):Option AV:=
 match x,y with
 | .bool a,.bool b=>some (.bool (bif neg then xor a b else !(xor a b)))
 | _,_=>none
def BD(neg:Bool)(x y:AV):Option AV:=
 match x,y with
 | .sc (.string a),.sc (.string b)=>some (.bool (bif neg then !(eqStr a b)else eqStr a b))
 | _,_=>none
def Dm(neg:Bool)(x y:AV):Option AV:=
 match x,y with
 | .ref _ _,.sc (.pointer none)| .py _,.sc (.pointer none)| .sc (.pointer none),.ref _ _| .sc (.pointer none),.py _=>some (.bool neg)
 | .sc (.pointer none),.sc (.pointer none)=>some (.bool (!neg))
 | _,_=>none
def BE(neg:Bool)(x y:AV):Option AV:=bif isNil y then Option.rec none (fun b=>some (.bool (bif neg then !b else b))) (ET x)else none
def loK:IntKind->Int
 | .i8=> -128| .i16=> -32768| .i32=> -2147483648| .i64=> -9223372036854775808| _=>0
def hiK:IntKind->Int
 | .i8=>127| .i16=>32767| .i32=>2147483647| .i64=>9223372036854775807
 | .u8=>255| .u16=>65535| .u32=>4294967295| .u64=>18446744073709551615
def Xm:IntKind->Int
 | .i8| .u8=>256| .i16| .u16=>65536| .i32| .u32=>4294967296| .i64| .u64=>18446744073709551616
def zw:List Nat->List Nat->Bool
 | [],[]=>true
 |a::l,b::m=>bif Nat.beq a b then zw l m else false
 | _,_=>false
def uu:SV->SV->Bool
 | .var i,.var j=>Nat.beq i j
 | .JH i,.JH j=>Nat.beq i j
 | .umod i c,.umod j d=>Nat.beq i j&&Nat.beq c d
 | .lin i m,.lin j n=>Nat.beq i j&&eqI m n
 | .W1 i p m,.W1 j q n=>Nat.beq i j&&(Nat.beq p q&&Nat.beq m n)
 | .bits l,.bits m=>zw l m
 | .con m,.con n=>eqI m n
 | .sm l,.sm m=>zw l m
 | .cl i l h,.cl i' l' h'=>Nat.beq i i'&&(eqI l l'&&eqI h h')
 | .pr i l h j,.pr i' l' h' j'=>Nat.beq i i'&&(eqI l l'&&(eqI h h'&&Nat.beq j j'))
 | .ad i j l h,.ad i' j' l' h'=>Nat.beq i i'&&(Nat.beq j j'&&(eqI l l'&&eqI h h'))
 | _,_=>false
def JK(a:SV):SV->Bool:=
 SV.rec (motive:=fun _=>SV->Bool) (fun i=>uu (.var i)) (fun i=>uu (.JH i)) (fun i c=>uu (.umod i c)) (fun i m=>uu (.lin i m)) (fun i p m=>uu (.W1 i p m))
  (fun i l h=>uu (.cl i l h)) (fun i l h j=>uu (.pr i l h j)) (fun i j l h=>uu (.ad i j l h)) (fun n=>uu (.con n)) (fun l=>uu (.sm l))
  (fun l _ o xr y=>match y with
   | .ix l2 a2 o2=>zw l l2&&(eqI o o2&&xr a2)
   | _=>false)
  (fun f k k' _ oa _ ob xr BG y=>match y with
   | .tm f2 k2 k2' a2 oa2 b2 ob2=>Nat.beq f f2&&(qp k k2&&(qp k' k2'&&(eqI oa oa2&&(eqI ob ob2&&(xr a2&&BG b2)))))
   | _=>false) (fun l=>uu (.bits l)) a
def ady(k:IntKind)(lo hi off:Int):Bool:= !(r7 (Int.add lo off) (loK k))&& !(r7 (hiK k) (Int.add hi off))
def Dn(k:IntKind)(s:SV)(lo hi off:Int):Option AV:=
 bif ady k lo hi off then some (.sym k s lo hi off)else
 bif ady k lo hi (Int.add off (Xm k))then some (.sym k s lo hi (Int.add off (Xm k)))else
 bif ady k lo hi (Int.sub off (Xm k))then some (.sym k s lo hi (Int.sub off (Xm k)))else none
def avJ(x y:AV):Option AV:=match x,y with
 | .sym k s lo hi o,.int k' c=>bif qp k k' then Dn k s lo hi (Int.add o c)else none
 | .int k' c,.sym k s lo hi o=>bif qp k k' then Dn k s lo hi (Int.add o c)else none
 | _,_=>none
def ahR(b:List Nat)(a:List Nat):Option (List Nat):=List.rec (bif zw [] b then some []else none) (fun x r ih=>bif zw (x::r) b then some []else match ih with
 |some m=>some (x::m)
 |none=>none) a
def avK(x y:AV):Option AV:=match x,y with
 | .sym k s lo hi o,.int k' c=>bif qp k k' then Dn k s lo hi (Int.sub o c)else none
 | .sym k s lo hi o,.sym k' s' nK vw o'=>bif qp k k'&&JK s s' then some (.int k (oZ k (Int.sub o o')))else bif qp k k' then(match s,s' with
  | .ad i j l h,.var i'=>bif Nat.beq i i'&& !(r7 h l)then Dn k (.cl j l h) l h (Int.sub o o')else none
  | .sm a,.sm b=>(match ahR b a with
   |some m=>Dn k (.sm m) (Int.sub lo vw) (Int.sub hi nK) (Int.sub o o')
   |none=>none)
  | .sm a,.var i=>(match ahR [i] a with
   |some m=>Dn k (.sm m) (Int.sub lo vw) (Int.sub hi nK) (Int.sub o o')
   |none=>none)
  | _,_=>none)else none
 | _,_=>none
def Q7(_ _:AV):Option Bool:=none
def Xn(w:Nat):Nat->List Nat:=Nat.rec (fun _=>[]) (fun _ ih n=>Nat.mod n 2::ih (Nat.div n 2)) w
def ME(w:Nat):Nat->List Nat:=Nat.rec (fun _=>[]) (fun _ ih b=>b::ih (Nat.add b 1)) w
def GM(n:Nat):List Nat:=Nat.rec [] (fun _ ih=>(0:Nat)::ih) n
def hiB(l:List Nat):Nat:=List.rec (0:Nat) (fun c _ ih=>Nat.add (Nat.mul 2 ih) (Bool.rec 1 0 (Nat.beq c 0))) l
def loB(l:List Nat):Nat:=List.rec (0:Nat) (fun c _ ih=>Nat.add (Nat.mul 2 ih) (Bool.rec 0 1 (Nat.beq c 1))) l
def ank(l:List Nat):Bool:=List.rec true (fun c _ ih=>Bool.rec false ih (Nat.blt c 2)) l
def mkB(k:IntKind)(l:List Nat):Option AV:=
 bif r7 (hiK k) (.ofNat (hiB l))then none else
 bif ank l then some (.int k (.ofNat (hiB l)))else some (.sym k (.bits l) (.ofNat (loB l)) (.ofNat (hiB l)) 0)
def toB(x:AV):Option (IntKind×List Nat):=match x with
 | .int k (.ofNat n)=>bif Nat.blt n (lim k)then some (k,Xn 64 n)else none
 | .sym k (.bits l) _ (.ofNat hi) (.ofNat o)=>bif Nat.beq o 0&&Nat.blt hi (lim k)then some (k,l)else none
 | .sym k (.var i) (.ofNat _) (.ofNat hi) (.ofNat o)=>
  bif Nat.beq o 0&&(Nat.blt hi (lim k)&&(Nat.blt hi (Nat.pow 2 (Nat.add (Nat.log2 hi) 1))&&Nat.ble (Nat.add (Nat.log2 hi) 1) 64))then
   some (k,app (ME (Nat.add (Nat.log2 hi) 1) (Nat.add 2 (Nat.mul 64 i))) (GM (Nat.sub 63 (Nat.log2 hi))))else none
 | .sym k (.JH i) _ (.ofNat hi) (.ofNat o)=>bif Nat.beq o 0&&Nat.blt hi (lim k)then some (k,ME 64 (Nat.add 2 (Nat.mul 64 i)))else none
 | _=>none
def anl(f:Nat->Nat->Option Nat)(l:List Nat):List Nat->Option (List Nat):=
 List.rec (fun m=>List.rec (some []) (fun _ _ _=>none) m) (fun a _ ih m=>List.rec none (fun b m _=>
  match f a b with
  |some c=>match ih m with
   |some r=>some (c::r)
   |none=>none
  |none=>none) m) l
def anm(a b:Nat):Option Nat:=bif Nat.beq a 0||Nat.beq b 0 then some 0 else bif Nat.beq a 1 then some b else bif Nat.beq b 1||Nat.beq a b then some a else none
def or1(a b:Nat):Option Nat:=bif Nat.beq a 1||Nat.beq b 1 then some 1 else bif Nat.beq a 0 then some b else bif Nat.beq b 0||Nat.beq a b then some a else none
def ann(a b:Nat):Option Nat:=bif Nat.beq a b then some 0 else bif Nat.beq a 0 then some b else bif Nat.beq b 0 then some a else none
def zB(f:Nat->Nat->Option Nat)(x y:AV):Option AV:=match toB x,toB y with
 |some (k,l),some (k',m)=>bif qp k k' then(match anl f l m with
  |some r=>mkB k r
  |none=>none)else none
 | _,_=>none
def ahS:IntKind->Bool
 | .u8| .u16| .u32| .u64=>true
 | _=>false
def avN:AV->AV->Option AV:=zB anm
def sOr:AV->AV->Option AV:=zB or1
def avO:AV->AV->Option AV:=zB ann
def avP(x y:AV):Option AV:=match toB x with
 |some (k,l)=>match y with
  | .int _ (.ofNat n)=>bif ahS k then mkB k (app (tk (xd k) (app (GM (tW n (xd k))) l)) (GM (Nat.sub 64 (xd k))))else none
  | _=>none
 |none=>none
def avQ(x y:AV):Option AV:=match toB x with
 |some (k,l)=>match y with
  | .int _ (.ofNat n)=>mkB k (app (dp (tW n (xd k)) l) (GM (tW n (xd k))))
  | _=>none
 |none=>none
def ahT(k:IntKind)(x:AV):Option AV:=match toB x with
 |some (_,l)=>bif ahS k then mkB k (app (tk (xd k) l) (GM (Nat.sub 64 (xd k))))else none
 |none=>none
def eqB(x y:AV):Option Bool:=match toB x,toB y with
 |some (k,l),some (k',m)=>bif qp k k'&&zw l m then some true else none
 | _,_=>none
def ano(x y:AV):Option Bool:=match x,y with
 | .sym k _ lo hi o,.int k' c=>bif qp k k' then(bif r7 c (Int.add lo o)||r7 (Int.add hi o) c then some false else bif eqI (Int.add lo o) c&&eqI (Int.add hi o) c then some true else none)else none
 | .int k' c,.sym k _ lo hi o=>bif qp k k' then(bif r7 c (Int.add lo o)||r7 (Int.add hi o) c then some false else bif eqI (Int.add lo o) c&&eqI (Int.add hi o) c then some true else none)else none
 | .sym k s _ _ o,.sym k' s' _ _ o'=>bif qp k k'&&JK s s' then some (eqI o o')else none
 | _,_=>none
def avR(x y:AV):Option Bool:=Option.rec (eqB x y) (fun b=>some b) (ano x y)
def eqL(x y:AV):Option Bool:=match Q7 x y with
 |some true=>some false
 | _=>match Q7 y x with
  |some true=>some false
  | _=>none
def Xo(_ _:AV):Option Bool:=none
def avS(x y:AV):Option AV:=Option.rec none (fun b=>some (.bool b)) (Q7 x y)
def avT(x y:AV):Option AV:=Option.rec none (fun b=>some (.bool b)) (Q7 y x)
def avU(x y:AV):Option AV:=Option.rec none (fun b=>some (.bool (!b))) (Q7 y x)
def avV(x y:AV):Option AV:=Option.rec none (fun b=>some (.bool (!b))) (Q7 x y)
def sEq(neg:Bool)(x y:AV):Option AV:=Option.rec none (fun b=>some (.bool (bif neg then !b else b))) (Xo x y)
def avW(x y:AV):Option AV:=match x,y with
 | .sym k s lo hi o,.int k' (.ofNat c)=>bif qp k k'&&(Nat.blt 0 c&& !(r7 (Int.add lo o) 0))then
   (bif eqI (Int.fdiv (Int.add lo o) (.ofNat c)) (Int.fdiv (Int.add hi o) (.ofNat c))then some (.sym k s lo hi (Int.sub o (Int.mul (Int.fdiv (Int.add lo o) (.ofNat c)) (.ofNat c))))else
   match k,s,o with
   | .u64,.JH i,.ofNat 0=>some (.sym .u64 (.umod i c) 0 (Int.sub (.ofNat c) 1) 0)
   |k,.var i,.ofNat 0=>some (.sym k (.W1 i 1 c) 0 (Int.sub (.ofNat c) 1) 0)
   |k,.W1 i p m,.ofNat 0=>bif Nat.beq m 0 then some (.sym k (.W1 i p c) 0 (Int.sub (.ofNat c) 1) 0)else none
   |k,.pr i l h _,.ofNat 0=>bif Nat.beq c 4294967296&&(!(r7 l 0)&&(r7 h 4294967296&& !(r7 h l)))then some (bif eqI l h then .int k l else .sym k (.cl i l h) l h 0)else none
   |k,.lin _ (.ofNat m),.ofNat o=>bif Nat.beq (Nat.mod m c) 0 then some (.int k (.ofNat (Nat.mod o c)))else none
   | _,_,_=>none)else none
 | _,_=>none
def avX(x y:AV):Option AV:=match x,y with
 | .sym k s lo hi o,.int k' (.ofNat c)=>bif qp k k'&&(Nat.blt 0 c&& !(r7 (Int.add lo o) 0))then
   (bif eqI (Int.fdiv (Int.add lo o) (.ofNat c)) (Int.fdiv (Int.add hi o) (.ofNat c))then some (.int k (oZ k (Int.fdiv (Int.add lo o) (.ofNat c))))else
   match s,o with
   | .var i,.ofNat 0=>Dn k (.W1 i c 0) (Int.fdiv lo (.ofNat c)) (Int.fdiv hi (.ofNat c)) 0
   | .W1 i p m,.ofNat 0=>bif Nat.beq m 0 then Dn k (.W1 i (Nat.mul p c) 0) (Int.fdiv lo (.ofNat c)) (Int.fdiv hi (.ofNat c)) 0 else none
   | _,_=>none)else none
 | _,_=>none
def ahU(k:IntKind)(i:Nat)(lo hi o:Int)(c:Nat):Option AV:=bif Nat.blt 0 c then Dn k (.lin i (.ofNat c)) (Int.mul (.ofNat c) lo) (Int.mul (.ofNat c) hi) (Int.mul (.ofNat c) o)else none
def avY(x y:AV):Option AV:=match x,y with
 | .sym k (.var i) lo hi o,.int k' (.ofNat c)=>bif qp k k' then ahU k i lo hi o c else none
 | .int k' (.ofNat c),.sym k (.var i) lo hi o=>bif qp k k' then ahU k i lo hi o c else none
 | _,_=>none
def ahV(k k':IntKind)(s:SV)(o:Int)(x:AV):Option AV:=match k,k',s,o with
 | .u64,.i64,.var i,0=>some (.sym .u64 (.JH i) 0 18446744073709551615 0)
 | .u32,_,.pr i l h _,.ofNat 0=>bif !(r7 l 0)&&(r7 h 4294967296&& !(r7 h l))then some (bif eqI l h then .int .u32 l else .sym .u32 (.cl i l h) l h 0)else none
 | _,_,_,_=>ahT k x
def avZ(k:IntKind)(x:AV):Option AV:=match x with
 | .sym k' s lo hi o=>Option.rec (ahV k k' s o x) (fun r=>some r) (Dn k s lo hi o)
 | _=>none
def AE(f s:AV->AV->Option AV):AV->AV->Option AV:=fun x y=>Option.rec (s x y) (fun v=>some v) (f x y)
def ahW(f s:AV->Option AV):AV->Option AV:=fun x=>Option.rec (s x) (fun v=>some v) (f x)
def MF:AV->Option AV
 | .int k n=>some (.int k (oZ k (Int.sub 0 n)))
 | _=>none
def Q8(k:IntKind):AV->Option AV
 | .int _ n=>some (.int k (oZ k n))
 | _=>none
def opF(f:Nat)(k:IntKind)(m n:Int):Option AV:=match f with
 |0=>adq (.int k m) (.int k n)
 |1=>adr (.int k m) (.int k n)
 |2=>ads (.int k m) (.int k n)
 |3=>Xi (.int k m) (.int k n)
 |4=>Xj (.int k m) (.int k n)
 |5=>Xk (.int k m) (.int k n)
 |6=>bOr (.int k m) (.int k n)
 |7=>Xl (.int k m) (.int k n)
 |8=>JI (.int k m) (.int .u64 n)
 |9=>JJ (.int k m) (.int .u64 n)
 |10=>MF (.int k m)
 | _=>Q8 k (.int k m)
def tmF(f:Nat)(k:IntKind)(m n:Int):Int:=match opF f k m n with
 |some (.int _ r)=>r
 | _=>0
def atS(x:AV):Option (IntKind×SV×Int×Int×Int):=match x with
 | .int k n=>some (k,.con n,0,n,n)
 | .sym k s lo hi o=>some (k,s,o,Int.add lo o,Int.add hi o)
 | _=>none
def inK(k:IntKind)(l u:Int):Bool:= !(r7 l (loK k))&& !(r7 (hiK k) u)
def tS(f:Nat)(ok:IntKind->IntKind->Int->Int->Int->Int->Bool)(x y:AV):Option AV:=match atS x with
 |some (k,s,o,l,u)=>match atS y with
  |some (k',s',o',l',u')=>bif ok k k' l u l' u' then some (.sym k (.tm f k k' s o s' o') (loK k) (hiK k) 0)else none
  |none=>none
 |none=>none
def t1(f:Nat)(k:IntKind)(x:AV):Option AV:=match atS x with
 |some (k',s,o,_,_)=>some (.sym k (.tm f k k' s o (.con 0) 0) (loK k) (hiK k) 0)
 |none=>none
def av0(k k':IntKind)(_ _ _ _:Int):Bool:=qp k k'
def av1(k k':IntKind)(l u l' u':Int):Bool:=qp k k'&&(inK k l u&&(r7 0 l'||r7 u' 0))
def at2(_ _:IntKind)(_ _ l' _:Int):Bool:= !(r7 l' 0)
def at3(k _:IntKind)(l u l' _:Int):Bool:=inK k l u&& !(r7 l' 0)
def uK:IntKind->IntKind
 | .i8=>.u8| .i16=>.u16| .i32=>.u32| .i64=>.u64|k=>k
def av2(k:IntKind)(x:AV):Option AV:=Option.rec (t1 11 k x) (fun r=>t1 11 k r) (ahT (uK k) x)
def Gz:AV->AV->Option AV:=fun _ _=>none
def s0:AV->AV->Option AV:=AE adq Gz
def sC:AV->AV->Option AV:=AE adr Gz
def s5:AV->AV->Option AV:=AE Xj Gz
def uv:AV->AV->Option AV:=AE Xi Gz
def tJ:AV->AV->Option AV:=AE ads Gz
def qN:AV->AV->Option AV:=AE adt Gz
def rK:AV->AV->Option AV:=AE adu Gz
def qf:AV->AV->Option AV:=AE adv Gz
def qD:AV->AV->Option AV:=AE adw Gz
def sD:AV->AV->Option AV:=AE Xk Gz
def GN:AV->AV->Option AV:=AE bOr Gz
def Aj:AV->AV->Option AV:=AE Xl Gz
def BH:AV->AV->Option AV:=AE JI Gz
def DW:AV->AV->Option AV:=AE JJ Gz
def Ak(neg:Bool):AV->AV->Option AV:=AE (Q6 neg) Gz
def eq1(i:Bool)(x y:AV):Option Bool:=bif i then
 (match x,y with
 | .int k a,.int k' b=>bif qp k k' then some (eqI a b)else none
 | _,_=>Xo x y)else
 (match x,y with
 | .bool a,.bool b=>some (!(xor a b))
 | _,_=>none)
def Dp(l:List Bool):List AV->List AV->Option Bool:=
 List.rec (fun _ _=>some true) (fun i _ ih xs ys=>match xs with
  | []=>none
  |x::xs=>match ys with
   | []=>none
   |y::ys=>match eq1 i x y with
    |none=>none
    |some c=>Bool.rec (some false) (ih xs ys) c) l
def BI(neg:Bool)(l:List Bool)(x y:AV):Option AV:=match x with
 | .agg xs=>match y with
  | .agg ys=>match Dp l xs ys with
   |some c=>some (.bool (bif neg then !c else c))
   |none=>none
  | _=>none
 | _=>none
def O2:AV->Option AV
 | .bool b=>some (.bool (!b))
 | _=>none
def O3(x:AV):Option AV:=Option.rec (match atS x with|some (k,_,_,_,_)=>t1 10 k x|none=>none) (fun r=>some r) (MF x)
def GO:AV->Option AV
 | .int k n=>BC (rF (Op.unary .xor (.int k n)))
 | _=>none
def put(cs:List AV)(off:Nat)(new:List AV):List AV:=app (tk off cs) (app new (dp (Nat.add off (len new)) cs))
def A6(cs:List AV)(off n:Nat):Option (List AV):=
 match tk n (dp off cs)with
 |l=>bif Nat.beq (len l) n then some l else none
def part(agg:Bool)(cs:List AV)(off size:Nat):Option AV:=
 match A6 cs off size with
 |none=>none
 |some l=>bif agg then some (.agg l)else match l with
  | [c]=>some c
  | _=>none
def xe(agg:Bool)(r:Rw)(off size:Nat):Option AV:=
 match r.ri off size with
 |none=>none
 |some l=>bif agg then some (.agg l)else match l with
  | [c]=>some c
  | _=>none
def BJ(l:List (Nat×Nat×AV)):List AV->Option (List AV):=
 List.rec (fun cells=>some cells) (fun p _ ih cells=>
  bif Nat.beq (len p.2.2.cells) p.2.1&&Nat.ble (Nat.add p.1 p.2.1) (len cells)then ih (put cells p.1 p.2.2.cells)else none) l
def xX(size:Nat)(l:List (Nat×AV)):Nat->Option (List AV):=
 List.rec (fun _=>some []) (fun p _ ih i=>
  bif Nat.beq p.1 i&&Nat.beq (len p.2.cells) size then(match ih (Nat.add i 1)with|some r=>some (app p.2.cells r)|none=>none)else none) l
def tX(l:List (Nat×n9))(t:Tm):Option (List (Nat×AV)):=
 List.rec (some []) (fun p _ ih=>match p.2 t with
  |some v=>match ih with
   |some vs=>some ((p.1,v)::vs)
   |none=>none
  |none=>none) l
def tY(l:List (Nat×Nat×n9))(t:Tm):Option (List (Nat×Nat×AV)):=
 List.rec (some []) (fun p _ ih=>match p.2.2 t with
  |some v=>match ih with
   |some vs=>some ((p.1,p.2.1,v)::vs)
   |none=>none
  |none=>none) l
def oQ(n:Nat)(z:List AV):List AV:=Nat.rec [] (fun _ ih=>app z ih) n
def scale(size:Nat)(l:List (Nat×AV)):List (Nat×Nat×AV):=
 List.rec [] (fun p _ ih=>(Nat.mul p.1 size,size,p.2)::ih) l
def wA(n size:Nat)(zero:List AV)(l:List (Nat×AV)):Option (List AV):=
 match bif Nat.beq (len l) n then xX size l 0 else none with
 |some cs=>some cs
 |none=>BJ (scale size l) (oQ n zero)
def BK(h:Hp)(size:Nat)(agg:Bool)(a:AV):Option AV:=
 match a with
 | .ref id off=>match h.cw.get id with
  |some cs=>xe agg cs off size
  |none=>none
 | .py cs=>part agg cs 0 size
 | _=>none
def nC(h:Hp):AV->Option (Nat×List AV)
 | .pO=>some (0,[])
 | .rJ n cs=>some (n,cs)
 | .nW id off n sz=>match h.cw.get id with
  |some cs=>match cs.ri off (Nat.mul n sz)with
   |some l=>some (n,l)
   |none=>none
  |none=>none
 | _=>none
def qg(x:n9):nY:=fun t h=>Option.rec Ro.bad (fun v=>Ro.ok v h) (x t)
def vk(c a b:n9):nY:=fun t h=>match c t with
 |some (.bool c)=>bif c then qg a t h else qg b t h
 | _=>.bad
def JL(cs:List AV):nY:=fun _ h=>.ok (.ref h.next 0) (nn h (A5 cs))
def Dq(x:n9):nY:=fun t h=>match x t with
 |some v=>.ok (.ref h.next 0) (nn h (A5 v.cells))
 |none=>.bad
def tZ(zero:List AV)(parts:List (Nat×Nat×n9)):nY:=fun t h=>match tY parts t with
 |some vs=>match BJ vs zero with
  |some cs=>.ok (.agg cs) h
  |none=>.bad
 |none=>.bad
def BL(n size:Nat)(zero:List AV)(parts:List (Nat×n9)):nY:=fun t h=>match tX parts t with
 |some vs=>bif Nat.beq n 0 then(match vs with| []=>.ok .ur h| _=>.bad)else match wA n size zero vs with
  |some cs=>.ok (.nW h.next 0 n size) (nn h (A5 cs))
  |none=>.bad
 |none=>.bad
def rL(size:Nat)(agg:Bool)(a:n9):nY:=fun t h=>match a t with
 |some a=>match BK h size agg a with
  |some v=>.ok v h
  |none=>.bad
 |none=>.bad
def s6(size:Nat)(a x:n9):nY:=fun t h=>match a t with
 |some (.ref id off)=>match x t with
  |some v=>match h.cw.get id with
   |some cs=>bif Nat.beq (len v.cells) size&&(Nat.ble (Nat.add off (len v.cells)) cs.n&&oD nA v.cells)then
    .ok pz (qx h id (some (cs.put off v.cells)))
    else .bad
   |none=>.bad
  |none=>.bad
 | _=>.bad
def BM(x:n9):nY:=fun t h=>match x t with
 |some (.ref i o)=>.ok (.ref i o) h
 |some (.py cs)=>.ok (.py cs) h
 |some (.fn f c)=>.ok (.fn f c) h
 | _=>.bad
def vz(f:AV->AV->Option AV)(x y:n9):nY:=fun t h=>
 Option.rec Ro.bad (fun a=>Option.rec Ro.bad (fun b=>Option.rec Ro.bad (fun v=>Ro.ok v h) (f a b)) (y t)) (x t)
def GP(f:AV->Option AV)(x:n9):nY:=fun t h=>Option.rec Ro.bad (fun a=>Option.rec Ro.bad (fun v=>Ro.ok v h) (f a)) (x t)
def BN(k:IntKind):AV->Option AV:=ahW (Q8 k) fun _=>none
def uQ(x:n9):nY:=fun t h=>match x t with
 |some (.sc (.string s))=>.ok (.nW h.next 0 s.size 1) (nn h (A5 (s.data.toList.map fun b=>.int .u8 (.ofNat b.toNat))))
 | _=>.bad
def JM(f:FuncId)(cap:List n9):nY:=fun t h=>match zu cap t with
 |some vs=>.ok (.fn f vs) h
 |none=>.bad
def tK(size bytes:Nat)(zero:List AV)(l c:n9):nY:=fun t h=>match l t with
 |some (.int _ (.ofNat l))=>match c t with
  |some (.int _ (.ofNat c))=>bif Nat.ble l c&&Nat.ble (Nat.mul c bytes) 70368744177664 then
    bif Nat.beq c 0 then .ok .ur h else .ok (.nW h.next 0 l size) (nn h ⟨Nat.mul c (len zero),zero,.nil⟩)
   else .bad
  | _=>.bad
 | _=>.bad
def ua(o:Option n9)(t:Tm)(d:Nat):Option Nat:=match o with
 |none=>some d
 |some o=>match o t with
  |some (.int _ (.ofNat n))=>some n
  | _=>none
def bounds(lo hi:Option n9)(t:Tm)(n:Nat):Option (Nat×Nat):=match ua lo t 0 with
 |some l=>match ua hi t n with
  |some h=>bif Nat.ble l h&&Nat.ble h n then some (l,h)else none
  |none=>none
 |none=>none
def qO(x:n9)(lo hi:Option n9):nY:=fun t h=>match x t with
 |some (.sc (.string s))=>match bounds lo hi t s.size with
  |some (l,e)=>.ok (.sc (.string (s.extract l e))) h
  |none=>.bad
 | _=>.bad
def ub(size:Nat)(x:n9)(lo hi:Option n9):nY:=fun t h=>match x t with
 |some .pO=>match bounds lo hi t 0 with
  |some _=>.ok .pO h
  |none=>.bad
 |some (.nW id off n sz)=>match bounds lo hi t n with
  |some (l,e)=>bif Nat.beq sz size then .ok (.nW id (Nat.add off (Nat.mul l size)) (Nat.sub e l) sz) h else .bad
  |none=>.bad
 |some (.rJ n cs)=>match bounds lo hi t n with
  |some (l,e)=>.ok (.rJ (Nat.sub e l) (tk (Nat.mul (Nat.sub e l) size) (dp (Nat.mul l size) cs))) h
  |none=>.bad
 | _=>.bad
def oE(size:Nat)(x:n9)(lo hi:Option n9):nY:=fun t h=>match x t with
 |some a=>bif xq a then(match bounds lo hi t 0 with
  |some _=>.ok a h
  |none=>.bad)else ub size x lo hi t h
 |none=>.bad
def BO(x:n9):nY:=fun t h=>match x t with
 |some .pO=>.ok (.int .i64 0) h
 | _=>.bad
def pP(n size:Nat)(x:n9)(lo hi:Option n9):nY:=fun t h=>match x t with
 |some (.ref id off)=>match bounds lo hi t n with
  |some (l,e)=>match h.cw.get id with
   |some cs=>bif Nat.ble (Nat.add off (Nat.mul n size)) cs.n then .ok (.nW id (Nat.add off (Nat.mul l size)) (Nat.sub e l) size) h else .bad
   |none=>.bad
  |none=>.bad
 | _=>.bad
def nD(off:Nat)(x:n9):nY:=fun t h=>match x t with
 |some (.ref id o)=>.ok (.ref id (Nat.add o off)) h
 |some (.py cs)=>.ok (.py (dp off cs)) h
 | _=>.bad
def uc(off size:Nat)(agg:Bool)(x:n9):nY:=fun t h=>match x t with
 |some (.agg cs)=>match part agg cs off size with
  |some v=>.ok v h
  |none=>.bad
 | _=>.bad
def xY(size:Nat)(x i:n9):nY:=fun t h=>match i t with
 |some (.int _ (.ofNat i))=>match x t with
  |some (.nW id off n sz)=>bif Nat.blt i n&&Nat.beq sz size then .ok (.ref id (Nat.add off (Nat.mul i size))) h else .bad
  |some (.rJ n cs)=>bif Nat.blt i n then .ok (.py (dp (Nat.mul i size) cs)) h else .bad
  | _=>.bad
 | _=>.bad
def w4(n size:Nat)(x i:n9):nY:=fun t h=>match i t with
 |some (.int _ (.ofNat i))=>match x t with
  |some (.ref id off)=>bif Nat.blt i n then .ok (.ref id (Nat.add off (Nat.mul i size))) h else .bad
  |some (.py cs)=>bif Nat.blt i n then .ok (.py (dp (Nat.mul i size) cs)) h else .bad
  | _=>.bad
 | _=>.bad
def sf(n size:Nat)(agg:Bool)(x i:n9):nY:=fun t h=>match x t with
 |some (.agg cs)=>match i t with
  |some (.int _ (.ofNat i))=>bif Nat.blt i n then(match part agg cs (Nat.mul i size) size with
   |some v=>.ok v h
   |none=>.bad)else .bad
  | _=>.bad
 | _=>.bad
def qP(x i:n9):nY:=fun t h=>match x t with
 |some (.sc (.string s))=>match i t with
  |some (.int _ (.ofNat i))=>match sa s.data.toList i with
   |some b=>.ok (.int .u8 b.toNat) h
   |none=>.bad
  |some (.sym _ a lo hi o)=>bif !(r7 (Int.add lo o) 0)&&r7 (Int.add hi o) (.ofNat s.size)then .ok (.sym .u8 (.ix (s.data.toList.map UInt8.toNat) a o) 0 255 0) h else .bad
  | _=>.bad
 | _=>.bad
def pI(x:n9)(i:Nat):nY:=fun t h=>match x t with
 |some (.wZ vs)=>match sa vs i with
  |some v=>.ok v h
  |none=>.bad
 | _=>.bad
def vm(x:n9):nY:=fun t h=>match x t with
 |some (.sc (.string s))=>.ok (.int .i64 (.ofNat s.size)) h
 | _=>.bad
def BP(x:n9):nY:=fun t h=>match x t with
 |some (.nW _ _ n _)=>.ok (.int .i64 (.ofNat n)) h
 |some (.rJ n _)=>.ok (.int .i64 (.ofNat n)) h
 |some .pO=>.ok (.int .i64 0) h
 | _=>.bad
def xZ(size bytes:Nat)(h:Hp)(s:AV)(n:Nat)(new:List AV):Ro:=match s with
 | .pO=>bif Nat.beq n 0 then .ok .pO h else
   bif Nat.ble (Nat.mul n bytes) 70368744177664&&(oD nA new&&(Nat.beq (len new) (Nat.mul n size)&&Nat.ble n 70368744177664))then .ok (.nW h.next 0 n size) (nn h (A5 new))else .bad
 | .nW id off ln sz=>bif Nat.beq n 0 then .ok (.nW id off ln sz) h else match h.cw.get id with
  |none=>.bad
  |some cs=>match cs.sub off (Nat.mul ln sz)with
   |none=>.bad
   |some pre=>bif Nat.ble (Nat.mul (Nat.add ln n) bytes) 70368744177664&&(Nat.beq sz size&&(oD nA new&&(Nat.beq (len new) (Nat.mul n size)&&Nat.ble (Nat.add ln n) 70368744177664)))then
    .ok (.nW h.next 0 (Nat.add ln n) sz) (nn (qx h id none) (pre.app new))else .bad
 | .rJ ln cs=>bif Nat.beq n 0 then .ok (.rJ ln cs) h else .bad
 | _=>.bad
def uR(size bytes:Nat)(s x:n9):nY:=fun t h=>match s t with
 |some s=>match x t with
  |some x=>match nC h x with
   |none=>.bad
   |some (n,new)=>xZ size bytes h s n new
  |none=>.bad
 |none=>.bad
def oF(size bytes:Nat)(s x:n9):nY:=fun t h=>match s t with
 |some a=>match x t with
  |some b=>bif xq a&&W3 b then .ok a h else uR size bytes (wO s) (wO x) t h
  |none=>.bad
 |none=>.bad
def tL(size bytes:Nat)(zero:List AV)(s x:n9):nY:=fun t h=>match s t with
 |some a=>match x t with
  |some (.int _ (.ofNat n))=>bif xq a&&Nat.beq n 0 then .ok a h else xZ size bytes h (zt a) n (oQ n zero)
  | _=>.bad
 |none=>.bad
def yc(bytes:Nat)(s x:n9):nY:=fun t h=>match s t with
 |some a=>match x t with
  |some (.sc (.string b))=>bif xq a&&Nat.beq b.size 0 then .ok a h else xZ 1 bytes h (zt a) b.size (b.data.toList.map fun b=>.int .u8 (.ofNat b.toNat))
  | _=>.bad
 |none=>.bad
def xf(x:n9):nY:=fun t h=>match x t with
 |some (.nW id off n sz)=>bif Nat.beq n 0 then .bad else(match h.cw.get id with
  |some _=>.ok (.nW id off n sz) h
  |none=>.bad)
 | _=>.bad
def sE(size:Nat)(d s:n9):nY:=fun t h=>match d t with
 |some .pO=>match s t with
  |some x=>match nC h x with
   |some _=>.ok (.int .i64 (.ofNat 0)) h
   |none=>.bad
  |none=>.bad
 |some (.nW id off n sz)=>match s t with
  |some x=>match nC h x with
   |some (m,src)=>bif Nat.beq (tW m n) 0 then .ok (.int .i64 (.ofNat 0)) h else match h.cw.get id with
    |some cs=>bif (Nat.blt 0 size&&(Nat.beq sz size&&(Nat.beq (len src) (Nat.mul m size)&&oD nA src)))&&Nat.ble (Nat.add off (Nat.mul (tW m n) size)) cs.n then
     .ok (.int .i64 (.ofNat (tW m n))) (qx h id (some (cs.put off (tk (Nat.mul (tW m n) size) src))))else .bad
    |none=>.bad
   |none=>.bad
  |none=>.bad
 | _=>.bad
def BQ(x y z:n9):nY:=fun t h=>match y t with
 |some (.int _ (.ofNat y))=>match z t with
  |some (.int _ (.ofNat z))=>bif Nat.beq y 0&&Nat.beq z 0 then(match x t with
   |some .pO=>.ok .pO h
   |some (.nW _ _ _ _)=>.ok .pO h
   |some (.rJ _ _)=>.ok .pO h
   | _=>.bad)else .bad
  | _=>.bad
 | _=>.bad
def Dr(x y:n9):nY:=vz (AE (tE fun k a b=>some (.int k (bif r7 b a then b else a))) fun x y=>Option.rec none (fun c=>some (bif c then y else x)) (Q7 y x)) x y
def Ds(x y:n9):nY:=vz (AE (tE fun k a b=>some (.int k (bif r7 a b then b else a))) fun x y=>Option.rec none (fun c=>some (bif c then y else x)) (Q7 x y)) x y
def O4:nY:=fun _ h=>.ok .any h
def cW:nY:=fun _ _=>.bad
def Al(call:mS)(f:FuncId)(args:List n9):nY:=fun t h=>match zu args t with
 |some vs=>call f vs h
 |none=>.bad
def vH(call:mS)(f:n9)(args:List n9):nY:=fun t h=>match f t with
 |some (.fn k cap)=>match zu args t with
  |some vs=>call k (app vs cap) h
  |none=>.bad
 | _=>.bad
def fi:tH:=fun t h=>.ok t h
def st(s:ahQ)(f:nY)(k:tH):tH:=fun t h=>Ro.rec Rt.bad (fun v h=>k (s v t) h) (f t h)
def sn(f:nY)(k:tH):tH:=fun t h=>Ro.rec Rt.bad (fun _ h=>k t h) (f t h)
def cRg(r:tH):Dh:=fun t h=>Rt.rec Rc.bad (fun t h=>Rc.norm t h) (r t h)
def xt:Dh:=fun t h=>.norm t h
def nu(a b:Dh):Dh:=fun t h=>Rc.rec Rc.bad (fun t h=>b t h) (fun t h=>Rc.ret t h) (fun i t h=>Rc.exit i t h) (a t h)
def W4(c:n9)(a b:Dh):Dh:=fun t h=>match c t with
 |some (.bool c)=>Bool.rec (b t h) (a t h) c
 | _=>.bad
def xV(id:Nat)(b:Dh):Dh:=fun t h=>
 Rc.rec Rc.bad (fun t h=>Rc.norm t h) (fun t h=>Rc.ret t h) (fun i t h=>Bool.rec (Rc.exit i t h) (Rc.norm t h) (Nat.beq i id)) (b t h)
def Xp(n:Nat)(b:Dh):Dh:=
 Nat.rec (fun _ _=>.bad) (fun _ ih t h=>Rc.rec Rc.bad (fun t h=>ih t h) (fun t h=>Rc.ret t h) (fun i t h=>Rc.exit i t h) (b t h)) n
def Q9(i:Nat):Dh:=fun t h=>.exit i t h
def nI:Dh:=fun t h=>.ret t h
def GQ:Dh:=fun _ _=>.bad
inductive RV where
 |tmp (i:Nat)
 |cell (i size:Nat) (agg:Bool)
def Ra(t:Tm)(h:Hp):RV->Option AV
 | .tmp i=>Tm.at t i
 | .cell i size agg=>match Tm.at t i with
  |some a=>BK h size agg a
  |none=>none
def DX(t:Tm)(h:Hp)(l:List RV):Option (List AV):=
 List.rec (some []) (fun r _ ih=>match Ra t h r with
  |some v=>match ih with
   |some vs=>some (v::vs)
   |none=>none
  |none=>none) l
structure Fb where
 ntmps:Nat
 res:List RV
 body:mS->Nat->Dh
def uS(l:List AV):Nat->Tm->Tm:=
 List.rec (fun _ t=>t) (fun v _ ih i t=>ih (Nat.add i 1) (Tm.put t i (some v))) l
def fin(res:List RV)(t:Tm)(h:Hp):Ro:=
 match DX t h res with
 |some [v]=>.ok v h
 |some vs=>.ok (.wZ vs) h
 |none=>.bad
end Go.Ab


noncomputable section
namespace Go.Ab
def DY:List Bool->Nat
 | []=>0
 |b::l=>b.toNat+2*DY l
theorem oh: ∀ (l:List Bool) (i:Nat),(DY l).testBit i=l.getD i false
 | [],i=>by simp[DY]
 |b::l,0=>by
  simp only[DY,Nat.testBit_zero]
  cases b<;>simp<;>omega
 |b::l,i+1=>by
  have h:(b.toNat+2*DY l) / 2=DY l:=by cases b<;>simp<;>omega
  rw[DY,Nat.testBit_succ,h,oh l i]
  simp
theorem amq{l m:List Bool}(h: ∀ i,l.getD i false=m.getD i false):DY l=DY m:=
 Nat.eq_of_testBit_eq fun i=>by rw[oh,oh,h]
theorem amr(f:Bool->Bool->Bool)(g:Nat->Nat->Nat)(hg: ∀ a b i,(g a b).testBit i=f (a.testBit i) (b.testBit i))(hf:f false false=false)
 (l m:List Bool)(h:l.length=m.length):DY (List.zipWith f l m)=g (DY l) (DY m):=by
 apply Nat.eq_of_testBit_eq
 intro i
 rw[oh,hg,oh,oh]
 by_cases hi:i<l.length
 ·simp[List.getD,List.getElem?_zipWith,hi,h▸hi]
 ·simp[List.getD,List.getElem?_zipWith,List.getElem?_eq_none (Nat.le_of_not_lt hi),List.getElem?_eq_none (Nat.le_of_not_lt (h▸hi)),hf]
theorem ahX(l:List Bool)(n:Nat):DY (l.take n)=DY l % 2 ^ n:=by
 apply Nat.eq_of_testBit_eq
 intro i
 rw[oh,Nat.testBit_mod_two_pow,oh]
 by_cases h:i<n<;>simp[List.getD,List.getElem?_take,h]
theorem ahY(l:List Bool)(n:Nat):DY (l.drop n)=DY l / 2 ^ n:=by
 apply Nat.eq_of_testBit_eq
 intro i
 rw[oh,<-Nat.shiftRight_eq_div_pow,Nat.testBit_shiftRight,oh]
 simp[List.getD,List.getElem?_drop]
theorem ams(l:List Bool)(n:Nat):DY (List.replicate n false++l)=DY l*2 ^ n:=by
 induction n with
 |zero=>simp
 |succ n ih=>
  simp only[List.replicate_succ,List.cons_append,DY,ih,Nat.pow_succ]
  simp;rw[Nat.mul_comm 2,Nat.mul_assoc]
end Go.Ab

noncomputable section
namespace Go.Ab
class Io where
 io:Nat->Int
 tb:List (Nat×List Value)
variable [Io]
def anq(c:Nat):Bool:=match c with
 |0=>false
 |1=>true
 |c+2=>(Io.io (c / 64) % 18446744073709551616).toNat.testBit (c % 64)
def Rb(l h x:Int):Int:=if x<l then l else if h<x then h else x
def pJ:SV->Int
 | .var i=>Io.io i
 | .JH i=>Io.io i % 18446744073709551616
 | .umod i c=>(Io.io i % 18446744073709551616) % (c:Int)
 | .lin i m=>m*Io.io i
 | .W1 i p m=>(Io.io i / (p:Int)) % (m:Int)
 | .bits l=>(DY (l.map anq):Int)
 | .cl i l h=>Rb l h (Io.io i)
 | .pr i l h j=>Rb l h (Io.io i)+4294967296*Io.io j
 | .ad i j l h=>Io.io i+Rb l h (Io.io j)
 | .con n=>n
 | .sm l=>(l.map Io.io).foldr (· + ·) 0
 | .ix l a o=>(l.getD (pJ a+o).toNat 0:Nat)
 | .tm f k _ a oa b ob=>tmF f k (pJ a+oa) (pJ b+ob)
structure G where
 m:Nat->Option (Nat×Nat)
 nQ:Nat->Prop
def nE(w:World)(b:Nat):Nat:=match w.heap[b]? with
 |some (.cells c _ _)=>c.size
 | _=>0
def nF(w:World)(b o:Nat)(vs:List Value):Prop:= ∀ j v,vs[j]? =some v->w.cell? ⟨b,o+j,none⟩=some v
mutual
def VR(g:G)(w:World):AV->Value->Prop
 | .int k n,v=>v=.int k n
 | .bool b,v=>v=.bool b
 | .sc x,v=>v=x/\x.oneCell'=true
 | .agg cs,v=> ∃ vs,v=.agg vs/\cH g w cs vs.toList
 | .wZ cs,v=> ∃ vs,v=.tuple vs/\cH g w cs vs.toList
 | .ref id off,v=> ∃ b s,g.m id=some (b,s)/\v=.pointer (some ⟨b,s+off,none⟩)
 | .nW id off n sz,v=>(n=0/\ ∃ a,v=.slice (some a) 0 0)∨
   ∃ b s cap,g.m id=some (b,s)/\v=.slice (some ⟨b,s+off,none⟩) n cap/\n<=cap/\s+off+cap*sz<=nE w b
 | .rJ n cs,v=> ∃ a cap,v=.slice a n cap/\n<=cap/\
   ((n=0/\cs=[])∨ ∃ b o vs,a=some ⟨b,o,none⟩/\g.nQ b/\nF w b o vs/\cH g w cs vs)
 | .py cs,v=> ∃ b o vs,v=.pointer (some ⟨b,o,none⟩)/\g.nQ b/\nF w b o vs/\cH g w cs vs
 | .pO,v=> ∃ a,v=.slice a 0 0
 | .ur,v=> ∃ a,v=.slice (some a) 0 0
 | .fn f cap,v=> ∃ vs,v=.func (.func f) #[] vs/\cH g w cap vs.toList
 | .sym k s lo hi off,v=>v=.int k (pJ s+off)/\lo<=pJ s/\pJ s<=hi
 | .any,v=>v.oneCell'=true
def cH(g:G)(w:World):List AV->List Value->Prop
 | [],l=>l=[]
 |a::r,l=> ∃ v l',l=v::l'/\VR g w a v/\cH g w r l'
end
def qc(g:G)(h:Hp)(b:Nat):Prop:= ∃ id cs s,h.cw.get id=some cs/\g.m id=some (b,s)
structure FT(C:Array Value) where
 el:TypeId
 fz:Nat×Nat
 ok':fz.1=fz.2∨C.size<=fz.1
omit [Io] in
theorem FT.ok{C:Array Value}(e:FT C): ∀ i,i<C.size-> ¬ (e.fz.1<=i/\i<e.fz.2):=fun i hi h=>by have:=e.ok';omega
def FT.nw(C:Array Value)(el:TypeId):FT C:=⟨el,(0,0),.inl rfl⟩
def FT.to{C C':Array Value}(e:FT C)(h:C'.size=C.size):FT C':=⟨e.el,e.fz,by have:=e.ok';omega⟩
def s7(g:G)(w:World):Prop:= ∀ p,p∈Io.tb->g.nQ p.1/\nF w p.1 0 p.2
structure HR(g:G)(w:World)(h:Hp):Prop where
 fresh: ∀ id,h.next<=id->g.m id=none
 cw: ∀ id cs,h.cw.get id=some cs-> ∃ b s C,∃ el:FT C,∃ vs,g.m id=some (b,s)/\w.heap[b]? =some (.cells C el.el el.fz)/\ ¬ g.nQ b/\cH g w cs.toL vs/\(∀ j v,vs[j]? =some v->C[s+j]? =some v)
 inj: ∀ id Am b s s' cs cs',h.cw.get id=some cs->h.cw.get Am=some cs'->g.m id=some (b,s)->g.m Am=some (b,s')->id=Am
 nQ: ∀ b,g.nQ b->b<w.heap.size
 tb:s7 g w
structure HC(g:G)(w:World)(h:Hp):Prop where
 cw: ∀ id cs,h.cw.get id=some cs-> ∃ b s C,∃ el:FT C,∃ vs,g.m id=some (b,s)/\w.heap[b]? =some (.cells C el.el el.fz)/\ ¬ g.nQ b/\cH g w cs.toL vs/\(∀ j v,vs[j]? =some v->C[s+j]? =some v)
 nQ: ∀ b,g.nQ b->b<w.heap.size
theorem HR.toHC{g w h}(H:HR g w h):HC g w h:=⟨H.cw,H.nQ⟩
structure Ext(g:G)(w:World)(h:Hp)(g':G)(w':World)(h':Hp):Prop where
 os:w'.os=w.os
 tape:w'.tape=w.tape
 output:w'.output=w.output
 size:w.heap.size<=w'.heap.size
 next:h.next<=h'.next
 m: ∀ id x,g.m id=some x->g'.m id=some x
 vG: ∀ b,b<w.heap.size-> ¬ qc g h b->w'.heap[b]? =w.heap[b]?
 rows: ∀ b,nE w b<=nE w' b
 nQ: ∀ b,g.nQ b->g'.nQ b
 O5: ∀ b,g'.nQ b->g.nQ b∨qc g h b∨w.heap.size<=b
 uw: ∀ b,qc g' h' b->qc g h b∨w.heap.size<=b
omit [Io] in
theorem Ext.refl(g:G)(w:World)(h:Hp):Ext g w h g w h:=
 ⟨rfl,rfl,rfl,Nat.le_refl _,Nat.le_refl _,fun _ _ e=>e,fun _ _ _=>rfl,fun _=>Nat.le_refl _,fun _ i=>i,fun _ i=>.inl i,fun _ o=>.inl o⟩
omit [Io] in
theorem Ext.trans{g w h g1 w1 h1 g2 w2 h2}(a:Ext g w h g1 w1 h1)(b:Ext g1 w1 h1 g2 w2 h2):Ext g w h g2 w2 h2 where
 os:=b.os.trans a.os
 tape:=b.tape.trans a.tape
 output:=b.output.trans a.output
 size:=Nat.le_trans a.size b.size
 next:=Nat.le_trans a.next b.next
 m:=fun id x e=>b.m id x (a.m id x e)
 vG:=fun k hk ho=>(b.vG k (Nat.lt_of_lt_of_le hk a.size) (fun o=>(a.uw k o).elim ho (fun e=>absurd hk (Nat.not_lt.2 e)))).trans (a.vG k hk ho)
 rows:=fun k=>Nat.le_trans (a.rows k) (b.rows k)
 nQ:=fun k i=>b.nQ k (a.nQ k i)
 O5:=fun k i=>by
  rcases b.O5 k i with i|o|l
  ·exact a.O5 k i
  ·rcases a.uw k o with o|l
   ·exact .inr (.inl o)
   ·exact .inr (.inr l)
  ·exact .inr (.inr (Nat.le_trans a.size l))
 uw:=fun k o=>by
  rcases b.uw k o with o|l
  ·exact a.uw k o
  ·exact .inr (Nat.le_trans a.size l)
theorem HC.sS{g w h}(H:HC g w h){b:Nat}(i:g.nQ b): ¬ qc g h b:=by
 rintro⟨id,cs,s,hg,hm⟩
 obtain⟨b',s',C,el,vs,MG,_,hi,_⟩:=H.cw id cs hg
 rw[hm]at MG
 obtain⟨rfl,rfl⟩:=Prod.mk.inj (Option.some.inj MG)
 exact hi i
theorem HR.sS{g w h}(H:HR g w h){b:Nat}(i:g.nQ b): ¬ qc g h b:=H.toHC.sS i
structure w5(g:G)(w:World)(g':G)(w':World):Prop where
 m: ∀ id x,g.m id=some x->g'.m id=some x
 nQ: ∀ b,g.nQ b->g'.nQ b
 AF: ∀ b,g.nQ b->w'.heap[b]? =w.heap[b]?
 rows: ∀ b,nE w b<=nE w' b
theorem Ext.mono{g w h g' w' h'}(H:HC g w h)(E:Ext g w h g' w' h'):w5 g w g' w':=
 ⟨E.m,E.nQ,fun b i=>E.vG b (H.nQ b i) (H.sS i),E.rows⟩
omit [Io] in
theorem nF.AF{w w':World}{b o vs}(h:w'.heap[b]? =w.heap[b]?)(c:nF w b o vs):nF w' b o vs:=by
 intro j v hj
 have:=c j v hj
 unfold World.cell? at this ⊢
 rw[h]
 exact this
theorem s7.mono{g w g' w'}(E:w5 g w g' w')(t:s7 g w):s7 g' w':=fun p hp=>⟨E.nQ _ (t p hp).1,nF.AF (E.AF _ (t p hp).1) (t p hp).2⟩
theorem s7.ext{g w h g' w' h'}(H:HR g w h)(E:Ext g w h g' w' h'):s7 g' w':=s7.mono (E.mono H.toHC) H.tb
mutual
theorem VR.oG{g w g' w'}(E:w5 g w g' w'): ∀ (a:AV) (v:Value),VR g w a v->VR g' w' a v
 | .int _ _,v,r=>by simpa only[VR]using r
 | .bool _,v,r=>by simpa only[VR]using r
 | .sc _,v,r=>by simpa only[VR]using r
 | .pO,v,r=>by simpa only[VR]using r
 | .ur,v,r=>by simpa only[VR]using r
 | .sym _ _ _ _ _,v,r=>by simpa only[VR]using r
 | .any,v,r=>by simpa only[VR]using r
 | .agg cs,v,r=>by
  simp only[VR]at r ⊢
  obtain⟨vs,e,q⟩:=r
  exact⟨vs,e,cH.oG E cs _ q⟩
 | .wZ cs,v,r=>by
  simp only[VR]at r ⊢
  obtain⟨vs,e,q⟩:=r
  exact⟨vs,e,cH.oG E cs _ q⟩
 | .fn f cs,v,r=>by
  simp only[VR]at r ⊢
  obtain⟨vs,e,q⟩:=r
  exact⟨vs,e,cH.oG E cs _ q⟩
 | .ref id off,v,r=>by
  simp only[VR]at r ⊢
  obtain⟨b,s,e,q⟩:=r
  exact⟨b,s,E.m _ _ e,q⟩
 | .nW id off n sz,v,r=>by
  simp only[VR]at r ⊢
  rcases r with r|⟨b,s,cap,e,q,l,z⟩
  ·exact .inl r
  ·exact .inr ⟨b,s,cap,E.m _ _ e,q,l,Nat.le_trans z (E.rows b)⟩
 | .rJ n cs,v,r=>by
  simp only[VR]at r ⊢
  obtain⟨a,cap,e,l,r⟩:=r
  refine⟨a,cap,e,l,?_⟩
  rcases r with r|⟨b,o,vs,e,i,c,q⟩
  ·exact .inl r
  ·exact .inr ⟨b,o,vs,e,E.nQ b i,c.AF (E.AF b i),cH.oG E cs _ q⟩
 | .py cs,v,r=>by
  simp only[VR]at r ⊢
  obtain⟨b,o,vs,e,i,c,q⟩:=r
  exact⟨b,o,vs,e,E.nQ b i,c.AF (E.AF b i),cH.oG E cs _ q⟩
theorem cH.oG{g w g' w'}(E:w5 g w g' w'): ∀ (l:List AV) (vs:List Value),cH g w l vs->cH g' w' l vs
 | [],vs,r=>by simpa only[cH]using r
 |a::l,vs,r=>by
  simp only[cH]at r ⊢
  obtain⟨v,l',e,q,r⟩:=r
  exact⟨v,l',e,VR.oG E a v q,cH.oG E l l' r⟩
end
theorem VR.mono{g w h g' w' h'}(H:HR g w h)(E:Ext g w h g' w' h')(a:AV)(v:Value)(r:VR g w a v):VR g' w' a v:=VR.oG (E.mono H.toHC) a v r
theorem cH.mono{g w h g' w' h'}(H:HR g w h)(E:Ext g w h g' w' h')(l:List AV)(vs:List Value)(r:cH g w l vs):cH g' w' l vs:=cH.oG (E.mono H.toHC) l vs r
omit [Io] in
theorem Tr.get_nil{α:Type}(n:Nat):(Tr.nil:Tr α).get n=none:=rfl
omit [Io] in
theorem Tr.vI{α:Type}(l r:Tr α)(v:Option α)(n:Nat):
 (Tr.node l v r).get n=if n=0 then v else if n % 2=1 then l.get (n / 2)else r.get (n / 2 - 1):=by
 show pH (Nat.beq n 0) v (pH (Nat.beq (Nat.mod n 2) 1) (l.get (Nat.div n 2)) (r.get (Nat.sub (Nat.div n 2) 1)))=_
 by_cases h:n=0
 ·subst h;rfl
 ·rw[if_neg h,show Nat.beq n 0=false from by cases n with|zero=>exact absurd rfl h|succ n=>rfl]
  by_cases h2:n % 2=1
  ·rw[if_pos h2,show Nat.beq (Nat.mod n 2) 1=true from by rw[show Nat.mod n 2=1 from h2];rfl];rfl
  ·rw[if_neg h2,show Nat.beq (Nat.mod n 2) 1=false from by rw[show Nat.mod n 2=0 from by show n % 2=0;omega];rfl];rfl
omit [Io] in
theorem Tr.get_eq{α:Type}(t:Tr α)(n:Nat):
 t.get n=if n=0 then t.hd else if n % 2=1 then t.lf.get (n / 2)else t.rt.get (n / 2 - 1):=by
 cases t with
 |nil=>simp[Tr.get_nil,Tr.hd,Tr.lf,Tr.rt]
 |node l v r=>rw[Tr.vI];rfl
omit [Io] in
theorem Tr.O6{α:Type}(f:Nat)(t:Tr α)(n:Nat)(x:Option α):
 Tr.JG (f+1) t n x=if n=0 then .node t.lf x t.rt else if n % 2=1 then .node (Tr.JG f t.lf (n / 2) x) t.hd t.rt
  else .node t.lf t.hd (Tr.JG f t.rt (n / 2 - 1) x):=by
 show pH (Nat.beq n 0) (Tr.node t.lf x t.rt) (pH (Nat.beq (Nat.mod n 2) 1) (Tr.node (Tr.JG f t.lf (Nat.div n 2) x) t.hd t.rt)
  (Tr.node t.lf t.hd (Tr.JG f t.rt (Nat.sub (Nat.div n 2) 1) x)))=_
 by_cases h:n=0
 ·subst h;rfl
 ·rw[if_neg h,show Nat.beq n 0=false from by cases n with|zero=>exact absurd rfl h|succ n=>rfl]
  by_cases h2:n % 2=1
  ·rw[if_pos h2,show Nat.beq (Nat.mod n 2) 1=true from by rw[show Nat.mod n 2=1 from h2];rfl];rfl
  ·rw[if_neg h2,show Nat.beq (Nat.mod n 2) 1=false from by rw[show Nat.mod n 2=0 from by show n % 2=0;omega];rfl];rfl
omit [Io] in
theorem Tr.Rd{α:Type}(f:Nat): ∀ (t:Tr α) (n:Nat) (x:Option α) (k:Nat),n<f->(Tr.JG f t n x).get k=if k=n then x else t.get k:=by
 induction f with
 |zero=>intro t n x k h;omega
 |succ f ih=>
  intro t n x k h
  rw[Tr.O6]
  by_cases h0:n=0
  ·subst h0
   rw[if_pos rfl,Tr.vI,Tr.get_eq t]
   by_cases hk:k=0
   ·simp[hk]
   ·simp[hk]
  ·rw[if_neg h0]
   by_cases h1:n % 2=1
   ·rw[if_pos h1,Tr.vI,Tr.get_eq t k]
    by_cases hk:k=0
    ·subst hk;simp;intro e;omega
    ·simp only[hk,if_false]
     by_cases hk1:k % 2=1
     ·simp only[hk1,if_true]
      rw[ih _ _ _ _ (by omega)]
      by_cases e:k=n
      ·subst e;simp
      ·rw[if_neg e,if_neg (by omega)]
     ·simp only[hk1,if_false]
      rw[if_neg (by intro e;subst e;omega)]
   ·rw[if_neg h1,Tr.vI,Tr.get_eq t k]
    by_cases hk:k=0
    ·subst hk;simp;intro e;omega
    ·simp only[hk,if_false]
     by_cases hk1:k % 2=1
     ·simp only[hk1,if_true]
      rw[if_neg (by intro e;subst e;omega)]
     ·simp only[hk1,if_false]
      rw[ih _ _ _ _ (by omega)]
      by_cases e:k=n
      ·subst e;simp
      ·rw[if_neg e,if_neg (by omega)]
omit [Io] in
theorem Tr.qQ{α:Type}(t:Tr α)(n:Nat)(x:Option α)(k:Nat):(t.set n x).get k=if k=n then x else t.get k:=
 Tr.Rd _ t n x k (Nat.lt_succ_self n)
omit [Io] in
theorem F8.wB{α:Type}(f:F8 α)(x:α)(i j:Nat)(hi:i<8)(hj:j<8):(f.rh x i).qw j=if j=i then x else f.qw j:=by
 rcases(by omega:i=0∨i=1∨i=2∨i=3∨i=4∨i=5∨i=6∨i=7)with rfl|rfl|rfl|rfl|rfl|rfl|rfl|rfl<;>
 rcases(by omega:j=0∨j=1∨j=2∨j=3∨j=4∨j=5∨j=6∨j=7)with rfl|rfl|rfl|rfl|rfl|rfl|rfl|rfl<;>rfl
omit [Io] in
theorem Tm.qy(t:Tm)(i j:Nat)(x:Option AV)(hi:i<512)(hj:j<512):(t.put i x).at j=if j=i then x else t.at j:=by
 unfold Tm.put Tm.at
 rw[F8.wB _ _ _ _ (by omega) (by omega)]
 by_cases h1:j / 64=i / 64
 ·rw[if_pos h1,F8.wB _ _ _ _ (by omega) (by omega)]
  by_cases h2:j / 8 % 8=i / 8 % 8
  ·rw[if_pos h2,F8.wB _ _ _ _ (by omega) (by omega)]
   by_cases h3:j % 8=i % 8
   ·rw[if_pos h3,if_pos (by omega)]
   ·rw[if_neg h3,if_neg (by intro e;subst e;exact h3 rfl),h1,h2]
  ·rw[if_neg h2,if_neg (by intro e;subst e;exact h2 rfl),h1]
 ·rw[if_neg h1,if_neg (by intro e;subst e;exact h1 rfl)]
omit [Io] in
theorem Tm.EW(j:Nat)(hj:j<512):Tm.none.at j=Option.none:=by
 unfold Tm.none Tm.at
 rcases(by omega:j / 64=0∨j / 64=1∨j / 64=2∨j / 64=3∨j / 64=4∨j / 64=5∨j / 64=6∨j / 64=7)with h|h|h|h|h|h|h|h<;>rw[h]<;>
 rcases(by omega:j / 8 % 8=0∨j / 8 % 8=1∨j / 8 % 8=2∨j / 8 % 8=3∨j / 8 % 8=4∨j / 8 % 8=5∨j / 8 % 8=6∨j / 8 % 8=7)with h|h|h|h|h|h|h|h<;>rw[h]<;>
 rcases(by omega:j % 8=0∨j % 8=1∨j % 8=2∨j % 8=3∨j % 8=4∨j % 8=5∨j % 8=6∨j % 8=7)with h|h|h|h|h|h|h|h<;>rw[h]<;>rfl
def TR(g:G)(w:World)(nt:Nat)(t:Tm)(tmps:Array Value):Prop:=
 nt<=512/\tmps.size=nt/\ ∀ i v,i<512->t.at i=some v->i<nt/\VR g w v (tmps.getD i undef)
theorem TR.mono{g w h g' w' h' nt t tmps}(H:HR g w h)(E:Ext g w h g' w' h')(r:TR g w nt t tmps):TR g' w' nt t tmps:=
 ⟨r.1,r.2.1,fun i v hi e=>⟨(r.2.2 i v hi e).1,VR.mono H E _ _ (r.2.2 i v hi e).2⟩⟩
theorem TR.put{g w nt t tmps}(r:TR g w nt t tmps){d:Nat}(hd:d<nt){a:AV}{v:Value}(hv:VR g w a v):
 TR g w nt (t.put d (some a)) (tmps.setIfInBounds d v):=by
 obtain⟨h1,h2,h3⟩:=r
 refine⟨h1,by simpa using h2,fun i x hi e=>?_⟩
 rw[Tm.qy _ _ _ _ (by omega) hi]at e
 by_cases qd:i=d
 ·subst qd
  rw[if_pos rfl]at e
  obtain rfl:=Option.some.inj e
  refine⟨hd,?_⟩
  rw[Array.getD_eq_getD_getElem?,Array.getElem?_setIfInBounds_self_of_lt (by omega)]
  exact hv
 ·rw[if_neg qd]at e
  refine⟨(h3 i x hi e).1,?_⟩
  have:=(h3 i x hi e).2
  rw[Array.getD_eq_getD_getElem?]at this ⊢
  rw[Array.getElem?_setIfInBounds_ne (by omega)]
  exact this
end Go.Ab

noncomputable section
namespace Go.Ab
variable [Io]
omit [Io] in
theorem mP{α:Type}(l r:List α):app l r=l++r:=by
 induction l with
 |nil=>rfl
 |cons a l ih=>exact congrArg (a:: ·) ih
omit [Io] in
theorem Xr{α:Type}(l:List α): ∀ n,(List.rec (motive:=fun _=>Nat->Nat) (fun n=>n) (fun _ _ ih n=>ih (Nat.add n 1)) l:Nat->Nat) n=n+l.length:=by
 induction l with
 |nil=>intro n;rfl
 |cons a l ih=>intro n;refine(ih (n+1)).trans ?_;simp;omega
omit [Io] in
theorem cQ{α:Type}(l:List α):len l=l.length:=(Xr l 0).trans (Nat.zero_add _)
omit [Io] in
theorem vJ{α:Type}(l:List α): ∀ n,tk n l=l.take n:=by
 induction l with
 |nil=>intro n;cases n<;>rfl
 |cons a l ih=>intro n;cases n with
  |zero=>rfl
  |succ n=>exact congrArg (a:: ·) (ih n)
omit [Io] in
theorem qR{α:Type}(l:List α): ∀ n,dp n l=l.drop n:=by
 induction l with
 |nil=>intro n;cases n<;>rfl
 |cons a l ih=>intro n;cases n with
  |zero=>rfl
  |succ n=>exact ih n
omit [Io] in
theorem pn{α:Type}(l:List α): ∀ n,sa l n=l[n]? :=by
 induction l with
 |nil=>intro n;rfl
 |cons a l ih=>intro n;cases n with
  |zero=>rfl
  |succ n=>refine(ih n).trans ?_;simp
omit [Io] in
theorem pQ{α:Type}(p:α->Bool)(l:List α):oD p l=l.all p:=by
 induction l with
 |nil=>rfl
 |cons a l ih=>show(bif p a then oD p l else false)=_;rw[ih];cases h:p a<;>simp[h]
omit [Io] in
theorem put_eq(cs:List AV)(off:Nat)(new:List AV):put cs off new=cs.take off++(new++cs.drop (off+new.length)):=by
 unfold put;rw[mP,mP,vJ,qR,cQ];rfl
omit [Io] in
theorem sJ{cs:List AV}{off n:Nat}{l:List AV}(h:A6 cs off n=some l):l=(cs.drop off).take n/\l.length=n:=by
 change (bif Nat.beq (len (tk n (dp off cs))) n then some (tk n (dp off cs))else none)=some l at h
 rw[vJ,qR,cQ]at h
 by_cases e:(List.take n (List.drop off cs)).length=n
 ·rw[show Nat.beq (List.take n (List.drop off cs)).length n=true from Nat.beq_eq.mpr e]at h
  obtain rfl:=Option.some.inj h
  exact⟨rfl,e⟩
 ·rw[show Nat.beq (List.take n (List.drop off cs)).length n=false from Bool.eq_false_iff.mpr (fun k=>e (Nat.eq_of_beq_eq_true k))]at h
  cases h
omit [Io] in
theorem zx(r:Rw): ∀ k i,(r.cells k i).length=k
 |0,_=>rfl
 |k+1,i=>by show(r.cell i::r.cells k (i+1)).length=_;rw[List.length_cons,zx r k (i+1)]
omit [Io] in
theorem zy(r:Rw): ∀ (k i j:Nat),(r.cells k i)[j]? =if j<k then some (r.cell (i+j))else none
 |0,i,j=>by show([]:List AV)[j]? =_;simp
 |k+1,i,0=>by show(r.cell i::r.cells k (i+1))[0]? =_;simp
 |k+1,i,j+1=>by
  show(r.cell i::r.cells k (i+1))[j+1]? =_
  rw[List.getElem?_cons_succ,zy r k (i+1) j,show i+1+j=i+(j+1) by omega]
  by_cases h:j<k
  ·rw[if_pos h,if_pos (by omega)]
  ·rw[if_neg h,if_neg (by omega)]
omit [Io] in
theorem nR(r:Rw):r.toL.length=r.n:=zx r r.n 0
omit [Io] in
theorem tN(r:Rw)(j:Nat):r.toL[j]? =if j<r.n then some (r.cell j)else none:=by
 unfold Rw.toL;rw[zy,Nat.zero_add]
omit [Io] in
theorem qz: ∀ (l:List AV) (i:Nat) (t:Tr AV) (j:Nat),(sZ l i t).get j=if i<=j/\j<i+l.length then l[j - i]? else t.get j
 | [],i,t,j=>by show t.get j=_;rw[if_neg (by simp)]
 |a::l,i,t,j=>by
  show(sZ l (i+1) (t.set i (some a))).get j=_
  rw[qz l (i+1) _ j,Tr.qQ]
  simp only[List.length_cons]
  by_cases h:i=j
  ·subst h
   rw[if_neg (by omega),if_pos rfl,if_pos (by omega),Nat.sub_self]
   rfl
  ·by_cases h2:i+1<=j/\j<i+1+l.length
   ·rw[if_pos h2,if_pos (by omega),show j - i=(j - (i+1))+1 by omega,List.getElem?_cons_succ]
   ·rw[if_neg h2,if_neg (fun e=>h e.symm),if_neg (by omega)]
omit [Io] in
theorem zA{r:Rw}{i:Nat}{v:AV}(h:r.t.get i=some v):r.cell i=v:=by unfold Rw.cell;rw[h]
omit [Io] in
theorem EX{r r':Rw}{i:Nat}(h:r.t.get i=r'.t.get i)(hd:r.d=r'.d):r.cell i=r'.cell i:=by unfold Rw.cell;rw[h,hd]
omit [Io] in
theorem pR(l:List AV):(A5 l).toL=l:=by
 apply List.ext_getElem?
 intro j
 rw[tN]
 show(if j<len l then _ else _)=_
 rw[cQ]
 by_cases h:j<l.length
 ·rw[if_pos h,zA (v:=l[j])]
  ·rw[List.getElem?_eq_getElem h]
  ·show(sZ l 0 .nil).get j=_
   rw[qz,if_pos (by omega),Nat.sub_zero,List.getElem?_eq_getElem h]
 ·rw[if_neg h,List.getElem?_eq_none (by omega)]
omit [Io] in
theorem qS{r:Rw}{off k:Nat}{l:List AV}(h:r.ri off k=some l):l=(r.toL.drop off).take k/\l.length=k/\off+k<=r.n:=by
 unfold Rw.ri at h
 cases hb:Nat.ble (Nat.add off k) r.n with
 |false=>rw[hb]at h;cases h
 |true=>
  rw[hb]at h
  cases h
  have hle:off+k<=r.n:=Nat.le_of_ble_eq_true hb
  refine⟨?_,zx r k off,hle⟩
  apply List.ext_getElem?
  intro j
  rw[zy,List.getElem?_take,List.getElem?_drop,tN]
  by_cases h:j<k
  ·rw[if_pos h,if_pos h,if_pos (by omega)]
  ·rw[if_neg h,if_neg h]
omit [Io] in
theorem GR{r:Rw}{off k:Nat}{l:List AV}(h:r.ri off k=some l):A6 r.toL off k=some l:=by
 obtain⟨rfl,hl,_⟩:=qS h
 change (bif Nat.beq (len (tk k (dp off r.toL))) k then some (tk k (dp off r.toL))else none)=_
 rw[vJ,qR,cQ,hl,Nat.beq_refl]
 rfl
omit [Io] in
theorem BR{agg:Bool}{r:Rw}{off size:Nat}{v:AV}(h:xe agg r off size=some v):part agg r.toL off size=some v:=by
 unfold xe at h
 split at h
 ·cases h
 ·rename_i l e
  unfold part
  rw[GR e]
  exact h
omit [Io] in
theorem yd{r:Rw}{off:Nat}{l:List AV}(h:off+l.length<=r.n):(r.put off l).toL=put r.toL off l:=by
 rw[put_eq]
 apply List.ext_getElem?
 intro j
 rw[tN]
 show(if j<r.n then some ((r.put off l).cell j)else none)=_
 have hl:=nR r
 by_cases h1:j<off
 ·rw[if_pos (by omega),List.getElem?_append_left (by rw[List.length_take];omega),List.getElem?_take,if_pos h1,tN,if_pos (by omega)]
  congr 1
  refine EX ?_ rfl
  show(sZ l off r.t).get j=_
  rw[qz,if_neg (by omega)]
 ·rw[List.getElem?_append_right (by rw[List.length_take];omega),List.length_take,hl,Nat.min_eq_left (by omega)]
  by_cases h2:j<off+l.length
  ·rw[if_pos (by omega),List.getElem?_append_left (by omega),List.getElem?_eq_getElem (by omega)]
   congr 1
   refine zA ?_
   show(sZ l off r.t).get j=_
   rw[qz,if_pos (by omega),List.getElem?_eq_getElem (by omega)]
  ·rw[List.getElem?_append_right (by omega),List.getElem?_drop,show off+l.length+(j - off - l.length)=j by omega,tN]
   by_cases h3:j<r.n
   ·rw[if_pos h3,if_pos h3]
    congr 1
    refine EX ?_ rfl
    show(sZ l off r.t).get j=_
    rw[qz,if_neg (by omega)]
   ·rw[if_neg h3,if_neg h3]
omit [Io] in
theorem ye(r:Rw)(l:List AV):(r.app l).toL=r.toL++l:=by
 apply List.ext_getElem?
 intro j
 rw[tN]
 show(if j<Nat.add r.n (len l)then some ((r.app l).cell j)else none)=_
 rw[cQ]
 have hl:=nR r
 have ha:Nat.add r.n l.length=r.n+l.length:=rfl
 rw[ha]
 by_cases h1:j<r.n
 ·rw[if_pos (by omega),List.getElem?_append_left (by omega),tN,if_pos h1]
  congr 1
  refine EX ?_ rfl
  show(sZ l r.n r.t).get j=_
  rw[qz,if_neg (by omega)]
 ·rw[List.getElem?_append_right (by omega),hl]
  by_cases h2:j<r.n+l.length
  ·rw[if_pos h2,List.getElem?_eq_getElem (by omega)]
   congr 1
   refine zA ?_
   show(sZ l r.n r.t).get j=_
   rw[qz,if_pos (by omega),List.getElem?_eq_getElem (by omega)]
  ·rw[if_neg h2,List.getElem?_eq_none (by omega)]
omit [Io] in
theorem GS{r p:Rw}{off k:Nat}(h:r.sub off k=some p):p.toL=(r.toL.drop off).take k/\p.toL.length=k:=by
 unfold Rw.sub at h
 cases hb:Nat.ble (Nat.add off k) r.n with
 |false=>rw[hb]at h;cases h
 |true=>
  rw[hb]at h
  have hle:off+k<=r.n:=Nat.le_of_ble_eq_true hb
  cases h
  have hs:r.ri off k=some (r.cells k off):=by unfold Rw.ri;rw[hb];rfl
  obtain⟨e1,e2,_⟩:=qS hs
  cases h0:Nat.beq off 0 with
  |true=>
   obtain rfl:=Nat.eq_of_beq_eq_true h0
   have:(r.upto k).toL=r.cells k 0:=rfl
   rw[cond_true,this,<-e1]
   exact⟨rfl,e2⟩
  |false=>
   rw[cond_false,pR,<-e1]
   exact⟨rfl,e2⟩
omit [Io] in
theorem Ao(z:List AV): ∀ (c j:Nat),(oQ c z)[j]? =if j<c*z.length then z[j % z.length]? else none
 |0,j=>by show([]:List AV)[j]? =_;simp
 |c+1,j=>by
  show(app z (oQ c z))[j]? =_
  rw[mP]
  by_cases h:j<z.length
  ·rw[List.getElem?_append_left h,Nat.mod_eq_of_lt h,if_pos (by rw[Nat.add_mul];omega)]
  ·have ans:j % z.length=(j - z.length) % z.length:=Nat.mod_eq_sub_mod (by omega)
   rw[List.getElem?_append_right (by omega),Ao z c,ans,Nat.add_mul,Nat.one_mul]
   by_cases h2:j - z.length<c*z.length
   ·rw[if_pos h2,if_pos (by omega)]
   ·rw[if_neg h2,if_neg (by omega)]
omit [Io] in
theorem MH(c:Nat)(z:List AV):(⟨Nat.mul c (len z),z,.nil⟩:Rw).toL=oQ c z:=by
 apply List.ext_getElem?
 intro j
 rw[tN,Ao]
 show(if j<Nat.mul c (len z)then some (Rw.cell ⟨Nat.mul c (len z),z,.nil⟩ j)else none)=_
 rw[cQ]
 by_cases h:j<c*z.length
 ·have hm:Nat.mul c z.length=c*z.length:=rfl
  rw[hm,if_pos h,if_pos h]
  have hz:0<z.length:=by
   rcases Nat.eq_zero_or_pos z.length with e|e
   ·rw[e]at h;simp at h
   ·exact e
  have:j % z.length<z.length:=Nat.mod_lt _ hz
  show some (Option.rec (Option.rec pz (fun v=>v) (sa z (Nat.mod j (len z)))) (fun v=>v) ((Tr.nil:Tr AV).get j):AV)=_
  rw[Tr.get_nil,pn,cQ,show Nat.mod j z.length=j % z.length from rfl,List.getElem?_eq_getElem this]
 ·have hm:Nat.mul c z.length=c*z.length:=rfl
  rw[hm,if_neg h,if_neg h]
theorem cH.length{g w}: ∀ {l:List AV} {vs:List Value},cH g w l vs->vs.length=l.length
 | [],vs,h=>by simp only[cH]at h;subst h;rfl
 |a::l,vs,h=>by
  simp only[cH]at h
  obtain⟨v,l',rfl,_,r⟩:=h
  simp[cH.length r]
theorem cH.take{g w}: ∀ {l:List AV} {vs:List Value} (n:Nat),cH g w l vs->cH g w (l.take n) (vs.take n)
 | [],vs,n,h=>by simp only[cH]at h;subst h;simp[cH]
 |a::l,vs,0,h=>by simp[cH]
 |a::l,vs,n+1,h=>by
  simp only[cH]at h
  obtain⟨v,l',rfl,q,r⟩:=h
  simp only[List.take_succ_cons,cH]
  exact⟨v,_,rfl,q,cH.take n r⟩
theorem cH.drop{g w}: ∀ {l:List AV} {vs:List Value} (n:Nat),cH g w l vs->cH g w (l.drop n) (vs.drop n)
 | [],vs,n,h=>by simp only[cH]at h;subst h;simp[cH]
 |a::l,vs,0,h=>h
 |a::l,vs,n+1,h=>by
  simp only[cH]at h
  obtain⟨v,l',rfl,q,r⟩:=h
  exact cH.drop n r
theorem cH.append{g w}: ∀ {l r:List AV} {vs us:List Value},cH g w l vs->cH g w r us->cH g w (l++r) (vs++us)
 | [],r,vs,us,h,k=>by simp only[cH]at h;subst h;exact k
 |a::l,r,vs,us,h,k=>by
  simp only[cH]at h
  obtain⟨v,l',rfl,q,p⟩:=h
  simp only[List.cons_append,cH]
  exact⟨v,_,rfl,q,cH.append p k⟩
theorem cH.get{g w}: ∀ {l:List AV} {vs:List Value},cH g w l vs-> ∀ (i:Nat) (a:AV),l[i]? =some a-> ∃ v,vs[i]? =some v/\VR g w a v
 | [],vs,h,i,a,e=>by simp at e
 |b::l,vs,h,0,a,e=>by
  simp only[cH]at h
  obtain⟨v,l',rfl,q,p⟩:=h
  simp at e;subst e
  exact⟨v,rfl,q⟩
 |b::l,vs,h,i+1,a,e=>by
  simp only[cH]at h
  obtain⟨v,l',rfl,q,p⟩:=h
  simpa using cH.get p i a (by simpa using e)
theorem cH.repeat{g w}{l:List AV}{vs:List Value}(h:cH g w l vs): ∀ n,cH g w (oQ n l) (List.replicate n vs).flatten
 |0=>by show cH g w [] _;simp[cH]
 |n+1=>by
  show cH g w (app l (oQ n l)) _
  rw[mP,List.replicate_succ,List.flatten_cons]
  exact cH.append h (cH.repeat h n)
theorem cH.one{g w}{a:AV}{v:Value}(h:VR g w a v):cH g w [a] [v]:=by
 simp only[cH];exact⟨v,[],rfl,h,rfl⟩
theorem VR.cells{g w}{a:AV}{v:Value}(h:VR g w a v):cH g w a.cells v.cells.toList:=by
 cases a with
 |agg cs=>
  simp only[VR]at h
  obtain⟨vs,rfl,q⟩:=h
  exact q
 |sc x=>
  simp only[VR]at h
  obtain⟨rfl,h1⟩:=h
  have:v.cells= #[v]:=by cases v<;>first|rfl|(simp[Value.oneCell']at h1)
  rw[this]
  exact cH.one (by simp[VR,h1])
 |sym k s lo hi off=>have h':=h;simp only[VR]at h;obtain⟨rfl,_⟩:=h;exact cH.one h'
 |any=>
  have h1:=h
  simp only[VR]at h1
  have:v.cells= #[v]:=by cases v<;>first|rfl|(simp[Value.oneCell']at h1)
  rw[this]
  exact cH.one h
 |nW id off n sz=>
  have h':=h
  simp only[VR]at h
  rcases h with⟨_,a,rfl⟩|⟨b,s,cap,_,rfl,_⟩<;>exact cH.one h'
 |int k n=>have h':=h;simp only[VR]at h;subst h;exact cH.one h'
 |bool b=>have h':=h;simp only[VR]at h;subst h;exact cH.one h'
 |wZ cs=>have h':=h;simp only[VR]at h;obtain⟨_,rfl,_⟩:=h;exact cH.one h'
 |ref id off=>have h':=h;simp only[VR]at h;obtain⟨_,_,_,rfl⟩:=h;exact cH.one h'
 |rJ n cs=>have h':=h;simp only[VR]at h;obtain⟨_,_,rfl,_⟩:=h;exact cH.one h'
 |py cs=>have h':=h;simp only[VR]at h;obtain⟨_,_,_,rfl,_⟩:=h;exact cH.one h'
 |pO=>have h':=h;simp only[VR]at h;obtain⟨_,rfl⟩:=h;exact cH.one h'
 |ur=>have h':=h;simp only[VR]at h;obtain⟨_,rfl⟩:=h;exact cH.one h'
 |fn f cap=>have h':=h;simp only[VR]at h;obtain⟨_,rfl,_⟩:=h;exact cH.one h'
theorem VR.one{g w}{a:AV}{v:Value}(h:VR g w a v)(c:nA a=true):v.oneCell'=true:=by
 cases a with
 |agg cs=>cases c
 |wZ cs=>cases c
 |sc x=>simp only[VR]at h;obtain⟨rfl,h1⟩:=h;exact h1
 |sym k s lo hi off=>simp only[VR]at h;obtain⟨rfl,_⟩:=h;rfl
 |any=>simpa only[VR]using h
 |nW id off n sz=>
  simp only[VR]at h
  rcases h with⟨_,a,rfl⟩|⟨b,s,cap,_,rfl,_⟩<;>rfl
 |int k n=>simp only[VR]at h;subst h;rfl
 |bool b=>simp only[VR]at h;subst h;rfl
 |ref id off=>simp only[VR]at h;obtain⟨_,_,_,rfl⟩:=h;rfl
 |rJ n cs=>simp only[VR]at h;obtain⟨_,_,rfl,_⟩:=h;rfl
 |py cs=>simp only[VR]at h;obtain⟨_,_,_,rfl,_⟩:=h;rfl
 |pO=>simp only[VR]at h;obtain⟨_,rfl⟩:=h;rfl
 |ur=>simp only[VR]at h;obtain⟨_,rfl⟩:=h;rfl
 |fn f cap=>simp only[VR]at h;obtain⟨_,rfl,_⟩:=h;rfl
theorem cH.JN{g w}: ∀ {l:List AV} {vs:List Value},cH g w l vs->oD nA l=true-> ∀ v∈vs,v.oneCell'=true
 | [],vs,h,_,v,e=>by simp only[cH]at h;subst h;cases e
 |a::l,vs,h,c,v,e=>by
  simp only[cH]at h
  obtain⟨u,l',rfl,q,p⟩:=h
  rw[pQ]at c
  simp at c
  cases e with
  |head=>exact VR.one q c.1
  |tail _ e=>exact cH.JN p (by rw[pQ];simpa using c.2) v e
omit [Io] in
theorem nF.drop{w:World}{b o:Nat}{vs:List Value}(h:nF w b o vs)(n:Nat):nF w b (o+n) (vs.drop n):=by
 intro j v e
 rw[List.getElem?_drop]at e
 have:=h (n+j) v e
 rwa [Nat.add_assoc]
omit [Io] in
theorem nF.take{w:World}{b o:Nat}{vs:List Value}(h:nF w b o vs)(n:Nat):nF w b o (vs.take n):=by
 intro j v e
 rw[List.getElem?_take]at e
 split at e
 ·exact h j v e
 ·cases e
theorem HC.row{g w h}(H:HC g w h){id:Nat}{cs:Rw}(e:h.cw.get id=some cs){b s:Nat}(hm:g.m id=some (b,s)):
 ∃ C,∃ el:FT C,∃ vs,w.heap[b]? =some (.cells C el.el el.fz)/\ ¬ g.nQ b/\cH g w cs.toL vs/\(∀ (j:Nat) (v:Value),vs[j]? =some v->C[s+j]? =some v):=by
 obtain⟨b',s',C,el,vs,MG,hw,hi,hv,hc⟩:=H.cw id cs e
 rw[hm]at MG
 obtain⟨rfl,rfl⟩:=Prod.mk.inj (Option.some.inj MG)
 exact⟨C,el,vs,hw,hi,hv,hc⟩
theorem HR.row{g w h}(H:HR g w h){id:Nat}{cs:Rw}(e:h.cw.get id=some cs){b s:Nat}(hm:g.m id=some (b,s)):
 ∃ C,∃ el:FT C,∃ vs,w.heap[b]? =some (.cells C el.el el.fz)/\ ¬ g.nQ b/\cH g w cs.toL vs/\(∀ (j:Nat) (v:Value),vs[j]? =some v->C[s+j]? =some v):=H.toHC.row e hm
omit [Io] in
theorem pf{w:World}{b s:Nat}{C:Array Value}{el fz}{vs:List Value}(hw:w.heap[b]? =some (.cells C el fz))(hc: ∀ (j:Nat) (v:Value),vs[j]? =some v->C[s+j]? =some v):
 nF w b s vs:=by
 intro j v e
 simp[World.cell?,hw,hc j v e]
omit [Io] in
theorem qE{w:World}{b:Nat}{C:Array Value}{el fz}(hw:w.heap[b]? =some (.cells C el fz)):nE w b=C.size:=by
 simp[nE,hw]
def G.add(g:G)(id b:Nat):G:=⟨fun i=>if i=id then some (b,0)else g.m i,g.nQ⟩
theorem GU{g w h}(H:HR g w h){w':World}{cs:Rw}{C:Array Value}(el:FT C){vs:List Value}(h1:w'.os=w.os)(h2:w'.tape=w.tape)(h3:w'.output=w.output)(h4:w'.heap.size=w.heap.size+1)
 (hp: ∀ b,w'.heap[b]? =if b=w.heap.size then some (.cells C el.el el.fz)else w.heap[b]?)(hv:cH g w cs.toL vs)(hc: ∀ (j:Nat) (v:Value),vs[j]? =some v->C[j]? =some v):
 Ext g w h (g.add h.next w.heap.size) w' (nn h cs)/\HR (g.add h.next w.heap.size) w' (nn h cs):=by
 have hg: ∀ id,(nn h cs).cw.get id=if id=h.next then some cs else h.cw.get id:=fun id=>Tr.qQ _ _ _ _
 have xg: ∀ id x,g.m id=some x->id≠h.next:=by
  intro id x e he
  rw[H.fresh id (by omega)]at e;cases e
 have E:Ext g w h (g.add h.next w.heap.size) w' (nn h cs):=by
  refine⟨h1,h2,h3,by omega,Nat.le_succ _,?_,?_,?_,fun _ i=>i,fun _ i=>.inl i,?_⟩
  ·intro id x e
   simp only[G.add,if_neg (xg id x e)]
   exact e
  ·intro b hb _
   rw[hp,if_neg (by omega)]
  ·intro b
   unfold nE
   rw[hp]
   by_cases hb:b=w.heap.size
   ·subst hb;simp
   ·rw[if_neg hb];exact Nat.le_refl _
  ·rintro b ⟨id,cs',s,e,m⟩
   rw[hg]at e
   by_cases qd:id=h.next
   ·subst qd
    simp only[G.add,if_true]at m
    obtain⟨rfl,_⟩:=Prod.mk.inj (Option.some.inj m)
    exact .inr (Nat.le_refl _)
   ·rw[if_neg qd]at e
    simp only[G.add,if_neg qd]at m
    exact .inl ⟨id,cs',s,e,m⟩
 refine⟨E,?_,?_,?_,?_,s7.ext H E⟩
 ·intro id qd
  have av3:h.next+1<=id:=qd
  simp only[G.add]
  rw[if_neg (by omega)]
  exact H.fresh id (by omega)
 ·intro id cs' e
  rw[hg]at e
  by_cases qd:id=h.next
  ·subst qd
   rw[if_pos rfl]at e
   obtain rfl:=Option.some.inj e
   refine⟨w.heap.size,0,C,el,vs,by simp[G.add],by rw[hp,if_pos rfl],?_,cH.mono H E _ _ hv,by simpa using hc⟩
   intro i
   exact absurd (H.nQ _ i) (by omega)
  ·rw[if_neg qd]at e
   obtain⟨b,s,C',el',vs',hm,hw,hi,vA,hc'⟩:=H.cw id cs' e
   have hb:b<w.heap.size:=(Array.getElem?_eq_some_iff.1 hw).1
   exact⟨b,s,C',el',vs',by simp only[G.add,if_neg qd];exact hm,by rw[hp,if_neg (by omega)];exact hw,hi,cH.mono H E _ _ vA,hc'⟩
 ·intro id Am b s s' MI BS e1 e2 m1 m2
  rw[hg]at e1 e2
  have vG: ∀ id x b s,id≠h.next->h.cw.get id=some x->g.m id=some (b,s)->b≠w.heap.size:=by
   intro id x b s _ e m hb
   obtain⟨_,_,_,hw,_⟩:=H.row e m
   have:=(Array.getElem?_eq_some_iff.1 hw).1
   omega
  by_cases k1:id=h.next<;>by_cases k2:Am=h.next
  ·exact k1.trans k2.symm
  ·subst k1
   rw[if_neg k2]at e2
   simp only[G.add,if_true]at m1
   simp only[G.add,if_neg k2]at m2
   obtain⟨rfl,_⟩:=Prod.mk.inj (Option.some.inj m1)
   exact absurd rfl (vG Am _ _ _ k2 e2 m2)
  ·subst k2
   rw[if_neg k1]at e1
   simp only[G.add,if_true]at m2
   simp only[G.add,if_neg k1]at m1
   obtain⟨rfl,_⟩:=Prod.mk.inj (Option.some.inj m2)
   exact absurd rfl (vG id _ _ _ k1 e1 m1)
  ·rw[if_neg k1]at e1
   rw[if_neg k2]at e2
   simp only[G.add,if_neg k1]at m1
   simp only[G.add,if_neg k2]at m2
   exact H.inj id Am b s s' MI BS e1 e2 m1 m2
 ·intro b i
  have:=H.nQ b i
  omega
theorem A7{g w h}(H:HR g w h){cs:Rw}{C:Array Value}(el:TypeId){vs:List Value}(hv:cH g w cs.toL vs)(hc: ∀ (j:Nat) (v:Value),vs[j]? =some v->C[j]? =some v):
 Ext g w h (g.add h.next w.heap.size) (w.alloc (.cells C el)) (nn h cs)/\HR (g.add h.next w.heap.size) (w.alloc (.cells C el)) (nn h cs):=
 GU H (FT.nw C el) rfl rfl rfl (by show(w.heap.push _).size=_;rw[Array.size_push]) (fun b=>by
  show(w.heap.push _)[b]? =_
  rw[Array.getElem?_push];rfl) hv hc
theorem EY{g:G}{w h C el n c sz}(hn:n<=c)(hc:c*sz<=C.size):
 VR (g.add h (World.heap w).size) (w.alloc (.cells C el)) (.nW h 0 n sz) (.slice (some ⟨w.heap.size,0,none⟩) n c):=by
 simp only[VR]
 refine .inr ⟨w.heap.size,0,c,by simp[G.add],rfl,hn,?_⟩
 have:(w.alloc (.cells C el)).heap[w.heap.size]? =some (.cells C el):=by
  show(w.heap.push _)[w.heap.size]? =_
  simp
 rw[qE this]
 omega
end Go.Ab
