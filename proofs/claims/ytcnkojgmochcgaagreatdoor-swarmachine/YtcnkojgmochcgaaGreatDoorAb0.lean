import Derived.Calls
import Derived.Laws.Sem
import Derived.Laws.AppendOwn
import Derived.Laws.MakeOwn
import Derived.Laws.CopyRow
noncomputable section
namespace Go.Ab
def pZ{α:Type}(c:Bool)(a b:α):α:=Bool.rec b a c
inductive Tr (α:Type) where
 |nil
 |node (l:Tr α) (v:Option α) (r:Tr α)
def Tr.get{α:Type}(t:Tr α):Nat->Option α:=
 Tr.rec (fun _=>none) (fun _ v _ gl gr n=>Bool.rec (Bool.rec (gr (Nat.sub (Nat.div n 2) 1)) (gl (Nat.div n 2)) (Nat.beq (Nat.mod n 2) 1)) v (Nat.beq n 0)) t
def Tr.lf{α:Type}(t:Tr α):Tr α:=Tr.rec .nil (fun l _ _ _ _=>l) t
def Tr.rt{α:Type}(t:Tr α):Tr α:=Tr.rec .nil (fun _ _ r _ _=>r) t
def Tr.hd{α:Type}(t:Tr α):Option α:=Tr.rec none (fun _ v _ _ _=>v) t
def Tr.Ko{α:Type}(f:Nat):Tr α->Nat->Option α->Tr α:=
 Nat.rec (fun t _ _=>t) (fun _ go t n x=>
  Bool.rec (Bool.rec (.node t.lf t.hd (go t.rt (Nat.sub (Nat.div n 2) 1) x)) (.node (go t.lf (Nat.div n 2) x) t.hd t.rt) (Nat.beq (Nat.mod n 2) 1))
   (.node t.lf x t.rt) (Nat.beq n 0)) f
def Tr.set{α:Type}(t:Tr α)(n:Nat)(x:Option α):Tr α:=Tr.Ko (Nat.succ n) t n x
structure F8(α:Type) where
 a0:α
 a1:α
 a2:α
 a3:α
 a4:α
 a5:α
 a6:α
 a7:α
def F8.J'{α:Type}(f:F8 α):Nat->α
 |0=>f.a0|1=>f.a1|2=>f.a2|3=>f.a3|4=>f.a4|5=>f.a5|6=>f.a6| _=>f.a7
def F8.qK{α:Type}(f:F8 α)(x:α):Nat->F8 α
 |0=>⟨x,f.a1,f.a2,f.a3,f.a4,f.a5,f.a6,f.a7⟩
 |1=>⟨f.a0,x,f.a2,f.a3,f.a4,f.a5,f.a6,f.a7⟩
 |2=>⟨f.a0,f.a1,x,f.a3,f.a4,f.a5,f.a6,f.a7⟩
 |3=>⟨f.a0,f.a1,f.a2,x,f.a4,f.a5,f.a6,f.a7⟩
 |4=>⟨f.a0,f.a1,f.a2,f.a3,x,f.a5,f.a6,f.a7⟩
 |5=>⟨f.a0,f.a1,f.a2,f.a3,f.a4,x,f.a6,f.a7⟩
 |6=>⟨f.a0,f.a1,f.a2,f.a3,f.a4,f.a5,x,f.a7⟩
 | _=>⟨f.a0,f.a1,f.a2,f.a3,f.a4,f.a5,f.a6,x⟩
def F8.all{α:Type}(x:α):F8 α:=⟨x,x,x,x,x,x,x,x⟩
inductive SV where
 |var (i:Nat)
 |Kp (i:Nat)
 |umod (i c:Nat)
 |lin (i:Nat) (m:Int)
 |VI (i p m:Nat)
 |cl (i:Nat) (l h:Int)
 |pr (i:Nat) (l h:Int) (j:Nat)
 |ad (i j:Nat) (l h:Int)
 |Ka (n:Int)
 |sm (l:List Nat)
 |ix (l:List Nat) (a:SV) (o:Int)
 |tm (f:Nat) (k k':IntKind) (a:SV) (oa:Int) (b:SV) (ob:Int)
 |bits (l:List Nat)
inductive AV where
 |int (k:IntKind) (n:Int)
 |bool (b:Bool)
 |sc (v:Value)
 |agg (cs:List AV)
 |xJ (vs:List AV)
 |ref (id off:Nat)
 |oG (id off len sz:Nat)
 |sU (len:Nat) (cs:List AV)
 |pP (cs:List AV)
 |qi
 |uR
 |fn (f:FuncId) (cap:List AV)
 |sym (k:IntKind) (s:SV) (lo hi off:Int)
 |any
 deriving Inhabited
abbrev Tm:=F8 (F8 (F8 (Option AV)))
def Tm.at(t:Tm)(i:Nat):Option AV:=((t.J' (i / 64)).J' (i / 8 % 8)).J' (i % 8)
def Tm.put(t:Tm)(i:Nat)(v:Option AV):Tm:=t.qK ((t.J' (i / 64)).qK (((t.J' (i / 64)).J' (i / 8 % 8)).qK v (i % 8)) (i / 8 % 8)) (i / 64)
def Tm.none:Tm:=F8.all (F8.all (F8.all Option.none))
structure Rw where
 n:Nat
 d:List AV
 t:Tr AV
structure Hp where
 next:Nat
 cw:Tr Rw
inductive Ro where
 |bad
 |ok (v:AV) (h:Hp)
inductive Rt where
 |bad
 |ok (t:Tm) (h:Hp)
inductive Rc where
 |bad
 |norm (t:Tm) (h:Hp)
 |ret (t:Tm) (h:Hp)
 |exit (i:Nat) (t:Tm) (h:Hp)
abbrev oI:=Tm->Option AV
abbrev oH:=Tm->Hp->Ro
abbrev ud:=Tm->Hp->Rt
abbrev BV:=Tm->Hp->Rc
abbrev nv:=FuncId->List AV->Hp->Ro
def app{α:Type}(l r:List α):List α:=List.rec r (fun a _ ih=>a::ih) l
def len{α:Type}(l:List α):Nat:=List.rec (fun n=>n) (fun _ _ ih n=>ih (Nat.add n 1)) l (0:Nat)
def tk{α:Type}(n:Nat)(l:List α):List α:=
 List.rec (fun _=>[]) (fun a _ ih n=>Bool.rec (a::ih (Nat.sub n 1)) [] (Nat.beq n 0)) l n
def dp{α:Type}(n:Nat)(l:List α):List α:=
 List.rec (fun _=>[]) (fun a r ih n=>Bool.rec (ih (Nat.sub n 1)) (a::r) (Nat.beq n 0)) l n
def sI{α:Type}(l:List α)(n:Nat):Option α:=
 List.rec (fun _=>none) (fun a _ ih n=>Bool.rec (ih (Nat.sub n 1)) (some a) (Nat.beq n 0)) l n
def nU{α:Type}(p:α->Bool)(l:List α):Bool:=List.rec true (fun a _ ih=>bif p a then ih else false) l
def leaf:Value->Option AV
 | .int k n=>some (.int k n)
 | .bool b=>some (.bool b)
 | .string s=>some (.sc (.string s))
 | .pointer none=>some (.sc (.pointer none))
 | .slice none 0 0=>some (.sc (.slice none 0 0))
 | .map none=>some (.sc (.map none))
 | .nilFunc=>some (.sc .nilFunc)
 | .nilIface=>some (.sc .nilIface)
 | _=>none
def leaves(l:List Value):Option (List AV):=
 List.rec (some []) (fun v _ ih=>match leaf v with
  |some a=>match ih with
   |some r=>some (a::r)
   |none=>none
  |none=>none) l
def Ks:Value->Option AV
 | .agg cs=>match leaves cs.toList with|some l=>some (.agg l)|none=>none
 | .tuple cs=>match leaves cs.toList with|some l=>some (.xJ l)|none=>none
 |v=>leaf v
def AV.cells:AV->List AV
 | .agg cs=>cs
 |v=>[v]
def nT:AV->Bool
 | .agg _| .xJ _=>false
 | _=>true
def pQ:AV:=.xJ []
def isNil:AV->Bool
 | .sc (.slice none n c)=>Nat.beq n 0&&Nat.beq c 0
 | _=>false
def yc:AV->Bool
 | .uR=>true
 |a=>isNil a
def VJ:AV->Bool
 | .uR=>true
 | .qi=>true
 | .oG _ _ n _=>Nat.beq n 0
 | .sU n _=>Nat.beq n 0
 |a=>isNil a
def Aq(a:AV):AV:=bif yc a then .qi else a
def FR(a:AV):Option Bool:=bif isNil a then some true else match a with
 | .uR=>some false
 | .oG _ _ _ _=>some false
 | .sU n _=>bif Nat.beq n 0 then none else some false
 | _=>none
def Rw.cell(r:Rw)(i:Nat):AV:=Option.rec (Option.rec pQ (fun v=>v) (sI r.d (Nat.mod i (len r.d)))) (fun v=>v) (r.t.get i)
def Rw.cells(r:Rw)(k:Nat):Nat->List AV:=Nat.rec (fun _=>[]) (fun _ ih i=>r.cell i::ih (Nat.add i 1)) k
def Rw.toL(r:Rw):List AV:=r.cells r.n 0
def tC(l:List AV):Nat->Tr AV->Tr AV:=List.rec (fun _ t=>t) (fun a _ ih i t=>ih (Nat.add i 1) (t.set i (some a))) l
def BW(l:List AV):Rw:=⟨len l,[],tC l 0 .nil⟩
def Rw.rH(r:Rw)(off k:Nat):Option (List AV):=bif Nat.ble (Nat.add off k) r.n then some (r.cells k off)else none
def Rw.put(r:Rw)(off:Nat)(l:List AV):Rw:=⟨r.n,r.d,tC l off r.t⟩
def Rw.app(r:Rw)(l:List AV):Rw:=⟨Nat.add r.n (len l),r.d,tC l r.n r.t⟩
def Rw.upto(r:Rw)(m:Nat):Rw:=⟨m,r.d,r.t⟩
def Rw.sub(r:Rw)(off k:Nat):Option Rw:=bif Nat.ble (Nat.add off k) r.n then some (bif Nat.beq off 0 then r.upto k else BW (r.cells k off))else none
def oT(i:Nat):oI:=fun t=>Tm.at t i
def wO(x:oI):oI:=fun t=>Option.rec none (fun a=>some (Aq a)) (x t)
abbrev agT:=AV->Tm->Tm
def sT(i:Nat):agT:=fun v t=>Tm.put t i (some v)
def oC(v:AV):oI:=fun _=>some v
def oX:oI:=fun _=>none
def Ar(l:List oI)(t:Tm):Option (List AV):=
 List.rec (some []) (fun o _ ih=>Option.rec none (fun v=>Option.rec none (fun vs=>some (v::vs)) ih) (o t)) l
def nJ(h:Hp)(cs:Rw):Hp:=⟨Nat.add h.next 1,h.cw.set h.next (some cs)⟩
def qO(h:Hp)(id:Nat)(cs:Option Rw):Hp:=⟨h.next,h.cw.set id cs⟩
def na(k:IntKind)(n:Int):Int:=
 match k with
 | .u8=>Int.emod n 256| .u16=>Int.emod n 65536| .u32=>Int.emod n 4294967296| .u64=>Int.emod n 18446744073709551616
 | .i8=>Int.sub (Int.emod (Int.add n 128) 256) 128| .i16=>Int.sub (Int.emod (Int.add n 32768) 65536) 32768
 | .i32=>Int.sub (Int.emod (Int.add n 2147483648) 4294967296) 2147483648
 | .i64=>Int.sub (Int.emod (Int.add n 9223372036854775808) 18446744073709551616) 9223372036854775808
def qL:IntKind->IntKind->Bool
 | .i8,.i8| .i16,.i16| .i32,.i32| .i64,.i64| .u8,.u8| .u16,.u16| .u32,.u32| .u64,.u64=>true
 | _,_=>false
def sD:Int->Int->Bool
 | .ofNat a,.ofNat b=>Nat.blt a b
 | .ofNat _,.negSucc _=>false
 | .negSucc _,.ofNat _=>true
 | .negSucc a,.negSucc b=>Nat.blt b a
def eqI:Int->Int->Bool
 | .ofNat a,.ofNat b=>Nat.beq a b
 | .negSucc a,.negSucc b=>Nat.beq a b
 | _,_=>false
def rT(s:Sem Value):Option Value:=
 match s with
 | .pure v=>some v
 | _=>none
def ue(f:IntKind->Int->Int->Option AV)(x y:AV):Option AV:=
 match x,y with
 | .int k a,.int k' b=>bif qL k k' then f k a b else none
 | _,_=>none
def acv:AV->AV->Option AV:=ue fun k a b=>some (.int k (na k (Int.add a b)))
def acw:AV->AV->Option AV:=ue fun k a b=>some (.int k (na k (Int.sub a b)))
def acx:AV->AV->Option AV:=ue fun k a b=>some (.int k (na k (Int.mul a b)))
def VY:AV->AV->Option AV:=ue fun k a b=>bif eqI b 0 then none else some (.int k (na k (Int.tdiv a b)))
def VZ:AV->AV->Option AV:=ue fun k a b=>bif eqI b 0 then none else some (.int k (Int.tmod a b))
def acy:AV->AV->Option AV:=ue fun _ a b=>some (.bool (sD a b))
def acz:AV->AV->Option AV:=ue fun _ a b=>some (.bool (!(sD b a)))
def acA:AV->AV->Option AV:=ue fun _ a b=>some (.bool (sD b a))
def acB:AV->AV->Option AV:=ue fun _ a b=>some (.bool (!(sD a b)))
def Ai:IntKind->Nat
 | .i8=>128| .i16=>32768| .i32=>2147483648| .i64=>9223372036854775808
 | .u8=>256| .u16=>65536| .u32=>4294967296| .u64=>18446744073709551616
def xO:IntKind->Nat
 | .i8| .u8=>8| .i16| .u16=>16| .i32| .u32=>32| .i64| .u64=>64
def Cn(s:Option Value):Option AV:=match s with
 |some v=>Ks v
 |none=>none
def Ey(op:BinOp)(f:Nat->Nat->Nat):AV->AV->Option AV:=ue fun k a b=>
 match a,b with
 | .ofNat a,.ofNat b=>bif Nat.blt a (Ai k)&&Nat.blt b (Ai k)then some (.int k (.ofNat (f a b)))else Cn (rT (Op.intBits op k (.ofNat a) (.ofNat b)))
 |a,b=>Cn (rT (Op.intBits op k a b))
def V0:AV->AV->Option AV:=Ey .and Nat.land
def bOr:AV->AV->Option AV:=Ey .or Nat.lor
def V1:AV->AV->Option AV:=Ey .xor Nat.xor
def s0:AV->AV->Option AV:=ue fun k a b=>Cn (rT (Op.intBits .andNot k a b))
def s5(a b:Nat):Nat:=bif Nat.ble a b then a else b
def Kt(x y:AV):Option AV:=
 match x,y with
 | .int k a,.int _ (.ofNat n)=>some (.int k (na k (Int.mul a (.ofNat (Nat.pow 2 (s5 n (xO k)))))))
 | _,_=>none
def Ku(x y:AV):Option AV:=
 match x,y with
 | .int k a,.int _ (.ofNat n)=>some (.int k (Int.fdiv a (.ofNat (Nat.pow 2 (s5 n (xO k))))))
 | _,_=>none
def eqStr(a b:ByteArray):Bool:=a.toList == b.toList
def Qj(neg:Bool):AV->AV->Option AV:=ue fun _ a b=>some (.bool (bif neg then !(eqI a b)else eqI a b))
def FU(neg:Bool)(x y:AV):Option AV:=
 match x,y with
 | .bool a,.bool b=>some (.bool (bif neg then xor a b else !(xor a b)))
 | _,_=>none
def Co(neg:Bool)(x y:AV):Option AV:=
 match x,y with
 | .sc (.string a),.sc (.string b)=>some (.bool (bif neg then !(eqStr a b)else eqStr a b))
 | _,_=>none
def DU(neg:Bool)(x y:AV):Option AV:=
 match x,y with
 | .ref _ _,.sc (.pointer none)| .pP _,.sc (.pointer none)| .sc (.pointer none),.ref _ _| .sc (.pointer none),.pP _=>some (.bool neg)
 | .sc (.pointer none),.sc (.pointer none)=>some (.bool (!neg))
 | _,_=>none
def Cp(neg:Bool)(x y:AV):Option AV:=bif isNil y then Option.rec none (fun b=>some (.bool (bif neg then !b else b))) (FR x)else none
def loK:IntKind->Int
 | .i8=> -128| .i16=> -32768| .i32=> -2147483648| .i64=> -9223372036854775808| _=>0
def hiK:IntKind->Int
 | .i8=>127| .i16=>32767| .i32=>2147483647| .i64=>9223372036854775807
 | .u8=>255| .u16=>65535| .u32=>4294967295| .u64=>18446744073709551615
def V2:IntKind->Int
 | .i8| .u8=>256| .i16| .u16=>65536| .i32| .u32=>4294967296| .i64| .u64=>18446744073709551616
def As:List Nat->List Nat->Bool
 | [],[]=>true
 |a::l,b::m=>bif Nat.beq a b then As l m else false
 | _,_=>false
def uS:SV->SV->Bool
 | .var i,.var j=>Nat.beq i j
 | .Kp i,.Kp j=>Nat.beq i j
 | .umod i c,.umod j d=>Nat.beq i j&&Nat.beq c d
 | .lin i m,.lin j n=>Nat.beq i j&&eqI m n
 | .VI i p m,.VI j q n=>Nat.beq i j&&(Nat.beq p q&&Nat.beq m n)
 | .bits l,.bits m=>As l m
 | .Ka m,.Ka n=>eqI m n
 | .sm l,.sm m=>As l m
 | .cl i l h,.cl i' l' h'=>Nat.beq i i'&&(eqI l l'&&eqI h h')
 | .pr i l h j,.pr i' l' h' j'=>Nat.beq i i'&&(eqI l l'&&(eqI h h'&&Nat.beq j j'))
 | .ad i j l h,.ad i' j' l' h'=>Nat.beq i i'&&(Nat.beq j j'&&(eqI l l'&&eqI h h'))
 | _,_=>false
def Kv(a:SV):SV->Bool:=
 SV.rec (motive:=fun _=>SV->Bool) (fun i=>uS (.var i)) (fun i=>uS (.Kp i)) (fun i c=>uS (.umod i c)) (fun i m=>uS (.lin i m)) (fun i p m=>uS (.VI i p m))
  (fun i l h=>uS (.cl i l h)) (fun i l h j=>uS (.pr i l h j)) (fun i j l h=>uS (.ad i j l h)) (fun n=>uS (.Ka n)) (fun l=>uS (.sm l))
  (fun l _ o yd y=>match y with
   | .ix l2 a2 o2=>As l l2&&(eqI o o2&&yd a2)
   | _=>false)
  (fun f k k' _ oa _ ob yd Cq y=>match y with
   | .tm f2 k2 k2' a2 oa2 b2 ob2=>Nat.beq f f2&&(qL k k2&&(qL k' k2'&&(eqI oa oa2&&(eqI ob ob2&&(yd a2&&Cq b2)))))
   | _=>false) (fun l=>uS (.bits l)) a
def acD(k:IntKind)(lo hi off:Int):Bool:= !(sD (Int.add lo off) (loK k))&& !(sD (hiK k) (Int.add hi off))
def DV(k:IntKind)(s:SV)(lo hi off:Int):Option AV:=
 bif acD k lo hi off then some (.sym k s lo hi off)else
 bif acD k lo hi (Int.add off (V2 k))then some (.sym k s lo hi (Int.add off (V2 k)))else
 bif acD k lo hi (Int.sub off (V2 k))then some (.sym k s lo hi (Int.sub off (V2 k)))else none
def avi(x y:AV):Option AV:=match x,y with
 | .sym k s lo hi o,.int k' c=>bif qL k k' then DV k s lo hi (Int.add o c)else none
 | .int k' c,.sym k s lo hi o=>bif qL k k' then DV k s lo hi (Int.add o c)else none
 | _,_=>none
def agU(b:List Nat)(a:List Nat):Option (List Nat):=List.rec (bif As [] b then some []else none) (fun x r ih=>bif As (x::r) b then some []else match ih with
 |some m=>some (x::m)
 |none=>none) a
def avj(x y:AV):Option AV:=match x,y with
 | .sym k s lo hi o,.int k' c=>bif qL k k' then DV k s lo hi (Int.sub o c)else none
 | .sym k s lo hi o,.sym k' s' nr vk o'=>bif qL k k'&&Kv s s' then some (.int k (na k (Int.sub o o')))else bif qL k k' then(match s,s' with
  | .ad i j l h,.var i'=>bif Nat.beq i i'&& !(sD h l)then DV k (.cl j l h) l h (Int.sub o o')else none
  | .sm a,.sm b=>(match agU b a with
   |some m=>DV k (.sm m) (Int.sub lo vk) (Int.sub hi nr) (Int.sub o o')
   |none=>none)
  | .sm a,.var i=>(match agU [i] a with
   |some m=>DV k (.sm m) (Int.sub lo vk) (Int.sub hi nr) (Int.sub o o')
   |none=>none)
  | _,_=>none)else none
 | _,_=>none
def Qk(_ _:AV):Option Bool:=none
def V3(w:Nat):Nat->List Nat:=Nat.rec (fun _=>[]) (fun _ ih n=>Nat.mod n 2::ih (Nat.div n 2)) w
def L'(w:Nat):Nat->List Nat:=Nat.rec (fun _=>[]) (fun _ ih b=>b::ih (Nat.add b 1)) w
def HN(n:Nat):List Nat:=Nat.rec [] (fun _ ih=>(0:Nat)::ih) n
def hiB(l:List Nat):Nat:=List.rec (0:Nat) (fun c _ ih=>Nat.add (Nat.mul 2 ih) (Bool.rec 1 0 (Nat.beq c 0))) l
def loB(l:List Nat):Nat:=List.rec (0:Nat) (fun c _ ih=>Nat.add (Nat.mul 2 ih) (Bool.rec 0 1 (Nat.beq c 1))) l
def amU(l:List Nat):Bool:=List.rec true (fun c _ ih=>Bool.rec false ih (Nat.blt c 2)) l
def mkB(k:IntKind)(l:List Nat):Option AV:=
 bif sD (hiK k) (.ofNat (hiB l))then none else
 bif amU l then some (.int k (.ofNat (hiB l)))else some (.sym k (.bits l) (.ofNat (loB l)) (.ofNat (hiB l)) 0)
def toB(x:AV):Option (IntKind×List Nat):=match x with
 | .int k (.ofNat n)=>bif Nat.blt n (Ai k)then some (k,V3 64 n)else none
 | .sym k (.bits l) _ (.ofNat hi) (.ofNat o)=>bif Nat.beq o 0&&Nat.blt hi (Ai k)then some (k,l)else none
 | .sym k (.var i) (.ofNat _) (.ofNat hi) (.ofNat o)=>
  bif Nat.beq o 0&&(Nat.blt hi (Ai k)&&(Nat.blt hi (Nat.pow 2 (Nat.add (Nat.log2 hi) 1))&&Nat.ble (Nat.add (Nat.log2 hi) 1) 64))then
   some (k,app (L' (Nat.add (Nat.log2 hi) 1) (Nat.add 2 (Nat.mul 64 i))) (HN (Nat.sub 63 (Nat.log2 hi))))else none
 | .sym k (.Kp i) _ (.ofNat hi) (.ofNat o)=>bif Nat.beq o 0&&Nat.blt hi (Ai k)then some (k,L' 64 (Nat.add 2 (Nat.mul 64 i)))else none
 | _=>none
def amV(f:Nat->Nat->Option Nat)(l:List Nat):List Nat->Option (List Nat):=
 List.rec (fun m=>List.rec (some []) (fun _ _ _=>none) m) (fun a _ ih m=>List.rec none (fun b m _=>
  match f a b with
  |some c=>match ih m with
   |some r=>some (c::r)
   |none=>none
  |none=>none) m) l
def amW(a b:Nat):Option Nat:=bif Nat.beq a 0||Nat.beq b 0 then some 0 else bif Nat.beq a 1 then some b else bif Nat.beq b 1||Nat.beq a b then some a else none
def or1(a b:Nat):Option Nat:=bif Nat.beq a 1||Nat.beq b 1 then some 1 else bif Nat.beq a 0 then some b else bif Nat.beq b 0||Nat.beq a b then some a else none
def amX(a b:Nat):Option Nat:=bif Nat.beq a b then some 0 else bif Nat.beq a 0 then some b else bif Nat.beq b 0 then some a else none
def zB(f:Nat->Nat->Option Nat)(x y:AV):Option AV:=match toB x,toB y with
 |some (k,l),some (k',m)=>bif qL k k' then(match amV f l m with
  |some r=>mkB k r
  |none=>none)else none
 | _,_=>none
def agV:IntKind->Bool
 | .u8| .u16| .u32| .u64=>true
 | _=>false
def avm:AV->AV->Option AV:=zB amW
def sOr:AV->AV->Option AV:=zB or1
def avn:AV->AV->Option AV:=zB amX
def avo(x y:AV):Option AV:=match toB x with
 |some (k,l)=>match y with
  | .int _ (.ofNat n)=>bif agV k then mkB k (app (tk (xO k) (app (HN (s5 n (xO k))) l)) (HN (Nat.sub 64 (xO k))))else none
  | _=>none
 |none=>none
def avp(x y:AV):Option AV:=match toB x with
 |some (k,l)=>match y with
  | .int _ (.ofNat n)=>mkB k (app (dp (s5 n (xO k)) l) (HN (s5 n (xO k))))
  | _=>none
 |none=>none
def agW(k:IntKind)(x:AV):Option AV:=match toB x with
 |some (_,l)=>bif agV k then mkB k (app (tk (xO k) l) (HN (Nat.sub 64 (xO k))))else none
 |none=>none
def eqB(x y:AV):Option Bool:=match toB x,toB y with
 |some (k,l),some (k',m)=>bif qL k k'&&As l m then some true else none
 | _,_=>none
def amY(x y:AV):Option Bool:=match x,y with
 | .sym k _ lo hi o,.int k' c=>bif qL k k' then(bif sD c (Int.add lo o)||sD (Int.add hi o) c then some false else bif eqI (Int.add lo o) c&&eqI (Int.add hi o) c then some true else none)else none
 | .int k' c,.sym k _ lo hi o=>bif qL k k' then(bif sD c (Int.add lo o)||sD (Int.add hi o) c then some false else bif eqI (Int.add lo o) c&&eqI (Int.add hi o) c then some true else none)else none
 | .sym k s _ _ o,.sym k' s' _ _ o'=>bif qL k k'&&Kv s s' then some (eqI o o')else none
 | _,_=>none
def avq(x y:AV):Option Bool:=Option.rec (eqB x y) (fun b=>some b) (amY x y)
def eqL(x y:AV):Option Bool:=match Qk x y with
 |some true=>some false
 | _=>match Qk y x with
  |some true=>some false
  | _=>none
def V4(_ _:AV):Option Bool:=none
def avr(x y:AV):Option AV:=Option.rec none (fun b=>some (.bool b)) (Qk x y)
def avs(x y:AV):Option AV:=Option.rec none (fun b=>some (.bool b)) (Qk y x)
def avt(x y:AV):Option AV:=Option.rec none (fun b=>some (.bool (!b))) (Qk y x)
def avu(x y:AV):Option AV:=Option.rec none (fun b=>some (.bool (!b))) (Qk x y)
def sEq(neg:Bool)(x y:AV):Option AV:=Option.rec none (fun b=>some (.bool (bif neg then !b else b))) (V4 x y)
def avv(x y:AV):Option AV:=match x,y with
 | .sym k s lo hi o,.int k' (.ofNat c)=>bif qL k k'&&(Nat.blt 0 c&& !(sD (Int.add lo o) 0))then
   (bif eqI (Int.fdiv (Int.add lo o) (.ofNat c)) (Int.fdiv (Int.add hi o) (.ofNat c))then some (.sym k s lo hi (Int.sub o (Int.mul (Int.fdiv (Int.add lo o) (.ofNat c)) (.ofNat c))))else
   match k,s,o with
   | .u64,.Kp i,.ofNat 0=>some (.sym .u64 (.umod i c) 0 (Int.sub (.ofNat c) 1) 0)
   |k,.var i,.ofNat 0=>some (.sym k (.VI i 1 c) 0 (Int.sub (.ofNat c) 1) 0)
   |k,.VI i p m,.ofNat 0=>bif Nat.beq m 0 then some (.sym k (.VI i p c) 0 (Int.sub (.ofNat c) 1) 0)else none
   |k,.pr i l h _,.ofNat 0=>bif Nat.beq c 4294967296&&(!(sD l 0)&&(sD h 4294967296&& !(sD h l)))then some (bif eqI l h then .int k l else .sym k (.cl i l h) l h 0)else none
   |k,.lin _ (.ofNat m),.ofNat o=>bif Nat.beq (Nat.mod m c) 0 then some (.int k (.ofNat (Nat.mod o c)))else none
   | _,_,_=>none)else none
 | _,_=>none
def avw(x y:AV):Option AV:=match x,y with
 | .sym k s lo hi o,.int k' (.ofNat c)=>bif qL k k'&&(Nat.blt 0 c&& !(sD (Int.add lo o) 0))then
   (bif eqI (Int.fdiv (Int.add lo o) (.ofNat c)) (Int.fdiv (Int.add hi o) (.ofNat c))then some (.int k (na k (Int.fdiv (Int.add lo o) (.ofNat c))))else
   match s,o with
   | .var i,.ofNat 0=>DV k (.VI i c 0) (Int.fdiv lo (.ofNat c)) (Int.fdiv hi (.ofNat c)) 0
   | .VI i p m,.ofNat 0=>bif Nat.beq m 0 then DV k (.VI i (Nat.mul p c) 0) (Int.fdiv lo (.ofNat c)) (Int.fdiv hi (.ofNat c)) 0 else none
   | _,_=>none)else none
 | _,_=>none
def agX(k:IntKind)(i:Nat)(lo hi o:Int)(c:Nat):Option AV:=bif Nat.blt 0 c then DV k (.lin i (.ofNat c)) (Int.mul (.ofNat c) lo) (Int.mul (.ofNat c) hi) (Int.mul (.ofNat c) o)else none
def avx(x y:AV):Option AV:=match x,y with
 | .sym k (.var i) lo hi o,.int k' (.ofNat c)=>bif qL k k' then agX k i lo hi o c else none
 | .int k' (.ofNat c),.sym k (.var i) lo hi o=>bif qL k k' then agX k i lo hi o c else none
 | _,_=>none
def agY(k k':IntKind)(s:SV)(o:Int)(x:AV):Option AV:=match k,k',s,o with
 | .u64,.i64,.var i,0=>some (.sym .u64 (.Kp i) 0 18446744073709551615 0)
 | .u32,_,.pr i l h _,.ofNat 0=>bif !(sD l 0)&&(sD h 4294967296&& !(sD h l))then some (bif eqI l h then .int .u32 l else .sym .u32 (.cl i l h) l h 0)else none
 | _,_,_,_=>agW k x
def avy(k:IntKind)(x:AV):Option AV:=match x with
 | .sym k' s lo hi o=>Option.rec (agY k k' s o x) (fun r=>some r) (DV k s lo hi o)
 | _=>none
def Bs(f s:AV->AV->Option AV):AV->AV->Option AV:=fun x y=>Option.rec (s x y) (fun v=>some v) (f x y)
def agZ(f s:AV->Option AV):AV->Option AV:=fun x=>Option.rec (s x) (fun v=>some v) (f x)
def Ma:AV->Option AV
 | .int k n=>some (.int k (na k (Int.sub 0 n)))
 | _=>none
def Ql(k:IntKind):AV->Option AV
 | .int _ n=>some (.int k (na k n))
 | _=>none
def opF(f:Nat)(k:IntKind)(m n:Int):Option AV:=match f with
 |0=>acv (.int k m) (.int k n)
 |1=>acw (.int k m) (.int k n)
 |2=>acx (.int k m) (.int k n)
 |3=>VY (.int k m) (.int k n)
 |4=>VZ (.int k m) (.int k n)
 |5=>V0 (.int k m) (.int k n)
 |6=>bOr (.int k m) (.int k n)
 |7=>V1 (.int k m) (.int k n)
 |8=>Kt (.int k m) (.int .u64 n)
 |9=>Ku (.int k m) (.int .u64 n)
 |10=>Ma (.int k m)
 | _=>Ql k (.int k m)
def tmF(f:Nat)(k:IntKind)(m n:Int):Int:=match opF f k m n with
 |some (.int _ r)=>r
 | _=>0
def atS(x:AV):Option (IntKind×SV×Int×Int×Int):=match x with
 | .int k n=>some (k,.Ka n,0,n,n)
 | .sym k s lo hi o=>some (k,s,o,Int.add lo o,Int.add hi o)
 | _=>none
def inK(k:IntKind)(l u:Int):Bool:= !(sD l (loK k))&& !(sD (hiK k) u)
def tS(f:Nat)(ok:IntKind->IntKind->Int->Int->Int->Int->Bool)(x y:AV):Option AV:=match atS x with
 |some (k,s,o,l,u)=>match atS y with
  |some (k',s',o',l',u')=>bif ok k k' l u l' u' then some (.sym k (.tm f k k' s o s' o') (loK k) (hiK k) 0)else none
  |none=>none
 |none=>none
def t1(f:Nat)(k:IntKind)(x:AV):Option AV:=match atS x with
 |some (k',s,o,_,_)=>some (.sym k (.tm f k k' s o (.Ka 0) 0) (loK k) (hiK k) 0)
 |none=>none
def avz(k k':IntKind)(_ _ _ _:Int):Bool:=qL k k'
def avA(k k':IntKind)(l u l' u':Int):Bool:=qL k k'&&(inK k l u&&(sD 0 l'||sD u' 0))
def atD(_ _:IntKind)(_ _ l' _:Int):Bool:= !(sD l' 0)
def atE(k _:IntKind)(l u l' _:Int):Bool:=inK k l u&& !(sD l' 0)
def uK:IntKind->IntKind
 | .i8=>.u8| .i16=>.u16| .i32=>.u32| .i64=>.u64|k=>k
def avB(k:IntKind)(x:AV):Option AV:=Option.rec (t1 11 k x) (fun r=>t1 11 k r) (agW (uK k) x)
def HE:AV->AV->Option AV:=fun _ _=>none
def tD:AV->AV->Option AV:=Bs acv HE
def r6:AV->AV->Option AV:=Bs acw HE
def ra:AV->AV->Option AV:=Bs VZ HE
def vM:AV->AV->Option AV:=Bs VY HE
def uT:AV->AV->Option AV:=Bs acx HE
def r7:AV->AV->Option AV:=Bs acy HE
def ui:AV->AV->Option AV:=Bs acz HE
def qy:AV->AV->Option AV:=Bs acA HE
def qz:AV->AV->Option AV:=Bs acB HE
def sV:AV->AV->Option AV:=Bs V0 HE
def HO:AV->AV->Option AV:=Bs bOr HE
def A5:AV->AV->Option AV:=Bs V1 HE
def Ez:AV->AV->Option AV:=Bs Kt HE
def EA:AV->AV->Option AV:=Bs Ku HE
def A6(neg:Bool):AV->AV->Option AV:=Bs (Qj neg) HE
def eq1(i:Bool)(x y:AV):Option Bool:=bif i then
 (match x,y with
 | .int k a,.int k' b=>bif qL k k' then some (eqI a b)else none
 | _,_=>V4 x y)else
 (match x,y with
 | .bool a,.bool b=>some (!(xor a b))
 | _,_=>none)
def DW(l:List Bool):List AV->List AV->Option Bool:=
 List.rec (fun _ _=>some true) (fun i _ ih xs ys=>match xs with
  | []=>none
  |x::xs=>match ys with
   | []=>none
   |y::ys=>match eq1 i x y with
    |none=>none
    |some c=>Bool.rec (some false) (ih xs ys) c) l
def Cr(neg:Bool)(l:List Bool)(x y:AV):Option AV:=match x with
 | .agg xs=>match y with
  | .agg ys=>match DW l xs ys with
   |some c=>some (.bool (bif neg then !c else c))
   |none=>none
  | _=>none
 | _=>none
def Oh:AV->Option AV
 | .bool b=>some (.bool (!b))
 | _=>none
def Oi(x:AV):Option AV:=Option.rec (match atS x with|some (k,_,_,_,_)=>t1 10 k x|none=>none) (fun r=>some r) (Ma x)
def HP:AV->Option AV
 | .int k n=>Cn (rT (Op.unary .xor (.int k n)))
 | _=>none
def put(cs:List AV)(off:Nat)(new:List AV):List AV:=app (tk off cs) (app new (dp (Nat.add off (len new)) cs))
def BX(cs:List AV)(off n:Nat):Option (List AV):=
 match tk n (dp off cs)with
 |l=>bif Nat.beq (len l) n then some l else none
def part(agg:Bool)(cs:List AV)(off size:Nat):Option AV:=
 match BX cs off size with
 |none=>none
 |some l=>bif agg then some (.agg l)else match l with
  | [c]=>some c
  | _=>none
def xP(agg:Bool)(r:Rw)(off size:Nat):Option AV:=
 match r.rH off size with
 |none=>none
 |some l=>bif agg then some (.agg l)else match l with
  | [c]=>some c
  | _=>none
def Cs(l:List (Nat×Nat×AV)):List AV->Option (List AV):=
 List.rec (fun cells=>some cells) (fun p _ ih cells=>
  bif Nat.beq (len p.2.2.cells) p.2.1&&Nat.ble (Nat.add p.1 p.2.1) (len cells)then ih (put cells p.1 p.2.2.cells)else none) l
def yR(size:Nat)(l:List (Nat×AV)):Nat->Option (List AV):=
 List.rec (fun _=>some []) (fun p _ ih i=>
  bif Nat.beq p.1 i&&Nat.beq (len p.2.cells) size then(match ih (Nat.add i 1)with|some r=>some (app p.2.cells r)|none=>none)else none) l
def uy(l:List (Nat×oI))(t:Tm):Option (List (Nat×AV)):=
 List.rec (some []) (fun p _ ih=>match p.2 t with
  |some v=>match ih with
   |some vs=>some ((p.1,v)::vs)
   |none=>none
  |none=>none) l
def uz(l:List (Nat×Nat×oI))(t:Tm):Option (List (Nat×Nat×AV)):=
 List.rec (some []) (fun p _ ih=>match p.2.2 t with
  |some v=>match ih with
   |some vs=>some ((p.1,p.2.1,v)::vs)
   |none=>none
  |none=>none) l
def pg(n:Nat)(z:List AV):List AV:=Nat.rec [] (fun _ ih=>app z ih) n
def scale(size:Nat)(l:List (Nat×AV)):List (Nat×Nat×AV):=
 List.rec [] (fun p _ ih=>(Nat.mul p.1 size,size,p.2)::ih) l
def xi(n size:Nat)(zero:List AV)(l:List (Nat×AV)):Option (List AV):=
 match bif Nat.beq (len l) n then yR size l 0 else none with
 |some cs=>some cs
 |none=>Cs (scale size l) (pg n zero)
def Ct(h:Hp)(size:Nat)(agg:Bool)(a:AV):Option AV:=
 match a with
 | .ref id off=>match h.cw.get id with
  |some cs=>xP agg cs off size
  |none=>none
 | .pP cs=>part agg cs 0 size
 | _=>none
def nV(h:Hp):AV->Option (Nat×List AV)
 | .qi=>some (0,[])
 | .sU n cs=>some (n,cs)
 | .oG id off n sz=>match h.cw.get id with
  |some cs=>match cs.rH off (Nat.mul n sz)with
   |some l=>some (n,l)
   |none=>none
  |none=>none
 | _=>none
def qA(x:oI):oH:=fun t h=>Option.rec Ro.bad (fun v=>Ro.ok v h) (x t)
def vN(c a b:oI):oH:=fun t h=>match c t with
 |some (.bool c)=>bif c then qA a t h else qA b t h
 | _=>.bad
def Kw(cs:List AV):oH:=fun _ h=>.ok (.ref h.next 0) (nJ h (BW cs))
def DX(x:oI):oH:=fun t h=>match x t with
 |some v=>.ok (.ref h.next 0) (nJ h (BW v.cells))
 |none=>.bad
def uA(zero:List AV)(parts:List (Nat×Nat×oI)):oH:=fun t h=>match uz parts t with
 |some vs=>match Cs vs zero with
  |some cs=>.ok (.agg cs) h
  |none=>.bad
 |none=>.bad
def Cu(n size:Nat)(zero:List AV)(parts:List (Nat×oI)):oH:=fun t h=>match uy parts t with
 |some vs=>bif Nat.beq n 0 then(match vs with| []=>.ok .uR h| _=>.bad)else match xi n size zero vs with
  |some cs=>.ok (.oG h.next 0 n size) (nJ h (BW cs))
  |none=>.bad
 |none=>.bad
def r8(size:Nat)(agg:Bool)(a:oI):oH:=fun t h=>match a t with
 |some a=>match Ct h size agg a with
  |some v=>.ok v h
  |none=>.bad
 |none=>.bad
def tE(size:Nat)(a x:oI):oH:=fun t h=>match a t with
 |some (.ref id off)=>match x t with
  |some v=>match h.cw.get id with
   |some cs=>bif Nat.beq (len v.cells) size&&(Nat.ble (Nat.add off (len v.cells)) cs.n&&nU nT v.cells)then
    .ok pQ (qO h id (some (cs.put off v.cells)))
    else .bad
   |none=>.bad
  |none=>.bad
 | _=>.bad
def Cv(x:oI):oH:=fun t h=>match x t with
 |some (.ref i o)=>.ok (.ref i o) h
 |some (.pP cs)=>.ok (.pP cs) h
 |some (.fn f c)=>.ok (.fn f c) h
 | _=>.bad
def wa(f:AV->AV->Option AV)(x y:oI):oH:=fun t h=>
 Option.rec Ro.bad (fun a=>Option.rec Ro.bad (fun b=>Option.rec Ro.bad (fun v=>Ro.ok v h) (f a b)) (y t)) (x t)
def HQ(f:AV->Option AV)(x:oI):oH:=fun t h=>Option.rec Ro.bad (fun a=>Option.rec Ro.bad (fun v=>Ro.ok v h) (f a)) (x t)
def Cw(k:IntKind):AV->Option AV:=agZ (Ql k) fun _=>none
def vm(x:oI):oH:=fun t h=>match x t with
 |some (.sc (.string s))=>.ok (.oG h.next 0 s.size 1) (nJ h (BW (s.data.toList.map fun b=>.int .u8 (.ofNat b.toNat))))
 | _=>.bad
def Oj(f:FuncId)(cap:List oI):oH:=fun t h=>match Ar cap t with
 |some vs=>.ok (.fn f vs) h
 |none=>.bad
def uj(size bytes:Nat)(zero:List AV)(l c:oI):oH:=fun t h=>match l t with
 |some (.int _ (.ofNat l))=>match c t with
  |some (.int _ (.ofNat c))=>bif Nat.ble l c&&Nat.ble (Nat.mul c bytes) 70368744177664 then
    bif Nat.beq c 0 then .ok .uR h else .ok (.oG h.next 0 l size) (nJ h ⟨Nat.mul c (len zero),zero,.nil⟩)
   else .bad
  | _=>.bad
 | _=>.bad
def uB(o:Option oI)(t:Tm)(d:Nat):Option Nat:=match o with
 |none=>some d
 |some o=>match o t with
  |some (.int _ (.ofNat n))=>some n
  | _=>none
def bounds(lo hi:Option oI)(t:Tm)(n:Nat):Option (Nat×Nat):=match uB lo t 0 with
 |some l=>match uB hi t n with
  |some h=>bif Nat.ble l h&&Nat.ble h n then some (l,h)else none
  |none=>none
 |none=>none
def rb(x:oI)(lo hi:Option oI):oH:=fun t h=>match x t with
 |some (.sc (.string s))=>match bounds lo hi t s.size with
  |some (l,e)=>.ok (.sc (.string (s.extract l e))) h
  |none=>.bad
 | _=>.bad
def uC(size:Nat)(x:oI)(lo hi:Option oI):oH:=fun t h=>match x t with
 |some .qi=>match bounds lo hi t 0 with
  |some _=>.ok .qi h
  |none=>.bad
 |some (.oG id off n sz)=>match bounds lo hi t n with
  |some (l,e)=>bif Nat.beq sz size then .ok (.oG id (Nat.add off (Nat.mul l size)) (Nat.sub e l) sz) h else .bad
  |none=>.bad
 |some (.sU n cs)=>match bounds lo hi t n with
  |some (l,e)=>.ok (.sU (Nat.sub e l) (tk (Nat.mul (Nat.sub e l) size) (dp (Nat.mul l size) cs))) h
  |none=>.bad
 | _=>.bad
def o6(size:Nat)(x:oI)(lo hi:Option oI):oH:=fun t h=>match x t with
 |some a=>bif yc a then(match bounds lo hi t 0 with
  |some _=>.ok a h
  |none=>.bad)else uC size x lo hi t h
 |none=>.bad
def Cy(x:oI):oH:=fun t h=>match x t with
 |some .qi=>.ok (.int .i64 0) h
 | _=>.bad
def qj(n size:Nat)(x:oI)(lo hi:Option oI):oH:=fun t h=>match x t with
 |some (.ref id off)=>match bounds lo hi t n with
  |some (l,e)=>match h.cw.get id with
   |some cs=>bif Nat.ble (Nat.add off (Nat.mul n size)) cs.n then .ok (.oG id (Nat.add off (Nat.mul l size)) (Nat.sub e l) size) h else .bad
   |none=>.bad
  |none=>.bad
 | _=>.bad
def nW(off:Nat)(x:oI):oH:=fun t h=>match x t with
 |some (.ref id o)=>.ok (.ref id (Nat.add o off)) h
 |some (.pP cs)=>.ok (.pP (dp off cs)) h
 | _=>.bad
def uD(off size:Nat)(agg:Bool)(x:oI):oH:=fun t h=>match x t with
 |some (.agg cs)=>match part agg cs off size with
  |some v=>.ok v h
  |none=>.bad
 | _=>.bad
def yS(size:Nat)(x i:oI):oH:=fun t h=>match i t with
 |some (.int _ (.ofNat i))=>match x t with
  |some (.oG id off n sz)=>bif Nat.blt i n&&Nat.beq sz size then .ok (.ref id (Nat.add off (Nat.mul i size))) h else .bad
  |some (.sU n cs)=>bif Nat.blt i n then .ok (.pP (dp (Nat.mul i size) cs)) h else .bad
  | _=>.bad
 | _=>.bad
def Bt(n size:Nat)(x i:oI):oH:=fun t h=>match i t with
 |some (.int _ (.ofNat i))=>match x t with
  |some (.ref id off)=>bif Nat.blt i n then .ok (.ref id (Nat.add off (Nat.mul i size))) h else .bad
  |some (.pP cs)=>bif Nat.blt i n then .ok (.pP (dp (Nat.mul i size) cs)) h else .bad
  | _=>.bad
 | _=>.bad
def sJ(n size:Nat)(agg:Bool)(x i:oI):oH:=fun t h=>match x t with
 |some (.agg cs)=>match i t with
  |some (.int _ (.ofNat i))=>bif Nat.blt i n then(match part agg cs (Nat.mul i size) size with
   |some v=>.ok v h
   |none=>.bad)else .bad
  | _=>.bad
 | _=>.bad
def rh(x i:oI):oH:=fun t h=>match x t with
 |some (.sc (.string s))=>match i t with
  |some (.int _ (.ofNat i))=>match sI s.data.toList i with
   |some b=>.ok (.int .u8 b.toNat) h
   |none=>.bad
  |some (.sym _ a lo hi o)=>bif !(sD (Int.add lo o) 0)&&sD (Int.add hi o) (.ofNat s.size)then .ok (.sym .u8 (.ix (s.data.toList.map UInt8.toNat) a o) 0 255 0) h else .bad
  | _=>.bad
 | _=>.bad
def qa(x:oI)(i:Nat):oH:=fun t h=>match x t with
 |some (.xJ vs)=>match sI vs i with
  |some v=>.ok v h
  |none=>.bad
 | _=>.bad
def vP(x:oI):oH:=fun t h=>match x t with
 |some (.sc (.string s))=>.ok (.int .i64 (.ofNat s.size)) h
 | _=>.bad
def Cz(x:oI):oH:=fun t h=>match x t with
 |some (.oG _ _ n _)=>.ok (.int .i64 (.ofNat n)) h
 |some (.sU n _)=>.ok (.int .i64 (.ofNat n)) h
 |some .qi=>.ok (.int .i64 0) h
 | _=>.bad
def yU(size bytes:Nat)(h:Hp)(s:AV)(n:Nat)(new:List AV):Ro:=match s with
 | .qi=>bif Nat.beq n 0 then .ok .qi h else
   bif Nat.ble (Nat.mul n bytes) 70368744177664&&(nU nT new&&(Nat.beq (len new) (Nat.mul n size)&&Nat.ble n 70368744177664))then .ok (.oG h.next 0 n size) (nJ h (BW new))else .bad
 | .oG id off ln sz=>bif Nat.beq n 0 then .ok (.oG id off ln sz) h else match h.cw.get id with
  |none=>.bad
  |some cs=>match cs.sub off (Nat.mul ln sz)with
   |none=>.bad
   |some pre=>bif Nat.ble (Nat.mul (Nat.add ln n) bytes) 70368744177664&&(Nat.beq sz size&&(nU nT new&&(Nat.beq (len new) (Nat.mul n size)&&Nat.ble (Nat.add ln n) 70368744177664)))then
    .ok (.oG h.next 0 (Nat.add ln n) sz) (nJ (qO h id none) (pre.app new))else .bad
 | .sU ln cs=>bif Nat.beq n 0 then .ok (.sU ln cs) h else .bad
 | _=>.bad
def vn(size bytes:Nat)(s x:oI):oH:=fun t h=>match s t with
 |some s=>match x t with
  |some x=>match nV h x with
   |none=>.bad
   |some (n,new)=>yU size bytes h s n new
  |none=>.bad
 |none=>.bad
def o7(size bytes:Nat)(s x:oI):oH:=fun t h=>match s t with
 |some a=>match x t with
  |some b=>bif yc a&&VJ b then .ok a h else vn size bytes (wO s) (wO x) t h
  |none=>.bad
 |none=>.bad
def uk(size bytes:Nat)(zero:List AV)(s x:oI):oH:=fun t h=>match s t with
 |some a=>match x t with
  |some (.int _ (.ofNat n))=>bif yc a&&Nat.beq n 0 then .ok a h else yU size bytes h (Aq a) n (pg n zero)
  | _=>.bad
 |none=>.bad
def yV(bytes:Nat)(s x:oI):oH:=fun t h=>match s t with
 |some a=>match x t with
  |some (.sc (.string b))=>bif yc a&&Nat.beq b.size 0 then .ok a h else yU 1 bytes h (Aq a) b.size (b.data.toList.map fun b=>.int .u8 (.ofNat b.toNat))
  | _=>.bad
 |none=>.bad
def xQ(x:oI):oH:=fun t h=>match x t with
 |some (.oG id off n sz)=>bif Nat.beq n 0 then .bad else(match h.cw.get id with
  |some _=>.ok (.oG id off n sz) h
  |none=>.bad)
 | _=>.bad
def sW(size:Nat)(d s:oI):oH:=fun t h=>match d t with
 |some .qi=>match s t with
  |some x=>match nV h x with
   |some _=>.ok (.int .i64 (.ofNat 0)) h
   |none=>.bad
  |none=>.bad
 |some (.oG id off n sz)=>match s t with
  |some x=>match nV h x with
   |some (m,src)=>bif Nat.beq (s5 m n) 0 then .ok (.int .i64 (.ofNat 0)) h else match h.cw.get id with
    |some cs=>bif (Nat.blt 0 size&&(Nat.beq sz size&&(Nat.beq (len src) (Nat.mul m size)&&nU nT src)))&&Nat.ble (Nat.add off (Nat.mul (s5 m n) size)) cs.n then
     .ok (.int .i64 (.ofNat (s5 m n))) (qO h id (some (cs.put off (tk (Nat.mul (s5 m n) size) src))))else .bad
    |none=>.bad
   |none=>.bad
  |none=>.bad
 | _=>.bad
def CA(x y z:oI):oH:=fun t h=>match y t with
 |some (.int _ (.ofNat y))=>match z t with
  |some (.int _ (.ofNat z))=>bif Nat.beq y 0&&Nat.beq z 0 then(match x t with
   |some .qi=>.ok .qi h
   |some (.oG _ _ _ _)=>.ok .qi h
   |some (.sU _ _)=>.ok .qi h
   | _=>.bad)else .bad
  | _=>.bad
 | _=>.bad
def DY(x y:oI):oH:=wa (Bs (ue fun k a b=>some (.int k (bif sD b a then b else a))) fun x y=>Option.rec none (fun c=>some (bif c then y else x)) (Qk y x)) x y
def DZ(x y:oI):oH:=wa (Bs (ue fun k a b=>some (.int k (bif sD a b then b else a))) fun x y=>Option.rec none (fun c=>some (bif c then y else x)) (Qk x y)) x y
def Ol:oH:=fun _ h=>.ok .any h
def cY:oH:=fun _ _=>.bad
def A7(call:nv)(f:FuncId)(args:List oI):oH:=fun t h=>match Ar args t with
 |some vs=>call f vs h
 |none=>.bad
def wj(call:nv)(f:oI)(args:List oI):oH:=fun t h=>match f t with
 |some (.fn k cap)=>match Ar args t with
  |some vs=>call k (app vs cap) h
  |none=>.bad
 | _=>.bad
def fi:ud:=fun t h=>.ok t h
def st(s:agT)(f:oH)(k:ud):ud:=fun t h=>Ro.rec Rt.bad (fun v h=>k (s v t) h) (f t h)
def sn(f:oH)(k:ud):ud:=fun t h=>Ro.rec Rt.bad (fun _ h=>k t h) (f t h)
def cRg(r:ud):BV:=fun t h=>Rt.rec Rc.bad (fun t h=>Rc.norm t h) (r t h)
def wg:BV:=fun t h=>.norm t h
def nH(a b:BV):BV:=fun t h=>Rc.rec Rc.bad (fun t h=>b t h) (fun t h=>Rc.ret t h) (fun i t h=>Rc.exit i t h) (a t h)
def VK(c:oI)(a b:BV):BV:=fun t h=>match c t with
 |some (.bool c)=>Bool.rec (b t h) (a t h) c
 | _=>.bad
def yP(id:Nat)(b:BV):BV:=fun t h=>
 Rc.rec Rc.bad (fun t h=>Rc.norm t h) (fun t h=>Rc.ret t h) (fun i t h=>Bool.rec (Rc.exit i t h) (Rc.norm t h) (Nat.beq i id)) (b t h)
def V5(n:Nat)(b:BV):BV:=
 Nat.rec (fun _ _=>.bad) (fun _ ih t h=>Rc.rec Rc.bad (fun t h=>ih t h) (fun t h=>Rc.ret t h) (fun i t h=>Rc.exit i t h) (b t h)) n
def Qm(i:Nat):BV:=fun t h=>.exit i t h
def og:BV:=fun t h=>.ret t h
def HS:BV:=fun _ _=>.bad
inductive RV where
 |tmp (i:Nat)
 |cell (i size:Nat) (agg:Bool)
def Qn(t:Tm)(h:Hp):RV->Option AV
 | .tmp i=>Tm.at t i
 | .cell i size agg=>match Tm.at t i with
  |some a=>Ct h size agg a
  |none=>none
def EB(t:Tm)(h:Hp)(l:List RV):Option (List AV):=
 List.rec (some []) (fun r _ ih=>match Qn t h r with
  |some v=>match ih with
   |some vs=>some (v::vs)
   |none=>none
  |none=>none) l
structure Fb where
 ntmps:Nat
 res:List RV
 body:nv->Nat->BV
def vo(l:List AV):Nat->Tm->Tm:=
 List.rec (fun _ t=>t) (fun v _ ih i t=>ih (Nat.add i 1) (Tm.put t i (some v))) l
def fin(res:List RV)(t:Tm)(h:Hp):Ro:=
 match EB t h res with
 |some [v]=>.ok v h
 |some vs=>.ok (.xJ vs) h
 |none=>.bad
end Go.Ab


noncomputable section
namespace Go.Ab
def EC:List Bool->Nat
 | []=>0
 |b::l=>b.toNat+2*EC l
theorem oN: ∀ (l:List Bool) (i:Nat),(EC l).testBit i=l.getD i false
 | [],i=>by simp[EC]
 |b::l,0=>by
  simp only[EC,Nat.testBit_zero]
  cases b<;>simp<;>omega
 |b::l,i+1=>by
  have h:(b.toNat+2*EC l) / 2=EC l:=by cases b<;>simp<;>omega
  rw[EC,Nat.testBit_succ,h,oN l i]
  simp
theorem al3{l m:List Bool}(h: ∀ i,l.getD i false=m.getD i false):EC l=EC m:=
 Nat.eq_of_testBit_eq fun i=>by rw[oN,oN,h]
theorem al4(f:Bool->Bool->Bool)(g:Nat->Nat->Nat)(hg: ∀ a b i,(g a b).testBit i=f (a.testBit i) (b.testBit i))(hf:f false false=false)
 (l m:List Bool)(h:l.length=m.length):EC (List.zipWith f l m)=g (EC l) (EC m):=by
 apply Nat.eq_of_testBit_eq
 intro i
 rw[oN,hg,oN,oN]
 by_cases hi:i<l.length
 ·simp[List.getD,List.getElem?_zipWith,hi,h▸hi]
 ·simp[List.getD,List.getElem?_zipWith,List.getElem?_eq_none (Nat.le_of_not_lt hi),List.getElem?_eq_none (Nat.le_of_not_lt (h▸hi)),hf]
theorem ag0(l:List Bool)(n:Nat):EC (l.take n)=EC l % 2 ^ n:=by
 apply Nat.eq_of_testBit_eq
 intro i
 rw[oN,Nat.testBit_mod_two_pow,oN]
 by_cases h:i<n<;>simp[List.getD,List.getElem?_take,h]
theorem ag1(l:List Bool)(n:Nat):EC (l.drop n)=EC l / 2 ^ n:=by
 apply Nat.eq_of_testBit_eq
 intro i
 rw[oN,<-Nat.shiftRight_eq_div_pow,Nat.testBit_shiftRight,oN]
 simp[List.getD,List.getElem?_drop]
theorem al5(l:List Bool)(n:Nat):EC (List.replicate n false++l)=EC l*2 ^ n:=by
 induction n with
 |zero=>simp
 |succ n ih=>
  simp only[List.replicate_succ,List.cons_append,EC,ih,Nat.pow_succ]
  simp;rw[Nat.mul_comm 2,Nat.mul_assoc]
end Go.Ab

noncomputable section
namespace Go.Ab
class Io where
 io:Nat->Int
 tb:List (Nat×List Value)
variable [Io]
def am0(c:Nat):Bool:=match c with
 |0=>false
 |1=>true
 |c+2=>(Io.io (c / 64) % 18446744073709551616).toNat.testBit (c % 64)
def Qo(l h x:Int):Int:=if x<l then l else if h<x then h else x
def qb:SV->Int
 | .var i=>Io.io i
 | .Kp i=>Io.io i % 18446744073709551616
 | .umod i c=>(Io.io i % 18446744073709551616) % (c:Int)
 | .lin i m=>m*Io.io i
 | .VI i p m=>(Io.io i / (p:Int)) % (m:Int)
 | .bits l=>(EC (l.map am0):Int)
 | .cl i l h=>Qo l h (Io.io i)
 | .pr i l h j=>Qo l h (Io.io i)+4294967296*Io.io j
 | .ad i j l h=>Io.io i+Qo l h (Io.io j)
 | .Ka n=>n
 | .sm l=>(l.map Io.io).foldr (· + ·) 0
 | .ix l a o=>(l.getD (qb a+o).toNat 0:Nat)
 | .tm f k _ a oa b ob=>tmF f k (qb a+oa) (qb b+ob)
structure G where
 m:Nat->Option (Nat×Nat)
 oz:Nat->Prop
def nY(w:World)(b:Nat):Nat:=match w.heap[b]? with
 |some (.cells c _ _)=>c.size
 | _=>0
def oc(w:World)(b o:Nat)(vs:List Value):Prop:= ∀ j v,vs[j]? =some v->w.cell? ⟨b,o+j,none⟩=some v
mutual
def VR(g:G)(w:World):AV->Value->Prop
 | .int k n,v=>v=.int k n
 | .bool b,v=>v=.bool b
 | .sc x,v=>v=x/\x.oneCell'=true
 | .agg cs,v=> ∃ vs,v=.agg vs/\cJ g w cs vs.toList
 | .xJ cs,v=> ∃ vs,v=.tuple vs/\cJ g w cs vs.toList
 | .ref id off,v=> ∃ b s,g.m id=some (b,s)/\v=.pointer (some ⟨b,s+off,none⟩)
 | .oG id off n sz,v=>(n=0/\ ∃ a,v=.slice (some a) 0 0)∨
   ∃ b s cap,g.m id=some (b,s)/\v=.slice (some ⟨b,s+off,none⟩) n cap/\n<=cap/\s+off+cap*sz<=nY w b
 | .sU n cs,v=> ∃ a cap,v=.slice a n cap/\n<=cap/\
   ((n=0/\cs=[])∨ ∃ b o vs,a=some ⟨b,o,none⟩/\g.oz b/\oc w b o vs/\cJ g w cs vs)
 | .pP cs,v=> ∃ b o vs,v=.pointer (some ⟨b,o,none⟩)/\g.oz b/\oc w b o vs/\cJ g w cs vs
 | .qi,v=> ∃ a,v=.slice a 0 0
 | .uR,v=> ∃ a,v=.slice (some a) 0 0
 | .fn f cap,v=> ∃ vs,v=.func (.func f) #[] vs/\cJ g w cap vs.toList
 | .sym k s lo hi off,v=>v=.int k (qb s+off)/\lo<=qb s/\qb s<=hi
 | .any,v=>v.oneCell'=true
def cJ(g:G)(w:World):List AV->List Value->Prop
 | [],l=>l=[]
 |a::r,l=> ∃ v l',l=v::l'/\VR g w a v/\cJ g w r l'
end
def qt(g:G)(h:Hp)(b:Nat):Prop:= ∃ id cs s,h.cw.get id=some cs/\g.m id=some (b,s)
structure FT(C:Array Value) where
 el:TypeId
 fz:Nat×Nat
 ok':fz.1=fz.2∨C.size<=fz.1
omit [Io] in
theorem FT.ok{C:Array Value}(e:FT C): ∀ i,i<C.size-> ¬ (e.fz.1<=i/\i<e.fz.2):=fun i hi h=>by have:=e.ok';omega
def FT.nw(C:Array Value)(el:TypeId):FT C:=⟨el,(0,0),.inl rfl⟩
def FT.to{C C':Array Value}(e:FT C)(h:C'.size=C.size):FT C':=⟨e.el,e.fz,by have:=e.ok';omega⟩
def tF(g:G)(w:World):Prop:= ∀ p,p∈Io.tb->g.oz p.1/\oc w p.1 0 p.2
structure HR(g:G)(w:World)(h:Hp):Prop where
 fresh: ∀ id,h.next<=id->g.m id=none
 cw: ∀ id cs,h.cw.get id=some cs-> ∃ b s C,∃ el:FT C,∃ vs,g.m id=some (b,s)/\w.heap[b]? =some (.cells C el.el el.fz)/\ ¬ g.oz b/\cJ g w cs.toL vs/\(∀ j v,vs[j]? =some v->C[s+j]? =some v)
 inj: ∀ id Bu b s s' cs cs',h.cw.get id=some cs->h.cw.get Bu=some cs'->g.m id=some (b,s)->g.m Bu=some (b,s')->id=Bu
 oz: ∀ b,g.oz b->b<w.heap.size
 tb:tF g w
structure HC(g:G)(w:World)(h:Hp):Prop where
 cw: ∀ id cs,h.cw.get id=some cs-> ∃ b s C,∃ el:FT C,∃ vs,g.m id=some (b,s)/\w.heap[b]? =some (.cells C el.el el.fz)/\ ¬ g.oz b/\cJ g w cs.toL vs/\(∀ j v,vs[j]? =some v->C[s+j]? =some v)
 oz: ∀ b,g.oz b->b<w.heap.size
theorem HR.toHC{g w h}(H:HR g w h):HC g w h:=⟨H.cw,H.oz⟩
structure Ext(g:G)(w:World)(h:Hp)(g':G)(w':World)(h':Hp):Prop where
 os:w'.os=w.os
 tape:w'.tape=w.tape
 output:w'.output=w.output
 size:w.heap.size<=w'.heap.size
 next:h.next<=h'.next
 m: ∀ id x,g.m id=some x->g'.m id=some x
 wh: ∀ b,b<w.heap.size-> ¬ qt g h b->w'.heap[b]? =w.heap[b]?
 rows: ∀ b,nY w b<=nY w' b
 oz: ∀ b,g.oz b->g'.oz b
 Om: ∀ b,g'.oz b->g.oz b∨qt g h b∨w.heap.size<=b
 uU: ∀ b,qt g' h' b->qt g h b∨w.heap.size<=b
omit [Io] in
theorem Ext.refl(g:G)(w:World)(h:Hp):Ext g w h g w h:=
 ⟨rfl,rfl,rfl,Nat.le_refl _,Nat.le_refl _,fun _ _ e=>e,fun _ _ _=>rfl,fun _=>Nat.le_refl _,fun _ i=>i,fun _ i=>.inl i,fun _ o=>.inl o⟩
omit [Io] in
theorem Ext.trans{g w h g1 w1 h1 g2 w2 h2}(a:Ext g w h g1 w1 h1)(b:Ext g1 w1 h1 g2 w2 h2):Ext g w h g2 w2 h2 where
 os:=b.os.trans a.os
 tape:=b.tape.trans a.tape
 output:=b.output.trans a.output
 size:=Nat.le_trans a.size b.size
 next:=Nat.le_trans a.next b.next
 m:=fun id x e=>b.m id x (a.m id x e)
 wh:=fun k hk ho=>(b.wh k (Nat.lt_of_lt_of_le hk a.size) (fun o=>(a.uU k o).elim ho (fun e=>absurd hk (Nat.not_lt.2 e)))).trans (a.wh k hk ho)
 rows:=fun k=>Nat.le_trans (a.rows k) (b.rows k)
 oz:=fun k i=>b.oz k (a.oz k i)
 Om:=fun k i=>by
  rcases b.Om k i with i|o|l
  ·exact a.Om k i
  ·rcases a.uU k o with o|l
   ·exact .inr (.inl o)
   ·exact .inr (.inr l)
  ·exact .inr (.inr (Nat.le_trans a.size l))
 uU:=fun k o=>by
  rcases b.uU k o with o|l
  ·exact a.uU k o
  ·exact .inr (Nat.le_trans a.size l)
theorem HC.tp{g w h}(H:HC g w h){b:Nat}(i:g.oz b): ¬ qt g h b:=by
 rintro⟨id,cs,s,hg,hm⟩
 obtain⟨b',s',C,el,vs,P6,_,hi,_⟩:=H.cw id cs hg
 rw[hm]at P6
 obtain⟨rfl,rfl⟩:=Prod.mk.inj (Option.some.inj P6)
 exact hi i
theorem HR.tp{g w h}(H:HR g w h){b:Nat}(i:g.oz b): ¬ qt g h b:=H.toHC.tp i
structure xK(g:G)(w:World)(g':G)(w':World):Prop where
 m: ∀ id x,g.m id=some x->g'.m id=some x
 oz: ∀ b,g.oz b->g'.oz b
 FV: ∀ b,g.oz b->w'.heap[b]? =w.heap[b]?
 rows: ∀ b,nY w b<=nY w' b
theorem Ext.mono{g w h g' w' h'}(H:HC g w h)(E:Ext g w h g' w' h'):xK g w g' w':=
 ⟨E.m,E.oz,fun b i=>E.wh b (H.oz b i) (H.tp i),E.rows⟩
omit [Io] in
theorem oc.FV{w w':World}{b o vs}(h:w'.heap[b]? =w.heap[b]?)(c:oc w b o vs):oc w' b o vs:=by
 intro j v hj
 have:=c j v hj
 unfold World.cell? at this ⊢
 rw[h]
 exact this
theorem tF.mono{g w g' w'}(E:xK g w g' w')(t:tF g w):tF g' w':=fun p hp=>⟨E.oz _ (t p hp).1,oc.FV (E.FV _ (t p hp).1) (t p hp).2⟩
theorem tF.ext{g w h g' w' h'}(H:HR g w h)(E:Ext g w h g' w' h'):tF g' w':=tF.mono (E.mono H.toHC) H.tb
mutual
theorem VR.o8{g w g' w'}(E:xK g w g' w'): ∀ (a:AV) (v:Value),VR g w a v->VR g' w' a v
 | .int _ _,v,r=>by simpa only[VR]using r
 | .bool _,v,r=>by simpa only[VR]using r
 | .sc _,v,r=>by simpa only[VR]using r
 | .qi,v,r=>by simpa only[VR]using r
 | .uR,v,r=>by simpa only[VR]using r
 | .sym _ _ _ _ _,v,r=>by simpa only[VR]using r
 | .any,v,r=>by simpa only[VR]using r
 | .agg cs,v,r=>by
  simp only[VR]at r ⊢
  obtain⟨vs,e,q⟩:=r
  exact⟨vs,e,cJ.o8 E cs _ q⟩
 | .xJ cs,v,r=>by
  simp only[VR]at r ⊢
  obtain⟨vs,e,q⟩:=r
  exact⟨vs,e,cJ.o8 E cs _ q⟩
 | .fn f cs,v,r=>by
  simp only[VR]at r ⊢
  obtain⟨vs,e,q⟩:=r
  exact⟨vs,e,cJ.o8 E cs _ q⟩
 | .ref id off,v,r=>by
  simp only[VR]at r ⊢
  obtain⟨b,s,e,q⟩:=r
  exact⟨b,s,E.m _ _ e,q⟩
 | .oG id off n sz,v,r=>by
  simp only[VR]at r ⊢
  rcases r with r|⟨b,s,cap,e,q,l,z⟩
  ·exact .inl r
  ·exact .inr ⟨b,s,cap,E.m _ _ e,q,l,Nat.le_trans z (E.rows b)⟩
 | .sU n cs,v,r=>by
  simp only[VR]at r ⊢
  obtain⟨a,cap,e,l,r⟩:=r
  refine⟨a,cap,e,l,?_⟩
  rcases r with r|⟨b,o,vs,e,i,c,q⟩
  ·exact .inl r
  ·exact .inr ⟨b,o,vs,e,E.oz b i,c.FV (E.FV b i),cJ.o8 E cs _ q⟩
 | .pP cs,v,r=>by
  simp only[VR]at r ⊢
  obtain⟨b,o,vs,e,i,c,q⟩:=r
  exact⟨b,o,vs,e,E.oz b i,c.FV (E.FV b i),cJ.o8 E cs _ q⟩
theorem cJ.o8{g w g' w'}(E:xK g w g' w'): ∀ (l:List AV) (vs:List Value),cJ g w l vs->cJ g' w' l vs
 | [],vs,r=>by simpa only[cJ]using r
 |a::l,vs,r=>by
  simp only[cJ]at r ⊢
  obtain⟨v,l',e,q,r⟩:=r
  exact⟨v,l',e,VR.o8 E a v q,cJ.o8 E l l' r⟩
end
theorem VR.mono{g w h g' w' h'}(H:HR g w h)(E:Ext g w h g' w' h')(a:AV)(v:Value)(r:VR g w a v):VR g' w' a v:=VR.o8 (E.mono H.toHC) a v r
theorem cJ.mono{g w h g' w' h'}(H:HR g w h)(E:Ext g w h g' w' h')(l:List AV)(vs:List Value)(r:cJ g w l vs):cJ g' w' l vs:=cJ.o8 (E.mono H.toHC) l vs r
omit [Io] in
theorem Tr.get_nil{α:Type}(n:Nat):(Tr.nil:Tr α).get n=none:=rfl
omit [Io] in
theorem Tr.wk{α:Type}(l r:Tr α)(v:Option α)(n:Nat):
 (Tr.node l v r).get n=if n=0 then v else if n % 2=1 then l.get (n / 2)else r.get (n / 2 - 1):=by
 show pZ (Nat.beq n 0) v (pZ (Nat.beq (Nat.mod n 2) 1) (l.get (Nat.div n 2)) (r.get (Nat.sub (Nat.div n 2) 1)))=_
 by_cases h:n=0
 ·subst h;rfl
 ·rw[if_neg h,show Nat.beq n 0=false from by cases n with|zero=>exact absurd rfl h|succ n=>rfl]
  by_cases h2:n % 2=1
  ·rw[if_pos h2,show Nat.beq (Nat.mod n 2) 1=true from by rw[show Nat.mod n 2=1 from h2];rfl];rfl
  ·rw[if_neg h2,show Nat.beq (Nat.mod n 2) 1=false from by rw[show Nat.mod n 2=0 from by show n % 2=0;omega];rfl];rfl
omit [Io] in
theorem Tr.get_eq{α:Type}(t:Tr α)(n:Nat):
 t.get n=if n=0 then t.hd else if n % 2=1 then t.lf.get (n / 2)else t.rt.get (n / 2 - 1):=by
 cases t with
 |nil=>simp[Tr.get_nil,Tr.hd,Tr.lf,Tr.rt]
 |node l v r=>rw[Tr.wk];rfl
omit [Io] in
theorem Tr.On{α:Type}(f:Nat)(t:Tr α)(n:Nat)(x:Option α):
 Tr.Ko (f+1) t n x=if n=0 then .node t.lf x t.rt else if n % 2=1 then .node (Tr.Ko f t.lf (n / 2) x) t.hd t.rt
  else .node t.lf t.hd (Tr.Ko f t.rt (n / 2 - 1) x):=by
 show pZ (Nat.beq n 0) (Tr.node t.lf x t.rt) (pZ (Nat.beq (Nat.mod n 2) 1) (Tr.node (Tr.Ko f t.lf (Nat.div n 2) x) t.hd t.rt)
  (Tr.node t.lf t.hd (Tr.Ko f t.rt (Nat.sub (Nat.div n 2) 1) x)))=_
 by_cases h:n=0
 ·subst h;rfl
 ·rw[if_neg h,show Nat.beq n 0=false from by cases n with|zero=>exact absurd rfl h|succ n=>rfl]
  by_cases h2:n % 2=1
  ·rw[if_pos h2,show Nat.beq (Nat.mod n 2) 1=true from by rw[show Nat.mod n 2=1 from h2];rfl];rfl
  ·rw[if_neg h2,show Nat.beq (Nat.mod n 2) 1=false from by rw[show Nat.mod n 2=0 from by show n % 2=0;omega];rfl];rfl
omit [Io] in
theorem Tr.Qp{α:Type}(f:Nat): ∀ (t:Tr α) (n:Nat) (x:Option α) (k:Nat),n<f->(Tr.Ko f t n x).get k=if k=n then x else t.get k:=by
 induction f with
 |zero=>intro t n x k h;omega
 |succ f ih=>
  intro t n x k h
  rw[Tr.On]
  by_cases h0:n=0
  ·subst h0
   rw[if_pos rfl,Tr.wk,Tr.get_eq t]
   by_cases hk:k=0
   ·simp[hk]
   ·simp[hk]
  ·rw[if_neg h0]
   by_cases h1:n % 2=1
   ·rw[if_pos h1,Tr.wk,Tr.get_eq t k]
    by_cases hk:k=0
    ·subst hk;simp;intro e;omega
    ·simp only[hk,if_false]
     by_cases hk1:k % 2=1
     ·simp only[hk1,if_true]
      rw[ih _ _ _ _ (by omega)]
      by_cases e:k=n
      ·subst e;simp
      ·rw[if_neg e,if_neg (by omega)]
     ·simp only[hk1,if_false]
      rw[if_neg (by intro e;subst e;omega)]
   ·rw[if_neg h1,Tr.wk,Tr.get_eq t k]
    by_cases hk:k=0
    ·subst hk;simp;intro e;omega
    ·simp only[hk,if_false]
     by_cases hk1:k % 2=1
     ·simp only[hk1,if_true]
      rw[if_neg (by intro e;subst e;omega)]
     ·simp only[hk1,if_false]
      rw[ih _ _ _ _ (by omega)]
      by_cases e:k=n
      ·subst e;simp
      ·rw[if_neg e,if_neg (by omega)]
omit [Io] in
theorem Tr.ri{α:Type}(t:Tr α)(n:Nat)(x:Option α)(k:Nat):(t.set n x).get k=if k=n then x else t.get k:=
 Tr.Qp _ t n x k (Nat.lt_succ_self n)
omit [Io] in
theorem F8.xj{α:Type}(f:F8 α)(x:α)(i j:Nat)(hi:i<8)(hj:j<8):(f.qK x i).J' j=if j=i then x else f.J' j:=by
 rcases(by omega:i=0∨i=1∨i=2∨i=3∨i=4∨i=5∨i=6∨i=7)with rfl|rfl|rfl|rfl|rfl|rfl|rfl|rfl<;>
 rcases(by omega:j=0∨j=1∨j=2∨j=3∨j=4∨j=5∨j=6∨j=7)with rfl|rfl|rfl|rfl|rfl|rfl|rfl|rfl<;>rfl
omit [Io] in
theorem Tm.qP(t:Tm)(i j:Nat)(x:Option AV)(hi:i<512)(hj:j<512):(t.put i x).at j=if j=i then x else t.at j:=by
 unfold Tm.put Tm.at
 rw[F8.xj _ _ _ _ (by omega) (by omega)]
 by_cases h1:j / 64=i / 64
 ·rw[if_pos h1,F8.xj _ _ _ _ (by omega) (by omega)]
  by_cases h2:j / 8 % 8=i / 8 % 8
  ·rw[if_pos h2,F8.xj _ _ _ _ (by omega) (by omega)]
   by_cases h3:j % 8=i % 8
   ·rw[if_pos h3,if_pos (by omega)]
   ·rw[if_neg h3,if_neg (by intro e;subst e;exact h3 rfl),h1,h2]
  ·rw[if_neg h2,if_neg (by intro e;subst e;exact h2 rfl),h1]
 ·rw[if_neg h1,if_neg (by intro e;subst e;exact h1 rfl)]
omit [Io] in
theorem Tm.FW(j:Nat)(hj:j<512):Tm.none.at j=Option.none:=by
 unfold Tm.none Tm.at
 rcases(by omega:j / 64=0∨j / 64=1∨j / 64=2∨j / 64=3∨j / 64=4∨j / 64=5∨j / 64=6∨j / 64=7)with h|h|h|h|h|h|h|h<;>rw[h]<;>
 rcases(by omega:j / 8 % 8=0∨j / 8 % 8=1∨j / 8 % 8=2∨j / 8 % 8=3∨j / 8 % 8=4∨j / 8 % 8=5∨j / 8 % 8=6∨j / 8 % 8=7)with h|h|h|h|h|h|h|h<;>rw[h]<;>
 rcases(by omega:j % 8=0∨j % 8=1∨j % 8=2∨j % 8=3∨j % 8=4∨j % 8=5∨j % 8=6∨j % 8=7)with h|h|h|h|h|h|h|h<;>rw[h]<;>rfl
def TR(g:G)(w:World)(nt:Nat)(t:Tm)(tmps:Array Value):Prop:=
 nt<=512/\tmps.size=nt/\ ∀ i v,i<512->t.at i=some v->i<nt/\VR g w v (tmps.getD i undef)
theorem TR.mono{g w h g' w' h' nt t tmps}(H:HR g w h)(E:Ext g w h g' w' h')(r:TR g w nt t tmps):TR g' w' nt t tmps:=
 ⟨r.1,r.2.1,fun i v hi e=>⟨(r.2.2 i v hi e).1,VR.mono H E _ _ (r.2.2 i v hi e).2⟩⟩
theorem TR.put{g w nt t tmps}(r:TR g w nt t tmps){d:Nat}(hd:d<nt){a:AV}{v:Value}(hv:VR g w a v):
 TR g w nt (t.put d (some a)) (tmps.setIfInBounds d v):=by
 obtain⟨h1,h2,h3⟩:=r
 refine⟨h1,by simpa using h2,fun i x hi e=>?_⟩
 rw[Tm.qP _ _ _ _ (by omega) hi]at e
 by_cases qu:i=d
 ·subst qu
  rw[if_pos rfl]at e
  obtain rfl:=Option.some.inj e
  refine⟨hd,?_⟩
  rw[Array.getD_eq_getD_getElem?,Array.getElem?_setIfInBounds_self_of_lt (by omega)]
  exact hv
 ·rw[if_neg qu]at e
  refine⟨(h3 i x hi e).1,?_⟩
  have:=(h3 i x hi e).2
  rw[Array.getD_eq_getD_getElem?]at this ⊢
  rw[Array.getElem?_setIfInBounds_ne (by omega)]
  exact this
end Go.Ab
