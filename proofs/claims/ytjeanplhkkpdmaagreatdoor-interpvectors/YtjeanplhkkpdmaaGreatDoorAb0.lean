import Derived.Calls
import Derived.Laws.Sem
import Derived.Laws.AppendOwn
import Derived.Laws.MakeOwn
import Derived.Laws.CopyRow
noncomputable section
namespace Go.Ab
def oL{α:Type}(c:Bool)(a b:α):α:=Bool.rec b a c
inductive Tr (α:Type) where
 |nil
 |node (l:Tr α) (v:Option α) (r:Tr α)
def Tr.get{α:Type}(t:Tr α):Nat->Option α:=
 Tr.rec (fun _=>none) (fun _ v _ gl gr n=>Bool.rec (Bool.rec (gr (Nat.sub (Nat.div n 2) 1)) (gl (Nat.div n 2)) (Nat.beq (Nat.mod n 2) 1)) v (Nat.beq n 0)) t
def Tr.lf{α:Type}(t:Tr α):Tr α:=Tr.rec .nil (fun l _ _ _ _=>l) t
def Tr.rt{α:Type}(t:Tr α):Tr α:=Tr.rec .nil (fun _ _ r _ _=>r) t
def Tr.hd{α:Type}(t:Tr α):Option α:=Tr.rec none (fun _ v _ _ _=>v) t
def Tr.NB{α:Type}(f:Nat):Tr α->Nat->Option α->Tr α:=
 Nat.rec (fun t _ _=>t) (fun _ go t n x=>
  Bool.rec (Bool.rec (.node t.lf t.hd (go t.rt (Nat.sub (Nat.div n 2) 1) x)) (.node (go t.lf (Nat.div n 2) x) t.hd t.rt) (Nat.beq (Nat.mod n 2) 1))
   (.node t.lf x t.rt) (Nat.beq n 0)) f
def Tr.set{α:Type}(t:Tr α)(n:Nat)(x:Option α):Tr α:=Tr.NB (Nat.succ n) t n x
structure F8(α:Type) where
 a0:α
 a1:α
 a2:α
 a3:α
 a4:α
 a5:α
 a6:α
 a7:α
def F8.KJ{α:Type}(f:F8 α):Nat->α
 |0=>f.a0|1=>f.a1|2=>f.a2|3=>f.a3|4=>f.a4|5=>f.a5|6=>f.a6| _=>f.a7
def F8.Ns{α:Type}(f:F8 α)(x:α):Nat->F8 α
 |0=>⟨x,f.a1,f.a2,f.a3,f.a4,f.a5,f.a6,f.a7⟩
 |1=>⟨f.a0,x,f.a2,f.a3,f.a4,f.a5,f.a6,f.a7⟩
 |2=>⟨f.a0,f.a1,x,f.a3,f.a4,f.a5,f.a6,f.a7⟩
 |3=>⟨f.a0,f.a1,f.a2,x,f.a4,f.a5,f.a6,f.a7⟩
 |4=>⟨f.a0,f.a1,f.a2,f.a3,x,f.a5,f.a6,f.a7⟩
 |5=>⟨f.a0,f.a1,f.a2,f.a3,f.a4,x,f.a6,f.a7⟩
 |6=>⟨f.a0,f.a1,f.a2,f.a3,f.a4,f.a5,x,f.a7⟩
 | _=>⟨f.a0,f.a1,f.a2,f.a3,f.a4,f.a5,f.a6,x⟩
def F8.all{α:Type}(x:α):F8 α:=⟨x,x,x,x,x,x,x,x⟩
inductive SV where
 |var (i:Nat)
 |NC (i:Nat)
 |umod (i c:Nat)
 |lin (i:Nat) (m:Int)
 |dig (i p m:Nat)
 |cl (i:Nat) (l h:Int)
 |pr (i:Nat) (l h:Int) (j:Nat)
 |ad (i j:Nat) (l h:Int)
 |con (n:Int)
 |sm (l:List Nat)
 |ix (l:List Nat) (a:SV) (o:Int)
 |tm (f:Nat) (k k':IntKind) (a:SV) (oa:Int) (b:SV) (ob:Int)
 |bits (l:List Nat)
inductive AV where
 |int (k:IntKind) (n:Int)
 |bool (b:Bool)
 |sc (v:Value)
 |agg (cs:List AV)
 |DO (vs:List AV)
 |ref (id off:Nat)
 |my (id off len sz:Nat)
 |vG (len:Nat) (cs:List AV)
 |qi (cs:List AV)
 |pR
 |xr
 |fn (f:FuncId) (cap:List AV)
 |sym (k:IntKind) (s:SV) (lo hi off:Int)
 |any
 deriving Inhabited
abbrev Tm:=F8 (F8 (F8 (Option AV)))
def Tm.at(t:Tm)(i:Nat):Option AV:=((t.KJ (i / 64)).KJ (i / 8 % 8)).KJ (i % 8)
def Tm.put(t:Tm)(i:Nat)(v:Option AV):Tm:=t.Ns ((t.KJ (i / 64)).Ns (((t.KJ (i / 64)).KJ (i / 8 % 8)).Ns v (i % 8)) (i / 8 % 8)) (i / 64)
def Tm.none:Tm:=F8.all (F8.all (F8.all Option.none))
structure Rw where
 n:Nat
 d:List AV
 t:Tr AV
structure Hp where
 next:Nat
 cz:Tr Rw
inductive Ro where
 |bad
 |ok (v:AV) (h:Hp)
inductive Rt where
 |bad
 |ok (t:Tm) (h:Hp)
inductive Rc where
 |bad
 |norm (t:Tm) (h:Hp)
 |ret (t:Tm) (h:Hp)
 |exit (i:Nat) (t:Tm) (h:Hp)
abbrev lT:=Tm->Option AV
abbrev lO:=Tm->Hp->Ro
abbrev uM:=Tm->Hp->Rt
abbrev GP:=Tm->Hp->Rc
abbrev kh:=FuncId->List AV->Hp->Ro
def app{α:Type}(l r:List α):List α:=List.rec r (fun a _ ih=>a::ih) l
def len{α:Type}(l:List α):Nat:=List.rec (fun n=>n) (fun _ _ ih n=>ih (Nat.add n 1)) l (0:Nat)
def tk{α:Type}(n:Nat)(l:List α):List α:=
 List.rec (fun _=>[]) (fun a _ ih n=>Bool.rec (a::ih (Nat.sub n 1)) [] (Nat.beq n 0)) l n
def dp{α:Type}(n:Nat)(l:List α):List α:=
 List.rec (fun _=>[]) (fun a r ih n=>Bool.rec (ih (Nat.sub n 1)) (a::r) (Nat.beq n 0)) l n
def sD{α:Type}(l:List α)(n:Nat):Option α:=
 List.rec (fun _=>none) (fun a _ ih n=>Bool.rec (ih (Nat.sub n 1)) (some a) (Nat.beq n 0)) l n
def jC{α:Type}(p:α->Bool)(l:List α):Bool:=List.rec true (fun a _ ih=>bif p a then ih else false) l
def leaf:Value->Option AV
 | .int k n=>some (.int k n)
 | .bool b=>some (.bool b)
 | .string s=>some (.sc (.string s))
 | .pointer none=>some (.sc (.pointer none))
 | .slice none 0 0=>some (.sc (.slice none 0 0))
 | .map none=>some (.sc (.map none))
 | .nilFunc=>some (.sc .nilFunc)
 | .nilIface=>some (.sc .nilIface)
 | _=>none
def leaves(l:List Value):Option (List AV):=
 List.rec (some []) (fun v _ ih=>match leaf v with
  |some a=>match ih with
   |some r=>some (a::r)
   |none=>none
  |none=>none) l
def ofV:Value->Option AV
 | .agg cs=>match leaves cs.toList with|some l=>some (.agg l)|none=>none
 | .tuple cs=>match leaves cs.toList with|some l=>some (.DO l)|none=>none
 |v=>leaf v
def AV.cells:AV->List AV
 | .agg cs=>cs
 |v=>[v]
def kN:AV->Bool
 | .agg _| .DO _=>false
 | _=>true
def n7:AV:=.DO []
def isNil:AV->Bool
 | .sc (.slice none n c)=>Nat.beq n 0&&Nat.beq c 0
 | _=>false
def z9:AV->Bool
 | .xr=>true
 |a=>isNil a
def isZ:AV->Bool
 | .xr=>true
 | .pR=>true
 | .my _ _ n _=>Nat.beq n 0
 | .vG n _=>Nat.beq n 0
 |a=>isNil a
def Ct(a:AV):AV:=bif z9 a then .pR else a
def IF(a:AV):Option Bool:=bif isNil a then some true else match a with
 | .xr=>some false
 | .my _ _ _ _=>some false
 | .vG n _=>bif Nat.beq n 0 then none else some false
 | _=>none
def Rw.cell(r:Rw)(i:Nat):AV:=Option.rec (Option.rec n7 (fun v=>v) (sD r.d (Nat.mod i (len r.d)))) (fun v=>v) (r.t.get i)
def Rw.cells(r:Rw)(k:Nat):Nat->List AV:=Nat.rec (fun _=>[]) (fun _ ih i=>r.cell i::ih (Nat.add i 1)) k
def Rw.toL(r:Rw):List AV:=r.cells r.n 0
def tE(l:List AV):Nat->Tr AV->Tr AV:=List.rec (fun _ t=>t) (fun a _ ih i t=>ih (Nat.add i 1) (t.set i (some a))) l
def Ee(l:List AV):Rw:=⟨len l,[],tE l 0 .nil⟩
def Rw.sQ(r:Rw)(off k:Nat):Option (List AV):=bif Nat.ble (Nat.add off k) r.n then some (r.cells k off)else none
def Rw.put(r:Rw)(off:Nat)(l:List AV):Rw:=⟨r.n,r.d,tE l off r.t⟩
def Rw.app(r:Rw)(l:List AV):Rw:=⟨Nat.add r.n (len l),r.d,tE l r.n r.t⟩
def Rw.upto(r:Rw)(m:Nat):Rw:=⟨m,r.d,r.t⟩
def Rw.sub(r:Rw)(off k:Nat):Option Rw:=bif Nat.ble (Nat.add off k) r.n then some (bif Nat.beq off 0 then r.upto k else Ee (r.cells k off))else none
def oT(i:Nat):lT:=fun t=>Tm.at t i
def wO(x:lT):lT:=fun t=>Option.rec none (fun a=>some (Ct a)) (x t)
abbrev arl:=AV->Tm->Tm
def sT(i:Nat):arl:=fun v t=>Tm.put t i (some v)
def oC(v:AV):lT:=fun _=>some v
def oX:lT:=fun _=>none
def CC(l:List lT)(t:Tm):Option (List AV):=
 List.rec (some []) (fun o _ ih=>Option.rec none (fun v=>Option.rec none (fun vs=>some (v::vs)) ih) (o t)) l
def kA(h:Hp)(cs:Rw):Hp:=⟨Nat.add h.next 1,h.cz.set h.next (some cs)⟩
def qj(h:Hp)(id:Nat)(cs:Option Rw):Hp:=⟨h.next,h.cz.set id cs⟩
def kK(k:IntKind)(n:Int):Int:=
 match k with
 | .u8=>Int.emod n 256| .u16=>Int.emod n 65536| .u32=>Int.emod n 4294967296| .u64=>Int.emod n 18446744073709551616
 | .i8=>Int.sub (Int.emod (Int.add n 128) 256) 128| .i16=>Int.sub (Int.emod (Int.add n 32768) 65536) 32768
 | .i32=>Int.sub (Int.emod (Int.add n 2147483648) 4294967296) 2147483648
 | .i64=>Int.sub (Int.emod (Int.add n 9223372036854775808) 18446744073709551616) 9223372036854775808
def qf:IntKind->IntKind->Bool
 | .i8,.i8| .i16,.i16| .i32,.i32| .i64,.i64| .u8,.u8| .u16,.u16| .u32,.u32| .u64,.u64=>true
 | _,_=>false
def sB:Int->Int->Bool
 | .ofNat a,.ofNat b=>Nat.blt a b
 | .ofNat _,.negSucc _=>false
 | .negSucc _,.ofNat _=>true
 | .negSucc a,.negSucc b=>Nat.blt b a
def eqI:Int->Int->Bool
 | .ofNat a,.ofNat b=>Nat.beq a b
 | .negSucc a,.negSucc b=>Nat.beq a b
 | _,_=>false
def rO(s:Sem Value):Option Value:=
 match s with
 | .pure v=>some v
 | _=>none
def uG(f:IntKind->Int->Int->Option AV)(x y:AV):Option AV:=
 match x,y with
 | .int k a,.int k' b=>bif qf k k' then f k a b else none
 | _,_=>none
def ajN:AV->AV->Option AV:=uG fun k a b=>some (.int k (kK k (Int.add a b)))
def ajO:AV->AV->Option AV:=uG fun k a b=>some (.int k (kK k (Int.sub a b)))
def ajP:AV->AV->Option AV:=uG fun k a b=>some (.int k (kK k (Int.mul a b)))
def aa6:AV->AV->Option AV:=uG fun k a b=>bif eqI b 0 then none else some (.int k (kK k (Int.tdiv a b)))
def aa7:AV->AV->Option AV:=uG fun k a b=>bif eqI b 0 then none else some (.int k (Int.tmod a b))
def ajQ:AV->AV->Option AV:=uG fun _ a b=>some (.bool (sB a b))
def ajR:AV->AV->Option AV:=uG fun _ a b=>some (.bool (!(sB b a)))
def ajS:AV->AV->Option AV:=uG fun _ a b=>some (.bool (sB b a))
def ajT:AV->AV->Option AV:=uG fun _ a b=>some (.bool (!(sB a b)))
def zh:IntKind->Nat
 | .i8=>128| .i16=>32768| .i32=>2147483648| .i64=>9223372036854775808
 | .u8=>256| .u16=>65536| .u32=>4294967296| .u64=>18446744073709551616
def zx:IntKind->Nat
 | .i8| .u8=>8| .i16| .u16=>16| .i32| .u32=>32| .i64| .u64=>64
def EK(s:Option Value):Option AV:=match s with
 |some v=>ofV v
 |none=>none
def HA(op:BinOp)(f:Nat->Nat->Nat):AV->AV->Option AV:=uG fun k a b=>
 match a,b with
 | .ofNat a,.ofNat b=>bif Nat.blt a (zh k)&&Nat.blt b (zh k)then some (.int k (.ofNat (f a b)))else EK (rO (Op.intBits op k (.ofNat a) (.ofNat b)))
 |a,b=>EK (rO (Op.intBits op k a b))
def aa8:AV->AV->Option AV:=HA .and Nat.land
def bOr:AV->AV->Option AV:=HA .or Nat.lor
def aa9:AV->AV->Option AV:=HA .xor Nat.xor
def sR:AV->AV->Option AV:=uG fun k a b=>EK (rO (Op.intBits .andNot k a b))
def EL(a b:Nat):Nat:=bif Nat.ble a b then a else b
def ND(x y:AV):Option AV:=
 match x,y with
 | .int k a,.int _ (.ofNat n)=>some (.int k (kK k (Int.mul a (.ofNat (Nat.pow 2 (EL n (zx k)))))))
 | _,_=>none
def NF(x y:AV):Option AV:=
 match x,y with
 | .int k a,.int _ (.ofNat n)=>some (.int k (Int.fdiv a (.ofNat (Nat.pow 2 (EL n (zx k))))))
 | _,_=>none
def eqStr(a b:ByteArray):Bool:=a.toList == b.toList
def Uo(neg:Bool):AV->AV->Option AV:=uG fun _ a b=>some (.bool (bif neg then !(eqI a b)else eqI a b))
def KT(neg:Bool)(x y:AV):Option AV:=
 match x,y with
 | .bool a,.bool b=>some (.bool (bif neg then xor a b else !(xor a b)))
 | _,_=>none
def IG(neg:Bool)(x y:AV):Option AV:=
 match x,y with
 | .sc (.string a),.sc (.string b)=>some (.bool (bif neg then !(eqStr a b)else eqStr a b))
 | _,_=>none
def II(neg:Bool)(x y:AV):Option AV:=
 match x,y with
 | .ref _ _,.sc (.pointer none)| .qi _,.sc (.pointer none)| .sc (.pointer none),.ref _ _| .sc (.pointer none),.qi _=>some (.bool neg)
 | .sc (.pointer none),.sc (.pointer none)=>some (.bool (!neg))
 | _,_=>none
def EM(neg:Bool)(x y:AV):Option AV:=bif isNil y then Option.rec none (fun b=>some (.bool (bif neg then !b else b))) (IF x)else none
def loK:IntKind->Int
 | .i8=> -128| .i16=> -32768| .i32=> -2147483648| .i64=> -9223372036854775808| _=>0
def hiK:IntKind->Int
 | .i8=>127| .i16=>32767| .i32=>2147483647| .i64=>9223372036854775807
 | .u8=>255| .u16=>65535| .u32=>4294967295| .u64=>18446744073709551615
def aa':IntKind->Int
 | .i8| .u8=>256| .i16| .u16=>65536| .i32| .u32=>4294967296| .i64| .u64=>18446744073709551616
def CD:List Nat->List Nat->Bool
 | [],[]=>true
 |a::l,b::m=>bif Nat.beq a b then CD l m else false
 | _,_=>false
def vH:SV->SV->Bool
 | .var i,.var j=>Nat.beq i j
 | .NC i,.NC j=>Nat.beq i j
 | .umod i c,.umod j d=>Nat.beq i j&&Nat.beq c d
 | .lin i m,.lin j n=>Nat.beq i j&&eqI m n
 | .dig i p m,.dig j q n=>Nat.beq i j&&(Nat.beq p q&&Nat.beq m n)
 | .bits l,.bits m=>CD l m
 | .con m,.con n=>eqI m n
 | .sm l,.sm m=>CD l m
 | .cl i l h,.cl i' l' h'=>Nat.beq i i'&&(eqI l l'&&eqI h h')
 | .pr i l h j,.pr i' l' h' j'=>Nat.beq i i'&&(eqI l l'&&(eqI h h'&&Nat.beq j j'))
 | .ad i j l h,.ad i' j' l' h'=>Nat.beq i i'&&(Nat.beq j j'&&(eqI l l'&&eqI h h'))
 | _,_=>false
def NG(a:SV):SV->Bool:=
 SV.rec (motive:=fun _=>SV->Bool) (fun i=>vH (.var i)) (fun i=>vH (.NC i)) (fun i c=>vH (.umod i c)) (fun i m=>vH (.lin i m)) (fun i p m=>vH (.dig i p m))
  (fun i l h=>vH (.cl i l h)) (fun i l h j=>vH (.pr i l h j)) (fun i j l h=>vH (.ad i j l h)) (fun n=>vH (.con n)) (fun l=>vH (.sm l))
  (fun l _ o Aa y=>match y with
   | .ix l2 a2 o2=>CD l l2&&(eqI o o2&&Aa a2)
   | _=>false)
  (fun f k k' _ oa _ ob Aa EN y=>match y with
   | .tm f2 k2 k2' a2 oa2 b2 ob2=>Nat.beq f f2&&(qf k k2&&(qf k' k2'&&(eqI oa oa2&&(eqI ob ob2&&(Aa a2&&EN b2)))))
   | _=>false) (fun l=>vH (.bits l)) a
def ajV(k:IntKind)(lo hi off:Int):Bool:= !(sB (Int.add lo off) (loK k))&& !(sB (hiK k) (Int.add hi off))
def GW(k:IntKind)(s:SV)(lo hi off:Int):Option AV:=
 bif ajV k lo hi off then some (.sym k s lo hi off)else
 bif ajV k lo hi (Int.add off (aa' k))then some (.sym k s lo hi (Int.add off (aa' k)))else
 bif ajV k lo hi (Int.sub off (aa' k))then some (.sym k s lo hi (Int.sub off (aa' k)))else none
def aE2(x y:AV):Option AV:=match x,y with
 | .sym k s lo hi o,.int k' c=>bif qf k k' then GW k s lo hi (Int.add o c)else none
 | .int k' c,.sym k s lo hi o=>bif qf k k' then GW k s lo hi (Int.add o c)else none
 | _,_=>none
def arn(b:List Nat)(a:List Nat):Option (List Nat):=List.rec (bif CD [] b then some []else none) (fun x r ih=>bif CD (x::r) b then some []else match ih with
 |some m=>some (x::m)
 |none=>none) a
def aE3(x y:AV):Option AV:=match x,y with
 | .sym k s lo hi o,.int k' c=>bif qf k k' then GW k s lo hi (Int.sub o c)else none
 | .sym k s lo hi o,.sym k' s' lo' A7 o'=>bif qf k k'&&NG s s' then some (.int k (kK k (Int.sub o o')))else bif qf k k' then(match s,s' with
  | .ad i j l h,.var i'=>bif Nat.beq i i'&& !(sB h l)then GW k (.cl j l h) l h (Int.sub o o')else none
  | .sm a,.sm b=>(match arn b a with
   |some m=>GW k (.sm m) (Int.sub lo A7) (Int.sub hi lo') (Int.sub o o')
   |none=>none)
  | .sm a,.var i=>(match arn [i] a with
   |some m=>GW k (.sm m) (Int.sub lo A7) (Int.sub hi lo') (Int.sub o o')
   |none=>none)
  | _,_=>none)else none
 | _,_=>none
def Up(_ _:AV):Option Bool:=none
def aba(w:Nat):Nat->List Nat:=Nat.rec (fun _=>[]) (fun _ ih n=>Nat.mod n 2::ih (Nat.div n 2)) w
def Py(w:Nat):Nat->List Nat:=Nat.rec (fun _=>[]) (fun _ ih b=>b::ih (Nat.add b 1)) w
def KU(n:Nat):List Nat:=Nat.rec [] (fun _ ih=>(0:Nat)::ih) n
def hiB(l:List Nat):Nat:=List.rec (0:Nat) (fun c _ ih=>Nat.add (Nat.mul 2 ih) (Bool.rec 1 0 (Nat.beq c 0))) l
def loB(l:List Nat):Nat:=List.rec (0:Nat) (fun c _ ih=>Nat.add (Nat.mul 2 ih) (Bool.rec 0 1 (Nat.beq c 1))) l
def ax4(l:List Nat):Bool:=List.rec true (fun c _ ih=>Bool.rec false ih (Nat.blt c 2)) l
def mkB(k:IntKind)(l:List Nat):Option AV:=
 bif sB (hiK k) (.ofNat (hiB l))then none else
 bif ax4 l then some (.int k (.ofNat (hiB l)))else some (.sym k (.bits l) (.ofNat (loB l)) (.ofNat (hiB l)) 0)
def toB(x:AV):Option (IntKind×List Nat):=match x with
 | .int k (.ofNat n)=>bif Nat.blt n (zh k)then some (k,aba 64 n)else none
 | .sym k (.bits l) _ (.ofNat hi) (.ofNat o)=>bif Nat.beq o 0&&Nat.blt hi (zh k)then some (k,l)else none
 | .sym k (.var i) (.ofNat _) (.ofNat hi) (.ofNat o)=>
  bif Nat.beq o 0&&(Nat.blt hi (zh k)&&(Nat.blt hi (Nat.pow 2 (Nat.add (Nat.log2 hi) 1))&&Nat.ble (Nat.add (Nat.log2 hi) 1) 64))then
   some (k,app (Py (Nat.add (Nat.log2 hi) 1) (Nat.add 2 (Nat.mul 64 i))) (KU (Nat.sub 63 (Nat.log2 hi))))else none
 | .sym k (.NC i) _ (.ofNat hi) (.ofNat o)=>bif Nat.beq o 0&&Nat.blt hi (zh k)then some (k,Py 64 (Nat.add 2 (Nat.mul 64 i)))else none
 | _=>none
def ax5(f:Nat->Nat->Option Nat)(l:List Nat):List Nat->Option (List Nat):=
 List.rec (fun m=>List.rec (some []) (fun _ _ _=>none) m) (fun a _ ih m=>List.rec none (fun b m _=>
  match f a b with
  |some c=>match ih m with
   |some r=>some (c::r)
   |none=>none
  |none=>none) m) l
def ax6(a b:Nat):Option Nat:=bif Nat.beq a 0||Nat.beq b 0 then some 0 else bif Nat.beq a 1 then some b else bif Nat.beq b 1||Nat.beq a b then some a else none
def or1(a b:Nat):Option Nat:=bif Nat.beq a 1||Nat.beq b 1 then some 1 else bif Nat.beq a 0 then some b else bif Nat.beq b 0||Nat.beq a b then some a else none
def ax7(a b:Nat):Option Nat:=bif Nat.beq a b then some 0 else bif Nat.beq a 0 then some b else bif Nat.beq b 0 then some a else none
def zB(f:Nat->Nat->Option Nat)(x y:AV):Option AV:=match toB x,toB y with
 |some (k,l),some (k',m)=>bif qf k k' then(match ax5 f l m with
  |some r=>mkB k r
  |none=>none)else none
 | _,_=>none
def aro:IntKind->Bool
 | .u8| .u16| .u32| .u64=>true
 | _=>false
def aE6:AV->AV->Option AV:=zB ax6
def sOr:AV->AV->Option AV:=zB or1
def aE7:AV->AV->Option AV:=zB ax7
def aE8(x y:AV):Option AV:=match toB x with
 |some (k,l)=>match y with
  | .int _ (.ofNat n)=>bif aro k then mkB k (app (tk (zx k) (app (KU (EL n (zx k))) l)) (KU (Nat.sub 64 (zx k))))else none
  | _=>none
 |none=>none
def aE9(x y:AV):Option AV:=match toB x with
 |some (k,l)=>match y with
  | .int _ (.ofNat n)=>mkB k (app (dp (EL n (zx k)) l) (KU (EL n (zx k))))
  | _=>none
 |none=>none
def arp(k:IntKind)(x:AV):Option AV:=match toB x with
 |some (_,l)=>bif aro k then mkB k (app (tk (zx k) l) (KU (Nat.sub 64 (zx k))))else none
 |none=>none
def eqB(x y:AV):Option Bool:=match toB x,toB y with
 |some (k,l),some (k',m)=>bif qf k k'&&CD l m then some true else none
 | _,_=>none
def ax8(x y:AV):Option Bool:=match x,y with
 | .sym k _ lo hi o,.int k' c=>bif qf k k' then(bif sB c (Int.add lo o)||sB (Int.add hi o) c then some false else bif eqI (Int.add lo o) c&&eqI (Int.add hi o) c then some true else none)else none
 | .int k' c,.sym k _ lo hi o=>bif qf k k' then(bif sB c (Int.add lo o)||sB (Int.add hi o) c then some false else bif eqI (Int.add lo o) c&&eqI (Int.add hi o) c then some true else none)else none
 | .sym k s _ _ o,.sym k' s' _ _ o'=>bif qf k k'&&NG s s' then some (eqI o o')else none
 | _,_=>none
def aE'(x y:AV):Option Bool:=Option.rec (eqB x y) (fun b=>some b) (ax8 x y)
def eqL(x y:AV):Option Bool:=match Up x y with
 |some true=>some false
 | _=>match Up y x with
  |some true=>some false
  | _=>none
def eqS(_ _:AV):Option Bool:=none
def aFa(x y:AV):Option AV:=Option.rec none (fun b=>some (.bool b)) (Up x y)
def aFb(x y:AV):Option AV:=Option.rec none (fun b=>some (.bool b)) (Up y x)
def aFc(x y:AV):Option AV:=Option.rec none (fun b=>some (.bool (!b))) (Up y x)
def aFd(x y:AV):Option AV:=Option.rec none (fun b=>some (.bool (!b))) (Up x y)
def sEq(neg:Bool)(x y:AV):Option AV:=Option.rec none (fun b=>some (.bool (bif neg then !b else b))) (eqS x y)
def aFe(x y:AV):Option AV:=match x,y with
 | .sym k s lo hi o,.int k' (.ofNat c)=>bif qf k k'&&(Nat.blt 0 c&& !(sB (Int.add lo o) 0))then
   (bif eqI (Int.fdiv (Int.add lo o) (.ofNat c)) (Int.fdiv (Int.add hi o) (.ofNat c))then some (.sym k s lo hi (Int.sub o (Int.mul (Int.fdiv (Int.add lo o) (.ofNat c)) (.ofNat c))))else
   match k,s,o with
   | .u64,.NC i,.ofNat 0=>some (.sym .u64 (.umod i c) 0 (Int.sub (.ofNat c) 1) 0)
   |k,.var i,.ofNat 0=>some (.sym k (.dig i 1 c) 0 (Int.sub (.ofNat c) 1) 0)
   |k,.dig i p m,.ofNat 0=>bif Nat.beq m 0 then some (.sym k (.dig i p c) 0 (Int.sub (.ofNat c) 1) 0)else none
   |k,.pr i l h _,.ofNat 0=>bif Nat.beq c 4294967296&&(!(sB l 0)&&(sB h 4294967296&& !(sB h l)))then some (bif eqI l h then .int k l else .sym k (.cl i l h) l h 0)else none
   |k,.lin _ (.ofNat m),.ofNat o=>bif Nat.beq (Nat.mod m c) 0 then some (.int k (.ofNat (Nat.mod o c)))else none
   | _,_,_=>none)else none
 | _,_=>none
def aFf(x y:AV):Option AV:=match x,y with
 | .sym k s lo hi o,.int k' (.ofNat c)=>bif qf k k'&&(Nat.blt 0 c&& !(sB (Int.add lo o) 0))then
   (bif eqI (Int.fdiv (Int.add lo o) (.ofNat c)) (Int.fdiv (Int.add hi o) (.ofNat c))then some (.int k (kK k (Int.fdiv (Int.add lo o) (.ofNat c))))else
   match s,o with
   | .var i,.ofNat 0=>GW k (.dig i c 0) (Int.fdiv lo (.ofNat c)) (Int.fdiv hi (.ofNat c)) 0
   | .dig i p m,.ofNat 0=>bif Nat.beq m 0 then GW k (.dig i (Nat.mul p c) 0) (Int.fdiv lo (.ofNat c)) (Int.fdiv hi (.ofNat c)) 0 else none
   | _,_=>none)else none
 | _,_=>none
def arq(k:IntKind)(i:Nat)(lo hi o:Int)(c:Nat):Option AV:=bif Nat.blt 0 c then GW k (.lin i (.ofNat c)) (Int.mul (.ofNat c) lo) (Int.mul (.ofNat c) hi) (Int.mul (.ofNat c) o)else none
def aFg(x y:AV):Option AV:=match x,y with
 | .sym k (.var i) lo hi o,.int k' (.ofNat c)=>bif qf k k' then arq k i lo hi o c else none
 | .int k' (.ofNat c),.sym k (.var i) lo hi o=>bif qf k k' then arq k i lo hi o c else none
 | _,_=>none
def ars(k k':IntKind)(s:SV)(o:Int)(x:AV):Option AV:=match k,k',s,o with
 | .u64,.i64,.var i,0=>some (.sym .u64 (.NC i) 0 18446744073709551615 0)
 | .u32,_,.pr i l h _,.ofNat 0=>bif !(sB l 0)&&(sB h 4294967296&& !(sB h l))then some (bif eqI l h then .int .u32 l else .sym .u32 (.cl i l h) l h 0)else none
 | _,_,_,_=>arp k x
def aFh(k:IntKind)(x:AV):Option AV:=match x with
 | .sym k' s lo hi o=>Option.rec (ars k k' s o x) (fun r=>some r) (GW k s lo hi o)
 | _=>none
def DP(f s:AV->AV->Option AV):AV->AV->Option AV:=fun x y=>Option.rec (s x y) (fun v=>some v) (f x y)
def art(f s:AV->Option AV):AV->Option AV:=fun x=>Option.rec (s x) (fun v=>some v) (f x)
def Pz:AV->Option AV
 | .int k n=>some (.int k (kK k (Int.sub 0 n)))
 | _=>none
def Uq(k:IntKind):AV->Option AV
 | .int _ n=>some (.int k (kK k n))
 | _=>none
def opF(f:Nat)(k:IntKind)(m n:Int):Option AV:=match f with
 |0=>ajN (.int k m) (.int k n)
 |1=>ajO (.int k m) (.int k n)
 |2=>ajP (.int k m) (.int k n)
 |3=>aa6 (.int k m) (.int k n)
 |4=>aa7 (.int k m) (.int k n)
 |5=>aa8 (.int k m) (.int k n)
 |6=>bOr (.int k m) (.int k n)
 |7=>aa9 (.int k m) (.int k n)
 |8=>ND (.int k m) (.int .u64 n)
 |9=>NF (.int k m) (.int .u64 n)
 |10=>Pz (.int k m)
 | _=>Uq k (.int k m)
def tmF(f:Nat)(k:IntKind)(m n:Int):Int:=match opF f k m n with
 |some (.int _ r)=>r
 | _=>0
def atS(x:AV):Option (IntKind×SV×Int×Int×Int):=match x with
 | .int k n=>some (k,.con n,0,n,n)
 | .sym k s lo hi o=>some (k,s,o,Int.add lo o,Int.add hi o)
 | _=>none
def inK(k:IntKind)(l u:Int):Bool:= !(sB l (loK k))&& !(sB (hiK k) u)
def tS(f:Nat)(ok:IntKind->IntKind->Int->Int->Int->Int->Bool)(x y:AV):Option AV:=match atS x with
 |some (k,s,o,l,u)=>match atS y with
  |some (k',s',o',l',u')=>bif ok k k' l u l' u' then some (.sym k (.tm f k k' s o s' o') (loK k) (hiK k) 0)else none
  |none=>none
 |none=>none
def t1(f:Nat)(k:IntKind)(x:AV):Option AV:=match atS x with
 |some (k',s,o,_,_)=>some (.sym k (.tm f k k' s o (.con 0) 0) (loK k) (hiK k) 0)
 |none=>none
def aFi(k k':IntKind)(_ _ _ _:Int):Bool:=qf k k'
def aFj(k k':IntKind)(l u l' u':Int):Bool:=qf k k'&&(inK k l u&&(sB 0 l'||sB u' 0))
def aCS(_ _:IntKind)(_ _ l' _:Int):Bool:= !(sB l' 0)
def aCT(k _:IntKind)(l u l' _:Int):Bool:=inK k l u&& !(sB l' 0)
def uK:IntKind->IntKind
 | .i8=>.u8| .i16=>.u16| .i32=>.u32| .i64=>.u64|k=>k
def aFk(k:IntKind)(x:AV):Option AV:=Option.rec (t1 11 k x) (fun r=>t1 11 k r) (arp (uK k) x)
def KK:AV->AV->Option AV:=fun _ _=>none
def pF:AV->AV->Option AV:=DP ajN KK
def oM:AV->AV->Option AV:=DP ajO KK
def zy:AV->AV->Option AV:=DP aa7 KK
def qt:AV->AV->Option AV:=DP aa6 KK
def pS:AV->AV->Option AV:=DP ajP KK
def qJ:AV->AV->Option AV:=DP ajQ KK
def tF:AV->AV->Option AV:=DP ajR KK
def pT:AV->AV->Option AV:=DP ajS KK
def pG:AV->AV->Option AV:=DP ajT KK
def vI:AV->AV->Option AV:=DP aa8 KK
def EO:AV->AV->Option AV:=DP bOr KK
def EP:AV->AV->Option AV:=DP aa9 KK
def tG:AV->AV->Option AV:=DP ND KK
def A8:AV->AV->Option AV:=DP NF KK
def Du(neg:Bool):AV->AV->Option AV:=DP (Uo neg) KK
def eq1(i:Bool)(x y:AV):Option Bool:=bif i then
 (match x,y with
 | .int k a,.int k' b=>bif qf k k' then some (eqI a b)else none
 | _,_=>eqS x y)else
 (match x,y with
 | .bool a,.bool b=>some (!(xor a b))
 | _,_=>none)
def GX(l:List Bool):List AV->List AV->Option Bool:=
 List.rec (fun _ _=>some true) (fun i _ ih xs ys=>match xs with
  | []=>none
  |x::xs=>match ys with
   | []=>none
   |y::ys=>match eq1 i x y with
    |none=>none
    |some c=>Bool.rec (some false) (ih xs ys) c) l
def ER(neg:Bool)(l:List Bool)(x y:AV):Option AV:=match x with
 | .agg xs=>match y with
  | .agg ys=>match GX l xs ys with
   |some c=>some (.bool (bif neg then !c else c))
   |none=>none
  | _=>none
 | _=>none
def Rp:AV->Option AV
 | .bool b=>some (.bool (!b))
 | _=>none
def Rq(x:AV):Option AV:=Option.rec (match atS x with|some (k,_,_,_,_)=>t1 10 k x|none=>none) (fun r=>some r) (Pz x)
def NH:AV->Option AV
 | .int k n=>EK (rO (Op.unary .xor (.int k n)))
 | _=>none
def put(cs:List AV)(off:Nat)(new:List AV):List AV:=app (tk off cs) (app new (dp (Nat.add off (len new)) cs))
def Ef(cs:List AV)(off n:Nat):Option (List AV):=
 match tk n (dp off cs)with
 |l=>bif Nat.beq (len l) n then some l else none
def part(agg:Bool)(cs:List AV)(off size:Nat):Option AV:=
 match Ef cs off size with
 |none=>none
 |some l=>bif agg then some (.agg l)else match l with
  | [c]=>some c
  | _=>none
def zA(agg:Bool)(r:Rw)(off size:Nat):Option AV:=
 match r.sQ off size with
 |none=>none
 |some l=>bif agg then some (.agg l)else match l with
  | [c]=>some c
  | _=>none
def ES(l:List (Nat×Nat×AV)):List AV->Option (List AV):=
 List.rec (fun cells=>some cells) (fun p _ ih cells=>
  bif Nat.beq (len p.2.2.cells) p.2.1&&Nat.ble (Nat.add p.1 p.2.1) (len cells)then ih (put cells p.1 p.2.2.cells)else none) l
def A9(size:Nat)(l:List (Nat×AV)):Nat->Option (List AV):=
 List.rec (fun _=>some []) (fun p _ ih i=>
  bif Nat.beq p.1 i&&Nat.beq (len p.2.cells) size then(match ih (Nat.add i 1)with|some r=>some (app p.2.cells r)|none=>none)else none) l
def vg(l:List (Nat×lT))(t:Tm):Option (List (Nat×AV)):=
 List.rec (some []) (fun p _ ih=>match p.2 t with
  |some v=>match ih with
   |some vs=>some ((p.1,v)::vs)
   |none=>none
  |none=>none) l
def vh(l:List (Nat×Nat×lT))(t:Tm):Option (List (Nat×Nat×AV)):=
 List.rec (some []) (fun p _ ih=>match p.2.2 t with
  |some v=>match ih with
   |some vs=>some ((p.1,p.2.1,v)::vs)
   |none=>none
  |none=>none) l
def nn(n:Nat)(z:List AV):List AV:=Nat.rec [] (fun _ ih=>app z ih) n
def scale(size:Nat)(l:List (Nat×AV)):List (Nat×Nat×AV):=
 List.rec [] (fun p _ ih=>(Nat.mul p.1 size,size,p.2)::ih) l
def yG(n size:Nat)(zero:List AV)(l:List (Nat×AV)):Option (List AV):=
 match bif Nat.beq (len l) n then A9 size l 0 else none with
 |some cs=>some cs
 |none=>ES (scale size l) (nn n zero)
def ET(h:Hp)(size:Nat)(agg:Bool)(a:AV):Option AV:=
 match a with
 | .ref id off=>match h.cz.get id with
  |some cs=>zA agg cs off size
  |none=>none
 | .qi cs=>part agg cs 0 size
 | _=>none
def kp(h:Hp):AV->Option (Nat×List AV)
 | .pR=>some (0,[])
 | .vG n cs=>some (n,cs)
 | .my id off n sz=>match h.cz.get id with
  |some cs=>match cs.sQ off (Nat.mul n sz)with
   |some l=>some (n,l)
   |none=>none
  |none=>none
 | _=>none
def pW(x:lT):lO:=fun t h=>Option.rec Ro.bad (fun v=>Ro.ok v h) (x t)
def xt(c a b:lT):lO:=fun t h=>match c t with
 |some (.bool c)=>bif c then pW a t h else pW b t h
 | _=>.bad
def NI(cs:List AV):lO:=fun _ h=>.ok (.ref h.next 0) (kA h (Ee cs))
def GY(x:lT):lO:=fun t h=>match x t with
 |some v=>.ok (.ref h.next 0) (kA h (Ee v.cells))
 |none=>.bad
def vi(zero:List AV)(parts:List (Nat×Nat×lT)):lO:=fun t h=>match vh parts t with
 |some vs=>match ES vs zero with
  |some cs=>.ok (.agg cs) h
  |none=>.bad
 |none=>.bad
def EU(n size:Nat)(zero:List AV)(parts:List (Nat×lT)):lO:=fun t h=>match vg parts t with
 |some vs=>bif Nat.beq n 0 then(match vs with| []=>.ok .xr h| _=>.bad)else match yG n size zero vs with
  |some cs=>.ok (.my h.next 0 n size) (kA h (Ee cs))
  |none=>.bad
 |none=>.bad
def r7(size:Nat)(agg:Bool)(a:lT):lO:=fun t h=>match a t with
 |some a=>match ET h size agg a with
  |some v=>.ok v h
  |none=>.bad
 |none=>.bad
def tH(size:Nat)(a x:lT):lO:=fun t h=>match a t with
 |some (.ref id off)=>match x t with
  |some v=>match h.cz.get id with
   |some cs=>bif Nat.beq (len v.cells) size&&(Nat.ble (Nat.add off (len v.cells)) cs.n&&jC kN v.cells)then
    .ok n7 (qj h id (some (cs.put off v.cells)))
    else .bad
   |none=>.bad
  |none=>.bad
 | _=>.bad
def EW(x:lT):lO:=fun t h=>match x t with
 |some (.ref i o)=>.ok (.ref i o) h
 |some (.qi cs)=>.ok (.qi cs) h
 |some (.fn f c)=>.ok (.fn f c) h
 | _=>.bad
def xF(f:AV->AV->Option AV)(x y:lT):lO:=fun t h=>
 Option.rec Ro.bad (fun a=>Option.rec Ro.bad (fun b=>Option.rec Ro.bad (fun v=>Ro.ok v h) (f a b)) (y t)) (x t)
def KV(f:AV->Option AV)(x:lT):lO:=fun t h=>Option.rec Ro.bad (fun a=>Option.rec Ro.bad (fun v=>Ro.ok v h) (f a)) (x t)
def EX(k:IntKind):AV->Option AV:=art (Uq k) fun _=>none
def wJ(x:lT):lO:=fun t h=>match x t with
 |some (.sc (.string s))=>.ok (.my h.next 0 s.size 1) (kA h (Ee (s.data.toList.map fun b=>.int .u8 (.ofNat b.toNat))))
 | _=>.bad
def kFn(f:FuncId)(cap:List lT):lO:=fun t h=>match CC cap t with
 |some vs=>.ok (.fn f vs) h
 |none=>.bad
def sN(size bytes:Nat)(zero:List AV)(l c:lT):lO:=fun t h=>match l t with
 |some (.int _ (.ofNat l))=>match c t with
  |some (.int _ (.ofNat c))=>bif Nat.ble l c&&Nat.ble (Nat.mul c bytes) 70368744177664 then
    bif Nat.beq c 0 then .ok .xr h else .ok (.my h.next 0 l size) (kA h ⟨Nat.mul c (len zero),zero,.nil⟩)
   else .bad
  | _=>.bad
 | _=>.bad
def vj(o:Option lT)(t:Tm)(d:Nat):Option Nat:=match o with
 |none=>some d
 |some o=>match o t with
  |some (.int _ (.ofNat n))=>some n
  | _=>none
def bounds(lo hi:Option lT)(t:Tm)(n:Nat):Option (Nat×Nat):=match vj lo t 0 with
 |some l=>match vj hi t n with
  |some h=>bif Nat.ble l h&&Nat.ble h n then some (l,h)else none
  |none=>none
 |none=>none
def qK(x:lT)(lo hi:Option lT):lO:=fun t h=>match x t with
 |some (.sc (.string s))=>match bounds lo hi t s.size with
  |some (l,e)=>.ok (.sc (.string (s.extract l e))) h
  |none=>.bad
 | _=>.bad
def vk(size:Nat)(x:lT)(lo hi:Option lT):lO:=fun t h=>match x t with
 |some .pR=>match bounds lo hi t 0 with
  |some _=>.ok .pR h
  |none=>.bad
 |some (.my id off n sz)=>match bounds lo hi t n with
  |some (l,e)=>bif Nat.beq sz size then .ok (.my id (Nat.add off (Nat.mul l size)) (Nat.sub e l) sz) h else .bad
  |none=>.bad
 |some (.vG n cs)=>match bounds lo hi t n with
  |some (l,e)=>.ok (.vG (Nat.sub e l) (tk (Nat.mul (Nat.sub e l) size) (dp (Nat.mul l size) cs))) h
  |none=>.bad
 | _=>.bad
def mQ(size:Nat)(x:lT)(lo hi:Option lT):lO:=fun t h=>match x t with
 |some a=>bif z9 a then(match bounds lo hi t 0 with
  |some _=>.ok a h
  |none=>.bad)else vk size x lo hi t h
 |none=>.bad
def EY(x:lT):lO:=fun t h=>match x t with
 |some .pR=>.ok (.int .i64 0) h
 | _=>.bad
def ph(n size:Nat)(x:lT)(lo hi:Option lT):lO:=fun t h=>match x t with
 |some (.ref id off)=>match bounds lo hi t n with
  |some (l,e)=>match h.cz.get id with
   |some cs=>bif Nat.ble (Nat.add off (Nat.mul n size)) cs.n then .ok (.my id (Nat.add off (Nat.mul l size)) (Nat.sub e l) size) h else .bad
   |none=>.bad
  |none=>.bad
 | _=>.bad
def kO(off:Nat)(x:lT):lO:=fun t h=>match x t with
 |some (.ref id o)=>.ok (.ref id (Nat.add o off)) h
 |some (.qi cs)=>.ok (.qi (dp off cs)) h
 | _=>.bad
def tJ(off size:Nat)(agg:Bool)(x:lT):lO:=fun t h=>match x t with
 |some (.agg cs)=>match part agg cs off size with
  |some v=>.ok v h
  |none=>.bad
 | _=>.bad
def A'(size:Nat)(x i:lT):lO:=fun t h=>match i t with
 |some (.int _ (.ofNat i))=>match x t with
  |some (.my id off n sz)=>bif Nat.blt i n&&Nat.beq sz size then .ok (.ref id (Nat.add off (Nat.mul i size))) h else .bad
  |some (.vG n cs)=>bif Nat.blt i n then .ok (.qi (dp (Nat.mul i size) cs)) h else .bad
  | _=>.bad
 | _=>.bad
def zi(n size:Nat)(x i:lT):lO:=fun t h=>match i t with
 |some (.int _ (.ofNat i))=>match x t with
  |some (.ref id off)=>bif Nat.blt i n then .ok (.ref id (Nat.add off (Nat.mul i size))) h else .bad
  |some (.qi cs)=>bif Nat.blt i n then .ok (.qi (dp (Nat.mul i size) cs)) h else .bad
  | _=>.bad
 | _=>.bad
def sE(n size:Nat)(agg:Bool)(x i:lT):lO:=fun t h=>match x t with
 |some (.agg cs)=>match i t with
  |some (.int _ (.ofNat i))=>bif Nat.blt i n then(match part agg cs (Nat.mul i size) size with
   |some v=>.ok v h
   |none=>.bad)else .bad
  | _=>.bad
 | _=>.bad
def qL(x i:lT):lO:=fun t h=>match x t with
 |some (.sc (.string s))=>match i t with
  |some (.int _ (.ofNat i))=>match sD s.data.toList i with
   |some b=>.ok (.int .u8 b.toNat) h
   |none=>.bad
  |some (.sym _ a lo hi o)=>bif !(sB (Int.add lo o) 0)&&sB (Int.add hi o) (.ofNat s.size)then .ok (.sym .u8 (.ix (s.data.toList.map UInt8.toNat) a o) 0 255 0) h else .bad
  | _=>.bad
 | _=>.bad
def oN(x:lT)(i:Nat):lO:=fun t h=>match x t with
 |some (.DO vs)=>match sD vs i with
  |some v=>.ok v h
  |none=>.bad
 | _=>.bad
def xu(x:lT):lO:=fun t h=>match x t with
 |some (.sc (.string s))=>.ok (.int .i64 (.ofNat s.size)) h
 | _=>.bad
def EZ(x:lT):lO:=fun t h=>match x t with
 |some (.my _ _ n _)=>.ok (.int .i64 (.ofNat n)) h
 |some (.vG n _)=>.ok (.int .i64 (.ofNat n)) h
 |some .pR=>.ok (.int .i64 0) h
 | _=>.bad
def Ba(size bytes:Nat)(h:Hp)(s:AV)(n:Nat)(new:List AV):Ro:=match s with
 | .pR=>bif Nat.beq n 0 then .ok .pR h else
   bif Nat.ble (Nat.mul n bytes) 70368744177664&&(jC kN new&&(Nat.beq (len new) (Nat.mul n size)&&Nat.ble n 70368744177664))then .ok (.my h.next 0 n size) (kA h (Ee new))else .bad
 | .my id off ln sz=>bif Nat.beq n 0 then .ok (.my id off ln sz) h else match h.cz.get id with
  |none=>.bad
  |some cs=>match cs.sub off (Nat.mul ln sz)with
   |none=>.bad
   |some pre=>bif Nat.ble (Nat.mul (Nat.add ln n) bytes) 70368744177664&&(Nat.beq sz size&&(jC kN new&&(Nat.beq (len new) (Nat.mul n size)&&Nat.ble (Nat.add ln n) 70368744177664)))then
    .ok (.my h.next 0 (Nat.add ln n) sz) (kA (qj h id none) (pre.app new))else .bad
 | .vG ln cs=>bif Nat.beq n 0 then .ok (.vG ln cs) h else .bad
 | _=>.bad
def wK(size bytes:Nat)(s x:lT):lO:=fun t h=>match s t with
 |some s=>match x t with
  |some x=>match kp h x with
   |none=>.bad
   |some (n,new)=>Ba size bytes h s n new
  |none=>.bad
 |none=>.bad
def mR(size bytes:Nat)(s x:lT):lO:=fun t h=>match s t with
 |some a=>match x t with
  |some b=>bif z9 a&&isZ b then .ok a h else wK size bytes (wO s) (wO x) t h
  |none=>.bad
 |none=>.bad
def xJ(size bytes:Nat)(zero:List AV)(s x:lT):lO:=fun t h=>match s t with
 |some a=>match x t with
  |some (.int _ (.ofNat n))=>bif z9 a&&Nat.beq n 0 then .ok a h else Ba size bytes h (Ct a) n (nn n zero)
  | _=>.bad
 |none=>.bad
def Bb(bytes:Nat)(s x:lT):lO:=fun t h=>match s t with
 |some a=>match x t with
  |some (.sc (.string b))=>bif z9 a&&Nat.beq b.size 0 then .ok a h else Ba 1 bytes h (Ct a) b.size (b.data.toList.map fun b=>.int .u8 (.ofNat b.toNat))
  | _=>.bad
 |none=>.bad
def zC(x:lT):lO:=fun t h=>match x t with
 |some (.my id off n sz)=>bif Nat.beq n 0 then .bad else(match h.cz.get id with
  |some _=>.ok (.my id off n sz) h
  |none=>.bad)
 | _=>.bad
def E5(l:List AV):Option (List Int):=List.rec (some []) (fun a _ ih=>match a with
 | .int .u8 n=>(match ih with
  |some r=>some (n::r)
  |none=>none)
 | _=>none) l
def KW(l:List Int):ByteArray:=⟨(l.map fun n=>UInt8.ofNat n.toNat).toArray⟩
def GZ(x:lT):lO:=fun t h=>match wO x t with
 |some a=>(match kp h a with
  |some (n,cs)=>(match E5 cs with
   |some l=>bif Nat.beq (len l) n then .ok (.sc (.string (KW l))) h else .bad
   |none=>.bad)
  |none=>.bad)
 |none=>.bad
def sO(size:Nat)(d s:lT):lO:=fun t h=>match d t with
 |some .pR=>match s t with
  |some x=>match kp h x with
   |some _=>.ok (.int .i64 (.ofNat 0)) h
   |none=>.bad
  |none=>.bad
 |some (.my id off n sz)=>match s t with
  |some x=>match kp h x with
   |some (m,src)=>bif Nat.beq (EL m n) 0 then .ok (.int .i64 (.ofNat 0)) h else match h.cz.get id with
    |some cs=>bif (Nat.blt 0 size&&(Nat.beq sz size&&(Nat.beq (len src) (Nat.mul m size)&&jC kN src)))&&Nat.ble (Nat.add off (Nat.mul (EL m n) size)) cs.n then
     .ok (.int .i64 (.ofNat (EL m n))) (qj h id (some (cs.put off (tk (Nat.mul (EL m n) size) src))))else .bad
    |none=>.bad
   |none=>.bad
  |none=>.bad
 | _=>.bad
def G1(x y z:lT):lO:=fun t h=>match y t with
 |some (.int _ (.ofNat y))=>match z t with
  |some (.int _ (.ofNat z))=>bif Nat.beq y 0&&Nat.beq z 0 then(match x t with
   |some .pR=>.ok .pR h
   |some (.my _ _ _ _)=>.ok .pR h
   |some (.vG _ _)=>.ok .pR h
   | _=>.bad)else .bad
  | _=>.bad
 | _=>.bad
def G2(x y:lT):lO:=xF (DP (uG fun k a b=>some (.int k (bif sB b a then b else a))) fun x y=>Option.rec none (fun c=>some (bif c then y else x)) (Up y x)) x y
def G3(x y:lT):lO:=xF (DP (uG fun k a b=>some (.int k (bif sB a b then b else a))) fun x y=>Option.rec none (fun c=>some (bif c then y else x)) (Up x y)) x y
def Ru:lO:=fun _ h=>.ok .any h
def jL:lO:=fun _ _=>.bad
def Dv(call:kh)(f:FuncId)(args:List lT):lO:=fun t h=>match CC args t with
 |some vs=>call f vs h
 |none=>.bad
def xK(call:kh)(f:lT)(args:List lT):lO:=fun t h=>match f t with
 |some (.fn k cap)=>match CC args t with
  |some vs=>call k (app vs cap) h
  |none=>.bad
 | _=>.bad
def fi:uM:=fun t h=>.ok t h
def st(s:arl)(f:lO)(k:uM):uM:=fun t h=>Ro.rec Rt.bad (fun v h=>k (s v t) h) (f t h)
def sn(f:lO)(k:uM):uM:=fun t h=>Ro.rec Rt.bad (fun _ h=>k t h) (f t h)
def cRg(r:uM):GP:=fun t h=>Rt.rec Rc.bad (fun t h=>Rc.norm t h) (r t h)
def xw:GP:=fun t h=>.norm t h
def lF(a b:GP):GP:=fun t h=>Rc.rec Rc.bad (fun t h=>b t h) (fun t h=>Rc.ret t h) (fun i t h=>Rc.exit i t h) (a t h)
def cIf(c:lT)(a b:GP):GP:=fun t h=>match c t with
 |some (.bool c)=>Bool.rec (b t h) (a t h) c
 | _=>.bad
def Cu(id:Nat)(b:GP):GP:=fun t h=>
 Rc.rec Rc.bad (fun t h=>Rc.norm t h) (fun t h=>Rc.ret t h) (fun i t h=>Bool.rec (Rc.exit i t h) (Rc.norm t h) (Nat.beq i id)) (b t h)
def cLp(n:Nat)(b:GP):GP:=
 Nat.rec (fun _ _=>.bad) (fun _ ih t h=>Rc.rec Rc.bad (fun t h=>ih t h) (fun t h=>Rc.ret t h) (fun i t h=>Rc.exit i t h) (b t h)) n
def Ur(i:Nat):GP:=fun t h=>.exit i t h
def ks:GP:=fun t h=>.ret t h
def NJ:GP:=fun _ _=>.bad
inductive RV where
 |tmp (i:Nat)
 |cell (i size:Nat) (agg:Bool)
def lB(t:Tm)(h:Hp):RV->Option AV
 | .tmp i=>Tm.at t i
 | .cell i size agg=>match Tm.at t i with
  |some a=>ET h size agg a
  |none=>none
def HB(t:Tm)(h:Hp)(l:List RV):Option (List AV):=
 List.rec (some []) (fun r _ ih=>match lB t h r with
  |some v=>match ih with
   |some vs=>some (v::vs)
   |none=>none
  |none=>none) l
structure Fb where
 ntmps:Nat
 res:List RV
 body:kh->Nat->GP
def wL(l:List AV):Nat->Tm->Tm:=
 List.rec (fun _ t=>t) (fun v _ ih i t=>ih (Nat.add i 1) (Tm.put t i (some v))) l
def fin(res:List RV)(t:Tm)(h:Hp):Ro:=
 match HB t h res with
 |some [v]=>.ok v h
 |some vs=>.ok (.DO vs) h
 |none=>.bad
def yH:List Bool->Nat
 | []=>0
 |b::l=>b.toNat+2*yH l
theorem mq: ∀ (l:List Bool) (i:Nat),(yH l).testBit i=l.getD i false
 | [],i=>by simp[yH]
 |b::l,0=>by
  simp only[yH,Nat.testBit_zero];cases b<;>simp<;>omega
 |b::l,i+1=>by
  have h:(b.toNat+2*yH l) / 2=yH l:=by cases b<;>simp<;>omega
  rw[yH,Nat.testBit_succ,h,mq l i];simp
theorem awS{l m:List Bool}(h: ∀ i,l.getD i false=m.getD i false):yH l=yH m:=
 Nat.eq_of_testBit_eq fun i=>by rw[mq,mq,h]
theorem awT(f:Bool->Bool->Bool)(g:Nat->Nat->Nat)(hg: ∀ a b i,(g a b).testBit i=f (a.testBit i) (b.testBit i))(hf:f false false=false)
 (l m:List Bool)(h:l.length=m.length):yH (List.zipWith f l m)=g (yH l) (yH m):=by
 apply Nat.eq_of_testBit_eq;intro i;rw[mq,hg,mq,mq];by_cases hi:i<l.length
 ·simp[List.getD,List.getElem?_zipWith,hi,h▸hi]
 ·simp[List.getD,List.getElem?_zipWith,List.getElem?_eq_none (Nat.le_of_not_lt hi),List.getElem?_eq_none (Nat.le_of_not_lt (h▸hi)),hf]
theorem aru(l:List Bool)(n:Nat):yH (l.take n)=yH l % 2 ^ n:=by
 apply Nat.eq_of_testBit_eq;intro i;rw[mq,Nat.testBit_mod_two_pow,mq];by_cases h:i<n<;>simp[List.getD,List.getElem?_take,h]
theorem arv(l:List Bool)(n:Nat):yH (l.drop n)=yH l / 2 ^ n:=by
 apply Nat.eq_of_testBit_eq;intro i;rw[mq,<-Nat.shiftRight_eq_div_pow,Nat.testBit_shiftRight,mq];simp[List.getD,List.getElem?_drop]
theorem awU(l:List Bool)(n:Nat):yH (List.replicate n false++l)=yH l*2 ^ n:=by
 induction n with
 |zero=>simp
 |succ n ih=>
  simp only[List.replicate_succ,List.cons_append,yH,ih,Nat.pow_succ];simp;rw[Nat.mul_comm 2,Nat.mul_assoc]
class Io where
 io:Nat->Int
 tb:List (Nat×List Value)
variable [Io]
def ax'(c:Nat):Bool:=match c with
 |0=>false
 |1=>true
 |c+2=>(Io.io (c / 64) % 18446744073709551616).toNat.testBit (c % 64)
def Us(l h x:Int):Int:=if x<l then l else if h<x then h else x
def oO:SV->Int
 | .var i=>Io.io i
 | .NC i=>Io.io i % 18446744073709551616
 | .umod i c=>(Io.io i % 18446744073709551616) % (c:Int)
 | .lin i m=>m*Io.io i
 | .dig i p m=>(Io.io i / (p:Int)) % (m:Int)
 | .bits l=>(yH (l.map ax'):Int)
 | .cl i l h=>Us l h (Io.io i)
 | .pr i l h j=>Us l h (Io.io i)+4294967296*Io.io j
 | .ad i j l h=>Io.io i+Us l h (Io.io j)
 | .con n=>n
 | .sm l=>(l.map Io.io).foldr (· + ·) 0
 | .ix l a o=>(l.getD (oO a+o).toNat 0:Nat)
 | .tm f k _ a oa b ob=>tmF f k (oO a+oa) (oO b+ob)
structure G where
 m:Nat->Option (Nat×Nat)
 mM:Nat->Prop
def kP(w:World)(b:Nat):Nat:=match w.heap[b]? with
 |some (.cells c _ _)=>c.size
 | _=>0
def lr(w:World)(b o:Nat)(vs:List Value):Prop:= ∀ j v,vs[j]? =some v->w.cell? ⟨b,o+j,none⟩=some v
mutual
def VR(g:G)(w:World):AV->Value->Prop
 | .int k n,v=>v=.int k n
 | .bool b,v=>v=.bool b
 | .sc x,v=>v=x/\x.oneCell'=true
 | .agg cs,v=> ∃ vs,v=.agg vs/\jy g w cs vs.toList
 | .DO cs,v=> ∃ vs,v=.tuple vs/\jy g w cs vs.toList
 | .ref id off,v=> ∃ b s,g.m id=some (b,s)/\v=.pointer (some ⟨b,s+off,none⟩)
 | .my id off n sz,v=>(n=0/\ ∃ a,v=.slice (some a) 0 0)∨
   ∃ b s cap,g.m id=some (b,s)/\v=.slice (some ⟨b,s+off,none⟩) n cap/\n<=cap/\s+off+cap*sz<=kP w b
 | .vG n cs,v=> ∃ a cap,v=.slice a n cap/\n<=cap/\
   ((n=0/\cs=[])∨ ∃ b o vs,a=some ⟨b,o,none⟩/\g.mM b/\lr w b o vs/\jy g w cs vs)
 | .qi cs,v=> ∃ b o vs,v=.pointer (some ⟨b,o,none⟩)/\g.mM b/\lr w b o vs/\jy g w cs vs
 | .pR,v=> ∃ a,v=.slice a 0 0
 | .xr,v=> ∃ a,v=.slice (some a) 0 0
 | .fn f cap,v=> ∃ vs,v=.func (.func f) #[] vs/\jy g w cap vs.toList
 | .sym k s lo hi off,v=>v=.int k (oO s+off)/\lo<=oO s/\oO s<=hi
 | .any,v=>v.oneCell'=true
def jy(g:G)(w:World):List AV->List Value->Prop
 | [],l=>l=[]
 |a::r,l=> ∃ v l',l=v::l'/\VR g w a v/\jy g w r l'
end
def qM(g:G)(h:Hp)(b:Nat):Prop:= ∃ id cs s,h.cz.get id=some cs/\g.m id=some (b,s)
structure FT(C:Array Value) where
 el:TypeId
 fz:Nat×Nat
 ok':fz.1=fz.2∨C.size<=fz.1
omit [Io] in
theorem FT.ok{C:Array Value}(e:FT C): ∀ i,i<C.size-> ¬ (e.fz.1<=i/\i<e.fz.2):=fun i hi h=>by have:=e.ok';omega
def FT.nw(C:Array Value)(el:TypeId):FT C:=⟨el,(0,0),.inl rfl⟩
def FT.to{C C':Array Value}(e:FT C)(h:C'.size=C.size):FT C':=⟨e.el,e.fz,by have:=e.ok';omega⟩
def vm(g:G)(w:World):Prop:= ∀ p,p∈Io.tb->g.mM p.1/\lr w p.1 0 p.2
structure HR(g:G)(w:World)(h:Hp):Prop where
 fresh: ∀ id,h.next<=id->g.m id=none
 cz: ∀ id cs,h.cz.get id=some cs-> ∃ b s C,∃ el:FT C,∃ vs,g.m id=some (b,s)/\w.heap[b]? =some (.cells C el.el el.fz)/\ ¬ g.mM b/\jy g w cs.toL vs/\(∀ j v,vs[j]? =some v->C[s+j]? =some v)
 inj: ∀ id Eg b s s' cs cs',h.cz.get id=some cs->h.cz.get Eg=some cs'->g.m id=some (b,s)->g.m Eg=some (b,s')->id=Eg
 mM: ∀ b,g.mM b->b<w.heap.size
 tb:vm g w
structure HC(g:G)(w:World)(h:Hp):Prop where
 cz: ∀ id cs,h.cz.get id=some cs-> ∃ b s C,∃ el:FT C,∃ vs,g.m id=some (b,s)/\w.heap[b]? =some (.cells C el.el el.fz)/\ ¬ g.mM b/\jy g w cs.toL vs/\(∀ j v,vs[j]? =some v->C[s+j]? =some v)
 mM: ∀ b,g.mM b->b<w.heap.size
theorem HR.toHC{g w h}(H:HR g w h):HC g w h:=⟨H.cz,H.mM⟩
structure Ext(g:G)(w:World)(h:Hp)(g':G)(w':World)(h':Hp):Prop where
 os:w'.os=w.os
 tape:w'.tape=w.tape
 output:w'.output=w.output
 size:w.heap.size<=w'.heap.size
 next:h.next<=h'.next
 m: ∀ id x,g.m id=some x->g'.m id=some x
 zj: ∀ b,b<w.heap.size-> ¬ qM g h b->w'.heap[b]? =w.heap[b]?
 rows: ∀ b,kP w b<=kP w' b
 mM: ∀ b,g.mM b->g'.mM b
 Rv: ∀ b,g'.mM b->g.mM b∨qM g h b∨w.heap.size<=b
 vJ: ∀ b,qM g' h' b->qM g h b∨w.heap.size<=b
omit [Io] in
theorem Ext.refl(g:G)(w:World)(h:Hp):Ext g w h g w h:=
 ⟨rfl,rfl,rfl,Nat.le_refl _,Nat.le_refl _,fun _ _ e=>e,fun _ _ _=>rfl,fun _=>Nat.le_refl _,fun _ i=>i,fun _ i=>.inl i,fun _ o=>.inl o⟩
omit [Io] in
theorem Ext.trans{g w h g1 w1 h1 g2 w2 h2}(a:Ext g w h g1 w1 h1)(b:Ext g1 w1 h1 g2 w2 h2):Ext g w h g2 w2 h2 where
 os:=b.os.trans a.os
 tape:=b.tape.trans a.tape
 output:=b.output.trans a.output
 size:=Nat.le_trans a.size b.size
 next:=Nat.le_trans a.next b.next
 m:=fun id x e=>b.m id x (a.m id x e)
 zj:=fun k hk ho=>(b.zj k (Nat.lt_of_lt_of_le hk a.size) (fun o=>(a.vJ k o).elim ho (fun e=>absurd hk (Nat.not_lt.2 e)))).trans (a.zj k hk ho)
 rows:=fun k=>Nat.le_trans (a.rows k) (b.rows k)
 mM:=fun k i=>b.mM k (a.mM k i)
 Rv:=fun k i=>by
  rcases b.Rv k i with i|o|l
  ·exact a.Rv k i
  ·rcases a.vJ k o with o|l
   ·exact .inr (.inl o)
   ·exact .inr (.inr l)
  ·exact .inr (.inr (Nat.le_trans a.size l))
 vJ:=fun k o=>by
  rcases b.vJ k o with o|l
  ·exact a.vJ k o
  ·exact .inr (Nat.le_trans a.size l)
theorem HC.tx{g w h}(H:HC g w h){b:Nat}(i:g.mM b): ¬ qM g h b:=by
 rintro⟨id,cs,s,hg,hm⟩;obtain⟨b',s',C,el,vs,T5,_,hi,_⟩:=H.cz id cs hg;rw[hm]at T5;obtain⟨rfl,rfl⟩:=Prod.mk.inj (Option.some.inj T5);exact hi i
theorem HR.tx{g w h}(H:HR g w h){b:Nat}(i:g.mM b): ¬ qM g h b:=H.toHC.tx i
structure Bc(g:G)(w:World)(g':G)(w':World):Prop where
 m: ∀ id x,g.m id=some x->g'.m id=some x
 mM: ∀ b,g.mM b->g'.mM b
 IJ: ∀ b,g.mM b->w'.heap[b]? =w.heap[b]?
 rows: ∀ b,kP w b<=kP w' b
theorem Ext.mono{g w h g' w' h'}(H:HC g w h)(E:Ext g w h g' w' h'):Bc g w g' w':=
 ⟨E.m,E.mM,fun b i=>E.zj b (H.mM b i) (H.tx i),E.rows⟩
omit [Io] in
theorem lr.IJ{w w':World}{b o vs}(h:w'.heap[b]? =w.heap[b]?)(c:lr w b o vs):lr w' b o vs:=by
 intro j v hj;have:=c j v hj;unfold World.cell? at this ⊢;rw[h];exact this
theorem vm.mono{g w g' w'}(E:Bc g w g' w')(t:vm g w):vm g' w':=fun p hp=>⟨E.mM _ (t p hp).1,lr.IJ (E.IJ _ (t p hp).1) (t p hp).2⟩
theorem vm.ext{g w h g' w' h'}(H:HR g w h)(E:Ext g w h g' w' h'):vm g' w':=vm.mono (E.mono H.toHC) H.tb
mutual
theorem VR.ny{g w g' w'}(E:Bc g w g' w'): ∀ (a:AV) (v:Value),VR g w a v->VR g' w' a v
 | .int _ _,v,r=>by simpa only[VR]using r
 | .bool _,v,r=>by simpa only[VR]using r
 | .sc _,v,r=>by simpa only[VR]using r
 | .pR,v,r=>by simpa only[VR]using r
 | .xr,v,r=>by simpa only[VR]using r
 | .sym _ _ _ _ _,v,r=>by simpa only[VR]using r
 | .any,v,r=>by simpa only[VR]using r
 | .agg cs,v,r=>by
  simp only[VR]at r ⊢;obtain⟨vs,e,q⟩:=r;exact⟨vs,e,jy.ny E cs _ q⟩
 | .DO cs,v,r=>by
  simp only[VR]at r ⊢;obtain⟨vs,e,q⟩:=r;exact⟨vs,e,jy.ny E cs _ q⟩
 | .fn f cs,v,r=>by
  simp only[VR]at r ⊢;obtain⟨vs,e,q⟩:=r;exact⟨vs,e,jy.ny E cs _ q⟩
 | .ref id off,v,r=>by
  simp only[VR]at r ⊢;obtain⟨b,s,e,q⟩:=r;exact⟨b,s,E.m _ _ e,q⟩
 | .my id off n sz,v,r=>by
  simp only[VR]at r ⊢
  rcases r with r|⟨b,s,cap,e,q,l,z⟩
  ·exact .inl r
  ·exact .inr ⟨b,s,cap,E.m _ _ e,q,l,Nat.le_trans z (E.rows b)⟩
 | .vG n cs,v,r=>by
  simp only[VR]at r ⊢;obtain⟨a,cap,e,l,r⟩:=r;refine⟨a,cap,e,l,?_⟩
  rcases r with r|⟨b,o,vs,e,i,c,q⟩
  ·exact .inl r
  ·exact .inr ⟨b,o,vs,e,E.mM b i,c.IJ (E.IJ b i),jy.ny E cs _ q⟩
 | .qi cs,v,r=>by
  simp only[VR]at r ⊢;obtain⟨b,o,vs,e,i,c,q⟩:=r;exact⟨b,o,vs,e,E.mM b i,c.IJ (E.IJ b i),jy.ny E cs _ q⟩
theorem jy.ny{g w g' w'}(E:Bc g w g' w'): ∀ (l:List AV) (vs:List Value),jy g w l vs->jy g' w' l vs
 | [],vs,r=>by simpa only[jy]using r
 |a::l,vs,r=>by
  simp only[jy]at r ⊢;obtain⟨v,l',e,q,r⟩:=r;exact⟨v,l',e,VR.ny E a v q,jy.ny E l l' r⟩
end
theorem VR.mono{g w h g' w' h'}(H:HR g w h)(E:Ext g w h g' w' h')(a:AV)(v:Value)(r:VR g w a v):VR g' w' a v:=VR.ny (E.mono H.toHC) a v r
theorem jy.mono{g w h g' w' h'}(H:HR g w h)(E:Ext g w h g' w' h')(l:List AV)(vs:List Value)(r:jy g w l vs):jy g' w' l vs:=jy.ny (E.mono H.toHC) l vs r
omit [Io] in
theorem Tr.get_nil{α:Type}(n:Nat):(Tr.nil:Tr α).get n=none:=rfl
omit [Io] in
theorem Tr.xL{α:Type}(l r:Tr α)(v:Option α)(n:Nat):
 (Tr.node l v r).get n=if n=0 then v else if n % 2=1 then l.get (n / 2)else r.get (n / 2 - 1):=by
 show oL (Nat.beq n 0) v (oL (Nat.beq (Nat.mod n 2) 1) (l.get (Nat.div n 2)) (r.get (Nat.sub (Nat.div n 2) 1)))=_;by_cases h:n=0
 ·subst h;rfl
 ·rw[if_neg h,show Nat.beq n 0=false from by cases n with|zero=>exact absurd rfl h|succ n=>rfl];by_cases h2:n % 2=1
  ·rw[if_pos h2,show Nat.beq (Nat.mod n 2) 1=true from by rw[show Nat.mod n 2=1 from h2];rfl];rfl
  ·rw[if_neg h2,show Nat.beq (Nat.mod n 2) 1=false from by rw[show Nat.mod n 2=0 from by show n % 2=0;omega];rfl];rfl
omit [Io] in
theorem Tr.get_eq{α:Type}(t:Tr α)(n:Nat):
 t.get n=if n=0 then t.hd else if n % 2=1 then t.lf.get (n / 2)else t.rt.get (n / 2 - 1):=by
 cases t with
 |nil=>simp[Tr.get_nil,Tr.hd,Tr.lf,Tr.rt]
 |node l v r=>rw[Tr.xL];rfl
omit [Io] in
theorem Tr.Ry{α:Type}(f:Nat)(t:Tr α)(n:Nat)(x:Option α):
 Tr.NB (f+1) t n x=if n=0 then .node t.lf x t.rt else if n % 2=1 then .node (Tr.NB f t.lf (n / 2) x) t.hd t.rt
  else .node t.lf t.hd (Tr.NB f t.rt (n / 2 - 1) x):=by
 show oL (Nat.beq n 0) (Tr.node t.lf x t.rt) (oL (Nat.beq (Nat.mod n 2) 1) (Tr.node (Tr.NB f t.lf (Nat.div n 2) x) t.hd t.rt)
  (Tr.node t.lf t.hd (Tr.NB f t.rt (Nat.sub (Nat.div n 2) 1) x)))=_
 by_cases h:n=0
 ·subst h;rfl
 ·rw[if_neg h,show Nat.beq n 0=false from by cases n with|zero=>exact absurd rfl h|succ n=>rfl];by_cases h2:n % 2=1
  ·rw[if_pos h2,show Nat.beq (Nat.mod n 2) 1=true from by rw[show Nat.mod n 2=1 from h2];rfl];rfl
  ·rw[if_neg h2,show Nat.beq (Nat.mod n 2) 1=false from by rw[show Nat.mod n 2=0 from by show n % 2=0;omega];rfl];rfl
omit [Io] in
theorem Tr.Ut{α:Type}(f:Nat): ∀ (t:Tr α) (n:Nat) (x:Option α) (k:Nat),n<f->(Tr.NB f t n x).get k=if k=n then x else t.get k:=by
 induction f with
 |zero=>intro t n x k h;omega
 |succ f ih=>
  intro t n x k h;rw[Tr.Ry];by_cases h0:n=0
  ·subst h0;rw[if_pos rfl,Tr.xL,Tr.get_eq t];by_cases hk:k=0
   ·simp[hk]
   ·simp[hk]
  ·rw[if_neg h0];by_cases h1:n % 2=1
   ·rw[if_pos h1,Tr.xL,Tr.get_eq t k];by_cases hk:k=0
    ·subst hk;simp;intro e;omega
    ·simp only[hk,if_false];by_cases hk1:k % 2=1
     ·simp only[hk1,if_true];rw[ih _ _ _ _ (by omega)];by_cases e:k=n
      ·subst e;simp
      ·rw[if_neg e,if_neg (by omega)]
     ·simp only[hk1,if_false];rw[if_neg (by intro e;subst e;omega)]
   ·rw[if_neg h1,Tr.xL,Tr.get_eq t k];by_cases hk:k=0
    ·subst hk;simp;intro e;omega
    ·simp only[hk,if_false];by_cases hk1:k % 2=1
     ·simp only[hk1,if_true];rw[if_neg (by intro e;subst e;omega)]
     ·simp only[hk1,if_false];rw[ih _ _ _ _ (by omega)];by_cases e:k=n
      ·subst e;simp
      ·rw[if_neg e,if_neg (by omega)]
omit [Io] in
theorem Tr.qO{α:Type}(t:Tr α)(n:Nat)(x:Option α)(k:Nat):(t.set n x).get k=if k=n then x else t.get k:=
 Tr.Ut _ t n x k (Nat.lt_succ_self n)
omit [Io] in
theorem F8.yI{α:Type}(f:F8 α)(x:α)(i j:Nat)(hi:i<8)(hj:j<8):(f.Ns x i).KJ j=if j=i then x else f.KJ j:=by
 rcases(by omega:i=0∨i=1∨i=2∨i=3∨i=4∨i=5∨i=6∨i=7)with rfl|rfl|rfl|rfl|rfl|rfl|rfl|rfl<;>
 rcases(by omega:j=0∨j=1∨j=2∨j=3∨j=4∨j=5∨j=6∨j=7)with rfl|rfl|rfl|rfl|rfl|rfl|rfl|rfl<;>rfl
omit [Io] in
theorem Tm.pK(t:Tm)(i j:Nat)(x:Option AV)(hi:i<512)(hj:j<512):(t.put i x).at j=if j=i then x else t.at j:=by
 unfold Tm.put Tm.at
 rw[F8.yI _ _ _ _ (by omega) (by omega)];by_cases h1:j / 64=i / 64
 ·rw[if_pos h1,F8.yI _ _ _ _ (by omega) (by omega)];by_cases h2:j / 8 % 8=i / 8 % 8
  ·rw[if_pos h2,F8.yI _ _ _ _ (by omega) (by omega)];by_cases h3:j % 8=i % 8
   ·rw[if_pos h3,if_pos (by omega)]
   ·rw[if_neg h3,if_neg (by intro e;subst e;exact h3 rfl),h1,h2]
  ·rw[if_neg h2,if_neg (by intro e;subst e;exact h2 rfl),h1]
 ·rw[if_neg h1,if_neg (by intro e;subst e;exact h1 rfl)]
omit [Io] in
theorem Tm.PA(j:Nat)(hj:j<512):Tm.none.at j=Option.none:=by
 unfold Tm.none Tm.at
 rcases(by omega:j / 64=0∨j / 64=1∨j / 64=2∨j / 64=3∨j / 64=4∨j / 64=5∨j / 64=6∨j / 64=7)with h|h|h|h|h|h|h|h<;>rw[h]<;>
 rcases(by omega:j / 8 % 8=0∨j / 8 % 8=1∨j / 8 % 8=2∨j / 8 % 8=3∨j / 8 % 8=4∨j / 8 % 8=5∨j / 8 % 8=6∨j / 8 % 8=7)with h|h|h|h|h|h|h|h<;>rw[h]<;>
 rcases(by omega:j % 8=0∨j % 8=1∨j % 8=2∨j % 8=3∨j % 8=4∨j % 8=5∨j % 8=6∨j % 8=7)with h|h|h|h|h|h|h|h<;>rw[h]<;>rfl
def TR(g:G)(w:World)(nt:Nat)(t:Tm)(tmps:Array Value):Prop:=
 nt<=512/\tmps.size=nt/\ ∀ i v,i<512->t.at i=some v->i<nt/\VR g w v (tmps.getD i undef)
theorem TR.mono{g w h g' w' h' nt t tmps}(H:HR g w h)(E:Ext g w h g' w' h')(r:TR g w nt t tmps):TR g' w' nt t tmps:=
 ⟨r.1,r.2.1,fun i v hi e=>⟨(r.2.2 i v hi e).1,VR.mono H E _ _ (r.2.2 i v hi e).2⟩⟩
theorem TR.put{g w nt t tmps}(r:TR g w nt t tmps){d:Nat}(hd:d<nt){a:AV}{v:Value}(hv:VR g w a v):
 TR g w nt (t.put d (some a)) (tmps.setIfInBounds d v):=by
 obtain⟨h1,h2,h3⟩:=r;refine⟨h1,by simpa using h2,fun i x hi e=>?_⟩;rw[Tm.pK _ _ _ _ (by omega) hi]at e;by_cases qk:i=d
 ·subst qk;rw[if_pos rfl]at e;obtain rfl:=Option.some.inj e;refine⟨hd,?_⟩;rw[Array.getD_eq_getD_getElem?,Array.getElem?_setIfInBounds_self_of_lt (by omega)];exact hv
 ·rw[if_neg qk]at e;refine⟨(h3 i x hi e).1,?_⟩;have:=(h3 i x hi e).2;rw[Array.getD_eq_getD_getElem?]at this ⊢;rw[Array.getElem?_setIfInBounds_ne (by omega)];exact this
end Go.Ab
