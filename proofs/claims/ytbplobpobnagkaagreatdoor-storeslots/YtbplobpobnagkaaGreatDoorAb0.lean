import Derived.Calls
import Derived.Laws.Sem
import Derived.Laws.AppendOwn
import Derived.Laws.MakeOwn
import Derived.Laws.CopyRow
noncomputable section
namespace Go.Ab
def il{α:Type}(c:Bool)(a b:α):α:=Bool.rec b a c
inductive Tr (α:Type) where
 |nil
 |node (l:Tr α) (v:Option α) (r:Tr α)
def Tr.get{α:Type}(t:Tr α):Nat->Option α:=
 Tr.rec (fun _=>none) (fun _ v _ gl gr n=>Bool.rec (Bool.rec (gr (Nat.sub (Nat.div n 2) 1)) (gl (Nat.div n 2)) (Nat.beq (Nat.mod n 2) 1)) v (Nat.beq n 0)) t
def Tr.lf{α:Type}(t:Tr α):Tr α:=Tr.rec .nil (fun l _ _ _ _=>l) t
def Tr.rt{α:Type}(t:Tr α):Tr α:=Tr.rec .nil (fun _ _ r _ _=>r) t
def Tr.hd{α:Type}(t:Tr α):Option α:=Tr.rec none (fun _ v _ _ _=>v) t
def Tr.Fa{α:Type}(f:Nat):Tr α->Nat->Option α->Tr α:=
 Nat.rec (fun t _ _=>t) (fun _ go t n x=>
  Bool.rec (Bool.rec (.node t.lf t.hd (go t.rt (Nat.sub (Nat.div n 2) 1) x)) (.node (go t.lf (Nat.div n 2) x) t.hd t.rt) (Nat.beq (Nat.mod n 2) 1))
   (.node t.lf x t.rt) (Nat.beq n 0)) f
def Tr.set{α:Type}(t:Tr α)(n:Nat)(x:Option α):Tr α:=Tr.Fa (Nat.succ n) t n x
structure F8(α:Type) where
 a0:α
 a1:α
 a2:α
 a3:α
 a4:α
 a5:α
 a6:α
 a7:α
def F8.Cw{α:Type}(f:F8 α):Nat->α
 |0=>f.a0|1=>f.a1|2=>f.a2|3=>f.a3|4=>f.a4|5=>f.a5|6=>f.a6| _=>f.a7
def F8.EY{α:Type}(f:F8 α)(x:α):Nat->F8 α
 |0=>⟨x,f.a1,f.a2,f.a3,f.a4,f.a5,f.a6,f.a7⟩
 |1=>⟨f.a0,x,f.a2,f.a3,f.a4,f.a5,f.a6,f.a7⟩
 |2=>⟨f.a0,f.a1,x,f.a3,f.a4,f.a5,f.a6,f.a7⟩
 |3=>⟨f.a0,f.a1,f.a2,x,f.a4,f.a5,f.a6,f.a7⟩
 |4=>⟨f.a0,f.a1,f.a2,f.a3,x,f.a5,f.a6,f.a7⟩
 |5=>⟨f.a0,f.a1,f.a2,f.a3,f.a4,x,f.a6,f.a7⟩
 |6=>⟨f.a0,f.a1,f.a2,f.a3,f.a4,f.a5,x,f.a7⟩
 | _=>⟨f.a0,f.a1,f.a2,f.a3,f.a4,f.a5,f.a6,x⟩
def F8.all{α:Type}(x:α):F8 α:=⟨x,x,x,x,x,x,x,x⟩
inductive SV where
 |var (i:Nat)
 |Fc (i:Nat)
 |umod (i c:Nat)
 |lin (i:Nat) (m:Int)
 |Qa (i p m:Nat)
 |cl (i:Nat) (l h:Int)
 |pr (i:Nat) (l h:Int) (j:Nat)
 |ad (i j:Nat) (l h:Int)
 |W9 (n:Int)
 |sm (l:List Nat)
 |ix (l:List Nat) (a:SV) (o:Int)
 |tm (f:Nat) (k k':IntKind) (a:SV) (oa:Int) (b:SV) (ob:Int)
 |bits (l:List Nat)
inductive AV where
 |int (k:IntKind) (n:Int)
 |bool (b:Bool)
 |sc (v:Value)
 |agg (cs:List AV)
 |wK (vs:List AV)
 |ref (id off:Nat)
 |ff (id off len sz:Nat)
 |lj (len:Nat) (cs:List AV)
 |jC (cs:List AV)
 |fk
 |qk
 |fn (f:FuncId) (cap:List AV)
 |sym (k:IntKind) (s:SV) (lo hi off:Int)
 |any
 deriving Inhabited
abbrev Tm:=F8 (F8 (F8 (Option AV)))
def Tm.at(t:Tm)(i:Nat):Option AV:=((t.Cw (i / 64)).Cw (i / 8 % 8)).Cw (i % 8)
def Tm.put(t:Tm)(i:Nat)(v:Option AV):Tm:=t.EY ((t.Cw (i / 64)).EY (((t.Cw (i / 64)).Cw (i / 8 % 8)).EY v (i % 8)) (i / 8 % 8)) (i / 64)
def Tm.none:Tm:=F8.all (F8.all (F8.all Option.none))
structure Rw where
 n:Nat
 d:List AV
 t:Tr AV
structure Hp where
 next:Nat
 aP:Tr Rw
inductive Ro where
 |bad
 |ok (v:AV) (h:Hp)
inductive Rt where
 |bad
 |ok (t:Tm) (h:Hp)
inductive Rc where
 |bad
 |norm (t:Tm) (h:Hp)
 |ret (t:Tm) (h:Hp)
 |exit (i:Nat) (t:Tm) (h:Hp)
abbrev eN:=Tm->Option AV
abbrev eG:=Tm->Hp->Ro
abbrev ng:=Tm->Hp->Rt
abbrev zt:=Tm->Hp->Rc
abbrev cZ:=FuncId->List AV->Hp->Ro
def app{α:Type}(l r:List α):List α:=List.rec r (fun a _ ih=>a::ih) l
def len{α:Type}(l:List α):Nat:=List.rec (fun n=>n) (fun _ _ ih n=>ih (Nat.add n 1)) l (0:Nat)
def tk{α:Type}(n:Nat)(l:List α):List α:=
 List.rec (fun _=>[]) (fun a _ ih n=>Bool.rec (a::ih (Nat.sub n 1)) [] (Nat.beq n 0)) l n
def dp{α:Type}(n:Nat)(l:List α):List α:=
 List.rec (fun _=>[]) (fun a r ih n=>Bool.rec (ih (Nat.sub n 1)) (a::r) (Nat.beq n 0)) l n
def lr{α:Type}(l:List α)(n:Nat):Option α:=
 List.rec (fun _=>none) (fun a _ ih n=>Bool.rec (ih (Nat.sub n 1)) (some a) (Nat.beq n 0)) l n
def cu{α:Type}(p:α->Bool)(l:List α):Bool:=List.rec true (fun a _ ih=>bif p a then ih else false) l
def leaf:Value->Option AV
 | .int k n=>some (.int k n)
 | .bool b=>some (.bool b)
 | .string s=>some (.sc (.string s))
 | .pointer none=>some (.sc (.pointer none))
 | .slice none 0 0=>some (.sc (.slice none 0 0))
 | .map none=>some (.sc (.map none))
 | .nilFunc=>some (.sc .nilFunc)
 | .nilIface=>some (.sc .nilIface)
 | _=>none
def leaves(l:List Value):Option (List AV):=
 List.rec (some []) (fun v _ ih=>match leaf v with
  |some a=>match ih with
   |some r=>some (a::r)
   |none=>none
  |none=>none) l
def Qv:Value->Option AV
 | .agg cs=>match leaves cs.toList with|some l=>some (.agg l)|none=>none
 | .tuple cs=>match leaves cs.toList with|some l=>some (.wK l)|none=>none
 |v=>leaf v
def AV.cells:AV->List AV
 | .agg cs=>cs
 |v=>[v]
def dN:AV->Bool
 | .agg _| .wK _=>false
 | _=>true
def gQ:AV:=.wK []
def isNil:AV->Bool
 | .sc (.slice none n c)=>Nat.beq n 0&&Nat.beq c 0
 | _=>false
def sX:AV->Bool
 | .qk=>true
 |a=>isNil a
def Qb:AV->Bool
 | .qk=>true
 | .fk=>true
 | .ff _ _ n _=>Nat.beq n 0
 | .lj n _=>Nat.beq n 0
 |a=>isNil a
def vq(a:AV):AV:=bif sX a then .fk else a
def AY(a:AV):Option Bool:=bif isNil a then some true else match a with
 | .qk=>some false
 | .ff _ _ _ _=>some false
 | .lj n _=>bif Nat.beq n 0 then none else some false
 | _=>none
def Rw.cell(r:Rw)(i:Nat):AV:=Option.rec (Option.rec gQ (fun v=>v) (lr r.d (Nat.mod i (len r.d)))) (fun v=>v) (r.t.get i)
def Rw.cells(r:Rw)(k:Nat):Nat->List AV:=Nat.rec (fun _=>[]) (fun _ ih i=>r.cell i::ih (Nat.add i 1)) k
def Rw.toL(r:Rw):List AV:=r.cells r.n 0
def mE(l:List AV):Nat->Tr AV->Tr AV:=List.rec (fun _ t=>t) (fun a _ ih i t=>ih (Nat.add i 1) (t.set i (some a))) l
def xe(l:List AV):Rw:=⟨len l,[],mE l 0 .nil⟩
def Rw.lO(r:Rw)(off k:Nat):Option (List AV):=bif Nat.ble (Nat.add off k) r.n then some (r.cells k off)else none
def Rw.put(r:Rw)(off:Nat)(l:List AV):Rw:=⟨r.n,r.d,mE l off r.t⟩
def Rw.app(r:Rw)(l:List AV):Rw:=⟨Nat.add r.n (len l),r.d,mE l r.n r.t⟩
def Rw.upto(r:Rw)(m:Nat):Rw:=⟨m,r.d,r.t⟩
def Rw.sub(r:Rw)(off k:Nat):Option Rw:=bif Nat.ble (Nat.add off k) r.n then some (bif Nat.beq off 0 then r.upto k else xe (r.cells k off))else none
def oT(i:Nat):eN:=fun t=>Tm.at t i
def wO(x:eN):eN:=fun t=>Option.rec none (fun a=>some (vq a)) (x t)
abbrev acr:=AV->Tm->Tm
def sT(i:Nat):acr:=fun v t=>Tm.put t i (some v)
def oC(v:AV):eN:=fun _=>some v
def oX:eN:=fun _=>none
def vr(l:List eN)(t:Tm):Option (List AV):=
 List.rec (some []) (fun o _ ih=>Option.rec none (fun v=>Option.rec none (fun vs=>some (v::vs)) ih) (o t)) l
def dy(h:Hp)(cs:Rw):Hp:=⟨Nat.add h.next 1,h.aP.set h.next (some cs)⟩
def jE(h:Hp)(id:Nat)(cs:Option Rw):Hp:=⟨h.next,h.aP.set id cs⟩
def eZ(k:IntKind)(n:Int):Int:=
 match k with
 | .u8=>Int.emod n 256| .u16=>Int.emod n 65536| .u32=>Int.emod n 4294967296| .u64=>Int.emod n 18446744073709551616
 | .i8=>Int.sub (Int.emod (Int.add n 128) 256) 128| .i16=>Int.sub (Int.emod (Int.add n 32768) 65536) 32768
 | .i32=>Int.sub (Int.emod (Int.add n 2147483648) 4294967296) 2147483648
 | .i64=>Int.sub (Int.emod (Int.add n 9223372036854775808) 18446744073709551616) 9223372036854775808
def jA:IntKind->IntKind->Bool
 | .i8,.i8| .i16,.i16| .i32,.i32| .i64,.i64| .u8,.u8| .u16,.u16| .u32,.u32| .u64,.u64=>true
 | _,_=>false
def la:Int->Int->Bool
 | .ofNat a,.ofNat b=>Nat.blt a b
 | .ofNat _,.negSucc _=>false
 | .negSucc _,.ofNat _=>true
 | .negSucc a,.negSucc b=>Nat.blt b a
def eqI:Int->Int->Bool
 | .ofNat a,.ofNat b=>Nat.beq a b
 | .negSucc a,.negSucc b=>Nat.beq a b
 | _,_=>false
def g4(s:Sem Value):Option Value:=
 match s with
 | .pure v=>some v
 | _=>none
def nn(f:IntKind->Int->Int->Option AV)(x y:AV):Option AV:=
 match x,y with
 | .int k a,.int k' b=>bif jA k k' then f k a b else none
 | _,_=>none
def Xa:AV->AV->Option AV:=nn fun k a b=>some (.int k (eZ k (Int.add a b)))
def Xb:AV->AV->Option AV:=nn fun k a b=>some (.int k (eZ k (Int.sub a b)))
def Xc:AV->AV->Option AV:=nn fun k a b=>some (.int k (eZ k (Int.mul a b)))
def Qw:AV->AV->Option AV:=nn fun k a b=>bif eqI b 0 then none else some (.int k (eZ k (Int.tdiv a b)))
def Qx:AV->AV->Option AV:=nn fun k a b=>bif eqI b 0 then none else some (.int k (Int.tmod a b))
def Xd:AV->AV->Option AV:=nn fun _ a b=>some (.bool (la a b))
def Xe:AV->AV->Option AV:=nn fun _ a b=>some (.bool (!(la b a)))
def Xf:AV->AV->Option AV:=nn fun _ a b=>some (.bool (la b a))
def Xg:AV->AV->Option AV:=nn fun _ a b=>some (.bool (!(la a b)))
def jf:IntKind->Nat
 | .i8=>128| .i16=>32768| .i32=>2147483648| .i64=>9223372036854775808
 | .u8=>256| .u16=>65536| .u32=>4294967296| .u64=>18446744073709551616
def ql:IntKind->Nat
 | .i8| .u8=>8| .i16| .u16=>16| .i32| .u32=>32| .i64| .u64=>64
def qM(s:Option Value):Option AV:=match s with
 |some v=>Qv v
 |none=>none
def z8(op:BinOp)(f:Nat->Nat->Nat):AV->AV->Option AV:=nn fun k a b=>
 match a,b with
 | .ofNat a,.ofNat b=>bif Nat.blt a (jf k)&&Nat.blt b (jf k)then some (.int k (.ofNat (f a b)))else qM (g4 (Op.intBits op k (.ofNat a) (.ofNat b)))
 |a,b=>qM (g4 (Op.intBits op k a b))
def Qy:AV->AV->Option AV:=z8 .and Nat.land
def bOr:AV->AV->Option AV:=z8 .or Nat.lor
def Qz:AV->AV->Option AV:=z8 .xor Nat.xor
def px:AV->AV->Option AV:=nn fun k a b=>qM (g4 (Op.intBits .andNot k a b))
def vt(a b:Nat):Nat:=bif Nat.ble a b then a else b
def Fe(x y:AV):Option AV:=
 match x,y with
 | .int k a,.int _ (.ofNat n)=>some (.int k (eZ k (Int.mul a (.ofNat (Nat.pow 2 (vt n (ql k)))))))
 | _,_=>none
def Ff(x y:AV):Option AV:=
 match x,y with
 | .int k a,.int _ (.ofNat n)=>some (.int k (Int.fdiv a (.ofNat (Nat.pow 2 (vt n (ql k))))))
 | _,_=>none
def eqStr(a b:ByteArray):Bool:=a.toList == b.toList
def KP(neg:Bool):AV->AV->Option AV:=nn fun _ a b=>some (.bool (bif neg then !(eqI a b)else eqI a b))
def AZ(neg:Bool)(x y:AV):Option AV:=
 match x,y with
 | .bool a,.bool b=>some (.bool (bif neg then xor a b else !(xor a b)))
 | _,_=>none
def A0(neg:Bool)(x y:AV):Option AV:=
 match x,y with
 | .sc (.string a),.sc (.string b)=>some (.bool (bif neg then !(eqStr a b)else eqStr a b))
 | _,_=>none
def qz(neg:Bool)(x y:AV):Option AV:=
 match x,y with
 | .ref _ _,.sc (.pointer none)| .jC _,.sc (.pointer none)| .sc (.pointer none),.ref _ _| .sc (.pointer none),.jC _=>some (.bool neg)
 | .sc (.pointer none),.sc (.pointer none)=>some (.bool (!neg))
 | _,_=>none
def nK(neg:Bool)(x y:AV):Option AV:=bif isNil y then Option.rec none (fun b=>some (.bool (bif neg then !b else b))) (AY x)else none
def Xh:IntKind->Int
 | .i8=> -128| .i16=> -32768| .i32=> -2147483648| .i64=> -9223372036854775808| _=>0
def Vt:IntKind->Int
 | .i8=>127| .i16=>32767| .i32=>2147483647| .i64=>9223372036854775807
 | .u8=>255| .u16=>65535| .u32=>4294967295| .u64=>18446744073709551615
def QA:IntKind->Int
 | .i8| .u8=>256| .i16| .u16=>65536| .i32| .u32=>4294967296| .i64| .u64=>18446744073709551616
def vu:List Nat->List Nat->Bool
 | [],[]=>true
 |a::l,b::m=>bif Nat.beq a b then vu l m else false
 | _,_=>false
def oc:SV->SV->Bool
 | .var i,.var j=>Nat.beq i j
 | .Fc i,.Fc j=>Nat.beq i j
 | .umod i c,.umod j d=>Nat.beq i j&&Nat.beq c d
 | .lin i m,.lin j n=>Nat.beq i j&&eqI m n
 | .Qa i p m,.Qa j q n=>Nat.beq i j&&(Nat.beq p q&&Nat.beq m n)
 | .bits l,.bits m=>vu l m
 | .W9 m,.W9 n=>eqI m n
 | .sm l,.sm m=>vu l m
 | .cl i l h,.cl i' l' h'=>Nat.beq i i'&&(eqI l l'&&eqI h h')
 | .pr i l h j,.pr i' l' h' j'=>Nat.beq i i'&&(eqI l l'&&(eqI h h'&&Nat.beq j j'))
 | .ad i j l h,.ad i' j' l' h'=>Nat.beq i i'&&(Nat.beq j j'&&(eqI l l'&&eqI h h'))
 | _,_=>false
def Fg(a:SV):SV->Bool:=
 SV.rec (motive:=fun _=>SV->Bool) (fun i=>oc (.var i)) (fun i=>oc (.Fc i)) (fun i c=>oc (.umod i c)) (fun i m=>oc (.lin i m)) (fun i p m=>oc (.Qa i p m))
  (fun i l h=>oc (.cl i l h)) (fun i l h j=>oc (.pr i l h j)) (fun i j l h=>oc (.ad i j l h)) (fun n=>oc (.W9 n)) (fun l=>oc (.sm l))
  (fun l _ o sY y=>match y with
   | .ix l2 a2 o2=>vu l l2&&(eqI o o2&&sY a2)
   | _=>false)
  (fun f k k' _ oa _ ob sY xD y=>match y with
   | .tm f2 k2 k2' a2 oa2 b2 ob2=>Nat.beq f f2&&(jA k k2&&(jA k' k2'&&(eqI oa oa2&&(eqI ob ob2&&(sY a2&&xD b2)))))
   | _=>false) (fun l=>oc (.bits l)) a
def Xi(k:IntKind)(lo hi off:Int):Bool:= !(la (Int.add lo off) (Xh k))&& !(la (Vt k) (Int.add hi off))
def zy(k:IntKind)(s:SV)(lo hi off:Int):Option AV:=
 bif Xi k lo hi off then some (.sym k s lo hi off)else
 bif Xi k lo hi (Int.add off (QA k))then some (.sym k s lo hi (Int.add off (QA k)))else
 bif Xi k lo hi (Int.sub off (QA k))then some (.sym k s lo hi (Int.sub off (QA k)))else none
def aoV(x y:AV):Option AV:=match x,y with
 | .sym k s lo hi o,.int k' c=>bif jA k k' then zy k s lo hi (Int.add o c)else none
 | .int k' c,.sym k s lo hi o=>bif jA k k' then zy k s lo hi (Int.add o c)else none
 | _,_=>none
def acs(b:List Nat)(a:List Nat):Option (List Nat):=List.rec (bif vu [] b then some []else none) (fun x r ih=>bif vu (x::r) b then some []else match ih with
 |some m=>some (x::m)
 |none=>none) a
def aoW(x y:AV):Option AV:=match x,y with
 | .sym k s lo hi o,.int k' c=>bif jA k k' then zy k s lo hi (Int.sub o c)else none
 | .sym k s lo hi o,.sym k' s' lo' vw o'=>bif jA k k'&&Fg s s' then some (.int k (eZ k (Int.sub o o')))else bif jA k k' then(match s,s' with
  | .ad i j l h,.var i'=>bif Nat.beq i i'&& !(la h l)then zy k (.cl j l h) l h (Int.sub o o')else none
  | .sm a,.sm b=>(match acs b a with
   |some m=>zy k (.sm m) (Int.sub lo vw) (Int.sub hi lo') (Int.sub o o')
   |none=>none)
  | .sm a,.var i=>(match acs [i] a with
   |some m=>zy k (.sm m) (Int.sub lo vw) (Int.sub hi lo') (Int.sub o o')
   |none=>none)
  | _,_=>none)else none
 | _,_=>none
def KQ(_ _:AV):Option Bool:=none
def QB(w:Nat):Nat->List Nat:=Nat.rec (fun _=>[]) (fun _ ih n=>Nat.mod n 2::ih (Nat.div n 2)) w
def G6(w:Nat):Nat->List Nat:=Nat.rec (fun _=>[]) (fun _ ih b=>b::ih (Nat.add b 1)) w
def CF(n:Nat):List Nat:=Nat.rec [] (fun _ ih=>(0:Nat)::ih) n
def hiB(l:List Nat):Nat:=List.rec (0:Nat) (fun c _ ih=>Nat.add (Nat.mul 2 ih) (Bool.rec 1 0 (Nat.beq c 0))) l
def loB(l:List Nat):Nat:=List.rec (0:Nat) (fun c _ ih=>Nat.add (Nat.mul 2 ih) (Bool.rec 0 1 (Nat.beq c 1))) l
def ahV(l:List Nat):Bool:=List.rec true (fun c _ ih=>Bool.rec false ih (Nat.blt c 2)) l
def mkB(k:IntKind)(l:List Nat):Option AV:=
 bif la (Vt k) (.ofNat (hiB l))then none else
 bif ahV l then some (.int k (.ofNat (hiB l)))else some (.sym k (.bits l) (.ofNat (loB l)) (.ofNat (hiB l)) 0)
def toB(x:AV):Option (IntKind×List Nat):=match x with
 | .int k (.ofNat n)=>bif Nat.blt n (jf k)then some (k,QB 64 n)else none
 | .sym k (.bits l) _ (.ofNat hi) (.ofNat o)=>bif Nat.beq o 0&&Nat.blt hi (jf k)then some (k,l)else none
 | .sym k (.var i) (.ofNat _) (.ofNat hi) (.ofNat o)=>
  bif Nat.beq o 0&&(Nat.blt hi (jf k)&&(Nat.blt hi (Nat.pow 2 (Nat.add (Nat.log2 hi) 1))&&Nat.ble (Nat.add (Nat.log2 hi) 1) 64))then
   some (k,app (G6 (Nat.add (Nat.log2 hi) 1) (Nat.add 2 (Nat.mul 64 i))) (CF (Nat.sub 63 (Nat.log2 hi))))else none
 | .sym k (.Fc i) _ (.ofNat hi) (.ofNat o)=>bif Nat.beq o 0&&Nat.blt hi (jf k)then some (k,G6 64 (Nat.add 2 (Nat.mul 64 i)))else none
 | _=>none
def ahW(f:Nat->Nat->Option Nat)(l:List Nat):List Nat->Option (List Nat):=
 List.rec (fun m=>List.rec (some []) (fun _ _ _=>none) m) (fun a _ ih m=>List.rec none (fun b m _=>
  match f a b with
  |some c=>match ih m with
   |some r=>some (c::r)
   |none=>none
  |none=>none) m) l
def ahX(a b:Nat):Option Nat:=bif Nat.beq a 0||Nat.beq b 0 then some 0 else bif Nat.beq a 1 then some b else bif Nat.beq b 1||Nat.beq a b then some a else none
def or1(a b:Nat):Option Nat:=bif Nat.beq a 1||Nat.beq b 1 then some 1 else bif Nat.beq a 0 then some b else bif Nat.beq b 0||Nat.beq a b then some a else none
def ahY(a b:Nat):Option Nat:=bif Nat.beq a b then some 0 else bif Nat.beq a 0 then some b else bif Nat.beq b 0 then some a else none
def zB(f:Nat->Nat->Option Nat)(x y:AV):Option AV:=match toB x,toB y with
 |some (k,l),some (k',m)=>bif jA k k' then(match ahW f l m with
  |some r=>mkB k r
  |none=>none)else none
 | _,_=>none
def acu:IntKind->Bool
 | .u8| .u16| .u32| .u64=>true
 | _=>false
def aoZ:AV->AV->Option AV:=zB ahX
def sOr:AV->AV->Option AV:=zB or1
def ao0:AV->AV->Option AV:=zB ahY
def ao1(x y:AV):Option AV:=match toB x with
 |some (k,l)=>match y with
  | .int _ (.ofNat n)=>bif acu k then mkB k (app (tk (ql k) (app (CF (vt n (ql k))) l)) (CF (Nat.sub 64 (ql k))))else none
  | _=>none
 |none=>none
def ao2(x y:AV):Option AV:=match toB x with
 |some (k,l)=>match y with
  | .int _ (.ofNat n)=>mkB k (app (dp (vt n (ql k)) l) (CF (vt n (ql k))))
  | _=>none
 |none=>none
def acv(k:IntKind)(x:AV):Option AV:=match toB x with
 |some (_,l)=>bif acu k then mkB k (app (tk (ql k) l) (CF (Nat.sub 64 (ql k))))else none
 |none=>none
def eqB(x y:AV):Option Bool:=match toB x,toB y with
 |some (k,l),some (k',m)=>bif jA k k'&&vu l m then some true else none
 | _,_=>none
def ahZ(x y:AV):Option Bool:=match x,y with
 | .sym k _ lo hi o,.int k' c=>bif jA k k' then(bif la c (Int.add lo o)||la (Int.add hi o) c then some false else bif eqI (Int.add lo o) c&&eqI (Int.add hi o) c then some true else none)else none
 | .int k' c,.sym k _ lo hi o=>bif jA k k' then(bif la c (Int.add lo o)||la (Int.add hi o) c then some false else bif eqI (Int.add lo o) c&&eqI (Int.add hi o) c then some true else none)else none
 | .sym k s _ _ o,.sym k' s' _ _ o'=>bif jA k k'&&Fg s s' then some (eqI o o')else none
 | _,_=>none
def ao3(x y:AV):Option Bool:=Option.rec (eqB x y) (fun b=>some b) (ahZ x y)
def eqL(x y:AV):Option Bool:=match KQ x y with
 |some true=>some false
 | _=>match KQ y x with
  |some true=>some false
  | _=>none
def QC(_ _:AV):Option Bool:=none
def ao4(x y:AV):Option AV:=Option.rec none (fun b=>some (.bool b)) (KQ x y)
def ao5(x y:AV):Option AV:=Option.rec none (fun b=>some (.bool b)) (KQ y x)
def ao6(x y:AV):Option AV:=Option.rec none (fun b=>some (.bool (!b))) (KQ y x)
def ao7(x y:AV):Option AV:=Option.rec none (fun b=>some (.bool (!b))) (KQ x y)
def sEq(neg:Bool)(x y:AV):Option AV:=Option.rec none (fun b=>some (.bool (bif neg then !b else b))) (QC x y)
def ao8(x y:AV):Option AV:=match x,y with
 | .sym k s lo hi o,.int k' (.ofNat c)=>bif jA k k'&&(Nat.blt 0 c&& !(la (Int.add lo o) 0))then
   (bif eqI (Int.fdiv (Int.add lo o) (.ofNat c)) (Int.fdiv (Int.add hi o) (.ofNat c))then some (.sym k s lo hi (Int.sub o (Int.mul (Int.fdiv (Int.add lo o) (.ofNat c)) (.ofNat c))))else
   match k,s,o with
   | .u64,.Fc i,.ofNat 0=>some (.sym .u64 (.umod i c) 0 (Int.sub (.ofNat c) 1) 0)
   |k,.var i,.ofNat 0=>some (.sym k (.Qa i 1 c) 0 (Int.sub (.ofNat c) 1) 0)
   |k,.Qa i p m,.ofNat 0=>bif Nat.beq m 0 then some (.sym k (.Qa i p c) 0 (Int.sub (.ofNat c) 1) 0)else none
   |k,.pr i l h _,.ofNat 0=>bif Nat.beq c 4294967296&&(!(la l 0)&&(la h 4294967296&& !(la h l)))then some (bif eqI l h then .int k l else .sym k (.cl i l h) l h 0)else none
   |k,.lin _ (.ofNat m),.ofNat o=>bif Nat.beq (Nat.mod m c) 0 then some (.int k (.ofNat (Nat.mod o c)))else none
   | _,_,_=>none)else none
 | _,_=>none
def ao9(x y:AV):Option AV:=match x,y with
 | .sym k s lo hi o,.int k' (.ofNat c)=>bif jA k k'&&(Nat.blt 0 c&& !(la (Int.add lo o) 0))then
   (bif eqI (Int.fdiv (Int.add lo o) (.ofNat c)) (Int.fdiv (Int.add hi o) (.ofNat c))then some (.int k (eZ k (Int.fdiv (Int.add lo o) (.ofNat c))))else
   match s,o with
   | .var i,.ofNat 0=>zy k (.Qa i c 0) (Int.fdiv lo (.ofNat c)) (Int.fdiv hi (.ofNat c)) 0
   | .Qa i p m,.ofNat 0=>bif Nat.beq m 0 then zy k (.Qa i (Nat.mul p c) 0) (Int.fdiv lo (.ofNat c)) (Int.fdiv hi (.ofNat c)) 0 else none
   | _,_=>none)else none
 | _,_=>none
def acw(k:IntKind)(i:Nat)(lo hi o:Int)(c:Nat):Option AV:=bif Nat.blt 0 c then zy k (.lin i (.ofNat c)) (Int.mul (.ofNat c) lo) (Int.mul (.ofNat c) hi) (Int.mul (.ofNat c) o)else none
def ao'(x y:AV):Option AV:=match x,y with
 | .sym k (.var i) lo hi o,.int k' (.ofNat c)=>bif jA k k' then acw k i lo hi o c else none
 | .int k' (.ofNat c),.sym k (.var i) lo hi o=>bif jA k k' then acw k i lo hi o c else none
 | _,_=>none
def acx(k k':IntKind)(s:SV)(o:Int)(x:AV):Option AV:=match k,k',s,o with
 | .u64,.i64,.var i,0=>some (.sym .u64 (.Fc i) 0 18446744073709551615 0)
 | .u32,_,.pr i l h _,.ofNat 0=>bif !(la l 0)&&(la h 4294967296&& !(la h l))then some (bif eqI l h then .int .u32 l else .sym .u32 (.cl i l h) l h 0)else none
 | _,_,_,_=>acv k x
def apa(k:IntKind)(x:AV):Option AV:=match x with
 | .sym k' s lo hi o=>Option.rec (acx k k' s o x) (fun r=>some r) (zy k s lo hi o)
 | _=>none
def wL(f s:AV->AV->Option AV):AV->AV->Option AV:=fun x y=>Option.rec (s x y) (fun v=>some v) (f x y)
def acy(f s:AV->Option AV):AV->Option AV:=fun x=>Option.rec (s x) (fun v=>some v) (f x)
def G7:AV->Option AV
 | .int k n=>some (.int k (eZ k (Int.sub 0 n)))
 | _=>none
def KR(k:IntKind):AV->Option AV
 | .int _ n=>some (.int k (eZ k n))
 | _=>none
def opF(f:Nat)(k:IntKind)(m n:Int):Option AV:=match f with
 |0=>Xa (.int k m) (.int k n)
 |1=>Xb (.int k m) (.int k n)
 |2=>Xc (.int k m) (.int k n)
 |3=>Qw (.int k m) (.int k n)
 |4=>Qx (.int k m) (.int k n)
 |5=>Qy (.int k m) (.int k n)
 |6=>bOr (.int k m) (.int k n)
 |7=>Qz (.int k m) (.int k n)
 |8=>Fe (.int k m) (.int .u64 n)
 |9=>Ff (.int k m) (.int .u64 n)
 |10=>G7 (.int k m)
 | _=>KR k (.int k m)
def tmF(f:Nat)(k:IntKind)(m n:Int):Int:=match opF f k m n with
 |some (.int _ r)=>r
 | _=>0
def QD(x:AV):Option (IntKind×SV×Int×Int×Int):=match x with
 | .int k n=>some (k,.W9 n,0,n,n)
 | .sym k s lo hi o=>some (k,s,o,Int.add lo o,Int.add hi o)
 | _=>none
def inK(k:IntKind)(l u:Int):Bool:= !(la l (Xh k))&& !(la (Vt k) u)
def tS(f:Nat)(ok:IntKind->IntKind->Int->Int->Int->Int->Bool)(x y:AV):Option AV:=match QD x with
 |some (k,s,o,l,u)=>match QD y with
  |some (k',s',o',l',u')=>bif ok k k' l u l' u' then some (.sym k (.tm f k k' s o s' o') (Xh k) (Vt k) 0)else none
  |none=>none
 |none=>none
def t1(f:Nat)(k:IntKind)(x:AV):Option AV:=match QD x with
 |some (k',s,o,_,_)=>some (.sym k (.tm f k k' s o (.W9 0) 0) (Xh k) (Vt k) 0)
 |none=>none
def apb(k k':IntKind)(_ _ _ _:Int):Bool:=jA k k'
def apc(k k':IntKind)(l u l' u':Int):Bool:=jA k k'&&(inK k l u&&(la 0 l'||la u' 0))
def ams(_ _:IntKind)(_ _ l' _:Int):Bool:= !(la l' 0)
def amt(k _:IntKind)(l u l' _:Int):Bool:=inK k l u&& !(la l' 0)
def uK:IntKind->IntKind
 | .i8=>.u8| .i16=>.u16| .i32=>.u32| .i64=>.u64|k=>k
def apd(k:IntKind)(x:AV):Option AV:=Option.rec (t1 11 k x) (fun r=>t1 11 k r) (acv (uK k) x)
def Cy:AV->AV->Option AV:=fun _ _=>none
def bA:AV->AV->Option AV:=wL Xa Cy
def fC:AV->AV->Option AV:=wL Xb Cy
def z9:AV->AV->Option AV:=wL Qx Cy
def G8:AV->AV->Option AV:=wL Qw Cy
def mF:AV->AV->Option AV:=wL Xc Cy
def a8:AV->AV->Option AV:=wL Xd Cy
def iq:AV->AV->Option AV:=wL Xe Cy
def fT:AV->AV->Option AV:=wL Xf Cy
def fJ:AV->AV->Option AV:=wL Xg Cy
def lH:AV->AV->Option AV:=wL Qy Cy
def nq:AV->AV->Option AV:=wL bOr Cy
def G9:AV->AV->Option AV:=wL Qz Cy
def lI:AV->AV->Option AV:=wL Fe Cy
def lJ:AV->AV->Option AV:=wL Ff Cy
def aD(neg:Bool):AV->AV->Option AV:=wL (KP neg) Cy
def eq1(i:Bool)(x y:AV):Option Bool:=bif i then
 (match x,y with
 | .int k a,.int k' b=>bif jA k k' then some (eqI a b)else none
 | _,_=>QC x y)else
 (match x,y with
 | .bool a,.bool b=>some (!(xor a b))
 | _,_=>none)
def CG(l:List Bool):List AV->List AV->Option Bool:=
 List.rec (fun _ _=>some true) (fun i _ ih xs ys=>match xs with
  | []=>none
  |x::xs=>match ys with
   | []=>none
   |y::ys=>match eq1 i x y with
    |none=>none
    |some c=>Bool.rec (some false) (ih xs ys) c) l
def Fh(neg:Bool)(l:List Bool)(x y:AV):Option AV:=match x with
 | .agg xs=>match y with
  | .agg ys=>match CG l xs ys with
   |some c=>some (.bool (bif neg then !c else c))
   |none=>none
  | _=>none
 | _=>none
def jY:AV->Option AV
 | .bool b=>some (.bool (!b))
 | _=>none
def KS(x:AV):Option AV:=Option.rec (match QD x with|some (k,_,_,_,_)=>t1 10 k x|none=>none) (fun r=>some r) (G7 x)
def IK:AV->Option AV
 | .int k n=>qM (g4 (Op.unary .xor (.int k n)))
 | _=>none
def put(cs:List AV)(off:Nat)(new:List AV):List AV:=app (tk off cs) (app new (dp (Nat.add off (len new)) cs))
def xf(cs:List AV)(off n:Nat):Option (List AV):=
 match tk n (dp off cs)with
 |l=>bif Nat.beq (len l) n then some l else none
def part(agg:Bool)(cs:List AV)(off size:Nat):Option AV:=
 match xf cs off size with
 |none=>none
 |some l=>bif agg then some (.agg l)else match l with
  | [c]=>some c
  | _=>none
def sE(agg:Bool)(r:Rw)(off size:Nat):Option AV:=
 match r.lO off size with
 |none=>none
 |some l=>bif agg then some (.agg l)else match l with
  | [c]=>some c
  | _=>none
def xE(l:List (Nat×Nat×AV)):List AV->Option (List AV):=
 List.rec (fun cells=>some cells) (fun p _ ih cells=>
  bif Nat.beq (len p.2.2.cells) p.2.1&&Nat.ble (Nat.add p.1 p.2.1) (len cells)then ih (put cells p.1 p.2.2.cells)else none) l
def tW(size:Nat)(l:List (Nat×AV)):Nat->Option (List AV):=
 List.rec (fun _=>some []) (fun p _ ih i=>
  bif Nat.beq p.1 i&&Nat.beq (len p.2.cells) size then(match ih (Nat.add i 1)with|some r=>some (app p.2.cells r)|none=>none)else none) l
def nL(l:List (Nat×eN))(t:Tm):Option (List (Nat×AV)):=
 List.rec (some []) (fun p _ ih=>match p.2 t with
  |some v=>match ih with
   |some vs=>some ((p.1,v)::vs)
   |none=>none
  |none=>none) l
def nM(l:List (Nat×Nat×eN))(t:Tm):Option (List (Nat×Nat×AV)):=
 List.rec (some []) (fun p _ ih=>match p.2.2 t with
  |some v=>match ih with
   |some vs=>some ((p.1,p.2.1,v)::vs)
   |none=>none
  |none=>none) l
def fW(n:Nat)(z:List AV):List AV:=Nat.rec [] (fun _ ih=>app z ih) n
def scale(size:Nat)(l:List (Nat×AV)):List (Nat×Nat×AV):=
 List.rec [] (fun p _ ih=>(Nat.mul p.1 size,size,p.2)::ih) l
def rO(n size:Nat)(zero:List AV)(l:List (Nat×AV)):Option (List AV):=
 match bif Nat.beq (len l) n then tW size l 0 else none with
 |some cs=>some cs
 |none=>xE (scale size l) (fW n zero)
def xF(h:Hp)(size:Nat)(agg:Bool)(a:AV):Option AV:=
 match a with
 | .ref id off=>match h.aP.get id with
  |some cs=>sE agg cs off size
  |none=>none
 | .jC cs=>part agg cs 0 size
 | _=>none
def dR(h:Hp):AV->Option (Nat×List AV)
 | .fk=>some (0,[])
 | .lj n cs=>some (n,cs)
 | .ff id off n sz=>match h.aP.get id with
  |some cs=>match cs.lO off (Nat.mul n sz)with
   |some l=>some (n,l)
   |none=>none
  |none=>none
 | _=>none
def aa(x:eN):eG:=fun t h=>Option.rec Ro.bad (fun v=>Ro.ok v h) (x t)
def aW(c a b:eN):eG:=fun t h=>match c t with
 |some (.bool c)=>bif c then aa a t h else aa b t h
 | _=>.bad
def dJ(cs:List AV):eG:=fun _ h=>.ok (.ref h.next 0) (dy h (xe cs))
def dV(x:eN):eG:=fun t h=>match x t with
 |some v=>.ok (.ref h.next 0) (dy h (xe v.cells))
 |none=>.bad
def au(zero:List AV)(parts:List (Nat×Nat×eN)):eG:=fun t h=>match nM parts t with
 |some vs=>match xE vs zero with
  |some cs=>.ok (.agg cs) h
  |none=>.bad
 |none=>.bad
def bC(n size:Nat)(zero:List AV)(parts:List (Nat×eN)):eG:=fun t h=>match nL parts t with
 |some vs=>bif Nat.beq n 0 then(match vs with| []=>.ok .qk h| _=>.bad)else match rO n size zero vs with
  |some cs=>.ok (.ff h.next 0 n size) (dy h (xe cs))
  |none=>.bad
 |none=>.bad
def bh(size:Nat)(agg:Bool)(a:eN):eG:=fun t h=>match a t with
 |some a=>match xF h size agg a with
  |some v=>.ok v h
  |none=>.bad
 |none=>.bad
def aF(size:Nat)(a x:eN):eG:=fun t h=>match a t with
 |some (.ref id off)=>match x t with
  |some v=>match h.aP.get id with
   |some cs=>bif Nat.beq (len v.cells) size&&(Nat.ble (Nat.add off (len v.cells)) cs.n&&cu dN v.cells)then
    .ok gQ (jE h id (some (cs.put off v.cells)))
    else .bad
   |none=>.bad
  |none=>.bad
 | _=>.bad
def bt(x:eN):eG:=fun t h=>match x t with
 |some (.ref i o)=>.ok (.ref i o) h
 |some (.jC cs)=>.ok (.jC cs) h
 |some (.fn f c)=>.ok (.fn f c) h
 | _=>.bad
def ah(f:AV->AV->Option AV)(x y:eN):eG:=fun t h=>
 Option.rec Ro.bad (fun a=>Option.rec Ro.bad (fun b=>Option.rec Ro.bad (fun v=>Ro.ok v h) (f a b)) (y t)) (x t)
def fm(f:AV->Option AV)(x:eN):eG:=fun t h=>Option.rec Ro.bad (fun a=>Option.rec Ro.bad (fun v=>Ro.ok v h) (f a)) (x t)
def cp(k:IntKind):AV->Option AV:=acy (KR k) fun _=>none
def py(x:eN):eG:=fun t h=>match x t with
 |some (.sc (.string s))=>.ok (.ff h.next 0 s.size 1) (dy h (xe (s.data.toList.map fun b=>.int .u8 (.ofNat b.toNat))))
 | _=>.bad
def Qc(f:FuncId)(cap:List eN):eG:=fun t h=>match vr cap t with
 |some vs=>.ok (.fn f vs) h
 |none=>.bad
def oe(size bytes:Nat)(zero:List AV)(l c:eN):eG:=fun t h=>match l t with
 |some (.int _ (.ofNat l))=>match c t with
  |some (.int _ (.ofNat c))=>bif Nat.ble l c&&Nat.ble (Nat.mul c bytes) 70368744177664 then
    bif Nat.beq c 0 then .ok .qk h else .ok (.ff h.next 0 l size) (dy h ⟨Nat.mul c (len zero),zero,.nil⟩)
   else .bad
  | _=>.bad
 | _=>.bad
def nN(o:Option eN)(t:Tm)(d:Nat):Option Nat:=match o with
 |none=>some d
 |some o=>match o t with
  |some (.int _ (.ofNat n))=>some n
  | _=>none
def bounds(lo hi:Option eN)(t:Tm)(n:Nat):Option (Nat×Nat):=match nN lo t 0 with
 |some l=>match nN hi t n with
  |some h=>bif Nat.ble l h&&Nat.ble h n then some (l,h)else none
  |none=>none
 |none=>none
def dk(x:eN)(lo hi:Option eN):eG:=fun t h=>match x t with
 |some (.sc (.string s))=>match bounds lo hi t s.size with
  |some (l,e)=>.ok (.sc (.string (s.extract l e))) h
  |none=>.bad
 | _=>.bad
def nO(size:Nat)(x:eN)(lo hi:Option eN):eG:=fun t h=>match x t with
 |some .fk=>match bounds lo hi t 0 with
  |some _=>.ok .fk h
  |none=>.bad
 |some (.ff id off n sz)=>match bounds lo hi t n with
  |some (l,e)=>bif Nat.beq sz size then .ok (.ff id (Nat.add off (Nat.mul l size)) (Nat.sub e l) sz) h else .bad
  |none=>.bad
 |some (.lj n cs)=>match bounds lo hi t n with
  |some (l,e)=>.ok (.lj (Nat.sub e l) (tk (Nat.mul (Nat.sub e l) size) (dp (Nat.mul l size) cs))) h
  |none=>.bad
 | _=>.bad
def dg(size:Nat)(x:eN)(lo hi:Option eN):eG:=fun t h=>match x t with
 |some a=>bif sX a then(match bounds lo hi t 0 with
  |some _=>.ok a h
  |none=>.bad)else nO size x lo hi t h
 |none=>.bad
def tX(x:eN):eG:=fun t h=>match x t with
 |some .fk=>.ok (.int .i64 0) h
 | _=>.bad
def fX(n size:Nat)(x:eN)(lo hi:Option eN):eG:=fun t h=>match x t with
 |some (.ref id off)=>match bounds lo hi t n with
  |some (l,e)=>match h.aP.get id with
   |some cs=>bif Nat.ble (Nat.add off (Nat.mul n size)) cs.n then .ok (.ff id (Nat.add off (Nat.mul l size)) (Nat.sub e l) size) h else .bad
   |none=>.bad
  |none=>.bad
 | _=>.bad
def ab(off:Nat)(x:eN):eG:=fun t h=>match x t with
 |some (.ref id o)=>.ok (.ref id (Nat.add o off)) h
 |some (.jC cs)=>.ok (.jC (dp off cs)) h
 | _=>.bad
def nP(off size:Nat)(agg:Bool)(x:eN):eG:=fun t h=>match x t with
 |some (.agg cs)=>match part agg cs off size with
  |some v=>.ok v h
  |none=>.bad
 | _=>.bad
def bH(size:Nat)(x i:eN):eG:=fun t h=>match i t with
 |some (.int _ (.ofNat i))=>match x t with
  |some (.ff id off n sz)=>bif Nat.blt i n&&Nat.beq sz size then .ok (.ref id (Nat.add off (Nat.mul i size))) h else .bad
  |some (.lj n cs)=>bif Nat.blt i n then .ok (.jC (dp (Nat.mul i size) cs)) h else .bad
  | _=>.bad
 | _=>.bad
def sj(n size:Nat)(x i:eN):eG:=fun t h=>match i t with
 |some (.int _ (.ofNat i))=>match x t with
  |some (.ref id off)=>bif Nat.blt i n then .ok (.ref id (Nat.add off (Nat.mul i size))) h else .bad
  |some (.jC cs)=>bif Nat.blt i n then .ok (.jC (dp (Nat.mul i size) cs)) h else .bad
  | _=>.bad
 | _=>.bad
def ly(n size:Nat)(agg:Bool)(x i:eN):eG:=fun t h=>match x t with
 |some (.agg cs)=>match i t with
  |some (.int _ (.ofNat i))=>bif Nat.blt i n then(match part agg cs (Nat.mul i size) size with
   |some v=>.ok v h
   |none=>.bad)else .bad
  | _=>.bad
 | _=>.bad
def cF(x i:eN):eG:=fun t h=>match x t with
 |some (.sc (.string s))=>match i t with
  |some (.int _ (.ofNat i))=>match lr s.data.toList i with
   |some b=>.ok (.int .u8 b.toNat) h
   |none=>.bad
  |some (.sym _ a lo hi o)=>bif !(la (Int.add lo o) 0)&&la (Int.add hi o) (.ofNat s.size)then .ok (.sym .u8 (.ix (s.data.toList.map UInt8.toNat) a o) 0 255 0) h else .bad
  | _=>.bad
 | _=>.bad
def aO(x:eN)(i:Nat):eG:=fun t h=>match x t with
 |some (.wK vs)=>match lr vs i with
  |some v=>.ok v h
  |none=>.bad
 | _=>.bad
def jZ(x:eN):eG:=fun t h=>match x t with
 |some (.sc (.string s))=>.ok (.int .i64 (.ofNat s.size)) h
 | _=>.bad
def aV(x:eN):eG:=fun t h=>match x t with
 |some (.ff _ _ n _)=>.ok (.int .i64 (.ofNat n)) h
 |some (.lj n _)=>.ok (.int .i64 (.ofNat n)) h
 |some .fk=>.ok (.int .i64 0) h
 | _=>.bad
def tY(size bytes:Nat)(h:Hp)(s:AV)(n:Nat)(new:List AV):Ro:=match s with
 | .fk=>bif Nat.beq n 0 then .ok .fk h else
   bif Nat.ble (Nat.mul n bytes) 70368744177664&&(cu dN new&&(Nat.beq (len new) (Nat.mul n size)&&Nat.ble n 70368744177664))then .ok (.ff h.next 0 n size) (dy h (xe new))else .bad
 | .ff id off ln sz=>bif Nat.beq n 0 then .ok (.ff id off ln sz) h else match h.aP.get id with
  |none=>.bad
  |some cs=>match cs.sub off (Nat.mul ln sz)with
   |none=>.bad
   |some pre=>bif Nat.ble (Nat.mul (Nat.add ln n) bytes) 70368744177664&&(Nat.beq sz size&&(cu dN new&&(Nat.beq (len new) (Nat.mul n size)&&Nat.ble (Nat.add ln n) 70368744177664)))then
    .ok (.ff h.next 0 (Nat.add ln n) sz) (dy (jE h id none) (pre.app new))else .bad
 | .lj ln cs=>bif Nat.beq n 0 then .ok (.lj ln cs) h else .bad
 | _=>.bad
def pz(size bytes:Nat)(s x:eN):eG:=fun t h=>match s t with
 |some s=>match x t with
  |some x=>match dR h x with
   |none=>.bad
   |some (n,new)=>tY size bytes h s n new
  |none=>.bad
 |none=>.bad
def aK(size bytes:Nat)(s x:eN):eG:=fun t h=>match s t with
 |some a=>match x t with
  |some b=>bif sX a&&Qb b then .ok a h else pz size bytes (wO s) (wO x) t h
  |none=>.bad
 |none=>.bad
def sF(size bytes:Nat)(zero:List AV)(s x:eN):eG:=fun t h=>match s t with
 |some a=>match x t with
  |some (.int _ (.ofNat n))=>bif sX a&&Nat.beq n 0 then .ok a h else tY size bytes h (vq a) n (fW n zero)
  | _=>.bad
 |none=>.bad
def tZ(bytes:Nat)(s x:eN):eG:=fun t h=>match s t with
 |some a=>match x t with
  |some (.sc (.string b))=>bif sX a&&Nat.beq b.size 0 then .ok a h else tY 1 bytes h (vq a) b.size (b.data.toList.map fun b=>.int .u8 (.ofNat b.toNat))
  | _=>.bad
 |none=>.bad
def sG(x:eN):eG:=fun t h=>match x t with
 |some (.ff id off n sz)=>bif Nat.beq n 0 then .bad else(match h.aP.get id with
  |some _=>.ok (.ff id off n sz) h
  |none=>.bad)
 | _=>.bad
def kr(size:Nat)(d s:eN):eG:=fun t h=>match d t with
 |some .fk=>match s t with
  |some x=>match dR h x with
   |some _=>.ok (.int .i64 (.ofNat 0)) h
   |none=>.bad
  |none=>.bad
 |some (.ff id off n sz)=>match s t with
  |some x=>match dR h x with
   |some (m,src)=>bif Nat.beq (vt m n) 0 then .ok (.int .i64 (.ofNat 0)) h else match h.aP.get id with
    |some cs=>bif (Nat.blt 0 size&&(Nat.beq sz size&&(Nat.beq (len src) (Nat.mul m size)&&cu dN src)))&&Nat.ble (Nat.add off (Nat.mul (vt m n) size)) cs.n then
     .ok (.int .i64 (.ofNat (vt m n))) (jE h id (some (cs.put off (tk (Nat.mul (vt m n) size) src))))else .bad
    |none=>.bad
   |none=>.bad
  |none=>.bad
 | _=>.bad
def xG(x y z:eN):eG:=fun t h=>match y t with
 |some (.int _ (.ofNat y))=>match z t with
  |some (.int _ (.ofNat z))=>bif Nat.beq y 0&&Nat.beq z 0 then(match x t with
   |some .fk=>.ok .fk h
   |some (.ff _ _ _ _)=>.ok .fk h
   |some (.lj _ _)=>.ok .fk h
   | _=>.bad)else .bad
  | _=>.bad
 | _=>.bad
def A1(x y:eN):eG:=ah (wL (nn fun k a b=>some (.int k (bif la b a then b else a))) fun x y=>Option.rec none (fun c=>some (bif c then y else x)) (KQ y x)) x y
def A2(x y:eN):eG:=ah (wL (nn fun k a b=>some (.int k (bif la a b then b else a))) fun x y=>Option.rec none (fun c=>some (bif c then y else x)) (KQ x y)) x y
def IL:eG:=fun _ h=>.ok .any h
def bP:eG:=fun _ _=>.bad
def an(call:cZ)(f:FuncId)(args:List eN):eG:=fun t h=>match vr args t with
 |some vs=>call f vs h
 |none=>.bad
def iu(call:cZ)(f:eN)(args:List eN):eG:=fun t h=>match f t with
 |some (.fn k cap)=>match vr args t with
  |some vs=>call k (app vs cap) h
  |none=>.bad
 | _=>.bad
def fi:ng:=fun t h=>.ok t h
def st(s:acr)(f:eG)(k:ng):ng:=fun t h=>Ro.rec Rt.bad (fun v h=>k (s v t) h) (f t h)
def sn(f:eG)(k:ng):ng:=fun t h=>Ro.rec Rt.bad (fun _ h=>k t h) (f t h)
def ai(r:ng):zt:=fun t h=>Rt.rec Rc.bad (fun t h=>Rc.norm t h) (r t h)
def bU:zt:=fun t h=>.norm t h
def af(a b:zt):zt:=fun t h=>Rc.rec Rc.bad (fun t h=>b t h) (fun t h=>Rc.ret t h) (fun i t h=>Rc.exit i t h) (a t h)
def bu(c:eN)(a b:zt):zt:=fun t h=>match c t with
 |some (.bool c)=>Bool.rec (b t h) (a t h) c
 | _=>.bad
def di(id:Nat)(b:zt):zt:=fun t h=>
 Rc.rec Rc.bad (fun t h=>Rc.norm t h) (fun t h=>Rc.ret t h) (fun i t h=>Bool.rec (Rc.exit i t h) (Rc.norm t h) (Nat.beq i id)) (b t h)
def iw(n:Nat)(b:zt):zt:=
 Nat.rec (fun _ _=>.bad) (fun _ ih t h=>Rc.rec Rc.bad (fun t h=>ih t h) (fun t h=>Rc.ret t h) (fun i t h=>Rc.exit i t h) (b t h)) n
def jd(i:Nat):zt:=fun t h=>.exit i t h
def cN:zt:=fun t h=>.ret t h
def CH:zt:=fun _ _=>.bad
inductive RV where
 |tmp (i:Nat)
 |cell (i size:Nat) (agg:Bool)
def KT(t:Tm)(h:Hp):RV->Option AV
 | .tmp i=>Tm.at t i
 | .cell i size agg=>match Tm.at t i with
  |some a=>xF h size agg a
  |none=>none
def Aa(t:Tm)(h:Hp)(l:List RV):Option (List AV):=
 List.rec (some []) (fun r _ ih=>match KT t h r with
  |some v=>match ih with
   |some vs=>some (v::vs)
   |none=>none
  |none=>none) l
structure Fb where
 ntmps:Nat
 res:List RV
 body:cZ->Nat->zt
def pA(l:List AV):Nat->Tm->Tm:=
 List.rec (fun _ t=>t) (fun v _ ih i t=>ih (Nat.add i 1) (Tm.put t i (some v))) l
def fin(res:List RV)(t:Tm)(h:Hp):Ro:=
 match Aa t h res with
 |some [v]=>.ok v h
 |some vs=>.ok (.wK vs) h
 |none=>.bad
end Go.Ab


noncomputable section
namespace Go.Ab
def Ac:List Bool->Nat
 | []=>0
 |b::l=>b.toNat+2*Ac l
theorem e7: ∀ (l:List Bool) (i:Nat),(Ac l).testBit i=l.getD i false
 | [],i=>by simp[Ac]
 |b::l,0=>by
  simp only[Ac,Nat.testBit_zero]
  cases b<;>simp<;>omega
 |b::l,i+1=>by
  have h:(b.toNat+2*Ac l) / 2=Ac l:=by cases b<;>simp<;>omega
  rw[Ac,Nat.testBit_succ,h,e7 l i]
  simp
theorem agt{l m:List Bool}(h: ∀ i,l.getD i false=m.getD i false):Ac l=Ac m:=
 Nat.eq_of_testBit_eq fun i=>by rw[e7,e7,h]
theorem agu(f:Bool->Bool->Bool)(g:Nat->Nat->Nat)(hg: ∀ a b i,(g a b).testBit i=f (a.testBit i) (b.testBit i))(hf:f false false=false)
 (l m:List Bool)(h:l.length=m.length):Ac (List.zipWith f l m)=g (Ac l) (Ac m):=by
 apply Nat.eq_of_testBit_eq
 intro i
 rw[e7,hg,e7,e7]
 by_cases hi:i<l.length
 ·simp[List.getD,List.getElem?_zipWith,hi,h▸hi]
 ·simp[List.getD,List.getElem?_zipWith,List.getElem?_eq_none (Nat.le_of_not_lt hi),List.getElem?_eq_none (Nat.le_of_not_lt (h▸hi)),hf]
theorem acz(l:List Bool)(n:Nat):Ac (l.take n)=Ac l % 2 ^ n:=by
 apply Nat.eq_of_testBit_eq
 intro i
 rw[e7,Nat.testBit_mod_two_pow,e7]
 by_cases h:i<n<;>simp[List.getD,List.getElem?_take,h]
theorem acA(l:List Bool)(n:Nat):Ac (l.drop n)=Ac l / 2 ^ n:=by
 apply Nat.eq_of_testBit_eq
 intro i
 rw[e7,<-Nat.shiftRight_eq_div_pow,Nat.testBit_shiftRight,e7]
 simp[List.getD,List.getElem?_drop]
theorem agv(l:List Bool)(n:Nat):Ac (List.replicate n false++l)=Ac l*2 ^ n:=by
 induction n with
 |zero=>simp
 |succ n ih=>
  simp only[List.replicate_succ,List.cons_append,Ac,ih,Nat.pow_succ]
  simp;rw[Nat.mul_comm 2,Nat.mul_assoc]
end Go.Ab

noncomputable section
namespace Go.Ab
class Io where
 io:Nat->Int
 tb:List (Nat×List Value)
variable [Io]
def ah1(c:Nat):Bool:=match c with
 |0=>false
 |1=>true
 |c+2=>(Io.io (c / 64) % 18446744073709551616).toNat.testBit (c % 64)
def KU(l h x:Int):Int:=if x<l then l else if h<x then h else x
def iy:SV->Int
 | .var i=>Io.io i
 | .Fc i=>Io.io i % 18446744073709551616
 | .umod i c=>(Io.io i % 18446744073709551616) % (c:Int)
 | .lin i m=>m*Io.io i
 | .Qa i p m=>(Io.io i / (p:Int)) % (m:Int)
 | .bits l=>(Ac (l.map ah1):Int)
 | .cl i l h=>KU l h (Io.io i)
 | .pr i l h j=>KU l h (Io.io i)+4294967296*Io.io j
 | .ad i j l h=>Io.io i+KU l h (Io.io j)
 | .W9 n=>n
 | .sm l=>(l.map Io.io).foldr (· + ·) 0
 | .ix l a o=>(l.getD (iy a+o).toNat 0:Nat)
 | .tm f k _ a oa b ob=>tmF f k (iy a+oa) (iy b+ob)
structure G where
 m:Nat->Option (Nat×Nat)
 fx:Nat->Prop
def dS(w:World)(b:Nat):Nat:=match w.heap[b]? with
 |some (.cells c _ _)=>c.size
 | _=>0
def ef(w:World)(b o:Nat)(vs:List Value):Prop:= ∀ j v,vs[j]? =some v->w.cell? ⟨b,o+j,none⟩=some v
mutual
def VR(g:G)(w:World):AV->Value->Prop
 | .int k n,v=>v=.int k n
 | .bool b,v=>v=.bool b
 | .sc x,v=>v=x/\x.oneCell'=true
 | .agg cs,v=> ∃ vs,v=.agg vs/\bL g w cs vs.toList
 | .wK cs,v=> ∃ vs,v=.tuple vs/\bL g w cs vs.toList
 | .ref id off,v=> ∃ b s,g.m id=some (b,s)/\v=.pointer (some ⟨b,s+off,none⟩)
 | .ff id off n sz,v=>(n=0/\ ∃ a,v=.slice (some a) 0 0)∨
   ∃ b s cap,g.m id=some (b,s)/\v=.slice (some ⟨b,s+off,none⟩) n cap/\n<=cap/\s+off+cap*sz<=dS w b
 | .lj n cs,v=> ∃ a cap,v=.slice a n cap/\n<=cap/\
   ((n=0/\cs=[])∨ ∃ b o vs,a=some ⟨b,o,none⟩/\g.fx b/\ef w b o vs/\bL g w cs vs)
 | .jC cs,v=> ∃ b o vs,v=.pointer (some ⟨b,o,none⟩)/\g.fx b/\ef w b o vs/\bL g w cs vs
 | .fk,v=> ∃ a,v=.slice a 0 0
 | .qk,v=> ∃ a,v=.slice (some a) 0 0
 | .fn f cap,v=> ∃ vs,v=.func (.func f) #[] vs/\bL g w cap vs.toList
 | .sym k s lo hi off,v=>v=.int k (iy s+off)/\lo<=iy s/\iy s<=hi
 | .any,v=>v.oneCell'=true
def bL(g:G)(w:World):List AV->List Value->Prop
 | [],l=>l=[]
 |a::r,l=> ∃ v l',l=v::l'/\VR g w a v/\bL g w r l'
end
def j1(g:G)(h:Hp)(b:Nat):Prop:= ∃ id cs s,h.aP.get id=some cs/\g.m id=some (b,s)
structure FT(C:Array Value) where
 el:TypeId
 fz:Nat×Nat
 ok':fz.1=fz.2∨C.size<=fz.1
omit [Io] in
theorem FT.ok{C:Array Value}(e:FT C): ∀ i,i<C.size-> ¬ (e.fz.1<=i/\i<e.fz.2):=fun i hi h=>by have:=e.ok';omega
def FT.nw(C:Array Value)(el:TypeId):FT C:=⟨el,(0,0),.inl rfl⟩
def FT.to{C C':Array Value}(e:FT C)(h:C'.size=C.size):FT C':=⟨e.el,e.fz,by have:=e.ok';omega⟩
def nQ(g:G)(w:World):Prop:= ∀ p,p∈Io.tb->g.fx p.1/\ef w p.1 0 p.2
structure HR(g:G)(w:World)(h:Hp):Prop where
 fresh: ∀ id,h.next<=id->g.m id=none
 aP: ∀ id cs,h.aP.get id=some cs-> ∃ b s C,∃ el:FT C,∃ vs,g.m id=some (b,s)/\w.heap[b]? =some (.cells C el.el el.fz)/\ ¬ g.fx b/\bL g w cs.toL vs/\(∀ j v,vs[j]? =some v->C[s+j]? =some v)
 inj: ∀ id xH b s s' cs cs',h.aP.get id=some cs->h.aP.get xH=some cs'->g.m id=some (b,s)->g.m xH=some (b,s')->id=xH
 fx: ∀ b,g.fx b->b<w.heap.size
 tb:nQ g w
structure HC(g:G)(w:World)(h:Hp):Prop where
 aP: ∀ id cs,h.aP.get id=some cs-> ∃ b s C,∃ el:FT C,∃ vs,g.m id=some (b,s)/\w.heap[b]? =some (.cells C el.el el.fz)/\ ¬ g.fx b/\bL g w cs.toL vs/\(∀ j v,vs[j]? =some v->C[s+j]? =some v)
 fx: ∀ b,g.fx b->b<w.heap.size
theorem HR.toHC{g w h}(H:HR g w h):HC g w h:=⟨H.aP,H.fx⟩
structure Ext(g:G)(w:World)(h:Hp)(g':G)(w':World)(h':Hp):Prop where
 os:w'.os=w.os
 tape:w'.tape=w.tape
 output:w'.output=w.output
 size:w.heap.size<=w'.heap.size
 next:h.next<=h'.next
 m: ∀ id x,g.m id=some x->g'.m id=some x
 so: ∀ b,b<w.heap.size-> ¬ j1 g h b->w'.heap[b]? =w.heap[b]?
 rows: ∀ b,dS w b<=dS w' b
 fx: ∀ b,g.fx b->g'.fx b
 IM: ∀ b,g'.fx b->g.fx b∨j1 g h b∨w.heap.size<=b
 og: ∀ b,j1 g' h' b->j1 g h b∨w.heap.size<=b
omit [Io] in
theorem Ext.refl(g:G)(w:World)(h:Hp):Ext g w h g w h:=
 ⟨rfl,rfl,rfl,Nat.le_refl _,Nat.le_refl _,fun _ _ e=>e,fun _ _ _=>rfl,fun _=>Nat.le_refl _,fun _ i=>i,fun _ i=>.inl i,fun _ o=>.inl o⟩
omit [Io] in
theorem Ext.trans{g w h g1 w1 h1 g2 w2 h2}(a:Ext g w h g1 w1 h1)(b:Ext g1 w1 h1 g2 w2 h2):Ext g w h g2 w2 h2 where
 os:=b.os.trans a.os
 tape:=b.tape.trans a.tape
 output:=b.output.trans a.output
 size:=Nat.le_trans a.size b.size
 next:=Nat.le_trans a.next b.next
 m:=fun id x e=>b.m id x (a.m id x e)
 so:=fun k hk ho=>(b.so k (Nat.lt_of_lt_of_le hk a.size) (fun o=>(a.og k o).elim ho (fun e=>absurd hk (Nat.not_lt.2 e)))).trans (a.so k hk ho)
 rows:=fun k=>Nat.le_trans (a.rows k) (b.rows k)
 fx:=fun k i=>b.fx k (a.fx k i)
 IM:=fun k i=>by
  rcases b.IM k i with i|o|l
  ·exact a.IM k i
  ·rcases a.og k o with o|l
   ·exact .inr (.inl o)
   ·exact .inr (.inr l)
  ·exact .inr (.inr (Nat.le_trans a.size l))
 og:=fun k o=>by
  rcases b.og k o with o|l
  ·exact a.og k o
  ·exact .inr (Nat.le_trans a.size l)
theorem HC.my{g w h}(H:HC g w h){b:Nat}(i:g.fx b): ¬ j1 g h b:=by
 rintro⟨id,cs,s,hg,hm⟩
 obtain⟨b',s',C,el,vs,Ky,_,hi,_⟩:=H.aP id cs hg
 rw[hm]at Ky
 obtain⟨rfl,rfl⟩:=Prod.mk.inj (Option.some.inj Ky)
 exact hi i
theorem HR.my{g w h}(H:HR g w h){b:Nat}(i:g.fx b): ¬ j1 g h b:=H.toHC.my i
structure ua(g:G)(w:World)(g':G)(w':World):Prop where
 m: ∀ id x,g.m id=some x->g'.m id=some x
 fx: ∀ b,g.fx b->g'.fx b
 A3: ∀ b,g.fx b->w'.heap[b]? =w.heap[b]?
 rows: ∀ b,dS w b<=dS w' b
theorem Ext.mono{g w h g' w' h'}(H:HC g w h)(E:Ext g w h g' w' h'):ua g w g' w':=
 ⟨E.m,E.fx,fun b i=>E.so b (H.fx b i) (H.my i),E.rows⟩
omit [Io] in
theorem ef.A3{w w':World}{b o vs}(h:w'.heap[b]? =w.heap[b]?)(c:ef w b o vs):ef w' b o vs:=by
 intro j v hj
 have:=c j v hj
 unfold World.cell? at this ⊢
 rw[h]
 exact this
theorem nQ.mono{g w g' w'}(E:ua g w g' w')(t:nQ g w):nQ g' w':=fun p hp=>⟨E.fx _ (t p hp).1,ef.A3 (E.A3 _ (t p hp).1) (t p hp).2⟩
theorem nQ.ext{g w h g' w' h'}(H:HR g w h)(E:Ext g w h g' w' h'):nQ g' w':=nQ.mono (E.mono H.toHC) H.tb
mutual
theorem VR.gg{g w g' w'}(E:ua g w g' w'): ∀ (a:AV) (v:Value),VR g w a v->VR g' w' a v
 | .int _ _,v,r=>by simpa only[VR]using r
 | .bool _,v,r=>by simpa only[VR]using r
 | .sc _,v,r=>by simpa only[VR]using r
 | .fk,v,r=>by simpa only[VR]using r
 | .qk,v,r=>by simpa only[VR]using r
 | .sym _ _ _ _ _,v,r=>by simpa only[VR]using r
 | .any,v,r=>by simpa only[VR]using r
 | .agg cs,v,r=>by
  simp only[VR]at r ⊢
  obtain⟨vs,e,q⟩:=r
  exact⟨vs,e,bL.gg E cs _ q⟩
 | .wK cs,v,r=>by
  simp only[VR]at r ⊢
  obtain⟨vs,e,q⟩:=r
  exact⟨vs,e,bL.gg E cs _ q⟩
 | .fn f cs,v,r=>by
  simp only[VR]at r ⊢
  obtain⟨vs,e,q⟩:=r
  exact⟨vs,e,bL.gg E cs _ q⟩
 | .ref id off,v,r=>by
  simp only[VR]at r ⊢
  obtain⟨b,s,e,q⟩:=r
  exact⟨b,s,E.m _ _ e,q⟩
 | .ff id off n sz,v,r=>by
  simp only[VR]at r ⊢
  rcases r with r|⟨b,s,cap,e,q,l,z⟩
  ·exact .inl r
  ·exact .inr ⟨b,s,cap,E.m _ _ e,q,l,Nat.le_trans z (E.rows b)⟩
 | .lj n cs,v,r=>by
  simp only[VR]at r ⊢
  obtain⟨a,cap,e,l,r⟩:=r
  refine⟨a,cap,e,l,?_⟩
  rcases r with r|⟨b,o,vs,e,i,c,q⟩
  ·exact .inl r
  ·exact .inr ⟨b,o,vs,e,E.fx b i,c.A3 (E.A3 b i),bL.gg E cs _ q⟩
 | .jC cs,v,r=>by
  simp only[VR]at r ⊢
  obtain⟨b,o,vs,e,i,c,q⟩:=r
  exact⟨b,o,vs,e,E.fx b i,c.A3 (E.A3 b i),bL.gg E cs _ q⟩
theorem bL.gg{g w g' w'}(E:ua g w g' w'): ∀ (l:List AV) (vs:List Value),bL g w l vs->bL g' w' l vs
 | [],vs,r=>by simpa only[bL]using r
 |a::l,vs,r=>by
  simp only[bL]at r ⊢
  obtain⟨v,l',e,q,r⟩:=r
  exact⟨v,l',e,VR.gg E a v q,bL.gg E l l' r⟩
end
theorem VR.mono{g w h g' w' h'}(H:HR g w h)(E:Ext g w h g' w' h')(a:AV)(v:Value)(r:VR g w a v):VR g' w' a v:=VR.gg (E.mono H.toHC) a v r
theorem bL.mono{g w h g' w' h'}(H:HR g w h)(E:Ext g w h g' w' h')(l:List AV)(vs:List Value)(r:bL g w l vs):bL g' w' l vs:=bL.gg (E.mono H.toHC) l vs r
omit [Io] in
theorem Tr.get_nil{α:Type}(n:Nat):(Tr.nil:Tr α).get n=none:=rfl
omit [Io] in
theorem Tr.qN{α:Type}(l r:Tr α)(v:Option α)(n:Nat):
 (Tr.node l v r).get n=if n=0 then v else if n % 2=1 then l.get (n / 2)else r.get (n / 2 - 1):=by
 show il (Nat.beq n 0) v (il (Nat.beq (Nat.mod n 2) 1) (l.get (Nat.div n 2)) (r.get (Nat.sub (Nat.div n 2) 1)))=_
 by_cases h:n=0
 ·subst h;rfl
 ·rw[if_neg h,show Nat.beq n 0=false from by cases n with|zero=>exact absurd rfl h|succ n=>rfl]
  by_cases h2:n % 2=1
  ·rw[if_pos h2,show Nat.beq (Nat.mod n 2) 1=true from by rw[show Nat.mod n 2=1 from h2];rfl];rfl
  ·rw[if_neg h2,show Nat.beq (Nat.mod n 2) 1=false from by rw[show Nat.mod n 2=0 from by show n % 2=0;omega];rfl];rfl
omit [Io] in
theorem Tr.get_eq{α:Type}(t:Tr α)(n:Nat):
 t.get n=if n=0 then t.hd else if n % 2=1 then t.lf.get (n / 2)else t.rt.get (n / 2 - 1):=by
 cases t with
 |nil=>simp[Tr.get_nil,Tr.hd,Tr.lf,Tr.rt]
 |node l v r=>rw[Tr.qN];rfl
omit [Io] in
theorem Tr.IP{α:Type}(f:Nat)(t:Tr α)(n:Nat)(x:Option α):
 Tr.Fa (f+1) t n x=if n=0 then .node t.lf x t.rt else if n % 2=1 then .node (Tr.Fa f t.lf (n / 2) x) t.hd t.rt
  else .node t.lf t.hd (Tr.Fa f t.rt (n / 2 - 1) x):=by
 show il (Nat.beq n 0) (Tr.node t.lf x t.rt) (il (Nat.beq (Nat.mod n 2) 1) (Tr.node (Tr.Fa f t.lf (Nat.div n 2) x) t.hd t.rt)
  (Tr.node t.lf t.hd (Tr.Fa f t.rt (Nat.sub (Nat.div n 2) 1) x)))=_
 by_cases h:n=0
 ·subst h;rfl
 ·rw[if_neg h,show Nat.beq n 0=false from by cases n with|zero=>exact absurd rfl h|succ n=>rfl]
  by_cases h2:n % 2=1
  ·rw[if_pos h2,show Nat.beq (Nat.mod n 2) 1=true from by rw[show Nat.mod n 2=1 from h2];rfl];rfl
  ·rw[if_neg h2,show Nat.beq (Nat.mod n 2) 1=false from by rw[show Nat.mod n 2=0 from by show n % 2=0;omega];rfl];rfl
omit [Io] in
theorem Tr.KV{α:Type}(f:Nat): ∀ (t:Tr α) (n:Nat) (x:Option α) (k:Nat),n<f->(Tr.Fa f t n x).get k=if k=n then x else t.get k:=by
 induction f with
 |zero=>intro t n x k h;omega
 |succ f ih=>
  intro t n x k h
  rw[Tr.IP]
  by_cases h0:n=0
  ·subst h0
   rw[if_pos rfl,Tr.qN,Tr.get_eq t]
   by_cases hk:k=0
   ·simp[hk]
   ·simp[hk]
  ·rw[if_neg h0]
   by_cases h1:n % 2=1
   ·rw[if_pos h1,Tr.qN,Tr.get_eq t k]
    by_cases hk:k=0
    ·subst hk;simp;intro e;omega
    ·simp only[hk,if_false]
     by_cases hk1:k % 2=1
     ·simp only[hk1,if_true]
      rw[ih _ _ _ _ (by omega)]
      by_cases e:k=n
      ·subst e;simp
      ·rw[if_neg e,if_neg (by omega)]
     ·simp only[hk1,if_false]
      rw[if_neg (by intro e;subst e;omega)]
   ·rw[if_neg h1,Tr.qN,Tr.get_eq t k]
    by_cases hk:k=0
    ·subst hk;simp;intro e;omega
    ·simp only[hk,if_false]
     by_cases hk1:k % 2=1
     ·simp only[hk1,if_true]
      rw[if_neg (by intro e;subst e;omega)]
     ·simp only[hk1,if_false]
      rw[ih _ _ _ _ (by omega)]
      by_cases e:k=n
      ·subst e;simp
      ·rw[if_neg e,if_neg (by omega)]
omit [Io] in
theorem Tr.j2{α:Type}(t:Tr α)(n:Nat)(x:Option α)(k:Nat):(t.set n x).get k=if k=n then x else t.get k:=
 Tr.KV _ t n x k (Nat.lt_succ_self n)
omit [Io] in
theorem F8.rP{α:Type}(f:F8 α)(x:α)(i j:Nat)(hi:i<8)(hj:j<8):(f.EY x i).Cw j=if j=i then x else f.Cw j:=by
 rcases(by omega:i=0∨i=1∨i=2∨i=3∨i=4∨i=5∨i=6∨i=7)with rfl|rfl|rfl|rfl|rfl|rfl|rfl|rfl<;>
 rcases(by omega:j=0∨j=1∨j=2∨j=3∨j=4∨j=5∨j=6∨j=7)with rfl|rfl|rfl|rfl|rfl|rfl|rfl|rfl<;>rfl
omit [Io] in
theorem Tm.jF(t:Tm)(i j:Nat)(x:Option AV)(hi:i<512)(hj:j<512):(t.put i x).at j=if j=i then x else t.at j:=by
 unfold Tm.put Tm.at
 rw[F8.rP _ _ _ _ (by omega) (by omega)]
 by_cases h1:j / 64=i / 64
 ·rw[if_pos h1,F8.rP _ _ _ _ (by omega) (by omega)]
  by_cases h2:j / 8 % 8=i / 8 % 8
  ·rw[if_pos h2,F8.rP _ _ _ _ (by omega) (by omega)]
   by_cases h3:j % 8=i % 8
   ·rw[if_pos h3,if_pos (by omega)]
   ·rw[if_neg h3,if_neg (by intro e;subst e;exact h3 rfl),h1,h2]
  ·rw[if_neg h2,if_neg (by intro e;subst e;exact h2 rfl),h1]
 ·rw[if_neg h1,if_neg (by intro e;subst e;exact h1 rfl)]
omit [Io] in
theorem Tm.A4(j:Nat)(hj:j<512):Tm.none.at j=Option.none:=by
 unfold Tm.none Tm.at
 rcases(by omega:j / 64=0∨j / 64=1∨j / 64=2∨j / 64=3∨j / 64=4∨j / 64=5∨j / 64=6∨j / 64=7)with h|h|h|h|h|h|h|h<;>rw[h]<;>
 rcases(by omega:j / 8 % 8=0∨j / 8 % 8=1∨j / 8 % 8=2∨j / 8 % 8=3∨j / 8 % 8=4∨j / 8 % 8=5∨j / 8 % 8=6∨j / 8 % 8=7)with h|h|h|h|h|h|h|h<;>rw[h]<;>
 rcases(by omega:j % 8=0∨j % 8=1∨j % 8=2∨j % 8=3∨j % 8=4∨j % 8=5∨j % 8=6∨j % 8=7)with h|h|h|h|h|h|h|h<;>rw[h]<;>rfl
def TR(g:G)(w:World)(nt:Nat)(t:Tm)(tmps:Array Value):Prop:=
 nt<=512/\tmps.size=nt/\ ∀ i v,i<512->t.at i=some v->i<nt/\VR g w v (tmps.getD i undef)
theorem TR.mono{g w h g' w' h' nt t tmps}(H:HR g w h)(E:Ext g w h g' w' h')(r:TR g w nt t tmps):TR g' w' nt t tmps:=
 ⟨r.1,r.2.1,fun i v hi e=>⟨(r.2.2 i v hi e).1,VR.mono H E _ _ (r.2.2 i v hi e).2⟩⟩
theorem TR.put{g w nt t tmps}(r:TR g w nt t tmps){d:Nat}(hd:d<nt){a:AV}{v:Value}(hv:VR g w a v):
 TR g w nt (t.put d (some a)) (tmps.setIfInBounds d v):=by
 obtain⟨h1,h2,h3⟩:=r
 refine⟨h1,by simpa using h2,fun i x hi e=>?_⟩
 rw[Tm.jF _ _ _ _ (by omega) hi]at e
 by_cases jG:i=d
 ·subst jG
  rw[if_pos rfl]at e
  obtain rfl:=Option.some.inj e
  refine⟨hd,?_⟩
  rw[Array.getD_eq_getD_getElem?,Array.getElem?_setIfInBounds_self_of_lt (by omega)]
  exact hv
 ·rw[if_neg jG]at e
  refine⟨(h3 i x hi e).1,?_⟩
  have:=(h3 i x hi e).2
  rw[Array.getD_eq_getD_getElem?]at this ⊢
  rw[Array.getElem?_setIfInBounds_ne (by omega)]
  exact this
end Go.Ab
