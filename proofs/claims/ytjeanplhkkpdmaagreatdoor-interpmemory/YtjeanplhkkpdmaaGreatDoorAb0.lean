import Derived.Calls
import Derived.Laws.Sem
import Derived.Laws.AppendOwn
import Derived.Laws.MakeOwn
import Derived.Laws.CopyRow
noncomputable section
namespace Go.Ab
def lA{α:Type}(c:Bool)(a b:α):α:=Bool.rec b a c
inductive Tr (α:Type) where
 |nil
 |node (l:Tr α) (v:Option α) (r:Tr α)
def Tr.get{α:Type}(t:Tr α):Nat->Option α:=
 Tr.rec (fun _=>none) (fun _ v _ gl gr n=>Bool.rec (Bool.rec (gr (Nat.sub (Nat.div n 2) 1)) (gl (Nat.div n 2)) (Nat.beq (Nat.mod n 2) 1)) v (Nat.beq n 0)) t
def Tr.lf{α:Type}(t:Tr α):Tr α:=Tr.rec .nil (fun l _ _ _ _=>l) t
def Tr.rt{α:Type}(t:Tr α):Tr α:=Tr.rec .nil (fun _ _ r _ _=>r) t
def Tr.hd{α:Type}(t:Tr α):Option α:=Tr.rec none (fun _ v _ _ _=>v) t
def Tr.G4{α:Type}(f:Nat):Tr α->Nat->Option α->Tr α:=
 Nat.rec (fun t _ _=>t) (fun _ go t n x=>
  Bool.rec (Bool.rec (.node t.lf t.hd (go t.rt (Nat.sub (Nat.div n 2) 1) x)) (.node (go t.lf (Nat.div n 2) x) t.hd t.rt) (Nat.beq (Nat.mod n 2) 1))
   (.node t.lf x t.rt) (Nat.beq n 0)) f
def Tr.set{α:Type}(t:Tr α)(n:Nat)(x:Option α):Tr α:=Tr.G4 (Nat.succ n) t n x
structure F8(α:Type) where
 a0:α
 a1:α
 a2:α
 a3:α
 a4:α
 a5:α
 a6:α
 a7:α
def F8.Ex{α:Type}(f:F8 α):Nat->α
 |0=>f.a0|1=>f.a1|2=>f.a2|3=>f.a3|4=>f.a4|5=>f.a5|6=>f.a6| _=>f.a7
def F8.GX{α:Type}(f:F8 α)(x:α):Nat->F8 α
 |0=>⟨x,f.a1,f.a2,f.a3,f.a4,f.a5,f.a6,f.a7⟩
 |1=>⟨f.a0,x,f.a2,f.a3,f.a4,f.a5,f.a6,f.a7⟩
 |2=>⟨f.a0,f.a1,x,f.a3,f.a4,f.a5,f.a6,f.a7⟩
 |3=>⟨f.a0,f.a1,f.a2,x,f.a4,f.a5,f.a6,f.a7⟩
 |4=>⟨f.a0,f.a1,f.a2,f.a3,x,f.a5,f.a6,f.a7⟩
 |5=>⟨f.a0,f.a1,f.a2,f.a3,f.a4,x,f.a6,f.a7⟩
 |6=>⟨f.a0,f.a1,f.a2,f.a3,f.a4,f.a5,x,f.a7⟩
 | _=>⟨f.a0,f.a1,f.a2,f.a3,f.a4,f.a5,f.a6,x⟩
def F8.all{α:Type}(x:α):F8 α:=⟨x,x,x,x,x,x,x,x⟩
inductive SV where
 |var (i:Nat)
 |G5 (i:Nat)
 |umod (i c:Nat)
 |lin (i:Nat) (m:Int)
 |Tu (i p m:Nat)
 |cl (i:Nat) (l h:Int)
 |pr (i:Nat) (l h:Int) (j:Nat)
 |ad (i j:Nat) (l h:Int)
 |con (n:Int)
 |sm (l:List Nat)
 |ix (l:List Nat) (a:SV) (o:Int)
 |tm (f:Nat) (k k':IntKind) (a:SV) (oa:Int) (b:SV) (ob:Int)
 |bits (l:List Nat)
inductive AV where
 |int (k:IntKind) (n:Int)
 |bool (b:Bool)
 |sc (v:Value)
 |agg (cs:List AV)
 |yv (vs:List AV)
 |ref (id off:Nat)
 |jS (id off len sz:Nat)
 |qT (len:Nat) (cs:List AV)
 |mN (cs:List AV)
 |mB
 |sK
 |fn (f:FuncId) (cap:List AV)
 |sym (k:IntKind) (s:SV) (lo hi off:Int)
 |any
 deriving Inhabited
abbrev Tm:=F8 (F8 (F8 (Option AV)))
def Tm.at(t:Tm)(i:Nat):Option AV:=((t.Ex (i / 64)).Ex (i / 8 % 8)).Ex (i % 8)
def Tm.put(t:Tm)(i:Nat)(v:Option AV):Tm:=t.GX ((t.Ex (i / 64)).GX (((t.Ex (i / 64)).Ex (i / 8 % 8)).GX v (i % 8)) (i / 8 % 8)) (i / 64)
def Tm.none:Tm:=F8.all (F8.all (F8.all Option.none))
structure Rw where
 n:Nat
 d:List AV
 t:Tr AV
structure Hp where
 next:Nat
 cw:Tr Rw
inductive Ro where
 |bad
 |ok (v:AV) (h:Hp)
inductive Rt where
 |bad
 |ok (t:Tm) (h:Hp)
inductive Rc where
 |bad
 |norm (t:Tm) (h:Hp)
 |ret (t:Tm) (h:Hp)
 |exit (i:Nat) (t:Tm) (h:Hp)
abbrev jF:=Tm->Option AV
abbrev jC:=Tm->Hp->Ro
abbrev qh:=Tm->Hp->Rt
abbrev Bn:=Tm->Hp->Rc
abbrev iP:=FuncId->List AV->Hp->Ro
def app{α:Type}(l r:List α):List α:=List.rec r (fun a _ ih=>a::ih) l
def len{α:Type}(l:List α):Nat:=List.rec (fun n=>n) (fun _ _ ih n=>ih (Nat.add n 1)) l (0:Nat)
def tk{α:Type}(n:Nat)(l:List α):List α:=
 List.rec (fun _=>[]) (fun a _ ih n=>Bool.rec (a::ih (Nat.sub n 1)) [] (Nat.beq n 0)) l n
def dp{α:Type}(n:Nat)(l:List α):List α:=
 List.rec (fun _=>[]) (fun a r ih n=>Bool.rec (ih (Nat.sub n 1)) (a::r) (Nat.beq n 0)) l n
def oH{α:Type}(l:List α)(n:Nat):Option α:=
 List.rec (fun _=>none) (fun a _ ih n=>Bool.rec (ih (Nat.sub n 1)) (some a) (Nat.beq n 0)) l n
def iD{α:Type}(p:α->Bool)(l:List α):Bool:=List.rec true (fun a _ ih=>bif p a then ih else false) l
def leaf:Value->Option AV
 | .int k n=>some (.int k n)
 | .bool b=>some (.bool b)
 | .string s=>some (.sc (.string s))
 | .pointer none=>some (.sc (.pointer none))
 | .slice none 0 0=>some (.sc (.slice none 0 0))
 | .map none=>some (.sc (.map none))
 | .nilFunc=>some (.sc .nilFunc)
 | .nilIface=>some (.sc .nilIface)
 | _=>none
def leaves(l:List Value):Option (List AV):=
 List.rec (some []) (fun v _ ih=>match leaf v with
  |some a=>match ih with
   |some r=>some (a::r)
   |none=>none
  |none=>none) l
def TQ:Value->Option AV
 | .agg cs=>match leaves cs.toList with|some l=>some (.agg l)|none=>none
 | .tuple cs=>match leaves cs.toList with|some l=>some (.yv l)|none=>none
 |v=>leaf v
def AV.cells:AV->List AV
 | .agg cs=>cs
 |v=>[v]
def ji:AV->Bool
 | .agg _| .yv _=>false
 | _=>true
def kN:AV:=.yv []
def isNil:AV->Bool
 | .sc (.slice none n c)=>Nat.beq n 0&&Nat.beq c 0
 | _=>false
def vh:AV->Bool
 | .sK=>true
 |a=>isNil a
def Tv:AV->Bool
 | .sK=>true
 | .mB=>true
 | .jS _ _ n _=>Nat.beq n 0
 | .qT n _=>Nat.beq n 0
 |a=>isNil a
def xg(a:AV):AV:=bif vh a then .mB else a
def CQ(a:AV):Option Bool:=bif isNil a then some true else match a with
 | .sK=>some false
 | .jS _ _ _ _=>some false
 | .qT n _=>bif Nat.beq n 0 then none else some false
 | _=>none
def Rw.cell(r:Rw)(i:Nat):AV:=Option.rec (Option.rec kN (fun v=>v) (oH r.d (Nat.mod i (len r.d)))) (fun v=>v) (r.t.get i)
def Rw.cells(r:Rw)(k:Nat):Nat->List AV:=Nat.rec (fun _=>[]) (fun _ ih i=>r.cell i::ih (Nat.add i 1)) k
def Rw.toL(r:Rw):List AV:=r.cells r.n 0
def pK(l:List AV):Nat->Tr AV->Tr AV:=List.rec (fun _ t=>t) (fun a _ ih i t=>ih (Nat.add i 1) (t.set i (some a))) l
def yX(l:List AV):Rw:=⟨len l,[],pK l 0 .nil⟩
def Rw.oV(r:Rw)(off k:Nat):Option (List AV):=bif Nat.ble (Nat.add off k) r.n then some (r.cells k off)else none
def Rw.put(r:Rw)(off:Nat)(l:List AV):Rw:=⟨r.n,r.d,pK l off r.t⟩
def Rw.app(r:Rw)(l:List AV):Rw:=⟨Nat.add r.n (len l),r.d,pK l r.n r.t⟩
def Rw.upto(r:Rw)(m:Nat):Rw:=⟨m,r.d,r.t⟩
def Rw.sub(r:Rw)(off k:Nat):Option Rw:=bif Nat.ble (Nat.add off k) r.n then some (bif Nat.beq off 0 then r.upto k else yX (r.cells k off))else none
def oT(i:Nat):jF:=fun t=>Tm.at t i
def wO(x:jF):jF:=fun t=>Option.rec none (fun a=>some (xg a)) (x t)
abbrev afR:=AV->Tm->Tm
def sT(i:Nat):afR:=fun v t=>Tm.put t i (some v)
def oC(v:AV):jF:=fun _=>some v
def oX:jF:=fun _=>none
def xk(l:List jF)(t:Tm):Option (List AV):=
 List.rec (some []) (fun o _ ih=>Option.rec none (fun v=>Option.rec none (fun vs=>some (v::vs)) ih) (o t)) l
def iV(h:Hp)(cs:Rw):Hp:=⟨Nat.add h.next 1,h.cw.set h.next (some cs)⟩
def mO(h:Hp)(id:Nat)(cs:Option Rw):Hp:=⟨h.next,h.cw.set id cs⟩
def ja(k:IntKind)(n:Int):Int:=
 match k with
 | .u8=>Int.emod n 256| .u16=>Int.emod n 65536| .u32=>Int.emod n 4294967296| .u64=>Int.emod n 18446744073709551616
 | .i8=>Int.sub (Int.emod (Int.add n 128) 256) 128| .i16=>Int.sub (Int.emod (Int.add n 32768) 65536) 32768
 | .i32=>Int.sub (Int.emod (Int.add n 2147483648) 4294967296) 2147483648
 | .i64=>Int.sub (Int.emod (Int.add n 9223372036854775808) 18446744073709551616) 9223372036854775808
def mK:IntKind->IntKind->Bool
 | .i8,.i8| .i16,.i16| .i32,.i32| .i64,.i64| .u8,.u8| .u16,.u16| .u32,.u32| .u64,.u64=>true
 | _,_=>false
def oD:Int->Int->Bool
 | .ofNat a,.ofNat b=>Nat.blt a b
 | .ofNat _,.negSucc _=>false
 | .negSucc _,.ofNat _=>true
 | .negSucc a,.negSucc b=>Nat.blt b a
def eqI:Int->Int->Bool
 | .ofNat a,.ofNat b=>Nat.beq a b
 | .negSucc a,.negSucc b=>Nat.beq a b
 | _,_=>false
def nS(s:Sem Value):Option Value:=
 match s with
 | .pure v=>some v
 | _=>none
def qg(f:IntKind->Int->Int->Option AV)(x y:AV):Option AV:=
 match x,y with
 | .int k a,.int k' b=>bif mK k k' then f k a b else none
 | _,_=>none
def aai:AV->AV->Option AV:=qg fun k a b=>some (.int k (ja k (Int.add a b)))
def aaj:AV->AV->Option AV:=qg fun k a b=>some (.int k (ja k (Int.sub a b)))
def aak:AV->AV->Option AV:=qg fun k a b=>some (.int k (ja k (Int.mul a b)))
def TS:AV->AV->Option AV:=qg fun k a b=>bif eqI b 0 then none else some (.int k (ja k (Int.tdiv a b)))
def TT:AV->AV->Option AV:=qg fun k a b=>bif eqI b 0 then none else some (.int k (Int.tmod a b))
def aal:AV->AV->Option AV:=qg fun _ a b=>some (.bool (oD a b))
def aam:AV->AV->Option AV:=qg fun _ a b=>some (.bool (!(oD b a)))
def aan:AV->AV->Option AV:=qg fun _ a b=>some (.bool (oD b a))
def aao:AV->AV->Option AV:=qg fun _ a b=>some (.bool (!(oD a b)))
def uJ:IntKind->Nat
 | .i8=>128| .i16=>32768| .i32=>2147483648| .i64=>9223372036854775808
 | .u8=>256| .u16=>65536| .u32=>4294967296| .u64=>18446744073709551616
def uP:IntKind->Nat
 | .i8| .u8=>8| .i16| .u16=>16| .i32| .u32=>32| .i64| .u64=>64
def zC(s:Option Value):Option AV:=match s with
 |some v=>TQ v
 |none=>none
def BZ(op:BinOp)(f:Nat->Nat->Nat):AV->AV->Option AV:=qg fun k a b=>
 match a,b with
 | .ofNat a,.ofNat b=>bif Nat.blt a (uJ k)&&Nat.blt b (uJ k)then some (.int k (.ofNat (f a b)))else zC (nS (Op.intBits op k (.ofNat a) (.ofNat b)))
 |a,b=>zC (nS (Op.intBits op k a b))
def TU:AV->AV->Option AV:=BZ .and Nat.land
def bOr:AV->AV->Option AV:=BZ .or Nat.lor
def TW:AV->AV->Option AV:=BZ .xor Nat.xor
def rS:AV->AV->Option AV:=qg fun k a b=>zC (nS (Op.intBits .andNot k a b))
def zD(a b:Nat):Nat:=bif Nat.ble a b then a else b
def G6(x y:AV):Option AV:=
 match x,y with
 | .int k a,.int _ (.ofNat n)=>some (.int k (ja k (Int.mul a (.ofNat (Nat.pow 2 (zD n (uP k)))))))
 | _,_=>none
def G7(x y:AV):Option AV:=
 match x,y with
 | .int k a,.int _ (.ofNat n)=>some (.int k (Int.fdiv a (.ofNat (Nat.pow 2 (zD n (uP k))))))
 | _,_=>none
def eqStr(a b:ByteArray):Bool:=a.toList == b.toList
def Nb(neg:Bool):AV->AV->Option AV:=qg fun _ a b=>some (.bool (bif neg then !(eqI a b)else eqI a b))
def Bq(neg:Bool)(x y:AV):Option AV:=
 match x,y with
 | .bool a,.bool b=>some (.bool (bif neg then xor a b else !(xor a b)))
 | _,_=>none
def Br(neg:Bool)(x y:AV):Option AV:=
 match x,y with
 | .sc (.string a),.sc (.string b)=>some (.bool (bif neg then !(eqStr a b)else eqStr a b))
 | _,_=>none
def CR(neg:Bool)(x y:AV):Option AV:=
 match x,y with
 | .ref _ _,.sc (.pointer none)| .mN _,.sc (.pointer none)| .sc (.pointer none),.ref _ _| .sc (.pointer none),.mN _=>some (.bool neg)
 | .sc (.pointer none),.sc (.pointer none)=>some (.bool (!neg))
 | _,_=>none
def zE(neg:Bool)(x y:AV):Option AV:=bif isNil y then Option.rec none (fun b=>some (.bool (bif neg then !b else b))) (CQ x)else none
def loK:IntKind->Int
 | .i8=> -128| .i16=> -32768| .i32=> -2147483648| .i64=> -9223372036854775808| _=>0
def YS:IntKind->Int
 | .i8=>127| .i16=>32767| .i32=>2147483647| .i64=>9223372036854775807
 | .u8=>255| .u16=>65535| .u32=>4294967295| .u64=>18446744073709551615
def TX:IntKind->Int
 | .i8| .u8=>256| .i16| .u16=>65536| .i32| .u32=>4294967296| .i64| .u64=>18446744073709551616
def xl:List Nat->List Nat->Bool
 | [],[]=>true
 |a::l,b::m=>bif Nat.beq a b then xl l m else false
 | _,_=>false
def qU:SV->SV->Bool
 | .var i,.var j=>Nat.beq i j
 | .G5 i,.G5 j=>Nat.beq i j
 | .umod i c,.umod j d=>Nat.beq i j&&Nat.beq c d
 | .lin i m,.lin j n=>Nat.beq i j&&eqI m n
 | .Tu i p m,.Tu j q n=>Nat.beq i j&&(Nat.beq p q&&Nat.beq m n)
 | .bits l,.bits m=>xl l m
 | .con m,.con n=>eqI m n
 | .sm l,.sm m=>xl l m
 | .cl i l h,.cl i' l' h'=>Nat.beq i i'&&(eqI l l'&&eqI h h')
 | .pr i l h j,.pr i' l' h' j'=>Nat.beq i i'&&(eqI l l'&&(eqI h h'&&Nat.beq j j'))
 | .ad i j l h,.ad i' j' l' h'=>Nat.beq i i'&&(Nat.beq j j'&&(eqI l l'&&eqI h h'))
 | _,_=>false
def G8(a:SV):SV->Bool:=
 SV.rec (motive:=fun _=>SV->Bool) (fun i=>qU (.var i)) (fun i=>qU (.G5 i)) (fun i c=>qU (.umod i c)) (fun i m=>qU (.lin i m)) (fun i p m=>qU (.Tu i p m))
  (fun i l h=>qU (.cl i l h)) (fun i l h j=>qU (.pr i l h j)) (fun i j l h=>qU (.ad i j l h)) (fun n=>qU (.con n)) (fun l=>qU (.sm l))
  (fun l _ o vi y=>match y with
   | .ix l2 a2 o2=>xl l l2&&(eqI o o2&&vi a2)
   | _=>false)
  (fun f k k' _ oa _ ob vi zF y=>match y with
   | .tm f2 k2 k2' a2 oa2 b2 ob2=>Nat.beq f f2&&(mK k k2&&(mK k' k2'&&(eqI oa oa2&&(eqI ob ob2&&(vi a2&&zF b2)))))
   | _=>false) (fun l=>qU (.bits l)) a
def aaq(k:IntKind)(lo hi off:Int):Bool:= !(oD (Int.add lo off) (loK k))&& !(oD (YS k) (Int.add hi off))
def Bt(k:IntKind)(s:SV)(lo hi off:Int):Option AV:=
 bif aaq k lo hi off then some (.sym k s lo hi off)else
 bif aaq k lo hi (Int.add off (TX k))then some (.sym k s lo hi (Int.add off (TX k)))else
 bif aaq k lo hi (Int.sub off (TX k))then some (.sym k s lo hi (Int.sub off (TX k)))else none
def aq6(x y:AV):Option AV:=match x,y with
 | .sym k s lo hi o,.int k' c=>bif mK k k' then Bt k s lo hi (Int.add o c)else none
 | .int k' c,.sym k s lo hi o=>bif mK k k' then Bt k s lo hi (Int.add o c)else none
 | _,_=>none
def afS(b:List Nat)(a:List Nat):Option (List Nat):=List.rec (bif xl [] b then some []else none) (fun x r ih=>bif xl (x::r) b then some []else match ih with
 |some m=>some (x::m)
 |none=>none) a
def aq7(x y:AV):Option AV:=match x,y with
 | .sym k s lo hi o,.int k' c=>bif mK k k' then Bt k s lo hi (Int.sub o c)else none
 | .sym k s lo hi o,.sym k' s' lo' xm o'=>bif mK k k'&&G8 s s' then some (.int k (ja k (Int.sub o o')))else bif mK k k' then(match s,s' with
  | .ad i j l h,.var i'=>bif Nat.beq i i'&& !(oD h l)then Bt k (.cl j l h) l h (Int.sub o o')else none
  | .sm a,.sm b=>(match afS b a with
   |some m=>Bt k (.sm m) (Int.sub lo xm) (Int.sub hi lo') (Int.sub o o')
   |none=>none)
  | .sm a,.var i=>(match afS [i] a with
   |some m=>Bt k (.sm m) (Int.sub lo xm) (Int.sub hi lo') (Int.sub o o')
   |none=>none)
  | _,_=>none)else none
 | _,_=>none
def Nc(_ _:AV):Option Bool:=none
def TY(w:Nat):Nat->List Nat:=Nat.rec (fun _=>[]) (fun _ ih n=>Nat.mod n 2::ih (Nat.div n 2)) w
def I5(w:Nat):Nat->List Nat:=Nat.rec (fun _=>[]) (fun _ ih b=>b::ih (Nat.add b 1)) w
def EF(n:Nat):List Nat:=Nat.rec [] (fun _ ih=>(0:Nat)::ih) n
def hiB(l:List Nat):Nat:=List.rec (0:Nat) (fun c _ ih=>Nat.add (Nat.mul 2 ih) (Bool.rec 1 0 (Nat.beq c 0))) l
def loB(l:List Nat):Nat:=List.rec (0:Nat) (fun c _ ih=>Nat.add (Nat.mul 2 ih) (Bool.rec 0 1 (Nat.beq c 1))) l
def akS(l:List Nat):Bool:=List.rec true (fun c _ ih=>Bool.rec false ih (Nat.blt c 2)) l
def mkB(k:IntKind)(l:List Nat):Option AV:=
 bif oD (YS k) (.ofNat (hiB l))then none else
 bif akS l then some (.int k (.ofNat (hiB l)))else some (.sym k (.bits l) (.ofNat (loB l)) (.ofNat (hiB l)) 0)
def toB(x:AV):Option (IntKind×List Nat):=match x with
 | .int k (.ofNat n)=>bif Nat.blt n (uJ k)then some (k,TY 64 n)else none
 | .sym k (.bits l) _ (.ofNat hi) (.ofNat o)=>bif Nat.beq o 0&&Nat.blt hi (uJ k)then some (k,l)else none
 | .sym k (.var i) (.ofNat _) (.ofNat hi) (.ofNat o)=>
  bif Nat.beq o 0&&(Nat.blt hi (uJ k)&&(Nat.blt hi (Nat.pow 2 (Nat.add (Nat.log2 hi) 1))&&Nat.ble (Nat.add (Nat.log2 hi) 1) 64))then
   some (k,app (I5 (Nat.add (Nat.log2 hi) 1) (Nat.add 2 (Nat.mul 64 i))) (EF (Nat.sub 63 (Nat.log2 hi))))else none
 | .sym k (.G5 i) _ (.ofNat hi) (.ofNat o)=>bif Nat.beq o 0&&Nat.blt hi (uJ k)then some (k,I5 64 (Nat.add 2 (Nat.mul 64 i)))else none
 | _=>none
def akT(f:Nat->Nat->Option Nat)(l:List Nat):List Nat->Option (List Nat):=
 List.rec (fun m=>List.rec (some []) (fun _ _ _=>none) m) (fun a _ ih m=>List.rec none (fun b m _=>
  match f a b with
  |some c=>match ih m with
   |some r=>some (c::r)
   |none=>none
  |none=>none) m) l
def akU(a b:Nat):Option Nat:=bif Nat.beq a 0||Nat.beq b 0 then some 0 else bif Nat.beq a 1 then some b else bif Nat.beq b 1||Nat.beq a b then some a else none
def or1(a b:Nat):Option Nat:=bif Nat.beq a 1||Nat.beq b 1 then some 1 else bif Nat.beq a 0 then some b else bif Nat.beq b 0||Nat.beq a b then some a else none
def akV(a b:Nat):Option Nat:=bif Nat.beq a b then some 0 else bif Nat.beq a 0 then some b else bif Nat.beq b 0 then some a else none
def zB(f:Nat->Nat->Option Nat)(x y:AV):Option AV:=match toB x,toB y with
 |some (k,l),some (k',m)=>bif mK k k' then(match akT f l m with
  |some r=>mkB k r
  |none=>none)else none
 | _,_=>none
def afT:IntKind->Bool
 | .u8| .u16| .u32| .u64=>true
 | _=>false
def aq':AV->AV->Option AV:=zB akU
def sOr:AV->AV->Option AV:=zB or1
def ara:AV->AV->Option AV:=zB akV
def arb(x y:AV):Option AV:=match toB x with
 |some (k,l)=>match y with
  | .int _ (.ofNat n)=>bif afT k then mkB k (app (tk (uP k) (app (EF (zD n (uP k))) l)) (EF (Nat.sub 64 (uP k))))else none
  | _=>none
 |none=>none
def arc(x y:AV):Option AV:=match toB x with
 |some (k,l)=>match y with
  | .int _ (.ofNat n)=>mkB k (app (dp (zD n (uP k)) l) (EF (zD n (uP k))))
  | _=>none
 |none=>none
def afU(k:IntKind)(x:AV):Option AV:=match toB x with
 |some (_,l)=>bif afT k then mkB k (app (tk (uP k) l) (EF (Nat.sub 64 (uP k))))else none
 |none=>none
def eqB(x y:AV):Option Bool:=match toB x,toB y with
 |some (k,l),some (k',m)=>bif mK k k'&&xl l m then some true else none
 | _,_=>none
def akW(x y:AV):Option Bool:=match x,y with
 | .sym k _ lo hi o,.int k' c=>bif mK k k' then(bif oD c (Int.add lo o)||oD (Int.add hi o) c then some false else bif eqI (Int.add lo o) c&&eqI (Int.add hi o) c then some true else none)else none
 | .int k' c,.sym k _ lo hi o=>bif mK k k' then(bif oD c (Int.add lo o)||oD (Int.add hi o) c then some false else bif eqI (Int.add lo o) c&&eqI (Int.add hi o) c then some true else none)else none
 | .sym k s _ _ o,.sym k' s' _ _ o'=>bif mK k k'&&G8 s s' then some (eqI o o')else none
 | _,_=>none
def ard(x y:AV):Option Bool:=Option.rec (eqB x y) (fun b=>some b) (akW x y)
def eqL(x y:AV):Option Bool:=match Nc x y with
 |some true=>some false
 | _=>match Nc y x with
  |some true=>some false
  | _=>none
def Kz(_ _:AV):Option Bool:=none
def arf(x y:AV):Option AV:=Option.rec none (fun b=>some (.bool b)) (Nc x y)
def arh(x y:AV):Option AV:=Option.rec none (fun b=>some (.bool b)) (Nc y x)
def ari(x y:AV):Option AV:=Option.rec none (fun b=>some (.bool (!b))) (Nc y x)
def arj(x y:AV):Option AV:=Option.rec none (fun b=>some (.bool (!b))) (Nc x y)
def sEq(neg:Bool)(x y:AV):Option AV:=Option.rec none (fun b=>some (.bool (bif neg then !b else b))) (Kz x y)
def ark(x y:AV):Option AV:=match x,y with
 | .sym k s lo hi o,.int k' (.ofNat c)=>bif mK k k'&&(Nat.blt 0 c&& !(oD (Int.add lo o) 0))then
   (bif eqI (Int.fdiv (Int.add lo o) (.ofNat c)) (Int.fdiv (Int.add hi o) (.ofNat c))then some (.sym k s lo hi (Int.sub o (Int.mul (Int.fdiv (Int.add lo o) (.ofNat c)) (.ofNat c))))else
   match k,s,o with
   | .u64,.G5 i,.ofNat 0=>some (.sym .u64 (.umod i c) 0 (Int.sub (.ofNat c) 1) 0)
   |k,.var i,.ofNat 0=>some (.sym k (.Tu i 1 c) 0 (Int.sub (.ofNat c) 1) 0)
   |k,.Tu i p m,.ofNat 0=>bif Nat.beq m 0 then some (.sym k (.Tu i p c) 0 (Int.sub (.ofNat c) 1) 0)else none
   |k,.pr i l h _,.ofNat 0=>bif Nat.beq c 4294967296&&(!(oD l 0)&&(oD h 4294967296&& !(oD h l)))then some (bif eqI l h then .int k l else .sym k (.cl i l h) l h 0)else none
   |k,.lin _ (.ofNat m),.ofNat o=>bif Nat.beq (Nat.mod m c) 0 then some (.int k (.ofNat (Nat.mod o c)))else none
   | _,_,_=>none)else none
 | _,_=>none
def arl(x y:AV):Option AV:=match x,y with
 | .sym k s lo hi o,.int k' (.ofNat c)=>bif mK k k'&&(Nat.blt 0 c&& !(oD (Int.add lo o) 0))then
   (bif eqI (Int.fdiv (Int.add lo o) (.ofNat c)) (Int.fdiv (Int.add hi o) (.ofNat c))then some (.int k (ja k (Int.fdiv (Int.add lo o) (.ofNat c))))else
   match s,o with
   | .var i,.ofNat 0=>Bt k (.Tu i c 0) (Int.fdiv lo (.ofNat c)) (Int.fdiv hi (.ofNat c)) 0
   | .Tu i p m,.ofNat 0=>bif Nat.beq m 0 then Bt k (.Tu i (Nat.mul p c) 0) (Int.fdiv lo (.ofNat c)) (Int.fdiv hi (.ofNat c)) 0 else none
   | _,_=>none)else none
 | _,_=>none
def afV(k:IntKind)(i:Nat)(lo hi o:Int)(c:Nat):Option AV:=bif Nat.blt 0 c then Bt k (.lin i (.ofNat c)) (Int.mul (.ofNat c) lo) (Int.mul (.ofNat c) hi) (Int.mul (.ofNat c) o)else none
def arn(x y:AV):Option AV:=match x,y with
 | .sym k (.var i) lo hi o,.int k' (.ofNat c)=>bif mK k k' then afV k i lo hi o c else none
 | .int k' (.ofNat c),.sym k (.var i) lo hi o=>bif mK k k' then afV k i lo hi o c else none
 | _,_=>none
def afW(k k':IntKind)(s:SV)(o:Int)(x:AV):Option AV:=match k,k',s,o with
 | .u64,.i64,.var i,0=>some (.sym .u64 (.G5 i) 0 18446744073709551615 0)
 | .u32,_,.pr i l h _,.ofNat 0=>bif !(oD l 0)&&(oD h 4294967296&& !(oD h l))then some (bif eqI l h then .int .u32 l else .sym .u32 (.cl i l h) l h 0)else none
 | _,_,_,_=>afU k x
def aro(k:IntKind)(x:AV):Option AV:=match x with
 | .sym k' s lo hi o=>Option.rec (afW k k' s o x) (fun r=>some r) (Bt k s lo hi o)
 | _=>none
def yw(f s:AV->AV->Option AV):AV->AV->Option AV:=fun x y=>Option.rec (s x y) (fun v=>some v) (f x y)
def afX(f s:AV->Option AV):AV->Option AV:=fun x=>Option.rec (s x) (fun v=>some v) (f x)
def I6:AV->Option AV
 | .int k n=>some (.int k (ja k (Int.sub 0 n)))
 | _=>none
def Nd(k:IntKind):AV->Option AV
 | .int _ n=>some (.int k (ja k n))
 | _=>none
def opF(f:Nat)(k:IntKind)(m n:Int):Option AV:=match f with
 |0=>aai (.int k m) (.int k n)
 |1=>aaj (.int k m) (.int k n)
 |2=>aak (.int k m) (.int k n)
 |3=>TS (.int k m) (.int k n)
 |4=>TT (.int k m) (.int k n)
 |5=>TU (.int k m) (.int k n)
 |6=>bOr (.int k m) (.int k n)
 |7=>TW (.int k m) (.int k n)
 |8=>G6 (.int k m) (.int .u64 n)
 |9=>G7 (.int k m) (.int .u64 n)
 |10=>I6 (.int k m)
 | _=>Nd k (.int k m)
def tmF(f:Nat)(k:IntKind)(m n:Int):Int:=match opF f k m n with
 |some (.int _ r)=>r
 | _=>0
def atS(x:AV):Option (IntKind×SV×Int×Int×Int):=match x with
 | .int k n=>some (k,.con n,0,n,n)
 | .sym k s lo hi o=>some (k,s,o,Int.add lo o,Int.add hi o)
 | _=>none
def inK(k:IntKind)(l u:Int):Bool:= !(oD l (loK k))&& !(oD (YS k) u)
def tS(f:Nat)(ok:IntKind->IntKind->Int->Int->Int->Int->Bool)(x y:AV):Option AV:=match atS x with
 |some (k,s,o,l,u)=>match atS y with
  |some (k',s',o',l',u')=>bif ok k k' l u l' u' then some (.sym k (.tm f k k' s o s' o') (loK k) (YS k) 0)else none
  |none=>none
 |none=>none
def t1(f:Nat)(k:IntKind)(x:AV):Option AV:=match atS x with
 |some (k',s,o,_,_)=>some (.sym k (.tm f k k' s o (.con 0) 0) (loK k) (YS k) 0)
 |none=>none
def arp(k k':IntKind)(_ _ _ _:Int):Bool:=mK k k'
def arq(k k':IntKind)(l u l' u':Int):Bool:=mK k k'&&(inK k l u&&(oD 0 l'||oD u' 0))
def ao4(_ _:IntKind)(_ _ l' _:Int):Bool:= !(oD l' 0)
def ao5(k _:IntKind)(l u l' _:Int):Bool:=inK k l u&& !(oD l' 0)
def uK:IntKind->IntKind
 | .i8=>.u8| .i16=>.u16| .i32=>.u32| .i64=>.u64|k=>k
def ars(k:IntKind)(x:AV):Option AV:=Option.rec (t1 11 k x) (fun r=>t1 11 k r) (afU (uK k) x)
def Ey:AV->AV->Option AV:=fun _ _=>none
def qi:AV->AV->Option AV:=yw aai Ey
def oe:AV->AV->Option AV:=yw aaj Ey
def vQ:AV->AV->Option AV:=yw TT Ey
def oO:AV->AV->Option AV:=yw TS Ey
def sL:AV->AV->Option AV:=yw aak Ey
def sM:AV->AV->Option AV:=yw aal Ey
def xZ:AV->AV->Option AV:=yw aam Ey
def tc:AV->AV->Option AV:=yw aan Ey
def nK:AV->AV->Option AV:=yw aao Ey
def ya:AV->AV->Option AV:=yw TU Ey
def zG:AV->AV->Option AV:=yw bOr Ey
def EG:AV->AV->Option AV:=yw TW Ey
def uQ:AV->AV->Option AV:=yw G6 Ey
def vR:AV->AV->Option AV:=yw G7 Ey
def yb(neg:Bool):AV->AV->Option AV:=yw (Nb neg) Ey
def YT(i:Bool)(x y:AV):Option Bool:=bif i then
 (match x,y with
 | .int k a,.int k' b=>bif mK k k' then some (eqI a b)else none
 | _,_=>Kz x y)else
 (match x,y with
 | .bool a,.bool b=>some (!(xor a b))
 | _,_=>none)
def Bu(l:List Bool):List AV->List AV->Option Bool:=
 List.rec (fun _ _=>some true) (fun i _ ih xs ys=>match xs with
  | []=>none
  |x::xs=>match ys with
   | []=>none
   |y::ys=>match YT i x y with
    |none=>none
    |some c=>Bool.rec (some false) (ih xs ys) c) l
def Bv(neg:Bool)(l:List Bool)(x y:AV):Option AV:=match x with
 | .agg xs=>match y with
  | .agg ys=>match Bu l xs ys with
   |some c=>some (.bool (bif neg then !c else c))
   |none=>none
  | _=>none
 | _=>none
def KA:AV->Option AV
 | .bool b=>some (.bool (!b))
 | _=>none
def G9(x:AV):Option AV:=Option.rec (match atS x with|some (k,_,_,_,_)=>t1 10 k x|none=>none) (fun r=>some r) (I6 x)
def KB:AV->Option AV
 | .int k n=>zC (nS (Op.unary .xor (.int k n)))
 | _=>none
def put(cs:List AV)(off:Nat)(new:List AV):List AV:=app (tk off cs) (app new (dp (Nat.add off (len new)) cs))
def yY(cs:List AV)(off n:Nat):Option (List AV):=
 match tk n (dp off cs)with
 |l=>bif Nat.beq (len l) n then some l else none
def part(agg:Bool)(cs:List AV)(off size:Nat):Option AV:=
 match yY cs off size with
 |none=>none
 |some l=>bif agg then some (.agg l)else match l with
  | [c]=>some c
  | _=>none
def uR(agg:Bool)(r:Rw)(off size:Nat):Option AV:=
 match r.oV off size with
 |none=>none
 |some l=>bif agg then some (.agg l)else match l with
  | [c]=>some c
  | _=>none
def zH(l:List (Nat×Nat×AV)):List AV->Option (List AV):=
 List.rec (fun cells=>some cells) (fun p _ ih cells=>
  bif Nat.beq (len p.2.2.cells) p.2.1&&Nat.ble (Nat.add p.1 p.2.1) (len cells)then ih (put cells p.1 p.2.2.cells)else none) l
def vS(size:Nat)(l:List (Nat×AV)):Nat->Option (List AV):=
 List.rec (fun _=>some []) (fun p _ ih i=>
  bif Nat.beq p.1 i&&Nat.beq (len p.2.cells) size then(match ih (Nat.add i 1)with|some r=>some (app p.2.cells r)|none=>none)else none) l
def qA(l:List (Nat×jF))(t:Tm):Option (List (Nat×AV)):=
 List.rec (some []) (fun p _ ih=>match p.2 t with
  |some v=>match ih with
   |some vs=>some ((p.1,v)::vs)
   |none=>none
  |none=>none) l
def qB(l:List (Nat×Nat×jF))(t:Tm):Option (List (Nat×Nat×AV)):=
 List.rec (some []) (fun p _ ih=>match p.2.2 t with
  |some v=>match ih with
   |some vs=>some ((p.1,p.2.1,v)::vs)
   |none=>none
  |none=>none) l
def ki(n:Nat)(z:List AV):List AV:=Nat.rec [] (fun _ ih=>app z ih) n
def scale(size:Nat)(l:List (Nat×AV)):List (Nat×Nat×AV):=
 List.rec [] (fun p _ ih=>(Nat.mul p.1 size,size,p.2)::ih) l
def uj(n size:Nat)(zero:List AV)(l:List (Nat×AV)):Option (List AV):=
 match bif Nat.beq (len l) n then vS size l 0 else none with
 |some cs=>some cs
 |none=>zH (scale size l) (ki n zero)
def zI(h:Hp)(size:Nat)(agg:Bool)(a:AV):Option AV:=
 match a with
 | .ref id off=>match h.cw.get id with
  |some cs=>uR agg cs off size
  |none=>none
 | .mN cs=>part agg cs 0 size
 | _=>none
def iS(h:Hp):AV->Option (Nat×List AV)
 | .mB=>some (0,[])
 | .qT n cs=>some (n,cs)
 | .jS id off n sz=>match h.cw.get id with
  |some cs=>match cs.oV off (Nat.mul n sz)with
   |some l=>some (n,l)
   |none=>none
  |none=>none
 | _=>none
def mC(x:jF):jC:=fun t h=>Option.rec Ro.bad (fun v=>Ro.ok v h) (x t)
def sN(c a b:jF):jC:=fun t h=>match c t with
 |some (.bool c)=>bif c then mC a t h else mC b t h
 | _=>.bad
def Ha(cs:List AV):jC:=fun _ h=>.ok (.ref h.next 0) (iV h (yX cs))
def Bw(x:jF):jC:=fun t h=>match x t with
 |some v=>.ok (.ref h.next 0) (iV h (yX v.cells))
 |none=>.bad
def qC(zero:List AV)(parts:List (Nat×Nat×jF)):jC:=fun t h=>match qB parts t with
 |some vs=>match zH vs zero with
  |some cs=>.ok (.agg cs) h
  |none=>.bad
 |none=>.bad
def zJ(n size:Nat)(zero:List AV)(parts:List (Nat×jF)):jC:=fun t h=>match qA parts t with
 |some vs=>bif Nat.beq n 0 then(match vs with| []=>.ok .sK h| _=>.bad)else match uj n size zero vs with
  |some cs=>.ok (.jS h.next 0 n size) (iV h (yX cs))
  |none=>.bad
 |none=>.bad
def og(size:Nat)(agg:Bool)(a:jF):jC:=fun t h=>match a t with
 |some a=>match zI h size agg a with
  |some v=>.ok v h
  |none=>.bad
 |none=>.bad
def pL(size:Nat)(a x:jF):jC:=fun t h=>match a t with
 |some (.ref id off)=>match x t with
  |some v=>match h.cw.get id with
   |some cs=>bif Nat.beq (len v.cells) size&&(Nat.ble (Nat.add off (len v.cells)) cs.n&&iD ji v.cells)then
    .ok kN (mO h id (some (cs.put off v.cells)))
    else .bad
   |none=>.bad
  |none=>.bad
 | _=>.bad
def zK(x:jF):jC:=fun t h=>match x t with
 |some (.ref i o)=>.ok (.ref i o) h
 |some (.mN cs)=>.ok (.mN cs) h
 |some (.fn f c)=>.ok (.fn f c) h
 | _=>.bad
def sZ(f:AV->AV->Option AV)(x y:jF):jC:=fun t h=>
 Option.rec Ro.bad (fun a=>Option.rec Ro.bad (fun b=>Option.rec Ro.bad (fun v=>Ro.ok v h) (f a b)) (y t)) (x t)
def EH(f:AV->Option AV)(x:jF):jC:=fun t h=>Option.rec Ro.bad (fun a=>Option.rec Ro.bad (fun v=>Ro.ok v h) (f a)) (x t)
def zL(k:IntKind):AV->Option AV:=afX (Nd k) fun _=>none
def rT(x:jF):jC:=fun t h=>match x t with
 |some (.sc (.string s))=>.ok (.jS h.next 0 s.size 1) (iV h (yX (s.data.toList.map fun b=>.int .u8 (.ofNat b.toNat))))
 | _=>.bad
def Tw(f:FuncId)(cap:List jF):jC:=fun t h=>match xk cap t with
 |some vs=>.ok (.fn f vs) h
 |none=>.bad
def oP(size bytes:Nat)(zero:List AV)(l c:jF):jC:=fun t h=>match l t with
 |some (.int _ (.ofNat l))=>match c t with
  |some (.int _ (.ofNat c))=>bif Nat.ble l c&&Nat.ble (Nat.mul c bytes) 70368744177664 then
    bif Nat.beq c 0 then .ok .sK h else .ok (.jS h.next 0 l size) (iV h ⟨Nat.mul c (len zero),zero,.nil⟩)
   else .bad
  | _=>.bad
 | _=>.bad
def qD(o:Option jF)(t:Tm)(d:Nat):Option Nat:=match o with
 |none=>some d
 |some o=>match o t with
  |some (.int _ (.ofNat n))=>some n
  | _=>none
def bounds(lo hi:Option jF)(t:Tm)(n:Nat):Option (Nat×Nat):=match qD lo t 0 with
 |some l=>match qD hi t n with
  |some h=>bif Nat.ble l h&&Nat.ble h n then some (l,h)else none
  |none=>none
 |none=>none
def nT(x:jF)(lo hi:Option jF):jC:=fun t h=>match x t with
 |some (.sc (.string s))=>match bounds lo hi t s.size with
  |some (l,e)=>.ok (.sc (.string (s.extract l e))) h
  |none=>.bad
 | _=>.bad
def qE(size:Nat)(x:jF)(lo hi:Option jF):jC:=fun t h=>match x t with
 |some .mB=>match bounds lo hi t 0 with
  |some _=>.ok .mB h
  |none=>.bad
 |some (.jS id off n sz)=>match bounds lo hi t n with
  |some (l,e)=>bif Nat.beq sz size then .ok (.jS id (Nat.add off (Nat.mul l size)) (Nat.sub e l) sz) h else .bad
  |none=>.bad
 |some (.qT n cs)=>match bounds lo hi t n with
  |some (l,e)=>.ok (.qT (Nat.sub e l) (tk (Nat.mul (Nat.sub e l) size) (dp (Nat.mul l size) cs))) h
  |none=>.bad
 | _=>.bad
def j9(size:Nat)(x:jF)(lo hi:Option jF):jC:=fun t h=>match x t with
 |some a=>bif vh a then(match bounds lo hi t 0 with
  |some _=>.ok a h
  |none=>.bad)else qE size x lo hi t h
 |none=>.bad
def zM(x:jF):jC:=fun t h=>match x t with
 |some .mB=>.ok (.int .i64 0) h
 | _=>.bad
def lQ(n size:Nat)(x:jF)(lo hi:Option jF):jC:=fun t h=>match x t with
 |some (.ref id off)=>match bounds lo hi t n with
  |some (l,e)=>match h.cw.get id with
   |some cs=>bif Nat.ble (Nat.add off (Nat.mul n size)) cs.n then .ok (.jS id (Nat.add off (Nat.mul l size)) (Nat.sub e l) size) h else .bad
   |none=>.bad
  |none=>.bad
 | _=>.bad
def jk(off:Nat)(x:jF):jC:=fun t h=>match x t with
 |some (.ref id o)=>.ok (.ref id (Nat.add o off)) h
 |some (.mN cs)=>.ok (.mN (dp off cs)) h
 | _=>.bad
def pN(off size:Nat)(agg:Bool)(x:jF):jC:=fun t h=>match x t with
 |some (.agg cs)=>match part agg cs off size with
  |some v=>.ok v h
  |none=>.bad
 | _=>.bad
def vT(size:Nat)(x i:jF):jC:=fun t h=>match i t with
 |some (.int _ (.ofNat i))=>match x t with
  |some (.jS id off n sz)=>bif Nat.blt i n&&Nat.beq sz size then .ok (.ref id (Nat.add off (Nat.mul i size))) h else .bad
  |some (.qT n cs)=>bif Nat.blt i n then .ok (.mN (dp (Nat.mul i size) cs)) h else .bad
  | _=>.bad
 | _=>.bad
def yx(n size:Nat)(x i:jF):jC:=fun t h=>match i t with
 |some (.int _ (.ofNat i))=>match x t with
  |some (.ref id off)=>bif Nat.blt i n then .ok (.ref id (Nat.add off (Nat.mul i size))) h else .bad
  |some (.mN cs)=>bif Nat.blt i n then .ok (.mN (dp (Nat.mul i size) cs)) h else .bad
  | _=>.bad
 | _=>.bad
def oI(n size:Nat)(agg:Bool)(x i:jF):jC:=fun t h=>match x t with
 |some (.agg cs)=>match i t with
  |some (.int _ (.ofNat i))=>bif Nat.blt i n then(match part agg cs (Nat.mul i size) size with
   |some v=>.ok v h
   |none=>.bad)else .bad
  | _=>.bad
 | _=>.bad
def nU(x i:jF):jC:=fun t h=>match x t with
 |some (.sc (.string s))=>match i t with
  |some (.int _ (.ofNat i))=>match oH s.data.toList i with
   |some b=>.ok (.int .u8 b.toNat) h
   |none=>.bad
  |some (.sym _ a lo hi o)=>bif !(oD (Int.add lo o) 0)&&oD (Int.add hi o) (.ofNat s.size)then .ok (.sym .u8 (.ix (s.data.toList.map UInt8.toNat) a o) 0 255 0) h else .bad
  | _=>.bad
 | _=>.bad
def lC(x:jF)(i:Nat):jC:=fun t h=>match x t with
 |some (.yv vs)=>match oH vs i with
  |some v=>.ok v h
  |none=>.bad
 | _=>.bad
def sO(x:jF):jC:=fun t h=>match x t with
 |some (.sc (.string s))=>.ok (.int .i64 (.ofNat s.size)) h
 | _=>.bad
def zN(x:jF):jC:=fun t h=>match x t with
 |some (.jS _ _ n _)=>.ok (.int .i64 (.ofNat n)) h
 |some (.qT n _)=>.ok (.int .i64 (.ofNat n)) h
 |some .mB=>.ok (.int .i64 0) h
 | _=>.bad
def vU(size bytes:Nat)(h:Hp)(s:AV)(n:Nat)(new:List AV):Ro:=match s with
 | .mB=>bif Nat.beq n 0 then .ok .mB h else
   bif Nat.ble (Nat.mul n bytes) 70368744177664&&(iD ji new&&(Nat.beq (len new) (Nat.mul n size)&&Nat.ble n 70368744177664))then .ok (.jS h.next 0 n size) (iV h (yX new))else .bad
 | .jS id off ln sz=>bif Nat.beq n 0 then .ok (.jS id off ln sz) h else match h.cw.get id with
  |none=>.bad
  |some cs=>match cs.sub off (Nat.mul ln sz)with
   |none=>.bad
   |some pre=>bif Nat.ble (Nat.mul (Nat.add ln n) bytes) 70368744177664&&(Nat.beq sz size&&(iD ji new&&(Nat.beq (len new) (Nat.mul n size)&&Nat.ble (Nat.add ln n) 70368744177664)))then
    .ok (.jS h.next 0 (Nat.add ln n) sz) (iV (mO h id none) (pre.app new))else .bad
 | .qT ln cs=>bif Nat.beq n 0 then .ok (.qT ln cs) h else .bad
 | _=>.bad
def rU(size bytes:Nat)(s x:jF):jC:=fun t h=>match s t with
 |some s=>match x t with
  |some x=>match iS h x with
   |none=>.bad
   |some (n,new)=>vU size bytes h s n new
  |none=>.bad
 |none=>.bad
def ka(size bytes:Nat)(s x:jF):jC:=fun t h=>match s t with
 |some a=>match x t with
  |some b=>bif vh a&&Tv b then .ok a h else rU size bytes (wO s) (wO x) t h
  |none=>.bad
 |none=>.bad
def tf(size bytes:Nat)(zero:List AV)(s x:jF):jC:=fun t h=>match s t with
 |some a=>match x t with
  |some (.int _ (.ofNat n))=>bif vh a&&Nat.beq n 0 then .ok a h else vU size bytes h (xg a) n (ki n zero)
  | _=>.bad
 |none=>.bad
def vV(bytes:Nat)(s x:jF):jC:=fun t h=>match s t with
 |some a=>match x t with
  |some (.sc (.string b))=>bif vh a&&Nat.beq b.size 0 then .ok a h else vU 1 bytes h (xg a) b.size (b.data.toList.map fun b=>.int .u8 (.ofNat b.toNat))
  | _=>.bad
 |none=>.bad
def uS(x:jF):jC:=fun t h=>match x t with
 |some (.jS id off n sz)=>bif Nat.beq n 0 then .bad else(match h.cw.get id with
  |some _=>.ok (.jS id off n sz) h
  |none=>.bad)
 | _=>.bad
def zO(l:List AV):Option (List Int):=List.rec (some []) (fun a _ ih=>match a with
 | .int .u8 n=>(match ih with
  |some r=>some (n::r)
  |none=>none)
 | _=>none) l
def yy(l:List Int):ByteArray:=⟨(l.map fun n=>UInt8.ofNat n.toNat).toArray⟩
def yz(x:jF):jC:=fun t h=>match wO x t with
 |some a=>(match iS h a with
  |some (n,cs)=>(match zO cs with
   |some l=>bif Nat.beq (len l) n then .ok (.sc (.string (yy l))) h else .bad
   |none=>.bad)
  |none=>.bad)
 |none=>.bad
def oQ(size:Nat)(d s:jF):jC:=fun t h=>match d t with
 |some .mB=>match s t with
  |some x=>match iS h x with
   |some _=>.ok (.int .i64 (.ofNat 0)) h
   |none=>.bad
  |none=>.bad
 |some (.jS id off n sz)=>match s t with
  |some x=>match iS h x with
   |some (m,src)=>bif Nat.beq (zD m n) 0 then .ok (.int .i64 (.ofNat 0)) h else match h.cw.get id with
    |some cs=>bif (Nat.blt 0 size&&(Nat.beq sz size&&(Nat.beq (len src) (Nat.mul m size)&&iD ji src)))&&Nat.ble (Nat.add off (Nat.mul (zD m n) size)) cs.n then
     .ok (.int .i64 (.ofNat (zD m n))) (mO h id (some (cs.put off (tk (Nat.mul (zD m n) size) src))))else .bad
    |none=>.bad
   |none=>.bad
  |none=>.bad
 | _=>.bad
def zP(x y z:jF):jC:=fun t h=>match y t with
 |some (.int _ (.ofNat y))=>match z t with
  |some (.int _ (.ofNat z))=>bif Nat.beq y 0&&Nat.beq z 0 then(match x t with
   |some .mB=>.ok .mB h
   |some (.jS _ _ _ _)=>.ok .mB h
   |some (.qT _ _)=>.ok .mB h
   | _=>.bad)else .bad
  | _=>.bad
 | _=>.bad
def Bx(x y:jF):jC:=sZ (yw (qg fun k a b=>some (.int k (bif oD b a then b else a))) fun x y=>Option.rec none (fun c=>some (bif c then y else x)) (Nc y x)) x y
def Bz(x y:jF):jC:=sZ (yw (qg fun k a b=>some (.int k (bif oD a b then b else a))) fun x y=>Option.rec none (fun c=>some (bif c then y else x)) (Nc x y)) x y
def KC:jC:=fun _ h=>.ok .any h
def iw:jC:=fun _ _=>.bad
def yc(call:iP)(f:FuncId)(args:List jF):jC:=fun t h=>match xk args t with
 |some vs=>call f vs h
 |none=>.bad
def th(call:iP)(f:jF)(args:List jF):jC:=fun t h=>match f t with
 |some (.fn k cap)=>match xk args t with
  |some vs=>call k (app vs cap) h
  |none=>.bad
 | _=>.bad
def fi:qh:=fun t h=>.ok t h
def st(s:afR)(f:jC)(k:qh):qh:=fun t h=>Ro.rec Rt.bad (fun v h=>k (s v t) h) (f t h)
def sn(f:jC)(k:qh):qh:=fun t h=>Ro.rec Rt.bad (fun _ h=>k t h) (f t h)
def cRg(r:qh):Bn:=fun t h=>Rt.rec Rc.bad (fun t h=>Rc.norm t h) (r t h)
def uT:Bn:=fun t h=>.norm t h
def jw(a b:Bn):Bn:=fun t h=>Rc.rec Rc.bad (fun t h=>b t h) (fun t h=>Rc.ret t h) (fun i t h=>Rc.exit i t h) (a t h)
def TZ(c:jF)(a b:Bn):Bn:=fun t h=>match c t with
 |some (.bool c)=>Bool.rec (b t h) (a t h) c
 | _=>.bad
def B0(id:Nat)(b:Bn):Bn:=fun t h=>
 Rc.rec Rc.bad (fun t h=>Rc.norm t h) (fun t h=>Rc.ret t h) (fun i t h=>Bool.rec (Rc.exit i t h) (Rc.norm t h) (Nat.beq i id)) (b t h)
def T3(n:Nat)(b:Bn):Bn:=
 Nat.rec (fun _ _=>.bad) (fun _ ih t h=>Rc.rec Rc.bad (fun t h=>ih t h) (fun t h=>Rc.ret t h) (fun i t h=>Rc.exit i t h) (b t h)) n
def YU(i:Nat):Bn:=fun t h=>.exit i t h
def jn:Bn:=fun t h=>.ret t h
def EI:Bn:=fun _ _=>.bad
inductive RV where
 |tmp (i:Nat)
 |cell (i size:Nat) (agg:Bool)
def Nf(t:Tm)(h:Hp):RV->Option AV
 | .tmp i=>Tm.at t i
 | .cell i size agg=>match Tm.at t i with
  |some a=>zI h size agg a
  |none=>none
def B3(t:Tm)(h:Hp)(l:List RV):Option (List AV):=
 List.rec (some []) (fun r _ ih=>match Nf t h r with
  |some v=>match ih with
   |some vs=>some (v::vs)
   |none=>none
  |none=>none) l
structure Fb where
 ntmps:Nat
 res:List RV
 body:iP->Nat->Bn
def rV(l:List AV):Nat->Tm->Tm:=
 List.rec (fun _ t=>t) (fun v _ ih i t=>ih (Nat.add i 1) (Tm.put t i (some v))) l
def fin(res:List RV)(t:Tm)(h:Hp):Ro:=
 match B3 t h res with
 |some [v]=>.ok v h
 |some vs=>.ok (.yv vs) h
 |none=>.bad
end Go.Ab


noncomputable section
namespace Go.Ab
def mP:List Bool->Nat
 | []=>0
 |b::l=>b.toNat+2*mP l
theorem jO: ∀ (l:List Bool) (i:Nat),(mP l).testBit i=l.getD i false
 | [],i=>by simp[mP]
 |b::l,0=>by
  simp only[mP,Nat.testBit_zero]
  cases b<;>simp<;>omega
 |b::l,i+1=>by
  have h:(b.toNat+2*mP l) / 2=mP l:=by cases b<;>simp<;>omega
  rw[mP,Nat.testBit_succ,h,jO l i]
  simp
theorem ajL{l m:List Bool}(h: ∀ i,l.getD i false=m.getD i false):mP l=mP m:=
 Nat.eq_of_testBit_eq fun i=>by rw[jO,jO,h]
theorem ajM(f:Bool->Bool->Bool)(g:Nat->Nat->Nat)(hg: ∀ a b i,(g a b).testBit i=f (a.testBit i) (b.testBit i))(hf:f false false=false)
 (l m:List Bool)(h:l.length=m.length):mP (List.zipWith f l m)=g (mP l) (mP m):=by
 apply Nat.eq_of_testBit_eq
 intro i
 rw[jO,hg,jO,jO]
 by_cases hi:i<l.length
 ·simp[List.getD,List.getElem?_zipWith,hi,h▸hi]
 ·simp[List.getD,List.getElem?_zipWith,List.getElem?_eq_none (Nat.le_of_not_lt hi),List.getElem?_eq_none (Nat.le_of_not_lt (h▸hi)),hf]
theorem afY(l:List Bool)(n:Nat):mP (l.take n)=mP l % 2 ^ n:=by
 apply Nat.eq_of_testBit_eq
 intro i
 rw[jO,Nat.testBit_mod_two_pow,jO]
 by_cases h:i<n<;>simp[List.getD,List.getElem?_take,h]
theorem afZ(l:List Bool)(n:Nat):mP (l.drop n)=mP l / 2 ^ n:=by
 apply Nat.eq_of_testBit_eq
 intro i
 rw[jO,<-Nat.shiftRight_eq_div_pow,Nat.testBit_shiftRight,jO]
 simp[List.getD,List.getElem?_drop]
theorem ajN(l:List Bool)(n:Nat):mP (List.replicate n false++l)=mP l*2 ^ n:=by
 induction n with
 |zero=>simp
 |succ n ih=>
  simp only[List.replicate_succ,List.cons_append,mP,ih,Nat.pow_succ]
  simp;rw[Nat.mul_comm 2,Nat.mul_assoc]
end Go.Ab

noncomputable section
namespace Go.Ab
class Io where
 io:Nat->Int
 tb:List (Nat×List Value)
variable [Io]
def akY(c:Nat):Bool:=match c with
 |0=>false
 |1=>true
 |c+2=>(Io.io (c / 64) % 18446744073709551616).toNat.testBit (c % 64)
def Ng(l h x:Int):Int:=if x<l then l else if h<x then h else x
def lE:SV->Int
 | .var i=>Io.io i
 | .G5 i=>Io.io i % 18446744073709551616
 | .umod i c=>(Io.io i % 18446744073709551616) % (c:Int)
 | .lin i m=>m*Io.io i
 | .Tu i p m=>(Io.io i / (p:Int)) % (m:Int)
 | .bits l=>(mP (l.map akY):Int)
 | .cl i l h=>Ng l h (Io.io i)
 | .pr i l h j=>Ng l h (Io.io i)+4294967296*Io.io j
 | .ad i j l h=>Io.io i+Ng l h (Io.io j)
 | .con n=>n
 | .sm l=>(l.map Io.io).foldr (· + ·) 0
 | .ix l a o=>(l.getD (lE a+o).toNat 0:Nat)
 | .tm f k _ a oa b ob=>tmF f k (lE a+oa) (lE b+ob)
structure G where
 m:Nat->Option (Nat×Nat)
 j3:Nat->Prop
def jl(w:World)(b:Nat):Nat:=match w.heap[b]? with
 |some (.cells c _ _)=>c.size
 | _=>0
def jt(w:World)(b o:Nat)(vs:List Value):Prop:= ∀ j v,vs[j]? =some v->w.cell? ⟨b,o+j,none⟩=some v
mutual
def VR(g:G)(w:World):AV->Value->Prop
 | .int k n,v=>v=.int k n
 | .bool b,v=>v=.bool b
 | .sc x,v=>v=x/\x.oneCell'=true
 | .agg cs,v=> ∃ vs,v=.agg vs/\cZ g w cs vs.toList
 | .yv cs,v=> ∃ vs,v=.tuple vs/\cZ g w cs vs.toList
 | .ref id off,v=> ∃ b s,g.m id=some (b,s)/\v=.pointer (some ⟨b,s+off,none⟩)
 | .jS id off n sz,v=>(n=0/\ ∃ a,v=.slice (some a) 0 0)∨
   ∃ b s cap,g.m id=some (b,s)/\v=.slice (some ⟨b,s+off,none⟩) n cap/\n<=cap/\s+off+cap*sz<=jl w b
 | .qT n cs,v=> ∃ a cap,v=.slice a n cap/\n<=cap/\
   ((n=0/\cs=[])∨ ∃ b o vs,a=some ⟨b,o,none⟩/\g.j3 b/\jt w b o vs/\cZ g w cs vs)
 | .mN cs,v=> ∃ b o vs,v=.pointer (some ⟨b,o,none⟩)/\g.j3 b/\jt w b o vs/\cZ g w cs vs
 | .mB,v=> ∃ a,v=.slice a 0 0
 | .sK,v=> ∃ a,v=.slice (some a) 0 0
 | .fn f cap,v=> ∃ vs,v=.func (.func f) #[] vs/\cZ g w cap vs.toList
 | .sym k s lo hi off,v=>v=.int k (lE s+off)/\lo<=lE s/\lE s<=hi
 | .any,v=>v.oneCell'=true
def cZ(g:G)(w:World):List AV->List Value->Prop
 | [],l=>l=[]
 |a::r,l=> ∃ v l',l=v::l'/\VR g w a v/\cZ g w r l'
end
def nn(g:G)(h:Hp)(b:Nat):Prop:= ∃ id cs s,h.cw.get id=some cs/\g.m id=some (b,s)
structure FT(C:Array Value) where
 el:TypeId
 fz:Nat×Nat
 ok':fz.1=fz.2∨C.size<=fz.1
omit [Io] in
theorem FT.ok{C:Array Value}(e:FT C): ∀ i,i<C.size-> ¬ (e.fz.1<=i/\i<e.fz.2):=fun i hi h=>by have:=e.ok';omega
def FT.nw(C:Array Value)(el:TypeId):FT C:=⟨el,(0,0),.inl rfl⟩
def FT.to{C C':Array Value}(e:FT C)(h:C'.size=C.size):FT C':=⟨e.el,e.fz,by have:=e.ok';omega⟩
def qF(g:G)(w:World):Prop:= ∀ p,p∈Io.tb->g.j3 p.1/\jt w p.1 0 p.2
structure HR(g:G)(w:World)(h:Hp):Prop where
 fresh: ∀ id,h.next<=id->g.m id=none
 cw: ∀ id cs,h.cw.get id=some cs-> ∃ b s C,∃ el:FT C,∃ vs,g.m id=some (b,s)/\w.heap[b]? =some (.cells C el.el el.fz)/\ ¬ g.j3 b/\cZ g w cs.toL vs/\(∀ j v,vs[j]? =some v->C[s+j]? =some v)
 inj: ∀ id zQ b s s' cs cs',h.cw.get id=some cs->h.cw.get zQ=some cs'->g.m id=some (b,s)->g.m zQ=some (b,s')->id=zQ
 j3: ∀ b,g.j3 b->b<w.heap.size
 tb:qF g w
structure HC(g:G)(w:World)(h:Hp):Prop where
 cw: ∀ id cs,h.cw.get id=some cs-> ∃ b s C,∃ el:FT C,∃ vs,g.m id=some (b,s)/\w.heap[b]? =some (.cells C el.el el.fz)/\ ¬ g.j3 b/\cZ g w cs.toL vs/\(∀ j v,vs[j]? =some v->C[s+j]? =some v)
 j3: ∀ b,g.j3 b->b<w.heap.size
theorem HR.toHC{g w h}(H:HR g w h):HC g w h:=⟨H.cw,H.j3⟩
structure Ext(g:G)(w:World)(h:Hp)(g':G)(w':World)(h':Hp):Prop where
 os:w'.os=w.os
 tape:w'.tape=w.tape
 output:w'.output=w.output
 size:w.heap.size<=w'.heap.size
 next:h.next<=h'.next
 m: ∀ id x,g.m id=some x->g'.m id=some x
 uL: ∀ b,b<w.heap.size-> ¬ nn g h b->w'.heap[b]? =w.heap[b]?
 rows: ∀ b,jl w b<=jl w' b
 j3: ∀ b,g.j3 b->g'.j3 b
 KD: ∀ b,g'.j3 b->g.j3 b∨nn g h b∨w.heap.size<=b
 qV: ∀ b,nn g' h' b->nn g h b∨w.heap.size<=b
omit [Io] in
theorem Ext.refl(g:G)(w:World)(h:Hp):Ext g w h g w h:=
 ⟨rfl,rfl,rfl,Nat.le_refl _,Nat.le_refl _,fun _ _ e=>e,fun _ _ _=>rfl,fun _=>Nat.le_refl _,fun _ i=>i,fun _ i=>.inl i,fun _ o=>.inl o⟩
omit [Io] in
theorem Ext.trans{g w h g1 w1 h1 g2 w2 h2}(a:Ext g w h g1 w1 h1)(b:Ext g1 w1 h1 g2 w2 h2):Ext g w h g2 w2 h2 where
 os:=b.os.trans a.os
 tape:=b.tape.trans a.tape
 output:=b.output.trans a.output
 size:=Nat.le_trans a.size b.size
 next:=Nat.le_trans a.next b.next
 m:=fun id x e=>b.m id x (a.m id x e)
 uL:=fun k hk ho=>(b.uL k (Nat.lt_of_lt_of_le hk a.size) (fun o=>(a.qV k o).elim ho (fun e=>absurd hk (Nat.not_lt.2 e)))).trans (a.uL k hk ho)
 rows:=fun k=>Nat.le_trans (a.rows k) (b.rows k)
 j3:=fun k i=>b.j3 k (a.j3 k i)
 KD:=fun k i=>by
  rcases b.KD k i with i|o|l
  ·exact a.KD k i
  ·rcases a.qV k o with o|l
   ·exact .inr (.inl o)
   ·exact .inr (.inr l)
  ·exact .inr (.inr (Nat.le_trans a.size l))
 qV:=fun k o=>by
  rcases b.qV k o with o|l
  ·exact a.qV k o
  ·exact .inr (Nat.le_trans a.size l)
theorem HC.pD{g w h}(H:HC g w h){b:Nat}(i:g.j3 b): ¬ nn g h b:=by
 rintro⟨id,cs,s,hg,hm⟩
 obtain⟨b',s',C,el,vs,MU,_,hi,_⟩:=H.cw id cs hg
 rw[hm]at MU
 obtain⟨rfl,rfl⟩:=Prod.mk.inj (Option.some.inj MU)
 exact hi i
theorem HR.pD{g w h}(H:HR g w h){b:Nat}(i:g.j3 b): ¬ nn g h b:=H.toHC.pD i
structure vW(g:G)(w:World)(g':G)(w':World):Prop where
 m: ∀ id x,g.m id=some x->g'.m id=some x
 j3: ∀ b,g.j3 b->g'.j3 b
 CS: ∀ b,g.j3 b->w'.heap[b]? =w.heap[b]?
 rows: ∀ b,jl w b<=jl w' b
theorem Ext.mono{g w h g' w' h'}(H:HC g w h)(E:Ext g w h g' w' h'):vW g w g' w':=
 ⟨E.m,E.j3,fun b i=>E.uL b (H.j3 b i) (H.pD i),E.rows⟩
omit [Io] in
theorem jt.CS{w w':World}{b o vs}(h:w'.heap[b]? =w.heap[b]?)(c:jt w b o vs):jt w' b o vs:=by
 intro j v hj
 have:=c j v hj
 unfold World.cell? at this ⊢
 rw[h]
 exact this
theorem qF.mono{g w g' w'}(E:vW g w g' w')(t:qF g w):qF g' w':=fun p hp=>⟨E.j3 _ (t p hp).1,jt.CS (E.CS _ (t p hp).1) (t p hp).2⟩
theorem qF.ext{g w h g' w' h'}(H:HR g w h)(E:Ext g w h g' w' h'):qF g' w':=qF.mono (E.mono H.toHC) H.tb
mutual
theorem VR.kq{g w g' w'}(E:vW g w g' w'): ∀ (a:AV) (v:Value),VR g w a v->VR g' w' a v
 | .int _ _,v,r=>by simpa only[VR]using r
 | .bool _,v,r=>by simpa only[VR]using r
 | .sc _,v,r=>by simpa only[VR]using r
 | .mB,v,r=>by simpa only[VR]using r
 | .sK,v,r=>by simpa only[VR]using r
 | .sym _ _ _ _ _,v,r=>by simpa only[VR]using r
 | .any,v,r=>by simpa only[VR]using r
 | .agg cs,v,r=>by
  simp only[VR]at r ⊢
  obtain⟨vs,e,q⟩:=r
  exact⟨vs,e,cZ.kq E cs _ q⟩
 | .yv cs,v,r=>by
  simp only[VR]at r ⊢
  obtain⟨vs,e,q⟩:=r
  exact⟨vs,e,cZ.kq E cs _ q⟩
 | .fn f cs,v,r=>by
  simp only[VR]at r ⊢
  obtain⟨vs,e,q⟩:=r
  exact⟨vs,e,cZ.kq E cs _ q⟩
 | .ref id off,v,r=>by
  simp only[VR]at r ⊢
  obtain⟨b,s,e,q⟩:=r
  exact⟨b,s,E.m _ _ e,q⟩
 | .jS id off n sz,v,r=>by
  simp only[VR]at r ⊢
  rcases r with r|⟨b,s,cap,e,q,l,z⟩
  ·exact .inl r
  ·exact .inr ⟨b,s,cap,E.m _ _ e,q,l,Nat.le_trans z (E.rows b)⟩
 | .qT n cs,v,r=>by
  simp only[VR]at r ⊢
  obtain⟨a,cap,e,l,r⟩:=r
  refine⟨a,cap,e,l,?_⟩
  rcases r with r|⟨b,o,vs,e,i,c,q⟩
  ·exact .inl r
  ·exact .inr ⟨b,o,vs,e,E.j3 b i,c.CS (E.CS b i),cZ.kq E cs _ q⟩
 | .mN cs,v,r=>by
  simp only[VR]at r ⊢
  obtain⟨b,o,vs,e,i,c,q⟩:=r
  exact⟨b,o,vs,e,E.j3 b i,c.CS (E.CS b i),cZ.kq E cs _ q⟩
theorem cZ.kq{g w g' w'}(E:vW g w g' w'): ∀ (l:List AV) (vs:List Value),cZ g w l vs->cZ g' w' l vs
 | [],vs,r=>by simpa only[cZ]using r
 |a::l,vs,r=>by
  simp only[cZ]at r ⊢
  obtain⟨v,l',e,q,r⟩:=r
  exact⟨v,l',e,VR.kq E a v q,cZ.kq E l l' r⟩
end
theorem VR.mono{g w h g' w' h'}(H:HR g w h)(E:Ext g w h g' w' h')(a:AV)(v:Value)(r:VR g w a v):VR g' w' a v:=VR.kq (E.mono H.toHC) a v r
theorem cZ.mono{g w h g' w' h'}(H:HR g w h)(E:Ext g w h g' w' h')(l:List AV)(vs:List Value)(r:cZ g w l vs):cZ g' w' l vs:=cZ.kq (E.mono H.toHC) l vs r
omit [Io] in
theorem Tr.get_nil{α:Type}(n:Nat):(Tr.nil:Tr α).get n=none:=rfl
omit [Io] in
theorem Tr.tj{α:Type}(l r:Tr α)(v:Option α)(n:Nat):
 (Tr.node l v r).get n=if n=0 then v else if n % 2=1 then l.get (n / 2)else r.get (n / 2 - 1):=by
 show lA (Nat.beq n 0) v (lA (Nat.beq (Nat.mod n 2) 1) (l.get (Nat.div n 2)) (r.get (Nat.sub (Nat.div n 2) 1)))=_
 by_cases h:n=0
 ·subst h;rfl
 ·rw[if_neg h,show Nat.beq n 0=false from by cases n with|zero=>exact absurd rfl h|succ n=>rfl]
  by_cases h2:n % 2=1
  ·rw[if_pos h2,show Nat.beq (Nat.mod n 2) 1=true from by rw[show Nat.mod n 2=1 from h2];rfl];rfl
  ·rw[if_neg h2,show Nat.beq (Nat.mod n 2) 1=false from by rw[show Nat.mod n 2=0 from by show n % 2=0;omega];rfl];rfl
omit [Io] in
theorem Tr.get_eq{α:Type}(t:Tr α)(n:Nat):
 t.get n=if n=0 then t.hd else if n % 2=1 then t.lf.get (n / 2)else t.rt.get (n / 2 - 1):=by
 cases t with
 |nil=>simp[Tr.get_nil,Tr.hd,Tr.lf,Tr.rt]
 |node l v r=>rw[Tr.tj];rfl
omit [Io] in
theorem Tr.KE{α:Type}(f:Nat)(t:Tr α)(n:Nat)(x:Option α):
 Tr.G4 (f+1) t n x=if n=0 then .node t.lf x t.rt else if n % 2=1 then .node (Tr.G4 f t.lf (n / 2) x) t.hd t.rt
  else .node t.lf t.hd (Tr.G4 f t.rt (n / 2 - 1) x):=by
 show lA (Nat.beq n 0) (Tr.node t.lf x t.rt) (lA (Nat.beq (Nat.mod n 2) 1) (Tr.node (Tr.G4 f t.lf (Nat.div n 2) x) t.hd t.rt)
  (Tr.node t.lf t.hd (Tr.G4 f t.rt (Nat.sub (Nat.div n 2) 1) x)))=_
 by_cases h:n=0
 ·subst h;rfl
 ·rw[if_neg h,show Nat.beq n 0=false from by cases n with|zero=>exact absurd rfl h|succ n=>rfl]
  by_cases h2:n % 2=1
  ·rw[if_pos h2,show Nat.beq (Nat.mod n 2) 1=true from by rw[show Nat.mod n 2=1 from h2];rfl];rfl
  ·rw[if_neg h2,show Nat.beq (Nat.mod n 2) 1=false from by rw[show Nat.mod n 2=0 from by show n % 2=0;omega];rfl];rfl
omit [Io] in
theorem Tr.Nh{α:Type}(f:Nat): ∀ (t:Tr α) (n:Nat) (x:Option α) (k:Nat),n<f->(Tr.G4 f t n x).get k=if k=n then x else t.get k:=by
 induction f with
 |zero=>intro t n x k h;omega
 |succ f ih=>
  intro t n x k h
  rw[Tr.KE]
  by_cases h0:n=0
  ·subst h0
   rw[if_pos rfl,Tr.tj,Tr.get_eq t]
   by_cases hk:k=0
   ·simp[hk]
   ·simp[hk]
  ·rw[if_neg h0]
   by_cases h1:n % 2=1
   ·rw[if_pos h1,Tr.tj,Tr.get_eq t k]
    by_cases hk:k=0
    ·subst hk;simp;intro e;omega
    ·simp only[hk,if_false]
     by_cases hk1:k % 2=1
     ·simp only[hk1,if_true]
      rw[ih _ _ _ _ (by omega)]
      by_cases e:k=n
      ·subst e;simp
      ·rw[if_neg e,if_neg (by omega)]
     ·simp only[hk1,if_false]
      rw[if_neg (by intro e;subst e;omega)]
   ·rw[if_neg h1,Tr.tj,Tr.get_eq t k]
    by_cases hk:k=0
    ·subst hk;simp;intro e;omega
    ·simp only[hk,if_false]
     by_cases hk1:k % 2=1
     ·simp only[hk1,if_true]
      rw[if_neg (by intro e;subst e;omega)]
     ·simp only[hk1,if_false]
      rw[ih _ _ _ _ (by omega)]
      by_cases e:k=n
      ·subst e;simp
      ·rw[if_neg e,if_neg (by omega)]
omit [Io] in
theorem Tr.nq{α:Type}(t:Tr α)(n:Nat)(x:Option α)(k:Nat):(t.set n x).get k=if k=n then x else t.get k:=
 Tr.Nh _ t n x k (Nat.lt_succ_self n)
omit [Io] in
theorem F8.uk{α:Type}(f:F8 α)(x:α)(i j:Nat)(hi:i<8)(hj:j<8):(f.GX x i).Ex j=if j=i then x else f.Ex j:=by
 rcases(by omega:i=0∨i=1∨i=2∨i=3∨i=4∨i=5∨i=6∨i=7)with rfl|rfl|rfl|rfl|rfl|rfl|rfl|rfl<;>
 rcases(by omega:j=0∨j=1∨j=2∨j=3∨j=4∨j=5∨j=6∨j=7)with rfl|rfl|rfl|rfl|rfl|rfl|rfl|rfl<;>rfl
omit [Io] in
theorem Tm.mq(t:Tm)(i j:Nat)(x:Option AV)(hi:i<512)(hj:j<512):(t.put i x).at j=if j=i then x else t.at j:=by
 unfold Tm.put Tm.at
 rw[F8.uk _ _ _ _ (by omega) (by omega)]
 by_cases h1:j / 64=i / 64
 ·rw[if_pos h1,F8.uk _ _ _ _ (by omega) (by omega)]
  by_cases h2:j / 8 % 8=i / 8 % 8
  ·rw[if_pos h2,F8.uk _ _ _ _ (by omega) (by omega)]
   by_cases h3:j % 8=i % 8
   ·rw[if_pos h3,if_pos (by omega)]
   ·rw[if_neg h3,if_neg (by intro e;subst e;exact h3 rfl),h1,h2]
  ·rw[if_neg h2,if_neg (by intro e;subst e;exact h2 rfl),h1]
 ·rw[if_neg h1,if_neg (by intro e;subst e;exact h1 rfl)]
omit [Io] in
theorem Tm.CT(j:Nat)(hj:j<512):Tm.none.at j=Option.none:=by
 unfold Tm.none Tm.at
 rcases(by omega:j / 64=0∨j / 64=1∨j / 64=2∨j / 64=3∨j / 64=4∨j / 64=5∨j / 64=6∨j / 64=7)with h|h|h|h|h|h|h|h<;>rw[h]<;>
 rcases(by omega:j / 8 % 8=0∨j / 8 % 8=1∨j / 8 % 8=2∨j / 8 % 8=3∨j / 8 % 8=4∨j / 8 % 8=5∨j / 8 % 8=6∨j / 8 % 8=7)with h|h|h|h|h|h|h|h<;>rw[h]<;>
 rcases(by omega:j % 8=0∨j % 8=1∨j % 8=2∨j % 8=3∨j % 8=4∨j % 8=5∨j % 8=6∨j % 8=7)with h|h|h|h|h|h|h|h<;>rw[h]<;>rfl
def TR(g:G)(w:World)(nt:Nat)(t:Tm)(tmps:Array Value):Prop:=
 nt<=512/\tmps.size=nt/\ ∀ i v,i<512->t.at i=some v->i<nt/\VR g w v (tmps.getD i undef)
theorem TR.mono{g w h g' w' h' nt t tmps}(H:HR g w h)(E:Ext g w h g' w' h')(r:TR g w nt t tmps):TR g' w' nt t tmps:=
 ⟨r.1,r.2.1,fun i v hi e=>⟨(r.2.2 i v hi e).1,VR.mono H E _ _ (r.2.2 i v hi e).2⟩⟩
theorem TR.put{g w nt t tmps}(r:TR g w nt t tmps){d:Nat}(hd:d<nt){a:AV}{v:Value}(hv:VR g w a v):
 TR g w nt (t.put d (some a)) (tmps.setIfInBounds d v):=by
 obtain⟨h1,h2,h3⟩:=r
 refine⟨h1,by simpa using h2,fun i x hi e=>?_⟩
 rw[Tm.mq _ _ _ _ (by omega) hi]at e
 by_cases mQ:i=d
 ·subst mQ
  rw[if_pos rfl]at e
  obtain rfl:=Option.some.inj e
  refine⟨hd,?_⟩
  rw[Array.getD_eq_getD_getElem?,Array.getElem?_setIfInBounds_self_of_lt (by omega)]
  exact hv
 ·rw[if_neg mQ]at e
  refine⟨(h3 i x hi e).1,?_⟩
  have:=(h3 i x hi e).2
  rw[Array.getD_eq_getD_getElem?]at this ⊢
  rw[Array.getElem?_setIfInBounds_ne (by omega)]
  exact this
end Go.Ab
