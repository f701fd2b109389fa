import Derived.Calls
import Derived.Laws.Sem
import Derived.Laws.AppendOwn
import Derived.Laws.MakeOwn
import Derived.Laws.CopyRow
noncomputable section
namespace Go.Ab
def ej{α:Type}(c:Bool)(a b:α):α:=Bool.rec b a c
inductive Tr (α:Type) where
 |nil
 |node (l:Tr α) (v:Option α) (r:Tr α)
def Tr.get{α:Type}(t:Tr α):Nat->Option α:=
 Tr.rec (fun _=>none) (fun _ v _ gl gr n=>Bool.rec (Bool.rec (gr (Nat.sub (Nat.div n 2) 1)) (gl (Nat.div n 2)) (Nat.beq (Nat.mod n 2) 1)) v (Nat.beq n 0)) t
def Tr.lf{α:Type}(t:Tr α):Tr α:=Tr.rec .nil (fun l _ _ _ _=>l) t
def Tr.rt{α:Type}(t:Tr α):Tr α:=Tr.rec .nil (fun _ _ r _ _=>r) t
def Tr.hd{α:Type}(t:Tr α):Option α:=Tr.rec none (fun _ v _ _ _=>v) t
def Tr.xC{α:Type}(f:Nat):Tr α->Nat->Option α->Tr α:=
 Nat.rec (fun t _ _=>t) (fun _ go t n x=>
  Bool.rec (Bool.rec (.node t.lf t.hd (go t.rt (Nat.sub (Nat.div n 2) 1) x)) (.node (go t.lf (Nat.div n 2) x) t.hd t.rt) (Nat.beq (Nat.mod n 2) 1))
   (.node t.lf x t.rt) (Nat.beq n 0)) f
def Tr.set{α:Type}(t:Tr α)(n:Nat)(x:Option α):Tr α:=Tr.xC (Nat.succ n) t n x
structure F8(α:Type) where
 a0:α
 a1:α
 a2:α
 a3:α
 a4:α
 a5:α
 a6:α
 a7:α
def F8.xq{α:Type}(f:F8 α):Nat->α
 |0=>f.a0|1=>f.a1|2=>f.a2|3=>f.a3|4=>f.a4|5=>f.a5|6=>f.a6| _=>f.a7
def F8.xr{α:Type}(f:F8 α)(x:α):Nat->F8 α
 |0=>⟨x,f.a1,f.a2,f.a3,f.a4,f.a5,f.a6,f.a7⟩
 |1=>⟨f.a0,x,f.a2,f.a3,f.a4,f.a5,f.a6,f.a7⟩
 |2=>⟨f.a0,f.a1,x,f.a3,f.a4,f.a5,f.a6,f.a7⟩
 |3=>⟨f.a0,f.a1,f.a2,x,f.a4,f.a5,f.a6,f.a7⟩
 |4=>⟨f.a0,f.a1,f.a2,f.a3,x,f.a5,f.a6,f.a7⟩
 |5=>⟨f.a0,f.a1,f.a2,f.a3,f.a4,x,f.a6,f.a7⟩
 |6=>⟨f.a0,f.a1,f.a2,f.a3,f.a4,f.a5,x,f.a7⟩
 | _=>⟨f.a0,f.a1,f.a2,f.a3,f.a4,f.a5,f.a6,x⟩
def F8.all{α:Type}(x:α):F8 α:=⟨x,x,x,x,x,x,x,x⟩
inductive SV where
 |var (i:Nat)
 |uX (i:Nat)
 |umod (i c:Nat)
 |Qt (i:Nat) (m:Int)
 |uY (i p m:Nat)
 |cl (i:Nat) (l h:Int)
 |pr (i:Nat) (l h:Int) (j:Nat)
 |ad (i j:Nat) (l h:Int)
 |Mr (n:Int)
 |sm (l:List Nat)
 |ix (l:List Nat) (a:SV) (o:Int)
 |tm (f:Nat) (k k':IntKind) (a:SV) (oa:Int) (b:SV) (ob:Int)
 |bits (l:List Nat)
inductive AV where
 |int (k:IntKind) (n:Int)
 |bool (b:Bool)
 |sc (v:Value)
 |agg (cs:List AV)
 |mD (vs:List AV)
 |ref (id off:Nat)
 |cR (id off len sz:Nat)
 |fg (len:Nat) (cs:List AV)
 |eg (cs:List AV)
 |cS
 |iQ
 |fn (f:FuncId) (cap:List AV)
 |sym (k:IntKind) (s:SV) (lo hi off:Int)
 |any
 deriving Inhabited
abbrev Tm:=F8 (F8 (F8 (Option AV)))
def Tm.at(t:Tm)(i:Nat):Option AV:=((t.xq (i / 64)).xq (i / 8 % 8)).xq (i % 8)
def Tm.put(t:Tm)(i:Nat)(v:Option AV):Tm:=t.xr ((t.xq (i / 64)).xr (((t.xq (i / 64)).xq (i / 8 % 8)).xr v (i % 8)) (i / 8 % 8)) (i / 64)
def Tm.none:Tm:=F8.all (F8.all (F8.all Option.none))
structure Rw where
 n:Nat
 d:List AV
 t:Tr AV
structure Hp where
 next:Nat
 aN:Tr Rw
inductive Ro where
 |bad
 |ok (v:AV) (h:Hp)
inductive Rt where
 |bad
 |ok (t:Tm) (h:Hp)
inductive Rc where
 |bad
 |norm (t:Tm) (h:Hp)
 |ret (t:Tm) (h:Hp)
 |exit (i:Nat) (t:Tm) (h:Hp)
abbrev dj:=Tm->Option AV
abbrev dg:=Tm->Hp->Ro
abbrev ic:=Tm->Hp->Rt
abbrev rr:=Tm->Hp->Rc
abbrev bP:=FuncId->List AV->Hp->Ro
def app{α:Type}(l r:List α):List α:=List.rec r (fun a _ ih=>a::ih) l
def len{α:Type}(l:List α):Nat:=List.rec (fun n=>n) (fun _ _ ih n=>ih (Nat.add n 1)) l (0:Nat)
def tk{α:Type}(n:Nat)(l:List α):List α:=
 List.rec (fun _=>[]) (fun a _ ih n=>Bool.rec (a::ih (Nat.sub n 1)) [] (Nat.beq n 0)) l n
def dp{α:Type}(n:Nat)(l:List α):List α:=
 List.rec (fun _=>[]) (fun a r ih n=>Bool.rec (ih (Nat.sub n 1)) (a::r) (Nat.beq n 0)) l n
def gx{α:Type}(l:List α)(n:Nat):Option α:=
 List.rec (fun _=>none) (fun a _ ih n=>Bool.rec (ih (Nat.sub n 1)) (some a) (Nat.beq n 0)) l n
def dK{α:Type}(p:α->Bool)(l:List α):Bool:=List.rec true (fun a _ ih=>bif p a then ih else false) l
def leaf:Value->Option AV
 | .int k n=>some (.int k n)
 | .bool b=>some (.bool b)
 | .string s=>some (.sc (.string s))
 | .pointer none=>some (.sc (.pointer none))
 | .slice none 0 0=>some (.sc (.slice none 0 0))
 | .map none=>some (.sc (.map none))
 | .nilFunc=>some (.sc .nilFunc)
 | .nilIface=>some (.sc .nilIface)
 | _=>none
def leaves(l:List Value):Option (List AV):=
 List.rec (some []) (fun v _ ih=>match leaf v with
  |some a=>match ih with
   |some r=>some (a::r)
   |none=>none
  |none=>none) l
def GV:Value->Option AV
 | .agg cs=>match leaves cs.toList with|some l=>some (.agg l)|none=>none
 | .tuple cs=>match leaves cs.toList with|some l=>some (.mD l)|none=>none
 |v=>leaf v
def AV.cells:AV->List AV
 | .agg cs=>cs
 |v=>[v]
def cH:AV->Bool
 | .agg _| .mD _=>false
 | _=>true
def eh:AV:=.mD []
def isNil:AV->Bool
 | .sc (.slice none n c)=>Nat.beq n 0&&Nat.beq c 0
 | _=>false
def l8:AV->Bool
 | .iQ=>true
 |a=>isNil a
def GC:AV->Bool
 | .iQ=>true
 | .cS=>true
 | .cR _ _ n _=>Nat.beq n 0
 | .fg n _=>Nat.beq n 0
 |a=>isNil a
def nP(a:AV):AV:=bif l8 a then .cS else a
def sU(a:AV):Option Bool:=bif isNil a then some true else match a with
 | .iQ=>some false
 | .cR _ _ _ _=>some false
 | .fg n _=>bif Nat.beq n 0 then none else some false
 | _=>none
def Rw.cell(r:Rw)(i:Nat):AV:=Option.rec (Option.rec eh (fun v=>v) (gx r.d (Nat.mod i (len r.d)))) (fun v=>v) (r.t.get i)
def Rw.cells(r:Rw)(k:Nat):Nat->List AV:=Nat.rec (fun _=>[]) (fun _ ih i=>r.cell i::ih (Nat.add i 1)) k
def Rw.toL(r:Rw):List AV:=r.cells r.n 0
def ig(l:List AV):Nat->Tr AV->Tr AV:=List.rec (fun _ t=>t) (fun a _ ih i t=>ih (Nat.add i 1) (t.set i (some a))) l
def pw(l:List AV):Rw:=⟨len l,[],ig l 0 .nil⟩
def Rw.fy(r:Rw)(off k:Nat):Option (List AV):=bif Nat.ble (Nat.add off k) r.n then some (r.cells k off)else none
def Rw.put(r:Rw)(off:Nat)(l:List AV):Rw:=⟨r.n,r.d,ig l off r.t⟩
def Rw.app(r:Rw)(l:List AV):Rw:=⟨Nat.add r.n (len l),r.d,ig l r.n r.t⟩
def Rw.upto(r:Rw)(m:Nat):Rw:=⟨m,r.d,r.t⟩
def Rw.sub(r:Rw)(off k:Nat):Option Rw:=bif Nat.ble (Nat.add off k) r.n then some (bif Nat.beq off 0 then r.upto k else pw (r.cells k off))else none
def oT(i:Nat):dj:=fun t=>Tm.at t i
def wO(x:dj):dj:=fun t=>Option.rec none (fun a=>some (nP a)) (x t)
abbrev Q1:=AV->Tm->Tm
def sT(i:Nat):Q1:=fun v t=>Tm.put t i (some v)
def oC(v:AV):dj:=fun _=>some v
def oX:dj:=fun _=>none
def nQ(l:List dj)(t:Tm):Option (List AV):=
 List.rec (some []) (fun o _ ih=>Option.rec none (fun v=>Option.rec none (fun vs=>some (v::vs)) ih) (o t)) l
def cx(h:Hp)(cs:Rw):Hp:=⟨Nat.add h.next 1,h.aN.set h.next (some cs)⟩
def eN(h:Hp)(id:Nat)(cs:Option Rw):Hp:=⟨h.next,h.aN.set id cs⟩
def cI(k:IntKind)(n:Int):Int:=
 match k with
 | .u8=>Int.emod n 256| .u16=>Int.emod n 65536| .u32=>Int.emod n 4294967296| .u64=>Int.emod n 18446744073709551616
 | .i8=>Int.sub (Int.emod (Int.add n 128) 256) 128| .i16=>Int.sub (Int.emod (Int.add n 32768) 65536) 32768
 | .i32=>Int.sub (Int.emod (Int.add n 2147483648) 4294967296) 2147483648
 | .i64=>Int.sub (Int.emod (Int.add n 9223372036854775808) 18446744073709551616) 9223372036854775808
def eM:IntKind->IntKind->Bool
 | .i8,.i8| .i16,.i16| .i32,.i32| .i64,.i64| .u8,.u8| .u16,.u16| .u32,.u32| .u64,.u64=>true
 | _,_=>false
def ez:Int->Int->Bool
 | .ofNat a,.ofNat b=>Nat.blt a b
 | .ofNat _,.negSucc _=>false
 | .negSucc _,.ofNat _=>true
 | .negSucc a,.negSucc b=>Nat.blt b a
def eqI:Int->Int->Bool
 | .ofNat a,.ofNat b=>Nat.beq a b
 | .negSucc a,.negSucc b=>Nat.beq a b
 | _,_=>false
def fA(s:Sem Value):Option Value:=
 match s with
 | .pure v=>some v
 | _=>none
def iJ(f:IntKind->Int->Int->Option AV)(x y:AV):Option AV:=
 match x,y with
 | .int k a,.int k' b=>bif eM k k' then f k a b else none
 | _,_=>none
def AY:AV->AV->Option AV:=iJ fun k a b=>some (.int k (cI k (Int.add a b)))
def AZ:AV->AV->Option AV:=iJ fun k a b=>some (.int k (cI k (Int.sub a b)))
def A0:AV->AV->Option AV:=iJ fun k a b=>some (.int k (cI k (Int.mul a b)))
def sV:AV->AV->Option AV:=iJ fun k a b=>bif eqI b 0 then none else some (.int k (cI k (Int.tdiv a b)))
def sW:AV->AV->Option AV:=iJ fun k a b=>bif eqI b 0 then none else some (.int k (Int.tmod a b))
def GW:AV->AV->Option AV:=iJ fun _ a b=>some (.bool (ez a b))
def GX:AV->AV->Option AV:=iJ fun _ a b=>some (.bool (!(ez b a)))
def GY:AV->AV->Option AV:=iJ fun _ a b=>some (.bool (ez b a))
def GZ:AV->AV->Option AV:=iJ fun _ a b=>some (.bool (!(ez a b)))
def ki:IntKind->Nat
 | .i8=>128| .i16=>32768| .i32=>2147483648| .i64=>9223372036854775808
 | .u8=>256| .u16=>65536| .u32=>4294967296| .u64=>18446744073709551616
def gh:IntKind->Nat
 | .i8| .u8=>8| .i16| .u16=>16| .i32| .u32=>32| .i64| .u64=>64
def oJ(s:Option Value):Option AV:=match s with
 |some v=>GV v
 |none=>none
def jY(op:BinOp)(f:Nat->Nat->Nat):AV->AV->Option AV:=iJ fun k a b=>
 match a,b with
 | .ofNat a,.ofNat b=>bif Nat.blt a (ki k)&&Nat.blt b (ki k)then some (.int k (.ofNat (f a b)))else oJ (fA (Op.intBits op k (.ofNat a) (.ofNat b)))
 |a,b=>oJ (fA (Op.intBits op k a b))
def A1:AV->AV->Option AV:=jY .and Nat.land
def Qu:AV->AV->Option AV:=jY .or Nat.lor
def A2:AV->AV->Option AV:=jY .xor Nat.xor
def jy:AV->AV->Option AV:=iJ fun k a b=>oJ (fA (Op.intBits .andNot k a b))
def nR(a b:Nat):Nat:=bif Nat.ble a b then a else b
def sX(x y:AV):Option AV:=
 match x,y with
 | .int k a,.int _ (.ofNat n)=>some (.int k (cI k (Int.mul a (.ofNat (Nat.pow 2 (nR n (gh k)))))))
 | _,_=>none
def sY(x y:AV):Option AV:=
 match x,y with
 | .int k a,.int _ (.ofNat n)=>some (.int k (Int.fdiv a (.ofNat (Nat.pow 2 (nR n (gh k))))))
 | _,_=>none
def eqStr(a b:ByteArray):Bool:=a.toList == b.toList
def xD(neg:Bool):AV->AV->Option AV:=iJ fun _ a b=>some (.bool (bif neg then !(eqI a b)else eqI a b))
def sZ(neg:Bool)(x y:AV):Option AV:=
 match x,y with
 | .bool a,.bool b=>some (.bool (bif neg then xor a b else !(xor a b)))
 | _,_=>none
def pU(neg:Bool)(x y:AV):Option AV:=
 match x,y with
 | .sc (.string a),.sc (.string b)=>some (.bool (bif neg then !(eqStr a b)else eqStr a b))
 | _,_=>none
def gL(neg:Bool)(x y:AV):Option AV:=
 match x,y with
 | .ref _ _,.sc (.pointer none)| .eg _,.sc (.pointer none)| .sc (.pointer none),.ref _ _| .sc (.pointer none),.eg _=>some (.bool neg)
 | .sc (.pointer none),.sc (.pointer none)=>some (.bool (!neg))
 | _,_=>none
def gM(neg:Bool)(x y:AV):Option AV:=bif isNil y then Option.rec none (fun b=>some (.bool (bif neg then !b else b))) (sU x)else none
def nL:IntKind->Int
 | .i8=> -128| .i16=> -32768| .i32=> -2147483648| .i64=> -9223372036854775808| _=>0
def mA:IntKind->Int
 | .i8=>127| .i16=>32767| .i32=>2147483647| .i64=>9223372036854775807
 | .u8=>255| .u16=>65535| .u32=>4294967295| .u64=>18446744073709551615
def l9:IntKind->Int
 | .i8| .u8=>256| .i16| .u16=>65536| .i32| .u32=>4294967296| .i64| .u64=>18446744073709551616
def lQ:List Nat->List Nat->Bool
 | [],[]=>true
 |a::l,b::m=>bif Nat.beq a b then lQ l m else false
 | _,_=>false
def je:SV->SV->Bool
 | .var i,.var j=>Nat.beq i j
 | .uX i,.uX j=>Nat.beq i j
 | .umod i c,.umod j d=>Nat.beq i j&&Nat.beq c d
 | .Qt i m,.Qt j n=>Nat.beq i j&&eqI m n
 | .uY i p m,.uY j q n=>Nat.beq i j&&(Nat.beq p q&&Nat.beq m n)
 | .bits l,.bits m=>lQ l m
 | .Mr m,.Mr n=>eqI m n
 | .sm l,.sm m=>lQ l m
 | .cl i l h,.cl i' l' h'=>Nat.beq i i'&&(eqI l l'&&eqI h h')
 | .pr i l h j,.pr i' l' h' j'=>Nat.beq i i'&&(eqI l l'&&(eqI h h'&&Nat.beq j j'))
 | .ad i j l h,.ad i' j' l' h'=>Nat.beq i i'&&(Nat.beq j j'&&(eqI l l'&&eqI h h'))
 | _,_=>false
def rz(a:SV):SV->Bool:=
 SV.rec (motive:=fun _=>SV->Bool) (fun i=>je (.var i)) (fun i=>je (.uX i)) (fun i c=>je (.umod i c)) (fun i m=>je (.Qt i m)) (fun i p m=>je (.uY i p m))
  (fun i l h=>je (.cl i l h)) (fun i l h j=>je (.pr i l h j)) (fun i j l h=>je (.ad i j l h)) (fun n=>je (.Mr n)) (fun l=>je (.sm l))
  (fun l _ o ma y=>match y with
   | .ix l2 a2 o2=>lQ l l2&&(eqI o o2&&ma a2)
   | _=>false)
  (fun f k k' _ oa _ ob ma pV y=>match y with
   | .tm f2 k2 YS a2 YT b2 YU=>Nat.beq f f2&&(eM k k2&&(eM k' YS&&(eqI oa YT&&(eqI ob YU&&(ma a2&&pV b2)))))
   | _=>false) (fun l=>je (.bits l)) a
def uZ(k:IntKind)(lo hi off:Int):Bool:= !(ez (Int.add lo off) (nL k))&& !(ez (mA k) (Int.add hi off))
def nS(k:IntKind)(s:SV)(lo hi off:Int):Option AV:=
 bif uZ k lo hi off then some (.sym k s lo hi off)else
 bif uZ k lo hi (Int.add off (l9 k))then some (.sym k s lo hi (Int.add off (l9 k)))else
 bif uZ k lo hi (Int.sub off (l9 k))then some (.sym k s lo hi (Int.sub off (l9 k)))else none
def Ms(x y:AV):Option AV:=match x,y with
 | .sym k s lo hi o,.int k' c=>bif eM k k' then nS k s lo hi (Int.add o c)else none
 | .int k' c,.sym k s lo hi o=>bif eM k k' then nS k s lo hi (Int.add o c)else none
 | _,_=>none
def G1(b:List Nat)(a:List Nat):Option (List Nat):=List.rec (bif lQ [] b then some []else none) (fun x r ih=>bif lQ (x::r) b then some []else match ih with
 |some m=>some (x::m)
 |none=>none) a
def Mt(x y:AV):Option AV:=match x,y with
 | .sym k s lo hi o,.int k' c=>bif eM k k' then nS k s lo hi (Int.sub o c)else none
 | .sym k s lo hi o,.sym k' s' Qv nT o'=>bif eM k k'&&rz s s' then some (.int k (cI k (Int.sub o o')))else bif eM k k' then(match s,s' with
  | .ad i j l h,.var i'=>bif Nat.beq i i'&& !(ez h l)then nS k (.cl j l h) l h (Int.sub o o')else none
  | .sm a,.sm b=>(match G1 b a with
   |some m=>nS k (.sm m) (Int.sub lo nT) (Int.sub hi Qv) (Int.sub o o')
   |none=>none)
  | .sm a,.var i=>(match G1 [i] a with
   |some m=>nS k (.sm m) (Int.sub lo nT) (Int.sub hi Qv) (Int.sub o o')
   |none=>none)
  | _,_=>none)else none
 | _,_=>none
def Ce(x y:AV):Option Bool:=match x,y with
 | .sym k _ lo hi o,.int k' c=>bif eM k k' then(bif ez (Int.add hi o) c then some true else bif ez (Int.add lo o) c then none else some false)else none
 | .int k' c,.sym k _ lo hi o=>bif eM k k' then(bif ez c (Int.add lo o)then some true else bif ez c (Int.add hi o)then none else some false)else none
 | .sym k s _ _ o,.sym k' s' _ _ o'=>bif eM k k'&&rz s s' then some (ez o o')else bif eM k k' then(match s,s' with
  | .ad i _ l h,.var i'=>bif Nat.beq i i'&& !(ez h l)then(bif ez (Int.add h o) o' then some true else bif ez (Int.add l o) o' then none else some false)else none
  | .var i',.ad i _ l h=>bif Nat.beq i i'&& !(ez h l)then(bif ez o (Int.add l o')then some true else bif ez o (Int.add h o')then none else some false)else none
  | _,_=>none)else none
 | _,_=>none
def s0(w:Nat):Nat->List Nat:=Nat.rec (fun _=>[]) (fun _ ih n=>Nat.mod n 2::ih (Nat.div n 2)) w
def iK(w:Nat):Nat->List Nat:=Nat.rec (fun _=>[]) (fun _ ih b=>b::ih (Nat.add b 1)) w
def mE(n:Nat):List Nat:=Nat.rec [] (fun _ ih=>(0:Nat)::ih) n
def Cr(l:List Nat):Nat:=List.rec (0:Nat) (fun c _ ih=>Nat.add (Nat.mul 2 ih) (Bool.rec 1 0 (Nat.beq c 0))) l
def Q2(l:List Nat):Nat:=List.rec (0:Nat) (fun c _ ih=>Nat.add (Nat.mul 2 ih) (Bool.rec 0 1 (Nat.beq c 1))) l
def G2(l:List Nat):Bool:=List.rec true (fun c _ ih=>Bool.rec false ih (Nat.blt c 2)) l
def Qw(k:IntKind)(l:List Nat):Option AV:=
 bif ez (mA k) (.ofNat (Cr l))then none else
 bif G2 l then some (.int k (.ofNat (Cr l)))else some (.sym k (.bits l) (.ofNat (Q2 l)) (.ofNat (Cr l)) 0)
def toB(x:AV):Option (IntKind×List Nat):=match x with
 | .int k (.ofNat n)=>bif Nat.blt n (ki k)then some (k,s0 64 n)else none
 | .sym k (.bits l) _ (.ofNat hi) (.ofNat o)=>bif Nat.beq o 0&&Nat.blt hi (ki k)then some (k,l)else none
 | .sym k (.var i) (.ofNat _) (.ofNat hi) (.ofNat o)=>
  bif Nat.beq o 0&&(Nat.blt hi (ki k)&&(Nat.blt hi (Nat.pow 2 (Nat.add (Nat.log2 hi) 1))&&Nat.ble (Nat.add (Nat.log2 hi) 1) 64))then
   some (k,app (iK (Nat.add (Nat.log2 hi) 1) (Nat.add 2 (Nat.mul 64 i))) (mE (Nat.sub 63 (Nat.log2 hi))))else none
 | .sym k (.uX i) _ (.ofNat hi) (.ofNat o)=>bif Nat.beq o 0&&Nat.blt hi (ki k)then some (k,iK 64 (Nat.add 2 (Nat.mul 64 i)))else none
 | _=>none
def Mu(f:Nat->Nat->Option Nat)(l:List Nat):List Nat->Option (List Nat):=
 List.rec (fun m=>List.rec (some []) (fun _ _ _=>none) m) (fun a _ ih m=>List.rec none (fun b m _=>
  match f a b with
  |some c=>match ih m with
   |some r=>some (c::r)
   |none=>none
  |none=>none) m) l
def Mv(a b:Nat):Option Nat:=bif Nat.beq a 0||Nat.beq b 0 then some 0 else bif Nat.beq a 1 then some b else bif Nat.beq b 1||Nat.beq a b then some a else none
def YV(a b:Nat):Option Nat:=bif Nat.beq a 1||Nat.beq b 1 then some 1 else bif Nat.beq a 0 then some b else bif Nat.beq b 0||Nat.beq a b then some a else none
def Mw(a b:Nat):Option Nat:=bif Nat.beq a b then some 0 else bif Nat.beq a 0 then some b else bif Nat.beq b 0 then some a else none
def zB(f:Nat->Nat->Option Nat)(x y:AV):Option AV:=match toB x,toB y with
 |some (k,l),some (k',m)=>bif eM k k' then(match Mu f l m with
  |some r=>Qw k r
  |none=>none)else none
 | _,_=>none
def Mx:IntKind->Bool
 | .u8| .u16| .u32| .u64=>true
 | _=>false
def Q3:AV->AV->Option AV:=zB Mv
def sOr:AV->AV->Option AV:=zB YV
def Q4:AV->AV->Option AV:=zB Mw
def G3(x y:AV):Option AV:=match toB x with
 |some (k,l)=>match y with
  | .int _ (.ofNat n)=>bif Mx k then Qw k (app (tk (gh k) (app (mE (nR n (gh k))) l)) (mE (Nat.sub 64 (gh k))))else none
  | _=>none
 |none=>none
def G4(x y:AV):Option AV:=match toB x with
 |some (k,l)=>match y with
  | .int _ (.ofNat n)=>Qw k (app (dp (nR n (gh k)) l) (mE (nR n (gh k))))
  | _=>none
 |none=>none
def A3(k:IntKind)(x:AV):Option AV:=match toB x with
 |some (_,l)=>bif Mx k then Qw k (app (tk (gh k) l) (mE (Nat.sub 64 (gh k))))else none
 |none=>none
def Li(x y:AV):Option Bool:=match toB x,toB y with
 |some (k,l),some (k',m)=>bif eM k k'&&lQ l m then some true else none
 | _,_=>none
def G5(x y:AV):Option Bool:=match x,y with
 | .sym k _ lo hi o,.int k' c=>bif eM k k' then(bif ez c (Int.add lo o)||ez (Int.add hi o) c then some false else bif eqI (Int.add lo o) c&&eqI (Int.add hi o) c then some true else none)else none
 | .int k' c,.sym k _ lo hi o=>bif eM k k' then(bif ez c (Int.add lo o)||ez (Int.add hi o) c then some false else bif eqI (Int.add lo o) c&&eqI (Int.add hi o) c then some true else none)else none
 | .sym k s _ _ o,.sym k' s' _ _ o'=>bif eM k k'&&rz s s' then some (eqI o o')else none
 | _,_=>none
def G6(x y:AV):Option Bool:=Option.rec (Li x y) (fun b=>some b) (G5 x y)
def YW(x y:AV):Option Bool:=match Ce x y with
 |some true=>some false
 | _=>match Ce y x with
  |some true=>some false
  | _=>none
def GD(x y:AV):Option Bool:=Option.rec (YW x y) (fun b=>some b) (G6 x y)
def Q5(x y:AV):Option AV:=Option.rec none (fun b=>some (.bool b)) (Ce x y)
def Q6(x y:AV):Option AV:=Option.rec none (fun b=>some (.bool b)) (Ce y x)
def Q7(x y:AV):Option AV:=Option.rec none (fun b=>some (.bool (!b))) (Ce y x)
def Q8(x y:AV):Option AV:=Option.rec none (fun b=>some (.bool (!b))) (Ce x y)
def YX(neg:Bool)(x y:AV):Option AV:=Option.rec none (fun b=>some (.bool (bif neg then !b else b))) (GD x y)
def My(x y:AV):Option AV:=match x,y with
 | .sym k s lo hi o,.int k' (.ofNat c)=>bif eM k k'&&(Nat.blt 0 c&& !(ez (Int.add lo o) 0))then
   (bif eqI (Int.fdiv (Int.add lo o) (.ofNat c)) (Int.fdiv (Int.add hi o) (.ofNat c))then some (.sym k s lo hi (Int.sub o (Int.mul (Int.fdiv (Int.add lo o) (.ofNat c)) (.ofNat c))))else
   match k,s,o with
   | .u64,.uX i,.ofNat 0=>some (.sym .u64 (.umod i c) 0 (Int.sub (.ofNat c) 1) 0)
   |k,.var i,.ofNat 0=>some (.sym k (.uY i 1 c) 0 (Int.sub (.ofNat c) 1) 0)
   |k,.uY i p m,.ofNat 0=>bif Nat.beq m 0 then some (.sym k (.uY i p c) 0 (Int.sub (.ofNat c) 1) 0)else none
   |k,.pr i l h _,.ofNat 0=>bif Nat.beq c 4294967296&&(!(ez l 0)&&(ez h 4294967296&& !(ez h l)))then some (bif eqI l h then .int k l else .sym k (.cl i l h) l h 0)else none
   |k,.Qt _ (.ofNat m),.ofNat o=>bif Nat.beq (Nat.mod m c) 0 then some (.int k (.ofNat (Nat.mod o c)))else none
   | _,_,_=>none)else none
 | _,_=>none
def Mz(x y:AV):Option AV:=match x,y with
 | .sym k s lo hi o,.int k' (.ofNat c)=>bif eM k k'&&(Nat.blt 0 c&& !(ez (Int.add lo o) 0))then
   (bif eqI (Int.fdiv (Int.add lo o) (.ofNat c)) (Int.fdiv (Int.add hi o) (.ofNat c))then some (.int k (cI k (Int.fdiv (Int.add lo o) (.ofNat c))))else
   match s,o with
   | .var i,.ofNat 0=>nS k (.uY i c 0) (Int.fdiv lo (.ofNat c)) (Int.fdiv hi (.ofNat c)) 0
   | .uY i p m,.ofNat 0=>bif Nat.beq m 0 then nS k (.uY i (Nat.mul p c) 0) (Int.fdiv lo (.ofNat c)) (Int.fdiv hi (.ofNat c)) 0 else none
   | _,_=>none)else none
 | _,_=>none
def MA(k:IntKind)(i:Nat)(lo hi o:Int)(c:Nat):Option AV:=bif Nat.blt 0 c then nS k (.Qt i (.ofNat c)) (Int.mul (.ofNat c) lo) (Int.mul (.ofNat c) hi) (Int.mul (.ofNat c) o)else none
def MB(x y:AV):Option AV:=match x,y with
 | .sym k (.var i) lo hi o,.int k' (.ofNat c)=>bif eM k k' then MA k i lo hi o c else none
 | .int k' (.ofNat c),.sym k (.var i) lo hi o=>bif eM k k' then MA k i lo hi o c else none
 | _,_=>none
def Lj(k k':IntKind)(s:SV)(o:Int)(x:AV):Option AV:=match k,k',s,o with
 | .u64,.i64,.var i,0=>some (.sym .u64 (.uX i) 0 18446744073709551615 0)
 | .u32,_,.pr i l h _,.ofNat 0=>bif !(ez l 0)&&(ez h 4294967296&& !(ez h l))then some (bif eqI l h then .int .u32 l else .sym .u32 (.cl i l h) l h 0)else none
 | _,_,_,_=>A3 k x
def G7(k:IntKind)(x:AV):Option AV:=match x with
 | .sym k' s lo hi o=>Option.rec (Lj k k' s o x) (fun r=>some r) (nS k s lo hi o)
 | _=>none
def gN(f s:AV->AV->Option AV):AV->AV->Option AV:=fun x y=>Option.rec (s x y) (fun v=>some v) (f x y)
def Cs(f s:AV->Option AV):AV->Option AV:=fun x=>Option.rec (s x) (fun v=>some v) (f x)
def yX:AV->Option AV
 | .int k n=>some (.int k (cI k (Int.sub 0 n)))
 | _=>none
def A4(k:IntKind):AV->Option AV
 | .int _ n=>some (.int k (cI k n))
 | _=>none
def Ya(f:Nat)(k:IntKind)(m n:Int):Option AV:=match f with
 |0=>AY (.int k m) (.int k n)
 |1=>AZ (.int k m) (.int k n)
 |2=>A0 (.int k m) (.int k n)
 |3=>sV (.int k m) (.int k n)
 |4=>sW (.int k m) (.int k n)
 |5=>A1 (.int k m) (.int k n)
 |6=>Qu (.int k m) (.int k n)
 |7=>A2 (.int k m) (.int k n)
 |8=>sX (.int k m) (.int .u64 n)
 |9=>sY (.int k m) (.int .u64 n)
 |10=>yX (.int k m)
 | _=>A4 k (.int k m)
def Q9(f:Nat)(k:IntKind)(m n:Int):Int:=match Ya f k m n with
 |some (.int _ r)=>r
 | _=>0
def MC(x:AV):Option (IntKind×SV×Int×Int×Int):=match x with
 | .int k n=>some (k,.Mr n,0,n,n)
 | .sym k s lo hi o=>some (k,s,o,Int.add lo o,Int.add hi o)
 | _=>none
def Yb(k:IntKind)(l u:Int):Bool:= !(ez l (nL k))&& !(ez (mA k) u)
def tS(f:Nat)(ok:IntKind->IntKind->Int->Int->Int->Int->Bool)(x y:AV):Option AV:=match MC x with
 |some (k,s,o,l,u)=>match MC y with
  |some (k',s',o',l',u')=>bif ok k k' l u l' u' then some (.sym k (.tm f k k' s o s' o') (nL k) (mA k) 0)else none
  |none=>none
 |none=>none
def t1(f:Nat)(k:IntKind)(x:AV):Option AV:=match MC x with
 |some (k',s,o,_,_)=>some (.sym k (.tm f k k' s o (.Mr 0) 0) (nL k) (mA k) 0)
 |none=>none
def jz(k k':IntKind)(_ _ _ _:Int):Bool:=eM k k'
def u0(k k':IntKind)(l u l' u':Int):Bool:=eM k k'&&(Yb k l u&&(ez 0 l'||ez u' 0))
def yY(_ _:IntKind)(_ _ l' _:Int):Bool:= !(ez l' 0)
def u4(k _:IntKind)(l u l' _:Int):Bool:=Yb k l u&& !(ez l' 0)
def uK:IntKind->IntKind
 | .i8=>.u8| .i16=>.u16| .i32=>.u32| .i64=>.u64|k=>k
def G8(k:IntKind)(x:AV):Option AV:=Option.rec (t1 11 k x) (fun r=>t1 11 k r) (A3 (uK k) x)
def aT:AV->AV->Option AV:=gN AY (gN Ms (tS 0 jz))
def bT:AV->AV->Option AV:=gN AZ (gN Mt (tS 1 jz))
def jZ:AV->AV->Option AV:=gN sW (gN My (tS 4 u0))
def mF:AV->AV->Option AV:=gN sV (gN Mz (tS 3 u0))
def eU:AV->AV->Option AV:=gN A0 (gN MB (tS 2 jz))
def aS:AV->AV->Option AV:=gN GW Q5
def cB:AV->AV->Option AV:=gN GX Q7
def cE:AV->AV->Option AV:=gN GY Q6
def bN:AV->AV->Option AV:=gN GZ Q8
def cz:AV->AV->Option AV:=gN A1 (gN Q3 (tS 5 jz))
def gi:AV->AV->Option AV:=gN Qu (gN sOr (tS 6 jz))
def rU:AV->AV->Option AV:=gN A2 (gN Q4 (tS 7 jz))
def fo:AV->AV->Option AV:=gN sX (gN G3 (tS 8 yY))
def cJ:AV->AV->Option AV:=gN sY (gN G4 (tS 9 u4))
def ak(neg:Bool):AV->AV->Option AV:=gN (xD neg) (YX neg)
def Qx(i:Bool)(x y:AV):Option Bool:=bif i then
 (match x,y with
 | .int k a,.int k' b=>bif eM k k' then some (eqI a b)else none
 | _,_=>GD x y)else
 (match x,y with
 | .bool a,.bool b=>some (!(xor a b))
 | _,_=>none)
def u5(l:List Bool):List AV->List AV->Option Bool:=
 List.rec (fun _ _=>some true) (fun i _ ih xs ys=>match xs with
  | []=>none
  |x::xs=>match ys with
   | []=>none
   |y::ys=>match Qx i x y with
    |none=>none
    |some c=>Bool.rec (some false) (ih xs ys) c) l
def xE(neg:Bool)(l:List Bool)(x y:AV):Option AV:=match x with
 | .agg xs=>match y with
  | .agg ys=>match u5 l xs ys with
   |some c=>some (.bool (bif neg then !c else c))
   |none=>none
  | _=>none
 | _=>none
def ed:AV->Option AV
 | .bool b=>some (.bool (!b))
 | _=>none
def s6(x:AV):Option AV:=Option.rec (match MC x with|some (k,_,_,_,_)=>t1 10 k x|none=>none) (fun r=>some r) (yX x)
def A5:AV->Option AV
 | .int k n=>oJ (fA (Op.unary .xor (.int k n)))
 | _=>none
def put(cs:List AV)(off:Nat)(new:List AV):List AV:=app (tk off cs) (app new (dp (Nat.add off (len new)) cs))
def px(cs:List AV)(off n:Nat):Option (List AV):=
 match tk n (dp off cs)with
 |l=>bif Nat.beq (len l) n then some l else none
def part(agg:Bool)(cs:List AV)(off size:Nat):Option AV:=
 match px cs off size with
 |none=>none
 |some l=>bif agg then some (.agg l)else match l with
  | [c]=>some c
  | _=>none
def lV(agg:Bool)(r:Rw)(off size:Nat):Option AV:=
 match r.fy off size with
 |none=>none
 |some l=>bif agg then some (.agg l)else match l with
  | [c]=>some c
  | _=>none
def pW(l:List (Nat×Nat×AV)):List AV->Option (List AV):=
 List.rec (fun cells=>some cells) (fun p _ ih cells=>
  bif Nat.beq (len p.2.2.cells) p.2.1&&Nat.ble (Nat.add p.1 p.2.1) (len cells)then ih (put cells p.1 p.2.2.cells)else none) l
def mG(size:Nat)(l:List (Nat×AV)):Nat->Option (List AV):=
 List.rec (fun _=>some []) (fun p _ ih i=>
  bif Nat.beq p.1 i&&Nat.beq (len p.2.cells) size then(match ih (Nat.add i 1)with|some r=>some (app p.2.cells r)|none=>none)else none) l
def iR(l:List (Nat×dj))(t:Tm):Option (List (Nat×AV)):=
 List.rec (some []) (fun p _ ih=>match p.2 t with
  |some v=>match ih with
   |some vs=>some ((p.1,v)::vs)
   |none=>none
  |none=>none) l
def iS(l:List (Nat×Nat×dj))(t:Tm):Option (List (Nat×Nat×AV)):=
 List.rec (some []) (fun p _ ih=>match p.2.2 t with
  |some v=>match ih with
   |some vs=>some ((p.1,p.2.1,v)::vs)
   |none=>none
  |none=>none) l
def dM(n:Nat)(z:List AV):List AV:=Nat.rec [] (fun _ ih=>app z ih) n
def scale(size:Nat)(l:List (Nat×AV)):List (Nat×Nat×AV):=
 List.rec [] (fun p _ ih=>(Nat.mul p.1 size,size,p.2)::ih) l
def la(n size:Nat)(zero:List AV)(l:List (Nat×AV)):Option (List AV):=
 match bif Nat.beq (len l) n then mG size l 0 else none with
 |some cs=>some cs
 |none=>pW (scale size l) (dM n zero)
def pX(h:Hp)(size:Nat)(agg:Bool)(a:AV):Option AV:=
 match a with
 | .ref id off=>match h.aN.get id with
  |some cs=>lV agg cs off size
  |none=>none
 | .eg cs=>part agg cs 0 size
 | _=>none
def cK(h:Hp):AV->Option (Nat×List AV)
 | .cS=>some (0,[])
 | .fg n cs=>some (n,cs)
 | .cR id off n sz=>match h.aN.get id with
  |some cs=>match cs.fy off (Nat.mul n sz)with
   |some l=>some (n,l)
   |none=>none
  |none=>none
 | _=>none
def aa(x:dj):dg:=fun t h=>Option.rec Ro.bad (fun v=>Ro.ok v h) (x t)
def aO(c a b:dj):dg:=fun t h=>match c t with
 |some (.bool c)=>bif c then aa a t h else aa b t h
 | _=>.bad
def bX(cs:List AV):dg:=fun _ h=>.ok (.ref h.next 0) (cx h (pw cs))
def cb(x:dj):dg:=fun t h=>match x t with
 |some v=>.ok (.ref h.next 0) (cx h (pw v.cells))
 |none=>.bad
def an(zero:List AV)(parts:List (Nat×Nat×dj)):dg:=fun t h=>match iS parts t with
 |some vs=>match pW vs zero with
  |some cs=>.ok (.agg cs) h
  |none=>.bad
 |none=>.bad
def bf(n size:Nat)(zero:List AV)(parts:List (Nat×dj)):dg:=fun t h=>match iR parts t with
 |some vs=>bif Nat.beq n 0 then(match vs with| []=>.ok .iQ h| _=>.bad)else match la n size zero vs with
  |some cs=>.ok (.cR h.next 0 n size) (cx h (pw cs))
  |none=>.bad
 |none=>.bad
def ae(size:Nat)(agg:Bool)(a:dj):dg:=fun t h=>match a t with
 |some a=>match pX h size agg a with
  |some v=>.ok v h
  |none=>.bad
 |none=>.bad
def aq(size:Nat)(a x:dj):dg:=fun t h=>match a t with
 |some (.ref id off)=>match x t with
  |some v=>match h.aN.get id with
   |some cs=>bif Nat.beq (len v.cells) size&&(Nat.ble (Nat.add off (len v.cells)) cs.n&&dK cH v.cells)then
    .ok eh (eN h id (some (cs.put off v.cells)))
    else .bad
   |none=>.bad
  |none=>.bad
 | _=>.bad
def aA(x:dj):dg:=fun t h=>match x t with
 |some (.ref i o)=>.ok (.ref i o) h
 |some (.eg cs)=>.ok (.eg cs) h
 |some (.fn f c)=>.ok (.fn f c) h
 | _=>.bad
def af(f:AV->AV->Option AV)(x y:dj):dg:=fun t h=>
 Option.rec Ro.bad (fun a=>Option.rec Ro.bad (fun b=>Option.rec Ro.bad (fun v=>Ro.ok v h) (f a b)) (y t)) (x t)
def bF(f:AV->Option AV)(x:dj):dg:=fun t h=>Option.rec Ro.bad (fun a=>Option.rec Ro.bad (fun v=>Ro.ok v h) (f a)) (x t)
def aJ(k:IntKind):AV->Option AV:=Cs (A4 k) (Cs (G7 k) (G8 k))
def jA(x:dj):dg:=fun t h=>match x t with
 |some (.sc (.string s))=>.ok (.cR h.next 0 s.size 1) (cx h (pw (s.data.toList.map fun b=>.int .u8 (.ofNat b.toNat))))
 | _=>.bad
def GF(f:FuncId)(cap:List dj):dg:=fun t h=>match nQ cap t with
 |some vs=>.ok (.fn f vs) h
 |none=>.bad
def jf(size bytes:Nat)(zero:List AV)(l c:dj):dg:=fun t h=>match l t with
 |some (.int _ (.ofNat l))=>match c t with
  |some (.int _ (.ofNat c))=>bif Nat.ble l c&&Nat.ble (Nat.mul c bytes) 70368744177664 then
    bif Nat.beq c 0 then .ok .iQ h else .ok (.cR h.next 0 l size) (cx h ⟨Nat.mul c (len zero),zero,.nil⟩)
   else .bad
  | _=>.bad
 | _=>.bad
def iT(o:Option dj)(t:Tm)(d:Nat):Option Nat:=match o with
 |none=>some d
 |some o=>match o t with
  |some (.int _ (.ofNat n))=>some n
  | _=>none
def bounds(lo hi:Option dj)(t:Tm)(n:Nat):Option (Nat×Nat):=match iT lo t 0 with
 |some l=>match iT hi t n with
  |some h=>bif Nat.ble l h&&Nat.ble h n then some (l,h)else none
  |none=>none
 |none=>none
def ct(x:dj)(lo hi:Option dj):dg:=fun t h=>match x t with
 |some (.sc (.string s))=>match bounds lo hi t s.size with
  |some (l,e)=>.ok (.sc (.string (s.extract l e))) h
  |none=>.bad
 | _=>.bad
def iU(size:Nat)(x:dj)(lo hi:Option dj):dg:=fun t h=>match x t with
 |some .cS=>match bounds lo hi t 0 with
  |some _=>.ok .cS h
  |none=>.bad
 |some (.cR id off n sz)=>match bounds lo hi t n with
  |some (l,e)=>bif Nat.beq sz size then .ok (.cR id (Nat.add off (Nat.mul l size)) (Nat.sub e l) sz) h else .bad
  |none=>.bad
 |some (.fg n cs)=>match bounds lo hi t n with
  |some (l,e)=>.ok (.fg (Nat.sub e l) (tk (Nat.mul (Nat.sub e l) size) (dp (Nat.mul l size) cs))) h
  |none=>.bad
 | _=>.bad
def bB(size:Nat)(x:dj)(lo hi:Option dj):dg:=fun t h=>match x t with
 |some a=>bif l8 a then(match bounds lo hi t 0 with
  |some _=>.ok a h
  |none=>.bad)else iU size x lo hi t h
 |none=>.bad
def mH(x:dj):dg:=fun t h=>match x t with
 |some .cS=>.ok (.int .i64 0) h
 | _=>.bad
def ek(n size:Nat)(x:dj)(lo hi:Option dj):dg:=fun t h=>match x t with
 |some (.ref id off)=>match bounds lo hi t n with
  |some (l,e)=>match h.aN.get id with
   |some cs=>bif Nat.ble (Nat.add off (Nat.mul n size)) cs.n then .ok (.cR id (Nat.add off (Nat.mul l size)) (Nat.sub e l) size) h else .bad
   |none=>.bad
  |none=>.bad
 | _=>.bad
def ab(off:Nat)(x:dj):dg:=fun t h=>match x t with
 |some (.ref id o)=>.ok (.ref id (Nat.add o off)) h
 |some (.eg cs)=>.ok (.eg (dp off cs)) h
 | _=>.bad
def ij(off size:Nat)(agg:Bool)(x:dj):dg:=fun t h=>match x t with
 |some (.agg cs)=>match part agg cs off size with
  |some v=>.ok v h
  |none=>.bad
 | _=>.bad
def bg(size:Nat)(x i:dj):dg:=fun t h=>match i t with
 |some (.int _ (.ofNat i))=>match x t with
  |some (.cR id off n sz)=>bif Nat.blt i n&&Nat.beq sz size then .ok (.ref id (Nat.add off (Nat.mul i size))) h else .bad
  |some (.fg n cs)=>bif Nat.blt i n then .ok (.eg (dp (Nat.mul i size) cs)) h else .bad
  | _=>.bad
 | _=>.bad
def j9(n size:Nat)(x i:dj):dg:=fun t h=>match i t with
 |some (.int _ (.ofNat i))=>match x t with
  |some (.ref id off)=>bif Nat.blt i n then .ok (.ref id (Nat.add off (Nat.mul i size))) h else .bad
  |some (.eg cs)=>bif Nat.blt i n then .ok (.eg (dp (Nat.mul i size) cs)) h else .bad
  | _=>.bad
 | _=>.bad
def gy(n size:Nat)(agg:Bool)(x i:dj):dg:=fun t h=>match x t with
 |some (.agg cs)=>match i t with
  |some (.int _ (.ofNat i))=>bif Nat.blt i n then(match part agg cs (Nat.mul i size) size with
   |some v=>.ok v h
   |none=>.bad)else .bad
  | _=>.bad
 | _=>.bad
def bG(x i:dj):dg:=fun t h=>match x t with
 |some (.sc (.string s))=>match i t with
  |some (.int _ (.ofNat i))=>match gx s.data.toList i with
   |some b=>.ok (.int .u8 b.toNat) h
   |none=>.bad
  |some (.sym _ a lo hi o)=>bif !(ez (Int.add lo o) 0)&&ez (Int.add hi o) (.ofNat s.size)then .ok (.sym .u8 (.ix (s.data.toList.map UInt8.toNat) a o) 0 255 0) h else .bad
  | _=>.bad
 | _=>.bad
def aD(x:dj)(i:Nat):dg:=fun t h=>match x t with
 |some (.mD vs)=>match gx vs i with
  |some v=>.ok v h
  |none=>.bad
 | _=>.bad
def fB(x:dj):dg:=fun t h=>match x t with
 |some (.sc (.string s))=>.ok (.int .i64 (.ofNat s.size)) h
 | _=>.bad
def aP(x:dj):dg:=fun t h=>match x t with
 |some (.cR _ _ n _)=>.ok (.int .i64 (.ofNat n)) h
 |some (.fg n _)=>.ok (.int .i64 (.ofNat n)) h
 |some .cS=>.ok (.int .i64 0) h
 | _=>.bad
def mI(size bytes:Nat)(h:Hp)(s:AV)(n:Nat)(new:List AV):Ro:=match s with
 | .cS=>bif Nat.beq n 0 then .ok .cS h else
   bif Nat.ble (Nat.mul n bytes) 70368744177664&&(dK cH new&&(Nat.beq (len new) (Nat.mul n size)&&Nat.ble n 70368744177664))then .ok (.cR h.next 0 n size) (cx h (pw new))else .bad
 | .cR id off ln sz=>bif Nat.beq n 0 then .ok (.cR id off ln sz) h else match h.aN.get id with
  |none=>.bad
  |some cs=>match cs.sub off (Nat.mul ln sz)with
   |none=>.bad
   |some pre=>bif Nat.ble (Nat.mul (Nat.add ln n) bytes) 70368744177664&&(Nat.beq sz size&&(dK cH new&&(Nat.beq (len new) (Nat.mul n size)&&Nat.ble (Nat.add ln n) 70368744177664)))then
    .ok (.cR h.next 0 (Nat.add ln n) sz) (cx (eN h id none) (pre.app new))else .bad
 | .fg ln cs=>bif Nat.beq n 0 then .ok (.fg ln cs) h else .bad
 | _=>.bad
def jB(size bytes:Nat)(s x:dj):dg:=fun t h=>match s t with
 |some s=>match x t with
  |some x=>match cK h x with
   |none=>.bad
   |some (n,new)=>mI size bytes h s n new
  |none=>.bad
 |none=>.bad
def aC(size bytes:Nat)(s x:dj):dg:=fun t h=>match s t with
 |some a=>match x t with
  |some b=>bif l8 a&&GC b then .ok a h else jB size bytes (wO s) (wO x) t h
  |none=>.bad
 |none=>.bad
def j1(size bytes:Nat)(zero:List AV)(s x:dj):dg:=fun t h=>match s t with
 |some a=>match x t with
  |some (.int _ (.ofNat n))=>bif l8 a&&Nat.beq n 0 then .ok a h else mI size bytes h (nP a) n (dM n zero)
  | _=>.bad
 |none=>.bad
def mJ(bytes:Nat)(s x:dj):dg:=fun t h=>match s t with
 |some a=>match x t with
  |some (.sc (.string b))=>bif l8 a&&Nat.beq b.size 0 then .ok a h else mI 1 bytes h (nP a) b.size (b.data.toList.map fun b=>.int .u8 (.ofNat b.toNat))
  | _=>.bad
 |none=>.bad
def lW(x:dj):dg:=fun t h=>match x t with
 |some (.cR id off n sz)=>bif Nat.beq n 0 then .bad else(match h.aN.get id with
  |some _=>.ok (.cR id off n sz) h
  |none=>.bad)
 | _=>.bad
def fQ(size:Nat)(d s:dj):dg:=fun t h=>match d t with
 |some .cS=>match s t with
  |some x=>match cK h x with
   |some _=>.ok (.int .i64 (.ofNat 0)) h
   |none=>.bad
  |none=>.bad
 |some (.cR id off n sz)=>match s t with
  |some x=>match cK h x with
   |some (m,src)=>bif Nat.beq (nR m n) 0 then .ok (.int .i64 (.ofNat 0)) h else match h.aN.get id with
    |some cs=>bif (Nat.blt 0 size&&(Nat.beq sz size&&(Nat.beq (len src) (Nat.mul m size)&&dK cH src)))&&Nat.ble (Nat.add off (Nat.mul (nR m n) size)) cs.n then
     .ok (.int .i64 (.ofNat (nR m n))) (eN h id (some (cs.put off (tk (Nat.mul (nR m n) size) src))))else .bad
    |none=>.bad
   |none=>.bad
  |none=>.bad
 | _=>.bad
def pY(x y z:dj):dg:=fun t h=>match y t with
 |some (.int _ (.ofNat y))=>match z t with
  |some (.int _ (.ofNat z))=>bif Nat.beq y 0&&Nat.beq z 0 then(match x t with
   |some .cS=>.ok .cS h
   |some (.cR _ _ _ _)=>.ok .cS h
   |some (.fg _ _)=>.ok .cS h
   | _=>.bad)else .bad
  | _=>.bad
 | _=>.bad
def mK(x y:dj):dg:=af (gN (iJ fun k a b=>some (.int k (bif ez b a then b else a))) fun x y=>Option.rec none (fun c=>some (bif c then y else x)) (Ce y x)) x y
def rA(x y:dj):dg:=af (gN (iJ fun k a b=>some (.int k (bif ez a b then b else a))) fun x y=>Option.rec none (fun c=>some (bif c then y else x)) (Ce x y)) x y
def A6:dg:=fun _ h=>.ok .any h
def bA:dg:=fun _ _=>.bad
def aj(call:bP)(f:FuncId)(args:List dj):dg:=fun t h=>match nQ args t with
 |some vs=>call f vs h
 |none=>.bad
def eB(call:bP)(f:dj)(args:List dj):dg:=fun t h=>match f t with
 |some (.fn k cap)=>match nQ args t with
  |some vs=>call k (app vs cap) h
  |none=>.bad
 | _=>.bad
def fi:ic:=fun t h=>.ok t h
def st(s:Q1)(f:dg)(k:ic):ic:=fun t h=>Ro.rec Rt.bad (fun v h=>k (s v t) h) (f t h)
def sn(f:dg)(k:ic):ic:=fun t h=>Ro.rec Rt.bad (fun _ h=>k t h) (f t h)
def ai(r:ic):rr:=fun t h=>Rt.rec Rc.bad (fun t h=>Rc.norm t h) (r t h)
def aU:rr:=fun t h=>.norm t h
def ah(a b:rr):rr:=fun t h=>Rc.rec Rc.bad (fun t h=>b t h) (fun t h=>Rc.ret t h) (fun i t h=>Rc.exit i t h) (a t h)
def aE(c:dj)(a b:rr):rr:=fun t h=>match c t with
 |some (.bool c)=>Bool.rec (b t h) (a t h) c
 | _=>.bad
def bI(id:Nat)(b:rr):rr:=fun t h=>
 Rc.rec Rc.bad (fun t h=>Rc.norm t h) (fun t h=>Rc.ret t h) (fun i t h=>Bool.rec (Rc.exit i t h) (Rc.norm t h) (Nat.beq i id)) (b t h)
def dE(n:Nat)(b:rr):rr:=
 Nat.rec (fun _ _=>.bad) (fun _ ih t h=>Rc.rec Rc.bad (fun t h=>ih t h) (fun t h=>Rc.ret t h) (fun i t h=>Rc.exit i t h) (b t h)) n
def dG(i:Nat):rr:=fun t h=>.exit i t h
def aZ:rr:=fun t h=>.ret t h
def u6:rr:=fun _ _=>.bad
inductive RV where
 |tmp (i:Nat)
 |cell (i size:Nat) (agg:Bool)
def Ct(t:Tm)(h:Hp):RV->Option AV
 | .tmp i=>Tm.at t i
 | .cell i size agg=>match Tm.at t i with
  |some a=>pX h size agg a
  |none=>none
def rV(t:Tm)(h:Hp)(l:List RV):Option (List AV):=
 List.rec (some []) (fun r _ ih=>match Ct t h r with
  |some v=>match ih with
   |some vs=>some (v::vs)
   |none=>none
  |none=>none) l
structure Fb where
 ntmps:Nat
 res:List RV
 body:bP->Nat->rr
def fW(l:List AV):Nat->Tm->Tm:=
 List.rec (fun _ t=>t) (fun v _ ih i t=>ih (Nat.add i 1) (Tm.put t i (some v))) l
def fin(res:List RV)(t:Tm)(h:Hp):Ro:=
 match rV t h res with
 |some [v]=>.ok v h
 |some vs=>.ok (.mD vs) h
 |none=>.bad
def pZ(fn:FuncId->Option Fb)(n:Nat)(d:Nat):bP:=
 Nat.rec (fun _ _ _=>.bad) (fun _ ih f args h=>match fn f with
  |none=>.bad
  |some b=>ej (Nat.ble (len args) b.ntmps) (match b.body ih n (fW args 0 Tm.none) h with
   | .norm t h=>fin b.res t h
   | .ret t h=>fin b.res t h
   | _=>.bad) .bad) d
end Go.Ab


noncomputable section
namespace Go.Ab
def ka:List Bool->Nat
 | []=>0
 |b::l=>b.toNat+2*ka l
theorem cW: ∀ (l:List Bool) (i:Nat),(ka l).testBit i=l.getD i false
 | [],i=>by simp[ka]
 |b::l,0=>by
  simp only[ka,Nat.testBit_zero]
  cases b<;>simp<;>omega
 |b::l,i+1=>by
  have h:(b.toNat+2*ka l) / 2=ka l:=by cases b<;>simp<;>omega
  rw[ka,Nat.testBit_succ,h,cW l i]
  simp
theorem G9{l m:List Bool}(h: ∀ i,l.getD i false=m.getD i false):ka l=ka m:=
 Nat.eq_of_testBit_eq fun i=>by rw[cW,cW,h]
theorem Ha(f:Bool->Bool->Bool)(g:Nat->Nat->Nat)(hg: ∀ a b i,(g a b).testBit i=f (a.testBit i) (b.testBit i))(hf:f false false=false)
 (l m:List Bool)(h:l.length=m.length):ka (List.zipWith f l m)=g (ka l) (ka m):=by
 apply Nat.eq_of_testBit_eq
 intro i
 rw[cW,hg,cW,cW]
 by_cases hi:i<l.length
 ·simp[List.getD,List.getElem?_zipWith,hi,h▸hi]
 ·simp[List.getD,List.getElem?_zipWith,List.getElem?_eq_none (Nat.le_of_not_lt hi),List.getElem?_eq_none (Nat.le_of_not_lt (h▸hi)),hf]
theorem Cu(l:List Bool)(n:Nat):ka (l.take n)=ka l % 2 ^ n:=by
 apply Nat.eq_of_testBit_eq
 intro i
 rw[cW,Nat.testBit_mod_two_pow,cW]
 by_cases h:i<n<;>simp[List.getD,List.getElem?_take,h]
theorem Cv(l:List Bool)(n:Nat):ka (l.drop n)=ka l / 2 ^ n:=by
 apply Nat.eq_of_testBit_eq
 intro i
 rw[cW,<-Nat.shiftRight_eq_div_pow,Nat.testBit_shiftRight,cW]
 simp[List.getD,List.getElem?_drop]
theorem Hb(l:List Bool)(n:Nat):ka (List.replicate n false++l)=ka l*2 ^ n:=by
 induction n with
 |zero=>simp
 |succ n ih=>
  simp only[List.replicate_succ,List.cons_append,ka,ih,Nat.pow_succ]
  simp;rw[Nat.mul_comm 2,Nat.mul_assoc]
end Go.Ab

noncomputable section
namespace Go.Ab
class Io where
 io:Nat->Int
 tb:List (Nat×List Value)
variable [Io]
def dm(c:Nat):Bool:=match c with
 |0=>false
 |1=>true
 |c+2=>(Io.io (c / 64) % 18446744073709551616).toNat.testBit (c % 64)
def fR(l h x:Int):Int:=if x<l then l else if h<x then h else x
def bm:SV->Int
 | .var i=>Io.io i
 | .uX i=>Io.io i % 18446744073709551616
 | .umod i c=>(Io.io i % 18446744073709551616) % (c:Int)
 | .Qt i m=>m*Io.io i
 | .uY i p m=>(Io.io i / (p:Int)) % (m:Int)
 | .bits l=>(ka (l.map dm):Int)
 | .cl i l h=>fR l h (Io.io i)
 | .pr i l h j=>fR l h (Io.io i)+4294967296*Io.io j
 | .ad i j l h=>Io.io i+fR l h (Io.io j)
 | .Mr n=>n
 | .sm l=>(l.map Io.io).foldr (· + ·) 0
 | .ix l a o=>(l.getD (bm a+o).toNat 0:Nat)
 | .tm f k _ a oa b ob=>Q9 f k (bm a+oa) (bm b+ob)
structure G where
 m:Nat->Option (Nat×Nat)
 cT:Nat->Prop
def cM(w:World)(b:Nat):Nat:=match w.heap[b]? with
 |some (.cells c _ _)=>c.size
 | _=>0
def cO(w:World)(b o:Nat)(vs:List Value):Prop:= ∀ j v,vs[j]? =some v->w.cell? ⟨b,o+j,none⟩=some v
mutual
def VR(g:G)(w:World):AV->Value->Prop
 | .int k n,v=>v=.int k n
 | .bool b,v=>v=.bool b
 | .sc x,v=>v=x/\x.oneCell'=true
 | .agg cs,v=> ∃ vs,v=.agg vs/\bq g w cs vs.toList
 | .mD cs,v=> ∃ vs,v=.tuple vs/\bq g w cs vs.toList
 | .ref id off,v=> ∃ b s,g.m id=some (b,s)/\v=.pointer (some ⟨b,s+off,none⟩)
 | .cR id off n sz,v=>(n=0/\ ∃ a,v=.slice (some a) 0 0)∨
   ∃ b s cap,g.m id=some (b,s)/\v=.slice (some ⟨b,s+off,none⟩) n cap/\n<=cap/\s+off+cap*sz<=cM w b
 | .fg n cs,v=> ∃ a cap,v=.slice a n cap/\n<=cap/\
   ((n=0/\cs=[])∨ ∃ b o vs,a=some ⟨b,o,none⟩/\g.cT b/\cO w b o vs/\bq g w cs vs)
 | .eg cs,v=> ∃ b o vs,v=.pointer (some ⟨b,o,none⟩)/\g.cT b/\cO w b o vs/\bq g w cs vs
 | .cS,v=> ∃ a,v=.slice a 0 0
 | .iQ,v=> ∃ a,v=.slice (some a) 0 0
 | .fn f cap,v=> ∃ vs,v=.func (.func f) #[] vs/\bq g w cap vs.toList
 | .sym k s lo hi off,v=>v=.int k (bm s+off)/\lo<=bm s/\bm s<=hi
 | .any,v=>v.oneCell'=true
def bq(g:G)(w:World):List AV->List Value->Prop
 | [],l=>l=[]
 |a::r,l=> ∃ v l',l=v::l'/\VR g w a v/\bq g w r l'
end
def eT(g:G)(h:Hp)(b:Nat):Prop:= ∃ id cs s,h.aN.get id=some cs/\g.m id=some (b,s)
structure FT(C:Array Value) where
 el:TypeId
 fz:Nat×Nat
 YY:fz.1=fz.2∨C.size<=fz.1
omit [Io] in
theorem FT.ok{C:Array Value}(e:FT C): ∀ i,i<C.size-> ¬ (e.fz.1<=i/\i<e.fz.2):=fun i hi h=>by have:=e.YY;omega
def FT.nw(C:Array Value)(el:TypeId):FT C:=⟨el,(0,0),.inl rfl⟩
def FT.to{C C':Array Value}(e:FT C)(h:C'.size=C.size):FT C':=⟨e.el,e.fz,by have:=e.YY;omega⟩
def gz(g:G)(w:World):Prop:= ∀ p,p∈Io.tb->g.cT p.1/\cO w p.1 0 p.2
structure HR(g:G)(w:World)(h:Hp):Prop where
 fresh: ∀ id,h.next<=id->g.m id=none
 aN: ∀ id cs,h.aN.get id=some cs-> ∃ b s C,∃ el:FT C,∃ vs,g.m id=some (b,s)/\w.heap[b]? =some (.cells C el.el el.fz)/\ ¬ g.cT b/\bq g w cs.toL vs/\(∀ j v,vs[j]? =some v->C[s+j]? =some v)
 inj: ∀ id nU b s s' cs cs',h.aN.get id=some cs->h.aN.get nU=some cs'->g.m id=some (b,s)->g.m nU=some (b,s')->id=nU
 cT: ∀ b,g.cT b->b<w.heap.size
 tb:gz g w
structure HC(g:G)(w:World)(h:Hp):Prop where
 aN: ∀ id cs,h.aN.get id=some cs-> ∃ b s C,∃ el:FT C,∃ vs,g.m id=some (b,s)/\w.heap[b]? =some (.cells C el.el el.fz)/\ ¬ g.cT b/\bq g w cs.toL vs/\(∀ j v,vs[j]? =some v->C[s+j]? =some v)
 cT: ∀ b,g.cT b->b<w.heap.size
theorem HR.toHC{g w h}(H:HR g w h):HC g w h:=⟨H.aN,H.cT⟩
structure Ext(g:G)(w:World)(h:Hp)(g':G)(w':World)(h':Hp):Prop where
 os:w'.os=w.os
 tape:w'.tape=w.tape
 output:w'.output=w.output
 size:w.heap.size<=w'.heap.size
 next:h.next<=h'.next
 m: ∀ id x,g.m id=some x->g'.m id=some x
 j2: ∀ b,b<w.heap.size-> ¬ eT g h b->w'.heap[b]? =w.heap[b]?
 rows: ∀ b,cM w b<=cM w' b
 cT: ∀ b,g.cT b->g'.cT b
 A7: ∀ b,g'.cT b->g.cT b∨eT g h b∨w.heap.size<=b
 jg: ∀ b,eT g' h' b->eT g h b∨w.heap.size<=b
omit [Io] in
theorem Ext.refl(g:G)(w:World)(h:Hp):Ext g w h g w h:=
 ⟨rfl,rfl,rfl,Nat.le_refl _,Nat.le_refl _,fun _ _ e=>e,fun _ _ _=>rfl,fun _=>Nat.le_refl _,fun _ i=>i,fun _ i=>.inl i,fun _ o=>.inl o⟩
omit [Io] in
theorem Ext.trans{g w h g1 w1 h1 g2 w2 h2}(a:Ext g w h g1 w1 h1)(b:Ext g1 w1 h1 g2 w2 h2):Ext g w h g2 w2 h2 where
 os:=b.os.trans a.os
 tape:=b.tape.trans a.tape
 output:=b.output.trans a.output
 size:=Nat.le_trans a.size b.size
 next:=Nat.le_trans a.next b.next
 m:=fun id x e=>b.m id x (a.m id x e)
 j2:=fun k hk ho=>(b.j2 k (Nat.lt_of_lt_of_le hk a.size) (fun o=>(a.jg k o).elim ho (fun e=>absurd hk (Nat.not_lt.2 e)))).trans (a.j2 k hk ho)
 rows:=fun k=>Nat.le_trans (a.rows k) (b.rows k)
 cT:=fun k i=>b.cT k (a.cT k i)
 A7:=fun k i=>by
  rcases b.A7 k i with i|o|l
  ·exact a.A7 k i
  ·rcases a.jg k o with o|l
   ·exact .inr (.inl o)
   ·exact .inr (.inr l)
  ·exact .inr (.inr (Nat.le_trans a.size l))
 jg:=fun k o=>by
  rcases b.jg k o with o|l
  ·exact a.jg k o
  ·exact .inr (Nat.le_trans a.size l)
theorem HC.gX{g w h}(H:HC g w h){b:Nat}(i:g.cT b): ¬ eT g h b:=by
 rintro⟨id,cs,s,hg,hm⟩
 obtain⟨b',s',C,el,vs,yZ,_,hi,_⟩:=H.aN id cs hg
 rw[hm]at yZ
 obtain⟨rfl,rfl⟩:=Prod.mk.inj (Option.some.inj yZ)
 exact hi i
theorem HR.gX{g w h}(H:HR g w h){b:Nat}(i:g.cT b): ¬ eT g h b:=H.toHC.gX i
structure jh(g:G)(w:World)(g':G)(w':World):Prop where
 m: ∀ id x,g.m id=some x->g'.m id=some x
 cT: ∀ b,g.cT b->g'.cT b
 keep: ∀ b,g.cT b->w'.heap[b]? =w.heap[b]?
 rows: ∀ b,cM w b<=cM w' b
theorem Ext.mono{g w h g' w' h'}(H:HC g w h)(E:Ext g w h g' w' h'):jh g w g' w':=
 ⟨E.m,E.cT,fun b i=>E.j2 b (H.cT b i) (H.gX i),E.rows⟩
omit [Io] in
theorem cO.keep{w w':World}{b o vs}(h:w'.heap[b]? =w.heap[b]?)(c:cO w b o vs):cO w' b o vs:=by
 intro j v hj
 have:=c j v hj
 unfold World.cell? at this ⊢
 rw[h]
 exact this
theorem gz.mono{g w g' w'}(E:jh g w g' w')(t:gz g w):gz g' w':=fun p hp=>⟨E.cT _ (t p hp).1,cO.keep (E.keep _ (t p hp).1) (t p hp).2⟩
theorem gz.ext{g w h g' w' h'}(H:HR g w h)(E:Ext g w h g' w' h'):gz g' w':=gz.mono (E.mono H.toHC) H.tb
mutual
theorem VR.dA{g w g' w'}(E:jh g w g' w'): ∀ (a:AV) (v:Value),VR g w a v->VR g' w' a v
 | .int _ _,v,r=>by simpa only[VR]using r
 | .bool _,v,r=>by simpa only[VR]using r
 | .sc _,v,r=>by simpa only[VR]using r
 | .cS,v,r=>by simpa only[VR]using r
 | .iQ,v,r=>by simpa only[VR]using r
 | .sym _ _ _ _ _,v,r=>by simpa only[VR]using r
 | .any,v,r=>by simpa only[VR]using r
 | .agg cs,v,r=>by
  simp only[VR]at r ⊢
  obtain⟨vs,e,q⟩:=r
  exact⟨vs,e,bq.dA E cs _ q⟩
 | .mD cs,v,r=>by
  simp only[VR]at r ⊢
  obtain⟨vs,e,q⟩:=r
  exact⟨vs,e,bq.dA E cs _ q⟩
 | .fn f cs,v,r=>by
  simp only[VR]at r ⊢
  obtain⟨vs,e,q⟩:=r
  exact⟨vs,e,bq.dA E cs _ q⟩
 | .ref id off,v,r=>by
  simp only[VR]at r ⊢
  obtain⟨b,s,e,q⟩:=r
  exact⟨b,s,E.m _ _ e,q⟩
 | .cR id off n sz,v,r=>by
  simp only[VR]at r ⊢
  rcases r with r|⟨b,s,cap,e,q,l,z⟩
  ·exact .inl r
  ·exact .inr ⟨b,s,cap,E.m _ _ e,q,l,Nat.le_trans z (E.rows b)⟩
 | .fg n cs,v,r=>by
  simp only[VR]at r ⊢
  obtain⟨a,cap,e,l,r⟩:=r
  refine⟨a,cap,e,l,?_⟩
  rcases r with r|⟨b,o,vs,e,i,c,q⟩
  ·exact .inl r
  ·exact .inr ⟨b,o,vs,e,E.cT b i,c.keep (E.keep b i),bq.dA E cs _ q⟩
 | .eg cs,v,r=>by
  simp only[VR]at r ⊢
  obtain⟨b,o,vs,e,i,c,q⟩:=r
  exact⟨b,o,vs,e,E.cT b i,c.keep (E.keep b i),bq.dA E cs _ q⟩
theorem bq.dA{g w g' w'}(E:jh g w g' w'): ∀ (l:List AV) (vs:List Value),bq g w l vs->bq g' w' l vs
 | [],vs,r=>by simpa only[bq]using r
 |a::l,vs,r=>by
  simp only[bq]at r ⊢
  obtain⟨v,l',e,q,r⟩:=r
  exact⟨v,l',e,VR.dA E a v q,bq.dA E l l' r⟩
end
theorem VR.mono{g w h g' w' h'}(H:HR g w h)(E:Ext g w h g' w' h')(a:AV)(v:Value)(r:VR g w a v):VR g' w' a v:=VR.dA (E.mono H.toHC) a v r
theorem bq.mono{g w h g' w' h'}(H:HR g w h)(E:Ext g w h g' w' h')(l:List AV)(vs:List Value)(r:bq g w l vs):bq g' w' l vs:=bq.dA (E.mono H.toHC) l vs r
omit [Io] in
theorem Tr.get_nil{α:Type}(n:Nat):(Tr.nil:Tr α).get n=none:=rfl
omit [Io] in
theorem Tr.ko{α:Type}(l r:Tr α)(v:Option α)(n:Nat):
 (Tr.node l v r).get n=if n=0 then v else if n % 2=1 then l.get (n / 2)else r.get (n / 2 - 1):=by
 show ej (Nat.beq n 0) v (ej (Nat.beq (Nat.mod n 2) 1) (l.get (Nat.div n 2)) (r.get (Nat.sub (Nat.div n 2) 1)))=_
 by_cases h:n=0
 ·subst h;rfl
 ·rw[if_neg h,show Nat.beq n 0=false from by cases n with|zero=>exact absurd rfl h|succ n=>rfl]
  by_cases h2:n % 2=1
  ·rw[if_pos h2,show Nat.beq (Nat.mod n 2) 1=true from by rw[show Nat.mod n 2=1 from h2];rfl];rfl
  ·rw[if_neg h2,show Nat.beq (Nat.mod n 2) 1=false from by rw[show Nat.mod n 2=0 from by show n % 2=0;omega];rfl];rfl
omit [Io] in
theorem Tr.get_eq{α:Type}(t:Tr α)(n:Nat):
 t.get n=if n=0 then t.hd else if n % 2=1 then t.lf.get (n / 2)else t.rt.get (n / 2 - 1):=by
 cases t with
 |nil=>simp[Tr.get_nil,Tr.hd,Tr.lf,Tr.rt]
 |node l v r=>rw[Tr.ko];rfl
omit [Io] in
theorem Tr.A8{α:Type}(f:Nat)(t:Tr α)(n:Nat)(x:Option α):
 Tr.xC (f+1) t n x=if n=0 then .node t.lf x t.rt else if n % 2=1 then .node (Tr.xC f t.lf (n / 2) x) t.hd t.rt
  else .node t.lf t.hd (Tr.xC f t.rt (n / 2 - 1) x):=by
 show ej (Nat.beq n 0) (Tr.node t.lf x t.rt) (ej (Nat.beq (Nat.mod n 2) 1) (Tr.node (Tr.xC f t.lf (Nat.div n 2) x) t.hd t.rt)
  (Tr.node t.lf t.hd (Tr.xC f t.rt (Nat.sub (Nat.div n 2) 1) x)))=_
 by_cases h:n=0
 ·subst h;rfl
 ·rw[if_neg h,show Nat.beq n 0=false from by cases n with|zero=>exact absurd rfl h|succ n=>rfl]
  by_cases h2:n % 2=1
  ·rw[if_pos h2,show Nat.beq (Nat.mod n 2) 1=true from by rw[show Nat.mod n 2=1 from h2];rfl];rfl
  ·rw[if_neg h2,show Nat.beq (Nat.mod n 2) 1=false from by rw[show Nat.mod n 2=0 from by show n % 2=0;omega];rfl];rfl
omit [Io] in
theorem Tr.Cw{α:Type}(f:Nat): ∀ (t:Tr α) (n:Nat) (x:Option α) (k:Nat),n<f->(Tr.xC f t n x).get k=if k=n then x else t.get k:=by
 induction f with
 |zero=>intro t n x k h;omega
 |succ f ih=>
  intro t n x k h
  rw[Tr.A8]
  by_cases h0:n=0
  ·subst h0
   rw[if_pos rfl,Tr.ko,Tr.get_eq t]
   by_cases hk:k=0
   ·simp[hk]
   ·simp[hk]
  ·rw[if_neg h0]
   by_cases h1:n % 2=1
   ·rw[if_pos h1,Tr.ko,Tr.get_eq t k]
    by_cases hk:k=0
    ·subst hk;simp;intro e;omega
    ·simp only[hk,if_false]
     by_cases Q':k % 2=1
     ·simp only[Q',if_true]
      rw[ih _ _ _ _ (by omega)]
      by_cases e:k=n
      ·subst e;simp
      ·rw[if_neg e,if_neg (by omega)]
     ·simp only[Q',if_false]
      rw[if_neg (by intro e;subst e;omega)]
   ·rw[if_neg h1,Tr.ko,Tr.get_eq t k]
    by_cases hk:k=0
    ·subst hk;simp;intro e;omega
    ·simp only[hk,if_false]
     by_cases Q':k % 2=1
     ·simp only[Q',if_true]
      rw[if_neg (by intro e;subst e;omega)]
     ·simp only[Q',if_false]
      rw[ih _ _ _ _ (by omega)]
      by_cases e:k=n
      ·subst e;simp
      ·rw[if_neg e,if_neg (by omega)]
omit [Io] in
theorem Tr.eO{α:Type}(t:Tr α)(n:Nat)(x:Option α)(k:Nat):(t.set n x).get k=if k=n then x else t.get k:=
 Tr.Cw _ t n x k (Nat.lt_succ_self n)
omit [Io] in
theorem F8.lg{α:Type}(f:F8 α)(x:α)(i j:Nat)(hi:i<8)(hj:j<8):(f.xr x i).xq j=if j=i then x else f.xq j:=by
 rcases(by omega:i=0∨i=1∨i=2∨i=3∨i=4∨i=5∨i=6∨i=7)with rfl|rfl|rfl|rfl|rfl|rfl|rfl|rfl<;>
 rcases(by omega:j=0∨j=1∨j=2∨j=3∨j=4∨j=5∨j=6∨j=7)with rfl|rfl|rfl|rfl|rfl|rfl|rfl|rfl<;>rfl
omit [Io] in
theorem Tm.fj(t:Tm)(i j:Nat)(x:Option AV)(hi:i<512)(hj:j<512):(t.put i x).at j=if j=i then x else t.at j:=by
 unfold Tm.put Tm.at
 rw[F8.lg _ _ _ _ (by omega) (by omega)]
 by_cases h1:j / 64=i / 64
 ·rw[if_pos h1,F8.lg _ _ _ _ (by omega) (by omega)]
  by_cases h2:j / 8 % 8=i / 8 % 8
  ·rw[if_pos h2,F8.lg _ _ _ _ (by omega) (by omega)]
   by_cases h3:j % 8=i % 8
   ·rw[if_pos h3,if_pos (by omega)]
   ·rw[if_neg h3,if_neg (by intro e;subst e;exact h3 rfl),h1,h2]
  ·rw[if_neg h2,if_neg (by intro e;subst e;exact h2 rfl),h1]
 ·rw[if_neg h1,if_neg (by intro e;subst e;exact h1 rfl)]
omit [Io] in
theorem Tm.py(j:Nat)(hj:j<512):Tm.none.at j=Option.none:=by
 unfold Tm.none Tm.at
 rcases(by omega:j / 64=0∨j / 64=1∨j / 64=2∨j / 64=3∨j / 64=4∨j / 64=5∨j / 64=6∨j / 64=7)with h|h|h|h|h|h|h|h<;>rw[h]<;>
 rcases(by omega:j / 8 % 8=0∨j / 8 % 8=1∨j / 8 % 8=2∨j / 8 % 8=3∨j / 8 % 8=4∨j / 8 % 8=5∨j / 8 % 8=6∨j / 8 % 8=7)with h|h|h|h|h|h|h|h<;>rw[h]<;>
 rcases(by omega:j % 8=0∨j % 8=1∨j % 8=2∨j % 8=3∨j % 8=4∨j % 8=5∨j % 8=6∨j % 8=7)with h|h|h|h|h|h|h|h<;>rw[h]<;>rfl
def TR(g:G)(w:World)(nt:Nat)(t:Tm)(tmps:Array Value):Prop:=
 nt<=512/\tmps.size=nt/\ ∀ i v,i<512->t.at i=some v->i<nt/\VR g w v (tmps.getD i undef)
theorem TR.mono{g w h g' w' h' nt t tmps}(H:HR g w h)(E:Ext g w h g' w' h')(r:TR g w nt t tmps):TR g' w' nt t tmps:=
 ⟨r.1,r.2.1,fun i v hi e=>⟨(r.2.2 i v hi e).1,VR.mono H E _ _ (r.2.2 i v hi e).2⟩⟩
theorem TR.put{g w nt t tmps}(r:TR g w nt t tmps){d:Nat}(hd:d<nt){a:AV}{v:Value}(hv:VR g w a v):
 TR g w nt (t.put d (some a)) (tmps.setIfInBounds d v):=by
 obtain⟨h1,h2,h3⟩:=r
 refine⟨h1,by simpa using h2,fun i x hi e=>?_⟩
 rw[Tm.fj _ _ _ _ (by omega) hi]at e
 by_cases eC:i=d
 ·subst eC
  rw[if_pos rfl]at e
  obtain rfl:=Option.some.inj e
  refine⟨hd,?_⟩
  rw[Array.getD_eq_getD_getElem?,Array.getElem?_setIfInBounds_self_of_lt (by omega)]
  exact hv
 ·rw[if_neg eC]at e
  refine⟨(h3 i x hi e).1,?_⟩
  have:=(h3 i x hi e).2
  rw[Array.getD_eq_getD_getElem?]at this ⊢
  rw[Array.getElem?_setIfInBounds_ne (by omega)]
  exact this
end Go.Ab
