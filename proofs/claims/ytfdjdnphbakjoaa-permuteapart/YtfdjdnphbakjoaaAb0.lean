import Derived.Calls
import Derived.Laws.Sem
namespace Go.Ab

/-- The test that the kernel takes in one step. -/
noncomputable def ifb {α : Type} (c : Bool) (a b : α) : α := Bool.rec b a c

/-- A tree of things by numbers. -/
inductive Tr (α : Type) where
  | nil
  | node (l : Tr α) (v : Option α) (r : Tr α)

noncomputable def Tr.get {α : Type} (t : Tr α) : Nat → Option α :=
  Tr.rec (fun _ => none) (fun _ v _ gl gr n => Bool.rec (Bool.rec (gr (Nat.sub (Nat.div n 2) 1)) (gl (Nat.div n 2)) (Nat.beq (Nat.mod n 2) 1)) v (Nat.beq n 0)) t
noncomputable def Tr.lf {α : Type} (t : Tr α) : Tr α := Tr.rec .nil (fun l _ _ _ _ => l) t
noncomputable def Tr.rt {α : Type} (t : Tr α) : Tr α := Tr.rec .nil (fun _ _ r _ _ => r) t
noncomputable def Tr.hd {α : Type} (t : Tr α) : Option α := Tr.rec none (fun _ v _ _ _ => v) t
noncomputable def Tr.setF {α : Type} (f : Nat) : Tr α → Nat → Option α → Tr α :=
  Nat.rec (fun t _ _ => t) (fun _ go t n x =>
    Bool.rec (Bool.rec (.node t.lf t.hd (go t.rt (Nat.sub (Nat.div n 2) 1) x)) (.node (go t.lf (Nat.div n 2) x) t.hd t.rt) (Nat.beq (Nat.mod n 2) 1))
      (.node t.lf x t.rt) (Nat.beq n 0)) f
noncomputable def Tr.set {α : Type} (t : Tr α) (n : Nat) (x : Option α) : Tr α := Tr.setF (Nat.succ n) t n x

/-- Eight things. -/
structure F8 (α : Type) where
  a0 : α
  a1 : α
  a2 : α
  a3 : α
  a4 : α
  a5 : α
  a6 : α
  a7 : α

def F8.sel {α : Type} (f : F8 α) : Nat → α
  | 0 => f.a0 | 1 => f.a1 | 2 => f.a2 | 3 => f.a3 | 4 => f.a4 | 5 => f.a5 | 6 => f.a6 | _ => f.a7
def F8.upd {α : Type} (f : F8 α) (x : α) : Nat → F8 α
  | 0 => ⟨x, f.a1, f.a2, f.a3, f.a4, f.a5, f.a6, f.a7⟩
  | 1 => ⟨f.a0, x, f.a2, f.a3, f.a4, f.a5, f.a6, f.a7⟩
  | 2 => ⟨f.a0, f.a1, x, f.a3, f.a4, f.a5, f.a6, f.a7⟩
  | 3 => ⟨f.a0, f.a1, f.a2, x, f.a4, f.a5, f.a6, f.a7⟩
  | 4 => ⟨f.a0, f.a1, f.a2, f.a3, x, f.a5, f.a6, f.a7⟩
  | 5 => ⟨f.a0, f.a1, f.a2, f.a3, f.a4, x, f.a6, f.a7⟩
  | 6 => ⟨f.a0, f.a1, f.a2, f.a3, f.a4, f.a5, x, f.a7⟩
  | _ => ⟨f.a0, f.a1, f.a2, f.a3, f.a4, f.a5, f.a6, x⟩
def F8.all {α : Type} (x : α) : F8 α := ⟨x, x, x, x, x, x, x, x⟩

/-- A number that is not known: the i-th; it as a number without sign; the rest of that by c. -/
inductive SV where
  | var (i : Nat)
  | uvar (i : Nat)
  | umod (i c : Nat)

inductive AV where
  | int (k : IntKind) (n : Int)
  | bool (b : Bool)
  | sc (v : Value)
  | agg (cs : List AV)
  | tup (vs : List AV)
  | ref (id off : Nat)
  | hsl (id off len sz : Nat)
  | isl (len : Nat) (cs : List AV)
  | iptr (cs : List AV)
  | esl
  | fn (f : FuncId) (cap : List AV)
  | sym (k : IntKind) (s : SV) (lo hi off : Int)
  | any
  deriving Inhabited

/-- A frame: 512 places. -/
abbrev Tm := F8 (F8 (F8 (Option AV)))
def Tm.at (t : Tm) (i : Nat) : Option AV := ((t.sel (i / 64)).sel (i / 8 % 8)).sel (i % 8)
def Tm.put (t : Tm) (i : Nat) (v : Option AV) : Tm := t.upd ((t.sel (i / 64)).upd (((t.sel (i / 64)).sel (i / 8 % 8)).upd v (i % 8)) (i / 8 % 8)) (i / 64)
def Tm.none : Tm := F8.all (F8.all (F8.all Option.none))

structure Hp where
  next : Nat
  objs : Tr (List AV)

/-- What an operation comes to. -/
inductive Ro where
  | bad
  | ok (v : AV) (h : Hp)

inductive Rt where
  | bad
  | ok (t : Tm) (h : Hp)

inductive Rc where
  | bad
  | norm (t : Tm) (h : Hp)
  | ret (t : Tm) (h : Hp)
  | exit (i : Nat) (t : Tm) (h : Hp)

abbrev Opd := Tm → Option AV
abbrev OpF := Tm → Hp → Ro
abbrev RgF := Tm → Hp → Rt
abbrev CdF := Tm → Hp → Rc
abbrev CallF := FuncId → List AV → Hp → Ro

-- lists, by their recursor: the kernel goes through these several times as fast
noncomputable def app {α : Type} (l r : List α) : List α := List.rec r (fun a _ ih => a :: ih) l
noncomputable def len {α : Type} (l : List α) : Nat := List.rec (fun n => n) (fun _ _ ih n => ih (Nat.add n 1)) l (0 : Nat)
noncomputable def tk {α : Type} (n : Nat) (l : List α) : List α :=
  List.rec (fun _ => []) (fun a _ ih n => Bool.rec (a :: ih (Nat.sub n 1)) [] (Nat.beq n 0)) l n
noncomputable def dp {α : Type} (n : Nat) (l : List α) : List α :=
  List.rec (fun _ => []) (fun a r ih n => Bool.rec (ih (Nat.sub n 1)) (a :: r) (Nat.beq n 0)) l n
noncomputable def getN {α : Type} (l : List α) (n : Nat) : Option α :=
  List.rec (fun _ => none) (fun a _ ih n => Bool.rec (ih (Nat.sub n 1)) (some a) (Nat.beq n 0)) l n
noncomputable def allB {α : Type} (p : α → Bool) (l : List α) : Bool := List.rec true (fun a _ ih => bif p a then ih else false) l

def leaf : Value → Option AV
  | .int k n => some (.int k n)
  | .bool b => some (.bool b)
  | .string s => some (.sc (.string s))
  | .pointer none => some (.sc (.pointer none))
  | .slice none 0 0 => some .esl
  | .map none => some (.sc (.map none))
  | .nilFunc => some (.sc .nilFunc)
  | .nilIface => some (.sc .nilIface)
  | _ => none

noncomputable def leaves (l : List Value) : Option (List AV) :=
  List.rec (some []) (fun v _ ih => match leaf v with
    | some a => match ih with
      | some r => some (a :: r)
      | none => none
    | none => none) l

noncomputable def ofV : Value → Option AV
  | .agg cs => match leaves cs.toList with | some l => some (.agg l) | none => none
  | .tuple cs => match leaves cs.toList with | some l => some (.tup l) | none => none
  | v => leaf v

def AV.cells : AV → List AV
  | .agg cs => cs
  | v => [v]

def cell1 : AV → Bool
  | .agg _ | .tup _ => false
  | _ => true

def undefA : AV := .tup []

-- operands
def oT (i : Nat) : Opd := fun t => Tm.at t i
abbrev SetF := AV → Tm → Tm
def sT (i : Nat) : SetF := fun v t => Tm.put t i (some v)
def oC (v : AV) : Opd := fun _ => some v
def oX : Opd := fun _ => none

noncomputable def opds (l : List Opd) (t : Tm) : Option (List AV) :=
  List.rec (some []) (fun o _ ih => Option.rec none (fun v => Option.rec none (fun vs => some (v :: vs)) ih) (o t)) l

noncomputable def newO (h : Hp) (cs : List AV) : Hp := ⟨Nat.add h.next 1, h.objs.set h.next (some cs)⟩
noncomputable def setO (h : Hp) (id : Nat) (cs : Option (List AV)) : Hp := ⟨h.next, h.objs.set id cs⟩

def wrapF (k : IntKind) (n : Int) : Int :=
  match k with
  | .u8 => Int.emod n 256 | .u16 => Int.emod n 65536 | .u32 => Int.emod n 4294967296 | .u64 => Int.emod n 18446744073709551616
  | .i8 => Int.sub (Int.emod (Int.add n 128) 256) 128 | .i16 => Int.sub (Int.emod (Int.add n 32768) 65536) 32768
  | .i32 => Int.sub (Int.emod (Int.add n 2147483648) 4294967296) 2147483648
  | .i64 => Int.sub (Int.emod (Int.add n 9223372036854775808) 18446744073709551616) 9223372036854775808

def eqK : IntKind → IntKind → Bool
  | .i8, .i8 | .i16, .i16 | .i32, .i32 | .i64, .i64 | .u8, .u8 | .u16, .u16 | .u32, .u32 | .u64, .u64 => true
  | _, _ => false

def ltI : Int → Int → Bool
  | .ofNat a, .ofNat b => Nat.blt a b
  | .ofNat _, .negSucc _ => false
  | .negSucc _, .ofNat _ => true
  | .negSucc a, .negSucc b => Nat.blt b a

def eqI : Int → Int → Bool
  | .ofNat a, .ofNat b => Nat.beq a b
  | .negSucc a, .negSucc b => Nat.beq a b
  | _, _ => false

def pureRun (s : Sem Value) : Option Value :=
  match s with
  | .pure v => some v
  | _ => none

noncomputable def bInt (f : IntKind → Int → Int → Option AV) (x y : AV) : Option AV :=
  match x, y with
  | .int k a, .int k' b => bif eqK k k' then f k a b else none
  | _, _ => none

noncomputable def bAdd : AV → AV → Option AV := bInt fun k a b => some (.int k (wrapF k (Int.add a b)))
noncomputable def bSub : AV → AV → Option AV := bInt fun k a b => some (.int k (wrapF k (Int.sub a b)))
noncomputable def bMul : AV → AV → Option AV := bInt fun k a b => some (.int k (wrapF k (Int.mul a b)))
noncomputable def bQuo : AV → AV → Option AV := bInt fun k a b => bif eqI b 0 then none else some (.int k (wrapF k (Int.tdiv a b)))
noncomputable def bRem : AV → AV → Option AV := bInt fun k a b => bif eqI b 0 then none else some (.int k (Int.tmod a b))
noncomputable def bLss : AV → AV → Option AV := bInt fun _ a b => some (.bool (ltI a b))
noncomputable def bLeq : AV → AV → Option AV := bInt fun _ a b => some (.bool (!(ltI b a)))
noncomputable def bGtr : AV → AV → Option AV := bInt fun _ a b => some (.bool (ltI b a))
noncomputable def bGeq : AV → AV → Option AV := bInt fun _ a b => some (.bool (!(ltI a b)))

def lim : IntKind → Nat
  | .i8 => 128 | .i16 => 32768 | .i32 => 2147483648 | .i64 => 9223372036854775808
  | .u8 => 256 | .u16 => 65536 | .u32 => 4294967296 | .u64 => 18446744073709551616
def bitsF : IntKind → Nat
  | .i8 | .u8 => 8 | .i16 | .u16 => 16 | .i32 | .u32 => 32 | .i64 | .u64 => 64

noncomputable def ofRun (s : Option Value) : Option AV := match s with
  | some v => ofV v
  | none => none

/-- Bits of two numbers. -/
noncomputable def bBits (op : BinOp) (f : Nat → Nat → Nat) : AV → AV → Option AV := bInt fun k a b =>
  match a, b with
  | .ofNat a, .ofNat b => bif Nat.blt a (lim k) && Nat.blt b (lim k) then some (.int k (.ofNat (f a b))) else ofRun (pureRun (Op.intBits op k (.ofNat a) (.ofNat b)))
  | a, b => ofRun (pureRun (Op.intBits op k a b))
noncomputable def bAnd : AV → AV → Option AV := bBits .and Nat.land
noncomputable def bOr : AV → AV → Option AV := bBits .or Nat.lor
noncomputable def bXor : AV → AV → Option AV := bBits .xor Nat.xor
noncomputable def bAndNot : AV → AV → Option AV := bInt fun k a b => ofRun (pureRun (Op.intBits .andNot k a b))

def minN (a b : Nat) : Nat := bif Nat.ble a b then a else b
noncomputable def bShl (x y : AV) : Option AV :=
  match x, y with
  | .int k a, .int _ (.ofNat n) => some (.int k (wrapF k (Int.mul a (.ofNat (Nat.pow 2 (minN n (bitsF k)))))))
  | _, _ => none
noncomputable def bShr (x y : AV) : Option AV :=
  match x, y with
  | .int k a, .int _ (.ofNat n) => some (.int k (Int.fdiv a (.ofNat (Nat.pow 2 (minN n (bitsF k))))))
  | _, _ => none

def eqStr (a b : ByteArray) : Bool := a.toList == b.toList

noncomputable def bEqI (neg : Bool) : AV → AV → Option AV := bInt fun _ a b => some (.bool (bif neg then !(eqI a b) else eqI a b))
def bEqB (neg : Bool) (x y : AV) : Option AV :=
  match x, y with
  | .bool a, .bool b => some (.bool (bif neg then xor a b else !(xor a b)))
  | _, _ => none
def bEqS (neg : Bool) (x y : AV) : Option AV :=
  match x, y with
  | .sc (.string a), .sc (.string b) => some (.bool (bif neg then !(eqStr a b) else eqStr a b))
  | _, _ => none
def bEqP (neg : Bool) (x y : AV) : Option AV :=
  match x, y with
  | .ref _ _, .sc (.pointer none) | .iptr _, .sc (.pointer none) | .sc (.pointer none), .ref _ _ | .sc (.pointer none), .iptr _ => some (.bool neg)
  | .sc (.pointer none), .sc (.pointer none) => some (.bool (!neg))
  | _, _ => none

-- numbers that are not known, between bounds
def loK : IntKind → Int
  | .i8 => -128 | .i16 => -32768 | .i32 => -2147483648 | .i64 => -9223372036854775808 | _ => 0
def hiK : IntKind → Int
  | .i8 => 127 | .i16 => 32767 | .i32 => 2147483647 | .i64 => 9223372036854775807
  | .u8 => 255 | .u16 => 65535 | .u32 => 4294967295 | .u64 => 18446744073709551615
def modK : IntKind → Int
  | .i8 | .u8 => 256 | .i16 | .u16 => 65536 | .i32 | .u32 => 4294967296 | .i64 | .u64 => 18446744073709551616
def eqSV : SV → SV → Bool
  | .var i, .var j => Nat.beq i j
  | .uvar i, .uvar j => Nat.beq i j
  | .umod i c, .umod j d => Nat.beq i j && Nat.beq c d
  | _, _ => false
noncomputable def fitK (k : IntKind) (lo hi off : Int) : Bool := !(ltI (Int.add lo off) (loK k)) && !(ltI (hiK k) (Int.add hi off))
noncomputable def symK (k : IntKind) (s : SV) (lo hi off : Int) : Option AV :=
  bif fitK k lo hi off then some (.sym k s lo hi off) else
  bif fitK k lo hi (Int.add off (modK k)) then some (.sym k s lo hi (Int.add off (modK k))) else
  bif fitK k lo hi (Int.sub off (modK k)) then some (.sym k s lo hi (Int.sub off (modK k))) else none
noncomputable def sAdd (x y : AV) : Option AV := match x, y with
  | .sym k s lo hi o, .int k' c => bif eqK k k' then symK k s lo hi (Int.add o c) else none
  | .int k' c, .sym k s lo hi o => bif eqK k k' then symK k s lo hi (Int.add o c) else none
  | _, _ => none
noncomputable def sSub (x y : AV) : Option AV := match x, y with
  | .sym k s lo hi o, .int k' c => bif eqK k k' then symK k s lo hi (Int.sub o c) else none
  | .sym k s _ _ o, .sym k' s' _ _ o' => bif eqK k k' && eqSV s s' then some (.int k (wrapF k (Int.sub o o'))) else none
  | _, _ => none
/-- Whether x is less than y, where the bounds tell. -/
noncomputable def ltS (x y : AV) : Option Bool := match x, y with
  | .sym k _ lo hi o, .int k' c => bif eqK k k' then (bif ltI (Int.add hi o) c then some true else bif ltI (Int.add lo o) c then none else some false) else none
  | .int k' c, .sym k _ lo hi o => bif eqK k k' then (bif ltI c (Int.add lo o) then some true else bif ltI c (Int.add hi o) then none else some false) else none
  | .sym k s _ _ o, .sym k' s' _ _ o' => bif eqK k k' && eqSV s s' then some (ltI o o') else none
  | _, _ => none
noncomputable def eqS (x y : AV) : Option Bool := match x, y with
  | .sym k _ lo hi o, .int k' c => bif eqK k k' then (bif ltI c (Int.add lo o) || ltI (Int.add hi o) c then some false else bif eqI (Int.add lo o) c && eqI (Int.add hi o) c then some true else none) else none
  | .int k' c, .sym k _ lo hi o => bif eqK k k' then (bif ltI c (Int.add lo o) || ltI (Int.add hi o) c then some false else bif eqI (Int.add lo o) c && eqI (Int.add hi o) c then some true else none) else none
  | .sym k s _ _ o, .sym k' s' _ _ o' => bif eqK k k' && eqSV s s' then some (eqI o o') else none
  | _, _ => none
noncomputable def sLss (x y : AV) : Option AV := Option.rec none (fun b => some (.bool b)) (ltS x y)
noncomputable def sGtr (x y : AV) : Option AV := Option.rec none (fun b => some (.bool b)) (ltS y x)
noncomputable def sLeq (x y : AV) : Option AV := Option.rec none (fun b => some (.bool (!b))) (ltS y x)
noncomputable def sGeq (x y : AV) : Option AV := Option.rec none (fun b => some (.bool (!b))) (ltS x y)
noncomputable def sEq (neg : Bool) (x y : AV) : Option AV := Option.rec none (fun b => some (.bool (bif neg then !b else b))) (eqS x y)
noncomputable def sRem (x y : AV) : Option AV := match x, y with
  | .sym .u64 (.uvar i) _ _ 0, .int .u64 (.ofNat c) => bif Nat.blt 0 c then some (.sym .u64 (.umod i c) 0 (Int.sub (.ofNat c) 1) 0) else none
  | _, _ => none
noncomputable def sInt (k : IntKind) (x : AV) : Option AV := match x with
  | .sym k' s lo hi o => bif fitK k lo hi o then some (.sym k s lo hi o) else
    match k, k', s, o with
    | .u64, .i64, .var i, 0 => some (.sym .u64 (.uvar i) 0 18446744073709551615 0)
    | _, _, _, _ => none
  | _ => none
noncomputable def orS (f s : AV → AV → Option AV) : AV → AV → Option AV := fun x y => Option.rec (s x y) (fun v => some v) (f x y)
noncomputable def orS1 (f s : AV → Option AV) : AV → Option AV := fun x => Option.rec (s x) (fun v => some v) (f x)
noncomputable def bAddS : AV → AV → Option AV := orS bAdd sAdd
noncomputable def bSubS : AV → AV → Option AV := orS bSub sSub
noncomputable def bRemS : AV → AV → Option AV := orS bRem sRem
noncomputable def bLssS : AV → AV → Option AV := orS bLss sLss
noncomputable def bLeqS : AV → AV → Option AV := orS bLeq sLeq
noncomputable def bGtrS : AV → AV → Option AV := orS bGtr sGtr
noncomputable def bGeqS : AV → AV → Option AV := orS bGeq sGeq
noncomputable def bEqIS (neg : Bool) : AV → AV → Option AV := orS (bEqI neg) (sEq neg)

-- structs of numbers and bools, cell by cell
noncomputable def eq1 (i : Bool) (x y : AV) : Option Bool := bif i then
    (match x, y with
    | .int k a, .int k' b => bif eqK k k' then some (eqI a b) else none
    | _, _ => eqS x y) else
    (match x, y with
    | .bool a, .bool b => some (!(xor a b))
    | _, _ => none)
noncomputable def eqCs (l : List Bool) : List AV → List AV → Option Bool :=
  List.rec (fun _ _ => some true) (fun i _ ih xs ys => match xs with
    | [] => none
    | x :: xs => match ys with
      | [] => none
      | y :: ys => match eq1 i x y with
        | none => none
        | some c => Bool.rec (some false) (ih xs ys) c) l
noncomputable def bEqA (neg : Bool) (l : List Bool) (x y : AV) : Option AV := match x with
  | .agg xs => match y with
    | .agg ys => match eqCs l xs ys with
      | some c => some (.bool (bif neg then !c else c))
      | none => none
    | _ => none
  | _ => none

def uNot : AV → Option AV
  | .bool b => some (.bool (!b))
  | _ => none
def uNeg : AV → Option AV
  | .int k n => some (.int k (wrapF k (Int.sub 0 n)))
  | _ => none
noncomputable def uXor : AV → Option AV
  | .int k n => ofRun (pureRun (Op.unary .xor (.int k n)))
  | _ => none

-- rows of cells
noncomputable def put (cs : List AV) (off : Nat) (new : List AV) : List AV := app (tk off cs) (app new (dp (Nat.add off (len new)) cs))

noncomputable def segment (cs : List AV) (off n : Nat) : Option (List AV) :=
  match tk n (dp off cs) with
  | l => bif Nat.beq (len l) n then some l else none

noncomputable def part (agg : Bool) (cs : List AV) (off size : Nat) : Option AV :=
  match segment cs off size with
  | none => none
  | some l => bif agg then some (.agg l) else match l with
    | [c] => some c
    | _ => none

noncomputable def fillG (l : List (Nat × Nat × AV)) : List AV → Option (List AV) :=
  List.rec (fun cells => some cells) (fun p _ ih cells =>
      bif Nat.beq (len p.2.2.cells) p.2.1 && Nat.ble (Nat.add p.1 p.2.1) (len cells) then ih (put cells p.1 p.2.2.cells) else none) l

/-- The parts in order, each of one size, none left out: they are the cells. -/
noncomputable def fillS (size : Nat) (l : List (Nat × AV)) : Nat → Option (List AV) :=
  List.rec (fun _ => some []) (fun p _ ih i =>
    bif Nat.beq p.1 i && Nat.beq (len p.2.cells) size then (match ih (Nat.add i 1) with | some r => some (app p.2.cells r) | none => none) else none) l

noncomputable def parts2 (l : List (Nat × Opd)) (t : Tm) : Option (List (Nat × AV)) :=
  List.rec (some []) (fun p _ ih => match p.2 t with
    | some v => match ih with
      | some vs => some ((p.1, v) :: vs)
      | none => none
    | none => none) l

noncomputable def parts3 (l : List (Nat × Nat × Opd)) (t : Tm) : Option (List (Nat × Nat × AV)) :=
  List.rec (some []) (fun p _ ih => match p.2.2 t with
    | some v => match ih with
      | some vs => some ((p.1, p.2.1, v) :: vs)
      | none => none
    | none => none) l

noncomputable def repeatL (n : Nat) (z : List AV) : List AV := Nat.rec [] (fun _ ih => app z ih) n

noncomputable def scale (size : Nat) (l : List (Nat × AV)) : List (Nat × Nat × AV) :=
  List.rec [] (fun p _ ih => (Nat.mul p.1 size, size, p.2) :: ih) l

/-- The cells of a row of n elements of one size, whose parts are given. -/
noncomputable def fillRow (n size : Nat) (zero : List AV) (l : List (Nat × AV)) : Option (List AV) :=
  match bif Nat.beq (len l) n then fillS size l 0 else none with
  | some cs => some cs
  | none => fillG (scale size l) (repeatL n zero)

noncomputable def aLoad (h : Hp) (size : Nat) (agg : Bool) (a : AV) : Option AV :=
  match a with
  | .ref id off => match h.objs.get id with
    | some cs => part agg cs off size
    | none => none
  | .iptr cs => part agg cs 0 size
  | _ => none

noncomputable def sliceCells (h : Hp) : AV → Option (Nat × List AV)   -- how many, the cells
  | .esl => some (0, [])
  | .isl n cs => some (n, cs)
  | .hsl id off n sz => match h.objs.get id with
    | some cs => match segment cs off (Nat.mul n sz) with
      | some l => some (n, l)
      | none => none
    | none => none
  | _ => none

-- operations
noncomputable def kMove (x : Opd) : OpF := fun t h => Option.rec Ro.bad (fun v => Ro.ok v h) (x t)
noncomputable def kPick (c a b : Opd) : OpF := fun t h => match c t with
  | some (.bool c) => bif c then kMove a t h else kMove b t h
  | _ => .bad
noncomputable def kNew (cs : List AV) : OpF := fun _ h => .ok (.ref h.next 0) (newO h cs)
noncomputable def kBox (x : Opd) : OpF := fun t h => match x t with
  | some v => .ok (.ref h.next 0) (newO h v.cells)
  | none => .bad
noncomputable def kBuild (zero : List AV) (parts : List (Nat × Nat × Opd)) : OpF := fun t h => match parts3 parts t with
  | some vs => match fillG vs zero with
    | some cs => .ok (.agg cs) h
    | none => .bad
  | none => .bad
noncomputable def kRow (n size : Nat) (zero : List AV) (parts : List (Nat × Opd)) : OpF := fun t h => match parts2 parts t with
  | some vs => bif Nat.beq n 0 then (match vs with | [] => .ok .esl h | _ => .bad) else match fillRow n size zero vs with
    | some cs => .ok (.hsl h.next 0 n size) (newO h cs)
    | none => .bad
  | none => .bad
noncomputable def kLoad (size : Nat) (agg : Bool) (a : Opd) : OpF := fun t h => match a t with
  | some a => match aLoad h size agg a with
    | some v => .ok v h
    | none => .bad
  | none => .bad
noncomputable def kStore (size : Nat) (a x : Opd) : OpF := fun t h => match a t with
  | some (.ref id off) => match x t with
    | some v => match h.objs.get id with
      | some cs => bif Nat.beq (len v.cells) size && (Nat.ble (Nat.add off (len v.cells)) (len cs) && allB cell1 v.cells) then
          .ok undefA (setO h id (some (put cs off v.cells)))
        else .bad
      | none => .bad
    | none => .bad
  | _ => .bad
noncomputable def kNil (x : Opd) : OpF := fun t h => match x t with
  | some (.ref i o) => .ok (.ref i o) h
  | some (.iptr cs) => .ok (.iptr cs) h
  | some (.fn f c) => .ok (.fn f c) h
  | _ => .bad
noncomputable def kBin (f : AV → AV → Option AV) (x y : Opd) : OpF := fun t h =>
  Option.rec Ro.bad (fun a => Option.rec Ro.bad (fun b => Option.rec Ro.bad (fun v => Ro.ok v h) (f a b)) (y t)) (x t)
noncomputable def kUn (f : AV → Option AV) (x : Opd) : OpF := fun t h => Option.rec Ro.bad (fun a => Option.rec Ro.bad (fun v => Ro.ok v h) (f a)) (x t)
def cInt (k : IntKind) : AV → Option AV
  | .int _ n => some (.int k (wrapF k n))
  | _ => none
noncomputable def cIntS (k : IntKind) : AV → Option AV := orS1 (cInt k) (sInt k)
noncomputable def kBytes (x : Opd) : OpF := fun t h => match x t with
  | some (.sc (.string s)) => .ok (.isl s.size (s.data.toList.map fun b => .int .u8 (.ofNat b.toNat))) h
  | _ => .bad
noncomputable def kFn (f : FuncId) (cap : List Opd) : OpF := fun t h => match opds cap t with
  | some vs => .ok (.fn f vs) h
  | none => .bad
noncomputable def kMake (size bytes : Nat) (zero : List AV) (l c : Opd) : OpF := fun t h => match l t with
  | some (.int _ (.ofNat l)) => match c t with
    | some (.int _ (.ofNat c)) => bif Nat.ble l c && Nat.ble (Nat.mul c bytes) 70368744177664 then
          bif Nat.beq c 0 then .ok .esl h else .ok (.hsl h.next 0 l size) (newO h (repeatL c zero))
        else .bad
    | _ => .bad
  | _ => .bad

noncomputable def natArg (o : Option Opd) (t : Tm) (d : Nat) : Option Nat := match o with
  | none => some d
  | some o => match o t with
    | some (.int _ (.ofNat n)) => some n
    | _ => none
noncomputable def bounds (lo hi : Option Opd) (t : Tm) (n : Nat) : Option (Nat × Nat) := match natArg lo t 0 with
  | some l => match natArg hi t n with
    | some h => bif Nat.ble l h && Nat.ble h n then some (l, h) else none
    | none => none
  | none => none
noncomputable def kSliceS (x : Opd) (lo hi : Option Opd) : OpF := fun t h => match x t with
  | some (.sc (.string s)) => match bounds lo hi t s.size with
    | some (l, e) => .ok (.sc (.string (s.extract l e))) h
    | none => .bad
  | _ => .bad
noncomputable def kSlice (size : Nat) (x : Opd) (lo hi : Option Opd) : OpF := fun t h => match x t with
  | some .esl => match bounds lo hi t 0 with
    | some _ => .ok .esl h
    | none => .bad
  | some (.hsl id off n sz) => match bounds lo hi t n with
    | some (l, e) => bif Nat.beq sz size then .ok (.hsl id (Nat.add off (Nat.mul l size)) (Nat.sub e l) sz) h else .bad
    | none => .bad
  | some (.isl n cs) => match bounds lo hi t n with
    | some (l, e) => .ok (.isl (Nat.sub e l) (tk (Nat.mul (Nat.sub e l) size) (dp (Nat.mul l size) cs))) h
    | none => .bad
  | _ => .bad
noncomputable def kSliceA (n size : Nat) (x : Opd) (lo hi : Option Opd) : OpF := fun t h => match x t with
  | some (.ref id off) => match bounds lo hi t n with
    | some (l, e) => match h.objs.get id with
      | some cs => bif Nat.ble (Nat.add off (Nat.mul n size)) (len cs) then .ok (.hsl id (Nat.add off (Nat.mul l size)) (Nat.sub e l) size) h else .bad
      | none => .bad
    | none => .bad
  | _ => .bad
noncomputable def kFieldAddr (off : Nat) (x : Opd) : OpF := fun t h => match x t with
  | some (.ref id o) => .ok (.ref id (Nat.add o off)) h
  | some (.iptr cs) => .ok (.iptr (dp off cs)) h
  | _ => .bad
noncomputable def kField (off size : Nat) (agg : Bool) (x : Opd) : OpF := fun t h => match x t with
  | some (.agg cs) => match part agg cs off size with
    | some v => .ok v h
    | none => .bad
  | _ => .bad
noncomputable def kIxS (size : Nat) (x i : Opd) : OpF := fun t h => match i t with   -- the address of a slice's element
  | some (.int _ (.ofNat i)) => match x t with
    | some (.hsl id off n sz) => bif Nat.blt i n && Nat.beq sz size then .ok (.ref id (Nat.add off (Nat.mul i size))) h else .bad
    | some (.isl n cs) => bif Nat.blt i n then .ok (.iptr (dp (Nat.mul i size) cs)) h else .bad
    | _ => .bad
  | _ => .bad
noncomputable def kIxA (n size : Nat) (x i : Opd) : OpF := fun t h => match i t with   -- the address of an array's element
  | some (.int _ (.ofNat i)) => match x t with
    | some (.ref id off) => bif Nat.blt i n then .ok (.ref id (Nat.add off (Nat.mul i size))) h else .bad
    | some (.iptr cs) => bif Nat.blt i n then .ok (.iptr (dp (Nat.mul i size) cs)) h else .bad
    | _ => .bad
  | _ => .bad
noncomputable def kIndex (n size : Nat) (agg : Bool) (x i : Opd) : OpF := fun t h => match x t with
  | some (.agg cs) => match i t with
    | some (.int _ (.ofNat i)) => bif Nat.blt i n then (match part agg cs (Nat.mul i size) size with
        | some v => .ok v h
        | none => .bad) else .bad
    | _ => .bad
  | _ => .bad
noncomputable def kIndexS (x i : Opd) : OpF := fun t h => match x t with
  | some (.sc (.string s)) => match i t with
    | some (.int _ (.ofNat i)) => match getN s.data.toList i with
      | some b => .ok (.int .u8 b.toNat) h
      | none => .bad
    | _ => .bad
  | _ => .bad
noncomputable def kExtract (x : Opd) (i : Nat) : OpF := fun t h => match x t with
  | some (.tup vs) => match getN vs i with
    | some v => .ok v h
    | none => .bad
  | _ => .bad
noncomputable def kLenS (x : Opd) : OpF := fun t h => match x t with
  | some (.sc (.string s)) => .ok (.int .i64 (.ofNat s.size)) h
  | _ => .bad
noncomputable def kLen (x : Opd) : OpF := fun t h => match x t with
  | some (.hsl _ _ n _) => .ok (.int .i64 (.ofNat n)) h
  | some (.isl n _) => .ok (.int .i64 (.ofNat n)) h
  | some .esl => .ok (.int .i64 0) h
  | _ => .bad
noncomputable def kAppend (size bytes : Nat) (s x : Opd) : OpF := fun t h => match s t with
  | some s => match x t with
    | some x => match sliceCells h x with
      | none => .bad
      | some (n, new) => match s with
          | .esl => bif Nat.beq n 0 then .ok .esl h else
              bif Nat.ble (Nat.mul n bytes) 70368744177664 && (allB cell1 new && (Nat.beq (len new) (Nat.mul n size) && Nat.ble n 70368744177664)) then .ok (.hsl h.next 0 n size) (newO h new) else .bad
          | .hsl id off ln sz => bif Nat.beq n 0 then .ok (.hsl id off ln sz) h else match h.objs.get id with
            | none => .bad
            | some cs => match segment cs off (Nat.mul ln sz) with
              | none => .bad
              | some pre => bif Nat.ble (Nat.mul (Nat.add ln n) bytes) 70368744177664 && (Nat.beq sz size && (allB cell1 new && (Nat.beq (len new) (Nat.mul n size) && Nat.ble (Nat.add ln n) 70368744177664))) then
                  .ok (.hsl h.next 0 (Nat.add ln n) sz) (newO (setO h id none) (app pre new)) else .bad
          | .isl ln cs => bif Nat.beq n 0 then .ok (.isl ln cs) h else .bad
          | _ => .bad
    | none => .bad
  | none => .bad
/-- The built-in copy. -/
noncomputable def kCopy (size : Nat) (d s : Opd) : OpF := fun t h => match d t with
  | some (.hsl id off n sz) => match s t with
    | some x => match sliceCells h x with
      | some (m, src) => match h.objs.get id with
        | some cs => bif Nat.beq sz size && (Nat.beq (len src) (Nat.mul m size) && allB cell1 src) then
            (match tk (Nat.mul (minN m n) size) src with
            | new => bif Nat.ble (Nat.add off (len new)) (len cs) then .ok (.int .i64 (.ofNat (minN m n))) (setO h id (some (put cs off new))) else .bad) else .bad
        | none => .bad
      | none => .bad
    | none => .bad
  | _ => .bad
noncomputable def kMin (x y : Opd) : OpF := kBin (bInt fun k a b => some (.int k (bif ltI b a then b else a))) x y
noncomputable def kMax (x y : Opd) : OpF := kBin (bInt fun k a b => some (.int k (bif ltI a b then b else a))) x y
noncomputable def kBad : OpF := fun _ _ => .bad
noncomputable def kCall (call : CallF) (f : FuncId) (args : List Opd) : OpF := fun t h => match opds args t with
  | some vs => call f vs h
  | none => .bad
noncomputable def kCallV (call : CallF) (f : Opd) (args : List Opd) : OpF := fun t h => match f t with
  | some (.fn k cap) => match opds args t with
    | some vs => call k (app vs cap) h
    | none => .bad
  | _ => .bad

-- regions
def fi : RgF := fun t h => .ok t h
noncomputable def st (s : SetF) (f : OpF) (k : RgF) : RgF := fun t h => Ro.rec Rt.bad (fun v h => k (s v t) h) (f t h)
noncomputable def sn (f : OpF) (k : RgF) : RgF := fun t h => Ro.rec Rt.bad (fun _ h => k t h) (f t h)
/-- An operation that waits for a bool. -/
noncomputable def sg (j : Opd) (want : Bool) (s : SetF) (f : OpF) (k : RgF) : RgF := fun t h => match j t with
  | some (.bool b) => ifb (ifb want b (!b)) (st s f k t h) (k (s undefA t) h)
  | some (.tup []) => k (s undefA t) h
  | _ => .bad

-- code
noncomputable def cRg (r : RgF) : CdF := fun t h => Rt.rec Rc.bad (fun t h => Rc.norm t h) (r t h)
def cSk : CdF := fun t h => .norm t h
noncomputable def cSq (a b : CdF) : CdF := fun t h => Rc.rec Rc.bad (fun t h => b t h) (fun t h => Rc.ret t h) (fun i t h => Rc.exit i t h) (a t h)
noncomputable def cIf (c : Opd) (a b : CdF) : CdF := fun t h => match c t with
  | some (.bool c) => Bool.rec (b t h) (a t h) c
  | _ => .bad
noncomputable def cBl (id : Nat) (b : CdF) : CdF := fun t h =>
  Rc.rec Rc.bad (fun t h => Rc.norm t h) (fun t h => Rc.ret t h) (fun i t h => Bool.rec (Rc.exit i t h) (Rc.norm t h) (Nat.beq i id)) (b t h)
noncomputable def cLp (n : Nat) (b : CdF) : CdF :=
  Nat.rec (fun _ _ => .bad) (fun _ ih t h => Rc.rec Rc.bad (fun t h => ih t h) (fun t h => Rc.ret t h) (fun i t h => Rc.exit i t h) (b t h)) n
noncomputable def cEx (i : Nat) : CdF := fun t h => .exit i t h
noncomputable def cRt : CdF := fun t h => .ret t h
noncomputable def cBad : CdF := fun _ _ => .bad

/-- A function: how its results are read. -/
inductive RV where
  | tmp (i : Nat)
  | cell (i size : Nat) (agg : Bool)

noncomputable def resV (t : Tm) (h : Hp) : RV → Option AV
  | .tmp i => Tm.at t i
  | .cell i size agg => match Tm.at t i with
    | some a => aLoad h size agg a
    | none => none

noncomputable def resVs (t : Tm) (h : Hp) (l : List RV) : Option (List AV) :=
  List.rec (some []) (fun r _ ih => match resV t h r with
    | some v => match ih with
      | some vs => some (v :: vs)
      | none => none
    | none => none) l

structure Fb where
  ntmps : Nat
  res : List RV
  body : CallF → Nat → CdF

noncomputable def enterT (l : List AV) : Nat → Tm → Tm :=
  List.rec (fun _ t => t) (fun v _ ih i t => ih (Nat.add i 1) (Tm.put t i (some v))) l

noncomputable def fin (res : List RV) (t : Tm) (h : Hp) : Ro :=
  match resVs t h res with
  | some [v] => .ok v h
  | some vs => .ok (.tup vs) h
  | none => .bad

noncomputable def aCall (fn : FuncId → Option Fb) (n : Nat) (d : Nat) : CallF :=
  Nat.rec (fun _ _ _ => .bad) (fun _ ih f args h => match fn f with
    | none => .bad
    | some b => ifb (Nat.ble (len args) b.ntmps) (match b.body ih n (enterT args 0 Tm.none) h with
      | .norm t h => fin b.res t h
      | .ret t h => fin b.res t h
      | _ => .bad) .bad) d

end Go.Ab
