import Derived.Test.YtcnkojgmochcgaaGreatDoorAb24
noncomputable section
namespace Go.Ab
namespace Lf
abbrev OpR:=T (Sv×Tq×Hq)
abbrev ou:=Tq->Hq->OpR
abbrev o7:=FuncId->List Sv->Hq->T (Sv×Hq)
def okV(v:Sv)(t:Tq)(h:Hq):OpR:=.ok (v,t,h)
def okO(v:Option Sv)(t:Tq)(h:Hq):OpR:=match v with
 |some v=>.ok (v,t,h)
 |none=>.bad
def wa:Sv:=.tu []
def Cq(x:Od):ou:=fun t h=>okO (qM x t) t h
def xF{α:Type}(j:Od)(t:Tq)(a b:Tq->T α):T α:=match j with
 | .t i=>bif Nat.blt i 512 then(match t.at i with
  |some (.b c)=>bif c then a t else b t
  |some (.c _ .bool x)=>.br x (a (t.put i (some (.b true)))) (b (t.put i (some (.b false))))
  | _=>.bad)else .bad
 | .c (.bool c)=>bif c then a t else b t
 | _=>.bad
def acg(c a b:Od):ou:=fun t h=>xF c t (fun t=>Cq a t h) (fun t=>Cq b t h)
def aeh(cs:List AV):ou:=fun t h=>match PL cs with|some l=>okV (.rf h.next 0) t (nG h (.o 0 l))|none=>.bad
def aei(a:Od):ou:=fun t h=>match qM a t with|some v=>okV (.rf h.next 0) t (nG h (.o 0 v.cells))|none=>.bad
def Kn(z:List AV)(ps:List (Nat×Nat×Od)):ou:=fun t h=>match PL z with
 |some z=>match FA ps t with
  |some vs=>match Fy vs z with
   |some cs=>okV (.ag cs) t h
   |none=>.bad
  |none=>.bad
 |none=>.bad
def aej(n sz:Nat)(z:List AV)(ps:List (Nat×Od)):ou:=fun t h=>match FB ps t with
 |some vs=>bif Nat.beq n 0 then(match vs with| []=>okV (.a .ur) t h| _=>.bad)else(match PL z with
  |some z=>match HF n sz z vs with
   |some cs=>bif oD HD cs&&(Nat.blt 0 sz&&Nat.beq (len cs) (Nat.mul n sz))then okV (.xo h.next sz 0 n) t (nG h (.o 0 cs))else .bad
   |none=>.bad
  |none=>.bad)
 |none=>.bad
def SZ(h:Hq)(r sz i:Nat):Option (List Sv):=match h.cw.get r with
 |some (.l t x)=>bif Nat.beq sz (size t)then some (ud t (x.getD i (cE t)))else none
 |some (.z t x)=>bif Nat.beq sz (size t)then some (ud t (x.getD i (cE t)))else none
 | _=>none
def Cr(h:Hq)(r:Nat):Option (List Sv):=match h.cw.get r with
 |some (.o _ l)=>some l
 |some (.zo l)=>some l
 | _=>none
def Ei(sz:Nat)(agg:Bool)(a:Sv)(h:Hq):Option Sv:=bif Nat.blt 0 sz then(match a with
 | .rf r o=>match Cr h r with
  |some l=>Co agg l o sz
  |none=>none
 | .re r s i o=>match SZ h r s i with
  |some l=>Co agg l o sz
  |none=>none
 | .zp l=>Co agg l 0 sz
 | _=>none)else none
def Ng(sz:Nat)(agg:Bool)(a:Od):ou:=fun t h=>match qM a t with
 |some p=>okO (Ei sz agg p h) t h
 |none=>.bad
def Ko(sz:Nat)(a b:Od):ou:=fun t h=>match qM b t with
 |some v=>bif Nat.beq (len v.cells) sz&&oD HD v.cells then(match qM a t with
  |some (.rf r o)=>match h.cw.get r with
   |some (.o g l)=>bif Nat.ble (Nat.add o (len v.cells)) (len l)then okV wa t (ql h r (some (.o g (HE l o v.cells))))else .bad
   | _=>.bad
  |some (.re r s i o)=>match h.cw.get r with
   |some (.l ty x)=>bif Nat.beq s (size ty)&&Nat.ble (Nat.add o (len v.cells)) s then(match asT ty (HE (ud ty (x.getD i (cE ty))) o v.cells) h with
    |some (y,[],h')=>(match h'.cw.get r with
     |some (.l _ _)=>okV wa t (ql h' r (some (.l ty (x.set i y))))
     | _=>.bad)
    | _=>.bad)else .bad
   | _=>.bad
  | _=>.bad)else .bad
 |none=>.bad
def Nh(a:Od):ou:=fun t h=>match qM a t with
 |some (.rf r o)=>okV (.rf r o) t h
 |some (.re r s i o)=>okV (.re r s i o) t h
 |some (.zp c)=>okV (.zp c) t h
 |some (.fn f c)=>okV (.fn f c) t h
 | _=>.bad
def YJ(f:BF)(a b:Od):ou:=fun t h=>match qM a t with
 |some x=>match qM b t with
  |some y=>(sBn f x y).bd fun v=>okV v t h
  |none=>.bad
 |none=>.bad
def sUn(f:UF)(a:Od):ou:=fun t h=>match qM a t with
 |some x=>okO (aed f x) t h
 |none=>.bad
def sFn(f:FuncId)(cap:List Od):ou:=fun t h=>match SU cap t with
 |some vs=>okV (.fn f vs) t h
 |none=>.bad
def u6(off:Nat)(a:Od):ou:=fun t h=>match qM a t with
 |some (.rf r o)=>okV (.rf r (Nat.add o off)) t h
 |some (.re r s i o)=>okV (.re r s i (Nat.add o off)) t h
 |some (.zp l)=>bif Nat.ble off (len l)then okV (.zp (dp off l)) t h else .bad
 | _=>.bad
def FD(off size:Nat)(agg:Bool)(a:Od):ou:=fun t h=>match qM a t with
 |some (.ag cs)=>okO (Co agg cs off size) t h
 | _=>.bad
def cZ(i n:Int):Bool:=decide (0<=i)&&decide (i<n)
def S4(r s off:Nat)(n:Int)(t:Tq)(h:Hq):Nat->Nat->T (Sv×Tq×Hq):=fun f=>Nat.rec (fun _=>.bad) (fun f ih j=>bif Nat.beq f 0 then .ck (decide (n=Int.ofNat j)) (okV (.rf r (Nat.add off (Nat.mul j s))) t h)else .br (decide (n=Int.ofNat j)) (okV (.rf r (Nat.add off (Nat.mul j s))) t h) (ih (Nat.succ j))) f
theorem wG{r s off:Nat}{n:Int}{t:Tq}{h:Hq}{y:Sv×Tq×Hq}: ∀ {f j:Nat},(S4 r s off n t h f j).val=some y-> ∃ i,n=((i:Nat):Int)/\i<j+f/\(okV (.rf r (Nat.add off (Nat.mul i s))) t h:T (Sv×Tq×Hq)).val=some y
 |0,j,e=>by cases e
 |f+1,j,e=>by
  have e:(bif Nat.beq f 0 then(.ck (decide (n=Int.ofNat j)) (okV (.rf r (Nat.add off (Nat.mul j s))) t h):T (Sv×Tq×Hq))else .br (decide (n=Int.ofNat j)) (okV (.rf r (Nat.add off (Nat.mul j s))) t h) (S4 r s off n t h f (Nat.succ j))).val=some y:=e
  cases hf:Nat.beq f 0 with
  |true=>
   rw[hf,cond_true]at e
   have e:(bif decide (n=Int.ofNat j)then(okV (.rf r (Nat.add off (Nat.mul j s))) t h:T (Sv×Tq×Hq)).val else none)=some y:=e
   by_cases q:n=Int.ofNat j
   ·rw[decide_eq_true q]at e
    exact⟨j,q,by omega,e⟩
   ·rw[decide_eq_false q]at e
    cases e
  |false=>
   rw[hf,cond_false]at e
   have e:(bif decide (n=Int.ofNat j)then(okV (.rf r (Nat.add off (Nat.mul j s))) t h:T (Sv×Tq×Hq)).val else(S4 r s off n t h f (Nat.succ j)).val)=some y:=e
   by_cases q:n=Int.ofNat j
   ·rw[decide_eq_true q]at e
    exact⟨j,q,by omega,e⟩
   ·rw[decide_eq_false q]at e
    obtain⟨i,a,b,c⟩:=wG e
    exact⟨i,a,by omega,c⟩
def YK(size:Nat)(a i:Od):ou:=fun t h=>match qM i t with
 |some iv=>match toN iv with
  |some (_,n)=>match qM a t with
   |some (.os r s)=>match h.cw.get r with
    |some (.l _ x)=>bif Nat.beq s size then .ck (cZ n (Int.ofNat x.length)) (okV (.re r s n.toNat 0) t h)else .bad
    |some (.z _ x)=>bif Nat.beq s size then .ck (cZ n (Int.ofNat x.length)) (okV (.re r s n.toNat 0) t h)else .bad
    | _=>.bad
   |some (.ss r s off m)=>bif Nat.beq s size then .ck (cZ n (Int.ofNat m)) (okV (.re r s (off+n.toNat) 0) t h)else .bad
   |some (.xo r s off m)=>match iv with
    | .i _ (.ofNat k)=>bif Nat.beq s size&&Nat.blt k m then okV (.rf r (Nat.add off (Nat.mul k s))) t h else .bad
    | _=>bif Nat.beq s size then S4 r s off n t h m 0 else .bad
   |some (.c _ (.cp ty) x)=>bif Nat.beq size (Lf.size ty)then .ck (cZ n (Int.ofNat x.length)) (okV (.zp (ud ty (x.getD n.toNat (cE ty)))) t h)else .bad
   | _=>.bad
  |none=>.bad
 |none=>.bad
def S5(n size:Nat)(a i:Od):ou:=fun t h=>match qM i t with
 |some (.i _ (.ofNat k))=>bif Nat.blt k n then(match qM a t with
  |some (.rf r o)=>okV (.rf r (Nat.add o (Nat.mul k size))) t h
  |some (.zp l)=>bif Nat.ble (Nat.mul k size) (len l)then okV (.zp (dp (Nat.mul k size) l)) t h else .bad
  | _=>.bad)else .bad
 | _=>.bad
def FF(k:IntKind)(l:List Sv):Option (List Int):=List.rec (some []) (fun v _ ih=>match toN v with
 |some (k',n)=>bif qp k k' then(match ih with
  |some r=>some (n::r)
  |none=>none)else none
 |none=>none) l
def ixZ(n o:Nat)(x:Int)(l:List Sv)(t:Tq)(h:Hq):T (Sv×Tq×Hq):=match(l.drop o).take n with
 |v::w=>(match toN v with
  |some (k,_)=>(match FF k (v::w)with
   |some nl=>bif Nat.beq (len nl) n then .ck (cZ x (Int.ofNat n)) (okV (.zp [.c 0 (.int k) (nl.getD x.toNat 0)]) t h)else .bad
   |none=>.bad)
  |none=>.bad)
 | []=>.bad
def YL(n size:Nat)(a i:Od):ou:=fun t h=>match qM i t with
 |some (.c _ (.int _) x)=>bif Nat.beq size 1 then(match qM a t with
  |some (.rf r o)=>(match h.cw.get r with
   |some (.o _ _)=>S4 r size o x t h n 0
   |some (.zo l)=>ixZ n o x l t h
   | _=>.bad)
  | _=>.bad)else .bad
 | _=>S5 n size a i t h
def FG(n size:Nat)(agg:Bool)(a i:Od):ou:=fun t h=>match qM a t with
 |some (.ag cs)=>match qM i t with
  |some (.i _ (.ofNat k))=>bif Nat.blt k n then okO (Co agg cs (Nat.mul k size) size) t h else .bad
  |some (.c _ (.int _) x)=>bif agg|| !(Nat.beq size 1)then .bad else(match cs with
   |v::_=>match toN v with
    |some (k,_)=>match FF k cs with
     |some l=>bif Nat.beq (len l) n then .ck (cZ x (Int.ofNat n)) (okV (.c 0 (.int k) (l.getD x.toNat 0)) t h)else .bad
     |none=>.bad
    |none=>.bad
   | []=>.bad)
  | _=>.bad
 | _=>.bad
def Bg(a i:Od):ou:=fun t h=>match qM a t with
 |some v=>match toS v with
  |some (_,s)=>match qM i t with
   |some iv=>match toN iv with
    |some (_,n)=>.ck (cZ n (Int.ofNat s.size)) (okV (.c 0 (.int .u8) (Int.ofNat ((s.data.toList.getD n.toNat 0).toNat))) t h)
    |none=>.bad
   |none=>.bad
  |none=>.bad
 |none=>.bad
def Ni(a:Od):ou:=fun t h=>match qM a t with
 |some v=>match toS v with
  |some (true,s)=>okV (.i .i64 (.ofNat s.size)) t h
  |some (false,s)=>okV (.c 0 (.int .i64) (Int.ofNat s.size)) t h
  |none=>.bad
 |none=>.bad
def yF(a:Od)(i:Nat):ou:=fun t h=>match qM a t with
 |some (.tu vs)=>okO (sa vs i) t h
 | _=>.bad
def mQ(a:Od):ou:=fun t h=>match opw a t with
 |some v=>okO (aeg v h) t h
 |none=>.bad
def DE(o:Option Od)(t:Tq)(d:Sv):Option (Bool×Int):=match(match o with
 |none=>some d
 |some o=>qM o t)with
 |some v=>match toN v with
  |some (_,n)=>some (SX v,n)
  |none=>none
 |none=>none
def nH(l u n:Int):Bool:=decide (0<=l)&&(decide (l<=u)&&decide (u<=n))
def brN{β:Type}(n:Int)(F:Nat->T β):Nat->Nat->T β:=fun f=>Nat.rec (fun _=>.bad) (fun f ih j=>bif Nat.beq f 0 then .ck (decide (n=Int.ofNat j)) (F j)else .br (decide (n=Int.ofNat j)) (F j) (ih (Nat.succ j))) f
theorem Cs{β:Type}{n:Int}{F:Nat->T β}{y:β}: ∀ {f j:Nat},(brN n F f j).val=some y-> ∃ i,n=((i:Nat):Int)/\i<j+f/\(F i).val=some y
 |0,j,e=>by cases e
 |f+1,j,e=>by
  have e:(bif Nat.beq f 0 then(.ck (decide (n=Int.ofNat j)) (F j):T β)else .br (decide (n=Int.ofNat j)) (F j) (brN n F f (Nat.succ j))).val=some y:=e
  cases hf:Nat.beq f 0 with
  |true=>
   rw[hf,cond_true]at e
   have e:(bif decide (n=Int.ofNat j)then(F j).val else none)=some y:=e
   by_cases q:n=Int.ofNat j
   ·rw[decide_eq_true q]at e
    exact⟨j,q,by omega,e⟩
   ·rw[decide_eq_false q]at e
    cases e
  |false=>
   rw[hf,cond_false]at e
   have e:(bif decide (n=Int.ofNat j)then(F j).val else(brN n F f (Nat.succ j)).val)=some y:=e
   by_cases q:n=Int.ofNat j
   ·rw[decide_eq_true q]at e
    exact⟨j,q,by omega,e⟩
   ·rw[decide_eq_false q]at e
    obtain⟨i,a,b,c⟩:=Cs e
    exact⟨i,a,by omega,c⟩
def yG(size:Nat)(a:Od)(lo hi:Option Od):ou:=fun t h=>match qM a t with
 |some v=>match aeg v h with
  |some m=>match toN m with
   |some (_,n)=>match DE lo t (.i .i64 0)with
    |some (ll,l)=>match DE hi t m with
     |some (lu,u)=>(match v with
      | .a w=>bif xq w then .ck (nH l u n) (okV (.a w) t h)else .bad
      | .os r s=>bif Nat.beq s size then .ck (nH l u n) (okV (.ss r s l.toNat (u.toNat - l.toNat)) t h)else .bad
      | .ss r s off _=>bif Nat.beq s size then .ck (nH l u n) (okV (.ss r s (off+l.toNat) (u.toNat - l.toNat)) t h)else .bad
      | .xo r s off k=>bif ll&&lu then(bif (ll&&lu)&&(Nat.beq s size&&nH l u n)then okV (.xo r s (Nat.add off (Nat.mul l.toNat s)) (Nat.sub u.toNat l.toNat)) t h else .bad)else(bif Nat.beq s size then brN l (fun i=>brN u (fun j=>bif Nat.ble i j then okV (.xo r s (Nat.add off (Nat.mul i s)) (Nat.sub j i)) t h else .bad) (Nat.succ k) 0) (Nat.succ k) 0 else .bad)
      | .c _ (.cp ty) x=>bif Nat.beq size (Lf.size ty)then .ck (nH l u n) (okV (.c 0 (.cp ty) ((x.drop l.toNat).take (u.toNat - l.toNat))) t h)else .bad
      | _=>.bad)
     |none=>.bad
    |none=>.bad
   |none=>.bad
  |none=>.bad
 |none=>.bad
def yH(n size:Nat)(a:Od)(lo hi:Option Od):ou:=fun t h=>match qM a t with
 |some (.rf r o)=>match DE lo t (.i .i64 0)with
  |some (true,l)=>match DE hi t (.i .i64 (.ofNat n))with
   |some (true,u)=>match Cr h r with
    |some cs=>bif Nat.ble (Nat.add o (Nat.mul n size)) (len cs)&&(nH l u (Int.ofNat n)&&Nat.blt 0 size)then okV (.xo r size (Nat.add o (Nat.mul l.toNat size)) (Nat.sub u.toNat l.toNat)) t h else .bad
    |none=>.bad
   | _=>.bad
  | _=>.bad
 | _=>.bad
def FH(a:Od)(lo hi:Option Od):ou:=fun t h=>match qM a t with
 |some v=>match toS v with
  |some (true,s)=>match DE lo t (.i .i64 0)with
   |some (true,l)=>match DE hi t (.i .i64 (.ofNat s.size))with
    |some (true,u)=>bif nH l u (Int.ofNat s.size)then okV (.a (.sc (.string (s.extract l.toNat u.toNat)))) t h else .bad
    | _=>.bad
   | _=>.bad
  | _=>.bad
 |none=>.bad
def roomy(bytes n:Nat):Bool:=decide (n*bytes<=70368744177664)&&decide (n<=70368744177664)
def yI(v:Sv)(h:Hq):Option (Nat×List Sv):=match v with
 | .a w=>bif nr w then some (0,[])else none
 | .xo r s off n=>match Cr h r with
  |some l=>bif Nat.ble (Nat.add off (Nat.mul n s)) (len l)then some (n,tk (Nat.mul n s) (dp off l))else none
  |none=>none
 | _=>none
def kill(v:Sv)(h:Hq):Option Hq:=match v with
 | .a _=>some h
 | .os r _=>match h.cw.get r with
  |some (.l _ _)=>some (ql h r none)
  | _=>none
 | .ss r _ _ _=>match h.cw.get r with
  |some (.l _ _)=>some (ql h r none)
  | _=>none
 | .xo r _ _ _=>match h.cw.get r with
  |some (.o _ _)=>some (ql h r none)
  | _=>none
 | _=>none
def HG(t:Ty)(v:Sv)(h:Hq):Option (List (den t)×Hq):=match v with
 | .os r _=>match h.cw.get r with
  |some (.l t' x)=>match zk t' t with
   |some ⟨e⟩=>some (e▸x,h)
   |none=>none
  | _=>none
 | .ss r _ off n=>match h.cw.get r with
  |some (.l t' x)=>match zk t' t with
   |some ⟨e⟩=>some (((e▸x:List (den t)).drop off).take n,h)
   |none=>none
  | _=>none
 | .a w=>bif nr w then some ([],h)else none
 | .xo r sz off n=>match h.cw.get r with
  |some (.o _ l)=>bif Nat.beq sz (size t)then rdX t (asT t) n off l h else none
  | _=>none
 | _=>none
def apT(bytes:Nat)(t:Ty)(s:Sv)(new:List (den t))(tq:Tq)(h:Hq):OpR:=match HG t s h with
 |some (x,h1)=>match kill s h1 with
  |some h2=>.ck (roomy bytes (x.length+new.length)) (okV (.os h2.next (size t)) tq (nG h2 (.l t (app x new))))
  |none=>.bad
 |none=>.bad
def YM(s:Sv)(d:Nat):Nat:=match s with
 | .os _ z=>z
 | .ss _ z _ _=>z
 | .xo _ z _ _=>z
 | _=>d
def S6(size bytes:Nat)(s x:Sv)(t:Tq)(h:Hq):OpR:=bif Nat.beq (YM s size) size&&(Nat.beq (YM x size) size&&Nat.blt 0 size)then(match yI x h with
 |some (0,_)=>(match s with
  | .a w=>bif xq w then okV s t h else .bad
  | .os _ _=>okV s t h
  | .ss _ _ _ _=>okV s t h
  | .xo _ _ _ _=>okV s t h
  | _=>.bad)
 |some (m,new)=>(match yI s h with
  |some (n,vG)=>match kill s h with
   |some h2=>bif roomy bytes (Nat.add n m)&&oD HD new then okV (.xo h2.next size 0 (Nat.add n m)) t (nG h2 (.o 0 (app vG new)))else .bad
   |none=>.bad
  |none=>match aiK s h with
   |some ty=>bif Nat.beq size (Lf.size ty)then(match lst ty x h with
    |some (new,h1)=>apT bytes ty s new t h1
    |none=>.bad)else .bad
   |none=>.bad)
 |none=>(match aiK x h with
  |some ty=>bif Nat.beq size (Lf.size ty)then(match lst ty x h with
   |some (new,h1)=>apT bytes ty s new t h1
   |none=>.bad)else .bad
  |none=>.bad))else .bad
def FI(size bytes:Nat)(s x:Od):ou:=fun t h=>match qM s t with
 |some s=>match qM x t with
  |some x=>S6 size bytes s x t h
  |none=>.bad
 |none=>.bad
def an':AV->Option Ty
 | .int k _=>some (.int k)
 | .bool _=>some .bool
 | .sc (.string _)=>some .str
 | .sc (.slice none 0 0)=>some (.cp (.int .i64))
 | _=>none
def tyZ(l:List AV):Option Ty:=List.rec none (fun a r ih=>match an' a with
 |some t=>match r with
  | []=>some t
  | _=>match ih with
   |some u=>some (.pair t u)
   |none=>none
 |none=>none) l
def Nj(z:List AV):Option ((t:Ty)×den t):=match tyZ z with
 |some t=>match PL z with
  |some l=>match asT t l ⟨0,.nil⟩with
   |some (x,[],_)=>some ⟨t,x⟩
   | _=>none
  |none=>none
 |none=>none
def S7(size bytes:Nat)(z:List AV)(s x:Od):ou:=fun t h=>match qM s t with
 |some sv=>match qM x t with
  |some xv=>match toN xv with
   |some (_,n)=>bif Nat.beq (YM sv size) size then(match Nj z with
    |some ⟨ty,y⟩=>bif Nat.beq size (Lf.size ty)&&Nat.beq size (len z)then(.ck (decide (0<=n)) (apT bytes ty sv (List.replicate n.toNat y) t h))else .bad
    |none=>.bad)else .bad
   |none=>.bad
  |none=>.bad
 |none=>.bad
def S8(bytes:Nat)(s x:Od):ou:=fun t h=>match qM s t with
 |some sv=>match qM x t with
  |some xv=>match toS xv with
   |some (_,y)=>bif Nat.beq (YM sv 1) 1 then apT bytes (.int .u8) sv (y.data.toList.map fun b=>Int.ofNat b.toNat) t h else .bad
   |none=>.bad
  |none=>.bad
 |none=>.bad
def Kp(x:Od):ou:=fun t h=>match qM x t with
 |some v=>match toS v with
  |some (_,y)=>okV (.os h.next 1) t (nG h (.l (.int .u8) (y.data.toList.map fun b=>Int.ofNat b.toNat)))
  |none=>.bad
 |none=>.bad
def PM(a b:Od):Bool:=match a,b with
 | .t i,.t j=>Nat.beq i j
 | .c (.int _ m),.c (.int _ n)=>eqI m n
 | _,_=>false
def S9(size bytes:Nat)(z:List AV)(l c:Od):ou:=fun t h=>match qM l t with
 |some lv=>match qM c t with
  |some cv=>match toN lv with
   |some (_,l')=>match toN cv with
    |some (_,c')=>match Nj z with
     |some ⟨ty,y⟩=>bif Nat.beq size (Lf.size ty)&&Nat.beq size (len z)then
      .ck ((decide (0<=l')&&decide (l'<=c'))&&decide (c'.toNat*bytes<=70368744177664))
       (okV (bif PM l c then .os h.next size else .ss h.next size 0 l'.toNat) t (nG h (.l ty (List.replicate c'.toNat y))))else .bad
     |none=>.bad
    |none=>.bad
   |none=>.bad
  |none=>.bad
 |none=>.bad
def ael(x y z:Od):ou:=fun t h=>match qM y t with
 |some (.i _ (.ofNat 0))=>match qM z t with
  |some (.i _ (.ofNat 0))=>match opw x t with
   |some (.a w)=>bif nr w then okV (.a .pO) t h else .bad
   |some (.os _ _)=>okV (.a .pO) t h
   |some (.ss _ _ _ _)=>okV (.a .pO) t h
   |some (.xo _ _ _ _)=>okV (.a .pO) t h
   |some (.c _ (.cp _) _)=>okV (.a .pO) t h
   | _=>.bad
  | _=>.bad
 | _=>.bad
def nM(x:Od):ou:=fun t h=>match opw x t with
 |some (.a w)=>bif nr w then okV (.i .i64 0) t h else .bad
 | _=>.bad
def Kq(mx:Bool)(a b:Od):ou:=fun t h=>match qM a t with
 |some x=>match qM b t with
  |some y=>match x,y with
   | .i k m,.i k' n=>bif qp k k' then okV (.i k (bif mx then(bif r7 m n then n else m)else(bif r7 n m then n else m))) t h else .bad
   |x,y=>match toN x,toN y with
    |some (k,m),some (k',n)=>bif qp k k' then okV (.c 0 (.int k) (match mx with|true=>max m n|false=>min m n)) t h else .bad
    | _,_=>.bad
  |none=>.bad
 |none=>.bad
def Ta(t:Ty)(v:Sv)(h:Hq):Option (List (den t)×Hq):=match HG t v h with
 |some r=>some r
 |none=>lst t v h
def YN(size:Nat)(sv:Sv)(r sz off n:Nat)(t:Tq)(h:Hq):OpR:=match h.cw.get r with
 |some (.l ty x)=>bif Nat.blt 0 size&&(Nat.beq sz size&&Nat.beq size (Lf.size ty))then(match Ta ty sv h with
  |some (y,h1)=>(match h1.cw.get r with
   |some (.l _ _)=>okV (.c 0 (.int .i64) (Int.ofNat (min y.length n))) t (ql h1 r (some (.l ty (app (x.take off) (app (y.take (min y.length n)) (x.drop (Nat.add off (min y.length n))))))))
   | _=>.bad)
  |none=>.bad)else .bad
 | _=>.bad
def Tb(size:Nat)(d s:Od):ou:=fun t h=>match opw s t with
 |some sv=>(match opw d t with
  |some (.os r sz)=>(match h.cw.get r with
   |some (.l _ x)=>YN size sv r sz 0 x.length t h
   | _=>.bad)
  |some (.ss r sz off n)=>YN size sv r sz off n t h
  | _=>.bad)
 |none=>.bad
def Tc(call:o7)(f:FuncId)(args:List Od):ou:=fun t h=>match SU args t with
 |some vs=>(call f vs h).bd fun p=>okV p.1 t p.2
 |none=>.bad
def Ks(call:o7)(f:Od)(args:List Od):ou:=fun t h=>match qM f t with
 |some (.fn k cap)=>match SU args t with
  |some vs=>(call k (app vs cap) h).bd fun p=>okV p.1 t p.2
  |none=>.bad
 | _=>.bad
def qU(l:List Sv):Nat->List Sv×Nat:=List.rec (fun n=>([],n)) (fun a _ ih n=>match a with
 | .c m (.cp t) x=>bif Nat.beq m 0 then(.c n (.cp t) x::(ih (Nat.add n 1)).1,(ih (Nat.add n 1)).2)else(a::(ih n).1,(ih n).2)
 |a=>(a::(ih n).1,(ih n).2)) l
def aem(b:Od)(f:ou):ou:=fun t h=>match b with
 | .t i=>bif Nat.blt i 512 then(match t.at i with
  |some (.ag l)=>f (t.put i (some (.ag (qU l h.next).1))) ⟨(qU l h.next).2,h.cw⟩
  | _=>f t h)else f t h
 | _=>f t h
def Td(a:Od):ou:=fun t h=>match qM a t with
 |some (.os r sz)=>match h.cw.get r with
  |some (.l _ x)=>.ck (!(Nat.beq x.length 0)) (okV (.os r sz) t h)
  | _=>.bad
 |some (.xo r sz off n)=>match h.cw.get r with
  |some (.o _ _)=>bif Nat.beq n 0 then .bad else okV (.xo r sz off n) t h
  | _=>.bad
 | _=>.bad
def Ct(call:o7)(o:nT):ou:=match o with
 | .mv a=>Cq a| .pk c a b=>acg c a b| .nw cs=>aeh cs| .bx a=>aei a| .bd z ps=>Kn z ps| .rw n sz z ps=>aej n sz z ps
 | .ld sz g a=>Ng sz g a| .sto sz a b=>aem b (Ko sz a b)| .nl a=>Nh a| .bn f a b=>YJ f a b| .un f a=>sUn f a| .fn f cap=>sFn f cap
 | .fa off a=>u6 off a| .fd off s g a=>FD off s g a| .ixS s a i=>YK s a i| .ixA n s a i=>YL n s a i| .ix n s g a i=>FG n s g a i| .ixT a i=>Bg a i
 | .slN s a lo hi=>yG s a lo hi| .slA n s a lo hi=>yH n s a lo hi| .slS a lo hi=>FH a lo hi| .ex a i=>yF a i| .ln a=>mQ a| .lnT a=>Ni a
 | .ap s b x y=>FI s b x y| .apZ s b z x y=>S7 s b z x y| .apS b x y=>S8 b x y| .bys a=>Kp a| .mk s b z l c=>S9 s b z l c
 | .emp a b c=>ael a b c| .cap a=>nM a| .mrk a=>Td a| .min a b=>Kq false a b| .max a b=>Kq true a b
 | .map=>fun t h=>okV (.a .any) t h
 | .cpy sz d a=>Tb sz d a
 | .call f args=>Tc call f args| .callV f args=>Ks call f args
 | _=>fun _ _=>.bad
def sGd(j:Od)(want:Bool)(f:ou):ou:=fun t h=>match qM j t with
 |some (.tu [])=>okV wa t h
 | _=>xF j t (fun t=>bif want then f t h else okV wa t h) (fun t=>bif want then okV wa t h else f t h)
def sOp(call:o7)(o:nT):ou:=match o with
 | .gd j w (.mn f)=>sGd j w (Ct call f)
 | .gd j w f=>sGd j w (Ct call f)
 | .mn (.gd j w f)=>sGd j w (Ct call f)
 | .mn f=>Ct call f
 |o=>Ct call o
def Nk(u v:Sv):Option LB:=match u,v with
 | .i k a,.i k' b=>bif qp k k'&&eqI a b then some (.l true)else none
 | .b a,.b b=>bif a then(bif b then some (.l true)else none)else(bif b then none else some (.l true))
 | .a v,.a w=>bif tD v w then some (.l true)else none
 | .rf r o,.rf r' o'=>bif Nat.beq r r'&&Nat.beq o o' then some (.l true)else none
 | .re r s i o,.re r' s' i' o'=>bif Nat.beq r r'&&(Nat.beq s s'&&Nat.beq o o')then some (.t (decide (i=i')))else none
 | .os r s,.os r' s'=>bif Nat.beq r r'&&Nat.beq s s' then some (.l true)else none
 | .ss r s o n,.ss r' s' o' n'=>bif Nat.beq r r'&&Nat.beq s s' then some (.t (decide (o=o')&&decide (n=n')))else none
 | .xo r s o n,.xo r' s' o' n'=>bif Nat.beq r r'&&(Nat.beq s s'&&(Nat.beq o o'&&Nat.beq n n'))then some (.l true)else none
 | .c m (.cp t) _,.c m' (.cp t') _=>bif Nat.blt 0 m&&Nat.beq m m' then some (.l true)else none
 |u,v=>match toN u,toN v with
  |some (k,a),some (k',b)=>bif qp k k' then some (.t (decide (a=b)))else none
  | _,_=>match toB u,toB v with
   |some a,some b=>some (.t (!(xor a.v b.v)))
   | _,_=>none
def Nl:List Sv->List Sv->Option LB
 | [],[]=>some (.l true)
 |a::l,b::m=>match Nk a b with
  |some c=>match Nl l m with
   |some d=>some (c.and d)
   |none=>none
  |none=>none
 | _,_=>none
def HH(u v:Sv):Option LB:=match u,v with
 | .ag l,.ag m=>Nl l m
 |u,v=>Nk u v
inductive Oc where
 |norm (t:Tq) (h:Hq)
 |ret (t:Tq) (h:Hq)
 |exit (i:Nat) (t:Tq) (h:Hq)
abbrev rk:=Tq->Hq->T Oc
def HI(s:Od)(sz:Nat)(g:Bool)(a:Od)(t:Tq)(h:Hq)(k:T (Tq×Hq)):T (Tq×Hq):=match qM a t with
 |some p=>(match Ei sz g p h with
  |some v=>(match qM s t with
   |some u=>(match HH u v with
    |some c=>ckL c k
    |none=>.bad)
   |none=>.bad)
  |none=>.bad)
 |none=>.bad
def Te(s:Od)(sz:Nat)(a:Od)(lo hi:Option Od)(t:Tq)(h:Hq)(k:T (Tq×Hq)):T (Tq×Hq):=(yG sz a lo hi t h).bd fun p=>match qM s t with
 |some u=>(match HH u p.1 with
  |some c=>ckL c k
  |none=>.bad)
 |none=>.bad
def Tf(s:Od)(n sz:Nat)(a:Od)(lo hi:Option Od)(t:Tq)(h:Hq)(k:T (Tq×Hq)):T (Tq×Hq):=(yH n sz a lo hi t h).bd fun p=>match qM s t with
 |some u=>(match HH u p.1 with
  |some c=>ckL c k
  |none=>.bad)
 |none=>.bad
def DF(s:Od)(t:Tq)(k:T (Tq×Hq)):T (Tq×Hq):=match qM s t with
 |some (.tu [])=>k
 | _=>.bad
def AM(call:o7)(r:xk):Tq->Hq->T (Tq×Hq):=
 xk.rec (motive:=fun _=>Tq->Hq->T (Tq×Hq)) (fun t h=>.ok (t,h))
  (fun i f _ ih t h=>bif Nat.blt i 512 then(sOp call f t h).bd fun p=>ih (p.2.1.put i (some p.1)) p.2.2 else .bad)
  (fun f _ ih t h=>(sOp call f t h).bd fun p=>ih p.2.1 p.2.2)
  (fun s f _ ih t h=>match f with
   | .ld sz g a=>HI s sz g a t h (ih t h)
   | .slN sz a lo hi=>Te s sz a lo hi t h (ih t h)
   | .slA n sz a lo hi=>Tf s n sz a lo hi t h (ih t h)
   | .gd j w (.ld sz g a)=>(match qM j t with
    |some (.b c)=>bif (bif w then c else !c)then HI s sz g a t h (ih t h)else DF s t (ih t h)
    |some (.tu [])=>DF s t (ih t h)
    | _=>.bad)
   | _=>.bad) r
def ue:nT->Bool
 | .mv _| .pk _ _ _| .ld _ _ _| .nl _| .bn _ _ _| .un _ _| .fa _ _| .fd _ _ _ _| .ixS _ _ _| .ixT _ _| .ex _ _| .ln _| .lnT _| .min _ _| .max _ _=>true
 | .gd _ _ (.mn _)=>false
 | .gd _ _ (.gd _ _ _)=>false
 | .gd _ _ f=>ue f
 | _=>false
def Cu(r:xk):Bool:=xk.rec true (fun _ f _ ih=>bif ue f then ih else false) (fun f _ ih=>bif ue f then ih else false) (fun _ _ _ ih=>ih) r
def Cv(r:xk):List Nat:=xk.rec [] (fun i _ _ ih=>i::ih) (fun _ _ ih=>ih) (fun _ _ _ ih=>ih) r
def mgV(c:Bool)(v w:Sv):Option Sv:=match v,w with
 | .b x,.b y=>bif (bif x then y else !y)then some (.b x)else some (.c 0 .bool (bif c then x else y))
 | .a x,.a y=>bif tD x y then some (.a x)else none
 | .rf r o,.rf r' o'=>bif Nat.beq r r'&&Nat.beq o o' then some (.rf r o)else none
 | .os r o,.os r' o'=>bif Nat.beq r r'&&Nat.beq o o' then some (.os r o)else none
 | .c m (.cp t) x,.c m' (.cp t') y=>(match zk t' t with
  |some ⟨e⟩=>some (.c 0 (.cp t) (bif c then x else(e▸y:List (den t))))
  |none=>none)
 | .i k x,.i k' y=>bif qp k k' then(bif eqI x y then some (.i k x)else some (.c 0 (.int k) (bif c then x else y)))else none
 |v,w=>match toN v,toN w with
  |some (k,x),some (k',y)=>bif qp k k' then some (.c 0 (.int k) (bif c then x else y))else none
  | _,_=>match toB v,toB w with
   |some x,some y=>some (.c 0 .bool (bif c then x.v else y.v))
   | _,_=>none
def mgO(c:Bool)(v w:Option Sv):Option Sv:=match v with
 |some v=>(match w with
  |some w=>mgV c v w
  |none=>none)
 |none=>none
def mgT(Dk:List Nat)(c:Bool)(T0 a b:Tq):Tq:=List.rec T0 (fun i _ ih=>ih.put i (mgO c (a.at i) (b.at i))) Dk
def LB.cond(c:Bool):LB->LB->LB
 | .l true,.l true=>.l true
 | .l x,.l y=>.t (bif c then x else y)
 | .l x,.t y=>.t (bif c then x else y)
 | .t x,.l y=>.t (bif c then x else y)
 | .t x,.t y=>.t (bif c then x else y)
def mgR(Dk:List Nat)(T0:Tq)(x:T (Tq×Hq)):LB×Tq:=T.rec (motive:=fun _=>LB×Tq) (.l false,T0) (fun p=>(.l true,p.1))
 (fun c _ _ a b=>(LB.cond c a.1 b.1,mgT Dk c T0 a.2 b.2))
 (fun c _ a=>(LB.and (.t c) a.1,a.2)) x
def YO(call:o7)(r:xk):Tq->Hq->T (Tq×Hq):=fun t h=>bif Cu r&&oD (fun i=>Nat.blt i 512) (Cv r)then(match mgR (Cv r) t (AM call r t h)with
 |(c,t')=>ckL c (.ok (t',h)))else AM call r t h
def PN(a:T Oc)(b:rk):T Oc:=a.bd fun o=>match o with
 | .norm t h=>b t h
 |o=>.ok o
def blO(id:Nat)(a:T Oc):T Oc:=a.bd fun o=>match o with
 | .exit i t h=>.ok (bif Nat.beq i id then .norm t h else .exit i t h)
 |o=>.ok o
def sCd(L:Nat->Option rk)(call:o7)(m:Nat)(c:uq):rk:=
 uq.rec (motive:=fun _=>rk) (fun r t h=>(YO call r t h).bd fun p=>.ok (.norm p.1 p.2)) (fun t h=>.ok (.norm t h))
  (fun _ _ a b t h=>PN (a t h) b)
  (fun c _ _ a b t h=>xF c t (fun t=>a t h) (fun t=>b t h))
  (fun id _ b t h=>match L id with
   |some f=>f t h
   |none=>blO id (b t h))
  (fun _ b=>Nat.rec (motive:=fun _=>rk) (fun _ _=>.bad) (fun _ ih t h=>PN (b t h) ih) m)
  (fun i t h=>.ok (.exit i t h)) (fun t h=>.ok (.ret t h)) (fun _ _=>.bad) c
def aeo(t:Tq)(h:Hq):RV->Option Sv
 | .tmp i=>bif Nat.blt i 512 then t.at i else none
 | .cell i size agg=>match(bif Nat.blt i 512 then t.at i else none)with
  |some p=>Ei size agg p h
  |none=>none
def Tg(t:Tq)(h:Hq)(l:List RV):Option (List Sv):=List.rec (some []) (fun r _ ih=>match aeo t h r with
 |some v=>match ih with
  |some vs=>some (v::vs)
  |none=>none
 |none=>none) l
def Th(res:List RV)(t:Tq)(h:Hq):T (Sv×Hq):=match Tg t h res with
 |some [v]=>.ok (v,h)
 |some vs=>.ok (.tu vs,h)
 |none=>.bad
def Kt(l:List Sv):Nat->Tq->Tq:=List.rec (fun _ t=>t) (fun v _ ih i t=>ih (Nat.add i 1) (t.put i (some v))) l
def HJ(L:Nat->Option rk)(b:Dj)(m:Nat)(c:o7)(args:List Sv)(h:Hq):T (Sv×Hq):=
 bif Nat.ble (len args) b.ntmps then(sCd L c m b.code (Kt args 0 Tq.none) h).bd fun o=>match o with
  | .norm t h=>Th b.res t h
  | .ret t h=>Th b.res t h
  | _=>.bad else .bad
end Lf
end Go.Ab

noncomputable section
namespace Go.Ab
namespace Lf
structure Kr where
 av:AV
 n:Nat
structure En where
 K:Nat->Kr
 tk:Nat->AV
 G:Nat->Option Rw
 A:Nat->AV
section
variable {α:Type}
def ru(E:α->List AV->Prop):List α->List AV->Prop
 | [],cs=>cs=[]
 |x::xs,cs=> ∃ c r,cs=c++r/\E x c/\ru E xs r
theorem ru.mono{E E':α->List AV->Prop}(h: ∀ x c,E x c->E' x c): ∀ {l:List α} {cs:List AV},ru E l cs->ru E' l cs
 | [],_,e=>e
 | _::_,_,⟨c,r,e,a,b⟩=>⟨c,r,e,h _ _ a,ru.mono h b⟩
theorem ru.app{E:α->List AV->Prop}: ∀ {l m:List α} {cs ds:List AV},ru E l cs->ru E m ds->ru E (l++m) (cs++ds)
 | [],_,_,_,e,k=>by have e':_=[]:=e;subst e';simpa using k
 | _::_,_,_,_,⟨c,r,e,a,b⟩,k=>by subst e;exact⟨c,r++_,by simp,a,ru.app b k⟩
theorem ru.length{E:α->List AV->Prop}{s:Nat}(h: ∀ x c,E x c->c.length=s): ∀ {l:List α} {cs:List AV},ru E l cs->cs.length=l.length*s
 | [],_,e=>by have e':_=[]:=e;subst e';simp
 | _::_,_,⟨c,r,e,a,b⟩=>by subst e;rw[List.length_append,h _ _ a,ru.length h b,List.length_cons,Nat.succ_mul];omega
theorem ru.drop{E:α->List AV->Prop}{s:Nat}(h: ∀ x c,E x c->c.length=s): ∀ (n:Nat) {l:List α} {cs:List AV},ru E l cs->ru E (l.drop n) (cs.drop (n*s))
 |0,_,_,e=>by simpa using e
 |n+1,[],_,e=>by have e':_=[]:=e;subst e';simp;rfl
 |n+1,_::_,_,⟨c,r,e,a,b⟩=>by
  subst e
  have:=ru.drop h n b
  rw[List.drop_succ_cons,Nat.succ_mul,Nat.add_comm,<-List.drop_drop,List.drop_append_of_le_length (by rw[h _ _ a];exact Nat.le_refl _),<-h _ _ a,List.drop_length,List.nil_append,h _ _ a]
  exact this
theorem ru.take{E:α->List AV->Prop}{s:Nat}(h: ∀ x c,E x c->c.length=s): ∀ (n:Nat) {l:List α} {cs:List AV},ru E l cs->ru E (l.take n) (cs.take (n*s))
 |0,_,_,e=>by simp;rfl
 |n+1,[],_,e=>by have e':_=[]:=e;subst e';simp;rfl
 |n+1,_::_,_,⟨c,r,e,a,b⟩=>by
  subst e
  have:=ru.take h n b
  refine⟨c,r.take (n*s),?_,a,this⟩
  rw[Nat.succ_mul,Nat.add_comm,<-h _ _ a,List.take_length_add_append]
theorem ru.get{E:α->List AV->Prop}{s:Nat}(h: ∀ x c,E x c->c.length=s){l:List α}{cs:List AV}(e:ru E l cs){i:Nat}(hi:i<l.length)(d:α):E (l.getD i d) ((cs.drop (i*s)).take s):=by
 induction l generalizing cs i with
 |nil=>simp at hi
 |cons x l ih=>
  obtain⟨c,r,rfl,a,b⟩:=e
  cases i with
  |zero=>simp only[Nat.zero_mul,List.drop_zero,List.getD_cons_zero];rw[List.take_append_of_le_length (by rw[h _ _ a];exact Nat.le_refl _),<-h _ _ a,List.take_length];exact a
  |succ i=>
   rw[List.getD_cons_succ,Nat.succ_mul,Nat.add_comm,<-List.drop_drop,List.drop_append_of_le_length (by rw[h _ _ a];exact Nat.le_refl _),<-h _ _ a,List.drop_length,List.nil_append,h _ _ a]
   exact ih b (by simpa using hi)
end
def Nn(G:Nat->Option Rw)(t:Ty)(E:den t->List AV->Prop)(x:List (den t))(a:AV):Prop:=
 (nr a=true/\x=[])∨ ∃ ls,ru E x ls/\(a=.rJ x.length ls∨ ∃ id base row,a=.nW id base x.length (size t)/\G id=some row/\row.ri base (x.length*size t)=some ls)
def EV(G:Nat->Option Rw):(t:Ty)->den t->List AV->Prop
 | .int k,x,cs=>cs=[.int k x]
 | .bool,x,cs=>cs=[.bool x]
 | .str,x,cs=>cs=[.sc (.string x)]
 | .cp t,x,cs=> ∃ a,cs=[a]/\Nn G t (EV G t) x a
 | .pair a b,x,cs=> ∃ c d,cs=c++d/\EV G a x.1 c/\EV G b x.2 d
def YP(G G':Nat->Option Rw):Prop:= ∀ id row,G id=some row->G' id=some row
theorem Nn.mono{G G':Nat->Option Rw}(h:YP G G'){t:Ty}{E E':den t->List AV->Prop}(he: ∀ x c,E x c->E' x c){x:List (den t)}{a:AV}(k:Nn G t E x a):Nn G' t E' x a:=by
 rcases k with k|⟨ls,k1,k2⟩
 ·exact .inl k
 ·refine .inr ⟨ls,k1.mono he,?_⟩
  rcases k2 with k2|⟨id,base,row,e,g,s⟩
  ·exact .inl k2
  ·exact .inr ⟨id,base,row,e,h _ _ g,s⟩
theorem EV.mono{G G':Nat->Option Rw}(h:YP G G'): ∀ (t:Ty) (x:den t) (cs:List AV),EV G t x cs->EV G' t x cs
 | .int _,_,_,e=>e
 | .bool,_,_,e=>e
 | .str,_,_,e=>e
 | .cp t,_,_,⟨a,e,k⟩=>⟨a,e,k.mono h (EV.mono h t)⟩
 | .pair a b,_,_,⟨c,d,e,k1,k2⟩=>⟨c,d,e,EV.mono h a _ _ k1,EV.mono h b _ _ k2⟩
theorem EV.length{G:Nat->Option Rw}: ∀ (t:Ty) (x:den t) (cs:List AV),EV G t x cs->cs.length=size t
 | .int _,_,_,e=>by have e':_=_:=e;rw[e'];rfl
 | .bool,_,_,e=>by have e':_=_:=e;rw[e'];rfl
 | .str,_,_,e=>by have e':_=_:=e;rw[e'];rfl
 | .cp t,_,_,⟨a,e,k⟩=>by rw[e];rfl
 | .pair a b,_,_,⟨c,d,e,k1,k2⟩=>by
  have h1:=EV.length a _ _ k1
  have h2:=EV.length b _ _ k2
  show _=Nat.add (size a) (size b)
  rw[e,List.length_append,h1,h2];rfl
theorem u7{a:AV}(h:nr a=true):nA a=true:=by cases a<;>first|rfl|cases h
theorem EV.nA{G:Nat->Option Rw}: ∀ (t:Ty) (x:den t) (cs:List AV),EV G t x cs-> ∀ a,a∈cs->nA a=true
 | .int _,_,_,e=>by have e':_=_:=e;rw[e'];intro a ha;simp at ha;subst ha;rfl
 | .bool,_,_,e=>by have e':_=_:=e;rw[e'];intro a ha;simp at ha;subst ha;rfl
 | .str,_,_,e=>by have e':_=_:=e;rw[e'];intro a ha;simp at ha;subst ha;rfl
 | .cp t,_,_,⟨a,e,k⟩=>by
  rw[e];intro b hb;simp at hb;subst hb
  rcases k with⟨k,_⟩|⟨_,_,k|⟨_,_,_,k,_⟩⟩
  ·exact u7 k
  ·rw[k];rfl
  ·rw[k];rfl
 | .pair a b,_,_,⟨c,d,e,k1,k2⟩=>by
  rw[e];intro x hx
  rcases List.mem_append.1 hx with h|h
  ·exact EV.nA a _ _ k1 x h
  ·exact EV.nA b _ _ k2 x h
theorem ru.nA{α:Type}{E:α->List AV->Prop}(h: ∀ x c,E x c-> ∀ a,a∈c->nA a=true): ∀ {l:List α} {cs:List AV},ru E l cs-> ∀ a,a∈cs->nA a=true
 | [],_,e=>by have e':_=[]:=e;subst e';intro a ha;simp at ha
 | _::_,_,⟨c,r,e,a,b⟩=>by
  subst e;intro y hy
  rcases List.mem_append.1 hy with k|k
  ·exact h _ _ a y k
  ·exact ru.nA h b y k
mutual
inductive V (E:En) (N:Nat):Sv->AV->Prop
 |i {k n}:V E N (.i k n) (.int k n)
 |b {b}:V E N (.b b) (.bool b)
 |a {v}:acd v=true->V E N (.a v) v
 |c {m t x a}:EV E.G t x [a]->(m≠0->m<N/\a=E.tk m)->V E N (.c m t x) a
 |ag {l l'}:Vs E N l l'->V E N (.ag l) (.agg l')
 |tu {l l'}:Vs E N l l'->V E N (.tu l) (.wZ l')
 |fn {f l l'}:Vs E N l l'->V E N (.fn f l) (.fn f l')
 |rf {r o id}:r<N->(E.K r).av=.ref id 0->V E N (.rf r o) (.ref id o)
 |re {r sz i o id base n}:r<N->(E.K r).av=.nW id base n sz->i<n->V E N (.re r sz i o) (.ref id (base+i*sz+o))
 |os {r sz}:r<N->((nr (E.K r).av=true/\(E.K r).n=0)∨ ∃ id base,(E.K r).av=.nW id base (E.K r).n sz)->V E N (.os r sz) (E.K r).av
 |se {r sz off}:r<N->nr (E.K r).av=true->(E.K r).n=0->off=0->V E N (.ss r sz off 0) (E.K r).av
 |ss {r sz off n id base}:r<N->(E.K r).av=.nW id base (E.K r).n sz->off+n<=(E.K r).n->V E N (.ss r sz off n) (.nW id (base+off*sz) n sz)
 |xo {r sz off n id}:r<N->(E.K r).av=.ref id 0->V E N (.xo r sz off n) (.nW id off n sz)
 |zp {l l' r}:Vs E N l l'->V E N (.zp l) (.py (l'++r))
 |zr {l l' id off row}:Vs E N l l'->E.G id=some row->row.ri off l.length=some l'->V E N (.zp l) (.ref id off)
inductive Vs (E:En) (N:Nat):List Sv->List AV->Prop
 |nil:Vs E N [] []
 |cons {a c l l'}:V E N a c->Vs E N l l'->Vs E N (a::l) (c::l')
end
structure Bh(E E':En)(N:Nat):Prop where
 K: ∀ r,r<N->E'.K r=E.K r
 tk: ∀ r,r<N->E'.tk r=E.tk r
 G:YP E.G E'.G
 A:E'.A=E.A
theorem Bh.refl(E:En)(N:Nat):Bh E E N:=⟨fun _ _=>rfl,fun _ _=>rfl,fun _ _ e=>e,rfl⟩
section
variable {E E':En}{N N':Nat}
mutual
theorem V.mono(h:Bh E E' N)(hN:N<=N'): ∀ {a c},V E N a c->V E' N' a c
 | _,_,.i=>.i
 | _,_,.b=>.b
 | _,_,.a k=>.a k
 | _,_,.c k m=>.c (EV.mono h.G _ _ _ k) fun e=>⟨Nat.lt_of_lt_of_le (m e).1 hN,by rw[h.tk _ (m e).1];exact(m e).2⟩
 | _,_,.ag k=>.ag (Vs.mono h hN k)
 | _,_,.tu k=>.tu (Vs.mono h hN k)
 | _,_,.fn k=>.fn (Vs.mono h hN k)
 | _,_,.rf a b=>.rf (Nat.lt_of_lt_of_le a hN) (by rw[h.K _ a];exact b)
 | _,_,.re a b c=>.re (Nat.lt_of_lt_of_le a hN) (by rw[h.K _ a];exact b) c
 | _,_,.os (r:=r) a b=>by rw[<-h.K _ a];exact .os (Nat.lt_of_lt_of_le a hN) (by rw[h.K _ a];exact b)
 | _,_,.se (r:=r) a b c d=>by rw[<-h.K _ a];exact .se (Nat.lt_of_lt_of_le a hN) (by rw[h.K _ a];exact b) (by rw[h.K _ a];exact c) d
 | _,_,.ss a b c=>.ss (Nat.lt_of_lt_of_le a hN) (by rw[h.K _ a];exact b) (by rw[h.K _ a];exact c)
 | _,_,.xo a b=>.xo (Nat.lt_of_lt_of_le a hN) (by rw[h.K _ a];exact b)
 | _,_,.zp k=>.zp (Vs.mono h hN k)
 | _,_,.zr k g s=>.zr (Vs.mono h hN k) (h.G _ _ g) s
theorem Vs.mono(h:Bh E E' N)(hN:N<=N'): ∀ {l l'},Vs E N l l'->Vs E' N' l l'
 | _,_,.nil=>.nil
 | _,_,.cons a b=>.cons (V.mono h hN a) (Vs.mono h hN b)
end
theorem Vs.length{l l'}(h:Vs E N l l'):l.length=l'.length:=by
 induction l generalizing l' with
 |nil=>cases h;rfl
 |cons a l ih=>cases h with|cons _ h=>simp[ih h]
theorem Vs.app{l l' m m'}(h:Vs E N l l')(k:Vs E N m m'):Vs E N (l++m) (l'++m'):=by
 induction l generalizing l' with
 |nil=>cases h;exact k
 |cons a l ih=>cases h with|cons a h=>exact .cons a (ih h)
theorem Vs.drop{l l'}(h:Vs E N l l')(n:Nat):Vs E N (l.drop n) (l'.drop n):=by
 induction n generalizing l l' with
 |zero=>simpa using h
 |succ n ih=>
  cases h with
  |nil=>simp;exact .nil
  |cons a h=>simpa using ih h
theorem Vs.take{l l'}(h:Vs E N l l')(n:Nat):Vs E N (l.take n) (l'.take n):=by
 induction n generalizing l l' with
 |zero=>simp;exact .nil
 |succ n ih=>
  cases h with
  |nil=>simp;exact .nil
  |cons a h=>simpa using .cons a (ih h)
theorem Vs.get{l l'}(h:Vs E N l l'){i:Nat}{a}(e:l[i]? =some a): ∃ c,l'[i]? =some c/\V E N a c:=by
 induction l generalizing l' i with
 |nil=>simp at e
 |cons b l ih=>
  cases h with
  |cons hb h=>
   cases i with
   |zero=>simp at e;subst e;exact⟨_,by simp,hb⟩
   |succ i=>simpa using ih h (by simpa using e)
theorem HK{c:AV}(h:acd c=true):nA c=true:=by cases c<;>first|rfl|cases h
theorem HL{c:AV}(h:nA c=true):c.cells=[c]:=by cases c<;>first|rfl|cases h
theorem V.one{a c}(h:V E N a c)(e:HD a=true):nA c=true:=by
 cases h with
 |a h=>exact HK h
 |c h _=>exact EV.nA _ _ _ h _ (by simp)
 |ag h=>cases e
 |tu h=>cases e
 |os _ h=>rcases h with⟨h,_⟩|⟨_,_,h⟩
          ·exact u7 h
          ·rw[h];rfl
 |se _ h _ _=>exact u7 h
 | _=>rfl
theorem V.cells{a c}(h:V E N a c):Vs E N a.cells c.cells:=by
 by_cases e:HD a=true
 ·rw[HL (h.one e)]
  have:a.cells=[a]:=by cases a<;>first|rfl|cases e
  rw[this];exact .cons h .nil
 ·cases h with
  |ag h=>exact h
  |tu h=>exact .cons (.tu h) .nil
  | _=>exact(e rfl).elim
theorem Vs.JN{l l'}(h:Vs E N l l')(e: ∀ a,a∈l->HD a=true): ∀ a,a∈l'->nA a=true:=by
 induction l generalizing l' with
 |nil=>cases h;intro a ha;simp at ha
 |cons b l ih=>
  cases h with
  |cons hb h=>
   intro a ha
   rcases List.mem_cons.1 ha with k|k
   ·subst k;exact hb.one (e _ List.mem_cons_self)
   ·exact ih h (fun a ha=>e a (List.mem_cons_of_mem _ ha)) a k
theorem beq_true{a b:Nat}(h:Nat.beq a b=true):a=b:=Nat.eq_of_beq_eq_true h
theorem cR{α:Type}{b:Bool}{x:Option α}{y:α}(h:(bif b then x else none)=some y):b=true/\x=some y:=by cases b<;>simp_all
theorem PQ{l:List Sv}{off n:Nat}{r:List Sv}(h:aiJ l off n=some r):r=(l.drop off).take n/\r.length=n:=by
 change (bif Nat.beq (len (tk n (dp off l))) n then some (tk n (dp off l))else none)=some r at h
 rw[vJ,qR,cQ]at h
 cases hb:Nat.beq (List.take n (List.drop off l)).length n with
 |false=>rw[hb]at h;cases h
 |true=>rw[hb]at h;cases h;exact⟨rfl,beq_true hb⟩
theorem xG{l:List AV}{off n:Nat}(h:((l.drop off).take n).length=n):A6 l off n=some ((l.drop off).take n):=by
 change (bif Nat.beq (len (tk n (dp off l))) n then some (tk n (dp off l))else none)=_
 rw[vJ,qR,cQ,h,Nat.beq_refl]
 rfl
theorem uF{agg:Bool}{l:List Sv}{l':List AV}{off n:Nat}{r:Sv}(h:Vs E N l l')(e:Co agg l off n=some r): ∃ c,part agg l' off n=some c/\V E N r c:=by
 unfold Co at e
 split at e
 ·cases e
 ·rename_i s hs
  obtain⟨rfl,hl⟩:=PQ hs
  have hv:=(h.drop off).take n
  have hsg:=xG (l:=l') (off:=off) (n:=n) (by rw[<-hv.length,hl])
  unfold part
  rw[hsg]
  cases agg with
  |true=>cases e;exact⟨_,rfl,.ag hv⟩
  |false=>
   simp only[cond_false]at e ⊢
   generalize (List.take n (List.drop off l))=s at e hv
   generalize (List.take n (List.drop off l'))=s' at hv ⊢
   split at e
   ·cases e
    cases hv with
    |cons a b=>cases b;exact⟨_,rfl,a⟩
   ·cases e
theorem Ku{r:Rw}{off k:Nat}(h:off+k<=r.toL.length):r.ri off k=some ((r.toL.drop off).take k):=by
 rw[nR]at h
 have hs:r.ri off k=some (r.cells k off):=by unfold Rw.ri;rw[show Nat.ble (Nat.add off k) r.n=true from(by rw[Nat.ble_eq];exact h)];rfl
 rw[hs,(qS hs).1]
theorem nU{r:Rw}{off k:Nat}{l:List AV}:r.ri off k=some l↔off+k<=r.n/\l=(r.toL.drop off).take k:=by
 constructor
 ·intro h
  have h1:=qS h
  unfold Rw.ri at h
  obtain⟨hb,_⟩:=cR h
  exact⟨by have:=Nat.le_of_ble_eq_true hb;exact this,h1.1⟩
 ·rintro⟨h,rfl⟩;exact Ku (by rw[nR];exact h)
theorem Ti{agg:Bool}{r:Rw}{off n:Nat}{c:AV}(hn:0<n)(h:part agg r.toL off n=some c):xe agg r off n=some c:=by
 unfold part at h
 split at h
 ·cases h
 ·rename_i s hs
  obtain⟨rfl,hl⟩:=sJ hs
  unfold xe
  rw[Ku (by rw[List.length_take,List.length_drop]at hl;omega)];exact h
theorem wH{G:Nat->Option Rw}(hg:E.G=G): ∀ (t:Ty) (x:den t) (cs:List AV),EV G t x cs->Vs E N (ud t x) cs
 | .int _,_,_,e=>by have e':_=_:=e;subst e';exact .cons (.c (by rw[hg];exact e) (fun h=>(h rfl).elim)) .nil
 | .bool,_,_,e=>by have e':_=_:=e;subst e';exact .cons (.c (by rw[hg];exact e) (fun h=>(h rfl).elim)) .nil
 | .str,_,_,e=>by have e':_=_:=e;subst e';exact .cons (.c (by rw[hg];exact e) (fun h=>(h rfl).elim)) .nil
 | .cp t,_,_,⟨a,e,k⟩=>by subst e;exact .cons (.c (by rw[hg];exact⟨a,rfl,k⟩) (fun h=>(h rfl).elim)) .nil
 | .pair a b,x,_,⟨c,d,e,k1,k2⟩=>by
  subst e
  show Vs E N (app (ud a x.1) (ud b x.2)) _
  rw[mP]
  exact(wH hg a _ _ k1).app (wH hg b _ _ k2)
end
def Row.live:Row->Bool
 | .o _ _| .l _ _=>true
 | _=>false
def own(H:Hq)(r:Nat):Prop:= ∃ R,H.cw.get r=some R/\R.live=true
def r9:AV->Option Nat
 | .ref id _=>some id
 | .nW id _ _ _=>some id
 | _=>none
theorem PR{a:AV}(h:nr a=true):r9 a=none:=by cases a<;>first|rfl|cases h
def LR(G:Nat->Option Rw)(t:Ty)(x:List (den t))(k:Kr)(S:Nat->Option Rw):Prop:=
 x.length=k.n/\((nr k.av=true/\x=[])∨ ∃ id base row ls,k.av=.nW id base k.n (size t)/\S id=some row/\row.ri base (k.n*size t)=some ls/\ru (EV G t) x ls)
def RV(E:En)(N:Nat)(h:Hp)(k:Kr):Row->Prop
 | .o g l=> ∃ id row,k.av=.ref id 0/\h.cw.get id=some row/\Vs E N l row.toL/\(g≠0->k.av=E.A g)
 | .zo l=> ∃ id row,k.av=.ref id 0/\E.G id=some row/\Vs E N l row.toL
 | .l t x=>LR E.G t x k h.cw.get
 | .z t x=>LR E.G t x k E.G
structure SR(E:En)(H:Hq)(h:Hp):Prop where
 row: ∀ r R,H.cw.get r=some R->r<H.next/\RV E H.next h (E.K r) R
 inj: ∀ r r' id,own H r->own H r'->r9 (E.K r).av=some id->r9 (E.K r').av=some id->r=r'
 lt: ∀ r id,own H r->r9 (E.K r).av=some id->id<h.next
 g: ∀ id row,E.G id=some row->id<h.next/\h.cw.get id=some row/\ ∀ r,own H r->r9 (E.K r).av≠some id
def TV(E:En)(N:Nat)(T:Tq)(t:Tm):Prop:= ∀ i v,i<512->T.at i=some v-> ∃ a,t.at i=some a/\V E N v a
structure Nx(E E':En)(H H':Hq)(h h':Hp):Prop where
 e:Bh E E' H.next
 le:H.next<=H'.next
 FJ:h.next<=h'.next
 ow: ∀ r id,own H' r->r9 (E'.K r).av=some id->(∃ r0,own H r0/\r9 (E.K r0).av=some id)∨h.next<=id
 gw: ∀ id row,E'.G id=some row->E.G id=some row∨(∃ r0,own H r0/\r9 (E.K r0).av=some id)∨h.next<=id
 fr: ∀ id,id<h.next->(∀ r,own H r->r9 (E.K r).av≠some id)->h'.cw.get id=h.cw.get id
theorem Nx.refl(E:En)(H:Hq)(h:Hp):Nx E E H H h h:=
 ⟨Bh.refl _ _,Nat.le_refl _,Nat.le_refl _,fun r _ a b=>.inl ⟨r,a,b⟩,fun _ _ a=>.inl a,fun _ _ _=>rfl⟩
theorem Bh.trans{E E1 E2:En}{N N1:Nat}(a:Bh E E1 N)(b:Bh E1 E2 N1)(h:N<=N1):Bh E E2 N where
 K r hr:=(b.K r (Nat.lt_of_lt_of_le hr h)).trans (a.K r hr)
 tk r hr:=(b.tk r (Nat.lt_of_lt_of_le hr h)).trans (a.tk r hr)
 G id row e:=b.G id row (a.G id row e)
 A:=b.A.trans a.A
theorem Nx.trans{E E1 E2:En}{H H1 H2:Hq}{h h1 h2:Hp}(a:Nx E E1 H H1 h h1)(b:Nx E1 E2 H1 H2 h1 h2):Nx E E2 H H2 h h2 where
 e:=a.e.trans b.e a.le
 le:=Nat.le_trans a.le b.le
 FJ:=Nat.le_trans a.FJ b.FJ
 ow r id k e:=by
  rcases b.ow r id k e with⟨r0,k0,e0⟩|k0
  ·exact a.ow r0 id k0 e0
  ·exact .inr (Nat.le_trans a.FJ k0)
 gw id row e:=by
  rcases b.gw id row e with k|⟨r0,k0,e0⟩|k
  ·exact a.gw id row k
  ·rcases a.ow r0 id k0 e0 with k|k
   ·exact .inr (.inl k)
   ·exact .inr (.inr k)
  ·exact .inr (.inr (Nat.le_trans a.FJ k))
 fr id hi hn:=by
  rw[b.fr id (Nat.lt_of_lt_of_le hi a.FJ) fun r k e=>?_,a.fr id hi hn]
  rcases a.ow r id k e with⟨r0,k0,e0⟩|k0
  ·exact hn r0 k0 e0
  ·omega
theorem TV.mono{E E':En}{N N':Nat}{T:Tq}{t:Tm}(h:TV E N T t)(e:Bh E E' N)(hN:N<=N'):TV E' N' T t:=fun i v hi hv=>by
 obtain⟨a,h1,h2⟩:=h i v hi hv
 exact⟨a,h1,h2.mono e hN⟩
theorem Tq.qy(t:Tq)(i j:Nat)(x:Option Sv)(hi:i<512)(hj:j<512):(t.put i x).at j=if j=i then x else t.at j:=by
 unfold Tq.at Tq.put
 rw[F8.wB _ _ _ _ (by omega) (by omega)]
 by_cases h1:j / 64=i / 64
 ·rw[if_pos h1,F8.wB _ _ _ _ (by omega) (by omega)]
  by_cases h2:j / 8 % 8=i / 8 % 8
  ·rw[if_pos h2,F8.wB _ _ _ _ (by omega) (by omega)]
   by_cases h3:j % 8=i % 8
   ·rw[if_pos h3,if_pos (by omega)]
   ·rw[if_neg h3,if_neg (by omega),h1,h2]
  ·rw[if_neg h2,if_neg (by omega),h1]
 ·rw[if_neg h1,if_neg (by omega)]
section
variable {α β:Type}
theorem T.aep(a:α):(T.ok a).val=some a:=rfl
theorem T.wb(c:Bool)(a b:T α):(T.br c a b).val=bif c then a.val else b.val:=rfl
theorem T.FK(c:Bool)(a:T α):(T.ck c a).val=bif c then a.val else none:=rfl
theorem T.Kv(x:T α)(f:α->T β):(x.bd f).val=x.val.bind fun a=>(f a).val:=by
 induction x with
 |bad=>rfl
 |ok a=>rfl
 |br c a b xr BG=>
  show(bif c then(a.bd f).val else(b.bd f).val)=(bif c then a.val else b.val).bind _
  cases c<;>simp[xr,BG]
 |ck c a ih=>
  show(bif c then(a.bd f).val else none)=(bif c then a.val else none).bind _
  cases c<;>simp[ih]
theorem T.mZ{x:T α}{f:α->T β}{b:β}(h:(x.bd f).val=some b): ∃ a,x.val=some a/\(f a).val=some b:=by
 rw[T.Kv]at h
 cases e:x.val with
 |none=>rw[e]at h;cases h
 |some a=>rw[e]at h;exact⟨a,rfl,h⟩
theorem T.cP{c:Bool}{x:T α}{b:α}(h:(T.ck c x).val=some b):c=true/\x.val=some b:=by
 rw[T.FK]at h;exact cR h
theorem tl{c:LB}{x:T α}{b:α}(h:(ckL c x).val=some b):c.v=true/\x.val=some b:=by
 cases c with
 |l c=>cases c with
  |true=>exact⟨rfl,h⟩
  |false=>cases h
 |t c=>exact T.cP h
end
def Ev{α:Type}(p:Nat->Nat->α)(r:α):Prop:= ∃ M,∀ n d,M<=n->M<=d->p n d=r
theorem Ev.const{α:Type}{x r:α}(h:x=r):Ev (fun _ _=>x) r:=⟨0,fun _ _ _ _=>h⟩
abbrev cx:=Nat->Nat->mS
abbrev OpN:=Nat->Nat->nY
def og(f:ou)(g:OpN):Prop:= ∀ (E:En) (T:Tq) (t:Tm) (H:Hq) (h:Hp) (v:Sv) (T':Tq) (H':Hq),TV E H.next T t->SR E H h->(f T H).val=some (v,T',H')->
 ∃ c h' E',Ev (fun n d=>g n d t h) (.ok c h')/\Nx E E' H H' h h'/\SR E' H' h'/\V E' H'.next v c/\TV E' H'.next T' t
theorem mX{f:ou}{g:nY}(k: ∀ (E:En) (T:Tq) (t:Tm) (H:Hq) (h:Hp) (v:Sv) (T':Tq) (H':Hq),TV E H.next T t->SR E H h->(f T H).val=some (v,T',H')->H'=H/\T'=T/\ ∃ c,g t h=.ok c h/\V E H.next v c):og f (fun _ _=>g):=by
 intro E T t H h v T' H' hT hH e
 obtain⟨rfl,rfl,c,e1,hv⟩:=k E T t H h v T' H' hT hH e
 exact⟨c,h,E,Ev.const e1,Nx.refl _ _ _,hH,hv,hT⟩
theorem YQ{g:OpN}:og (fun _ _=>.bad) g:=by intro E T t H h v T' H' _ _ e;cases e
end Lf
end Go.Ab

noncomputable section
namespace Go.Ab
namespace Lf
section
variable {E:En}{N:Nat}
theorem Tj{a:AV}{b:Sv}(h:ofA a=some b):V E N b a:=by
 unfold ofA at h
 split at h
 ·cases h;exact .i
 ·cases h;exact .b
 ·cases h;exact .a rfl
 ·cases h;exact .a rfl
 ·cases h;exact .a rfl
 ·cases h;exact .tu .nil
 ·cases h;exact .fn .nil
 ·cases h
theorem yJ{l:List AV}: ∀ {m:List Sv},PL l=some m->Vs E N m l:=by
 induction l with
 |nil=>intro m h;cases h;exact .nil
 |cons a l ih=>
  intro m h
  change (match ofA a with|some b=>(match PL l with|some r=>some (b::r)|none=>none)|none=>none)=some m at h
  split at h
  ·rename_i b hb
   split at h
   ·rename_i r hr;cases h;exact .cons (Tj hb) (ih hr)
   ·cases h
  ·cases h
theorem cG{T:Tq}{t:Tm}(hT:TV E N T t){o:Od}{a:Sv}(h:qM o T=some a): ∃ c,cI o t=some c/\V E N a c:=by
 cases o with
 |t i=>
  change (bif Nat.blt i 512 then T.at i else none)=some a at h
  obtain⟨hi,h⟩:=cR h
  exact hT i a (cM.1 hi) h
 |c v=>exact⟨v,rfl,Tj h⟩
 |zz=>cases h
 |w o=>cases h
theorem uf{T:Tq}{t:Tm}(hT:TV E N T t){o:Od}{a:Sv}(h:opw o T=some a): ∃ c,cI o t=some (zt c)/\V E N a c:=by
 cases o with
 |w o=>
  obtain⟨c,hc,hv⟩:=cG hT (o:=o) h
  refine⟨c,?_,hv⟩
  show(Option.rec none (fun a=>some (zt a)) (cI o t):Option AV)=_
  rw[hc]
 | _=>cases h
theorem FL{T:Tq}{t:Tm}(hT:TV E N T t): ∀ {l:List Od} {vs:List Sv},SU l T=some vs->(∃ cs,zu (l.map cI) t=some cs/\Vs E N vs cs):=by
 intro l
 induction l with
 |nil=>intro vs h;cases h;exact⟨[],rfl,.nil⟩
 |cons o l ih=>
  intro vs h
  change (match qM o T with|some v=>(match SU l T with|some vs=>some (v::vs)|none=>none)|none=>none)=some vs at h
  split at h
  ·rename_i v hv
   split at h
   ·rename_i us hu
    cases h
    obtain⟨c,hc,oN⟩:=cG hT hv
    obtain⟨cs,rj,aeq⟩:=ih hu
    refine⟨c::cs,?_,.cons oN aeq⟩
    show(Option.rec none (fun v=>Option.rec none (fun vs=>some (v::vs)) (zu (l.map cI) t)) (cI o t):Option (List AV))=_
    rw[hc,rj]
   ·cases h
  ·cases h
theorem pM{v:Sv}{x:LB}{a:AV}(h:V E N v a)(e:toB v=some x):a=.bool x.v:=by
 cases h with
 |b=>cases e;rfl
 |c k _=>
  unfold toB at e
  split at e
  ·rename_i h;cases h
  ·rename_i h;cases h;cases e
   have k':[a]=[AV.bool _]:=k
   injection k'
  ·cases e
 | _=>cases e
theorem pE{v:Sv}{k:IntKind}{n:Int}{a:AV}(h:V E N v a)(e:toN v=some (k,n)):a=.int k n:=by
 cases h with
 |i=>cases e;rfl
 |c q _=>
  unfold toN at e
  split at e
  ·rename_i h;cases h
  ·rename_i h;cases h;cases e
   have k':[a]=[AV.int _ _]:=q
   injection k'
  ·cases e
 | _=>cases e
theorem vt{v:Sv}{l:Bool}{s:ByteArray}{a:AV}(h:V E N v a)(e:toS v=some (l,s)):a=.sc (.string s):=by
 cases h with
 |a h=>
  unfold toS at e
  split at e
  ·rename_i h;cases h;cases e;rfl
  ·rename_i h;cases h
  ·cases e
 |c q _=>
  unfold toS at e
  split at e
  ·rename_i h;cases h
  ·rename_i h;cases h;cases e
   have k':[a]=[AV.sc (.string _)]:=q
   injection k'
  ·cases e
 | _=>cases e
theorem oJ{k:IntKind}{n:Int}:V E N (.c 0 (.int k) n) (.int k n):=.c rfl fun h=>(h rfl).elim
theorem sN{b:Bool}:V E N (.c 0 .bool b) (.bool b):=.c rfl fun h=>(h rfl).elim
theorem aer{c:LB}:V E N (svB c) (.bool c.v):=by cases c with
 |l b=>exact .b
 |t b=>exact sN
theorem zP{α:Type}{j:Od}{T:Tq}{t:Tm}{a b:Tq->Lf.T α}{r:α}(hT:TV E N T t)(h:(xF j T a b).val=some r):
 ∃ c T1,cI j t=some (.bool c)/\TV E N T1 t/\(c=true->(a T1).val=some r)/\(c=false->(b T1).val=some r):=by
 unfold xF at h
 split at h
 ·rename_i i
  cases hb:Nat.blt i 512 with
  |false=>rw[hb]at h;cases h
  |true=>
   rw[hb]at h
   simp only[cond_true]at h
   split at h
   ·rename_i c hc
    obtain⟨x,hx,hv⟩:=hT i _ (cM.1 hb) hc
    cases hv
    refine⟨c,T,hx,hT,fun e=>?_,fun e=>?_⟩<;>subst e<;>exact h
   ·rename_i m x hc
    obtain⟨y,hy,hv⟩:=hT i _ (cM.1 hb) hc
    have:=pM hv rfl
    subst this
    have key: ∀ c:Bool,c=x->TV E N (T.put i (some (.b c))) t:=by
     intro c hcx j v hj hv
     rw[Tq.qy _ _ _ _ (cM.1 hb) hj]at hv
     split at hv
     ·rename_i e;subst e;cases hv;exact⟨_,hy,by rw[hcx];exact .b⟩
     ·exact hT j v hj hv
    cases x with
    |true=>exact⟨true,_,hy,key true rfl,fun _=>h,fun e=>by cases e⟩
    |false=>exact⟨false,_,hy,key false rfl,(fun e=>by cases e),fun _=>h⟩
   ·cases h
 ·rename_i c
  refine⟨c,T,rfl,hT,fun e=>?_,fun e=>?_⟩<;>subst e<;>exact h
 ·cases h
theorem Cw(x:Od):og (Cq x) (fun _ _=>qg (cI x)):=mX (by
 intro E T t H h v T' H' hT hH e
 unfold Cq okO at e
 split at e
 ·rename_i v' hv
  cases e
  obtain⟨c,hc,oN⟩:=cG hT hv
  refine⟨rfl,rfl,c,?_,oN⟩
  show(Option.rec Go.Ab.Ro.bad (fun v=>Go.Ab.Ro.ok v h) (cI x t):Go.Ab.Ro)=_
  rw[hc]
 ·cases e)
theorem Tk(c a b:Od):og (acg c a b) (fun _ _=>vk (cI c) (cI a) (cI b)):=by
 intro E T t H h v T' H' hT hH e
 obtain⟨x,T1,hx,xW,h1,h2⟩:=zP hT e
 have hk:vk (cI c) (cI a) (cI b) t h=bif x then qg (cI a) t h else qg (cI b) t h:=by unfold vk;rw[hx]
 cases x with
 |true=>
  obtain⟨c',h',E',e1,e2⟩:=Cw a E T1 t H h v T' H' xW hH (h1 rfl)
  exact⟨c',h',E',by simp only[hk];exact e1,e2⟩
 |false=>
  obtain⟨c',h',E',e1,e2⟩:=Cw b E T1 t H h v T' H' xW hH (h2 rfl)
  exact⟨c',h',E',by simp only[hk];exact e1,e2⟩
theorem tp{v:Option Sv}{t T':Tq}{h H':Hq}{w:Sv}(e:(okO v t h).val=some (w,T',H')):v=some w/\T'=t/\H'=h:=by
 unfold okO at e
 split at e
 ·cases e;exact⟨rfl,rfl,rfl⟩
 ·cases e
theorem cB{v:Sv}{t T':Tq}{h H':Hq}{w:Sv}(e:(okV v t h).val=some (w,T',H')):v=w/\T'=t/\H'=h:=by cases e;exact⟨rfl,rfl,rfl⟩
theorem HM(a:Od)(i:Nat):og (yF a i) (fun _ _=>pI (cI a) i):=mX (by
 intro E T t H h v T' H' hT hH e
 unfold yF at e
 split at e
 ·rename_i vs hv
  obtain⟨e1,rfl,rfl⟩:=tp e
  obtain⟨c,hc,oN⟩:=cG hT hv
  cases oN with
  |tu k=>
   rw[pn]at e1
   obtain⟨c,h1,h2⟩:=k.get e1
   refine⟨rfl,rfl,c,?_,h2⟩
   unfold pI
   rw[hc]
   simp only[pn,h1]
 ·cases e)
theorem PS(off size:Nat)(agg:Bool)(a:Od):og (FD off size agg a) (fun _ _=>uc off size agg (cI a)):=mX (by
 intro E T t H h v T' H' hT hH e
 unfold FD at e
 split at e
 ·rename_i vs hv
  obtain⟨e1,rfl,rfl⟩:=tp e
  obtain⟨c,hc,oN⟩:=cG hT hv
  cases oN with
  |ag k=>
   obtain⟨c,h1,h2⟩:=uF k e1
   refine⟨rfl,rfl,c,?_,h2⟩
   unfold uc
   rw[hc]
   simp only[h1]
 ·cases e)
theorem aes(f:FuncId)(cap:List Od):og (sFn f cap) (fun _ _=>JM f (cap.map cI)):=mX (by
 intro E T t H h v T' H' hT hH e
 unfold sFn at e
 split at e
 ·rename_i vs hv
  obtain⟨rfl,rfl,rfl⟩:=cB e
  obtain⟨c,hc,oN⟩:=FL hT hv
  refine⟨rfl,rfl,_,?_,.fn oN⟩
  unfold JM
  rw[hc]
 ·cases e)
theorem YR(a:Od):og (Nh a) (fun _ _=>BM (cI a)):=mX (by
 intro E T t H h v T' H' hT hH e
 unfold Nh at e
 split at e
 all_goals first
  |(cases e;done)
  |(rename_i hv
    obtain⟨rfl,rfl,rfl⟩:=cB e
    obtain⟨c,hc,oN⟩:=cG hT hv
    refine⟨rfl,rfl,c,?_,oN⟩
    unfold BM
    rw[hc]
    cases oN<;>rfl))
theorem DG(off:Nat)(a:Od):og (u6 off a) (fun _ _=>nD off (cI a)):=mX (by
 intro E T t H h v T' H' hT hH e
 unfold u6 at e
 split at e
 ·rename_i r o hv
  obtain⟨rfl,rfl,rfl⟩:=cB e
  obtain⟨c,hc,oN⟩:=cG hT hv
  cases oN with
  |rf h1 h2=>exact⟨rfl,rfl,_,by unfold nD;rw[hc],.rf h1 h2⟩
 ·rename_i r s i o hv
  obtain⟨rfl,rfl,rfl⟩:=cB e
  obtain⟨c,hc,oN⟩:=cG hT hv
  cases oN with
  |re h1 h2 h3=>exact⟨rfl,rfl,_,by unfold nD;rw[hc],by have:=V.re (o:=o+off) h1 h2 h3;rw[<-Nat.add_assoc]at this;exact this⟩
 ·rename_i l hv
  cases hb:Nat.ble off (len l)with
  |false=>rw[hb]at e;cases e
  |true=>
   rw[hb]at e
   obtain⟨rfl,rfl,rfl⟩:=cB e
   have hle:off<=l.length:=by have:=Nat.le_of_ble_eq_true hb;rwa [cQ]at this
   obtain⟨c,hc,oN⟩:=cG hT hv
   rw[qR]
   cases oN with
   |zp k=>
    rename_i l' r
    refine⟨rfl,rfl,_,by unfold nD;rw[hc],?_⟩
    rw[qR,List.drop_append_of_le_length (by rw[<-k.length];exact hle)]
    exact .zp (k.drop off)
   |zr k g s=>
    rename_i l' id o row
    refine⟨rfl,rfl,_,by unfold nD;rw[hc],?_⟩
    refine .zr (k.drop off) g ?_
    obtain⟨s1,s2⟩:=nU.1 s
    rw[List.length_drop]
    refine nU.2 ⟨by have e1:Nat.add o off=o+off:=rfl;omega,?_⟩
    rw[s2,List.drop_take,List.drop_drop]
    rfl
 ·cases e)
end
end Lf
end Go.Ab

noncomputable section
namespace Go.Ab
namespace Lf
theorem qV{H:Hq}{R:Row}{i:Nat}:(nG H R).cw.get i=if i=H.next then some R else H.cw.get i:=Tr.qQ _ _ _ _
theorem ov{H:Hq}{r i:Nat}{R:Option Row}:(ql H r R).cw.get i=if i=r then R else H.cw.get i:=Tr.qQ _ _ _ _
theorem o8{h:Hp}{cs:Rw}{i:Nat}:(nn h cs).cw.get i=if i=h.next then some cs else h.cw.get i:=Tr.qQ _ _ _ _
theorem qG{h:Hp}{r i:Nat}{cs:Option Rw}:(qx h r cs).cw.get i=if i=r then cs else h.cw.get i:=Tr.qQ _ _ _ _
theorem LR.mono{G G':Nat->Option Rw}{S S':Nat->Option Rw}(hg:YP G G'){t:Ty}{x:List (den t)}{k:Kr}(hs: ∀ id row,r9 k.av=some id->S id=some row->S' id=some row)(h:LR G t x k S):LR G' t x k S':=by
 refine⟨h.1,?_⟩
 rcases h.2 with h2|⟨id,base,row,ls,e,s,g,l⟩
 ·exact .inl h2
 ·exact .inr ⟨id,base,row,ls,e,hs _ _ (by rw[e];rfl) s,g,l.mono (EV.mono hg t)⟩
theorem RV.mono{E E':En}{N N':Nat}{h h':Hp}{k:Kr}{R:Row}(e:Bh E E' N)(hN:N<=N')(hs:R.live=true-> ∀ id row,r9 k.av=some id->h.cw.get id=some row->h'.cw.get id=some row)(r:RV E N h k R):RV E' N' h' k R:=by
 cases R with
 |o g l=>obtain⟨id,row,a,b,c,d⟩:=r;exact⟨id,row,a,hs rfl _ _ (by rw[a];rfl) b,c.mono e hN,by rw[e.A];exact d⟩
 |zo l=>obtain⟨id,row,a,b,c⟩:=r;exact⟨id,row,a,e.G _ _ b,c.mono e hN⟩
 |l t x=>exact LR.mono e.G (hs rfl) r
 |z t x=>exact LR.mono e.G (fun id row _ k=>e.G _ _ k) r
def En.row(E:En)(r:Nat)(k:Kr):En:=⟨fun i=>if i=r then k else E.K i,E.tk,E.G,E.A⟩
theorem En.vP(E:En)(r:Nat)(k:Kr):Bh E (E.row r k) r:=⟨fun i hi=>if_neg (by omega),fun _ _=>rfl,fun _ _ e=>e,rfl⟩
theorem qW{E:En}{H:Hq}{h:Hp}(S:SR E H h){H1:Hq}(hn1:H1.next=H.next)(aeu: ∀ r R,H1.cw.get r=some R->H.cw.get r=some R){k:Kr}{R:Row}{h':Hp}(hn:h.next<=h'.next)
 (pD: ∀ id,id<h.next->(∀ r,own H r-> ¬ own H1 r->r9 (E.K r).av≠some id)->h'.cw.get id=h.cw.get id)
 (qd: ∀ id,r9 k.av=some id->id<h'.next/\(h.next<=id∨ ∃ r,own H r/\ ¬ own H1 r/\r9 (E.K r).av=some id))
 (hR:RV E H.next h' k R)(live:R.live=true):SR (E.row H.next k) (nG H1 R) h'/\Nx E (E.row H.next k) H (nG H1 R) h h':=by
 have hle:=En.vP E H.next k
 have Tl: ∀ r,own H1 r->own H r:=fun r ⟨R,a,b⟩=>⟨R,aeu _ _ a,b⟩
 have uw: ∀ r,own (nG H1 R) r->r=H.next∨(r<H.next/\own H1 r):=by
  rintro r ⟨R',a,b⟩
  rw[qV,hn1]at a
  split at a
  ·exact .inl ‹_›
  ·exact .inr ⟨(S.row _ _ (aeu _ _ a)).1,R',a,b⟩
 have AF: ∀ r,own H1 r-> ∀ id,r9 (E.K r).av=some id->h'.cw.get id=h.cw.get id:=by
  intro r o id e
  refine pD id (S.lt r id (Tl r o) e) fun r' o' n' e'=>?_
  exact n' (by rw[S.inj r' r id o' (Tl r o) e' e];exact o)
 have aiN: ∀ id row,E.G id=some row->h'.cw.get id=some row:=by
  intro id row e
  obtain⟨a,b,c⟩:=S.g id row e
  rw[pD id a fun r o _=>c r o,b]
 have K0:(E.row H.next k).K H.next=k:=if_pos rfl
 have K1: ∀ r,r<H.next->(E.row H.next k).K r=E.K r:=fun r hr=>if_neg (by omega)
 refine⟨⟨?_,?_,?_,?_⟩,⟨hle,?_,hn,?_,?_,?_⟩⟩
 ·intro r R' hr
  rw[qV,hn1]at hr
  split at hr
  ·rename_i e
   cases hr
   subst e
   rw[K0]
   exact⟨by show _<Nat.add H1.next 1;rw[hn1];exact Nat.lt_succ_self _,RV.mono hle (by show _<=Nat.add H1.next 1;rw[hn1];exact Nat.le_succ _) (fun _ _ _ _ e=>e) hR⟩
  ·have h0:=S.row _ _ (aeu _ _ hr)
   refine⟨by show _<Nat.add H1.next 1;rw[hn1];exact Nat.lt_succ_of_lt h0.1,?_⟩
   rw[K1 _ h0.1]
   exact RV.mono hle (by show _<=Nat.add H1.next 1;rw[hn1];exact Nat.le_succ _) (fun lv id row e1 e2=>by rw[AF r ⟨R',hr,lv⟩ id e1];exact e2) h0.2
 ·intro r r' id o o' e e'
  rcases uw r o with a|⟨a1,a2⟩<;>rcases uw r' o' with b|⟨b1,b2⟩
  ·rw[a,b]
  ·subst a
   rw[K0]at e;rw[K1 _ b1]at e'
   rcases(qd id e).2 with c|⟨q,q1,q2,q3⟩
   ·have:=S.lt _ _ (Tl _ b2) e';omega
   ·exact(q2 (by rw[S.inj q r' id q1 (Tl _ b2) q3 e'];exact b2)).elim
  ·subst b
   rw[K0]at e';rw[K1 _ a1]at e
   rcases(qd id e').2 with c|⟨q,q1,q2,q3⟩
   ·have:=S.lt _ _ (Tl _ a2) e;omega
   ·exact(q2 (by rw[S.inj q r id q1 (Tl _ a2) q3 e];exact a2)).elim
  ·rw[K1 _ a1]at e;rw[K1 _ b1]at e'
   exact S.inj r r' id (Tl _ a2) (Tl _ b2) e e'
 ·intro r id o e
  rcases uw r o with a|⟨a1,a2⟩
  ·subst a;rw[K0]at e;exact(qd id e).1
  ·rw[K1 _ a1]at e;exact Nat.lt_of_lt_of_le (S.lt _ _ (Tl _ a2) e) hn
 ·intro id row e
  obtain⟨a,b,c⟩:=S.g id row e
  refine⟨Nat.lt_of_lt_of_le a hn,aiN id row e,fun r o e2=>?_⟩
  rcases uw r o with q|⟨q1,q2⟩
  ·subst q;rw[K0]at e2
   rcases(qd id e2).2 with w|⟨w,w1,w2,w3⟩
   ·omega
   ·exact c _ w1 w3
  ·rw[K1 _ q1]at e2;exact c r (Tl _ q2) e2
 ·show H.next<=Nat.add H1.next 1;rw[hn1];exact Nat.le_succ _
 ·intro r id o e
  rcases uw r o with a|⟨a1,a2⟩
  ·subst a;rw[K0]at e
   rcases(qd id e).2 with w|⟨w,w1,w2,w3⟩
   ·exact .inr w
   ·exact .inl ⟨w,w1,w3⟩
  ·rw[K1 _ a1]at e;exact .inl ⟨r,Tl _ a2,e⟩
 ·exact fun id row e=>.inl e
 ·exact fun id hi hn=>pD id hi fun r o _=>hn r o
theorem Np{E:En}{H:Hq}{h:Hp}(S:SR E H h){k:Kr}{R:Row}{rw:Rw}(hk:r9 k.av=some h.next∨r9 k.av=none)
 (hR:RV E H.next (nn h rw) k R)(live:R.live=true):SR (E.row H.next k) (nG H R) (nn h rw)/\Nx E (E.row H.next k) H (nG H R) h (nn h rw):=by
 refine qW S rfl (fun _ _ e=>e) (Nat.le_succ _) (fun id hi _=>?_) (fun id e=>?_) hR live
 ·rw[o8,if_neg (by omega)]
 ·rcases hk with hk|hk
  ·rw[hk]at e;cases e;exact⟨Nat.lt_succ_self _,.inl (Nat.le_refl _)⟩
  ·rw[hk]at e;cases e
theorem Tn{E:En}{H:Hq}{h:Hp}(S:SR E H h){l:List Sv}{rw:Rw}(hv:Vs E H.next l rw.toL):
 SR (E.row H.next ⟨.ref h.next 0,0⟩) (nG H (.o 0 l)) (nn h rw)/\Nx E (E.row H.next ⟨.ref h.next 0,0⟩) H (nG H (.o 0 l)) h (nn h rw):=
 Np S (.inl rfl) ⟨h.next,rw,rfl,by rw[o8,if_pos rfl],hv,fun h=>(h rfl).elim⟩ rfl
theorem ack{E:En}{H:Hq}{h:Hp}(S:SR E H h){t:Ty}{x:List (den t)}{rw:Rw}(hv:ru (EV E.G t) x rw.toL):
 SR (E.row H.next ⟨.nW h.next 0 x.length (size t),x.length⟩) (nG H (.l t x)) (nn h rw)/\Nx E (E.row H.next ⟨.nW h.next 0 x.length (size t),x.length⟩) H (nG H (.l t x)) h (nn h rw):=by
 have hl:=hv.length (EV.length t)
 refine Np S (.inl rfl) ⟨rfl,.inr ⟨h.next,0,rw,rw.toL,rfl,by rw[o8,if_pos rfl],?_,hv⟩⟩ rfl
 refine nU.2 ⟨by rw[<-nR,hl,Nat.zero_add];exact Nat.le_refl _,?_⟩
 show _=List.take (x.length*size t) _
 rw[<-hl,List.drop_zero,List.take_length]
theorem TV.put{E:En}{N:Nat}{T:Tq}{t:Tm}(h:TV E N T t){i:Nat}{v:Sv}{a:AV}(hi:i<512)(hv:V E N v a):TV E N (T.put i (some v)) (t.put i (some a)):=by
 intro j w hj hw
 rw[Tq.qy _ _ _ _ hi hj]at hw
 rw[Tm.qy _ _ _ _ hi hj]
 split at hw
 ·rename_i e;cases hw;exact⟨a,if_pos e,hv⟩
 ·rename_i e;rw[if_neg e];exact h j w hj hw
theorem YS(cs:List AV):og (aeh cs) (fun _ _=>JL cs):=by
 intro E T t H h v T' H' hT hH e
 unfold aeh at e
 split at e
 ·rename_i l hl
  obtain⟨rfl,rfl,rfl⟩:=cB e
  obtain⟨S,X⟩:=Tn hH (l:=l) (rw:=A5 cs) (by rw[pR];exact yJ hl)
  exact⟨_,_,_,Ev.const rfl,X,S,.rf (Nat.lt_succ_self _) (by show(if H.next=H.next then _ else _:Kr).av=_;rw[if_pos rfl]),hT.mono X.e X.le⟩
 ·cases e
theorem YT(x:Od):og (aei x) (fun _ _=>Dq (cI x)):=by
 intro E T t H h v T' H' hT hH e
 unfold aei at e
 split at e
 ·rename_i w hw
  obtain⟨rfl,rfl,rfl⟩:=cB e
  obtain⟨c,hc,oN⟩:=cG hT hw
  obtain⟨S,X⟩:=Tn hH (l:=w.cells) (rw:=A5 c.cells) (by rw[pR];exact oN.cells)
  refine⟨_,_,_,Ev.const ?_,X,S,.rf (Nat.lt_succ_self _) (by show(if H.next=H.next then _ else _:Kr).av=_;rw[if_pos rfl]),hT.mono X.e X.le⟩
  unfold Dq
  rw[hc]
 ·cases e
theorem YU(l:List Sv)(off:Nat)(new:List Sv):HE l off new=l.take off++(new++l.drop (off+new.length)):=by
 unfold HE;rw[mP,mP,vJ,qR,cQ];rfl
theorem Vs.put{E:En}{N:Nat}{l:List Sv}{l':List AV}{m:List Sv}{m':List AV}(h:Vs E N l l')(k:Vs E N m m')(off:Nat):Vs E N (HE l off m) (put l' off m'):=by
 rw[YU,put_eq,k.length]
 exact(h.take off).app (k.app (h.drop _))
theorem wI{E:En}{N:Nat}: ∀ {ps:List (Nat×Nat×Sv)} {qs:List (Nat×Nat×AV)} {z r:List Sv} {z':List AV},ps.length=qs.length->(∀ (i:Nat) (p:Nat×Nat×Sv),ps[i]? =some p-> ∃ q:Nat×Nat×AV,qs[i]? =some q/\q.1=p.1/\q.2.1=p.2.1/\V E N p.2.2 q.2.2)->Vs E N z z'->
 Fy ps z=some r-> ∃ r',BJ qs z'=some r'/\Vs E N r r'
 | [],[],z,r,z',_,_,hz,e=>by cases e;exact⟨z',rfl,hz⟩
 | [],_::_,_,_,_,h,_,_,_=>by cases h
 | _::_,[],_,_,_,h,_,_,_=>by cases h
 |p::ps,q::qs,z,r,z',hl,hq,hz,e=>by
  obtain⟨q',hq1,h1,h2,hv⟩:=hq 0 p rfl
  cases hq1
  change (bif Nat.beq (len p.2.2.cells) p.2.1&&Nat.ble (Nat.add p.1 p.2.1) (len z)then Fy ps (HE z p.1 p.2.2.cells)else none)=some r at e
  obtain⟨hb,e⟩:=cR e
  obtain⟨r',hr,Sn⟩:=wI (ps:=ps) (qs:=qs) (by simpa using hl) (fun i p hp=>hq (i+1) p hp) (hz.put hv.cells p.1) e
  refine⟨r',?_,Sn⟩
  show(bif Nat.beq (len q.2.2.cells) q.2.1&&Nat.ble (Nat.add q.1 q.2.1) (len z')then BJ qs (put z' q.1 q.2.2.cells)else none)=some r'
  rw[cQ,<-hv.cells.length,h1,h2,cQ,<-hz.length,<-cQ,<-cQ,hb,cond_true,hr]
theorem Ej{E:En}{N:Nat}{T:Tq}{t:Tm}(hT:TV E N T t): ∀ {ps:List (Nat×Nat×Od)} {vs:List (Nat×Nat×Sv)},FA ps T=some vs->
 ∃ qs,tY (ps.map fun p=>(p.1,p.2.1,cI p.2.2)) t=some qs/\vs.length=qs.length/\ ∀ (i:Nat) (p:Nat×Nat×Sv),vs[i]? =some p-> ∃ q:Nat×Nat×AV,qs[i]? =some q/\q.1=p.1/\q.2.1=p.2.1/\V E N p.2.2 q.2.2
 | [],vs,e=>by cases e;exact⟨[],rfl,rfl,fun i p h=>by simp at h⟩
 |p::ps,vs,e=>by
  change (match qM p.2.2 T with|some v=>(match FA ps T with|some vs=>some ((p.1,p.2.1,v)::vs)|none=>none)|none=>none)=some vs at e
  split at e
  ·rename_i v hv
   split at e
   ·rename_i us hu
    cases e
    obtain⟨c,hc,oN⟩:=cG hT hv
    obtain⟨qs,h1,h2,h3⟩:=Ej hT hu
    refine⟨(p.1,p.2.1,c)::qs,?_,by simp[h2],fun i x hx=>?_⟩
    ·show(match cI p.2.2 t with|some v=>(match tY (ps.map fun(p:Nat×Nat×Od)=>(p.1,p.2.1,cI p.2.2)) t with|some vs=>some ((p.1,p.2.1,v)::vs)|none=>none)|none=>none)=_
     rw[hc,h1]
    ·cases i with
     |zero=>simp at hx;subst hx;exact⟨_,rfl,rfl,rfl,oN⟩
     |succ i=>simpa using h3 i x (by simpa using hx)
   ·cases e
  ·cases e
theorem Ek{E:En}{N:Nat}{T:Tq}{t:Tm}(hT:TV E N T t): ∀ {ps:List (Nat×Od)} {vs:List (Nat×Sv)},FB ps T=some vs->
 ∃ qs,tX (ps.map fun p=>(p.1,cI p.2)) t=some qs/\vs.length=qs.length/\ ∀ (i:Nat) (p:Nat×Sv),vs[i]? =some p-> ∃ q:Nat×AV,qs[i]? =some q/\q.1=p.1/\V E N p.2 q.2
 | [],vs,e=>by cases e;exact⟨[],rfl,rfl,fun i p h=>by simp at h⟩
 |p::ps,vs,e=>by
  change (match qM p.2 T with|some v=>(match FB ps T with|some vs=>some ((p.1,v)::vs)|none=>none)|none=>none)=some vs at e
  split at e
  ·rename_i v hv
   split at e
   ·rename_i us hu
    cases e
    obtain⟨c,hc,oN⟩:=cG hT hv
    obtain⟨qs,h1,h2,h3⟩:=Ek hT hu
    refine⟨(p.1,c)::qs,?_,by simp[h2],fun i x hx=>?_⟩
    ·show(match cI p.2 t with|some v=>(match tX (ps.map fun(p:Nat×Od)=>(p.1,cI p.2)) t with|some vs=>some ((p.1,v)::vs)|none=>none)|none=>none)=_
     rw[hc,h1]
    ·cases i with
     |zero=>simp at hx;subst hx;exact⟨_,rfl,rfl,oN⟩
     |succ i=>simpa using h3 i x (by simpa using hx)
   ·cases e
  ·cases e
theorem PT(z:List AV)(ps:List (Nat×Nat×Od)):og (Kn z ps) (fun _ _=>tZ z (ps.map fun p=>(p.1,p.2.1,cI p.2.2))):=mX (by
 intro E T t H h v T' H' hT hH e
 unfold Kn at e
 split at e
 ·rename_i zs hz
  split at e
  ·rename_i vs hv
   split at e
   ·rename_i cs hc
    obtain⟨rfl,rfl,rfl⟩:=cB e
    obtain⟨qs,h1,h2,h3⟩:=Ej hT hv
    obtain⟨r',hr,Sn⟩:=wI h2 h3 (yJ hz) hc
    refine⟨rfl,rfl,.agg r',?_,.ag Sn⟩
    unfold tZ
    rw[h1]
    simp only[hr]
   ·cases e
  ·cases e
 ·cases e)
theorem El{E:En}{N size:Nat}: ∀ {ps:List (Nat×Sv)} {qs:List (Nat×AV)} {k:Nat} {r:List Sv},ps.length=qs.length->(∀ (i:Nat) (p:Nat×Sv),ps[i]? =some p-> ∃ q:Nat×AV,qs[i]? =some q/\q.1=p.1/\V E N p.2 q.2)->
 Cp size ps k=some r-> ∃ r',xX size qs k=some r'/\Vs E N r r'
 | [],[],_,_,_,_,e=>by cases e;exact⟨[],rfl,.nil⟩
 | [],_::_,_,_,h,_,_=>by cases h
 | _::_,[],_,_,h,_,_=>by cases h
 |p::ps,q::qs,k,r,hl,hq,e=>by
  obtain⟨q',hq1,h1,hv⟩:=hq 0 p rfl
  cases hq1
  change (bif Nat.beq p.1 k&&Nat.beq (len p.2.cells) size then(match Cp size ps (Nat.add k 1)with|some r=>some (app p.2.cells r)|none=>none)else none)=some r at e
  obtain⟨hb,e⟩:=cR e
  split at e
  ·rename_i s hs
   cases e
   obtain⟨r',hr,Sn⟩:=El (ps:=ps) (qs:=qs) (by simpa using hl) (fun i p hp=>hq (i+1) p hp) hs
   refine⟨q.2.cells++r',?_,?_⟩
   ·show(bif Nat.beq q.1 k&&Nat.beq (len q.2.cells) size then(match xX size qs (Nat.add k 1)with|some r=>some (app q.2.cells r)|none=>none)else none)=_
    rw[cQ,<-hv.cells.length,h1,<-cQ,hb,cond_true,hr];simp only[mP]
   ·rw[mP];exact hv.cells.app Sn
  ·cases e
theorem FM{E:En}{N:Nat}{z:List Sv}{z':List AV}(h:Vs E N z z'): ∀ n,Vs E N (aee n z) (oQ n z')
 |0=>.nil
 |n+1=>by
  show Vs E N (app z (aee n z)) (app z' (oQ n z'))
  rw[mP,mP];exact h.app (FM h n)
theorem Cy{E:En}{N size:Nat}: ∀ {ps:List (Nat×Sv)} {qs:List (Nat×AV)},ps.length=qs.length->(∀ (i:Nat) (p:Nat×Sv),ps[i]? =some p-> ∃ q:Nat×AV,qs[i]? =some q/\q.1=p.1/\V E N p.2 q.2)->
 (FC size ps).length=(scale size qs).length/\ ∀ (i:Nat) (p:Nat×Nat×Sv),(FC size ps)[i]? =some p-> ∃ q:Nat×Nat×AV,(scale size qs)[i]? =some q/\q.1=p.1/\q.2.1=p.2.1/\V E N p.2.2 q.2.2
 | [],[],_,_=>⟨rfl,fun i p h=>by simp[FC]at h⟩
 | [],_::_,h,_=>by cases h
 | _::_,[],h,_=>by cases h
 |p::ps,q::qs,hl,hq=>by
  obtain⟨q',hq1,h1,hv⟩:=hq 0 p rfl
  cases hq1
  obtain⟨a,b⟩:=Cy (ps:=ps) (qs:=qs) (by simpa using hl) (fun i p hp=>hq (i+1) p hp)
  refine⟨by show _+1=_+1;exact congrArg _ a,fun i x hx=>?_⟩
  cases i with
  |zero=>
   change some (Nat.mul p.1 size,size,p.2)=some x at hx
   cases hx
   exact⟨(Nat.mul q.1 size,size,q.2),rfl,by show Nat.mul q.1 size=Nat.mul p.1 size;rw[h1],rfl,hv⟩
  |succ i=>exact b i x hx
theorem YV(n sz:Nat)(z:List AV)(ps:List (Nat×Od)):og (aej n sz z ps) (fun _ _=>BL n sz z (ps.map fun p=>(p.1,cI p.2))):=by
 intro E T t H h v T' H' hT hH e
 unfold aej at e
 split at e
 ·rename_i vs hv
  obtain⟨qs,h1,h2,h3⟩:=Ek hT hv
  cases hn:Nat.beq n 0 with
  |true=>
   rw[hn]at e
   simp only[cond_true]at e
   split at e
   ·obtain⟨rfl,rfl,rfl⟩:=cB e
    refine⟨_,_,E,Ev.const ?_,Nx.refl _ _ _,hH,.a (v:=.ur) rfl,hT⟩
    unfold BL
    rw[h1]
    simp only[hn,cond_true]
    have:qs=[]:=by cases qs with
     |nil=>rfl
     |cons _ _=>cases h2
    rw[this]
   ·cases e
  |false=>
   rw[hn]at e
   simp only[cond_false]at e
   split at e
   ·rename_i zs hz
    split at e
    ·rename_i cs hc
     cases hb:(oD HD cs&&(Nat.blt 0 sz&&Nat.beq (len cs) (Nat.mul n sz)))with
     |false=>rw[hb]at e;cases e
     |true=>
      rw[hb]at e
      simp only[cond_true]at e
      obtain⟨rfl,rfl,rfl⟩:=cB e
      have key: ∃ cs',wA n sz z qs=some cs'/\Vs E H.next cs cs':=by
       unfold HF at hc
       unfold wA
       rw[cQ,<-h2,<-cQ]
       cases hq:Nat.beq (len vs) n with
       |true=>
        rw[hq]at hc
        simp only[cond_true]at hc ⊢
        split at hc
        ·rename_i q hqq
         cases hc
         obtain⟨r',a,b⟩:=El h2 h3 hqq
         rw[a];exact⟨r',rfl,b⟩
        ·rename_i hqq
         obtain⟨a,b⟩:=Cy (size:=sz) h2 h3
         obtain⟨r',c,d⟩:=wI a b (FM (yJ hz) n) hc
         cases hf:xX sz qs 0 with
         |none=>exact⟨r',c,d⟩
         |some w=>
          exfalso
          have back: ∀ {ps:List (Nat×Sv)} {qs:List (Nat×AV)} {k:Nat} {w:List AV},ps.length=qs.length->(∀ (i:Nat) (p:Nat×Sv),ps[i]? =some p-> ∃ q:Nat×AV,qs[i]? =some q/\q.1=p.1/\V E H.next p.2 q.2)->xX sz qs k=some w-> ∃ r,Cp sz ps k=some r:=by
           intro ps
           induction ps with
           |nil=>intro qs k w _ _ _;exact⟨[],rfl⟩
           |cons p ps ih=>
            intro qs k w hl hq e
            cases qs with
            |nil=>cases hl
            |cons q qs=>
             obtain⟨q',hq1,h1,hv⟩:=hq 0 p rfl
             cases hq1
             change (bif Nat.beq q.1 k&&Nat.beq (len q.2.cells) sz then(match xX sz qs (Nat.add k 1)with|some r=>some (app q.2.cells r)|none=>none)else none)=some w at e
             obtain⟨hb,e⟩:=cR e
             split at e
             ·rename_i s hs
              obtain⟨r,hr⟩:=ih (by simpa using hl) (fun i p hp=>hq (i+1) p hp) hs
              refine⟨app p.2.cells r,?_⟩
              show(bif Nat.beq p.1 k&&Nat.beq (len p.2.cells) sz then(match Cp sz ps (Nat.add k 1)with|some r=>some (app p.2.cells r)|none=>none)else none)=_
              rw[cQ,hv.cells.length,<-h1,<-cQ,hb,cond_true,hr]
             ·cases e
          obtain⟨r,hr⟩:=back h2 h3 hf
          rw[hqq]at hr
          cases hr
       |false=>
        rw[hq]at hc
        simp only[cond_false]at hc ⊢
        obtain⟨a,b⟩:=Cy (size:=sz) h2 h3
        exact wI a b (FM (yJ hz) n) hc
      obtain⟨cs',k1,k2⟩:=key
      obtain⟨S,X⟩:=Tn hH (l:=cs) (rw:=A5 cs') (by rw[pR];exact k2)
      refine⟨_,_,_,Ev.const ?_,X,S,.xo (id:=h.next) (Nat.lt_succ_self _) (by show(if H.next=H.next then _ else _:Kr).av=_;rw[if_pos rfl]),hT.mono X.e X.le⟩
      unfold BL
      rw[h1]
      simp only[hn,cond_false,k1]
    ·cases e
   ·cases e
 ·cases e
end Lf
end Go.Ab
