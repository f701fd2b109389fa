import Derived.Test.YtcnkojgmochcgaaGreatDoorLfN
import Derived.Test.YtcnkojgmochcgaaGreatDoorVrD
noncomputable section
namespace Go.Proofs.Vq
open Go.Ab Go.Ab.Lf
set_option maxRecDepth 100000
theorem UZ(o x:Int):(t13 (o,x,())).val=
 cF (wP (o,())) (
 bif !decide ((m11 (o,())).1=1)then
  some (cq qB (0,1,()))
 else
 bif decide (o=69)then
  bif decide (cb .u32 x=0)then
   some (cq qB (1,0,()))
  else
  some (cq qB (0,0,()))
 else
 bif decide (o=80)then
  bif decide (x=0)then
   some (cq qB (1,0,()))
  else
  some (cq qB (0,0,()))
 else
 bif decide (o=103)then
  cF (decide (0<=cb .u32 x)&&decide (cb .u32 x<=4294967295)) (
  some (cq qB (cb .u64 (lz 32 (cb .u32 x)),0,())))
 else
 bif decide (o=104)then
  cF (decide (0<=cb .u32 x)&&decide (cb .u32 x<=4294967295)) (
  some (cq qB (cb .u64 (tz 32 (cb .u32 x)),0,())))
 else
 bif decide (o=105)then
  cF (k51 (cb .u32 x,())) (
  some (cq qB (cb .u64 (m51 (cb .u32 x,())).1,0,())))
 else
 bif decide (o=121)then
  cF (decide (0<=x)&&decide (x<=18446744073709551615)) (
  some (cq qB (cb .u64 (lz 64 x),0,())))
 else
 bif decide (o=122)then
  cF (decide (0<=x)&&decide (x<=18446744073709551615)) (
  some (cq qB (cb .u64 (tz 64 x),0,())))
 else
 bif decide (o=123)then
  cF (k54 (x,())) (
  some (cq qB (cb .u64 (m54 (x,())).1,0,())))
 else
 bif decide (o=172)then
  some (cq qB (cb .u64 (cb .i32 x),0,()))
 else
 bif decide (o=196)then
  some (cq qB (cb .u64 (cb .i32 x),0,()))
 else
 bif decide (o=192)then
  some (cq qB (cb .u64 (cb .u32 (cb .i8 x)),0,()))
 else
 bif decide (o=193)then
  some (cq qB (cb .u64 (cb .u32 (cb .i16 x)),0,()))
 else
 bif decide (o=194)then
  some (cq qB (cb .u64 (cb .i8 x),0,()))
 else
 bif decide (o=195)then
  some (cq qB (cb .u64 (cb .i16 x),0,()))
 else
 some (cq qB (cb .u64 (cb .u32 x),0,()))):=by kernel_rfl
theorem za(o x y:Int):(t12 (o,x,y,())).val=
 cF (wP (o,())) (
 bif !decide ((m11 (o,())).1=2)then
  some (cq cT (0,1,()))
 else
 bif decide (o<=79)then
  bif decide (cA .i64 o (70)=0)then
   bif decide (cb .i64 (cb .i32 x)=cb .i64 (cb .i32 y))then
    some (cq cT (1,0,()))
   else
   some (cq cT (0,0,()))
  else
  bif decide (cA .i64 o (70)=1)then
   bif !decide (cb .i64 (cb .i32 x)=cb .i64 (cb .i32 y))then
    some (cq cT (1,0,()))
   else
   some (cq cT (0,0,()))
  else
  bif decide (cA .i64 o (70)=2)then
   bif decide (cb .i64 (cb .i32 x)<cb .i64 (cb .i32 y))then
    some (cq cT (1,0,()))
   else
   some (cq cT (0,0,()))
  else
  bif decide (cA .i64 o (70)=3)then
   bif decide (cb .u64 (cb .i64 (cb .i32 x))<cb .u64 (cb .i64 (cb .i32 y)))then
    some (cq cT (1,0,()))
   else
   some (cq cT (0,0,()))
  else
  bif decide (cA .i64 o (70)=4)then
   bif decide (cb .i64 (cb .i32 y)<cb .i64 (cb .i32 x))then
    some (cq cT (1,0,()))
   else
   some (cq cT (0,0,()))
  else
  bif decide (cA .i64 o (70)=5)then
   bif decide (cb .u64 (cb .i64 (cb .i32 y))<cb .u64 (cb .i64 (cb .i32 x)))then
    some (cq cT (1,0,()))
   else
   some (cq cT (0,0,()))
  else
  bif decide (cA .i64 o (70)=6)then
   bif decide (cb .i64 (cb .i32 x)<=cb .i64 (cb .i32 y))then
    some (cq cT (1,0,()))
   else
   some (cq cT (0,0,()))
  else
  bif decide (cA .i64 o (70)=7)then
   bif decide (cb .u64 (cb .i64 (cb .i32 x))<=cb .u64 (cb .i64 (cb .i32 y)))then
    some (cq cT (1,0,()))
   else
   some (cq cT (0,0,()))
  else
  bif decide (cA .i64 o (70)=8)then
   bif decide (cb .i64 (cb .i32 y)<=cb .i64 (cb .i32 x))then
    some (cq cT (1,0,()))
   else
   some (cq cT (0,0,()))
  else
  bif decide (cb .u64 (cb .i64 (cb .i32 y))<=cb .u64 (cb .i64 (cb .i32 x)))then
   some (cq cT (1,0,()))
  else
  some (cq cT (0,0,()))
 else
 bif decide (o<=90)then
  bif decide (cA .i64 o (81)=0)then
   bif decide (cb .i64 x=cb .i64 y)then
    some (cq cT (1,0,()))
   else
   some (cq cT (0,0,()))
  else
  bif decide (cA .i64 o (81)=1)then
   bif !decide (cb .i64 x=cb .i64 y)then
    some (cq cT (1,0,()))
   else
   some (cq cT (0,0,()))
  else
  bif decide (cA .i64 o (81)=2)then
   bif decide (cb .i64 x<cb .i64 y)then
    some (cq cT (1,0,()))
   else
   some (cq cT (0,0,()))
  else
  bif decide (cA .i64 o (81)=3)then
   bif decide (cb .u64 (cb .i64 x)<cb .u64 (cb .i64 y))then
    some (cq cT (1,0,()))
   else
   some (cq cT (0,0,()))
  else
  bif decide (cA .i64 o (81)=4)then
   bif decide (cb .i64 y<cb .i64 x)then
    some (cq cT (1,0,()))
   else
   some (cq cT (0,0,()))
  else
  bif decide (cA .i64 o (81)=5)then
   bif decide (cb .u64 (cb .i64 y)<cb .u64 (cb .i64 x))then
    some (cq cT (1,0,()))
   else
   some (cq cT (0,0,()))
  else
  bif decide (cA .i64 o (81)=6)then
   bif decide (cb .i64 x<=cb .i64 y)then
    some (cq cT (1,0,()))
   else
   some (cq cT (0,0,()))
  else
  bif decide (cA .i64 o (81)=7)then
   bif decide (cb .u64 (cb .i64 x)<=cb .u64 (cb .i64 y))then
    some (cq cT (1,0,()))
   else
   some (cq cT (0,0,()))
  else
  bif decide (cA .i64 o (81)=8)then
   bif decide (cb .i64 y<=cb .i64 x)then
    some (cq cT (1,0,()))
   else
   some (cq cT (0,0,()))
  else
  bif decide (cb .u64 (cb .i64 y)<=cb .u64 (cb .i64 x))then
   some (cq cT (1,0,()))
  else
  some (cq cT (0,0,()))
 else
 bif decide (o<=120)then
  bif bif decide (109<=o)then bif decide (o<=112)then decide (cb .u32 y=0)else false else false then
   some (cq cT (cb .u64 (0),21,()))
  else
  bif decide (o=106)then
   some (cq cT (cb .u64 (cY .u32 (cb .u32 x) (cb .u32 y)),0,()))
  else
  bif decide (o=107)then
   some (cq cT (cb .u64 (cA .u32 (cb .u32 x) (cb .u32 y)),0,()))
  else
  bif decide (o=108)then
   some (cq cT (cb .u64 (w7 .u32 (cb .u32 x) (cb .u32 y)),0,()))
  else
  bif decide (o=109)then
   bif bif decide (cb .u32 x=2147483648)then decide (cb .u32 y=4294967295)else false then
    some (cq cT (cb .u64 (0),22,()))
   else
   cF (!decide (cb .i32 (cb .u32 y)=0)) (
   some (cq cT (cb .u64 (cb .u32 (DA .i32 (cb .i32 (cb .u32 x)) (cb .i32 (cb .u32 y)))),0,())))
  else
  bif decide (o=110)then
   cF (!decide (cb .u32 y=0)) (
   some (cq cT (cb .u64 (DA .u32 (cb .u32 x) (cb .u32 y)),0,())))
  else
  bif decide (o=111)then
   cF (!decide (cb .i64 (cb .i32 (cb .u32 y))=0)) (
   some (cq cT (cb .u64 (cb .u32 (DC .i64 (cb .i64 (cb .i32 (cb .u32 x))) (cb .i64 (cb .i32 (cb .u32 y))))),0,())))
  else
  bif decide (o=112)then
   cF (!decide (cb .u32 y=0)) (
   some (cq cT (cb .u64 (DC .u32 (cb .u32 x) (cb .u32 y)),0,())))
  else
  bif decide (o=113)then
   some (cq cT (cb .u64 (mN .u32 (cb .u32 x) (cb .u32 y)),0,()))
  else
  bif decide (o=114)then
   some (cq cT (cb .u64 (Kk .u32 (cb .u32 x) (cb .u32 y)),0,()))
  else
  bif decide (o=115)then
   some (cq cT (cb .u64 (Km .u32 (cb .u32 x) (cb .u32 y)),0,()))
  else
  bif decide (o=116)then
   cF (decide (0<=mN .u32 (cb .u32 y) (31))) (
   some (cq cT (cb .u64 (uE .u32 (cb .u32 x) (mN .u32 (cb .u32 y) (31))),0,())))
  else
  bif decide (o=117)then
   cF (decide (0<=mN .u32 (cb .u32 y) (31))) (
   some (cq cT (cb .u64 (cb .u32 (oP .i32 (cb .i32 (cb .u32 x)) (mN .u32 (cb .u32 y) (31)))),0,())))
  else
  bif decide (o=118)then
   cF (decide (0<=mN .u32 (cb .u32 y) (31))) (
   some (cq cT (cb .u64 (oP .u32 (cb .u32 x) (mN .u32 (cb .u32 y) (31))),0,())))
  else
  bif decide (o=119)then
   cF (decide (0<=mN .u64 (cb .u64 (cb .i64 (mN .u32 (cb .u32 y) (31)))) (31))&&decide (0<=cA .u64 (32) (mN .u64 (cb .u64 (cb .i64 (mN .u32 (cb .u32 y) (31)))) (31)))) (
   some (cq cT (cb .u64 (Kk .u32 (uE .u32 (cb .u32 x) (mN .u64 (cb .u64 (cb .i64 (mN .u32 (cb .u32 y) (31)))) (31))) (oP .u32 (cb .u32 x) (cA .u64 (32) (mN .u64 (cb .u64 (cb .i64 (mN .u32 (cb .u32 y) (31)))) (31))))),0,())))
  else
  cF (decide (0<=mN .u64 (cb .u64 (DD .i64 (cb .i64 (mN .u32 (cb .u32 y) (31))))) (31))&&decide (0<=cA .u64 (32) (mN .u64 (cb .u64 (DD .i64 (cb .i64 (mN .u32 (cb .u32 y) (31))))) (31)))) (
  some (cq cT (cb .u64 (Kk .u32 (uE .u32 (cb .u32 x) (mN .u64 (cb .u64 (DD .i64 (cb .i64 (mN .u32 (cb .u32 y) (31))))) (31))) (oP .u32 (cb .u32 x) (cA .u64 (32) (mN .u64 (cb .u64 (DD .i64 (cb .i64 (mN .u32 (cb .u32 y) (31))))) (31))))),0,())))
 else
 bif bif decide (127<=o)then bif decide (o<=130)then decide (y=0)else false else false then
  some (cq cT (0,21,()))
 else
 bif decide (o=124)then
  some (cq cT (cY .u64 x y,0,()))
 else
 bif decide (o=125)then
  some (cq cT (cA .u64 x y,0,()))
 else
 bif decide (o=126)then
  some (cq cT (w7 .u64 x y,0,()))
 else
 bif decide (o=127)then
  bif bif decide (x=9223372036854775808)then decide (y=18446744073709551615)else false then
   some (cq cT (0,22,()))
  else
  cF (!decide (cb .i64 y=0)) (
  some (cq cT (cb .u64 (DA .i64 (cb .i64 x) (cb .i64 y)),0,())))
 else
 bif decide (o=128)then
  cF (!decide (y=0)) (
  some (cq cT (DA .u64 x y,0,())))
 else
 bif decide (o=129)then
  bif decide (y=18446744073709551615)then
   some (cq cT (0,0,()))
  else
  cF (!decide (cb .i64 y=0)) (
  some (cq cT (cb .u64 (DC .i64 (cb .i64 x) (cb .i64 y)),0,())))
 else
 bif decide (o=130)then
  cF (!decide (y=0)) (
  some (cq cT (DC .u64 x y,0,())))
 else
 bif decide (o=131)then
  some (cq cT (mN .u64 x y,0,()))
 else
 bif decide (o=132)then
  some (cq cT (Kk .u64 x y,0,()))
 else
 bif decide (o=133)then
  some (cq cT (Km .u64 x y,0,()))
 else
 bif decide (o=134)then
  cF (decide (0<=mN .u64 y (63))) (
  some (cq cT (uE .u64 x (mN .u64 y (63)),0,())))
 else
 bif decide (o=135)then
  cF (decide (0<=mN .u64 y (63))) (
  some (cq cT (cb .u64 (oP .i64 (cb .i64 x) (mN .u64 y (63))),0,())))
 else
 bif decide (o=136)then
  cF (decide (0<=mN .u64 y (63))) (
  some (cq cT (oP .u64 x (mN .u64 y (63)),0,())))
 else
 bif decide (o=137)then
  cF (decide (0<=mN .u64 (cb .u64 (cb .i64 (mN .u64 y (63)))) (63))&&decide (0<=cA .u64 (64) (mN .u64 (cb .u64 (cb .i64 (mN .u64 y (63)))) (63)))) (
  some (cq cT (Kk .u64 (uE .u64 x (mN .u64 (cb .u64 (cb .i64 (mN .u64 y (63)))) (63))) (oP .u64 x (cA .u64 (64) (mN .u64 (cb .u64 (cb .i64 (mN .u64 y (63)))) (63)))),0,())))
 else
 cF (decide (0<=mN .u64 (cb .u64 (DD .i64 (cb .i64 (mN .u64 y (63))))) (63))&&decide (0<=cA .u64 (64) (mN .u64 (cb .u64 (DD .i64 (cb .i64 (mN .u64 y (63))))) (63)))) (
 some (cq cT (Kk .u64 (uE .u64 x (mN .u64 (cb .u64 (DD .i64 (cb .i64 (mN .u64 y (63))))) (63))) (oP .u64 x (cA .u64 (64) (mN .u64 (cb .u64 (DD .i64 (cb .i64 (mN .u64 y (63))))) (63)))),0,())))):=by kernel_rfl
theorem asC(o:Int):(t11 (o,())).val=
 bif decide (o=69)then
  some (cq vb (1,()))
 else
 bif decide (o=80)then
  some (cq vb (1,()))
 else
 bif bif decide (103<=o)then decide (o<=105)else false then
  some (cq vb (1,()))
 else
 bif bif decide (121<=o)then decide (o<=123)else false then
  some (cq vb (1,()))
 else
 bif decide (o=167)then
  some (cq vb (1,()))
 else
 bif decide (o=172)then
  some (cq vb (1,()))
 else
 bif decide (o=173)then
  some (cq vb (1,()))
 else
 bif bif decide (192<=o)then decide (o<=196)else false then
  some (cq vb (1,()))
 else
 bif bif decide (70<=o)then decide (o<=79)else false then
  some (cq vb (2,()))
 else
 bif bif decide (81<=o)then decide (o<=90)else false then
  some (cq vb (2,()))
 else
 bif bif decide (106<=o)then decide (o<=120)else false then
  some (cq vb (2,()))
 else
 bif bif decide (124<=o)then decide (o<=138)else false then
  some (cq vb (2,()))
 else
 some (cq vb (0,())):=by kernel_rfl
end Go.Proofs.Vq

noncomputable section
namespace Go.Ab.Lf
def aay(to:List Ty)(t:T (List Pl)):Bool:=
 T.rec (motive:=fun _=>Bool) false (fun l=>(toT to l).isSome) (fun _ _ _ a b=>a&&b) (fun _ _ _=>false) t
theorem Br{to:List Ty}: ∀ {t:T (List Pl)},aay to t=true->oy to t=true
 | .bad,h=>by cases h
 | .ok l,h=>by
  have h:(toT to l).isSome=true:=h
  show(match toT to l with|some _=>true|none=>false)=true
  cases hq:toT to l with
  |none=>rw[hq]at h;cases h
  |some y=>rfl
 | .br c a b,h=>by
  have h:(aay to a&&aay to b)=true:=h
  obtain⟨h1,h2⟩:=Bool.and_eq_true_iff.1 h
  have q1:=Br h1
  have q2:=Br h2
  unfold oy at*
  rw[T.wb]
  cases c
  ·exact q2
  ·exact q1
 | .ck c a,h=>by cases h
def U2(to:List Ty)(t:T (List Pl)):Bool:=
 T.rec (motive:=fun _=>Bool) false (fun l=>(toT to l).isSome) (fun _ _ _ a b=>a&&b) (fun _ _ a=>a) t
def U3(t:T (List Pl)):List Bool:=T.rec (motive:=fun _=>List Bool) [] (fun _=>[]) (fun _ _ _ a b=>app a b) (fun c _ a=>c::a) t
theorem Bs{to:List Ty}: ∀ {t:T (List Pl)},U2 to t=true->(∀ c,c∈U3 t->c=true)->oy to t=true
 | .bad,h,_=>by cases h
 | .ok l,h,_=>Br (t:=.ok l) h
 | .br c a b,h,k=>by
  have h:(U2 to a&&U2 to b)=true:=h
  have k: ∀ d,d∈app (U3 a) (U3 b)->d=true:=k
  rw[mP]at k
  obtain⟨h1,h2⟩:=Bool.and_eq_true_iff.1 h
  have q1:=Bs h1 fun d hd=>k d (List.mem_append_left _ hd)
  have q2:=Bs h2 fun d hd=>k d (List.mem_append_right _ hd)
  unfold oy at*
  rw[T.wb]
  cases c
  ·exact q2
  ·exact q1
 | .ck c a,h,k=>by
  have h:U2 to a=true:=h
  have k: ∀ d,d∈c::U3 a->d=true:=k
  have q1:=Bs h fun d hd=>k d (List.mem_cons_of_mem _ hd)
  have hc:c=true:=k c (List.mem_cons_self ..)
  subst hc
  unfold oy at*
  rw[T.FK]
  exact q1
end Go.Ab.Lf
namespace Go.Proofs.Vq
open Go.Ab Go.Ab.Lf
set_option maxRecDepth 100000
def U(z:Int):Prop:=0<=z/\z<=18446744073709551615
theorem vu{α:Type}{c:Bool}{x:Option α}(h:c=true):cF c x=x:=by rw[h];rfl
def rm(to:List Ty)(P:cf to->Prop)(v:Option (List Pl)):Prop:= ∃ y,v=some (cq to y)/\P y
theorem rm.bif{to:List Ty}{P:cf to->Prop}{c:Bool}{a b:Option (List Pl)}(h1:c=true->rm to P a)(h2:c=false->rm to P b):rm to P (bif c then a else b):=by
 cases c
 ·exact h2 rfl
 ·exact h1 rfl
theorem rm.ck{to:List Ty}{P:cf to->Prop}{c:Bool}{a:Option (List Pl)}(h:c=true)(h1:rm to P a):rm to P (cF c a):=by rw[vu h];exact h1
theorem rm.ok{to:List Ty}{P:cf to->Prop}{y:cf to}(h:P y):rm to P (some (cq to y)):=⟨y,rfl,h⟩
theorem rm.km{to:List Ty}{P:cf to->Prop}{t:Lf.T (List Pl)}{k:Bool}{m:cf to}(hk:k=oy to t)(hm:m=nq to t)(h:rm to P t.val):k=true/\P m:=by
 obtain⟨y,h1,h2⟩:=h
 obtain⟨a,b⟩:=mO hk hm h1
 exact⟨a,by rw[b];exact h2⟩
theorem IB(o:Int):wP (o,())=true/\((m11 (o,())).1=0∨(m11 (o,())).1=1∨(m11 (o,())).1=2):=by
 refine rm.km (P:=fun y:cf vb=>y.1=0∨y.1=1∨y.1=2) (ca _) (ca _) ?_
 rw[asC]
 repeat' first
  |exact rm.ok (.inl rfl)
  |exact rm.ok (.inr (.inl rfl))
  |exact rm.ok (.inr (.inr rfl))
  |refine rm.bif (fun _=>?_) (fun _=>?_)
theorem IC(n:Int):U (cb .u64 n):=⟨Int.emod_nonneg n (by decide),by have:=Int.emod_lt_of_pos n (show(0:Int)<18446744073709551616 by decide);show n % 18446744073709551616<=_;omega⟩
theorem afW(n:Int):U (oZ .u64 n):=IC n
theorem Ad(n:Int):0<=cb .u32 n/\cb .u32 n<=4294967295:=⟨Int.emod_nonneg n (by decide),by have:=Int.emod_lt_of_pos n (show(0:Int)<4294967296 by decide);show n % 4294967296<=_;omega⟩
theorem asD(n:Int):(decide (0<=cb .u32 n)&&decide (cb .u32 n<=4294967295))=true:=by
 obtain⟨a,b⟩:=Ad n
 rw[decide_eq_true a,decide_eq_true b];rfl
theorem ckU{x:Int}(h:U x):(decide (0<=x)&&decide (x<=18446744073709551615))=true:=by
 rw[decide_eq_true h.1,decide_eq_true h.2];rfl
theorem NS(a b:Nat)(ha:a<4294967296)(hb:b<4294967296):mN .u32 (a:Int) (b:Int)=((a &&& b:Nat):Int):=by
 show intOf (bif Nat.blt a 4294967296&&Nat.blt b 4294967296 then some (.int .u32 (.ofNat (Nat.land a b)))else _)=_
 rw[show(Nat.blt a 4294967296)=true by simpa using ha,show(Nat.blt b 4294967296)=true by simpa using hb]
 rfl
theorem Bt(a b:Nat)(ha:a<18446744073709551616)(hb:b<18446744073709551616):mN .u64 (a:Int) (b:Int)=((a &&& b:Nat):Int):=by
 show intOf (bif Nat.blt a 18446744073709551616&&Nat.blt b 18446744073709551616 then some (.int .u64 (.ofNat (Nat.land a b)))else _)=_
 rw[show(Nat.blt a 18446744073709551616)=true by simpa using ha,show(Nat.blt b 18446744073709551616)=true by simpa using hb]
 rfl
theorem NT{n:Int}(h0:0<=n)(h1:n<256):cZ n 256=true:=by rw[tv];exact⟨h0,h1⟩
theorem KY{n:Int}(h0:0<=n)(h1:n<=4294967295):0<=mN .u32 n 255/\mN .u32 n 255<256:=by
 obtain⟨a,rfl⟩: ∃ a:Nat,n=a:=⟨n.toNat,by omega⟩
 have e:mN .u32 (a:Int) 255=((a &&& 255:Nat):Int):=NS a 255 (by omega) (by omega)
 have:=Nat.and_le_right (n:=a) (m:=255)
 rw[e]
 omega
theorem Ge(n:Int)(p:Int)(h0:0<=n)(hp:0<p):0<=Int.fdiv n p/\Int.fdiv n p<=n:=by
 rw[Int.fdiv_eq_ediv_of_nonneg _ (by omega)]
 exact⟨Int.ediv_nonneg h0 (by omega),Int.ediv_le_self _ h0⟩
theorem c51(x:Int):U3 (t51 (x,()))=[cZ (oP .u32 x 24) 256&&(cZ (mN .u32 (oP .u32 x 16) 255) 256&&(cZ (mN .u32 (oP .u32 x 8) 255) 256&&cZ (mN .u32 x 255) 256))]:=by kernel_rfl
theorem f51(x:Int):U2 Um (t51 (x,()))=true:=by kernel_rfl
theorem akC{x:Int}(h0:0<=x)(h1:x<=4294967295):k51 (x,())=true:=by
 refine(ca _).trans (Bs (f51 x) fun c hc=>?_)
 rw[c51]at hc
 have e24:oP .u32 x 24=Int.fdiv x (2 ^ 24:Nat):=rfl
 have e16:oP .u32 x 16=Int.fdiv x (2 ^ 16:Nat):=rfl
 have e8:oP .u32 x 8=Int.fdiv x (2 ^ 8:Nat):=rfl
 have b16:=Ge x ((2 ^ 16:Nat):Int) h0 (by decide)
 have b8:=Ge x ((2 ^ 8:Nat):Int) h0 (by decide)
 have a1:cZ (oP .u32 x 24) 256=true:=by
  rw[e24,Int.fdiv_eq_ediv_of_nonneg _ (by decide)]
  exact NT (by omega) (by omega)
 have a2:cZ (mN .u32 (oP .u32 x 16) 255) 256=true:=by rw[e16];have:=KY b16.1 (by omega);exact NT this.1 this.2
 have a3:cZ (mN .u32 (oP .u32 x 8) 255) 256=true:=by rw[e8];have:=KY b8.1 (by omega);exact NT this.1 this.2
 have a4:cZ (mN .u32 x 255) 256=true:=by have:=KY h0 h1;exact NT this.1 this.2
 rw[a1,a2,a3,a4]at hc
 simpa using hc
theorem f54(x:Int):aay Uo (t54 (x,()))=true:=by kernel_rfl
theorem akD(x:Int):k54 (x,())=true:=(ca _).trans (Br (f54 x))
theorem U0:U 0:=⟨by decide,by decide⟩
theorem U1:U 1:=⟨by decide,by decide⟩
theorem akE(o x:Int)(hx:U x):Xe (o,x,())=true/\U (m13 (o,x,())).1:=by
 refine rm.km (P:=fun y:cf qB=>U y.1) (ca _) (ca _) ?_
 rw[UZ]
 refine rm.ck (IB o).1 ?_
 repeat' with_reducible first
  |refine rm.bif (fun _=>?_) (fun _=>?_)
  |refine rm.ck (asD _) ?_
  |refine rm.ck (ckU hx) ?_
  |refine rm.ck (akC (Ad _).1 (Ad _).2) ?_
  |refine rm.ck (akD _) ?_
  |exact rm.ok (P:=fun y:cf qB=>U y.1) (IC _)
  |exact rm.ok (P:=fun y:cf qB=>U y.1) U0
  |exact rm.ok (P:=fun y:cf qB=>U y.1) U1
theorem akF{x:Int}(y:Int)(h:U x):U (DC .u64 x y):=by
 obtain⟨a,rfl⟩: ∃ a:Nat,x=a:=⟨x.toNat,by have:=h.1;omega⟩
 unfold DC
 have h0:=h.2
 have h1:0<=Int.tmod (a:Int) y:=Int.tmod_nonneg _ (by omega)
 refine⟨h1,?_⟩
 have h2:Int.tmod (a:Int) y<=a:=by
  obtain⟨b,hb⟩:=Int.eq_nat_or_neg y
  rcases hb with rfl|rfl
  ·rw[<-Int.ofNat_tmod];have:=Nat.mod_le a b;omega
  ·rw[Int.tmod_neg,<-Int.ofNat_tmod];have:=Nat.mod_le a b;omega
 omega
theorem acP{x:Int}(h:U x): ∃ a:Nat,x=a/\a<18446744073709551616:=⟨x.toNat,by have:=h.1;omega,by have:=h.2;have:=h.1;omega⟩
theorem EE{x y:Int}(hx:U x)(hy:U y):U (mN .u64 x y)/\U (Kk .u64 x y)/\U (Km .u64 x y):=by
 obtain⟨a,rfl,ha⟩:=acP hx
 obtain⟨b,rfl,hb⟩:=acP hy
 have hh:(Nat.blt a 18446744073709551616&&Nat.blt b 18446744073709551616)=true:=by
  rw[show(Nat.blt a 18446744073709551616)=true by simpa using ha,show(Nat.blt b 18446744073709551616)=true by simpa using hb];rfl
 have e1:mN .u64 (a:Int) (b:Int)=((a &&& b:Nat):Int):=Bt a b ha hb
 have e2:Kk .u64 (a:Int) (b:Int)=((a ||| b:Nat):Int):=by
  show intOf (bif Nat.blt a 18446744073709551616&&Nat.blt b 18446744073709551616 then some (.int .u64 (.ofNat (Nat.lor a b)))else _)=_
  rw[hh];rfl
 have e3:Km .u64 (a:Int) (b:Int)=((a ^^^ b:Nat):Int):=by
  show intOf (bif Nat.blt a 18446744073709551616&&Nat.blt b 18446744073709551616 then some (.int .u64 (.ofNat (Nat.xor a b)))else _)=_
  rw[hh];rfl
 have l1:a &&& b<2 ^ 64:=Nat.and_lt_two_pow _ (by omega)
 have l2:a ||| b<2 ^ 64:=Nat.or_lt_two_pow (by omega) (by omega)
 have l3:a ^^^ b<2 ^ 64:=Nat.xor_lt_two_pow (by omega) (by omega)
 rw[e1,e2,e3]
 exact⟨⟨by omega,by omega⟩,⟨by omega,by omega⟩,⟨by omega,by omega⟩⟩
theorem CY{y:Int}(hy:U y):0<=mN .u64 y 63:=(EE hy (y:=63) ⟨by decide,by decide⟩).1.1
theorem akG(y:Int):0<=mN .u32 (cb .u32 y) 31:=by
 obtain⟨h0,h1⟩:=Ad y
 obtain⟨a,ha⟩: ∃ a:Nat,cb .u32 y=a:=⟨(cb .u32 y).toNat,by omega⟩
 rw[ha,show mN .u32 (a:Int) 31=((a &&& 31:Nat):Int)from NS a 31 (by omega) (by omega)]
 omega
theorem acQ{x n:Int}(hx:U x)(hn:0<=n):U (oP .u64 x n):=by
 obtain⟨k,rfl⟩: ∃ k:Nat,n=k:=⟨n.toNat,by omega⟩
 have e:oP .u64 x (k:Int)=Int.fdiv x ((2 ^ tW k 64:Nat):Int):=rfl
 have hp:(0:Int)<((2 ^ tW k 64:Nat):Int):=by have:=Nat.two_pow_pos (tW k 64);omega
 have:=Ge x _ hx.1 hp
 rw[e]
 exact⟨this.1,by have:=hx.2;omega⟩
theorem acR{x n:Int}(hn:0<=n):U (uE .u64 x n):=by
 obtain⟨k,rfl⟩: ∃ k:Nat,n=k:=⟨n.toNat,by omega⟩
 exact afW _
theorem acS(a b:Int):0<=cA .u64 a b:=(afW _).1
theorem acT{a b:Int}(h:0<=a):(decide (0<=a)&&decide (0<=cA .u64 b a))=true:=by
 rw[decide_eq_true h,decide_eq_true (acS b a)];rfl
theorem U4{y:Int}(h: ¬ cb .u32 y=0): ¬ cb .i32 (cb .u32 y)=0:=by
 obtain⟨h0,h1⟩:=Ad y
 generalize cb .u32 y=z at*
 have e:cb .i32 z=(z+2147483648) % 4294967296 - 2147483648:=rfl
 omega
theorem U5{z:Int}(h0:U z)(h: ¬ z=0): ¬ cb .i64 z=0:=by
 obtain⟨h0,h1⟩:=h0
 have e:cb .i64 z=(z+9223372036854775808) % 18446744073709551616 - 9223372036854775808:=rfl
 omega
theorem Ql{y:Int}(h: ¬ cb .u32 y=0): ¬ cb .i64 (cb .i32 (cb .u32 y))=0:=by
 have k:=U4 h
 obtain⟨h0,h1⟩:=Ad y
 generalize cb .u32 y=z at*
 have e:cb .i32 z=(z+2147483648) % 4294967296 - 2147483648:=rfl
 have e2:cb .i64 (cb .i32 z)=(cb .i32 z+9223372036854775808) % 18446744073709551616 - 9223372036854775808:=rfl
 omega
theorem nb{p:Prop}[Decidable p](h: ¬ p):(!decide p)=true:=by rw[decide_eq_false h];rfl
end Go.Proofs.Vq

noncomputable section
namespace Go.Proofs.Vq
open Go.Ab Go.Ab.Lf
set_option maxRecDepth 100000
theorem Az{o k lo:Int}(h:decide (o=k)=true)(hk:lo<=k):lo<=o:=by have:=of_decide_eq_true h;omega
theorem AA{o k hi:Int}(h:decide (o=k)=true)(hk:k<=hi):o<=hi:=by have:=of_decide_eq_true h;omega
theorem dz2{o lo hi:Int}{p:Prop}[Decidable p](h:(bif decide (lo<=o)then bif decide (o<=hi)then decide p else false else false)=false)(h1:lo<=o)(h2:o<=hi): ¬ p:=by
 rw[decide_eq_true h1,decide_eq_true h2]at h
 exact of_decide_eq_false h
theorem afX(o x y:Int)(hx:U x)(hy:U y):F' (o,x,y,())=true/\U (m12 (o,x,y,())).1:=by
 refine rm.km (P:=fun y:cf cT=>U y.1) (ca _) (ca _) ?_
 rw[za]
 refine rm.ck (IB o).1 ?_
 have l63: ∀ z,0<=mN .u64 (cb .u64 z) 63:=fun z=>CY (IC z)
 have l31: ∀ z,0<=mN .u64 (cb .u64 z) 31:=fun z=>(EE (IC z) (y:=31) ⟨by decide,by decide⟩).1.1
 repeat' with_reducible first
  |refine rm.bif (fun _=>?_) (fun _=>?_)
  |exact rm.ok (P:=fun y:cf cT=>U y.1) (IC _)
  |exact rm.ok (P:=fun y:cf cT=>U y.1) U0
  |exact rm.ok (P:=fun y:cf cT=>U y.1) U1
  |exact rm.ok (P:=fun y:cf cT=>U y.1) (EE hx hy).1
  |exact rm.ok (P:=fun y:cf cT=>U y.1) (EE hx hy).2.1
  |exact rm.ok (P:=fun y:cf cT=>U y.1) (EE hx hy).2.2
  |exact rm.ok (P:=fun y:cf cT=>U y.1) (akF _ hx)
  |exact rm.ok (P:=fun y:cf cT=>U y.1) (acR (CY hy))
  |exact rm.ok (P:=fun y:cf cT=>U y.1) (acQ hx (CY hy))
  |exact rm.ok (P:=fun y:cf cT=>U y.1) (EE (acR (l63 _)) (acQ hx (acS _ _))).2.1
  |refine rm.ck (decide_eq_true (CY hy)) ?_
  |refine rm.ck (decide_eq_true (akG _)) ?_
  |refine rm.ck (acT (l63 _)) ?_
  |refine rm.ck (acT (l31 _)) ?_
  |refine rm.ck (nb (U4 (dz2 (by assumption) (Az (k:=109) (by assumption) (by decide)) (AA (k:=109) (by assumption) (by decide))))) ?_
  |refine rm.ck (nb (Ql (dz2 (by assumption) (Az (k:=111) (by assumption) (by decide)) (AA (k:=111) (by assumption) (by decide))))) ?_
  |refine rm.ck (nb (dz2 (lo:=109) (hi:=112) (by assumption) (Az (k:=110) (by assumption) (by decide)) (AA (k:=110) (by assumption) (by decide)))) ?_
  |refine rm.ck (nb (dz2 (lo:=109) (hi:=112) (by assumption) (Az (k:=112) (by assumption) (by decide)) (AA (k:=112) (by assumption) (by decide)))) ?_
  |refine rm.ck (nb (U5 hy (dz2 (by assumption) (Az (k:=127) (by assumption) (by decide)) (AA (k:=127) (by assumption) (by decide))))) ?_
  |refine rm.ck (nb (U5 hy (dz2 (by assumption) (Az (k:=129) (by assumption) (by decide)) (AA (k:=129) (by assumption) (by decide))))) ?_
  |refine rm.ck (nb (dz2 (lo:=127) (hi:=130) (by assumption) (Az (k:=128) (by assumption) (by decide)) (AA (k:=128) (by assumption) (by decide)))) ?_
  |refine rm.ck (nb (dz2 (lo:=127) (hi:=130) (by assumption) (Az (k:=130) (by assumption) (by decide)) (AA (k:=130) (by assumption) (by decide)))) ?_
 all_goals (refine rm.ok ?_;show U (oZ .u64 _);exact afW _)
end Go.Proofs.Vq

noncomputable section
namespace Go.Proofs.Vq
open Go.Ab Go.Ab.Lf
set_option maxRecDepth 100000
theorem aaz(x:wQ)(a b:Int)(ha:0<=a)(hb:0<=b)(GC:b<=1099511627776)(hl:x.st.length<=1099511627776)(h1:a<=(x.st.length:Int))(h2:(x.st.length:Int) - a+b<=1048576):
 sO (cz [i64,i64] x (a,b,()))=true/\cu (cz [i64,i64] x (a,b,()))=(true,cz [] x ()):=by
 refine mO (ca _) (ca _) ?_
 rw[akz]
 have e1:cA .i64 (x.st.length:Int) a=(x.st.length:Int) - a:=wrap_i64 (by omega) (by omega)
 have e2:cY .i64 ((x.st.length:Int) - a) b=(x.st.length:Int) - a+b:=wrap_i64 (by omega) (by omega)
 rw[e1,e2,decide_eq_false (by omega),decide_eq_false (by omega)]
 rfl
end Go.Proofs.Vq

noncomputable section
namespace Go.Proofs.Vq
open Go.Ab Go.Ab.Lf
set_option maxRecDepth 100000
theorem df{p:Prop}[Decidable p](h: ¬ p):decide p=false:=decide_eq_false h
theorem dt{p:Prop}[Decidable p](h:p):decide p=true:=decide_eq_true h
section
variable (g:Cg)(m:Qe)(fu ho de:Int)(f2:den oW)(pc:Int)
end
end Go.Proofs.Vq

noncomputable section
namespace Go.Proofs.Vq
open Go.Ab Go.Ab.Lf
set_option maxRecDepth 100000
theorem acV{α:Type}{l r:List α}{c:α}{j:Nat}(h:l.drop j=c::r):l.drop (j+1)=r:=by rw[<-List.tail_drop,h];rfl
theorem ad1{j:Nat}(h:j<=1099511627776):cY .i64 (j:Int) 1=((j+1:Nat):Int):=afd (by omega)
end Go.Proofs.Vq

noncomputable section
namespace Go.Proofs.Vq
open Go.Ab Go.Ab.Lf
set_option maxRecDepth 100000
section
variable (st:List Int)
abbrev xL:Int:=cA .i64 (Int.ofNat (List.length st)) 1
abbrev afY:List Int:=List.take ((xL st).toNat - (0:Int).toNat) (List.drop (0:Int).toNat st)
abbrev CZ{α:Type}(X:Option α):Option α:=cF (cZ (xL st) (Int.ofNat (List.length st))) (cF (nH 0 (xL st) (Int.ofNat (List.length st))) X)
abbrev DM:Int:=List.getD st (xL st).toNat (cE (Ty.int .u64))
abbrev vf:Int:=cA .i64 (Int.ofNat ((xL st).toNat - (0:Int).toNat)) 1
abbrev U6:Int:=List.getD st ((0:Int).toNat+(vf st).toNat) (cE (Ty.int .u64))
abbrev akH:List Int:=List.take ((vf st).toNat - (0:Int).toNat) (List.drop ((0:Int).toNat+(0:Int).toNat) st)
abbrev KZ{α:Type}(X:Option α):Option α:=CZ st (cF (cZ (vf st) (Int.ofNat ((xL st).toNat - (0:Int).toNat))) (cF (nH 0 (vf st) (Int.ofNat ((xL st).toNat - (0:Int).toNat))) X))
abbrev xM{α:Type}(v:Int)(X:List Int->Option α):Option α:=cF (roomy 8 (List.length st+[v].length)) (X (app st [v]))
end
abbrev U7{α:Type}(e:Int)(F:wQ)(X:wQ->Option α):Option α:=bif (bif !decide (e=0)then decide (F.r.err=0)else false)then X {F with r:={F.r with err:=e}}else X F
abbrev fin(F:wQ):Option (List Pl):=some (cq (F9 []) (cz [] F ()))
end Go.Proofs.Vq

noncomputable section
namespace Go.Proofs.Vq
open Go.Ab Go.Ab.Lf
set_option maxRecDepth 100000
section
variable {st s:List Int}{w:Int}
theorem zb(h:st=s++[w])(hl:s.length<=1099511627776):xL st=(s.length:Int):=by
 have:List.length st=s.length+1:=by rw[h,List.length_append];rfl
 show cA .i64 ((List.length st:Nat):Int) 1=_
 rw[this]
 exact(wrap_i64 (by omega) (by omega)).trans (by omega)
theorem Ae{α:Type}(X:Option α)(h:st=s++[w])(hl:s.length<=1099511627776):CZ st X=X:=by
 have hn:List.length st=s.length+1:=by rw[h,List.length_append];rfl
 show cF (cZ (xL st) ((List.length st:Nat):Int)) (cF (nH 0 (xL st) ((List.length st:Nat):Int)) X)=X
 rw[zb h hl,show cZ (s.length:Int) ((List.length st:Nat):Int)=true from pN (by omega),show nH 0 (s.length:Int) ((List.length st:Nat):Int)=true by unfold nH;simp;omega]
 rfl
theorem NU(h:st=s++[w])(hl:s.length<=1099511627776):afY st=s:=by
 show List.take ((xL st).toNat - 0) st=s
 rw[zb h hl,h];simp
theorem Gf(h:st=s++[w])(hl:s.length<=1099511627776):DM st=w:=by
 show List.getD st (xL st).toNat 0=w
 rw[zb h hl,h];simp[List.getD_eq_getElem?_getD]
end
section
variable {st s:List Int}{v w:Int}
theorem wT(h:st=s++[v,w])(hl:s.length<=1099511627775):vf st=(s.length:Int):=by
 have h1:st=(s++[v])++[w]:=by rw[h,List.append_assoc];rfl
 have hk:(s++[v]).length=s.length+1:=by rw[List.length_append];rfl
 show cA .i64 (((xL st).toNat - 0:Nat):Int) 1=_
 rw[zb h1 (by omega),hk]
 exact(wrap_i64 (by omega) (by omega)).trans (by omega)
theorem EF{α:Type}(X:Option α)(h:st=s++[v,w])(hl:s.length<=1099511627775):KZ st X=X:=by
 have h1:st=(s++[v])++[w]:=by rw[h,List.append_assoc];rfl
 have hk:(s++[v]).length=s.length+1:=by rw[List.length_append];rfl
 show CZ st (cF (cZ (vf st) (((xL st).toNat - 0:Nat):Int)) (cF (nH 0 (vf st) (((xL st).toNat - 0:Nat):Int)) X))=X
 rw[Ae _ h1 (by omega),wT h hl,zb h1 (by omega),hk]
 rw[show cZ (s.length:Int) ((((s.length+1:Nat):Int).toNat - 0:Nat):Int)=true from pN (by simp),show nH 0 (s.length:Int) ((((s.length+1:Nat):Int).toNat - 0:Nat):Int)=true by unfold nH;simp;omega]
 rfl
theorem aaB(h:st=s++[v,w])(hl:s.length<=1099511627775):akH st=s:=by
 show List.take ((vf st).toNat - 0) (List.drop (0+0) st)=s
 rw[wT h hl,h];simp
theorem NV(h:st=s++[v,w])(hl:s.length<=1099511627775):U6 st=v:=by
 show List.getD st (0+(vf st).toNat) 0=v
 rw[wT h hl,h];simp[List.getD_eq_getElem?_getD]
theorem ID(h:st=s++[v,w])(hl:s.length<=1099511627775):DM st=w:=
 Gf (s:=s++[v]) (by rw[h,List.append_assoc];rfl) (by rw[List.length_append];show s.length+1<=_;omega)
end
theorem sY{α:Type}{s:List Int}(v:Int)(X:List Int->Option α)(hl:s.length<=1048576):xM s v X=X (s++[v]):=by
 show cF (roomy 8 (s.length+1)) (X (app s [v]))=_
 rw[show roomy 8 (s.length+1)=true from rS (by decide) (by omega),mP]
 rfl
theorem vg(x:wQ)(a b:Nat)(hl:x.st.length<=1048576)(h1:a<=x.st.length)(h2:x.st.length - a+b<=1048576):
 sO (cz [i64,i64] x ((a:Int),(b:Int),()))=true/\cu (cz [i64,i64] x ((a:Int),(b:Int),()))=(true,cz [] x ()):=
 aaz x (a:Int) (b:Int) (by omega) (by omega) (by omega) (by omega) (by omega) (by omega)
theorem IE{α:Type}(e:Int)(F:wQ)(X:wQ->Option α)(h:F.r.err=0):U7 e F X=X {F with r:={F.r with err:=e}}:=by
 show(bif (bif !decide (e=0)then decide (F.r.err=0)else false)then X {F with r:={F.r with err:=e}}else X F)=_
 rw[h]
 by_cases hz:e=0
 ·rw[dt hz]
  have:({F with r:={F.r with err:=e}}:wQ)=F:=by
   obtain⟨⟨m,fu,ho,de,er⟩,f,pc,st,lo⟩:=F
   have h:er=0:=h
   rw[hz,h]
  rw[this];rfl
 ·rw[df hz];rfl
end Go.Proofs.Vq

noncomputable section
namespace Go.Proofs.Vq
open Go.Ab Go.Ab.Lf
set_option maxRecDepth 100000
end Go.Proofs.Vq

noncomputable section
namespace Go.Proofs.Vq
open Go.Ab Go.Ab.Lf
set_option maxRecDepth 100000
section
variable (x:wQ)(a n:Int){s:List Int}{v w y:Int}
theorem P66(hl:x.st.length<=1048575):DK (cz zm x (66,a,n,()))=true/\CT (cz zm x (66,a,n,()))=cz [] {x with st:=x.st++[n]} ():=by
 have hn:=vg x 0 1 (by omega) (by omega) (by omega)
 refine mO (ca _) (ca _) ?_
 refine(IA x 66 a n).trans ?_
 rw[df (show ¬ (66:Int)=257 by decide),df (show ¬ (66:Int)=256 by decide),df (show ¬ (66:Int)=26 by decide),df (show ¬ (66:Int)=27 by decide),dt rfl,show sO (cz [i64,i64] x (0,1,()))=true from hn.1,show cu (cz [i64,i64] x (0,1,()))=_ from hn.2]
 show cF true (bif true then xM x.st n (fun s=>some (cq pj (cz [] {x with st:=s} ())))else fin x)=_
 rw[sY _ _ (by omega)]
 rfl
theorem P27(hx:x.st=s++[v,w,y])(hl:s.length<=1048573):DK (cz zm x (27,a,n,()))=true/\CT (cz zm x (27,a,n,()))=cz [] {x with st:=s++[bif decide (cb .u32 y=0)then w else v]} ():=by
 have hk:x.st.length=s.length+3:=by rw[hx,List.length_append];rfl
 have hn:=vg x 3 1 (by omega) (by omega) (by omega)
 refine mO (ca _) (ca _) ?_
 refine(IA x 27 a n).trans ?_
 rw[df (show ¬ (27:Int)=257 by decide),df (show ¬ (27:Int)=256 by decide),df (show ¬ (27:Int)=26 by decide),dt rfl,show sO (cz [i64,i64] x (3,1,()))=true from hn.1,show cu (cz [i64,i64] x (3,1,()))=_ from hn.2]
 have h2:x.st=(s++[v])++[w,y]:=by rw[hx,List.append_assoc];rfl
 have hk2:(s++[v]).length=s.length+1:=by rw[List.length_append];rfl
 have eI:cA .i64 (Int.ofNat ((vf x.st).toNat - (0:Int).toNat)) 1=(s.length:Int):=by
  rw[wT h2 (by omega),hk2]
  have e0:Int.ofNat ((((s.length+1:Nat):Int)).toNat - (0:Int).toNat)=((s.length+1:Nat):Int):=by rw[Int.toNat_natCast];rfl
  rw[e0]
  exact(wrap_i64 (by omega) (by omega)).trans (by omega)
 have g0:List.getD x.st ((0:Int).toNat+(0:Int).toNat+(s.length:Int).toNat) (cE (Ty.int .u64))=v:=by
  rw[hx];show List.getD (s++[v,w,y]) (0+0+s.length) 0=v;rw[show 0+0+s.length=s.length by omega];simp[List.getD_eq_getElem?_getD]
 have c1:cZ (s.length:Int) (Int.ofNat ((vf x.st).toNat - (0:Int).toNat))=true:=by rw[wT h2 (by omega),hk2];exact pN (by show s.length<(((s.length+1:Nat):Int)).toNat - 0;rw[Int.toNat_natCast];omega)
 have c2:nH 0 (s.length:Int) (Int.ofNat ((vf x.st).toNat - (0:Int).toNat))=true:=by rw[wT h2 (by omega),hk2];unfold nH;simp;omega
 have e3:List.take ((s.length:Int).toNat - (0:Int).toNat) (List.drop ((0:Int).toNat+(0:Int).toNat+(0:Int).toNat) x.st)=s:=by rw[hx];simp
 show cF true (bif true then KZ x.st (cF (cZ (cA .i64 (Int.ofNat ((vf x.st).toNat - (0:Int).toNat)) 1) (Int.ofNat ((vf x.st).toNat - (0:Int).toNat))) (cF (nH 0 (cA .i64 (Int.ofNat ((vf x.st).toNat - (0:Int).toNat)) 1) (Int.ofNat ((vf x.st).toNat - (0:Int).toNat)))
  (bif decide (cb .u32 (DM x.st)=0)then xM (List.take ((cA .i64 (Int.ofNat ((vf x.st).toNat - (0:Int).toNat)) 1).toNat - (0:Int).toNat) (List.drop ((0:Int).toNat+(0:Int).toNat+(0:Int).toNat) x.st)) (U6 x.st) (fun s=>some (cq pj (cz [] {x with st:=s} ())))
   else xM (List.take ((cA .i64 (Int.ofNat ((vf x.st).toNat - (0:Int).toNat)) 1).toNat - (0:Int).toNat) (List.drop ((0:Int).toNat+(0:Int).toNat+(0:Int).toNat) x.st)) (List.getD x.st ((0:Int).toNat+(0:Int).toNat+(cA .i64 (Int.ofNat ((vf x.st).toNat - (0:Int).toNat)) 1).toNat) (cE (Ty.int .u64))) (fun s=>some (cq pj (cz [] {x with st:=s} ()))))))else fin x)=_
 rw[EF _ h2 (by omega),ID h2 (by omega),NV h2 (by omega),eI,c1,c2,e3,g0,sY _ _ (by omega),sY _ _ (by omega)]
 cases decide (cb .u32 y=0)<;>rfl
end
end Go.Proofs.Vq

noncomputable section
namespace Go.Proofs.Vq
open Go.Ab Go.Ab.Lf
set_option maxRecDepth 100000
section
variable (x:wQ)(n:Int){s:List Int}{v w:Int}
theorem acW{x x':wQ}{o a n:Int}(h1:32<=o)(h2:o<=36)(h:afC (cz zm x (o,a,n,()))=true/\afD (cz zm x (o,a,n,()))=cz [] x' ()):DK (cz zm x (o,a,n,()))=true/\CT (cz zm x (o,a,n,()))=cz [] x' ():=by
 refine mO (ca _) (ca _) ?_
 refine(IA x o a n).trans ?_
 rw[df (show ¬ o=257 by omega),df (show ¬ o=256 by omega),df (show ¬ o=26 by omega),df (show ¬ o=27 by omega),df (show ¬ o=66 by omega),dt h1,dt h2,h.1,h.2]
 rfl
theorem P32(a:Nat)(ha:a<x.lo.length)(hl:x.st.length<=1048575):DK (cz zm x (32,(a:Int),n,()))=true/\CT (cz zm x (32,(a:Int),n,()))=cz [] {x with st:=x.st++[x.lo.getD a 0]} ():=by
 refine acW (by decide) (by decide) ?_
 have hn:=vg x 0 1 (by omega) (by omega) (by omega)
 refine mO (ca _) (ca _) ?_
 refine(acJ x 32 a n).trans ?_
 rw[dt rfl,show sO (cz [i64,i64] x (0,1,()))=true from hn.1,show cu (cz [i64,i64] x (0,1,()))=_ from hn.2]
 show cF true (bif true then cF (cZ (a:Int) (x.lo.length:Int)) (xM x.st (x.lo.getD a 0) (fun s=>fin {x with st:=s}))else fin x)=_
 rw[show cZ (a:Int) (x.lo.length:Int)=true from pN ha,sY _ _ (by omega)]
 rfl
theorem P33(a:Nat)(ha:a<x.lo.length)(hx:x.st=s++[w])(hl:s.length<=1048575):DK (cz zm x (33,(a:Int),n,()))=true/\CT (cz zm x (33,(a:Int),n,()))=cz [] {x with st:=s,lo:=x.lo.set a w} ():=by
 refine acW (by decide) (by decide) ?_
 have hk:x.st.length=s.length+1:=by rw[hx,List.length_append];rfl
 have hn:=vg x 1 0 (by omega) (by omega) (by omega)
 refine mO (ca _) (ca _) ?_
 refine(acJ x 33 a n).trans ?_
 rw[df (show ¬ (33:Int)=32 by decide),dt (rfl:(33:Int)=33),show sO (cz [i64,i64] x (1,0,()))=true from hn.1,show cu (cz [i64,i64] x (1,0,()))=_ from hn.2]
 show cF true (bif true then CZ x.st (cF (decide ((a:Int)=(a:Int))) (cF (cZ (a:Int) (x.lo.length:Int)) (fin {x with st:=afY x.st,lo:=x.lo.set a (DM x.st)})))else fin x)=_
 rw[Ae _ hx (by omega),NU hx (by omega),Gf hx (by omega),show cZ (a:Int) (x.lo.length:Int)=true from pN ha,dt rfl]
 rfl
end
end Go.Proofs.Vq

noncomputable section
namespace Go.Proofs.Vq
open Go.Ab Go.Ab.Lf
set_option maxRecDepth 100000
section
variable (x:wQ)(a n:Int){s:List Int}{v w:Int}
structure Num(o:Int):Prop where
 h: ¬ o=257/\ ¬ o=256/\ ¬ o=26/\ ¬ o=27/\ ¬ o=66/\ ¬ (32<=o/\o<=36)/\ ¬ (40<=o/\o<=64)
theorem NW{a b:Int->Prop}{o:Int}[Decidable (a o)][Decidable (b o)](h: ¬ (a o/\b o)):(bif decide (a o)then decide (b o)else false)=false:=by
 by_cases ha:a o
 ·rw[dt ha,df (fun hb=>h ⟨ha,hb⟩)];rfl
 ·rw[df ha];rfl
theorem asF{o:Int}(hO:Num o)(ha:(m11 (o,())).1=1)(he:x.r.err=0)(hw:U w)(hx:x.st=s++[w])(hl:s.length<=1048575):DK (cz zm x (o,a,n,()))=true/\CT (cz zm x (o,a,n,()))=cz [] {x with r:={x.r with err:=(m13 (o,w,())).2.1},st:=s++[(m13 (o,w,())).1]} ():=by
 obtain⟨h1,h2,h3,h4,h5,h6,h7⟩:=hO.h
 obtain⟨hk,_⟩:=akE o w hw
 have hk1:x.st.length=s.length+1:=by rw[hx,List.length_append];rfl
 have hn:=vg x 1 1 (by omega) (by omega) (by omega)
 refine mO (ca _) (ca _) ?_
 refine(IA x o a n).trans ?_
 rw[df h1,df h2,df h3,df h4,df h5,NW (a:=fun o=>32<=o) (b:=fun o=>o<=36) h6,NW (a:=fun o=>40<=o) (b:=fun o=>o<=64) h7,(IB o).1,dt ha,show sO (cz [i64,i64] x (1,1,()))=true from hn.1,show cu (cz [i64,i64] x (1,1,()))=_ from hn.2]
 show cF true (cF true (bif true then CZ x.st (cF (decide (o=o)) (cF (Xe (o,DM x.st,())) (U7 (m13 (o,DM x.st,())).2.1 {x with st:=afY x.st} fun F=>xM F.st (m13 (o,DM x.st,())).1 fun s=>fin {F with st:=s})))else fin x))=_
 rw[Ae _ hx (by omega),Gf hx (by omega),NU hx (by omega),hk,dt (rfl:o=o),vu rfl,vu rfl,cond_true,vu rfl,vu rfl]
 refine(IE _ _ _ ?_).trans ?_
 ·exact he
 ·exact sY (s:=s) _ _ (by omega)
theorem akI{o:Int}(hO:Num o)(ha:(m11 (o,())).1=2)(he:x.r.err=0)(hv:U v)(hw:U w)(hx:x.st=s++[v,w])(hl:s.length<=1048574):DK (cz zm x (o,a,n,()))=true/\CT (cz zm x (o,a,n,()))=cz [] {x with r:={x.r with err:=(m12 (o,v,w,())).2.1},st:=s++[(m12 (o,v,w,())).1]} ():=by
 obtain⟨h1,h2,h3,h4,h5,h6,h7⟩:=hO.h
 obtain⟨hk,_⟩:=afX o v w hv hw
 have hk1:x.st.length=s.length+2:=by rw[hx,List.length_append];rfl
 have hn:=vg x 2 1 (by omega) (by omega) (by omega)
 refine mO (ca _) (ca _) ?_
 refine(IA x o a n).trans ?_
 rw[df h1,df h2,df h3,df h4,df h5,NW (a:=fun o=>32<=o) (b:=fun o=>o<=36) h6,NW (a:=fun o=>40<=o) (b:=fun o=>o<=64) h7,(IB o).1,df (show ¬ (m11 (o,())).1=1 from fun q=>absurd (ha.symm.trans q) (by decide)),show sO (cz [i64,i64] x (2,1,()))=true from hn.1,show cu (cz [i64,i64] x (2,1,()))=_ from hn.2]
 show cF true (cF true (bif true then KZ x.st (cF (F' (o,U6 x.st,DM x.st,())) (U7 (m12 (o,U6 x.st,DM x.st,())).2.1 {x with st:=akH x.st} fun F=>xM F.st (m12 (o,U6 x.st,DM x.st,())).1 fun s=>fin {F with st:=s}))else fin x))=_
 rw[EF _ hx (by omega),ID hx (by omega),NV hx (by omega),aaB hx (by omega),hk,vu rfl,vu rfl,cond_true,vu rfl]
 refine(IE _ _ _ ?_).trans ?_
 ·exact he
 ·exact sY (s:=s) _ _ (by omega)
end
end Go.Proofs.Vq

noncomputable section
namespace Go.Proofs.Vq
open Go.Ab Go.Ab.Lf
set_option maxRecDepth 100000
section
variable (g:Cg)(x:wQ)(a n:Int){s:List Int}{w:Int}
theorem S15(o:Nat)(ho:x.f.2.2.2.1=(o:Int))(h:o<=x.st.length)(hl:x.st.length<=1048576):Qf g (cz zm x (15,a,n,()))=true/\Qg g (cz zm x (15,a,n,()))=cz [] {x with pc:= -1,st:=x.st.drop (x.st.length - o)} ():=by
 have hn:=vg x o 0 (by omega) (by omega) (by omega)
 refine mO (ca _) (ca _) ?_
 refine(acK g x 15 a n).trans ?_
 rw[df (show ¬ (15:Int)=0 by decide),df (show ¬ (15:Int)=12 by decide),df (show ¬ (15:Int)=13 by decide),df (show ¬ (15:Int)=14 by decide),dt (rfl:(15:Int)=15),show sO (cz [i64,i64] x (x.2.2.2.2.1,0,()))=true from(by rw[show(x.2.2.2.2.1:Int)=(o:Int)from ho];exact hn.1),show cu (cz [i64,i64] x (x.2.2.2.2.1,0,()))=(true,cz [] x ())from(by rw[show(x.2.2.2.2.1:Int)=(o:Int)from ho];exact hn.2)]
 show cF true (bif true then cF (nH (cA .i64 (x.st.length:Int) x.f.2.2.2.1) (x.st.length:Int) (x.st.length:Int)) (fin {x with pc:= -1,st:=List.take ((x.st.length:Int).toNat - (cA .i64 (x.st.length:Int) x.f.2.2.2.1).toNat) (List.drop (cA .i64 (x.st.length:Int) x.f.2.2.2.1).toNat x.st)})else fin x)=_
 have e:cA .i64 (x.st.length:Int) x.f.2.2.2.1=((x.st.length - o:Nat):Int):=by rw[ho];exact(wrap_i64 (by omega) (by omega)).trans (by omega)
 rw[e,show nH ((x.st.length - o:Nat):Int) (x.st.length:Int) (x.st.length:Int)=true by unfold nH;simp]
 have e2:List.take ((x.st.length:Int).toNat - ((x.st.length - o:Nat):Int).toNat) (List.drop ((x.st.length - o:Nat):Int).toNat x.st)=x.st.drop (x.st.length - o):=by
  rw[Int.toNat_natCast,Int.toNat_natCast]
  exact List.take_of_length_le (by rw[List.length_drop];omega)
 rw[e2]
 rfl
theorem wU{x x':wQ}{o a n:Int}(h0: ¬ o=0)(h1: ¬ (12<=o/\o<=17))(h:DK (cz zm x (o,a,n,()))=true/\CT (cz zm x (o,a,n,()))=cz [] x' ()):Qf g (cz zm x (o,a,n,()))=true/\Qg g (cz zm x (o,a,n,()))=cz [] {x' with pc:=cY .i64 x'.pc 1} ():=by
 refine mO (ca _) (ca _) ?_
 refine(acK g x o a n).trans ?_
 rw[df h0,df (show ¬ o=12 by omega),df (show ¬ o=13 by omega),df (show ¬ o=14 by omega),df (show ¬ o=15 by omega),df (show ¬ o=16 by omega),df (show ¬ o=17 by omega),h.1,h.2]
 rfl
end
end Go.Proofs.Vq

noncomputable section
namespace Go.Proofs.Vq
open Go.Ab Go.Ab.Lf
set_option maxRecDepth 100000
section
variable (g:Cg)
theorem akJ{x:wQ}{cs:List (den nd)}(hf:cs=x.f.2.2.2.2.2.1)(he:x.r.err=0){pc:Nat}(hp:x.pc=(pc:Int)){c:den nd}{r:List (den nd)}(hd:cs.drop pc=c::r)(f0:den oW)(Q1:cs=f0.2.2.2.2.2.1){x':wQ}
 (h:Qf g (cz zm x (c.1,c.2.1,c.2.2,()))=true/\Qg g (cz zm x (c.1,c.2.1,c.2.2,()))=cz [] x' ()):
 (A2 g (cq q8 (cL x.r f0 x.f x.pc x.st x.lo))).val=some (.next (cq q8 (cL x'.r f0 x'.f x'.pc x'.st x'.lo))):=by
 obtain⟨oI,hg⟩:=yW hd (cE nd)
 refine(acI g x.r f0 x.f x.pc x.st x.lo cs Q1 c (by rw[hp,Int.toNat_natCast];exact hg.symm) (cz zm x (c.1,c.2.1,c.2.2,())) rfl x' (by rw[h.2];rfl)).trans ?_
 rw[dt he,hp,dt (show(0:Int)<=(pc:Int) by omega),df (show ¬ (cs.length:Int)<=(pc:Int) by omega),show cZ (pc:Int) (cs.length:Int)=true from pN oI,h.1]
 rfl
end
end Go.Proofs.Vq


noncomputable section
namespace Go.Proofs.Sw
def pk(w:Nat):Nat->(Nat->Nat)->Nat
 |0,_=>0
 |n+1,f=>f 0+2 ^ w*pk w n (fun i=>f (i+1))
variable {w:Nat}
theorem cS: ∀ {n:Nat} {f g:Nat->Nat},(∀ i,i<n->f i=g i)->pk w n f=pk w n g
 |0,_,_,_=>rfl
 |n+1,f,g,h=>by
  unfold pk
  rw[h 0 (Nat.succ_pos _),cS (n:=n) (f:=fun i=>f (i+1)) (g:=fun i=>g (i+1)) fun i hi=>h (i+1) (by omega)]
theorem U8: ∀ (n:Nat) (f g:Nat->Nat),pk w n f+pk w n g=pk w n (fun i=>f i+g i)
 |0,_,_=>rfl
 |n+1,f,g=>by
  have:=U8 n (fun i=>f (i+1)) (fun i=>g (i+1))
  show f 0+2 ^ w*pk w n (fun i=>f (i+1))+(g 0+2 ^ w*pk w n (fun i=>g (i+1)))=f 0+g 0+2 ^ w*pk w n (fun i=>f (i+1)+g (i+1))
  rw[<-this,Nat.mul_add]
  omega
theorem K3(c:Nat): ∀ (n:Nat) (f:Nat->Nat),c*pk w n f=pk w n (fun i=>c*f i)
 |0,_=>Nat.mul_zero _
 |n+1,f=>by
  have:=K3 c n (fun i=>f (i+1))
  unfold pk
  rw[<-this,Nat.mul_add,Nat.mul_left_comm]
theorem afZ(n:Nat)(f g:Nat->Nat)(h: ∀ i,i<n->g i<=f i):pk w n f - pk w n g=pk w n (fun i=>f i - g i):=by
 have:=U8 (w:=w) n (fun i=>f i - g i) g
 have e:pk w n (fun i=>f i - g i+g i)=pk w n f:=cS fun i hi=>Nat.sub_add_cancel (h i hi)
 rw[e]at this
 omega
theorem NX: ∀ {n:Nat} {f:Nat->Nat},(∀ i,i<n->f i<2 ^ w)->pk w n f<2 ^ (w*n)
 |0,_,_=>by simp[pk]
 |n+1,f,h=>by
  have h0:=h 0 (Nat.succ_pos _)
  have ih:=NX (n:=n) (f:=fun i=>f (i+1)) fun i hi=>h (i+1) (by omega)
  unfold pk
  rw[Nat.mul_succ,Nat.add_comm (w*n) w,Nat.pow_add]
  have:2 ^ w*pk w n (fun i=>f (i+1))+2 ^ w<=2 ^ w*2 ^ (w*n):=by
   rw[<-Nat.mul_succ];exact Nat.mul_le_mul_left _ ih
  omega
theorem xN(hw:0<w): ∀ {n:Nat} {f:Nat->Nat},(∀ i,i<n->f i<2 ^ w)-> ∀ j,(pk w n f).testBit j=(decide (j<w*n)&&(f (j / w)).testBit (j % w))
 |0,_,_,j=>by simp[pk]
 |n+1,f,h,j=>by
  have h0:=h 0 (Nat.succ_pos _)
  have ih:=xN hw (n:=n) (f:=fun i=>f (i+1)) fun i hi=>h (i+1) (by omega)
  unfold pk
  rw[Nat.add_comm,Nat.testBit_two_pow_mul_add _ h0]
  by_cases hj:j<w
  ·rw[if_pos hj,Nat.div_eq_of_lt hj,Nat.mod_eq_of_lt hj]
   have:j<w*(n+1):=by rw[Nat.mul_succ];omega
   simp[this]
  ·rw[if_neg hj,ih]
   have e1:(j - w) / w+1=j / w:=by
    have:=Nat.add_div_right (j - w) hw
    rw[Nat.sub_add_cancel (by omega)]at this
    omega
   have e2:(j - w) % w=j % w:=by
    have:=Nat.add_mod_right (j - w) w
    rw[Nat.sub_add_cancel (by omega)]at this
    exact this.symm
   have e3:(j - w<w*n)=(j<w*(n+1)):=by
    rw[Nat.mul_succ]
    apply propext
    constructor<;>intro h<;>omega
   rw[e2]
   simp only[e1,e3]
theorem af0(hw:0<w){n:Nat}{f g:Nat->Nat}(hf: ∀ i,i<n->f i<2 ^ w)(hg: ∀ i,i<n->g i<2 ^ w):pk w n f &&& pk w n g=pk w n (fun i=>f i &&& g i):=by
 apply Nat.eq_of_testBit_eq
 intro j
 rw[Nat.testBit_and,xN hw hf,xN hw hg,xN hw fun i hi=>Nat.and_lt_two_pow _ (hg i hi),Nat.testBit_and]
 cases decide (j<w*n)<;>simp
theorem akK(hw:0<w){n:Nat}{f g:Nat->Nat}(hf: ∀ i,i<n->f i<2 ^ w)(hg: ∀ i,i<n->g i<2 ^ w):pk w n f ||| pk w n g=pk w n (fun i=>f i ||| g i):=by
 apply Nat.eq_of_testBit_eq
 intro j
 rw[Nat.testBit_or,xN hw hf,xN hw hg,xN hw fun i hi=>Nat.or_lt_two_pow (hf i hi) (hg i hi),Nat.testBit_or]
 cases decide (j<w*n)<;>simp
def ln(w x i:Nat):Nat:=x / 2 ^ (w*i) % 2 ^ w
theorem ry(x i:Nat):ln w x i<2 ^ w:=Nat.mod_lt _ (Nat.two_pow_pos w)
theorem NY: ∀ (n x:Nat),x<2 ^ (w*n)->x=pk w n (ln w x)
 |0,x,h=>by
  rw[Nat.mul_zero]at h
  show x=0
  omega
 |n+1,x,h=>by
  have ih:=NY n (x / 2 ^ w) (by
   rw[Nat.mul_succ,Nat.add_comm,Nat.pow_add]at h
   exact Nat.div_lt_of_lt_mul h)
  unfold pk
  have e:pk w n (fun i=>ln w x (i+1))=x / 2 ^ w:=by
   refine Eq.trans (cS fun i _=>?_) ih.symm
   unfold ln
   rw[Nat.div_div_eq_div_mul,<-Nat.pow_add,Nat.mul_succ,Nat.add_comm (w*i) w]
  rw[e]
  unfold ln
  rw[Nat.mul_zero,Nat.pow_zero,Nat.div_one]
  exact(Nat.mod_add_div x (2 ^ w)).symm
theorem acX: ∀ {n:Nat} {f:Nat->Nat},(∀ i,i<n->f i<2 ^ w)-> ∀ i,i<n->ln w (pk w n f) i=f i
 |0,_,_,_,h=>by omega
 |n+1,f,h,i,hi=>by
  have h0:=h 0 (Nat.succ_pos _)
  unfold pk ln
  cases i with
  |zero=>
   rw[Nat.mul_zero,Nat.pow_zero,Nat.div_one,Nat.add_mul_mod_self_left,Nat.mod_eq_of_lt h0]
  |succ i=>
   have ih:=acX (n:=n) (f:=fun i=>f (i+1)) (fun i hi=>h (i+1) (by omega)) i (by omega)
   unfold ln at ih
   rw[Nat.mul_succ,Nat.add_comm (w*i) w,Nat.pow_add,<-Nat.div_div_eq_div_mul,Nat.add_mul_div_left _ _ (Nat.two_pow_pos w),Nat.div_eq_of_lt h0,Nat.zero_add]
   exact ih
theorem aaC(n:Nat):pk w n (fun _=>2 ^ w - 1)=2 ^ (w*n) - 1:=by
 induction n with
 |zero=>simp[pk]
 |succ n ih=>
  show 2 ^ w - 1+2 ^ w*pk w n (fun _=>2 ^ w - 1)=_
  rw[ih,Nat.mul_succ,Nat.add_comm (w*n) w,Nat.pow_add,Nat.mul_sub,Nat.mul_one]
  have h1:=Nat.two_pow_pos w
  have h2:2 ^ w<=2 ^ w*2 ^ (w*n):=Nat.le_mul_of_pos_right _ (Nat.two_pow_pos _)
  omega
end Go.Proofs.Sw


noncomputable section
namespace Go.Proofs.Sw
variable {p:Nat}
theorem p2(p:Nat):2 ^ (p+1)=2*2 ^ p:=by rw[Nat.pow_succ,Nat.mul_comm]
theorem Gg(x:Nat):x &&& (2 ^ p - 1)=x % 2 ^ p:=Nat.and_two_pow_sub_one_eq_mod x p
section
variable {a b:Nat}(ha:a<2 ^ (p+1))(hb:b<2 ^ (p+1))
include ha hb
end
end Go.Proofs.Sw

noncomputable section
namespace Go.Proofs.Sw
inductive Sc where
 |g (a:Nat)|s (a:Nat)|k (n:Nat)|o (op:Nat)
abbrev nh:Nat:=18446744073709551616
def rh(lo:Nat->Nat)(a v:Nat):Nat->Nat:=fun j=>if j=a then v else lo j
def xO(x:Nat):Int:=if x<9223372036854775808 then(x:Int)else(x:Int) - 18446744073709551616
def Q2(b:Bool):Nat:=match b with|true=>1|false=>0
def JD(op:Nat)(st:List Nat):Option (List Nat):=match op,st with
 |124,y::x::s=>some ((x+y) % nh::s)
 |125,y::x::s=>some ((x+nh - y) % nh::s)
 |126,y::x::s=>some (x*y % nh::s)
 |131,y::x::s=>some ((x &&& y)::s)
 |132,y::x::s=>some ((x ||| y)::s)
 |133,y::x::s=>some ((x ^^^ y)::s)
 |134,y::x::s=>some (2 ^ (y % 64)*x % nh::s)
 |135,y::x::s=>some (((xO x / 2 ^ (y % 64)) % 18446744073709551616).toNat::s)
 |136,y::x::s=>some (x / 2 ^ (y % 64)::s)
 |81,y::x::s=>some (Q2 (decide (x=y))::s)
 |83,y::x::s=>some (Q2 (decide (xO x<xO y))::s)
 |84,y::x::s=>some (Q2 (decide (x<y))::s)
 |85,y::x::s=>some (Q2 (decide (xO y<xO x))::s)
 |69,x::s=>some (Q2 (decide (x % 4294967296=0))::s)
 |80,x::s=>some (Q2 (decide (x=0))::s)
 |167,x::s=>some (x % 4294967296::s)
 |173,x::s=>some (x % 4294967296::s)
 |27,c::b::a::s=>some ((if c % 4294967296=0 then b else a)::s)
 | _,_=>none
def run:List Sc->List Nat->(Nat->Nat)->Option (List Nat×(Nat->Nat))
 | [],st,lo=>some (st,lo)
 | .g a::r,st,lo=>run r (lo a::st) lo
 | .s a::r,v::st,lo=>run r st (rh lo a v)
 | .s _::_,[],_=>none
 | .k n::r,st,lo=>run r (n::st) lo
 | .o op::r,st,lo=>match JD op st with
  |some st=>run r st lo
  |none=>none
theorem oA: ∀ (a b:List Sc) (st:List Nat) (lo:Nat->Nat) {EG:List Nat} {lo1:Nat->Nat},run a st lo=some (EG,lo1)->run (a++b) st lo=run b EG lo1
 | [],b,st,lo,EG,lo1,h=>by cases h;rfl
 | .g a::r,b,st,lo,EG,lo1,h=>oA r b (lo a::st) lo h
 | .s a::r,b,v::st,lo,EG,lo1,h=>oA r b st (rh lo a v) h
 | .s _::_,b,[],_,_,_,h=>by cases h
 | .k n::r,b,st,lo,EG,lo1,h=>oA r b (n::st) lo h
 | .o op::r,b,st,lo,EG,lo1,h=>by
  change (match JD op st with|some st=>run r st lo|none=>none)=some (EG,lo1)at h
  show(match JD op st with|some st=>run (r++b) st lo|none=>none)=run b EG lo1
  cases e:JD op st with
  |none=>rw[e]at h;cases h
  |some s=>rw[e]at h;exact oA r b s lo h
structure Wd(w p n:Nat):Prop where
 w1:w=p+1
 w2:w*n=64
variable {w p n:Nat}
structure NZ(w n x:Nat)(a:Nat->Nat):Prop where
 e:x=pk w n a
 l: ∀ i,i<n->a i<2 ^ w
theorem NZ.congr{x:Nat}{a b:Nat->Nat}(h:NZ w n x a)(e: ∀ i,i<n->a i=b i):NZ w n x b:=⟨h.e.trans (cS e),fun i hi=>by rw[<-e i hi];exact h.l i hi⟩
section
variable (W:Wd w p n){x y:Nat}{a b:Nat->Nat}(hx:NZ w n x a)(hy:NZ w n y b)
include W hx hy
omit hy
end
abbrev asG(p n:Nat):Nat:=pk (p+1) n fun _=>2 ^ p
abbrev rest(p n:Nat):Nat:=pk (p+1) n fun _=>2 ^ p - 1
section
variable (W:Wd (p+1) p n){x y:Nat}{a b:Nat->Nat}(hx:NZ (p+1) n x a)(hy:NZ (p+1) n y b)
include W hx hy
end
end Go.Proofs.Sw

noncomputable section
namespace Go.Proofs.Sw
abbrev M64:Nat:=18446744073709551615
variable {p n:Nat}
def sw(p a:Nat):Int:=if a<2 ^ p then(a:Int)else(a:Int) - (2 ^ (p+1):Nat)
def Ev(c:List Sc)(lo:Nat->Nat)(m:Nat)(P:Nat->Prop):Prop:= ∀ st,∃ z nK,run c st lo=some (z::st,nK)/\P z/\ ∀ j,j<m->nK j=lo j
theorem qk(lo:Nat->Nat)(a v:Nat):rh lo a v a=v:=if_pos rfl
theorem rB(lo:Nat->Nat){a j:Nat}(v:Nat)(h:j≠a):rh lo a v j=lo j:=if_neg h
theorem Ev.imp{c:List Sc}{lo:Nat->Nat}{m:Nat}{P Q:Nat->Prop}(h:Ev c lo m P)(k: ∀ z,P z->Q z):Ev c lo m Q:=fun st=>by
 obtain⟨z,nK,h1,h2,h3⟩:=h st
 exact⟨z,nK,h1,k z h2,h3⟩
theorem Ev.then{c d:List Sc}{lo:Nat->Nat}{m:Nat}{P Q:Nat->Prop}(h:Ev c lo m P)(k: ∀ z nK st,P z->(∀ j,j<m->nK j=lo j)-> ∃ z' p',run d (z::st) nK=some (z'::st,p')/\Q z'/\ ∀ j,j<m->p' j=lo j):Ev (c++d) lo m Q:=fun st=>by
 obtain⟨z,nK,h1,h2,h3⟩:=h st
 obtain⟨z',p',k1,k2,k3⟩:=k z nK st h2 h3
 exact⟨z',p',(oA c d st lo h1).trans k1,k2,k3⟩
section
variable (W:Wd (p+1) p n)
include W
section
variable {lo:Nat->Nat}{x y:Nat}{a b:Nat->Nat}(hx:NZ (p+1) n (lo x) a)(hy:NZ (p+1) n (lo y) b)(m:Nat)
include hx hy
omit hx hy
include hx hy
omit hx hy
include hx hy
end
section
variable {lo:Nat->Nat}{x y:Nat}{a b:Nat->Nat}(hx:NZ (p+1) n (lo x) a)(hy:NZ (p+1) n (lo y) b){m u:Nat}(hm:m<=u)
include hx hy hm
end
end
end Go.Proofs.Sw

noncomputable section
namespace Go.Proofs.Sw
variable {p n:Nat}
abbrev asH(p n:Nat):Nat:=pk (p+1) n fun _=>1
section
variable {a b:Nat}(ha:a<2 ^ (p+1))(hb:b<2 ^ (p+1))
include ha hb
end
end Go.Proofs.Sw

noncomputable section
namespace Go.Proofs.Sw
variable {p n:Nat}
section
variable (W:Wd (p+1) p n){lo:Nat->Nat}{x y:Nat}{a b:Nat->Nat}(hx:NZ (p+1) n (lo x) a)(hy:NZ (p+1) n (lo y) b){m u:Nat}(hm:m<=u)(xm:x<m)(ym:y<m)
include W hx hy hm xm ym
end
end Go.Proofs.Sw

noncomputable section
namespace Go.Proofs.Sw
variable {p n:Nat}
section
variable (W:Wd (p+1) p n){lo:Nat->Nat}{x:Nat}{a:Nat->Nat}(hx:NZ (p+1) n (lo x) a){m u:Nat}(hm:m<=u)(xm:x<m)
include W hx hm xm
end
end Go.Proofs.Sw

noncomputable section
namespace Go.Proofs.Sw
variable {p n:Nat}
section
variable (W:Wd (p+1) p n)
include W
end
end Go.Proofs.Sw

noncomputable section
namespace Go.Proofs.Vq
open Go.Ab Go.Ab.Lf
set_option maxRecDepth 100000
theorem GK{o n:Int}(h:(t11 (o,())).val=some (cq vb (n,()))):wP (o,())=true/\(m11 (o,())).1=n:=by
 obtain⟨h1,h2⟩:=mO (k:=wP (o,())) (m:=m11 (o,())) (ca _) (ca _) h
 exact⟨h1,by rw[h2]⟩
theorem N2:wP (124,())=true/\(m11 (124,())).1=2:=GK (by kernel_rfl)
theorem asI(x y:Int):F' (124,x,y,())=true/\m12 (124,x,y,())=(cY .u64 x y,0,()):=by
 refine mO (ca _) (ca _) ?_
 rw[za,N2.1,N2.2]
 rfl
theorem N3:wP (125,())=true/\(m11 (125,())).1=2:=GK (by kernel_rfl)
theorem asJ(x y:Int):F' (125,x,y,())=true/\m12 (125,x,y,())=(cA .u64 x y,0,()):=by
 refine mO (ca _) (ca _) ?_
 rw[za,N3.1,N3.2]
 rfl
theorem N5:wP (126,())=true/\(m11 (126,())).1=2:=GK (by kernel_rfl)
theorem asK(x y:Int):F' (126,x,y,())=true/\m12 (126,x,y,())=(w7 .u64 x y,0,()):=by
 refine mO (ca _) (ca _) ?_
 rw[za,N5.1,N5.2]
 rfl
theorem N6:wP (131,())=true/\(m11 (131,())).1=2:=GK (by kernel_rfl)
theorem asM(x y:Int):F' (131,x,y,())=true/\m12 (131,x,y,())=(mN .u64 x y,0,()):=by
 refine mO (ca _) (ca _) ?_
 rw[za,N6.1,N6.2]
 rfl
theorem N7:wP (132,())=true/\(m11 (132,())).1=2:=GK (by kernel_rfl)
theorem asN(x y:Int):F' (132,x,y,())=true/\m12 (132,x,y,())=(Kk .u64 x y,0,()):=by
 refine mO (ca _) (ca _) ?_
 rw[za,N7.1,N7.2]
 rfl
theorem N8:wP (133,())=true/\(m11 (133,())).1=2:=GK (by kernel_rfl)
theorem asO(x y:Int):F' (133,x,y,())=true/\m12 (133,x,y,())=(Km .u64 x y,0,()):=by
 refine mO (ca _) (ca _) ?_
 rw[za,N8.1,N8.2]
 rfl
theorem N9:wP (134,())=true/\(m11 (134,())).1=2:=GK (by kernel_rfl)
theorem asP(x y:Int)(hy:U y):F' (134,x,y,())=true/\m12 (134,x,y,())=(uE .u64 x (mN .u64 y 63),0,()):=by
 refine mO (ca _) (ca _) ?_
 rw[za,N9.1,N9.2]
 have c:=dt (CY hy)
 show cF (decide (0<=mN .u64 y 63)) (some (cq cT (uE .u64 x (mN .u64 y 63),0,())))=_
 rw[c]
 rfl
theorem Oa:wP (135,())=true/\(m11 (135,())).1=2:=GK (by kernel_rfl)
theorem asQ(x y:Int)(hy:U y):F' (135,x,y,())=true/\m12 (135,x,y,())=(cb .u64 (oP .i64 (cb .i64 x) (mN .u64 y 63)),0,()):=by
 refine mO (ca _) (ca _) ?_
 rw[za,Oa.1,Oa.2]
 have c:=dt (CY hy)
 show cF (decide (0<=mN .u64 y 63)) (some (cq cT (cb .u64 (oP .i64 (cb .i64 x) (mN .u64 y 63)),0,())))=_
 rw[c]
 rfl
theorem Ob:wP (136,())=true/\(m11 (136,())).1=2:=GK (by kernel_rfl)
theorem asR(x y:Int)(hy:U y):F' (136,x,y,())=true/\m12 (136,x,y,())=(oP .u64 x (mN .u64 y 63),0,()):=by
 refine mO (ca _) (ca _) ?_
 rw[za,Ob.1,Ob.2]
 have c:=dt (CY hy)
 show cF (decide (0<=mN .u64 y 63)) (some (cq cT (oP .u64 x (mN .u64 y 63),0,())))=_
 rw[c]
 rfl
theorem aaD:wP (81,())=true/\(m11 (81,())).1=2:=GK (by kernel_rfl)
theorem o81(x y:Int):F' (81,x,y,())=true/\m12 (81,x,y,())=(bif decide (cb .i64 x=cb .i64 y)then 1 else 0,0,()):=by
 refine mO (ca _) (ca _) ?_
 rw[za,aaD.1,aaD.2]
 show(bif decide (cb .i64 x=cb .i64 y)then some (cq cT (1,0,()))else some (cq cT (0,0,())))=_
 cases decide (cb .i64 x=cb .i64 y)<;>rfl
theorem aaE:wP (83,())=true/\(m11 (83,())).1=2:=GK (by kernel_rfl)
theorem o83(x y:Int):F' (83,x,y,())=true/\m12 (83,x,y,())=(bif decide (cb .i64 x<cb .i64 y)then 1 else 0,0,()):=by
 refine mO (ca _) (ca _) ?_
 rw[za,aaE.1,aaE.2]
 show(bif decide (cb .i64 x<cb .i64 y)then some (cq cT (1,0,()))else some (cq cT (0,0,())))=_
 cases decide (cb .i64 x<cb .i64 y)<;>rfl
theorem aaF:wP (84,())=true/\(m11 (84,())).1=2:=GK (by kernel_rfl)
theorem o84(x y:Int):F' (84,x,y,())=true/\m12 (84,x,y,())=(bif decide (cb .u64 (cb .i64 x)<cb .u64 (cb .i64 y))then 1 else 0,0,()):=by
 refine mO (ca _) (ca _) ?_
 rw[za,aaF.1,aaF.2]
 show(bif decide (cb .u64 (cb .i64 x)<cb .u64 (cb .i64 y))then some (cq cT (1,0,()))else some (cq cT (0,0,())))=_
 cases decide (cb .u64 (cb .i64 x)<cb .u64 (cb .i64 y))<;>rfl
theorem aaG:wP (85,())=true/\(m11 (85,())).1=2:=GK (by kernel_rfl)
theorem o85(x y:Int):F' (85,x,y,())=true/\m12 (85,x,y,())=(bif decide (cb .i64 y<cb .i64 x)then 1 else 0,0,()):=by
 refine mO (ca _) (ca _) ?_
 rw[za,aaG.1,aaG.2]
 show(bif decide (cb .i64 y<cb .i64 x)then some (cq cT (1,0,()))else some (cq cT (0,0,())))=_
 cases decide (cb .i64 y<cb .i64 x)<;>rfl
theorem aaH:wP (69,())=true/\(m11 (69,())).1=1:=GK (by kernel_rfl)
theorem o69(x:Int):Xe (69,x,())=true/\m13 (69,x,())=(bif decide (cb .u32 x=0)then 1 else 0,0,()):=by
 refine mO (ca _) (ca _) ?_
 rw[UZ,aaH.1,aaH.2]
 show(bif decide (cb .u32 x=0)then some (cq qB (1,0,()))else some (cq qB (0,0,())))=_
 cases decide (cb .u32 x=0)<;>rfl
theorem aaI:wP (80,())=true/\(m11 (80,())).1=1:=GK (by kernel_rfl)
theorem o80(x:Int):Xe (80,x,())=true/\m13 (80,x,())=(bif decide (x=0)then 1 else 0,0,()):=by
 refine mO (ca _) (ca _) ?_
 rw[UZ,aaI.1,aaI.2]
 show(bif decide (x=0)then some (cq qB (1,0,()))else some (cq qB (0,0,())))=_
 cases decide (x=0)<;>rfl
theorem Oe:wP (167,())=true/\(m11 (167,())).1=1:=GK (by kernel_rfl)
theorem asS(x:Int):Xe (167,x,())=true/\m13 (167,x,())=(cb .u64 (cb .u32 x),0,()):=by
 refine mO (ca _) (ca _) ?_
 rw[UZ,Oe.1,Oe.2]
 rfl
theorem Of:wP (173,())=true/\(m11 (173,())).1=1:=GK (by kernel_rfl)
theorem asU(x:Int):Xe (173,x,())=true/\m13 (173,x,())=(cb .u64 (cb .u32 x),0,()):=by
 refine mO (ca _) (ca _) ?_
 rw[UZ,Of.1,Of.2]
 rfl
end Go.Proofs.Vq

noncomputable section
namespace Go.Proofs.Vq
open Go.Ab Go.Ab.Lf Go.Proofs.Sw
set_option maxRecDepth 100000
theorem af1(n:Nat):oZ .u64 (n:Int)=((n % nh:Nat):Int):=by
 show Int.emod (n:Int) 18446744073709551616=_
 exact(Int.natCast_emod n nh).symm
theorem U9{a b:Nat}(ha:a<nh)(hb:b<nh):Kk .u64 (a:Int) (b:Int)=((a ||| b:Nat):Int):=by
 show intOf (bif Nat.blt a 18446744073709551616&&Nat.blt b 18446744073709551616 then some (.int .u64 (.ofNat (Nat.lor a b)))else _)=_
 rw[show(Nat.blt a 18446744073709551616)=true by simpa using ha,show(Nat.blt b 18446744073709551616)=true by simpa using hb];rfl
theorem aaJ{a b:Nat}(ha:a<nh)(hb:b<nh):Km .u64 (a:Int) (b:Int)=((a ^^^ b:Nat):Int):=by
 show intOf (bif Nat.blt a 18446744073709551616&&Nat.blt b 18446744073709551616 then some (.int .u64 (.ofNat (Nat.xor a b)))else _)=_
 rw[show(Nat.blt a 18446744073709551616)=true by simpa using ha,show(Nat.blt b 18446744073709551616)=true by simpa using hb];rfl
theorem K4{y:Nat}(hy:y<nh):mN .u64 (y:Int) 63=((y % 64:Nat):Int):=by
 have:=Bt y 63 hy (by decide)
 rw[show(63:Nat)=2 ^ 6 - 1 from rfl,Nat.and_two_pow_sub_one_eq_mod]at this
 exact this
theorem IF{k:Nat}(h:k<64):tW k 64=k:=by unfold tW;rw[show Nat.ble k 64=true by simp;omega];rfl
theorem acY{x k:Nat}(h:k<64):uE .u64 (x:Int) (k:Int)=((2 ^ k*x % nh:Nat):Int):=by
 show oZ .u64 (Int.mul (x:Int) (Int.ofNat (2 ^ tW k 64)))=_
 rw[IF h,Nat.mul_comm]
 exact af1 (x*2 ^ k)
theorem Og{x k:Nat}(h:k<64):oP .u64 (x:Int) (k:Int)=((x / 2 ^ k:Nat):Int):=by
 show Int.fdiv (x:Int) ((2 ^ tW k 64:Nat):Int)=_
 rw[IF h,Int.fdiv_eq_ediv_of_nonneg _ (Int.natCast_nonneg _)]
 exact(Int.natCast_ediv _ _).symm
theorem vh{x:Nat}(h:x<18446744073709551616):cb .i64 (x:Int)=xO x:=by
 show((x:Int)+9223372036854775808) % 18446744073709551616 - 9223372036854775808=_
 unfold xO
 split<;>omega
theorem akL{x k:Nat}(hx:x<nh)(h:k<64):cb .u64 (oP .i64 (cb .i64 (x:Int)) (k:Int))=(((xO x / 2 ^ k) % 18446744073709551616).toNat:Int):=by
 rw[vh hx]
 show(Int.fdiv (xO x) ((2 ^ tW k 64:Nat):Int)) % 18446744073709551616=_
 rw[IF h,Int.fdiv_eq_ediv_of_nonneg _ (Int.natCast_nonneg _)]
 have e:((2 ^ k:Nat):Int)=2 ^ k:=by rw[Int.natCast_pow];rfl
 rw[e]
 have:=Int.emod_nonneg (xO x / 2 ^ k) (show(18446744073709551616:Int)≠0 by decide)
 omega
theorem b2i(c:Bool):(bif c then(1:Int)else 0)=((Q2 c:Nat):Int):=by cases c<;>rfl
theorem IG{x:Nat}(h:x<18446744073709551616):cb .u64 (cb .i64 (x:Int))=(x:Int):=by
 rw[vh h]
 show xO x % 18446744073709551616=_
 unfold xO
 split<;>omega
theorem af2{x y:Nat}(hx:x<18446744073709551616)(hy:y<18446744073709551616):(xO x=xO y)=(x=y):=by
 apply propext
 unfold xO
 constructor
 ·intro h;split at h<;>split at h<;>omega
 ·rintro rfl;rfl
theorem K5(x:Nat):cb .u32 (x:Int)=((x % 4294967296:Nat):Int):=(Int.natCast_emod x 4294967296).symm
theorem EH{x:Nat}(h:x<nh):U (x:Int):=by
 have h:x<18446744073709551616:=h
 exact⟨by omega,by omega⟩
theorem asV{op:Nat}{x y z:Nat}{s:List Nat}(hx:x<nh)(hy:y<nh)(h:JD op (y::x::s)=some (z::s))(h3:op=124∨op=125∨op=126∨op=131∨op=132∨op=133∨op=134∨op=135∨op=136∨op=81∨op=83∨op=84∨op=85):(m11 ((op:Int),())).1=2/\m12 ((op:Int),(x:Int),(y:Int),())=((z:Int),0,())/\z<nh/\Num (op:Int):=by
 have N: ∀ o:Int,(69<=o/\o<=200)->Num o:=fun o h=>⟨by omega⟩
 have y6:=Nat.mod_lt y (show 0<64 by decide)
 rcases h3 with rfl|rfl|rfl|rfl|rfl|rfl|rfl|rfl|rfl|rfl|rfl|rfl|rfl
 ·cases h;refine⟨N2.2,?_,Nat.mod_lt _ (by decide),N _ (by decide)⟩
  rw[show((124:Nat):Int)=124 from rfl,(asI _ _).2]
  exact congrArg (fun z=>(z,(0:Int),())) (af1 (x+y))
 ·cases h;refine⟨N3.2,?_,Nat.mod_lt _ (by decide),N _ (by decide)⟩
  rw[show((125:Nat):Int)=125 from rfl,(asJ _ _).2]
  refine congrArg (fun z=>(z,(0:Int),())) ?_
  have hy:y<18446744073709551616:=hy
  show((x:Int) - (y:Int)) % 18446744073709551616=(((x+18446744073709551616 - y) % 18446744073709551616:Nat):Int)
  omega
 ·cases h;refine⟨N5.2,?_,Nat.mod_lt _ (by decide),N _ (by decide)⟩
  rw[show((126:Nat):Int)=126 from rfl,(asK _ _).2]
  exact congrArg (fun z=>(z,(0:Int),())) (af1 (x*y))
 ·cases h;refine⟨N6.2,?_,Nat.and_lt_two_pow (n:=64) _ hy,N _ (by decide)⟩
  rw[show((131:Nat):Int)=131 from rfl,(asM _ _).2,Bt x y hx hy]
 ·cases h;refine⟨N7.2,?_,Nat.or_lt_two_pow (n:=64) hx hy,N _ (by decide)⟩
  rw[show((132:Nat):Int)=132 from rfl,(asN _ _).2,U9 hx hy]
 ·cases h;refine⟨N8.2,?_,Nat.xor_lt_two_pow (n:=64) hx hy,N _ (by decide)⟩
  rw[show((133:Nat):Int)=133 from rfl,(asO _ _).2,aaJ hx hy]
 ·cases h;refine⟨N9.2,?_,Nat.mod_lt _ (by decide),N _ (by decide)⟩
  rw[show((134:Nat):Int)=134 from rfl,(asP _ _ (EH hy)).2,K4 hy,acY y6]
 ·cases h;refine⟨Oa.2,?_,?_,N _ (by decide)⟩
  ·rw[show((135:Nat):Int)=135 from rfl,(asQ _ _ (EH hy)).2,K4 hy,akL hx y6]
  ·have:=Int.emod_lt_of_pos (xO x / 2 ^ (y % 64)) (show(0:Int)<18446744073709551616 by decide)
   show _<18446744073709551616
   omega
 ·cases h;refine⟨Ob.2,?_,Nat.lt_of_le_of_lt (Nat.div_le_self _ _) hx,N _ (by decide)⟩
  rw[show((136:Nat):Int)=136 from rfl,(asR _ _ (EH hy)).2,K4 hy,Og y6]
 ·cases h;refine⟨aaD.2,?_,by cases decide (x=y)<;>decide,N _ (by decide)⟩
  rw[show((81:Nat):Int)=81 from rfl,(o81 _ _).2,vh hx,vh hy,b2i]
  simp only[af2 hx hy]
 ·cases h;refine⟨aaE.2,?_,by cases decide (xO x<xO y)<;>decide,N _ (by decide)⟩
  rw[show((83:Nat):Int)=83 from rfl,(o83 _ _).2,vh hx,vh hy,b2i]
 ·cases h;refine⟨aaF.2,?_,by cases decide (x<y)<;>decide,N _ (by decide)⟩
  rw[show((84:Nat):Int)=84 from rfl,(o84 _ _).2,IG hx,IG hy,b2i]
  simp only[Int.ofNat_lt]
 ·cases h;refine⟨aaG.2,?_,by cases decide (xO y<xO x)<;>decide,N _ (by decide)⟩
  rw[show((85:Nat):Int)=85 from rfl,(o85 _ _).2,vh hx,vh hy,b2i]
theorem asW{op:Nat}{x z:Nat}{s:List Nat}(hx:x<nh)(h:JD op (x::s)=some (z::s))(h1:op=69∨op=80∨op=167∨op=173):(m11 ((op:Int),())).1=1/\m13 ((op:Int),(x:Int),())=((z:Int),0,())/\z<nh/\Num (op:Int):=by
 have N: ∀ o:Int,(69<=o/\o<=200)->Num o:=fun o h=>⟨by omega⟩
 have cc:cb .u64 (cb .u32 (x:Int))=((x % 4294967296:Nat):Int):=by
  rw[K5]
  exact wrap_u64 (by omega) (by omega)
 rcases h1 with rfl|rfl|rfl|rfl
 ·cases h;refine⟨aaH.2,?_,by cases decide (x % 4294967296=0)<;>decide,N _ (by decide)⟩
  rw[show((69:Nat):Int)=69 from rfl,(o69 _).2,K5,b2i]
  have:(((x % 4294967296:Nat):Int)=0)=(x % 4294967296=0):=propext (by omega)
  simp only[this]
 ·cases h;refine⟨aaI.2,?_,by cases decide (x=0)<;>decide,N _ (by decide)⟩
  rw[show((80:Nat):Int)=80 from rfl,(o80 _).2,b2i]
  have:((x:Int)=0)=(x=0):=propext (by omega)
  simp only[this]
 ·cases h;refine⟨Oe.2,?_,by show _<18446744073709551616;omega,N _ (by decide)⟩
  rw[show((167:Nat):Int)=167 from rfl,(asS _).2,cc]
 ·cases h;refine⟨Of.2,?_,by show _<18446744073709551616;omega,N _ (by decide)⟩
  rw[show((173:Nat):Int)=173 from rfl,(asU _).2,cc]
end Go.Proofs.Vq

noncomputable section
namespace Go.Proofs.Vq
open Go.Ab Go.Ab.Lf Go.Proofs.Sw
set_option maxRecDepth 100000
def toC(b:Int):Sc->den nd
 | .g a=>(32,cY .i64 b (a:Int),0)
 | .s a=>(33,cY .i64 b (a:Int),0)
 | .k n=>(66,0,(n:Int))
 | .o op=>((op:Int),0,0)
def U'(op:Nat):Bool:=Nat.beq op 27||(List.elem op [124,125,126,131,132,133,134,135,136,81,83,84,85]||List.elem op [69,80,167,173])
def Bu(N:Nat):Sc->Bool
 | .g a=>Nat.blt a N
 | .s a=>Nat.blt a N
 | .k n=>Nat.blt n nh
 | .o op=>U' op
def zn(st:List Nat):List Int:=st.reverse.map fun(n:Nat)=>(n:Int)
theorem pw(v:Nat)(st:List Nat):zn (v::st)=zn st++[(v:Int)]:=by unfold zn;simp
theorem zc(st:List Nat):(zn st).length=st.length:=by unfold zn;simp
abbrev cX(f0:den oW)(x:wQ):cf q8:=cL x.r f0 x.f x.pc x.st x.lo
theorem adP{pc:Nat}{c:Sc}{l:List Sc}(h:pc+(c::l).length<=100000):cY .i64 (pc:Int) 1=((pc+1:Nat):Int):=ad1 (by have:(c::l).length=l.length+1:=rfl;omega)
theorem ixC{b a:Nat}(hb:b<=100000)(ha:a<100000):cY .i64 (b:Int) (a:Int)=((b+a:Nat):Int):=(wrap_i64 (by omega) (by omega)).trans (by omega)
section
variable (g:Cg){f0:den oW}{cs:List (den nd)}(Q1:cs=f0.2.2.2.2.2.1){b N:Nat}(hb:b<=100000)
theorem aaK: ∀ {op:Nat} {st Bv:List Nat},JD op st=some Bv->Bv.length<=st.length:=by
 intro op st Bv h
 unfold JD at h
 split at h<;>first|(cases h;simp;done)|cases h
include Q1 hb
theorem K6{r:List (den nd)}{q:List Int->List Pl}: ∀ (l:List Sc) (pc:Nat) (x:wQ) (st:List Nat) (lo:Nat->Nat) (Bv:List Nat) (nK:Nat->Nat),run l st lo=some (Bv,nK)->(∀ c,c∈l->Bu N c=true)->(∀ v,v∈st->v<nh)->(∀ a,a<N->lo a<nh)->
 cs=x.f.2.2.2.2.2.1->x.r.err=0->x.pc=(pc:Int)->pc+l.length<=100000->cs.drop pc=l.map (toC (b:Int))++r->x.st=zn st->st.length+l.length<=100000->b+N<=x.lo.length->N<=100000->(∀ a,a<N->x.lo.getD (b+a) 0=(lo a:Int))->
 (∀ p',p'.length=x.lo.length->(∀ a,a<N->p'.getD (b+a) 0=(nK a:Int))->uh (A2 g) (cq q8 (cX f0 {x with st:=zn Bv,lo:=p',pc:=((pc+l.length:Nat):Int)})) 0 (q p'))-> ∃ p',uh (A2 g) (cq q8 (cX f0 x)) 0 (q p')
 | [],pc,x,st,lo,Bv,nK,hr,hc,hs,hl,hf,he,hp,hpc,hd,uP,nW,Zw,hN,GA,K=>by
  cases hr
  have h:=K x.lo rfl GA
  have e:({x with st:=zn st,lo:=x.lo,pc:=((pc+([]:List Sc).length:Nat):Int)}:wQ)=x:=by
   obtain⟨a,b,c,d,e⟩:=x
   have uP:d=zn st:=uP
   have hp:c=(pc:Int):=hp
   subst uP;subst hp
   rfl
  rw[e]at h
  exact⟨_,h⟩
 |c::l,pc,x,st,lo,Bv,nK,hr,hc,hs,hl,hf,he,hp,hpc,hd,uP,nW,Zw,hN,GA,K=>by
  have hc0:=hc c List.mem_cons_self
  have px: ∀ d,d∈l->Bu N d=true:=fun d hd=>hc d (List.mem_cons_of_mem _ hd)
  have Ka:cs.drop pc=toC (b:Int) c::(l.map (toC (b:Int))++r):=hd
  have hd1:=acV Ka
  have ll:(c::l).length=l.length+1:=rfl
  have kp:pc+(c::l).length=pc+1+l.length:=by rw[ll];omega
  rw[kp]at K
  have hxl:x.st.length=st.length:=by rw[uP,zc]
  have fin: ∀ (x':wQ) (EG:List Nat) (lo1:Nat->Nat),run l EG lo1=some (Bv,nK)->(∀ v,v∈EG->v<nh)->(∀ a,a<N->lo1 a<nh)->EG.length<=st.length+1->
   x'.f=x.f->x'.r=x.r->x'.pc=x.pc->x'.st=zn EG->x'.lo.length=x.lo.length->(∀ a,a<N->x'.lo.getD (b+a) 0=(lo1 a:Int))->
   (Qf g (cz zm x ((toC (b:Int) c).1,(toC (b:Int) c).2.1,(toC (b:Int) c).2.2,()))=true/\Qg g (cz zm x ((toC (b:Int) c).1,(toC (b:Int) c).2.1,(toC (b:Int) c).2.2,()))=cz [] {x' with pc:=cY .i64 x'.pc 1} ())-> ∃ p',uh (A2 g) (cq q8 (cX f0 x)) 0 (q p'):=by
   intro x' EG lo1 h1 h2 h3 h4 h5 h6 h7 h8 h9 h10 h11
   have t:=akJ g hf he hp Ka f0 Q1 h11
   obtain⟨y,hy⟩: ∃ y:wQ,y={x' with pc:=cY .i64 x'.pc 1}:=⟨_,rfl⟩
   rw[<-hy]at t
   obtain⟨p',R⟩:=K6 l (pc+1) y EG lo1 Bv nK h1 px h2 h3 (by rw[hy];show cs=x'.f.2.2.2.2.2.1;rw[h5];exact hf) (by rw[hy];show x'.r.err=0;rw[h6];exact he) (by rw[hy];show cY .i64 x'.pc 1=_;rw[h7,hp];exact adP hpc) (by omega) hd1 (by rw[hy];exact h8) (by omega) (by rw[hy];show _<=x'.lo.length;rw[h9];exact Zw) hN (by rw[hy];exact h10) fun p' JE W8=>by
    have:=K p' (by rw[JE,hy];exact h9) W8
    rw[hy]
    show uh _ (cq q8 (cL x'.r f0 x'.f _ _ _)) 0 _
    rw[h6,h5]
    exact this
   exact⟨p',.more t R⟩
  cases c with
  |g a=>
   have ha:a<N:=by simpa[Bu]using hc0
   have hr:run l (lo a::st) lo=some (Bv,nK):=hr
   refine fin {x with st:=x.st++[(lo a:Int)]} (lo a::st) lo hr (fun v hv=>?_) hl (by simp) rfl rfl rfl (by rw[pw,<-uP]) rfl GA ?_
   ·rcases List.mem_cons.1 hv with rfl|hv
    ·exact hl a ha
    ·exact hs v hv
   ·have:=P32 x 0 (b+a) (by omega) (by omega)
    rw[GA a ha,<-ixC hb (Nat.lt_of_lt_of_le ha hN)]at this
    exact wU g (o:=32) (by decide) (by decide) this
  |s a=>
   have ha:a<N:=by simpa[Bu]using hc0
   cases st with
   |nil=>cases hr
   |cons v st=>
    have hr:run l st (rh lo a v)=some (Bv,nK):=hr
    have hs2:(zn st).length<=100000:=by rw[zc];have:(v::st).length=st.length+1:=rfl;omega
    refine fin {x with st:=zn st,lo:=x.lo.set (b+a) (v:Int)} st (rh lo a v) hr (fun v hv=>hs v (List.mem_cons_of_mem _ hv)) (fun c hc=>?_) (by simp;omega) rfl rfl rfl rfl List.length_set (fun c hc=>?_) ?_
    ·unfold rh
     split
     ·exact hs v List.mem_cons_self
     ·exact hl c hc
    ·show(x.lo.set (b+a) (v:Int)).getD (b+c) 0=_
     unfold rh
     by_cases e:c=a
     ·subst e
      rw[if_pos rfl,List.getD_eq_getElem?_getD,List.getElem?_set_self (by omega)]
      rfl
     ·rw[if_neg e,List.getD_eq_getElem?_getD,List.getElem?_set_ne (by omega),<-List.getD_eq_getElem?_getD]
      exact GA c hc
    ·have:=P33 x 0 (b+a) (by omega) (s:=zn st) (w:=(v:Int)) (by rw[uP,pw]) (by omega)
     rw[<-ixC hb (Nat.lt_of_lt_of_le ha hN)]at this
     exact wU g (o:=33) (by decide) (by decide) this
  |k n=>
   have hn:n<nh:=by simpa[Bu]using hc0
   have hr:run l (n::st) lo=some (Bv,nK):=hr
   refine fin {x with st:=x.st++[(n:Int)]} (n::st) lo hr (fun v hv=>?_) hl (by simp) rfl rfl rfl (by rw[pw,<-uP]) rfl GA ?_
   ·rcases List.mem_cons.1 hv with rfl|hv
    ·exact hn
    ·exact hs v hv
   ·exact wU g (o:=66) (by decide) (by decide) (P66 x 0 (n:Int) (by omega))
  |o op=>
   have hr:(match JD op st with|some st=>run l st lo|none=>none)=some (Bv,nK):=hr
   have hop:U' op=true:=hc0
   cases ho:JD op st with
   |none=>rw[ho]at hr;cases hr
   |some EG=>
    rw[ho]at hr
    unfold U' at hop
    rw[Bool.or_eq_true,Bool.or_eq_true]at hop
    rcases hop with h27|h2|h1
    ·have h27:op=27:=Nat.eq_of_beq_eq_true h27
     subst h27
     have key: ∃ c y z s,st=c::y::z::s/\EG=(if c % 4294967296=0 then y else z)::s:=by
      match st,ho with
      |c::y::z::s,ho=>cases ho;exact⟨c,y,z,s,rfl,rfl⟩
     obtain⟨c,y,z,s,rfl,rfl⟩:=key
     have m: ∀ v,v∈(if c % 4294967296=0 then y else z)::s->v<nh:=fun v hv=>by
      rcases List.mem_cons.1 hv with rfl|hv
      ·split
       ·exact hs y (by simp)
       ·exact hs z (by simp)
      ·exact hs v (by simp[hv])
     have e:zn (c::y::z::s)=zn s++[(z:Int),(y:Int),(c:Int)]:=by rw[pw,pw,pw];simp
     have l3:(zn s).length<=100000:=by rw[zc];have:(c::y::z::s).length=s.length+3:=rfl;omega
     have h:=P27 x 0 0 (s:=zn s) (v:=(z:Int)) (w:=(y:Int)) (y:=(c:Int)) (by rw[uP,e]) (by omega)
     have ec:(bif decide (cb .u32 (c:Int)=0)then(y:Int)else(z:Int))=(((if c % 4294967296=0 then y else z):Nat):Int):=by
      rw[K5]
      by_cases q:c % 4294967296=0
      ·rw[if_pos q,dt (by omega)];rfl
      ·rw[if_neg q,df (by omega)];rfl
     rw[ec]at h
     exact fin {x with st:=zn s++[(((if c % 4294967296=0 then y else z):Nat):Int)]} _ lo hr m hl (by simp) rfl rfl rfl (by rw[pw]) rfl GA (wU g (o:=27) (by decide) (by decide) h)
    ·have h2:=List.mem_of_elem_eq_true h2
     have key: ∃ y x0 z s,st=y::x0::s/\EG=z::s:=by
      simp only[List.mem_cons,List.not_mem_nil,or_false]at h2
      match st,ho with
      | [],ho=>rcases h2 with rfl|rfl|rfl|rfl|rfl|rfl|rfl|rfl|rfl|rfl|rfl|rfl|rfl<;>cases ho
      | [_],ho=>rcases h2 with rfl|rfl|rfl|rfl|rfl|rfl|rfl|rfl|rfl|rfl|rfl|rfl|rfl<;>cases ho
      |y::x0::s,ho=>rcases h2 with rfl|rfl|rfl|rfl|rfl|rfl|rfl|rfl|rfl|rfl|rfl|rfl|rfl<;>(cases ho;exact⟨y,x0,_,s,rfl,rfl⟩)
     obtain⟨y,x0,z,s,rfl,rfl⟩:=key
     obtain⟨a1,a2,a3,a4⟩:=asV (hs x0 (by simp)) (hs y (by simp)) ho (by simpa using h2)
     have m: ∀ v,v∈z::s->v<nh:=fun v hv=>by
      rcases List.mem_cons.1 hv with rfl|hv
      ·exact a3
      ·exact hs v (by simp[hv])
     have e:zn (y::x0::s)=zn s++[(x0:Int),(y:Int)]:=by rw[pw,pw];simp
     have l3:(zn s).length<=100000:=by rw[zc];have:(y::x0::s).length=s.length+2:=rfl;omega
     have h:=akI x 0 0 (o:=(op:Int)) (s:=zn s) (v:=(x0:Int)) (w:=(y:Int)) a4 a1 he (EH (hs x0 (by simp))) (EH (hs y (by simp))) (by rw[uP,e]) (by omega)
     rw[a2]at h
     have er:({x.r with err:=(((z:Int),(0:Int),()):cf cT).2.1}:Rn)=x.r:=by rw[<-he]
     rw[er]at h
     obtain⟨N4⟩:=a4
     have o4: ¬ (op:Int)=0/\ ¬ (12<=(op:Int)/\(op:Int)<=17):=by
      simp only[List.mem_cons,List.not_mem_nil,or_false]at h2
      omega
     exact fin {x with st:=zn s++[(z:Int)]} _ lo hr m hl (by simp) rfl rfl rfl (by rw[pw]) rfl GA (wU g o4.1 o4.2 h)
    ·have h1:=List.mem_of_elem_eq_true h1
     have key: ∃ x0 z s,st=x0::s/\EG=z::s:=by
      simp only[List.mem_cons,List.not_mem_nil,or_false]at h1
      match st,ho with
      | [],ho=>rcases h1 with rfl|rfl|rfl|rfl<;>cases ho
      |x0::s,ho=>rcases h1 with rfl|rfl|rfl|rfl<;>(cases ho;exact⟨x0,_,s,rfl,rfl⟩)
     obtain⟨x0,z,s,rfl,rfl⟩:=key
     obtain⟨a1,a2,a3,a4⟩:=asW (hs x0 (by simp)) ho (by simpa using h1)
     have m: ∀ v,v∈z::s->v<nh:=fun v hv=>by
      rcases List.mem_cons.1 hv with rfl|hv
      ·exact a3
      ·exact hs v (by simp[hv])
     have l3:(zn s).length<=100000:=by rw[zc];have:(x0::s).length=s.length+1:=rfl;omega
     have h:=asF x 0 0 (o:=(op:Int)) (s:=zn s) (w:=(x0:Int)) a4 a1 he (EH (hs x0 (by simp))) (by rw[uP,pw]) (by omega)
     rw[a2]at h
     have er:({x.r with err:=(((z:Int),(0:Int),()):cf qB).2.1}:Rn)=x.r:=by rw[<-he]
     rw[er]at h
     have o4: ¬ (op:Int)=0/\ ¬ (12<=(op:Int)/\(op:Int)<=17):=by
      simp only[List.mem_cons,List.not_mem_nil,or_false]at h1
      omega
     exact fin {x with st:=zn s++[(z:Int)]} _ lo hr m hl (by simp) rfl rfl rfl (by rw[pw]) rfl GA (wU g o4.1 o4.2 h)
end
end Go.Proofs.Vq
