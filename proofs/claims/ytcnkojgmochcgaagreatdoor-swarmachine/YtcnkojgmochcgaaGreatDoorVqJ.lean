import Derived.Test.YtcnkojgmochcgaaGreatDoorLfN
import Derived.Test.YtcnkojgmochcgaaGreatDoorVrD
noncomputable section
namespace Go.Proofs.Vq
open Go.Ab Go.Ab.Lf
set_option maxRecDepth 100000
theorem Ub(o x:Int):(t13 (o,x,())).val=
 cA (xz (o,())) (
 bif !decide ((m11 (o,())).1=1)then
  some (cp qS (0,1,()))
 else
 bif decide (o=69)then
  bif decide (cb .u32 x=0)then
   some (cp qS (1,0,()))
  else
  some (cp qS (0,0,()))
 else
 bif decide (o=80)then
  bif decide (x=0)then
   some (cp qS (1,0,()))
  else
  some (cp qS (0,0,()))
 else
 bif decide (o=103)then
  cA (decide (0<=cb .u32 x)&&decide (cb .u32 x<=4294967295)) (
  some (cp qS (cb .u64 (lz 32 (cb .u32 x)),0,())))
 else
 bif decide (o=104)then
  cA (decide (0<=cb .u32 x)&&decide (cb .u32 x<=4294967295)) (
  some (cp qS (cb .u64 (tz 32 (cb .u32 x)),0,())))
 else
 bif decide (o=105)then
  cA (k51 (cb .u32 x,())) (
  some (cp qS (cb .u64 (m51 (cb .u32 x,())).1,0,())))
 else
 bif decide (o=121)then
  cA (decide (0<=x)&&decide (x<=18446744073709551615)) (
  some (cp qS (cb .u64 (lz 64 x),0,())))
 else
 bif decide (o=122)then
  cA (decide (0<=x)&&decide (x<=18446744073709551615)) (
  some (cp qS (cb .u64 (tz 64 x),0,())))
 else
 bif decide (o=123)then
  cA (k54 (x,())) (
  some (cp qS (cb .u64 (m54 (x,())).1,0,())))
 else
 bif decide (o=172)then
  some (cp qS (cb .u64 (cb .i32 x),0,()))
 else
 bif decide (o=196)then
  some (cp qS (cb .u64 (cb .i32 x),0,()))
 else
 bif decide (o=192)then
  some (cp qS (cb .u64 (cb .u32 (cb .i8 x)),0,()))
 else
 bif decide (o=193)then
  some (cp qS (cb .u64 (cb .u32 (cb .i16 x)),0,()))
 else
 bif decide (o=194)then
  some (cp qS (cb .u64 (cb .i8 x),0,()))
 else
 bif decide (o=195)then
  some (cp qS (cb .u64 (cb .i16 x),0,()))
 else
 some (cp qS (cb .u64 (cb .u32 x),0,()))):=by kernel_rfl
theorem zY(o x y:Int):(t12 (o,x,y,())).val=
 cA (xz (o,())) (
 bif !decide ((m11 (o,())).1=2)then
  some (cp cT (0,1,()))
 else
 bif decide (o<=79)then
  bif decide (cz .i64 o (70)=0)then
   bif decide (cb .i64 (cb .i32 x)=cb .i64 (cb .i32 y))then
    some (cp cT (1,0,()))
   else
   some (cp cT (0,0,()))
  else
  bif decide (cz .i64 o (70)=1)then
   bif !decide (cb .i64 (cb .i32 x)=cb .i64 (cb .i32 y))then
    some (cp cT (1,0,()))
   else
   some (cp cT (0,0,()))
  else
  bif decide (cz .i64 o (70)=2)then
   bif decide (cb .i64 (cb .i32 x)<cb .i64 (cb .i32 y))then
    some (cp cT (1,0,()))
   else
   some (cp cT (0,0,()))
  else
  bif decide (cz .i64 o (70)=3)then
   bif decide (cb .u64 (cb .i64 (cb .i32 x))<cb .u64 (cb .i64 (cb .i32 y)))then
    some (cp cT (1,0,()))
   else
   some (cp cT (0,0,()))
  else
  bif decide (cz .i64 o (70)=4)then
   bif decide (cb .i64 (cb .i32 y)<cb .i64 (cb .i32 x))then
    some (cp cT (1,0,()))
   else
   some (cp cT (0,0,()))
  else
  bif decide (cz .i64 o (70)=5)then
   bif decide (cb .u64 (cb .i64 (cb .i32 y))<cb .u64 (cb .i64 (cb .i32 x)))then
    some (cp cT (1,0,()))
   else
   some (cp cT (0,0,()))
  else
  bif decide (cz .i64 o (70)=6)then
   bif decide (cb .i64 (cb .i32 x)<=cb .i64 (cb .i32 y))then
    some (cp cT (1,0,()))
   else
   some (cp cT (0,0,()))
  else
  bif decide (cz .i64 o (70)=7)then
   bif decide (cb .u64 (cb .i64 (cb .i32 x))<=cb .u64 (cb .i64 (cb .i32 y)))then
    some (cp cT (1,0,()))
   else
   some (cp cT (0,0,()))
  else
  bif decide (cz .i64 o (70)=8)then
   bif decide (cb .i64 (cb .i32 y)<=cb .i64 (cb .i32 x))then
    some (cp cT (1,0,()))
   else
   some (cp cT (0,0,()))
  else
  bif decide (cb .u64 (cb .i64 (cb .i32 y))<=cb .u64 (cb .i64 (cb .i32 x)))then
   some (cp cT (1,0,()))
  else
  some (cp cT (0,0,()))
 else
 bif decide (o<=90)then
  bif decide (cz .i64 o (81)=0)then
   bif decide (cb .i64 x=cb .i64 y)then
    some (cp cT (1,0,()))
   else
   some (cp cT (0,0,()))
  else
  bif decide (cz .i64 o (81)=1)then
   bif !decide (cb .i64 x=cb .i64 y)then
    some (cp cT (1,0,()))
   else
   some (cp cT (0,0,()))
  else
  bif decide (cz .i64 o (81)=2)then
   bif decide (cb .i64 x<cb .i64 y)then
    some (cp cT (1,0,()))
   else
   some (cp cT (0,0,()))
  else
  bif decide (cz .i64 o (81)=3)then
   bif decide (cb .u64 (cb .i64 x)<cb .u64 (cb .i64 y))then
    some (cp cT (1,0,()))
   else
   some (cp cT (0,0,()))
  else
  bif decide (cz .i64 o (81)=4)then
   bif decide (cb .i64 y<cb .i64 x)then
    some (cp cT (1,0,()))
   else
   some (cp cT (0,0,()))
  else
  bif decide (cz .i64 o (81)=5)then
   bif decide (cb .u64 (cb .i64 y)<cb .u64 (cb .i64 x))then
    some (cp cT (1,0,()))
   else
   some (cp cT (0,0,()))
  else
  bif decide (cz .i64 o (81)=6)then
   bif decide (cb .i64 x<=cb .i64 y)then
    some (cp cT (1,0,()))
   else
   some (cp cT (0,0,()))
  else
  bif decide (cz .i64 o (81)=7)then
   bif decide (cb .u64 (cb .i64 x)<=cb .u64 (cb .i64 y))then
    some (cp cT (1,0,()))
   else
   some (cp cT (0,0,()))
  else
  bif decide (cz .i64 o (81)=8)then
   bif decide (cb .i64 y<=cb .i64 x)then
    some (cp cT (1,0,()))
   else
   some (cp cT (0,0,()))
  else
  bif decide (cb .u64 (cb .i64 y)<=cb .u64 (cb .i64 x))then
   some (cp cT (1,0,()))
  else
  some (cp cT (0,0,()))
 else
 bif decide (o<=120)then
  bif bif decide (109<=o)then bif decide (o<=112)then decide (cb .u32 y=0)else false else false then
   some (cp cT (cb .u64 (0),21,()))
  else
  bif decide (o=106)then
   some (cp cT (cb .u64 (nz .u32 (cb .u32 x) (cb .u32 y)),0,()))
  else
  bif decide (o=107)then
   some (cp cT (cb .u64 (cz .u32 (cb .u32 x) (cb .u32 y)),0,()))
  else
  bif decide (o=108)then
   some (cp cT (cb .u64 (Xu .u32 (cb .u32 x) (cb .u32 y)),0,()))
  else
  bif decide (o=109)then
   bif bif decide (cb .u32 x=2147483648)then decide (cb .u32 y=4294967295)else false then
    some (cp cT (cb .u64 (0),22,()))
   else
   cA (!decide (cb .i32 (cb .u32 y)=0)) (
   some (cp cT (cb .u64 (cb .u32 (R6 .i32 (cb .i32 (cb .u32 x)) (cb .i32 (cb .u32 y)))),0,())))
  else
  bif decide (o=110)then
   cA (!decide (cb .u32 y=0)) (
   some (cp cT (cb .u64 (R6 .u32 (cb .u32 x) (cb .u32 y)),0,())))
  else
  bif decide (o=111)then
   cA (!decide (cb .i64 (cb .i32 (cb .u32 y))=0)) (
   some (cp cT (cb .u64 (cb .u32 (we .i64 (cb .i64 (cb .i32 (cb .u32 x))) (cb .i64 (cb .i32 (cb .u32 y))))),0,())))
  else
  bif decide (o=112)then
   cA (!decide (cb .u32 y=0)) (
   some (cp cT (cb .u64 (we .u32 (cb .u32 x) (cb .u32 y)),0,())))
  else
  bif decide (o=113)then
   some (cp cT (cb .u64 (np .u32 (cb .u32 x) (cb .u32 y)),0,()))
  else
  bif decide (o=114)then
   some (cp cT (cb .u64 (C3 .u32 (cb .u32 x) (cb .u32 y)),0,()))
  else
  bif decide (o=115)then
   some (cp cT (cb .u64 (Eb .u32 (cb .u32 x) (cb .u32 y)),0,()))
  else
  bif decide (o=116)then
   cA (decide (0<=np .u32 (cb .u32 y) (31))) (
   some (cp cT (cb .u64 (tP .u32 (cb .u32 x) (np .u32 (cb .u32 y) (31))),0,())))
  else
  bif decide (o=117)then
   cA (decide (0<=np .u32 (cb .u32 y) (31))) (
   some (cp cT (cb .u64 (cb .u32 (px .i32 (cb .i32 (cb .u32 x)) (np .u32 (cb .u32 y) (31)))),0,())))
  else
  bif decide (o=118)then
   cA (decide (0<=np .u32 (cb .u32 y) (31))) (
   some (cp cT (cb .u64 (px .u32 (cb .u32 x) (np .u32 (cb .u32 y) (31))),0,())))
  else
  bif decide (o=119)then
   cA (decide (0<=np .u64 (cb .u64 (cb .i64 (np .u32 (cb .u32 y) (31)))) (31))&&decide (0<=cz .u64 (32) (np .u64 (cb .u64 (cb .i64 (np .u32 (cb .u32 y) (31)))) (31)))) (
   some (cp cT (cb .u64 (C3 .u32 (tP .u32 (cb .u32 x) (np .u64 (cb .u64 (cb .i64 (np .u32 (cb .u32 y) (31)))) (31))) (px .u32 (cb .u32 x) (cz .u64 (32) (np .u64 (cb .u64 (cb .i64 (np .u32 (cb .u32 y) (31)))) (31))))),0,())))
  else
  cA (decide (0<=np .u64 (cb .u64 (yt .i64 (cb .i64 (np .u32 (cb .u32 y) (31))))) (31))&&decide (0<=cz .u64 (32) (np .u64 (cb .u64 (yt .i64 (cb .i64 (np .u32 (cb .u32 y) (31))))) (31)))) (
  some (cp cT (cb .u64 (C3 .u32 (tP .u32 (cb .u32 x) (np .u64 (cb .u64 (yt .i64 (cb .i64 (np .u32 (cb .u32 y) (31))))) (31))) (px .u32 (cb .u32 x) (cz .u64 (32) (np .u64 (cb .u64 (yt .i64 (cb .i64 (np .u32 (cb .u32 y) (31))))) (31))))),0,())))
 else
 bif bif decide (127<=o)then bif decide (o<=130)then decide (y=0)else false else false then
  some (cp cT (0,21,()))
 else
 bif decide (o=124)then
  some (cp cT (nz .u64 x y,0,()))
 else
 bif decide (o=125)then
  some (cp cT (cz .u64 x y,0,()))
 else
 bif decide (o=126)then
  some (cp cT (Xu .u64 x y,0,()))
 else
 bif decide (o=127)then
  bif bif decide (x=9223372036854775808)then decide (y=18446744073709551615)else false then
   some (cp cT (0,22,()))
  else
  cA (!decide (cb .i64 y=0)) (
  some (cp cT (cb .u64 (R6 .i64 (cb .i64 x) (cb .i64 y)),0,())))
 else
 bif decide (o=128)then
  cA (!decide (y=0)) (
  some (cp cT (R6 .u64 x y,0,())))
 else
 bif decide (o=129)then
  bif decide (y=18446744073709551615)then
   some (cp cT (0,0,()))
  else
  cA (!decide (cb .i64 y=0)) (
  some (cp cT (cb .u64 (we .i64 (cb .i64 x) (cb .i64 y)),0,())))
 else
 bif decide (o=130)then
  cA (!decide (y=0)) (
  some (cp cT (we .u64 x y,0,())))
 else
 bif decide (o=131)then
  some (cp cT (np .u64 x y,0,()))
 else
 bif decide (o=132)then
  some (cp cT (C3 .u64 x y,0,()))
 else
 bif decide (o=133)then
  some (cp cT (Eb .u64 x y,0,()))
 else
 bif decide (o=134)then
  cA (decide (0<=np .u64 y (63))) (
  some (cp cT (tP .u64 x (np .u64 y (63)),0,())))
 else
 bif decide (o=135)then
  cA (decide (0<=np .u64 y (63))) (
  some (cp cT (cb .u64 (px .i64 (cb .i64 x) (np .u64 y (63))),0,())))
 else
 bif decide (o=136)then
  cA (decide (0<=np .u64 y (63))) (
  some (cp cT (px .u64 x (np .u64 y (63)),0,())))
 else
 bif decide (o=137)then
  cA (decide (0<=np .u64 (cb .u64 (cb .i64 (np .u64 y (63)))) (63))&&decide (0<=cz .u64 (64) (np .u64 (cb .u64 (cb .i64 (np .u64 y (63)))) (63)))) (
  some (cp cT (C3 .u64 (tP .u64 x (np .u64 (cb .u64 (cb .i64 (np .u64 y (63)))) (63))) (px .u64 x (cz .u64 (64) (np .u64 (cb .u64 (cb .i64 (np .u64 y (63)))) (63)))),0,())))
 else
 cA (decide (0<=np .u64 (cb .u64 (yt .i64 (cb .i64 (np .u64 y (63))))) (63))&&decide (0<=cz .u64 (64) (np .u64 (cb .u64 (yt .i64 (cb .i64 (np .u64 y (63))))) (63)))) (
 some (cp cT (C3 .u64 (tP .u64 x (np .u64 (cb .u64 (yt .i64 (cb .i64 (np .u64 y (63))))) (63))) (px .u64 x (cz .u64 (64) (np .u64 (cb .u64 (yt .i64 (cb .i64 (np .u64 y (63))))) (63)))),0,())))):=by kernel_rfl
theorem ar7(o:Int):(t11 (o,())).val=
 bif decide (o=69)then
  some (cp vE (1,()))
 else
 bif decide (o=80)then
  some (cp vE (1,()))
 else
 bif bif decide (103<=o)then decide (o<=105)else false then
  some (cp vE (1,()))
 else
 bif bif decide (121<=o)then decide (o<=123)else false then
  some (cp vE (1,()))
 else
 bif decide (o=167)then
  some (cp vE (1,()))
 else
 bif decide (o=172)then
  some (cp vE (1,()))
 else
 bif decide (o=173)then
  some (cp vE (1,()))
 else
 bif bif decide (192<=o)then decide (o<=196)else false then
  some (cp vE (1,()))
 else
 bif bif decide (70<=o)then decide (o<=79)else false then
  some (cp vE (2,()))
 else
 bif bif decide (81<=o)then decide (o<=90)else false then
  some (cp vE (2,()))
 else
 bif bif decide (106<=o)then decide (o<=120)else false then
  some (cp vE (2,()))
 else
 bif bif decide (124<=o)then decide (o<=138)else false then
  some (cp vE (2,()))
 else
 some (cp vE (0,())):=by kernel_rfl
end Go.Proofs.Vq

noncomputable section
namespace Go.Ab.Lf
def Zm(to:List Ty)(t:T (List Pl)):Bool:=
 T.rec (motive:=fun _=>Bool) false (fun l=>(toT to l).isSome) (fun _ _ _ a b=>a&&b) (fun _ _ _=>false) t
theorem Ch{to:List Ty}: ∀ {t:T (List Pl)},Zm to t=true->oy to t=true
 | .bad,h=>by cases h
 | .ok l,h=>by
  have h:(toT to l).isSome=true:=h
  show(match toT to l with|some _=>true|none=>false)=true
  cases hq:toT to l with
  |none=>rw[hq]at h;cases h
  |some y=>rfl
 | .br c a b,h=>by
  have h:(Zm to a&&Zm to b)=true:=h
  obtain⟨h1,h2⟩:=Bool.and_eq_true_iff.1 h
  have q1:=Ch h1
  have q2:=Ch h2
  unfold oy at*
  rw[T.wK]
  cases c
  ·exact q2
  ·exact q1
 | .ck c a,h=>by cases h
def Uc(to:List Ty)(t:T (List Pl)):Bool:=
 T.rec (motive:=fun _=>Bool) false (fun l=>(toT to l).isSome) (fun _ _ _ a b=>a&&b) (fun _ _ a=>a) t
def Ud(t:T (List Pl)):List Bool:=T.rec (motive:=fun _=>List Bool) [] (fun _=>[]) (fun _ _ _ a b=>app a b) (fun c _ a=>c::a) t
theorem Ci{to:List Ty}: ∀ {t:T (List Pl)},Uc to t=true->(∀ c,c∈Ud t->c=true)->oy to t=true
 | .bad,h,_=>by cases h
 | .ok l,h,_=>Ch (t:=.ok l) h
 | .br c a b,h,k=>by
  have h:(Uc to a&&Uc to b)=true:=h
  have k: ∀ d,d∈app (Ud a) (Ud b)->d=true:=k
  rw[nD]at k
  obtain⟨h1,h2⟩:=Bool.and_eq_true_iff.1 h
  have q1:=Ci h1 fun d hd=>k d (List.mem_append_left _ hd)
  have q2:=Ci h2 fun d hd=>k d (List.mem_append_right _ hd)
  unfold oy at*
  rw[T.wK]
  cases c
  ·exact q2
  ·exact q1
 | .ck c a,h,k=>by
  have h:Uc to a=true:=h
  have k: ∀ d,d∈c::Ud a->d=true:=k
  have q1:=Ci h fun d hd=>k d (List.mem_cons_of_mem _ hd)
  have hc:c=true:=k c (List.mem_cons_self ..)
  subst hc
  unfold oy at*
  rw[T.GB]
  exact q1
end Go.Ab.Lf
namespace Go.Proofs.Vq
open Go.Ab Go.Ab.Lf
set_option maxRecDepth 100000
def U(z:Int):Prop:=0<=z/\z<=18446744073709551615
theorem vX{α:Type}{c:Bool}{x:Option α}(h:c=true):cA c x=x:=by rw[h];rfl
def rJ(to:List Ty)(P:cf to->Prop)(v:Option (List Pl)):Prop:= ∃ y,v=some (cp to y)/\P y
theorem rJ.bif{to:List Ty}{P:cf to->Prop}{c:Bool}{a b:Option (List Pl)}(h1:c=true->rJ to P a)(h2:c=false->rJ to P b):rJ to P (bif c then a else b):=by
 cases c
 ·exact h2 rfl
 ·exact h1 rfl
theorem rJ.ck{to:List Ty}{P:cf to->Prop}{c:Bool}{a:Option (List Pl)}(h:c=true)(h1:rJ to P a):rJ to P (cA c a):=by rw[vX h];exact h1
theorem rJ.ok{to:List Ty}{P:cf to->Prop}{y:cf to}(h:P y):rJ to P (some (cp to y)):=⟨y,rfl,h⟩
theorem rJ.km{to:List Ty}{P:cf to->Prop}{t:Lf.T (List Pl)}{k:Bool}{m:cf to}(hk:k=oy to t)(hm:m=nA to t)(h:rJ to P t.val):k=true/\P m:=by
 obtain⟨y,h1,h2⟩:=h
 obtain⟨a,b⟩:=nm hk hm h1
 exact⟨a,by rw[b];exact h2⟩
theorem JB(o:Int):xz (o,())=true/\((m11 (o,())).1=0∨(m11 (o,())).1=1∨(m11 (o,())).1=2):=by
 refine rJ.km (P:=fun y:cf vE=>y.1=0∨y.1=1∨y.1=2) (ca _) (ca _) ?_
 rw[ar7]
 repeat' first
  |exact rJ.ok (.inl rfl)
  |exact rJ.ok (.inr (.inl rfl))
  |exact rJ.ok (.inr (.inr rfl))
  |refine rJ.bif (fun _=>?_) (fun _=>?_)
theorem JC(n:Int):U (cb .u64 n):=⟨Int.emod_nonneg n (by decide),by have:=Int.emod_lt_of_pos n (show(0:Int)<18446744073709551616 by decide);show n % 18446744073709551616<=_;omega⟩
theorem ae5(n:Int):U (na .u64 n):=JC n
theorem AZ(n:Int):0<=cb .u32 n/\cb .u32 n<=4294967295:=⟨Int.emod_nonneg n (by decide),by have:=Int.emod_lt_of_pos n (show(0:Int)<4294967296 by decide);show n % 4294967296<=_;omega⟩
theorem ar8(n:Int):(decide (0<=cb .u32 n)&&decide (cb .u32 n<=4294967295))=true:=by
 obtain⟨a,b⟩:=AZ n
 rw[decide_eq_true a,decide_eq_true b];rfl
theorem ckU{x:Int}(h:U x):(decide (0<=x)&&decide (x<=18446744073709551615))=true:=by
 rw[decide_eq_true h.1,decide_eq_true h.2];rfl
theorem Nk(a b:Nat)(ha:a<4294967296)(hb:b<4294967296):np .u32 (a:Int) (b:Int)=((a &&& b:Nat):Int):=by
 show intOf (bif Nat.blt a 4294967296&&Nat.blt b 4294967296 then some (.int .u32 (.ofNat (Nat.land a b)))else _)=_
 rw[show(Nat.blt a 4294967296)=true by simpa using ha,show(Nat.blt b 4294967296)=true by simpa using hb]
 rfl
theorem Cj(a b:Nat)(ha:a<18446744073709551616)(hb:b<18446744073709551616):np .u64 (a:Int) (b:Int)=((a &&& b:Nat):Int):=by
 show intOf (bif Nat.blt a 18446744073709551616&&Nat.blt b 18446744073709551616 then some (.int .u64 (.ofNat (Nat.land a b)))else _)=_
 rw[show(Nat.blt a 18446744073709551616)=true by simpa using ha,show(Nat.blt b 18446744073709551616)=true by simpa using hb]
 rfl
theorem Nl{n:Int}(h0:0<=n)(h1:n<256):nh n 256=true:=by rw[u9];exact⟨h0,h1⟩
theorem LJ{n:Int}(h0:0<=n)(h1:n<=4294967295):0<=np .u32 n 255/\np .u32 n 255<256:=by
 obtain⟨a,rfl⟩: ∃ a:Nat,n=a:=⟨n.toNat,by omega⟩
 have e:np .u32 (a:Int) 255=((a &&& 255:Nat):Int):=Nk a 255 (by omega) (by omega)
 have:=Nat.and_le_right (n:=a) (m:=255)
 rw[e]
 omega
theorem G8(n:Int)(p:Int)(h0:0<=n)(hp:0<p):0<=Int.fdiv n p/\Int.fdiv n p<=n:=by
 rw[Int.fdiv_eq_ediv_of_nonneg _ (by omega)]
 exact⟨Int.ediv_nonneg h0 (by omega),Int.ediv_le_self _ h0⟩
theorem c51(x:Int):Ud (t51 (x,()))=[nh (px .u32 x 24) 256&&(nh (np .u32 (px .u32 x 16) 255) 256&&(nh (np .u32 (px .u32 x 8) 255) 256&&nh (np .u32 x 255) 256))]:=by kernel_rfl
theorem f51(x:Int):Uc Tz (t51 (x,()))=true:=by kernel_rfl
theorem ajD{x:Int}(h0:0<=x)(h1:x<=4294967295):k51 (x,())=true:=by
 refine(ca _).trans (Ci (f51 x) fun c hc=>?_)
 rw[c51]at hc
 have e24:px .u32 x 24=Int.fdiv x (2 ^ 24:Nat):=rfl
 have e16:px .u32 x 16=Int.fdiv x (2 ^ 16:Nat):=rfl
 have e8:px .u32 x 8=Int.fdiv x (2 ^ 8:Nat):=rfl
 have b16:=G8 x ((2 ^ 16:Nat):Int) h0 (by decide)
 have b8:=G8 x ((2 ^ 8:Nat):Int) h0 (by decide)
 have a1:nh (px .u32 x 24) 256=true:=by
  rw[e24,Int.fdiv_eq_ediv_of_nonneg _ (by decide)]
  exact Nl (by omega) (by omega)
 have a2:nh (np .u32 (px .u32 x 16) 255) 256=true:=by rw[e16];have:=LJ b16.1 (by omega);exact Nl this.1 this.2
 have a3:nh (np .u32 (px .u32 x 8) 255) 256=true:=by rw[e8];have:=LJ b8.1 (by omega);exact Nl this.1 this.2
 have a4:nh (np .u32 x 255) 256=true:=by have:=LJ h0 h1;exact Nl this.1 this.2
 rw[a1,a2,a3,a4]at hc
 simpa using hc
theorem f54(x:Int):Zm Lz (t54 (x,()))=true:=by kernel_rfl
theorem abK(x:Int):k54 (x,())=true:=(ca _).trans (Ch (f54 x))
theorem U0:U 0:=⟨by decide,by decide⟩
theorem U1:U 1:=⟨by decide,by decide⟩
theorem ajE(o x:Int)(hx:U x):VV (o,x,())=true/\U (m13 (o,x,())).1:=by
 refine rJ.km (P:=fun y:cf qS=>U y.1) (ca _) (ca _) ?_
 rw[Ub]
 refine rJ.ck (JB o).1 ?_
 repeat' with_reducible first
  |refine rJ.bif (fun _=>?_) (fun _=>?_)
  |refine rJ.ck (ar8 _) ?_
  |refine rJ.ck (ckU hx) ?_
  |refine rJ.ck (ajD (AZ _).1 (AZ _).2) ?_
  |refine rJ.ck (abK _) ?_
  |exact rJ.ok (P:=fun y:cf qS=>U y.1) (JC _)
  |exact rJ.ok (P:=fun y:cf qS=>U y.1) U0
  |exact rJ.ok (P:=fun y:cf qS=>U y.1) U1
theorem ajF{x:Int}(y:Int)(h:U x):U (we .u64 x y):=by
 obtain⟨a,rfl⟩: ∃ a:Nat,x=a:=⟨x.toNat,by have:=h.1;omega⟩
 unfold we
 have h0:=h.2
 have h1:0<=Int.tmod (a:Int) y:=Int.tmod_nonneg _ (by omega)
 refine⟨h1,?_⟩
 have h2:Int.tmod (a:Int) y<=a:=by
  obtain⟨b,hb⟩:=Int.eq_nat_or_neg y
  rcases hb with rfl|rfl
  ·rw[<-Int.ofNat_tmod];have:=Nat.mod_le a b;omega
  ·rw[Int.tmod_neg,<-Int.ofNat_tmod];have:=Nat.mod_le a b;omega
 omega
theorem abL{x:Int}(h:U x): ∃ a:Nat,x=a/\a<18446744073709551616:=⟨x.toNat,by have:=h.1;omega,by have:=h.2;have:=h.1;omega⟩
theorem Fx{x y:Int}(hx:U x)(hy:U y):U (np .u64 x y)/\U (C3 .u64 x y)/\U (Eb .u64 x y):=by
 obtain⟨a,rfl,ha⟩:=abL hx
 obtain⟨b,rfl,hb⟩:=abL hy
 have hh:(Nat.blt a 18446744073709551616&&Nat.blt b 18446744073709551616)=true:=by
  rw[show(Nat.blt a 18446744073709551616)=true by simpa using ha,show(Nat.blt b 18446744073709551616)=true by simpa using hb];rfl
 have e1:np .u64 (a:Int) (b:Int)=((a &&& b:Nat):Int):=Cj a b ha hb
 have e2:C3 .u64 (a:Int) (b:Int)=((a ||| b:Nat):Int):=by
  show intOf (bif Nat.blt a 18446744073709551616&&Nat.blt b 18446744073709551616 then some (.int .u64 (.ofNat (Nat.lor a b)))else _)=_
  rw[hh];rfl
 have e3:Eb .u64 (a:Int) (b:Int)=((a ^^^ b:Nat):Int):=by
  show intOf (bif Nat.blt a 18446744073709551616&&Nat.blt b 18446744073709551616 then some (.int .u64 (.ofNat (Nat.xor a b)))else _)=_
  rw[hh];rfl
 have l1:a &&& b<2 ^ 64:=Nat.and_lt_two_pow _ (by omega)
 have l2:a ||| b<2 ^ 64:=Nat.or_lt_two_pow (by omega) (by omega)
 have l3:a ^^^ b<2 ^ 64:=Nat.xor_lt_two_pow (by omega) (by omega)
 rw[e1,e2,e3]
 exact⟨⟨by omega,by omega⟩,⟨by omega,by omega⟩,⟨by omega,by omega⟩⟩
theorem DB{y:Int}(hy:U y):0<=np .u64 y 63:=(Fx hy (y:=63) ⟨by decide,by decide⟩).1.1
theorem ajG(y:Int):0<=np .u32 (cb .u32 y) 31:=by
 obtain⟨h0,h1⟩:=AZ y
 obtain⟨a,ha⟩: ∃ a:Nat,cb .u32 y=a:=⟨(cb .u32 y).toNat,by omega⟩
 rw[ha,show np .u32 (a:Int) 31=((a &&& 31:Nat):Int)from Nk a 31 (by omega) (by omega)]
 omega
theorem abM{x n:Int}(hx:U x)(hn:0<=n):U (px .u64 x n):=by
 obtain⟨k,rfl⟩: ∃ k:Nat,n=k:=⟨n.toNat,by omega⟩
 have e:px .u64 x (k:Int)=Int.fdiv x ((2 ^ s5 k 64:Nat):Int):=rfl
 have hp:(0:Int)<((2 ^ s5 k 64:Nat):Int):=by have:=Nat.two_pow_pos (s5 k 64);omega
 have:=G8 x _ hx.1 hp
 rw[e]
 exact⟨this.1,by have:=hx.2;omega⟩
theorem abN{x n:Int}(hn:0<=n):U (tP .u64 x n):=by
 obtain⟨k,rfl⟩: ∃ k:Nat,n=k:=⟨n.toNat,by omega⟩
 exact ae5 _
theorem abO(a b:Int):0<=cz .u64 a b:=(ae5 _).1
theorem abP{a b:Int}(h:0<=a):(decide (0<=a)&&decide (0<=cz .u64 b a))=true:=by
 rw[decide_eq_true h,decide_eq_true (abO b a)];rfl
theorem Ue{y:Int}(h: ¬ cb .u32 y=0): ¬ cb .i32 (cb .u32 y)=0:=by
 obtain⟨h0,h1⟩:=AZ y
 generalize cb .u32 y=z at*
 have e:cb .i32 z=(z+2147483648) % 4294967296 - 2147483648:=rfl
 omega
theorem Uf{z:Int}(h0:U z)(h: ¬ z=0): ¬ cb .i64 z=0:=by
 obtain⟨h0,h1⟩:=h0
 have e:cb .i64 z=(z+9223372036854775808) % 18446744073709551616 - 9223372036854775808:=rfl
 omega
theorem PB{y:Int}(h: ¬ cb .u32 y=0): ¬ cb .i64 (cb .i32 (cb .u32 y))=0:=by
 have k:=Ue h
 obtain⟨h0,h1⟩:=AZ y
 generalize cb .u32 y=z at*
 have e:cb .i32 z=(z+2147483648) % 4294967296 - 2147483648:=rfl
 have e2:cb .i64 (cb .i32 z)=(cb .i32 z+9223372036854775808) % 18446744073709551616 - 9223372036854775808:=rfl
 omega
theorem nb{p:Prop}[Decidable p](h: ¬ p):(!decide p)=true:=by rw[decide_eq_false h];rfl
end Go.Proofs.Vq

noncomputable section
namespace Go.Proofs.Vq
open Go.Ab Go.Ab.Lf
set_option maxRecDepth 100000
theorem Bi{o k lo:Int}(h:decide (o=k)=true)(hk:lo<=k):lo<=o:=by have:=of_decide_eq_true h;omega
theorem Bj{o k hi:Int}(h:decide (o=k)=true)(hk:k<=hi):o<=hi:=by have:=of_decide_eq_true h;omega
theorem dz2{o lo hi:Int}{p:Prop}[Decidable p](h:(bif decide (lo<=o)then bif decide (o<=hi)then decide p else false else false)=false)(h1:lo<=o)(h2:o<=hi): ¬ p:=by
 rw[decide_eq_true h1,decide_eq_true h2]at h
 exact of_decide_eq_false h
theorem ae6(o x y:Int)(hx:U x)(hy:U y):G2 (o,x,y,())=true/\U (m12 (o,x,y,())).1:=by
 refine rJ.km (P:=fun y:cf cT=>U y.1) (ca _) (ca _) ?_
 rw[zY]
 refine rJ.ck (JB o).1 ?_
 have l63: ∀ z,0<=np .u64 (cb .u64 z) 63:=fun z=>DB (JC z)
 have l31: ∀ z,0<=np .u64 (cb .u64 z) 31:=fun z=>(Fx (JC z) (y:=31) ⟨by decide,by decide⟩).1.1
 repeat' with_reducible first
  |refine rJ.bif (fun _=>?_) (fun _=>?_)
  |exact rJ.ok (P:=fun y:cf cT=>U y.1) (JC _)
  |exact rJ.ok (P:=fun y:cf cT=>U y.1) U0
  |exact rJ.ok (P:=fun y:cf cT=>U y.1) U1
  |exact rJ.ok (P:=fun y:cf cT=>U y.1) (Fx hx hy).1
  |exact rJ.ok (P:=fun y:cf cT=>U y.1) (Fx hx hy).2.1
  |exact rJ.ok (P:=fun y:cf cT=>U y.1) (Fx hx hy).2.2
  |exact rJ.ok (P:=fun y:cf cT=>U y.1) (ajF _ hx)
  |exact rJ.ok (P:=fun y:cf cT=>U y.1) (abN (DB hy))
  |exact rJ.ok (P:=fun y:cf cT=>U y.1) (abM hx (DB hy))
  |exact rJ.ok (P:=fun y:cf cT=>U y.1) (Fx (abN (l63 _)) (abM hx (abO _ _))).2.1
  |refine rJ.ck (decide_eq_true (DB hy)) ?_
  |refine rJ.ck (decide_eq_true (ajG _)) ?_
  |refine rJ.ck (abP (l63 _)) ?_
  |refine rJ.ck (abP (l31 _)) ?_
  |refine rJ.ck (nb (Ue (dz2 (by assumption) (Bi (k:=109) (by assumption) (by decide)) (Bj (k:=109) (by assumption) (by decide))))) ?_
  |refine rJ.ck (nb (PB (dz2 (by assumption) (Bi (k:=111) (by assumption) (by decide)) (Bj (k:=111) (by assumption) (by decide))))) ?_
  |refine rJ.ck (nb (dz2 (lo:=109) (hi:=112) (by assumption) (Bi (k:=110) (by assumption) (by decide)) (Bj (k:=110) (by assumption) (by decide)))) ?_
  |refine rJ.ck (nb (dz2 (lo:=109) (hi:=112) (by assumption) (Bi (k:=112) (by assumption) (by decide)) (Bj (k:=112) (by assumption) (by decide)))) ?_
  |refine rJ.ck (nb (Uf hy (dz2 (by assumption) (Bi (k:=127) (by assumption) (by decide)) (Bj (k:=127) (by assumption) (by decide))))) ?_
  |refine rJ.ck (nb (Uf hy (dz2 (by assumption) (Bi (k:=129) (by assumption) (by decide)) (Bj (k:=129) (by assumption) (by decide))))) ?_
  |refine rJ.ck (nb (dz2 (lo:=127) (hi:=130) (by assumption) (Bi (k:=128) (by assumption) (by decide)) (Bj (k:=128) (by assumption) (by decide)))) ?_
  |refine rJ.ck (nb (dz2 (lo:=127) (hi:=130) (by assumption) (Bi (k:=130) (by assumption) (by decide)) (Bj (k:=130) (by assumption) (by decide)))) ?_
 all_goals (refine rJ.ok ?_;show U (na .u64 _);exact ae5 _)
end Go.Proofs.Vq

noncomputable section
namespace Go.Proofs.Vq
open Go.Ab Go.Ab.Lf
set_option maxRecDepth 100000
theorem Zn(x:xA)(a b:Int)(ha:0<=a)(hb:0<=b)(HG:b<=1099511627776)(hl:x.st.length<=1099511627776)(h1:a<=(x.st.length:Int))(h2:(x.st.length:Int) - a+b<=1048576):
 th (cy [i64,i64] x (a,b,()))=true/\ct (cy [i64,i64] x (a,b,()))=(true,cy [] x ()):=by
 refine nm (ca _) (ca _) ?_
 rw[ajA]
 have e1:cz .i64 (x.st.length:Int) a=(x.st.length:Int) - a:=wrap_i64 (by omega) (by omega)
 have e2:nz .i64 ((x.st.length:Int) - a) b=(x.st.length:Int) - a+b:=wrap_i64 (by omega) (by omega)
 rw[e1,e2,decide_eq_false (by omega),decide_eq_false (by omega)]
 rfl
end Go.Proofs.Vq

noncomputable section
namespace Go.Proofs.Vq
open Go.Ab Go.Ab.Lf
set_option maxRecDepth 100000
theorem df{p:Prop}[Decidable p](h: ¬ p):decide p=false:=decide_eq_false h
theorem dt{p:Prop}[Decidable p](h:p):decide p=true:=decide_eq_true h
section
variable (g:Cg)(m:Pw)(fu ho de:Int)(f2:den pn)(pc:Int)
end
end Go.Proofs.Vq

noncomputable section
namespace Go.Proofs.Vq
open Go.Ab Go.Ab.Lf
set_option maxRecDepth 100000
theorem abR{α:Type}{l r:List α}{c:α}{j:Nat}(h:l.drop j=c::r):l.drop (j+1)=r:=by rw[<-List.tail_drop,h];rfl
theorem Zo{j:Nat}(h:j<=1099511627776):nz .i64 (j:Int) 1=((j+1:Nat):Int):=aej (by omega)
end Go.Proofs.Vq

noncomputable section
namespace Go.Proofs.Vq
open Go.Ab Go.Ab.Lf
set_option maxRecDepth 100000
section
variable (st:List Int)
abbrev yD:Int:=cz .i64 (Int.ofNat (List.length st)) 1
abbrev ae7:List Int:=List.take ((yD st).toNat - (0:Int).toNat) (List.drop (0:Int).toNat st)
abbrev DC{α:Type}(X:Option α):Option α:=cA (nh (yD st) (Int.ofNat (List.length st))) (cA (n7 0 (yD st) (Int.ofNat (List.length st))) X)
abbrev Ek:Int:=List.getD st (yD st).toNat (cE (Ty.int .u64))
abbrev vI:Int:=cz .i64 (Int.ofNat ((yD st).toNat - (0:Int).toNat)) 1
abbrev Ug:Int:=List.getD st ((0:Int).toNat+(vI st).toNat) (cE (Ty.int .u64))
abbrev ajH:List Int:=List.take ((vI st).toNat - (0:Int).toNat) (List.drop ((0:Int).toNat+(0:Int).toNat) st)
abbrev LK{α:Type}(X:Option α):Option α:=DC st (cA (nh (vI st) (Int.ofNat ((yD st).toNat - (0:Int).toNat))) (cA (n7 0 (vI st) (Int.ofNat ((yD st).toNat - (0:Int).toNat))) X))
abbrev yE{α:Type}(v:Int)(X:List Int->Option α):Option α:=cA (roomy 8 (List.length st+[v].length)) (X (app st [v]))
end
abbrev Uh{α:Type}(e:Int)(F:xA)(X:xA->Option α):Option α:=bif (bif !decide (e=0)then decide (F.r.err=0)else false)then X {F with r:={F.r with err:=e}}else X F
abbrev fin(F:xA):Option (List Pl):=some (cp (G1 []) (cy [] F ()))
end Go.Proofs.Vq

noncomputable section
namespace Go.Proofs.Vq
open Go.Ab Go.Ab.Lf
set_option maxRecDepth 100000
section
variable {st s:List Int}{w:Int}
theorem zZ(h:st=s++[w])(hl:s.length<=1099511627776):yD st=(s.length:Int):=by
 have:List.length st=s.length+1:=by rw[h,List.length_append];rfl
 show cz .i64 ((List.length st:Nat):Int) 1=_
 rw[this]
 exact(wrap_i64 (by omega) (by omega)).trans (by omega)
theorem A0{α:Type}(X:Option α)(h:st=s++[w])(hl:s.length<=1099511627776):DC st X=X:=by
 have hn:List.length st=s.length+1:=by rw[h,List.length_append];rfl
 show cA (nh (yD st) ((List.length st:Nat):Int)) (cA (n7 0 (yD st) ((List.length st:Nat):Int)) X)=X
 rw[zZ h hl,show nh (s.length:Int) ((List.length st:Nat):Int)=true from qg (by omega),show n7 0 (s.length:Int) ((List.length st:Nat):Int)=true by unfold n7;simp;omega]
 rfl
theorem Nn(h:st=s++[w])(hl:s.length<=1099511627776):ae7 st=s:=by
 show List.take ((yD st).toNat - 0) st=s
 rw[zZ h hl,h];simp
theorem G9(h:st=s++[w])(hl:s.length<=1099511627776):Ek st=w:=by
 show List.getD st (yD st).toNat 0=w
 rw[zZ h hl,h];simp[List.getD_eq_getElem?_getD]
end
section
variable {st s:List Int}{v w:Int}
theorem xD(h:st=s++[v,w])(hl:s.length<=1099511627775):vI st=(s.length:Int):=by
 have h1:st=(s++[v])++[w]:=by rw[h,List.append_assoc];rfl
 have hk:(s++[v]).length=s.length+1:=by rw[List.length_append];rfl
 show cz .i64 (((yD st).toNat - 0:Nat):Int) 1=_
 rw[zZ h1 (by omega),hk]
 exact(wrap_i64 (by omega) (by omega)).trans (by omega)
theorem Fy{α:Type}(X:Option α)(h:st=s++[v,w])(hl:s.length<=1099511627775):LK st X=X:=by
 have h1:st=(s++[v])++[w]:=by rw[h,List.append_assoc];rfl
 have hk:(s++[v]).length=s.length+1:=by rw[List.length_append];rfl
 show DC st (cA (nh (vI st) (((yD st).toNat - 0:Nat):Int)) (cA (n7 0 (vI st) (((yD st).toNat - 0:Nat):Int)) X))=X
 rw[A0 _ h1 (by omega),xD h hl,zZ h1 (by omega),hk]
 rw[show nh (s.length:Int) ((((s.length+1:Nat):Int).toNat - 0:Nat):Int)=true from qg (by simp),show n7 0 (s.length:Int) ((((s.length+1:Nat):Int).toNat - 0:Nat):Int)=true by unfold n7;simp;omega]
 rfl
theorem Zp(h:st=s++[v,w])(hl:s.length<=1099511627775):ajH st=s:=by
 show List.take ((vI st).toNat - 0) (List.drop (0+0) st)=s
 rw[xD h hl,h];simp
theorem Np(h:st=s++[v,w])(hl:s.length<=1099511627775):Ug st=v:=by
 show List.getD st (0+(vI st).toNat) 0=v
 rw[xD h hl,h];simp[List.getD_eq_getElem?_getD]
theorem JD(h:st=s++[v,w])(hl:s.length<=1099511627775):Ek st=w:=
 G9 (s:=s++[v]) (by rw[h,List.append_assoc];rfl) (by rw[List.length_append];show s.length+1<=_;omega)
end
theorem tA{α:Type}{s:List Int}(v:Int)(X:List Int->Option α)(hl:s.length<=1048576):yE s v X=X (s++[v]):=by
 show cA (roomy 8 (s.length+1)) (X (app s [v]))=_
 rw[show roomy 8 (s.length+1)=true from vc (by decide) (by omega),nD]
 rfl
theorem vJ(x:xA)(a b:Nat)(hl:x.st.length<=1048576)(h1:a<=x.st.length)(h2:x.st.length - a+b<=1048576):
 th (cy [i64,i64] x ((a:Int),(b:Int),()))=true/\ct (cy [i64,i64] x ((a:Int),(b:Int),()))=(true,cy [] x ()):=
 Zn x (a:Int) (b:Int) (by omega) (by omega) (by omega) (by omega) (by omega) (by omega)
theorem JE{α:Type}(e:Int)(F:xA)(X:xA->Option α)(h:F.r.err=0):Uh e F X=X {F with r:={F.r with err:=e}}:=by
 show(bif (bif !decide (e=0)then decide (F.r.err=0)else false)then X {F with r:={F.r with err:=e}}else X F)=_
 rw[h]
 by_cases hz:e=0
 ·rw[dt hz]
  have:({F with r:={F.r with err:=e}}:xA)=F:=by
   obtain⟨⟨m,fu,ho,de,er⟩,f,pc,st,lo⟩:=F
   have h:er=0:=h
   rw[hz,h]
  rw[this];rfl
 ·rw[df hz];rfl
end Go.Proofs.Vq

noncomputable section
namespace Go.Proofs.Vq
open Go.Ab Go.Ab.Lf
set_option maxRecDepth 100000
end Go.Proofs.Vq

noncomputable section
namespace Go.Proofs.Vq
open Go.Ab Go.Ab.Lf
set_option maxRecDepth 100000
section
variable (x:xA)(a n:Int){s:List Int}{v w y:Int}
theorem P66(hl:x.st.length<=1048575):Ej (cy Ao x (66,a,n,()))=true/\Dx (cy Ao x (66,a,n,()))=cy [] {x with st:=x.st++[n]} ():=by
 have hn:=vJ x 0 1 (by omega) (by omega) (by omega)
 refine nm (ca _) (ca _) ?_
 refine(JA x 66 a n).trans ?_
 rw[df (show ¬ (66:Int)=257 by decide),df (show ¬ (66:Int)=256 by decide),df (show ¬ (66:Int)=26 by decide),df (show ¬ (66:Int)=27 by decide),dt rfl,show th (cy [i64,i64] x (0,1,()))=true from hn.1,show ct (cy [i64,i64] x (0,1,()))=_ from hn.2]
 show cA true (bif true then yE x.st n (fun s=>some (cp pH (cy [] {x with st:=s} ())))else fin x)=_
 rw[tA _ _ (by omega)]
 rfl
theorem P27(hx:x.st=s++[v,w,y])(hl:s.length<=1048573):Ej (cy Ao x (27,a,n,()))=true/\Dx (cy Ao x (27,a,n,()))=cy [] {x with st:=s++[bif decide (cb .u32 y=0)then w else v]} ():=by
 have hk:x.st.length=s.length+3:=by rw[hx,List.length_append];rfl
 have hn:=vJ x 3 1 (by omega) (by omega) (by omega)
 refine nm (ca _) (ca _) ?_
 refine(JA x 27 a n).trans ?_
 rw[df (show ¬ (27:Int)=257 by decide),df (show ¬ (27:Int)=256 by decide),df (show ¬ (27:Int)=26 by decide),dt rfl,show th (cy [i64,i64] x (3,1,()))=true from hn.1,show ct (cy [i64,i64] x (3,1,()))=_ from hn.2]
 have h2:x.st=(s++[v])++[w,y]:=by rw[hx,List.append_assoc];rfl
 have hk2:(s++[v]).length=s.length+1:=by rw[List.length_append];rfl
 have eI:cz .i64 (Int.ofNat ((vI x.st).toNat - (0:Int).toNat)) 1=(s.length:Int):=by
  rw[xD h2 (by omega),hk2]
  have e0:Int.ofNat ((((s.length+1:Nat):Int)).toNat - (0:Int).toNat)=((s.length+1:Nat):Int):=by rw[Int.toNat_natCast];rfl
  rw[e0]
  exact(wrap_i64 (by omega) (by omega)).trans (by omega)
 have g0:List.getD x.st ((0:Int).toNat+(0:Int).toNat+(s.length:Int).toNat) (cE (Ty.int .u64))=v:=by
  rw[hx];show List.getD (s++[v,w,y]) (0+0+s.length) 0=v;rw[show 0+0+s.length=s.length by omega];simp[List.getD_eq_getElem?_getD]
 have c1:nh (s.length:Int) (Int.ofNat ((vI x.st).toNat - (0:Int).toNat))=true:=by rw[xD h2 (by omega),hk2];exact qg (by show s.length<(((s.length+1:Nat):Int)).toNat - 0;rw[Int.toNat_natCast];omega)
 have c2:n7 0 (s.length:Int) (Int.ofNat ((vI x.st).toNat - (0:Int).toNat))=true:=by rw[xD h2 (by omega),hk2];unfold n7;simp;omega
 have e3:List.take ((s.length:Int).toNat - (0:Int).toNat) (List.drop ((0:Int).toNat+(0:Int).toNat+(0:Int).toNat) x.st)=s:=by rw[hx];simp
 show cA true (bif true then LK x.st (cA (nh (cz .i64 (Int.ofNat ((vI x.st).toNat - (0:Int).toNat)) 1) (Int.ofNat ((vI x.st).toNat - (0:Int).toNat))) (cA (n7 0 (cz .i64 (Int.ofNat ((vI x.st).toNat - (0:Int).toNat)) 1) (Int.ofNat ((vI x.st).toNat - (0:Int).toNat)))
  (bif decide (cb .u32 (Ek x.st)=0)then yE (List.take ((cz .i64 (Int.ofNat ((vI x.st).toNat - (0:Int).toNat)) 1).toNat - (0:Int).toNat) (List.drop ((0:Int).toNat+(0:Int).toNat+(0:Int).toNat) x.st)) (Ug x.st) (fun s=>some (cp pH (cy [] {x with st:=s} ())))
   else yE (List.take ((cz .i64 (Int.ofNat ((vI x.st).toNat - (0:Int).toNat)) 1).toNat - (0:Int).toNat) (List.drop ((0:Int).toNat+(0:Int).toNat+(0:Int).toNat) x.st)) (List.getD x.st ((0:Int).toNat+(0:Int).toNat+(cz .i64 (Int.ofNat ((vI x.st).toNat - (0:Int).toNat)) 1).toNat) (cE (Ty.int .u64))) (fun s=>some (cp pH (cy [] {x with st:=s} ()))))))else fin x)=_
 rw[Fy _ h2 (by omega),JD h2 (by omega),Np h2 (by omega),eI,c1,c2,e3,g0,tA _ _ (by omega),tA _ _ (by omega)]
 cases decide (cb .u32 y=0)<;>rfl
end
end Go.Proofs.Vq

noncomputable section
namespace Go.Proofs.Vq
open Go.Ab Go.Ab.Lf
set_option maxRecDepth 100000
section
variable (x:xA)(n:Int){s:List Int}{v w:Int}
theorem abS{x x':xA}{o a n:Int}(h1:32<=o)(h2:o<=36)(h:aeH (cy Ao x (o,a,n,()))=true/\aeI (cy Ao x (o,a,n,()))=cy [] x' ()):Ej (cy Ao x (o,a,n,()))=true/\Dx (cy Ao x (o,a,n,()))=cy [] x' ():=by
 refine nm (ca _) (ca _) ?_
 refine(JA x o a n).trans ?_
 rw[df (show ¬ o=257 by omega),df (show ¬ o=256 by omega),df (show ¬ o=26 by omega),df (show ¬ o=27 by omega),df (show ¬ o=66 by omega),dt h1,dt h2,h.1,h.2]
 rfl
theorem P32(a:Nat)(ha:a<x.lo.length)(hl:x.st.length<=1048575):Ej (cy Ao x (32,(a:Int),n,()))=true/\Dx (cy Ao x (32,(a:Int),n,()))=cy [] {x with st:=x.st++[x.lo.getD a 0]} ():=by
 refine abS (by decide) (by decide) ?_
 have hn:=vJ x 0 1 (by omega) (by omega) (by omega)
 refine nm (ca _) (ca _) ?_
 refine(abE x 32 a n).trans ?_
 rw[dt rfl,show th (cy [i64,i64] x (0,1,()))=true from hn.1,show ct (cy [i64,i64] x (0,1,()))=_ from hn.2]
 show cA true (bif true then cA (nh (a:Int) (x.lo.length:Int)) (yE x.st (x.lo.getD a 0) (fun s=>fin {x with st:=s}))else fin x)=_
 rw[show nh (a:Int) (x.lo.length:Int)=true from qg ha,tA _ _ (by omega)]
 rfl
theorem P33(a:Nat)(ha:a<x.lo.length)(hx:x.st=s++[w])(hl:s.length<=1048575):Ej (cy Ao x (33,(a:Int),n,()))=true/\Dx (cy Ao x (33,(a:Int),n,()))=cy [] {x with st:=s,lo:=x.lo.set a w} ():=by
 refine abS (by decide) (by decide) ?_
 have hk:x.st.length=s.length+1:=by rw[hx,List.length_append];rfl
 have hn:=vJ x 1 0 (by omega) (by omega) (by omega)
 refine nm (ca _) (ca _) ?_
 refine(abE x 33 a n).trans ?_
 rw[df (show ¬ (33:Int)=32 by decide),dt (rfl:(33:Int)=33),show th (cy [i64,i64] x (1,0,()))=true from hn.1,show ct (cy [i64,i64] x (1,0,()))=_ from hn.2]
 show cA true (bif true then DC x.st (cA (decide ((a:Int)=(a:Int))) (cA (nh (a:Int) (x.lo.length:Int)) (fin {x with st:=ae7 x.st,lo:=x.lo.set a (Ek x.st)})))else fin x)=_
 rw[A0 _ hx (by omega),Nn hx (by omega),G9 hx (by omega),show nh (a:Int) (x.lo.length:Int)=true from qg ha,dt rfl]
 rfl
end
end Go.Proofs.Vq

noncomputable section
namespace Go.Proofs.Vq
open Go.Ab Go.Ab.Lf
set_option maxRecDepth 100000
section
variable (x:xA)(a n:Int){s:List Int}{v w:Int}
structure Num(o:Int):Prop where
 h: ¬ o=257/\ ¬ o=256/\ ¬ o=26/\ ¬ o=27/\ ¬ o=66/\ ¬ (32<=o/\o<=36)/\ ¬ (40<=o/\o<=64)
theorem Nq{a b:Int->Prop}{o:Int}[Decidable (a o)][Decidable (b o)](h: ¬ (a o/\b o)):(bif decide (a o)then decide (b o)else false)=false:=by
 by_cases ha:a o
 ·rw[dt ha,df (fun hb=>h ⟨ha,hb⟩)];rfl
 ·rw[df ha];rfl
theorem ar'{o:Int}(hO:Num o)(ha:(m11 (o,())).1=1)(he:x.r.err=0)(hw:U w)(hx:x.st=s++[w])(hl:s.length<=1048575):Ej (cy Ao x (o,a,n,()))=true/\Dx (cy Ao x (o,a,n,()))=cy [] {x with r:={x.r with err:=(m13 (o,w,())).2.1},st:=s++[(m13 (o,w,())).1]} ():=by
 obtain⟨h1,h2,h3,h4,h5,h6,h7⟩:=hO.h
 obtain⟨hk,_⟩:=ajE o w hw
 have hk1:x.st.length=s.length+1:=by rw[hx,List.length_append];rfl
 have hn:=vJ x 1 1 (by omega) (by omega) (by omega)
 refine nm (ca _) (ca _) ?_
 refine(JA x o a n).trans ?_
 rw[df h1,df h2,df h3,df h4,df h5,Nq (a:=fun o=>32<=o) (b:=fun o=>o<=36) h6,Nq (a:=fun o=>40<=o) (b:=fun o=>o<=64) h7,(JB o).1,dt ha,show th (cy [i64,i64] x (1,1,()))=true from hn.1,show ct (cy [i64,i64] x (1,1,()))=_ from hn.2]
 show cA true (cA true (bif true then DC x.st (cA (decide (o=o)) (cA (VV (o,Ek x.st,())) (Uh (m13 (o,Ek x.st,())).2.1 {x with st:=ae7 x.st} fun F=>yE F.st (m13 (o,Ek x.st,())).1 fun s=>fin {F with st:=s})))else fin x))=_
 rw[A0 _ hx (by omega),G9 hx (by omega),Nn hx (by omega),hk,dt (rfl:o=o),vX rfl,vX rfl,cond_true,vX rfl,vX rfl]
 refine(JE _ _ _ ?_).trans ?_
 ·exact he
 ·exact tA (s:=s) _ _ (by omega)
theorem ajI{o:Int}(hO:Num o)(ha:(m11 (o,())).1=2)(he:x.r.err=0)(hv:U v)(hw:U w)(hx:x.st=s++[v,w])(hl:s.length<=1048574):Ej (cy Ao x (o,a,n,()))=true/\Dx (cy Ao x (o,a,n,()))=cy [] {x with r:={x.r with err:=(m12 (o,v,w,())).2.1},st:=s++[(m12 (o,v,w,())).1]} ():=by
 obtain⟨h1,h2,h3,h4,h5,h6,h7⟩:=hO.h
 obtain⟨hk,_⟩:=ae6 o v w hv hw
 have hk1:x.st.length=s.length+2:=by rw[hx,List.length_append];rfl
 have hn:=vJ x 2 1 (by omega) (by omega) (by omega)
 refine nm (ca _) (ca _) ?_
 refine(JA x o a n).trans ?_
 rw[df h1,df h2,df h3,df h4,df h5,Nq (a:=fun o=>32<=o) (b:=fun o=>o<=36) h6,Nq (a:=fun o=>40<=o) (b:=fun o=>o<=64) h7,(JB o).1,df (show ¬ (m11 (o,())).1=1 from fun q=>absurd (ha.symm.trans q) (by decide)),show th (cy [i64,i64] x (2,1,()))=true from hn.1,show ct (cy [i64,i64] x (2,1,()))=_ from hn.2]
 show cA true (cA true (bif true then LK x.st (cA (G2 (o,Ug x.st,Ek x.st,())) (Uh (m12 (o,Ug x.st,Ek x.st,())).2.1 {x with st:=ajH x.st} fun F=>yE F.st (m12 (o,Ug x.st,Ek x.st,())).1 fun s=>fin {F with st:=s}))else fin x))=_
 rw[Fy _ hx (by omega),JD hx (by omega),Np hx (by omega),Zp hx (by omega),hk,vX rfl,vX rfl,cond_true,vX rfl]
 refine(JE _ _ _ ?_).trans ?_
 ·exact he
 ·exact tA (s:=s) _ _ (by omega)
end
end Go.Proofs.Vq

noncomputable section
namespace Go.Proofs.Vq
open Go.Ab Go.Ab.Lf
set_option maxRecDepth 100000
section
variable (g:Cg)(x:xA)(a n:Int){s:List Int}{w:Int}
theorem S15(o:Nat)(ho:x.f.2.2.2.1=(o:Int))(h:o<=x.st.length)(hl:x.st.length<=1048576):Px g (cy Ao x (15,a,n,()))=true/\Py g (cy Ao x (15,a,n,()))=cy [] {x with pc:= -1,st:=x.st.drop (x.st.length - o)} ():=by
 have hn:=vJ x o 0 (by omega) (by omega) (by omega)
 refine nm (ca _) (ca _) ?_
 refine(abF g x 15 a n).trans ?_
 rw[df (show ¬ (15:Int)=0 by decide),df (show ¬ (15:Int)=12 by decide),df (show ¬ (15:Int)=13 by decide),df (show ¬ (15:Int)=14 by decide),dt (rfl:(15:Int)=15),show th (cy [i64,i64] x (x.2.2.2.2.1,0,()))=true from(by rw[show(x.2.2.2.2.1:Int)=(o:Int)from ho];exact hn.1),show ct (cy [i64,i64] x (x.2.2.2.2.1,0,()))=(true,cy [] x ())from(by rw[show(x.2.2.2.2.1:Int)=(o:Int)from ho];exact hn.2)]
 show cA true (bif true then cA (n7 (cz .i64 (x.st.length:Int) x.f.2.2.2.1) (x.st.length:Int) (x.st.length:Int)) (fin {x with pc:= -1,st:=List.take ((x.st.length:Int).toNat - (cz .i64 (x.st.length:Int) x.f.2.2.2.1).toNat) (List.drop (cz .i64 (x.st.length:Int) x.f.2.2.2.1).toNat x.st)})else fin x)=_
 have e:cz .i64 (x.st.length:Int) x.f.2.2.2.1=((x.st.length - o:Nat):Int):=by rw[ho];exact(wrap_i64 (by omega) (by omega)).trans (by omega)
 rw[e,show n7 ((x.st.length - o:Nat):Int) (x.st.length:Int) (x.st.length:Int)=true by unfold n7;simp]
 have e2:List.take ((x.st.length:Int).toNat - ((x.st.length - o:Nat):Int).toNat) (List.drop ((x.st.length - o:Nat):Int).toNat x.st)=x.st.drop (x.st.length - o):=by
  rw[Int.toNat_natCast,Int.toNat_natCast]
  exact List.take_of_length_le (by rw[List.length_drop];omega)
 rw[e2]
 rfl
theorem xE{x x':xA}{o a n:Int}(h0: ¬ o=0)(h1: ¬ (12<=o/\o<=17))(h:Ej (cy Ao x (o,a,n,()))=true/\Dx (cy Ao x (o,a,n,()))=cy [] x' ()):Px g (cy Ao x (o,a,n,()))=true/\Py g (cy Ao x (o,a,n,()))=cy [] {x' with pc:=nz .i64 x'.pc 1} ():=by
 refine nm (ca _) (ca _) ?_
 refine(abF g x o a n).trans ?_
 rw[df h0,df (show ¬ o=12 by omega),df (show ¬ o=13 by omega),df (show ¬ o=14 by omega),df (show ¬ o=15 by omega),df (show ¬ o=16 by omega),df (show ¬ o=17 by omega),h.1,h.2]
 rfl
end
end Go.Proofs.Vq

noncomputable section
namespace Go.Proofs.Vq
open Go.Ab Go.Ab.Lf
set_option maxRecDepth 100000
section
variable (g:Cg)
theorem ajJ{x:xA}{cs:List (den oi)}(hf:cs=x.f.2.2.2.2.2.1)(he:x.r.err=0){pc:Nat}(hp:x.pc=(pc:Int)){c:den oi}{r:List (den oi)}(hd:cs.drop pc=c::r)(f0:den pn)(Qf:cs=f0.2.2.2.2.2.1){x':xA}
 (h:Px g (cy Ao x (c.1,c.2.1,c.2.2,()))=true/\Py g (cy Ao x (c.1,c.2.1,c.2.2,()))=cy [] x' ()):
 (BN g (cp rF (cL x.r f0 x.f x.pc x.st x.lo))).val=some (.next (cp rF (cL x'.r f0 x'.f x'.pc x'.st x'.lo))):=by
 obtain⟨o5,hg⟩:=zR hd (cE oi)
 refine(abD g x.r f0 x.f x.pc x.st x.lo cs Qf c (by rw[hp,Int.toNat_natCast];exact hg.symm) (cy Ao x (c.1,c.2.1,c.2.2,())) rfl x' (by rw[h.2];rfl)).trans ?_
 rw[dt he,hp,dt (show(0:Int)<=(pc:Int) by omega),df (show ¬ (cs.length:Int)<=(pc:Int) by omega),show nh (pc:Int) (cs.length:Int)=true from qg o5,h.1]
 rfl
end
end Go.Proofs.Vq


noncomputable section
namespace Go.Proofs.Sw
def pk(w:Nat):Nat->(Nat->Nat)->Nat
 |0,_=>0
 |n+1,f=>f 0+2 ^ w*pk w n (fun i=>f (i+1))
variable {w:Nat}
theorem cB: ∀ {n:Nat} {f g:Nat->Nat},(∀ i,i<n->f i=g i)->pk w n f=pk w n g
 |0,_,_,_=>rfl
 |n+1,f,g,h=>by
  unfold pk
  rw[h 0 (Nat.succ_pos _),cB (n:=n) (f:=fun i=>f (i+1)) (g:=fun i=>g (i+1)) fun i hi=>h (i+1) (by omega)]
theorem Ha: ∀ (n:Nat) (f g:Nat->Nat),pk w n f+pk w n g=pk w n (fun i=>f i+g i)
 |0,_,_=>rfl
 |n+1,f,g=>by
  have:=Ha n (fun i=>f (i+1)) (fun i=>g (i+1))
  show f 0+2 ^ w*pk w n (fun i=>f (i+1))+(g 0+2 ^ w*pk w n (fun i=>g (i+1)))=f 0+g 0+2 ^ w*pk w n (fun i=>f (i+1)+g (i+1))
  rw[<-this,Nat.mul_add]
  omega
theorem Hb(c:Nat): ∀ (n:Nat) (f:Nat->Nat),c*pk w n f=pk w n (fun i=>c*f i)
 |0,_=>Nat.mul_zero _
 |n+1,f=>by
  have:=Hb c n (fun i=>f (i+1))
  unfold pk
  rw[<-this,Nat.mul_add,Nat.mul_left_comm]
theorem Zq(c:Nat)(n:Nat)(f:Nat->Nat):pk w n f*c=pk w n (fun i=>f i*c):=by
 rw[Nat.mul_comm,Hb]
 exact cB fun i _=>Nat.mul_comm _ _
theorem Ui(n:Nat)(f g:Nat->Nat)(h: ∀ i,i<n->g i<=f i):pk w n f - pk w n g=pk w n (fun i=>f i - g i):=by
 have:=Ha (w:=w) n (fun i=>f i - g i) g
 have e:pk w n (fun i=>f i - g i+g i)=pk w n f:=cB fun i hi=>Nat.sub_add_cancel (h i hi)
 rw[e]at this
 omega
theorem DD: ∀ {n:Nat} {f:Nat->Nat},(∀ i,i<n->f i<2 ^ w)->pk w n f<2 ^ (w*n)
 |0,_,_=>by simp[pk]
 |n+1,f,h=>by
  have h0:=h 0 (Nat.succ_pos _)
  have ih:=DD (n:=n) (f:=fun i=>f (i+1)) fun i hi=>h (i+1) (by omega)
  unfold pk
  rw[Nat.mul_succ,Nat.add_comm (w*n) w,Nat.pow_add]
  have:2 ^ w*pk w n (fun i=>f (i+1))+2 ^ w<=2 ^ w*2 ^ (w*n):=by
   rw[<-Nat.mul_succ];exact Nat.mul_le_mul_left _ ih
  omega
theorem qx(hw:0<w): ∀ {n:Nat} {f:Nat->Nat},(∀ i,i<n->f i<2 ^ w)-> ∀ j,(pk w n f).testBit j=(decide (j<w*n)&&(f (j / w)).testBit (j % w))
 |0,_,_,j=>by simp[pk]
 |n+1,f,h,j=>by
  have h0:=h 0 (Nat.succ_pos _)
  have ih:=qx hw (n:=n) (f:=fun i=>f (i+1)) fun i hi=>h (i+1) (by omega)
  unfold pk
  rw[Nat.add_comm,Nat.testBit_two_pow_mul_add _ h0]
  by_cases hj:j<w
  ·rw[if_pos hj,Nat.div_eq_of_lt hj,Nat.mod_eq_of_lt hj]
   have:j<w*(n+1):=by rw[Nat.mul_succ];omega
   simp[this]
  ·rw[if_neg hj,ih]
   have e1:(j - w) / w+1=j / w:=by
    have:=Nat.add_div_right (j - w) hw
    rw[Nat.sub_add_cancel (by omega)]at this
    omega
   have e2:(j - w) % w=j % w:=by
    have:=Nat.add_mod_right (j - w) w
    rw[Nat.sub_add_cancel (by omega)]at this
    exact this.symm
   have e3:(j - w<w*n)=(j<w*(n+1)):=by
    rw[Nat.mul_succ]
    apply propext
    constructor<;>intro h<;>omega
   rw[e2]
   simp only[e1,e3]
theorem DE(hw:0<w){n:Nat}{f g:Nat->Nat}(hf: ∀ i,i<n->f i<2 ^ w)(hg: ∀ i,i<n->g i<2 ^ w):pk w n f &&& pk w n g=pk w n (fun i=>f i &&& g i):=by
 apply Nat.eq_of_testBit_eq
 intro j
 rw[Nat.testBit_and,qx hw hf,qx hw hg,qx hw fun i hi=>Nat.and_lt_two_pow _ (hg i hi),Nat.testBit_and]
 cases decide (j<w*n)<;>simp
theorem abT(hw:0<w){n:Nat}{f g:Nat->Nat}(hf: ∀ i,i<n->f i<2 ^ w)(hg: ∀ i,i<n->g i<2 ^ w):pk w n f ||| pk w n g=pk w n (fun i=>f i ||| g i):=by
 apply Nat.eq_of_testBit_eq
 intro j
 rw[Nat.testBit_or,qx hw hf,qx hw hg,qx hw fun i hi=>Nat.or_lt_two_pow (hf i hi) (hg i hi),Nat.testBit_or]
 cases decide (j<w*n)<;>simp
theorem A1(hw:0<w){n:Nat}{f g:Nat->Nat}(hf: ∀ i,i<n->f i<2 ^ w)(hg: ∀ i,i<n->g i<2 ^ w):pk w n f ^^^ pk w n g=pk w n (fun i=>f i ^^^ g i):=by
 apply Nat.eq_of_testBit_eq
 intro j
 rw[Nat.testBit_xor,qx hw hf,qx hw hg,qx hw fun i hi=>Nat.xor_lt_two_pow (hf i hi) (hg i hi),Nat.testBit_xor]
 cases decide (j<w*n)<;>simp
def ln(w x i:Nat):Nat:=x / 2 ^ (w*i) % 2 ^ w
theorem wX(x i:Nat):ln w x i<2 ^ w:=Nat.mod_lt _ (Nat.two_pow_pos w)
theorem FA: ∀ (n x:Nat),x<2 ^ (w*n)->x=pk w n (ln w x)
 |0,x,h=>by
  rw[Nat.mul_zero]at h
  show x=0
  omega
 |n+1,x,h=>by
  have ih:=FA n (x / 2 ^ w) (by
   rw[Nat.mul_succ,Nat.add_comm,Nat.pow_add]at h
   exact Nat.div_lt_of_lt_mul h)
  unfold pk
  have e:pk w n (fun i=>ln w x (i+1))=x / 2 ^ w:=by
   refine Eq.trans (cB fun i _=>?_) ih.symm
   unfold ln
   rw[Nat.div_div_eq_div_mul,<-Nat.pow_add,Nat.mul_succ,Nat.add_comm (w*i) w]
  rw[e]
  unfold ln
  rw[Nat.mul_zero,Nat.pow_zero,Nat.div_one]
  exact(Nat.mod_add_div x (2 ^ w)).symm
theorem Bk: ∀ {n:Nat} {f:Nat->Nat},(∀ i,i<n->f i<2 ^ w)-> ∀ i,i<n->ln w (pk w n f) i=f i
 |0,_,_,_,h=>by omega
 |n+1,f,h,i,hi=>by
  have h0:=h 0 (Nat.succ_pos _)
  unfold pk ln
  cases i with
  |zero=>
   rw[Nat.mul_zero,Nat.pow_zero,Nat.div_one,Nat.add_mul_mod_self_left,Nat.mod_eq_of_lt h0]
  |succ i=>
   have ih:=Bk (n:=n) (f:=fun i=>f (i+1)) (fun i hi=>h (i+1) (by omega)) i (by omega)
   unfold ln at ih
   rw[Nat.mul_succ,Nat.add_comm (w*i) w,Nat.pow_add,<-Nat.div_div_eq_div_mul,Nat.add_mul_div_left _ _ (Nat.two_pow_pos w),Nat.div_eq_of_lt h0,Nat.zero_add]
   exact ih
theorem Ck: ∀ n,pk w n (fun _=>0)=0
 |0=>rfl
 |n+1=>by unfold pk;rw[Ck n];simp
theorem Zr(k n:Nat)(f:Nat->Nat):pk w n (fun i=>2 ^ k*f i) / 2 ^ k=pk w n f:=by
 rw[<-Hb]
 exact Nat.mul_div_cancel_left _ (Nat.two_pow_pos k)
theorem Uj(x k j:Nat):(x % 2 ^ k).testBit j=(decide (j<k)&&x.testBit j):=Nat.testBit_mod_two_pow ..
theorem Uk(x k j:Nat):(x / 2 ^ k).testBit j=x.testBit (k+j):=by rw[Nat.testBit_div_two_pow,Nat.add_comm]
theorem LL(x k j:Nat):(2 ^ k*x).testBit j=(decide (k<=j)&&x.testBit (j - k)):=by rw[Nat.testBit_two_pow_mul]
theorem LM(hw:0<w){n k:Nat}{f:Nat->Nat}(hk:k<=w)(hf: ∀ i,i<n->f i<2 ^ w):(pk w n f / 2 ^ k) &&& pk w n (fun _=>2 ^ (w - k) - 1)=pk w n (fun i=>f i / 2 ^ k):=by
 have hm:2 ^ (w - k) - 1<2 ^ w:=by
  have:=Nat.two_pow_pos (w - k)
  have:2 ^ (w - k)<=2 ^ w:=Nat.pow_le_pow_right (by decide) (by omega)
  omega
 apply Nat.eq_of_testBit_eq
 intro j
 rw[Nat.testBit_and,Uk,qx hw hf,qx hw fun _ _=>hm,qx hw fun i hi=>Nat.lt_of_le_of_lt (Nat.div_le_self _ _) (hf i hi),Nat.testBit_two_pow_sub_one,Uk]
 by_cases hj:j<w*n
 ·by_cases hl:j % w<w - k
  ·have e1:(k+j) / w=j / w:=by
    have h1:=Nat.div_add_mod j w
    have:k+j=(k+j % w)+w*(j / w):=by omega
    rw[this,Nat.add_mul_div_left _ _ hw,Nat.div_eq_of_lt (by omega)]
    omega
   have e2:(k+j) % w=k+j % w:=by
    have h1:=Nat.div_add_mod j w
    have:k+j=(k+j % w)+w*(j / w):=by omega
    rw[this,Nat.add_mul_mod_self_left,Nat.mod_eq_of_lt (by omega)]
   have e3:k+j<w*n:=by
    have h1:=Nat.div_add_mod j w
    have h2:j / w<n:=Nat.div_lt_of_lt_mul hj
    have h3:w*(j / w)+w<=w*n:=by rw[<-Nat.mul_succ];exact Nat.mul_le_mul_left _ h2
    omega
   simp[hj,hl,e1,e2,e3]
  ·have hz:(f (j / w)).testBit (k+j % w)=false:=by
    have h2:j / w<n:=Nat.div_lt_of_lt_mul hj
    exact Nat.testBit_lt_two_pow (Nat.lt_of_lt_of_le (hf _ h2) (Nat.pow_le_pow_right (by decide) (by omega)))
   simp[hl,hz]
 ·simp[hj]
theorem ae8(hw:0<w){n k:Nat}{f:Nat->Nat}(hk:k<=w)(hf: ∀ i,i<n->f i<2 ^ w):(2 ^ k*pk w n f % 2 ^ (w*n)) &&& pk w n (fun _=>2 ^ w - 2 ^ k)=pk w n (fun i=>2 ^ k*f i % 2 ^ w):=by
 have hp:=Nat.two_pow_pos k
 have hle:2 ^ k<=2 ^ w:=Nat.pow_le_pow_right (by decide) hk
 have hm:2 ^ w - 2 ^ k<2 ^ w:=by omega
 have hmb: ∀ j,(2 ^ w - 2 ^ k).testBit j=(decide (j<w)&&decide (k<=j)):=by
  intro j
  have e:2 ^ w - 2 ^ k=2 ^ k*(2 ^ (w - k) - 1):=by
   rw[Nat.mul_sub,<-Nat.pow_add,Nat.add_sub_cancel' hk,Nat.mul_one]
  rw[e,LL,Nat.testBit_two_pow_sub_one]
  by_cases h:k<=j
  ·have:(j - k<w - k)=(j<w):=by apply propext;constructor<;>intro q<;>omega
   simp[h,this]
  ·simp[h]
 apply Nat.eq_of_testBit_eq
 intro j
 rw[Nat.testBit_and,Uj,LL,qx hw hf,qx hw fun _ _=>hm,qx hw fun i _=>Nat.mod_lt _ (Nat.two_pow_pos w),hmb,Uj,LL]
 by_cases hj:j<w*n
 ·have hl:=Nat.mod_lt j hw
  by_cases h:k<=j % w
  ·have h1:=Nat.div_add_mod j w
   have hkj:k<=j:=by have:=Nat.mod_le j w;omega
   have ej:j - k=(j % w - k)+w*(j / w):=by omega
   have e1:(j - k) / w=j / w:=by
    rw[ej,Nat.add_mul_div_left _ _ hw,Nat.div_eq_of_lt (by omega)]
    omega
   have e2:(j - k) % w=j % w - k:=by
    rw[ej,Nat.add_mul_mod_self_left]
    exact Nat.mod_eq_of_lt (by omega)
   have e3:j - k<w*n:=by omega
   simp[hj,hl,h,hkj,e1,e2,e3]
  ·simp[h]
 ·simp[hj]
theorem Nr(n:Nat):pk w n (fun _=>2 ^ w - 1)=2 ^ (w*n) - 1:=by
 induction n with
 |zero=>simp[pk]
 |succ n ih=>
  show 2 ^ w - 1+2 ^ w*pk w n (fun _=>2 ^ w - 1)=_
  rw[ih,Nat.mul_succ,Nat.add_comm (w*n) w,Nat.pow_add,Nat.mul_sub,Nat.mul_one]
  have h1:=Nat.two_pow_pos w
  have h2:2 ^ w<=2 ^ w*2 ^ (w*n):=Nat.le_mul_of_pos_right _ (Nat.two_pow_pos _)
  omega
end Go.Proofs.Sw


noncomputable section
namespace Go.Proofs.Sw
variable {p:Nat}
theorem p2(p:Nat):2 ^ (p+1)=2*2 ^ p:=by rw[Nat.pow_succ,Nat.mul_comm]
theorem HL{a:Nat}(h:a<2 ^ (p+1)):a.testBit p=decide (2 ^ p<=a):=by
 by_cases q:2 ^ p<=a
 ·rw[decide_eq_true q]
  have:=Nat.testBit_two_pow_mul_add 1 (b:=a - 2 ^ p) (i:=p) (by rw[p2]at h;omega) p
  rw[Nat.mul_one,Nat.add_sub_cancel' q]at this
  rw[this];simp
 ·rw[decide_eq_false q]
  exact Nat.testBit_lt_two_pow (by omega)
theorem Zs(x:Nat):x &&& 2 ^ p=if x.testBit p then 2 ^ p else 0:=by
 apply Nat.eq_of_testBit_eq
 intro j
 rw[Nat.testBit_and,Nat.testBit_two_pow]
 by_cases h:p=j
 ·subst h
  cases hx:x.testBit p<;>simp
 ·cases hx:x.testBit p<;>simp[h]
theorem JF(x:Nat):x &&& (2 ^ p - 1)=x % 2 ^ p:=Nat.and_two_pow_sub_one_eq_mod x p
theorem orT{a:Nat}(h:a<2 ^ (p+1)):a ||| 2 ^ p=a % 2 ^ p+2 ^ p:=by
 have hr:=Nat.mod_lt a (Nat.two_pow_pos p)
 apply Nat.eq_of_testBit_eq
 intro j
 have e:=Nat.testBit_two_pow_mul_add 1 (b:=a % 2 ^ p) (i:=p) hr j
 rw[Nat.mul_one,Nat.add_comm]at e
 rw[e,Nat.testBit_or,Nat.testBit_two_pow,Nat.testBit_mod_two_pow]
 by_cases hj:j<p
 ·have: ¬ p=j:=by omega
  simp[hj,this]
 ·by_cases h2:p=j
  ·subst h2;simp
  ·have hz:a.testBit j=false:=Nat.testBit_lt_two_pow (Nat.lt_of_lt_of_le h (Nat.pow_le_pow_right (by decide) (by omega)))
   have h3:Nat.testBit 1 (j - p)=false:=Nat.testBit_lt_two_pow (Nat.lt_of_lt_of_le (show 1<2 ^ 1 by decide) (Nat.pow_le_pow_right (by decide) (by omega)))
   simp[hj,h2,hz,h3]
theorem PC{a:Nat}(h:a<2 ^ (p+1)):a ^^^ 2 ^ p=if 2 ^ p<=a then a - 2 ^ p else a+2 ^ p:=by
 have low: ∀ {r:Nat},r<2 ^ p->r ^^^ 2 ^ p=r+2 ^ p:=by
  intro r hr
  apply Nat.eq_of_testBit_eq
  intro j
  have e:=Nat.testBit_two_pow_mul_add 1 (b:=r) (i:=p) hr j
  rw[Nat.mul_one,Nat.add_comm]at e
  rw[e,Nat.testBit_xor,Nat.testBit_two_pow]
  by_cases hj:j<p
  ·have: ¬ p=j:=by omega
   simp[hj,this]
  ·have hz:r.testBit j=false:=Nat.testBit_lt_two_pow (Nat.lt_of_lt_of_le hr (Nat.pow_le_pow_right (by decide) (by omega)))
   by_cases h2:p=j
   ·subst h2;simp[hz]
   ·have h3:Nat.testBit 1 (j - p)=false:=Nat.testBit_lt_two_pow (Nat.lt_of_lt_of_le (show 1<2 ^ 1 by decide) (Nat.pow_le_pow_right (by decide) (by omega)))
    simp[hj,h2,hz,h3]
 by_cases q:2 ^ p<=a
 ·rw[if_pos q]
  have:=low (r:=a - 2 ^ p) (by rw[p2]at h;omega)
  rw[Nat.sub_add_cancel q]at this
  have e:=congrArg (· ^^^ 2 ^ p) this
  simp only[Nat.xor_assoc,Nat.xor_self,Nat.xor_zero]at e
  exact e.symm
 ·rw[if_neg q];exact low (by omega)
theorem notM{k x:Nat}(h:x<2 ^ k):x ^^^ (2 ^ k - 1)=2 ^ k - 1 - x:=by
 have key: ∀ k x,x<2 ^ k->(2 ^ k - 1 - x)=x ^^^ (2 ^ k - 1):=by
  intro k x h
  apply Nat.eq_of_testBit_eq
  intro j
  rw[Nat.testBit_xor,Nat.testBit_two_pow_sub_one,Nat.sub_sub,Nat.add_comm,Nat.testBit_two_pow_sub_succ h]
  by_cases hj:j<k
  ·cases x.testBit j<;>simp[hj]
  ·have:x.testBit j=false:=Nat.testBit_lt_two_pow (Nat.lt_of_lt_of_le h (Nat.pow_le_pow_right (by decide) (by omega)))
   simp[hj,this]
 exact(key k x h).symm
theorem LN{a:Nat}(h:a<2 ^ (p+1)):a % 2 ^ p=if 2 ^ p<=a then a - 2 ^ p else a:=by
 by_cases q:2 ^ p<=a
 ·rw[if_pos q,Nat.mod_eq_sub_mod q,Nat.mod_eq_of_lt (by rw[p2]at h;omega)]
 ·rw[if_neg q,Nat.mod_eq_of_lt (by omega)]
theorem PD{a b:Nat}(ha:a<2 ^ (p+1))(hb:b<2 ^ (p+1)):(a ^^^ b) &&& 2 ^ p=if decide (2 ^ p<=a)=decide (2 ^ p<=b)then 0 else 2 ^ p:=by
 rw[Zs,Nat.testBit_xor,HL ha,HL hb]
 cases decide (2 ^ p<=a)<;>cases decide (2 ^ p<=b)<;>rfl
section
variable {a b:Nat}(ha:a<2 ^ (p+1))(hb:b<2 ^ (p+1))
include ha hb
theorem ajK:((a &&& (2 ^ p - 1))+(b &&& (2 ^ p - 1))) ^^^ ((a ^^^ b) &&& 2 ^ p)=(a+b) % 2 ^ (p+1):=by
 have hp:=Nat.two_pow_pos p
 rw[PD ha hb,JF,JF,LN ha,LN hb]
 rw[p2]at ha hb ⊢
 have mo: ∀ x,x<2*2 ^ p->x % (2*2 ^ p)=x:=fun x h=>Nat.mod_eq_of_lt h
 have Ul: ∀ x,2*2 ^ p<=x->x<4*2 ^ p->x % (2*2 ^ p)=x - 2*2 ^ p:=fun x h1 h2=>by rw[Nat.mod_eq_sub_mod h1,Nat.mod_eq_of_lt (by omega)]
 by_cases h1:2 ^ p<=a<;>by_cases h2:2 ^ p<=b
 ·simp only[h1,h2,if_true]
  rw[Nat.xor_zero,Ul _ (by omega) (by omega)];omega
 ·simp only[h1,h2,if_true,if_false,decide_true,decide_false,Bool.true_eq_false]
  rw[PC (by rw[p2];omega)]
  by_cases h3:2 ^ p<=a - 2 ^ p+b
  ·rw[if_pos h3,Ul _ (by omega) (by omega)];omega
  ·rw[if_neg h3,mo _ (by omega)];omega
 ·simp only[h1,h2,if_true,if_false,decide_true,decide_false,Bool.false_eq_true]
  rw[PC (by rw[p2];omega)]
  by_cases h3:2 ^ p<=a+(b - 2 ^ p)
  ·rw[if_pos h3,Ul _ (by omega) (by omega)];omega
  ·rw[if_neg h3,mo _ (by omega)];omega
 ·simp only[h1,h2,if_true,if_false]
  rw[Nat.xor_zero,mo _ (by omega)]
omit hb in
theorem L_g:(a ||| 2 ^ p) - (b &&& (2 ^ p - 1))=a % 2 ^ p+2 ^ p - b % 2 ^ p:=by rw[orT ha,JF]
omit hb in
theorem ajL:(b &&& (2 ^ p - 1))<=(a ||| 2 ^ p):=by
 rw[orT ha,JF]
 have:=Nat.mod_lt b (Nat.two_pow_pos p)
 omega
omit hb in
theorem abU:(a ||| 2 ^ p) - (b &&& (2 ^ p - 1))<2 ^ (p+1):=by
 rw[L_g ha,p2]
 have:=Nat.mod_lt a (Nat.two_pow_pos p)
 omega
theorem ajM:((a ||| 2 ^ p) - (b &&& (2 ^ p - 1))) ^^^ (((a ^^^ b) &&& 2 ^ p) ^^^ 2 ^ p)=(a+2 ^ (p+1) - b) % 2 ^ (p+1):=by
 have hp:=Nat.two_pow_pos p
 have hg:=abU (b:=b) ha
 rw[PD ha hb]
 rw[L_g ha,LN ha,LN hb]at hg ⊢
 have mo: ∀ x,x<2*2 ^ p->x % (2*2 ^ p)=x:=fun x h=>Nat.mod_eq_of_lt h
 have Ul: ∀ x,2*2 ^ p<=x->x<4*2 ^ p->x % (2*2 ^ p)=x - 2*2 ^ p:=fun x h1 h2=>by rw[Nat.mod_eq_sub_mod h1,Nat.mod_eq_of_lt (by omega)]
 have x0: ∀ x:Nat,x ^^^ (0 ^^^ 2 ^ p)=x ^^^ 2 ^ p:=fun x=>by rw[Nat.zero_xor]
 have x1: ∀ x:Nat,x ^^^ (2 ^ p ^^^ 2 ^ p)=x:=fun x=>by rw[Nat.xor_self,Nat.xor_zero]
 by_cases h1:2 ^ p<=a<;>by_cases h2:2 ^ p<=b
 ·simp only[h1,h2,if_true]at hg ⊢
  rw[x0,PC hg,p2]at*
  by_cases h3:2 ^ p<=a - 2 ^ p+2 ^ p - (b - 2 ^ p)
  ·rw[if_pos h3,Ul _ (by omega) (by omega)];omega
  ·rw[if_neg h3,mo _ (by omega)];omega
 ·simp only[h1,h2,if_true,if_false,decide_true,decide_false,Bool.true_eq_false]at hg ⊢
  rw[x1]
  rw[p2]at*
  rw[Ul _ (by omega) (by omega)];omega
 ·simp only[h1,h2,if_true,if_false,decide_true,decide_false,Bool.false_eq_true]at hg ⊢
  rw[x1]
  rw[p2]at*
  rw[mo _ (by omega)];omega
 ·simp only[h1,h2,if_true,if_false]at hg ⊢
  rw[x0,PC hg,p2]at*
  by_cases h3:2 ^ p<=a+2 ^ p - b
  ·rw[if_pos h3,Ul _ (by omega) (by omega)];omega
  ·rw[if_neg h3,mo _ (by omega)];omega
theorem Zt:((b &&& (a ^^^ (2 ^ (p+1) - 1))) ||| ((((a ||| 2 ^ p) - (b &&& (2 ^ p - 1))) ||| (a ^^^ b)) ^^^ (2 ^ (p+1) - 1))) &&& 2 ^ p=if a<b then 2 ^ p else 0:=by
 have hg:=abU (b:=b) ha
 have tM:(2 ^ (p+1) - 1).testBit p=true:=by rw[Nat.testBit_two_pow_sub_one];simp
 rw[Zs,Nat.testBit_or,Nat.testBit_and,Nat.testBit_xor,Nat.testBit_xor,Nat.testBit_or,Nat.testBit_xor,HL ha,HL hb,HL hg,tM]
 rw[L_g ha,LN ha,LN hb]
 rw[p2]at*
 by_cases h1:2 ^ p<=a<;>by_cases h2:2 ^ p<=b<;>by_cases h3:a<b<;>simp[h1,h2,h3]<;>omega
end
theorem Um{a:Nat}(ha:a<2 ^ (p+1)):(((a &&& (2 ^ p - 1))+(2 ^ p - 1)) ||| a) &&& 2 ^ p=if a=0 then 0 else 2 ^ p:=by
 have hp:=Nat.two_pow_pos p
 have hr:=Nat.mod_lt a hp
 rw[Zs,Nat.testBit_or,JF,HL (show a % 2 ^ p+(2 ^ p - 1)<2 ^ (p+1) by rw[p2];omega),HL ha,LN ha]
 rw[p2]at ha
 by_cases h1:2 ^ p<=a<;>by_cases h3:a=0<;>simp[h1,h3]<;>omega
theorem DF(a b:Nat):(a ||| b)+(a &&& b)=a+b:=by
 have key: ∀ n a b:Nat,a<2 ^ n->b<2 ^ n->(a ||| b)+(a &&& b)=a+b:=by
  intro n
  induction n with
  |zero=>intro a b h1 h2;have:a=0:=by omega
         have:b=0:=by omega
         subst a;subst b;rfl
  |succ n ih=>
   intro a b h1 h2
   have e:=ih (a / 2) (b / 2) (by rw[p2]at h1;omega) (by rw[p2]at h2;omega)
   have o1:(a ||| b) / 2=a / 2 ||| b / 2:=Nat.or_div_two
   have o2:(a &&& b) / 2=a / 2 &&& b / 2:=Nat.and_div_two
   have o3:(a ||| b) % 2=a % 2 ||| b % 2:=Nat.or_mod_two_pow (n:=1)
   have o4:(a &&& b) % 2=a % 2 &&& b % 2:=Nat.and_mod_two_pow (n:=1)
   have c1:=Nat.mod_two_eq_zero_or_one a
   have c2:=Nat.mod_two_eq_zero_or_one b
   have m:(a % 2 ||| b % 2)+(a % 2 &&& b % 2)=a % 2+b % 2:=by rcases c1 with h|h<;>rcases c2 with k|k<;>rw[h,k]<;>rfl
   omega
 exact key (a+b) a b (Nat.lt_of_le_of_lt (Nat.le_add_right a b) Nat.lt_two_pow_self) (Nat.lt_of_le_of_lt (Nat.le_add_left b a) Nat.lt_two_pow_self)
theorem Un(a b:Nat):(a ^^^ b)+(a &&& b)=a ||| b:=by
 have h:=DF (a ^^^ b) (a &&& b)
 have z:(a ^^^ b) &&& (a &&& b)=0:=by
  apply Nat.eq_of_testBit_eq;intro j
  simp only[Nat.testBit_and,Nat.testBit_xor,Nat.zero_testBit]
  cases a.testBit j<;>cases b.testBit j<;>rfl
 have o:(a ^^^ b) ||| (a &&& b)=a ||| b:=by
  apply Nat.eq_of_testBit_eq;intro j
  simp only[Nat.testBit_and,Nat.testBit_xor,Nat.testBit_or]
  cases a.testBit j<;>cases b.testBit j<;>rfl
 rw[z,o]at h
 omega
theorem ajN(a b:Nat):(a ||| b) - (a ^^^ b) / 2=(a+b+1) / 2:=by
 have h1:=DF a b
 have h2:=Un a b
 omega
end Go.Proofs.Sw

noncomputable section
namespace Go.Proofs.Sw
inductive Sc where
 |g (a:Nat)|s (a:Nat)|k (n:Nat)|o (op:Nat)
abbrev cN:Nat:=18446744073709551616
def qK(lo:Nat->Nat)(a v:Nat):Nat->Nat:=fun j=>if j=a then v else lo j
def El(x:Nat):Int:=if x<9223372036854775808 then(x:Int)else(x:Int) - 18446744073709551616
def JG(b:Bool):Nat:=match b with|true=>1|false=>0
def Kk(op:Nat)(st:List Nat):Option (List Nat):=match op,st with
 |124,y::x::s=>some ((x+y) % cN::s)
 |125,y::x::s=>some ((x+cN - y) % cN::s)
 |126,y::x::s=>some (x*y % cN::s)
 |131,y::x::s=>some ((x &&& y)::s)
 |132,y::x::s=>some ((x ||| y)::s)
 |133,y::x::s=>some ((x ^^^ y)::s)
 |134,y::x::s=>some (2 ^ (y % 64)*x % cN::s)
 |135,y::x::s=>some (((El x / 2 ^ (y % 64)) % 18446744073709551616).toNat::s)
 |136,y::x::s=>some (x / 2 ^ (y % 64)::s)
 |81,y::x::s=>some (JG (decide (x=y))::s)
 |83,y::x::s=>some (JG (decide (El x<El y))::s)
 |84,y::x::s=>some (JG (decide (x<y))::s)
 |85,y::x::s=>some (JG (decide (El y<El x))::s)
 |69,x::s=>some (JG (decide (x % 4294967296=0))::s)
 |80,x::s=>some (JG (decide (x=0))::s)
 |167,x::s=>some (x % 4294967296::s)
 |173,x::s=>some (x % 4294967296::s)
 |27,c::b::a::s=>some ((if c % 4294967296=0 then b else a)::s)
 | _,_=>none
def run:List Sc->List Nat->(Nat->Nat)->Option (List Nat×(Nat->Nat))
 | [],st,lo=>some (st,lo)
 | .g a::r,st,lo=>run r (lo a::st) lo
 | .s a::r,v::st,lo=>run r st (qK lo a v)
 | .s _::_,[],_=>none
 | .k n::r,st,lo=>run r (n::st) lo
 | .o op::r,st,lo=>match Kk op st with
  |some st=>run r st lo
  |none=>none
theorem cU: ∀ (a b:List Sc) (st:List Nat) (lo:Nat->Nat) {st1:List Nat} {lo1:Nat->Nat},run a st lo=some (st1,lo1)->run (a++b) st lo=run b st1 lo1
 | [],b,st,lo,st1,lo1,h=>by cases h;rfl
 | .g a::r,b,st,lo,st1,lo1,h=>cU r b (lo a::st) lo h
 | .s a::r,b,v::st,lo,st1,lo1,h=>cU r b st (qK lo a v) h
 | .s _::_,b,[],_,_,_,h=>by cases h
 | .k n::r,b,st,lo,st1,lo1,h=>cU r b (n::st) lo h
 | .o op::r,b,st,lo,st1,lo1,h=>by
  change (match Kk op st with|some st=>run r st lo|none=>none)=some (st1,lo1)at h
  show(match Kk op st with|some st=>run (r++b) st lo|none=>none)=run b st1 lo1
  cases e:Kk op st with
  |none=>rw[e]at h;cases h
  |some s=>rw[e]at h;exact cU r b s lo h
structure Wd(w p n:Nat):Prop where
 w1:w=p+1
 w2:w*n=64
variable {w p n:Nat}
structure oh(w n x:Nat)(a:Nat->Nat):Prop where
 e:x=pk w n a
 l: ∀ i,i<n->a i<2 ^ w
theorem Wd.pos(h:Wd w p n):0<w:=by rw[h.w1];exact Nat.succ_pos _
theorem Wd.big(h:Wd w p n):2 ^ (w*n)=cN:=by rw[h.w2]
theorem oh.lt(W:Wd w p n){x:Nat}{a:Nat->Nat}(h:oh w n x a):x<cN:=by rw[h.e,<-W.big];exact DD h.l
theorem oh.of(W:Wd w p n){x:Nat}(h:x<cN):oh w n x (ln w x):=⟨FA n x (by rw[W.big];exact h),fun i _=>wX x i⟩
theorem oh.congr{x:Nat}{a b:Nat->Nat}(h:oh w n x a)(e: ∀ i,i<n->a i=b i):oh w n x b:=⟨h.e.trans (cB e),fun i hi=>by rw[<-e i hi];exact h.l i hi⟩
section
variable (W:Wd w p n){x y:Nat}{a b:Nat->Nat}(hx:oh w n x a)(hy:oh w n y b)
include W hx hy
theorem oh.and:oh w n (x &&& y) (fun i=>a i &&& b i):=⟨by rw[hx.e,hy.e,DE W.pos hx.l hy.l],fun i hi=>Nat.and_lt_two_pow _ (hy.l i hi)⟩
theorem oh.or:oh w n (x ||| y) (fun i=>a i ||| b i):=⟨by rw[hx.e,hy.e,abT W.pos hx.l hy.l],fun i hi=>Nat.or_lt_two_pow (hx.l i hi) (hy.l i hi)⟩
theorem oh.xor:oh w n (x ^^^ y) (fun i=>a i ^^^ b i):=⟨by rw[hx.e,hy.e,A1 W.pos hx.l hy.l],fun i hi=>Nat.xor_lt_two_pow (hx.l i hi) (hy.l i hi)⟩
omit W in
theorem oh.asb(h: ∀ i,i<n->a i+b i<2 ^ w):oh w n (x+y) (fun i=>a i+b i):=⟨by rw[hx.e,hy.e,Ha],h⟩
theorem oh.add(h: ∀ i,i<n->a i+b i<2 ^ w):oh w n ((x+y) % cN) (fun i=>a i+b i):=by
 have k:=hx.asb hy h
 rw[Nat.mod_eq_of_lt (k.lt W)]
 exact k
theorem oh.sub(h: ∀ i,i<n->b i<=a i):oh w n ((x+cN - y) % cN) (fun i=>a i - b i):=by
 have k:oh w n (x - y) (fun i=>a i - b i):=⟨by rw[hx.e,hy.e,Ui n a b h],fun i hi=>Nat.lt_of_le_of_lt (Nat.sub_le _ _) (hx.l i hi)⟩
 have le:y<=x:=by
  have:=Ui (w:=w) n a b h
  have e:=Ha (w:=w) n (fun i=>a i - b i) b
  have e2:pk w n (fun i=>a i - b i+b i)=pk w n a:=cB fun i hi=>Nat.sub_add_cancel (h i hi)
  rw[hx.e,hy.e]
  omega
 have o5:=k.lt W
 rw[show x+cN - y=(x - y)+cN by omega,Nat.add_mod_right,Nat.mod_eq_of_lt o5]
 exact k
omit hy
theorem oh.mul(c:Nat)(h: ∀ i,i<n->a i*c<2 ^ w):oh w n (x*c % cN) (fun i=>a i*c):=by
 have k:oh w n (x*c) (fun i=>a i*c):=⟨by rw[hx.e,Zq],h⟩
 rw[Nat.mod_eq_of_lt (k.lt W)]
 exact k
theorem oh.not:oh w n (x ^^^ 18446744073709551615) (fun i=>2 ^ w - 1 - a i):=by
 have hm:=Nat.two_pow_pos w
 have k:oh w n 18446744073709551615 (fun _=>2 ^ w - 1):=⟨by rw[Nr,W.big];rfl,fun i _=>by omega⟩
 exact(hx.xor W k).congr fun i hi=>notM (hx.l i hi)
end
theorem oh.Ka(n:Nat){c:Nat}(h:c<2 ^ w):oh w n (pk w n fun _=>c) (fun _=>c):=⟨rfl,fun _ _=>h⟩
abbrev oE(p n:Nat):Nat:=pk (p+1) n fun _=>2 ^ p
abbrev rest(p n:Nat):Nat:=pk (p+1) n fun _=>2 ^ p - 1
theorem Tl(p n:Nat):oh (p+1) n (oE p n) (fun _=>2 ^ p):=.Ka n (by rw[p2];have:=Nat.two_pow_pos p;omega)
theorem Rl(p n:Nat):oh (p+1) n (rest p n) (fun _=>2 ^ p - 1):=.Ka n (by rw[p2];have:=Nat.two_pow_pos p;omega)
section
variable (W:Wd (p+1) p n){x y:Nat}{a b:Nat->Nat}(hx:oh (p+1) n x a)(hy:oh (p+1) n y b)
include W hx hy
theorem ajO:oh (p+1) n (((x &&& rest p n)+(y &&& rest p n)) % cN ^^^ ((x ^^^ y) &&& oE p n)) (fun i=>(a i+b i) % 2 ^ (p+1)):=by
 have hp:=Nat.two_pow_pos p
 refine((((hx.and W (Rl p n)).add W (hy.and W (Rl p n)) fun i _=>?_).xor W ((hx.xor W hy).and W (Tl p n)))).congr fun i hi=>ajK (hx.l i hi) (hy.l i hi)
 rw[JF,JF,p2]
 have h1:=Nat.mod_lt (a i) hp
 have h2:=Nat.mod_lt (b i) hp
 omega
theorem H_g:oh (p+1) n (((x ||| oE p n)+cN - (y &&& rest p n)) % cN) (fun i=>(a i ||| 2 ^ p) - (b i &&& (2 ^ p - 1))):=
 (hx.or W (Tl p n)).sub W (hy.and W (Rl p n)) fun i hi=>ajL (hx.l i hi)
theorem abW:oh (p+1) n ((((x ||| oE p n)+cN - (y &&& rest p n)) % cN) ^^^ (((x ^^^ y) &&& oE p n) ^^^ oE p n)) (fun i=>(a i+2 ^ (p+1) - b i) % 2 ^ (p+1)):=
 ((H_g W hx hy).xor W (((hx.xor W hy).and W (Tl p n)).xor W (Tl p n))).congr fun i hi=>ajM (hx.l i hi) (hy.l i hi)
omit hx hy in
theorem Ml:oh (p+1) n 18446744073709551615 (fun _=>2 ^ (p+1) - 1):=⟨by rw[Nr,W.big];rfl,fun i _=>by have:=Nat.two_pow_pos (p+1);omega⟩
theorem Zu:oh (p+1) n (((y &&& (x ^^^ 18446744073709551615)) ||| (((((x ||| oE p n)+cN - (y &&& rest p n)) % cN) ||| (x ^^^ y)) ^^^ 18446744073709551615)) &&& oE p n) (fun i=>if a i<b i then 2 ^ p else 0):=
 (((hy.and W (hx.xor W (Ml W))).or W (((H_g W hx hy).or W (hx.xor W hy)).xor W (Ml W))).and W (Tl p n)).congr fun i hi=>Zt (hx.l i hi) (hy.l i hi)
omit hy in
theorem DG:oh (p+1) n (((((x &&& rest p n)+rest p n) % cN) ||| x) &&& oE p n) (fun i=>if a i=0 then 0 else 2 ^ p):=by
 have hp:=Nat.two_pow_pos p
 refine((((hx.and W (Rl p n)).add W (Rl p n) fun i _=>?_).or W hx).and W (Tl p n)).congr fun i hi=>Um (hx.l i hi)
 rw[JF,p2]
 have h1:=Nat.mod_lt (a i) hp
 omega
omit hx hy in
theorem Uo{z:Nat}{c:Nat->Bool}(hz:oh (p+1) n z (fun i=>if c i then 2 ^ p else 0)):oh (p+1) n (z / 2 ^ (p % 64)*(2 ^ (p+1) - 1) % cN) (fun i=>if c i then 2 ^ (p+1) - 1 else 0):=by
 have hp:=Nat.two_pow_pos p
 have h64:p<64:=by
  have:=W.w2
  have h0:n≠0:=by intro h;rw[h]at this;cases this
  have:=Nat.le_mul_of_pos_right (p+1) (Nat.pos_of_ne_zero h0)
  omega
 have k:oh (p+1) n (z / 2 ^ p) (fun i=>if c i then 1 else 0):=by
  refine⟨?_,fun i _=>?_⟩
  ·rw[hz.e,show(pk (p+1) n fun i=>if c i then 2 ^ p else 0)=pk (p+1) n (fun i=>2 ^ p*(if c i then 1 else 0))from cB fun i _=>by cases c i<;>simp,Zr]
  ·rw[p2];cases c i<;>simp<;>omega
 rw[Nat.mod_eq_of_lt h64]
 refine(k.mul W (2 ^ (p+1) - 1) fun i _=>?_).congr fun i _=>?_
 ·have:=Nat.two_pow_pos (p+1)
  cases c i<;>simp<;>omega
 ·cases c i<;>simp
end
end Go.Proofs.Sw
