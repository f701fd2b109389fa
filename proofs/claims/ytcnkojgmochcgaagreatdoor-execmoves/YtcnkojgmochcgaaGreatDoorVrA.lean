import Derived.Test.YtcnkojgmochcgaaGreatDoorEnvQ
import Derived.Test.YtcnkojgmochcgaaGreatDoorLfK
import Derived.WalkKit
import Derived.Lib.Walk
import Derived.Lib.SliceRun
noncomputable section
namespace Go.Proofs
open Go.Ab Go.Ab.Lf Go.RowKit Go.Lib
set_option maxRecDepth 100000
theorem Tryz.dI[Io]{f:Nat}(hc: ∀ az w,(callFunc f az).run Tryz.prog w=.ok (.enter f az) w)(k0: ∀ (ad:Addr) (c:Nat) (w:World),Calls Tryz.prog f #[.slice (some ad) 0 c] w fun e w'=> ∃ a,e=.returned (.slice a 0 0)/\Below w.heap.size w w')
 (k1: ∀ (c:Nat) (w:World),Calls Tryz.prog f #[.slice none 0 c] w fun e w'=> ∃ a,e=.returned (.slice a 0 0)/\Below w.heap.size w w')(A:AV)(hA: ∀ g w v,VR g w A v-> ∃ a c,v=.slice a 0 c):bL Tryz.prog f [A] .cS:=by
 refine⟨hc,fun g w vs hi ht hv=>?_⟩
 simp only[bq]at hv
 obtain⟨v,l,rfl,hv,rfl⟩:=hv
 obtain⟨a,c,rfl⟩:=hA g w v hv
 have k:Calls Tryz.prog f #[.slice a 0 c] w fun e w'=> ∃ a,e=.returned (.slice a 0 0)/\Below w.heap.size w w':=by
  cases a with
  |none=>exact k1 c w
  |some a=>exact k0 a c w
 refine k.mono ?_
 rintro e w' ⟨a',rfl,B⟩
 refine⟨_,rfl,⟨B.os,B.tape,B.output,B.size,B.block⟩,?_⟩
 simp only[VR]
 exact⟨a',rfl⟩
theorem fJ[Io](g:G)(w:World)(v:Value)(h:VR g w .cS v): ∃ a c,v=.slice a 0 c:=by
 simp only[VR]at h
 obtain⟨a,rfl⟩:=h
 exact⟨a,0,rfl⟩
theorem fK[Io](g:G)(w:World)(v:Value)(h:VR g w (.fg 0 []) v): ∃ a c,v=.slice a 0 c:=by
 simp only[VR]at h
 obtain⟨a,c,rfl,_⟩:=h
 exact⟨a,c,rfl⟩
set_option maxHeartbeats 400000 in
theorem Tryz.Fk(ad:Addr)(c:Nat)(w:World):Calls Tryz.prog 67 #[.slice (some ad) 0 c] w fun e w'=> ∃ a,e=.returned (.slice a 0 0)/\Below w.heap.size w w':=by
 have u:=Tryz.underlying24
 have mixed:=Tryz.mixed
 have oF: ∀ (w:World) (a:Option Addr) (n c n2 c2:Nat),(binOp .eql 24 (.slice a n c) (.slice none n2 c2)).run Tryz.prog w=.ok (.bool a.isNone) w:=fun w a n c n2 c2=>Lib.run_eql_slice_nil w _ _ a n c n2 c2 u
 go_enter Tryz.func67,Tryz.ntmps67
 go_wp2
 go_ret
 exact⟨_,rfl,(Below.refl _ w).alloc (Nat.le_refl _) _⟩
set_option maxHeartbeats 400000 in
theorem Tryz.Fl(c:Nat)(w:World):Calls Tryz.prog 67 #[.slice none 0 c] w fun e w'=> ∃ a,e=.returned (.slice a 0 0)/\Below w.heap.size w w':=by
 have u:=Tryz.underlying24
 have mixed:=Tryz.mixed
 have oF: ∀ (w:World) (a:Option Addr) (n c n2 c2:Nat),(binOp .eql 24 (.slice a n c) (.slice none n2 c2)).run Tryz.prog w=.ok (.bool a.isNone) w:=fun w a n c n2 c2=>Lib.run_eql_slice_nil w _ _ a n c n2 c2 u
 go_enter Tryz.func67,Tryz.ntmps67
 go_wp2
 go_ret
 exact⟨_,rfl,Below.refl _ w⟩
theorem Tryz.Wk[Io]:bL Tryz.prog 67 [.cS] .cS:=Tryz.dI Tryz.call67 Tryz.Fk Tryz.Fl _ fJ
theorem Tryz.Wl[Io]:bL Tryz.prog 67 [.fg 0 []] .cS:=Tryz.dI Tryz.call67 Tryz.Fk Tryz.Fl _ fK
set_option maxHeartbeats 400000 in
theorem Tryz.Fm(ad:Addr)(c:Nat)(w:World):Calls Tryz.prog 69 #[.slice (some ad) 0 c] w fun e w'=> ∃ a,e=.returned (.slice a 0 0)/\Below w.heap.size w w':=by
 have u:=Tryz.underlying41
 have mixed:=Tryz.mixed
 have oF: ∀ (w:World) (a:Option Addr) (n c n2 c2:Nat),(binOp .eql 41 (.slice a n c) (.slice none n2 c2)).run Tryz.prog w=.ok (.bool a.isNone) w:=fun w a n c n2 c2=>Lib.run_eql_slice_nil w _ _ a n c n2 c2 u
 go_enter Tryz.func69,Tryz.ntmps69
 go_wp2
 go_ret
 exact⟨_,rfl,(Below.refl _ w).alloc (Nat.le_refl _) _⟩
set_option maxHeartbeats 400000 in
theorem Tryz.Fo(c:Nat)(w:World):Calls Tryz.prog 69 #[.slice none 0 c] w fun e w'=> ∃ a,e=.returned (.slice a 0 0)/\Below w.heap.size w w':=by
 have u:=Tryz.underlying41
 have mixed:=Tryz.mixed
 have oF: ∀ (w:World) (a:Option Addr) (n c n2 c2:Nat),(binOp .eql 41 (.slice a n c) (.slice none n2 c2)).run Tryz.prog w=.ok (.bool a.isNone) w:=fun w a n c n2 c2=>Lib.run_eql_slice_nil w _ _ a n c n2 c2 u
 go_enter Tryz.func69,Tryz.ntmps69
 go_wp2
 go_ret
 exact⟨_,rfl,Below.refl _ w⟩
theorem Tryz.Wm[Io]:bL Tryz.prog 69 [.cS] .cS:=Tryz.dI Tryz.call69 Tryz.Fm Tryz.Fo _ fJ
theorem Tryz.Wn[Io]:bL Tryz.prog 69 [.fg 0 []] .cS:=Tryz.dI Tryz.call69 Tryz.Fm Tryz.Fo _ fK
set_option maxHeartbeats 400000 in
theorem Tryz.Fp(ad:Addr)(c:Nat)(w:World):Calls Tryz.prog 70 #[.slice (some ad) 0 c] w fun e w'=> ∃ a,e=.returned (.slice a 0 0)/\Below w.heap.size w w':=by
 have u:=Tryz.underlying23
 have mixed:=Tryz.mixed
 have oF: ∀ (w:World) (a:Option Addr) (n c n2 c2:Nat),(binOp .eql 23 (.slice a n c) (.slice none n2 c2)).run Tryz.prog w=.ok (.bool a.isNone) w:=fun w a n c n2 c2=>Lib.run_eql_slice_nil w _ _ a n c n2 c2 u
 go_enter Tryz.func70,Tryz.ntmps70
 go_wp2
 go_ret
 exact⟨_,rfl,(Below.refl _ w).alloc (Nat.le_refl _) _⟩
set_option maxHeartbeats 400000 in
theorem Tryz.Fs(c:Nat)(w:World):Calls Tryz.prog 70 #[.slice none 0 c] w fun e w'=> ∃ a,e=.returned (.slice a 0 0)/\Below w.heap.size w w':=by
 have u:=Tryz.underlying23
 have mixed:=Tryz.mixed
 have oF: ∀ (w:World) (a:Option Addr) (n c n2 c2:Nat),(binOp .eql 23 (.slice a n c) (.slice none n2 c2)).run Tryz.prog w=.ok (.bool a.isNone) w:=fun w a n c n2 c2=>Lib.run_eql_slice_nil w _ _ a n c n2 c2 u
 go_enter Tryz.func70,Tryz.ntmps70
 go_wp2
 go_ret
 exact⟨_,rfl,Below.refl _ w⟩
theorem Tryz.Wo[Io]:bL Tryz.prog 70 [.cS] .cS:=Tryz.dI Tryz.call70 Tryz.Fp Tryz.Fs _ fJ
theorem Tryz.Wp[Io]:bL Tryz.prog 70 [.fg 0 []] .cS:=Tryz.dI Tryz.call70 Tryz.Fp Tryz.Fs _ fK
set_option maxHeartbeats 400000 in
theorem Tryz.Ft(ad:Addr)(c:Nat)(w:World):Calls Tryz.prog 71 #[.slice (some ad) 0 c] w fun e w'=> ∃ a,e=.returned (.slice a 0 0)/\Below w.heap.size w w':=by
 have u:=Tryz.underlying42
 have mixed:=Tryz.mixed
 have oF: ∀ (w:World) (a:Option Addr) (n c n2 c2:Nat),(binOp .eql 42 (.slice a n c) (.slice none n2 c2)).run Tryz.prog w=.ok (.bool a.isNone) w:=fun w a n c n2 c2=>Lib.run_eql_slice_nil w _ _ a n c n2 c2 u
 go_enter Tryz.func71,Tryz.ntmps71
 go_wp2
 go_ret
 exact⟨_,rfl,(Below.refl _ w).alloc (Nat.le_refl _) _⟩
set_option maxHeartbeats 400000 in
theorem Tryz.Fu(c:Nat)(w:World):Calls Tryz.prog 71 #[.slice none 0 c] w fun e w'=> ∃ a,e=.returned (.slice a 0 0)/\Below w.heap.size w w':=by
 have u:=Tryz.underlying42
 have mixed:=Tryz.mixed
 have oF: ∀ (w:World) (a:Option Addr) (n c n2 c2:Nat),(binOp .eql 42 (.slice a n c) (.slice none n2 c2)).run Tryz.prog w=.ok (.bool a.isNone) w:=fun w a n c n2 c2=>Lib.run_eql_slice_nil w _ _ a n c n2 c2 u
 go_enter Tryz.func71,Tryz.ntmps71
 go_wp2
 go_ret
 exact⟨_,rfl,Below.refl _ w⟩
theorem Tryz.Wq[Io]:bL Tryz.prog 71 [.cS] .cS:=Tryz.dI Tryz.call71 Tryz.Ft Tryz.Fu _ fJ
theorem Tryz.Wr[Io]:bL Tryz.prog 71 [.fg 0 []] .cS:=Tryz.dI Tryz.call71 Tryz.Ft Tryz.Fu _ fK
set_option maxHeartbeats 400000 in
theorem Tryz.Fv(ad:Addr)(c:Nat)(w:World):Calls Tryz.prog 72 #[.slice (some ad) 0 c] w fun e w'=> ∃ a,e=.returned (.slice a 0 0)/\Below w.heap.size w w':=by
 have u:=Tryz.underlying28
 have mixed:=Tryz.mixed
 have oF: ∀ (w:World) (a:Option Addr) (n c n2 c2:Nat),(binOp .eql 28 (.slice a n c) (.slice none n2 c2)).run Tryz.prog w=.ok (.bool a.isNone) w:=fun w a n c n2 c2=>Lib.run_eql_slice_nil w _ _ a n c n2 c2 u
 go_enter Tryz.func72,Tryz.ntmps72
 go_wp2
 go_ret
 exact⟨_,rfl,(Below.refl _ w).alloc (Nat.le_refl _) _⟩
set_option maxHeartbeats 400000 in
theorem Tryz.Fw(c:Nat)(w:World):Calls Tryz.prog 72 #[.slice none 0 c] w fun e w'=> ∃ a,e=.returned (.slice a 0 0)/\Below w.heap.size w w':=by
 have u:=Tryz.underlying28
 have mixed:=Tryz.mixed
 have oF: ∀ (w:World) (a:Option Addr) (n c n2 c2:Nat),(binOp .eql 28 (.slice a n c) (.slice none n2 c2)).run Tryz.prog w=.ok (.bool a.isNone) w:=fun w a n c n2 c2=>Lib.run_eql_slice_nil w _ _ a n c n2 c2 u
 go_enter Tryz.func72,Tryz.ntmps72
 go_wp2
 go_ret
 exact⟨_,rfl,Below.refl _ w⟩
theorem Tryz.Ws[Io]:bL Tryz.prog 72 [.cS] .cS:=Tryz.dI Tryz.call72 Tryz.Fv Tryz.Fw _ fJ
theorem Tryz.Wt[Io]:bL Tryz.prog 72 [.fg 0 []] .cS:=Tryz.dI Tryz.call72 Tryz.Fv Tryz.Fw _ fK
set_option maxHeartbeats 400000 in
theorem Tryz.Ac(ad:Addr)(c:Nat)(w:World):Calls Tryz.prog 116 #[.slice (some ad) 0 c] w fun e w'=> ∃ a,e=.returned (.slice a 0 0)/\Below w.heap.size w w':=by
 have u:=Tryz.underlying50
 have mixed:=Tryz.mixed
 have oF: ∀ (w:World) (a:Option Addr) (n c n2 c2:Nat),(binOp .eql 50 (.slice a n c) (.slice none n2 c2)).run Tryz.prog w=.ok (.bool a.isNone) w:=fun w a n c n2 c2=>Lib.run_eql_slice_nil w _ _ a n c n2 c2 u
 go_enter Tryz.func116,Tryz.ntmps116
 go_wp2
 go_ret
 exact⟨_,rfl,(Below.refl _ w).alloc (Nat.le_refl _) _⟩
set_option maxHeartbeats 400000 in
theorem Tryz.Ad(c:Nat)(w:World):Calls Tryz.prog 116 #[.slice none 0 c] w fun e w'=> ∃ a,e=.returned (.slice a 0 0)/\Below w.heap.size w w':=by
 have u:=Tryz.underlying50
 have mixed:=Tryz.mixed
 have oF: ∀ (w:World) (a:Option Addr) (n c n2 c2:Nat),(binOp .eql 50 (.slice a n c) (.slice none n2 c2)).run Tryz.prog w=.ok (.bool a.isNone) w:=fun w a n c n2 c2=>Lib.run_eql_slice_nil w _ _ a n c n2 c2 u
 go_enter Tryz.func116,Tryz.ntmps116
 go_wp2
 go_ret
 exact⟨_,rfl,Below.refl _ w⟩
theorem Tryz.O4[Io]:bL Tryz.prog 116 [.cS] .cS:=Tryz.dI Tryz.call116 Tryz.Ac Tryz.Ad _ fJ
theorem Tryz.O5[Io]:bL Tryz.prog 116 [.fg 0 []] .cS:=Tryz.dI Tryz.call116 Tryz.Ac Tryz.Ad _ fK
set_option maxHeartbeats 400000 in
theorem Tryz.Ae(ad:Addr)(c:Nat)(w:World):Calls Tryz.prog 117 #[.slice (some ad) 0 c] w fun e w'=> ∃ a,e=.returned (.slice a 0 0)/\Below w.heap.size w w':=by
 have u:=Tryz.underlying51
 have mixed:=Tryz.mixed
 have oF: ∀ (w:World) (a:Option Addr) (n c n2 c2:Nat),(binOp .eql 51 (.slice a n c) (.slice none n2 c2)).run Tryz.prog w=.ok (.bool a.isNone) w:=fun w a n c n2 c2=>Lib.run_eql_slice_nil w _ _ a n c n2 c2 u
 go_enter Tryz.func117,Tryz.ntmps117
 go_wp2
 go_ret
 exact⟨_,rfl,(Below.refl _ w).alloc (Nat.le_refl _) _⟩
set_option maxHeartbeats 400000 in
theorem Tryz.Af(c:Nat)(w:World):Calls Tryz.prog 117 #[.slice none 0 c] w fun e w'=> ∃ a,e=.returned (.slice a 0 0)/\Below w.heap.size w w':=by
 have u:=Tryz.underlying51
 have mixed:=Tryz.mixed
 have oF: ∀ (w:World) (a:Option Addr) (n c n2 c2:Nat),(binOp .eql 51 (.slice a n c) (.slice none n2 c2)).run Tryz.prog w=.ok (.bool a.isNone) w:=fun w a n c n2 c2=>Lib.run_eql_slice_nil w _ _ a n c n2 c2 u
 go_enter Tryz.func117,Tryz.ntmps117
 go_wp2
 go_ret
 exact⟨_,rfl,Below.refl _ w⟩
theorem Tryz.O6[Io]:bL Tryz.prog 117 [.cS] .cS:=Tryz.dI Tryz.call117 Tryz.Ae Tryz.Af _ fJ
theorem Tryz.O7[Io]:bL Tryz.prog 117 [.fg 0 []] .cS:=Tryz.dI Tryz.call117 Tryz.Ae Tryz.Af _ fK
set_option maxHeartbeats 400000 in
theorem Tryz.Ag(ad:Addr)(c:Nat)(w:World):Calls Tryz.prog 118 #[.slice (some ad) 0 c] w fun e w'=> ∃ a,e=.returned (.slice a 0 0)/\Below w.heap.size w w':=by
 have u:=Tryz.underlying52
 have mixed:=Tryz.mixed
 have oF: ∀ (w:World) (a:Option Addr) (n c n2 c2:Nat),(binOp .eql 52 (.slice a n c) (.slice none n2 c2)).run Tryz.prog w=.ok (.bool a.isNone) w:=fun w a n c n2 c2=>Lib.run_eql_slice_nil w _ _ a n c n2 c2 u
 go_enter Tryz.func118,Tryz.ntmps118
 go_wp2
 go_ret
 exact⟨_,rfl,(Below.refl _ w).alloc (Nat.le_refl _) _⟩
set_option maxHeartbeats 400000 in
theorem Tryz.Ah(c:Nat)(w:World):Calls Tryz.prog 118 #[.slice none 0 c] w fun e w'=> ∃ a,e=.returned (.slice a 0 0)/\Below w.heap.size w w':=by
 have u:=Tryz.underlying52
 have mixed:=Tryz.mixed
 have oF: ∀ (w:World) (a:Option Addr) (n c n2 c2:Nat),(binOp .eql 52 (.slice a n c) (.slice none n2 c2)).run Tryz.prog w=.ok (.bool a.isNone) w:=fun w a n c n2 c2=>Lib.run_eql_slice_nil w _ _ a n c n2 c2 u
 go_enter Tryz.func118,Tryz.ntmps118
 go_wp2
 go_ret
 exact⟨_,rfl,Below.refl _ w⟩
theorem Tryz.O8[Io]:bL Tryz.prog 118 [.cS] .cS:=Tryz.dI Tryz.call118 Tryz.Ag Tryz.Ah _ fJ
theorem Tryz.O9[Io]:bL Tryz.prog 118 [.fg 0 []] .cS:=Tryz.dI Tryz.call118 Tryz.Ag Tryz.Ah _ fK
set_option maxHeartbeats 400000 in
theorem Tryz.Ai(ad:Addr)(c:Nat)(w:World):Calls Tryz.prog 120 #[.slice (some ad) 0 c] w fun e w'=> ∃ a,e=.returned (.slice a 0 0)/\Below w.heap.size w w':=by
 have u:=Tryz.underlying53
 have mixed:=Tryz.mixed
 have oF: ∀ (w:World) (a:Option Addr) (n c n2 c2:Nat),(binOp .eql 53 (.slice a n c) (.slice none n2 c2)).run Tryz.prog w=.ok (.bool a.isNone) w:=fun w a n c n2 c2=>Lib.run_eql_slice_nil w _ _ a n c n2 c2 u
 go_enter Tryz.func120,Tryz.ntmps120
 go_wp2
 go_ret
 exact⟨_,rfl,(Below.refl _ w).alloc (Nat.le_refl _) _⟩
set_option maxHeartbeats 400000 in
theorem Tryz.Aj(c:Nat)(w:World):Calls Tryz.prog 120 #[.slice none 0 c] w fun e w'=> ∃ a,e=.returned (.slice a 0 0)/\Below w.heap.size w w':=by
 have u:=Tryz.underlying53
 have mixed:=Tryz.mixed
 have oF: ∀ (w:World) (a:Option Addr) (n c n2 c2:Nat),(binOp .eql 53 (.slice a n c) (.slice none n2 c2)).run Tryz.prog w=.ok (.bool a.isNone) w:=fun w a n c n2 c2=>Lib.run_eql_slice_nil w _ _ a n c n2 c2 u
 go_enter Tryz.func120,Tryz.ntmps120
 go_wp2
 go_ret
 exact⟨_,rfl,Below.refl _ w⟩
theorem Tryz.O'[Io]:bL Tryz.prog 120 [.cS] .cS:=Tryz.dI Tryz.call120 Tryz.Ai Tryz.Aj _ fJ
theorem Tryz.Pa[Io]:bL Tryz.prog 120 [.fg 0 []] .cS:=Tryz.dI Tryz.call120 Tryz.Ai Tryz.Aj _ fK
set_option maxHeartbeats 400000 in
theorem Tryz.Ak(ad:Addr)(c:Nat)(w:World):Calls Tryz.prog 121 #[.slice (some ad) 0 c] w fun e w'=> ∃ a,e=.returned (.slice a 0 0)/\Below w.heap.size w w':=by
 have u:=Tryz.underlying54
 have mixed:=Tryz.mixed
 have oF: ∀ (w:World) (a:Option Addr) (n c n2 c2:Nat),(binOp .eql 54 (.slice a n c) (.slice none n2 c2)).run Tryz.prog w=.ok (.bool a.isNone) w:=fun w a n c n2 c2=>Lib.run_eql_slice_nil w _ _ a n c n2 c2 u
 go_enter Tryz.func121,Tryz.ntmps121
 go_wp2
 go_ret
 exact⟨_,rfl,(Below.refl _ w).alloc (Nat.le_refl _) _⟩
set_option maxHeartbeats 400000 in
theorem Tryz.Al(c:Nat)(w:World):Calls Tryz.prog 121 #[.slice none 0 c] w fun e w'=> ∃ a,e=.returned (.slice a 0 0)/\Below w.heap.size w w':=by
 have u:=Tryz.underlying54
 have mixed:=Tryz.mixed
 have oF: ∀ (w:World) (a:Option Addr) (n c n2 c2:Nat),(binOp .eql 54 (.slice a n c) (.slice none n2 c2)).run Tryz.prog w=.ok (.bool a.isNone) w:=fun w a n c n2 c2=>Lib.run_eql_slice_nil w _ _ a n c n2 c2 u
 go_enter Tryz.func121,Tryz.ntmps121
 go_wp2
 go_ret
 exact⟨_,rfl,Below.refl _ w⟩
theorem Tryz.Pb[Io]:bL Tryz.prog 121 [.cS] .cS:=Tryz.dI Tryz.call121 Tryz.Ak Tryz.Al _ fJ
theorem Tryz.Pc[Io]:bL Tryz.prog 121 [.fg 0 []] .cS:=Tryz.dI Tryz.call121 Tryz.Ak Tryz.Al _ fK
set_option maxHeartbeats 400000 in
theorem Tryz.Am(ad:Addr)(c:Nat)(w:World):Calls Tryz.prog 122 #[.slice (some ad) 0 c] w fun e w'=> ∃ a,e=.returned (.slice a 0 0)/\Below w.heap.size w w':=by
 have u:=Tryz.underlying55
 have mixed:=Tryz.mixed
 have oF: ∀ (w:World) (a:Option Addr) (n c n2 c2:Nat),(binOp .eql 55 (.slice a n c) (.slice none n2 c2)).run Tryz.prog w=.ok (.bool a.isNone) w:=fun w a n c n2 c2=>Lib.run_eql_slice_nil w _ _ a n c n2 c2 u
 go_enter Tryz.func122,Tryz.ntmps122
 go_wp2
 go_ret
 exact⟨_,rfl,(Below.refl _ w).alloc (Nat.le_refl _) _⟩
set_option maxHeartbeats 400000 in
theorem Tryz.Ao(c:Nat)(w:World):Calls Tryz.prog 122 #[.slice none 0 c] w fun e w'=> ∃ a,e=.returned (.slice a 0 0)/\Below w.heap.size w w':=by
 have u:=Tryz.underlying55
 have mixed:=Tryz.mixed
 have oF: ∀ (w:World) (a:Option Addr) (n c n2 c2:Nat),(binOp .eql 55 (.slice a n c) (.slice none n2 c2)).run Tryz.prog w=.ok (.bool a.isNone) w:=fun w a n c n2 c2=>Lib.run_eql_slice_nil w _ _ a n c n2 c2 u
 go_enter Tryz.func122,Tryz.ntmps122
 go_wp2
 go_ret
 exact⟨_,rfl,Below.refl _ w⟩
theorem Tryz.Pd[Io]:bL Tryz.prog 122 [.cS] .cS:=Tryz.dI Tryz.call122 Tryz.Am Tryz.Ao _ fJ
theorem Tryz.Pe[Io]:bL Tryz.prog 122 [.fg 0 []] .cS:=Tryz.dI Tryz.call122 Tryz.Am Tryz.Ao _ fK
set_option maxHeartbeats 400000 in
theorem Tryz.Ap(ad:Addr)(c:Nat)(w:World):Calls Tryz.prog 123 #[.slice (some ad) 0 c] w fun e w'=> ∃ a,e=.returned (.slice a 0 0)/\Below w.heap.size w w':=by
 have u:=Tryz.underlying56
 have mixed:=Tryz.mixed
 have oF: ∀ (w:World) (a:Option Addr) (n c n2 c2:Nat),(binOp .eql 56 (.slice a n c) (.slice none n2 c2)).run Tryz.prog w=.ok (.bool a.isNone) w:=fun w a n c n2 c2=>Lib.run_eql_slice_nil w _ _ a n c n2 c2 u
 go_enter Tryz.func123,Tryz.ntmps123
 go_wp2
 go_ret
 exact⟨_,rfl,(Below.refl _ w).alloc (Nat.le_refl _) _⟩
set_option maxHeartbeats 400000 in
theorem Tryz.Aq(c:Nat)(w:World):Calls Tryz.prog 123 #[.slice none 0 c] w fun e w'=> ∃ a,e=.returned (.slice a 0 0)/\Below w.heap.size w w':=by
 have u:=Tryz.underlying56
 have mixed:=Tryz.mixed
 have oF: ∀ (w:World) (a:Option Addr) (n c n2 c2:Nat),(binOp .eql 56 (.slice a n c) (.slice none n2 c2)).run Tryz.prog w=.ok (.bool a.isNone) w:=fun w a n c n2 c2=>Lib.run_eql_slice_nil w _ _ a n c n2 c2 u
 go_enter Tryz.func123,Tryz.ntmps123
 go_wp2
 go_ret
 exact⟨_,rfl,Below.refl _ w⟩
theorem Tryz.Pf[Io]:bL Tryz.prog 123 [.cS] .cS:=Tryz.dI Tryz.call123 Tryz.Ap Tryz.Aq _ fJ
theorem Tryz.Pg[Io]:bL Tryz.prog 123 [.fg 0 []] .cS:=Tryz.dI Tryz.call123 Tryz.Ap Tryz.Aq _ fK
set_option maxHeartbeats 400000 in
theorem Tryz.Ar(ad:Addr)(c:Nat)(w:World):Calls Tryz.prog 124 #[.slice (some ad) 0 c] w fun e w'=> ∃ a,e=.returned (.slice a 0 0)/\Below w.heap.size w w':=by
 have u:=Tryz.underlying146
 have mixed:=Tryz.mixed
 have oF: ∀ (w:World) (a:Option Addr) (n c n2 c2:Nat),(binOp .eql 146 (.slice a n c) (.slice none n2 c2)).run Tryz.prog w=.ok (.bool a.isNone) w:=fun w a n c n2 c2=>Lib.run_eql_slice_nil w _ _ a n c n2 c2 u
 go_enter Tryz.func124,Tryz.ntmps124
 go_wp2
 go_ret
 exact⟨_,rfl,(Below.refl _ w).alloc (Nat.le_refl _) _⟩
set_option maxHeartbeats 400000 in
theorem Tryz.As(c:Nat)(w:World):Calls Tryz.prog 124 #[.slice none 0 c] w fun e w'=> ∃ a,e=.returned (.slice a 0 0)/\Below w.heap.size w w':=by
 have u:=Tryz.underlying146
 have mixed:=Tryz.mixed
 have oF: ∀ (w:World) (a:Option Addr) (n c n2 c2:Nat),(binOp .eql 146 (.slice a n c) (.slice none n2 c2)).run Tryz.prog w=.ok (.bool a.isNone) w:=fun w a n c n2 c2=>Lib.run_eql_slice_nil w _ _ a n c n2 c2 u
 go_enter Tryz.func124,Tryz.ntmps124
 go_wp2
 go_ret
 exact⟨_,rfl,Below.refl _ w⟩
theorem Tryz.Ph[Io]:bL Tryz.prog 124 [.cS] .cS:=Tryz.dI Tryz.call124 Tryz.Ar Tryz.As _ fJ
theorem Tryz.Pj[Io]:bL Tryz.prog 124 [.fg 0 []] .cS:=Tryz.dI Tryz.call124 Tryz.Ar Tryz.As _ fK
set_option maxHeartbeats 400000 in
theorem Tryz.At(ad:Addr)(c:Nat)(w:World):Calls Tryz.prog 221 #[.slice (some ad) 0 c] w fun e w'=> ∃ a,e=.returned (.slice a 0 0)/\Below w.heap.size w w':=by
 have u:=Tryz.underlying126
 have mixed:=Tryz.mixed
 have oF: ∀ (w:World) (a:Option Addr) (n c n2 c2:Nat),(binOp .eql 126 (.slice a n c) (.slice none n2 c2)).run Tryz.prog w=.ok (.bool a.isNone) w:=fun w a n c n2 c2=>Lib.run_eql_slice_nil w _ _ a n c n2 c2 u
 go_enter Tryz.func221,Tryz.ntmps221
 go_wp2
 go_ret
 exact⟨_,rfl,(Below.refl _ w).alloc (Nat.le_refl _) _⟩
set_option maxHeartbeats 400000 in
theorem Tryz.Au(c:Nat)(w:World):Calls Tryz.prog 221 #[.slice none 0 c] w fun e w'=> ∃ a,e=.returned (.slice a 0 0)/\Below w.heap.size w w':=by
 have u:=Tryz.underlying126
 have mixed:=Tryz.mixed
 have oF: ∀ (w:World) (a:Option Addr) (n c n2 c2:Nat),(binOp .eql 126 (.slice a n c) (.slice none n2 c2)).run Tryz.prog w=.ok (.bool a.isNone) w:=fun w a n c n2 c2=>Lib.run_eql_slice_nil w _ _ a n c n2 c2 u
 go_enter Tryz.func221,Tryz.ntmps221
 go_wp2
 go_ret
 exact⟨_,rfl,Below.refl _ w⟩
theorem Tryz.Pk[Io]:bL Tryz.prog 221 [.cS] .cS:=Tryz.dI Tryz.call221 Tryz.At Tryz.Au _ fJ
theorem Tryz.Pm[Io]:bL Tryz.prog 221 [.fg 0 []] .cS:=Tryz.dI Tryz.call221 Tryz.At Tryz.Au _ fK
end Go.Proofs
