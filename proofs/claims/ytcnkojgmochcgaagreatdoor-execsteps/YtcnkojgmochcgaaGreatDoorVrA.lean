import Derived.Test.YtcnkojgmochcgaaGreatDoorEnvQ
import Derived.Test.YtcnkojgmochcgaaGreatDoorLfK
import Derived.WalkKit
import Derived.Lib.Walk
import Derived.Lib.SliceRun
noncomputable section
namespace Go.Proofs
open Go.Ab Go.Ab.Lf Go.RowKit Go.Lib
set_option maxRecDepth 100000
theorem Tryz.dI[Io]{f:Nat}(hc: ∀ az w,(callFunc f az).run Tryz.prog w=.ok (.enter f az) w)(k0: ∀ (ad:Addr) (c:Nat) (w:World),Calls Tryz.prog f #[.slice (some ad) 0 c] w fun e w'=> ∃ a,e=.returned (.slice a 0 0)/\Below w.heap.size w w')
 (k1: ∀ (c:Nat) (w:World),Calls Tryz.prog f #[.slice none 0 c] w fun e w'=> ∃ a,e=.returned (.slice a 0 0)/\Below w.heap.size w w')(A:AV)(hA: ∀ g w v,VR g w A v-> ∃ a c,v=.slice a 0 c):bQ Tryz.prog f [A] .cW:=by
 refine⟨hc,fun g w vs hi ht hv=>?_⟩
 simp only[bA]at hv
 obtain⟨v,l,rfl,hv,rfl⟩:=hv
 obtain⟨a,c,rfl⟩:=hA g w v hv
 have k:Calls Tryz.prog f #[.slice a 0 c] w fun e w'=> ∃ a,e=.returned (.slice a 0 0)/\Below w.heap.size w w':=by
  cases a with
  |none=>exact k1 c w
  |some a=>exact k0 a c w
 refine k.mono ?_
 rintro e w' ⟨a',rfl,B⟩
 refine⟨_,rfl,⟨B.os,B.tape,B.output,B.size,B.block⟩,?_⟩
 simp only[VR]
 exact⟨a',rfl⟩
theorem fK[Io](g:G)(w:World)(v:Value)(h:VR g w .cW v): ∃ a c,v=.slice a 0 c:=by
 simp only[VR]at h
 obtain⟨a,rfl⟩:=h
 exact⟨a,0,rfl⟩
theorem fL[Io](g:G)(w:World)(v:Value)(h:VR g w (.fc 0 []) v): ∃ a c,v=.slice a 0 c:=by
 simp only[VR]at h
 obtain⟨a,c,rfl,_⟩:=h
 exact⟨a,c,rfl⟩
set_option maxHeartbeats 400000 in
theorem Tryz.Fx(ad:Addr)(c:Nat)(w:World):Calls Tryz.prog 67 #[.slice (some ad) 0 c] w fun e w'=> ∃ a,e=.returned (.slice a 0 0)/\Below w.heap.size w w':=by
 have u:=Tryz.underlying24
 have mixed:=Tryz.mixed
 have oE: ∀ (w:World) (a:Option Addr) (n c n2 c2:Nat),(binOp .eql 24 (.slice a n c) (.slice none n2 c2)).run Tryz.prog w=.ok (.bool a.isNone) w:=fun w a n c n2 c2=>Lib.run_eql_slice_nil w _ _ a n c n2 c2 u
 go_enter Tryz.func67,Tryz.ntmps67
 go_wp2
 go_ret
 exact⟨_,rfl,(Below.refl _ w).alloc (Nat.le_refl _) _⟩
set_option maxHeartbeats 400000 in
theorem Tryz.Fy(c:Nat)(w:World):Calls Tryz.prog 67 #[.slice none 0 c] w fun e w'=> ∃ a,e=.returned (.slice a 0 0)/\Below w.heap.size w w':=by
 have u:=Tryz.underlying24
 have mixed:=Tryz.mixed
 have oE: ∀ (w:World) (a:Option Addr) (n c n2 c2:Nat),(binOp .eql 24 (.slice a n c) (.slice none n2 c2)).run Tryz.prog w=.ok (.bool a.isNone) w:=fun w a n c n2 c2=>Lib.run_eql_slice_nil w _ _ a n c n2 c2 u
 go_enter Tryz.func67,Tryz.ntmps67
 go_wp2
 go_ret
 exact⟨_,rfl,Below.refl _ w⟩
theorem Tryz.V5[Io]:bQ Tryz.prog 67 [.cW] .cW:=Tryz.dI Tryz.call67 Tryz.Fx Tryz.Fy _ fK
theorem Tryz.V6[Io]:bQ Tryz.prog 67 [.fc 0 []] .cW:=Tryz.dI Tryz.call67 Tryz.Fx Tryz.Fy _ fL
set_option maxHeartbeats 400000 in
theorem Tryz.FA(ad:Addr)(c:Nat)(w:World):Calls Tryz.prog 69 #[.slice (some ad) 0 c] w fun e w'=> ∃ a,e=.returned (.slice a 0 0)/\Below w.heap.size w w':=by
 have u:=Tryz.underlying41
 have mixed:=Tryz.mixed
 have oE: ∀ (w:World) (a:Option Addr) (n c n2 c2:Nat),(binOp .eql 41 (.slice a n c) (.slice none n2 c2)).run Tryz.prog w=.ok (.bool a.isNone) w:=fun w a n c n2 c2=>Lib.run_eql_slice_nil w _ _ a n c n2 c2 u
 go_enter Tryz.func69,Tryz.ntmps69
 go_wp2
 go_ret
 exact⟨_,rfl,(Below.refl _ w).alloc (Nat.le_refl _) _⟩
set_option maxHeartbeats 400000 in
theorem Tryz.FB(c:Nat)(w:World):Calls Tryz.prog 69 #[.slice none 0 c] w fun e w'=> ∃ a,e=.returned (.slice a 0 0)/\Below w.heap.size w w':=by
 have u:=Tryz.underlying41
 have mixed:=Tryz.mixed
 have oE: ∀ (w:World) (a:Option Addr) (n c n2 c2:Nat),(binOp .eql 41 (.slice a n c) (.slice none n2 c2)).run Tryz.prog w=.ok (.bool a.isNone) w:=fun w a n c n2 c2=>Lib.run_eql_slice_nil w _ _ a n c n2 c2 u
 go_enter Tryz.func69,Tryz.ntmps69
 go_wp2
 go_ret
 exact⟨_,rfl,Below.refl _ w⟩
theorem Tryz.V7[Io]:bQ Tryz.prog 69 [.cW] .cW:=Tryz.dI Tryz.call69 Tryz.FA Tryz.FB _ fK
theorem Tryz.V8[Io]:bQ Tryz.prog 69 [.fc 0 []] .cW:=Tryz.dI Tryz.call69 Tryz.FA Tryz.FB _ fL
set_option maxHeartbeats 400000 in
theorem Tryz.FC(ad:Addr)(c:Nat)(w:World):Calls Tryz.prog 70 #[.slice (some ad) 0 c] w fun e w'=> ∃ a,e=.returned (.slice a 0 0)/\Below w.heap.size w w':=by
 have u:=Tryz.underlying23
 have mixed:=Tryz.mixed
 have oE: ∀ (w:World) (a:Option Addr) (n c n2 c2:Nat),(binOp .eql 23 (.slice a n c) (.slice none n2 c2)).run Tryz.prog w=.ok (.bool a.isNone) w:=fun w a n c n2 c2=>Lib.run_eql_slice_nil w _ _ a n c n2 c2 u
 go_enter Tryz.func70,Tryz.ntmps70
 go_wp2
 go_ret
 exact⟨_,rfl,(Below.refl _ w).alloc (Nat.le_refl _) _⟩
set_option maxHeartbeats 400000 in
theorem Tryz.FD(c:Nat)(w:World):Calls Tryz.prog 70 #[.slice none 0 c] w fun e w'=> ∃ a,e=.returned (.slice a 0 0)/\Below w.heap.size w w':=by
 have u:=Tryz.underlying23
 have mixed:=Tryz.mixed
 have oE: ∀ (w:World) (a:Option Addr) (n c n2 c2:Nat),(binOp .eql 23 (.slice a n c) (.slice none n2 c2)).run Tryz.prog w=.ok (.bool a.isNone) w:=fun w a n c n2 c2=>Lib.run_eql_slice_nil w _ _ a n c n2 c2 u
 go_enter Tryz.func70,Tryz.ntmps70
 go_wp2
 go_ret
 exact⟨_,rfl,Below.refl _ w⟩
theorem Tryz.V9[Io]:bQ Tryz.prog 70 [.cW] .cW:=Tryz.dI Tryz.call70 Tryz.FC Tryz.FD _ fK
theorem Tryz.V'[Io]:bQ Tryz.prog 70 [.fc 0 []] .cW:=Tryz.dI Tryz.call70 Tryz.FC Tryz.FD _ fL
set_option maxHeartbeats 400000 in
theorem Tryz.FF(ad:Addr)(c:Nat)(w:World):Calls Tryz.prog 71 #[.slice (some ad) 0 c] w fun e w'=> ∃ a,e=.returned (.slice a 0 0)/\Below w.heap.size w w':=by
 have u:=Tryz.underlying42
 have mixed:=Tryz.mixed
 have oE: ∀ (w:World) (a:Option Addr) (n c n2 c2:Nat),(binOp .eql 42 (.slice a n c) (.slice none n2 c2)).run Tryz.prog w=.ok (.bool a.isNone) w:=fun w a n c n2 c2=>Lib.run_eql_slice_nil w _ _ a n c n2 c2 u
 go_enter Tryz.func71,Tryz.ntmps71
 go_wp2
 go_ret
 exact⟨_,rfl,(Below.refl _ w).alloc (Nat.le_refl _) _⟩
set_option maxHeartbeats 400000 in
theorem Tryz.FG(c:Nat)(w:World):Calls Tryz.prog 71 #[.slice none 0 c] w fun e w'=> ∃ a,e=.returned (.slice a 0 0)/\Below w.heap.size w w':=by
 have u:=Tryz.underlying42
 have mixed:=Tryz.mixed
 have oE: ∀ (w:World) (a:Option Addr) (n c n2 c2:Nat),(binOp .eql 42 (.slice a n c) (.slice none n2 c2)).run Tryz.prog w=.ok (.bool a.isNone) w:=fun w a n c n2 c2=>Lib.run_eql_slice_nil w _ _ a n c n2 c2 u
 go_enter Tryz.func71,Tryz.ntmps71
 go_wp2
 go_ret
 exact⟨_,rfl,Below.refl _ w⟩
theorem Tryz.Wa[Io]:bQ Tryz.prog 71 [.cW] .cW:=Tryz.dI Tryz.call71 Tryz.FF Tryz.FG _ fK
theorem Tryz.Wb[Io]:bQ Tryz.prog 71 [.fc 0 []] .cW:=Tryz.dI Tryz.call71 Tryz.FF Tryz.FG _ fL
set_option maxHeartbeats 400000 in
theorem Tryz.FH(ad:Addr)(c:Nat)(w:World):Calls Tryz.prog 72 #[.slice (some ad) 0 c] w fun e w'=> ∃ a,e=.returned (.slice a 0 0)/\Below w.heap.size w w':=by
 have u:=Tryz.underlying28
 have mixed:=Tryz.mixed
 have oE: ∀ (w:World) (a:Option Addr) (n c n2 c2:Nat),(binOp .eql 28 (.slice a n c) (.slice none n2 c2)).run Tryz.prog w=.ok (.bool a.isNone) w:=fun w a n c n2 c2=>Lib.run_eql_slice_nil w _ _ a n c n2 c2 u
 go_enter Tryz.func72,Tryz.ntmps72
 go_wp2
 go_ret
 exact⟨_,rfl,(Below.refl _ w).alloc (Nat.le_refl _) _⟩
set_option maxHeartbeats 400000 in
theorem Tryz.FI(c:Nat)(w:World):Calls Tryz.prog 72 #[.slice none 0 c] w fun e w'=> ∃ a,e=.returned (.slice a 0 0)/\Below w.heap.size w w':=by
 have u:=Tryz.underlying28
 have mixed:=Tryz.mixed
 have oE: ∀ (w:World) (a:Option Addr) (n c n2 c2:Nat),(binOp .eql 28 (.slice a n c) (.slice none n2 c2)).run Tryz.prog w=.ok (.bool a.isNone) w:=fun w a n c n2 c2=>Lib.run_eql_slice_nil w _ _ a n c n2 c2 u
 go_enter Tryz.func72,Tryz.ntmps72
 go_wp2
 go_ret
 exact⟨_,rfl,Below.refl _ w⟩
theorem Tryz.Wc[Io]:bQ Tryz.prog 72 [.cW] .cW:=Tryz.dI Tryz.call72 Tryz.FH Tryz.FI _ fK
theorem Tryz.Wd[Io]:bQ Tryz.prog 72 [.fc 0 []] .cW:=Tryz.dI Tryz.call72 Tryz.FH Tryz.FI _ fL
set_option maxHeartbeats 400000 in
theorem Tryz.Ai(ad:Addr)(c:Nat)(w:World):Calls Tryz.prog 116 #[.slice (some ad) 0 c] w fun e w'=> ∃ a,e=.returned (.slice a 0 0)/\Below w.heap.size w w':=by
 have u:=Tryz.underlying50
 have mixed:=Tryz.mixed
 have oE: ∀ (w:World) (a:Option Addr) (n c n2 c2:Nat),(binOp .eql 50 (.slice a n c) (.slice none n2 c2)).run Tryz.prog w=.ok (.bool a.isNone) w:=fun w a n c n2 c2=>Lib.run_eql_slice_nil w _ _ a n c n2 c2 u
 go_enter Tryz.func116,Tryz.ntmps116
 go_wp2
 go_ret
 exact⟨_,rfl,(Below.refl _ w).alloc (Nat.le_refl _) _⟩
set_option maxHeartbeats 400000 in
theorem Tryz.Aj(c:Nat)(w:World):Calls Tryz.prog 116 #[.slice none 0 c] w fun e w'=> ∃ a,e=.returned (.slice a 0 0)/\Below w.heap.size w w':=by
 have u:=Tryz.underlying50
 have mixed:=Tryz.mixed
 have oE: ∀ (w:World) (a:Option Addr) (n c n2 c2:Nat),(binOp .eql 50 (.slice a n c) (.slice none n2 c2)).run Tryz.prog w=.ok (.bool a.isNone) w:=fun w a n c n2 c2=>Lib.run_eql_slice_nil w _ _ a n c n2 c2 u
 go_enter Tryz.func116,Tryz.ntmps116
 go_wp2
 go_ret
 exact⟨_,rfl,Below.refl _ w⟩
theorem Tryz.OW[Io]:bQ Tryz.prog 116 [.cW] .cW:=Tryz.dI Tryz.call116 Tryz.Ai Tryz.Aj _ fK
theorem Tryz.OX[Io]:bQ Tryz.prog 116 [.fc 0 []] .cW:=Tryz.dI Tryz.call116 Tryz.Ai Tryz.Aj _ fL
set_option maxHeartbeats 400000 in
theorem Tryz.Ak(ad:Addr)(c:Nat)(w:World):Calls Tryz.prog 117 #[.slice (some ad) 0 c] w fun e w'=> ∃ a,e=.returned (.slice a 0 0)/\Below w.heap.size w w':=by
 have u:=Tryz.underlying51
 have mixed:=Tryz.mixed
 have oE: ∀ (w:World) (a:Option Addr) (n c n2 c2:Nat),(binOp .eql 51 (.slice a n c) (.slice none n2 c2)).run Tryz.prog w=.ok (.bool a.isNone) w:=fun w a n c n2 c2=>Lib.run_eql_slice_nil w _ _ a n c n2 c2 u
 go_enter Tryz.func117,Tryz.ntmps117
 go_wp2
 go_ret
 exact⟨_,rfl,(Below.refl _ w).alloc (Nat.le_refl _) _⟩
set_option maxHeartbeats 400000 in
theorem Tryz.Al(c:Nat)(w:World):Calls Tryz.prog 117 #[.slice none 0 c] w fun e w'=> ∃ a,e=.returned (.slice a 0 0)/\Below w.heap.size w w':=by
 have u:=Tryz.underlying51
 have mixed:=Tryz.mixed
 have oE: ∀ (w:World) (a:Option Addr) (n c n2 c2:Nat),(binOp .eql 51 (.slice a n c) (.slice none n2 c2)).run Tryz.prog w=.ok (.bool a.isNone) w:=fun w a n c n2 c2=>Lib.run_eql_slice_nil w _ _ a n c n2 c2 u
 go_enter Tryz.func117,Tryz.ntmps117
 go_wp2
 go_ret
 exact⟨_,rfl,Below.refl _ w⟩
theorem Tryz.OY[Io]:bQ Tryz.prog 117 [.cW] .cW:=Tryz.dI Tryz.call117 Tryz.Ak Tryz.Al _ fK
theorem Tryz.OZ[Io]:bQ Tryz.prog 117 [.fc 0 []] .cW:=Tryz.dI Tryz.call117 Tryz.Ak Tryz.Al _ fL
set_option maxHeartbeats 400000 in
theorem Tryz.Am(ad:Addr)(c:Nat)(w:World):Calls Tryz.prog 118 #[.slice (some ad) 0 c] w fun e w'=> ∃ a,e=.returned (.slice a 0 0)/\Below w.heap.size w w':=by
 have u:=Tryz.underlying52
 have mixed:=Tryz.mixed
 have oE: ∀ (w:World) (a:Option Addr) (n c n2 c2:Nat),(binOp .eql 52 (.slice a n c) (.slice none n2 c2)).run Tryz.prog w=.ok (.bool a.isNone) w:=fun w a n c n2 c2=>Lib.run_eql_slice_nil w _ _ a n c n2 c2 u
 go_enter Tryz.func118,Tryz.ntmps118
 go_wp2
 go_ret
 exact⟨_,rfl,(Below.refl _ w).alloc (Nat.le_refl _) _⟩
set_option maxHeartbeats 400000 in
theorem Tryz.Ao(c:Nat)(w:World):Calls Tryz.prog 118 #[.slice none 0 c] w fun e w'=> ∃ a,e=.returned (.slice a 0 0)/\Below w.heap.size w w':=by
 have u:=Tryz.underlying52
 have mixed:=Tryz.mixed
 have oE: ∀ (w:World) (a:Option Addr) (n c n2 c2:Nat),(binOp .eql 52 (.slice a n c) (.slice none n2 c2)).run Tryz.prog w=.ok (.bool a.isNone) w:=fun w a n c n2 c2=>Lib.run_eql_slice_nil w _ _ a n c n2 c2 u
 go_enter Tryz.func118,Tryz.ntmps118
 go_wp2
 go_ret
 exact⟨_,rfl,Below.refl _ w⟩
theorem Tryz.O0[Io]:bQ Tryz.prog 118 [.cW] .cW:=Tryz.dI Tryz.call118 Tryz.Am Tryz.Ao _ fK
theorem Tryz.O1[Io]:bQ Tryz.prog 118 [.fc 0 []] .cW:=Tryz.dI Tryz.call118 Tryz.Am Tryz.Ao _ fL
set_option maxHeartbeats 400000 in
theorem Tryz.Ap(ad:Addr)(c:Nat)(w:World):Calls Tryz.prog 120 #[.slice (some ad) 0 c] w fun e w'=> ∃ a,e=.returned (.slice a 0 0)/\Below w.heap.size w w':=by
 have u:=Tryz.underlying53
 have mixed:=Tryz.mixed
 have oE: ∀ (w:World) (a:Option Addr) (n c n2 c2:Nat),(binOp .eql 53 (.slice a n c) (.slice none n2 c2)).run Tryz.prog w=.ok (.bool a.isNone) w:=fun w a n c n2 c2=>Lib.run_eql_slice_nil w _ _ a n c n2 c2 u
 go_enter Tryz.func120,Tryz.ntmps120
 go_wp2
 go_ret
 exact⟨_,rfl,(Below.refl _ w).alloc (Nat.le_refl _) _⟩
set_option maxHeartbeats 400000 in
theorem Tryz.Aq(c:Nat)(w:World):Calls Tryz.prog 120 #[.slice none 0 c] w fun e w'=> ∃ a,e=.returned (.slice a 0 0)/\Below w.heap.size w w':=by
 have u:=Tryz.underlying53
 have mixed:=Tryz.mixed
 have oE: ∀ (w:World) (a:Option Addr) (n c n2 c2:Nat),(binOp .eql 53 (.slice a n c) (.slice none n2 c2)).run Tryz.prog w=.ok (.bool a.isNone) w:=fun w a n c n2 c2=>Lib.run_eql_slice_nil w _ _ a n c n2 c2 u
 go_enter Tryz.func120,Tryz.ntmps120
 go_wp2
 go_ret
 exact⟨_,rfl,Below.refl _ w⟩
theorem Tryz.O2[Io]:bQ Tryz.prog 120 [.cW] .cW:=Tryz.dI Tryz.call120 Tryz.Ap Tryz.Aq _ fK
theorem Tryz.O3[Io]:bQ Tryz.prog 120 [.fc 0 []] .cW:=Tryz.dI Tryz.call120 Tryz.Ap Tryz.Aq _ fL
set_option maxHeartbeats 400000 in
theorem Tryz.Ar(ad:Addr)(c:Nat)(w:World):Calls Tryz.prog 121 #[.slice (some ad) 0 c] w fun e w'=> ∃ a,e=.returned (.slice a 0 0)/\Below w.heap.size w w':=by
 have u:=Tryz.underlying54
 have mixed:=Tryz.mixed
 have oE: ∀ (w:World) (a:Option Addr) (n c n2 c2:Nat),(binOp .eql 54 (.slice a n c) (.slice none n2 c2)).run Tryz.prog w=.ok (.bool a.isNone) w:=fun w a n c n2 c2=>Lib.run_eql_slice_nil w _ _ a n c n2 c2 u
 go_enter Tryz.func121,Tryz.ntmps121
 go_wp2
 go_ret
 exact⟨_,rfl,(Below.refl _ w).alloc (Nat.le_refl _) _⟩
set_option maxHeartbeats 400000 in
theorem Tryz.As(c:Nat)(w:World):Calls Tryz.prog 121 #[.slice none 0 c] w fun e w'=> ∃ a,e=.returned (.slice a 0 0)/\Below w.heap.size w w':=by
 have u:=Tryz.underlying54
 have mixed:=Tryz.mixed
 have oE: ∀ (w:World) (a:Option Addr) (n c n2 c2:Nat),(binOp .eql 54 (.slice a n c) (.slice none n2 c2)).run Tryz.prog w=.ok (.bool a.isNone) w:=fun w a n c n2 c2=>Lib.run_eql_slice_nil w _ _ a n c n2 c2 u
 go_enter Tryz.func121,Tryz.ntmps121
 go_wp2
 go_ret
 exact⟨_,rfl,Below.refl _ w⟩
theorem Tryz.O4[Io]:bQ Tryz.prog 121 [.cW] .cW:=Tryz.dI Tryz.call121 Tryz.Ar Tryz.As _ fK
theorem Tryz.O5[Io]:bQ Tryz.prog 121 [.fc 0 []] .cW:=Tryz.dI Tryz.call121 Tryz.Ar Tryz.As _ fL
set_option maxHeartbeats 400000 in
theorem Tryz.At(ad:Addr)(c:Nat)(w:World):Calls Tryz.prog 122 #[.slice (some ad) 0 c] w fun e w'=> ∃ a,e=.returned (.slice a 0 0)/\Below w.heap.size w w':=by
 have u:=Tryz.underlying55
 have mixed:=Tryz.mixed
 have oE: ∀ (w:World) (a:Option Addr) (n c n2 c2:Nat),(binOp .eql 55 (.slice a n c) (.slice none n2 c2)).run Tryz.prog w=.ok (.bool a.isNone) w:=fun w a n c n2 c2=>Lib.run_eql_slice_nil w _ _ a n c n2 c2 u
 go_enter Tryz.func122,Tryz.ntmps122
 go_wp2
 go_ret
 exact⟨_,rfl,(Below.refl _ w).alloc (Nat.le_refl _) _⟩
set_option maxHeartbeats 400000 in
theorem Tryz.Au(c:Nat)(w:World):Calls Tryz.prog 122 #[.slice none 0 c] w fun e w'=> ∃ a,e=.returned (.slice a 0 0)/\Below w.heap.size w w':=by
 have u:=Tryz.underlying55
 have mixed:=Tryz.mixed
 have oE: ∀ (w:World) (a:Option Addr) (n c n2 c2:Nat),(binOp .eql 55 (.slice a n c) (.slice none n2 c2)).run Tryz.prog w=.ok (.bool a.isNone) w:=fun w a n c n2 c2=>Lib.run_eql_slice_nil w _ _ a n c n2 c2 u
 go_enter Tryz.func122,Tryz.ntmps122
 go_wp2
 go_ret
 exact⟨_,rfl,Below.refl _ w⟩
theorem Tryz.O6[Io]:bQ Tryz.prog 122 [.cW] .cW:=Tryz.dI Tryz.call122 Tryz.At Tryz.Au _ fK
theorem Tryz.O7[Io]:bQ Tryz.prog 122 [.fc 0 []] .cW:=Tryz.dI Tryz.call122 Tryz.At Tryz.Au _ fL
set_option maxHeartbeats 400000 in
theorem Tryz.Av(ad:Addr)(c:Nat)(w:World):Calls Tryz.prog 123 #[.slice (some ad) 0 c] w fun e w'=> ∃ a,e=.returned (.slice a 0 0)/\Below w.heap.size w w':=by
 have u:=Tryz.underlying56
 have mixed:=Tryz.mixed
 have oE: ∀ (w:World) (a:Option Addr) (n c n2 c2:Nat),(binOp .eql 56 (.slice a n c) (.slice none n2 c2)).run Tryz.prog w=.ok (.bool a.isNone) w:=fun w a n c n2 c2=>Lib.run_eql_slice_nil w _ _ a n c n2 c2 u
 go_enter Tryz.func123,Tryz.ntmps123
 go_wp2
 go_ret
 exact⟨_,rfl,(Below.refl _ w).alloc (Nat.le_refl _) _⟩
set_option maxHeartbeats 400000 in
theorem Tryz.Aw(c:Nat)(w:World):Calls Tryz.prog 123 #[.slice none 0 c] w fun e w'=> ∃ a,e=.returned (.slice a 0 0)/\Below w.heap.size w w':=by
 have u:=Tryz.underlying56
 have mixed:=Tryz.mixed
 have oE: ∀ (w:World) (a:Option Addr) (n c n2 c2:Nat),(binOp .eql 56 (.slice a n c) (.slice none n2 c2)).run Tryz.prog w=.ok (.bool a.isNone) w:=fun w a n c n2 c2=>Lib.run_eql_slice_nil w _ _ a n c n2 c2 u
 go_enter Tryz.func123,Tryz.ntmps123
 go_wp2
 go_ret
 exact⟨_,rfl,Below.refl _ w⟩
theorem Tryz.O8[Io]:bQ Tryz.prog 123 [.cW] .cW:=Tryz.dI Tryz.call123 Tryz.Av Tryz.Aw _ fK
theorem Tryz.O9[Io]:bQ Tryz.prog 123 [.fc 0 []] .cW:=Tryz.dI Tryz.call123 Tryz.Av Tryz.Aw _ fL
set_option maxHeartbeats 400000 in
theorem Tryz.Ax(ad:Addr)(c:Nat)(w:World):Calls Tryz.prog 124 #[.slice (some ad) 0 c] w fun e w'=> ∃ a,e=.returned (.slice a 0 0)/\Below w.heap.size w w':=by
 have u:=Tryz.underlying146
 have mixed:=Tryz.mixed
 have oE: ∀ (w:World) (a:Option Addr) (n c n2 c2:Nat),(binOp .eql 146 (.slice a n c) (.slice none n2 c2)).run Tryz.prog w=.ok (.bool a.isNone) w:=fun w a n c n2 c2=>Lib.run_eql_slice_nil w _ _ a n c n2 c2 u
 go_enter Tryz.func124,Tryz.ntmps124
 go_wp2
 go_ret
 exact⟨_,rfl,(Below.refl _ w).alloc (Nat.le_refl _) _⟩
set_option maxHeartbeats 400000 in
theorem Tryz.Ay(c:Nat)(w:World):Calls Tryz.prog 124 #[.slice none 0 c] w fun e w'=> ∃ a,e=.returned (.slice a 0 0)/\Below w.heap.size w w':=by
 have u:=Tryz.underlying146
 have mixed:=Tryz.mixed
 have oE: ∀ (w:World) (a:Option Addr) (n c n2 c2:Nat),(binOp .eql 146 (.slice a n c) (.slice none n2 c2)).run Tryz.prog w=.ok (.bool a.isNone) w:=fun w a n c n2 c2=>Lib.run_eql_slice_nil w _ _ a n c n2 c2 u
 go_enter Tryz.func124,Tryz.ntmps124
 go_wp2
 go_ret
 exact⟨_,rfl,Below.refl _ w⟩
theorem Tryz.O'[Io]:bQ Tryz.prog 124 [.cW] .cW:=Tryz.dI Tryz.call124 Tryz.Ax Tryz.Ay _ fK
theorem Tryz.Pa[Io]:bQ Tryz.prog 124 [.fc 0 []] .cW:=Tryz.dI Tryz.call124 Tryz.Ax Tryz.Ay _ fL
set_option maxHeartbeats 400000 in
theorem Tryz.Az(ad:Addr)(c:Nat)(w:World):Calls Tryz.prog 221 #[.slice (some ad) 0 c] w fun e w'=> ∃ a,e=.returned (.slice a 0 0)/\Below w.heap.size w w':=by
 have u:=Tryz.underlying126
 have mixed:=Tryz.mixed
 have oE: ∀ (w:World) (a:Option Addr) (n c n2 c2:Nat),(binOp .eql 126 (.slice a n c) (.slice none n2 c2)).run Tryz.prog w=.ok (.bool a.isNone) w:=fun w a n c n2 c2=>Lib.run_eql_slice_nil w _ _ a n c n2 c2 u
 go_enter Tryz.func221,Tryz.ntmps221
 go_wp2
 go_ret
 exact⟨_,rfl,(Below.refl _ w).alloc (Nat.le_refl _) _⟩
set_option maxHeartbeats 400000 in
theorem Tryz.AA(c:Nat)(w:World):Calls Tryz.prog 221 #[.slice none 0 c] w fun e w'=> ∃ a,e=.returned (.slice a 0 0)/\Below w.heap.size w w':=by
 have u:=Tryz.underlying126
 have mixed:=Tryz.mixed
 have oE: ∀ (w:World) (a:Option Addr) (n c n2 c2:Nat),(binOp .eql 126 (.slice a n c) (.slice none n2 c2)).run Tryz.prog w=.ok (.bool a.isNone) w:=fun w a n c n2 c2=>Lib.run_eql_slice_nil w _ _ a n c n2 c2 u
 go_enter Tryz.func221,Tryz.ntmps221
 go_wp2
 go_ret
 exact⟨_,rfl,Below.refl _ w⟩
theorem Tryz.Pb[Io]:bQ Tryz.prog 221 [.cW] .cW:=Tryz.dI Tryz.call221 Tryz.Az Tryz.AA _ fK
theorem Tryz.Pc[Io]:bQ Tryz.prog 221 [.fc 0 []] .cW:=Tryz.dI Tryz.call221 Tryz.Az Tryz.AA _ fL
end Go.Proofs
