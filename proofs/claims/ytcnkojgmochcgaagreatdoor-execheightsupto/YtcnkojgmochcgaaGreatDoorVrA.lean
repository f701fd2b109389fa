import Derived.Test.YtcnkojgmochcgaaGreatDoorEnvQ
import Derived.Test.YtcnkojgmochcgaaGreatDoorVbQ
import Derived.WalkKit
import Derived.Lib.Walk
import Derived.Lib.SliceRun
noncomputable section
namespace Go.Proofs
open Go.Ab Go.Ab.Lf Go.RowKit Go.Lib
set_option maxRecDepth 100000
theorem Tryz.fA[Io]{f:Nat}(hc: ∀ az w,(callFunc f az).run Tryz.prog w=.ok (.enter f az) w)(k0: ∀ (ad:Addr) (c:Nat) (w:World),Calls Tryz.prog f #[.slice (some ad) 0 c] w fun e w'=> ∃ a,e=.returned (.slice a 0 0)/\Below w.heap.size w w')
 (k1: ∀ (c:Nat) (w:World),Calls Tryz.prog f #[.slice none 0 c] w fun e w'=> ∃ a,e=.returned (.slice a 0 0)/\Below w.heap.size w w')(A:AV)(hA: ∀ g w v,VR g w A v-> ∃ a c,v=.slice a 0 c):cU Tryz.prog f [A] .eD:=by
 refine⟨hc,fun g w vs hi ht hv=>?_⟩
 simp only[bQ]at hv
 obtain⟨v,l,rfl,hv,rfl⟩:=hv
 obtain⟨a,c,rfl⟩:=hA g w v hv
 have k:Calls Tryz.prog f #[.slice a 0 c] w fun e w'=> ∃ a,e=.returned (.slice a 0 0)/\Below w.heap.size w w':=by
  cases a with
  |none=>exact k1 c w
  |some a=>exact k0 a c w
 refine k.mono ?_
 rintro e w' ⟨a',rfl,B⟩
 refine⟨_,rfl,⟨B.os,B.tape,B.output,B.size,B.block⟩,?_⟩
 simp only[VR]
 exact⟨a',rfl⟩
theorem jE[Io](g:G)(w:World)(v:Value)(h:VR g w .eD v): ∃ a c,v=.slice a 0 c:=by
 simp only[VR]at h
 obtain⟨a,rfl⟩:=h
 exact⟨a,0,rfl⟩
theorem jF[Io](g:G)(w:World)(v:Value)(h:VR g w (.iw 0 []) v): ∃ a c,v=.slice a 0 c:=by
 simp only[VR]at h
 obtain⟨a,c,rfl,_⟩:=h
 exact⟨a,c,rfl⟩
set_option maxHeartbeats 400000 in
theorem Tryz.KX(ad:Addr)(c:Nat)(w:World):Calls Tryz.prog 67 #[.slice (some ad) 0 c] w fun e w'=> ∃ a,e=.returned (.slice a 0 0)/\Below w.heap.size w w':=by
 have u:=Tryz.underlying24
 have mixed:=Tryz.mixed
 have tt: ∀ (w:World) (a:Option Addr) (n c n2 c2:Nat),(binOp .eql 24 (.slice a n c) (.slice none n2 c2)).run Tryz.prog w=.ok (.bool a.isNone) w:=fun w a n c n2 c2=>Lib.run_eql_slice_nil w _ _ a n c n2 c2 u
 go_enter Tryz.func67,Tryz.ntmps67
 go_wp2
 go_ret
 exact⟨_,rfl,(Below.refl _ w).alloc (Nat.le_refl _) _⟩
set_option maxHeartbeats 400000 in
theorem Tryz.KY(c:Nat)(w:World):Calls Tryz.prog 67 #[.slice none 0 c] w fun e w'=> ∃ a,e=.returned (.slice a 0 0)/\Below w.heap.size w w':=by
 have u:=Tryz.underlying24
 have mixed:=Tryz.mixed
 have tt: ∀ (w:World) (a:Option Addr) (n c n2 c2:Nat),(binOp .eql 24 (.slice a n c) (.slice none n2 c2)).run Tryz.prog w=.ok (.bool a.isNone) w:=fun w a n c n2 c2=>Lib.run_eql_slice_nil w _ _ a n c n2 c2 u
 go_enter Tryz.func67,Tryz.ntmps67
 go_wp2
 go_ret
 exact⟨_,rfl,Below.refl _ w⟩
theorem Tryz.adf[Io]:cU Tryz.prog 67 [.eD] .eD:=Tryz.fA Tryz.call67 Tryz.KX Tryz.KY _ jE
theorem Tryz.adg[Io]:cU Tryz.prog 67 [.iw 0 []] .eD:=Tryz.fA Tryz.call67 Tryz.KX Tryz.KY _ jF
set_option maxHeartbeats 400000 in
theorem Tryz.KZ(ad:Addr)(c:Nat)(w:World):Calls Tryz.prog 69 #[.slice (some ad) 0 c] w fun e w'=> ∃ a,e=.returned (.slice a 0 0)/\Below w.heap.size w w':=by
 have u:=Tryz.underlying41
 have mixed:=Tryz.mixed
 have tt: ∀ (w:World) (a:Option Addr) (n c n2 c2:Nat),(binOp .eql 41 (.slice a n c) (.slice none n2 c2)).run Tryz.prog w=.ok (.bool a.isNone) w:=fun w a n c n2 c2=>Lib.run_eql_slice_nil w _ _ a n c n2 c2 u
 go_enter Tryz.func69,Tryz.ntmps69
 go_wp2
 go_ret
 exact⟨_,rfl,(Below.refl _ w).alloc (Nat.le_refl _) _⟩
set_option maxHeartbeats 400000 in
theorem Tryz.K3(c:Nat)(w:World):Calls Tryz.prog 69 #[.slice none 0 c] w fun e w'=> ∃ a,e=.returned (.slice a 0 0)/\Below w.heap.size w w':=by
 have u:=Tryz.underlying41
 have mixed:=Tryz.mixed
 have tt: ∀ (w:World) (a:Option Addr) (n c n2 c2:Nat),(binOp .eql 41 (.slice a n c) (.slice none n2 c2)).run Tryz.prog w=.ok (.bool a.isNone) w:=fun w a n c n2 c2=>Lib.run_eql_slice_nil w _ _ a n c n2 c2 u
 go_enter Tryz.func69,Tryz.ntmps69
 go_wp2
 go_ret
 exact⟨_,rfl,Below.refl _ w⟩
theorem Tryz.adh[Io]:cU Tryz.prog 69 [.eD] .eD:=Tryz.fA Tryz.call69 Tryz.KZ Tryz.K3 _ jE
theorem Tryz.adi[Io]:cU Tryz.prog 69 [.iw 0 []] .eD:=Tryz.fA Tryz.call69 Tryz.KZ Tryz.K3 _ jF
set_option maxHeartbeats 400000 in
theorem Tryz.K4(ad:Addr)(c:Nat)(w:World):Calls Tryz.prog 70 #[.slice (some ad) 0 c] w fun e w'=> ∃ a,e=.returned (.slice a 0 0)/\Below w.heap.size w w':=by
 have u:=Tryz.underlying23
 have mixed:=Tryz.mixed
 have tt: ∀ (w:World) (a:Option Addr) (n c n2 c2:Nat),(binOp .eql 23 (.slice a n c) (.slice none n2 c2)).run Tryz.prog w=.ok (.bool a.isNone) w:=fun w a n c n2 c2=>Lib.run_eql_slice_nil w _ _ a n c n2 c2 u
 go_enter Tryz.func70,Tryz.ntmps70
 go_wp2
 go_ret
 exact⟨_,rfl,(Below.refl _ w).alloc (Nat.le_refl _) _⟩
set_option maxHeartbeats 400000 in
theorem Tryz.K5(c:Nat)(w:World):Calls Tryz.prog 70 #[.slice none 0 c] w fun e w'=> ∃ a,e=.returned (.slice a 0 0)/\Below w.heap.size w w':=by
 have u:=Tryz.underlying23
 have mixed:=Tryz.mixed
 have tt: ∀ (w:World) (a:Option Addr) (n c n2 c2:Nat),(binOp .eql 23 (.slice a n c) (.slice none n2 c2)).run Tryz.prog w=.ok (.bool a.isNone) w:=fun w a n c n2 c2=>Lib.run_eql_slice_nil w _ _ a n c n2 c2 u
 go_enter Tryz.func70,Tryz.ntmps70
 go_wp2
 go_ret
 exact⟨_,rfl,Below.refl _ w⟩
theorem Tryz.adj[Io]:cU Tryz.prog 70 [.eD] .eD:=Tryz.fA Tryz.call70 Tryz.K4 Tryz.K5 _ jE
theorem Tryz.adk[Io]:cU Tryz.prog 70 [.iw 0 []] .eD:=Tryz.fA Tryz.call70 Tryz.K4 Tryz.K5 _ jF
set_option maxHeartbeats 400000 in
theorem Tryz.K6(ad:Addr)(c:Nat)(w:World):Calls Tryz.prog 71 #[.slice (some ad) 0 c] w fun e w'=> ∃ a,e=.returned (.slice a 0 0)/\Below w.heap.size w w':=by
 have u:=Tryz.underlying42
 have mixed:=Tryz.mixed
 have tt: ∀ (w:World) (a:Option Addr) (n c n2 c2:Nat),(binOp .eql 42 (.slice a n c) (.slice none n2 c2)).run Tryz.prog w=.ok (.bool a.isNone) w:=fun w a n c n2 c2=>Lib.run_eql_slice_nil w _ _ a n c n2 c2 u
 go_enter Tryz.func71,Tryz.ntmps71
 go_wp2
 go_ret
 exact⟨_,rfl,(Below.refl _ w).alloc (Nat.le_refl _) _⟩
set_option maxHeartbeats 400000 in
theorem Tryz.K7(c:Nat)(w:World):Calls Tryz.prog 71 #[.slice none 0 c] w fun e w'=> ∃ a,e=.returned (.slice a 0 0)/\Below w.heap.size w w':=by
 have u:=Tryz.underlying42
 have mixed:=Tryz.mixed
 have tt: ∀ (w:World) (a:Option Addr) (n c n2 c2:Nat),(binOp .eql 42 (.slice a n c) (.slice none n2 c2)).run Tryz.prog w=.ok (.bool a.isNone) w:=fun w a n c n2 c2=>Lib.run_eql_slice_nil w _ _ a n c n2 c2 u
 go_enter Tryz.func71,Tryz.ntmps71
 go_wp2
 go_ret
 exact⟨_,rfl,Below.refl _ w⟩
theorem Tryz.adl[Io]:cU Tryz.prog 71 [.eD] .eD:=Tryz.fA Tryz.call71 Tryz.K6 Tryz.K7 _ jE
theorem Tryz.adm[Io]:cU Tryz.prog 71 [.iw 0 []] .eD:=Tryz.fA Tryz.call71 Tryz.K6 Tryz.K7 _ jF
set_option maxHeartbeats 400000 in
theorem Tryz.K8(ad:Addr)(c:Nat)(w:World):Calls Tryz.prog 72 #[.slice (some ad) 0 c] w fun e w'=> ∃ a,e=.returned (.slice a 0 0)/\Below w.heap.size w w':=by
 have u:=Tryz.underlying28
 have mixed:=Tryz.mixed
 have tt: ∀ (w:World) (a:Option Addr) (n c n2 c2:Nat),(binOp .eql 28 (.slice a n c) (.slice none n2 c2)).run Tryz.prog w=.ok (.bool a.isNone) w:=fun w a n c n2 c2=>Lib.run_eql_slice_nil w _ _ a n c n2 c2 u
 go_enter Tryz.func72,Tryz.ntmps72
 go_wp2
 go_ret
 exact⟨_,rfl,(Below.refl _ w).alloc (Nat.le_refl _) _⟩
set_option maxHeartbeats 400000 in
theorem Tryz.K9(c:Nat)(w:World):Calls Tryz.prog 72 #[.slice none 0 c] w fun e w'=> ∃ a,e=.returned (.slice a 0 0)/\Below w.heap.size w w':=by
 have u:=Tryz.underlying28
 have mixed:=Tryz.mixed
 have tt: ∀ (w:World) (a:Option Addr) (n c n2 c2:Nat),(binOp .eql 28 (.slice a n c) (.slice none n2 c2)).run Tryz.prog w=.ok (.bool a.isNone) w:=fun w a n c n2 c2=>Lib.run_eql_slice_nil w _ _ a n c n2 c2 u
 go_enter Tryz.func72,Tryz.ntmps72
 go_wp2
 go_ret
 exact⟨_,rfl,Below.refl _ w⟩
theorem Tryz.adn[Io]:cU Tryz.prog 72 [.eD] .eD:=Tryz.fA Tryz.call72 Tryz.K8 Tryz.K9 _ jE
theorem Tryz.ado[Io]:cU Tryz.prog 72 [.iw 0 []] .eD:=Tryz.fA Tryz.call72 Tryz.K8 Tryz.K9 _ jF
set_option maxHeartbeats 400000 in
theorem Tryz.EB(ad:Addr)(c:Nat)(w:World):Calls Tryz.prog 116 #[.slice (some ad) 0 c] w fun e w'=> ∃ a,e=.returned (.slice a 0 0)/\Below w.heap.size w w':=by
 have u:=Tryz.underlying50
 have mixed:=Tryz.mixed
 have tt: ∀ (w:World) (a:Option Addr) (n c n2 c2:Nat),(binOp .eql 50 (.slice a n c) (.slice none n2 c2)).run Tryz.prog w=.ok (.bool a.isNone) w:=fun w a n c n2 c2=>Lib.run_eql_slice_nil w _ _ a n c n2 c2 u
 go_enter Tryz.func116,Tryz.ntmps116
 go_wp2
 go_ret
 exact⟨_,rfl,(Below.refl _ w).alloc (Nat.le_refl _) _⟩
set_option maxHeartbeats 400000 in
theorem Tryz.EC(c:Nat)(w:World):Calls Tryz.prog 116 #[.slice none 0 c] w fun e w'=> ∃ a,e=.returned (.slice a 0 0)/\Below w.heap.size w w':=by
 have u:=Tryz.underlying50
 have mixed:=Tryz.mixed
 have tt: ∀ (w:World) (a:Option Addr) (n c n2 c2:Nat),(binOp .eql 50 (.slice a n c) (.slice none n2 c2)).run Tryz.prog w=.ok (.bool a.isNone) w:=fun w a n c n2 c2=>Lib.run_eql_slice_nil w _ _ a n c n2 c2 u
 go_enter Tryz.func116,Tryz.ntmps116
 go_wp2
 go_ret
 exact⟨_,rfl,Below.refl _ w⟩
theorem Tryz.Vo[Io]:cU Tryz.prog 116 [.eD] .eD:=Tryz.fA Tryz.call116 Tryz.EB Tryz.EC _ jE
theorem Tryz.Vp[Io]:cU Tryz.prog 116 [.iw 0 []] .eD:=Tryz.fA Tryz.call116 Tryz.EB Tryz.EC _ jF
set_option maxHeartbeats 400000 in
theorem Tryz.ED(ad:Addr)(c:Nat)(w:World):Calls Tryz.prog 117 #[.slice (some ad) 0 c] w fun e w'=> ∃ a,e=.returned (.slice a 0 0)/\Below w.heap.size w w':=by
 have u:=Tryz.underlying51
 have mixed:=Tryz.mixed
 have tt: ∀ (w:World) (a:Option Addr) (n c n2 c2:Nat),(binOp .eql 51 (.slice a n c) (.slice none n2 c2)).run Tryz.prog w=.ok (.bool a.isNone) w:=fun w a n c n2 c2=>Lib.run_eql_slice_nil w _ _ a n c n2 c2 u
 go_enter Tryz.func117,Tryz.ntmps117
 go_wp2
 go_ret
 exact⟨_,rfl,(Below.refl _ w).alloc (Nat.le_refl _) _⟩
set_option maxHeartbeats 400000 in
theorem Tryz.EE(c:Nat)(w:World):Calls Tryz.prog 117 #[.slice none 0 c] w fun e w'=> ∃ a,e=.returned (.slice a 0 0)/\Below w.heap.size w w':=by
 have u:=Tryz.underlying51
 have mixed:=Tryz.mixed
 have tt: ∀ (w:World) (a:Option Addr) (n c n2 c2:Nat),(binOp .eql 51 (.slice a n c) (.slice none n2 c2)).run Tryz.prog w=.ok (.bool a.isNone) w:=fun w a n c n2 c2=>Lib.run_eql_slice_nil w _ _ a n c n2 c2 u
 go_enter Tryz.func117,Tryz.ntmps117
 go_wp2
 go_ret
 exact⟨_,rfl,Below.refl _ w⟩
theorem Tryz.Vr[Io]:cU Tryz.prog 117 [.eD] .eD:=Tryz.fA Tryz.call117 Tryz.ED Tryz.EE _ jE
theorem Tryz.Vt[Io]:cU Tryz.prog 117 [.iw 0 []] .eD:=Tryz.fA Tryz.call117 Tryz.ED Tryz.EE _ jF
set_option maxHeartbeats 400000 in
theorem Tryz.EF(ad:Addr)(c:Nat)(w:World):Calls Tryz.prog 118 #[.slice (some ad) 0 c] w fun e w'=> ∃ a,e=.returned (.slice a 0 0)/\Below w.heap.size w w':=by
 have u:=Tryz.underlying52
 have mixed:=Tryz.mixed
 have tt: ∀ (w:World) (a:Option Addr) (n c n2 c2:Nat),(binOp .eql 52 (.slice a n c) (.slice none n2 c2)).run Tryz.prog w=.ok (.bool a.isNone) w:=fun w a n c n2 c2=>Lib.run_eql_slice_nil w _ _ a n c n2 c2 u
 go_enter Tryz.func118,Tryz.ntmps118
 go_wp2
 go_ret
 exact⟨_,rfl,(Below.refl _ w).alloc (Nat.le_refl _) _⟩
set_option maxHeartbeats 400000 in
theorem Tryz.EG(c:Nat)(w:World):Calls Tryz.prog 118 #[.slice none 0 c] w fun e w'=> ∃ a,e=.returned (.slice a 0 0)/\Below w.heap.size w w':=by
 have u:=Tryz.underlying52
 have mixed:=Tryz.mixed
 have tt: ∀ (w:World) (a:Option Addr) (n c n2 c2:Nat),(binOp .eql 52 (.slice a n c) (.slice none n2 c2)).run Tryz.prog w=.ok (.bool a.isNone) w:=fun w a n c n2 c2=>Lib.run_eql_slice_nil w _ _ a n c n2 c2 u
 go_enter Tryz.func118,Tryz.ntmps118
 go_wp2
 go_ret
 exact⟨_,rfl,Below.refl _ w⟩
theorem Tryz.Vu[Io]:cU Tryz.prog 118 [.eD] .eD:=Tryz.fA Tryz.call118 Tryz.EF Tryz.EG _ jE
theorem Tryz.Vv[Io]:cU Tryz.prog 118 [.iw 0 []] .eD:=Tryz.fA Tryz.call118 Tryz.EF Tryz.EG _ jF
set_option maxHeartbeats 400000 in
theorem Tryz.EH(ad:Addr)(c:Nat)(w:World):Calls Tryz.prog 120 #[.slice (some ad) 0 c] w fun e w'=> ∃ a,e=.returned (.slice a 0 0)/\Below w.heap.size w w':=by
 have u:=Tryz.underlying53
 have mixed:=Tryz.mixed
 have tt: ∀ (w:World) (a:Option Addr) (n c n2 c2:Nat),(binOp .eql 53 (.slice a n c) (.slice none n2 c2)).run Tryz.prog w=.ok (.bool a.isNone) w:=fun w a n c n2 c2=>Lib.run_eql_slice_nil w _ _ a n c n2 c2 u
 go_enter Tryz.func120,Tryz.ntmps120
 go_wp2
 go_ret
 exact⟨_,rfl,(Below.refl _ w).alloc (Nat.le_refl _) _⟩
set_option maxHeartbeats 400000 in
theorem Tryz.EI(c:Nat)(w:World):Calls Tryz.prog 120 #[.slice none 0 c] w fun e w'=> ∃ a,e=.returned (.slice a 0 0)/\Below w.heap.size w w':=by
 have u:=Tryz.underlying53
 have mixed:=Tryz.mixed
 have tt: ∀ (w:World) (a:Option Addr) (n c n2 c2:Nat),(binOp .eql 53 (.slice a n c) (.slice none n2 c2)).run Tryz.prog w=.ok (.bool a.isNone) w:=fun w a n c n2 c2=>Lib.run_eql_slice_nil w _ _ a n c n2 c2 u
 go_enter Tryz.func120,Tryz.ntmps120
 go_wp2
 go_ret
 exact⟨_,rfl,Below.refl _ w⟩
theorem Tryz.Vw[Io]:cU Tryz.prog 120 [.eD] .eD:=Tryz.fA Tryz.call120 Tryz.EH Tryz.EI _ jE
theorem Tryz.Vx[Io]:cU Tryz.prog 120 [.iw 0 []] .eD:=Tryz.fA Tryz.call120 Tryz.EH Tryz.EI _ jF
set_option maxHeartbeats 400000 in
theorem Tryz.EJ(ad:Addr)(c:Nat)(w:World):Calls Tryz.prog 121 #[.slice (some ad) 0 c] w fun e w'=> ∃ a,e=.returned (.slice a 0 0)/\Below w.heap.size w w':=by
 have u:=Tryz.underlying54
 have mixed:=Tryz.mixed
 have tt: ∀ (w:World) (a:Option Addr) (n c n2 c2:Nat),(binOp .eql 54 (.slice a n c) (.slice none n2 c2)).run Tryz.prog w=.ok (.bool a.isNone) w:=fun w a n c n2 c2=>Lib.run_eql_slice_nil w _ _ a n c n2 c2 u
 go_enter Tryz.func121,Tryz.ntmps121
 go_wp2
 go_ret
 exact⟨_,rfl,(Below.refl _ w).alloc (Nat.le_refl _) _⟩
set_option maxHeartbeats 400000 in
theorem Tryz.EK(c:Nat)(w:World):Calls Tryz.prog 121 #[.slice none 0 c] w fun e w'=> ∃ a,e=.returned (.slice a 0 0)/\Below w.heap.size w w':=by
 have u:=Tryz.underlying54
 have mixed:=Tryz.mixed
 have tt: ∀ (w:World) (a:Option Addr) (n c n2 c2:Nat),(binOp .eql 54 (.slice a n c) (.slice none n2 c2)).run Tryz.prog w=.ok (.bool a.isNone) w:=fun w a n c n2 c2=>Lib.run_eql_slice_nil w _ _ a n c n2 c2 u
 go_enter Tryz.func121,Tryz.ntmps121
 go_wp2
 go_ret
 exact⟨_,rfl,Below.refl _ w⟩
theorem Tryz.Vy[Io]:cU Tryz.prog 121 [.eD] .eD:=Tryz.fA Tryz.call121 Tryz.EJ Tryz.EK _ jE
theorem Tryz.Vz[Io]:cU Tryz.prog 121 [.iw 0 []] .eD:=Tryz.fA Tryz.call121 Tryz.EJ Tryz.EK _ jF
set_option maxHeartbeats 400000 in
theorem Tryz.EL(ad:Addr)(c:Nat)(w:World):Calls Tryz.prog 122 #[.slice (some ad) 0 c] w fun e w'=> ∃ a,e=.returned (.slice a 0 0)/\Below w.heap.size w w':=by
 have u:=Tryz.underlying55
 have mixed:=Tryz.mixed
 have tt: ∀ (w:World) (a:Option Addr) (n c n2 c2:Nat),(binOp .eql 55 (.slice a n c) (.slice none n2 c2)).run Tryz.prog w=.ok (.bool a.isNone) w:=fun w a n c n2 c2=>Lib.run_eql_slice_nil w _ _ a n c n2 c2 u
 go_enter Tryz.func122,Tryz.ntmps122
 go_wp2
 go_ret
 exact⟨_,rfl,(Below.refl _ w).alloc (Nat.le_refl _) _⟩
set_option maxHeartbeats 400000 in
theorem Tryz.EM(c:Nat)(w:World):Calls Tryz.prog 122 #[.slice none 0 c] w fun e w'=> ∃ a,e=.returned (.slice a 0 0)/\Below w.heap.size w w':=by
 have u:=Tryz.underlying55
 have mixed:=Tryz.mixed
 have tt: ∀ (w:World) (a:Option Addr) (n c n2 c2:Nat),(binOp .eql 55 (.slice a n c) (.slice none n2 c2)).run Tryz.prog w=.ok (.bool a.isNone) w:=fun w a n c n2 c2=>Lib.run_eql_slice_nil w _ _ a n c n2 c2 u
 go_enter Tryz.func122,Tryz.ntmps122
 go_wp2
 go_ret
 exact⟨_,rfl,Below.refl _ w⟩
theorem Tryz.VA[Io]:cU Tryz.prog 122 [.eD] .eD:=Tryz.fA Tryz.call122 Tryz.EL Tryz.EM _ jE
theorem Tryz.VB[Io]:cU Tryz.prog 122 [.iw 0 []] .eD:=Tryz.fA Tryz.call122 Tryz.EL Tryz.EM _ jF
set_option maxHeartbeats 400000 in
theorem Tryz.EN(ad:Addr)(c:Nat)(w:World):Calls Tryz.prog 123 #[.slice (some ad) 0 c] w fun e w'=> ∃ a,e=.returned (.slice a 0 0)/\Below w.heap.size w w':=by
 have u:=Tryz.underlying56
 have mixed:=Tryz.mixed
 have tt: ∀ (w:World) (a:Option Addr) (n c n2 c2:Nat),(binOp .eql 56 (.slice a n c) (.slice none n2 c2)).run Tryz.prog w=.ok (.bool a.isNone) w:=fun w a n c n2 c2=>Lib.run_eql_slice_nil w _ _ a n c n2 c2 u
 go_enter Tryz.func123,Tryz.ntmps123
 go_wp2
 go_ret
 exact⟨_,rfl,(Below.refl _ w).alloc (Nat.le_refl _) _⟩
set_option maxHeartbeats 400000 in
theorem Tryz.EO(c:Nat)(w:World):Calls Tryz.prog 123 #[.slice none 0 c] w fun e w'=> ∃ a,e=.returned (.slice a 0 0)/\Below w.heap.size w w':=by
 have u:=Tryz.underlying56
 have mixed:=Tryz.mixed
 have tt: ∀ (w:World) (a:Option Addr) (n c n2 c2:Nat),(binOp .eql 56 (.slice a n c) (.slice none n2 c2)).run Tryz.prog w=.ok (.bool a.isNone) w:=fun w a n c n2 c2=>Lib.run_eql_slice_nil w _ _ a n c n2 c2 u
 go_enter Tryz.func123,Tryz.ntmps123
 go_wp2
 go_ret
 exact⟨_,rfl,Below.refl _ w⟩
theorem Tryz.VC[Io]:cU Tryz.prog 123 [.eD] .eD:=Tryz.fA Tryz.call123 Tryz.EN Tryz.EO _ jE
theorem Tryz.VD[Io]:cU Tryz.prog 123 [.iw 0 []] .eD:=Tryz.fA Tryz.call123 Tryz.EN Tryz.EO _ jF
set_option maxHeartbeats 400000 in
theorem Tryz.EP(ad:Addr)(c:Nat)(w:World):Calls Tryz.prog 124 #[.slice (some ad) 0 c] w fun e w'=> ∃ a,e=.returned (.slice a 0 0)/\Below w.heap.size w w':=by
 have u:=Tryz.underlying146
 have mixed:=Tryz.mixed
 have tt: ∀ (w:World) (a:Option Addr) (n c n2 c2:Nat),(binOp .eql 146 (.slice a n c) (.slice none n2 c2)).run Tryz.prog w=.ok (.bool a.isNone) w:=fun w a n c n2 c2=>Lib.run_eql_slice_nil w _ _ a n c n2 c2 u
 go_enter Tryz.func124,Tryz.ntmps124
 go_wp2
 go_ret
 exact⟨_,rfl,(Below.refl _ w).alloc (Nat.le_refl _) _⟩
set_option maxHeartbeats 400000 in
theorem Tryz.ER(c:Nat)(w:World):Calls Tryz.prog 124 #[.slice none 0 c] w fun e w'=> ∃ a,e=.returned (.slice a 0 0)/\Below w.heap.size w w':=by
 have u:=Tryz.underlying146
 have mixed:=Tryz.mixed
 have tt: ∀ (w:World) (a:Option Addr) (n c n2 c2:Nat),(binOp .eql 146 (.slice a n c) (.slice none n2 c2)).run Tryz.prog w=.ok (.bool a.isNone) w:=fun w a n c n2 c2=>Lib.run_eql_slice_nil w _ _ a n c n2 c2 u
 go_enter Tryz.func124,Tryz.ntmps124
 go_wp2
 go_ret
 exact⟨_,rfl,Below.refl _ w⟩
theorem Tryz.VE[Io]:cU Tryz.prog 124 [.eD] .eD:=Tryz.fA Tryz.call124 Tryz.EP Tryz.ER _ jE
theorem Tryz.VF[Io]:cU Tryz.prog 124 [.iw 0 []] .eD:=Tryz.fA Tryz.call124 Tryz.EP Tryz.ER _ jF
set_option maxHeartbeats 400000 in
theorem Tryz.ES(ad:Addr)(c:Nat)(w:World):Calls Tryz.prog 221 #[.slice (some ad) 0 c] w fun e w'=> ∃ a,e=.returned (.slice a 0 0)/\Below w.heap.size w w':=by
 have u:=Tryz.underlying126
 have mixed:=Tryz.mixed
 have tt: ∀ (w:World) (a:Option Addr) (n c n2 c2:Nat),(binOp .eql 126 (.slice a n c) (.slice none n2 c2)).run Tryz.prog w=.ok (.bool a.isNone) w:=fun w a n c n2 c2=>Lib.run_eql_slice_nil w _ _ a n c n2 c2 u
 go_enter Tryz.func221,Tryz.ntmps221
 go_wp2
 go_ret
 exact⟨_,rfl,(Below.refl _ w).alloc (Nat.le_refl _) _⟩
set_option maxHeartbeats 400000 in
theorem Tryz.ET(c:Nat)(w:World):Calls Tryz.prog 221 #[.slice none 0 c] w fun e w'=> ∃ a,e=.returned (.slice a 0 0)/\Below w.heap.size w w':=by
 have u:=Tryz.underlying126
 have mixed:=Tryz.mixed
 have tt: ∀ (w:World) (a:Option Addr) (n c n2 c2:Nat),(binOp .eql 126 (.slice a n c) (.slice none n2 c2)).run Tryz.prog w=.ok (.bool a.isNone) w:=fun w a n c n2 c2=>Lib.run_eql_slice_nil w _ _ a n c n2 c2 u
 go_enter Tryz.func221,Tryz.ntmps221
 go_wp2
 go_ret
 exact⟨_,rfl,Below.refl _ w⟩
theorem Tryz.VG[Io]:cU Tryz.prog 221 [.eD] .eD:=Tryz.fA Tryz.call221 Tryz.ES Tryz.ET _ jE
theorem Tryz.VH[Io]:cU Tryz.prog 221 [.iw 0 []] .eD:=Tryz.fA Tryz.call221 Tryz.ES Tryz.ET _ jF
end Go.Proofs
