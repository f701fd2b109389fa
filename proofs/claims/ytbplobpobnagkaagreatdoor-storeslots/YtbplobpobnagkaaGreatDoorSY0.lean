import Derived.Test.YtbplobpobnagkaaGreatDoorEnvS
import Derived.Test.YtbplobpobnagkaaGreatDoorLfJ
import Derived.WalkKit
import Derived.Lib.Walk
import Derived.Lib.SliceRun
noncomputable section
namespace Go.Proofs
open Go.Ab Go.Ab.Lf Go.RowKit Go.Lib
set_option maxRecDepth 100000
theorem Tryz.je[Io]{f:Nat}(hc: ∀ az w,(callFunc f az).run Tryz.prog w=.ok (.enter f az) w)(k0: ∀ (ad:Addr) (c:Nat) (w:World),Calls Tryz.prog f #[.slice (some ad) 0 c] w fun e w'=> ∃ a,e=.returned (.slice a 0 0)/\Below w.heap.size w w')
 (k1: ∀ (c:Nat) (w:World),Calls Tryz.prog f #[.slice none 0 c] w fun e w'=> ∃ a,e=.returned (.slice a 0 0)/\Below w.heap.size w w')(A:AV)(hA: ∀ g w v,VR g w A v-> ∃ a c,v=.slice a 0 c):dK Tryz.prog f [A] .fk:=by
 refine⟨hc,fun g w vs hi ht hv=>?_⟩
 simp only[bL]at hv
 obtain⟨v,l,rfl,hv,rfl⟩:=hv
 obtain⟨a,c,rfl⟩:=hA g w v hv
 have k:Calls Tryz.prog f #[.slice a 0 c] w fun e w'=> ∃ a,e=.returned (.slice a 0 0)/\Below w.heap.size w w':=by
  cases a with
  |none=>exact k1 c w
  |some a=>exact k0 a c w
 refine k.mono ?_
 rintro e w' ⟨a',rfl,B⟩
 refine⟨_,rfl,⟨B.os,B.tape,B.output,B.size,B.block⟩,?_⟩
 simp only[VR]
 exact⟨a',rfl⟩
theorem nd[Io](g:G)(w:World)(v:Value)(h:VR g w .fk v): ∃ a c,v=.slice a 0 c:=by
 simp only[VR]at h
 obtain⟨a,rfl⟩:=h
 exact⟨a,0,rfl⟩
theorem nf[Io](g:G)(w:World)(v:Value)(h:VR g w (.lj 0 []) v): ∃ a c,v=.slice a 0 c:=by
 simp only[VR]at h
 obtain⟨a,c,rfl,_⟩:=h
 exact⟨a,c,rfl⟩
set_option maxHeartbeats 400000 in
theorem Tryz.PH(ad:Addr)(c:Nat)(w:World):Calls Tryz.prog 31 #[.slice (some ad) 0 c] w fun e w'=> ∃ a,e=.returned (.slice a 0 0)/\Below w.heap.size w w':=by
 have u:=Tryz.underlying25
 have mixed:=Tryz.mixed
 have z6: ∀ (w:World) (a:Option Addr) (n c n2 c2:Nat),(binOp .eql 25 (.slice a n c) (.slice none n2 c2)).run Tryz.prog w=.ok (.bool a.isNone) w:=fun w a n c n2 c2=>Lib.run_eql_slice_nil w _ _ a n c n2 c2 u
 go_enter Tryz.func31,Tryz.ntmps31
 go_wp2
 go_ret
 exact⟨_,rfl,(Below.refl _ w).alloc (Nat.le_refl _) _⟩
set_option maxHeartbeats 400000 in
theorem Tryz.PJ(c:Nat)(w:World):Calls Tryz.prog 31 #[.slice none 0 c] w fun e w'=> ∃ a,e=.returned (.slice a 0 0)/\Below w.heap.size w w':=by
 have u:=Tryz.underlying25
 have mixed:=Tryz.mixed
 have z6: ∀ (w:World) (a:Option Addr) (n c n2 c2:Nat),(binOp .eql 25 (.slice a n c) (.slice none n2 c2)).run Tryz.prog w=.ok (.bool a.isNone) w:=fun w a n c n2 c2=>Lib.run_eql_slice_nil w _ _ a n c n2 c2 u
 go_enter Tryz.func31,Tryz.ntmps31
 go_wp2
 go_ret
 exact⟨_,rfl,Below.refl _ w⟩
theorem Tryz.afW[Io]:dK Tryz.prog 31 [.fk] .fk:=Tryz.je Tryz.call31 Tryz.PH Tryz.PJ _ nd
theorem Tryz.afX[Io]:dK Tryz.prog 31 [.lj 0 []] .fk:=Tryz.je Tryz.call31 Tryz.PH Tryz.PJ _ nf
set_option maxHeartbeats 400000 in
theorem Tryz.PK(ad:Addr)(c:Nat)(w:World):Calls Tryz.prog 32 #[.slice (some ad) 0 c] w fun e w'=> ∃ a,e=.returned (.slice a 0 0)/\Below w.heap.size w w':=by
 have u:=Tryz.underlying27
 have mixed:=Tryz.mixed
 have z6: ∀ (w:World) (a:Option Addr) (n c n2 c2:Nat),(binOp .eql 27 (.slice a n c) (.slice none n2 c2)).run Tryz.prog w=.ok (.bool a.isNone) w:=fun w a n c n2 c2=>Lib.run_eql_slice_nil w _ _ a n c n2 c2 u
 go_enter Tryz.func32,Tryz.ntmps32
 go_wp2
 go_ret
 exact⟨_,rfl,(Below.refl _ w).alloc (Nat.le_refl _) _⟩
set_option maxHeartbeats 400000 in
theorem Tryz.PL(c:Nat)(w:World):Calls Tryz.prog 32 #[.slice none 0 c] w fun e w'=> ∃ a,e=.returned (.slice a 0 0)/\Below w.heap.size w w':=by
 have u:=Tryz.underlying27
 have mixed:=Tryz.mixed
 have z6: ∀ (w:World) (a:Option Addr) (n c n2 c2:Nat),(binOp .eql 27 (.slice a n c) (.slice none n2 c2)).run Tryz.prog w=.ok (.bool a.isNone) w:=fun w a n c n2 c2=>Lib.run_eql_slice_nil w _ _ a n c n2 c2 u
 go_enter Tryz.func32,Tryz.ntmps32
 go_wp2
 go_ret
 exact⟨_,rfl,Below.refl _ w⟩
theorem Tryz.afY[Io]:dK Tryz.prog 32 [.fk] .fk:=Tryz.je Tryz.call32 Tryz.PK Tryz.PL _ nd
theorem Tryz.afZ[Io]:dK Tryz.prog 32 [.lj 0 []] .fk:=Tryz.je Tryz.call32 Tryz.PK Tryz.PL _ nf
set_option maxHeartbeats 400000 in
theorem Tryz.PM(ad:Addr)(c:Nat)(w:World):Calls Tryz.prog 33 #[.slice (some ad) 0 c] w fun e w'=> ∃ a,e=.returned (.slice a 0 0)/\Below w.heap.size w w':=by
 have u:=Tryz.underlying26
 have mixed:=Tryz.mixed
 have z6: ∀ (w:World) (a:Option Addr) (n c n2 c2:Nat),(binOp .eql 26 (.slice a n c) (.slice none n2 c2)).run Tryz.prog w=.ok (.bool a.isNone) w:=fun w a n c n2 c2=>Lib.run_eql_slice_nil w _ _ a n c n2 c2 u
 go_enter Tryz.func33,Tryz.ntmps33
 go_wp2
 go_ret
 exact⟨_,rfl,(Below.refl _ w).alloc (Nat.le_refl _) _⟩
set_option maxHeartbeats 400000 in
theorem Tryz.PN(c:Nat)(w:World):Calls Tryz.prog 33 #[.slice none 0 c] w fun e w'=> ∃ a,e=.returned (.slice a 0 0)/\Below w.heap.size w w':=by
 have u:=Tryz.underlying26
 have mixed:=Tryz.mixed
 have z6: ∀ (w:World) (a:Option Addr) (n c n2 c2:Nat),(binOp .eql 26 (.slice a n c) (.slice none n2 c2)).run Tryz.prog w=.ok (.bool a.isNone) w:=fun w a n c n2 c2=>Lib.run_eql_slice_nil w _ _ a n c n2 c2 u
 go_enter Tryz.func33,Tryz.ntmps33
 go_wp2
 go_ret
 exact⟨_,rfl,Below.refl _ w⟩
theorem Tryz.af0[Io]:dK Tryz.prog 33 [.fk] .fk:=Tryz.je Tryz.call33 Tryz.PM Tryz.PN _ nd
theorem Tryz.af1[Io]:dK Tryz.prog 33 [.lj 0 []] .fk:=Tryz.je Tryz.call33 Tryz.PM Tryz.PN _ nf
set_option maxHeartbeats 400000 in
theorem Tryz.PQ(ad:Addr)(c:Nat)(w:World):Calls Tryz.prog 34 #[.slice (some ad) 0 c] w fun e w'=> ∃ a,e=.returned (.slice a 0 0)/\Below w.heap.size w w':=by
 have u:=Tryz.underlying28
 have mixed:=Tryz.mixed
 have z6: ∀ (w:World) (a:Option Addr) (n c n2 c2:Nat),(binOp .eql 28 (.slice a n c) (.slice none n2 c2)).run Tryz.prog w=.ok (.bool a.isNone) w:=fun w a n c n2 c2=>Lib.run_eql_slice_nil w _ _ a n c n2 c2 u
 go_enter Tryz.func34,Tryz.ntmps34
 go_wp2
 go_ret
 exact⟨_,rfl,(Below.refl _ w).alloc (Nat.le_refl _) _⟩
set_option maxHeartbeats 400000 in
theorem Tryz.PR(c:Nat)(w:World):Calls Tryz.prog 34 #[.slice none 0 c] w fun e w'=> ∃ a,e=.returned (.slice a 0 0)/\Below w.heap.size w w':=by
 have u:=Tryz.underlying28
 have mixed:=Tryz.mixed
 have z6: ∀ (w:World) (a:Option Addr) (n c n2 c2:Nat),(binOp .eql 28 (.slice a n c) (.slice none n2 c2)).run Tryz.prog w=.ok (.bool a.isNone) w:=fun w a n c n2 c2=>Lib.run_eql_slice_nil w _ _ a n c n2 c2 u
 go_enter Tryz.func34,Tryz.ntmps34
 go_wp2
 go_ret
 exact⟨_,rfl,Below.refl _ w⟩
theorem Tryz.af2[Io]:dK Tryz.prog 34 [.fk] .fk:=Tryz.je Tryz.call34 Tryz.PQ Tryz.PR _ nd
theorem Tryz.af3[Io]:dK Tryz.prog 34 [.lj 0 []] .fk:=Tryz.je Tryz.call34 Tryz.PQ Tryz.PR _ nf
set_option maxHeartbeats 400000 in
theorem Tryz.PS(ad:Addr)(c:Nat)(w:World):Calls Tryz.prog 35 #[.slice (some ad) 0 c] w fun e w'=> ∃ a,e=.returned (.slice a 0 0)/\Below w.heap.size w w':=by
 have u:=Tryz.underlying29
 have mixed:=Tryz.mixed
 have z6: ∀ (w:World) (a:Option Addr) (n c n2 c2:Nat),(binOp .eql 29 (.slice a n c) (.slice none n2 c2)).run Tryz.prog w=.ok (.bool a.isNone) w:=fun w a n c n2 c2=>Lib.run_eql_slice_nil w _ _ a n c n2 c2 u
 go_enter Tryz.func35,Tryz.ntmps35
 go_wp2
 go_ret
 exact⟨_,rfl,(Below.refl _ w).alloc (Nat.le_refl _) _⟩
set_option maxHeartbeats 400000 in
theorem Tryz.PT(c:Nat)(w:World):Calls Tryz.prog 35 #[.slice none 0 c] w fun e w'=> ∃ a,e=.returned (.slice a 0 0)/\Below w.heap.size w w':=by
 have u:=Tryz.underlying29
 have mixed:=Tryz.mixed
 have z6: ∀ (w:World) (a:Option Addr) (n c n2 c2:Nat),(binOp .eql 29 (.slice a n c) (.slice none n2 c2)).run Tryz.prog w=.ok (.bool a.isNone) w:=fun w a n c n2 c2=>Lib.run_eql_slice_nil w _ _ a n c n2 c2 u
 go_enter Tryz.func35,Tryz.ntmps35
 go_wp2
 go_ret
 exact⟨_,rfl,Below.refl _ w⟩
theorem Tryz.af4[Io]:dK Tryz.prog 35 [.fk] .fk:=Tryz.je Tryz.call35 Tryz.PS Tryz.PT _ nd
theorem Tryz.af5[Io]:dK Tryz.prog 35 [.lj 0 []] .fk:=Tryz.je Tryz.call35 Tryz.PS Tryz.PT _ nf
set_option maxHeartbeats 400000 in
theorem Tryz.PU(ad:Addr)(c:Nat)(w:World):Calls Tryz.prog 37 #[.slice (some ad) 0 c] w fun e w'=> ∃ a,e=.returned (.slice a 0 0)/\Below w.heap.size w w':=by
 have u:=Tryz.underlying30
 have mixed:=Tryz.mixed
 have z6: ∀ (w:World) (a:Option Addr) (n c n2 c2:Nat),(binOp .eql 30 (.slice a n c) (.slice none n2 c2)).run Tryz.prog w=.ok (.bool a.isNone) w:=fun w a n c n2 c2=>Lib.run_eql_slice_nil w _ _ a n c n2 c2 u
 go_enter Tryz.func37,Tryz.ntmps37
 go_wp2
 go_ret
 exact⟨_,rfl,(Below.refl _ w).alloc (Nat.le_refl _) _⟩
set_option maxHeartbeats 400000 in
theorem Tryz.PV(c:Nat)(w:World):Calls Tryz.prog 37 #[.slice none 0 c] w fun e w'=> ∃ a,e=.returned (.slice a 0 0)/\Below w.heap.size w w':=by
 have u:=Tryz.underlying30
 have mixed:=Tryz.mixed
 have z6: ∀ (w:World) (a:Option Addr) (n c n2 c2:Nat),(binOp .eql 30 (.slice a n c) (.slice none n2 c2)).run Tryz.prog w=.ok (.bool a.isNone) w:=fun w a n c n2 c2=>Lib.run_eql_slice_nil w _ _ a n c n2 c2 u
 go_enter Tryz.func37,Tryz.ntmps37
 go_wp2
 go_ret
 exact⟨_,rfl,Below.refl _ w⟩
theorem Tryz.af6[Io]:dK Tryz.prog 37 [.fk] .fk:=Tryz.je Tryz.call37 Tryz.PU Tryz.PV _ nd
theorem Tryz.af7[Io]:dK Tryz.prog 37 [.lj 0 []] .fk:=Tryz.je Tryz.call37 Tryz.PU Tryz.PV _ nf
set_option maxHeartbeats 400000 in
theorem Tryz.PW(ad:Addr)(c:Nat)(w:World):Calls Tryz.prog 38 #[.slice (some ad) 0 c] w fun e w'=> ∃ a,e=.returned (.slice a 0 0)/\Below w.heap.size w w':=by
 have u:=Tryz.underlying31
 have mixed:=Tryz.mixed
 have z6: ∀ (w:World) (a:Option Addr) (n c n2 c2:Nat),(binOp .eql 31 (.slice a n c) (.slice none n2 c2)).run Tryz.prog w=.ok (.bool a.isNone) w:=fun w a n c n2 c2=>Lib.run_eql_slice_nil w _ _ a n c n2 c2 u
 go_enter Tryz.func38,Tryz.ntmps38
 go_wp2
 go_ret
 exact⟨_,rfl,(Below.refl _ w).alloc (Nat.le_refl _) _⟩
set_option maxHeartbeats 400000 in
theorem Tryz.PX(c:Nat)(w:World):Calls Tryz.prog 38 #[.slice none 0 c] w fun e w'=> ∃ a,e=.returned (.slice a 0 0)/\Below w.heap.size w w':=by
 have u:=Tryz.underlying31
 have mixed:=Tryz.mixed
 have z6: ∀ (w:World) (a:Option Addr) (n c n2 c2:Nat),(binOp .eql 31 (.slice a n c) (.slice none n2 c2)).run Tryz.prog w=.ok (.bool a.isNone) w:=fun w a n c n2 c2=>Lib.run_eql_slice_nil w _ _ a n c n2 c2 u
 go_enter Tryz.func38,Tryz.ntmps38
 go_wp2
 go_ret
 exact⟨_,rfl,Below.refl _ w⟩
theorem Tryz.af8[Io]:dK Tryz.prog 38 [.fk] .fk:=Tryz.je Tryz.call38 Tryz.PW Tryz.PX _ nd
theorem Tryz.af9[Io]:dK Tryz.prog 38 [.lj 0 []] .fk:=Tryz.je Tryz.call38 Tryz.PW Tryz.PX _ nf
set_option maxHeartbeats 400000 in
theorem Tryz.PY(ad:Addr)(c:Nat)(w:World):Calls Tryz.prog 39 #[.slice (some ad) 0 c] w fun e w'=> ∃ a,e=.returned (.slice a 0 0)/\Below w.heap.size w w':=by
 have u:=Tryz.underlying32
 have mixed:=Tryz.mixed
 have z6: ∀ (w:World) (a:Option Addr) (n c n2 c2:Nat),(binOp .eql 32 (.slice a n c) (.slice none n2 c2)).run Tryz.prog w=.ok (.bool a.isNone) w:=fun w a n c n2 c2=>Lib.run_eql_slice_nil w _ _ a n c n2 c2 u
 go_enter Tryz.func39,Tryz.ntmps39
 go_wp2
 go_ret
 exact⟨_,rfl,(Below.refl _ w).alloc (Nat.le_refl _) _⟩
set_option maxHeartbeats 400000 in
theorem Tryz.PZ(c:Nat)(w:World):Calls Tryz.prog 39 #[.slice none 0 c] w fun e w'=> ∃ a,e=.returned (.slice a 0 0)/\Below w.heap.size w w':=by
 have u:=Tryz.underlying32
 have mixed:=Tryz.mixed
 have z6: ∀ (w:World) (a:Option Addr) (n c n2 c2:Nat),(binOp .eql 32 (.slice a n c) (.slice none n2 c2)).run Tryz.prog w=.ok (.bool a.isNone) w:=fun w a n c n2 c2=>Lib.run_eql_slice_nil w _ _ a n c n2 c2 u
 go_enter Tryz.func39,Tryz.ntmps39
 go_wp2
 go_ret
 exact⟨_,rfl,Below.refl _ w⟩
theorem Tryz.af'[Io]:dK Tryz.prog 39 [.fk] .fk:=Tryz.je Tryz.call39 Tryz.PY Tryz.PZ _ nd
theorem Tryz.aga[Io]:dK Tryz.prog 39 [.lj 0 []] .fk:=Tryz.je Tryz.call39 Tryz.PY Tryz.PZ _ nf
set_option maxHeartbeats 400000 in
theorem Tryz.P0(ad:Addr)(c:Nat)(w:World):Calls Tryz.prog 40 #[.slice (some ad) 0 c] w fun e w'=> ∃ a,e=.returned (.slice a 0 0)/\Below w.heap.size w w':=by
 have u:=Tryz.underlying33
 have mixed:=Tryz.mixed
 have z6: ∀ (w:World) (a:Option Addr) (n c n2 c2:Nat),(binOp .eql 33 (.slice a n c) (.slice none n2 c2)).run Tryz.prog w=.ok (.bool a.isNone) w:=fun w a n c n2 c2=>Lib.run_eql_slice_nil w _ _ a n c n2 c2 u
 go_enter Tryz.func40,Tryz.ntmps40
 go_wp2
 go_ret
 exact⟨_,rfl,(Below.refl _ w).alloc (Nat.le_refl _) _⟩
set_option maxHeartbeats 400000 in
theorem Tryz.P1(c:Nat)(w:World):Calls Tryz.prog 40 #[.slice none 0 c] w fun e w'=> ∃ a,e=.returned (.slice a 0 0)/\Below w.heap.size w w':=by
 have u:=Tryz.underlying33
 have mixed:=Tryz.mixed
 have z6: ∀ (w:World) (a:Option Addr) (n c n2 c2:Nat),(binOp .eql 33 (.slice a n c) (.slice none n2 c2)).run Tryz.prog w=.ok (.bool a.isNone) w:=fun w a n c n2 c2=>Lib.run_eql_slice_nil w _ _ a n c n2 c2 u
 go_enter Tryz.func40,Tryz.ntmps40
 go_wp2
 go_ret
 exact⟨_,rfl,Below.refl _ w⟩
theorem Tryz.agb[Io]:dK Tryz.prog 40 [.fk] .fk:=Tryz.je Tryz.call40 Tryz.P0 Tryz.P1 _ nd
theorem Tryz.agc[Io]:dK Tryz.prog 40 [.lj 0 []] .fk:=Tryz.je Tryz.call40 Tryz.P0 Tryz.P1 _ nf
set_option maxHeartbeats 400000 in
theorem Tryz.P2(ad:Addr)(c:Nat)(w:World):Calls Tryz.prog 41 #[.slice (some ad) 0 c] w fun e w'=> ∃ a,e=.returned (.slice a 0 0)/\Below w.heap.size w w':=by
 have u:=Tryz.underlying45
 have mixed:=Tryz.mixed
 have z6: ∀ (w:World) (a:Option Addr) (n c n2 c2:Nat),(binOp .eql 45 (.slice a n c) (.slice none n2 c2)).run Tryz.prog w=.ok (.bool a.isNone) w:=fun w a n c n2 c2=>Lib.run_eql_slice_nil w _ _ a n c n2 c2 u
 go_enter Tryz.func41,Tryz.ntmps41
 go_wp2
 go_ret
 exact⟨_,rfl,(Below.refl _ w).alloc (Nat.le_refl _) _⟩
set_option maxHeartbeats 400000 in
theorem Tryz.P3(c:Nat)(w:World):Calls Tryz.prog 41 #[.slice none 0 c] w fun e w'=> ∃ a,e=.returned (.slice a 0 0)/\Below w.heap.size w w':=by
 have u:=Tryz.underlying45
 have mixed:=Tryz.mixed
 have z6: ∀ (w:World) (a:Option Addr) (n c n2 c2:Nat),(binOp .eql 45 (.slice a n c) (.slice none n2 c2)).run Tryz.prog w=.ok (.bool a.isNone) w:=fun w a n c n2 c2=>Lib.run_eql_slice_nil w _ _ a n c n2 c2 u
 go_enter Tryz.func41,Tryz.ntmps41
 go_wp2
 go_ret
 exact⟨_,rfl,Below.refl _ w⟩
theorem Tryz.agd[Io]:dK Tryz.prog 41 [.fk] .fk:=Tryz.je Tryz.call41 Tryz.P2 Tryz.P3 _ nd
theorem Tryz.age[Io]:dK Tryz.prog 41 [.lj 0 []] .fk:=Tryz.je Tryz.call41 Tryz.P2 Tryz.P3 _ nf
set_option maxHeartbeats 400000 in
theorem Tryz.P4(ad:Addr)(c:Nat)(w:World):Calls Tryz.prog 79 #[.slice (some ad) 0 c] w fun e w'=> ∃ a,e=.returned (.slice a 0 0)/\Below w.heap.size w w':=by
 have u:=Tryz.underlying37
 have mixed:=Tryz.mixed
 have z6: ∀ (w:World) (a:Option Addr) (n c n2 c2:Nat),(binOp .eql 37 (.slice a n c) (.slice none n2 c2)).run Tryz.prog w=.ok (.bool a.isNone) w:=fun w a n c n2 c2=>Lib.run_eql_slice_nil w _ _ a n c n2 c2 u
 go_enter Tryz.func79,Tryz.ntmps79
 go_wp2
 go_ret
 exact⟨_,rfl,(Below.refl _ w).alloc (Nat.le_refl _) _⟩
set_option maxHeartbeats 400000 in
theorem Tryz.P5(c:Nat)(w:World):Calls Tryz.prog 79 #[.slice none 0 c] w fun e w'=> ∃ a,e=.returned (.slice a 0 0)/\Below w.heap.size w w':=by
 have u:=Tryz.underlying37
 have mixed:=Tryz.mixed
 have z6: ∀ (w:World) (a:Option Addr) (n c n2 c2:Nat),(binOp .eql 37 (.slice a n c) (.slice none n2 c2)).run Tryz.prog w=.ok (.bool a.isNone) w:=fun w a n c n2 c2=>Lib.run_eql_slice_nil w _ _ a n c n2 c2 u
 go_enter Tryz.func79,Tryz.ntmps79
 go_wp2
 go_ret
 exact⟨_,rfl,Below.refl _ w⟩
theorem Tryz.agf[Io]:dK Tryz.prog 79 [.fk] .fk:=Tryz.je Tryz.call79 Tryz.P4 Tryz.P5 _ nd
theorem Tryz.agh[Io]:dK Tryz.prog 79 [.lj 0 []] .fk:=Tryz.je Tryz.call79 Tryz.P4 Tryz.P5 _ nf
end Go.Proofs
