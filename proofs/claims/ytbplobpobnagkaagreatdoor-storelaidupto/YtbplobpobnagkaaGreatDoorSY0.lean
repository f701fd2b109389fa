import Derived.Test.YtbplobpobnagkaaGreatDoorEnvS
import Derived.Test.YtbplobpobnagkaaGreatDoorLfJ
import Derived.WalkKit
import Derived.Lib.Walk
import Derived.Lib.SliceRun
noncomputable section
namespace Go.Proofs
open Go.Ab Go.Ab.Lf Go.RowKit Go.Lib
set_option maxRecDepth 100000
theorem Tryz.jd[Io]{f:Nat}(hc: ∀ az w,(callFunc f az).run Tryz.prog w=.ok (.enter f az) w)(k0: ∀ (ad:Addr) (c:Nat) (w:World),Calls Tryz.prog f #[.slice (some ad) 0 c] w fun e w'=> ∃ a,e=.returned (.slice a 0 0)/\Below w.heap.size w w')
 (k1: ∀ (c:Nat) (w:World),Calls Tryz.prog f #[.slice none 0 c] w fun e w'=> ∃ a,e=.returned (.slice a 0 0)/\Below w.heap.size w w')(A:AV)(hA: ∀ g w v,VR g w A v-> ∃ a c,v=.slice a 0 c):dL Tryz.prog f [A] .fm:=by
 refine⟨hc,fun g w vs hi ht hv=>?_⟩
 simp only[bD]at hv
 obtain⟨v,l,rfl,hv,rfl⟩:=hv
 obtain⟨a,c,rfl⟩:=hA g w v hv
 have k:Calls Tryz.prog f #[.slice a 0 c] w fun e w'=> ∃ a,e=.returned (.slice a 0 0)/\Below w.heap.size w w':=by
  cases a with
  |none=>exact k1 c w
  |some a=>exact k0 a c w
 refine k.mono ?_
 rintro e w' ⟨a',rfl,B⟩
 refine⟨_,rfl,⟨B.os,B.tape,B.output,B.size,B.block⟩,?_⟩
 simp only[VR]
 exact⟨a',rfl⟩
theorem mT[Io](g:G)(w:World)(v:Value)(h:VR g w .fm v): ∃ a c,v=.slice a 0 c:=by
 simp only[VR]at h
 obtain⟨a,rfl⟩:=h
 exact⟨a,0,rfl⟩
theorem mU[Io](g:G)(w:World)(v:Value)(h:VR g w (.kX 0 []) v): ∃ a c,v=.slice a 0 c:=by
 simp only[VR]at h
 obtain⟨a,c,rfl,_⟩:=h
 exact⟨a,c,rfl⟩
set_option maxHeartbeats 400000 in
theorem Tryz.Pw(ad:Addr)(c:Nat)(w:World):Calls Tryz.prog 31 #[.slice (some ad) 0 c] w fun e w'=> ∃ a,e=.returned (.slice a 0 0)/\Below w.heap.size w w':=by
 have u:=Tryz.underlying25
 have mixed:=Tryz.mixed
 have zP: ∀ (w:World) (a:Option Addr) (n c n2 c2:Nat),(binOp .eql 25 (.slice a n c) (.slice none n2 c2)).run Tryz.prog w=.ok (.bool a.isNone) w:=fun w a n c n2 c2=>Lib.run_eql_slice_nil w _ _ a n c n2 c2 u
 go_enter Tryz.func31,Tryz.ntmps31
 go_wp2
 go_ret
 exact⟨_,rfl,(Below.refl _ w).alloc (Nat.le_refl _) _⟩
set_option maxHeartbeats 400000 in
theorem Tryz.Px(c:Nat)(w:World):Calls Tryz.prog 31 #[.slice none 0 c] w fun e w'=> ∃ a,e=.returned (.slice a 0 0)/\Below w.heap.size w w':=by
 have u:=Tryz.underlying25
 have mixed:=Tryz.mixed
 have zP: ∀ (w:World) (a:Option Addr) (n c n2 c2:Nat),(binOp .eql 25 (.slice a n c) (.slice none n2 c2)).run Tryz.prog w=.ok (.bool a.isNone) w:=fun w a n c n2 c2=>Lib.run_eql_slice_nil w _ _ a n c n2 c2 u
 go_enter Tryz.func31,Tryz.ntmps31
 go_wp2
 go_ret
 exact⟨_,rfl,Below.refl _ w⟩
theorem Tryz.afi[Io]:dL Tryz.prog 31 [.fm] .fm:=Tryz.jd Tryz.call31 Tryz.Pw Tryz.Px _ mT
theorem Tryz.afj[Io]:dL Tryz.prog 31 [.kX 0 []] .fm:=Tryz.jd Tryz.call31 Tryz.Pw Tryz.Px _ mU
set_option maxHeartbeats 400000 in
theorem Tryz.Py(ad:Addr)(c:Nat)(w:World):Calls Tryz.prog 32 #[.slice (some ad) 0 c] w fun e w'=> ∃ a,e=.returned (.slice a 0 0)/\Below w.heap.size w w':=by
 have u:=Tryz.underlying27
 have mixed:=Tryz.mixed
 have zP: ∀ (w:World) (a:Option Addr) (n c n2 c2:Nat),(binOp .eql 27 (.slice a n c) (.slice none n2 c2)).run Tryz.prog w=.ok (.bool a.isNone) w:=fun w a n c n2 c2=>Lib.run_eql_slice_nil w _ _ a n c n2 c2 u
 go_enter Tryz.func32,Tryz.ntmps32
 go_wp2
 go_ret
 exact⟨_,rfl,(Below.refl _ w).alloc (Nat.le_refl _) _⟩
set_option maxHeartbeats 400000 in
theorem Tryz.Pz(c:Nat)(w:World):Calls Tryz.prog 32 #[.slice none 0 c] w fun e w'=> ∃ a,e=.returned (.slice a 0 0)/\Below w.heap.size w w':=by
 have u:=Tryz.underlying27
 have mixed:=Tryz.mixed
 have zP: ∀ (w:World) (a:Option Addr) (n c n2 c2:Nat),(binOp .eql 27 (.slice a n c) (.slice none n2 c2)).run Tryz.prog w=.ok (.bool a.isNone) w:=fun w a n c n2 c2=>Lib.run_eql_slice_nil w _ _ a n c n2 c2 u
 go_enter Tryz.func32,Tryz.ntmps32
 go_wp2
 go_ret
 exact⟨_,rfl,Below.refl _ w⟩
theorem Tryz.afk[Io]:dL Tryz.prog 32 [.fm] .fm:=Tryz.jd Tryz.call32 Tryz.Py Tryz.Pz _ mT
theorem Tryz.afl[Io]:dL Tryz.prog 32 [.kX 0 []] .fm:=Tryz.jd Tryz.call32 Tryz.Py Tryz.Pz _ mU
set_option maxHeartbeats 400000 in
theorem Tryz.PA(ad:Addr)(c:Nat)(w:World):Calls Tryz.prog 33 #[.slice (some ad) 0 c] w fun e w'=> ∃ a,e=.returned (.slice a 0 0)/\Below w.heap.size w w':=by
 have u:=Tryz.underlying26
 have mixed:=Tryz.mixed
 have zP: ∀ (w:World) (a:Option Addr) (n c n2 c2:Nat),(binOp .eql 26 (.slice a n c) (.slice none n2 c2)).run Tryz.prog w=.ok (.bool a.isNone) w:=fun w a n c n2 c2=>Lib.run_eql_slice_nil w _ _ a n c n2 c2 u
 go_enter Tryz.func33,Tryz.ntmps33
 go_wp2
 go_ret
 exact⟨_,rfl,(Below.refl _ w).alloc (Nat.le_refl _) _⟩
set_option maxHeartbeats 400000 in
theorem Tryz.PB(c:Nat)(w:World):Calls Tryz.prog 33 #[.slice none 0 c] w fun e w'=> ∃ a,e=.returned (.slice a 0 0)/\Below w.heap.size w w':=by
 have u:=Tryz.underlying26
 have mixed:=Tryz.mixed
 have zP: ∀ (w:World) (a:Option Addr) (n c n2 c2:Nat),(binOp .eql 26 (.slice a n c) (.slice none n2 c2)).run Tryz.prog w=.ok (.bool a.isNone) w:=fun w a n c n2 c2=>Lib.run_eql_slice_nil w _ _ a n c n2 c2 u
 go_enter Tryz.func33,Tryz.ntmps33
 go_wp2
 go_ret
 exact⟨_,rfl,Below.refl _ w⟩
theorem Tryz.afm[Io]:dL Tryz.prog 33 [.fm] .fm:=Tryz.jd Tryz.call33 Tryz.PA Tryz.PB _ mT
theorem Tryz.afn[Io]:dL Tryz.prog 33 [.kX 0 []] .fm:=Tryz.jd Tryz.call33 Tryz.PA Tryz.PB _ mU
set_option maxHeartbeats 400000 in
theorem Tryz.PC(ad:Addr)(c:Nat)(w:World):Calls Tryz.prog 34 #[.slice (some ad) 0 c] w fun e w'=> ∃ a,e=.returned (.slice a 0 0)/\Below w.heap.size w w':=by
 have u:=Tryz.underlying28
 have mixed:=Tryz.mixed
 have zP: ∀ (w:World) (a:Option Addr) (n c n2 c2:Nat),(binOp .eql 28 (.slice a n c) (.slice none n2 c2)).run Tryz.prog w=.ok (.bool a.isNone) w:=fun w a n c n2 c2=>Lib.run_eql_slice_nil w _ _ a n c n2 c2 u
 go_enter Tryz.func34,Tryz.ntmps34
 go_wp2
 go_ret
 exact⟨_,rfl,(Below.refl _ w).alloc (Nat.le_refl _) _⟩
set_option maxHeartbeats 400000 in
theorem Tryz.PD(c:Nat)(w:World):Calls Tryz.prog 34 #[.slice none 0 c] w fun e w'=> ∃ a,e=.returned (.slice a 0 0)/\Below w.heap.size w w':=by
 have u:=Tryz.underlying28
 have mixed:=Tryz.mixed
 have zP: ∀ (w:World) (a:Option Addr) (n c n2 c2:Nat),(binOp .eql 28 (.slice a n c) (.slice none n2 c2)).run Tryz.prog w=.ok (.bool a.isNone) w:=fun w a n c n2 c2=>Lib.run_eql_slice_nil w _ _ a n c n2 c2 u
 go_enter Tryz.func34,Tryz.ntmps34
 go_wp2
 go_ret
 exact⟨_,rfl,Below.refl _ w⟩
theorem Tryz.afo[Io]:dL Tryz.prog 34 [.fm] .fm:=Tryz.jd Tryz.call34 Tryz.PC Tryz.PD _ mT
theorem Tryz.afp[Io]:dL Tryz.prog 34 [.kX 0 []] .fm:=Tryz.jd Tryz.call34 Tryz.PC Tryz.PD _ mU
set_option maxHeartbeats 400000 in
theorem Tryz.PE(ad:Addr)(c:Nat)(w:World):Calls Tryz.prog 35 #[.slice (some ad) 0 c] w fun e w'=> ∃ a,e=.returned (.slice a 0 0)/\Below w.heap.size w w':=by
 have u:=Tryz.underlying29
 have mixed:=Tryz.mixed
 have zP: ∀ (w:World) (a:Option Addr) (n c n2 c2:Nat),(binOp .eql 29 (.slice a n c) (.slice none n2 c2)).run Tryz.prog w=.ok (.bool a.isNone) w:=fun w a n c n2 c2=>Lib.run_eql_slice_nil w _ _ a n c n2 c2 u
 go_enter Tryz.func35,Tryz.ntmps35
 go_wp2
 go_ret
 exact⟨_,rfl,(Below.refl _ w).alloc (Nat.le_refl _) _⟩
set_option maxHeartbeats 400000 in
theorem Tryz.PF(c:Nat)(w:World):Calls Tryz.prog 35 #[.slice none 0 c] w fun e w'=> ∃ a,e=.returned (.slice a 0 0)/\Below w.heap.size w w':=by
 have u:=Tryz.underlying29
 have mixed:=Tryz.mixed
 have zP: ∀ (w:World) (a:Option Addr) (n c n2 c2:Nat),(binOp .eql 29 (.slice a n c) (.slice none n2 c2)).run Tryz.prog w=.ok (.bool a.isNone) w:=fun w a n c n2 c2=>Lib.run_eql_slice_nil w _ _ a n c n2 c2 u
 go_enter Tryz.func35,Tryz.ntmps35
 go_wp2
 go_ret
 exact⟨_,rfl,Below.refl _ w⟩
theorem Tryz.afq[Io]:dL Tryz.prog 35 [.fm] .fm:=Tryz.jd Tryz.call35 Tryz.PE Tryz.PF _ mT
theorem Tryz.afr[Io]:dL Tryz.prog 35 [.kX 0 []] .fm:=Tryz.jd Tryz.call35 Tryz.PE Tryz.PF _ mU
set_option maxHeartbeats 400000 in
theorem Tryz.PG(ad:Addr)(c:Nat)(w:World):Calls Tryz.prog 37 #[.slice (some ad) 0 c] w fun e w'=> ∃ a,e=.returned (.slice a 0 0)/\Below w.heap.size w w':=by
 have u:=Tryz.underlying30
 have mixed:=Tryz.mixed
 have zP: ∀ (w:World) (a:Option Addr) (n c n2 c2:Nat),(binOp .eql 30 (.slice a n c) (.slice none n2 c2)).run Tryz.prog w=.ok (.bool a.isNone) w:=fun w a n c n2 c2=>Lib.run_eql_slice_nil w _ _ a n c n2 c2 u
 go_enter Tryz.func37,Tryz.ntmps37
 go_wp2
 go_ret
 exact⟨_,rfl,(Below.refl _ w).alloc (Nat.le_refl _) _⟩
set_option maxHeartbeats 400000 in
theorem Tryz.PH(c:Nat)(w:World):Calls Tryz.prog 37 #[.slice none 0 c] w fun e w'=> ∃ a,e=.returned (.slice a 0 0)/\Below w.heap.size w w':=by
 have u:=Tryz.underlying30
 have mixed:=Tryz.mixed
 have zP: ∀ (w:World) (a:Option Addr) (n c n2 c2:Nat),(binOp .eql 30 (.slice a n c) (.slice none n2 c2)).run Tryz.prog w=.ok (.bool a.isNone) w:=fun w a n c n2 c2=>Lib.run_eql_slice_nil w _ _ a n c n2 c2 u
 go_enter Tryz.func37,Tryz.ntmps37
 go_wp2
 go_ret
 exact⟨_,rfl,Below.refl _ w⟩
theorem Tryz.afs[Io]:dL Tryz.prog 37 [.fm] .fm:=Tryz.jd Tryz.call37 Tryz.PG Tryz.PH _ mT
theorem Tryz.aft[Io]:dL Tryz.prog 37 [.kX 0 []] .fm:=Tryz.jd Tryz.call37 Tryz.PG Tryz.PH _ mU
set_option maxHeartbeats 400000 in
theorem Tryz.PJ(ad:Addr)(c:Nat)(w:World):Calls Tryz.prog 38 #[.slice (some ad) 0 c] w fun e w'=> ∃ a,e=.returned (.slice a 0 0)/\Below w.heap.size w w':=by
 have u:=Tryz.underlying31
 have mixed:=Tryz.mixed
 have zP: ∀ (w:World) (a:Option Addr) (n c n2 c2:Nat),(binOp .eql 31 (.slice a n c) (.slice none n2 c2)).run Tryz.prog w=.ok (.bool a.isNone) w:=fun w a n c n2 c2=>Lib.run_eql_slice_nil w _ _ a n c n2 c2 u
 go_enter Tryz.func38,Tryz.ntmps38
 go_wp2
 go_ret
 exact⟨_,rfl,(Below.refl _ w).alloc (Nat.le_refl _) _⟩
set_option maxHeartbeats 400000 in
theorem Tryz.PK(c:Nat)(w:World):Calls Tryz.prog 38 #[.slice none 0 c] w fun e w'=> ∃ a,e=.returned (.slice a 0 0)/\Below w.heap.size w w':=by
 have u:=Tryz.underlying31
 have mixed:=Tryz.mixed
 have zP: ∀ (w:World) (a:Option Addr) (n c n2 c2:Nat),(binOp .eql 31 (.slice a n c) (.slice none n2 c2)).run Tryz.prog w=.ok (.bool a.isNone) w:=fun w a n c n2 c2=>Lib.run_eql_slice_nil w _ _ a n c n2 c2 u
 go_enter Tryz.func38,Tryz.ntmps38
 go_wp2
 go_ret
 exact⟨_,rfl,Below.refl _ w⟩
theorem Tryz.afu[Io]:dL Tryz.prog 38 [.fm] .fm:=Tryz.jd Tryz.call38 Tryz.PJ Tryz.PK _ mT
theorem Tryz.afv[Io]:dL Tryz.prog 38 [.kX 0 []] .fm:=Tryz.jd Tryz.call38 Tryz.PJ Tryz.PK _ mU
set_option maxHeartbeats 400000 in
theorem Tryz.PL(ad:Addr)(c:Nat)(w:World):Calls Tryz.prog 39 #[.slice (some ad) 0 c] w fun e w'=> ∃ a,e=.returned (.slice a 0 0)/\Below w.heap.size w w':=by
 have u:=Tryz.underlying32
 have mixed:=Tryz.mixed
 have zP: ∀ (w:World) (a:Option Addr) (n c n2 c2:Nat),(binOp .eql 32 (.slice a n c) (.slice none n2 c2)).run Tryz.prog w=.ok (.bool a.isNone) w:=fun w a n c n2 c2=>Lib.run_eql_slice_nil w _ _ a n c n2 c2 u
 go_enter Tryz.func39,Tryz.ntmps39
 go_wp2
 go_ret
 exact⟨_,rfl,(Below.refl _ w).alloc (Nat.le_refl _) _⟩
set_option maxHeartbeats 400000 in
theorem Tryz.PM(c:Nat)(w:World):Calls Tryz.prog 39 #[.slice none 0 c] w fun e w'=> ∃ a,e=.returned (.slice a 0 0)/\Below w.heap.size w w':=by
 have u:=Tryz.underlying32
 have mixed:=Tryz.mixed
 have zP: ∀ (w:World) (a:Option Addr) (n c n2 c2:Nat),(binOp .eql 32 (.slice a n c) (.slice none n2 c2)).run Tryz.prog w=.ok (.bool a.isNone) w:=fun w a n c n2 c2=>Lib.run_eql_slice_nil w _ _ a n c n2 c2 u
 go_enter Tryz.func39,Tryz.ntmps39
 go_wp2
 go_ret
 exact⟨_,rfl,Below.refl _ w⟩
theorem Tryz.afw[Io]:dL Tryz.prog 39 [.fm] .fm:=Tryz.jd Tryz.call39 Tryz.PL Tryz.PM _ mT
theorem Tryz.afx[Io]:dL Tryz.prog 39 [.kX 0 []] .fm:=Tryz.jd Tryz.call39 Tryz.PL Tryz.PM _ mU
set_option maxHeartbeats 400000 in
theorem Tryz.PN(ad:Addr)(c:Nat)(w:World):Calls Tryz.prog 40 #[.slice (some ad) 0 c] w fun e w'=> ∃ a,e=.returned (.slice a 0 0)/\Below w.heap.size w w':=by
 have u:=Tryz.underlying33
 have mixed:=Tryz.mixed
 have zP: ∀ (w:World) (a:Option Addr) (n c n2 c2:Nat),(binOp .eql 33 (.slice a n c) (.slice none n2 c2)).run Tryz.prog w=.ok (.bool a.isNone) w:=fun w a n c n2 c2=>Lib.run_eql_slice_nil w _ _ a n c n2 c2 u
 go_enter Tryz.func40,Tryz.ntmps40
 go_wp2
 go_ret
 exact⟨_,rfl,(Below.refl _ w).alloc (Nat.le_refl _) _⟩
set_option maxHeartbeats 400000 in
theorem Tryz.PQ(c:Nat)(w:World):Calls Tryz.prog 40 #[.slice none 0 c] w fun e w'=> ∃ a,e=.returned (.slice a 0 0)/\Below w.heap.size w w':=by
 have u:=Tryz.underlying33
 have mixed:=Tryz.mixed
 have zP: ∀ (w:World) (a:Option Addr) (n c n2 c2:Nat),(binOp .eql 33 (.slice a n c) (.slice none n2 c2)).run Tryz.prog w=.ok (.bool a.isNone) w:=fun w a n c n2 c2=>Lib.run_eql_slice_nil w _ _ a n c n2 c2 u
 go_enter Tryz.func40,Tryz.ntmps40
 go_wp2
 go_ret
 exact⟨_,rfl,Below.refl _ w⟩
theorem Tryz.afy[Io]:dL Tryz.prog 40 [.fm] .fm:=Tryz.jd Tryz.call40 Tryz.PN Tryz.PQ _ mT
theorem Tryz.afz[Io]:dL Tryz.prog 40 [.kX 0 []] .fm:=Tryz.jd Tryz.call40 Tryz.PN Tryz.PQ _ mU
set_option maxHeartbeats 400000 in
theorem Tryz.PR(ad:Addr)(c:Nat)(w:World):Calls Tryz.prog 41 #[.slice (some ad) 0 c] w fun e w'=> ∃ a,e=.returned (.slice a 0 0)/\Below w.heap.size w w':=by
 have u:=Tryz.underlying45
 have mixed:=Tryz.mixed
 have zP: ∀ (w:World) (a:Option Addr) (n c n2 c2:Nat),(binOp .eql 45 (.slice a n c) (.slice none n2 c2)).run Tryz.prog w=.ok (.bool a.isNone) w:=fun w a n c n2 c2=>Lib.run_eql_slice_nil w _ _ a n c n2 c2 u
 go_enter Tryz.func41,Tryz.ntmps41
 go_wp2
 go_ret
 exact⟨_,rfl,(Below.refl _ w).alloc (Nat.le_refl _) _⟩
set_option maxHeartbeats 400000 in
theorem Tryz.PS(c:Nat)(w:World):Calls Tryz.prog 41 #[.slice none 0 c] w fun e w'=> ∃ a,e=.returned (.slice a 0 0)/\Below w.heap.size w w':=by
 have u:=Tryz.underlying45
 have mixed:=Tryz.mixed
 have zP: ∀ (w:World) (a:Option Addr) (n c n2 c2:Nat),(binOp .eql 45 (.slice a n c) (.slice none n2 c2)).run Tryz.prog w=.ok (.bool a.isNone) w:=fun w a n c n2 c2=>Lib.run_eql_slice_nil w _ _ a n c n2 c2 u
 go_enter Tryz.func41,Tryz.ntmps41
 go_wp2
 go_ret
 exact⟨_,rfl,Below.refl _ w⟩
theorem Tryz.afA[Io]:dL Tryz.prog 41 [.fm] .fm:=Tryz.jd Tryz.call41 Tryz.PR Tryz.PS _ mT
theorem Tryz.afB[Io]:dL Tryz.prog 41 [.kX 0 []] .fm:=Tryz.jd Tryz.call41 Tryz.PR Tryz.PS _ mU
set_option maxHeartbeats 400000 in
theorem Tryz.PT(ad:Addr)(c:Nat)(w:World):Calls Tryz.prog 79 #[.slice (some ad) 0 c] w fun e w'=> ∃ a,e=.returned (.slice a 0 0)/\Below w.heap.size w w':=by
 have u:=Tryz.underlying37
 have mixed:=Tryz.mixed
 have zP: ∀ (w:World) (a:Option Addr) (n c n2 c2:Nat),(binOp .eql 37 (.slice a n c) (.slice none n2 c2)).run Tryz.prog w=.ok (.bool a.isNone) w:=fun w a n c n2 c2=>Lib.run_eql_slice_nil w _ _ a n c n2 c2 u
 go_enter Tryz.func79,Tryz.ntmps79
 go_wp2
 go_ret
 exact⟨_,rfl,(Below.refl _ w).alloc (Nat.le_refl _) _⟩
set_option maxHeartbeats 400000 in
theorem Tryz.PU(c:Nat)(w:World):Calls Tryz.prog 79 #[.slice none 0 c] w fun e w'=> ∃ a,e=.returned (.slice a 0 0)/\Below w.heap.size w w':=by
 have u:=Tryz.underlying37
 have mixed:=Tryz.mixed
 have zP: ∀ (w:World) (a:Option Addr) (n c n2 c2:Nat),(binOp .eql 37 (.slice a n c) (.slice none n2 c2)).run Tryz.prog w=.ok (.bool a.isNone) w:=fun w a n c n2 c2=>Lib.run_eql_slice_nil w _ _ a n c n2 c2 u
 go_enter Tryz.func79,Tryz.ntmps79
 go_wp2
 go_ret
 exact⟨_,rfl,Below.refl _ w⟩
theorem Tryz.afC[Io]:dL Tryz.prog 79 [.fm] .fm:=Tryz.jd Tryz.call79 Tryz.PT Tryz.PU _ mT
theorem Tryz.afD[Io]:dL Tryz.prog 79 [.kX 0 []] .fm:=Tryz.jd Tryz.call79 Tryz.PT Tryz.PU _ mU
end Go.Proofs
