import Derived.Test.YtcnkojgmochcgaaGreatDoorEnvQ
import Derived.Test.YtcnkojgmochcgaaGreatDoorLfK
import Derived.WalkKit
import Derived.Lib.Walk
import Derived.Lib.SliceRun
noncomputable section
namespace Go.Proofs
open Go.Ab Go.Ab.Lf Go.RowKit Go.Lib
set_option maxRecDepth 100000
def Cl(f:Nat):Prop:= ∀ (ad:Option Addr) (c:Nat) (w:World),Calls Tryz.prog f #[.slice ad 0 c] w fun e w'=> ∃ a,e=.returned (.slice a 0 0)/\Below w.heap.size w w'
theorem Tryz.abu[Io]{f:Nat}(hc: ∀ az w,(callFunc f az).run Tryz.prog w=.ok (.enter f az) w)(k:Cl f)(A:AV)(hA: ∀ g w v,VR g w A v-> ∃ a c,v=.slice a 0 c):oL Tryz.prog f [A] .qi:=by
 refine⟨hc,fun g w vs hi ht hv=>?_⟩
 simp only[cJ]at hv
 obtain⟨v,l,rfl,hv,rfl⟩:=hv
 obtain⟨a,c,rfl⟩:=hA g w v hv
 refine(k a c w).mono ?_
 rintro e w' ⟨a',rfl,B⟩
 refine⟨_,rfl,⟨B.os,B.tape,B.output,B.size,B.block⟩,?_⟩
 simp only[VR]
 exact⟨a',rfl⟩
theorem aen[Io](g:G)(w:World)(v:Value)(h:VR g w .qi v): ∃ a c,v=.slice a 0 c:=by
 simp only[VR]at h
 obtain⟨a,rfl⟩:=h
 exact⟨a,0,rfl⟩
theorem aeo[Io](g:G)(w:World)(v:Value)(h:VR g w (.sU 0 []) v): ∃ a c,v=.slice a 0 c:=by
 simp only[VR]at h
 obtain⟨a,c,rfl,_⟩:=h
 exact⟨a,c,rfl⟩
theorem zT{t e:TypeId}(u:Tryz.prog.underlying t=some (.slice e)): ∀ (w:World) (a:Option Addr) (n c n2 c2:Nat),(binOp .eql t (.slice a n c) (.slice none n2 c2)).run Tryz.prog w=.ok (.bool a.isNone) w:=fun w a n c n2 c2=>Lib.run_eql_slice_nil w _ _ a n c n2 c2 u
set_option maxHeartbeats 400000 in
theorem Tryz.ark:Cl 67:=by
 intro ad c w
 have mixed:=Tryz.mixed
 have Pv:=zT Tryz.underlying24
 cases ad<;>
 ·go_enter Tryz.func67,Tryz.ntmps67
  go_wp2
  go_ret
  first|exact⟨_,rfl,Below.refl _ w⟩|exact⟨_,rfl,(Below.refl _ w).alloc (Nat.le_refl _) _⟩
set_option maxHeartbeats 400000 in
theorem Tryz.arl:Cl 69:=by
 intro ad c w
 have mixed:=Tryz.mixed
 have Pv:=zT Tryz.underlying41
 cases ad<;>
 ·go_enter Tryz.func69,Tryz.ntmps69
  go_wp2
  go_ret
  first|exact⟨_,rfl,Below.refl _ w⟩|exact⟨_,rfl,(Below.refl _ w).alloc (Nat.le_refl _) _⟩
set_option maxHeartbeats 400000 in
theorem Tryz.arn:Cl 70:=by
 intro ad c w
 have mixed:=Tryz.mixed
 have Pv:=zT Tryz.underlying23
 cases ad<;>
 ·go_enter Tryz.func70,Tryz.ntmps70
  go_wp2
  go_ret
  first|exact⟨_,rfl,Below.refl _ w⟩|exact⟨_,rfl,(Below.refl _ w).alloc (Nat.le_refl _) _⟩
set_option maxHeartbeats 400000 in
theorem Tryz.aro:Cl 71:=by
 intro ad c w
 have mixed:=Tryz.mixed
 have Pv:=zT Tryz.underlying42
 cases ad<;>
 ·go_enter Tryz.func71,Tryz.ntmps71
  go_wp2
  go_ret
  first|exact⟨_,rfl,Below.refl _ w⟩|exact⟨_,rfl,(Below.refl _ w).alloc (Nat.le_refl _) _⟩
set_option maxHeartbeats 400000 in
theorem Tryz.arp:Cl 72:=by
 intro ad c w
 have mixed:=Tryz.mixed
 have Pv:=zT Tryz.underlying28
 cases ad<;>
 ·go_enter Tryz.func72,Tryz.ntmps72
  go_wp2
  go_ret
  first|exact⟨_,rfl,Below.refl _ w⟩|exact⟨_,rfl,(Below.refl _ w).alloc (Nat.le_refl _) _⟩
set_option maxHeartbeats 400000 in
theorem Tryz.aiy:Cl 116:=by
 intro ad c w
 have mixed:=Tryz.mixed
 have Pv:=zT Tryz.underlying50
 cases ad<;>
 ·go_enter Tryz.func116,Tryz.ntmps116
  go_wp2
  go_ret
  first|exact⟨_,rfl,Below.refl _ w⟩|exact⟨_,rfl,(Below.refl _ w).alloc (Nat.le_refl _) _⟩
set_option maxHeartbeats 400000 in
theorem Tryz.aiz:Cl 117:=by
 intro ad c w
 have mixed:=Tryz.mixed
 have Pv:=zT Tryz.underlying51
 cases ad<;>
 ·go_enter Tryz.func117,Tryz.ntmps117
  go_wp2
  go_ret
  first|exact⟨_,rfl,Below.refl _ w⟩|exact⟨_,rfl,(Below.refl _ w).alloc (Nat.le_refl _) _⟩
set_option maxHeartbeats 400000 in
theorem Tryz.aiA:Cl 118:=by
 intro ad c w
 have mixed:=Tryz.mixed
 have Pv:=zT Tryz.underlying52
 cases ad<;>
 ·go_enter Tryz.func118,Tryz.ntmps118
  go_wp2
  go_ret
  first|exact⟨_,rfl,Below.refl _ w⟩|exact⟨_,rfl,(Below.refl _ w).alloc (Nat.le_refl _) _⟩
set_option maxHeartbeats 400000 in
theorem Tryz.aiB:Cl 120:=by
 intro ad c w
 have mixed:=Tryz.mixed
 have Pv:=zT Tryz.underlying53
 cases ad<;>
 ·go_enter Tryz.func120,Tryz.ntmps120
  go_wp2
  go_ret
  first|exact⟨_,rfl,Below.refl _ w⟩|exact⟨_,rfl,(Below.refl _ w).alloc (Nat.le_refl _) _⟩
set_option maxHeartbeats 400000 in
theorem Tryz.aiC:Cl 121:=by
 intro ad c w
 have mixed:=Tryz.mixed
 have Pv:=zT Tryz.underlying54
 cases ad<;>
 ·go_enter Tryz.func121,Tryz.ntmps121
  go_wp2
  go_ret
  first|exact⟨_,rfl,Below.refl _ w⟩|exact⟨_,rfl,(Below.refl _ w).alloc (Nat.le_refl _) _⟩
set_option maxHeartbeats 400000 in
theorem Tryz.aiD:Cl 122:=by
 intro ad c w
 have mixed:=Tryz.mixed
 have Pv:=zT Tryz.underlying55
 cases ad<;>
 ·go_enter Tryz.func122,Tryz.ntmps122
  go_wp2
  go_ret
  first|exact⟨_,rfl,Below.refl _ w⟩|exact⟨_,rfl,(Below.refl _ w).alloc (Nat.le_refl _) _⟩
set_option maxHeartbeats 400000 in
theorem Tryz.aiE:Cl 123:=by
 intro ad c w
 have mixed:=Tryz.mixed
 have Pv:=zT Tryz.underlying56
 cases ad<;>
 ·go_enter Tryz.func123,Tryz.ntmps123
  go_wp2
  go_ret
  first|exact⟨_,rfl,Below.refl _ w⟩|exact⟨_,rfl,(Below.refl _ w).alloc (Nat.le_refl _) _⟩
set_option maxHeartbeats 400000 in
theorem Tryz.aiF:Cl 124:=by
 intro ad c w
 have mixed:=Tryz.mixed
 have Pv:=zT Tryz.underlying146
 cases ad<;>
 ·go_enter Tryz.func124,Tryz.ntmps124
  go_wp2
  go_ret
  first|exact⟨_,rfl,Below.refl _ w⟩|exact⟨_,rfl,(Below.refl _ w).alloc (Nat.le_refl _) _⟩
set_option maxHeartbeats 400000 in
theorem Tryz.aiG:Cl 221:=by
 intro ad c w
 have mixed:=Tryz.mixed
 have Pv:=zT Tryz.underlying126
 cases ad<;>
 ·go_enter Tryz.func221,Tryz.ntmps221
  go_wp2
  go_ret
  first|exact⟨_,rfl,Below.refl _ w⟩|exact⟨_,rfl,(Below.refl _ w).alloc (Nat.le_refl _) _⟩
theorem Tryz.M6[Io]{f:Nat}(hc: ∀ az w,(callFunc f az).run Tryz.prog w=.ok (.enter f az) w)(k:Cl f):oL Tryz.prog f [.qi] .qi/\oL Tryz.prog f [.sU 0 []] .qi:=⟨Tryz.abu hc k _ aen,Tryz.abu hc k _ aeo⟩
end Go.Proofs
