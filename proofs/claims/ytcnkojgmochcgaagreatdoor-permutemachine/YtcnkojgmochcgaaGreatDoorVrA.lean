import Derived.Test.YtcnkojgmochcgaaGreatDoorEnvQ
import Derived.Test.YtcnkojgmochcgaaGreatDoorLfK
import Derived.WalkKit
import Derived.Lib.Walk
import Derived.Lib.SliceRun
noncomputable section
namespace Go.Proofs
open Go.Ab Go.Ab.Lf Go.RowKit Go.Lib
set_option maxRecDepth 100000
def Cl(f:Nat):Prop:= ∀ (ad:Option Addr) (c:Nat) (w:World),Calls Tryz.prog f #[.slice ad 0 c] w fun e w'=> ∃ a,e=.returned (.slice a 0 0)/\Below w.heap.size w w'
theorem Tryz.acy[Io]{f:Nat}(hc: ∀ az w,(callFunc f az).run Tryz.prog w=.ok (.enter f az) w)(k:Cl f)(A:AV)(hA: ∀ g w v,VR g w A v-> ∃ a c,v=.slice a 0 c):oe Tryz.prog f [A] .pO:=by
 refine⟨hc,fun g w vs hi ht hv=>?_⟩
 simp only[cH]at hv
 obtain⟨v,l,rfl,hv,rfl⟩:=hv
 obtain⟨a,c,rfl⟩:=hA g w v hv
 refine(k a c w).mono ?_
 rintro e w' ⟨a',rfl,B⟩
 refine⟨_,rfl,⟨B.os,B.tape,B.output,B.size,B.block⟩,?_⟩
 simp only[VR]
 exact⟨a',rfl⟩
theorem afh[Io](g:G)(w:World)(v:Value)(h:VR g w .pO v): ∃ a c,v=.slice a 0 c:=by
 simp only[VR]at h
 obtain⟨a,rfl⟩:=h
 exact⟨a,0,rfl⟩
theorem afi[Io](g:G)(w:World)(v:Value)(h:VR g w (.rJ 0 []) v): ∃ a c,v=.slice a 0 c:=by
 simp only[VR]at h
 obtain⟨a,c,rfl,_⟩:=h
 exact⟨a,c,rfl⟩
theorem yY{t e:TypeId}(u:Tryz.prog.underlying t=some (.slice e)): ∀ (w:World) (a:Option Addr) (n c n2 c2:Nat),(binOp .eql t (.slice a n c) (.slice none n2 c2)).run Tryz.prog w=.ok (.bool a.isNone) w:=fun w a n c n2 c2=>Lib.run_eql_slice_nil w _ _ a n c n2 c2 u
set_option maxHeartbeats 400000 in
theorem Tryz.arP:Cl 67:=by
 intro ad c w
 have mixed:=Tryz.mixed
 have Qc:=yY Tryz.underlying24
 cases ad<;>
 ·go_enter Tryz.func67,Tryz.ntmps67
  go_wp2
  go_ret
  first|exact⟨_,rfl,Below.refl _ w⟩|exact⟨_,rfl,(Below.refl _ w).alloc (Nat.le_refl _) _⟩
set_option maxHeartbeats 400000 in
theorem Tryz.arQ:Cl 69:=by
 intro ad c w
 have mixed:=Tryz.mixed
 have Qc:=yY Tryz.underlying41
 cases ad<;>
 ·go_enter Tryz.func69,Tryz.ntmps69
  go_wp2
  go_ret
  first|exact⟨_,rfl,Below.refl _ w⟩|exact⟨_,rfl,(Below.refl _ w).alloc (Nat.le_refl _) _⟩
set_option maxHeartbeats 400000 in
theorem Tryz.arR:Cl 70:=by
 intro ad c w
 have mixed:=Tryz.mixed
 have Qc:=yY Tryz.underlying23
 cases ad<;>
 ·go_enter Tryz.func70,Tryz.ntmps70
  go_wp2
  go_ret
  first|exact⟨_,rfl,Below.refl _ w⟩|exact⟨_,rfl,(Below.refl _ w).alloc (Nat.le_refl _) _⟩
set_option maxHeartbeats 400000 in
theorem Tryz.arS:Cl 71:=by
 intro ad c w
 have mixed:=Tryz.mixed
 have Qc:=yY Tryz.underlying42
 cases ad<;>
 ·go_enter Tryz.func71,Tryz.ntmps71
  go_wp2
  go_ret
  first|exact⟨_,rfl,Below.refl _ w⟩|exact⟨_,rfl,(Below.refl _ w).alloc (Nat.le_refl _) _⟩
set_option maxHeartbeats 400000 in
theorem Tryz.arT:Cl 72:=by
 intro ad c w
 have mixed:=Tryz.mixed
 have Qc:=yY Tryz.underlying28
 cases ad<;>
 ·go_enter Tryz.func72,Tryz.ntmps72
  go_wp2
  go_ret
  first|exact⟨_,rfl,Below.refl _ w⟩|exact⟨_,rfl,(Below.refl _ w).alloc (Nat.le_refl _) _⟩
set_option maxHeartbeats 400000 in
theorem Tryz.ajy:Cl 116:=by
 intro ad c w
 have mixed:=Tryz.mixed
 have Qc:=yY Tryz.underlying50
 cases ad<;>
 ·go_enter Tryz.func116,Tryz.ntmps116
  go_wp2
  go_ret
  first|exact⟨_,rfl,Below.refl _ w⟩|exact⟨_,rfl,(Below.refl _ w).alloc (Nat.le_refl _) _⟩
set_option maxHeartbeats 400000 in
theorem Tryz.ajz:Cl 117:=by
 intro ad c w
 have mixed:=Tryz.mixed
 have Qc:=yY Tryz.underlying51
 cases ad<;>
 ·go_enter Tryz.func117,Tryz.ntmps117
  go_wp2
  go_ret
  first|exact⟨_,rfl,Below.refl _ w⟩|exact⟨_,rfl,(Below.refl _ w).alloc (Nat.le_refl _) _⟩
set_option maxHeartbeats 400000 in
theorem Tryz.ajA:Cl 118:=by
 intro ad c w
 have mixed:=Tryz.mixed
 have Qc:=yY Tryz.underlying52
 cases ad<;>
 ·go_enter Tryz.func118,Tryz.ntmps118
  go_wp2
  go_ret
  first|exact⟨_,rfl,Below.refl _ w⟩|exact⟨_,rfl,(Below.refl _ w).alloc (Nat.le_refl _) _⟩
set_option maxHeartbeats 400000 in
theorem Tryz.ajB:Cl 120:=by
 intro ad c w
 have mixed:=Tryz.mixed
 have Qc:=yY Tryz.underlying53
 cases ad<;>
 ·go_enter Tryz.func120,Tryz.ntmps120
  go_wp2
  go_ret
  first|exact⟨_,rfl,Below.refl _ w⟩|exact⟨_,rfl,(Below.refl _ w).alloc (Nat.le_refl _) _⟩
set_option maxHeartbeats 400000 in
theorem Tryz.ajC:Cl 121:=by
 intro ad c w
 have mixed:=Tryz.mixed
 have Qc:=yY Tryz.underlying54
 cases ad<;>
 ·go_enter Tryz.func121,Tryz.ntmps121
  go_wp2
  go_ret
  first|exact⟨_,rfl,Below.refl _ w⟩|exact⟨_,rfl,(Below.refl _ w).alloc (Nat.le_refl _) _⟩
set_option maxHeartbeats 400000 in
theorem Tryz.ajD:Cl 122:=by
 intro ad c w
 have mixed:=Tryz.mixed
 have Qc:=yY Tryz.underlying55
 cases ad<;>
 ·go_enter Tryz.func122,Tryz.ntmps122
  go_wp2
  go_ret
  first|exact⟨_,rfl,Below.refl _ w⟩|exact⟨_,rfl,(Below.refl _ w).alloc (Nat.le_refl _) _⟩
set_option maxHeartbeats 400000 in
theorem Tryz.ajE:Cl 123:=by
 intro ad c w
 have mixed:=Tryz.mixed
 have Qc:=yY Tryz.underlying56
 cases ad<;>
 ·go_enter Tryz.func123,Tryz.ntmps123
  go_wp2
  go_ret
  first|exact⟨_,rfl,Below.refl _ w⟩|exact⟨_,rfl,(Below.refl _ w).alloc (Nat.le_refl _) _⟩
set_option maxHeartbeats 400000 in
theorem Tryz.ajF:Cl 124:=by
 intro ad c w
 have mixed:=Tryz.mixed
 have Qc:=yY Tryz.underlying146
 cases ad<;>
 ·go_enter Tryz.func124,Tryz.ntmps124
  go_wp2
  go_ret
  first|exact⟨_,rfl,Below.refl _ w⟩|exact⟨_,rfl,(Below.refl _ w).alloc (Nat.le_refl _) _⟩
set_option maxHeartbeats 400000 in
theorem Tryz.ajG:Cl 221:=by
 intro ad c w
 have mixed:=Tryz.mixed
 have Qc:=yY Tryz.underlying126
 cases ad<;>
 ·go_enter Tryz.func221,Tryz.ntmps221
  go_wp2
  go_ret
  first|exact⟨_,rfl,Below.refl _ w⟩|exact⟨_,rfl,(Below.refl _ w).alloc (Nat.le_refl _) _⟩
theorem Tryz.NF[Io]{f:Nat}(hc: ∀ az w,(callFunc f az).run Tryz.prog w=.ok (.enter f az) w)(k:Cl f):oe Tryz.prog f [.pO] .pO/\oe Tryz.prog f [.rJ 0 []] .pO:=⟨Tryz.acy hc k _ afh,Tryz.acy hc k _ afi⟩
end Go.Proofs
