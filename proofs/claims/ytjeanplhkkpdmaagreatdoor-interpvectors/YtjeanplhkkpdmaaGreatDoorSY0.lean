import Derived.Test.YtjeanplhkkpdmaaGreatDoorEnvI
import Derived.WalkKit
import Derived.Lib.Walk
import Derived.Lib.SliceRun
noncomputable section
namespace Go.Proofs
open Go.Ab Go.Ab.Lf Go.RowKit Go.Lib
set_option maxRecDepth 100000
def Cl(f:Nat):Prop:= ∀ (ad:Option Addr) (c:Nat) (w:World),Calls Tryz.prog f #[.slice ad 0 c] w fun e w'=> ∃ a,e=.returned (.slice a 0 0)/\Below w.heap.size w w'
theorem Tryz.ajJ[Io]{f:Nat}(hc: ∀ az w,(callFunc f az).run Tryz.prog w=.ok (.enter f az) w)(k:Cl f)(A:AV)(hA: ∀ g w v,VR g w A v-> ∃ a c,v=.slice a 0 c):vo Tryz.prog f [A] .pR:=by
 refine⟨hc,fun g w vs hi ht hv=>?_⟩;simp only[jy]at hv;obtain⟨v,l,rfl,hv,rfl⟩:=hv;obtain⟨a,c,rfl⟩:=hA g w v hv;refine(k a c w).mono ?_;rintro e w' ⟨a',rfl,B⟩;refine⟨_,rfl,⟨B.os,B.tape,B.output,B.size,B.block⟩,?_⟩;simp only[VR];exact⟨a',rfl⟩
theorem aqm[Io](g:G)(w:World)(v:Value)(h:VR g w .pR v): ∃ a c,v=.slice a 0 c:=by
 simp only[VR]at h;obtain⟨a,rfl⟩:=h;exact⟨a,0,rfl⟩
theorem aqn[Io](g:G)(w:World)(v:Value)(h:VR g w (.vG 0 []) v): ∃ a c,v=.slice a 0 c:=by
 simp only[VR]at h;obtain⟨a,c,rfl,_⟩:=h;exact⟨a,c,rfl⟩
theorem Ed{t e:TypeId}(u:Tryz.prog.underlying t=some (.slice e)): ∀ (w:World) (a:Option Addr) (n c n2 c2:Nat),(binOp .eql t (.slice a n c) (.slice none n2 c2)).run Tryz.prog w=.ok (.bool a.isNone) w:=fun w a n c n2 c2=>Lib.run_eql_slice_nil w _ _ a n c n2 c2 u
set_option maxHeartbeats 400000 in
theorem Tryz.aCu:Cl 84:=by
 intro ad c w;have mixed:=Tryz.mixed;have q22:=Ed Tryz.underlying41
 cases ad<;>
 ·go_enter Tryz.func84,Tryz.ntmps84
  go_wp2
  go_ret
  first|exact⟨_,rfl,Below.refl _ w⟩|exact⟨_,rfl,(Below.refl _ w).alloc (Nat.le_refl _) _⟩
set_option maxHeartbeats 400000 in
theorem Tryz.aCv:Cl 85:=by
 intro ad c w;have mixed:=Tryz.mixed;have q22:=Ed Tryz.underlying23
 cases ad<;>
 ·go_enter Tryz.func85,Tryz.ntmps85
  go_wp2
  go_ret
  first|exact⟨_,rfl,Below.refl _ w⟩|exact⟨_,rfl,(Below.refl _ w).alloc (Nat.le_refl _) _⟩
set_option maxHeartbeats 400000 in
theorem Tryz.aCw:Cl 86:=by
 intro ad c w;have mixed:=Tryz.mixed;have q22:=Ed Tryz.underlying42
 cases ad<;>
 ·go_enter Tryz.func86,Tryz.ntmps86
  go_wp2
  go_ret
  first|exact⟨_,rfl,Below.refl _ w⟩|exact⟨_,rfl,(Below.refl _ w).alloc (Nat.le_refl _) _⟩
set_option maxHeartbeats 400000 in
theorem Tryz.aCx:Cl 87:=by
 intro ad c w;have mixed:=Tryz.mixed;have q22:=Ed Tryz.underlying43
 cases ad<;>
 ·go_enter Tryz.func87,Tryz.ntmps87
  go_wp2
  go_ret
  first|exact⟨_,rfl,Below.refl _ w⟩|exact⟨_,rfl,(Below.refl _ w).alloc (Nat.le_refl _) _⟩
set_option maxHeartbeats 400000 in
theorem Tryz.aCy:Cl 88:=by
 intro ad c w;have mixed:=Tryz.mixed;have q22:=Ed Tryz.underlying44
 cases ad<;>
 ·go_enter Tryz.func88,Tryz.ntmps88
  go_wp2
  go_ret
  first|exact⟨_,rfl,Below.refl _ w⟩|exact⟨_,rfl,(Below.refl _ w).alloc (Nat.le_refl _) _⟩
set_option maxHeartbeats 400000 in
theorem Tryz.aCz:Cl 90:=by
 intro ad c w;have mixed:=Tryz.mixed;have q22:=Ed Tryz.underlying45
 cases ad<;>
 ·go_enter Tryz.func90,Tryz.ntmps90
  go_wp2
  go_ret
  first|exact⟨_,rfl,Below.refl _ w⟩|exact⟨_,rfl,(Below.refl _ w).alloc (Nat.le_refl _) _⟩
set_option maxHeartbeats 400000 in
theorem Tryz.aCA:Cl 91:=by
 intro ad c w;have mixed:=Tryz.mixed;have q22:=Ed Tryz.underlying46
 cases ad<;>
 ·go_enter Tryz.func91,Tryz.ntmps91
  go_wp2
  go_ret
  first|exact⟨_,rfl,Below.refl _ w⟩|exact⟨_,rfl,(Below.refl _ w).alloc (Nat.le_refl _) _⟩
set_option maxHeartbeats 400000 in
theorem Tryz.aCB:Cl 92:=by
 intro ad c w;have mixed:=Tryz.mixed;have q22:=Ed Tryz.underlying47
 cases ad<;>
 ·go_enter Tryz.func92,Tryz.ntmps92
  go_wp2
  go_ret
  first|exact⟨_,rfl,Below.refl _ w⟩|exact⟨_,rfl,(Below.refl _ w).alloc (Nat.le_refl _) _⟩
set_option maxHeartbeats 400000 in
theorem Tryz.aCC:Cl 93:=by
 intro ad c w;have mixed:=Tryz.mixed;have q22:=Ed Tryz.underlying48
 cases ad<;>
 ·go_enter Tryz.func93,Tryz.ntmps93
  go_wp2
  go_ret
  first|exact⟨_,rfl,Below.refl _ w⟩|exact⟨_,rfl,(Below.refl _ w).alloc (Nat.le_refl _) _⟩
set_option maxHeartbeats 400000 in
theorem Tryz.aCD:Cl 94:=by
 intro ad c w;have mixed:=Tryz.mixed;have q22:=Ed Tryz.underlying117
 cases ad<;>
 ·go_enter Tryz.func94,Tryz.ntmps94
  go_wp2
  go_ret
  first|exact⟨_,rfl,Below.refl _ w⟩|exact⟨_,rfl,(Below.refl _ w).alloc (Nat.le_refl _) _⟩
set_option maxHeartbeats 400000 in
theorem Tryz.awH:Cl 144:=by
 intro ad c w;have mixed:=Tryz.mixed;have q22:=Ed Tryz.underlying35
 cases ad<;>
 ·go_enter Tryz.func144,Tryz.ntmps144
  go_wp2
  go_ret
  first|exact⟨_,rfl,Below.refl _ w⟩|exact⟨_,rfl,(Below.refl _ w).alloc (Nat.le_refl _) _⟩
set_option maxHeartbeats 400000 in
theorem Tryz.aCE:Cl 59:=by
 intro ad c w;have mixed:=Tryz.mixed;have q22:=Ed Tryz.underlying29
 cases ad<;>
 ·go_enter Tryz.func59,Tryz.ntmps59
  go_wp2
  go_ret
  first|exact⟨_,rfl,Below.refl _ w⟩|exact⟨_,rfl,(Below.refl _ w).alloc (Nat.le_refl _) _⟩
theorem Tryz.Un[Io]{f:Nat}(hc: ∀ az w,(callFunc f az).run Tryz.prog w=.ok (.enter f az) w)(k:Cl f):vo Tryz.prog f [.pR] .pR/\vo Tryz.prog f [.vG 0 []] .pR:=⟨Tryz.ajJ hc k _ aqm,Tryz.ajJ hc k _ aqn⟩
end Go.Proofs
