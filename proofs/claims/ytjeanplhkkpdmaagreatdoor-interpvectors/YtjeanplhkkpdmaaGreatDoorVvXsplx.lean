import Derived.Test.YtjeanplhkkpdmaaGreatDoorIE
noncomputable section
namespace Go.Proofs.Vv
open Go.Ab Go.Ab.Lf Go.Proofs.Vd
set_option maxRecDepth 1000000
theorem ahG:LV EJ (pP 126) false 1 2 (dg 80 0x223712c383f121326e86fbd2aa58ebcd):=fun V Z D op A B lo hi L a b c d e=>by kernel_rfl
theorem apW:LV Ri Dn true 0 2 (dg 818 0x6f582e262b75aec48ee881c97a11d80878d14dd5ca43687cf1811eae978f179e26a8600c65c82d4b3d00ffbc5826f243d82d2147a80f1cb9fe87e8503b407e189413b85b0be607c35e04c5ca1e2414aa7d553937c84499e0089f884ba79e4013eb7f81d6435b2a73d570554f0d7a2141b2b7b8b332082a5d1a880437a9a867006c75594842435e743b376604f3eaf7f8dfe4e9bbaeefe8388b335f6ce8a4c8b938ab):=fun V Z D op A B lo hi L a b c d e=>by kernel_rfl
theorem ahH:LV Rj Dn false 0 2 (dg 82 0x133ef8b889fae11fa8132a2924bbcfa09):=fun V Z D op A B lo hi L a b c d e=>by kernel_rfl
end Go.Proofs.Vv
