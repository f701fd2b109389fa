import Derived.Test.YtjeanplhkkpdmaaGreatDoorIE
noncomputable section
namespace Go.Proofs.Vv
open Go.Ab Go.Ab.Lf Go.Proofs.Vd
set_option maxRecDepth 1000000
theorem apU:LV Rg (pP 127) true 1 2 (dg 570 0x3502781ae26e1d72f395f7e68f0185dbdfd60d6edcb665844df78333be727379cf77ec12a61aeb3528cbc42844c699f7e67633b919cb98eb9bc29c76a99499c6039cfb0ca5eca7c2f54a61c31a4eade8bc3e8bd5b0e3c87e7b2cea0d29a308d23cd71d9f47de180285faf8ab326abdd89c):=fun V Z D op A B lo hi L a b c d e=>by kernel_rfl
theorem ahF:LV EJ (pP 127) false 1 2 (dg 80 0x223712c383f121326e86fbd2aa58ebcd):=fun V Z D op A B lo hi L a b c d e=>by kernel_rfl
theorem apV:LV Rh (pP 126) true 1 2 (dg 574 0x10c5c80081a6006283c2294eaa38a5a76372d64aaafbe284389100ad365ab40161190410400601abdb1aba53c369f7a1b5f74a5686df341530ae76473d22ed9a2a451251665a40b37c792c85d3d6cfa96b778444f787be55b59b465659893b1fd0b313eae2abf550497282cc5e3b7749beb4):=fun V Z D op A B lo hi L a b c d e=>by kernel_rfl
end Go.Proofs.Vv
