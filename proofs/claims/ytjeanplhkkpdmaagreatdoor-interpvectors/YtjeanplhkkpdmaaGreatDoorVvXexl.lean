import Derived.Test.YtjeanplhkkpdmaaGreatDoorIE
noncomputable section
namespace Go.Proofs.Vv
open Go.Ab Go.Ab.Lf Go.Proofs.Vd
set_option maxRecDepth 1000000
theorem apP(n:Int):LV Re (mY n 126) true 2 1 (dg 330 0x286c57eccf9358ab26033868b0e9ca4a0a27fcbe534670b011470750546e599d9747e3e41fbe24fd830b49dcbcb309c57b9500ec87c44b0def0ff57a7c8db31bee8):=fun V Z D op A B lo hi L a b c d e=>by kernel_rfl
theorem ahC(n:Int):LV ze (mY n 126) false 2 1 (dg 88 0x36cee50c14dde694c92dcdc98113a8f7d07):=fun V Z D op A B lo hi L a b c d e=>by kernel_rfl
theorem apQ(n:Int):LV EI (pg n 127) true 3 2 (dg 406 0x376bb8ae008dbb39a023701036be82da429f5c9a07d40ca5705663c84550c4aea1facb776469db7be557bc406d1191c11bedb45351496f6982172c88b50c7a95dcf9cb680c4416b47c26e08560c4b2b3a):=fun V Z D op A B lo hi L a b c d e=>by kernel_rfl
end Go.Proofs.Vv
