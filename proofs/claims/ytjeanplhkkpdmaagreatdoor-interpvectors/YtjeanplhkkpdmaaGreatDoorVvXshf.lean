import Derived.Test.YtjeanplhkkpdmaaGreatDoorIE
noncomputable section
namespace Go.Proofs.Vv
open Go.Ab Go.Ab.Lf Go.Proofs.Vd
set_option maxRecDepth 1000000
theorem apX:LV EF Dm true 4 2 (dg 398 0x215d0d2a35080e7f374a5eafd1703ba0dae924d7f983244ddca2dab6b052ba7db2f040eb5ede335f6c0eb8af9ba1643cb80e702f67d43df5aaab2bc4bc6296f0c55782cdf301f6e21a36fa17d3d2e2):=fun V Z D op A B lo hi L a b c d e=>by kernel_rfl
theorem ahI:LV EG Dm false 4 2 (dg 68 0x4585f7300823239075aa20a58eb):=fun V Z D op A B lo hi L a b c d e=>by kernel_rfl
theorem aww:LV EI Nf true 3 2 (dg 406 0x376bb8ae008dbb39a023701036be82da429f5c9a07d40ca5705663c84550c4aea1facb776469db7be557bc406d1191c11bedb45351496f6982172c88b50c7a95dcf9cb680c4416b47c26e08560c4b2b3a):=fun V Z D op A B lo hi L a b c d e=>by kernel_rfl
end Go.Proofs.Vv
