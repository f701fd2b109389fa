import Derived.Test.YtjeanplhkkpdmaaGreatDoorIE
noncomputable section
namespace Go.Proofs.Vv
open Go.Ab Go.Ab.Lf Go.Proofs.Vd
set_option maxRecDepth 1000000
theorem apM:LV EF jB true 4 2 (dg 398 0x215d0d2a35080e7f374a5eafd1703ba0dae924d7f983244ddca2dab6b052ba7db2f040eb5ede335f6c0eb8af9ba1643cb80e702f67d43df5aaab2bc4bc6296f0c55782cdf301f6e21a36fa17d3d2e2):=fun V Z D op A B lo hi L a b c d e=>by kernel_rfl
theorem ahA:LV EG jB false 4 2 (dg 68 0x4585f7300823239075aa20a58eb):=fun V Z D op A B lo hi L a b c d e=>by kernel_rfl
theorem awv:LV aao mX true 2 2 (dg 586 0x88013237a71504bc030bb2501cfd7d07b2e8825bd884008817d39e93463811c22788dbc848ff9fc38b2a98c2f9aefc859a6858c3822dade8a108f62099f3886bbbdd2f3fc6e163a9ed90707d3232ed990cbbe3cf47254788ee5e0781843ef0e77783074d7925a2568536f63c668ba12d563dda64):=fun V Z D op A B lo hi L a b c d e=>by kernel_rfl
end Go.Proofs.Vv
