import Derived.Test.YtjeanplhkkpdmaaGreatDoorIE
noncomputable section
namespace Go.Proofs.Vv
open Go.Ab Go.Ab.Lf Go.Proofs.Vd
set_option maxRecDepth 1000000
theorem apN:LV Rd mX false 2 2 (dg 88 0x36cee50c14dde694c92dcdc98113a8f7d07):=fun V Z D op A B lo hi L a b c d e=>by kernel_rfl
theorem apO(n:Int):LV EH (mY n 127) true 2 1 (dg 330 0x286c57ecbe0df1911632273d52715d09c5be9cbe0e9c91c7900a5abdf618f50e443c001c078bace92d0e3a0ee7a1fba76c28bc50d2f75bd87d688f0f080f76a9a68):=fun V Z D op A B lo hi L a b c d e=>by kernel_rfl
theorem ahB(n:Int):LV ze (mY n 127) false 2 1 (dg 88 0x36cee50c14dde694c92dcdc98113a8f7d07):=fun V Z D op A B lo hi L a b c d e=>by kernel_rfl
end Go.Proofs.Vv
