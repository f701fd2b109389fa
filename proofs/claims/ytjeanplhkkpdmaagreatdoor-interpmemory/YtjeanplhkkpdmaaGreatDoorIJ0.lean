import Derived.Test.YtjeanplhkkpdmaaGreatDoorIC
noncomputable section
namespace Go.Proofs.Vd
open Go.Ab Go.Ab.Lf
set_option maxRecDepth 100000
theorem Mw:rQ (7,4,true,[127],[123]) 64768 none:=fun V Z A B Lo Hi L ad v=>by kernel_rfl
theorem Mx:rQ (7,3,true,[127],[123]) 64772 none:=fun V Z A B Lo Hi L ad v=>by kernel_rfl
theorem My:rQ (7,1,true,[127],[123]) 64776 none:=fun V Z A B Lo Hi L ad v=>by kernel_rfl
theorem Mz:rQ (8,0,true,[127,123],[123]) 64852 (some 16):=fun V Z A B Lo Hi L ad v=>by kernel_rfl
theorem MA:I0 (8,0,true,[127,123],[]) 64856 (some 16):=fun V Z A B Lo Hi L ad v=>by kernel_rfl
theorem MC:rQ (7,2,true,[127],[123]) 64860 none:=fun V Z A B Lo Hi L ad v=>by kernel_rfl
end Go.Proofs.Vd
