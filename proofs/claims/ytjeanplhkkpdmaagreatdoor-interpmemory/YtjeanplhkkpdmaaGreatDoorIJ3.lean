import Derived.Test.YtjeanplhkkpdmaaGreatDoorIC
noncomputable section
namespace Go.Proofs.Vd
open Go.Ab Go.Ab.Lf
set_option maxRecDepth 100000
theorem MO:rQ (7,3,true,[127],[123]) 64771 none:=fun V Z A B Lo Hi L ad v=>by kernel_rfl
theorem MP:rQ (7,0,true,[127],[123]) 64775 none:=fun V Z A B Lo Hi L ad v=>by kernel_rfl
theorem MQ:I0 (7,4,true,[127,123],[]) 64779 none:=fun V Z A B Lo Hi L ad v=>by kernel_rfl
theorem MR:rQ (8,3,true,[127,123],[123]) 64855 (some 2):=fun V Z A B Lo Hi L ad v=>by kernel_rfl
theorem MS:I0 (8,3,true,[127,123],[]) 64859 (some 2):=fun V Z A B Lo Hi L ad v=>by kernel_rfl
end Go.Proofs.Vd
