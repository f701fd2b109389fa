import Derived.Test.YtjeanplhkkpdmaaGreatDoorIC
noncomputable section
namespace Go.Proofs.Vd
open Go.Ab Go.Ab.Lf
set_option maxRecDepth 100000
theorem MJ:rQ (7,3,true,[127],[123]) 64770 none:=fun V Z A B Lo Hi L ad v=>by kernel_rfl
theorem MK:rQ (7,3,true,[127],[123]) 64774 none:=fun V Z A B Lo Hi L ad v=>by kernel_rfl
theorem ML:rQ (7,3,true,[127],[123]) 64778 none:=fun V Z A B Lo Hi L ad v=>by kernel_rfl
theorem MM:rQ (8,2,true,[127,123],[123]) 64854 (some 4):=fun V Z A B Lo Hi L ad v=>by kernel_rfl
theorem MN:I0 (8,2,true,[127,123],[]) 64858 (some 4):=fun V Z A B Lo Hi L ad v=>by kernel_rfl
end Go.Proofs.Vd
