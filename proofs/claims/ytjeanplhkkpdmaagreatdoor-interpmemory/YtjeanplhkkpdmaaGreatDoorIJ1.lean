import Derived.Test.YtjeanplhkkpdmaaGreatDoorIC
noncomputable section
namespace Go.Proofs.Vd
open Go.Ab Go.Ab.Lf
set_option maxRecDepth 100000
theorem MD:rQ (7,3,true,[127],[123]) 64769 none:=fun V Z A B Lo Hi L ad v=>by kernel_rfl
theorem ME:rQ (7,3,true,[127],[123]) 64773 none:=fun V Z A B Lo Hi L ad v=>by kernel_rfl
theorem MF:rQ (7,2,true,[127],[123]) 64777 none:=fun V Z A B Lo Hi L ad v=>by kernel_rfl
theorem MG:rQ (8,1,true,[127,123],[123]) 64853 (some 8):=fun V Z A B Lo Hi L ad v=>by kernel_rfl
theorem MH:I0 (8,1,true,[127,123],[]) 64857 (some 8):=fun V Z A B Lo Hi L ad v=>by kernel_rfl
theorem MI:rQ (7,3,true,[127],[123]) 64861 none:=fun V Z A B Lo Hi L ad v=>by kernel_rfl
end Go.Proofs.Vd
