import Derived.Test.YtfdjdnphbakjoaaPsDefs
namespace Go.Proofs
open Go.Ab
set_option maxRecDepth 1000000
theorem shAll_0 : shAll 0 = true := by kernel_rfl
theorem shAll_1 : shAll 1 = true := by kernel_rfl
theorem shAll_2 : shAll 2 = true := by kernel_rfl
theorem shAll_3 : shAll 3 = true := by kernel_rfl
theorem shAll_4 : shAll 4 = true := by kernel_rfl
theorem shAll_5 : shAll 5 = true := by kernel_rfl
theorem shAll_6 : shAll 6 = true := by kernel_rfl
theorem shAll_7 : shAll 7 = true := by kernel_rfl
theorem shAll_8 : shAll 8 = true := by kernel_rfl
theorem shAll_9 : shAll 9 = true := by kernel_rfl
end Go.Proofs
