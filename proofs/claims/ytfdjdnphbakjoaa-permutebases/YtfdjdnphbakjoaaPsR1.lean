import Derived.Test.YtfdjdnphbakjoaaPsDefs
namespace Go.Proofs
open Go.Ab
set_option maxRecDepth 1000000
theorem shAll_10 : shAll 10 = true := by kernel_rfl
theorem shAll_11 : shAll 11 = true := by kernel_rfl
theorem shAll_12 : shAll 12 = true := by kernel_rfl
end Go.Proofs
