import Derived.Test.YtfdjdnphbakjoaaPsDefs
namespace Go.Proofs
open Go.Ab
set_option maxRecDepth 1000000
theorem shAll_13 : shAll 13 = true := by kernel_rfl
theorem shAll_14 : shAll 14 = true := by kernel_rfl
end Go.Proofs
