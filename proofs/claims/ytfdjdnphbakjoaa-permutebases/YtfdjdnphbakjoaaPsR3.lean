import Derived.Test.YtfdjdnphbakjoaaPsDefs
namespace Go.Proofs
open Go.Ab
set_option maxRecDepth 1000000
theorem shAll_15 : shAll 15 = true := by kernel_rfl
theorem shEnds_ok : shEnds = true := by kernel_rfl
end Go.Proofs
