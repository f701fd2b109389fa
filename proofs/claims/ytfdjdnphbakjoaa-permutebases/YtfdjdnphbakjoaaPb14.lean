import Derived.Test.YtfdjdnphbakjoaaPb14a
namespace Go.Proofs
open Go.Ab
set_option maxRecDepth 1000000
/-- The law at the swizzle, its sequence known. -/
noncomputable def w14 (c : CallF) : CallF := orN 9 [in14, bA] 474 3 (atoms 474 1000) (.int .i64 5) (.int .i64 0) (orc (lookF [(8, look0 (.bool true))]) c)
theorem law14 : isT (gCall Try.fb.get w14 5000 40 4 [in14, i64A 0] (nilH 0)) = true := by kernel_rfl
end Go.Proofs
