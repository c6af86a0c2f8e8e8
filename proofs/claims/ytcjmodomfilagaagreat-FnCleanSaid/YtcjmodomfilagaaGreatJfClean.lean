/- The row's facts on the program: Clean. Conditions: none. -/
import Derived.Test.YtcjmodomfilagaaGreatRows
import Derived.JoinedOf
import Derived.KernelRfl
set_option maxRecDepth 100000
namespace Go.Proofs.YtcjmodomfilagaaGreat
theorem jfClean : joinedFacts Tryz.pinned.checked.prog 5 Tryz.f5 Rows.fnCleanSpec Rows.fnCleanRow = true := by kernel_rfl
end Go.Proofs.YtcjmodomfilagaaGreat
