/- The row's facts on the program: Settles. Conditions: none. -/
import Derived.Test.YtcjmodomfilagaaGreatRows
import Derived.JoinedOf
import Derived.KernelRfl
set_option maxRecDepth 100000
namespace Go.Proofs.YtcjmodomfilagaaGreat
theorem jfSettles : joinedFacts Tryz.pinned.checked.prog 3 Tryz.f3 Rows.fnSettlesSpec Rows.fnSettlesRow = true := by kernel_rfl
end Go.Proofs.YtcjmodomfilagaaGreat
