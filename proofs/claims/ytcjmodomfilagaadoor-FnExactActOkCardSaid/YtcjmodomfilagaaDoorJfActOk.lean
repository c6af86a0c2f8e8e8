/- The row's facts on the program: ActOk. Conditions: none. -/
import Derived.Test.YtcjmodomfilagaaDoorRows
import Derived.JoinedOf
import Derived.KernelRfl
set_option maxRecDepth 100000
namespace Go.Proofs.YtcjmodomfilagaaDoor
theorem jfActOk : joinedFacts Tryd.pinned.checked.prog 3 Tryd.f3 Rows.fnExactActOkSpec Rows.fnExactActOkRow = true := by kernel_rfl
end Go.Proofs.YtcjmodomfilagaaDoor
