/- The row's facts on the program: Steps. Conditions: none. -/
import Derived.Test.YtcjmodomfilagaaGreatRows
import Derived.JoinedOf
import Derived.KernelRfl
set_option maxRecDepth 100000
namespace Go.Proofs.YtcjmodomfilagaaGreat
theorem jfSteps : joinedFacts Tryz.pinned.checked.prog 4 Tryz.f4 Rows.fnStepsSpec Rows.fnStepsRow = true := by kernel_rfl
end Go.Proofs.YtcjmodomfilagaaGreat
