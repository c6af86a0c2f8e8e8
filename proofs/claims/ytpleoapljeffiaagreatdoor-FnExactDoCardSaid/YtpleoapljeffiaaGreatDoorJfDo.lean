/- The row's facts on the program: Do. Conditions: none. -/
import Derived.Test.YtpleoapljeffiaaGreatDoorRows
import Derived.JoinedOf
import Derived.KernelRfl
set_option maxRecDepth 100000
namespace Go.Proofs.YtpleoapljeffiaaGreatDoor
theorem jfDo : joinedFacts Tryz.pinned.checked.prog 4 Tryz.f4 Rows.fnExactDoSpec Rows.fnExactDoRow = true := by kernel_rfl
end Go.Proofs.YtpleoapljeffiaaGreatDoor
