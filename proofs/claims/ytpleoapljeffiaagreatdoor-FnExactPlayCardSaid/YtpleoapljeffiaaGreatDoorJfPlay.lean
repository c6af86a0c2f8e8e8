/- The row's facts on the program: Play. Conditions: none. -/
import Derived.Test.YtpleoapljeffiaaGreatDoorRows
import Derived.JoinedOf
import Derived.KernelRfl
set_option maxRecDepth 100000
namespace Go.Proofs.YtpleoapljeffiaaGreatDoor
theorem jfPlay : joinedFacts Tryz.pinned.checked.prog 3 Tryz.f3 Rows.fnExactPlaySpec Rows.fnExactPlayRow = true := by kernel_rfl
end Go.Proofs.YtpleoapljeffiaaGreatDoor
