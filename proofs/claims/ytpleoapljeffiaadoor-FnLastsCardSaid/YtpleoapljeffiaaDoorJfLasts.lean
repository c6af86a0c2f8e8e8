/- The row's facts on the program: Lasts. Conditions: none. -/
import Derived.Test.YtpleoapljeffiaaDoorRows
import Derived.JoinedOf
import Derived.KernelRfl
set_option maxRecDepth 100000
namespace Go.Proofs.YtpleoapljeffiaaDoor
theorem jfLasts : joinedFacts Tryd.pinned.checked.prog 4 Tryd.f4 Rows.fnLastsSpec Rows.fnLastsRow = true := by kernel_rfl
end Go.Proofs.YtpleoapljeffiaaDoor
