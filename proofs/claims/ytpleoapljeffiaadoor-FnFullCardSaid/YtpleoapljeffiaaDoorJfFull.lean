/- The row's facts on the program: Full. Conditions: none. -/
import Derived.Test.YtpleoapljeffiaaDoorRows
import Derived.JoinedOf
import Derived.KernelRfl
set_option maxRecDepth 100000
namespace Go.Proofs.YtpleoapljeffiaaDoor
theorem jfFull : joinedFacts Tryd.pinned.checked.prog 5 Tryd.f5 Rows.fnFullSpec Rows.fnFullRow = true := by kernel_rfl
end Go.Proofs.YtpleoapljeffiaaDoor
