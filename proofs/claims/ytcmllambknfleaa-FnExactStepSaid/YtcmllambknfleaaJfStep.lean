/- The row's facts on the program: Step. Conditions: none. -/
import Derived.Test.YtcmllambknfleaaRows
import Derived.JoinedOf
import Derived.KernelRfl
set_option maxRecDepth 100000
namespace Go.Proofs.Ytcmllambknfleaa
theorem jfStep : joinedFacts Try.pinned.checked.prog 17 Try.f17 Rows.fnExactStepSpec Rows.fnExactStepRow = true := by kernel_rfl
end Go.Proofs.Ytcmllambknfleaa
