/- The row's facts on the program: Holds. Conditions: none. -/
import Derived.Test.YtcmllambknfleaaRows
import Derived.JoinedOf
import Derived.KernelRfl
set_option maxRecDepth 100000
namespace Go.Proofs.Ytcmllambknfleaa
theorem jfHolds : joinedFacts Try.pinned.checked.prog 12 Try.f12 Rows.fnExactHoldsSpec Rows.fnExactHoldsRow = true := by kernel_rfl
end Go.Proofs.Ytcmllambknfleaa
