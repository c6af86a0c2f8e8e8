/- The row's facts on the program: NextDue. Conditions: none. -/
import Derived.Test.YtcmllambknfleaaRows
import Derived.JoinedOf
import Derived.KernelRfl
set_option maxRecDepth 100000
namespace Go.Proofs.Ytcmllambknfleaa
theorem jfNextDue : joinedFacts Try.pinned.checked.prog 8 Try.f8 Rows.fnExactNextDueSpec Rows.fnExactNextDueRow = true := by kernel_rfl
end Go.Proofs.Ytcmllambknfleaa
