/- The row's facts on the program: Left. Conditions: none. -/
import Derived.Test.YtcmllambknfleaaRows
import Derived.JoinedOf
import Derived.KernelRfl
set_option maxRecDepth 100000
namespace Go.Proofs.Ytcmllambknfleaa
theorem jfLeft : joinedFacts Try.pinned.checked.prog 14 Try.f14 Rows.fnExactLeftSpec Rows.fnExactLeftRow = true := by kernel_rfl
end Go.Proofs.Ytcmllambknfleaa
