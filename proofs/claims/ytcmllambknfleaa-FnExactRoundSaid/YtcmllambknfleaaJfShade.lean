/- The row's facts on the program: Shade. Conditions: none. -/
import Derived.Test.YtcmllambknfleaaRows
import Derived.JoinedOf
import Derived.KernelRfl
set_option maxRecDepth 100000
namespace Go.Proofs.Ytcmllambknfleaa
theorem jfShade : joinedFacts Try.pinned.checked.prog 13 Try.f13 Rows.fnExactShadeSpec Rows.fnExactShadeRow = true := by kernel_rfl
end Go.Proofs.Ytcmllambknfleaa
