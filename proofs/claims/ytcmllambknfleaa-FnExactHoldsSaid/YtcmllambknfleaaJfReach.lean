/- The row's facts on the program: Reach. Conditions: none. -/
import Derived.Test.YtcmllambknfleaaRows
import Derived.JoinedOf
import Derived.KernelRfl
set_option maxRecDepth 100000
namespace Go.Proofs.Ytcmllambknfleaa
theorem jfReach : joinedFacts Try.pinned.checked.prog 11 Try.f11 Rows.fnExactReachSpec Rows.fnExactReachRow = true := by kernel_rfl
end Go.Proofs.Ytcmllambknfleaa
