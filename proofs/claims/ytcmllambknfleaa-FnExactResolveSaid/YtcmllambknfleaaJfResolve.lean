/- The row's facts on the program: Resolve. Conditions: none. -/
import Derived.Test.YtcmllambknfleaaRows
import Derived.JoinedOf
import Derived.KernelRfl
set_option maxRecDepth 100000
namespace Go.Proofs.Ytcmllambknfleaa
theorem jfResolve : joinedFacts Try.pinned.checked.prog 7 Try.f7 Rows.fnExactResolveSpec Rows.fnExactResolveRow = true := by kernel_rfl
end Go.Proofs.Ytcmllambknfleaa
