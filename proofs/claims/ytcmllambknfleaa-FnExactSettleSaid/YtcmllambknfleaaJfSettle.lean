/- The row's facts on the program: Settle. Conditions: none. -/
import Derived.Test.YtcmllambknfleaaRows
import Derived.JoinedOf
import Derived.KernelRfl
set_option maxRecDepth 100000
namespace Go.Proofs.Ytcmllambknfleaa
theorem jfSettle : joinedFacts Try.pinned.checked.prog 15 Try.f15 Rows.fnExactSettleSpec Rows.fnExactSettleRow = true := by kernel_rfl
end Go.Proofs.Ytcmllambknfleaa
