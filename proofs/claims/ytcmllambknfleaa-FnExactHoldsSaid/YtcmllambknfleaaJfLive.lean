/- The row's facts on the program: Live. Conditions: none. -/
import Derived.Test.YtcmllambknfleaaRows
import Derived.JoinedOf
import Derived.KernelRfl
set_option maxRecDepth 100000
namespace Go.Proofs.Ytcmllambknfleaa
theorem jfLive : joinedFacts Try.pinned.checked.prog 9 Try.f9 Rows.fnExactLiveSpec Rows.fnExactLiveRow = true := by kernel_rfl
end Go.Proofs.Ytcmllambknfleaa
