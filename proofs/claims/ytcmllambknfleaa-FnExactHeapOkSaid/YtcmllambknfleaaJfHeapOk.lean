/- The row's facts on the program: HeapOk. Conditions: none. -/
import Derived.Test.YtcmllambknfleaaRows
import Derived.JoinedOf
import Derived.KernelRfl
set_option maxRecDepth 100000
namespace Go.Proofs.Ytcmllambknfleaa
theorem jfHeapOk : joinedFacts Try.pinned.checked.prog 6 Try.f6 Rows.fnExactHeapOkSpec Rows.fnExactHeapOkRow = true := by kernel_rfl
end Go.Proofs.Ytcmllambknfleaa
