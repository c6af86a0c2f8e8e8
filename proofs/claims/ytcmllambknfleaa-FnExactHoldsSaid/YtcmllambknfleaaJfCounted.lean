/- The row's facts on the program: Counted. Conditions: none. -/
import Derived.Test.YtcmllambknfleaaRows
import Derived.JoinedOf
import Derived.KernelRfl
set_option maxRecDepth 100000
namespace Go.Proofs.Ytcmllambknfleaa
theorem jfCounted : joinedFacts Try.pinned.checked.prog 10 Try.f10 Rows.fnExactCountedSpec Rows.fnExactCountedRow = true := by kernel_rfl
end Go.Proofs.Ytcmllambknfleaa
