/- The row's facts on the program: Round. Conditions: none. -/
import Derived.Test.YtcmllambknfleaaRows
import Derived.JoinedOf
import Derived.KernelRfl
set_option maxRecDepth 100000
namespace Go.Proofs.Ytcmllambknfleaa
theorem jfRound : joinedFacts Try.pinned.checked.prog 16 Try.f16 Rows.fnExactRoundSpec Rows.fnExactRoundRow = true := by kernel_rfl
end Go.Proofs.Ytcmllambknfleaa
