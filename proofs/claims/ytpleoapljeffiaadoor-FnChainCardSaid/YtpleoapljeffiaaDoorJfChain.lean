/- The row's facts on the program: Chain. Conditions: none. -/
import Derived.Test.YtpleoapljeffiaaDoorRows
import Derived.JoinedOf
import Derived.KernelRfl
set_option maxRecDepth 100000
namespace Go.Proofs.YtpleoapljeffiaaDoor
theorem jfChain : joinedFacts Tryd.pinned.checked.prog 3 Tryd.f3 Rows.fnChainSpec Rows.fnChainRow = true := by kernel_rfl
end Go.Proofs.YtpleoapljeffiaaDoor
