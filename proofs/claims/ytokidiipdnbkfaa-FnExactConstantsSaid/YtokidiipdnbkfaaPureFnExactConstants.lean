/- The program's exported constants are the document's: the law FnExactConstants answers true. Conditions: none. -/
import Derived.Test.YtokidiipdnbkfaaPFnExactConstantsx1
namespace Go.Proofs.Ytokidiipdnbkfaa.Pure
open Go.RowKit Go.Proofs.Ytokidiipdnbkfaa.PFnExactConstants Go.Proofs.YtokidiipdnbkfaaW.PrintWords Go.Proofs.YtokidiipdnbkfaaW.PrintLast

/-- YOURS: laws_FnExactConstants.f  = some true
What it reaches (each with k first where it has rounds; `.mono`: more rounds tell the same; `.l0`, ..: its loops, with `.mono_l`): laws_FnExactConstants.f -/
theorem FnExactConstants : laws_FnExactConstants.Pure := by
  unfold laws_FnExactConstants.Pure laws_FnExactConstants.f
  rfl

end Go.Proofs.Ytokidiipdnbkfaa.Pure
