/- What is proved: the law FnExactConstants returns true: every exported constant of the program is the reference's. Conditions: none. -/
import Derived.Test.YtmjfoickgcapmaaPFnExactConstantsx1
namespace Go.Proofs.Ytmjfoickgcapmaa.Pure
open Go.RowKit Go.Proofs.Ytmjfoickgcapmaa.PFnExactConstants Go.Proofs.YtmjfoickgcapmaaW.PrintWords Go.Proofs.YtmjfoickgcapmaaW.PrintLast

/-- YOURS: laws_FnExactConstants.f  = some true
What it reaches (each with k first where it has rounds; `.mono`: more rounds tell the same; `.l0`, ..: its loops, with `.mono_l`): laws_FnExactConstants.f -/
theorem FnExactConstants : laws_FnExactConstants.Pure := by
  unfold laws_FnExactConstants.Pure laws_FnExactConstants.f
  rfl

end Go.Proofs.Ytmjfoickgcapmaa.Pure
