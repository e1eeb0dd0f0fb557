/- What is proved: the law FnExactNewTree returns true: the program's NewTree gives the reference's tree, in memory of its own. Conditions: none. -/
import Derived.Test.YtmjfoickgcapmaaPFnExactNewTreex3
namespace Go.Proofs.Ytmjfoickgcapmaa.Pure
open Go.RowKit Go.Proofs.Ytmjfoickgcapmaa.PFnExactNewTree Go.Proofs.YtmjfoickgcapmaaW.PrintWords Go.Proofs.YtmjfoickgcapmaaW.PrintLast

/-- YOURS: ∃ k, laws_FnExactNewTree.f k  = some true
What it reaches (each with k first where it has rounds; `.mono`: more rounds tell the same; `.l0`, ..: its loops, with `.mono_l`): spec_NewTree.f, impl_NewTree.f, laws_eqNode.f, laws_eqNodeS.f, laws_eqTree.f, laws_markText.f, laws_markNodeS.f, laws_markTree.f, laws_heldNodeS.f, laws_heldTree.f, laws_FnExactNewTree.f -/
theorem FnExactNewTree : laws_FnExactNewTree.Pure := by
  exact ⟨30, by decide +kernel⟩

end Go.Proofs.Ytmjfoickgcapmaa.Pure
