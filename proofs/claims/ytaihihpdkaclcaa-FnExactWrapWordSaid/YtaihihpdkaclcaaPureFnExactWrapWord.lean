/- WrapWord of the program and of the reference tell the same, for every number. No condition. -/
import Derived.Test.YtaihihpdkaclcaaPFnExactWrapWordx1
import Derived.Test.YtaihihpdkaclcaaLem
namespace Go.Proofs.Ytaihihpdkaclcaa.Pure
open Go.RowKit Go.Proofs.Ytaihihpdkaclcaa.PFnExactWrapWord Go.Proofs.YtaihihpdkaclcaaW.PrintWords Go.Proofs.YtaihihpdkaclcaaW.PrintLast
open Go.Proofs.Ytaihihpdkaclcaa.Lem
theorem FnExactWrapWord : laws_FnExactWrapWord.Pure := by
  intro a _
  simp [laws_FnExactWrapWord.f, spec_WrapWord.f, impl_WrapWord.f, and_word]

end Go.Proofs.Ytaihihpdkaclcaa.Pure
