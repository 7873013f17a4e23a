/- MulWords of the program and of the reference tell the same, for all two words. No condition. -/
import Derived.Test.YtaihihpdkaclcaaPFnExactMulWordsx1
import Derived.Test.YtaihihpdkaclcaaLem
namespace Go.Proofs.Ytaihihpdkaclcaa.Pure
open Go.RowKit Go.Proofs.Ytaihihpdkaclcaa.PFnExactMulWords Go.Proofs.YtaihihpdkaclcaaW.PrintWords Go.Proofs.YtaihihpdkaclcaaW.PrintLast
open Go.Proofs.Ytaihihpdkaclcaa.Lem
theorem FnExactMulWords : laws_FnExactMulWords.Pure := by
  intro a b _ _
  simp [laws_FnExactMulWords.f, spec_MulWords.f, impl_MulWords.f]

end Go.Proofs.Ytaihihpdkaclcaa.Pure
