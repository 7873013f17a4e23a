/- AddWords of the program and of the reference tell the same, for all two numbers. No condition. -/
import Derived.Test.YtaihihpdkaclcaaPFnExactAddWordsx1
import Derived.Test.YtaihihpdkaclcaaLem
namespace Go.Proofs.Ytaihihpdkaclcaa.Pure
open Go.RowKit Go.Proofs.Ytaihihpdkaclcaa.PFnExactAddWords Go.Proofs.YtaihihpdkaclcaaW.PrintWords Go.Proofs.YtaihihpdkaclcaaW.PrintLast
open Go.Proofs.Ytaihihpdkaclcaa.Lem
theorem FnExactAddWords : laws_FnExactAddWords.Pure := by
  intro a b _ _
  have e : wrap64 (a % 4294967296 + b % 4294967296) = a % 4294967296 + b % 4294967296 := by unfold wrap64; omega
  simp only [laws_FnExactAddWords.f, spec_AddWords.f, impl_AddWords.f, impl_WrapWord.f, and_word, Option.bind_some, e, if_true]

end Go.Proofs.Ytaihihpdkaclcaa.Pure
