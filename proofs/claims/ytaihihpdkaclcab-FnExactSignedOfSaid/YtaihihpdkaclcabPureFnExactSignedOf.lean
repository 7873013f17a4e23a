/- SignedOf of the program and of the reference tell the same, for every number. No condition. -/
import Derived.Test.YtaihihpdkaclcabPFnExactSignedOfx1
import Derived.Test.YtaihihpdkaclcabLem
namespace Go.Proofs.Ytaihihpdkaclcab.Pure
open Go.RowKit Go.Proofs.Ytaihihpdkaclcab.PFnExactSignedOf Go.Proofs.YtaihihpdkaclcabW.PrintWords Go.Proofs.YtaihihpdkaclcabW.PrintLast
open Go.Proofs.Ytaihihpdkaclcab.Lem
theorem FnExactSignedOf : laws_FnExactSignedOf.Pure := by
  intro a _
  have e : wrap64 (wrap32 (a % 4294967296)) = if a % 4294967296 < 2147483648 then a % 4294967296 else wrap64 (wrap64 (a % 4294967296 - 4294967295) - 1) := by
    unfold wrap64 wrap32
    split <;> omega
  simp only [laws_FnExactSignedOf.f, spec_SignedOf.f, impl_SignedOf.f, impl_WrapWord.f, and_word, Option.bind_some, e]
  split <;> simp

end Go.Proofs.Ytaihihpdkaclcab.Pure
