/- OffsetOf of the program and of the reference tell the same, for every number. No condition. -/
import Derived.Test.YtaihihpdkaclcaaPFnExactOffsetOfx1
import Derived.Test.YtaihihpdkaclcaaLem
namespace Go.Proofs.Ytaihihpdkaclcaa.Pure
open Go.RowKit Go.Proofs.Ytaihihpdkaclcaa.PFnExactOffsetOf Go.Proofs.YtaihihpdkaclcaaW.PrintWords Go.Proofs.YtaihihpdkaclcaaW.PrintLast
open Go.Proofs.Ytaihihpdkaclcaa.Lem
theorem FnExactOffsetOf : laws_FnExactOffsetOf.Pure := by
  intro a _
  have e : wrap64 (IntKind.i16.wrap (IntKind.u16.wrap a)) = if a % 65536 ≥ 32768 then wrap64 (a % 65536 - 65536) else a % 65536 := by
    have e1 : IntKind.u16.wrap a = a % 65536 := by simp [IntKind.wrap, IntKind.bits, IntKind.signed]
    have e2 : IntKind.i16.wrap (a % 65536) = if a % 65536 ≥ 32768 then a % 65536 - 65536 else a % 65536 := by
      simp [IntKind.wrap, IntKind.bits, IntKind.signed]
    rw [e1, e2]
    unfold wrap64
    split <;> omega
  simp only [laws_FnExactOffsetOf.f, spec_OffsetOf.f, impl_OffsetOf.f, and_65535, Option.bind_some, e]
  split <;> simp

end Go.Proofs.Ytaihihpdkaclcaa.Pure
