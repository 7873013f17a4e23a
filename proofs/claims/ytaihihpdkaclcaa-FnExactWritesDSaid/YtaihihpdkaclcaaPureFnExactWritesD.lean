/- WritesD of the program and of the reference tell the same, for every number. No condition. -/
import Derived.Test.YtaihihpdkaclcaaPFnExactWritesDx1
import Derived.Test.YtaihihpdkaclcaaLem
namespace Go.Proofs.Ytaihihpdkaclcaa.Pure
open Go.RowKit Go.Proofs.Ytaihihpdkaclcaa.PFnExactWritesD Go.Proofs.YtaihihpdkaclcaaW.PrintWords Go.Proofs.YtaihihpdkaclcaaW.PrintLast
open Go.Proofs.Ytaihihpdkaclcaa.Lem
theorem FnExactWritesD : laws_FnExactWritesD.Pure := by
  intro a _
  have h : ∀ x y, impl_within.f a x y = spec_l1In.f a x y := fun _ _ => rfl
  have g : ∀ x y, ∃ b, spec_l1In.f a x y = some b := fun x y => by unfold spec_l1In.f; split <;> exact ⟨_, rfl⟩
  obtain ⟨b1, h1⟩ := g 1 14
  obtain ⟨b2, h2⟩ := g 19 21
  simp only [laws_FnExactWritesD.f, spec_WritesD.f, impl_WritesD.f, h, h1, h2, Option.bind_some]
  cases b1 <;> cases b2 <;> rfl

end Go.Proofs.Ytaihihpdkaclcaa.Pure
