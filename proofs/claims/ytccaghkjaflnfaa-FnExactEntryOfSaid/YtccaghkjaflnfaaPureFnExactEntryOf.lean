/- EntryOf of the program and of the reference tell the same, for every number. No condition. -/
import Derived.Test.YtccaghkjaflnfaaPFnExactEntryOfx1
import Derived.Test.YtccaghkjaflnfaaLem
namespace Go.Proofs.Ytccaghkjaflnfaa.Pure
open Go.RowKit Go.Proofs.Ytccaghkjaflnfaa.PFnExactEntryOf Go.Proofs.YtccaghkjaflnfaaW.PrintWords Go.Proofs.YtccaghkjaflnfaaW.PrintLast Go.Proofs.YtccaghkjaflnfaaW.PrintMore
open Go.Proofs.Ytccaghkjaflnfaa.Lem
set_option linter.unusedVariables false
set_option linter.unusedSimpArgs false
theorem within_eq (a x y : Int) : impl_within.f a x y = some (decide (x ≤ a ∧ a ≤ y)) := by
  unfold impl_within.f
  split <;> rename_i h <;> simp <;> omega
theorem l1In_eq (a x y : Int) : spec_l1In.f a x y = some (decide (x ≤ a ∧ a ≤ y)) := by
  unfold spec_l1In.f
  split <;> rename_i h <;> simp <;> omega
theorem entry_some (a : Int) : ∃ x y, spec_l4Entry.f a = some (x, y) := by
  unfold spec_l4Entry.f spec_l4None.f
  split
  · exact ⟨_, _, rfl⟩
  · split <;> exact ⟨_, _, rfl⟩
theorem FnExactEntryOf : laws_FnExactEntryOf.Pure := by
  intro a _
  have e : impl_entryOf.f a = spec_l4Entry.f a := rfl
  obtain ⟨x, y, h⟩ := entry_some a
  simp only [laws_FnExactEntryOf.f, spec_EntryOf.f, impl_EntryOf.f, impl_isWord.f, within_eq, l1In_eq, Option.bind_some, decide_eq_true_eq, e, h]
  split <;> simp [laws_eqPageResult.f, laws_eqPage.f]

end Go.Proofs.Ytccaghkjaflnfaa.Pure
