/- EntryWord of the program and of the reference tell the same, for every page. No condition. -/
import Derived.Test.YtccaghkjaflnfaaPFnExactEntryWordx1
import Derived.Test.YtccaghkjaflnfaaLem
namespace Go.Proofs.Ytccaghkjaflnfaa.Pure
open Go.RowKit Go.Proofs.Ytccaghkjaflnfaa.PFnExactEntryWord Go.Proofs.YtccaghkjaflnfaaW.PrintWords Go.Proofs.YtccaghkjaflnfaaW.PrintLast Go.Proofs.YtccaghkjaflnfaaW.PrintMore
open Go.Proofs.Ytccaghkjaflnfaa.Lem
set_option linter.unusedVariables false
set_option linter.unusedSimpArgs false
theorem FnExactEntryWord : laws_FnExactEntryWord.Pure := by
  intro a b _ _
  have e : impl_EntryWord.f a b = spec_EntryWord.f a b := rfl
  obtain ⟨r1, r2, h⟩ : ∃ r1 r2, spec_EntryWord.f a b = some (r1, r2) := ⟨_, _, rfl⟩
  simp only [laws_FnExactEntryWord.f, laws_toPage.f, Option.bind_some, e, h]
  simp [laws_eqIntResult.f]

end Go.Proofs.Ytccaghkjaflnfaa.Pure
