/- FnExactOpName: of the 26 codes by looking; all others by the range. No condition. -/
import Derived.Test.YtpppnnmippngdaaDoorPFnExactOpNamex1
import Derived.Test.YtpppnnmippngdaaDoorLem
namespace Go.Proofs.YtpppnnmippngdaaDoor.Pure
open Go.RowKit Go.Proofs.YtpppnnmippngdaaDoor.PFnExactOpName Go.Proofs.YtpppnnmippngdaaDoorW.PrintWords Go.Proofs.YtpppnnmippngdaaDoorW.PrintLast Go.Proofs.YtpppnnmippngdaaDoorW.PrintMore
open Go.Proofs.YtpppnnmippngdaaDoor.Lem
set_option linter.unusedVariables false
set_option linter.unusedSimpArgs false
theorem eqText_same (c : Int) (a : ByteArray) : laws_eqTextResult.f c a c a = some true := by
  unfold laws_eqTextResult.f
  rw [if_pos rfl, if_pos rfl]
theorem within_no {a x y : Int} (h : ¬ (x ≤ a ∧ a ≤ y)) : impl_within.f a x y = some false ∧ spec_l1In.f a x y = some false := by
  have : impl_within.f a x y = some false := by
    unfold impl_within.f
    by_cases h1 : a ≥ x
    · rw [if_pos h1, decide_eq_false (by omega)]
    · rw [if_neg h1]
  exact ⟨this, this⟩
theorem names26 : ∀ i : Fin 26, impl_OpName.f ((i.val : Int) + 1) = spec_OpName.f ((i.val : Int) + 1) ∧ (spec_OpName.f ((i.val : Int) + 1)).isSome = true := by decide +kernel
theorem opName_same (a0 : Int) : impl_OpName.f a0 = spec_OpName.f a0 ∧ (spec_OpName.f a0).isSome = true := by
  by_cases h : 1 ≤ a0 ∧ a0 ≤ 26
  · have := names26 ⟨(a0 - 1).toNat, by omega⟩
    rwa [show (((a0 - 1).toNat : Nat) : Int) + 1 = a0 by omega] at this
  · have s1 : spec_OpName.f a0 = some (3, (⟨#[]⟩ : ByteArray)) := by unfold spec_OpName.f; rw [(within_no h).2]; rfl
    have s2 : impl_OpName.f a0 = some (3, (⟨#[]⟩ : ByteArray)) := by unfold impl_OpName.f; rw [(within_no h).1]; rfl
    exact ⟨s2.trans s1.symm, by rw [s1]; rfl⟩
theorem FnExactOpName : laws_FnExactOpName.Pure := by
  intro a0 _
  obtain ⟨h1, h2⟩ := opName_same a0
  obtain ⟨⟨c, x⟩, e⟩ := Option.isSome_iff_exists.1 h2
  unfold laws_FnExactOpName.f
  rw [h1, e]
  show (laws_eqTextResult.f c x c x).bind (fun t124 => if t124 = true then some true else some false) = some true
  rw [eqText_same]
  rfl

end Go.Proofs.YtpppnnmippngdaaDoor.Pure
