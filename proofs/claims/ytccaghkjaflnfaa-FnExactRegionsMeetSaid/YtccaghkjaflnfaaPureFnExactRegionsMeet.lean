/- RegionsMeet of the program and of the reference tell the same, for all two regions. No condition. -/
import Derived.Test.YtccaghkjaflnfaaPFnExactRegionsMeetx2
import Derived.Test.YtccaghkjaflnfaaLem
namespace Go.Proofs.Ytccaghkjaflnfaa.Pure
open Go.RowKit Go.Proofs.Ytccaghkjaflnfaa.PFnExactRegionsMeet Go.Proofs.YtccaghkjaflnfaaW.PrintWords Go.Proofs.YtccaghkjaflnfaaW.PrintLast Go.Proofs.YtccaghkjaflnfaaW.PrintMore
open Go.Proofs.Ytccaghkjaflnfaa.Lem
set_option linter.unusedVariables false
set_option linter.unusedSimpArgs false
theorem within_eq (a x y : Int) : impl_within.f a x y = some (decide (x ≤ a ∧ a ≤ y)) := by
  unfold impl_within.f
  split <;> rename_i h <;> simp <;> omega
theorem l1In_eq (a x y : Int) : spec_l1In.f a x y = some (decide (x ≤ a ∧ a ≤ y)) := by
  unfold spec_l1In.f
  split <;> rename_i h <;> simp <;> omega
theorem fault_same (x y : Int) (hx : -9223372036854775808 ≤ x ∧ x ≤ 9223372036854775807) (hy : -9223372036854775808 ≤ y ∧ y ≤ 9223372036854775807) :
    impl_RegionFault.f x y = some (if 0 ≤ x ∧ x ≤ 192 ∧ 0 ≤ y ∧ x + y ≤ 192 then 0 else 3) ∧ spec_RegionFault.f x y = some (if 0 ≤ x ∧ x ≤ 192 ∧ 0 ≤ y ∧ x + y ≤ 192 then 0 else 3) := by
  simp only [spec_RegionFault.f, impl_RegionFault.f, within_eq, l1In_eq, Option.bind_some, decide_eq_true_eq]
  by_cases a : 0 ≤ x ∧ x ≤ 192
  · have e1 : wrap64 (192 - x) = 192 - x := by unfold wrap64; omega
    rw [e1, if_pos a, if_pos a]
    by_cases b : 0 ≤ y ∧ y ≤ 192
    · have e2 : wrap64 (x + y) = x + y := by unfold wrap64; omega
      rw [e2, if_pos b]
      by_cases c : x + y > 192
      · rw [if_pos c, if_neg (by omega), if_neg (by omega)]; exact ⟨rfl, rfl⟩
      · rw [if_neg c, if_pos (by omega), if_pos (by omega)]; exact ⟨rfl, rfl⟩
    · rw [if_neg b, if_neg (by omega), if_neg (by omega)]; exact ⟨rfl, rfl⟩
  · rw [if_neg a, if_neg a, if_neg (by omega)]; exact ⟨rfl, rfl⟩
theorem FnExactRegionsMeet : laws_FnExactRegionsMeet.Pure := by
  intro x y u v hx hy hu hv
  simp [Lit.wf, IntKind.min, IntKind.max, IntKind.bits, IntKind.signed] at hx hy hu hv
  simp only [laws_FnExactRegionsMeet.f, laws_toRegion.f, spec_RegionsMeet.f, impl_RegionsMeet.f, (fault_same x y hx hy).1, (fault_same x y hx hy).2, (fault_same u v hu hv).1, (fault_same u v hu hv).2, Option.bind_some]
  by_cases a : 0 ≤ x ∧ x ≤ 192 ∧ 0 ≤ y ∧ x + y ≤ 192
  · by_cases b : 0 ≤ u ∧ u ≤ 192 ∧ 0 ≤ v ∧ u + v ≤ 192
    · have e1 : wrap64 (x + y) = x + y := by unfold wrap64; omega
      have e2 : wrap64 (u + v) = u + v := by unfold wrap64; omega
      simp only [if_pos a, if_pos b, spec_l3Meet.f, e1, e2]
      unfold mx mn
      by_cases c1 : y > 0 <;> by_cases c2 : v > 0 <;> by_cases c3 : x < u + v <;> by_cases c4 : u < x + y <;> by_cases c5 : x < u <;> by_cases c6 : u + v < x + y <;> simp [c1, c2, c3, c4, c5, c6] <;> omega
    · simp [if_pos a, if_neg b]
  · simp [if_neg a]

end Go.Proofs.Ytccaghkjaflnfaa.Pure
