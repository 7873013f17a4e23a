/- RegionFault of the program and of the reference tell the same, for every region. No condition. -/
import Derived.Test.YtaihihpdkaclcabPFnExactRegionFaultx1
import Derived.Test.YtaihihpdkaclcabLem
namespace Go.Proofs.Ytaihihpdkaclcab.Pure
open Go.RowKit Go.Proofs.Ytaihihpdkaclcab.PFnExactRegionFault Go.Proofs.YtaihihpdkaclcabW.PrintWords Go.Proofs.YtaihihpdkaclcabW.PrintLast Go.Proofs.YtaihihpdkaclcabW.PrintMore
open Go.Proofs.Ytaihihpdkaclcab.Lem
theorem within_eq (a x y : Int) : impl_within.f a x y = some (decide (x ≤ a ∧ a ≤ y)) := by
  unfold impl_within.f
  split <;> rename_i h <;> simp <;> omega
theorem l1In_eq (a x y : Int) : spec_l1In.f a x y = some (decide (x ≤ a ∧ a ≤ y)) := by
  unfold spec_l1In.f
  split <;> rename_i h <;> simp <;> omega
theorem FnExactRegionFault : laws_FnExactRegionFault.Pure := by
  intro x y hx hy
  simp [Lit.wf, IntKind.min, IntKind.max, IntKind.bits, IntKind.signed] at hx hy
  simp only [laws_FnExactRegionFault.f, laws_toRegion.f, spec_RegionFault.f, impl_RegionFault.f, within_eq, l1In_eq, Option.bind_some, decide_eq_true_eq]
  by_cases a : 0 ≤ x ∧ x ≤ 192
  · have e1 : wrap64 (192 - x) = 192 - x := by unfold wrap64; omega
    rw [e1, if_pos a, if_pos a]
    by_cases b : 0 ≤ y ∧ y ≤ 192
    · have e2 : wrap64 (x + y) = x + y := by unfold wrap64; omega
      rw [e2, if_pos b]
      by_cases c : x + y > 192
      · rw [if_pos c, if_neg (by omega)]; rfl
      · rw [if_neg c, if_pos (by omega)]; rfl
    · rw [if_neg b, if_neg (by omega)]; rfl
  · rw [if_neg a, if_neg a]; rfl

end Go.Proofs.Ytaihihpdkaclcab.Pure
