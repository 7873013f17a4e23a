/- EncodeIns of the program and of the reference tell the same, for every instruction. No condition. -/
import Derived.Test.YtccaghkjaflnfabPFnExactEncodeInsx4
import Derived.Test.YtccaghkjaflnfabLem
namespace Go.Proofs.Ytccaghkjaflnfab.Pure
open Go.RowKit Go.Proofs.Ytccaghkjaflnfab.PFnExactEncodeIns Go.Proofs.YtccaghkjaflnfabW.PrintWords Go.Proofs.YtccaghkjaflnfabW.PrintLast Go.Proofs.YtccaghkjaflnfabW.PrintMore
open Go.Proofs.Ytccaghkjaflnfab.Lem
set_option linter.unusedVariables false
set_option linter.unusedSimpArgs false
theorem within_eq (a x y : Int) : impl_within.f a x y = some (decide (x ≤ a ∧ a ≤ y)) := by
  unfold impl_within.f
  split <;> rename_i h <;> simp <;> omega
theorem l1In_eq (a x y : Int) : spec_l1In.f a x y = some (decide (x ≤ a ∧ a ≤ y)) := by
  unfold spec_l1In.f
  split <;> rename_i h <;> simp <;> omega
def rangeOk (op d a i : Int) : Prop := (1 ≤ op ∧ op ≤ 26) ∧ (0 ≤ d ∧ d ≤ 15) ∧ (0 ≤ a ∧ a ≤ 15) ∧ (0 ≤ i ∧ i ≤ 65535)
def formBad (op d a i : Int) : Prop := (op ≤ 11 ∧ 15 < i) ∨ ((op = 13 ∨ op = 19 ∨ op = 21) ∧ a ≠ 0) ∨ ((op = 21 ∨ op = 22) ∧ 10 < i) ∨ (op = 22 ∧ d ≠ 0) ∨ (23 ≤ op ∧ (d ≠ 0 ∨ a ≠ 0 ∨ i ≠ 0))
instance (op d a i : Int) : Decidable (rangeOk op d a i) := by unfold rangeOk; infer_instance
instance (op d a i : Int) : Decidable (formBad op d a i) := by unfold formBad; infer_instance
def fault (op d a i : Int) : Int := if rangeOk op d a i then (if formBad op d a i then 1 else 0) else 3
theorem some_one {p : Prop} [Decidable p] (h : p) : (some 1 : Option Int) = some (if p then 1 else 0) := by rw [if_pos h]
theorem some_nil {p : Prop} [Decidable p] (h : ¬ p) : (some 0 : Option Int) = some (if p then 1 else 0) := by rw [if_neg h]
theorem implJ1 (k : Nat) (op d a i : Int) (h0 : 12 ≤ op) (h1 : op ≤ 26) (t : Bool) (ht : t = true ↔ (op = 13 ∨ op = 19)) (hi : 0 ≤ i) : impl_InsFault.j1 (k + 1) false op t op d a i = some (if formBad op d a i then 1 else 0) := by
  simp only [impl_InsFault.j1]
  cases t with
  | true =>
    have h := ht.mp rfl
    rw [if_pos rfl]
    by_cases c : a = 0
    · rw [if_pos c]; exact some_nil (by unfold formBad; omega)
    · rw [if_neg c]; exact some_one (by unfold formBad; omega)
  | false =>
    have h : ¬ (op = 13 ∨ op = 19) := fun e => Bool.noConfusion (ht.mpr e)
    rw [if_neg (by decide)]
    by_cases c1 : op = 21
    · rw [if_pos c1]
      by_cases c2 : i > 10
      · rw [if_pos c2]; exact some_one (by unfold formBad; omega)
      · rw [if_neg c2]
        by_cases c : a = 0
        · rw [if_pos c]; exact some_nil (by unfold formBad; omega)
        · rw [if_neg c]; exact some_one (by unfold formBad; omega)
    · rw [if_neg c1]
      by_cases c3 : op = 22
      · rw [if_pos c3]
        by_cases c2 : i > 10
        · rw [if_pos c2]; exact some_one (by unfold formBad; omega)
        · rw [if_neg c2]
          by_cases c : d = 0
          · rw [if_pos c]; exact some_nil (by unfold formBad; omega)
          · rw [if_neg c]; exact some_one (by unfold formBad; omega)
      · rw [if_neg c3]
        by_cases c4 : op ≥ 23
        · rw [if_pos c4]
          by_cases e1 : d = 0
          · rw [if_pos e1]
            by_cases e2 : a = 0
            · rw [if_pos e2]
              by_cases e3 : i = 0
              · rw [if_pos e3]; exact some_nil (by unfold formBad; omega)
              · rw [if_neg e3]; exact some_one (by unfold formBad; omega)
            · rw [if_neg e2]; exact some_one (by unfold formBad; omega)
          · rw [if_neg e1]; exact some_one (by unfold formBad; omega)
        · rw [if_neg c4, if_neg (by decide)]; exact some_nil (by unfold formBad; omega)
theorem implJ0 (k : Nat) (op d a i : Int) (h0 : 1 ≤ op) (h1 : op ≤ 26) (hi : 0 ≤ i) : impl_InsFault.j0 (k + 2) false op d a i = some (if formBad op d a i then 1 else 0) := by
  simp only [impl_InsFault.j0]
  rw [if_neg (by decide)]
  by_cases c : op ≤ 11
  · rw [if_pos c]
    by_cases c2 : i > 15
    · rw [if_pos c2]; exact some_one (by unfold formBad; omega)
    · rw [if_neg c2]; exact some_nil (by unfold formBad; omega)
  · rw [if_neg c]
    by_cases c3 : op = 13
    · rw [if_pos c3]
      exact implJ1 k op d a i (by omega) h1 _ (by rw [beq_iff_eq]; omega) hi
    · rw [if_neg c3]
      exact implJ1 k op d a i (by omega) h1 _ (by rw [beq_iff_eq]; omega) hi
theorem implIF (k : Nat) (op d a i : Int) : impl_InsFault.f (k + 2) op d a i = some (fault op d a i) := by
  have hbad : impl_InsFault.j0 (k + 2) true op d a i = some 3 := by simp only [impl_InsFault.j0]; rw [if_pos trivial]
  unfold impl_InsFault.f fault
  simp only [within_eq, Option.bind_some, decide_eq_true_eq]
  by_cases r1 : 1 ≤ op ∧ op ≤ 26
  · rw [if_pos r1]
    by_cases r2 : 0 ≤ d ∧ d ≤ 15
    · rw [if_pos r2]
      by_cases r3 : 0 ≤ a ∧ a ≤ 15
      · rw [if_pos r3]
        by_cases r4 : 0 ≤ i ∧ i ≤ 65535
        · rw [decide_eq_true r4, if_pos ⟨r1, r2, r3, r4⟩]
          exact implJ0 k op d a i r1.1 r1.2 r4.1
        · rw [decide_eq_false r4, if_neg (fun h => r4 h.2.2.2)]
          exact hbad
      · rw [if_neg r3, if_neg (fun h => r3 h.2.2.1)]; exact hbad
    · rw [if_neg r2, if_neg (fun h => r2 h.2.1)]; exact hbad
  · rw [if_neg r1, if_neg (fun h => r1 h.1)]; exact hbad
theorem bare_0 (k : Nat) (op : Int) (h : op ≠ 13 ∧ op ≠ 19 ∧ op ≠ 21 ∧ op ≤ 21 ∨ 26 < op) : spec_l2Bare.f (k + 1) op = some (false, false, false) := by
  unfold spec_l2Bare.f
  have e21 : (op == 21) = false := beq_eq_false_iff_ne.mpr (by omega)
  rw [if_neg (by omega), if_neg (by omega), e21]
  simp only [spec_l2Bare.j0]
  rw [if_neg (by decide), if_neg (by omega), if_neg (by omega), if_neg (by omega), if_neg (by omega), if_neg (by omega)]
theorem bare_a (k : Nat) (op : Int) (h : op = 13 ∨ op = 19 ∨ op = 21) : spec_l2Bare.f (k + 1) op = some (false, true, false) := by
  rcases h with rfl | rfl | rfl <;> rfl
theorem bare_d (k : Nat) : spec_l2Bare.f (k + 1) 22 = some (true, false, false) := rfl
theorem bare_all (k : Nat) (op : Int) (h : 23 ≤ op ∧ op ≤ 26) : spec_l2Bare.f (k + 1) op = some (true, true, true) := by
  have : op = 23 ∨ op = 24 ∨ op = 25 ∨ op = 26 := by omega
  rcases this with rfl | rfl | rfl | rfl <;> rfl
theorem specJ0 (k : Nat) (op d a i : Int) (h0 : 1 ≤ op) (h1 : op ≤ 26) (hi : 0 ≤ i) : spec_InsFault.j0 (k + 2) false op d a i = some (if formBad op d a i then 1 else 0) := by
  simp only [spec_InsFault.j0]
  rw [if_neg (by decide)]
  by_cases ca : op = 13 ∨ op = 19 ∨ op = 21
  · rw [bare_a k op ca, Option.bind_some]
    dsimp only
    rw [if_neg (by decide), if_pos rfl]
    by_cases c : a = 0
    · rw [if_pos c, if_neg (by decide), if_neg (by omega)]
      by_cases c1 : op = 21
      · rw [if_pos c1]
        by_cases c2 : i > 10
        · rw [if_pos c2]; exact some_one (by unfold formBad; omega)
        · rw [if_neg c2]; exact some_nil (by unfold formBad; omega)
      · rw [if_neg c1, if_neg (by omega)]; exact some_nil (by unfold formBad; omega)
    · rw [if_neg c]; exact some_one (by unfold formBad; omega)
  by_cases cd : op = 22
  · subst cd
    rw [bare_d k, Option.bind_some]
    dsimp only
    rw [if_pos rfl]
    by_cases c : d = 0
    · rw [if_pos c, if_neg (by decide), if_neg (by decide), if_neg (by decide), if_neg (by decide), if_pos rfl]
      by_cases c2 : i > 10
      · rw [if_pos c2]; exact some_one (by unfold formBad; omega)
      · rw [if_neg c2]; exact some_nil (by unfold formBad; omega)
    · rw [if_neg c]; exact some_one (by unfold formBad; omega)
  by_cases cl : 23 ≤ op
  · rw [bare_all k op ⟨cl, h1⟩, Option.bind_some]
    dsimp only
    rw [if_pos rfl]
    by_cases e1 : d = 0
    · rw [if_pos e1, if_pos rfl]
      by_cases e2 : a = 0
      · rw [if_pos e2, if_pos rfl]
        by_cases e3 : i = 0
        · rw [if_pos e3, if_neg (by omega), if_neg (by omega), if_neg (by omega)]; exact some_nil (by unfold formBad; omega)
        · rw [if_neg e3]; exact some_one (by unfold formBad; omega)
      · rw [if_neg e2]; exact some_one (by unfold formBad; omega)
    · rw [if_neg e1]; exact some_one (by unfold formBad; omega)
  · rw [bare_0 k op (by omega), Option.bind_some]
    dsimp only
    rw [if_neg (by decide), if_neg (by decide), if_neg (by decide)]
    by_cases c : op ≤ 11
    · rw [if_pos c]
      by_cases c2 : i > 15
      · rw [if_pos c2]; exact some_one (by unfold formBad; omega)
      · rw [if_neg c2, if_neg (by omega), if_neg (by omega)]; exact some_nil (by unfold formBad; omega)
    · rw [if_neg c, if_neg (by omega), if_neg (by omega)]; exact some_nil (by unfold formBad; omega)
theorem specIF (k : Nat) (op d a i : Int) : spec_InsFault.f (k + 2) op d a i = some (fault op d a i) := by
  have hbad : spec_InsFault.j0 (k + 2) true op d a i = some 3 := by simp only [spec_InsFault.j0]; rw [if_pos trivial]
  unfold spec_InsFault.f fault
  simp only [l1In_eq, Option.bind_some, decide_eq_true_eq]
  by_cases r1 : 1 ≤ op ∧ op ≤ 26
  · rw [if_pos r1]
    by_cases r2 : 0 ≤ d ∧ d ≤ 15
    · rw [if_pos r2]
      by_cases r3 : 0 ≤ a ∧ a ≤ 15
      · rw [if_pos r3]
        by_cases r4 : 0 ≤ i ∧ i ≤ 65535
        · rw [decide_eq_true r4, if_pos ⟨r1, r2, r3, r4⟩]
          exact specJ0 k op d a i r1.1 r1.2 r4.1
        · rw [decide_eq_false r4, if_neg (fun h => r4 h.2.2.2)]
          exact hbad
      · rw [if_neg r3, if_neg (fun h => r3 h.2.2.1)]; exact hbad
    · rw [if_neg r2, if_neg (fun h => r2 h.2.1)]; exact hbad
  · rw [if_neg r1, if_neg (fun h => r1 h.1)]; exact hbad
theorem fault_cases (op d a i : Int) : fault op d a i = 0 ∨ fault op d a i = 1 ∨ fault op d a i = 3 := by
  unfold fault
  by_cases h : rangeOk op d a i
  · rw [if_pos h]
    by_cases g : formBad op d a i
    · rw [if_pos g]; exact .inr (.inl rfl)
    · rw [if_neg g]; exact .inl rfl
  · rw [if_neg h]; exact .inr (.inr rfl)
theorem fault_range {op d a i : Int} (h : fault op d a i = 0) : rangeOk op d a i := by
  unfold fault at h
  by_cases g : rangeOk op d a i
  · exact g
  · rw [if_neg g] at h; exact absurd h (by decide)
theorem or_add (x y : Nat) (i : Nat) (hi : i ≤ 62) (hx : x % 2 ^ i = 0) (hy : y < 2 ^ i) (hx' : x < 4611686018427387904) : bits .or .i64 (x : Int) (y : Int) = ((x + y : Nat) : Int) := by
  have hp : 2 ^ i ≤ 2 ^ 62 := Nat.pow_le_pow_right (by decide) hi
  have e62 : (2 : Nat) ^ 62 = 4611686018427387904 := by decide
  rw [or_nat x y hx' (by omega)]
  have hq : x = 2 ^ i * (x / 2 ^ i) := by have := Nat.div_add_mod x (2 ^ i); omega
  rw [hq, ← Nat.two_pow_add_eq_or_of_lt hy (x / 2 ^ i)]
theorem joined (op d a i : Int) (h : rangeOk op d a i) : bits .or .i64 (bits .or .i64 (bits .or .i64 (wrap64 (op * 16777216)) (wrap64 (d * 1048576))) (wrap64 (a * 65536))) i = op * 16777216 + d * 1048576 + a * 65536 + i := by
  obtain ⟨h1, h2, h3, h4⟩ := h
  obtain ⟨O, rfl⟩ := Int.eq_ofNat_of_zero_le (show 0 ≤ op by omega)
  obtain ⟨D, rfl⟩ := Int.eq_ofNat_of_zero_le (show 0 ≤ d by omega)
  obtain ⟨A, rfl⟩ := Int.eq_ofNat_of_zero_le (show 0 ≤ a by omega)
  obtain ⟨I, rfl⟩ := Int.eq_ofNat_of_zero_le (show 0 ≤ i by omega)
  have w1 : wrap64 ((O : Int) * 16777216) = ((O * 16777216 : Nat) : Int) := by unfold wrap64; omega
  have w2 : wrap64 ((D : Int) * 1048576) = ((D * 1048576 : Nat) : Int) := by unfold wrap64; omega
  have w3 : wrap64 ((A : Int) * 65536) = ((A * 65536 : Nat) : Int) := by unfold wrap64; omega
  rw [w1, w2, w3, or_add (O * 16777216) (D * 1048576) 24 (by decide) (by omega) (by omega) (by omega), or_add (O * 16777216 + D * 1048576) (A * 65536) 20 (by decide) (by omega) (by omega) (by omega), or_add (O * 16777216 + D * 1048576 + A * 65536) I 16 (by decide) (by omega) (by omega) (by omega)]
  omega
theorem summed (op d a i : Int) (h : rangeOk op d a i) : wrap64 ((wrap64 ((wrap64 ((wrap64 (op * 16777216)) + (wrap64 (d * 1048576)))) + (wrap64 (a * 65536)))) + i) = op * 16777216 + d * 1048576 + a * 65536 + i := by
  obtain ⟨h1, h2, h3, h4⟩ := h
  have w1 : wrap64 (op * 16777216) = op * 16777216 := by unfold wrap64; omega
  have w2 : wrap64 (d * 1048576) = d * 1048576 := by unfold wrap64; omega
  have w3 : wrap64 (a * 65536) = a * 65536 := by unfold wrap64; omega
  have w4 : wrap64 (op * 16777216 + d * 1048576) = op * 16777216 + d * 1048576 := by unfold wrap64; omega
  have w5 : wrap64 (op * 16777216 + d * 1048576 + a * 65536) = op * 16777216 + d * 1048576 + a * 65536 := by unfold wrap64; omega
  rw [w1, w2, w3, w4, w5]
  unfold wrap64
  omega
theorem FnExactEncodeIns : laws_FnExactEncodeIns.Pure := by
  intro op d a i _ _ _ _
  refine ⟨2, ?_⟩
  have hself : ∀ c v : Int, laws_eqIntResult.f c v c v = some true := fun c v => by simp [laws_eqIntResult.f]
  unfold laws_FnExactEncodeIns.f laws_toIns.f spec_EncodeIns.f impl_EncodeIns.f
  rw [Option.bind_some]
  dsimp only
  rw [specIF 0 op d a i, Option.bind_some]
  by_cases f : fault op d a i = 0
  · have r := fault_range f
    rw [if_pos f, Option.bind_some, Option.bind_some]
    dsimp only
    rw [implIF 0 op d a i, Option.bind_some, if_pos f, Option.bind_some]
    dsimp only
    rw [joined op d a i r, summed op d a i r, hself, Option.bind_some, if_pos rfl]
  · rw [if_neg f, Option.bind_some, Option.bind_some]
    dsimp only
    rw [implIF 0 op d a i, Option.bind_some, if_neg f, Option.bind_some]
    dsimp only
    rw [hself, Option.bind_some, if_pos rfl]

end Go.Proofs.Ytccaghkjaflnfab.Pure
