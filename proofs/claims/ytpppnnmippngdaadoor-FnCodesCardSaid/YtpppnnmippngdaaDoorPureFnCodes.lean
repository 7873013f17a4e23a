/- FnCodes: an instruction is read back from its word, at every input of bytes. No condition. -/
import Derived.Lib.ItoaLen
import Derived.Lib.ItoaMem
import Derived.Test.YtpppnnmippngdaaDoorPFnCodesx7
import Derived.Test.YtpppnnmippngdaaDoorLem
namespace Go.Proofs.YtpppnnmippngdaaDoor.Pure
open Go.RowKit Go.Proofs.YtpppnnmippngdaaDoor.PFnCodes Go.Proofs.YtpppnnmippngdaaDoorW.PrintWords Go.Proofs.YtpppnnmippngdaaDoorW.PrintLast Go.Proofs.YtpppnnmippngdaaDoorW.PrintMore
open Go.Proofs.YtpppnnmippngdaaDoor.Lem
set_option linter.unusedVariables false
set_option linter.unusedSimpArgs false
def Src (s : List Int) : Prop := s.length ≤ 2000000 ∧ ∀ x ∈ s, 0 ≤ x ∧ x ≤ 255
theorem src_of {s : List Int} (hs : s.length ≤ 2000000) (hw : ∀ x ∈ s, (Lit.int .u8 x).wf = true) : Src s :=
  ⟨hs, fun x hx => by have := hw x hx; simp [Lit.wf, IntKind.min, IntKind.max, IntKind.bits, IntKind.signed] at this; omega⟩
theorem src_rd {s : List Int} (h : Src s) (i : Int) : 0 ≤ rd s i ∧ rd s i ≤ 255 := by
  unfold rd
  by_cases hi : i.toNat < s.length
  · rw [List.getD_eq_getElem?_getD, List.getElem?_eq_getElem hi]
    exact h.2 _ (List.getElem_mem hi)
  · rw [List.getD_eq_getElem?_getD, List.getElem?_eq_none (by omega)]
    exact ⟨by simp, by simp⟩
theorem wr1 {a : Int} (h0 : 0 ≤ a) (h1 : a ≤ 1000000) : wrap64 (a + 1) = a + 1 := by unfold wrap64; omega
theorem wr2 {a : Int} (h0 : 0 ≤ a) (h1 : a ≤ 1000000) : wrap64 (a + 1 - 1) = a := by unfold wrap64; omega
theorem l1Next_some {s : List Int} (hs : Src s) (a n : Int) (h0 : 0 ≤ a) (h1 : a ≤ 1000000) :
    ∃ v, spec_l1Next.f s a n = some (v, a + 1) ∧ 0 ≤ v ∧ (1 ≤ n → v < n) ∧ (n < 1 → v = 0) := by
  unfold spec_l1Next.f
  by_cases hn : n < 1
  · exact ⟨0, by rw [if_pos hn, wr1 h0 h1], by omega, by omega, by omega⟩
  rw [if_neg hn]
  have hn0 : ¬ n = 0 := by omega
  rw [wr1 h0 h1, wr2 h0 h1, wr1 h0 h1]
  have key : ∀ e : Int, 0 ≤ e → 0 ≤ Int.tmod e n ∧ Int.tmod e n < n := fun e he => by
    rw [Int.tmod_eq_emod_of_nonneg he]
    exact ⟨Int.emod_nonneg _ hn0, Int.emod_lt_of_pos _ (by omega)⟩
  by_cases hl : (s.length : Int) = 0
  · rw [if_pos hl, if_neg hn0]
    have e : wrap64 (a * 7) = a * 7 := by unfold wrap64; omega
    rw [e]
    have := key (a * 7) (by omega)
    exact ⟨_, rfl, this.1, fun _ => this.2, by omega⟩
  rw [if_neg hl]
  have hlen := hs.1
  have m1 : ∀ e : Int, 0 ≤ e → 0 ≤ Int.tmod e (s.length : Int) ∧ Int.tmod e (s.length : Int) < (s.length : Int) := fun e he => by
    rw [Int.tmod_eq_emod_of_nonneg he]
    exact ⟨Int.emod_nonneg _ hl, Int.emod_lt_of_pos _ (by omega)⟩
  have q1 := m1 a h0
  have q2 := m1 (a + 1) (by omega)
  rw [if_pos q1.1, if_pos q1.2]
  have d1 : 0 ≤ Int.tdiv a (s.length : Int) ∧ Int.tdiv a (s.length : Int) ≤ a := by
    rw [Int.tdiv_eq_ediv_of_nonneg h0]
    exact ⟨Int.ediv_nonneg h0 (by omega), Int.ediv_le_self _ h0⟩
  have r1 := src_rd hs (Int.tmod a (s.length : Int))
  have r2 := src_rd hs (Int.tmod (a + 1) (s.length : Int))
  generalize Int.tdiv a (s.length : Int) = D at *
  generalize rd s (Int.tmod a (s.length : Int)) = X at *
  generalize rd s (Int.tmod (a + 1) (s.length : Int)) = Y at *
  have w1 : wrap64 D = D := by unfold wrap64; omega
  have w2 : wrap64 (D * 37) = D * 37 := by unfold wrap64; omega
  have w3 : wrap64 X = X := by unfold wrap64; omega
  have w4 : wrap64 Y = Y := by unfold wrap64; omega
  have w5 : wrap64 (X + D * 37) = X + D * 37 := by unfold wrap64; omega
  by_cases hb : n > 200
  · rw [if_pos hb, if_pos q2.1, if_pos q2.2, if_neg hn0, w1, w2, w3, w4, w5]
    have w6 : wrap64 ((X + D * 37) * 251) = (X + D * 37) * 251 := by unfold wrap64; omega
    have w7 : wrap64 (Y * 13) = Y * 13 := by unfold wrap64; omega
    have w8 : wrap64 ((X + D * 37) * 251 + Y * 13) = (X + D * 37) * 251 + Y * 13 := by unfold wrap64; omega
    have w9 : wrap64 ((X + D * 37) * 251 + Y * 13 + a) = (X + D * 37) * 251 + Y * 13 + a := by unfold wrap64; omega
    rw [w6, w7, w8, w9]
    have := key ((X + D * 37) * 251 + Y * 13 + a) (by omega)
    exact ⟨_, rfl, this.1, fun _ => this.2, by omega⟩
  · rw [if_neg hb, if_neg hn0, w1, w2, w3, w5]
    have := key (X + D * 37) (by omega)
    exact ⟨_, rfl, this.1, fun _ => this.2, by omega⟩
theorem l1Pick_some {s : List Int} (hs : Src s) (a : Int) (h0 : 0 ≤ a) (h1 : a ≤ 1000000) (l : List Int) (hl : l ≠ []) :
    ∃ v, spec_l1Pick.f s a l = some (v, a + 1) ∧ v ∈ l := by
  have hp : 0 < l.length := List.length_pos_iff.mpr hl
  obtain ⟨i, hi, b0, b1, _⟩ := l1Next_some hs a (l.length : Int) h0 h1
  unfold spec_l1Pick.f
  rw [hi]
  simp only [Option.bind_some]
  rw [if_pos b0, if_pos (b1 (by omega))]
  refine ⟨_, rfl, ?_⟩
  unfold rd
  have hlt : i.toNat < l.length := by have := b1 (by omega); omega
  rw [List.getD_eq_getElem?_getD, List.getElem?_eq_getElem hlt]
  exact List.getElem_mem hlt
theorem l1Word_some {s : List Int} (hs : Src s) (a : Int) (h0 : 0 ≤ a) (h1 : a ≤ 999000) :
    ∃ v, spec_l1Word.f s a = some (v, a + 5) ∧ 0 ≤ v ∧ v ≤ 4294967295 := by
  unfold spec_l1Word.f
  obtain ⟨x1, e1, p1, q1, _⟩ := l1Next_some hs a 90 h0 (by omega)
  obtain ⟨x2, e2, p2, q2, _⟩ := l1Next_some hs (a + 1) 9 (by omega) (by omega)
  obtain ⟨x3, e3, p3, q3, _⟩ := l1Next_some hs (a + 1 + 1) 9 (by omega) (by omega)
  obtain ⟨x4, e4, p4, q4, _⟩ := l1Next_some hs (a + 1 + 1 + 1) 60000 (by omega) (by omega)
  have q1 := q1 (by omega)
  have q2 := q2 (by omega)
  have q3 := q3 (by omega)
  have q4 := q4 (by omega)
  have w1 : wrap64 (4294967295 - x3) = 4294967295 - x3 := by unfold wrap64; omega
  have w2 : wrap64 (x4 * 70000) = x4 * 70000 := by unfold wrap64; omega
  obtain ⟨v, e5, hv⟩ := l1Pick_some hs (a + 1 + 1 + 1 + 1) (by omega) (by omega) [x1, x2, 4294967295 - x3, 2147483648, 2147483647, 0, x4 * 70000] (by simp)
  refine ⟨v, ?_, ?_⟩
  · simp only [e1, e2, e3, e4, w1, w2, e5, Option.bind_some]
    rw [show a + 1 + 1 + 1 + 1 + 1 = a + 5 by omega]
  · simp only [List.mem_cons, List.not_mem_nil, or_false] at hv
    omega
theorem l1Wide_some {s : List Int} (hs : Src s) (a : Int) (h0 : 0 ≤ a) (h1 : a ≤ 990000) :
    ∃ v, spec_l1Wide.f s a = some (v, a + 16) ∧ -9223372036854775808 ≤ v ∧ v ≤ 9223372036854775807 := by
  unfold spec_l1Wide.f
  obtain ⟨x1, e1, p1, q1⟩ := l1Word_some hs a h0 (by omega)
  obtain ⟨x2, e2, p2, q2⟩ := l1Word_some hs (a + 5) (by omega) (by omega)
  obtain ⟨x3, e3, p3, q3⟩ := l1Word_some hs (a + 5 + 5) (by omega) (by omega)
  obtain ⟨v, e5, hv⟩ := l1Pick_some hs (a + 5 + 5 + 5) (by omega) (by omega) [x1, x2, x3, -1, -9223372036854775808, 9223372036854775807, 4294967296, -5] (by simp)
  refine ⟨v, ?_, ?_⟩
  · simp only [e1, e2, e3, e5, Option.bind_some]
    rw [show a + 5 + 5 + 5 + 1 = a + 16 by omega]
  · simp only [List.mem_cons, List.not_mem_nil, or_false] at hv
    omega
theorem within_eq (a x y : Int) : impl_within.f a x y = some (decide (x ≤ a ∧ a ≤ y)) := by
  unfold impl_within.f
  split <;> rename_i h <;> simp <;> omega
theorem l1In_eq (a x y : Int) : spec_l1In.f a x y = some (decide (x ≤ a ∧ a ≤ y)) := by
  unfold spec_l1In.f
  split <;> rename_i h <;> simp <;> omega
def rangeOk (op d a i : Int) : Prop := (1 ≤ op ∧ op ≤ 26) ∧ (0 ≤ d ∧ d ≤ 15) ∧ (0 ≤ a ∧ a ≤ 15) ∧ (0 ≤ i ∧ i ≤ 65535)
def formBad (op d a i : Int) : Prop := (op ≤ 11 ∧ 15 < i) ∨ ((op = 13 ∨ op = 19 ∨ op = 21) ∧ a ≠ 0) ∨ ((op = 21 ∨ op = 22) ∧ 10 < i) ∨ (op = 22 ∧ d ≠ 0) ∨ (23 ≤ op ∧ (d ≠ 0 ∨ a ≠ 0 ∨ i ≠ 0))
instance (op d a i : Int) : Decidable (rangeOk op d a i) := by unfold rangeOk; infer_instance
instance (op d a i : Int) : Decidable (formBad op d a i) := by unfold formBad; infer_instance
def fault (op d a i : Int) : Int := if rangeOk op d a i then (if formBad op d a i then 1 else 0) else 3
theorem some_one {p : Prop} [Decidable p] (h : p) : (some 1 : Option Int) = some (if p then 1 else 0) := by rw [if_pos h]
theorem some_nil {p : Prop} [Decidable p] (h : ¬ p) : (some 0 : Option Int) = some (if p then 1 else 0) := by rw [if_neg h]
theorem implJ1 (k : Nat) (op d a i : Int) (h0 : 12 ≤ op) (h1 : op ≤ 26) (t : Bool) (ht : t = true ↔ (op = 13 ∨ op = 19)) (hi : 0 ≤ i) : impl_InsFault.j1 (k + 1) false op t op d a i = some (if formBad op d a i then 1 else 0) := by
  simp only [impl_InsFault.j1]
  cases t with
  | true =>
    have h := ht.mp rfl
    rw [if_pos rfl]
    by_cases c : a = 0
    · rw [if_pos c]; exact some_nil (by unfold formBad; omega)
    · rw [if_neg c]; exact some_one (by unfold formBad; omega)
  | false =>
    have h : ¬ (op = 13 ∨ op = 19) := fun e => Bool.noConfusion (ht.mpr e)
    rw [if_neg (by decide)]
    by_cases c1 : op = 21
    · rw [if_pos c1]
      by_cases c2 : i > 10
      · rw [if_pos c2]; exact some_one (by unfold formBad; omega)
      · rw [if_neg c2]
        by_cases c : a = 0
        · rw [if_pos c]; exact some_nil (by unfold formBad; omega)
        · rw [if_neg c]; exact some_one (by unfold formBad; omega)
    · rw [if_neg c1]
      by_cases c3 : op = 22
      · rw [if_pos c3]
        by_cases c2 : i > 10
        · rw [if_pos c2]; exact some_one (by unfold formBad; omega)
        · rw [if_neg c2]
          by_cases c : d = 0
          · rw [if_pos c]; exact some_nil (by unfold formBad; omega)
          · rw [if_neg c]; exact some_one (by unfold formBad; omega)
      · rw [if_neg c3]
        by_cases c4 : op ≥ 23
        · rw [if_pos c4]
          by_cases e1 : d = 0
          · rw [if_pos e1]
            by_cases e2 : a = 0
            · rw [if_pos e2]
              by_cases e3 : i = 0
              · rw [if_pos e3]; exact some_nil (by unfold formBad; omega)
              · rw [if_neg e3]; exact some_one (by unfold formBad; omega)
            · rw [if_neg e2]; exact some_one (by unfold formBad; omega)
          · rw [if_neg e1]; exact some_one (by unfold formBad; omega)
        · rw [if_neg c4, if_neg (by decide)]; exact some_nil (by unfold formBad; omega)
theorem implJ0 (k : Nat) (op d a i : Int) (h0 : 1 ≤ op) (h1 : op ≤ 26) (hi : 0 ≤ i) : impl_InsFault.j0 (k + 2) false op d a i = some (if formBad op d a i then 1 else 0) := by
  simp only [impl_InsFault.j0]
  rw [if_neg (by decide)]
  by_cases c : op ≤ 11
  · rw [if_pos c]
    by_cases c2 : i > 15
    · rw [if_pos c2]; exact some_one (by unfold formBad; omega)
    · rw [if_neg c2]; exact some_nil (by unfold formBad; omega)
  · rw [if_neg c]
    by_cases c3 : op = 13
    · rw [if_pos c3]
      exact implJ1 k op d a i (by omega) h1 _ (by rw [beq_iff_eq]; omega) hi
    · rw [if_neg c3]
      exact implJ1 k op d a i (by omega) h1 _ (by rw [beq_iff_eq]; omega) hi
theorem implIF (k : Nat) (op d a i : Int) : impl_InsFault.f (k + 2) op d a i = some (fault op d a i) := by
  have hbad : impl_InsFault.j0 (k + 2) true op d a i = some 3 := by simp only [impl_InsFault.j0]; rw [if_pos trivial]
  unfold impl_InsFault.f fault
  simp only [within_eq, Option.bind_some, decide_eq_true_eq]
  by_cases r1 : 1 ≤ op ∧ op ≤ 26
  · rw [if_pos r1]
    by_cases r2 : 0 ≤ d ∧ d ≤ 15
    · rw [if_pos r2]
      by_cases r3 : 0 ≤ a ∧ a ≤ 15
      · rw [if_pos r3]
        by_cases r4 : 0 ≤ i ∧ i ≤ 65535
        · rw [decide_eq_true r4, if_pos ⟨r1, r2, r3, r4⟩]
          exact implJ0 k op d a i r1.1 r1.2 r4.1
        · rw [decide_eq_false r4, if_neg (fun h => r4 h.2.2.2)]
          exact hbad
      · rw [if_neg r3, if_neg (fun h => r3 h.2.2.1)]; exact hbad
    · rw [if_neg r2, if_neg (fun h => r2 h.2.1)]; exact hbad
  · rw [if_neg r1, if_neg (fun h => r1 h.1)]; exact hbad
theorem bare_0 (k : Nat) (op : Int) (h : op ≠ 13 ∧ op ≠ 19 ∧ op ≠ 21 ∧ op ≤ 21 ∨ 26 < op) : spec_l2Bare.f (k + 1) op = some (false, false, false) := by
  unfold spec_l2Bare.f
  have e21 : (op == 21) = false := beq_eq_false_iff_ne.mpr (by omega)
  rw [if_neg (by omega), if_neg (by omega), e21]
  simp only [spec_l2Bare.j0]
  rw [if_neg (by decide), if_neg (by omega), if_neg (by omega), if_neg (by omega), if_neg (by omega), if_neg (by omega)]
theorem bare_a (k : Nat) (op : Int) (h : op = 13 ∨ op = 19 ∨ op = 21) : spec_l2Bare.f (k + 1) op = some (false, true, false) := by
  rcases h with rfl | rfl | rfl <;> rfl
theorem bare_d (k : Nat) : spec_l2Bare.f (k + 1) 22 = some (true, false, false) := rfl
theorem bare_all (k : Nat) (op : Int) (h : 23 ≤ op ∧ op ≤ 26) : spec_l2Bare.f (k + 1) op = some (true, true, true) := by
  have : op = 23 ∨ op = 24 ∨ op = 25 ∨ op = 26 := by omega
  rcases this with rfl | rfl | rfl | rfl <;> rfl
theorem specJ0 (k : Nat) (op d a i : Int) (h0 : 1 ≤ op) (h1 : op ≤ 26) (hi : 0 ≤ i) : spec_InsFault.j0 (k + 2) false op d a i = some (if formBad op d a i then 1 else 0) := by
  simp only [spec_InsFault.j0]
  rw [if_neg (by decide)]
  by_cases ca : op = 13 ∨ op = 19 ∨ op = 21
  · rw [bare_a k op ca, Option.bind_some]
    dsimp only
    rw [if_neg (by decide), if_pos rfl]
    by_cases c : a = 0
    · rw [if_pos c, if_neg (by decide), if_neg (by omega)]
      by_cases c1 : op = 21
      · rw [if_pos c1]
        by_cases c2 : i > 10
        · rw [if_pos c2]; exact some_one (by unfold formBad; omega)
        · rw [if_neg c2]; exact some_nil (by unfold formBad; omega)
      · rw [if_neg c1, if_neg (by omega)]; exact some_nil (by unfold formBad; omega)
    · rw [if_neg c]; exact some_one (by unfold formBad; omega)
  by_cases cd : op = 22
  · subst cd
    rw [bare_d k, Option.bind_some]
    dsimp only
    rw [if_pos rfl]
    by_cases c : d = 0
    · rw [if_pos c, if_neg (by decide), if_neg (by decide), if_neg (by decide), if_neg (by decide), if_pos rfl]
      by_cases c2 : i > 10
      · rw [if_pos c2]; exact some_one (by unfold formBad; omega)
      · rw [if_neg c2]; exact some_nil (by unfold formBad; omega)
    · rw [if_neg c]; exact some_one (by unfold formBad; omega)
  by_cases cl : 23 ≤ op
  · rw [bare_all k op ⟨cl, h1⟩, Option.bind_some]
    dsimp only
    rw [if_pos rfl]
    by_cases e1 : d = 0
    · rw [if_pos e1, if_pos rfl]
      by_cases e2 : a = 0
      · rw [if_pos e2, if_pos rfl]
        by_cases e3 : i = 0
        · rw [if_pos e3, if_neg (by omega), if_neg (by omega), if_neg (by omega)]; exact some_nil (by unfold formBad; omega)
        · rw [if_neg e3]; exact some_one (by unfold formBad; omega)
      · rw [if_neg e2]; exact some_one (by unfold formBad; omega)
    · rw [if_neg e1]; exact some_one (by unfold formBad; omega)
  · rw [bare_0 k op (by omega), Option.bind_some]
    dsimp only
    rw [if_neg (by decide), if_neg (by decide), if_neg (by decide)]
    by_cases c : op ≤ 11
    · rw [if_pos c]
      by_cases c2 : i > 15
      · rw [if_pos c2]; exact some_one (by unfold formBad; omega)
      · rw [if_neg c2, if_neg (by omega), if_neg (by omega)]; exact some_nil (by unfold formBad; omega)
    · rw [if_neg c, if_neg (by omega), if_neg (by omega)]; exact some_nil (by unfold formBad; omega)
theorem specIF (k : Nat) (op d a i : Int) : spec_InsFault.f (k + 2) op d a i = some (fault op d a i) := by
  have hbad : spec_InsFault.j0 (k + 2) true op d a i = some 3 := by simp only [spec_InsFault.j0]; rw [if_pos trivial]
  unfold spec_InsFault.f fault
  simp only [l1In_eq, Option.bind_some, decide_eq_true_eq]
  by_cases r1 : 1 ≤ op ∧ op ≤ 26
  · rw [if_pos r1]
    by_cases r2 : 0 ≤ d ∧ d ≤ 15
    · rw [if_pos r2]
      by_cases r3 : 0 ≤ a ∧ a ≤ 15
      · rw [if_pos r3]
        by_cases r4 : 0 ≤ i ∧ i ≤ 65535
        · rw [decide_eq_true r4, if_pos ⟨r1, r2, r3, r4⟩]
          exact specJ0 k op d a i r1.1 r1.2 r4.1
        · rw [decide_eq_false r4, if_neg (fun h => r4 h.2.2.2)]
          exact hbad
      · rw [if_neg r3, if_neg (fun h => r3 h.2.2.1)]; exact hbad
    · rw [if_neg r2, if_neg (fun h => r2 h.2.1)]; exact hbad
  · rw [if_neg r1, if_neg (fun h => r1 h.1)]; exact hbad
theorem fault_cases (op d a i : Int) : fault op d a i = 0 ∨ fault op d a i = 1 ∨ fault op d a i = 3 := by
  unfold fault
  by_cases h : rangeOk op d a i
  · rw [if_pos h]
    by_cases g : formBad op d a i
    · rw [if_pos g]; exact .inr (.inl rfl)
    · rw [if_neg g]; exact .inl rfl
  · rw [if_neg h]; exact .inr (.inr rfl)
theorem fault_range {op d a i : Int} (h : fault op d a i = 0) : rangeOk op d a i := by
  unfold fault at h
  by_cases g : rangeOk op d a i
  · exact g
  · rw [if_neg g] at h; exact absurd h (by decide)
theorem or_add (x y : Nat) (i : Nat) (hi : i ≤ 62) (hx : x % 2 ^ i = 0) (hy : y < 2 ^ i) (hx' : x < 4611686018427387904) : bits .or .i64 (x : Int) (y : Int) = ((x + y : Nat) : Int) := by
  have hp : 2 ^ i ≤ 2 ^ 62 := Nat.pow_le_pow_right (by decide) hi
  have e62 : (2 : Nat) ^ 62 = 4611686018427387904 := by decide
  rw [or_nat x y hx' (by omega)]
  have hq : x = 2 ^ i * (x / 2 ^ i) := by have := Nat.div_add_mod x (2 ^ i); omega
  rw [hq, ← Nat.two_pow_add_eq_or_of_lt hy (x / 2 ^ i)]
theorem joined (op d a i : Int) (h : rangeOk op d a i) : bits .or .i64 (bits .or .i64 (bits .or .i64 (wrap64 (op * 16777216)) (wrap64 (d * 1048576))) (wrap64 (a * 65536))) i = op * 16777216 + d * 1048576 + a * 65536 + i := by
  obtain ⟨h1, h2, h3, h4⟩ := h
  obtain ⟨O, rfl⟩ := Int.eq_ofNat_of_zero_le (show 0 ≤ op by omega)
  obtain ⟨D, rfl⟩ := Int.eq_ofNat_of_zero_le (show 0 ≤ d by omega)
  obtain ⟨A, rfl⟩ := Int.eq_ofNat_of_zero_le (show 0 ≤ a by omega)
  obtain ⟨I, rfl⟩ := Int.eq_ofNat_of_zero_le (show 0 ≤ i by omega)
  have w1 : wrap64 ((O : Int) * 16777216) = ((O * 16777216 : Nat) : Int) := by unfold wrap64; omega
  have w2 : wrap64 ((D : Int) * 1048576) = ((D * 1048576 : Nat) : Int) := by unfold wrap64; omega
  have w3 : wrap64 ((A : Int) * 65536) = ((A * 65536 : Nat) : Int) := by unfold wrap64; omega
  rw [w1, w2, w3, or_add (O * 16777216) (D * 1048576) 24 (by decide) (by omega) (by omega) (by omega), or_add (O * 16777216 + D * 1048576) (A * 65536) 20 (by decide) (by omega) (by omega) (by omega), or_add (O * 16777216 + D * 1048576 + A * 65536) I 16 (by decide) (by omega) (by omega) (by omega)]
  omega
theorem summed (op d a i : Int) (h : rangeOk op d a i) : wrap64 ((wrap64 ((wrap64 ((wrap64 (op * 16777216)) + (wrap64 (d * 1048576)))) + (wrap64 (a * 65536)))) + i) = op * 16777216 + d * 1048576 + a * 65536 + i := by
  obtain ⟨h1, h2, h3, h4⟩ := h
  have w1 : wrap64 (op * 16777216) = op * 16777216 := by unfold wrap64; omega
  have w2 : wrap64 (d * 1048576) = d * 1048576 := by unfold wrap64; omega
  have w3 : wrap64 (a * 65536) = a * 65536 := by unfold wrap64; omega
  have w4 : wrap64 (op * 16777216 + d * 1048576) = op * 16777216 + d * 1048576 := by unfold wrap64; omega
  have w5 : wrap64 (op * 16777216 + d * 1048576 + a * 65536) = op * 16777216 + d * 1048576 + a * 65536 := by unfold wrap64; omega
  rw [w1, w2, w3, w4, w5]
  unfold wrap64
  omega
theorem dec_len {n : Nat} (h : n ≤ 65535) : (Lib.decDigits n).length ≤ 21 := by
  have := Lib.itoa_length_le (n : Int) (by omega) (by omega)
  rwa [Lib.itoa_nonneg] at this
theorem decB_size {x : Int} (h0 : 0 ≤ x) (h1 : x ≤ 65535) : (decB x).size ≤ 21 := by
  obtain ⟨n, rfl⟩ := Int.eq_ofNat_of_zero_le h0
  have := dec_len (n := n) (by omega)
  unfold decB
  rw [Lib.itoa_nonneg]
  simpa [ByteArray.size] using this
def sp : ByteArray := ⟨#[32]⟩
def step (s : ByteArray) (x : Int) : ByteArray := s ++ (sp ++ decB x)
theorem sp_size : (⟨#[32]⟩ : ByteArray).size = 1 := rfl
theorem step_eq (s : ByteArray) (x : Int) : (s ++ (⟨#[32]⟩ : ByteArray)) ++ decB x = step s x := ByteArray.append_assoc
theorem step_size {s : ByteArray} {x : Int} (h0 : 0 ≤ x) (h1 : x ≤ 65535) : (step s x).size ≤ s.size + 22 := by
  have := decB_size h0 h1
  unfold step sp
  rw [ByteArray.size_append, ByteArray.size_append, sp_size]
  omega
theorem insTxt_cons {x : Int} {s : ByteArray} {l : List Int} (h0 : 0 ≤ x) (h1 : x ≤ 65535) (hs : s.size ≤ 1000) : insTxt (x :: l) s = insTxt l (step s x) := by
  have := decB_size h0 h1
  show (if 0 ≤ x ∧ x ≤ 65535 ∧ s.size + (1 + (decB x).size) ≤ 9223372036854775807 then insTxt l (s ++ ((⟨#[32]⟩ : ByteArray) ++ decB x)) else none) = _
  rw [if_pos ⟨h0, h1, by omega⟩]
  rfl
theorem nmsz26 : ∀ i : Fin 26, 1 ≤ (rdOf ByteArray.empty nmList (i.val : Int)).size ∧ (rdOf ByteArray.empty nmList (i.val : Int)).size ≤ 6 := by decide +kernel
theorem nm_at {op : Int} (h0 : 1 ≤ op) (h1 : op ≤ 26) : True ∧ 1 ≤ (rdOf ByteArray.empty nmList (op - 1)).size ∧ (rdOf ByteArray.empty nmList (op - 1)).size ≤ 6 := by
  have := nmsz26 ⟨(op - 1).toNat, by omega⟩
  rw [show (((op - 1).toNat : Nat) : Int) = op - 1 by omega] at this
  exact ⟨trivial, this⟩
def txtOf (op d a i : Int) : ByteArray :=
  let nm := rdOf ByteArray.empty nmList (op - 1)
  if 23 ≤ op then nm else if op = 22 then step (step nm a) i else if op = 13 ∨ op = 19 ∨ op = 21 then step (step nm d) i else step (step (step nm d) a) i
def insT (op d a i : Int) : Int × ByteArray := if fault op d a i = 0 then (0, txtOf op d a i) else (fault op d a i, ⟨#[]⟩)
theorem fault_zero {op d a i : Int} (h : fault op d a i = 0) : rangeOk op d a i := by
  unfold fault at h
  by_cases hr : rangeOk op d a i
  · exact hr
  · rw [if_neg hr] at h; exact absurd h (by decide)
theorem implT (op d a i : Int) : impl_InsText.f op d a i = some (insT op d a i) := by
  unfold impl_InsText.f insT
  rw [implIF 1 op d a i, Option.bind_some]
  by_cases hf : fault op d a i = 0
  · rw [if_pos hf, if_pos hf]
    obtain ⟨⟨o0, o1⟩, ⟨d0, d1⟩, ⟨a0, a1⟩, ⟨i0, i1⟩⟩ := fault_zero hf
    obtain ⟨_, _, hs⟩ := nm_at o0 o1
    rw [if_pos ⟨o0, o1⟩]
    have sd := step_size (s := rdOf ByteArray.empty nmList (op - 1)) (x := d) d0 (by omega)
    have sa := step_size (s := rdOf ByteArray.empty nmList (op - 1)) (x := a) a0 (by omega)
    have sda := step_size (s := step (rdOf ByteArray.empty nmList (op - 1)) d) (x := a) a0 (by omega)
    unfold txtOf plcs
    dsimp only
    by_cases c1 : 23 ≤ op
    · rw [if_pos c1, if_pos c1]; rfl
    rw [if_neg c1, if_neg c1]
    by_cases c2 : op = 22
    · rw [if_pos c2, if_pos c2]
      show (insTxt [a, i] _).bind _ = _
      rw [insTxt_cons a0 (by omega) (by omega), insTxt_cons i0 i1 (by omega)]; rfl
    rw [if_neg c2, if_neg c2]
    by_cases c3 : op = 13 ∨ op = 19 ∨ op = 21
    · rw [if_pos c3, if_pos c3]
      show (insTxt [d, i] _).bind _ = _
      rw [insTxt_cons d0 (by omega) (by omega), insTxt_cons i0 i1 (by omega)]; rfl
    rw [if_neg c3, if_neg c3]
    show (insTxt [d, a, i] _).bind _ = _
    rw [insTxt_cons d0 (by omega) (by omega), insTxt_cons a0 (by omega) (by omega), insTxt_cons i0 i1 (by omega)]; rfl
  · rw [if_neg hf, if_neg hf]
theorem bare_some (k : Nat) (op : Int) : ∃ d a i, spec_l2Bare.f (k + 1) op = some (d, a, i) := by
  by_cases h1 : op = 13 ∨ op = 19 ∨ op = 21
  · exact ⟨_, _, _, bare_a k op h1⟩
  by_cases h2 : op = 22
  · subst h2; exact ⟨_, _, _, bare_d k⟩
  by_cases h3 : 23 ≤ op ∧ op ≤ 26
  · exact ⟨_, _, _, bare_all k op h3⟩
  exact ⟨_, _, _, bare_0 k op (by omega)⟩
theorem insJ2 (k : Nat) (s : List Int) (p op d a i : Int) : ∃ i', spec_l2Ins.j2 (k + 1) s p op d a i = some (op, d, a, i', p) := by
  simp only [spec_l2Ins.j2]
  by_cases h1 : op ≤ 11
  · rw [if_pos h1, if_neg (by omega), if_neg (by omega)]; exact ⟨_, rfl⟩
  rw [if_neg h1]
  by_cases h2 : op = 21
  · rw [if_pos h2]; exact ⟨_, rfl⟩
  rw [if_neg h2]
  by_cases h3 : op = 22
  · rw [if_pos h3]; exact ⟨_, rfl⟩
  rw [if_neg h3]; exact ⟨_, rfl⟩
theorem insJ1 (k : Nat) (b : Bool) (s : List Int) (p op d a i : Int) : ∃ i', spec_l2Ins.j1 (k + 2) b s p op d a i = some (op, d, a, i', p) := by
  cases b <;> simp only [spec_l2Ins.j1]
  · rw [if_neg (by decide)]; exact insJ2 k s p op d a i
  · rw [if_pos trivial]; exact insJ2 k s p op d a 0
theorem insJ0 (k : Nat) (b c : Bool) (s : List Int) (p op d a i : Int) : ∃ a' i', spec_l2Ins.j0 (k + 3) b c s p op d a i = some (op, d, a', i', p) := by
  cases b <;> simp only [spec_l2Ins.j0]
  · rw [if_neg (by decide)]; exact ⟨_, insJ1 k c s p op d a i⟩
  · rw [if_pos trivial]; exact ⟨_, insJ1 k c s p op d 0 i⟩
theorem l2Ins_some {s : List Int} (hs : Src s) (k : Nat) (p : Int) (h0 : 0 ≤ p) (h1 : p ≤ 1000) : ∃ op d a i, spec_l2Ins.f (k + 4) s p = some (op, d, a, i, p + 1 + 1 + 1 + 1 + 1 + 1 + 1) := by
  obtain ⟨v1, e1, _⟩ := l1Next_some hs p 26 h0 (by omega)
  obtain ⟨v2, e2, _⟩ := l1Next_some hs (p + 1) 16 (by omega) (by omega)
  obtain ⟨v3, e3, _⟩ := l1Next_some hs (p + 1 + 1) 16 (by omega) (by omega)
  obtain ⟨v4, e4, _⟩ := l1Next_some hs (p + 1 + 1 + 1) 16 (by omega) (by omega)
  obtain ⟨v5, e5, _⟩ := l1Next_some hs (p + 1 + 1 + 1 + 1) 64 (by omega) (by omega)
  obtain ⟨v6, e6, _⟩ := l1Next_some hs (p + 1 + 1 + 1 + 1 + 1) 8 (by omega) (by omega)
  obtain ⟨v7, e7, _⟩ := l1Pick_some hs (p + 1 + 1 + 1 + 1 + 1 + 1) (by omega) (by omega) [v4, v5, wrap64 (65535 - v6)] (by simp)
  obtain ⟨bd, ba, bi, eb⟩ := bare_some (k + 3) (wrap64 (1 + v1))
  unfold spec_l2Ins.f
  rw [e1, Option.bind_some]
  dsimp only
  rw [e2, Option.bind_some]
  dsimp only
  rw [e3, Option.bind_some]
  dsimp only
  rw [e4, Option.bind_some]
  dsimp only
  rw [e5, Option.bind_some]
  dsimp only
  rw [e6, Option.bind_some]
  dsimp only
  rw [e7, Option.bind_some]
  dsimp only
  rw [eb, Option.bind_some]
  dsimp only
  split
  · obtain ⟨a', i', h⟩ := insJ0 (k + 1) ba bi s (p + 1 + 1 + 1 + 1 + 1 + 1 + 1) (wrap64 (1 + v1)) 0 v3 v7
    exact ⟨_, _, _, _, h⟩
  · obtain ⟨a', i', h⟩ := insJ0 (k + 1) ba bi s (p + 1 + 1 + 1 + 1 + 1 + 1 + 1) (wrap64 (1 + v1)) v2 v3 v7
    exact ⟨_, _, _, _, h⟩
theorem encS_some (k : Nat) (op d a i : Int) : ∃ c v, spec_EncodeIns.f (k + 2) op d a i = some (c, v) := by
  unfold spec_EncodeIns.f
  rw [specIF k op d a i, Option.bind_some]
  split <;> exact ⟨_, _, rfl⟩
theorem u64_nonneg (n : Int) : 0 ≤ IntKind.u64.wrap n := by
  have e : IntKind.u64.wrap n = n % 18446744073709551616 := by simp [IntKind.wrap, IntKind.bits, IntKind.signed]
  rw [e]
  omega
theorem drawDec_some {s : List Int} (hs : Src s) (k : Nat) : ∃ w, spec_DrawDecodeIns.f (k + 4) s = some w := by
  obtain ⟨op, d, a, i, e1⟩ := l2Ins_some hs k 0 (by omega) (by omega)
  obtain ⟨c, v, e2⟩ := encS_some (k + 2) op d a i
  obtain ⟨n, e3, _⟩ := l1Next_some hs (0 + 1 + 1 + 1 + 1 + 1 + 1 + 1) 8 (by omega) (by omega)
  obtain ⟨m, e4, _⟩ := l1Next_some hs (0 + 1 + 1 + 1 + 1 + 1 + 1 + 1 + 1) 32 (by omega) (by omega)
  obtain ⟨x, e5, _⟩ := l1Wide_some hs (0 + 1 + 1 + 1 + 1 + 1 + 1 + 1 + 1) (by omega) (by omega)
  unfold spec_DrawDecodeIns.f spec_l1Source.f
  rw [Option.bind_some]
  dsimp only
  rw [e1, Option.bind_some]
  dsimp only
  rw [e2, Option.bind_some]
  dsimp only
  rw [e3, Option.bind_some]
  dsimp only
  by_cases h0 : n = 0
  · rw [if_pos h0, e4, Option.bind_some]
    dsimp only
    rw [if_pos (u64_nonneg m)]
    exact ⟨_, rfl⟩
  rw [if_neg h0]
  by_cases h1 : n = 1
  · rw [if_pos h1, e5, Option.bind_some]
    exact ⟨_, rfl⟩
  rw [if_neg h1]
  exact ⟨_, rfl⟩
theorem drawEnc_some {s : List Int} (hs : Src s) (k : Nat) : ∃ op d a i, spec_DrawEncodeIns.f (k + 4) s = some (op, d, a, i) := by
  obtain ⟨op, d, a, i, e1⟩ := l2Ins_some hs k 0 (by omega) (by omega)
  obtain ⟨n, e3, _⟩ := l1Next_some hs (0 + 1 + 1 + 1 + 1 + 1 + 1 + 1) 14 (by omega) (by omega)
  obtain ⟨m, e4, _⟩ := l1Next_some hs (0 + 1 + 1 + 1 + 1 + 1 + 1 + 1 + 1) 26 (by omega) (by omega)
  obtain ⟨x0, g0, _⟩ := l1Pick_some hs (0 + 1 + 1 + 1 + 1 + 1 + 1 + 1 + 1 + 1) (by omega) (by omega) [0, 27, (-1), wrap64 (1 + m)] (by simp)
  obtain ⟨x1, g1, _⟩ := l1Pick_some hs (0 + 1 + 1 + 1 + 1 + 1 + 1 + 1 + 1) (by omega) (by omega) [(-1), 16, 3] (by simp)
  obtain ⟨x3, g3, _⟩ := l1Pick_some hs (0 + 1 + 1 + 1 + 1 + 1 + 1 + 1 + 1) (by omega) (by omega) [(-1), 65536, 16, 11] (by simp)
  have key : ∃ op d a i b, spec_l2Bent.f (k + 4) s 0 = some (op, d, a, i, b) := by
    unfold spec_l2Bent.f
    rw [e1, Option.bind_some]
    dsimp only
    rw [e3, Option.bind_some]
    dsimp only
    by_cases h0 : n = 0
    · rw [if_pos h0, e4, Option.bind_some]
      dsimp only
      rw [g0, Option.bind_some]
      exact ⟨_, _, _, _, _, rfl⟩
    rw [if_neg h0]
    by_cases h1 : n = 1
    · rw [if_pos h1, g1, Option.bind_some]
      exact ⟨_, _, _, _, _, rfl⟩
    rw [if_neg h1]
    by_cases h2 : n = 2
    · rw [if_pos h2, g1, Option.bind_some]
      exact ⟨_, _, _, _, _, rfl⟩
    rw [if_neg h2]
    by_cases h3 : n = 3
    · rw [if_pos h3, g3, Option.bind_some]
      exact ⟨_, _, _, _, _, rfl⟩
    rw [if_neg h3]
    exact ⟨_, _, _, _, _, rfl⟩
  obtain ⟨o', d', a', i', b', e⟩ := key
  unfold spec_DrawEncodeIns.f spec_l1Source.f
  rw [Option.bind_some]
  dsimp only
  rw [e, Option.bind_some]
  exact ⟨_, _, _, _, rfl⟩
def decR (w : Int) : Int × Int × Int × Int × Int := if fault (w / 16777216) (w / 1048576 % 16) (w / 65536 % 16) (w % 65536) = 0 then (0, w / 16777216, w / 1048576 % 16, w / 65536 % 16, w % 65536) else (5, 0, 0, 0, 0)
theorem decI (k : Nat) (w : Int) : impl_DecodeIns.f (k + 2) w = some (decR w) := by
  unfold impl_DecodeIns.f decR
  rw [implIF k, Option.bind_some, and_15, and_15, and_65535]
  split <;> rfl
theorem decS (k : Nat) (w : Int) : spec_DecodeIns.f (k + 2) w = some (decR w) := by
  unfold spec_DecodeIns.f spec_l2Decode.f decR
  simp only [l1In_eq, specIF k, Option.bind_some, decide_eq_true_eq, and_15, and_65535]
  by_cases h : 0 ≤ w ∧ w ≤ 4294967295
  · rw [if_pos h, Option.bind_some]
    dsimp only
    by_cases f : fault (w / 16777216) (w / 1048576 % 16) (w / 65536 % 16) (w % 65536) = 0
    · rw [beq_iff_eq.mpr f, if_pos rfl, if_pos f]
    · rw [beq_eq_false_iff_ne.mpr f, if_neg (by decide), if_neg f]
  · have f : ¬ fault (w / 16777216) (w / 1048576 % 16) (w / 65536 % 16) (w % 65536) = 0 := fun e => by
      have := (fault_range e).1
      omega
    rw [if_neg h, Option.bind_some, if_neg f]
    rfl
def encR (op d a i : Int) : Int × Int := if fault op d a i = 0 then (0, op * 16777216 + d * 1048576 + a * 65536 + i) else (fault op d a i, 0)
theorem encI (k : Nat) (op d a i : Int) : impl_EncodeIns.f (k + 2) op d a i = some (encR op d a i) := by
  unfold impl_EncodeIns.f encR
  rw [implIF k op d a i, Option.bind_some]
  by_cases f : fault op d a i = 0
  · rw [if_pos f, if_pos f, joined op d a i (fault_range f)]
  · rw [if_neg f, if_neg f]
theorem dec_enc {op d a i : Int} (f : fault op d a i = 0) : decR (op * 16777216 + d * 1048576 + a * 65536 + i) = (0, op, d, a, i) := by
  obtain ⟨h1, h2, h3, h4⟩ := fault_range f
  have e1 : (op * 16777216 + d * 1048576 + a * 65536 + i) / 16777216 = op := by omega
  have e2 : (op * 16777216 + d * 1048576 + a * 65536 + i) / 1048576 % 16 = d := by omega
  have e3 : (op * 16777216 + d * 1048576 + a * 65536 + i) / 65536 % 16 = a := by omega
  have e4 : (op * 16777216 + d * 1048576 + a * 65536 + i) % 65536 = i := by omega
  unfold decR
  rw [e1, e2, e3, e4, if_pos f]
theorem enc_dec (w : Int) : w / 16777216 * 16777216 + w / 1048576 % 16 * 1048576 + w / 65536 % 16 * 65536 + w % 65536 = w := by omega
theorem opName_ok {op : Int} (h0 : 1 ≤ op) (h1 : op ≤ 26) : impl_OpName.f op = some (0, rdOf ByteArray.empty nmList (op - 1)) := by
  have e : wrap64 (op - 1) = op - 1 := by unfold wrap64; omega
  have l : nmList.length = 26 := rfl
  unfold impl_OpName.f impl_opNames.f
  rw [within_eq, Option.bind_some, decide_eq_true ⟨h0, h1⟩, if_pos rfl, Option.bind_some, e, if_pos (by omega), if_pos (by rw [l]; omega)]
theorem step_ge (s : ByteArray) (x : Int) : s.size ≤ (step s x).size := by
  unfold step
  rw [ByteArray.size_append]
  omega
theorem txt_pos {op d a i : Int} (h0 : 1 ≤ op) (h1 : op ≤ 26) : 1 ≤ (txtOf op d a i).size := by
  have h := (nm_at h0 h1).2.1
  unfold txtOf
  dsimp only
  generalize rdOf ByteArray.empty nmList (op - 1) = n at h
  have g1 := step_ge n d
  have g2 := step_ge n a
  have g3 := step_ge (step n d) a
  have g4 := step_ge (step n d) i
  have g5 := step_ge (step n a) i
  have g6 := step_ge (step (step n d) a) i
  split
  · exact h
  · split
    · omega
    · split <;> omega
theorem offset_ok (i : Int) : ∃ t, impl_OffsetOf.f i = some t ∧ -32768 ≤ t ∧ t ≤ 32767 := by
  unfold impl_OffsetOf.f
  rw [and_65535]
  split
  · refine ⟨_, rfl, ?_⟩
    unfold wrap64
    omega
  · exact ⟨_, rfl, by omega, by omega⟩
theorem j0_true {l : List Int} (hs : Src l) (k : Nat) : laws_FnCodes.j0 (k + 5) l false = some true := by
  obtain ⟨op, d, a, i, e⟩ := drawEnc_some hs k
  simp only [laws_FnCodes.j0]
  rw [if_neg (by decide), e, Option.bind_some]
  dsimp only
  rw [encI (k + 2), Option.bind_some]
  by_cases f : fault op d a i = 0
  · have hr := fault_range f
    obtain ⟨t, et, t0, t1⟩ := offset_ok i
    have ee : encR op d a i = (0, op * 16777216 + d * 1048576 + a * 65536 + i) := by unfold encR; rw [if_pos f]
    have ei : insT op d a i = (0, txtOf op d a i) := by unfold insT; rw [if_pos f]
    rw [ee]
    dsimp only
    rw [if_pos rfl, decI (k + 2), Option.bind_some, dec_enc f]
    dsimp only
    rw [if_pos rfl, if_pos (by simp), opName_ok hr.1.1 hr.1.2, Option.bind_some]
    dsimp only
    rw [if_pos rfl, implT, ei, Option.bind_some]
    dsimp only
    have hp := txt_pos (d := d) (a := a) (i := i) hr.1.1 hr.1.2
    rw [if_pos (by omega), et, Option.bind_some, if_pos (by omega), Option.bind_some, decide_eq_true t1]
  · have ee : encR op d a i = (fault op d a i, 0) := by unfold encR; rw [if_neg f]
    rw [ee]
    dsimp only
    rw [if_neg f, specIF (k + 2), Option.bind_some]
    simp
theorem FnCodes : laws_FnCodes.Pure := by
  intro l hm hr hw
  refine ⟨8, ?_⟩
  unfold laws_FnCodes.f laws_lwBig.f
  simp only [Option.bind_some]
  by_cases hb : (l.length : Int) > 1048576
  · rw [if_pos (by simpa using hb)]
  rw [if_neg (by simpa using hb)]
  have hs : Src l := src_of (by omega) hw
  have hj := j0_true hs 3
  obtain ⟨w, e⟩ := drawDec_some hs 4
  rw [e, Option.bind_some, decI 6, Option.bind_some]
  by_cases f : fault (w / 16777216) (w / 1048576 % 16) (w / 65536 % 16) (w % 65536) = 0
  · have ed : decR w = (0, w / 16777216, w / 1048576 % 16, w / 65536 % 16, w % 65536) := by unfold decR; rw [if_pos f]
    have ee : encR (w / 16777216) (w / 1048576 % 16) (w / 65536 % 16) (w % 65536) = (0, w) := by unfold encR; rw [if_pos f, enc_dec]
    rw [ed]
    dsimp only
    rw [if_pos rfl, encI 6, Option.bind_some, ee]
    dsimp only
    rw [if_pos rfl]
    exact hj
  · have ed : decR w = (5, 0, 0, 0, 0) := by unfold decR; rw [if_neg f]
    rw [ed]
    dsimp only
    rw [if_neg (by decide), decS 6, Option.bind_some, ed]
    exact hj

end Go.Proofs.YtpppnnmippngdaaDoor.Pure
