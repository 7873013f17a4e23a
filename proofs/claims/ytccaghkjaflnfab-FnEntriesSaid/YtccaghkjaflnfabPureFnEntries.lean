/- FnEntries: an entry is told by its word, and what a word tells is told by the least such word, at every input of bytes. No condition. -/
import Derived.Test.YtccaghkjaflnfabPFnEntriesx3
import Derived.Test.YtccaghkjaflnfabLem
namespace Go.Proofs.Ytccaghkjaflnfab.Pure
open Go.RowKit Go.Proofs.Ytccaghkjaflnfab.PFnEntries Go.Proofs.YtccaghkjaflnfabW.PrintWords Go.Proofs.YtccaghkjaflnfabW.PrintLast Go.Proofs.YtccaghkjaflnfabW.PrintMore
open Go.Proofs.Ytccaghkjaflnfab.Lem
set_option linter.unusedVariables false
set_option linter.unusedSimpArgs false
def Src (s : List Int) : Prop := s.length ≤ 2000000 ∧ ∀ x ∈ s, 0 ≤ x ∧ x ≤ 255
theorem src_of {s : List Int} (hs : s.length ≤ 2000000) (hw : ∀ x ∈ s, (Lit.int .u8 x).wf = true) : Src s :=
  ⟨hs, fun x hx => by have := hw x hx; simp [Lit.wf, IntKind.min, IntKind.max, IntKind.bits, IntKind.signed] at this; omega⟩
theorem src_rd {s : List Int} (h : Src s) (i : Int) : 0 ≤ rd s i ∧ rd s i ≤ 255 := by
  unfold rd
  by_cases hi : i.toNat < s.length
  · rw [List.getD_eq_getElem?_getD, List.getElem?_eq_getElem hi]
    exact h.2 _ (List.getElem_mem hi)
  · rw [List.getD_eq_getElem?_getD, List.getElem?_eq_none (by omega)]
    exact ⟨by simp, by simp⟩
theorem wr1 {a : Int} (h0 : 0 ≤ a) (h1 : a ≤ 1000000) : wrap64 (a + 1) = a + 1 := by unfold wrap64; omega
theorem wr2 {a : Int} (h0 : 0 ≤ a) (h1 : a ≤ 1000000) : wrap64 (a + 1 - 1) = a := by unfold wrap64; omega
theorem l1Next_some {s : List Int} (hs : Src s) (a n : Int) (h0 : 0 ≤ a) (h1 : a ≤ 1000000) :
    ∃ v, spec_l1Next.f s a n = some (v, a + 1) ∧ 0 ≤ v ∧ (1 ≤ n → v < n) ∧ (n < 1 → v = 0) := by
  unfold spec_l1Next.f
  by_cases hn : n < 1
  · exact ⟨0, by rw [if_pos hn, wr1 h0 h1], by omega, by omega, by omega⟩
  rw [if_neg hn]
  have hn0 : ¬ n = 0 := by omega
  rw [wr1 h0 h1, wr2 h0 h1, wr1 h0 h1]
  have key : ∀ e : Int, 0 ≤ e → 0 ≤ Int.tmod e n ∧ Int.tmod e n < n := fun e he => by
    rw [Int.tmod_eq_emod_of_nonneg he]
    exact ⟨Int.emod_nonneg _ hn0, Int.emod_lt_of_pos _ (by omega)⟩
  by_cases hl : (s.length : Int) = 0
  · rw [if_pos hl, if_neg hn0]
    have e : wrap64 (a * 7) = a * 7 := by unfold wrap64; omega
    rw [e]
    have := key (a * 7) (by omega)
    exact ⟨_, rfl, this.1, fun _ => this.2, by omega⟩
  rw [if_neg hl]
  have hlen := hs.1
  have m1 : ∀ e : Int, 0 ≤ e → 0 ≤ Int.tmod e (s.length : Int) ∧ Int.tmod e (s.length : Int) < (s.length : Int) := fun e he => by
    rw [Int.tmod_eq_emod_of_nonneg he]
    exact ⟨Int.emod_nonneg _ hl, Int.emod_lt_of_pos _ (by omega)⟩
  have q1 := m1 a h0
  have q2 := m1 (a + 1) (by omega)
  rw [if_pos q1.1, if_pos q1.2]
  have d1 : 0 ≤ Int.tdiv a (s.length : Int) ∧ Int.tdiv a (s.length : Int) ≤ a := by
    rw [Int.tdiv_eq_ediv_of_nonneg h0]
    exact ⟨Int.ediv_nonneg h0 (by omega), Int.ediv_le_self _ h0⟩
  have r1 := src_rd hs (Int.tmod a (s.length : Int))
  have r2 := src_rd hs (Int.tmod (a + 1) (s.length : Int))
  generalize Int.tdiv a (s.length : Int) = D at *
  generalize rd s (Int.tmod a (s.length : Int)) = X at *
  generalize rd s (Int.tmod (a + 1) (s.length : Int)) = Y at *
  have w1 : wrap64 D = D := by unfold wrap64; omega
  have w2 : wrap64 (D * 37) = D * 37 := by unfold wrap64; omega
  have w3 : wrap64 X = X := by unfold wrap64; omega
  have w4 : wrap64 Y = Y := by unfold wrap64; omega
  have w5 : wrap64 (X + D * 37) = X + D * 37 := by unfold wrap64; omega
  by_cases hb : n > 200
  · rw [if_pos hb, if_pos q2.1, if_pos q2.2, if_neg hn0, w1, w2, w3, w4, w5]
    have w6 : wrap64 ((X + D * 37) * 251) = (X + D * 37) * 251 := by unfold wrap64; omega
    have w7 : wrap64 (Y * 13) = Y * 13 := by unfold wrap64; omega
    have w8 : wrap64 ((X + D * 37) * 251 + Y * 13) = (X + D * 37) * 251 + Y * 13 := by unfold wrap64; omega
    have w9 : wrap64 ((X + D * 37) * 251 + Y * 13 + a) = (X + D * 37) * 251 + Y * 13 + a := by unfold wrap64; omega
    rw [w6, w7, w8, w9]
    have := key ((X + D * 37) * 251 + Y * 13 + a) (by omega)
    exact ⟨_, rfl, this.1, fun _ => this.2, by omega⟩
  · rw [if_neg hb, if_neg hn0, w1, w2, w3, w5]
    have := key (X + D * 37) (by omega)
    exact ⟨_, rfl, this.1, fun _ => this.2, by omega⟩
theorem l1Pick_some {s : List Int} (hs : Src s) (a : Int) (h0 : 0 ≤ a) (h1 : a ≤ 1000000) (l : List Int) (hl : l ≠ []) :
    ∃ v, spec_l1Pick.f s a l = some (v, a + 1) ∧ v ∈ l := by
  have hp : 0 < l.length := List.length_pos_iff.mpr hl
  obtain ⟨i, hi, b0, b1, _⟩ := l1Next_some hs a (l.length : Int) h0 h1
  unfold spec_l1Pick.f
  rw [hi]
  simp only [Option.bind_some]
  rw [if_pos b0, if_pos (b1 (by omega))]
  refine ⟨_, rfl, ?_⟩
  unfold rd
  have hlt : i.toNat < l.length := by have := b1 (by omega); omega
  rw [List.getD_eq_getElem?_getD, List.getElem?_eq_getElem hlt]
  exact List.getElem_mem hlt
theorem within_eq (a x y : Int) : impl_within.f a x y = some (decide (x ≤ a ∧ a ≤ y)) := by
  unfold impl_within.f
  split <;> rename_i h <;> simp <;> omega
theorem l1In_eq (a x y : Int) : spec_l1In.f a x y = some (decide (x ≤ a ∧ a ≤ y)) := by
  unfold spec_l1In.f
  split <;> rename_i h <;> simp <;> omega
theorem entryOf_is (w : Int) (h0 : 0 ≤ w) (h1 : w ≤ 4294967295) : impl_EntryOf.f w = some (0, (if w % 8 = 0 ∨ 8 ≤ w / 8 then -1 else w / 8), (if w % 8 = 0 ∨ 8 ≤ w / 8 then 0 else w % 8)) := by
  have e1 : Int.tdiv w 8 = w / 8 := Int.tdiv_eq_ediv_of_nonneg h0
  have e2 : Int.tmod w 8 = w % 8 := Int.tmod_eq_emod_of_nonneg h0
  have e3 : wrap64 (w / 8) = w / 8 := by unfold wrap64; omega
  simp only [impl_EntryOf.f, impl_isWord.f, impl_entryOf.f, impl_nowhere.f, within_eq, Option.bind_some, decide_eq_true_eq, e1, e2, e3]
  rw [if_pos ⟨h0, h1⟩]
  by_cases c : w % 8 = 0
  · rw [if_pos c, if_pos (.inl c), if_pos (.inl c)]; rfl
  · rw [if_neg c]
    by_cases d : w / 8 ≥ 8
    · rw [if_pos d, if_pos (.inr d), if_pos (.inr d)]; rfl
    · rw [if_neg d, if_neg (by omega), if_neg (by omega)]; rfl
theorem entryOf_no (w : Int) (h : ¬ (0 ≤ w ∧ w ≤ 4294967295)) : impl_EntryOf.f w = some (3, 0, 0) := by
  simp only [impl_EntryOf.f, impl_isWord.f, within_eq, Option.bind_some, decide_eq_true_eq]
  rw [if_neg h]
theorem entryOf_same (w : Int) : spec_EntryOf.f w = impl_EntryOf.f w := by
  have e : impl_entryOf.f w = spec_l4Entry.f w := rfl
  simp only [spec_EntryOf.f, impl_EntryOf.f, impl_isWord.f, within_eq, l1In_eq, Option.bind_some, decide_eq_true_eq, e]
theorem drawOf_some {l : List Int} (hs : Src l) : ∃ w, spec_DrawEntryOf.f l = some w := by
  obtain ⟨a, ea, _⟩ := l1Next_some hs 0 64 (by omega) (by omega)
  obtain ⟨b, eb, _⟩ := l1Next_some hs (0 + 1) 80 (by omega) (by omega)
  obtain ⟨w, ew, _⟩ := l1Pick_some hs (0 + 1 + 1) (by omega) (by omega) [a, b, 0, 4294967295, -1, 4294967296] (by simp)
  refine ⟨w, ?_⟩
  unfold spec_DrawEntryOf.f spec_l1Source.f
  rw [Option.bind_some]
  show ((spec_l1Next.f l 0 64).bind _ = _)
  rw [ea, Option.bind_some]
  show ((spec_l1Next.f l (0 + 1) 80).bind _ = _)
  rw [eb, Option.bind_some]
  show ((spec_l1Pick.f l (0 + 1 + 1) _).bind _ = _)
  rw [ew, Option.bind_some]
theorem drawWord_some {l : List Int} (hs : Src l) : ∃ a b, spec_DrawEntryWord.f l = some (a, b) := by
  obtain ⟨a, ea, _⟩ := l1Next_some hs 0 10 (by omega) (by omega)
  obtain ⟨b, eb, _⟩ := l1Next_some hs (0 + 1) 7 (by omega) (by omega)
  obtain ⟨w, ew, _⟩ := l1Pick_some hs (0 + 1 + 1) (by omega) (by omega) [wrap64 (1 + b), 0, 8, -1] (by simp)
  refine ⟨wrap64 (a - 1), w, ?_⟩
  unfold spec_DrawEntryWord.f spec_l1Source.f
  rw [Option.bind_some]
  show ((spec_l1Next.f l 0 10).bind _ = _)
  rw [ea, Option.bind_some]
  show ((spec_l1Next.f l (0 + 1) 7).bind _ = _)
  rw [eb, Option.bind_some]
  show ((spec_l1Pick.f l (0 + 1 + 1) _).bind _ = _)
  rw [ew, Option.bind_some]
theorem second {l : List Int} (hs : Src l) (k : Nat) : laws_FnEntries.j1 (k + 1) l = some true := by
  obtain ⟨a, b, h⟩ := drawWord_some hs
  simp only [laws_FnEntries.j1]
  rw [h, Option.bind_some]
  dsimp only
  simp only [impl_EntryWord.f, spec_EntryWord.f, Option.bind_some]
  by_cases c : a < -1 ∨ 7 < a ∨ b < 0 ∨ 7 < b
  · simp only [if_pos c]
    rfl
  · simp only [if_neg c]
    by_cases d : a = -1
    · simp only [if_pos d]
      by_cases e : b = 0
      · simp only [if_pos e, if_true, entryOf_is 0 (by omega) (by omega), Option.bind_some, d, e]
        rfl
      · simp only [if_neg e]
        rfl
    · simp only [if_neg d]
      by_cases e : b = 0
      · simp only [if_pos e]
        rfl
      · have q1 : (8 * a + b) % 8 = b := by omega
        have q2 : (8 * a + b) / 8 = a := by omega
        have q3 : ¬ (b = 0 ∨ 8 ≤ a) := by omega
        simp only [if_neg e, if_true, entryOf_is (8 * a + b) (by omega) (by omega), Option.bind_some, q1, q2, if_neg q3, beq_self_eq_true, Bool.and_self]
theorem FnEntries : laws_FnEntries.Pure := by
  intro l hm hr hw
  refine ⟨2, ?_⟩
  unfold laws_FnEntries.f laws_lwBig.f
  rw [Option.bind_some]
  by_cases hb : (l.length : Int) > 1048576
  · rw [if_pos (by simpa using hb)]
  rw [if_neg (by simpa using hb)]
  have hs : Src l := src_of (by omega) hw
  obtain ⟨w, ew⟩ := drawOf_some hs
  rw [ew, Option.bind_some]
  by_cases h : 0 ≤ w ∧ w ≤ 4294967295
  · rw [entryOf_is w h.1 h.2, Option.bind_some]
    dsimp only
    rw [if_pos rfl]
    simp only [laws_FnEntries.j0, Bool.false_eq_true, if_false, if_true, impl_EntryWord.f, Option.bind_some]
    by_cases c : w % 8 = 0 ∨ 8 ≤ w / 8
    · simp only [if_pos c]
      have hn : ¬ (0 : Int) > w := by omega
      have e0 : ¬ ((-1 : Int) < -1 ∨ (7 : Int) < -1 ∨ (0 : Int) < 0 ∨ (7 : Int) < 0) := by omega
      simp only [if_neg e0, if_true, if_neg hn]
      rw [entryOf_is 0 (by omega) (by omega), Option.bind_some]
      exact second hs 0
    · simp only [if_neg c]
      have q : 8 * (w / 8) + w % 8 = w := by omega
      have n1 : ¬ (w / 8 < -1 ∨ 7 < w / 8 ∨ w % 8 < 0 ∨ 7 < w % 8) := by omega
      have n2 : ¬ (w / 8 = -1) := by omega
      have n3 : ¬ (w % 8 = 0) := by omega
      have n4 : ¬ w > w := by omega
      rw [if_neg n1, if_neg n2, if_neg n3]
      dsimp only
      rw [if_pos rfl, q, if_neg n4, entryOf_is w h.1 h.2, Option.bind_some]
      dsimp only
      rw [if_neg c, if_neg c, beq_self_eq_true, beq_self_eq_true]
      exact second hs 0
  · rw [entryOf_no w h, Option.bind_some]
    dsimp only
    rw [if_neg (by omega), entryOf_same, entryOf_no w h, Option.bind_some]
    simp only [laws_FnEntries.j0]
    exact second hs 0

end Go.Proofs.Ytccaghkjaflnfab.Pure
