/- FnWords: sums and products of words go round in whatever order, and a quotient and what it leaves make the word again, at every input of bytes. No condition. -/
import Derived.Test.YtccaghkjaflnfaaPFnWordsx2
import Derived.Test.YtccaghkjaflnfaaLem
namespace Go.Proofs.Ytccaghkjaflnfaa.Pure
open Go.RowKit Go.Proofs.Ytccaghkjaflnfaa.PFnWords Go.Proofs.YtccaghkjaflnfaaW.PrintWords Go.Proofs.YtccaghkjaflnfaaW.PrintLast Go.Proofs.YtccaghkjaflnfaaW.PrintMore
open Go.Proofs.Ytccaghkjaflnfaa.Lem
set_option linter.unusedVariables false
set_option linter.unusedSimpArgs false
def Src (s : List Int) : Prop := s.length ≤ 2000000 ∧ ∀ x ∈ s, 0 ≤ x ∧ x ≤ 255
theorem src_of {s : List Int} (hs : s.length ≤ 2000000) (hw : ∀ x ∈ s, (Lit.int .u8 x).wf = true) : Src s :=
  ⟨hs, fun x hx => by have := hw x hx; simp [Lit.wf, IntKind.min, IntKind.max, IntKind.bits, IntKind.signed] at this; omega⟩
theorem src_rd {s : List Int} (h : Src s) (i : Int) : 0 ≤ rd s i ∧ rd s i ≤ 255 := by
  unfold rd
  by_cases hi : i.toNat < s.length
  · rw [List.getD_eq_getElem?_getD, List.getElem?_eq_getElem hi]
    exact h.2 _ (List.getElem_mem hi)
  · rw [List.getD_eq_getElem?_getD, List.getElem?_eq_none (by omega)]
    exact ⟨by simp, by simp⟩
theorem wr1 {a : Int} (h0 : 0 ≤ a) (h1 : a ≤ 1000000) : wrap64 (a + 1) = a + 1 := by unfold wrap64; omega
theorem wr2 {a : Int} (h0 : 0 ≤ a) (h1 : a ≤ 1000000) : wrap64 (a + 1 - 1) = a := by unfold wrap64; omega
theorem l1Next_some {s : List Int} (hs : Src s) (a n : Int) (h0 : 0 ≤ a) (h1 : a ≤ 1000000) :
    ∃ v, spec_l1Next.f s a n = some (v, a + 1) ∧ 0 ≤ v ∧ (1 ≤ n → v < n) ∧ (n < 1 → v = 0) := by
  unfold spec_l1Next.f
  by_cases hn : n < 1
  · exact ⟨0, by rw [if_pos hn, wr1 h0 h1], by omega, by omega, by omega⟩
  rw [if_neg hn]
  have hn0 : ¬ n = 0 := by omega
  rw [wr1 h0 h1, wr2 h0 h1, wr1 h0 h1]
  have key : ∀ e : Int, 0 ≤ e → 0 ≤ Int.tmod e n ∧ Int.tmod e n < n := fun e he => by
    rw [Int.tmod_eq_emod_of_nonneg he]
    exact ⟨Int.emod_nonneg _ hn0, Int.emod_lt_of_pos _ (by omega)⟩
  by_cases hl : (s.length : Int) = 0
  · rw [if_pos hl, if_neg hn0]
    have e : wrap64 (a * 7) = a * 7 := by unfold wrap64; omega
    rw [e]
    have := key (a * 7) (by omega)
    exact ⟨_, rfl, this.1, fun _ => this.2, by omega⟩
  rw [if_neg hl]
  have hlen := hs.1
  have m1 : ∀ e : Int, 0 ≤ e → 0 ≤ Int.tmod e (s.length : Int) ∧ Int.tmod e (s.length : Int) < (s.length : Int) := fun e he => by
    rw [Int.tmod_eq_emod_of_nonneg he]
    exact ⟨Int.emod_nonneg _ hl, Int.emod_lt_of_pos _ (by omega)⟩
  have q1 := m1 a h0
  have q2 := m1 (a + 1) (by omega)
  rw [if_pos q1.1, if_pos q1.2]
  have d1 : 0 ≤ Int.tdiv a (s.length : Int) ∧ Int.tdiv a (s.length : Int) ≤ a := by
    rw [Int.tdiv_eq_ediv_of_nonneg h0]
    exact ⟨Int.ediv_nonneg h0 (by omega), Int.ediv_le_self _ h0⟩
  have r1 := src_rd hs (Int.tmod a (s.length : Int))
  have r2 := src_rd hs (Int.tmod (a + 1) (s.length : Int))
  generalize Int.tdiv a (s.length : Int) = D at *
  generalize rd s (Int.tmod a (s.length : Int)) = X at *
  generalize rd s (Int.tmod (a + 1) (s.length : Int)) = Y at *
  have w1 : wrap64 D = D := by unfold wrap64; omega
  have w2 : wrap64 (D * 37) = D * 37 := by unfold wrap64; omega
  have w3 : wrap64 X = X := by unfold wrap64; omega
  have w4 : wrap64 Y = Y := by unfold wrap64; omega
  have w5 : wrap64 (X + D * 37) = X + D * 37 := by unfold wrap64; omega
  by_cases hb : n > 200
  · rw [if_pos hb, if_pos q2.1, if_pos q2.2, if_neg hn0, w1, w2, w3, w4, w5]
    have w6 : wrap64 ((X + D * 37) * 251) = (X + D * 37) * 251 := by unfold wrap64; omega
    have w7 : wrap64 (Y * 13) = Y * 13 := by unfold wrap64; omega
    have w8 : wrap64 ((X + D * 37) * 251 + Y * 13) = (X + D * 37) * 251 + Y * 13 := by unfold wrap64; omega
    have w9 : wrap64 ((X + D * 37) * 251 + Y * 13 + a) = (X + D * 37) * 251 + Y * 13 + a := by unfold wrap64; omega
    rw [w6, w7, w8, w9]
    have := key ((X + D * 37) * 251 + Y * 13 + a) (by omega)
    exact ⟨_, rfl, this.1, fun _ => this.2, by omega⟩
  · rw [if_neg hb, if_neg hn0, w1, w2, w3, w5]
    have := key (X + D * 37) (by omega)
    exact ⟨_, rfl, this.1, fun _ => this.2, by omega⟩
theorem l1Pick_some {s : List Int} (hs : Src s) (a : Int) (h0 : 0 ≤ a) (h1 : a ≤ 1000000) (l : List Int) (hl : l ≠ []) :
    ∃ v, spec_l1Pick.f s a l = some (v, a + 1) ∧ v ∈ l := by
  have hp : 0 < l.length := List.length_pos_iff.mpr hl
  obtain ⟨i, hi, b0, b1, _⟩ := l1Next_some hs a (l.length : Int) h0 h1
  unfold spec_l1Pick.f
  rw [hi]
  simp only [Option.bind_some]
  rw [if_pos b0, if_pos (b1 (by omega))]
  refine ⟨_, rfl, ?_⟩
  unfold rd
  have hlt : i.toNat < l.length := by have := b1 (by omega); omega
  rw [List.getD_eq_getElem?_getD, List.getElem?_eq_getElem hlt]
  exact List.getElem_mem hlt
theorem l1Word_some {s : List Int} (hs : Src s) (a : Int) (h0 : 0 ≤ a) (h1 : a ≤ 999000) :
    ∃ v, spec_l1Word.f s a = some (v, a + 5) ∧ 0 ≤ v ∧ v ≤ 4294967295 := by
  unfold spec_l1Word.f
  obtain ⟨x1, e1, p1, q1, _⟩ := l1Next_some hs a 90 h0 (by omega)
  obtain ⟨x2, e2, p2, q2, _⟩ := l1Next_some hs (a + 1) 9 (by omega) (by omega)
  obtain ⟨x3, e3, p3, q3, _⟩ := l1Next_some hs (a + 1 + 1) 9 (by omega) (by omega)
  obtain ⟨x4, e4, p4, q4, _⟩ := l1Next_some hs (a + 1 + 1 + 1) 60000 (by omega) (by omega)
  have q1 := q1 (by omega)
  have q2 := q2 (by omega)
  have q3 := q3 (by omega)
  have q4 := q4 (by omega)
  have w1 : wrap64 (4294967295 - x3) = 4294967295 - x3 := by unfold wrap64; omega
  have w2 : wrap64 (x4 * 70000) = x4 * 70000 := by unfold wrap64; omega
  obtain ⟨v, e5, hv⟩ := l1Pick_some hs (a + 1 + 1 + 1 + 1) (by omega) (by omega) [x1, x2, 4294967295 - x3, 2147483648, 2147483647, 0, x4 * 70000] (by simp)
  refine ⟨v, ?_, ?_⟩
  · simp only [e1, e2, e3, e4, w1, w2, e5, Option.bind_some]
    rw [show a + 1 + 1 + 1 + 1 + 1 = a + 5 by omega]
  · simp only [List.mem_cons, List.not_mem_nil, or_false] at hv
    omega
theorem l1Wide_some {s : List Int} (hs : Src s) (a : Int) (h0 : 0 ≤ a) (h1 : a ≤ 990000) :
    ∃ v, spec_l1Wide.f s a = some (v, a + 16) ∧ -9223372036854775808 ≤ v ∧ v ≤ 9223372036854775807 := by
  unfold spec_l1Wide.f
  obtain ⟨x1, e1, p1, q1⟩ := l1Word_some hs a h0 (by omega)
  obtain ⟨x2, e2, p2, q2⟩ := l1Word_some hs (a + 5) (by omega) (by omega)
  obtain ⟨x3, e3, p3, q3⟩ := l1Word_some hs (a + 5 + 5) (by omega) (by omega)
  obtain ⟨v, e5, hv⟩ := l1Pick_some hs (a + 5 + 5 + 5) (by omega) (by omega) [x1, x2, x3, -1, -9223372036854775808, 9223372036854775807, 4294967296, -5] (by simp)
  refine ⟨v, ?_, ?_⟩
  · simp only [e1, e2, e3, e5, Option.bind_some]
    rw [show a + 5 + 5 + 5 + 1 = a + 16 by omega]
  · simp only [List.mem_cons, List.not_mem_nil, or_false] at hv
    omega
def W (a : Int) : Int := a % 4294967296
def Sg (a : Int) : Int := if a % 4294967296 < 2147483648 then a % 4294967296 else a % 4294967296 - 4294967296
theorem wrap_is (a : Int) : impl_WrapWord.f a = some (a % 4294967296) := by unfold impl_WrapWord.f; rw [and_word]
theorem signed_is (a : Int) : impl_SignedOf.f a = some (Sg a) := by
  unfold impl_SignedOf.f Sg
  rw [wrap_is]
  simp only [Option.bind_some]
  split
  · rfl
  · unfold wrap64
    exact congrArg some (by omega)
theorem add_is (a b : Int) : impl_AddWords.f a b = some ((a + b) % 4294967296) := by
  have e : wrap64 (a % 4294967296 + b % 4294967296) = a % 4294967296 + b % 4294967296 := by unfold wrap64; omega
  unfold impl_AddWords.f
  simp only [wrap_is, Option.bind_some, e]
  exact congrArg some (by omega)
theorem mul_is (a b : Int) : impl_MulWords.f a b = some ((a * b) % 4294967296) := by
  unfold impl_MulWords.f
  rw [← Int.mul_emod]
theorem Sg_W (a : Int) : Sg a % 4294967296 = a % 4294967296 := by unfold Sg; split <;> omega
theorem Sg_lo (a : Int) : -2147483648 ≤ Sg a := by unfold Sg; split <;> omega
theorem Sg_hi (a : Int) : Sg a ≤ 2147483647 := by unfold Sg; split <;> omega
theorem tdiv_in (x y : Int) (h0 : -2147483648 ≤ x) (h1 : x ≤ 2147483647) : wrap64 (Int.tdiv x y) = Int.tdiv x y := by
  have h := Int.natAbs_tdiv x y
  have h2 : x.natAbs.div y.natAbs ≤ x.natAbs := Nat.div_le_self _ _
  rw [← h] at h2
  generalize Int.tdiv x y = q at *
  unfold wrap64
  omega
theorem div_is (a b : Int) : impl_DivWords.f a b = some (if Sg b = 0 then 4294967295 else Int.tdiv (Sg a) (Sg b) % 4294967296) := by
  unfold impl_DivWords.f
  simp only [signed_is, Option.bind_some]
  split
  · rfl
  · simp only [wrap_is, Option.bind_some, tdiv_in _ _ (Sg_lo a) (Sg_hi a)]
theorem rem_is (a b : Int) : impl_RemWords.f a b = some (if Sg b = 0 then a % 4294967296 else Int.tmod (Sg a) (Sg b) % 4294967296) := by
  unfold impl_RemWords.f
  simp only [signed_is, Option.bind_some]
  split <;> simp only [wrap_is, Option.bind_some]
theorem mulmod_r (x y : Int) : (x * (y % 4294967296)) % 4294967296 = (x * y) % 4294967296 := by
  rw [Int.mul_emod, Int.emod_emod_of_dvd _ (Int.dvd_refl _), ← Int.mul_emod]
theorem mulmod_l (x y : Int) : (x % 4294967296 * y) % 4294967296 = (x * y) % 4294967296 := by
  rw [Int.mul_emod, Int.emod_emod_of_dvd _ (Int.dvd_refl _), ← Int.mul_emod]
theorem back_is (a b : Int) : ((if Sg b = 0 then 4294967295 else Int.tdiv (Sg a) (Sg b) % 4294967296) * b % 4294967296 + (if Sg b = 0 then a % 4294967296 else Int.tmod (Sg a) (Sg b) % 4294967296)) % 4294967296 = a % 4294967296 := by
  by_cases h : Sg b = 0
  · rw [if_pos h, if_pos h]
    have hb : b % 4294967296 = 0 := by rw [← Sg_W, h]; rfl
    have : (4294967295 * b) % 4294967296 = 0 := by omega
    omega
  · rw [if_neg h, if_neg h, mulmod_l]
    have e : Int.tdiv (Sg a) (Sg b) * b % 4294967296 = Int.tdiv (Sg a) (Sg b) * Sg b % 4294967296 := by
      rw [← mulmod_r _ b, ← Sg_W b, mulmod_r]
    rw [e]
    have d := Int.tdiv_mul_add_tmod (Sg a) (Sg b)
    have s := Sg_W a
    generalize Int.tdiv (Sg a) (Sg b) * Sg b = P at *
    generalize Int.tmod (Sg a) (Sg b) = R at *
    omega
theorem prod_is (a b c : Int) : (a * ((b + c) % 4294967296)) % 4294967296 = ((a * b) % 4294967296 + (a * c) % 4294967296) % 4294967296 := by
  rw [mulmod_r, Int.mul_add]
  omega
theorem spec_signed (a : Int) : spec_SignedOf.f a = some (Sg a) := by
  unfold spec_SignedOf.f Sg wrap64 wrap32
  split <;> exact congrArg some (by omega)
theorem two_some {l : List Int} (hs : Src l) : ∃ a b, spec_DrawDivWords.f l = some (a, b) := by
  obtain ⟨a, ea, _, _⟩ := l1Wide_some hs 0 (by omega) (by omega)
  obtain ⟨b, eb, _, _⟩ := l1Wide_some hs (0 + 16) (by omega) (by omega)
  refine ⟨a, b, ?_⟩
  unfold spec_DrawDivWords.f spec_l1Two.f spec_l1Source.f
  rw [Option.bind_some]
  show ((((spec_l1Wide.f l 0).bind _).bind _) = _)
  rw [ea, Option.bind_some]
  show ((((spec_l1Wide.f l (0 + 16)).bind _).bind _) = _)
  rw [eb, Option.bind_some, Option.bind_some]
theorem one_some {l : List Int} (hs : Src l) : ∃ a, spec_DrawWrapWord.f l = some a := by
  obtain ⟨a, ea, _, _⟩ := l1Wide_some hs 0 (by omega) (by omega)
  refine ⟨a, ?_⟩
  unfold spec_DrawWrapWord.f spec_l1Source.f
  rw [Option.bind_some]
  show ((spec_l1Wide.f l 0).bind _ = _)
  rw [ea, Option.bind_some]
theorem FnWords : laws_FnWords.Pure := by
  intro l hm hr hw
  unfold laws_FnWords.f laws_lwBig.f
  simp only [Option.bind_some]
  by_cases hb : (l.length : Int) > 1048576
  · rw [if_pos (by simpa using hb)]
  rw [if_neg (by simpa using hb)]
  have hs : Src l := src_of (by omega) hw
  have hs4 : Src ([4] ++ l) := ⟨by simp; omega, fun x hx => by
    rcases List.mem_append.mp hx with h | h
    · simp at h; omega
    · exact hs.2 x h⟩
  obtain ⟨a, b, eab⟩ := two_some hs
  obtain ⟨c, ec⟩ := one_some hs4
  rw [eab]
  simp only [Option.bind_some]
  rw [if_pos (by simp; omega), ec]
  simp only [add_is, mul_is, div_is, rem_is, signed_is, spec_signed, wrap_is, Option.bind_some]
  rw [if_pos (by omega), if_neg (by omega), if_neg (by omega), if_pos (Sg_W a), if_pos trivial, if_pos (congrArg (· % 4294967296) (Int.add_comm a b)), if_pos (prod_is a b c), if_pos (back_is a b), Int.add_zero, beq_self_eq_true]

end Go.Proofs.Ytccaghkjaflnfaa.Pure
