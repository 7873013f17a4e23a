/- FnBits: the bits of two words together, and a word shifted and back, at every input of bytes. No condition. -/
import Derived.Test.YtccaghkjaflnfabPFnBitsx2
import Derived.Test.YtccaghkjaflnfabLem
namespace Go.Proofs.Ytccaghkjaflnfab.Pure
open Go.RowKit Go.Proofs.Ytccaghkjaflnfab.PFnBits Go.Proofs.YtccaghkjaflnfabW.PrintWords Go.Proofs.YtccaghkjaflnfabW.PrintLast Go.Proofs.YtccaghkjaflnfabW.PrintMore
open Go.Proofs.Ytccaghkjaflnfab.Lem
set_option linter.unusedVariables false
set_option linter.unusedSimpArgs false
def Src (s : List Int) : Prop := s.length ≤ 2000000 ∧ ∀ x ∈ s, 0 ≤ x ∧ x ≤ 255
theorem src_of {s : List Int} (hs : s.length ≤ 2000000) (hw : ∀ x ∈ s, (Lit.int .u8 x).wf = true) : Src s :=
  ⟨hs, fun x hx => by have := hw x hx; simp [Lit.wf, IntKind.min, IntKind.max, IntKind.bits, IntKind.signed] at this; omega⟩
theorem src_rd {s : List Int} (h : Src s) (i : Int) : 0 ≤ rd s i ∧ rd s i ≤ 255 := by
  unfold rd
  by_cases hi : i.toNat < s.length
  · rw [List.getD_eq_getElem?_getD, List.getElem?_eq_getElem hi]
    exact h.2 _ (List.getElem_mem hi)
  · rw [List.getD_eq_getElem?_getD, List.getElem?_eq_none (by omega)]
    exact ⟨by simp, by simp⟩
theorem wr1 {a : Int} (h0 : 0 ≤ a) (h1 : a ≤ 1000000) : wrap64 (a + 1) = a + 1 := by unfold wrap64; omega
theorem wr2 {a : Int} (h0 : 0 ≤ a) (h1 : a ≤ 1000000) : wrap64 (a + 1 - 1) = a := by unfold wrap64; omega
theorem l1Next_some {s : List Int} (hs : Src s) (a n : Int) (h0 : 0 ≤ a) (h1 : a ≤ 1000000) :
    ∃ v, spec_l1Next.f s a n = some (v, a + 1) ∧ 0 ≤ v ∧ (1 ≤ n → v < n) ∧ (n < 1 → v = 0) := by
  unfold spec_l1Next.f
  by_cases hn : n < 1
  · exact ⟨0, by rw [if_pos hn, wr1 h0 h1], by omega, by omega, by omega⟩
  rw [if_neg hn]
  have hn0 : ¬ n = 0 := by omega
  rw [wr1 h0 h1, wr2 h0 h1, wr1 h0 h1]
  have key : ∀ e : Int, 0 ≤ e → 0 ≤ Int.tmod e n ∧ Int.tmod e n < n := fun e he => by
    rw [Int.tmod_eq_emod_of_nonneg he]
    exact ⟨Int.emod_nonneg _ hn0, Int.emod_lt_of_pos _ (by omega)⟩
  by_cases hl : (s.length : Int) = 0
  · rw [if_pos hl, if_neg hn0]
    have e : wrap64 (a * 7) = a * 7 := by unfold wrap64; omega
    rw [e]
    have := key (a * 7) (by omega)
    exact ⟨_, rfl, this.1, fun _ => this.2, by omega⟩
  rw [if_neg hl]
  have hlen := hs.1
  have m1 : ∀ e : Int, 0 ≤ e → 0 ≤ Int.tmod e (s.length : Int) ∧ Int.tmod e (s.length : Int) < (s.length : Int) := fun e he => by
    rw [Int.tmod_eq_emod_of_nonneg he]
    exact ⟨Int.emod_nonneg _ hl, Int.emod_lt_of_pos _ (by omega)⟩
  have q1 := m1 a h0
  have q2 := m1 (a + 1) (by omega)
  rw [if_pos q1.1, if_pos q1.2]
  have d1 : 0 ≤ Int.tdiv a (s.length : Int) ∧ Int.tdiv a (s.length : Int) ≤ a := by
    rw [Int.tdiv_eq_ediv_of_nonneg h0]
    exact ⟨Int.ediv_nonneg h0 (by omega), Int.ediv_le_self _ h0⟩
  have r1 := src_rd hs (Int.tmod a (s.length : Int))
  have r2 := src_rd hs (Int.tmod (a + 1) (s.length : Int))
  generalize Int.tdiv a (s.length : Int) = D at *
  generalize rd s (Int.tmod a (s.length : Int)) = X at *
  generalize rd s (Int.tmod (a + 1) (s.length : Int)) = Y at *
  have w1 : wrap64 D = D := by unfold wrap64; omega
  have w2 : wrap64 (D * 37) = D * 37 := by unfold wrap64; omega
  have w3 : wrap64 X = X := by unfold wrap64; omega
  have w4 : wrap64 Y = Y := by unfold wrap64; omega
  have w5 : wrap64 (X + D * 37) = X + D * 37 := by unfold wrap64; omega
  by_cases hb : n > 200
  · rw [if_pos hb, if_pos q2.1, if_pos q2.2, if_neg hn0, w1, w2, w3, w4, w5]
    have w6 : wrap64 ((X + D * 37) * 251) = (X + D * 37) * 251 := by unfold wrap64; omega
    have w7 : wrap64 (Y * 13) = Y * 13 := by unfold wrap64; omega
    have w8 : wrap64 ((X + D * 37) * 251 + Y * 13) = (X + D * 37) * 251 + Y * 13 := by unfold wrap64; omega
    have w9 : wrap64 ((X + D * 37) * 251 + Y * 13 + a) = (X + D * 37) * 251 + Y * 13 + a := by unfold wrap64; omega
    rw [w6, w7, w8, w9]
    have := key ((X + D * 37) * 251 + Y * 13 + a) (by omega)
    exact ⟨_, rfl, this.1, fun _ => this.2, by omega⟩
  · rw [if_neg hb, if_neg hn0, w1, w2, w3, w5]
    have := key (X + D * 37) (by omega)
    exact ⟨_, rfl, this.1, fun _ => this.2, by omega⟩
theorem l1Pick_some {s : List Int} (hs : Src s) (a : Int) (h0 : 0 ≤ a) (h1 : a ≤ 1000000) (l : List Int) (hl : l ≠ []) :
    ∃ v, spec_l1Pick.f s a l = some (v, a + 1) ∧ v ∈ l := by
  have hp : 0 < l.length := List.length_pos_iff.mpr hl
  obtain ⟨i, hi, b0, b1, _⟩ := l1Next_some hs a (l.length : Int) h0 h1
  unfold spec_l1Pick.f
  rw [hi]
  simp only [Option.bind_some]
  rw [if_pos b0, if_pos (b1 (by omega))]
  refine ⟨_, rfl, ?_⟩
  unfold rd
  have hlt : i.toNat < l.length := by have := b1 (by omega); omega
  rw [List.getD_eq_getElem?_getD, List.getElem?_eq_getElem hlt]
  exact List.getElem_mem hlt
theorem l1Word_some {s : List Int} (hs : Src s) (a : Int) (h0 : 0 ≤ a) (h1 : a ≤ 999000) :
    ∃ v, spec_l1Word.f s a = some (v, a + 5) ∧ 0 ≤ v ∧ v ≤ 4294967295 := by
  unfold spec_l1Word.f
  obtain ⟨x1, e1, p1, q1, _⟩ := l1Next_some hs a 90 h0 (by omega)
  obtain ⟨x2, e2, p2, q2, _⟩ := l1Next_some hs (a + 1) 9 (by omega) (by omega)
  obtain ⟨x3, e3, p3, q3, _⟩ := l1Next_some hs (a + 1 + 1) 9 (by omega) (by omega)
  obtain ⟨x4, e4, p4, q4, _⟩ := l1Next_some hs (a + 1 + 1 + 1) 60000 (by omega) (by omega)
  have q1 := q1 (by omega)
  have q2 := q2 (by omega)
  have q3 := q3 (by omega)
  have q4 := q4 (by omega)
  have w1 : wrap64 (4294967295 - x3) = 4294967295 - x3 := by unfold wrap64; omega
  have w2 : wrap64 (x4 * 70000) = x4 * 70000 := by unfold wrap64; omega
  obtain ⟨v, e5, hv⟩ := l1Pick_some hs (a + 1 + 1 + 1 + 1) (by omega) (by omega) [x1, x2, 4294967295 - x3, 2147483648, 2147483647, 0, x4 * 70000] (by simp)
  refine ⟨v, ?_, ?_⟩
  · simp only [e1, e2, e3, e4, w1, w2, e5, Option.bind_some]
    rw [show a + 1 + 1 + 1 + 1 + 1 = a + 5 by omega]
  · simp only [List.mem_cons, List.not_mem_nil, or_false] at hv
    omega
theorem l1Wide_some {s : List Int} (hs : Src s) (a : Int) (h0 : 0 ≤ a) (h1 : a ≤ 990000) :
    ∃ v, spec_l1Wide.f s a = some (v, a + 16) ∧ -9223372036854775808 ≤ v ∧ v ≤ 9223372036854775807 := by
  unfold spec_l1Wide.f
  obtain ⟨x1, e1, p1, q1⟩ := l1Word_some hs a h0 (by omega)
  obtain ⟨x2, e2, p2, q2⟩ := l1Word_some hs (a + 5) (by omega) (by omega)
  obtain ⟨x3, e3, p3, q3⟩ := l1Word_some hs (a + 5 + 5) (by omega) (by omega)
  obtain ⟨v, e5, hv⟩ := l1Pick_some hs (a + 5 + 5 + 5) (by omega) (by omega) [x1, x2, x3, -1, -9223372036854775808, 9223372036854775807, 4294967296, -5] (by simp)
  refine ⟨v, ?_, ?_⟩
  · simp only [e1, e2, e3, e5, Option.bind_some]
    rw [show a + 5 + 5 + 5 + 1 = a + 16 by omega]
  · simp only [List.mem_cons, List.not_mem_nil, or_false] at hv
    omega
theorem wrap_is (a : Int) : impl_WrapWord.f a = some (a % 4294967296) := by unfold impl_WrapWord.f; rw [and_word]
theorem and_add_xor (x y : Nat) (hx : x < 4294967296) (hy : y < 4294967296) : (x &&& y) + (x ^^^ y) = x ||| y := by
  have h0 : (BitVec.ofNat 64 x &&& BitVec.ofNat 64 y) &&& (BitVec.ofNat 64 x ^^^ BitVec.ofNat 64 y) = 0#64 := by
    apply BitVec.eq_of_getLsbD_eq
    intro i hi
    simp only [BitVec.getLsbD_and, BitVec.getLsbD_xor, BitVec.getLsbD_zero]
    cases (BitVec.ofNat 64 x).getLsbD i <;> cases (BitVec.ofNat 64 y).getLsbD i <;> rfl
  have h1 : (BitVec.ofNat 64 x &&& BitVec.ofNat 64 y) ||| (BitVec.ofNat 64 x ^^^ BitVec.ofNat 64 y) = BitVec.ofNat 64 x ||| BitVec.ofNat 64 y := by
    apply BitVec.eq_of_getLsbD_eq
    intro i hi
    simp only [BitVec.getLsbD_and, BitVec.getLsbD_xor, BitVec.getLsbD_or]
    cases (BitVec.ofNat 64 x).getLsbD i <;> cases (BitVec.ofNat 64 y).getLsbD i <;> rfl
  have h2 := congrArg BitVec.toNat ((BitVec.add_eq_or_of_and_eq_zero _ _ h0).trans h1)
  rw [BitVec.toNat_add_of_and_eq_zero h0] at h2
  simp only [BitVec.toNat_and, BitVec.toNat_xor, BitVec.toNat_or, BitVec.toNat_ofNat] at h2
  have ex : x % 2 ^ 64 = x := Nat.mod_eq_of_lt (by omega)
  have ey : y % 2 ^ 64 = y := Nat.mod_eq_of_lt (by omega)
  rw [ex, ey] at h2
  exact h2
theorem xor_xor (x y : Nat) : (x ^^^ y) ^^^ y = x := by rw [Nat.xor_assoc, Nat.xor_self, Nat.xor_zero]
theorem word_nat (a : Int) : ∃ x : Nat, a % 4294967296 = (x : Int) ∧ x < 4294967296 := ⟨(a % 4294967296).toNat, by omega, by omega⟩
theorem pow_le (n : Nat) (hn : n ≤ 31) : 2 ^ n ≤ 2147483648 := Nat.pow_le_pow_right (n := 2) (by decide) hn
theorem pow_cast (n : Nat) : (2 : Int) ^ n = ((2 ^ n : Nat) : Int) := by simp
theorem count_is (b : Int) (n : Nat) (hn : b % 32 = n) : Int.tmod (b % 4294967296) 32 = n := by
  rw [Int.tmod_eq_emod_of_nonneg (by omega)]
  omega
theorem shift_left (a b : Int) (n : Nat) (hn : b % 32 = n) : impl_ShiftWord.f a b true = some ((a % 4294967296 * ((2 ^ n : Nat) : Int)) % 4294967296) := by
  have h31 : n ≤ 31 := by omega
  have hp := pow_le n h31
  unfold impl_ShiftWord.f
  simp only [wrap_is, Option.bind_some, count_is b n hn, if_true]
  obtain ⟨x, hx, hxl⟩ := word_nat a
  rw [hx, if_pos (by omega), if_pos (by omega)]
  have hm : x * 2 ^ n ≤ 4294967295 * 2147483648 := Nat.mul_le_mul (by omega) hp
  have hc : ((x : Int) * ((2 ^ n : Nat) : Int)) = ((x * 2 ^ n : Nat) : Int) := by simp
  have e : wrap64 ((x : Int) * 2 ^ ((n : Int)).toNat) = (x : Int) * ((2 ^ n : Nat) : Int) := by
    rw [Int.toNat_natCast, pow_cast, hc]
    generalize x * 2 ^ n = r at *
    unfold wrap64
    omega
  rw [e]
theorem shift_right (a b : Int) (n : Nat) (hn : b % 32 = n) : impl_ShiftWord.f a b false = some (a % 4294967296 / ((2 ^ n : Nat) : Int)) := by
  unfold impl_ShiftWord.f
  simp only [wrap_is, Option.bind_some, count_is b n hn]
  rw [if_neg (by decide), if_pos (by omega), if_pos (by omega), Int.toNat_natCast, pow_cast]
theorem three_some {l : List Int} (hs : Src l) : ∃ o a b, spec_DrawBitWords.f l = some (o, a, b) := by
  obtain ⟨a, ea, _, _⟩ := l1Wide_some hs 0 (by omega) (by omega)
  obtain ⟨o, eo, _⟩ := l1Pick_some hs (0 + 16) (by omega) (by omega) [1, 2, 3, 0, 4] (by simp)
  obtain ⟨b, eb, _, _⟩ := l1Wide_some hs (0 + 16 + 1) (by omega) (by omega)
  refine ⟨o, a, b, ?_⟩
  unfold spec_DrawBitWords.f spec_l1Source.f
  rw [Option.bind_some]
  show ((spec_l1Wide.f l 0).bind _ = _)
  rw [ea, Option.bind_some]
  show ((spec_l1Pick.f l (0 + 16) _).bind _ = _)
  rw [eo, Option.bind_some]
  show ((spec_l1Wide.f l (0 + 16 + 1)).bind _ = _)
  rw [eb, Option.bind_some]
theorem shift_some {l : List Int} (hs : Src l) : ∃ a v c, spec_DrawShiftWord.f l = some (a, v, c) := by
  obtain ⟨a, ea, _, _⟩ := l1Wide_some hs 0 (by omega) (by omega)
  obtain ⟨p1, f1, _⟩ := l1Next_some hs (0 + 16) 34 (by omega) (by omega)
  obtain ⟨p2, f2, _⟩ := l1Next_some hs (0 + 16 + 1) 34 (by omega) (by omega)
  obtain ⟨v, fv, _⟩ := l1Pick_some hs (0 + 16 + 1 + 1) (by omega) (by omega) [p1, p2, -1, 1099511627779] (by simp)
  obtain ⟨p3, f3, _⟩ := l1Next_some hs (0 + 16 + 1 + 1 + 1) 2 (by omega) (by omega)
  refine ⟨a, v, p3 == 0, ?_⟩
  unfold spec_DrawShiftWord.f spec_l1Source.f spec_l1Chance.f
  rw [Option.bind_some]
  show ((spec_l1Wide.f l 0).bind _ = _)
  rw [ea, Option.bind_some]
  show ((spec_l1Next.f l (0 + 16) 34).bind _ = _)
  rw [f1, Option.bind_some]
  show ((spec_l1Next.f l (0 + 16 + 1) 34).bind _ = _)
  rw [f2, Option.bind_some]
  show ((spec_l1Pick.f l (0 + 16 + 1 + 1) _).bind _ = _)
  rw [fv, Option.bind_some]
  show (((spec_l1Next.f l (0 + 16 + 1 + 1 + 1) 2).bind _).bind _ = _)
  rw [f3, Option.bind_some, Option.bind_some]
theorem FnBits : laws_FnBits.Pure := by
  intro l hm hr hw
  unfold laws_FnBits.f laws_lwBig.f
  simp only [Option.bind_some]
  by_cases hb : (l.length : Int) > 1048576
  · rw [if_pos (by simpa using hb)]
  rw [if_neg (by simpa using hb)]
  have hs : Src l := src_of (by omega) hw
  obtain ⟨o, a, b, eab⟩ := three_some hs
  obtain ⟨c, v, d, ecv⟩ := shift_some hs
  rw [eab, Option.bind_some]
  dsimp only
  obtain ⟨x, hx, hxl⟩ := word_nat a
  obtain ⟨z, hzw, hzl⟩ := word_nat c
  obtain ⟨y, hy, hyl⟩ := word_nat b
  obtain ⟨n, hn⟩ : ∃ n : Nat, v % 32 = n := ⟨(v % 32).toNat, by omega⟩
  have h31 : n ≤ 31 := by omega
  have n1 : (0 : Int) ≤ ((32 - n : Nat) : Int) := Int.natCast_nonneg _
  have n2 : ((32 - n : Nat) : Int) ≤ 64 := by omega
  have n3 : (0 : Int) ≤ (n : Int) := Int.natCast_nonneg _
  have n4 : (n : Int) ≤ 64 := by omega
  have l1 : x &&& y < 4294967296 := Nat.lt_of_le_of_lt Nat.and_le_left hxl
  have l2 : x ||| y < 4294967296 := Nat.or_lt_two_pow (n := 32) hxl hyl
  have l3 : x ^^^ y < 4294967296 := Nat.xor_lt_two_pow (n := 32) hxl hyl
  have b1 : impl_BitWords.f 1 a b = some (0, ((x &&& y : Nat) : Int)) := by
    simp only [impl_BitWords.f, wrap_is, Option.bind_some, hx, hy, and_nat x y (by omega) (by omega), if_true]
  have b2 : impl_BitWords.f 2 a b = some (0, ((x ||| y : Nat) : Int)) := by
    simp only [impl_BitWords.f, wrap_is, Option.bind_some, hx, hy, or_nat x y (by omega) (by omega)]
    rfl
  have b3 : impl_BitWords.f 3 a b = some (0, ((x ^^^ y : Nat) : Int)) := by
    simp only [impl_BitWords.f, wrap_is, Option.bind_some, hx, hy, xor_nat x y (by omega) (by omega)]
    rfl
  have hz : ((x ^^^ y : Nat) : Int) % 4294967296 = ((x ^^^ y : Nat) : Int) := by omega
  have b4 : impl_BitWords.f 3 ((x ^^^ y : Nat) : Int) b = some (0, (x : Int)) := by
    simp only [impl_BitWords.f, wrap_is, Option.bind_some, hz, hy, xor_nat (x ^^^ y) y (by omega) (by omega), xor_xor]
    rfl
  rw [b1, Option.bind_some, b2, Option.bind_some, b3, Option.bind_some, ecv, Option.bind_some]
  dsimp only
  have hk : Int.tmod (wrap64 (Int.tmod v 32 + 32)) 32 = n := by
    have h := Int.tmod_add_mul_tdiv v 32
    have h1 := Int.natAbs_tmod v 32
    have h2 : v.natAbs % (32 : Int).natAbs < 32 := Nat.mod_lt _ (by decide)
    have e : wrap64 (Int.tmod v 32 + 32) = Int.tmod v 32 + 32 := by unfold wrap64; omega
    rw [e, Int.tmod_eq_emod_of_nonneg (by omega)]
    omega
  have w1 : IntKind.u64.wrap (wrap64 (32 - (n : Int))) = ((32 - n : Nat) : Int) := by
    have : wrap64 (32 - (n : Int)) = ((32 - n : Nat) : Int) := by unfold wrap64; omega
    rw [this]
    simp only [IntKind.wrap, IntKind.bits, IntKind.signed, Bool.false_and]
    exact Int.emod_eq_of_lt (by omega) (by omega)
  have w2 : IntKind.u64.wrap ((n : Nat) : Int) = (n : Int) := by
    simp only [IntKind.wrap, IntKind.bits, IntKind.signed, Bool.false_and]
    exact Int.emod_eq_of_lt (by omega) (by omega)
  have hp : 2 ^ (32 - n) * 2 ^ n = 4294967296 := by rw [← Nat.pow_add, Nat.sub_add_cancel (by omega)]
  have hpos : 0 < 2 ^ n := Nat.two_pow_pos n
  have hpos2 : 0 < 2 ^ (32 - n) := Nat.two_pow_pos _
  have hple : 2 ^ (32 - n) ≤ 4294967296 := Nat.pow_le_pow_right (n := 2) (by decide) (by omega : 32 - n ≤ 32)
  have w3 : wrap64 (2 ^ (((32 - n : Nat) : Int)).toNat) = ((2 ^ (32 - n) : Nat) : Int) := by
    rw [Int.toNat_natCast, pow_cast]
    generalize 2 ^ (32 - n) = q at *
    unfold wrap64
    omega
  have e1 : wrap64 (((x &&& y : Nat) : Int) + ((x ^^^ y : Nat) : Int)) = ((x ||| y : Nat) : Int) := by
    have := and_add_xor x y hxl hyl
    unfold wrap64
    omega
  have cz : ((z : Int) * ((2 ^ n : Nat) : Int)) % 4294967296 = ((z * 2 ^ n % 4294967296 : Nat) : Int) := by simp
  have c2 : ((z * 2 ^ n % 4294967296 : Nat) : Int) % 4294967296 = ((z * 2 ^ n % 4294967296 : Nat) : Int) := by
    generalize z * 2 ^ n = r
    omega
  have e2 : z * 2 ^ n % 4294967296 / 2 ^ n = z % 2 ^ (32 - n) := by
    have h := Nat.mul_mod_mul_right (2 ^ n) z (2 ^ (32 - n))
    rw [hp] at h
    rw [h, Nat.mul_div_cancel _ hpos]
  have e3 : (((z * 2 ^ n % 4294967296 : Nat) : Int)) / ((2 ^ n : Nat) : Int) = Int.tmod (z : Int) ((2 ^ (32 - n) : Nat) : Int) := by
    rw [Int.tmod_eq_emod_of_nonneg (Int.natCast_nonneg _), ← Int.natCast_ediv, e2, Int.natCast_emod]
  have hsp : spec_ShiftWord.f c v true = some ((z : Int) * ((2 ^ n : Nat) : Int) % 4294967296) := by
    have : ((v % 4294967296) % 32).toNat = n := by omega
    simp only [spec_ShiftWord.f, if_true, hzw, this, pow_cast]
  have hq : (z : Int) / ((2 ^ n : Nat) : Int) = (z : Int) / 2 ^ ((n : Int)).toNat := by rw [Int.toNat_natCast, pow_cast]
  have H6 : c % 4294967296 / ((2 ^ n : Nat) : Int) = c % 4294967296 / 2 ^ ((n : Int)).toNat := by rw [hzw]; exact hq
  have H5 : (c % 4294967296 * ((2 ^ n : Nat) : Int)) % 4294967296 % 4294967296 / ((2 ^ n : Nat) : Int) = Int.tmod (c % 4294967296) ((2 ^ (32 - n) : Nat) : Int) := by rw [hzw, cz, c2, e3]
  rw [hzw.symm] at hsp
  have hne : ¬ ((2 ^ (32 - n) : Nat) : Int) = 0 := by
    clear hq w3 e2 e3 w1 H5 H6
    generalize 2 ^ (32 - n) = q at *
    omega
  rw [shift_left c v n hn, Option.bind_some, shift_right c v n hn, Option.bind_some, hk, w1, w3, w2, if_pos n1, if_pos n2, if_pos rfl, if_pos e1, b4, Option.bind_some, wrap_is a, Option.bind_some, if_pos hx.symm, shift_right _ v n hn, Option.bind_some, wrap_is c, Option.bind_some, if_neg hne, if_pos H5, Option.bind_some, if_pos n3, if_pos n4, if_pos H6, hsp, Option.bind_some, beq_self_eq_true]

end Go.Proofs.Ytccaghkjaflnfab.Pure
