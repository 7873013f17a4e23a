/- FnMemories: what is written is read, and all other words stay, at every input of bytes. No condition. -/
import Derived.Test.YtddnkakkejeacaaPFnMemoriesx4
import Derived.Test.YtddnkakkejeacaaLem
namespace Go.Proofs.Ytddnkakkejeacaa.Pure
open Go.RowKit Go.Proofs.Ytddnkakkejeacaa.PFnMemories Go.Proofs.YtddnkakkejeacaaW.PrintWords Go.Proofs.YtddnkakkejeacaaW.PrintLast Go.Proofs.YtddnkakkejeacaaW.PrintMore
open Go.Proofs.Ytddnkakkejeacaa.Lem
set_option linter.unusedVariables false
set_option linter.unusedSimpArgs false
def Src (s : List Int) : Prop := s.length ≤ 2000000 ∧ ∀ x ∈ s, 0 ≤ x ∧ x ≤ 255
theorem src_of {s : List Int} (hs : s.length ≤ 2000000) (hw : ∀ x ∈ s, (Lit.int .u8 x).wf = true) : Src s :=
  ⟨hs, fun x hx => by have := hw x hx; simp [Lit.wf, IntKind.min, IntKind.max, IntKind.bits, IntKind.signed] at this; omega⟩
theorem src_rd {s : List Int} (h : Src s) (i : Int) : 0 ≤ rd s i ∧ rd s i ≤ 255 := by
  unfold rd
  by_cases hi : i.toNat < s.length
  · rw [List.getD_eq_getElem?_getD, List.getElem?_eq_getElem hi]
    exact h.2 _ (List.getElem_mem hi)
  · rw [List.getD_eq_getElem?_getD, List.getElem?_eq_none (by omega)]
    exact ⟨by simp, by simp⟩
theorem wr1 {a : Int} (h0 : 0 ≤ a) (h1 : a ≤ 1000000) : wrap64 (a + 1) = a + 1 := by unfold wrap64; omega
theorem wr2 {a : Int} (h0 : 0 ≤ a) (h1 : a ≤ 1000000) : wrap64 (a + 1 - 1) = a := by unfold wrap64; omega
theorem l1Next_some {s : List Int} (hs : Src s) (a n : Int) (h0 : 0 ≤ a) (h1 : a ≤ 1000000) :
    ∃ v, spec_l1Next.f s a n = some (v, a + 1) ∧ 0 ≤ v ∧ (1 ≤ n → v < n) ∧ (n < 1 → v = 0) := by
  unfold spec_l1Next.f
  by_cases hn : n < 1
  · exact ⟨0, by rw [if_pos hn, wr1 h0 h1], by omega, by omega, by omega⟩
  rw [if_neg hn]
  have hn0 : ¬ n = 0 := by omega
  rw [wr1 h0 h1, wr2 h0 h1, wr1 h0 h1]
  have key : ∀ e : Int, 0 ≤ e → 0 ≤ Int.tmod e n ∧ Int.tmod e n < n := fun e he => by
    rw [Int.tmod_eq_emod_of_nonneg he]
    exact ⟨Int.emod_nonneg _ hn0, Int.emod_lt_of_pos _ (by omega)⟩
  by_cases hl : (s.length : Int) = 0
  · rw [if_pos hl, if_neg hn0]
    have e : wrap64 (a * 7) = a * 7 := by unfold wrap64; omega
    rw [e]
    have := key (a * 7) (by omega)
    exact ⟨_, rfl, this.1, fun _ => this.2, by omega⟩
  rw [if_neg hl]
  have hlen := hs.1
  have m1 : ∀ e : Int, 0 ≤ e → 0 ≤ Int.tmod e (s.length : Int) ∧ Int.tmod e (s.length : Int) < (s.length : Int) := fun e he => by
    rw [Int.tmod_eq_emod_of_nonneg he]
    exact ⟨Int.emod_nonneg _ hl, Int.emod_lt_of_pos _ (by omega)⟩
  have q1 := m1 a h0
  have q2 := m1 (a + 1) (by omega)
  rw [if_pos q1.1, if_pos q1.2]
  have d1 : 0 ≤ Int.tdiv a (s.length : Int) ∧ Int.tdiv a (s.length : Int) ≤ a := by
    rw [Int.tdiv_eq_ediv_of_nonneg h0]
    exact ⟨Int.ediv_nonneg h0 (by omega), Int.ediv_le_self _ h0⟩
  have r1 := src_rd hs (Int.tmod a (s.length : Int))
  have r2 := src_rd hs (Int.tmod (a + 1) (s.length : Int))
  generalize Int.tdiv a (s.length : Int) = D at *
  generalize rd s (Int.tmod a (s.length : Int)) = X at *
  generalize rd s (Int.tmod (a + 1) (s.length : Int)) = Y at *
  have w1 : wrap64 D = D := by unfold wrap64; omega
  have w2 : wrap64 (D * 37) = D * 37 := by unfold wrap64; omega
  have w3 : wrap64 X = X := by unfold wrap64; omega
  have w4 : wrap64 Y = Y := by unfold wrap64; omega
  have w5 : wrap64 (X + D * 37) = X + D * 37 := by unfold wrap64; omega
  by_cases hb : n > 200
  · rw [if_pos hb, if_pos q2.1, if_pos q2.2, if_neg hn0, w1, w2, w3, w4, w5]
    have w6 : wrap64 ((X + D * 37) * 251) = (X + D * 37) * 251 := by unfold wrap64; omega
    have w7 : wrap64 (Y * 13) = Y * 13 := by unfold wrap64; omega
    have w8 : wrap64 ((X + D * 37) * 251 + Y * 13) = (X + D * 37) * 251 + Y * 13 := by unfold wrap64; omega
    have w9 : wrap64 ((X + D * 37) * 251 + Y * 13 + a) = (X + D * 37) * 251 + Y * 13 + a := by unfold wrap64; omega
    rw [w6, w7, w8, w9]
    have := key ((X + D * 37) * 251 + Y * 13 + a) (by omega)
    exact ⟨_, rfl, this.1, fun _ => this.2, by omega⟩
  · rw [if_neg hb, if_neg hn0, w1, w2, w3, w5]
    have := key (X + D * 37) (by omega)
    exact ⟨_, rfl, this.1, fun _ => this.2, by omega⟩
theorem l1Pick_some {s : List Int} (hs : Src s) (a : Int) (h0 : 0 ≤ a) (h1 : a ≤ 1000000) (l : List Int) (hl : l ≠ []) :
    ∃ v, spec_l1Pick.f s a l = some (v, a + 1) ∧ v ∈ l := by
  have hp : 0 < l.length := List.length_pos_iff.mpr hl
  obtain ⟨i, hi, b0, b1, _⟩ := l1Next_some hs a (l.length : Int) h0 h1
  unfold spec_l1Pick.f
  rw [hi]
  simp only [Option.bind_some]
  rw [if_pos b0, if_pos (b1 (by omega))]
  refine ⟨_, rfl, ?_⟩
  unfold rd
  have hlt : i.toNat < l.length := by have := b1 (by omega); omega
  rw [List.getD_eq_getElem?_getD, List.getElem?_eq_getElem hlt]
  exact List.getElem_mem hlt
theorem l1Word_some {s : List Int} (hs : Src s) (a : Int) (h0 : 0 ≤ a) (h1 : a ≤ 999000) :
    ∃ v, spec_l1Word.f s a = some (v, a + 5) ∧ 0 ≤ v ∧ v ≤ 4294967295 := by
  unfold spec_l1Word.f
  obtain ⟨x1, e1, p1, q1, _⟩ := l1Next_some hs a 90 h0 (by omega)
  obtain ⟨x2, e2, p2, q2, _⟩ := l1Next_some hs (a + 1) 9 (by omega) (by omega)
  obtain ⟨x3, e3, p3, q3, _⟩ := l1Next_some hs (a + 1 + 1) 9 (by omega) (by omega)
  obtain ⟨x4, e4, p4, q4, _⟩ := l1Next_some hs (a + 1 + 1 + 1) 60000 (by omega) (by omega)
  have q1 := q1 (by omega)
  have q2 := q2 (by omega)
  have q3 := q3 (by omega)
  have q4 := q4 (by omega)
  have w1 : wrap64 (4294967295 - x3) = 4294967295 - x3 := by unfold wrap64; omega
  have w2 : wrap64 (x4 * 70000) = x4 * 70000 := by unfold wrap64; omega
  obtain ⟨v, e5, hv⟩ := l1Pick_some hs (a + 1 + 1 + 1 + 1) (by omega) (by omega) [x1, x2, 4294967295 - x3, 2147483648, 2147483647, 0, x4 * 70000] (by simp)
  refine ⟨v, ?_, ?_⟩
  · simp only [e1, e2, e3, e4, w1, w2, e5, Option.bind_some]
    rw [show a + 1 + 1 + 1 + 1 + 1 = a + 5 by omega]
  · simp only [List.mem_cons, List.not_mem_nil, or_false] at hv
    omega
theorem l1Wide_some {s : List Int} (hs : Src s) (a : Int) (h0 : 0 ≤ a) (h1 : a ≤ 990000) :
    ∃ v, spec_l1Wide.f s a = some (v, a + 16) ∧ -9223372036854775808 ≤ v ∧ v ≤ 9223372036854775807 := by
  unfold spec_l1Wide.f
  obtain ⟨x1, e1, p1, q1⟩ := l1Word_some hs a h0 (by omega)
  obtain ⟨x2, e2, p2, q2⟩ := l1Word_some hs (a + 5) (by omega) (by omega)
  obtain ⟨x3, e3, p3, q3⟩ := l1Word_some hs (a + 5 + 5) (by omega) (by omega)
  obtain ⟨v, e5, hv⟩ := l1Pick_some hs (a + 5 + 5 + 5) (by omega) (by omega) [x1, x2, x3, -1, -9223372036854775808, 9223372036854775807, 4294967296, -5] (by simp)
  refine ⟨v, ?_, ?_⟩
  · simp only [e1, e2, e3, e5, Option.bind_some]
    rw [show a + 5 + 5 + 5 + 1 = a + 16 by omega]
  · simp only [List.mem_cons, List.not_mem_nil, or_false] at hv
    omega
theorem within_eq (a x y : Int) : impl_within.f a x y = some (decide (x ≤ a ∧ a ≤ y)) := by
  unfold impl_within.f
  split <;> rename_i h <;> simp <;> omega
theorem l1In_eq (a x y : Int) : spec_l1In.f a x y = some (decide (x ≤ a ∧ a ≤ y)) := by
  unfold spec_l1In.f
  split <;> rename_i h <;> simp <;> omega
theorem wrap_is (a : Int) : impl_WrapWord.f a = some (a % 4294967296) := by unfold impl_WrapWord.f; rw [and_word]
theorem wsuccI {i n : Nat} (h : i < n) (hn : n ≤ 1000000000) : wrap64 ((i : Int) + 1) = ((i + 1 : Nat) : Int) := by unfold wrap64; omega
theorem rdI_at (l : List Int) (i : Nat) (h : i < l.length) : rd l (i : Int) = l[i] := by
  unfold rd
  rw [Int.toNat_natCast, List.getD_eq_getElem?_getD, List.getElem?_eq_getElem h]
  rfl
def mf (l : List Int) : Int := if l.length = 0 ∨ 192 < l.length ∨ l.length % 8 ≠ 0 then 1 else if l.all isW = true then 0 else 3
theorem mf_cases (l : List Int) : mf l = 0 ∨ mf l = 1 ∨ mf l = 3 := by
  unfold mf
  by_cases h : l.length = 0 ∨ 192 < l.length ∨ l.length % 8 ≠ 0
  · rw [if_pos h]; exact .inr (.inl rfl)
  · rw [if_neg h]
    by_cases g : l.all isW = true
    · rw [if_pos g]; exact .inl rfl
    · rw [if_neg g]; exact .inr (.inr rfl)
theorem mf_ok {l : List Int} (h : mf l = 0) : (l.length ≠ 0 ∧ l.length ≤ 192 ∧ l.length % 8 = 0) ∧ l.all isW = true := by
  unfold mf at h
  by_cases g : l.length = 0 ∨ 192 < l.length ∨ l.length % 8 ≠ 0
  · rw [if_pos g] at h; exact absurd h (by decide)
  · rw [if_neg g] at h
    by_cases e : l.all isW = true
    · exact ⟨by omega, e⟩
    · rw [if_neg e] at h; exact absurd h (by decide)
theorem implMF (k : Nat) (l : List Int) : impl_MemoryFault.f (k + 1) l = some (mf l) := by
  unfold impl_MemoryFault.f mf
  simp only [impl_MemoryFault.j0, impl_areWords.f, Option.bind_some, if_true]
  by_cases h0 : l.length = 0
  · rw [if_pos (by omega), if_pos (.inl h0)]
  · rw [if_neg (by omega)]
    by_cases h1 : 192 < l.length
    · rw [if_pos (by omega), if_pos (.inr (.inl h1))]
    · rw [if_neg (by omega)]
      by_cases h2 : l.length % 8 = 0
      · have e : ((l.length : Int) % 8 != 0) = false := by rw [bne_eq_false_iff_eq]; omega
        have hA : ¬ (l.length = 0 ∨ 192 < l.length ∨ l.length % 8 ≠ 0) := by omega
        rw [e, if_neg (by decide), if_neg hA]
        by_cases g : l.all isW = true
        · rw [if_pos g, if_pos g]
        · rw [if_neg g, if_neg g]
      · have e : ((l.length : Int) % 8 != 0) = true := by rw [bne_iff_ne]; omega
        rw [e, if_pos rfl, if_pos (.inr (.inr h2))]
theorem specMF_from (l : List Int) (hl : l.length ≤ 192) (d : Nat) : ∀ (k i : Nat), l.length = i + d → d < k → spec_MemoryFault.l0 k l (i : Int) = some (if (l.drop i).all isW = true then 0 else 3) := by
  induction d with
  | zero =>
    intro k i hd hk
    obtain ⟨k, rfl⟩ : ∃ m, k = m + 1 := ⟨k - 1, by omega⟩
    simp only [spec_MemoryFault.l0]
    rw [if_neg (by omega), List.drop_eq_nil_of_le (by omega)]
    rfl
  | succ d ih =>
    intro k i hd hk
    obtain ⟨k, rfl⟩ : ∃ m, k = m + 1 := ⟨k - 1, by omega⟩
    have hi : i < l.length := by omega
    have hi' := ih k (i + 1) (by omega) (by omega)
    simp only [spec_MemoryFault.l0, l1In_eq, Option.bind_some]
    rw [if_pos (by omega), if_pos (by omega), rdI_at l i hi, wsuccI hi (by omega), hi', List.drop_eq_getElem_cons hi, List.all_cons]
    have e : decide (0 ≤ l[i] ∧ l[i] ≤ 4294967295) = isW l[i] := rfl
    rw [e]
    cases isW l[i] with
    | true => rw [if_pos rfl, Bool.true_and]
    | false => rw [if_neg (by decide), Bool.false_and, if_neg (by decide)]
theorem specMF (k : Nat) (l : List Int) (hk : 193 < k) : spec_MemoryFault.f (k + 1) l = some (mf l) := by
  unfold spec_MemoryFault.f mf
  by_cases h2 : l.length % 8 = 0
  · rw [if_pos (by omega)]
    by_cases h0 : l.length = 0
    · rw [if_pos (by omega), if_pos (.inl h0)]
      simp only [spec_MemoryFault.j0]
      rw [if_pos trivial]
    · rw [if_neg (by omega)]
      by_cases h1 : 192 < l.length
      · rw [decide_eq_true (by omega), if_pos (.inr (.inl h1))]
        simp only [spec_MemoryFault.j0]
        rw [if_pos trivial]
      · rw [decide_eq_false (by omega), if_neg (by omega)]
        simp only [spec_MemoryFault.j0]
        rw [if_neg (by decide)]
        have := specMF_from l (by omega) l.length k 0 (by omega) (by omega)
        simpa using this
  · rw [if_neg (by omega), if_pos (.inr (.inr h2))]
    simp only [spec_MemoryFault.j0]
    rw [if_pos trivial]
def rw_ (l : List Int) (i : Int) : Int × Int := if mf l = 0 then (if 0 ≤ i ∧ i < (l.length : Int) then (0, rd l i) else (7, 0)) else (mf l, 0)
theorem place_is (l : List Int) (hl : l.length ≤ 1048576) (i : Int) : impl_isPlace.f l i = some (decide (0 ≤ i ∧ i < (l.length : Int))) := by
  have e : wrap64 ((l.length : Int) - 1) = (l.length : Int) - 1 := by unfold wrap64; omega
  unfold impl_isPlace.f
  rw [e, within_eq, Option.bind_some]
  exact congrArg some (decide_eq_decide.mpr (by omega))
theorem implRW (k : Nat) (l : List Int) (hl : l.length ≤ 1048576) (i : Int) : impl_ReadWord.f (k + 1) l i = some (rw_ l i) := by
  unfold impl_ReadWord.f rw_
  rw [implMF, Option.bind_some]
  by_cases h : mf l = 0
  · rw [if_pos h, if_pos h, place_is l hl, Option.bind_some]
    by_cases g : 0 ≤ i ∧ i < (l.length : Int)
    · rw [decide_eq_true g, if_pos rfl, if_pos g.1, if_pos g.2, if_pos g]
    · rw [decide_eq_false g, if_neg (by decide), if_neg g]
  · rw [if_neg h, if_neg h]
def ww (l : List Int) (i w : Int) : Int × List Int := if mf l = 0 then (if 0 ≤ i ∧ i < (l.length : Int) then (0, l.set i.toNat (w % 4294967296)) else (8, [])) else (mf l, [])
theorem clone_is (l : List Int) (hl : l.length ≤ 1048576) : slices_Clone_int64_int64.f l = some l := by
  unfold slices_Clone_int64_int64.f
  rw [Option.bind_some, if_pos (by simp; omega), List.nil_append]
theorem implLW (k : Nat) (hk : 2 < k) (l : List Int) (hl : l.length ≤ 1048576) (i w : Int) : impl_LoadWords.f (k + 1) l i [w] = some (ww l i w) := by
  unfold impl_LoadWords.f ww
  rw [implMF, Option.bind_some]
  by_cases h : mf l = 0
  · rw [if_pos h, if_pos h]
    have e1 : wrap64 ((l.length : Int) - (([w] : List Int).length : Int)) = (l.length : Int) - 1 := by
      rw [List.length_singleton]
      unfold wrap64
      omega
    rw [e1]
    by_cases g0 : i < 0
    · rw [if_pos g0, if_neg (by omega)]
      simp only [impl_LoadWords.j0, if_true]
    · rw [if_neg g0, if_pos (by simp)]
      simp only [impl_LoadWords.j0]
      by_cases g1 : i < (l.length : Int)
      · obtain ⟨k, rfl⟩ : ∃ m, k = m + 1 + 1 := ⟨k - 2, by omega⟩
        have e2 : wrap64 (i + 0) = i := by unfold wrap64; omega
        have e3 : wrap64 (0 + 1) = 1 := by unfold wrap64; omega
        have e4 : rd [w] 0 = w := rfl
        have c1 : (0 : Int) < (([w] : List Int).length : Int) := by simp
        have c2 : ¬ (1 : Int) < (([w] : List Int).length : Int) := by simp
        rw [decide_eq_false (by omega), if_neg (by decide), clone_is l hl, Option.bind_some, if_pos ⟨by omega, g1⟩]
        simp only [impl_LoadWords.l0, wrap_is, Option.bind_some, e2, e3, e4]
        rw [if_pos c1, if_pos (by decide), if_pos c1, if_pos (by omega), if_pos g1, if_neg c2]
      · rw [decide_eq_true (by omega), if_pos rfl, if_neg (by omega)]
  · rw [if_neg h, if_neg h]
theorem implWW (k : Nat) (hk : 2 < k) (l : List Int) (hl : l.length ≤ 1048576) (i w : Int) : impl_WriteWord.f (k + 1) l i w = some (ww l i w) := by
  unfold impl_WriteWord.f
  rw [implLW k hk l hl, Option.bind_some]
theorem at_is (l : List Int) (hl : l.length ≤ 1048576) (i : Int) : spec_l3At.f l i = some (decide (0 ≤ i ∧ i < (l.length : Int))) := by
  have e : wrap64 ((l.length : Int) - 1) = (l.length : Int) - 1 := by unfold wrap64; omega
  unfold spec_l3At.f
  rw [e, l1In_eq, Option.bind_some]
  exact congrArg some (decide_eq_decide.mpr (by omega))
theorem copy_is (l : List Int) (hl : l.length ≤ 1048576) : spec_l3Copy.f l = some l := by
  unfold spec_l3Copy.f
  rw [Option.bind_some, if_pos (by simp; omega), List.nil_append]
theorem specWW (k : Nat) (hk : 193 < k) (l : List Int) (hl : l.length ≤ 1048576) (i w : Int) : spec_WriteWord.f (k + 1) l i w = some (ww l i w) := by
  unfold spec_WriteWord.f ww
  rw [specMF k l hk, Option.bind_some]
  by_cases h : mf l = 0
  · rw [if_pos h, if_pos h, at_is l hl, Option.bind_some]
    by_cases g : 0 ≤ i ∧ i < (l.length : Int)
    · rw [decide_eq_true g, if_pos rfl, if_pos g, copy_is l hl, Option.bind_some]
      unfold spec_WrapWord.f
      rw [Option.bind_some, if_pos g.1, if_pos g.2]
    · rw [decide_eq_false g, if_neg (by decide), if_neg g]
  · rw [if_neg h, if_neg h]
theorem ww_len (l : List Int) (i w : Int) : (ww l i w).2.length ≤ l.length := by
  unfold ww
  by_cases h : mf l = 0
  · rw [if_pos h]
    by_cases g : 0 ≤ i ∧ i < (l.length : Int)
    · rw [if_pos g]; simp
    · rw [if_neg g]; simp
  · rw [if_neg h]; simp
theorem l1Chance_some {s : List Int} (hs : Src s) (a n : Int) (h0 : 0 ≤ a) (h1 : a ≤ 1000000) : ∃ b, spec_l1Chance.f s a n = some (b, a + 1) := by
  obtain ⟨v, e, _⟩ := l1Next_some hs a n h0 h1
  refine ⟨v == 0, ?_⟩
  unfold spec_l1Chance.f
  rw [e, Option.bind_some]
theorem l3Mem_from {s : List Int} (hs : Src s) (d : Nat) : ∀ (k : Nat) (xs : List Int) (i : Nat) (a : Int), 1 ≤ xs.length → xs.length ≤ 200 → xs.length = i + d → d < k → 0 ≤ a → a + 6 * d ≤ 900000 →
    ∃ m b, spec_l3Memory.l0 k xs (i : Int) s a = some (m, b) ∧ m.length ≤ 200 ∧ 0 ≤ b ∧ b ≤ a + 6 * d + 10 := by
  induction d with
  | zero =>
    intro k xs i a h1 h2 hd hk h0 ha
    obtain ⟨k, rfl⟩ : ∃ m, k = m + 1 := ⟨k - 1, by omega⟩
    simp only [spec_l3Memory.l0]
    rw [if_neg (by omega)]
    obtain ⟨v, e, _⟩ := l1Next_some hs a 16 h0 (by omega)
    rw [e, Option.bind_some]
    dsimp only
    by_cases c0 : v = 0
    · rw [if_pos c0, if_pos (by omega)]
      exact ⟨_, _, rfl, by rw [List.length_drop]; omega, by omega, by omega⟩
    · rw [if_neg c0]
      by_cases c1 : v = 1
      · rw [if_pos c1]
        obtain ⟨j, e2, p0, p1, _⟩ := l1Next_some hs (a + 1) (xs.length : Int) (by omega) (by omega)
        obtain ⟨u, e3, _⟩ := l1Pick_some hs (a + 1 + 1) (by omega) (by omega) [-1, 4294967296] (by simp)
        have p1 := p1 (by omega)
        rw [e2, Option.bind_some]
        dsimp only
        rw [e3, Option.bind_some]
        dsimp only
        rw [if_pos p0, if_pos p1]
        exact ⟨_, _, rfl, by rw [List.length_set]; omega, by omega, by omega⟩
      · rw [if_neg c1]
        by_cases c2 : v = 2
        · rw [if_pos c2, if_pos (by decide)]
          exact ⟨_, _, rfl, by rw [List.length_replicate]; omega, by omega, by omega⟩
        · rw [if_neg c2]
          exact ⟨_, _, rfl, h2, by omega, by omega⟩
  | succ d ih =>
    intro k xs i a h1 h2 hd hk h0 ha
    obtain ⟨k, rfl⟩ : ∃ m, k = m + 1 := ⟨k - 1, by omega⟩
    simp only [spec_l3Memory.l0]
    have hi : i < xs.length := by omega
    obtain ⟨c, e⟩ := l1Chance_some hs a 3 h0 (by omega)
    rw [if_pos (by omega), e, Option.bind_some]
    dsimp only
    cases c with
    | true =>
      obtain ⟨v, e2, _⟩ := l1Word_some hs (a + 1) (by omega) (by omega)
      rw [if_pos rfl, e2, Option.bind_some]
      dsimp only
      rw [if_pos (by omega), wsuccI hi (by omega)]
      obtain ⟨m, b, q1, q2, q3, q4⟩ := ih k (xs.set ((i : Int)).toNat v) (i + 1) (a + 1 + 5) (by rw [List.length_set]; exact h1) (by rw [List.length_set]; exact h2) (by rw [List.length_set]; omega) (by omega) (by omega) (by omega)
      exact ⟨m, b, q1, q2, q3, by omega⟩
    | false =>
      rw [if_neg (by decide), wsuccI hi (by omega)]
      obtain ⟨m, b, q1, q2, q3, q4⟩ := ih k xs (i + 1) (a + 1) h1 h2 (by omega) (by omega) (by omega) (by omega)
      exact ⟨m, b, q1, q2, q3, by omega⟩
theorem l3Memory_some {s : List Int} (hs : Src s) (k : Nat) (hk : 250 < k) (a : Int) (h0 : 0 ≤ a) (h1 : a ≤ 1000) : ∃ m b, spec_l3Memory.f k s a = some (m, b) ∧ m.length ≤ 200 ∧ 0 ≤ b ∧ b ≤ 10000 := by
  obtain ⟨v, e, p0, p1, _⟩ := l1Next_some hs a 5 h0 (by omega)
  have p1 := p1 (by omega)
  have w1 : wrap64 (1 + v) = 1 + v := by unfold wrap64; omega
  have w2 : wrap64 ((1 + v) * 8) = (1 + v) * 8 := by unfold wrap64; omega
  unfold spec_l3Memory.f
  rw [e, Option.bind_some]
  dsimp only
  unfold spec_NewMemory.f
  rw [w1, w2, l1In_eq, Option.bind_some, decide_eq_true (by omega), if_pos rfl, if_pos (by omega), if_pos (by omega), Option.bind_some]
  dsimp only
  have hl : (List.replicate ((1 + v) * 8).toNat (0 : Int)).length = ((1 + v) * 8).toNat := List.length_replicate
  obtain ⟨m, b, q1, q2, q3, q4⟩ := l3Mem_from hs (((1 + v) * 8).toNat) k (List.replicate ((1 + v) * 8).toNat 0) 0 (a + 1) (by omega) (by omega) (by omega) (by omega) (by omega) (by omega)
  exact ⟨m, b, q1, q2, q3, by omega⟩
theorem nums_from (l : List Int) (hl : l.length ≤ 1000000000) (d : Nat) : ∀ (k : Nat) (i : Nat), l.length = i + d → d < k → laws_lwNums.l0 k l l (i : Int) = some true := by
  induction d with
  | zero =>
    intro k i hd hk
    obtain ⟨k, rfl⟩ : ∃ m, k = m + 1 := ⟨k - 1, by omega⟩
    simp only [laws_lwNums.l0]
    rw [if_neg (by omega)]
  | succ d ih =>
    intro k i hd hk
    obtain ⟨k, rfl⟩ : ∃ m, k = m + 1 := ⟨k - 1, by omega⟩
    have hi : i < l.length := by omega
    simp only [laws_lwNums.l0]
    rw [if_pos (by omega), if_pos (by omega), if_pos (by omega), if_pos trivial, wsuccI hi hl]
    exact ih k (i + 1) (by omega) (by omega)
theorem nums_self (k : Nat) (l : List Int) (hl : l.length ≤ 1000000000) (hk : l.length < k) : laws_lwNums.f k l l = some true := by
  unfold laws_lwNums.f
  rw [if_pos rfl]
  exact nums_from l hl l.length k 0 (by omega) hk
theorem mf_set (l : List Int) (i : Nat) (w : Int) (h : mf l = 0) : mf (l.set i (w % 4294967296)) = 0 := by
  obtain ⟨h1, h2⟩ := mf_ok h
  unfold mf
  rw [List.length_set, if_neg (by omega), if_pos]
  rw [List.all_eq_true] at h2 ⊢
  intro x hx
  rcases List.mem_or_eq_of_mem_set hx with g | g
  · exact h2 x g
  · subst g
    exact decide_eq_true ⟨by omega, by omega⟩
theorem draw_some {s : List Int} (hs : Src s) (k : Nat) (hk : 250 < k) : ∃ m i w, spec_DrawWriteWord.f k s = some (m, i, w) ∧ m.length ≤ 200 := by
  obtain ⟨m, b, e1, hl, b0, b1⟩ := l3Memory_some hs k hk 0 (by omega) (by omega)
  obtain ⟨mx, hmx⟩ : ∃ x, spec_l1Max.f 1 (m.length : Int) = some x := by unfold spec_l1Max.f; split <;> exact ⟨_, rfl⟩
  obtain ⟨p1, f1, _⟩ := l1Next_some hs b mx b0 (by omega)
  obtain ⟨p2, f2, _⟩ := l1Next_some hs (b + 1) mx (by omega) (by omega)
  obtain ⟨i, f3, _⟩ := l1Pick_some hs (b + 1 + 1) (by omega) (by omega) [p1, p2, wrap64 ((m.length : Int) - 1), (m.length : Int), -1, 4611686018427387904] (by simp)
  obtain ⟨w, f4, _⟩ := l1Wide_some hs (b + 1 + 1 + 1) (by omega) (by omega)
  refine ⟨m, i, w, ?_, hl⟩
  unfold spec_DrawWriteWord.f spec_l1Source.f
  rw [Option.bind_some]
  dsimp only
  rw [e1, Option.bind_some]
  dsimp only
  unfold spec_l3Place.f
  rw [hmx, Option.bind_some, f1, Option.bind_some]
  dsimp only
  rw [Option.bind_some, f2, Option.bind_some]
  dsimp only
  rw [f3, Option.bind_some, Option.bind_some]
  dsimp only
  rw [f4, Option.bind_some]
theorem loop_is (l : List Int) (hm : mf l = 0) (at_ w : Int) (h0 : 0 ≤ at_) (h1 : at_ < (l.length : Int)) (c : Int) (d : Nat) : ∀ (k i : Nat), l.length = i + d → d + 300 < k → laws_FnMemories.l0 k l at_ w (i : Int) c (l.set at_.toNat (w % 4294967296)) = some true := by
  have hl : l.length ≤ 192 := (mf_ok hm).1.2.1
  have hs := mf_set l at_.toNat w hm
  have hlen : (l.set at_.toNat (w % 4294967296)).length = l.length := List.length_set
  induction d with
  | zero =>
    intro k i hd hk
    obtain ⟨k, rfl⟩ : ∃ m, k = m + 1 + 1 := ⟨k - 2, by omega⟩
    simp only [laws_FnMemories.l0]
    rw [if_neg (by omega), implLW k (by omega) l (by omega), Option.bind_some, implMF, Option.bind_some, if_pos hs, hlen, if_pos rfl]
    have e : ww l at_ w = (0, l.set at_.toNat (w % 4294967296)) := by
      unfold ww
      rw [if_pos hm, if_pos ⟨h0, h1⟩]
    rw [e]
    dsimp only
    rw [if_pos rfl, nums_self _ _ (by omega) (by omega), Option.bind_some]
  | succ d ih =>
    intro k i hd hk
    obtain ⟨k, rfl⟩ : ∃ m, k = m + 1 := ⟨k - 1, by omega⟩
    have hi : i < l.length := by omega
    simp only [laws_FnMemories.l0]
    obtain ⟨k, rfl⟩ : ∃ m, k = m + 1 := ⟨k - 1, by omega⟩
    rw [if_pos (by omega), implRW k _ (by omega), Option.bind_some]
    unfold rw_
    have hin : 0 ≤ (i : Int) ∧ (i : Int) < ((l.set at_.toNat (w % 4294967296)).length : Int) := ⟨by omega, by omega⟩
    rw [if_pos hs, if_pos hin]
    dsimp only
    rw [if_pos rfl]
    have hi' := ih (k + 1) (i + 1) (by omega) (by omega)
    have hv : rd (l.set at_.toNat (w % 4294967296)) (i : Int) = if i = at_.toNat then w % 4294967296 else rd l (i : Int) := by
      rw [rdI_at _ i (by omega), rdI_at l i hi, List.getElem_set]
      by_cases e : at_.toNat = i
      · rw [if_pos e, if_pos e.symm]
      · rw [if_neg e, if_neg (fun h => e h.symm)]
    by_cases e : (i : Int) = at_
    · rw [if_pos (show i = at_.toNat by omega)] at hv
      rw [if_pos e, wrap_is, Option.bind_some, hv, if_pos rfl, wsuccI hi (by omega)]
      exact hi'
    · rw [if_neg (show ¬ i = at_.toNat by omega)] at hv
      rw [if_neg e, if_pos (by omega), hv, if_pos rfl, wsuccI hi (by omega)]
      exact hi'
theorem FnMemories : laws_FnMemories.Pure := by
  intro l hm hr hw
  refine ⟨600, ?_⟩
  unfold laws_FnMemories.f laws_lwBig.f
  rw [Option.bind_some]
  by_cases hb : (l.length : Int) > 1048576
  · rw [if_pos (by simpa using hb)]
  rw [if_neg (by simpa using hb)]
  have hs : Src l := src_of (by omega) hw
  obtain ⟨m, i, w, e, hl⟩ := draw_some hs 600 (by omega)
  rw [e, Option.bind_some]
  dsimp only
  rw [implWW 599 (by omega) m (by omega), Option.bind_some]
  by_cases c : (ww m i w).1 = 0
  · rw [if_pos c]
    have hmf : mf m = 0 := by
      unfold ww at c
      by_cases g : mf m = 0
      · exact g
      · rw [if_neg g] at c; exact c
    have hin : 0 ≤ i ∧ i < (m.length : Int) := by
      unfold ww at c
      rw [if_pos hmf] at c
      by_cases g : 0 ≤ i ∧ i < (m.length : Int)
      · exact g
      · rw [if_neg g] at c; exact absurd c (by decide)
    have e2 : (ww m i w).2 = m.set i.toNat (w % 4294967296) := by
      unfold ww
      rw [if_pos hmf, if_pos hin]
    rw [e2]
    exact loop_is m hmf i w hin.1 hin.2 _ m.length 600 0 (by omega) (by omega)
  · rw [if_neg c, specWW 599 (by omega) m (by omega), Option.bind_some, beq_self_eq_true]

end Go.Proofs.Ytddnkakkejeacaa.Pure
