/- FnRegions: two regions meet just where they have a place in common, and a wiped region is wiped, at every input of bytes. No condition. -/
import Derived.Test.YtddnkakkejeacaaPFnRegionsx18
import Derived.Test.YtddnkakkejeacaaLem
namespace Go.Proofs.Ytddnkakkejeacaa.Pure
open Go.RowKit Go.Proofs.Ytddnkakkejeacaa.PFnRegions Go.Proofs.YtddnkakkejeacaaW.PrintWords Go.Proofs.YtddnkakkejeacaaW.PrintLast Go.Proofs.YtddnkakkejeacaaW.PrintMore
open Go.Proofs.Ytddnkakkejeacaa.Lem
set_option linter.unusedVariables false
set_option linter.unusedSimpArgs false
def Src (s : List Int) : Prop := s.length ≤ 2000000 ∧ ∀ x ∈ s, 0 ≤ x ∧ x ≤ 255
theorem src_of {s : List Int} (hs : s.length ≤ 2000000) (hw : ∀ x ∈ s, (Lit.int .u8 x).wf = true) : Src s :=
  ⟨hs, fun x hx => by have := hw x hx; simp [Lit.wf, IntKind.min, IntKind.max, IntKind.bits, IntKind.signed] at this; omega⟩
theorem src_rd {s : List Int} (h : Src s) (i : Int) : 0 ≤ rd s i ∧ rd s i ≤ 255 := by
  unfold rd
  by_cases hi : i.toNat < s.length
  · rw [List.getD_eq_getElem?_getD, List.getElem?_eq_getElem hi]
    exact h.2 _ (List.getElem_mem hi)
  · rw [List.getD_eq_getElem?_getD, List.getElem?_eq_none (by omega)]
    exact ⟨by simp, by simp⟩
theorem wr1 {a : Int} (h0 : 0 ≤ a) (h1 : a ≤ 1000000) : wrap64 (a + 1) = a + 1 := by unfold wrap64; omega
theorem wr2 {a : Int} (h0 : 0 ≤ a) (h1 : a ≤ 1000000) : wrap64 (a + 1 - 1) = a := by unfold wrap64; omega
theorem l1Next_some {s : List Int} (hs : Src s) (a n : Int) (h0 : 0 ≤ a) (h1 : a ≤ 1000000) :
    ∃ v, spec_l1Next.f s a n = some (v, a + 1) ∧ 0 ≤ v ∧ (1 ≤ n → v < n) ∧ (n < 1 → v = 0) := by
  unfold spec_l1Next.f
  by_cases hn : n < 1
  · exact ⟨0, by rw [if_pos hn, wr1 h0 h1], by omega, by omega, by omega⟩
  rw [if_neg hn]
  have hn0 : ¬ n = 0 := by omega
  rw [wr1 h0 h1, wr2 h0 h1, wr1 h0 h1]
  have key : ∀ e : Int, 0 ≤ e → 0 ≤ Int.tmod e n ∧ Int.tmod e n < n := fun e he => by
    rw [Int.tmod_eq_emod_of_nonneg he]
    exact ⟨Int.emod_nonneg _ hn0, Int.emod_lt_of_pos _ (by omega)⟩
  by_cases hl : (s.length : Int) = 0
  · rw [if_pos hl, if_neg hn0]
    have e : wrap64 (a * 7) = a * 7 := by unfold wrap64; omega
    rw [e]
    have := key (a * 7) (by omega)
    exact ⟨_, rfl, this.1, fun _ => this.2, by omega⟩
  rw [if_neg hl]
  have hlen := hs.1
  have m1 : ∀ e : Int, 0 ≤ e → 0 ≤ Int.tmod e (s.length : Int) ∧ Int.tmod e (s.length : Int) < (s.length : Int) := fun e he => by
    rw [Int.tmod_eq_emod_of_nonneg he]
    exact ⟨Int.emod_nonneg _ hl, Int.emod_lt_of_pos _ (by omega)⟩
  have q1 := m1 a h0
  have q2 := m1 (a + 1) (by omega)
  rw [if_pos q1.1, if_pos q1.2]
  have d1 : 0 ≤ Int.tdiv a (s.length : Int) ∧ Int.tdiv a (s.length : Int) ≤ a := by
    rw [Int.tdiv_eq_ediv_of_nonneg h0]
    exact ⟨Int.ediv_nonneg h0 (by omega), Int.ediv_le_self _ h0⟩
  have r1 := src_rd hs (Int.tmod a (s.length : Int))
  have r2 := src_rd hs (Int.tmod (a + 1) (s.length : Int))
  generalize Int.tdiv a (s.length : Int) = D at *
  generalize rd s (Int.tmod a (s.length : Int)) = X at *
  generalize rd s (Int.tmod (a + 1) (s.length : Int)) = Y at *
  have w1 : wrap64 D = D := by unfold wrap64; omega
  have w2 : wrap64 (D * 37) = D * 37 := by unfold wrap64; omega
  have w3 : wrap64 X = X := by unfold wrap64; omega
  have w4 : wrap64 Y = Y := by unfold wrap64; omega
  have w5 : wrap64 (X + D * 37) = X + D * 37 := by unfold wrap64; omega
  by_cases hb : n > 200
  · rw [if_pos hb, if_pos q2.1, if_pos q2.2, if_neg hn0, w1, w2, w3, w4, w5]
    have w6 : wrap64 ((X + D * 37) * 251) = (X + D * 37) * 251 := by unfold wrap64; omega
    have w7 : wrap64 (Y * 13) = Y * 13 := by unfold wrap64; omega
    have w8 : wrap64 ((X + D * 37) * 251 + Y * 13) = (X + D * 37) * 251 + Y * 13 := by unfold wrap64; omega
    have w9 : wrap64 ((X + D * 37) * 251 + Y * 13 + a) = (X + D * 37) * 251 + Y * 13 + a := by unfold wrap64; omega
    rw [w6, w7, w8, w9]
    have := key ((X + D * 37) * 251 + Y * 13 + a) (by omega)
    exact ⟨_, rfl, this.1, fun _ => this.2, by omega⟩
  · rw [if_neg hb, if_neg hn0, w1, w2, w3, w5]
    have := key (X + D * 37) (by omega)
    exact ⟨_, rfl, this.1, fun _ => this.2, by omega⟩
theorem l1Pick_some {s : List Int} (hs : Src s) (a : Int) (h0 : 0 ≤ a) (h1 : a ≤ 1000000) (l : List Int) (hl : l ≠ []) :
    ∃ v, spec_l1Pick.f s a l = some (v, a + 1) ∧ v ∈ l := by
  have hp : 0 < l.length := List.length_pos_iff.mpr hl
  obtain ⟨i, hi, b0, b1, _⟩ := l1Next_some hs a (l.length : Int) h0 h1
  unfold spec_l1Pick.f
  rw [hi]
  simp only [Option.bind_some]
  rw [if_pos b0, if_pos (b1 (by omega))]
  refine ⟨_, rfl, ?_⟩
  unfold rd
  have hlt : i.toNat < l.length := by have := b1 (by omega); omega
  rw [List.getD_eq_getElem?_getD, List.getElem?_eq_getElem hlt]
  exact List.getElem_mem hlt
theorem l1Word_some {s : List Int} (hs : Src s) (a : Int) (h0 : 0 ≤ a) (h1 : a ≤ 999000) :
    ∃ v, spec_l1Word.f s a = some (v, a + 5) ∧ 0 ≤ v ∧ v ≤ 4294967295 := by
  unfold spec_l1Word.f
  obtain ⟨x1, e1, p1, q1, _⟩ := l1Next_some hs a 90 h0 (by omega)
  obtain ⟨x2, e2, p2, q2, _⟩ := l1Next_some hs (a + 1) 9 (by omega) (by omega)
  obtain ⟨x3, e3, p3, q3, _⟩ := l1Next_some hs (a + 1 + 1) 9 (by omega) (by omega)
  obtain ⟨x4, e4, p4, q4, _⟩ := l1Next_some hs (a + 1 + 1 + 1) 60000 (by omega) (by omega)
  have q1 := q1 (by omega)
  have q2 := q2 (by omega)
  have q3 := q3 (by omega)
  have q4 := q4 (by omega)
  have w1 : wrap64 (4294967295 - x3) = 4294967295 - x3 := by unfold wrap64; omega
  have w2 : wrap64 (x4 * 70000) = x4 * 70000 := by unfold wrap64; omega
  obtain ⟨v, e5, hv⟩ := l1Pick_some hs (a + 1 + 1 + 1 + 1) (by omega) (by omega) [x1, x2, 4294967295 - x3, 2147483648, 2147483647, 0, x4 * 70000] (by simp)
  refine ⟨v, ?_, ?_⟩
  · simp only [e1, e2, e3, e4, w1, w2, e5, Option.bind_some]
    rw [show a + 1 + 1 + 1 + 1 + 1 = a + 5 by omega]
  · simp only [List.mem_cons, List.not_mem_nil, or_false] at hv
    omega
theorem within_eq (a x y : Int) : impl_within.f a x y = some (decide (x ≤ a ∧ a ≤ y)) := by
  unfold impl_within.f
  split <;> rename_i h <;> simp <;> omega
theorem l1In_eq (a x y : Int) : spec_l1In.f a x y = some (decide (x ≤ a ∧ a ≤ y)) := by
  unfold spec_l1In.f
  split <;> rename_i h <;> simp <;> omega
theorem wrap_is (a : Int) : impl_WrapWord.f a = some (a % 4294967296) := by unfold impl_WrapWord.f; rw [and_word]
theorem wsuccI {i n : Nat} (h : i < n) (hn : n ≤ 1000000000) : wrap64 ((i : Int) + 1) = ((i + 1 : Nat) : Int) := by unfold wrap64; omega
theorem rdI_at (l : List Int) (i : Nat) (h : i < l.length) : rd l (i : Int) = l[i] := by
  unfold rd
  rw [Int.toNat_natCast, List.getD_eq_getElem?_getD, List.getElem?_eq_getElem h]
  rfl
def mf (l : List Int) : Int := if l.length = 0 ∨ 192 < l.length ∨ l.length % 8 ≠ 0 then 1 else if l.all isW = true then 0 else 3
theorem mf_cases (l : List Int) : mf l = 0 ∨ mf l = 1 ∨ mf l = 3 := by
  unfold mf
  by_cases h : l.length = 0 ∨ 192 < l.length ∨ l.length % 8 ≠ 0
  · rw [if_pos h]; exact .inr (.inl rfl)
  · rw [if_neg h]
    by_cases g : l.all isW = true
    · rw [if_pos g]; exact .inl rfl
    · rw [if_neg g]; exact .inr (.inr rfl)
theorem mf_ok {l : List Int} (h : mf l = 0) : (l.length ≠ 0 ∧ l.length ≤ 192 ∧ l.length % 8 = 0) ∧ l.all isW = true := by
  unfold mf at h
  by_cases g : l.length = 0 ∨ 192 < l.length ∨ l.length % 8 ≠ 0
  · rw [if_pos g] at h; exact absurd h (by decide)
  · rw [if_neg g] at h
    by_cases e : l.all isW = true
    · exact ⟨by omega, e⟩
    · rw [if_neg e] at h; exact absurd h (by decide)
theorem implMF (k : Nat) (l : List Int) : impl_MemoryFault.f (k + 1) l = some (mf l) := by
  unfold impl_MemoryFault.f mf
  simp only [impl_MemoryFault.j0, impl_areWords.f, Option.bind_some, if_true]
  by_cases h0 : l.length = 0
  · rw [if_pos (by omega), if_pos (.inl h0)]
  · rw [if_neg (by omega)]
    by_cases h1 : 192 < l.length
    · rw [if_pos (by omega), if_pos (.inr (.inl h1))]
    · rw [if_neg (by omega)]
      by_cases h2 : l.length % 8 = 0
      · have e : ((l.length : Int) % 8 != 0) = false := by rw [bne_eq_false_iff_eq]; omega
        have hA : ¬ (l.length = 0 ∨ 192 < l.length ∨ l.length % 8 ≠ 0) := by omega
        rw [e, if_neg (by decide), if_neg hA]
        by_cases g : l.all isW = true
        · rw [if_pos g, if_pos g]
        · rw [if_neg g, if_neg g]
      · have e : ((l.length : Int) % 8 != 0) = true := by rw [bne_iff_ne]; omega
        rw [e, if_pos rfl, if_pos (.inr (.inr h2))]
theorem specMF_from (l : List Int) (hl : l.length ≤ 192) (d : Nat) : ∀ (k i : Nat), l.length = i + d → d < k → spec_MemoryFault.l0 k l (i : Int) = some (if (l.drop i).all isW = true then 0 else 3) := by
  induction d with
  | zero =>
    intro k i hd hk
    obtain ⟨k, rfl⟩ : ∃ m, k = m + 1 := ⟨k - 1, by omega⟩
    simp only [spec_MemoryFault.l0]
    rw [if_neg (by omega), List.drop_eq_nil_of_le (by omega)]
    rfl
  | succ d ih =>
    intro k i hd hk
    obtain ⟨k, rfl⟩ : ∃ m, k = m + 1 := ⟨k - 1, by omega⟩
    have hi : i < l.length := by omega
    have hi' := ih k (i + 1) (by omega) (by omega)
    simp only [spec_MemoryFault.l0, l1In_eq, Option.bind_some]
    rw [if_pos (by omega), if_pos (by omega), rdI_at l i hi, wsuccI hi (by omega), hi', List.drop_eq_getElem_cons hi, List.all_cons]
    have e : decide (0 ≤ l[i] ∧ l[i] ≤ 4294967295) = isW l[i] := rfl
    rw [e]
    cases isW l[i] with
    | true => rw [if_pos rfl, Bool.true_and]
    | false => rw [if_neg (by decide), Bool.false_and, if_neg (by decide)]
theorem specMF (k : Nat) (l : List Int) (hk : 193 < k) : spec_MemoryFault.f (k + 1) l = some (mf l) := by
  unfold spec_MemoryFault.f mf
  by_cases h2 : l.length % 8 = 0
  · rw [if_pos (by omega)]
    by_cases h0 : l.length = 0
    · rw [if_pos (by omega), if_pos (.inl h0)]
      simp only [spec_MemoryFault.j0]
      rw [if_pos trivial]
    · rw [if_neg (by omega)]
      by_cases h1 : 192 < l.length
      · rw [decide_eq_true (by omega), if_pos (.inr (.inl h1))]
        simp only [spec_MemoryFault.j0]
        rw [if_pos trivial]
      · rw [decide_eq_false (by omega), if_neg (by omega)]
        simp only [spec_MemoryFault.j0]
        rw [if_neg (by decide)]
        have := specMF_from l (by omega) l.length k 0 (by omega) (by omega)
        simpa using this
  · rw [if_neg (by omega), if_pos (.inr (.inr h2))]
    simp only [spec_MemoryFault.j0]
    rw [if_pos trivial]
theorem l1Chance_some {s : List Int} (hs : Src s) (a n : Int) (h0 : 0 ≤ a) (h1 : a ≤ 1000000) : ∃ b, spec_l1Chance.f s a n = some (b, a + 1) := by
  obtain ⟨v, e, _⟩ := l1Next_some hs a n h0 h1
  refine ⟨v == 0, ?_⟩
  unfold spec_l1Chance.f
  rw [e, Option.bind_some]
theorem l3Mem_from {s : List Int} (hs : Src s) (d : Nat) : ∀ (k : Nat) (xs : List Int) (i : Nat) (a : Int), 1 ≤ xs.length → xs.length ≤ 200 → xs.length = i + d → d < k → 0 ≤ a → a + 6 * d ≤ 900000 →
    ∃ m b, spec_l3Memory.l0 k xs (i : Int) s a = some (m, b) ∧ m.length ≤ 200 ∧ 0 ≤ b ∧ b ≤ a + 6 * d + 10 := by
  induction d with
  | zero =>
    intro k xs i a h1 h2 hd hk h0 ha
    obtain ⟨k, rfl⟩ : ∃ m, k = m + 1 := ⟨k - 1, by omega⟩
    simp only [spec_l3Memory.l0]
    rw [if_neg (by omega)]
    obtain ⟨v, e, _⟩ := l1Next_some hs a 16 h0 (by omega)
    rw [e, Option.bind_some]
    dsimp only
    by_cases c0 : v = 0
    · rw [if_pos c0, if_pos (by omega)]
      exact ⟨_, _, rfl, by rw [List.length_drop]; omega, by omega, by omega⟩
    · rw [if_neg c0]
      by_cases c1 : v = 1
      · rw [if_pos c1]
        obtain ⟨j, e2, p0, p1, _⟩ := l1Next_some hs (a + 1) (xs.length : Int) (by omega) (by omega)
        obtain ⟨u, e3, _⟩ := l1Pick_some hs (a + 1 + 1) (by omega) (by omega) [-1, 4294967296] (by simp)
        have p1 := p1 (by omega)
        rw [e2, Option.bind_some]
        dsimp only
        rw [e3, Option.bind_some]
        dsimp only
        rw [if_pos p0, if_pos p1]
        exact ⟨_, _, rfl, by rw [List.length_set]; omega, by omega, by omega⟩
      · rw [if_neg c1]
        by_cases c2 : v = 2
        · rw [if_pos c2, if_pos (by decide)]
          exact ⟨_, _, rfl, by rw [List.length_replicate]; omega, by omega, by omega⟩
        · rw [if_neg c2]
          exact ⟨_, _, rfl, h2, by omega, by omega⟩
  | succ d ih =>
    intro k xs i a h1 h2 hd hk h0 ha
    obtain ⟨k, rfl⟩ : ∃ m, k = m + 1 := ⟨k - 1, by omega⟩
    simp only [spec_l3Memory.l0]
    have hi : i < xs.length := by omega
    obtain ⟨c, e⟩ := l1Chance_some hs a 3 h0 (by omega)
    rw [if_pos (by omega), e, Option.bind_some]
    dsimp only
    cases c with
    | true =>
      obtain ⟨v, e2, _⟩ := l1Word_some hs (a + 1) (by omega) (by omega)
      rw [if_pos rfl, e2, Option.bind_some]
      dsimp only
      rw [if_pos (by omega), wsuccI hi (by omega)]
      obtain ⟨m, b, q1, q2, q3, q4⟩ := ih k (xs.set ((i : Int)).toNat v) (i + 1) (a + 1 + 5) (by rw [List.length_set]; exact h1) (by rw [List.length_set]; exact h2) (by rw [List.length_set]; omega) (by omega) (by omega) (by omega)
      exact ⟨m, b, q1, q2, q3, by omega⟩
    | false =>
      rw [if_neg (by decide), wsuccI hi (by omega)]
      obtain ⟨m, b, q1, q2, q3, q4⟩ := ih k xs (i + 1) (a + 1) h1 h2 (by omega) (by omega) (by omega) (by omega)
      exact ⟨m, b, q1, q2, q3, by omega⟩
theorem l3Memory_some {s : List Int} (hs : Src s) (k : Nat) (hk : 250 < k) (a : Int) (h0 : 0 ≤ a) (h1 : a ≤ 1000) : ∃ m b, spec_l3Memory.f k s a = some (m, b) ∧ m.length ≤ 200 ∧ 0 ≤ b ∧ b ≤ 10000 := by
  obtain ⟨v, e, p0, p1, _⟩ := l1Next_some hs a 5 h0 (by omega)
  have p1 := p1 (by omega)
  have w1 : wrap64 (1 + v) = 1 + v := by unfold wrap64; omega
  have w2 : wrap64 ((1 + v) * 8) = (1 + v) * 8 := by unfold wrap64; omega
  unfold spec_l3Memory.f
  rw [e, Option.bind_some]
  dsimp only
  unfold spec_NewMemory.f
  rw [w1, w2, l1In_eq, Option.bind_some, decide_eq_true (by omega), if_pos rfl, if_pos (by omega), if_pos (by omega), Option.bind_some]
  dsimp only
  have hl : (List.replicate ((1 + v) * 8).toNat (0 : Int)).length = ((1 + v) * 8).toNat := List.length_replicate
  obtain ⟨m, b, q1, q2, q3, q4⟩ := l3Mem_from hs (((1 + v) * 8).toNat) k (List.replicate ((1 + v) * 8).toNat 0) 0 (a + 1) (by omega) (by omega) (by omega) (by omega) (by omega) (by omega)
  exact ⟨m, b, q1, q2, q3, by omega⟩
def okR (a b : Int) : Prop := 0 ≤ a ∧ a ≤ 192 ∧ 0 ≤ b ∧ b ≤ 192 - a
instance (a b : Int) : Decidable (okR a b) := by unfold okR; infer_instance
theorem implRF (a b : Int) : impl_RegionFault.f a b = some (if okR a b then 0 else 3) := by
  unfold impl_RegionFault.f
  rw [within_eq, Option.bind_some]
  by_cases c : 0 ≤ a ∧ a ≤ 192
  · have e : wrap64 (192 - a) = 192 - a := by unfold wrap64; omega
    rw [decide_eq_true c, if_pos rfl, e, within_eq, Option.bind_some]
    by_cases d : 0 ≤ b ∧ b ≤ 192 - a
    · rw [decide_eq_true d, if_pos rfl, if_pos (show okR a b from ⟨c.1, c.2, d.1, d.2⟩)]
    · rw [decide_eq_false d, if_neg (by decide), if_neg (fun h : okR a b => d ⟨h.2.2.1, h.2.2.2⟩)]
  · rw [decide_eq_false c, if_neg (by decide), if_neg (fun h : okR a b => c ⟨h.1, h.2.1⟩)]
theorem specRF (a b : Int) : spec_RegionFault.f a b = some (if okR a b then 0 else 3) := by
  unfold spec_RegionFault.f
  rw [l1In_eq, Option.bind_some]
  by_cases c : 0 ≤ a ∧ a ≤ 192
  · rw [decide_eq_true c, if_pos rfl, l1In_eq, Option.bind_some]
    by_cases d : 0 ≤ b ∧ b ≤ 192
    · have e : wrap64 (a + b) = a + b := by unfold wrap64; omega
      rw [decide_eq_true d, if_pos rfl, e]
      by_cases g : a + b > 192
      · rw [if_pos g, if_neg (fun h : okR a b => by have := h.2.2.2; omega)]
      · rw [if_neg g, if_pos (show okR a b from ⟨c.1, c.2, d.1, by omega⟩)]
    · rw [decide_eq_false d, if_neg (by decide), if_neg (fun h : okR a b => d ⟨h.2.2.1, by have := h.2.2.2; have := h.1; omega⟩)]
  · rw [decide_eq_false c, if_neg (by decide), if_neg (fun h : okR a b => c ⟨h.1, h.2.1⟩)]
theorem rdP_at (l : List S47) (i : Nat) (h : i < l.length) : rd_T47 l (i : Int) = l[i] := by
  unfold rd_T47
  rw [Int.toNat_natCast, List.getD_eq_getElem?_getD, List.getElem?_eq_getElem h]
  rfl
theorem wsucc {i n : Nat} (h : i < n) (hn : n ≤ 1000000000) : wrap64 ((i : Int) + 1) = ((i + 1 : Nat) : Int) := by unfold wrap64; omega
theorem implRM (a b c d : Int) (h1 : okR a b) (h2 : okR c d) : impl_RegionsMeet.f a b c d = some (decide (0 < b ∧ 0 < d ∧ a < c + d ∧ c < a + b)) := by
  unfold impl_RegionsMeet.f
  obtain ⟨p1, p2, p3, p4⟩ := h1
  obtain ⟨q1, q2, q3, q4⟩ := h2
  have e1 : wrap64 (a + b) = a + b := by unfold wrap64; omega
  have e2 : wrap64 (c + d) = c + d := by unfold wrap64; omega
  rw [implRF, if_pos (show okR a b from ⟨p1, p2, p3, p4⟩), Option.bind_some, if_pos rfl, implRF, if_pos (show okR c d from ⟨q1, q2, q3, q4⟩), Option.bind_some, if_pos rfl, e1, e2]
  refine congrArg some (decide_eq_decide.mpr ?_)
  have m1 : mx a c = if a < c then c else a := rfl
  have m2 : mn (a + b) (c + d) = mn (a + b) (c + d) := rfl
  unfold mn
  rw [m1]
  by_cases g : a < c
  · rw [if_pos g]
    split <;> omega
  · rw [if_neg g]
    split <;> omega
theorem faultI_is (a b : Int) : faultI a b = if okR a b then 0 else 3 := by
  unfold faultI
  rw [implRF]
  rfl
def wz : List Int → Nat → Nat → List Int
  | l, _, 0 => l
  | l, a, n + 1 => wz (l.set a 0) (a + 1) n
theorem wz_len (n : Nat) : ∀ (l : List Int) (a : Nat), (wz l a n).length = l.length := by
  induction n with
  | zero => intro l a; rfl
  | succ n ih => intro l a; unfold wz; rw [ih, List.length_set]
def wpr (l : List Int) (a b : Int) : Int × List Int := if mf l = 0 then (if okR a b then (if a + b > (l.length : Int) then (8, []) else (0, wz l a.toNat b.toNat)) else (3, [])) else (mf l, [])
theorem wpr_len (l : List Int) (a b : Int) : (wpr l a b).2.length ≤ l.length := by
  unfold wpr
  by_cases h : mf l = 0
  · rw [if_pos h]
    by_cases g : okR a b
    · rw [if_pos g]
      by_cases e : a + b > (l.length : Int)
      · rw [if_pos e]; simp
      · rw [if_neg e]; exact Nat.le_of_eq (wz_len _ _ _)
    · rw [if_neg g]; simp
  · rw [if_neg h]; simp
theorem wclone_is (l : List Int) (hl : l.length ≤ 1048576) : slices_Clone_int64_int64.f l = some l := by
  unfold slices_Clone_int64_int64.f
  rw [Option.bind_some, if_pos (by simp; omega), List.nil_append]
theorem wcopy_is (l : List Int) (hl : l.length ≤ 1048576) : spec_l3Copy.f l = some l := by
  unfold spec_l3Copy.f
  rw [Option.bind_some, if_pos (by simp; omega), List.nil_append]
theorem specWZ (a b : Int) (n : Nat) : ∀ (k : Nat) (xs : List Int) (i : Nat), (i : Int) + n = a + b → a + b ≤ (xs.length : Int) → xs.length ≤ 192 → n < k → spec_WipeRegion.l0 k xs (i : Int) a b = some (0, wz xs i n) := by
  induction n with
  | zero =>
    intro k xs i h1 h2 h3 hk
    obtain ⟨k, rfl⟩ : ∃ m, k = m + 1 := ⟨k - 1, by omega⟩
    have e : wrap64 (a + b) = a + b := by unfold wrap64; omega
    simp only [spec_WipeRegion.l0]
    rw [e, if_neg (by omega)]
    rfl
  | succ n ih =>
    intro k xs i h1 h2 h3 hk
    obtain ⟨k, rfl⟩ : ∃ m, k = m + 1 := ⟨k - 1, by omega⟩
    have e : wrap64 (a + b) = a + b := by unfold wrap64; omega
    have e2 : wrap64 ((i : Int) + 1) = ((i + 1 : Nat) : Int) := by unfold wrap64; omega
    simp only [spec_WipeRegion.l0]
    rw [e, if_pos (by omega), if_pos (by omega), if_pos (by omega), e2, Int.toNat_natCast]
    exact ih k (xs.set i 0) (i + 1) (by omega) (by rw [List.length_set]; exact h2) (by rw [List.length_set]; exact h3) (by omega)
theorem implWZ (a b : Nat) (n : Nat) : ∀ (k : Nat) (xs : List Int) (j : Nat), j + n = b → a + b ≤ xs.length → xs.length ≤ 192 → n < k → impl_LoadWords.l0 k (a : Int) xs (List.replicate b 0) ((List.replicate b (0 : Int)).length : Int) (j : Int) = some (0, wz xs (a + j) n) := by
  induction n with
  | zero =>
    intro k xs j h1 h2 h3 hk
    obtain ⟨k, rfl⟩ : ∃ m, k = m + 1 := ⟨k - 1, by omega⟩
    simp only [impl_LoadWords.l0, List.length_replicate]
    rw [if_neg (by omega)]
    rfl
  | succ n ih =>
    intro k xs j h1 h2 h3 hk
    obtain ⟨k, rfl⟩ : ∃ m, k = m + 1 := ⟨k - 1, by omega⟩
    have hr : rd (List.replicate b (0 : Int)) (j : Int) = 0 := by unfold rd; rw [Int.toNat_natCast, List.getD_eq_getElem?_getD, List.getElem?_replicate]; split <;> rfl
    have e1 : wrap64 ((a : Int) + (j : Int)) = ((a + j : Nat) : Int) := by unfold wrap64; omega
    have e2 : wrap64 ((j : Int) + 1) = ((j + 1 : Nat) : Int) := by unfold wrap64; omega
    have ih := ih k (xs.set (a + j) 0) (j + 1) (by omega) (by rw [List.length_set]; exact h2) (by rw [List.length_set]; exact h3) (by omega)
    rw [List.length_replicate] at ih
    have p0 : (j : Int) < (b : Int) := by omega
    have p1 : (0 : Int) ≤ (j : Int) := by omega
    have p2 : (0 : Int) ≤ ((a + j : Nat) : Int) := by omega
    have p3 : ((a + j : Nat) : Int) < (xs.length : Int) := by omega
    simp only [impl_LoadWords.l0, wrap_is, Option.bind_some, hr, e1, e2, List.length_replicate]
    rw [if_pos p0, if_pos p1, if_pos p0, if_pos p2, if_pos p3, Int.toNat_natCast]
    exact ih
theorem implLZ (k : Nat) (l : List Int) (hl : l.length ≤ 1048576) (h : mf l = 0) (a b : Int) (hab : okR a b) (hle : ¬ a + b > (l.length : Int)) (hk : 250 < k) : impl_LoadWords.f k l a (List.replicate b.toNat 0) = some (0, wz l a.toNat b.toNat) := by
  obtain ⟨k, rfl⟩ : ∃ m, k = m + 1 + 1 := ⟨k - 2, by omega⟩
  obtain ⟨q1, q2, q3, q4⟩ := hab
  obtain ⟨⟨_, hl2, _⟩, _⟩ := mf_ok h
  have hz := implWZ a.toNat b.toNat b.toNat (k + 1 - 0) l 0 (by omega) (by omega) hl2 (by omega)
  have ea : ((a.toNat : Nat) : Int) = a := by omega
  rw [ea] at hz
  unfold impl_LoadWords.f
  rw [implMF, Option.bind_some, if_pos h, if_neg (by omega)]
  have tail : impl_LoadWords.j0 (k + 1 + 1) l a (List.replicate b.toNat 0) false = some (0, wz l a.toNat b.toNat) := by
    simp only [impl_LoadWords.j0]
    rw [if_neg (by decide), wclone_is l hl, Option.bind_some]
    exact hz
  by_cases g : ((List.replicate b.toNat (0 : Int)).length : Int) > 0
  · have e : decide (a > wrap64 ((l.length : Int) - ((List.replicate b.toNat (0 : Int)).length : Int))) = false := by
      rw [List.length_replicate]
      have : wrap64 ((l.length : Int) - ((b.toNat : Nat) : Int)) = (l.length : Int) - b := by unfold wrap64; omega
      rw [this]
      exact decide_eq_false (by omega)
    rw [if_pos g, e]
    exact tail
  · rw [if_neg g]
    exact tail
theorem specWP (k : Nat) (l : List Int) (hl : l.length ≤ 1048576) (a b : Int) (hk : 250 < k) : spec_WipeRegion.f (k + 1) l a b = some (wpr l a b) := by
  unfold spec_WipeRegion.f wpr
  rw [specMF k l (by omega), Option.bind_some]
  by_cases h : mf l = 0
  · rw [if_pos h, if_pos h, specRF, Option.bind_some]
    by_cases g : okR a b
    · obtain ⟨q1, q2, q3, q4⟩ := g
      have e : wrap64 (a + b) = a + b := by unfold wrap64; omega
      rw [if_pos (show okR a b from ⟨q1, q2, q3, q4⟩), if_pos rfl, if_pos (show okR a b from ⟨q1, q2, q3, q4⟩), e]
      by_cases d : a + b > (l.length : Int)
      · rw [if_pos d, if_pos d]
      · obtain ⟨⟨_, hl2, _⟩, _⟩ := mf_ok h
        have hz := specWZ a b b.toNat (k + 1) l a.toNat (by omega) (by omega) hl2 (by omega)
        have ea : ((a.toNat : Nat) : Int) = a := by omega
        rw [ea] at hz
        rw [if_neg d, if_neg d, wcopy_is l hl, Option.bind_some]
        exact hz
    · rw [if_neg g, if_neg (by decide), if_neg g]
  · rw [if_neg h, if_neg h]
theorem implWP (k : Nat) (l : List Int) (hl : l.length ≤ 1048576) (a b : Int) (hk : 300 < k) : impl_WipeRegion.f k l a b = some (wpr l a b) := by
  obtain ⟨k, rfl⟩ : ∃ m, k = m + 1 + 1 := ⟨k - 2, by omega⟩
  unfold impl_WipeRegion.f wpr
  rw [implMF, Option.bind_some]
  by_cases h : mf l = 0
  · rw [if_pos h, if_pos h, implRF, Option.bind_some]
    by_cases g : okR a b
    · have hg := g
      obtain ⟨q1, q2, q3, q4⟩ := g
      have e : wrap64 (a + b) = a + b := by unfold wrap64; omega
      rw [if_pos hg, if_pos hg]
      simp only [impl_WipeRegion.j0, impl_WipeRegion.j1]
      rw [if_pos trivial, e]
      by_cases d : a + b > (l.length : Int)
      · rw [if_pos d, decide_eq_true d, if_pos rfl, if_neg (by decide)]
      · rw [if_neg d, decide_eq_false d, if_neg (by decide), if_pos q3, if_pos (show b.toNat ≤ 35184372088832 by omega), implLZ _ l hl h a b hg d (by omega), Option.bind_some, if_pos trivial]
    · rw [if_neg g, if_neg g]
      simp only [impl_WipeRegion.j0, impl_WipeRegion.j1]
      rw [if_neg (by decide), if_neg (by decide), if_neg (by decide)]
  · rw [if_neg h, if_neg h]
    simp only [impl_WipeRegion.j0, impl_WipeRegion.j1]
    rw [if_neg h, if_neg (by decide), if_neg h]
theorem l3Region_some {s : List Int} (hs : Src s) (p : Int) (h0 : 0 ≤ p) (h1 : p ≤ 100000) : ∃ a b q, spec_l3Region.f s p = some (a, b, q) ∧ 0 ≤ q ∧ q ≤ p + 4 := by
  obtain ⟨a, e1, _⟩ := l1Next_some hs p 60 h0 (by omega)
  obtain ⟨b, e2, _⟩ := l1Next_some hs (p + 1) 20 (by omega) (by omega)
  obtain ⟨c, e3, _⟩ := l1Next_some hs (p + 1 + 1) 12 (by omega) (by omega)
  obtain ⟨u, e4, _⟩ := l1Pick_some hs (p + 1 + 1 + 1) (by omega) (by omega) [-1, 192, 4611686018427387904] (by simp)
  unfold spec_l3Region.f
  rw [e1, Option.bind_some]
  dsimp only
  rw [e2, Option.bind_some]
  dsimp only
  rw [e3, Option.bind_some]
  dsimp only
  by_cases c0 : c = 0
  · rw [if_pos c0, e4, Option.bind_some]
    exact ⟨_, _, _, rfl, by show 0 ≤ p + 1 + 1 + 1 + 1; omega, by show p + 1 + 1 + 1 + 1 ≤ p + 4; omega⟩
  · rw [if_neg c0]
    by_cases c1 : c = 1
    · rw [if_pos c1, e4, Option.bind_some]
      exact ⟨_, _, _, rfl, by show 0 ≤ p + 1 + 1 + 1 + 1; omega, by show p + 1 + 1 + 1 + 1 ≤ p + 4; omega⟩
    · rw [if_neg c1]
      exact ⟨_, _, _, rfl, by omega, by omega⟩
theorem drawMeet_some {s : List Int} (hs : Src s) : ∃ a b c d, spec_DrawRegionsMeet.f s = some (a, b, c, d) := by
  obtain ⟨a, b, p, e1, p0, p1⟩ := l3Region_some hs 0 (by omega) (by omega)
  obtain ⟨c, d, q, e2, _, _⟩ := l3Region_some hs p p0 (by omega)
  refine ⟨a, b, c, d, ?_⟩
  unfold spec_DrawRegionsMeet.f spec_l1Source.f
  rw [Option.bind_some]
  dsimp only
  rw [e1, Option.bind_some]
  dsimp only
  rw [e2, Option.bind_some]
theorem drawWipe_some {s : List Int} (hs : Src s) (k : Nat) (hk : 250 < k) : ∃ m a b, spec_DrawWipeRegion.f k s = some (m, a, b) ∧ m.length ≤ 200 := by
  obtain ⟨m, p, e1, hl, p0, p1⟩ := l3Memory_some hs k hk 0 (by omega) (by omega)
  obtain ⟨a, b, q, e2, _, _⟩ := l3Region_some hs p p0 (by omega)
  refine ⟨m, a, b, ?_, hl⟩
  unfold spec_DrawWipeRegion.f spec_l1Source.f
  rw [Option.bind_some]
  dsimp only
  rw [e1, Option.bind_some]
  dsimp only
  rw [e2, Option.bind_some]
theorem wz_at (n : Nat) : ∀ (l : List Int) (a i : Nat), a + n ≤ l.length → i < l.length → (wz l a n)[i]? = if a ≤ i ∧ i < a + n then some 0 else l[i]? := by
  induction n with
  | zero => intro l a i h1 h2; unfold wz; rw [if_neg (by omega)]
  | succ n ih =>
    intro l a i h1 h2
    unfold wz
    rw [ih (l.set a 0) (a + 1) i (by rw [List.length_set]; omega) (by rw [List.length_set]; exact h2), List.getElem?_set]
    by_cases c : a + 1 ≤ i ∧ i < a + 1 + n
    · rw [if_pos c, if_pos (by omega)]
    · rw [if_neg c]
      by_cases e : a = i
      · rw [if_pos e, if_pos (by omega), if_pos (by omega)]
      · rw [if_neg e, if_neg (by omega)]
theorem wz_rd (l : List Int) (a n i : Nat) (h1 : a + n ≤ l.length) (h2 : i < l.length) : rd (wz l a n) (i : Int) = if a ≤ i ∧ i < a + n then 0 else rd l (i : Int) := by
  unfold rd
  rw [Int.toNat_natCast, List.getD_eq_getElem?_getD, List.getD_eq_getElem?_getD, wz_at n l a i h1 h2]
  by_cases c : a ≤ i ∧ i < a + n
  · rw [if_pos c, if_pos c]; rfl
  · rw [if_neg c, if_neg c]
def meetD (a b c d : Int) : Bool := decide (0 < b ∧ 0 < d ∧ a < c + d ∧ c < a + b)
def rest (f : Int → Bool) : Nat → Int → List Int
  | 0, _ => []
  | d + 1, i => if f i = true then i :: rest f d (i + 1) else rest f d (i + 1)
theorem rest_nil (f : Int → Bool) (d : Nat) : ∀ i, (∀ j, i ≤ j → f j = false) → rest f d i = [] := by
  induction d with
  | zero => intro i _; rfl
  | succ d ih => intro i h; unfold rest; rw [h i (by omega), if_neg (by decide)]; exact ih (i + 1) (fun j hj => h j (by omega))
theorem rest_mem (f : Int → Bool) (d : Nat) : ∀ i j : Int, i ≤ j → j < i + d → f j = true → rest f d i ≠ [] := by
  induction d with
  | zero => intro i j h1 h2 _; omega
  | succ d ih =>
    intro i j h1 h2 hf
    unfold rest
    by_cases c : f i = true
    · rw [if_pos c]; simp
    · rw [if_neg c]
      have : i ≠ j := fun e => c (e ▸ hf)
      exact ih (i + 1) j (by omega) (by omega) hf
theorem pagesOf_from (a b : Int) (h : okR a b) (d : Nat) : ∀ (k : Nat) (xs : List Int) (i : Int), 0 ≤ i → 24 = i + d → xs.length + d ≤ 24 → d < k → impl_PagesOf.l0 k xs i a b = some (0, xs ++ rest (fun p => meetD a b (p * 8) 8) d i) := by
  induction d with
  | zero =>
    intro k xs i h0 hd hx hk
    obtain ⟨k, rfl⟩ : ∃ m, k = m + 1 := ⟨k - 1, by omega⟩
    simp only [impl_PagesOf.l0]
    rw [if_neg (by omega)]
    simp [rest]
  | succ d ih =>
    intro k xs i h0 hd hx hk
    obtain ⟨k, rfl⟩ : ∃ m, k = m + 1 := ⟨k - 1, by omega⟩
    have e1 : wrap64 (i * 8) = i * 8 := by unfold wrap64; omega
    have e2 : wrap64 (i + 1) = i + 1 := by unfold wrap64; omega
    have hlen : xs.length < 17592186044416 := by omega
    simp only [impl_PagesOf.l0]
    rw [if_pos (by omega), e1, e2, implRM a b (i * 8) 8 h ⟨by omega, by omega, by omega, by omega⟩, Option.bind_some]
    show (if meetD a b (i * 8) 8 = true then _ else _) = _
    by_cases c : meetD a b (i * 8) 8 = true
    · have := ih k (xs ++ [i]) (i + 1) (by omega) (by omega) (by rw [List.length_append]; show xs.length + 1 + d ≤ 24; omega) (by omega)
      rw [if_pos c, if_pos hlen, this, rest, if_pos c, List.append_assoc]
      rfl
    · have := ih k xs (i + 1) (by omega) (by omega) (by omega) (by omega)
      rw [if_neg c, this, rest, if_neg c]
theorem meetB_is (a b c d : Int) (h1 : okR a b) (h2 : okR c d) : meetB a b c d = meetD a b c d := by
  unfold meetB
  rw [implRM a b c d h1 h2]
  rfl
theorem meetD_comm (a b c d : Int) : meetD c d a b = meetD a b c d :=
  decide_eq_decide.mpr ⟨fun h => ⟨h.2.1, h.1, h.2.2.2, h.2.2.1⟩, fun h => ⟨h.2.1, h.1, h.2.2.2, h.2.2.1⟩⟩
theorem apart_two (a b c d : Int) (h1 : okR a b) (h2 : okR c d) : impl_RegionsApart.f [⟨a, b⟩, ⟨c, d⟩] = some (!meetD a b c d) := by
  have e0 : rd_T47 ([⟨a, b⟩, ⟨c, d⟩] : List S47) ((0 : Nat) : Int) = ⟨a, b⟩ := rfl
  have e1 : rd_T47 ([⟨a, b⟩, ⟨c, d⟩] : List S47) ((1 : Nat) : Int) = ⟨c, d⟩ := rfl
  unfold impl_RegionsApart.f
  refine congrArg some ?_
  show apD _ 2 0 = _
  rw [apD, e0, faultI_is, if_pos h1, if_pos rfl, if_neg (by rw [List.take_zero]; unfold rIdx; decide)]
  show apD _ 1 1 = _
  rw [apD, e1, faultI_is, if_pos h2, if_pos rfl]
  show (if 0 ≤ rIdx c d [⟨a, b⟩] 0 then false else apD _ 0 2) = _
  unfold rIdx
  dsimp only
  rw [meetB_is a b c d h1 h2]
  cases meetD a b c d with
  | true => rw [if_pos rfl]; rfl
  | false => rfl
theorem pagesOf_is (a b : Int) (h : okR a b) (k : Nat) (hk : 30 < k) : ∃ l, impl_PagesOf.f k a b = some (0, l) ∧ (((l.length : Int) == 0) == (b == 0)) = true := by
  refine ⟨rest (fun p => meetD a b (p * 8) 8) 24 0, ?_, ?_⟩
  · unfold impl_PagesOf.f
    rw [implRF, if_pos h, Option.bind_some, if_pos rfl, pagesOf_from a b h 24 k [] 0 (by decide) (by decide) (by decide) (by omega)]
    rfl
  · obtain ⟨q1, q2, q3, q4⟩ := h
    by_cases c : b = 0
    · rw [rest_nil (fun p => meetD a b (p * 8) 8) 24 0 (fun j _ => decide_eq_false (by omega)), c]; rfl
    · have hn := rest_mem (fun p => meetD a b (p * 8) 8) 24 0 (a / 8) (by omega) (by omega) (decide_eq_true (by omega))
      have hl : (((rest (fun p => meetD a b (p * 8) 8) 24 0).length : Int) == 0) = false := by
        rw [beq_eq_false_iff_ne]
        intro e
        exact hn (List.length_eq_zero_iff.mp (by omega))
      have hb : (b == 0) = false := beq_eq_false_iff_ne.mpr c
      rw [hl, hb]; rfl
theorem implRM_bad (a b c d : Int) (h : ¬ (okR a b ∧ okR c d)) : impl_RegionsMeet.f a b c d = some false := by
  unfold impl_RegionsMeet.f
  rw [implRF, Option.bind_some]
  by_cases h1 : okR a b
  · rw [if_pos h1, if_pos rfl, implRF, if_neg (fun h2 => h ⟨h1, h2⟩), Option.bind_some, if_neg (by decide)]
  · rw [if_neg h1, if_neg (by decide)]
def seenC (a0 b0 b1 j : Int) : Bool := decide (a0 < j ∧ 0 < b1 ∧ a0 < b0 + b1 ∧ b0 < j)
theorem l1_is (a0 a1 b0 b1 : Int) (h1 : okR a0 a1) (h2 : okR b0 b1) (d : Nat) : ∀ (k : Nat) (j : Int), a0 ≤ j → a0 + a1 = j + d → d + 40 < k → laws_FnRegions.l1 k (seenC a0 b0 b1 j) j a0 a1 b0 b1 = some true := by
  have g1 := h1
  have g2 := h2
  obtain ⟨p1, p2, p3, p4⟩ := h1
  obtain ⟨q1, q2, q3, q4⟩ := h2
  have wa : wrap64 (a0 + a1) = a0 + a1 := by unfold wrap64; omega
  have wb : wrap64 (b0 + b1) = b0 + b1 := by unfold wrap64; omega
  induction d with
  | zero =>
    intro k j h0 hd hk
    obtain ⟨k, rfl⟩ : ∃ m, k = m + 1 := ⟨k - 1, by omega⟩
    obtain ⟨l, e1, e2⟩ := pagesOf_is a0 a1 g1 k (by omega)
    have e3 : seenC a0 b0 b1 j = meetD a0 a1 b0 b1 := by unfold seenC meetD; exact decide_eq_decide.mpr (by omega)
    have e4 : impl_RegionsMeet.f a0 a1 b0 b1 = some (meetD a0 a1 b0 b1) := implRM a0 a1 b0 b1 g1 g2
    have e5 : impl_RegionsMeet.f b0 b1 a0 a1 = some (meetD a0 a1 b0 b1) := by rw [← meetD_comm]; exact implRM b0 b1 a0 a1 g2 g1
    simp only [laws_FnRegions.l1]
    rw [wa, if_neg (by omega), e1, Option.bind_some, e4, Option.bind_some, e3, beq_self_eq_true, if_pos rfl, e5, Option.bind_some, beq_self_eq_true, if_pos rfl, apart_two a0 a1 b0 b1 g1 g2, Option.bind_some, beq_self_eq_true, if_pos rfl]
    dsimp only
    rw [if_pos rfl, e2]
  | succ d ih =>
    intro k j h0 hd hk
    obtain ⟨k, rfl⟩ : ∃ m, k = m + 1 := ⟨k - 1, by omega⟩
    have wj : wrap64 (j + 1) = j + 1 := by unfold wrap64; omega
    have := ih k (j + 1) (by omega) (by omega) (by omega)
    simp only [laws_FnRegions.l1]
    rw [wa, wb, if_pos (by omega), wj]
    by_cases c : seenC a0 b0 b1 j = true
    · have cc := of_decide_eq_true c
      rw [show seenC a0 b0 b1 (j + 1) = true from decide_eq_true (by omega)] at this
      rw [if_pos c]
      exact this
    · have cc : ¬ (a0 < j ∧ 0 < b1 ∧ a0 < b0 + b1 ∧ b0 < j) := fun h => c (decide_eq_true h)
      rw [if_neg c]
      by_cases e : j ≥ b0
      · rw [show seenC a0 b0 b1 (j + 1) = decide (j < b0 + b1) from decide_eq_decide.mpr (by omega)] at this
        rw [if_pos e]
        exact this
      · rw [show seenC a0 b0 b1 (j + 1) = false from decide_eq_false (by omega)] at this
        rw [if_neg e]
        exact this
def tl (k : Nat) (a0 a1 b0 b1 : Int) : Option Bool := (spec_RegionFault.f a0 a1).bind fun t287 => (if t287 = 0 then ((spec_RegionFault.f b0 b1).bind fun t288 => (laws_FnRegions.j2 k (t288 != 0) a0 a1 b0 b1)) else (laws_FnRegions.j2 k true a0 a1 b0 b1))
theorem tl_is (a0 a1 b0 b1 : Int) (k : Nat) (hk : 250 < k) : tl k a0 a1 b0 b1 = some true := by
  obtain ⟨k, rfl⟩ : ∃ m, k = m + 1 := ⟨k - 1, by omega⟩
  unfold tl
  rw [specRF, Option.bind_some]
  by_cases h1 : okR a0 a1
  · rw [if_pos h1, if_pos rfl, specRF, Option.bind_some]
    by_cases h2 : okR b0 b1
    · have := l1_is a0 a1 b0 b1 h1 h2 a1.toNat k a0 (by omega) (by have := h1.2.2.1; omega) (by have := h1.2.2.2; have := h1.1; omega)
      rw [show seenC a0 b0 b1 a0 = false from decide_eq_false (by omega)] at this
      rw [if_pos h2]
      simp only [laws_FnRegions.j2]
      rw [if_neg (by decide)]
      exact this
    · rw [if_neg h2]
      simp only [laws_FnRegions.j2]
      rw [if_pos (by decide), implRM_bad _ _ _ _ (fun h => h2 h.2)]
      rfl
  · rw [if_neg h1, if_neg (by decide)]
    simp only [laws_FnRegions.j2]
    rw [if_pos trivial, implRM_bad _ _ _ _ (fun h => h1 h.1)]
    rfl
theorem mem_from (m : List Int) (p q : Nat) (a0 a1 b0 b1 : Int) (hle : p + q ≤ m.length) (hl : m.length ≤ 200) (d : Nat) : ∀ (k i : Nat), m.length = i + d → 2 * d + 260 < k → laws_FnRegions.l0 k m (i : Int) a0 a1 b0 b1 (p : Int) (q : Int) 0 (wz m p q) = some true := by
  have hw := wz_len q m p
  have wr : wrap64 ((p : Int) + (q : Int)) = ((p + q : Nat) : Int) := by unfold wrap64; omega
  induction d with
  | zero =>
    intro k i hd hk
    obtain ⟨k, rfl⟩ : ∃ m, k = m + 1 + 1 := ⟨k - 2, by omega⟩
    simp only [laws_FnRegions.l0]
    rw [if_pos trivial, decide_eq_false (by omega)]
    simp only [laws_FnRegions.j1]
    rw [if_neg (by decide)]
    exact tl_is a0 a1 b0 b1 k (by omega)
  | succ d ih =>
    intro k i hd hk
    obtain ⟨k, rfl⟩ : ∃ m, k = m + 1 + 1 := ⟨k - 2, by omega⟩
    have hi : i < m.length := by omega
    have next := ih k (i + 1) (by omega) (by omega)
    have ws := wsuccI hi (by omega)
    have hv := wz_rd m p q i hle hi
    have p0 : (0 : Int) ≤ (i : Int) := by omega
    have p1 : (i : Int) < ((wz m p q).length : Int) := by omega
    have p2 : (i : Int) < (m.length : Int) := by omega
    simp only [laws_FnRegions.l0]
    rw [if_pos trivial, decide_eq_true p2]
    simp only [laws_FnRegions.j1]
    rw [if_pos trivial, wr, ws]
    by_cases c1 : (i : Int) ≥ (p : Int)
    · rw [if_pos c1]
      by_cases c2 : (i : Int) < ((p + q : Nat) : Int)
      · rw [if_pos (show p ≤ i ∧ i < p + q by omega)] at hv
        rw [if_pos c2, if_pos p0, if_pos p1, hv, if_pos rfl, if_pos c2]
        exact next
      · rw [if_neg (show ¬ (p ≤ i ∧ i < p + q) by omega)] at hv
        rw [if_neg c2, if_neg c2, if_pos p0, if_pos p1, if_pos p2, hv, if_pos rfl]
        exact next
    · rw [if_neg (show ¬ (p ≤ i ∧ i < p + q) by omega)] at hv
      rw [if_neg c1, if_pos p0, if_pos p1, if_pos p2, hv, if_pos rfl]
      exact next
theorem FnRegions : laws_FnRegions.Pure := by
  intro l hm hr hw
  refine ⟨1000, ?_⟩
  unfold laws_FnRegions.f laws_lwBig.f
  rw [Option.bind_some]
  by_cases hb : (l.length : Int) > 1048576
  · rw [if_pos (by simpa using hb)]
  rw [if_neg (by simpa using hb)]
  have hs : Src l := src_of (by omega) hw
  obtain ⟨a0, a1, b0, b1, e1⟩ := drawMeet_some hs
  obtain ⟨m, r0, r1, e2, hl⟩ := drawWipe_some hs 1000 (by omega)
  rw [e1, Option.bind_some]
  dsimp only
  rw [e2, Option.bind_some]
  dsimp only
  rw [implWP 1000 m (by omega) r0 r1 (by omega), Option.bind_some, specWP 999 m (by omega) r0 r1 (by omega), Option.bind_some, if_pos rfl]
  have other : ∀ c (l2 : List Int), c ≠ 0 → laws_FnRegions.l0 1000 m 0 a0 a1 b0 b1 r0 r1 c l2 = some true := by
    intro c l2 hc
    simp only [laws_FnRegions.l0]
    rw [if_neg hc]
    simp only [laws_FnRegions.j1]
    rw [if_neg (by decide)]
    exact tl_is a0 a1 b0 b1 998 (by omega)
  unfold wpr
  by_cases g1 : mf m = 0
  · rw [if_pos g1]
    by_cases g2 : okR r0 r1
    · rw [if_pos g2]
      by_cases g3 : r0 + r1 > (m.length : Int)
      · rw [if_pos g3]; exact other _ _ (by decide)
      · rw [if_neg g3]
        obtain ⟨q1, q2, q3, q4⟩ := g2
        obtain ⟨p, rfl⟩ := Int.eq_ofNat_of_zero_le q1
        obtain ⟨q, rfl⟩ := Int.eq_ofNat_of_zero_le q3
        exact mem_from m p q a0 a1 b0 b1 (by omega) hl m.length 1000 0 (by omega) (by omega)
    · rw [if_neg g2]; exact other _ _ (by decide)
  · rw [if_neg g1]; exact other _ _ g1

end Go.Proofs.Ytddnkakkejeacaa.Pure
