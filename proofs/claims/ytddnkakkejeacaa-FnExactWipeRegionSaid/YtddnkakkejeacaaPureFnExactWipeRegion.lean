/- WipeRegion of the program and of the reference tell the same, what it tells is new, and the memory stays, for every list and region. No condition. -/
import Derived.Test.YtddnkakkejeacaaPFnExactWipeRegionx4
import Derived.Test.YtddnkakkejeacaaLem
namespace Go.Proofs.Ytddnkakkejeacaa.Pure
open Go.RowKit Go.Proofs.Ytddnkakkejeacaa.PFnExactWipeRegion Go.Proofs.YtddnkakkejeacaaW.PrintWords Go.Proofs.YtddnkakkejeacaaW.PrintLast Go.Proofs.YtddnkakkejeacaaW.PrintMore
open Go.Proofs.Ytddnkakkejeacaa.Lem
set_option linter.unusedVariables false
set_option linter.unusedSimpArgs false
theorem l1In_eq (a x y : Int) : spec_l1In.f a x y = some (decide (x ≤ a ∧ a ≤ y)) := by
  unfold spec_l1In.f
  split <;> rename_i h <;> simp <;> omega
theorem within_eq (a x y : Int) : impl_within.f a x y = some (decide (x ≤ a ∧ a ≤ y)) := by
  unfold impl_within.f
  split <;> rename_i h <;> simp <;> omega
theorem wrap_is (a : Int) : impl_WrapWord.f a = some (a % 4294967296) := by unfold impl_WrapWord.f; rw [and_word]
theorem wsuccI {i n : Nat} (h : i < n) (hn : n ≤ 1000000000) : wrap64 ((i : Int) + 1) = ((i + 1 : Nat) : Int) := by unfold wrap64; omega
theorem rdI_at (l : List Int) (i : Nat) (h : i < l.length) : rd l (i : Int) = l[i] := by
  unfold rd
  rw [Int.toNat_natCast, List.getD_eq_getElem?_getD, List.getElem?_eq_getElem h]
  rfl
theorem toI_from (l : List Int) (hl : l.length ≤ 1000000000) (d : Nat) : ∀ (k : Nat) (xs : List Int) (i : Nat), xs.length = l.length → l.length = i + d → (∀ j, j < i → xs[j]? = l[j]?) → d < k →
    laws_toInt64S.l0 k l xs (i : Int) = some l := by
  induction d with
  | zero =>
    intro k xs i hx hd hp hk
    obtain ⟨k, rfl⟩ : ∃ m, k = m + 1 := ⟨k - 1, by omega⟩
    simp only [laws_toInt64S.l0]
    rw [if_neg (by omega)]
    refine congrArg some (List.ext_getElem? fun j => ?_)
    by_cases hj : j < i
    · exact hp j hj
    · rw [List.getElem?_eq_none (by omega), List.getElem?_eq_none (by omega)]
  | succ d ih =>
    intro k xs i hx hd hp hk
    obtain ⟨k, rfl⟩ : ∃ m, k = m + 1 := ⟨k - 1, by omega⟩
    simp only [laws_toInt64S.l0]
    have hi : i < l.length := by omega
    rw [if_pos (by omega), if_pos (by omega), if_pos (by omega), rdI_at l i hi, wsuccI hi hl, Int.toNat_natCast]
    refine ih k _ (i + 1) (by simpa using hx) (by omega) (fun j hj => ?_) (by omega)
    rw [List.getElem?_set]
    by_cases e : i = j
    · subst e
      rw [if_pos rfl, if_pos (by omega), List.getElem?_eq_getElem hi]
    · rw [if_neg e]
      exact hp j (by omega)
theorem toI_is (k : Nat) (l : List Int) (hl : l.length ≤ 1048576) (hk : l.length < k) : laws_toInt64S.f k l = some l := by
  unfold laws_toInt64S.f
  have e : ((l.length : Int)).toNat = l.length := by omega
  rw [if_pos (by omega), e, if_pos (by omega)]
  exact toI_from l (by omega) l.length k _ 0 (by simp) (by omega) (fun j hj => by omega) hk
theorem w_succ {i : Int} {n : Nat} (h0 : 0 ≤ i) (h : i < (n : Int)) (hn : n ≤ 1000000000) : wrap64 (i + 1) = i + 1 := by unfold wrap64; omega
theorem eq_from (l : List Int) (hl : l.length ≤ 1000000000) (d : Nat) : ∀ (k : Nat) (i : Int), 0 ≤ i → (l.length : Int) - i = d → d < k → laws_eqInt64S.l0 k l l i = some true := by
  induction d with
  | zero =>
    intro k i h0 hd hk
    obtain ⟨k, rfl⟩ : ∃ m, k = m + 1 := ⟨k - 1, by omega⟩
    simp only [laws_eqInt64S.l0]
    rw [if_neg (by omega)]
  | succ d ih =>
    intro k i h0 hd hk
    obtain ⟨k, rfl⟩ : ∃ m, k = m + 1 := ⟨k - 1, by omega⟩
    simp only [laws_eqInt64S.l0]
    rw [if_pos (by omega), if_pos h0, if_pos (by omega), if_pos trivial, w_succ (n := l.length) h0 (by omega) hl]
    exact ih k (i + 1) (by omega) (by omega) (by omega)
theorem eq_self (k : Nat) (l : List Int) (hl : l.length ≤ 1000000000) (hk : l.length < k) : laws_eqInt64S.f k l l = some true := by
  unfold laws_eqInt64S.f
  rw [if_pos rfl]
  exact eq_from l hl l.length k 0 (by omega) (by omega) hk
def marks (n : Nat) (m : Int) : List Int := (List.range n).map fun (j : Nat) => m + (j : Int)
theorem marks_length (n : Nat) (m : Int) : (marks n m).length = n := by simp [marks]
theorem marks_rd (n : Nat) (m : Int) (i : Int) (h0 : 0 ≤ i) (h : i < (n : Int)) : rd (marks n m) i = m + i := by
  unfold rd marks
  rw [List.getD_eq_getElem?_getD, List.getElem?_map, List.getElem?_range (by omega)]
  simp
  omega
theorem mark_from (m : Int) (hm0 : 0 ≤ m) (hm : m ≤ 1000000000) (d : Nat) : ∀ (k : Nat) (l : List Int) (i : Nat), l.length ≤ 1000000000 → l.length = i + d → (∀ j, j < i → l[j]? = some (m + (j : Int))) → d < k →
    laws_markInt64S.l0 k l (m + (i : Int)) (i : Int) = some (m + (l.length : Int), marks l.length m) := by
  induction d with
  | zero =>
    intro k l i hl hd hx hk
    obtain ⟨k, rfl⟩ : ∃ m, k = m + 1 := ⟨k - 1, by omega⟩
    simp only [laws_markInt64S.l0]
    rw [if_neg (by omega)]
    have e : l = marks l.length m := by
      apply List.ext_getElem?
      intro j
      by_cases hj : j < i
      · rw [hx j hj]
        unfold marks
        rw [List.getElem?_map, List.getElem?_range (by omega)]
        rfl
      · rw [List.getElem?_eq_none (by omega), List.getElem?_eq_none (by rw [marks_length]; omega)]
    rw [← e]
    exact congrArg some (Prod.ext (by show m + (i : Int) = m + (l.length : Int); omega) rfl)
  | succ d ih =>
    intro k l i hl hd hx hk
    obtain ⟨k, rfl⟩ : ∃ m, k = m + 1 := ⟨k - 1, by omega⟩
    simp only [laws_markInt64S.l0]
    have w1 : wrap64 (m + (i : Int) + 1) = m + ((i + 1 : Nat) : Int) := by unfold wrap64; omega
    have w2 : wrap64 ((i : Int) + 1) = ((i + 1 : Nat) : Int) := by unfold wrap64; omega
    rw [if_pos (by omega), if_pos (by omega), w1, w2]
    have hs : ((i : Int)).toNat = i := by omega
    rw [hs]
    have := ih k (l.set i (m + (i : Int))) (i + 1) (by simpa using hl) (by simp; omega) (fun j hj => by
      rw [List.getElem?_set]
      by_cases e : i = j
      · subst e
        rw [if_pos rfl, if_pos (by omega)]
      · rw [if_neg e]
        exact hx j (by omega)) (by omega)
    simpa using this
theorem mark_is (k : Nat) (l : List Int) (m : Int) (hl : l.length ≤ 1000000000) (hk : l.length < k) (hm0 : 0 ≤ m) (hm : m ≤ 1000000000) : laws_markInt64S.f k l m = some (m + l.length, marks l.length m) := by
  unfold laws_markInt64S.f
  have := mark_from m hm0 hm l.length k l 0 hl (by omega) (fun j hj => by omega) hk
  simpa using this
theorem held_from (n : Nat) (m : Int) (hn : n ≤ 1000000000) (hm0 : 0 ≤ m) (hm : m ≤ 1000000000) (d : Nat) : ∀ (k : Nat) (i : Int), 0 ≤ i → (n : Int) - i = d → d < k → laws_heldInt64S.l0 k (marks n m) (m + i) i = some (m + n) := by
  induction d with
  | zero =>
    intro k i h0 hd hk
    obtain ⟨k, rfl⟩ : ∃ m, k = m + 1 := ⟨k - 1, by omega⟩
    simp only [laws_heldInt64S.l0]
    rw [if_neg (by rw [marks_length]; omega)]
    exact congrArg some (by omega)
  | succ d ih =>
    intro k i h0 hd hk
    obtain ⟨k, rfl⟩ : ∃ m, k = m + 1 := ⟨k - 1, by omega⟩
    simp only [laws_heldInt64S.l0]
    have w1 : wrap64 (m + i + 1) = m + (i + 1) := by unfold wrap64; omega
    have w2 : wrap64 (i + 1) = i + 1 := by unfold wrap64; omega
    rw [if_pos (by rw [marks_length]; omega), if_pos h0, if_pos (marks_rd n m i h0 (by omega)), w1, w2]
    exact ih k (i + 1) (by omega) (by omega) (by omega)
theorem held_is (k : Nat) (n : Nat) (m : Int) (hn : n ≤ 1000000000) (hk : n < k) (hm0 : 0 ≤ m) (hm : m ≤ 1000000000) : laws_heldInt64S.f k (marks n m) m = some (m + n) := by
  unfold laws_heldInt64S.f
  have := held_from n m hn hm0 hm n k 0 (by omega) (by omega) hk
  simpa using this
def mf (l : List Int) : Int := if l.length = 0 ∨ 192 < l.length ∨ l.length % 8 ≠ 0 then 1 else if l.all isW = true then 0 else 3
theorem mf_cases (l : List Int) : mf l = 0 ∨ mf l = 1 ∨ mf l = 3 := by
  unfold mf
  by_cases h : l.length = 0 ∨ 192 < l.length ∨ l.length % 8 ≠ 0
  · rw [if_pos h]; exact .inr (.inl rfl)
  · rw [if_neg h]
    by_cases g : l.all isW = true
    · rw [if_pos g]; exact .inl rfl
    · rw [if_neg g]; exact .inr (.inr rfl)
theorem mf_ok {l : List Int} (h : mf l = 0) : (l.length ≠ 0 ∧ l.length ≤ 192 ∧ l.length % 8 = 0) ∧ l.all isW = true := by
  unfold mf at h
  by_cases g : l.length = 0 ∨ 192 < l.length ∨ l.length % 8 ≠ 0
  · rw [if_pos g] at h; exact absurd h (by decide)
  · rw [if_neg g] at h
    by_cases e : l.all isW = true
    · exact ⟨by omega, e⟩
    · rw [if_neg e] at h; exact absurd h (by decide)
theorem implMF (k : Nat) (l : List Int) : impl_MemoryFault.f (k + 1) l = some (mf l) := by
  unfold impl_MemoryFault.f mf
  simp only [impl_MemoryFault.j0, impl_areWords.f, Option.bind_some, if_true]
  by_cases h0 : l.length = 0
  · rw [if_pos (by omega), if_pos (.inl h0)]
  · rw [if_neg (by omega)]
    by_cases h1 : 192 < l.length
    · rw [if_pos (by omega), if_pos (.inr (.inl h1))]
    · rw [if_neg (by omega)]
      by_cases h2 : l.length % 8 = 0
      · have e : ((l.length : Int) % 8 != 0) = false := by rw [bne_eq_false_iff_eq]; omega
        have hA : ¬ (l.length = 0 ∨ 192 < l.length ∨ l.length % 8 ≠ 0) := by omega
        rw [e, if_neg (by decide), if_neg hA]
        by_cases g : l.all isW = true
        · rw [if_pos g, if_pos g]
        · rw [if_neg g, if_neg g]
      · have e : ((l.length : Int) % 8 != 0) = true := by rw [bne_iff_ne]; omega
        rw [e, if_pos rfl, if_pos (.inr (.inr h2))]
theorem specMF_from (l : List Int) (hl : l.length ≤ 192) (d : Nat) : ∀ (k i : Nat), l.length = i + d → d < k → spec_MemoryFault.l0 k l (i : Int) = some (if (l.drop i).all isW = true then 0 else 3) := by
  induction d with
  | zero =>
    intro k i hd hk
    obtain ⟨k, rfl⟩ : ∃ m, k = m + 1 := ⟨k - 1, by omega⟩
    simp only [spec_MemoryFault.l0]
    rw [if_neg (by omega), List.drop_eq_nil_of_le (by omega)]
    rfl
  | succ d ih =>
    intro k i hd hk
    obtain ⟨k, rfl⟩ : ∃ m, k = m + 1 := ⟨k - 1, by omega⟩
    have hi : i < l.length := by omega
    have hi' := ih k (i + 1) (by omega) (by omega)
    simp only [spec_MemoryFault.l0, l1In_eq, Option.bind_some]
    rw [if_pos (by omega), if_pos (by omega), rdI_at l i hi, wsuccI hi (by omega), hi', List.drop_eq_getElem_cons hi, List.all_cons]
    have e : decide (0 ≤ l[i] ∧ l[i] ≤ 4294967295) = isW l[i] := rfl
    rw [e]
    cases isW l[i] with
    | true => rw [if_pos rfl, Bool.true_and]
    | false => rw [if_neg (by decide), Bool.false_and, if_neg (by decide)]
theorem specMF (k : Nat) (l : List Int) (hk : 193 < k) : spec_MemoryFault.f (k + 1) l = some (mf l) := by
  unfold spec_MemoryFault.f mf
  by_cases h2 : l.length % 8 = 0
  · rw [if_pos (by omega)]
    by_cases h0 : l.length = 0
    · rw [if_pos (by omega), if_pos (.inl h0)]
      simp only [spec_MemoryFault.j0]
      rw [if_pos trivial]
    · rw [if_neg (by omega)]
      by_cases h1 : 192 < l.length
      · rw [decide_eq_true (by omega), if_pos (.inr (.inl h1))]
        simp only [spec_MemoryFault.j0]
        rw [if_pos trivial]
      · rw [decide_eq_false (by omega), if_neg (by omega)]
        simp only [spec_MemoryFault.j0]
        rw [if_neg (by decide)]
        have := specMF_from l (by omega) l.length k 0 (by omega) (by omega)
        simpa using this
  · rw [if_neg (by omega), if_pos (.inr (.inr h2))]
    simp only [spec_MemoryFault.j0]
    rw [if_pos trivial]
theorem eqM_self (k : Nat) (c : Int) (l : List Int) (hl : l.length ≤ 1000000000) (hk : l.length < k) : laws_eqMemoryResult.f k c l c l = some true := by
  unfold laws_eqMemoryResult.f
  rw [if_pos rfl, eq_self k l hl hk]
  rfl
theorem markM (k : Nat) (c : Int) (l : List Int) (hl : l.length ≤ 1000000000) (hk : l.length < k) : laws_markMemoryResult.f k c l 1 = some (1 + (l.length : Int), marks l.length 1) := by
  unfold laws_markMemoryResult.f
  rw [mark_is k l 1 hl hk (by omega) (by omega)]
  rfl
theorem heldM (k : Nat) (c : Int) (n : Nat) (hl : n ≤ 1000000000) (hk : n < k) : laws_heldMemoryResult.f k c (marks n 1) 1 = some (1 + (n : Int)) := by
  unfold laws_heldMemoryResult.f
  rw [held_is k n 1 hl hk (by omega) (by omega)]
  simp only [Option.bind_some]
  rw [if_neg (by omega)]
def okR (a b : Int) : Prop := 0 ≤ a ∧ a ≤ 192 ∧ 0 ≤ b ∧ b ≤ 192 - a
instance (a b : Int) : Decidable (okR a b) := by unfold okR; infer_instance
theorem implRF (a b : Int) : impl_RegionFault.f a b = some (if okR a b then 0 else 3) := by
  unfold impl_RegionFault.f
  rw [within_eq, Option.bind_some]
  by_cases c : 0 ≤ a ∧ a ≤ 192
  · have e : wrap64 (192 - a) = 192 - a := by unfold wrap64; omega
    rw [decide_eq_true c, if_pos rfl, e, within_eq, Option.bind_some]
    by_cases d : 0 ≤ b ∧ b ≤ 192 - a
    · rw [decide_eq_true d, if_pos rfl, if_pos (show okR a b from ⟨c.1, c.2, d.1, d.2⟩)]
    · rw [decide_eq_false d, if_neg (by decide), if_neg (fun h : okR a b => d ⟨h.2.2.1, h.2.2.2⟩)]
  · rw [decide_eq_false c, if_neg (by decide), if_neg (fun h : okR a b => c ⟨h.1, h.2.1⟩)]
theorem specRF (a b : Int) : spec_RegionFault.f a b = some (if okR a b then 0 else 3) := by
  unfold spec_RegionFault.f
  rw [l1In_eq, Option.bind_some]
  by_cases c : 0 ≤ a ∧ a ≤ 192
  · rw [decide_eq_true c, if_pos rfl, l1In_eq, Option.bind_some]
    by_cases d : 0 ≤ b ∧ b ≤ 192
    · have e : wrap64 (a + b) = a + b := by unfold wrap64; omega
      rw [decide_eq_true d, if_pos rfl, e]
      by_cases g : a + b > 192
      · rw [if_pos g, if_neg (fun h : okR a b => by have := h.2.2.2; omega)]
      · rw [if_neg g, if_pos (show okR a b from ⟨c.1, c.2, d.1, by omega⟩)]
    · rw [decide_eq_false d, if_neg (by decide), if_neg (fun h : okR a b => d ⟨h.2.2.1, by have := h.2.2.2; have := h.1; omega⟩)]
  · rw [decide_eq_false c, if_neg (by decide), if_neg (fun h : okR a b => c ⟨h.1, h.2.1⟩)]
def wz : List Int → Nat → Nat → List Int
  | l, _, 0 => l
  | l, a, n + 1 => wz (l.set a 0) (a + 1) n
theorem wz_len (n : Nat) : ∀ (l : List Int) (a : Nat), (wz l a n).length = l.length := by
  induction n with
  | zero => intro l a; rfl
  | succ n ih => intro l a; unfold wz; rw [ih, List.length_set]
def wpr (l : List Int) (a b : Int) : Int × List Int := if mf l = 0 then (if okR a b then (if a + b > (l.length : Int) then (8, []) else (0, wz l a.toNat b.toNat)) else (3, [])) else (mf l, [])
theorem wpr_len (l : List Int) (a b : Int) : (wpr l a b).2.length ≤ l.length := by
  unfold wpr
  by_cases h : mf l = 0
  · rw [if_pos h]
    by_cases g : okR a b
    · rw [if_pos g]
      by_cases e : a + b > (l.length : Int)
      · rw [if_pos e]; simp
      · rw [if_neg e]; exact Nat.le_of_eq (wz_len _ _ _)
    · rw [if_neg g]; simp
  · rw [if_neg h]; simp
theorem wclone_is (l : List Int) (hl : l.length ≤ 1048576) : slices_Clone_int64_int64.f l = some l := by
  unfold slices_Clone_int64_int64.f
  rw [Option.bind_some, if_pos (by simp; omega), List.nil_append]
theorem wcopy_is (l : List Int) (hl : l.length ≤ 1048576) : spec_l3Copy.f l = some l := by
  unfold spec_l3Copy.f
  rw [Option.bind_some, if_pos (by simp; omega), List.nil_append]
theorem specWZ (a b : Int) (n : Nat) : ∀ (k : Nat) (xs : List Int) (i : Nat), (i : Int) + n = a + b → a + b ≤ (xs.length : Int) → xs.length ≤ 192 → n < k → spec_WipeRegion.l0 k xs (i : Int) a b = some (0, wz xs i n) := by
  induction n with
  | zero =>
    intro k xs i h1 h2 h3 hk
    obtain ⟨k, rfl⟩ : ∃ m, k = m + 1 := ⟨k - 1, by omega⟩
    have e : wrap64 (a + b) = a + b := by unfold wrap64; omega
    simp only [spec_WipeRegion.l0]
    rw [e, if_neg (by omega)]
    rfl
  | succ n ih =>
    intro k xs i h1 h2 h3 hk
    obtain ⟨k, rfl⟩ : ∃ m, k = m + 1 := ⟨k - 1, by omega⟩
    have e : wrap64 (a + b) = a + b := by unfold wrap64; omega
    have e2 : wrap64 ((i : Int) + 1) = ((i + 1 : Nat) : Int) := by unfold wrap64; omega
    simp only [spec_WipeRegion.l0]
    rw [e, if_pos (by omega), if_pos (by omega), if_pos (by omega), e2, Int.toNat_natCast]
    exact ih k (xs.set i 0) (i + 1) (by omega) (by rw [List.length_set]; exact h2) (by rw [List.length_set]; exact h3) (by omega)
theorem implWZ (a b : Nat) (n : Nat) : ∀ (k : Nat) (xs : List Int) (j : Nat), j + n = b → a + b ≤ xs.length → xs.length ≤ 192 → n < k → impl_LoadWords.l0 k (a : Int) xs (List.replicate b 0) ((List.replicate b (0 : Int)).length : Int) (j : Int) = some (0, wz xs (a + j) n) := by
  induction n with
  | zero =>
    intro k xs j h1 h2 h3 hk
    obtain ⟨k, rfl⟩ : ∃ m, k = m + 1 := ⟨k - 1, by omega⟩
    simp only [impl_LoadWords.l0, List.length_replicate]
    rw [if_neg (by omega)]
    rfl
  | succ n ih =>
    intro k xs j h1 h2 h3 hk
    obtain ⟨k, rfl⟩ : ∃ m, k = m + 1 := ⟨k - 1, by omega⟩
    have hr : rd (List.replicate b (0 : Int)) (j : Int) = 0 := by unfold rd; rw [Int.toNat_natCast, List.getD_eq_getElem?_getD, List.getElem?_replicate]; split <;> rfl
    have e1 : wrap64 ((a : Int) + (j : Int)) = ((a + j : Nat) : Int) := by unfold wrap64; omega
    have e2 : wrap64 ((j : Int) + 1) = ((j + 1 : Nat) : Int) := by unfold wrap64; omega
    have ih := ih k (xs.set (a + j) 0) (j + 1) (by omega) (by rw [List.length_set]; exact h2) (by rw [List.length_set]; exact h3) (by omega)
    rw [List.length_replicate] at ih
    have p0 : (j : Int) < (b : Int) := by omega
    have p1 : (0 : Int) ≤ (j : Int) := by omega
    have p2 : (0 : Int) ≤ ((a + j : Nat) : Int) := by omega
    have p3 : ((a + j : Nat) : Int) < (xs.length : Int) := by omega
    simp only [impl_LoadWords.l0, wrap_is, Option.bind_some, hr, e1, e2, List.length_replicate]
    rw [if_pos p0, if_pos p1, if_pos p0, if_pos p2, if_pos p3, Int.toNat_natCast]
    exact ih
theorem implLZ (k : Nat) (l : List Int) (hl : l.length ≤ 1048576) (h : mf l = 0) (a b : Int) (hab : okR a b) (hle : ¬ a + b > (l.length : Int)) (hk : 250 < k) : impl_LoadWords.f k l a (List.replicate b.toNat 0) = some (0, wz l a.toNat b.toNat) := by
  obtain ⟨k, rfl⟩ : ∃ m, k = m + 1 + 1 := ⟨k - 2, by omega⟩
  obtain ⟨q1, q2, q3, q4⟩ := hab
  obtain ⟨⟨_, hl2, _⟩, _⟩ := mf_ok h
  have hz := implWZ a.toNat b.toNat b.toNat (k + 1 - 0) l 0 (by omega) (by omega) hl2 (by omega)
  have ea : ((a.toNat : Nat) : Int) = a := by omega
  rw [ea] at hz
  unfold impl_LoadWords.f
  rw [implMF, Option.bind_some, if_pos h, if_neg (by omega)]
  have tail : impl_LoadWords.j0 (k + 1 + 1) l a (List.replicate b.toNat 0) false = some (0, wz l a.toNat b.toNat) := by
    simp only [impl_LoadWords.j0]
    rw [if_neg (by decide), wclone_is l hl, Option.bind_some]
    exact hz
  by_cases g : ((List.replicate b.toNat (0 : Int)).length : Int) > 0
  · have e : decide (a > wrap64 ((l.length : Int) - ((List.replicate b.toNat (0 : Int)).length : Int))) = false := by
      rw [List.length_replicate]
      have : wrap64 ((l.length : Int) - ((b.toNat : Nat) : Int)) = (l.length : Int) - b := by unfold wrap64; omega
      rw [this]
      exact decide_eq_false (by omega)
    rw [if_pos g, e]
    exact tail
  · rw [if_neg g]
    exact tail
theorem specWP (k : Nat) (l : List Int) (hl : l.length ≤ 1048576) (a b : Int) (hk : 250 < k) : spec_WipeRegion.f (k + 1) l a b = some (wpr l a b) := by
  unfold spec_WipeRegion.f wpr
  rw [specMF k l (by omega), Option.bind_some]
  by_cases h : mf l = 0
  · rw [if_pos h, if_pos h, specRF, Option.bind_some]
    by_cases g : okR a b
    · obtain ⟨q1, q2, q3, q4⟩ := g
      have e : wrap64 (a + b) = a + b := by unfold wrap64; omega
      rw [if_pos (show okR a b from ⟨q1, q2, q3, q4⟩), if_pos rfl, if_pos (show okR a b from ⟨q1, q2, q3, q4⟩), e]
      by_cases d : a + b > (l.length : Int)
      · rw [if_pos d, if_pos d]
      · obtain ⟨⟨_, hl2, _⟩, _⟩ := mf_ok h
        have hz := specWZ a b b.toNat (k + 1) l a.toNat (by omega) (by omega) hl2 (by omega)
        have ea : ((a.toNat : Nat) : Int) = a := by omega
        rw [ea] at hz
        rw [if_neg d, if_neg d, wcopy_is l hl, Option.bind_some]
        exact hz
    · rw [if_neg g, if_neg (by decide), if_neg g]
  · rw [if_neg h, if_neg h]
theorem implWP (k : Nat) (l : List Int) (hl : l.length ≤ 1048576) (a b : Int) (hk : 300 < k) : impl_WipeRegion.f k l a b = some (wpr l a b) := by
  obtain ⟨k, rfl⟩ : ∃ m, k = m + 1 + 1 := ⟨k - 2, by omega⟩
  unfold impl_WipeRegion.f wpr
  rw [implMF, Option.bind_some]
  by_cases h : mf l = 0
  · rw [if_pos h, if_pos h, implRF, Option.bind_some]
    by_cases g : okR a b
    · have hg := g
      obtain ⟨q1, q2, q3, q4⟩ := g
      have e : wrap64 (a + b) = a + b := by unfold wrap64; omega
      rw [if_pos hg, if_pos hg]
      simp only [impl_WipeRegion.j0, impl_WipeRegion.j1]
      rw [if_pos trivial, e]
      by_cases d : a + b > (l.length : Int)
      · rw [if_pos d, decide_eq_true d, if_pos rfl, if_neg (by decide)]
      · rw [if_neg d, decide_eq_false d, if_neg (by decide), if_pos q3, if_pos (show b.toNat ≤ 35184372088832 by omega), implLZ _ l hl h a b hg d (by omega), Option.bind_some, if_pos trivial]
    · rw [if_neg g, if_neg g]
      simp only [impl_WipeRegion.j0, impl_WipeRegion.j1]
      rw [if_neg (by decide), if_neg (by decide), if_neg (by decide)]
  · rw [if_neg h, if_neg h]
    simp only [impl_WipeRegion.j0, impl_WipeRegion.j1]
    rw [if_neg h, if_neg (by decide), if_neg h]
theorem last_is (k : Nat) (hk : 400 < k) (l : List Int) (hl : l.length ≤ 1048576) (hlk : l.length < k) (i w : Int) : laws_FnExactWipeRegion.j0 (k + 1) l false i w (wpr l i w).1 (wpr l i w).2 (wpr l i w).1 (wpr l i w).2 = some true := by
  have h2 := wpr_len l i w
  simp only [laws_FnExactWipeRegion.j0]
  rw [if_neg (by decide), markM _ _ _ (by omega) (by omega), Option.bind_some]
  dsimp only
  have h3 : ¬ (1 + ((wpr l i w).2.length : Int)) < 0 := by omega
  rw [heldM _ _ _ (by omega) (by omega), Option.bind_some, if_neg h3, if_pos rfl, toI_is _ l hl (by omega), Option.bind_some]
  unfold laws_toRegion.f
  rw [Option.bind_some]
  dsimp only
  rw [implWP k l hl i w (by omega), Option.bind_some, eqM_self _ _ _ (by omega) (by omega), Option.bind_some, if_pos rfl, Option.bind_some, if_neg h3, if_pos rfl]
theorem FnExactWipeRegion : laws_FnExactWipeRegion.Pure := by
  intro l i w hm _ _ _ _
  refine ⟨l.length + 500, ?_⟩
  unfold laws_FnExactWipeRegion.f
  by_cases hb : (l.length : Int) > 1048576
  · rw [if_pos hb]
  have hl : l.length ≤ 1048576 := by omega
  have h2 := wpr_len l i w
  have h3 : ¬ (1 + (l.length : Int)) < 0 := by omega
  unfold laws_toRegion.f
  rw [if_neg hb, toI_is _ l hl (by omega), Option.bind_some, Option.bind_some]
  dsimp only
  rw [specWP (l.length + 499) l hl i w (by omega), Option.bind_some, Option.bind_some, Option.bind_some]
  dsimp only
  rw [implWP _ l hl i w (by omega), Option.bind_some, eqM_self _ _ _ (by omega) (by omega), Option.bind_some, if_pos rfl, Option.bind_some, eq_self _ l (by omega) (by omega), Option.bind_some, if_pos rfl, mark_is _ l 1 (by omega) (by omega) (by omega) (by omega), Option.bind_some]
  dsimp only
  rw [if_neg h3, Option.bind_some]
  exact last_is (l.length + 499) (by omega) l hl (by omega) i w

end Go.Proofs.Ytddnkakkejeacaa.Pure
