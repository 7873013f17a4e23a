/- NewMemory of the program and of the reference tell the same, and what it tells is new, for every number. No condition. -/
import Derived.Test.YtccaghkjaflnfabPFnExactNewMemoryx1
import Derived.Test.YtccaghkjaflnfabLem
namespace Go.Proofs.Ytccaghkjaflnfab.Pure
open Go.RowKit Go.Proofs.Ytccaghkjaflnfab.PFnExactNewMemory Go.Proofs.YtccaghkjaflnfabW.PrintWords Go.Proofs.YtccaghkjaflnfabW.PrintLast Go.Proofs.YtccaghkjaflnfabW.PrintMore
open Go.Proofs.Ytccaghkjaflnfab.Lem
set_option linter.unusedVariables false
set_option linter.unusedSimpArgs false
theorem within_eq (a x y : Int) : impl_within.f a x y = some (decide (x ≤ a ∧ a ≤ y)) := by
  unfold impl_within.f
  split <;> rename_i h <;> simp <;> omega
theorem l1In_eq (a x y : Int) : spec_l1In.f a x y = some (decide (x ≤ a ∧ a ≤ y)) := by
  unfold spec_l1In.f
  split <;> rename_i h <;> simp <;> omega
theorem w_succ {i : Int} {n : Nat} (h0 : 0 ≤ i) (h : i < (n : Int)) (hn : n ≤ 1000000000) : wrap64 (i + 1) = i + 1 := by unfold wrap64; omega
theorem eq_from (l : List Int) (hl : l.length ≤ 1000000000) (d : Nat) : ∀ (k : Nat) (i : Int), 0 ≤ i → (l.length : Int) - i = d → d < k → laws_eqInt64S.l0 k l l i = some true := by
  induction d with
  | zero =>
    intro k i h0 hd hk
    obtain ⟨k, rfl⟩ : ∃ m, k = m + 1 := ⟨k - 1, by omega⟩
    simp only [laws_eqInt64S.l0]
    rw [if_neg (by omega)]
  | succ d ih =>
    intro k i h0 hd hk
    obtain ⟨k, rfl⟩ : ∃ m, k = m + 1 := ⟨k - 1, by omega⟩
    simp only [laws_eqInt64S.l0]
    rw [if_pos (by omega), if_pos h0, if_pos (by omega), if_pos trivial, w_succ (n := l.length) h0 (by omega) hl]
    exact ih k (i + 1) (by omega) (by omega) (by omega)
theorem eq_self (k : Nat) (l : List Int) (hl : l.length ≤ 1000000000) (hk : l.length < k) : laws_eqInt64S.f k l l = some true := by
  unfold laws_eqInt64S.f
  rw [if_pos rfl]
  exact eq_from l hl l.length k 0 (by omega) (by omega) hk
def marks (n : Nat) (m : Int) : List Int := (List.range n).map fun (j : Nat) => m + (j : Int)
theorem marks_length (n : Nat) (m : Int) : (marks n m).length = n := by simp [marks]
theorem marks_rd (n : Nat) (m : Int) (i : Int) (h0 : 0 ≤ i) (h : i < (n : Int)) : rd (marks n m) i = m + i := by
  unfold rd marks
  rw [List.getD_eq_getElem?_getD, List.getElem?_map, List.getElem?_range (by omega)]
  simp
  omega
theorem mark_from (m : Int) (hm0 : 0 ≤ m) (hm : m ≤ 1000000000) (d : Nat) : ∀ (k : Nat) (l : List Int) (i : Nat), l.length ≤ 1000000000 → l.length = i + d → (∀ j, j < i → l[j]? = some (m + (j : Int))) → d < k →
    laws_markInt64S.l0 k l (m + (i : Int)) (i : Int) = some (m + (l.length : Int), marks l.length m) := by
  induction d with
  | zero =>
    intro k l i hl hd hx hk
    obtain ⟨k, rfl⟩ : ∃ m, k = m + 1 := ⟨k - 1, by omega⟩
    simp only [laws_markInt64S.l0]
    rw [if_neg (by omega)]
    have e : l = marks l.length m := by
      apply List.ext_getElem?
      intro j
      by_cases hj : j < i
      · rw [hx j hj]
        unfold marks
        rw [List.getElem?_map, List.getElem?_range (by omega)]
        rfl
      · rw [List.getElem?_eq_none (by omega), List.getElem?_eq_none (by rw [marks_length]; omega)]
    rw [← e]
    exact congrArg some (Prod.ext (by show m + (i : Int) = m + (l.length : Int); omega) rfl)
  | succ d ih =>
    intro k l i hl hd hx hk
    obtain ⟨k, rfl⟩ : ∃ m, k = m + 1 := ⟨k - 1, by omega⟩
    simp only [laws_markInt64S.l0]
    have w1 : wrap64 (m + (i : Int) + 1) = m + ((i + 1 : Nat) : Int) := by unfold wrap64; omega
    have w2 : wrap64 ((i : Int) + 1) = ((i + 1 : Nat) : Int) := by unfold wrap64; omega
    rw [if_pos (by omega), if_pos (by omega), w1, w2]
    have hs : ((i : Int)).toNat = i := by omega
    rw [hs]
    have := ih k (l.set i (m + (i : Int))) (i + 1) (by simpa using hl) (by simp; omega) (fun j hj => by
      rw [List.getElem?_set]
      by_cases e : i = j
      · subst e
        rw [if_pos rfl, if_pos (by omega)]
      · rw [if_neg e]
        exact hx j (by omega)) (by omega)
    simpa using this
theorem mark_is (k : Nat) (l : List Int) (m : Int) (hl : l.length ≤ 1000000000) (hk : l.length < k) (hm0 : 0 ≤ m) (hm : m ≤ 1000000000) : laws_markInt64S.f k l m = some (m + l.length, marks l.length m) := by
  unfold laws_markInt64S.f
  have := mark_from m hm0 hm l.length k l 0 hl (by omega) (fun j hj => by omega) hk
  simpa using this
theorem held_from (n : Nat) (m : Int) (hn : n ≤ 1000000000) (hm0 : 0 ≤ m) (hm : m ≤ 1000000000) (d : Nat) : ∀ (k : Nat) (i : Int), 0 ≤ i → (n : Int) - i = d → d < k → laws_heldInt64S.l0 k (marks n m) (m + i) i = some (m + n) := by
  induction d with
  | zero =>
    intro k i h0 hd hk
    obtain ⟨k, rfl⟩ : ∃ m, k = m + 1 := ⟨k - 1, by omega⟩
    simp only [laws_heldInt64S.l0]
    rw [if_neg (by rw [marks_length]; omega)]
    exact congrArg some (by omega)
  | succ d ih =>
    intro k i h0 hd hk
    obtain ⟨k, rfl⟩ : ∃ m, k = m + 1 := ⟨k - 1, by omega⟩
    simp only [laws_heldInt64S.l0]
    have w1 : wrap64 (m + i + 1) = m + (i + 1) := by unfold wrap64; omega
    have w2 : wrap64 (i + 1) = i + 1 := by unfold wrap64; omega
    rw [if_pos (by rw [marks_length]; omega), if_pos h0, if_pos (marks_rd n m i h0 (by omega)), w1, w2]
    exact ih k (i + 1) (by omega) (by omega) (by omega)
theorem held_is (k : Nat) (n : Nat) (m : Int) (hn : n ≤ 1000000000) (hk : n < k) (hm0 : 0 ≤ m) (hm : m ≤ 1000000000) : laws_heldInt64S.f k (marks n m) m = some (m + n) := by
  unfold laws_heldInt64S.f
  have := held_from n m hn hm0 hm n k 0 (by omega) (by omega) hk
  simpa using this
theorem eqM_self (k : Nat) (c : Int) (l : List Int) (hl : l.length ≤ 1000000000) (hk : l.length < k) : laws_eqMemoryResult.f k c l c l = some true := by
  unfold laws_eqMemoryResult.f
  rw [if_pos rfl, eq_self k l hl hk]
  rfl
theorem markM (k : Nat) (c : Int) (l : List Int) (hl : l.length ≤ 1000000000) (hk : l.length < k) : laws_markMemoryResult.f k c l 1 = some (1 + (l.length : Int), marks l.length 1) := by
  unfold laws_markMemoryResult.f
  rw [mark_is k l 1 hl hk (by omega) (by omega)]
  rfl
theorem heldM (k : Nat) (c : Int) (n : Nat) (hl : n ≤ 1000000000) (hk : n < k) : laws_heldMemoryResult.f k c (marks n 1) 1 = some (1 + (n : Int)) := by
  unfold laws_heldMemoryResult.f
  rw [held_is k n 1 hl hk (by omega) (by omega)]
  simp only [Option.bind_some]
  rw [if_neg (by omega)]
theorem new_some (a : Int) : ∃ c l, spec_NewMemory.f a = some (c, l) ∧ l.length ≤ 192 := by
  unfold spec_NewMemory.f
  rw [l1In_eq]
  simp only [Option.bind_some, decide_eq_true_eq]
  by_cases h : 1 ≤ a ∧ a ≤ 24
  · have e : wrap64 (a * 8) = a * 8 := by unfold wrap64; omega
    rw [if_pos h, e, if_pos (by omega), if_pos (by omega)]
    exact ⟨_, _, rfl, by simp; omega⟩
  · rw [if_neg h]
    exact ⟨_, _, rfl, by simp⟩
theorem FnExactNewMemory : laws_FnExactNewMemory.Pure := by
  intro a _
  refine ⟨200, ?_⟩
  have e : impl_NewMemory.f a = spec_NewMemory.f a := by unfold impl_NewMemory.f spec_NewMemory.f; rw [within_eq, l1In_eq]
  obtain ⟨c, l, h, hl⟩ := new_some a
  unfold laws_FnExactNewMemory.f
  simp only [e, h, Option.bind_some, eqM_self 200 c l (by omega) (by omega), markM 200 c l (by omega) (by omega), heldM 200 c l.length (by omega) (by omega), if_true]
  rw [if_neg (by omega), if_neg (by omega)]

end Go.Proofs.Ytccaghkjaflnfab.Pure
