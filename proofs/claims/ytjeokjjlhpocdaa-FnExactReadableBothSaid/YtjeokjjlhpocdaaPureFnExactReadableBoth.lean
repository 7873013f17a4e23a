/- ReadableBoth of the program and of the reference tell the same, what it tells is new, and both lists stay, for all lists of pages. No condition. -/
import Derived.Test.YtjeokjjlhpocdaaPFnExactReadableBothx14
import Derived.Test.YtjeokjjlhpocdaaLem
namespace Go.Proofs.Ytjeokjjlhpocdaa.Pure
open Go.RowKit Go.Proofs.Ytjeokjjlhpocdaa.PFnExactReadableBoth Go.Proofs.YtjeokjjlhpocdaaW.PrintWords Go.Proofs.YtjeokjjlhpocdaaW.PrintLast Go.Proofs.YtjeokjjlhpocdaaW.PrintMore
open Go.Proofs.Ytjeokjjlhpocdaa.Lem
set_option linter.unusedVariables false
set_option linter.unusedSimpArgs false
theorem within_eq (a x y : Int) : impl_within.f a x y = some (decide (x ≤ a ∧ a ≤ y)) := by
  unfold impl_within.f
  split <;> rename_i h <;> simp <;> omega
theorem l1In_eq (a x y : Int) : spec_l1In.f a x y = some (decide (x ≤ a ∧ a ≤ y)) := by
  unfold spec_l1In.f
  split <;> rename_i h <;> simp <;> omega
def toP (x : S65) : S59 := ⟨x.f0, x.f1⟩
theorem rdP_at (l : List S59) (i : Nat) (h : i < l.length) : rd_T59 l (i : Int) = l[i] := by
  unfold rd_T59
  rw [Int.toNat_natCast, List.getD_eq_getElem?_getD, List.getElem?_eq_getElem h]
  rfl
theorem wsucc {i n : Nat} (h : i < n) (hn : n ≤ 1000000000) : wrap64 ((i : Int) + 1) = ((i + 1 : Nat) : Int) := by unfold wrap64; omega
theorem rdQ_at (l : List S65) (i : Nat) (h : i < l.length) : rd_T65 l (i : Int) = l[i] := by
  unfold rd_T65
  rw [Int.toNat_natCast, List.getD_eq_getElem?_getD, List.getElem?_eq_getElem h]
  rfl
theorem toP_from (l : List S65) (hl : l.length ≤ 1000000000) (d : Nat) : ∀ (k : Nat) (xs : List S59) (i : Nat), xs.length = l.length → l.length = i + d → (∀ j, j < i → xs[j]? = (l.map toP)[j]?) → d < k →
    laws_toPageS.l0 k l xs (i : Int) = some (l.map toP) := by
  induction d with
  | zero =>
    intro k xs i hx hd hp hk
    obtain ⟨k, rfl⟩ : ∃ m, k = m + 1 := ⟨k - 1, by omega⟩
    simp only [laws_toPageS.l0]
    rw [if_neg (by omega)]
    refine congrArg some (List.ext_getElem? fun j => ?_)
    by_cases hj : j < i
    · exact hp j hj
    · rw [List.getElem?_eq_none (by omega), List.getElem?_eq_none (by rw [List.length_map]; omega)]
  | succ d ih =>
    intro k xs i hx hd hp hk
    obtain ⟨k, rfl⟩ : ∃ m, k = m + 1 := ⟨k - 1, by omega⟩
    simp only [laws_toPageS.l0, laws_toPage.f, Option.bind_some]
    have hi : i < l.length := by omega
    rw [if_pos (by omega), if_pos (by omega), if_pos (by omega), rdQ_at l i hi, wsucc hi hl, Int.toNat_natCast]
    refine ih k _ (i + 1) (by simpa using hx) (by omega) (fun j hj => ?_) (by omega)
    rw [List.getElem?_set]
    by_cases e : i = j
    · subst e
      rw [if_pos rfl, if_pos (by omega), List.getElem?_map, List.getElem?_eq_getElem hi]
      rfl
    · rw [if_neg e]
      exact hp j (by omega)
theorem toP_is (k : Nat) (l : List S65) (hl : l.length ≤ 1048576) (hk : l.length < k) : laws_toPageS.f k l = some (l.map toP) := by
  unfold laws_toPageS.f
  have e : ((l.length : Int)).toNat = l.length := by omega
  rw [if_pos (by omega), e, if_pos (by omega)]
  exact toP_from l (by omega) l.length k _ 0 (by simp) (by omega) (fun j hj => by omega) hk
theorem eqP_from (l : List S59) (hl : l.length ≤ 1000000000) (d : Nat) : ∀ (k i : Nat), l.length = i + d → d < k → laws_eqPageS.l0 k l l (i : Int) = some true := by
  induction d with
  | zero =>
    intro k i hd hk
    obtain ⟨k, rfl⟩ : ∃ m, k = m + 1 := ⟨k - 1, by omega⟩
    simp only [laws_eqPageS.l0]
    rw [if_neg (by omega)]
  | succ d ih =>
    intro k i hd hk
    obtain ⟨k, rfl⟩ : ∃ m, k = m + 1 := ⟨k - 1, by omega⟩
    have hi : i < l.length := by omega
    have e : ∀ a b : Int, laws_eqPage.f a b a b = some true := fun a b => by unfold laws_eqPage.f; rw [if_pos rfl, if_pos rfl]
    simp only [laws_eqPageS.l0, e, Option.bind_some]
    rw [if_pos (by omega), if_pos (by omega), if_pos (by omega), if_pos trivial, wsucc hi hl]
    exact ih k (i + 1) (by omega) (by omega)
theorem eqP_self (k : Nat) (l : List S59) (hl : l.length ≤ 1048576) (hk : l.length < k) : laws_eqPageS.f k l l = some true := by
  unfold laws_eqPageS.f
  rw [if_pos rfl]
  exact eqP_from l (by omega) l.length k 0 (by omega) hk
theorem szP (n : Nat) (l : List S65) (hm : l.length ≤ maxLen) (hn : n ≤ 1048576) : laws_szPageS.f l (n : Int) = some (if n < l.length then -1 else ((n - l.length : Nat) : Int)) := by
  unfold maxLen at hm
  have e : wrap64 ((n : Int) - (l.length : Int)) = (n : Int) - (l.length : Int) := by unfold wrap64; omega
  unfold laws_szPageS.f
  rw [e]
  by_cases h : n < l.length
  · rw [if_pos (by omega), if_pos h]
  · rw [if_neg (by omega), if_neg h]
    exact congrArg some (by omega)
def marksP (n : Nat) (m : Int) : List S59 := (List.range n).map fun (j : Nat) => ⟨m + 2 * (j : Int), m + 2 * (j : Int) + 1⟩
theorem marksP_length (n : Nat) (m : Int) : (marksP n m).length = n := by simp [marksP]
theorem marksP_at (n : Nat) (m : Int) (i : Nat) (h : i < n) : (marksP n m)[i]? = some ⟨m + 2 * (i : Int), m + 2 * (i : Int) + 1⟩ := by
  unfold marksP
  rw [List.getElem?_map, List.getElem?_range h]
  rfl
theorem marksP_rd (n : Nat) (m : Int) (i : Nat) (h : i < n) : rd_T59 (marksP n m) (i : Int) = ⟨m + 2 * (i : Int), m + 2 * (i : Int) + 1⟩ := by
  unfold rd_T59
  rw [Int.toNat_natCast, List.getD_eq_getElem?_getD, marksP_at n m i h]
  rfl
theorem rdP_set (l : List S59) (i : Nat) (x : S59) (h : i < l.length) : rd_T59 (l.set i x) (i : Int) = x := by
  unfold rd_T59
  rw [Int.toNat_natCast, List.getD_eq_getElem?_getD, List.getElem?_set_self h]
  rfl
theorem markP_from (m : Int) (hm0 : 0 ≤ m) (hm : m ≤ 1000000000) (d : Nat) : ∀ (k : Nat) (l : List S59) (i : Nat), l.length ≤ 1000000000 → l.length = i + d → (∀ j, j < i → l[j]? = some ⟨m + 2 * (j : Int), m + 2 * (j : Int) + 1⟩) → d < k →
    laws_markPageS.l0 k l (m + 2 * (i : Int)) (i : Int) = some (m + 2 * (l.length : Int), marksP l.length m) := by
  induction d with
  | zero =>
    intro k l i hl hd hx hk
    obtain ⟨k, rfl⟩ : ∃ m, k = m + 1 := ⟨k - 1, by omega⟩
    simp only [laws_markPageS.l0]
    rw [if_neg (by omega)]
    have e : l = marksP l.length m := by
      apply List.ext_getElem?
      intro j
      by_cases hj : j < i
      · rw [hx j hj, marksP_at _ _ _ (by omega)]
      · rw [List.getElem?_eq_none (by omega), List.getElem?_eq_none (by rw [marksP_length]; omega)]
    rw [← e]
    exact congrArg some (Prod.ext (by show m + 2 * (i : Int) = m + 2 * (l.length : Int); omega) rfl)
  | succ d ih =>
    intro k l i hl hd hx hk
    obtain ⟨k, rfl⟩ : ∃ m, k = m + 1 := ⟨k - 1, by omega⟩
    simp only [laws_markPageS.l0]
    have hi : i < l.length := by omega
    have w1 : wrap64 (m + 2 * (i : Int) + 1) = m + 2 * (i : Int) + 1 := by unfold wrap64; omega
    have w3 : wrap64 (m + 2 * (i : Int) + 1 + 1) = m + 2 * ((i + 1 : Nat) : Int) := by unfold wrap64; omega
    have w2 : wrap64 ((i : Int) + 1) = ((i + 1 : Nat) : Int) := by unfold wrap64; omega
    rw [if_pos (by omega), if_pos (by omega), Option.bind_some, w1, w3, w2, Int.toNat_natCast, rdP_set l i _ hi, List.set_set]
    have := ih k (l.set i ⟨m + 2 * (i : Int), m + 2 * (i : Int) + 1⟩) (i + 1) (by rw [List.length_set]; exact hl) (by rw [List.length_set]; omega) (fun j hj => by
      rw [List.getElem?_set]
      by_cases e : i = j
      · subst e
        rw [if_pos rfl, if_pos (by omega)]
      · rw [if_neg e]
        exact hx j (by omega)) (by omega)
    rw [List.length_set] at this
    exact this
theorem markP_is (k : Nat) (l : List S59) (m : Int) (hl : l.length ≤ 1000000000) (hk : l.length < k) (hm0 : 0 ≤ m) (hm : m ≤ 1000000000) : laws_markPageS.f k l m = some (m + 2 * (l.length : Int), marksP l.length m) := by
  unfold laws_markPageS.f
  have := markP_from m hm0 hm l.length k l 0 hl (by omega) (fun j hj => by omega) hk
  simpa using this
theorem w_succ {i : Int} {n : Nat} (h0 : 0 ≤ i) (h : i < (n : Int)) (hn : n ≤ 1000000000) : wrap64 (i + 1) = i + 1 := by unfold wrap64; omega
theorem eq_from (l : List Int) (hl : l.length ≤ 1000000000) (d : Nat) : ∀ (k : Nat) (i : Int), 0 ≤ i → (l.length : Int) - i = d → d < k → laws_eqInt64S.l0 k l l i = some true := by
  induction d with
  | zero =>
    intro k i h0 hd hk
    obtain ⟨k, rfl⟩ : ∃ m, k = m + 1 := ⟨k - 1, by omega⟩
    simp only [laws_eqInt64S.l0]
    rw [if_neg (by omega)]
  | succ d ih =>
    intro k i h0 hd hk
    obtain ⟨k, rfl⟩ : ∃ m, k = m + 1 := ⟨k - 1, by omega⟩
    simp only [laws_eqInt64S.l0]
    rw [if_pos (by omega), if_pos h0, if_pos (by omega), if_pos trivial, w_succ (n := l.length) h0 (by omega) hl]
    exact ih k (i + 1) (by omega) (by omega) (by omega)
theorem eq_self (k : Nat) (l : List Int) (hl : l.length ≤ 1000000000) (hk : l.length < k) : laws_eqInt64S.f k l l = some true := by
  unfold laws_eqInt64S.f
  rw [if_pos rfl]
  exact eq_from l hl l.length k 0 (by omega) (by omega) hk
def marks (n : Nat) (m : Int) : List Int := (List.range n).map fun (j : Nat) => m + (j : Int)
theorem marks_length (n : Nat) (m : Int) : (marks n m).length = n := by simp [marks]
theorem marks_rd (n : Nat) (m : Int) (i : Int) (h0 : 0 ≤ i) (h : i < (n : Int)) : rd (marks n m) i = m + i := by
  unfold rd marks
  rw [List.getD_eq_getElem?_getD, List.getElem?_map, List.getElem?_range (by omega)]
  simp
  omega
theorem mark_from (m : Int) (hm0 : 0 ≤ m) (hm : m ≤ 1000000000) (d : Nat) : ∀ (k : Nat) (l : List Int) (i : Nat), l.length ≤ 1000000000 → l.length = i + d → (∀ j, j < i → l[j]? = some (m + (j : Int))) → d < k →
    laws_markInt64S.l0 k l (m + (i : Int)) (i : Int) = some (m + (l.length : Int), marks l.length m) := by
  induction d with
  | zero =>
    intro k l i hl hd hx hk
    obtain ⟨k, rfl⟩ : ∃ m, k = m + 1 := ⟨k - 1, by omega⟩
    simp only [laws_markInt64S.l0]
    rw [if_neg (by omega)]
    have e : l = marks l.length m := by
      apply List.ext_getElem?
      intro j
      by_cases hj : j < i
      · rw [hx j hj]
        unfold marks
        rw [List.getElem?_map, List.getElem?_range (by omega)]
        rfl
      · rw [List.getElem?_eq_none (by omega), List.getElem?_eq_none (by rw [marks_length]; omega)]
    rw [← e]
    exact congrArg some (Prod.ext (by show m + (i : Int) = m + (l.length : Int); omega) rfl)
  | succ d ih =>
    intro k l i hl hd hx hk
    obtain ⟨k, rfl⟩ : ∃ m, k = m + 1 := ⟨k - 1, by omega⟩
    simp only [laws_markInt64S.l0]
    have w1 : wrap64 (m + (i : Int) + 1) = m + ((i + 1 : Nat) : Int) := by unfold wrap64; omega
    have w2 : wrap64 ((i : Int) + 1) = ((i + 1 : Nat) : Int) := by unfold wrap64; omega
    rw [if_pos (by omega), if_pos (by omega), w1, w2]
    have hs : ((i : Int)).toNat = i := by omega
    rw [hs]
    have := ih k (l.set i (m + (i : Int))) (i + 1) (by simpa using hl) (by simp; omega) (fun j hj => by
      rw [List.getElem?_set]
      by_cases e : i = j
      · subst e
        rw [if_pos rfl, if_pos (by omega)]
      · rw [if_neg e]
        exact hx j (by omega)) (by omega)
    simpa using this
theorem mark_is (k : Nat) (l : List Int) (m : Int) (hl : l.length ≤ 1000000000) (hk : l.length < k) (hm0 : 0 ≤ m) (hm : m ≤ 1000000000) : laws_markInt64S.f k l m = some (m + l.length, marks l.length m) := by
  unfold laws_markInt64S.f
  have := mark_from m hm0 hm l.length k l 0 hl (by omega) (fun j hj => by omega) hk
  simpa using this
theorem held_from (n : Nat) (m : Int) (hn : n ≤ 1000000000) (hm0 : 0 ≤ m) (hm : m ≤ 1000000000) (d : Nat) : ∀ (k : Nat) (i : Int), 0 ≤ i → (n : Int) - i = d → d < k → laws_heldInt64S.l0 k (marks n m) (m + i) i = some (m + n) := by
  induction d with
  | zero =>
    intro k i h0 hd hk
    obtain ⟨k, rfl⟩ : ∃ m, k = m + 1 := ⟨k - 1, by omega⟩
    simp only [laws_heldInt64S.l0]
    rw [if_neg (by rw [marks_length]; omega)]
    exact congrArg some (by omega)
  | succ d ih =>
    intro k i h0 hd hk
    obtain ⟨k, rfl⟩ : ∃ m, k = m + 1 := ⟨k - 1, by omega⟩
    simp only [laws_heldInt64S.l0]
    have w1 : wrap64 (m + i + 1) = m + (i + 1) := by unfold wrap64; omega
    have w2 : wrap64 (i + 1) = i + 1 := by unfold wrap64; omega
    rw [if_pos (by rw [marks_length]; omega), if_pos h0, if_pos (marks_rd n m i h0 (by omega)), w1, w2]
    exact ih k (i + 1) (by omega) (by omega) (by omega)
theorem held_is (k : Nat) (n : Nat) (m : Int) (hn : n ≤ 1000000000) (hk : n < k) (hm0 : 0 ≤ m) (hm : m ≤ 1000000000) : laws_heldInt64S.f k (marks n m) m = some (m + n) := by
  unfold laws_heldInt64S.f
  have := held_from n m hn hm0 hm n k 0 (by omega) (by omega) hk
  simpa using this
theorem eqIR_self (k : Nat) (c : Int) (l : List Int) (hl : l.length ≤ 1000000000) (hk : l.length < k) : laws_eqIntsResult.f k c l c l = some true := by
  unfold laws_eqIntsResult.f
  rw [if_pos rfl, eq_self k l hl hk]
  rfl
theorem markIR (k : Nat) (c : Int) (l : List Int) (hl : l.length ≤ 1000000000) (hk : l.length < k) : laws_markIntsResult.f k c l 1 = some (1 + (l.length : Int), marks l.length 1) := by
  unfold laws_markIntsResult.f
  rw [mark_is k l 1 hl hk (by omega) (by omega)]
  rfl
theorem heldIR (k : Nat) (c : Int) (n : Nat) (hl : n ≤ 1000000000) (hk : n < k) : laws_heldIntsResult.f k c (marks n 1) 1 = some (1 + (n : Int)) := by
  unfold laws_heldIntsResult.f
  rw [held_is k n 1 hl hk (by omega) (by omega)]
  simp only [Option.bind_some]
  rw [if_neg (by omega)]
def pfl (top : Int) : List S59 → Int
  | [] => 0
  | p :: t => if -1 ≤ p.f0 ∧ p.f0 ≤ top - 1 ∧ 0 ≤ p.f1 ∧ p.f1 ≤ 7 then (if p.f0 = -1 ∧ p.f1 ≠ 0 then 1 else pfl top t) else 3
def pf (top : Int) (l : List S59) : Int := if 1 ≤ top ∧ top ≤ 24 then (if l.length = 8 then pfl top l else 1) else 3
theorem drop_at {α : Type} (l : List α) (i : Nat) (h : i < l.length) : l.drop i = l[i] :: l.drop (i + 1) := List.drop_eq_getElem_cons h
theorem specPF_from (l : List S59) (hl : l.length ≤ 1000000000) (top : Int) (h1 : 1 ≤ top) (h2 : top ≤ 24) (d : Nat) : ∀ (k i : Nat), l.length = i + d → 2 * d < k → spec_PagesFault.l0 k l top (i : Int) = some (pfl top (l.drop i)) := by
  have ew : wrap64 (top - 1) = top - 1 := by unfold wrap64; omega
  induction d with
  | zero =>
    intro k i hd hk
    obtain ⟨k, rfl⟩ : ∃ m, k = m + 1 := ⟨k - 1, by omega⟩
    simp only [spec_PagesFault.l0]
    rw [if_neg (by omega), List.drop_eq_nil_of_le (by omega)]
    rfl
  | succ d ih =>
    intro k i hd hk
    obtain ⟨k, rfl⟩ : ∃ m, k = m + 1 + 1 := ⟨k - 2, by omega⟩
    have hi : i < l.length := by omega
    have hi' := ih k (i + 1) (by omega) (by omega)
    rw [drop_at l i hi]
    simp only [spec_PagesFault.l0, spec_PagesFault.j1, l1In_eq, Option.bind_some, ew, decide_eq_true_eq, pfl]
    have p0 : (0 : Int) ≤ (i : Int) := Int.natCast_nonneg _
    have p1 : (i : Int) < (l.length : Int) := by omega
    simp only [rdP_at l i hi, wsucc hi hl, hi', if_pos p0, if_pos p1]
    generalize l[i].f0 = F0
    generalize l[i].f1 = F1
    by_cases c1 : -1 ≤ F0 ∧ F0 ≤ top - 1
    · by_cases c2 : 0 ≤ F1 ∧ F1 ≤ 7
      · have c : -1 ≤ F0 ∧ F0 ≤ top - 1 ∧ 0 ≤ F1 ∧ F1 ≤ 7 := ⟨c1.1, c1.2, c2.1, c2.2⟩
        have c2' : decide (0 ≤ F1 ∧ F1 ≤ 7) = true := decide_eq_true c2
        simp only [if_pos c1, c2', if_pos c, Bool.not_true, Bool.false_eq_true, if_false]
        by_cases c3 : F0 = -1
        · have c3' : F0 < 0 := by omega
          by_cases c4 : F1 = 0
          · first | rw [if_pos c3', if_pos c4, if_neg (fun h => h.2 c4)] | rw [if_pos c3, if_pos c4, if_neg (fun h => h.2 c4)]
          · first | rw [if_pos c3', if_neg c4, if_pos ⟨c3, c4⟩] | rw [if_pos c3, if_neg c4, if_pos ⟨c3, c4⟩]
        · have c3' : ¬ F0 < 0 := by omega
          first | rw [if_neg c3', if_neg (fun h => c3 h.1)] | rw [if_neg c3, if_neg (fun h => c3 h.1)]
      · have c : ¬ (-1 ≤ F0 ∧ F0 ≤ top - 1 ∧ 0 ≤ F1 ∧ F1 ≤ 7) := fun h => c2 ⟨h.2.2.1, h.2.2.2⟩
        have c2' : decide (0 ≤ F1 ∧ F1 ≤ 7) = false := decide_eq_false c2
        rw [if_pos c1, if_neg c, c2']
        rfl
    · have c : ¬ (-1 ≤ F0 ∧ F0 ≤ top - 1 ∧ 0 ≤ F1 ∧ F1 ≤ 7) := fun h => c1 ⟨h.1, h.2.1⟩
      rw [if_neg c1, if_neg c]
      rfl
theorem implPF_from (l : List S59) (hl : l.length ≤ 1000000000) (top : Int) (h1 : 1 ≤ top) (h2 : top ≤ 24) (d : Nat) : ∀ (k i : Nat), l.length = i + d → 2 * d < k → impl_PagesFault.l0 k top l (l.length : Int) (i : Int) = some (pfl top (l.drop i)) := by
  have ew : wrap64 (top - 1) = top - 1 := by unfold wrap64; omega
  induction d with
  | zero =>
    intro k i hd hk
    obtain ⟨k, rfl⟩ : ∃ m, k = m + 1 := ⟨k - 1, by omega⟩
    simp only [impl_PagesFault.l0]
    rw [if_neg (by omega), List.drop_eq_nil_of_le (by omega)]
    rfl
  | succ d ih =>
    intro k i hd hk
    obtain ⟨k, rfl⟩ : ∃ m, k = m + 1 + 1 := ⟨k - 2, by omega⟩
    have hi : i < l.length := by omega
    have hi' := ih k (i + 1) (by omega) (by omega)
    rw [drop_at l i hi]
    simp only [impl_PagesFault.l0, impl_PagesFault.j1, within_eq, Option.bind_some, ew, decide_eq_true_eq, pfl]
    have p0 : (0 : Int) ≤ (i : Int) := Int.natCast_nonneg _
    have p1 : (i : Int) < (l.length : Int) := by omega
    simp only [rdP_at l i hi, wsucc hi hl, hi', if_pos p0, if_pos p1]
    generalize l[i].f0 = F0
    generalize l[i].f1 = F1
    by_cases c1 : -1 ≤ F0 ∧ F0 ≤ top - 1
    · by_cases c2 : 0 ≤ F1 ∧ F1 ≤ 7
      · have c : -1 ≤ F0 ∧ F0 ≤ top - 1 ∧ 0 ≤ F1 ∧ F1 ≤ 7 := ⟨c1.1, c1.2, c2.1, c2.2⟩
        have c2' : decide (0 ≤ F1 ∧ F1 ≤ 7) = true := decide_eq_true c2
        simp only [if_pos c1, c2', if_pos c, Bool.not_true, Bool.false_eq_true, if_false]
        by_cases c3 : F0 = -1
        · have c3' : F0 < 0 := by omega
          by_cases c4 : F1 = 0
          · first | rw [if_pos c3', if_pos c4, if_neg (fun h => h.2 c4)] | rw [if_pos c3, if_pos c4, if_neg (fun h => h.2 c4)]
          · first | rw [if_pos c3', if_neg c4, if_pos ⟨c3, c4⟩] | rw [if_pos c3, if_neg c4, if_pos ⟨c3, c4⟩]
        · have c3' : ¬ F0 < 0 := by omega
          first | rw [if_neg c3', if_neg (fun h => c3 h.1)] | rw [if_neg c3, if_neg (fun h => c3 h.1)]
      · have c : ¬ (-1 ≤ F0 ∧ F0 ≤ top - 1 ∧ 0 ≤ F1 ∧ F1 ≤ 7) := fun h => c2 ⟨h.2.2.1, h.2.2.2⟩
        have c2' : decide (0 ≤ F1 ∧ F1 ≤ 7) = false := decide_eq_false c2
        rw [if_pos c1, if_neg c, c2']
        rfl
    · have c : ¬ (-1 ≤ F0 ∧ F0 ≤ top - 1 ∧ 0 ≤ F1 ∧ F1 ≤ 7) := fun h => c1 ⟨h.1, h.2.1⟩
      rw [if_neg c1, if_neg c]
      rfl
theorem specPF (k : Nat) (l : List S59) (hl : l.length ≤ 1048576) (top : Int) (hk : 16 < k) : spec_PagesFault.f k l top = some (pf top l) := by
  unfold spec_PagesFault.f pf
  rw [l1In_eq]
  simp only [Option.bind_some, decide_eq_true_eq]
  by_cases c : 1 ≤ top ∧ top ≤ 24
  · rw [if_pos c, if_pos c]
    by_cases h8 : l.length = 8
    · rw [if_pos (by omega), if_pos h8]
      exact specPF_from l (by omega) top c.1 c.2 l.length k 0 (by omega) (by omega)
    · rw [if_neg (by omega), if_neg h8]
  · rw [if_neg c, if_neg c]
theorem implPF (k : Nat) (l : List S59) (hl : l.length ≤ 1048576) (top : Int) (hk : 16 < k) : impl_PagesFault.f k l top = some (pf top l) := by
  unfold impl_PagesFault.f pf
  rw [within_eq]
  simp only [Option.bind_some, decide_eq_true_eq]
  by_cases c : 1 ≤ top ∧ top ≤ 24
  · rw [if_pos c, if_pos c]
    by_cases h8 : l.length = 8
    · rw [if_pos (by omega), if_pos h8]
      exact implPF_from l (by omega) top c.1 c.2 l.length k 0 (by omega) (by omega)
    · rw [if_neg (by omega), if_neg h8]
  · rw [if_neg c, if_neg c]
theorem pfl_ok (top : Int) (l : List S59) (h : pfl top l = 0) : ∀ p ∈ l, (-1 ≤ p.f0 ∧ p.f0 ≤ top - 1 ∧ 0 ≤ p.f1 ∧ p.f1 ≤ 7) ∧ (p.f0 = -1 → p.f1 = 0) := by
  induction l with
  | nil => intro p hp; simp at hp
  | cons q t ih =>
    intro p hp
    unfold pfl at h
    by_cases c : -1 ≤ q.f0 ∧ q.f0 ≤ top - 1 ∧ 0 ≤ q.f1 ∧ q.f1 ≤ 7
    · rw [if_pos c] at h
      by_cases d : q.f0 = -1 ∧ q.f1 ≠ 0
      · rw [if_pos d] at h; exact absurd h (by decide)
      · rw [if_neg d] at h
        rcases List.mem_cons.mp hp with e | e
        · subst e
          exact ⟨c, fun h1 => by
            by_cases h2 : p.f1 = 0
            · exact h2
            · exact absurd ⟨h1, h2⟩ d⟩
        · exact ih h p e
    · rw [if_neg c] at h; exact absurd h (by decide)
theorem pf_ok {top : Int} {l : List S59} (h : pf top l = 0) : l.length = 8 ∧ ∀ p ∈ l, (-1 ≤ p.f0 ∧ p.f0 ≤ top - 1 ∧ 0 ≤ p.f1 ∧ p.f1 ≤ 7) ∧ (p.f0 = -1 → p.f1 = 0) := by
  unfold pf at h
  by_cases c : 1 ≤ top ∧ top ≤ 24
  · rw [if_pos c] at h
    by_cases d : l.length = 8
    · rw [if_pos d] at h
      exact ⟨d, pfl_ok top l h⟩
    · rw [if_neg d] at h; exact absurd h (by decide)
  · rw [if_neg c] at h; exact absurd h (by decide)
theorem firstOf_two (k : Nat) (x y : Int) : impl_firstOf.f (k + 3) [x, y] = some (if x = 0 then y else x) := by
  have w0 : wrap64 (0 + 1) = 1 := by unfold wrap64; omega
  have w1 : wrap64 (1 + 1) = 2 := by unfold wrap64; omega
  have r0 : rd [x, y] 0 = x := rfl
  have r1 : rd [x, y] 1 = y := rfl
  have hl : (([x, y] : List Int).length : Int) = 2 := rfl
  unfold impl_firstOf.f
  simp only [impl_firstOf.l0, hl, w0, w1, r0, r1]
  rw [if_pos (show (0 : Int) < 2 by decide), if_pos (show (0 : Int) ≤ 0 by decide), if_pos (show (0 : Int) < 2 by decide)]
  by_cases h : x = 0
  · rw [if_pos h, if_pos h, if_pos (show (1 : Int) < 2 by decide), if_pos (show (0 : Int) ≤ 1 by decide), if_pos (show (1 : Int) < 2 by decide)]
    by_cases g : y = 0
    · rw [if_pos g, if_neg (show ¬ (2 : Int) < 2 by decide), g]
    · rw [if_neg g]
  · rw [if_neg h, if_neg h]
def ks (tp : Int) : List S59 → Int → Int
  | [], acc => acc
  | p :: t, acc => ks tp t (if p.f0 = tp then Go.bits .or .i64 acc p.f1 else acc)
def km (tp : Int) : List S59 → Int → Int
  | [], acc => acc
  | p :: t, acc => km tp t (if p.f0 = tp then Go.bits .or .i64 (mx acc 0) p.f1 else acc)
theorem orK : ∀ x y : Int, 0 ≤ x → x ≤ 7 → 0 ≤ y → y ≤ 7 → 0 ≤ Go.bits .or .i64 x y ∧ Go.bits .or .i64 x y ≤ 7 := by
  intro x y hx hx7 hy hy7
  have key : ∀ a b : Fin 8, 0 ≤ Go.bits .or .i64 (a.val : Int) (b.val : Int) ∧ Go.bits .or .i64 (a.val : Int) (b.val : Int) ≤ 7 := by decide +kernel
  have k1 := key ⟨x.toNat, by omega⟩ ⟨y.toNat, by omega⟩
  have e1 : ((x.toNat : Nat) : Int) = x := by omega
  have e2 : ((y.toNat : Nat) : Int) = y := by omega
  dsimp only at k1
  rw [e1, e2] at k1
  exact k1
theorem km_ks (tp : Int) (l : List S59) : ∀ (x y : Int), (∀ p ∈ l, 0 ≤ p.f1 ∧ p.f1 ≤ 7) → 0 ≤ y → y ≤ 7 → (x = y ∨ (x = -1 ∧ y = 0)) → 0 ≤ ks tp l y ∧ ks tp l y ≤ 7 ∧ (km tp l x = ks tp l y ∨ (km tp l x = -1 ∧ ks tp l y = 0)) := by
  induction l with
  | nil => intro x y _ h0 h7 h; exact ⟨h0, h7, h⟩
  | cons p t ih =>
    intro x y hp h0 h7 h
    have hq := hp p List.mem_cons_self
    have hm : mx x 0 = y := by
      unfold mx
      rcases h with h | h
      · by_cases c : x < 0
        · rw [if_pos c]; omega
        · rw [if_neg c]; omega
      · rw [if_pos (by omega)]; omega
    unfold ks km
    have ht : ∀ q ∈ t, 0 ≤ q.f1 ∧ q.f1 ≤ 7 := fun q hq => hp q (List.mem_cons_of_mem _ hq)
    by_cases c : p.f0 = tp
    · rw [if_pos c, if_pos c, hm]
      have ho := orK y p.f1 h0 h7 hq.1 hq.2
      exact ih _ _ ht ho.1 ho.2 (.inl rfl)
    · rw [if_neg c, if_neg c]
      exact ih x y ht h0 h7 h
theorem specK (l : List S59) (hl : l.length ≤ 1000000000) (tp : Int) (d : Nat) : ∀ (k i : Nat) (acc : Int), l.length = i + d → d < k → spec_l4Kinds.l0 k l tp acc (i : Int) = some (ks tp (l.drop i) acc) := by
  induction d with
  | zero =>
    intro k i acc hd hk
    obtain ⟨k, rfl⟩ : ∃ m, k = m + 1 := ⟨k - 1, by omega⟩
    simp only [spec_l4Kinds.l0]
    rw [if_neg (by omega), List.drop_eq_nil_of_le (by omega)]
    rfl
  | succ d ih =>
    intro k i acc hd hk
    obtain ⟨k, rfl⟩ : ∃ m, k = m + 1 := ⟨k - 1, by omega⟩
    have hi : i < l.length := by omega
    have p0 : (i : Int) < (l.length : Int) := by omega
    have p1 : (0 : Int) ≤ (i : Int) := by omega
    rw [drop_at l i hi]
    simp only [spec_l4Kinds.l0, ks]
    rw [if_pos p0, if_pos p1, rdP_at l i hi, wsucc hi hl]
    by_cases c : l[i].f0 = tp
    · rw [if_pos c, if_pos c]
      exact ih k (i + 1) _ (by omega) (by omega)
    · rw [if_neg c, if_neg c]
      exact ih k (i + 1) _ (by omega) (by omega)
theorem implK (l : List S59) (hl : l.length ≤ 1000000000) (tp : Int) (d : Nat) : ∀ (k i : Nat) (acc : Int), l.length = i + d → d < k → impl_kindsTo.l0 k tp acc l (l.length : Int) (i : Int) = some (km tp (l.drop i) acc) := by
  induction d with
  | zero =>
    intro k i acc hd hk
    obtain ⟨k, rfl⟩ : ∃ m, k = m + 1 := ⟨k - 1, by omega⟩
    simp only [impl_kindsTo.l0]
    rw [if_neg (by omega), List.drop_eq_nil_of_le (by omega)]
    rfl
  | succ d ih =>
    intro k i acc hd hk
    obtain ⟨k, rfl⟩ : ∃ m, k = m + 1 := ⟨k - 1, by omega⟩
    have hi : i < l.length := by omega
    have p0 : (i : Int) < (l.length : Int) := by omega
    have p1 : (0 : Int) ≤ (i : Int) := by omega
    rw [drop_at l i hi]
    simp only [impl_kindsTo.l0, km]
    rw [if_pos p0, if_pos p1, if_pos p0, rdP_at l i hi, wsucc hi hl]
    by_cases c : l[i].f0 = tp
    · rw [if_pos c, if_pos c]
      exact ih k (i + 1) _ (by omega) (by omega)
    · rw [if_neg c, if_neg c]
      exact ih k (i + 1) _ (by omega) (by omega)
theorem specKf (k : Nat) (l : List S59) (h8 : l.length = 8) (tp : Int) (hk : 10 < k) : spec_l4Kinds.f k l tp = some (ks tp l 0) := by
  unfold spec_l4Kinds.f
  exact specK l (by omega) tp l.length k 0 0 (by omega) (by omega)
theorem implKf (k : Nat) (l : List S59) (h8 : l.length = 8) (tp : Int) (hk : 10 < k) : impl_kindsTo.f k l tp = some (km tp l (-1)) := by
  unfold impl_kindsTo.f
  exact implK l (by omega) tp l.length k 0 (-1) (by omega) (by omega)
def rest (f : Int → Bool) : Nat → Int → List Int
  | 0, _ => []
  | d + 1, i => if f i = true then i :: rest f d (i + 1) else rest f d (i + 1)
theorem rest_len (f : Int → Bool) (d : Nat) : ∀ i, (rest f d i).length ≤ d := by
  induction d with
  | zero => intro i; exact Nat.le_refl _
  | succ d ih =>
    intro i
    unfold rest
    have := ih (i + 1)
    by_cases c : f i = true
    · rw [if_pos c, List.length_cons]; omega
    · rw [if_neg c]; omega
def inBoth (a b : List S59) (tp : Int) : Bool := decide (ks tp a 0 ≠ 0 ∧ ks tp b 0 ≠ 0)
def rb (a b : List S59) : Int × List Int := if pf 24 a = 0 then (if pf 24 b = 0 then (0, rest (inBoth a b) 24 0) else (pf 24 b, [])) else (pf 24 a, [])
theorem rb_len (a b : List S59) : (rb a b).2.length ≤ 24 := by
  unfold rb
  by_cases h : pf 24 a = 0
  · rw [if_pos h]
    by_cases g : pf 24 b = 0
    · rw [if_pos g]; exact rest_len _ 24 0
    · rw [if_neg g]; simp
  · rw [if_neg h]; simp
theorem specRB_from (a b : List S59) (ha : a.length = 8) (hb : b.length = 8) (d : Nat) : ∀ (k : Nat) (xs : List Int) (i : Int), 0 ≤ i → 24 = i + d → xs.length + d ≤ 24 → d + 20 < k →
    spec_l4Common.l0 k a b false i 0 xs = some (0, xs ++ rest (inBoth a b) d i) := by
  induction d with
  | zero =>
    intro k xs i h0 hd hx hk
    obtain ⟨k, rfl⟩ : ∃ m, k = m + 1 := ⟨k - 1, by omega⟩
    simp only [spec_l4Common.l0]
    rw [if_neg (by omega)]
    simp [rest]
  | succ d ih =>
    intro k xs i h0 hd hx hk
    obtain ⟨k, rfl⟩ : ∃ m, k = m + 1 := ⟨k - 1, by omega⟩
    have e : wrap64 (i + 1) = i + 1 := by unfold wrap64; omega
    have hlen : xs.length < 17592186044416 := by omega
    simp only [spec_l4Common.l0]
    rw [if_pos (by omega), specKf k a ha i (by omega), Option.bind_some, specKf k b hb i (by omega), Option.bind_some, e]
    by_cases c1 : ks i a 0 = 0
    · have c : ¬ inBoth a b i = true := by unfold inBoth; simp [c1]
      rw [if_pos c1, rest, if_neg c]
      exact ih k xs (i + 1) (by omega) (by omega) (by omega) (by omega)
    · by_cases c2 : ks i b 0 = 0
      · have c : ¬ inBoth a b i = true := by unfold inBoth; simp [c2]
        rw [if_neg c1, if_pos c2, rest, if_neg c]
        exact ih k xs (i + 1) (by omega) (by omega) (by omega) (by omega)
      · have c : inBoth a b i = true := by unfold inBoth; exact decide_eq_true ⟨c1, c2⟩
        rw [if_neg c1, if_neg c2, if_neg (by decide), if_pos hlen, rest, if_pos c]
        have := ih k (xs ++ [i]) (i + 1) (by omega) (by omega) (by rw [List.length_append]; show xs.length + 1 + d ≤ 24; omega) (by omega)
        rw [this, List.append_assoc]
        rfl
theorem implRB_from (a b : List S59) (ha : a.length = 8) (hb : b.length = 8) (hpa : ∀ p ∈ a, 0 ≤ p.f1 ∧ p.f1 ≤ 7) (hpb : ∀ p ∈ b, 0 ≤ p.f1 ∧ p.f1 ≤ 7) (d : Nat) : ∀ (k : Nat) (xs : List Int) (i : Int), 0 ≤ i → 24 = i + d → xs.length + d ≤ 24 → d + 20 < k →
    impl_shared.l0 k a b xs i = some (0, xs ++ rest (inBoth a b) d i) := by
  induction d with
  | zero =>
    intro k xs i h0 hd hx hk
    obtain ⟨k, rfl⟩ : ∃ m, k = m + 1 := ⟨k - 1, by omega⟩
    simp only [impl_shared.l0]
    rw [if_neg (by omega)]
    simp [rest]
  | succ d ih =>
    intro k xs i h0 hd hx hk
    obtain ⟨k, rfl⟩ : ∃ m, k = m + 1 := ⟨k - 1, by omega⟩
    have e : wrap64 (i + 1) = i + 1 := by unfold wrap64; omega
    have hlen : xs.length < 17592186044416 := by omega
    have r1 := km_ks i a (-1) 0 hpa (by decide) (by decide) (.inr ⟨rfl, rfl⟩)
    have r2 := km_ks i b (-1) 0 hpb (by decide) (by decide) (.inr ⟨rfl, rfl⟩)
    simp only [impl_shared.l0]
    rw [if_pos (by omega), implKf k a ha i (by omega), Option.bind_some, implKf k b hb i (by omega), Option.bind_some, e]
    have skip := ih k xs (i + 1) (by omega) (by omega) (by omega) (by omega)
    unfold impl_ReadableBoth_1.f
    generalize km i a (-1) = X at *
    generalize km i b (-1) = Y at *
    by_cases c : inBoth a b i = true
    · have cc : ks i a 0 ≠ 0 ∧ ks i b 0 ≠ 0 := of_decide_eq_true c
      have hX : X > 0 := by omega
      have hY : Y > 0 := by omega
      rw [if_pos (by omega), if_pos (by omega), if_pos hX, Option.bind_some, decide_eq_true hY, if_pos rfl, if_pos hlen, rest, if_pos c]
      have := ih k (xs ++ [i]) (i + 1) (by omega) (by omega) (by rw [List.length_append]; show xs.length + 1 + d ≤ 24; omega) (by omega)
      rw [this, List.append_assoc]
      rfl
    · have cc : ks i a 0 = 0 ∨ ks i b 0 = 0 := by
        by_cases q : ks i a 0 = 0
        · exact .inl q
        · by_cases q2 : ks i b 0 = 0
          · exact .inr q2
          · exact absurd (decide_eq_true ⟨q, q2⟩) c
      rw [rest, if_neg c, skip]
      by_cases q1 : X ≥ 0
      · rw [if_pos q1]
        by_cases q2 : Y ≥ 0
        · rw [if_pos q2]
          by_cases q3 : X > 0
          · have q4 : ¬ Y > 0 := by omega
            rw [if_pos q3, Option.bind_some, decide_eq_false q4, if_neg (by decide)]
          · rw [if_neg q3, Option.bind_some, if_neg (by decide)]
        · rw [if_neg q2]
      · rw [if_neg q1]
theorem specRB (k : Nat) (a b : List S59) (ha : a.length ≤ 1048576) (hb : b.length ≤ 1048576) (hk : 60 < k) : spec_ReadableBoth.f k a b = some (rb a b) := by
  unfold spec_ReadableBoth.f spec_l4Common.f rb
  rw [specPF k a ha 24 (by omega), Option.bind_some]
  by_cases h : pf 24 a = 0
  · rw [if_pos h, if_pos h, specPF k b hb 24 (by omega), Option.bind_some]
    by_cases g : pf 24 b = 0
    · have := specRB_from a b (pf_ok h).1 (pf_ok g).1 24 k [] 0 (by decide) (by decide) (by decide) (by omega)
      rw [if_pos g, if_pos g, this, Option.bind_some]
      rfl
    · rw [if_neg g, if_neg g, Option.bind_some]
  · rw [if_neg h, if_neg h, Option.bind_some]
theorem implRB (k : Nat) (a b : List S59) (ha : a.length ≤ 1048576) (hb : b.length ≤ 1048576) (hk : 60 < k) : impl_ReadableBoth.f k a b = some (rb a b) := by
  obtain ⟨m, rfl⟩ : ∃ m, k = m + 3 := ⟨k - 3, by omega⟩
  unfold impl_ReadableBoth.f impl_shared.f rb
  rw [implPF _ a ha 24 (by omega), Option.bind_some, implPF _ b hb 24 (by omega), Option.bind_some, firstOf_two, Option.bind_some]
  by_cases h : pf 24 a = 0
  · rw [if_pos h, if_pos h]
    by_cases g : pf 24 b = 0
    · have := implRB_from a b (pf_ok h).1 (pf_ok g).1 (fun p hp => ((pf_ok h).2 p hp).1.2.2) (fun p hp => ((pf_ok g).2 p hp).1.2.2) 24 (m + 3) [] 0 (by decide) (by decide) (by decide) (by omega)
      rw [if_pos g, if_pos g, this, Option.bind_some]
      rfl
    · rw [if_neg g, if_neg g, Option.bind_some]
  · rw [if_neg h, if_neg h, if_neg h, Option.bind_some]
theorem last_is (k : Nat) (hk : 200 < k) (l r : List S65) (hl : l.length ≤ 1048576) (hr : r.length ≤ 1048576) (hlk : l.length < k) (hrk : r.length < k) : laws_FnExactReadableBoth.j0 (k + 1) l r false (rb (l.map toP) (r.map toP)).1 (rb (l.map toP) (r.map toP)).2 (rb (l.map toP) (r.map toP)).1 (rb (l.map toP) (r.map toP)).2 = some true := by
  have h2 := rb_len (l.map toP) (r.map toP)
  simp only [laws_FnExactReadableBoth.j0]
  have h3 : ¬ (1 + ((rb (l.map toP) (r.map toP)).2.length : Int)) < 0 := by omega
  rw [if_neg (by decide), markIR _ _ _ (by omega) (by omega), Option.bind_some]
  dsimp only
  rw [heldIR _ _ _ (by omega) (by omega), Option.bind_some, if_neg h3, if_pos rfl, toP_is _ l hl (by omega), Option.bind_some, toP_is _ r hr (by omega), Option.bind_some, implRB k _ _ (by simp; omega) (by simp; omega) (by omega), Option.bind_some, eqIR_self _ _ _ (by omega) (by omega), Option.bind_some, if_pos rfl, Option.bind_some, if_neg h3, if_pos rfl]
theorem FnExactReadableBoth : laws_FnExactReadableBoth.Pure := by
  intro l r hm hw hm2 hw2
  refine ⟨l.length + r.length + 300, ?_⟩
  unfold laws_FnExactReadableBoth.f
  have hz := szP 1048576 l hm (by omega)
  rw [show ((1048576 : Nat) : Int) = 1048576 from rfl] at hz
  rw [hz, Option.bind_some]
  by_cases hb : 1048576 < l.length
  · rw [if_pos hb, if_pos (by omega)]
  have hz2 := szP (1048576 - l.length) r hm2 (by omega)
  rw [if_neg hb, if_neg (by omega), hz2, Option.bind_some]
  by_cases hb2 : 1048576 - l.length < r.length
  · rw [if_pos hb2, if_pos (by omega)]
  have hl : l.length ≤ 1048576 := by omega
  have hr : r.length ≤ 1048576 := by omega
  have h2 := rb_len (l.map toP) (r.map toP)
  have hl' : (l.map toP).length ≤ 1048576 := by rw [List.length_map]; exact hl
  have hr' : (r.map toP).length ≤ 1048576 := by rw [List.length_map]; exact hr
  rw [if_neg hb2, if_neg (by omega), toP_is _ l hl (by omega), Option.bind_some, toP_is _ r hr (by omega), Option.bind_some, specRB _ _ _ hl' hr' (by omega), Option.bind_some, Option.bind_some, Option.bind_some, implRB _ _ _ hl' hr' (by omega), Option.bind_some, eqIR_self _ _ _ (by omega) (by omega), Option.bind_some, if_pos rfl, Option.bind_some, eqP_self _ _ hl' (by rw [List.length_map]; omega), Option.bind_some, if_pos rfl, Option.bind_some, eqP_self _ _ hr' (by rw [List.length_map]; omega), Option.bind_some, if_pos rfl, markP_is _ _ 1 (by omega) (by rw [List.length_map]; omega) (by omega) (by omega), Option.bind_some]
  dsimp only
  rw [markP_is _ _ _ (by omega) (by rw [List.length_map]; omega) (by omega) (by omega), Option.bind_some]
  dsimp only
  rw [if_neg (by omega), Option.bind_some]
  exact last_is (l.length + r.length + 299) (by omega) l r hl hr (by omega) (by omega)

end Go.Proofs.Ytjeokjjlhpocdaa.Pure
