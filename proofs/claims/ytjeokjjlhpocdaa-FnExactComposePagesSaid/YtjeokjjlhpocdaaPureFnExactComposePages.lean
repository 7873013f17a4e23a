/- ComposePages of the program and of the reference tell the same, what it tells is new, and both lists stay, for all lists of pages. No condition. -/
import Derived.Test.YtjeokjjlhpocdaaPFnExactComposePagesx4
import Derived.Test.YtjeokjjlhpocdaaLem
namespace Go.Proofs.Ytjeokjjlhpocdaa.Pure
open Go.RowKit Go.Proofs.Ytjeokjjlhpocdaa.PFnExactComposePages Go.Proofs.YtjeokjjlhpocdaaW.PrintWords Go.Proofs.YtjeokjjlhpocdaaW.PrintLast Go.Proofs.YtjeokjjlhpocdaaW.PrintMore
open Go.Proofs.Ytjeokjjlhpocdaa.Lem
set_option linter.unusedVariables false
set_option linter.unusedSimpArgs false
theorem within_eq (a x y : Int) : impl_within.f a x y = some (decide (x ≤ a ∧ a ≤ y)) := by
  unfold impl_within.f
  split <;> rename_i h <;> simp <;> omega
theorem l1In_eq (a x y : Int) : spec_l1In.f a x y = some (decide (x ≤ a ∧ a ≤ y)) := by
  unfold spec_l1In.f
  split <;> rename_i h <;> simp <;> omega
def toP (x : S65) : S59 := ⟨x.f0, x.f1⟩
theorem rdP_at (l : List S59) (i : Nat) (h : i < l.length) : rd_T59 l (i : Int) = l[i] := by
  unfold rd_T59
  rw [Int.toNat_natCast, List.getD_eq_getElem?_getD, List.getElem?_eq_getElem h]
  rfl
theorem wsucc {i n : Nat} (h : i < n) (hn : n ≤ 1000000000) : wrap64 ((i : Int) + 1) = ((i + 1 : Nat) : Int) := by unfold wrap64; omega
theorem rdQ_at (l : List S65) (i : Nat) (h : i < l.length) : rd_T65 l (i : Int) = l[i] := by
  unfold rd_T65
  rw [Int.toNat_natCast, List.getD_eq_getElem?_getD, List.getElem?_eq_getElem h]
  rfl
theorem toP_from (l : List S65) (hl : l.length ≤ 1000000000) (d : Nat) : ∀ (k : Nat) (xs : List S59) (i : Nat), xs.length = l.length → l.length = i + d → (∀ j, j < i → xs[j]? = (l.map toP)[j]?) → d < k →
    laws_toPageS.l0 k l xs (i : Int) = some (l.map toP) := by
  induction d with
  | zero =>
    intro k xs i hx hd hp hk
    obtain ⟨k, rfl⟩ : ∃ m, k = m + 1 := ⟨k - 1, by omega⟩
    simp only [laws_toPageS.l0]
    rw [if_neg (by omega)]
    refine congrArg some (List.ext_getElem? fun j => ?_)
    by_cases hj : j < i
    · exact hp j hj
    · rw [List.getElem?_eq_none (by omega), List.getElem?_eq_none (by rw [List.length_map]; omega)]
  | succ d ih =>
    intro k xs i hx hd hp hk
    obtain ⟨k, rfl⟩ : ∃ m, k = m + 1 := ⟨k - 1, by omega⟩
    simp only [laws_toPageS.l0, laws_toPage.f, Option.bind_some]
    have hi : i < l.length := by omega
    rw [if_pos (by omega), if_pos (by omega), if_pos (by omega), rdQ_at l i hi, wsucc hi hl, Int.toNat_natCast]
    refine ih k _ (i + 1) (by simpa using hx) (by omega) (fun j hj => ?_) (by omega)
    rw [List.getElem?_set]
    by_cases e : i = j
    · subst e
      rw [if_pos rfl, if_pos (by omega), List.getElem?_map, List.getElem?_eq_getElem hi]
      rfl
    · rw [if_neg e]
      exact hp j (by omega)
theorem toP_is (k : Nat) (l : List S65) (hl : l.length ≤ 1048576) (hk : l.length < k) : laws_toPageS.f k l = some (l.map toP) := by
  unfold laws_toPageS.f
  have e : ((l.length : Int)).toNat = l.length := by omega
  rw [if_pos (by omega), e, if_pos (by omega)]
  exact toP_from l (by omega) l.length k _ 0 (by simp) (by omega) (fun j hj => by omega) hk
theorem eqP_from (l : List S59) (hl : l.length ≤ 1000000000) (d : Nat) : ∀ (k i : Nat), l.length = i + d → d < k → laws_eqPageS.l0 k l l (i : Int) = some true := by
  induction d with
  | zero =>
    intro k i hd hk
    obtain ⟨k, rfl⟩ : ∃ m, k = m + 1 := ⟨k - 1, by omega⟩
    simp only [laws_eqPageS.l0]
    rw [if_neg (by omega)]
  | succ d ih =>
    intro k i hd hk
    obtain ⟨k, rfl⟩ : ∃ m, k = m + 1 := ⟨k - 1, by omega⟩
    have hi : i < l.length := by omega
    have e : ∀ a b : Int, laws_eqPage.f a b a b = some true := fun a b => by unfold laws_eqPage.f; rw [if_pos rfl, if_pos rfl]
    simp only [laws_eqPageS.l0, e, Option.bind_some]
    rw [if_pos (by omega), if_pos (by omega), if_pos (by omega), if_pos trivial, wsucc hi hl]
    exact ih k (i + 1) (by omega) (by omega)
theorem eqP_self (k : Nat) (l : List S59) (hl : l.length ≤ 1048576) (hk : l.length < k) : laws_eqPageS.f k l l = some true := by
  unfold laws_eqPageS.f
  rw [if_pos rfl]
  exact eqP_from l (by omega) l.length k 0 (by omega) hk
theorem szP (n : Nat) (l : List S65) (hm : l.length ≤ maxLen) (hn : n ≤ 1048576) : laws_szPageS.f l (n : Int) = some (if n < l.length then -1 else ((n - l.length : Nat) : Int)) := by
  unfold maxLen at hm
  have e : wrap64 ((n : Int) - (l.length : Int)) = (n : Int) - (l.length : Int) := by unfold wrap64; omega
  unfold laws_szPageS.f
  rw [e]
  by_cases h : n < l.length
  · rw [if_pos (by omega), if_pos h]
  · rw [if_neg (by omega), if_neg h]
    exact congrArg some (by omega)
def marksP (n : Nat) (m : Int) : List S59 := (List.range n).map fun (j : Nat) => ⟨m + 2 * (j : Int), m + 2 * (j : Int) + 1⟩
theorem marksP_length (n : Nat) (m : Int) : (marksP n m).length = n := by simp [marksP]
theorem marksP_at (n : Nat) (m : Int) (i : Nat) (h : i < n) : (marksP n m)[i]? = some ⟨m + 2 * (i : Int), m + 2 * (i : Int) + 1⟩ := by
  unfold marksP
  rw [List.getElem?_map, List.getElem?_range h]
  rfl
theorem marksP_rd (n : Nat) (m : Int) (i : Nat) (h : i < n) : rd_T59 (marksP n m) (i : Int) = ⟨m + 2 * (i : Int), m + 2 * (i : Int) + 1⟩ := by
  unfold rd_T59
  rw [Int.toNat_natCast, List.getD_eq_getElem?_getD, marksP_at n m i h]
  rfl
theorem rdP_set (l : List S59) (i : Nat) (x : S59) (h : i < l.length) : rd_T59 (l.set i x) (i : Int) = x := by
  unfold rd_T59
  rw [Int.toNat_natCast, List.getD_eq_getElem?_getD, List.getElem?_set_self h]
  rfl
theorem markP_from (m : Int) (hm0 : 0 ≤ m) (hm : m ≤ 1000000000) (d : Nat) : ∀ (k : Nat) (l : List S59) (i : Nat), l.length ≤ 1000000000 → l.length = i + d → (∀ j, j < i → l[j]? = some ⟨m + 2 * (j : Int), m + 2 * (j : Int) + 1⟩) → d < k →
    laws_markPageS.l0 k l (m + 2 * (i : Int)) (i : Int) = some (m + 2 * (l.length : Int), marksP l.length m) := by
  induction d with
  | zero =>
    intro k l i hl hd hx hk
    obtain ⟨k, rfl⟩ : ∃ m, k = m + 1 := ⟨k - 1, by omega⟩
    simp only [laws_markPageS.l0]
    rw [if_neg (by omega)]
    have e : l = marksP l.length m := by
      apply List.ext_getElem?
      intro j
      by_cases hj : j < i
      · rw [hx j hj, marksP_at _ _ _ (by omega)]
      · rw [List.getElem?_eq_none (by omega), List.getElem?_eq_none (by rw [marksP_length]; omega)]
    rw [← e]
    exact congrArg some (Prod.ext (by show m + 2 * (i : Int) = m + 2 * (l.length : Int); omega) rfl)
  | succ d ih =>
    intro k l i hl hd hx hk
    obtain ⟨k, rfl⟩ : ∃ m, k = m + 1 := ⟨k - 1, by omega⟩
    simp only [laws_markPageS.l0]
    have hi : i < l.length := by omega
    have w1 : wrap64 (m + 2 * (i : Int) + 1) = m + 2 * (i : Int) + 1 := by unfold wrap64; omega
    have w3 : wrap64 (m + 2 * (i : Int) + 1 + 1) = m + 2 * ((i + 1 : Nat) : Int) := by unfold wrap64; omega
    have w2 : wrap64 ((i : Int) + 1) = ((i + 1 : Nat) : Int) := by unfold wrap64; omega
    rw [if_pos (by omega), if_pos (by omega), Option.bind_some, w1, w3, w2, Int.toNat_natCast, rdP_set l i _ hi, List.set_set]
    have := ih k (l.set i ⟨m + 2 * (i : Int), m + 2 * (i : Int) + 1⟩) (i + 1) (by rw [List.length_set]; exact hl) (by rw [List.length_set]; omega) (fun j hj => by
      rw [List.getElem?_set]
      by_cases e : i = j
      · subst e
        rw [if_pos rfl, if_pos (by omega)]
      · rw [if_neg e]
        exact hx j (by omega)) (by omega)
    rw [List.length_set] at this
    exact this
theorem markP_is (k : Nat) (l : List S59) (m : Int) (hl : l.length ≤ 1000000000) (hk : l.length < k) (hm0 : 0 ≤ m) (hm : m ≤ 1000000000) : laws_markPageS.f k l m = some (m + 2 * (l.length : Int), marksP l.length m) := by
  unfold laws_markPageS.f
  have := markP_from m hm0 hm l.length k l 0 hl (by omega) (fun j hj => by omega) hk
  simpa using this
theorem heldP_from (n : Nat) (m : Int) (hn : n ≤ 1000000000) (hm0 : 0 ≤ m) (hm : m ≤ 1000000000) (d : Nat) : ∀ (k i : Nat), n = i + d → d < k → laws_heldPageS.l0 k (marksP n m) (m + 2 * (i : Int)) (i : Int) = some (m + 2 * (n : Int)) := by
  induction d with
  | zero =>
    intro k i hd hk
    obtain ⟨k, rfl⟩ : ∃ m, k = m + 1 := ⟨k - 1, by omega⟩
    simp only [laws_heldPageS.l0]
    rw [if_neg (by rw [marksP_length]; omega)]
    exact congrArg some (by omega)
  | succ d ih =>
    intro k i hd hk
    obtain ⟨k, rfl⟩ : ∃ m, k = m + 1 := ⟨k - 1, by omega⟩
    simp only [laws_heldPageS.l0]
    have w1 : wrap64 (m + 2 * (i : Int) + 1) = m + 2 * (i : Int) + 1 := by unfold wrap64; omega
    have w3 : wrap64 (m + 2 * (i : Int) + 1 + 1) = m + 2 * ((i + 1 : Nat) : Int) := by unfold wrap64; omega
    have w2 : wrap64 ((i : Int) + 1) = ((i + 1 : Nat) : Int) := by unfold wrap64; omega
    have hr := marksP_rd n m i (by omega)
    rw [if_pos (by rw [marksP_length]; omega), if_pos (by omega), hr, w1, w3, w2]
    dsimp only
    rw [if_pos rfl, if_pos rfl]
    exact ih k (i + 1) (by omega) (by omega)
theorem heldP_is (k : Nat) (n : Nat) (m : Int) (hn : n ≤ 1000000000) (hk : n < k) (hm0 : 0 ≤ m) (hm : m ≤ 1000000000) : laws_heldPageS.f k (marksP n m) m = some (m + 2 * (n : Int)) := by
  unfold laws_heldPageS.f
  have := heldP_from n m hn hm0 hm n k 0 (by omega) hk
  simpa using this
theorem eqPR_self (k : Nat) (c : Int) (l : List S59) (hl : l.length ≤ 1048576) (hk : l.length < k) : laws_eqPagesResult.f k c l c l = some true := by
  unfold laws_eqPagesResult.f
  rw [if_pos rfl, eqP_self k l hl hk]
  rfl
theorem markPR (k : Nat) (c : Int) (l : List S59) (hl : l.length ≤ 1048576) (hk : l.length < k) : laws_markPagesResult.f k c l 1 = some (1 + 2 * (l.length : Int), marksP l.length 1) := by
  unfold laws_markPagesResult.f
  rw [markP_is k l 1 (by omega) hk (by omega) (by omega)]
  rfl
theorem heldPR (k : Nat) (c : Int) (n : Nat) (hl : n ≤ 1048576) (hk : n < k) : laws_heldPagesResult.f k c (marksP n 1) 1 = some (1 + 2 * (n : Int)) := by
  unfold laws_heldPagesResult.f
  rw [heldP_is k n 1 (by omega) hk (by omega) (by omega)]
  simp only [Option.bind_some]
  rw [if_neg (by omega)]
def pfl (top : Int) : List S59 → Int
  | [] => 0
  | p :: t => if -1 ≤ p.f0 ∧ p.f0 ≤ top - 1 ∧ 0 ≤ p.f1 ∧ p.f1 ≤ 7 then (if p.f0 = -1 ∧ p.f1 ≠ 0 then 1 else pfl top t) else 3
def pf (top : Int) (l : List S59) : Int := if 1 ≤ top ∧ top ≤ 24 then (if l.length = 8 then pfl top l else 1) else 3
theorem drop_at {α : Type} (l : List α) (i : Nat) (h : i < l.length) : l.drop i = l[i] :: l.drop (i + 1) := List.drop_eq_getElem_cons h
theorem specPF_from (l : List S59) (hl : l.length ≤ 1000000000) (top : Int) (h1 : 1 ≤ top) (h2 : top ≤ 24) (d : Nat) : ∀ (k i : Nat), l.length = i + d → 2 * d < k → spec_PagesFault.l0 k l top (i : Int) = some (pfl top (l.drop i)) := by
  have ew : wrap64 (top - 1) = top - 1 := by unfold wrap64; omega
  induction d with
  | zero =>
    intro k i hd hk
    obtain ⟨k, rfl⟩ : ∃ m, k = m + 1 := ⟨k - 1, by omega⟩
    simp only [spec_PagesFault.l0]
    rw [if_neg (by omega), List.drop_eq_nil_of_le (by omega)]
    rfl
  | succ d ih =>
    intro k i hd hk
    obtain ⟨k, rfl⟩ : ∃ m, k = m + 1 + 1 := ⟨k - 2, by omega⟩
    have hi : i < l.length := by omega
    have hi' := ih k (i + 1) (by omega) (by omega)
    rw [drop_at l i hi]
    simp only [spec_PagesFault.l0, spec_PagesFault.j1, l1In_eq, Option.bind_some, ew, decide_eq_true_eq, pfl]
    have p0 : (0 : Int) ≤ (i : Int) := Int.natCast_nonneg _
    have p1 : (i : Int) < (l.length : Int) := by omega
    simp only [rdP_at l i hi, wsucc hi hl, hi', if_pos p0, if_pos p1]
    generalize l[i].f0 = F0
    generalize l[i].f1 = F1
    by_cases c1 : -1 ≤ F0 ∧ F0 ≤ top - 1
    · by_cases c2 : 0 ≤ F1 ∧ F1 ≤ 7
      · have c : -1 ≤ F0 ∧ F0 ≤ top - 1 ∧ 0 ≤ F1 ∧ F1 ≤ 7 := ⟨c1.1, c1.2, c2.1, c2.2⟩
        have c2' : decide (0 ≤ F1 ∧ F1 ≤ 7) = true := decide_eq_true c2
        simp only [if_pos c1, c2', if_pos c, Bool.not_true, Bool.false_eq_true, if_false]
        by_cases c3 : F0 = -1
        · have c3' : F0 < 0 := by omega
          by_cases c4 : F1 = 0
          · first | rw [if_pos c3', if_pos c4, if_neg (fun h => h.2 c4)] | rw [if_pos c3, if_pos c4, if_neg (fun h => h.2 c4)]
          · first | rw [if_pos c3', if_neg c4, if_pos ⟨c3, c4⟩] | rw [if_pos c3, if_neg c4, if_pos ⟨c3, c4⟩]
        · have c3' : ¬ F0 < 0 := by omega
          first | rw [if_neg c3', if_neg (fun h => c3 h.1)] | rw [if_neg c3, if_neg (fun h => c3 h.1)]
      · have c : ¬ (-1 ≤ F0 ∧ F0 ≤ top - 1 ∧ 0 ≤ F1 ∧ F1 ≤ 7) := fun h => c2 ⟨h.2.2.1, h.2.2.2⟩
        have c2' : decide (0 ≤ F1 ∧ F1 ≤ 7) = false := decide_eq_false c2
        rw [if_pos c1, if_neg c, c2']
        rfl
    · have c : ¬ (-1 ≤ F0 ∧ F0 ≤ top - 1 ∧ 0 ≤ F1 ∧ F1 ≤ 7) := fun h => c1 ⟨h.1, h.2.1⟩
      rw [if_neg c1, if_neg c]
      rfl
theorem implPF_from (l : List S59) (hl : l.length ≤ 1000000000) (top : Int) (h1 : 1 ≤ top) (h2 : top ≤ 24) (d : Nat) : ∀ (k i : Nat), l.length = i + d → 2 * d < k → impl_PagesFault.l0 k top l (l.length : Int) (i : Int) = some (pfl top (l.drop i)) := by
  have ew : wrap64 (top - 1) = top - 1 := by unfold wrap64; omega
  induction d with
  | zero =>
    intro k i hd hk
    obtain ⟨k, rfl⟩ : ∃ m, k = m + 1 := ⟨k - 1, by omega⟩
    simp only [impl_PagesFault.l0]
    rw [if_neg (by omega), List.drop_eq_nil_of_le (by omega)]
    rfl
  | succ d ih =>
    intro k i hd hk
    obtain ⟨k, rfl⟩ : ∃ m, k = m + 1 + 1 := ⟨k - 2, by omega⟩
    have hi : i < l.length := by omega
    have hi' := ih k (i + 1) (by omega) (by omega)
    rw [drop_at l i hi]
    simp only [impl_PagesFault.l0, impl_PagesFault.j1, within_eq, Option.bind_some, ew, decide_eq_true_eq, pfl]
    have p0 : (0 : Int) ≤ (i : Int) := Int.natCast_nonneg _
    have p1 : (i : Int) < (l.length : Int) := by omega
    simp only [rdP_at l i hi, wsucc hi hl, hi', if_pos p0, if_pos p1]
    generalize l[i].f0 = F0
    generalize l[i].f1 = F1
    by_cases c1 : -1 ≤ F0 ∧ F0 ≤ top - 1
    · by_cases c2 : 0 ≤ F1 ∧ F1 ≤ 7
      · have c : -1 ≤ F0 ∧ F0 ≤ top - 1 ∧ 0 ≤ F1 ∧ F1 ≤ 7 := ⟨c1.1, c1.2, c2.1, c2.2⟩
        have c2' : decide (0 ≤ F1 ∧ F1 ≤ 7) = true := decide_eq_true c2
        simp only [if_pos c1, c2', if_pos c, Bool.not_true, Bool.false_eq_true, if_false]
        by_cases c3 : F0 = -1
        · have c3' : F0 < 0 := by omega
          by_cases c4 : F1 = 0
          · first | rw [if_pos c3', if_pos c4, if_neg (fun h => h.2 c4)] | rw [if_pos c3, if_pos c4, if_neg (fun h => h.2 c4)]
          · first | rw [if_pos c3', if_neg c4, if_pos ⟨c3, c4⟩] | rw [if_pos c3, if_neg c4, if_pos ⟨c3, c4⟩]
        · have c3' : ¬ F0 < 0 := by omega
          first | rw [if_neg c3', if_neg (fun h => c3 h.1)] | rw [if_neg c3, if_neg (fun h => c3 h.1)]
      · have c : ¬ (-1 ≤ F0 ∧ F0 ≤ top - 1 ∧ 0 ≤ F1 ∧ F1 ≤ 7) := fun h => c2 ⟨h.2.2.1, h.2.2.2⟩
        have c2' : decide (0 ≤ F1 ∧ F1 ≤ 7) = false := decide_eq_false c2
        rw [if_pos c1, if_neg c, c2']
        rfl
    · have c : ¬ (-1 ≤ F0 ∧ F0 ≤ top - 1 ∧ 0 ≤ F1 ∧ F1 ≤ 7) := fun h => c1 ⟨h.1, h.2.1⟩
      rw [if_neg c1, if_neg c]
      rfl
theorem specPF (k : Nat) (l : List S59) (hl : l.length ≤ 1048576) (top : Int) (hk : 16 < k) : spec_PagesFault.f k l top = some (pf top l) := by
  unfold spec_PagesFault.f pf
  rw [l1In_eq]
  simp only [Option.bind_some, decide_eq_true_eq]
  by_cases c : 1 ≤ top ∧ top ≤ 24
  · rw [if_pos c, if_pos c]
    by_cases h8 : l.length = 8
    · rw [if_pos (by omega), if_pos h8]
      exact specPF_from l (by omega) top c.1 c.2 l.length k 0 (by omega) (by omega)
    · rw [if_neg (by omega), if_neg h8]
  · rw [if_neg c, if_neg c]
theorem implPF (k : Nat) (l : List S59) (hl : l.length ≤ 1048576) (top : Int) (hk : 16 < k) : impl_PagesFault.f k l top = some (pf top l) := by
  unfold impl_PagesFault.f pf
  rw [within_eq]
  simp only [Option.bind_some, decide_eq_true_eq]
  by_cases c : 1 ≤ top ∧ top ≤ 24
  · rw [if_pos c, if_pos c]
    by_cases h8 : l.length = 8
    · rw [if_pos (by omega), if_pos h8]
      exact implPF_from l (by omega) top c.1 c.2 l.length k 0 (by omega) (by omega)
    · rw [if_neg (by omega), if_neg h8]
  · rw [if_neg c, if_neg c]
theorem pfl_ok (top : Int) (l : List S59) (h : pfl top l = 0) : ∀ p ∈ l, (-1 ≤ p.f0 ∧ p.f0 ≤ top - 1 ∧ 0 ≤ p.f1 ∧ p.f1 ≤ 7) ∧ (p.f0 = -1 → p.f1 = 0) := by
  induction l with
  | nil => intro p hp; simp at hp
  | cons q t ih =>
    intro p hp
    unfold pfl at h
    by_cases c : -1 ≤ q.f0 ∧ q.f0 ≤ top - 1 ∧ 0 ≤ q.f1 ∧ q.f1 ≤ 7
    · rw [if_pos c] at h
      by_cases d : q.f0 = -1 ∧ q.f1 ≠ 0
      · rw [if_pos d] at h; exact absurd h (by decide)
      · rw [if_neg d] at h
        rcases List.mem_cons.mp hp with e | e
        · subst e
          exact ⟨c, fun h1 => by
            by_cases h2 : p.f1 = 0
            · exact h2
            · exact absurd ⟨h1, h2⟩ d⟩
        · exact ih h p e
    · rw [if_neg c] at h; exact absurd h (by decide)
theorem pf_ok {top : Int} {l : List S59} (h : pf top l = 0) : l.length = 8 ∧ ∀ p ∈ l, (-1 ≤ p.f0 ∧ p.f0 ≤ top - 1 ∧ 0 ≤ p.f1 ∧ p.f1 ≤ 7) ∧ (p.f0 = -1 → p.f1 = 0) := by
  unfold pf at h
  by_cases c : 1 ≤ top ∧ top ≤ 24
  · rw [if_pos c] at h
    by_cases d : l.length = 8
    · rw [if_pos d] at h
      exact ⟨d, pfl_ok top l h⟩
    · rw [if_neg d] at h; exact absurd h (by decide)
  · rw [if_neg c] at h; exact absurd h (by decide)
def bf (a b : List S59) : Int := if pf 8 a = 0 then pf 24 b else pf 8 a
theorem firstOf_two (k : Nat) (x y : Int) : impl_firstOf.f (k + 3) [x, y] = some (if x = 0 then y else x) := by
  have w0 : wrap64 (0 + 1) = 1 := by unfold wrap64; omega
  have w1 : wrap64 (1 + 1) = 2 := by unfold wrap64; omega
  have r0 : rd [x, y] 0 = x := rfl
  have r1 : rd [x, y] 1 = y := rfl
  have hl : (([x, y] : List Int).length : Int) = 2 := rfl
  unfold impl_firstOf.f
  simp only [impl_firstOf.l0, hl, w0, w1, r0, r1]
  rw [if_pos (show (0 : Int) < 2 by decide), if_pos (show (0 : Int) ≤ 0 by decide), if_pos (show (0 : Int) < 2 by decide)]
  by_cases h : x = 0
  · rw [if_pos h, if_pos h, if_pos (show (1 : Int) < 2 by decide), if_pos (show (0 : Int) ≤ 1 by decide), if_pos (show (1 : Int) < 2 by decide)]
    by_cases g : y = 0
    · rw [if_pos g, if_neg (show ¬ (2 : Int) < 2 by decide), g]
    · rw [if_neg g]
  · rw [if_neg h, if_neg h]
theorem implBF (k : Nat) (a b : List S59) (ha : a.length ≤ 1048576) (hb : b.length ≤ 1048576) (hk : 20 < k) : impl_bothFault.f k a b = some (bf a b) := by
  obtain ⟨m, rfl⟩ : ∃ m, k = m + 3 := ⟨k - 3, by omega⟩
  unfold impl_bothFault.f bf
  rw [implPF _ a ha 8 (by omega), Option.bind_some, implPF _ b hb 24 (by omega), Option.bind_some, firstOf_two, Option.bind_some]
theorem specBF (k : Nat) (a b : List S59) (ha : a.length ≤ 1048576) (hb : b.length ≤ 1048576) (hk : 20 < k) : spec_l4Both.f k a b = some (bf a b) := by
  unfold spec_l4Both.f bf
  rw [specPF _ a ha 8 (by omega), Option.bind_some]
  by_cases h : pf 8 a = 0
  · rw [if_pos h, if_pos h, specPF _ b hb 24 (by omega), Option.bind_some]
  · rw [if_neg h, if_neg h]
def cell (b : List S59) (p : S59) : S59 :=
  if p.f0 ≥ 0 then (if (rd_T59 b p.f0).f0 ≥ 0 then (if Go.bits .and .i64 p.f1 (rd_T59 b p.f0).f1 = 0 then ⟨-1, 0⟩ else ⟨(rd_T59 b p.f0).f0, Go.bits .and .i64 p.f1 (rd_T59 b p.f0).f1⟩) else ⟨-1, 0⟩) else ⟨-1, 0⟩
def comp (a b : List S59) : Int × List S59 := if bf a b = 0 then (0, a.map (cell b)) else (bf a b, [])
theorem bf_ok {a b : List S59} (h : bf a b = 0) : pf 8 a = 0 ∧ pf 24 b = 0 := by
  unfold bf at h
  by_cases c : pf 8 a = 0
  · rw [if_pos c] at h; exact ⟨c, h⟩
  · rw [if_neg c] at h; exact absurd h c
theorem comp_len (a b : List S59) : (comp a b).2.length ≤ 8 := by
  unfold comp
  by_cases h : bf a b = 0
  · rw [if_pos h]
    have := (pf_ok (bf_ok h).1).1
    simp [this]
  · rw [if_neg h]; simp
theorem cell_take (b l : List S59) (i : Nat) (h : i < l.length) : (l.take i).map (cell b) ++ [cell b l[i]] = (l.take (i + 1)).map (cell b) := by
  rw [List.take_succ_eq_append_getElem h, List.map_append]
  rfl
theorem specCP_from (b l : List S59) (hb : b.length = 8) (hl : l.length = 8) (hp : ∀ p ∈ l, -1 ≤ p.f0 ∧ p.f0 ≤ 7) (d : Nat) : ∀ (k i : Nat), l.length = i + d → d < k →
    spec_ComposePages.l0 k l b (i : Int) 0 ((l.take i).map (cell b)) = some (0, l.map (cell b)) := by
  induction d with
  | zero =>
    intro k i hd hk
    obtain ⟨k, rfl⟩ : ∃ m, k = m + 1 := ⟨k - 1, by omega⟩
    simp only [spec_ComposePages.l0]
    rw [if_neg (by omega), List.take_of_length_le (by omega)]
  | succ d ih =>
    intro k i hd hk
    obtain ⟨k, rfl⟩ : ∃ m, k = m + 1 := ⟨k - 1, by omega⟩
    have hi : i < l.length := by omega
    have hi' := ih k (i + 1) (by omega) (by omega)
    have hlen : ((l.take i).map (cell b)).length < 8796093022208 := by rw [List.length_map, List.length_take]; omega
    have p0 : (i : Int) < (l.length : Int) := by omega
    have p1 : (0 : Int) ≤ (i : Int) := by omega
    have hx := hp l[i] (List.getElem_mem hi)
    rw [← cell_take b l i hi] at hi'
    simp only [spec_ComposePages.l0, spec_l4None.f, Option.bind_some]
    rw [if_pos p0, if_pos p1, rdP_at l i hi, wsucc hi (by omega), if_pos hlen, if_pos hlen]
    generalize l[i] = P at *
    unfold cell at hi' ⊢
    by_cases c1 : P.f0 ≥ 0
    · have c2 : P.f0 < (b.length : Int) := by omega
      rw [if_pos c1] at hi' ⊢
      rw [if_pos c1, if_pos c2]
      by_cases c3 : (rd_T59 b P.f0).f0 ≥ 0
      · rw [if_pos c3] at hi' ⊢
        by_cases c4 : Go.bits .and .i64 P.f1 (rd_T59 b P.f0).f1 = 0
        · rw [if_pos c4] at hi' ⊢
          exact hi'
        · rw [if_neg c4] at hi' ⊢
          exact hi'
      · rw [if_neg c3] at hi' ⊢
        exact hi'
    · rw [if_neg c1] at hi' ⊢
      exact hi'
theorem implCP_from (b l : List S59) (hb : b.length = 8) (hl : l.length = 8) (hp : ∀ p ∈ l, -1 ≤ p.f0 ∧ p.f0 ≤ 7) (d : Nat) : ∀ (k i : Nat), l.length = i + d → d < k →
    impl_ComposePages.l0 k b ((l.take i).map (cell b)) l (l.length : Int) (i : Int) = some (0, l.map (cell b)) := by
  induction d with
  | zero =>
    intro k i hd hk
    obtain ⟨k, rfl⟩ : ∃ m, k = m + 1 := ⟨k - 1, by omega⟩
    simp only [impl_ComposePages.l0]
    rw [if_neg (by omega), List.take_of_length_le (by omega)]
  | succ d ih =>
    intro k i hd hk
    obtain ⟨k, rfl⟩ : ∃ m, k = m + 1 := ⟨k - 1, by omega⟩
    have hi : i < l.length := by omega
    have hi' := ih k (i + 1) (by omega) (by omega)
    have hlen : ((l.take i).map (cell b)).length < 8796093022208 := by rw [List.length_map, List.length_take]; omega
    have p0 : (i : Int) < (l.length : Int) := by omega
    have p1 : (0 : Int) ≤ (i : Int) := by omega
    have hx := hp l[i] (List.getElem_mem hi)
    rw [← cell_take b l i hi] at hi'
    simp only [impl_ComposePages.l0, impl_nowhere.f, Option.bind_some]
    rw [if_pos p0, if_pos p1, if_pos p0, rdP_at l i hi, wsucc hi (by omega), if_pos hlen, if_pos hlen]
    generalize l[i] = P at *
    unfold cell at hi' ⊢
    by_cases c1 : P.f0 ≥ 0
    · have c2 : P.f0 < (b.length : Int) := by omega
      rw [if_pos c1] at hi' ⊢
      rw [if_pos c1, if_pos c2]
      by_cases c3 : (rd_T59 b P.f0).f0 ≥ 0
      · rw [if_pos c3] at hi' ⊢
        by_cases c4 : Go.bits .and .i64 P.f1 (rd_T59 b P.f0).f1 = 0
        · rw [if_pos c4] at hi' ⊢
          exact hi'
        · rw [if_neg c4] at hi' ⊢
          exact hi'
      · rw [if_neg c3] at hi' ⊢
        exact hi'
    · rw [if_neg c1] at hi' ⊢
      exact hi'
theorem specCP (k : Nat) (a b : List S59) (ha : a.length ≤ 1048576) (hb : b.length ≤ 1048576) (hk : 20 < k) : spec_ComposePages.f k a b = some (comp a b) := by
  unfold spec_ComposePages.f comp
  rw [specBF k a b ha hb hk, Option.bind_some]
  by_cases h : bf a b = 0
  · obtain ⟨h1, h2⟩ := bf_ok h
    obtain ⟨l8, hp⟩ := pf_ok h1
    rw [if_pos h, if_pos h]
    exact specCP_from b a (pf_ok h2).1 l8 (fun p hq => by have := (hp p hq).1; omega) a.length k 0 (by omega) (by omega)
  · rw [if_neg h, if_neg h]
theorem implCP (k : Nat) (a b : List S59) (ha : a.length ≤ 1048576) (hb : b.length ≤ 1048576) (hk : 20 < k) : impl_ComposePages.f k a b = some (comp a b) := by
  unfold impl_ComposePages.f comp
  rw [implBF k a b ha hb hk, Option.bind_some]
  by_cases h : bf a b = 0
  · obtain ⟨h1, h2⟩ := bf_ok h
    obtain ⟨l8, hp⟩ := pf_ok h1
    rw [if_pos h, if_pos h]
    exact implCP_from b a (pf_ok h2).1 l8 (fun p hq => by have := (hp p hq).1; omega) a.length k 0 (by omega) (by omega)
  · rw [if_neg h, if_neg h]
theorem last_is (k : Nat) (hk : 200 < k) (l r : List S65) (hl : l.length ≤ 1048576) (hr : r.length ≤ 1048576) (hlk : l.length < k) (hrk : r.length < k) : laws_FnExactComposePages.j0 (k + 1) l r false (comp (l.map toP) (r.map toP)).1 (comp (l.map toP) (r.map toP)).2 (comp (l.map toP) (r.map toP)).1 (comp (l.map toP) (r.map toP)).2 = some true := by
  have h2 := comp_len (l.map toP) (r.map toP)
  simp only [laws_FnExactComposePages.j0]
  have h3 : ¬ (1 + 2 * ((comp (l.map toP) (r.map toP)).2.length : Int)) < 0 := by omega
  rw [if_neg (by decide), markPR _ _ _ (by omega) (by omega), Option.bind_some]
  dsimp only
  rw [heldPR _ _ _ (by omega) (by omega), Option.bind_some, if_neg h3, if_pos rfl, toP_is _ l hl (by omega), Option.bind_some, toP_is _ r hr (by omega), Option.bind_some, implCP k _ _ (by simp; omega) (by simp; omega) (by omega), Option.bind_some, eqPR_self _ _ _ (by omega) (by omega), Option.bind_some, if_pos rfl, Option.bind_some, if_neg h3, if_pos rfl]
theorem FnExactComposePages : laws_FnExactComposePages.Pure := by
  intro l r hm hw hm2 hw2
  refine ⟨l.length + r.length + 300, ?_⟩
  unfold laws_FnExactComposePages.f
  have hz := szP 1048576 l hm (by omega)
  rw [show ((1048576 : Nat) : Int) = 1048576 from rfl] at hz
  rw [hz, Option.bind_some]
  by_cases hb : 1048576 < l.length
  · rw [if_pos hb, if_pos (by omega)]
  have hz2 := szP (1048576 - l.length) r hm2 (by omega)
  rw [if_neg hb, if_neg (by omega), hz2, Option.bind_some]
  by_cases hb2 : 1048576 - l.length < r.length
  · rw [if_pos hb2, if_pos (by omega)]
  have hl : l.length ≤ 1048576 := by omega
  have hr : r.length ≤ 1048576 := by omega
  have h2 := comp_len (l.map toP) (r.map toP)
  have hl' : (l.map toP).length ≤ 1048576 := by rw [List.length_map]; exact hl
  have hr' : (r.map toP).length ≤ 1048576 := by rw [List.length_map]; exact hr
  rw [if_neg hb2, if_neg (by omega), toP_is _ l hl (by omega), Option.bind_some, toP_is _ r hr (by omega), Option.bind_some, specCP _ _ _ hl' hr' (by omega), Option.bind_some, Option.bind_some, Option.bind_some, implCP _ _ _ hl' hr' (by omega), Option.bind_some, eqPR_self _ _ _ (by omega) (by omega), Option.bind_some, if_pos rfl, Option.bind_some, eqP_self _ _ hl' (by rw [List.length_map]; omega), Option.bind_some, if_pos rfl, Option.bind_some, eqP_self _ _ hr' (by rw [List.length_map]; omega), Option.bind_some, if_pos rfl, markP_is _ _ 1 (by omega) (by rw [List.length_map]; omega) (by omega) (by omega), Option.bind_some]
  dsimp only
  rw [markP_is _ _ _ (by omega) (by rw [List.length_map]; omega) (by omega) (by omega), Option.bind_some]
  dsimp only
  rw [if_neg (by omega), Option.bind_some]
  exact last_is (l.length + r.length + 299) (by omega) l r hl hr (by omega) (by omega)

end Go.Proofs.Ytjeokjjlhpocdaa.Pure
