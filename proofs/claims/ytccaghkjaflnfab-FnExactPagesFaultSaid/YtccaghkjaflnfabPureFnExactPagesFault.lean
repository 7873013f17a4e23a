/- PagesFault of the program and of the reference tell the same, and the list stays, for every list of pages and every top. No condition. -/
import Derived.Test.YtccaghkjaflnfabPFnExactPagesFaultx2
import Derived.Test.YtccaghkjaflnfabLem
namespace Go.Proofs.Ytccaghkjaflnfab.Pure
open Go.RowKit Go.Proofs.Ytccaghkjaflnfab.PFnExactPagesFault Go.Proofs.YtccaghkjaflnfabW.PrintWords Go.Proofs.YtccaghkjaflnfabW.PrintLast Go.Proofs.YtccaghkjaflnfabW.PrintMore
open Go.Proofs.Ytccaghkjaflnfab.Lem
set_option linter.unusedVariables false
set_option linter.unusedSimpArgs false
theorem within_eq (a x y : Int) : impl_within.f a x y = some (decide (x ≤ a ∧ a ≤ y)) := by
  unfold impl_within.f
  split <;> rename_i h <;> simp <;> omega
theorem l1In_eq (a x y : Int) : spec_l1In.f a x y = some (decide (x ≤ a ∧ a ≤ y)) := by
  unfold spec_l1In.f
  split <;> rename_i h <;> simp <;> omega
def toP (x : S79) : S57 := ⟨x.f0, x.f1⟩
theorem rdP_at (l : List S57) (i : Nat) (h : i < l.length) : rd_T57 l (i : Int) = l[i] := by
  unfold rd_T57
  rw [Int.toNat_natCast, List.getD_eq_getElem?_getD, List.getElem?_eq_getElem h]
  rfl
theorem rdQ_at (l : List S79) (i : Nat) (h : i < l.length) : rd_T79 l (i : Int) = l[i] := by
  unfold rd_T79
  rw [Int.toNat_natCast, List.getD_eq_getElem?_getD, List.getElem?_eq_getElem h]
  rfl
theorem wsucc {i n : Nat} (h : i < n) (hn : n ≤ 1000000000) : wrap64 ((i : Int) + 1) = ((i + 1 : Nat) : Int) := by unfold wrap64; omega
theorem toP_from (l : List S79) (hl : l.length ≤ 1000000000) (d : Nat) : ∀ (k : Nat) (xs : List S57) (i : Nat), xs.length = l.length → l.length = i + d → (∀ j, j < i → xs[j]? = (l.map toP)[j]?) → d < k →
    laws_toPageS.l0 k l xs (i : Int) = some (l.map toP) := by
  induction d with
  | zero =>
    intro k xs i hx hd hp hk
    obtain ⟨k, rfl⟩ : ∃ m, k = m + 1 := ⟨k - 1, by omega⟩
    simp only [laws_toPageS.l0]
    rw [if_neg (by omega)]
    refine congrArg some (List.ext_getElem? fun j => ?_)
    by_cases hj : j < i
    · exact hp j hj
    · rw [List.getElem?_eq_none (by omega), List.getElem?_eq_none (by rw [List.length_map]; omega)]
  | succ d ih =>
    intro k xs i hx hd hp hk
    obtain ⟨k, rfl⟩ : ∃ m, k = m + 1 := ⟨k - 1, by omega⟩
    simp only [laws_toPageS.l0, laws_toPage.f, Option.bind_some]
    have hi : i < l.length := by omega
    rw [if_pos (by omega), if_pos (by omega), if_pos (by omega), rdQ_at l i hi, wsucc hi hl, Int.toNat_natCast]
    refine ih k _ (i + 1) (by simpa using hx) (by omega) (fun j hj => ?_) (by omega)
    rw [List.getElem?_set]
    by_cases e : i = j
    · subst e
      rw [if_pos rfl, if_pos (by omega), List.getElem?_map, List.getElem?_eq_getElem hi]
      rfl
    · rw [if_neg e]
      exact hp j (by omega)
theorem toP_is (k : Nat) (l : List S79) (hl : l.length ≤ 1048576) (hk : l.length < k) : laws_toPageS.f k l = some (l.map toP) := by
  unfold laws_toPageS.f
  have e : ((l.length : Int)).toNat = l.length := by omega
  rw [if_pos (by omega), e, if_pos (by omega)]
  exact toP_from l (by omega) l.length k _ 0 (by simp) (by omega) (fun j hj => by omega) hk
theorem eqP_from (l : List S57) (hl : l.length ≤ 1000000000) (d : Nat) : ∀ (k i : Nat), l.length = i + d → d < k → laws_eqPageS.l0 k l l (i : Int) = some true := by
  induction d with
  | zero =>
    intro k i hd hk
    obtain ⟨k, rfl⟩ : ∃ m, k = m + 1 := ⟨k - 1, by omega⟩
    simp only [laws_eqPageS.l0]
    rw [if_neg (by omega)]
  | succ d ih =>
    intro k i hd hk
    obtain ⟨k, rfl⟩ : ∃ m, k = m + 1 := ⟨k - 1, by omega⟩
    have hi : i < l.length := by omega
    have e : ∀ a b : Int, laws_eqPage.f a b a b = some true := fun a b => by unfold laws_eqPage.f; rw [if_pos rfl, if_pos rfl]
    simp only [laws_eqPageS.l0, e, Option.bind_some]
    rw [if_pos (by omega), if_pos (by omega), if_pos (by omega), if_pos trivial, wsucc hi hl]
    exact ih k (i + 1) (by omega) (by omega)
theorem eqP_self (k : Nat) (l : List S57) (hl : l.length ≤ 1048576) (hk : l.length < k) : laws_eqPageS.f k l l = some true := by
  unfold laws_eqPageS.f
  rw [if_pos rfl]
  exact eqP_from l (by omega) l.length k 0 (by omega) hk
theorem szP (n : Nat) (l : List S79) (hm : l.length ≤ maxLen) (hn : n ≤ 1048576) : laws_szPageS.f l (n : Int) = some (if n < l.length then -1 else ((n - l.length : Nat) : Int)) := by
  unfold maxLen at hm
  have e : wrap64 ((n : Int) - (l.length : Int)) = (n : Int) - (l.length : Int) := by unfold wrap64; omega
  unfold laws_szPageS.f
  rw [e]
  by_cases h : n < l.length
  · rw [if_pos (by omega), if_pos h]
  · rw [if_neg (by omega), if_neg h]
    exact congrArg some (by omega)
def pfl (top : Int) : List S57 → Int
  | [] => 0
  | p :: t => if -1 ≤ p.f0 ∧ p.f0 ≤ top - 1 ∧ 0 ≤ p.f1 ∧ p.f1 ≤ 7 then (if p.f0 = -1 ∧ p.f1 ≠ 0 then 1 else pfl top t) else 3
def pf (top : Int) (l : List S57) : Int := if 1 ≤ top ∧ top ≤ 24 then (if l.length = 8 then pfl top l else 1) else 3
theorem drop_at {α : Type} (l : List α) (i : Nat) (h : i < l.length) : l.drop i = l[i] :: l.drop (i + 1) := List.drop_eq_getElem_cons h
theorem specPF_from (l : List S57) (hl : l.length ≤ 1000000000) (top : Int) (h1 : 1 ≤ top) (h2 : top ≤ 24) (d : Nat) : ∀ (k i : Nat), l.length = i + d → 2 * d < k → spec_PagesFault.l0 k l top (i : Int) = some (pfl top (l.drop i)) := by
  have ew : wrap64 (top - 1) = top - 1 := by unfold wrap64; omega
  induction d with
  | zero =>
    intro k i hd hk
    obtain ⟨k, rfl⟩ : ∃ m, k = m + 1 := ⟨k - 1, by omega⟩
    simp only [spec_PagesFault.l0]
    rw [if_neg (by omega), List.drop_eq_nil_of_le (by omega)]
    rfl
  | succ d ih =>
    intro k i hd hk
    obtain ⟨k, rfl⟩ : ∃ m, k = m + 1 + 1 := ⟨k - 2, by omega⟩
    have hi : i < l.length := by omega
    have hi' := ih k (i + 1) (by omega) (by omega)
    rw [drop_at l i hi]
    simp only [spec_PagesFault.l0, spec_PagesFault.j1, l1In_eq, Option.bind_some, ew, decide_eq_true_eq, pfl]
    have p0 : (0 : Int) ≤ (i : Int) := Int.natCast_nonneg _
    have p1 : (i : Int) < (l.length : Int) := by omega
    simp only [rdP_at l i hi, wsucc hi hl, hi', if_pos p0, if_pos p1]
    generalize l[i].f0 = F0
    generalize l[i].f1 = F1
    by_cases c1 : -1 ≤ F0 ∧ F0 ≤ top - 1
    · by_cases c2 : 0 ≤ F1 ∧ F1 ≤ 7
      · have c : -1 ≤ F0 ∧ F0 ≤ top - 1 ∧ 0 ≤ F1 ∧ F1 ≤ 7 := ⟨c1.1, c1.2, c2.1, c2.2⟩
        have c2' : decide (0 ≤ F1 ∧ F1 ≤ 7) = true := decide_eq_true c2
        simp only [if_pos c1, c2', if_pos c, Bool.not_true, Bool.false_eq_true, if_false]
        by_cases c3 : F0 = -1
        · have c3' : F0 < 0 := by omega
          by_cases c4 : F1 = 0
          · first | rw [if_pos c3', if_pos c4, if_neg (fun h => h.2 c4)] | rw [if_pos c3, if_pos c4, if_neg (fun h => h.2 c4)]
          · first | rw [if_pos c3', if_neg c4, if_pos ⟨c3, c4⟩] | rw [if_pos c3, if_neg c4, if_pos ⟨c3, c4⟩]
        · have c3' : ¬ F0 < 0 := by omega
          first | rw [if_neg c3', if_neg (fun h => c3 h.1)] | rw [if_neg c3, if_neg (fun h => c3 h.1)]
      · have c : ¬ (-1 ≤ F0 ∧ F0 ≤ top - 1 ∧ 0 ≤ F1 ∧ F1 ≤ 7) := fun h => c2 ⟨h.2.2.1, h.2.2.2⟩
        have c2' : decide (0 ≤ F1 ∧ F1 ≤ 7) = false := decide_eq_false c2
        rw [if_pos c1, if_neg c, c2']
        rfl
    · have c : ¬ (-1 ≤ F0 ∧ F0 ≤ top - 1 ∧ 0 ≤ F1 ∧ F1 ≤ 7) := fun h => c1 ⟨h.1, h.2.1⟩
      rw [if_neg c1, if_neg c]
      rfl
theorem implPF_from (l : List S57) (hl : l.length ≤ 1000000000) (top : Int) (h1 : 1 ≤ top) (h2 : top ≤ 24) (d : Nat) : ∀ (k i : Nat), l.length = i + d → 2 * d < k → impl_PagesFault.l0 k top l (l.length : Int) (i : Int) = some (pfl top (l.drop i)) := by
  have ew : wrap64 (top - 1) = top - 1 := by unfold wrap64; omega
  induction d with
  | zero =>
    intro k i hd hk
    obtain ⟨k, rfl⟩ : ∃ m, k = m + 1 := ⟨k - 1, by omega⟩
    simp only [impl_PagesFault.l0]
    rw [if_neg (by omega), List.drop_eq_nil_of_le (by omega)]
    rfl
  | succ d ih =>
    intro k i hd hk
    obtain ⟨k, rfl⟩ : ∃ m, k = m + 1 + 1 := ⟨k - 2, by omega⟩
    have hi : i < l.length := by omega
    have hi' := ih k (i + 1) (by omega) (by omega)
    rw [drop_at l i hi]
    simp only [impl_PagesFault.l0, impl_PagesFault.j1, within_eq, Option.bind_some, ew, decide_eq_true_eq, pfl]
    have p0 : (0 : Int) ≤ (i : Int) := Int.natCast_nonneg _
    have p1 : (i : Int) < (l.length : Int) := by omega
    simp only [rdP_at l i hi, wsucc hi hl, hi', if_pos p0, if_pos p1]
    generalize l[i].f0 = F0
    generalize l[i].f1 = F1
    by_cases c1 : -1 ≤ F0 ∧ F0 ≤ top - 1
    · by_cases c2 : 0 ≤ F1 ∧ F1 ≤ 7
      · have c : -1 ≤ F0 ∧ F0 ≤ top - 1 ∧ 0 ≤ F1 ∧ F1 ≤ 7 := ⟨c1.1, c1.2, c2.1, c2.2⟩
        have c2' : decide (0 ≤ F1 ∧ F1 ≤ 7) = true := decide_eq_true c2
        simp only [if_pos c1, c2', if_pos c, Bool.not_true, Bool.false_eq_true, if_false]
        by_cases c3 : F0 = -1
        · have c3' : F0 < 0 := by omega
          by_cases c4 : F1 = 0
          · first | rw [if_pos c3', if_pos c4, if_neg (fun h => h.2 c4)] | rw [if_pos c3, if_pos c4, if_neg (fun h => h.2 c4)]
          · first | rw [if_pos c3', if_neg c4, if_pos ⟨c3, c4⟩] | rw [if_pos c3, if_neg c4, if_pos ⟨c3, c4⟩]
        · have c3' : ¬ F0 < 0 := by omega
          first | rw [if_neg c3', if_neg (fun h => c3 h.1)] | rw [if_neg c3, if_neg (fun h => c3 h.1)]
      · have c : ¬ (-1 ≤ F0 ∧ F0 ≤ top - 1 ∧ 0 ≤ F1 ∧ F1 ≤ 7) := fun h => c2 ⟨h.2.2.1, h.2.2.2⟩
        have c2' : decide (0 ≤ F1 ∧ F1 ≤ 7) = false := decide_eq_false c2
        rw [if_pos c1, if_neg c, c2']
        rfl
    · have c : ¬ (-1 ≤ F0 ∧ F0 ≤ top - 1 ∧ 0 ≤ F1 ∧ F1 ≤ 7) := fun h => c1 ⟨h.1, h.2.1⟩
      rw [if_neg c1, if_neg c]
      rfl
theorem specPF (k : Nat) (l : List S57) (hl : l.length ≤ 1048576) (top : Int) (hk : 16 < k) : spec_PagesFault.f k l top = some (pf top l) := by
  unfold spec_PagesFault.f pf
  rw [l1In_eq]
  simp only [Option.bind_some, decide_eq_true_eq]
  by_cases c : 1 ≤ top ∧ top ≤ 24
  · rw [if_pos c, if_pos c]
    by_cases h8 : l.length = 8
    · rw [if_pos (by omega), if_pos h8]
      exact specPF_from l (by omega) top c.1 c.2 l.length k 0 (by omega) (by omega)
    · rw [if_neg (by omega), if_neg h8]
  · rw [if_neg c, if_neg c]
theorem implPF (k : Nat) (l : List S57) (hl : l.length ≤ 1048576) (top : Int) (hk : 16 < k) : impl_PagesFault.f k l top = some (pf top l) := by
  unfold impl_PagesFault.f pf
  rw [within_eq]
  simp only [Option.bind_some, decide_eq_true_eq]
  by_cases c : 1 ≤ top ∧ top ≤ 24
  · rw [if_pos c, if_pos c]
    by_cases h8 : l.length = 8
    · rw [if_pos (by omega), if_pos h8]
      exact implPF_from l (by omega) top c.1 c.2 l.length k 0 (by omega) (by omega)
    · rw [if_neg (by omega), if_neg h8]
  · rw [if_neg c, if_neg c]
theorem FnExactPagesFault : laws_FnExactPagesFault.Pure := by
  intro l top hm hw _
  refine ⟨l.length + 20, ?_⟩
  unfold laws_FnExactPagesFault.f
  have hz := szP 1048576 l hm (by omega)
  rw [show ((1048576 : Nat) : Int) = 1048576 from rfl] at hz
  rw [hz, Option.bind_some]
  by_cases hb : 1048576 < l.length
  · rw [if_pos hb, if_pos (by omega)]
  rw [if_neg hb, if_neg (by omega), toP_is _ l (by omega) (by omega), Option.bind_some, specPF _ _ (by simp; omega) _ (by omega), Option.bind_some, Option.bind_some, implPF _ _ (by simp; omega) _ (by omega), Option.bind_some, if_pos rfl, Option.bind_some, eqP_self _ _ (by simp; omega) (by simp), Option.bind_some, if_pos rfl]

end Go.Proofs.Ytccaghkjaflnfab.Pure
