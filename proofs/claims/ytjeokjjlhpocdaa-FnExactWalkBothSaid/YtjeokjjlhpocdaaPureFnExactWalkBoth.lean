/- WalkBoth of the program and of the reference tell the same, and both lists stay, for all lists of pages, places and kinds. No condition. -/
import Derived.Test.YtjeokjjlhpocdaaPFnExactWalkBothx3
import Derived.Test.YtjeokjjlhpocdaaLem
namespace Go.Proofs.Ytjeokjjlhpocdaa.Pure
open Go.RowKit Go.Proofs.Ytjeokjjlhpocdaa.PFnExactWalkBoth Go.Proofs.YtjeokjjlhpocdaaW.PrintWords Go.Proofs.YtjeokjjlhpocdaaW.PrintLast Go.Proofs.YtjeokjjlhpocdaaW.PrintMore
open Go.Proofs.Ytjeokjjlhpocdaa.Lem
set_option linter.unusedVariables false
set_option linter.unusedSimpArgs false
theorem within_eq (a x y : Int) : impl_within.f a x y = some (decide (x ≤ a ∧ a ≤ y)) := by
  unfold impl_within.f
  split <;> rename_i h <;> simp <;> omega
theorem l1In_eq (a x y : Int) : spec_l1In.f a x y = some (decide (x ≤ a ∧ a ≤ y)) := by
  unfold spec_l1In.f
  split <;> rename_i h <;> simp <;> omega
def toP (x : S65) : S59 := ⟨x.f0, x.f1⟩
theorem rdP_at (l : List S59) (i : Nat) (h : i < l.length) : rd_T59 l (i : Int) = l[i] := by
  unfold rd_T59
  rw [Int.toNat_natCast, List.getD_eq_getElem?_getD, List.getElem?_eq_getElem h]
  rfl
theorem rdQ_at (l : List S65) (i : Nat) (h : i < l.length) : rd_T65 l (i : Int) = l[i] := by
  unfold rd_T65
  rw [Int.toNat_natCast, List.getD_eq_getElem?_getD, List.getElem?_eq_getElem h]
  rfl
theorem wsucc {i n : Nat} (h : i < n) (hn : n ≤ 1000000000) : wrap64 ((i : Int) + 1) = ((i + 1 : Nat) : Int) := by unfold wrap64; omega
theorem toP_from (l : List S65) (hl : l.length ≤ 1000000000) (d : Nat) : ∀ (k : Nat) (xs : List S59) (i : Nat), xs.length = l.length → l.length = i + d → (∀ j, j < i → xs[j]? = (l.map toP)[j]?) → d < k →
    laws_toPageS.l0 k l xs (i : Int) = some (l.map toP) := by
  induction d with
  | zero =>
    intro k xs i hx hd hp hk
    obtain ⟨k, rfl⟩ : ∃ m, k = m + 1 := ⟨k - 1, by omega⟩
    simp only [laws_toPageS.l0]
    rw [if_neg (by omega)]
    refine congrArg some (List.ext_getElem? fun j => ?_)
    by_cases hj : j < i
    · exact hp j hj
    · rw [List.getElem?_eq_none (by omega), List.getElem?_eq_none (by rw [List.length_map]; omega)]
  | succ d ih =>
    intro k xs i hx hd hp hk
    obtain ⟨k, rfl⟩ : ∃ m, k = m + 1 := ⟨k - 1, by omega⟩
    simp only [laws_toPageS.l0, laws_toPage.f, Option.bind_some]
    have hi : i < l.length := by omega
    rw [if_pos (by omega), if_pos (by omega), if_pos (by omega), rdQ_at l i hi, wsucc hi hl, Int.toNat_natCast]
    refine ih k _ (i + 1) (by simpa using hx) (by omega) (fun j hj => ?_) (by omega)
    rw [List.getElem?_set]
    by_cases e : i = j
    · subst e
      rw [if_pos rfl, if_pos (by omega), List.getElem?_map, List.getElem?_eq_getElem hi]
      rfl
    · rw [if_neg e]
      exact hp j (by omega)
theorem toP_is (k : Nat) (l : List S65) (hl : l.length ≤ 1048576) (hk : l.length < k) : laws_toPageS.f k l = some (l.map toP) := by
  unfold laws_toPageS.f
  have e : ((l.length : Int)).toNat = l.length := by omega
  rw [if_pos (by omega), e, if_pos (by omega)]
  exact toP_from l (by omega) l.length k _ 0 (by simp) (by omega) (fun j hj => by omega) hk
theorem eqP_from (l : List S59) (hl : l.length ≤ 1000000000) (d : Nat) : ∀ (k i : Nat), l.length = i + d → d < k → laws_eqPageS.l0 k l l (i : Int) = some true := by
  induction d with
  | zero =>
    intro k i hd hk
    obtain ⟨k, rfl⟩ : ∃ m, k = m + 1 := ⟨k - 1, by omega⟩
    simp only [laws_eqPageS.l0]
    rw [if_neg (by omega)]
  | succ d ih =>
    intro k i hd hk
    obtain ⟨k, rfl⟩ : ∃ m, k = m + 1 := ⟨k - 1, by omega⟩
    have hi : i < l.length := by omega
    have e : ∀ a b : Int, laws_eqPage.f a b a b = some true := fun a b => by unfold laws_eqPage.f; rw [if_pos rfl, if_pos rfl]
    simp only [laws_eqPageS.l0, e, Option.bind_some]
    rw [if_pos (by omega), if_pos (by omega), if_pos (by omega), if_pos trivial, wsucc hi hl]
    exact ih k (i + 1) (by omega) (by omega)
theorem eqP_self (k : Nat) (l : List S59) (hl : l.length ≤ 1048576) (hk : l.length < k) : laws_eqPageS.f k l l = some true := by
  unfold laws_eqPageS.f
  rw [if_pos rfl]
  exact eqP_from l (by omega) l.length k 0 (by omega) hk
theorem szP (n : Nat) (l : List S65) (hm : l.length ≤ maxLen) (hn : n ≤ 1048576) : laws_szPageS.f l (n : Int) = some (if n < l.length then -1 else ((n - l.length : Nat) : Int)) := by
  unfold maxLen at hm
  have e : wrap64 ((n : Int) - (l.length : Int)) = (n : Int) - (l.length : Int) := by unfold wrap64; omega
  unfold laws_szPageS.f
  rw [e]
  by_cases h : n < l.length
  · rw [if_pos (by omega), if_pos h]
  · rw [if_neg (by omega), if_neg h]
    exact congrArg some (by omega)
def pfl (top : Int) : List S59 → Int
  | [] => 0
  | p :: t => if -1 ≤ p.f0 ∧ p.f0 ≤ top - 1 ∧ 0 ≤ p.f1 ∧ p.f1 ≤ 7 then (if p.f0 = -1 ∧ p.f1 ≠ 0 then 1 else pfl top t) else 3
def pf (top : Int) (l : List S59) : Int := if 1 ≤ top ∧ top ≤ 24 then (if l.length = 8 then pfl top l else 1) else 3
theorem drop_at {α : Type} (l : List α) (i : Nat) (h : i < l.length) : l.drop i = l[i] :: l.drop (i + 1) := List.drop_eq_getElem_cons h
theorem specPF_from (l : List S59) (hl : l.length ≤ 1000000000) (top : Int) (h1 : 1 ≤ top) (h2 : top ≤ 24) (d : Nat) : ∀ (k i : Nat), l.length = i + d → 2 * d < k → spec_PagesFault.l0 k l top (i : Int) = some (pfl top (l.drop i)) := by
  have ew : wrap64 (top - 1) = top - 1 := by unfold wrap64; omega
  induction d with
  | zero =>
    intro k i hd hk
    obtain ⟨k, rfl⟩ : ∃ m, k = m + 1 := ⟨k - 1, by omega⟩
    simp only [spec_PagesFault.l0]
    rw [if_neg (by omega), List.drop_eq_nil_of_le (by omega)]
    rfl
  | succ d ih =>
    intro k i hd hk
    obtain ⟨k, rfl⟩ : ∃ m, k = m + 1 + 1 := ⟨k - 2, by omega⟩
    have hi : i < l.length := by omega
    have hi' := ih k (i + 1) (by omega) (by omega)
    rw [drop_at l i hi]
    simp only [spec_PagesFault.l0, spec_PagesFault.j1, l1In_eq, Option.bind_some, ew, decide_eq_true_eq, pfl]
    have p0 : (0 : Int) ≤ (i : Int) := Int.natCast_nonneg _
    have p1 : (i : Int) < (l.length : Int) := by omega
    simp only [rdP_at l i hi, wsucc hi hl, hi', if_pos p0, if_pos p1]
    generalize l[i].f0 = F0
    generalize l[i].f1 = F1
    by_cases c1 : -1 ≤ F0 ∧ F0 ≤ top - 1
    · by_cases c2 : 0 ≤ F1 ∧ F1 ≤ 7
      · have c : -1 ≤ F0 ∧ F0 ≤ top - 1 ∧ 0 ≤ F1 ∧ F1 ≤ 7 := ⟨c1.1, c1.2, c2.1, c2.2⟩
        have c2' : decide (0 ≤ F1 ∧ F1 ≤ 7) = true := decide_eq_true c2
        simp only [if_pos c1, c2', if_pos c, Bool.not_true, Bool.false_eq_true, if_false]
        by_cases c3 : F0 = -1
        · have c3' : F0 < 0 := by omega
          by_cases c4 : F1 = 0
          · first | rw [if_pos c3', if_pos c4, if_neg (fun h => h.2 c4)] | rw [if_pos c3, if_pos c4, if_neg (fun h => h.2 c4)]
          · first | rw [if_pos c3', if_neg c4, if_pos ⟨c3, c4⟩] | rw [if_pos c3, if_neg c4, if_pos ⟨c3, c4⟩]
        · have c3' : ¬ F0 < 0 := by omega
          first | rw [if_neg c3', if_neg (fun h => c3 h.1)] | rw [if_neg c3, if_neg (fun h => c3 h.1)]
      · have c : ¬ (-1 ≤ F0 ∧ F0 ≤ top - 1 ∧ 0 ≤ F1 ∧ F1 ≤ 7) := fun h => c2 ⟨h.2.2.1, h.2.2.2⟩
        have c2' : decide (0 ≤ F1 ∧ F1 ≤ 7) = false := decide_eq_false c2
        rw [if_pos c1, if_neg c, c2']
        rfl
    · have c : ¬ (-1 ≤ F0 ∧ F0 ≤ top - 1 ∧ 0 ≤ F1 ∧ F1 ≤ 7) := fun h => c1 ⟨h.1, h.2.1⟩
      rw [if_neg c1, if_neg c]
      rfl
theorem implPF_from (l : List S59) (hl : l.length ≤ 1000000000) (top : Int) (h1 : 1 ≤ top) (h2 : top ≤ 24) (d : Nat) : ∀ (k i : Nat), l.length = i + d → 2 * d < k → impl_PagesFault.l0 k top l (l.length : Int) (i : Int) = some (pfl top (l.drop i)) := by
  have ew : wrap64 (top - 1) = top - 1 := by unfold wrap64; omega
  induction d with
  | zero =>
    intro k i hd hk
    obtain ⟨k, rfl⟩ : ∃ m, k = m + 1 := ⟨k - 1, by omega⟩
    simp only [impl_PagesFault.l0]
    rw [if_neg (by omega), List.drop_eq_nil_of_le (by omega)]
    rfl
  | succ d ih =>
    intro k i hd hk
    obtain ⟨k, rfl⟩ : ∃ m, k = m + 1 + 1 := ⟨k - 2, by omega⟩
    have hi : i < l.length := by omega
    have hi' := ih k (i + 1) (by omega) (by omega)
    rw [drop_at l i hi]
    simp only [impl_PagesFault.l0, impl_PagesFault.j1, within_eq, Option.bind_some, ew, decide_eq_true_eq, pfl]
    have p0 : (0 : Int) ≤ (i : Int) := Int.natCast_nonneg _
    have p1 : (i : Int) < (l.length : Int) := by omega
    simp only [rdP_at l i hi, wsucc hi hl, hi', if_pos p0, if_pos p1]
    generalize l[i].f0 = F0
    generalize l[i].f1 = F1
    by_cases c1 : -1 ≤ F0 ∧ F0 ≤ top - 1
    · by_cases c2 : 0 ≤ F1 ∧ F1 ≤ 7
      · have c : -1 ≤ F0 ∧ F0 ≤ top - 1 ∧ 0 ≤ F1 ∧ F1 ≤ 7 := ⟨c1.1, c1.2, c2.1, c2.2⟩
        have c2' : decide (0 ≤ F1 ∧ F1 ≤ 7) = true := decide_eq_true c2
        simp only [if_pos c1, c2', if_pos c, Bool.not_true, Bool.false_eq_true, if_false]
        by_cases c3 : F0 = -1
        · have c3' : F0 < 0 := by omega
          by_cases c4 : F1 = 0
          · first | rw [if_pos c3', if_pos c4, if_neg (fun h => h.2 c4)] | rw [if_pos c3, if_pos c4, if_neg (fun h => h.2 c4)]
          · first | rw [if_pos c3', if_neg c4, if_pos ⟨c3, c4⟩] | rw [if_pos c3, if_neg c4, if_pos ⟨c3, c4⟩]
        · have c3' : ¬ F0 < 0 := by omega
          first | rw [if_neg c3', if_neg (fun h => c3 h.1)] | rw [if_neg c3, if_neg (fun h => c3 h.1)]
      · have c : ¬ (-1 ≤ F0 ∧ F0 ≤ top - 1 ∧ 0 ≤ F1 ∧ F1 ≤ 7) := fun h => c2 ⟨h.2.2.1, h.2.2.2⟩
        have c2' : decide (0 ≤ F1 ∧ F1 ≤ 7) = false := decide_eq_false c2
        rw [if_pos c1, if_neg c, c2']
        rfl
    · have c : ¬ (-1 ≤ F0 ∧ F0 ≤ top - 1 ∧ 0 ≤ F1 ∧ F1 ≤ 7) := fun h => c1 ⟨h.1, h.2.1⟩
      rw [if_neg c1, if_neg c]
      rfl
theorem specPF (k : Nat) (l : List S59) (hl : l.length ≤ 1048576) (top : Int) (hk : 16 < k) : spec_PagesFault.f k l top = some (pf top l) := by
  unfold spec_PagesFault.f pf
  rw [l1In_eq]
  simp only [Option.bind_some, decide_eq_true_eq]
  by_cases c : 1 ≤ top ∧ top ≤ 24
  · rw [if_pos c, if_pos c]
    by_cases h8 : l.length = 8
    · rw [if_pos (by omega), if_pos h8]
      exact specPF_from l (by omega) top c.1 c.2 l.length k 0 (by omega) (by omega)
    · rw [if_neg (by omega), if_neg h8]
  · rw [if_neg c, if_neg c]
theorem implPF (k : Nat) (l : List S59) (hl : l.length ≤ 1048576) (top : Int) (hk : 16 < k) : impl_PagesFault.f k l top = some (pf top l) := by
  unfold impl_PagesFault.f pf
  rw [within_eq]
  simp only [Option.bind_some, decide_eq_true_eq]
  by_cases c : 1 ≤ top ∧ top ≤ 24
  · rw [if_pos c, if_pos c]
    by_cases h8 : l.length = 8
    · rw [if_pos (by omega), if_pos h8]
      exact implPF_from l (by omega) top c.1 c.2 l.length k 0 (by omega) (by omega)
    · rw [if_neg (by omega), if_neg h8]
  · rw [if_neg c, if_neg c]
theorem pfl_ok (top : Int) (l : List S59) (h : pfl top l = 0) : ∀ p ∈ l, (-1 ≤ p.f0 ∧ p.f0 ≤ top - 1 ∧ 0 ≤ p.f1 ∧ p.f1 ≤ 7) ∧ (p.f0 = -1 → p.f1 = 0) := by
  induction l with
  | nil => intro p hp; simp at hp
  | cons q t ih =>
    intro p hp
    unfold pfl at h
    by_cases c : -1 ≤ q.f0 ∧ q.f0 ≤ top - 1 ∧ 0 ≤ q.f1 ∧ q.f1 ≤ 7
    · rw [if_pos c] at h
      by_cases d : q.f0 = -1 ∧ q.f1 ≠ 0
      · rw [if_pos d] at h; exact absurd h (by decide)
      · rw [if_neg d] at h
        rcases List.mem_cons.mp hp with e | e
        · subst e
          exact ⟨c, fun h1 => by
            by_cases h2 : p.f1 = 0
            · exact h2
            · exact absurd ⟨h1, h2⟩ d⟩
        · exact ih h p e
    · rw [if_neg c] at h; exact absurd h (by decide)
theorem pf_ok {top : Int} {l : List S59} (h : pf top l = 0) : l.length = 8 ∧ ∀ p ∈ l, (-1 ≤ p.f0 ∧ p.f0 ≤ top - 1 ∧ 0 ≤ p.f1 ∧ p.f1 ≤ 7) ∧ (p.f0 = -1 → p.f1 = 0) := by
  unfold pf at h
  by_cases c : 1 ≤ top ∧ top ≤ 24
  · rw [if_pos c] at h
    by_cases d : l.length = 8
    · rw [if_pos d] at h
      exact ⟨d, pfl_ok top l h⟩
    · rw [if_neg d] at h; exact absurd h (by decide)
  · rw [if_neg c] at h; exact absurd h (by decide)
theorem rdP_mem (l : List S59) (i : Int) (h0 : 0 ≤ i) (h1 : i < (l.length : Int)) : rd_T59 l i ∈ l := by
  obtain ⟨n, rfl⟩ := Int.eq_ofNat_of_zero_le h0
  have hn : n < l.length := by omega
  have e := rdP_at l n hn
  rw [e]
  exact List.getElem_mem hn
def code (k : Int) : Int := if k = 1 then 7 else if k = 2 then 8 else 9
def isKind (k : Int) : Prop := k = 1 ∨ k = 2 ∨ k = 4
instance (k : Int) : Decidable (isKind k) := by unfold isKind; infer_instance
def wv (l : List S59) (i k : Int) : Option Int :=
  if 0 ≤ i ∧ i ≤ 63 then (if (rd_T59 l (i / 8)).f0 < 0 then none else if bits .and .i64 (rd_T59 l (i / 8)).f1 k = 0 then none else some ((rd_T59 l (i / 8)).f0 * 8 + i % 8)) else none
def wr (l : List S59) (i k : Int) : Int × Int := match wv l i k with
  | none => (code k, 0)
  | some v => (0, v)
def wp (l : List S59) (i k : Int) : Int × Int := if pf 24 l = 0 then (if isKind k then wr l i k else (3, 0)) else (pf 24 l, 0)
theorem kindCode_is (k : Int) : impl_kindCode.f k = some (if isKind k then code k else 0) := by
  unfold impl_kindCode.f
  by_cases h1 : k = 1
  · subst h1; rfl
  by_cases h2 : k = 2
  · subst h2; rfl
  by_cases h4 : k = 4
  · subst h4; rfl
  have hk : ¬ isKind k := by unfold isKind; omega
  rw [if_neg h1, if_neg h2, if_neg h4, if_neg hk]
theorem kind_is (k : Int) : spec_l4Kind.f k = some (decide (isKind k)) := by
  unfold spec_l4Kind.f
  by_cases h1 : k = 1
  · subst h1; rfl
  by_cases h2 : k = 2
  · subst h2; rfl
  by_cases h4 : k = 4
  · subst h4; rfl
  have hk : ¬ isKind k := by unfold isKind; omega
  rw [if_neg h1, if_neg h2, decide_eq_false hk]
  exact congrArg some (beq_eq_false_iff_ne.mpr h4)
theorem code_is (k : Int) : spec_l4Code.f k = some (code k) := by
  unfold spec_l4Code.f code
  by_cases h1 : k = 1
  · rw [if_pos h1, if_pos h1]
  · rw [if_neg h1, if_neg h1]
    by_cases h2 : k = 2
    · rw [if_pos h2, if_pos h2]
    · rw [if_neg h2, if_neg h2]
theorem code_pos (k : Int) : ¬ code k = 0 := by
  unfold code
  by_cases h1 : k = 1
  · rw [if_pos h1]; decide
  · rw [if_neg h1]
    by_cases h2 : k = 2
    · rw [if_pos h2]; decide
    · rw [if_neg h2]; decide
theorem wv_lo {l : List S59} {i k v : Int} (h : wv l i k = some v) : 0 ≤ v := by
  unfold wv at h
  by_cases c : 0 ≤ i ∧ i ≤ 63
  · rw [if_pos c] at h
    by_cases d : (rd_T59 l (i / 8)).f0 < 0
    · rw [if_pos d] at h; cases h
    · rw [if_neg d] at h
      by_cases e : bits .and .i64 (rd_T59 l (i / 8)).f1 k = 0
      · rw [if_pos e] at h; cases h
      · rw [if_neg e] at h
        have := Option.some.inj h
        omega
  · rw [if_neg c] at h; cases h
theorem specW (l : List S59) (hl : l.length = 8) (hp : ∀ p ∈ l, p.f0 ≤ 23) (i k : Int) : spec_l4Walk.f l i k = some (match wv l i k with
  | none => -1
  | some v => v) := by
  unfold spec_l4Walk.f wv
  rw [l1In_eq, Option.bind_some]
  by_cases c : 0 ≤ i ∧ i ≤ 63
  · have e1 : Int.tdiv i 8 = i / 8 := Int.tdiv_eq_ediv_of_nonneg c.1
    have e2 : wrap64 (i / 8) = i / 8 := by unfold wrap64; omega
    have e3 : Int.tmod i 8 = i % 8 := Int.tmod_eq_emod_of_nonneg c.1
    have q1 : 0 ≤ i / 8 := by omega
    have q2 : i / 8 < (l.length : Int) := by omega
    have hm := hp _ (rdP_mem l (i / 8) q1 q2)
    rw [decide_eq_true c, if_pos rfl, if_pos c, e1, e2, e3, if_pos q1, if_pos q2]
    generalize rd_T59 l (i / 8) = P at *
    by_cases d : P.f0 < 0
    · rw [if_pos d, if_pos d]
    · rw [if_neg d, if_neg d]
      by_cases e : bits .and .i64 P.f1 k = 0
      · rw [if_pos e, if_pos e]
      · rw [if_neg e, if_neg e]
        have e4 : wrap64 (P.f0 * 8) = P.f0 * 8 := by unfold wrap64; omega
        have e5 : wrap64 (P.f0 * 8 + i % 8) = P.f0 * 8 + i % 8 := by unfold wrap64; omega
        rw [e4, e5]
  · rw [decide_eq_false c, if_neg (by decide), if_neg c]
theorem implW (l : List S59) (hl : l.length = 8) (hp : ∀ p ∈ l, p.f0 ≤ 23) (i k : Int) (hk : isKind k) : impl_walk.f l i k = some (wr l i k) := by
  unfold impl_walk.f impl_hasPage.f wr wv
  rw [within_eq, Option.bind_some, Option.bind_some, kindCode_is, if_pos hk]
  by_cases c : 0 ≤ i ∧ i ≤ 63
  · have e1 : Int.tdiv i 8 = i / 8 := Int.tdiv_eq_ediv_of_nonneg c.1
    have e2 : wrap64 (i / 8) = i / 8 := by unfold wrap64; omega
    have e3 : Int.tmod i 8 = i % 8 := Int.tmod_eq_emod_of_nonneg c.1
    have q1 : 0 ≤ i / 8 := by omega
    have q2 : i / 8 < (l.length : Int) := by omega
    have hm := hp _ (rdP_mem l (i / 8) q1 q2)
    rw [decide_eq_true c, if_pos rfl, if_pos c, e1, e2, e3, if_pos q1, if_pos q2]
    generalize rd_T59 l (i / 8) = P at *
    by_cases d : P.f0 < 0
    · rw [if_pos d, if_pos d]; rfl
    · rw [if_neg d, if_neg d]
      by_cases e : bits .and .i64 P.f1 k = 0
      · rw [if_pos e, if_pos e]; rfl
      · rw [if_neg e, if_neg e]
        have e4 : wrap64 (P.f0 * 8) = P.f0 * 8 := by unfold wrap64; omega
        have e5 : wrap64 (P.f0 * 8 + i % 8) = P.f0 * 8 + i % 8 := by unfold wrap64; omega
        rw [e4, e5]
  · rw [decide_eq_false c, if_neg (by decide), if_neg c]; rfl
theorem specWP (k : Nat) (l : List S59) (hl : l.length ≤ 1048576) (i q : Int) (hk : 16 < k) : spec_WalkPages.f k l i q = some (wp l i q) := by
  unfold spec_WalkPages.f wp
  rw [specPF k l hl 24 hk, Option.bind_some]
  by_cases h : pf 24 l = 0
  · obtain ⟨h8, hp⟩ := pf_ok h
    rw [if_pos h, if_pos h, kind_is, Option.bind_some]
    by_cases g : isKind q
    · rw [decide_eq_true g, if_pos rfl, if_pos g, specW l h8 (fun p hq => by have := (hp p hq).1.2.1; omega), Option.bind_some]
      unfold wr
      cases e : wv l i q with
      | none =>
        dsimp only
        rw [if_pos (by decide), code_is, Option.bind_some]
      | some v =>
        have := wv_lo e
        dsimp only
        rw [if_neg (by omega)]
    · rw [decide_eq_false g, if_neg (by decide), if_neg g]
  · rw [if_neg h, if_neg h]
theorem implWP (k : Nat) (l : List S59) (hl : l.length ≤ 1048576) (i q : Int) (hk : 16 < k) : impl_WalkPages.f k l i q = some (wp l i q) := by
  unfold impl_WalkPages.f wp
  rw [implPF k l hl 24 hk, Option.bind_some]
  by_cases h : pf 24 l = 0
  · obtain ⟨h8, hp⟩ := pf_ok h
    rw [if_pos h, if_pos h, kindCode_is, Option.bind_some]
    by_cases g : isKind q
    · rw [if_pos g, if_neg (code_pos q), implW l h8 (fun p hq => by have := (hp p hq).1.2.1; omega) i q g, Option.bind_some, if_pos g]
    · rw [if_neg g, if_pos rfl, if_neg g]
  · rw [if_neg h, if_neg h]
def bf (a b : List S59) : Int := if pf 8 a = 0 then pf 24 b else pf 8 a
theorem firstOf_two (k : Nat) (x y : Int) : impl_firstOf.f (k + 3) [x, y] = some (if x = 0 then y else x) := by
  have w0 : wrap64 (0 + 1) = 1 := by unfold wrap64; omega
  have w1 : wrap64 (1 + 1) = 2 := by unfold wrap64; omega
  have r0 : rd [x, y] 0 = x := rfl
  have r1 : rd [x, y] 1 = y := rfl
  have hl : (([x, y] : List Int).length : Int) = 2 := rfl
  unfold impl_firstOf.f
  simp only [impl_firstOf.l0, hl, w0, w1, r0, r1]
  rw [if_pos (show (0 : Int) < 2 by decide), if_pos (show (0 : Int) ≤ 0 by decide), if_pos (show (0 : Int) < 2 by decide)]
  by_cases h : x = 0
  · rw [if_pos h, if_pos h, if_pos (show (1 : Int) < 2 by decide), if_pos (show (0 : Int) ≤ 1 by decide), if_pos (show (1 : Int) < 2 by decide)]
    by_cases g : y = 0
    · rw [if_pos g, if_neg (show ¬ (2 : Int) < 2 by decide), g]
    · rw [if_neg g]
  · rw [if_neg h, if_neg h]
theorem implBF (k : Nat) (a b : List S59) (ha : a.length ≤ 1048576) (hb : b.length ≤ 1048576) (hk : 20 < k) : impl_bothFault.f k a b = some (bf a b) := by
  obtain ⟨m, rfl⟩ : ∃ m, k = m + 3 := ⟨k - 3, by omega⟩
  unfold impl_bothFault.f bf
  rw [implPF _ a ha 8 (by omega), Option.bind_some, implPF _ b hb 24 (by omega), Option.bind_some, firstOf_two, Option.bind_some]
theorem specBF (k : Nat) (a b : List S59) (ha : a.length ≤ 1048576) (hb : b.length ≤ 1048576) (hk : 20 < k) : spec_l4Both.f k a b = some (bf a b) := by
  unfold spec_l4Both.f bf
  rw [specPF _ a ha 8 (by omega), Option.bind_some]
  by_cases h : pf 8 a = 0
  · rw [if_pos h, if_pos h, specPF _ b hb 24 (by omega), Option.bind_some]
  · rw [if_neg h, if_neg h]
def wb (a b : List S59) (i q : Int) : Int × Int := if bf a b = 0 then (if (wp a i q).1 = 0 then wp b (wp a i q).2 q else wp a i q) else (bf a b, 0)
theorem implWB (k : Nat) (a b : List S59) (ha : a.length ≤ 1048576) (hb : b.length ≤ 1048576) (i q : Int) (hk : 20 < k) : impl_WalkBoth.f k a b i q = some (wb a b i q) := by
  unfold impl_WalkBoth.f wb
  rw [implBF k a b ha hb hk, Option.bind_some]
  by_cases h : bf a b = 0
  · rw [if_pos h, if_pos h, implWP k a ha i q (by omega), Option.bind_some]
    by_cases g : (wp a i q).1 = 0
    · rw [if_pos g, if_pos g, implWP k b hb _ q (by omega), Option.bind_some]
    · rw [if_neg g, if_neg g]
  · rw [if_neg h, if_neg h]
theorem specWB (k : Nat) (a b : List S59) (ha : a.length ≤ 1048576) (hb : b.length ≤ 1048576) (i q : Int) (hk : 20 < k) : spec_WalkBoth.f k a b i q = some (wb a b i q) := by
  unfold spec_WalkBoth.f wb
  rw [specBF k a b ha hb hk, Option.bind_some]
  by_cases h : bf a b = 0
  · rw [if_pos h, if_pos h, specWP k a ha i q (by omega), Option.bind_some]
    by_cases g : (wp a i q).1 = 0
    · rw [if_pos g, if_pos g, specWP k b hb _ q (by omega), Option.bind_some]
    · rw [if_neg g, if_neg g]
  · rw [if_neg h, if_neg h]
theorem FnExactWalkBoth : laws_FnExactWalkBoth.Pure := by
  intro l r i q hm hw hm2 hw2 _ _
  refine ⟨l.length + r.length + 30, ?_⟩
  have hself : ∀ c v : Int, laws_eqIntResult.f c v c v = some true := fun c v => by simp [laws_eqIntResult.f]
  unfold laws_FnExactWalkBoth.f
  have hz := szP 1048576 l hm (by omega)
  rw [show ((1048576 : Nat) : Int) = 1048576 from rfl] at hz
  rw [hz, Option.bind_some]
  by_cases hb : 1048576 < l.length
  · rw [if_pos hb, if_pos (by omega)]
  have hz2 := szP (1048576 - l.length) r hm2 (by omega)
  rw [if_neg hb, if_neg (by omega), hz2, Option.bind_some]
  by_cases hb2 : 1048576 - l.length < r.length
  · rw [if_pos hb2, if_pos (by omega)]
  rw [if_neg hb2, if_neg (by omega), toP_is _ l (by omega) (by omega), Option.bind_some, toP_is _ r (by omega) (by omega), Option.bind_some, specWB _ _ _ (by simp; omega) (by simp; omega) _ _ (by omega), Option.bind_some, Option.bind_some, Option.bind_some, implWB _ _ _ (by simp; omega) (by simp; omega) _ _ (by omega), Option.bind_some, hself, Option.bind_some, if_pos rfl, Option.bind_some, eqP_self _ _ (by simp; omega) (by simp; omega), Option.bind_some, if_pos rfl, Option.bind_some, eqP_self _ _ (by simp; omega) (by simp; omega), Option.bind_some, if_pos rfl]

end Go.Proofs.Ytjeokjjlhpocdaa.Pure
