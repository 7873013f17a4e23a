/- PagesOf of the program and of the reference tell the same, and what it tells is new, for all regions. No condition. -/
import Derived.Test.YtddnkakkejeacaaPFnExactPagesOfx4
import Derived.Test.YtddnkakkejeacaaLem
namespace Go.Proofs.Ytddnkakkejeacaa.Pure
open Go.RowKit Go.Proofs.Ytddnkakkejeacaa.PFnExactPagesOf Go.Proofs.YtddnkakkejeacaaW.PrintWords Go.Proofs.YtddnkakkejeacaaW.PrintLast Go.Proofs.YtddnkakkejeacaaW.PrintMore
open Go.Proofs.Ytddnkakkejeacaa.Lem
set_option linter.unusedVariables false
set_option linter.unusedSimpArgs false
theorem within_eq (a x y : Int) : impl_within.f a x y = some (decide (x ≤ a ∧ a ≤ y)) := by
  unfold impl_within.f
  split <;> rename_i h <;> simp <;> omega
theorem l1In_eq (a x y : Int) : spec_l1In.f a x y = some (decide (x ≤ a ∧ a ≤ y)) := by
  unfold spec_l1In.f
  split <;> rename_i h <;> simp <;> omega
theorem w_succ {i : Int} {n : Nat} (h0 : 0 ≤ i) (h : i < (n : Int)) (hn : n ≤ 1000000000) : wrap64 (i + 1) = i + 1 := by unfold wrap64; omega
theorem eq_from (l : List Int) (hl : l.length ≤ 1000000000) (d : Nat) : ∀ (k : Nat) (i : Int), 0 ≤ i → (l.length : Int) - i = d → d < k → laws_eqInt64S.l0 k l l i = some true := by
  induction d with
  | zero =>
    intro k i h0 hd hk
    obtain ⟨k, rfl⟩ : ∃ m, k = m + 1 := ⟨k - 1, by omega⟩
    simp only [laws_eqInt64S.l0]
    rw [if_neg (by omega)]
  | succ d ih =>
    intro k i h0 hd hk
    obtain ⟨k, rfl⟩ : ∃ m, k = m + 1 := ⟨k - 1, by omega⟩
    simp only [laws_eqInt64S.l0]
    rw [if_pos (by omega), if_pos h0, if_pos (by omega), if_pos trivial, w_succ (n := l.length) h0 (by omega) hl]
    exact ih k (i + 1) (by omega) (by omega) (by omega)
theorem eq_self (k : Nat) (l : List Int) (hl : l.length ≤ 1000000000) (hk : l.length < k) : laws_eqInt64S.f k l l = some true := by
  unfold laws_eqInt64S.f
  rw [if_pos rfl]
  exact eq_from l hl l.length k 0 (by omega) (by omega) hk
def marks (n : Nat) (m : Int) : List Int := (List.range n).map fun (j : Nat) => m + (j : Int)
theorem marks_length (n : Nat) (m : Int) : (marks n m).length = n := by simp [marks]
theorem marks_rd (n : Nat) (m : Int) (i : Int) (h0 : 0 ≤ i) (h : i < (n : Int)) : rd (marks n m) i = m + i := by
  unfold rd marks
  rw [List.getD_eq_getElem?_getD, List.getElem?_map, List.getElem?_range (by omega)]
  simp
  omega
theorem mark_from (m : Int) (hm0 : 0 ≤ m) (hm : m ≤ 1000000000) (d : Nat) : ∀ (k : Nat) (l : List Int) (i : Nat), l.length ≤ 1000000000 → l.length = i + d → (∀ j, j < i → l[j]? = some (m + (j : Int))) → d < k →
    laws_markInt64S.l0 k l (m + (i : Int)) (i : Int) = some (m + (l.length : Int), marks l.length m) := by
  induction d with
  | zero =>
    intro k l i hl hd hx hk
    obtain ⟨k, rfl⟩ : ∃ m, k = m + 1 := ⟨k - 1, by omega⟩
    simp only [laws_markInt64S.l0]
    rw [if_neg (by omega)]
    have e : l = marks l.length m := by
      apply List.ext_getElem?
      intro j
      by_cases hj : j < i
      · rw [hx j hj]
        unfold marks
        rw [List.getElem?_map, List.getElem?_range (by omega)]
        rfl
      · rw [List.getElem?_eq_none (by omega), List.getElem?_eq_none (by rw [marks_length]; omega)]
    rw [← e]
    exact congrArg some (Prod.ext (by show m + (i : Int) = m + (l.length : Int); omega) rfl)
  | succ d ih =>
    intro k l i hl hd hx hk
    obtain ⟨k, rfl⟩ : ∃ m, k = m + 1 := ⟨k - 1, by omega⟩
    simp only [laws_markInt64S.l0]
    have w1 : wrap64 (m + (i : Int) + 1) = m + ((i + 1 : Nat) : Int) := by unfold wrap64; omega
    have w2 : wrap64 ((i : Int) + 1) = ((i + 1 : Nat) : Int) := by unfold wrap64; omega
    rw [if_pos (by omega), if_pos (by omega), w1, w2]
    have hs : ((i : Int)).toNat = i := by omega
    rw [hs]
    have := ih k (l.set i (m + (i : Int))) (i + 1) (by simpa using hl) (by simp; omega) (fun j hj => by
      rw [List.getElem?_set]
      by_cases e : i = j
      · subst e
        rw [if_pos rfl, if_pos (by omega)]
      · rw [if_neg e]
        exact hx j (by omega)) (by omega)
    simpa using this
theorem mark_is (k : Nat) (l : List Int) (m : Int) (hl : l.length ≤ 1000000000) (hk : l.length < k) (hm0 : 0 ≤ m) (hm : m ≤ 1000000000) : laws_markInt64S.f k l m = some (m + l.length, marks l.length m) := by
  unfold laws_markInt64S.f
  have := mark_from m hm0 hm l.length k l 0 hl (by omega) (fun j hj => by omega) hk
  simpa using this
theorem held_from (n : Nat) (m : Int) (hn : n ≤ 1000000000) (hm0 : 0 ≤ m) (hm : m ≤ 1000000000) (d : Nat) : ∀ (k : Nat) (i : Int), 0 ≤ i → (n : Int) - i = d → d < k → laws_heldInt64S.l0 k (marks n m) (m + i) i = some (m + n) := by
  induction d with
  | zero =>
    intro k i h0 hd hk
    obtain ⟨k, rfl⟩ : ∃ m, k = m + 1 := ⟨k - 1, by omega⟩
    simp only [laws_heldInt64S.l0]
    rw [if_neg (by rw [marks_length]; omega)]
    exact congrArg some (by omega)
  | succ d ih =>
    intro k i h0 hd hk
    obtain ⟨k, rfl⟩ : ∃ m, k = m + 1 := ⟨k - 1, by omega⟩
    simp only [laws_heldInt64S.l0]
    have w1 : wrap64 (m + i + 1) = m + (i + 1) := by unfold wrap64; omega
    have w2 : wrap64 (i + 1) = i + 1 := by unfold wrap64; omega
    rw [if_pos (by rw [marks_length]; omega), if_pos h0, if_pos (marks_rd n m i h0 (by omega)), w1, w2]
    exact ih k (i + 1) (by omega) (by omega) (by omega)
theorem held_is (k : Nat) (n : Nat) (m : Int) (hn : n ≤ 1000000000) (hk : n < k) (hm0 : 0 ≤ m) (hm : m ≤ 1000000000) : laws_heldInt64S.f k (marks n m) m = some (m + n) := by
  unfold laws_heldInt64S.f
  have := held_from n m hn hm0 hm n k 0 (by omega) (by omega) hk
  simpa using this
theorem eqIR_self (k : Nat) (c : Int) (l : List Int) (hl : l.length ≤ 1000000000) (hk : l.length < k) : laws_eqIntsResult.f k c l c l = some true := by
  unfold laws_eqIntsResult.f
  rw [if_pos rfl, eq_self k l hl hk]
  rfl
theorem markIR (k : Nat) (c : Int) (l : List Int) (hl : l.length ≤ 1000000000) (hk : l.length < k) : laws_markIntsResult.f k c l 1 = some (1 + (l.length : Int), marks l.length 1) := by
  unfold laws_markIntsResult.f
  rw [mark_is k l 1 hl hk (by omega) (by omega)]
  rfl
theorem heldIR (k : Nat) (c : Int) (n : Nat) (hl : n ≤ 1000000000) (hk : n < k) : laws_heldIntsResult.f k c (marks n 1) 1 = some (1 + (n : Int)) := by
  unfold laws_heldIntsResult.f
  rw [held_is k n 1 hl hk (by omega) (by omega)]
  simp only [Option.bind_some]
  rw [if_neg (by omega)]
def okR (a b : Int) : Prop := 0 ≤ a ∧ a ≤ 192 ∧ 0 ≤ b ∧ b ≤ 192 - a
instance (a b : Int) : Decidable (okR a b) := by unfold okR; infer_instance
theorem implRF (a b : Int) : impl_RegionFault.f a b = some (if okR a b then 0 else 3) := by
  unfold impl_RegionFault.f
  rw [within_eq, Option.bind_some]
  by_cases c : 0 ≤ a ∧ a ≤ 192
  · have e : wrap64 (192 - a) = 192 - a := by unfold wrap64; omega
    rw [decide_eq_true c, if_pos rfl, e, within_eq, Option.bind_some]
    by_cases d : 0 ≤ b ∧ b ≤ 192 - a
    · rw [decide_eq_true d, if_pos rfl, if_pos (show okR a b from ⟨c.1, c.2, d.1, d.2⟩)]
    · rw [decide_eq_false d, if_neg (by decide), if_neg (fun h : okR a b => d ⟨h.2.2.1, h.2.2.2⟩)]
  · rw [decide_eq_false c, if_neg (by decide), if_neg (fun h : okR a b => c ⟨h.1, h.2.1⟩)]
theorem specRF (a b : Int) : spec_RegionFault.f a b = some (if okR a b then 0 else 3) := by
  unfold spec_RegionFault.f
  rw [l1In_eq, Option.bind_some]
  by_cases c : 0 ≤ a ∧ a ≤ 192
  · rw [decide_eq_true c, if_pos rfl, l1In_eq, Option.bind_some]
    by_cases d : 0 ≤ b ∧ b ≤ 192
    · have e : wrap64 (a + b) = a + b := by unfold wrap64; omega
      rw [decide_eq_true d, if_pos rfl, e]
      by_cases g : a + b > 192
      · rw [if_pos g, if_neg (fun h : okR a b => by have := h.2.2.2; omega)]
      · rw [if_neg g, if_pos (show okR a b from ⟨c.1, c.2, d.1, by omega⟩)]
    · rw [decide_eq_false d, if_neg (by decide), if_neg (fun h : okR a b => d ⟨h.2.2.1, by have := h.2.2.2; have := h.1; omega⟩)]
  · rw [decide_eq_false c, if_neg (by decide), if_neg (fun h : okR a b => c ⟨h.1, h.2.1⟩)]
theorem implRM (a b c d : Int) (h1 : okR a b) (h2 : okR c d) : impl_RegionsMeet.f a b c d = some (decide (0 < b ∧ 0 < d ∧ a < c + d ∧ c < a + b)) := by
  unfold impl_RegionsMeet.f
  obtain ⟨p1, p2, p3, p4⟩ := h1
  obtain ⟨q1, q2, q3, q4⟩ := h2
  have e1 : wrap64 (a + b) = a + b := by unfold wrap64; omega
  have e2 : wrap64 (c + d) = c + d := by unfold wrap64; omega
  rw [implRF, if_pos (show okR a b from ⟨p1, p2, p3, p4⟩), Option.bind_some, if_pos rfl, implRF, if_pos (show okR c d from ⟨q1, q2, q3, q4⟩), Option.bind_some, if_pos rfl, e1, e2]
  refine congrArg some (decide_eq_decide.mpr ?_)
  have m1 : mx a c = if a < c then c else a := rfl
  have m2 : mn (a + b) (c + d) = mn (a + b) (c + d) := rfl
  unfold mn
  rw [m1]
  by_cases g : a < c
  · rw [if_pos g]
    split <;> omega
  · rw [if_neg g]
    split <;> omega
def meetD (a b c d : Int) : Bool := decide (0 < b ∧ 0 < d ∧ a < c + d ∧ c < a + b)
def rest (f : Int → Bool) : Nat → Int → List Int
  | 0, _ => []
  | d + 1, i => if f i = true then i :: rest f d (i + 1) else rest f d (i + 1)
theorem rest_nil (f : Int → Bool) (d : Nat) : ∀ i, (∀ j, i ≤ j → f j = false) → rest f d i = [] := by
  induction d with
  | zero => intro i _; rfl
  | succ d ih => intro i h; unfold rest; rw [h i (by omega), if_neg (by decide)]; exact ih (i + 1) (fun j hj => h j (by omega))
theorem rest_mem (f : Int → Bool) (d : Nat) : ∀ i j, i ≤ j → j < i + d → f j = true → rest f d i ≠ [] := by
  induction d with
  | zero => intro i j h1 h2 _; omega
  | succ d ih =>
    intro i j h1 h2 hf
    unfold rest
    by_cases c : f i = true
    · rw [if_pos c]; simp
    · rw [if_neg c]
      have : i ≠ j := fun e => c (e ▸ hf)
      exact ih (i + 1) j (by omega) (by omega) hf
theorem pagesOf_from (a b : Int) (h : okR a b) (d : Nat) : ∀ (k : Nat) (xs : List Int) (i : Int), 0 ≤ i → 24 = i + d → xs.length + d ≤ 24 → d < k → impl_PagesOf.l0 k xs i a b = some (0, xs ++ rest (fun p => meetD a b (p * 8) 8) d i) := by
  induction d with
  | zero =>
    intro k xs i h0 hd hx hk
    obtain ⟨k, rfl⟩ : ∃ m, k = m + 1 := ⟨k - 1, by omega⟩
    simp only [impl_PagesOf.l0]
    rw [if_neg (by omega)]
    simp [rest]
  | succ d ih =>
    intro k xs i h0 hd hx hk
    obtain ⟨k, rfl⟩ : ∃ m, k = m + 1 := ⟨k - 1, by omega⟩
    have e1 : wrap64 (i * 8) = i * 8 := by unfold wrap64; omega
    have e2 : wrap64 (i + 1) = i + 1 := by unfold wrap64; omega
    have hlen : xs.length < 17592186044416 := by omega
    simp only [impl_PagesOf.l0]
    rw [if_pos (by omega), e1, e2, implRM a b (i * 8) 8 h ⟨by omega, by omega, by omega, by omega⟩, Option.bind_some]
    show (if meetD a b (i * 8) 8 = true then _ else _) = _
    by_cases c : meetD a b (i * 8) 8 = true
    · have := ih k (xs ++ [i]) (i + 1) (by omega) (by omega) (by rw [List.length_append]; show xs.length + 1 + d ≤ 24; omega) (by omega)
      rw [if_pos c, if_pos hlen, this, rest, if_pos c, List.append_assoc]
      rfl
    · have := ih k xs (i + 1) (by omega) (by omega) (by omega) (by omega)
      rw [if_neg c, this, rest, if_neg c]
theorem marks_cons (n : Nat) (i : Int) : marks (n + 1) i = i :: marks n (i + 1) := by
  unfold marks
  rw [List.range_succ_eq_map, List.map_cons, List.map_map]
  refine congr (congrArg _ (by simp)) (List.map_congr_left fun j _ => ?_)
  show i + ((j + 1 : Nat) : Int) = i + 1 + (j : Int)
  omega
theorem marks_snoc (n : Nat) (i : Int) : marks (n + 1) i = marks n i ++ [i + (n : Int)] := by
  unfold marks
  rw [List.range_succ, List.map_append]
  rfl
theorem rest_run (f : Int → Bool) (d : Nat) : ∀ (n : Nat) (i : Int), n ≤ d → (∀ j, i ≤ j → f j = decide (j < i + n)) → rest f d i = marks n i := by
  induction d with
  | zero => intro n i h _; obtain rfl : n = 0 := by omega
            rfl
  | succ d ih =>
    intro n i h hf
    cases n with
    | zero => exact rest_nil f (d + 1) i (fun j hj => by rw [hf j hj]; exact decide_eq_false (by omega))
    | succ n =>
      have h1 : f i = true := by rw [hf i (by omega)]; exact decide_eq_true (by omega)
      rw [rest, if_pos h1, marks_cons, ih n (i + 1) (by omega) (fun j hj => by rw [hf j (by omega)]; exact decide_eq_decide.mpr (by omega))]
theorem rest_marks (f : Int → Bool) (s : Int) (n : Nat) (hf : ∀ j, f j = decide (s ≤ j ∧ j < s + n)) (d : Nat) : ∀ i : Int, i ≤ s → s + n ≤ i + d → rest f d i = marks n s := by
  induction d with
  | zero =>
    intro i h1 h2
    obtain rfl : n = 0 := by omega
    rfl
  | succ d ih =>
    intro i h1 h2
    by_cases e : i = s
    · rw [e]
      exact rest_run f (d + 1) n s (by omega) (fun j hj => by rw [hf j]; exact decide_eq_decide.mpr (by omega))
    · have h3 : ¬ f i = true := by rw [hf i]; exact fun h => by have := of_decide_eq_true h; omega
      rw [rest, if_neg h3]
      exact ih (i + 1) (by omega) (by omega)
theorem rise_tail (s : Int) (n : Nat) (hn : n ≤ 1000) (v : Int) (e : v = s + n) (k : Nat) : spec_l1Rise.l0 (k + 1) (marks n s) v (n : Int) = some (marks (n + 1) s) := by
  have hl := marks_length n s
  have h1 : ((n : Int)).toNat = (marks n s).length := by omega
  simp only [spec_l1Rise.l0]
  rw [if_neg (by omega), Option.bind_some, if_pos (by omega), if_pos (by omega), h1, List.take_length, List.drop_length, if_pos (by simp; omega), Option.bind_some, Option.bind_some, if_pos (by simp; omega), Option.bind_some, if_pos (by simp; omega), marks_snoc, e]
  simp
theorem rise_from (s : Int) (n : Nat) (hn : n ≤ 1000) (v : Int) (hv : v = s + n ∨ (v = s + n - 1 ∧ 0 < n)) (d : Nat) : ∀ (k : Nat) (i : Nat), n = i + d → (v = s + n - 1 → 0 < d) → d < k → spec_l1Rise.l0 k (marks n s) v (i : Int) = some (if v = s + n then marks (n + 1) s else marks n s) := by
  have hl := marks_length n s
  induction d with
  | zero =>
    intro k i hd h0 hk
    obtain ⟨k, rfl⟩ : ∃ m, k = m + 1 := ⟨k - 1, by omega⟩
    have e : v = s + n := by omega
    obtain rfl : i = n := by omega
    rw [if_pos e]
    exact rise_tail s i hn v e k
  | succ d ih =>
    intro k i hd h0 hk
    obtain ⟨k, rfl⟩ : ∃ m, k = m + 1 := ⟨k - 1, by omega⟩
    have hr := marks_rd n s (i : Int) (by omega) (by omega)
    have w : wrap64 ((i : Int) + 1) = ((i + 1 : Nat) : Int) := by unfold wrap64; omega
    simp only [spec_l1Rise.l0]
    rw [if_pos (by omega), if_pos (by omega), hr, w]
    by_cases c : s + (i : Int) < v
    · rw [if_pos c]
      exact ih k (i + 1) (by omega) (by omega) (by omega)
    · rw [if_neg c, if_pos (by omega), if_neg (by omega)]
theorem rise_is (s : Int) (n : Nat) (hn : n ≤ 1000) (v : Int) (hv : v = s + n ∨ (v = s + n - 1 ∧ 0 < n)) (k : Nat) (hk : 1001 < k) : spec_l1Rise.f k (marks n s) v = some (if v = s + n then marks (n + 1) s else marks n s) := by
  unfold spec_l1Rise.f
  exact rise_from s n hn v hv n k 0 (by omega) (by omega) (by omega)
def cnt (a j : Int) : Nat := if j ≤ a then 0 else ((j - 1) / 8 - a / 8 + 1).toNat
theorem specPO_from (a b : Int) (h : okR a b) (d : Nat) : ∀ (k : Nat) (j : Int), a ≤ j → a + b = j + d → d + 1002 < k → spec_PagesOf.l0 k j a b 0 (marks (cnt a j) (a / 8)) = some (0, marks (cnt a (a + b)) (a / 8)) := by
  obtain ⟨q1, q2, q3, q4⟩ := h
  have wab : wrap64 (a + b) = a + b := by unfold wrap64; omega
  induction d with
  | zero =>
    intro k j h0 hd hk
    obtain ⟨k, rfl⟩ : ∃ m, k = m + 1 := ⟨k - 1, by omega⟩
    obtain rfl : j = a + b := by omega
    simp only [spec_PagesOf.l0]
    rw [wab, if_neg (by omega)]
  | succ d ih =>
    intro k j h0 hd hk
    obtain ⟨k, rfl⟩ : ∃ m, k = m + 1 := ⟨k - 1, by omega⟩
    have wj : wrap64 (j + 1) = j + 1 := by unfold wrap64; omega
    have hdiv : wrap64 (Int.tdiv j 8) = j / 8 := by rw [Int.tdiv_eq_ediv_of_nonneg (by omega)]; unfold wrap64; omega
    have hn : cnt a j ≤ 1000 := by unfold cnt; split <;> omega
    have hv : j / 8 = a / 8 + (cnt a j : Nat) ∨ (j / 8 = a / 8 + (cnt a j : Nat) - 1 ∧ 0 < cnt a j) := by
      unfold cnt
      split <;> omega
    have hr := rise_is (a / 8) (cnt a j) hn (j / 8) hv k (by omega)
    have he : (if j / 8 = a / 8 + (cnt a j : Nat) then marks (cnt a j + 1) (a / 8) else marks (cnt a j) (a / 8)) = marks (cnt a (j + 1)) (a / 8) := by
      by_cases c : j / 8 = a / 8 + (cnt a j : Nat)
      · have : cnt a (j + 1) = cnt a j + 1 := by
          revert c
          unfold cnt
          split <;> intro c <;> rw [if_neg (by omega)] <;> omega
        rw [if_pos c, this]
      · have : cnt a (j + 1) = cnt a j := by
          revert c
          unfold cnt
          split <;> intro c <;> rw [if_neg (by omega)] <;> omega
        rw [if_neg c, this]
    rw [he] at hr
    have := ih k (j + 1) (by omega) (by omega) (by omega)
    simp only [spec_PagesOf.l0]
    rw [wab, if_pos (by omega), hdiv, hr, Option.bind_some, wj]
    exact this
def po (a b : Int) : Int × List Int := if okR a b then (0, marks (cnt a (a + b)) (a / 8)) else (3, [])
theorem po_len (a b : Int) : (po a b).2.length ≤ 1000 := by
  unfold po
  by_cases h : okR a b
  · obtain ⟨q1, q2, q3, q4⟩ := h
    rw [if_pos ⟨q1, q2, q3, q4⟩]
    show (marks (cnt a (a + b)) (a / 8)).length ≤ 1000
    rw [marks_length]
    unfold cnt
    split <;> omega
  · rw [if_neg h]; simp
theorem specPO (k : Nat) (a b : Int) (hk : 1500 < k) : spec_PagesOf.f k a b = some (po a b) := by
  unfold spec_PagesOf.f po
  rw [specRF, Option.bind_some]
  by_cases h : okR a b
  · have h' := h
    obtain ⟨q1, q2, q3, q4⟩ := h'
    have := specPO_from a b h b.toNat k a (by omega) (by omega) (by omega)
    rw [show cnt a a = 0 by unfold cnt; rw [if_pos (by omega)]] at this
    rw [if_pos h, if_pos rfl, if_pos h]
    exact this
  · rw [if_neg h, if_neg (by decide), if_neg h]
theorem implPO (k : Nat) (a b : Int) (hk : 1500 < k) : impl_PagesOf.f k a b = some (po a b) := by
  unfold impl_PagesOf.f po
  rw [implRF, Option.bind_some]
  by_cases h : okR a b
  · have h' := h
    obtain ⟨q1, q2, q3, q4⟩ := h'
    rw [if_pos h, if_pos rfl, if_pos h, pagesOf_from a b h 24 k [] 0 (by decide) (by decide) (by decide) (by omega), List.nil_append]
    refine congrArg some (Prod.ext rfl ?_)
    show rest (fun p => meetD a b (p * 8) 8) 24 0 = marks (cnt a (a + b)) (a / 8)
    refine rest_marks _ (a / 8) (cnt a (a + b)) (fun j => ?_) 24 0 (by omega) ?_
    · unfold meetD cnt
      refine decide_eq_decide.mpr ?_
      split <;> omega
    · unfold cnt
      split <;> omega
  · rw [if_neg h, if_neg (by decide), if_neg h]
theorem FnExactPagesOf : laws_FnExactPagesOf.Pure := by
  intro a b _ _
  refine ⟨2000, ?_⟩
  have hl := po_len a b
  have h3 : ¬ (1 + ((po a b).2.length : Int)) < 0 := by omega
  have e1 : laws_toRegion.f a b = some (a, b) := rfl
  unfold laws_FnExactPagesOf.f
  rw [e1, Option.bind_some]
  dsimp only
  rw [specPO _ _ _ (by omega), Option.bind_some, Option.bind_some]
  dsimp only
  rw [implPO _ _ _ (by omega), Option.bind_some, eqIR_self _ _ _ (by omega) (by omega), Option.bind_some, if_pos rfl, markIR _ _ _ (by omega) (by omega), Option.bind_some]
  dsimp only
  rw [heldIR _ _ _ (by omega) (by omega), Option.bind_some, if_neg h3, if_pos rfl, Option.bind_some]
  dsimp only
  rw [implPO _ _ _ (by omega), Option.bind_some, eqIR_self _ _ _ (by omega) (by omega), Option.bind_some, if_pos rfl, Option.bind_some, if_neg h3, if_pos rfl]

end Go.Proofs.Ytddnkakkejeacaa.Pure
