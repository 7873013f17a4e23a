/- PagesFrom of the program and of the reference tell the same, what it tells is new, and the words stay, for every list of words. No condition. -/
import Derived.Test.YtjeokjjlhpocdaaPFnExactPagesFromx3
import Derived.Test.YtjeokjjlhpocdaaLem
namespace Go.Proofs.Ytjeokjjlhpocdaa.Pure
open Go.RowKit Go.Proofs.Ytjeokjjlhpocdaa.PFnExactPagesFrom Go.Proofs.YtjeokjjlhpocdaaW.PrintWords Go.Proofs.YtjeokjjlhpocdaaW.PrintLast Go.Proofs.YtjeokjjlhpocdaaW.PrintMore
open Go.Proofs.Ytjeokjjlhpocdaa.Lem
set_option linter.unusedVariables false
set_option linter.unusedSimpArgs false
theorem l1In_eq (a x y : Int) : spec_l1In.f a x y = some (decide (x ≤ a ∧ a ≤ y)) := by
  unfold spec_l1In.f
  split <;> rename_i h <;> simp <;> omega
theorem wsuccI {i n : Nat} (h : i < n) (hn : n ≤ 1000000000) : wrap64 ((i : Int) + 1) = ((i + 1 : Nat) : Int) := by unfold wrap64; omega
theorem rdI_at (l : List Int) (i : Nat) (h : i < l.length) : rd l (i : Int) = l[i] := by
  unfold rd
  rw [Int.toNat_natCast, List.getD_eq_getElem?_getD, List.getElem?_eq_getElem h]
  rfl
theorem toI_from (l : List Int) (hl : l.length ≤ 1000000000) (d : Nat) : ∀ (k : Nat) (xs : List Int) (i : Nat), xs.length = l.length → l.length = i + d → (∀ j, j < i → xs[j]? = l[j]?) → d < k →
    laws_toInt64S.l0 k l xs (i : Int) = some l := by
  induction d with
  | zero =>
    intro k xs i hx hd hp hk
    obtain ⟨k, rfl⟩ : ∃ m, k = m + 1 := ⟨k - 1, by omega⟩
    simp only [laws_toInt64S.l0]
    rw [if_neg (by omega)]
    refine congrArg some (List.ext_getElem? fun j => ?_)
    by_cases hj : j < i
    · exact hp j hj
    · rw [List.getElem?_eq_none (by omega), List.getElem?_eq_none (by omega)]
  | succ d ih =>
    intro k xs i hx hd hp hk
    obtain ⟨k, rfl⟩ : ∃ m, k = m + 1 := ⟨k - 1, by omega⟩
    simp only [laws_toInt64S.l0]
    have hi : i < l.length := by omega
    rw [if_pos (by omega), if_pos (by omega), if_pos (by omega), rdI_at l i hi, wsuccI hi hl, Int.toNat_natCast]
    refine ih k _ (i + 1) (by simpa using hx) (by omega) (fun j hj => ?_) (by omega)
    rw [List.getElem?_set]
    by_cases e : i = j
    · subst e
      rw [if_pos rfl, if_pos (by omega), List.getElem?_eq_getElem hi]
    · rw [if_neg e]
      exact hp j (by omega)
theorem toI_is (k : Nat) (l : List Int) (hl : l.length ≤ 1048576) (hk : l.length < k) : laws_toInt64S.f k l = some l := by
  unfold laws_toInt64S.f
  have e : ((l.length : Int)).toNat = l.length := by omega
  rw [if_pos (by omega), e, if_pos (by omega)]
  exact toI_from l (by omega) l.length k _ 0 (by simp) (by omega) (fun j hj => by omega) hk
theorem w_succ {i : Int} {n : Nat} (h0 : 0 ≤ i) (h : i < (n : Int)) (hn : n ≤ 1000000000) : wrap64 (i + 1) = i + 1 := by unfold wrap64; omega
theorem eq_from (l : List Int) (hl : l.length ≤ 1000000000) (d : Nat) : ∀ (k : Nat) (i : Int), 0 ≤ i → (l.length : Int) - i = d → d < k → laws_eqInt64S.l0 k l l i = some true := by
  induction d with
  | zero =>
    intro k i h0 hd hk
    obtain ⟨k, rfl⟩ : ∃ m, k = m + 1 := ⟨k - 1, by omega⟩
    simp only [laws_eqInt64S.l0]
    rw [if_neg (by omega)]
  | succ d ih =>
    intro k i h0 hd hk
    obtain ⟨k, rfl⟩ : ∃ m, k = m + 1 := ⟨k - 1, by omega⟩
    simp only [laws_eqInt64S.l0]
    rw [if_pos (by omega), if_pos h0, if_pos (by omega), if_pos trivial, w_succ (n := l.length) h0 (by omega) hl]
    exact ih k (i + 1) (by omega) (by omega) (by omega)
theorem eq_self (k : Nat) (l : List Int) (hl : l.length ≤ 1000000000) (hk : l.length < k) : laws_eqInt64S.f k l l = some true := by
  unfold laws_eqInt64S.f
  rw [if_pos rfl]
  exact eq_from l hl l.length k 0 (by omega) (by omega) hk
def marks (n : Nat) (m : Int) : List Int := (List.range n).map fun (j : Nat) => m + (j : Int)
theorem marks_length (n : Nat) (m : Int) : (marks n m).length = n := by simp [marks]
theorem marks_rd (n : Nat) (m : Int) (i : Int) (h0 : 0 ≤ i) (h : i < (n : Int)) : rd (marks n m) i = m + i := by
  unfold rd marks
  rw [List.getD_eq_getElem?_getD, List.getElem?_map, List.getElem?_range (by omega)]
  simp
  omega
theorem mark_from (m : Int) (hm0 : 0 ≤ m) (hm : m ≤ 1000000000) (d : Nat) : ∀ (k : Nat) (l : List Int) (i : Nat), l.length ≤ 1000000000 → l.length = i + d → (∀ j, j < i → l[j]? = some (m + (j : Int))) → d < k →
    laws_markInt64S.l0 k l (m + (i : Int)) (i : Int) = some (m + (l.length : Int), marks l.length m) := by
  induction d with
  | zero =>
    intro k l i hl hd hx hk
    obtain ⟨k, rfl⟩ : ∃ m, k = m + 1 := ⟨k - 1, by omega⟩
    simp only [laws_markInt64S.l0]
    rw [if_neg (by omega)]
    have e : l = marks l.length m := by
      apply List.ext_getElem?
      intro j
      by_cases hj : j < i
      · rw [hx j hj]
        unfold marks
        rw [List.getElem?_map, List.getElem?_range (by omega)]
        rfl
      · rw [List.getElem?_eq_none (by omega), List.getElem?_eq_none (by rw [marks_length]; omega)]
    rw [← e]
    exact congrArg some (Prod.ext (by show m + (i : Int) = m + (l.length : Int); omega) rfl)
  | succ d ih =>
    intro k l i hl hd hx hk
    obtain ⟨k, rfl⟩ : ∃ m, k = m + 1 := ⟨k - 1, by omega⟩
    simp only [laws_markInt64S.l0]
    have w1 : wrap64 (m + (i : Int) + 1) = m + ((i + 1 : Nat) : Int) := by unfold wrap64; omega
    have w2 : wrap64 ((i : Int) + 1) = ((i + 1 : Nat) : Int) := by unfold wrap64; omega
    rw [if_pos (by omega), if_pos (by omega), w1, w2]
    have hs : ((i : Int)).toNat = i := by omega
    rw [hs]
    have := ih k (l.set i (m + (i : Int))) (i + 1) (by simpa using hl) (by simp; omega) (fun j hj => by
      rw [List.getElem?_set]
      by_cases e : i = j
      · subst e
        rw [if_pos rfl, if_pos (by omega)]
      · rw [if_neg e]
        exact hx j (by omega)) (by omega)
    simpa using this
theorem mark_is (k : Nat) (l : List Int) (m : Int) (hl : l.length ≤ 1000000000) (hk : l.length < k) (hm0 : 0 ≤ m) (hm : m ≤ 1000000000) : laws_markInt64S.f k l m = some (m + l.length, marks l.length m) := by
  unfold laws_markInt64S.f
  have := mark_from m hm0 hm l.length k l 0 hl (by omega) (fun j hj => by omega) hk
  simpa using this
theorem rdP_at (l : List S59) (i : Nat) (h : i < l.length) : rd_T59 l (i : Int) = l[i] := by
  unfold rd_T59
  rw [Int.toNat_natCast, List.getD_eq_getElem?_getD, List.getElem?_eq_getElem h]
  rfl
theorem wsucc {i n : Nat} (h : i < n) (hn : n ≤ 1000000000) : wrap64 ((i : Int) + 1) = ((i + 1 : Nat) : Int) := by unfold wrap64; omega
theorem eqP_from (l : List S59) (hl : l.length ≤ 1000000000) (d : Nat) : ∀ (k i : Nat), l.length = i + d → d < k → laws_eqPageS.l0 k l l (i : Int) = some true := by
  induction d with
  | zero =>
    intro k i hd hk
    obtain ⟨k, rfl⟩ : ∃ m, k = m + 1 := ⟨k - 1, by omega⟩
    simp only [laws_eqPageS.l0]
    rw [if_neg (by omega)]
  | succ d ih =>
    intro k i hd hk
    obtain ⟨k, rfl⟩ : ∃ m, k = m + 1 := ⟨k - 1, by omega⟩
    have hi : i < l.length := by omega
    have e : ∀ a b : Int, laws_eqPage.f a b a b = some true := fun a b => by unfold laws_eqPage.f; rw [if_pos rfl, if_pos rfl]
    simp only [laws_eqPageS.l0, e, Option.bind_some]
    rw [if_pos (by omega), if_pos (by omega), if_pos (by omega), if_pos trivial, wsucc hi hl]
    exact ih k (i + 1) (by omega) (by omega)
theorem eqP_self (k : Nat) (l : List S59) (hl : l.length ≤ 1048576) (hk : l.length < k) : laws_eqPageS.f k l l = some true := by
  unfold laws_eqPageS.f
  rw [if_pos rfl]
  exact eqP_from l (by omega) l.length k 0 (by omega) hk
def marksP (n : Nat) (m : Int) : List S59 := (List.range n).map fun (j : Nat) => ⟨m + 2 * (j : Int), m + 2 * (j : Int) + 1⟩
theorem marksP_length (n : Nat) (m : Int) : (marksP n m).length = n := by simp [marksP]
theorem marksP_at (n : Nat) (m : Int) (i : Nat) (h : i < n) : (marksP n m)[i]? = some ⟨m + 2 * (i : Int), m + 2 * (i : Int) + 1⟩ := by
  unfold marksP
  rw [List.getElem?_map, List.getElem?_range h]
  rfl
theorem marksP_rd (n : Nat) (m : Int) (i : Nat) (h : i < n) : rd_T59 (marksP n m) (i : Int) = ⟨m + 2 * (i : Int), m + 2 * (i : Int) + 1⟩ := by
  unfold rd_T59
  rw [Int.toNat_natCast, List.getD_eq_getElem?_getD, marksP_at n m i h]
  rfl
theorem rdP_set (l : List S59) (i : Nat) (x : S59) (h : i < l.length) : rd_T59 (l.set i x) (i : Int) = x := by
  unfold rd_T59
  rw [Int.toNat_natCast, List.getD_eq_getElem?_getD, List.getElem?_set_self h]
  rfl
theorem markP_from (m : Int) (hm0 : 0 ≤ m) (hm : m ≤ 1000000000) (d : Nat) : ∀ (k : Nat) (l : List S59) (i : Nat), l.length ≤ 1000000000 → l.length = i + d → (∀ j, j < i → l[j]? = some ⟨m + 2 * (j : Int), m + 2 * (j : Int) + 1⟩) → d < k →
    laws_markPageS.l0 k l (m + 2 * (i : Int)) (i : Int) = some (m + 2 * (l.length : Int), marksP l.length m) := by
  induction d with
  | zero =>
    intro k l i hl hd hx hk
    obtain ⟨k, rfl⟩ : ∃ m, k = m + 1 := ⟨k - 1, by omega⟩
    simp only [laws_markPageS.l0]
    rw [if_neg (by omega)]
    have e : l = marksP l.length m := by
      apply List.ext_getElem?
      intro j
      by_cases hj : j < i
      · rw [hx j hj, marksP_at _ _ _ (by omega)]
      · rw [List.getElem?_eq_none (by omega), List.getElem?_eq_none (by rw [marksP_length]; omega)]
    rw [← e]
    exact congrArg some (Prod.ext (by show m + 2 * (i : Int) = m + 2 * (l.length : Int); omega) rfl)
  | succ d ih =>
    intro k l i hl hd hx hk
    obtain ⟨k, rfl⟩ : ∃ m, k = m + 1 := ⟨k - 1, by omega⟩
    simp only [laws_markPageS.l0]
    have hi : i < l.length := by omega
    have w1 : wrap64 (m + 2 * (i : Int) + 1) = m + 2 * (i : Int) + 1 := by unfold wrap64; omega
    have w3 : wrap64 (m + 2 * (i : Int) + 1 + 1) = m + 2 * ((i + 1 : Nat) : Int) := by unfold wrap64; omega
    have w2 : wrap64 ((i : Int) + 1) = ((i + 1 : Nat) : Int) := by unfold wrap64; omega
    rw [if_pos (by omega), if_pos (by omega), Option.bind_some, w1, w3, w2, Int.toNat_natCast, rdP_set l i _ hi, List.set_set]
    have := ih k (l.set i ⟨m + 2 * (i : Int), m + 2 * (i : Int) + 1⟩) (i + 1) (by rw [List.length_set]; exact hl) (by rw [List.length_set]; omega) (fun j hj => by
      rw [List.getElem?_set]
      by_cases e : i = j
      · subst e
        rw [if_pos rfl, if_pos (by omega)]
      · rw [if_neg e]
        exact hx j (by omega)) (by omega)
    rw [List.length_set] at this
    exact this
theorem markP_is (k : Nat) (l : List S59) (m : Int) (hl : l.length ≤ 1000000000) (hk : l.length < k) (hm0 : 0 ≤ m) (hm : m ≤ 1000000000) : laws_markPageS.f k l m = some (m + 2 * (l.length : Int), marksP l.length m) := by
  unfold laws_markPageS.f
  have := markP_from m hm0 hm l.length k l 0 hl (by omega) (fun j hj => by omega) hk
  simpa using this
theorem heldP_from (n : Nat) (m : Int) (hn : n ≤ 1000000000) (hm0 : 0 ≤ m) (hm : m ≤ 1000000000) (d : Nat) : ∀ (k i : Nat), n = i + d → d < k → laws_heldPageS.l0 k (marksP n m) (m + 2 * (i : Int)) (i : Int) = some (m + 2 * (n : Int)) := by
  induction d with
  | zero =>
    intro k i hd hk
    obtain ⟨k, rfl⟩ : ∃ m, k = m + 1 := ⟨k - 1, by omega⟩
    simp only [laws_heldPageS.l0]
    rw [if_neg (by rw [marksP_length]; omega)]
    exact congrArg some (by omega)
  | succ d ih =>
    intro k i hd hk
    obtain ⟨k, rfl⟩ : ∃ m, k = m + 1 := ⟨k - 1, by omega⟩
    simp only [laws_heldPageS.l0]
    have w1 : wrap64 (m + 2 * (i : Int) + 1) = m + 2 * (i : Int) + 1 := by unfold wrap64; omega
    have w3 : wrap64 (m + 2 * (i : Int) + 1 + 1) = m + 2 * ((i + 1 : Nat) : Int) := by unfold wrap64; omega
    have w2 : wrap64 ((i : Int) + 1) = ((i + 1 : Nat) : Int) := by unfold wrap64; omega
    have hr := marksP_rd n m i (by omega)
    rw [if_pos (by rw [marksP_length]; omega), if_pos (by omega), hr, w1, w3, w2]
    dsimp only
    rw [if_pos rfl, if_pos rfl]
    exact ih k (i + 1) (by omega) (by omega)
theorem heldP_is (k : Nat) (n : Nat) (m : Int) (hn : n ≤ 1000000000) (hk : n < k) (hm0 : 0 ≤ m) (hm : m ≤ 1000000000) : laws_heldPageS.f k (marksP n m) m = some (m + 2 * (n : Int)) := by
  unfold laws_heldPageS.f
  have := heldP_from n m hn hm0 hm n k 0 (by omega) hk
  simpa using this
theorem eqPR_self (k : Nat) (c : Int) (l : List S59) (hl : l.length ≤ 1048576) (hk : l.length < k) : laws_eqPagesResult.f k c l c l = some true := by
  unfold laws_eqPagesResult.f
  rw [if_pos rfl, eqP_self k l hl hk]
  rfl
theorem markPR (k : Nat) (c : Int) (l : List S59) (hl : l.length ≤ 1048576) (hk : l.length < k) : laws_markPagesResult.f k c l 1 = some (1 + 2 * (l.length : Int), marksP l.length 1) := by
  unfold laws_markPagesResult.f
  rw [markP_is k l 1 (by omega) hk (by omega) (by omega)]
  rfl
theorem heldPR (k : Nat) (c : Int) (n : Nat) (hl : n ≤ 1048576) (hk : n < k) : laws_heldPagesResult.f k c (marksP n 1) 1 = some (1 + 2 * (n : Int)) := by
  unfold laws_heldPagesResult.f
  rw [heldP_is k n 1 (by omega) hk (by omega) (by omega)]
  simp only [Option.bind_some]
  rw [if_neg (by omega)]
def ent (w : Int) : S59 := match spec_l4Entry.f w with
  | some x => ⟨x.1, x.2⟩
  | none => ⟨0, 0⟩
theorem ent_spec (w : Int) : spec_l4Entry.f w = some ((ent w).f0, (ent w).f1) := by
  unfold ent spec_l4Entry.f spec_l4None.f
  rw [Option.bind_some]
  by_cases c : Int.tmod w 8 = 0
  · rw [if_pos c]
  · rw [if_neg c]
    by_cases d : wrap64 (Int.tdiv w 8) ≥ 8
    · rw [if_pos d]
    · rw [if_neg d]
theorem ent_impl (w : Int) : impl_entryOf.f w = some ((ent w).f0, (ent w).f1) := ent_spec w
def pfrom (l : List Int) : Int × List S59 := if l.length = 8 then (if l.all isW = true then (0, l.map ent) else (3, [])) else (1, [])
theorem pfrom_len (l : List Int) : (pfrom l).2.length ≤ 8 := by
  unfold pfrom
  by_cases h : l.length = 8
  · rw [if_pos h]
    by_cases g : l.all isW = true
    · rw [if_pos g]; simp; omega
    · rw [if_neg g]; simp
  · rw [if_neg h]; simp
theorem map_take_succ (l : List Int) (i : Nat) (h : i < l.length) : (l.take i).map ent ++ [ent l[i]] = (l.take (i + 1)).map ent := by
  rw [List.take_succ_eq_append_getElem h, List.map_append]
  rfl
theorem specFrom (l : List Int) (hl : l.length = 8) (d : Nat) : ∀ (k i : Nat), l.length = i + d → d < k →
    spec_PagesFrom.l0 k l (i : Int) 0 ((l.take i).map ent) = some (if (l.drop i).all isW = true then (0, l.map ent) else (3, [])) := by
  induction d with
  | zero =>
    intro k i hd hk
    obtain ⟨k, rfl⟩ : ∃ m, k = m + 1 := ⟨k - 1, by omega⟩
    simp only [spec_PagesFrom.l0]
    rw [if_neg (by omega), List.drop_eq_nil_of_le (by omega), List.take_of_length_le (by omega)]
    rfl
  | succ d ih =>
    intro k i hd hk
    obtain ⟨k, rfl⟩ : ∃ m, k = m + 1 := ⟨k - 1, by omega⟩
    have hi : i < l.length := by omega
    have hi' := ih k (i + 1) (by omega) (by omega)
    have hlen : ((l.take i).map ent).length < 8796093022208 := by rw [List.length_map, List.length_take]; omega
    simp only [spec_PagesFrom.l0, l1In_eq, Option.bind_some, ent_spec]
    rw [if_pos (by omega), if_pos (by omega), rdI_at l i hi, wsuccI hi (by omega), List.drop_eq_getElem_cons hi, List.all_cons]
    have e : decide (0 ≤ l[i] ∧ l[i] ≤ 4294967295) = isW l[i] := rfl
    rw [e]
    cases isW l[i] with
    | true =>
      rw [if_pos rfl, if_pos hlen, Bool.true_and]
      rw [← map_take_succ l i hi] at hi'
      exact hi'
    | false => rw [if_neg (by decide), Bool.false_and, if_neg (by decide)]
theorem implFrom (l : List Int) (hl : l.length = 8) (d : Nat) : ∀ (k i : Nat), l.length = i + d → d < k →
    impl_PagesFrom.l0 k ((l.take i).map ent) l (l.length : Int) (i : Int) = some (0, l.map ent) := by
  induction d with
  | zero =>
    intro k i hd hk
    obtain ⟨k, rfl⟩ : ∃ m, k = m + 1 := ⟨k - 1, by omega⟩
    simp only [impl_PagesFrom.l0]
    rw [if_neg (by omega), List.take_of_length_le (by omega)]
  | succ d ih =>
    intro k i hd hk
    obtain ⟨k, rfl⟩ : ∃ m, k = m + 1 := ⟨k - 1, by omega⟩
    have hi : i < l.length := by omega
    have hi' := ih k (i + 1) (by omega) (by omega)
    have hlen : ((l.take i).map ent).length < 8796093022208 := by rw [List.length_map, List.length_take]; omega
    have p0 : (i : Int) < (l.length : Int) := by omega
    have p1 : (0 : Int) ≤ (i : Int) := by omega
    simp only [impl_PagesFrom.l0, ent_impl, Option.bind_some]
    rw [if_pos p0, if_pos p1, if_pos p0, if_pos hlen, rdI_at l i hi, wsuccI hi (by omega)]
    rw [← map_take_succ l i hi] at hi'
    exact hi'
theorem specPFr (k : Nat) (hk : 10 < k) (l : List Int) : spec_PagesFrom.f k l = some (pfrom l) := by
  unfold spec_PagesFrom.f pfrom
  by_cases h : l.length = 8
  · rw [if_pos (by omega), if_pos h]
    exact specFrom l h l.length k 0 (by omega) (by omega)
  · rw [if_neg (by omega), if_neg h]
theorem implPFr (k : Nat) (hk : 10 < k) (l : List Int) : impl_PagesFrom.f k l = some (pfrom l) := by
  unfold impl_PagesFrom.f pfrom impl_areWords.f
  by_cases h : l.length = 8
  · rw [if_pos (by omega), if_pos h, Option.bind_some]
    by_cases g : l.all isW = true
    · rw [if_pos g, if_pos g]
      exact implFrom l h l.length k 0 (by omega) (by omega)
    · rw [if_neg g, if_neg g]
  · rw [if_neg (by omega), if_neg h]
theorem last_is (k : Nat) (hk : 200 < k) (l : List Int) (hl : l.length ≤ 1048576) (hlk : l.length < k) : laws_FnExactPagesFrom.j0 (k + 1) l false (pfrom l).1 (pfrom l).2 (pfrom l).1 (pfrom l).2 = some true := by
  have h2 := pfrom_len l
  simp only [laws_FnExactPagesFrom.j0]
  have h3 : ¬ (1 + 2 * ((pfrom l).2.length : Int)) < 0 := by omega
  rw [if_neg (by decide), markPR _ _ _ (by omega) (by omega), Option.bind_some]
  dsimp only
  rw [heldPR _ _ _ (by omega) (by omega), Option.bind_some, if_neg h3, if_pos rfl, toI_is _ l hl (by omega), Option.bind_some, implPFr k (by omega) l, Option.bind_some, eqPR_self _ _ _ (by omega) (by omega), Option.bind_some, if_pos rfl, Option.bind_some, if_neg h3, if_pos rfl]
theorem FnExactPagesFrom : laws_FnExactPagesFrom.Pure := by
  intro l hm _ _
  refine ⟨l.length + 300, ?_⟩
  unfold laws_FnExactPagesFrom.f
  by_cases hb : (l.length : Int) > 1048576
  · rw [if_pos hb]
  have hl : l.length ≤ 1048576 := by omega
  have h2 := pfrom_len l
  have h3 : ¬ (1 + (l.length : Int)) < 0 := by omega
  rw [if_neg hb, toI_is _ l hl (by omega), Option.bind_some, specPFr _ (by omega) l, Option.bind_some, Option.bind_some, implPFr _ (by omega) l, Option.bind_some, eqPR_self _ _ _ (by omega) (by omega), Option.bind_some, if_pos rfl, Option.bind_some, eq_self _ l (by omega) (by omega), Option.bind_some, if_pos rfl, mark_is _ l 1 (by omega) (by omega) (by omega) (by omega), Option.bind_some]
  dsimp only
  rw [if_neg h3, Option.bind_some]
  exact last_is (l.length + 299) (by omega) l hl (by omega)

end Go.Proofs.Ytjeokjjlhpocdaa.Pure
