/- FlushCache of the program and of the reference tell the same, what it tells is new, and the cache stays, for every list of hits and every tag. No condition. -/
import Derived.Test.YtoojkiihbpnfdaaPFnExactFlushCachex5
import Derived.Test.YtoojkiihbpnfdaaLem
namespace Go.Proofs.Ytoojkiihbpnfdaa.Pure
open Go.RowKit Go.Proofs.Ytoojkiihbpnfdaa.PFnExactFlushCache Go.Proofs.YtoojkiihbpnfdaaW.PrintWords Go.Proofs.YtoojkiihbpnfdaaW.PrintLast Go.Proofs.YtoojkiihbpnfdaaW.PrintMore
open Go.Proofs.Ytoojkiihbpnfdaa.Lem
set_option linter.unusedVariables false
set_option linter.unusedSimpArgs false
theorem within_eq (a x y : Int) : impl_within.f a x y = some (decide (x ≤ a ∧ a ≤ y)) := by
  unfold impl_within.f
  split <;> rename_i h <;> simp <;> omega
theorem l1In_eq (a x y : Int) : spec_l1In.f a x y = some (decide (x ≤ a ∧ a ≤ y)) := by
  unfold spec_l1In.f
  split <;> rename_i h <;> simp <;> omega
def toH (x : S24) : S31 := ⟨x.f0, x.f1, x.f2, x.f3⟩
theorem rdH_at (l : List S31) (i : Nat) (h : i < l.length) : rd_T31 l (i : Int) = l[i] := by
  unfold rd_T31
  rw [Int.toNat_natCast, List.getD_eq_getElem?_getD, List.getElem?_eq_getElem h]
  rfl
theorem wsuccH {i n : Nat} (h : i < n) (hn : n ≤ 1000000000) : wrap64 ((i : Int) + 1) = ((i + 1 : Nat) : Int) := by unfold wrap64; omega
theorem rdG_at (l : List S24) (i : Nat) (h : i < l.length) : rd_T24 l (i : Int) = l[i] := by
  unfold rd_T24
  rw [Int.toNat_natCast, List.getD_eq_getElem?_getD, List.getElem?_eq_getElem h]
  rfl
theorem toH_from (l : List S24) (hl : l.length ≤ 1000000000) (d : Nat) : ∀ (k : Nat) (xs : List S31) (i : Nat), xs.length = l.length → l.length = i + d → (∀ j, j < i → xs[j]? = (l.map toH)[j]?) → d < k →
    laws_toHitS.l0 k l xs (i : Int) = some (l.map toH) := by
  induction d with
  | zero =>
    intro k xs i hx hd hp hk
    obtain ⟨k, rfl⟩ : ∃ m, k = m + 1 := ⟨k - 1, by omega⟩
    simp only [laws_toHitS.l0]
    rw [if_neg (by omega)]
    refine congrArg some (List.ext_getElem? fun j => ?_)
    by_cases hj : j < i
    · exact hp j hj
    · rw [List.getElem?_eq_none (by omega), List.getElem?_eq_none (by rw [List.length_map]; omega)]
  | succ d ih =>
    intro k xs i hx hd hp hk
    obtain ⟨k, rfl⟩ : ∃ m, k = m + 1 := ⟨k - 1, by omega⟩
    simp only [laws_toHitS.l0, laws_toHit.f, Option.bind_some]
    have hi : i < l.length := by omega
    rw [if_pos (by omega), if_pos (by omega), if_pos (by omega), rdG_at l i hi, wsuccH hi hl, Int.toNat_natCast]
    refine ih k _ (i + 1) (by simpa using hx) (by omega) (fun j hj => ?_) (by omega)
    rw [List.getElem?_set]
    by_cases e : i = j
    · subst e
      rw [if_pos rfl, if_pos (by omega), List.getElem?_map, List.getElem?_eq_getElem hi]
      rfl
    · rw [if_neg e]
      exact hp j (by omega)
theorem toH_is (k : Nat) (l : List S24) (hl : l.length ≤ 1048576) (hk : l.length < k) : laws_toHitS.f k l = some (l.map toH) := by
  unfold laws_toHitS.f
  have e : ((l.length : Int)).toNat = l.length := by omega
  rw [if_pos (by omega), e, if_pos (by omega)]
  exact toH_from l (by omega) l.length k _ 0 (by simp) (by omega) (fun j hj => by omega) hk
theorem eqH_from (l : List S31) (hl : l.length ≤ 1000000000) (d : Nat) : ∀ (k i : Nat), l.length = i + d → d < k → laws_eqHitS.l0 k l l (i : Int) = some true := by
  induction d with
  | zero =>
    intro k i hd hk
    obtain ⟨k, rfl⟩ : ∃ m, k = m + 1 := ⟨k - 1, by omega⟩
    simp only [laws_eqHitS.l0]
    rw [if_neg (by omega)]
  | succ d ih =>
    intro k i hd hk
    obtain ⟨k, rfl⟩ : ∃ m, k = m + 1 := ⟨k - 1, by omega⟩
    have hi : i < l.length := by omega
    have e : ∀ a b c d : Int, laws_eqHit.f a b c d a b c d = some true := fun a b c d => by unfold laws_eqHit.f; rw [if_pos rfl, if_pos rfl, if_pos rfl, if_pos rfl]
    simp only [laws_eqHitS.l0, e, Option.bind_some]
    rw [if_pos (by omega), if_pos (by omega), if_pos (by omega), if_pos trivial, wsuccH hi hl]
    exact ih k (i + 1) (by omega) (by omega)
theorem eqH_self (k : Nat) (l : List S31) (hl : l.length ≤ 1048576) (hk : l.length < k) : laws_eqHitS.f k l l = some true := by
  unfold laws_eqHitS.f
  rw [if_pos rfl]
  exact eqH_from l (by omega) l.length k 0 (by omega) hk
theorem szH (n : Nat) (l : List S24) (hm : l.length ≤ maxLen) (hn : n ≤ 1048576) : laws_szHitS.f l (n : Int) = some (if n < l.length then -1 else ((n - l.length : Nat) : Int)) := by
  unfold maxLen at hm
  have e : wrap64 ((n : Int) - (l.length : Int)) = (n : Int) - (l.length : Int) := by unfold wrap64; omega
  unfold laws_szHitS.f
  rw [e]
  by_cases h : n < l.length
  · rw [if_pos (by omega), if_pos h]
  · rw [if_neg (by omega), if_neg h]
    exact congrArg some (by omega)
def hOk (x : S31) : Prop := (0 ≤ x.f0 ∧ x.f0 ≤ 9) ∧ (0 ≤ x.f1 ∧ x.f1 ≤ 7) ∧ (0 ≤ x.f2 ∧ x.f2 ≤ 23) ∧ (1 ≤ x.f3 ∧ x.f3 ≤ 7)
instance (x : S31) : Decidable (hOk x) := by unfold hOk; infer_instance
theorem hitOk_spec (x : S31) : spec_l5Hit.f x.f0 x.f1 x.f2 x.f3 = some (decide (hOk x)) := by
  unfold spec_l5Hit.f
  simp only [l1In_eq, Option.bind_some, decide_eq_true_eq]
  by_cases a : 0 ≤ x.f0 ∧ x.f0 ≤ 9
  · by_cases b : 0 ≤ x.f1 ∧ x.f1 ≤ 7
    · by_cases c : 0 ≤ x.f2 ∧ x.f2 ≤ 23
      · rw [if_pos a, if_pos b, if_pos c]
        exact congrArg some (decide_eq_decide.mpr ⟨fun d => ⟨a, b, c, d⟩, fun h => h.2.2.2⟩)
      · rw [if_pos a, if_pos b, if_neg c, decide_eq_false (fun h : hOk x => c h.2.2.1)]
    · rw [if_pos a, if_neg b, decide_eq_false (fun h : hOk x => b h.2.1)]
  · rw [if_neg a, decide_eq_false (fun h : hOk x => a h.1)]
theorem hitOk_impl (x : S31) : impl_hitFault.f x.f0 x.f1 x.f2 x.f3 = some (if hOk x then 0 else 3) := by
  unfold impl_hitFault.f
  simp only [within_eq, Option.bind_some, decide_eq_true_eq]
  by_cases a : 0 ≤ x.f0 ∧ x.f0 ≤ 9
  · by_cases b : 0 ≤ x.f1 ∧ x.f1 ≤ 7
    · by_cases c : 0 ≤ x.f2 ∧ x.f2 ≤ 23
      · by_cases d : 1 ≤ x.f3 ∧ x.f3 ≤ 7
        · rw [if_pos a, if_pos b, if_pos c, if_pos d, if_pos (show hOk x from ⟨a, b, c, d⟩)]
        · rw [if_pos a, if_pos b, if_pos c, if_neg d, if_neg (fun h : hOk x => d h.2.2.2)]
      · rw [if_pos a, if_pos b, if_neg c, if_neg (fun h : hOk x => c h.2.2.1)]
    · rw [if_pos a, if_neg b, if_neg (fun h : hOk x => b h.2.1)]
  · rw [if_neg a, if_neg (fun h : hOk x => a h.1)]
theorem find_from (l : List S31) (hl : l.length ≤ 1000000000) (t p : Int) (d : Nat) : ∀ (k i : Nat), l.length = i + d → d < k → spec_l5Find.l0 k l t p (i : Int) = some (hIdx t p (l.drop i) (i : Int)) := by
  induction d with
  | zero =>
    intro k i hd hk
    obtain ⟨k, rfl⟩ : ∃ m, k = m + 1 := ⟨k - 1, by omega⟩
    simp only [spec_l5Find.l0]
    rw [if_neg (by omega), hIdx_end _ _ _ _ (by omega)]
  | succ d ih =>
    intro k i hd hk
    obtain ⟨k, rfl⟩ : ∃ m, k = m + 1 := ⟨k - 1, by omega⟩
    have hi : i < l.length := by omega
    have hi' := ih k (i + 1) (by omega) (by omega)
    have p0 : (i : Int) < (l.length : Int) := by omega
    have p1 : (0 : Int) ≤ (i : Int) := by omega
    rw [hIdx_cons t p l i hi]
    simp only [spec_l5Find.l0]
    rw [if_pos p0, if_pos p1, wsuccH hi hl, hi']
    generalize (rd_T31 l (i : Int)).f0 = F0
    generalize (rd_T31 l (i : Int)).f1 = F1
    by_cases c1 : F0 = t
    · have e1 : (F0 == t) = true := beq_iff_eq.mpr c1
      rw [if_pos c1, e1, Bool.true_and]
      by_cases c2 : F1 = p
      · rw [if_pos c2, if_pos (beq_iff_eq.mpr c2)]
      · rw [if_neg c2, beq_eq_false_iff_ne.mpr c2, if_neg (by decide)]
    · rw [if_neg c1, beq_eq_false_iff_ne.mpr c1, Bool.false_and, if_neg (by decide)]
theorem find_is (k : Nat) (l : List S31) (hl : l.length ≤ 1000000000) (t p : Int) (hk : l.length < k) : spec_l5Find.f k l t p = some (hIdx t p l 0) := by
  unfold spec_l5Find.f
  exact find_from l hl t p l.length k 0 (by omega) hk
def cfl (pre : List S31) : List S31 → Int
  | [] => 0
  | x :: t => if hOk x then (if hIdx x.f0 x.f1 pre 0 ≥ 0 then 6 else cfl (pre ++ [x]) t) else 3
def cf (l : List S31) : Int := if 12 < l.length then 2 else cfl [] l
theorem cfl_at (l : List S31) (i : Nat) (h : i < l.length) : cfl (l.take i) (l.drop i) = if hOk l[i] then (if hIdx l[i].f0 l[i].f1 (l.take i) 0 ≥ 0 then 6 else cfl (l.take (i + 1)) (l.drop (i + 1))) else 3 := by
  rw [List.drop_eq_getElem_cons h, List.take_succ_eq_append_getElem h]
  rfl
theorem specCF_from (l : List S31) (hl : l.length ≤ 12) (d : Nat) : ∀ (k i : Nat), l.length = i + d → d + 20 < k → spec_CacheFault.l0 k l (i : Int) = some (cfl (l.take i) (l.drop i)) := by
  induction d with
  | zero =>
    intro k i hd hk
    obtain ⟨k, rfl⟩ : ∃ m, k = m + 1 := ⟨k - 1, by omega⟩
    simp only [spec_CacheFault.l0]
    rw [if_neg (by omega), List.drop_eq_nil_of_le (by omega)]
    rfl
  | succ d ih =>
    intro k i hd hk
    obtain ⟨k, rfl⟩ : ∃ m, k = m + 1 := ⟨k - 1, by omega⟩
    have hi : i < l.length := by omega
    have hi' := ih k (i + 1) (by omega) (by omega)
    have p0 : (i : Int) < (l.length : Int) := by omega
    have p1 : (0 : Int) ≤ (i : Int) := by omega
    have p2 : (i : Int) ≤ (l.length : Int) := by omega
    rw [cfl_at l i hi]
    simp only [spec_CacheFault.l0]
    rw [if_pos p0, if_pos p1, rdH_at l i hi, hitOk_spec, Option.bind_some, wsuccH hi (by omega), hi', Int.toNat_natCast]
    by_cases c : hOk l[i]
    · rw [decide_eq_true c, if_pos rfl, if_pos p2, if_pos c, find_is k _ (by rw [List.length_take]; omega) _ _ (by rw [List.length_take]; omega), Option.bind_some]
      by_cases g : hIdx l[i].f0 l[i].f1 (l.take i) 0 ≥ 0
      · rw [if_pos g, if_pos g]
      · rw [if_neg g, if_neg g]
    · rw [decide_eq_false c, if_neg (by decide), if_neg c]
theorem implCF_from (l : List S31) (hl : l.length ≤ 12) (d : Nat) : ∀ (k i : Nat), l.length = i + d → d < k → impl_CacheFault.l0 k l l (l.length : Int) (i : Int) = some (cfl (l.take i) (l.drop i)) := by
  induction d with
  | zero =>
    intro k i hd hk
    obtain ⟨k, rfl⟩ : ∃ m, k = m + 1 := ⟨k - 1, by omega⟩
    simp only [impl_CacheFault.l0]
    rw [if_neg (by omega), List.drop_eq_nil_of_le (by omega)]
    rfl
  | succ d ih =>
    intro k i hd hk
    obtain ⟨k, rfl⟩ : ∃ m, k = m + 1 := ⟨k - 1, by omega⟩
    have hi : i < l.length := by omega
    have hi' := ih k (i + 1) (by omega) (by omega)
    have p0 : (i : Int) < (l.length : Int) := by omega
    have p1 : (0 : Int) ≤ (i : Int) := by omega
    have p2 : (i : Int) ≤ (l.length : Int) := by omega
    rw [cfl_at l i hi]
    simp only [impl_CacheFault.l0, impl_hitAt.f]
    rw [if_pos p0, if_pos p1, if_pos p0, rdH_at l i hi, hitOk_impl, Option.bind_some, wsuccH hi (by omega), hi', Int.toNat_natCast]
    by_cases c : hOk l[i]
    · rw [if_pos c, if_pos rfl, if_pos p2, Option.bind_some, if_pos c]
      by_cases g : hIdx l[i].f0 l[i].f1 (l.take i) 0 ≥ 0
      · rw [if_pos g, if_pos g]
      · rw [if_neg g, if_neg g]
    · rw [if_neg c, if_neg (by decide), if_neg c]
theorem specCF (k : Nat) (l : List S31) (hk : 40 < k) : spec_CacheFault.f k l = some (cf l) := by
  unfold spec_CacheFault.f cf
  by_cases h : 12 < l.length
  · rw [if_pos (by omega), if_pos h]
  · rw [if_neg (by omega), if_neg h]
    exact specCF_from l (by omega) l.length k 0 (by omega) (by omega)
theorem implCF (k : Nat) (l : List S31) (hk : 40 < k) : impl_CacheFault.f k l = some (cf l) := by
  unfold impl_CacheFault.f cf
  by_cases h : 12 < l.length
  · rw [if_pos (by omega), if_pos h]
  · rw [if_neg (by omega), if_neg h]
    exact implCF_from l (by omega) l.length k 0 (by omega) (by omega)
def mk4 (m : Int) (i : Int) : S31 := ⟨m + 4 * i, m + 4 * i + 1, m + 4 * i + 2, m + 4 * i + 3⟩
def marksH (n : Nat) (m : Int) : List S31 := (List.range n).map fun (j : Nat) => mk4 m (j : Int)
theorem marksH_length (n : Nat) (m : Int) : (marksH n m).length = n := by simp [marksH]
theorem marksH_at (n : Nat) (m : Int) (i : Nat) (h : i < n) : (marksH n m)[i]? = some (mk4 m (i : Int)) := by
  unfold marksH
  rw [List.getElem?_map, List.getElem?_range h]
  rfl
theorem marksH_rd (n : Nat) (m : Int) (i : Nat) (h : i < n) : rd_T31 (marksH n m) (i : Int) = mk4 m (i : Int) := by
  unfold rd_T31
  rw [Int.toNat_natCast, List.getD_eq_getElem?_getD, marksH_at n m i h]
  rfl
theorem rdH_set (l : List S31) (i : Nat) (x : S31) (h : i < l.length) : rd_T31 (l.set i x) (i : Int) = x := by
  unfold rd_T31
  rw [Int.toNat_natCast, List.getD_eq_getElem?_getD, List.getElem?_set_self h]
  rfl
theorem markH_from (m : Int) (hm0 : 0 ≤ m) (hm : m ≤ 1000000000) (d : Nat) : ∀ (k : Nat) (l : List S31) (i : Nat), l.length ≤ 1000000000 → l.length = i + d → (∀ j, j < i → l[j]? = some (mk4 m (j : Int))) → d < k →
    laws_markHitS.l0 k l (m + 4 * (i : Int)) (i : Int) = some (m + 4 * (l.length : Int), marksH l.length m) := by
  induction d with
  | zero =>
    intro k l i hl hd hx hk
    obtain ⟨k, rfl⟩ : ∃ m, k = m + 1 := ⟨k - 1, by omega⟩
    simp only [laws_markHitS.l0]
    rw [if_neg (by omega)]
    have e : l = marksH l.length m := by
      apply List.ext_getElem?
      intro j
      by_cases hj : j < i
      · rw [hx j hj, marksH_at _ _ _ (by omega)]
      · rw [List.getElem?_eq_none (by omega), List.getElem?_eq_none (by rw [marksH_length]; omega)]
    rw [← e]
    exact congrArg some (Prod.ext (by show m + 4 * (i : Int) = m + 4 * (l.length : Int); omega) rfl)
  | succ d ih =>
    intro k l i hl hd hx hk
    obtain ⟨k, rfl⟩ : ∃ m, k = m + 1 := ⟨k - 1, by omega⟩
    simp only [laws_markHitS.l0]
    have hi : i < l.length := by omega
    have w1 : wrap64 (m + 4 * (i : Int) + 1) = m + 4 * (i : Int) + 1 := by unfold wrap64; omega
    have w2 : wrap64 (m + 4 * (i : Int) + 1 + 1) = m + 4 * (i : Int) + 2 := by unfold wrap64; omega
    have w3 : wrap64 (m + 4 * (i : Int) + 2 + 1) = m + 4 * (i : Int) + 3 := by unfold wrap64; omega
    have w4 : wrap64 (m + 4 * (i : Int) + 3 + 1) = m + 4 * ((i + 1 : Nat) : Int) := by unfold wrap64; omega
    have w5 : wrap64 ((i : Int) + 1) = ((i + 1 : Nat) : Int) := by unfold wrap64; omega
    rw [if_pos (by omega), if_pos (by omega), Option.bind_some, Option.bind_some, Option.bind_some, w1, w2, w3, w4, w5, Int.toNat_natCast]
    simp only [rdH_set l i _ hi, List.set_set]
    have := ih k (l.set i (mk4 m (i : Int))) (i + 1) (by rw [List.length_set]; exact hl) (by rw [List.length_set]; omega) (fun j hj => by
      rw [List.getElem?_set]
      by_cases e : i = j
      · subst e
        rw [if_pos rfl, if_pos (by omega)]
      · rw [if_neg e]
        exact hx j (by omega)) (by omega)
    rw [List.length_set] at this
    exact this
theorem markH_is (k : Nat) (l : List S31) (m : Int) (hl : l.length ≤ 1000000000) (hk : l.length < k) (hm0 : 0 ≤ m) (hm : m ≤ 1000000000) : laws_markHitS.f k l m = some (m + 4 * (l.length : Int), marksH l.length m) := by
  unfold laws_markHitS.f
  have := markH_from m hm0 hm l.length k l 0 hl (by omega) (fun j hj => by omega) hk
  simpa using this
theorem heldH_from (n : Nat) (m : Int) (hn : n ≤ 1000000000) (hm0 : 0 ≤ m) (hm : m ≤ 1000000000) (d : Nat) : ∀ (k i : Nat), n = i + d → d < k → laws_heldHitS.l0 k (marksH n m) (m + 4 * (i : Int)) (i : Int) = some (m + 4 * (n : Int)) := by
  induction d with
  | zero =>
    intro k i hd hk
    obtain ⟨k, rfl⟩ : ∃ m, k = m + 1 := ⟨k - 1, by omega⟩
    simp only [laws_heldHitS.l0]
    rw [if_neg (by rw [marksH_length]; omega)]
    exact congrArg some (by omega)
  | succ d ih =>
    intro k i hd hk
    obtain ⟨k, rfl⟩ : ∃ m, k = m + 1 := ⟨k - 1, by omega⟩
    simp only [laws_heldHitS.l0]
    have w1 : wrap64 (m + 4 * (i : Int) + 1) = m + 4 * (i : Int) + 1 := by unfold wrap64; omega
    have w2 : wrap64 (m + 4 * (i : Int) + 1 + 1) = m + 4 * (i : Int) + 2 := by unfold wrap64; omega
    have w3 : wrap64 (m + 4 * (i : Int) + 2 + 1) = m + 4 * (i : Int) + 3 := by unfold wrap64; omega
    have w4 : wrap64 (m + 4 * (i : Int) + 3 + 1) = m + 4 * ((i + 1 : Nat) : Int) := by unfold wrap64; omega
    have w5 : wrap64 ((i : Int) + 1) = ((i + 1 : Nat) : Int) := by unfold wrap64; omega
    have hr := marksH_rd n m i (by omega)
    rw [if_pos (by rw [marksH_length]; omega), if_pos (by omega), hr, w1, w2, w3, w4, w5]
    unfold mk4
    dsimp only
    rw [if_pos rfl, if_pos rfl, if_pos rfl, if_pos rfl]
    exact ih k (i + 1) (by omega) (by omega)
theorem heldH_is (k : Nat) (n : Nat) (m : Int) (hn : n ≤ 1000000000) (hk : n < k) (hm0 : 0 ≤ m) (hm : m ≤ 1000000000) : laws_heldHitS.f k (marksH n m) m = some (m + 4 * (n : Int)) := by
  unfold laws_heldHitS.f
  have := heldH_from n m hn hm0 hm n k 0 (by omega) hk
  simpa using this
theorem eqCR_self (k : Nat) (c v : Int) (b : Bool) (l : List S31) (hl : l.length ≤ 1048576) (hk : l.length < k) : laws_eqCacheResult.f k c v b l c v b l = some true := by
  unfold laws_eqCacheResult.f
  rw [if_pos rfl, if_pos rfl, if_neg (by simp), eqH_self k l hl hk]
  rfl
theorem markCR (k : Nat) (c v : Int) (b : Bool) (l : List S31) (hl : l.length ≤ 1048576) (hk : l.length < k) : laws_markCacheResult.f k c v b l 1 = some (1 + 4 * (l.length : Int), marksH l.length 1) := by
  unfold laws_markCacheResult.f
  rw [markH_is k l 1 (by omega) hk (by omega) (by omega)]
  rfl
theorem heldCR (k : Nat) (c v : Int) (b : Bool) (n : Nat) (hl : n ≤ 1048576) (hk : n < k) : laws_heldCacheResult.f k c v b (marksH n 1) 1 = some (1 + 4 * (n : Int)) := by
  unfold laws_heldCacheResult.f
  rw [heldH_is k n 1 (by omega) hk (by omega) (by omega)]
  simp only [Option.bind_some]
  rw [if_neg (by omega)]
theorem cf_le {l : List S31} (h : cf l = 0) : l.length ≤ 12 := by
  unfold cf at h
  by_cases g : 12 < l.length
  · rw [if_pos g] at h; exact absurd h (by decide)
  · omega
theorem implClone (l : List S31) (hl : l.length ≤ 1048576) : impl_Hit_45.f l = some l := by
  unfold impl_Hit_45.f
  rw [if_neg (by decide), Option.bind_some, if_pos (by simp; omega), List.nil_append]
def keepT (tag : Int) (x : S31) : Bool := !flB tag x
theorem specFlush_from (l : List S31) (hl : l.length ≤ 100) (tag : Int) (d : Nat) : ∀ (k : Nat) (xs : List S31) (i : Nat), l.length = i + d → xs.length ≤ i → d < k → spec_FlushCache.l0 k l tag (i : Int) 0 0 false xs = some (0, 0, false, xs ++ (l.drop i).filter (keepT tag)) := by
  induction d with
  | zero =>
    intro k xs i hd hx hk
    obtain ⟨k, rfl⟩ : ∃ m, k = m + 1 := ⟨k - 1, by omega⟩
    simp only [spec_FlushCache.l0]
    rw [if_neg (by omega), List.drop_eq_nil_of_le (by omega)]
    simp
  | succ d ih =>
    intro k xs i hd hx hk
    obtain ⟨k, rfl⟩ : ∃ m, k = m + 1 := ⟨k - 1, by omega⟩
    have hi : i < l.length := by omega
    have p0 : (i : Int) < (l.length : Int) := by omega
    have p1 : (0 : Int) ≤ (i : Int) := by omega
    have p2 : xs.length < 4398046511104 := by omega
    simp only [spec_FlushCache.l0]
    rw [if_pos p0, if_pos p1, wsuccH hi (by omega), rdH_at l i hi, List.drop_eq_getElem_cons hi, List.filter_cons]
    by_cases c : l[i].f0 = tag
    · have e : keepT tag l[i] = false := by unfold keepT flB; simp [c]
      rw [if_pos c, e, if_neg (by decide), ih k xs (i + 1) (by omega) (by omega) (by omega)]
    · have e : keepT tag l[i] = true := by unfold keepT flB; simp [c]
      rw [if_neg c, if_pos p2, e, if_pos rfl]
      have := ih k (xs ++ [l[i]]) (i + 1) (by omega) (by rw [List.length_append]; show xs.length + 1 ≤ i + 1; omega) (by omega)
      refine this.trans ?_
      rw [List.append_assoc xs, List.singleton_append]
def flc (l : List S31) (tag : Int) : Int × Int × Bool × List S31 := if cf l = 0 then (if 0 ≤ tag ∧ tag ≤ 9 then (0, 0, false, l.filter (keepT tag)) else (3, 0, false, [])) else (cf l, 0, false, [])
theorem flc_len (l : List S31) (tag : Int) : (flc l tag).2.2.2.length ≤ 12 := by
  unfold flc
  by_cases c : cf l = 0
  · have := cf_le c
    have := List.length_filter_le (keepT tag) l
    rw [if_pos c]
    split
    · show (l.filter (keepT tag)).length ≤ 12; omega
    · simp
  · rw [if_neg c]; simp
theorem specFlush (k : Nat) (l : List S31) (tag : Int) (hk : 60 < k) : spec_FlushCache.f k l tag = some (flc l tag) := by
  unfold spec_FlushCache.f flc
  rw [specCF k l (by omega), Option.bind_some]
  by_cases c : cf l = 0
  · rw [if_pos c, if_pos c, l1In_eq, Option.bind_some]
    by_cases g : 0 ≤ tag ∧ tag ≤ 9
    · have := specFlush_from l (by have := cf_le c; omega) tag l.length k [] 0 (by omega) (by simp) (by have := cf_le c; omega)
      rw [decide_eq_true g, if_pos rfl, if_pos g]
      exact this
    · rw [decide_eq_false g, if_neg (by decide), if_neg g]
  · rw [if_neg c, if_neg c]
theorem implFlush (k : Nat) (l : List S31) (tag : Int) (hk : 60 < k) : impl_FlushCache.f k l tag = some (flc l tag) := by
  unfold impl_FlushCache.f flc
  rw [implCF k l (by omega), Option.bind_some]
  by_cases c : cf l = 0
  · rw [if_pos c, if_pos c, within_eq, Option.bind_some]
    by_cases g : 0 ≤ tag ∧ tag ≤ 9
    · rw [decide_eq_true g, if_pos rfl, if_pos g, implClone l (by have := cf_le c; omega), Option.bind_some]
      rfl
    · rw [decide_eq_false g, if_neg (by decide), if_neg g]
  · rw [if_neg c, if_neg c]
theorem FnExactFlushCache : laws_FnExactFlushCache.Pure := by
  intro l tag hm hw _
  refine ⟨l.length + 100 + 1, ?_⟩
  unfold laws_FnExactFlushCache.f
  have hz := szH 1048576 l hm (by omega)
  rw [show ((1048576 : Nat) : Int) = 1048576 from rfl] at hz
  rw [hz, Option.bind_some]
  by_cases hb : 1048576 < l.length
  · rw [if_pos hb, if_pos (by omega)]
  have hl' : (l.map toH).length ≤ 1048576 := by rw [List.length_map]; omega
  have hk' : (l.map toH).length < l.length + 100 := by rw [List.length_map]; omega
  have s := specFlush (l.length + 100 + 1) (l.map toH) tag (by omega)
  have i1 := implFlush (l.length + 100 + 1) (l.map toH) tag (by omega)
  have i2 := implFlush (l.length + 100) (l.map toH) tag (by omega)
  have hn := flc_len (l.map toH) tag
  generalize flc (l.map toH) tag = F at *
  have q1 : ¬ (1 + 4 * (F.2.2.2.length : Int)) < 0 := by omega
  rw [if_neg hb, if_neg (by omega), toH_is _ l (by omega) (by omega), Option.bind_some, s, Option.bind_some, Option.bind_some, i1, Option.bind_some, eqCR_self _ _ _ _ _ (by omega) (by omega), Option.bind_some, if_pos rfl, Option.bind_some, eqH_self _ _ hl' (by omega), Option.bind_some, if_pos rfl, markH_is _ _ 1 (by omega) (by omega) (by omega) (by omega), Option.bind_some]
  dsimp only
  rw [if_neg (by omega), Option.bind_some]
  simp only [laws_FnExactFlushCache.j0]
  rw [if_neg (by decide), markCR _ _ _ _ _ (by omega) (by omega), Option.bind_some]
  dsimp only
  rw [heldCR _ _ _ _ _ (by omega) (by omega), Option.bind_some, if_neg q1, if_pos rfl, toH_is _ l (by omega) (by omega), Option.bind_some, i2, Option.bind_some, eqCR_self _ _ _ _ _ (by omega) (by omega), Option.bind_some, if_pos rfl, Option.bind_some, if_neg q1, if_pos rfl]

end Go.Proofs.Ytoojkiihbpnfdaa.Pure
