/- CacheFits of the program and of the reference tell the same, and both lists stay, for every list of hits, tag and list of pages. No condition. -/
import Derived.Test.YtoojkiihbpnfdaaPFnExactCacheFitsx14
import Derived.Test.YtoojkiihbpnfdaaLem
namespace Go.Proofs.Ytoojkiihbpnfdaa.Pure
open Go.RowKit Go.Proofs.Ytoojkiihbpnfdaa.PFnExactCacheFits Go.Proofs.YtoojkiihbpnfdaaW.PrintWords Go.Proofs.YtoojkiihbpnfdaaW.PrintLast Go.Proofs.YtoojkiihbpnfdaaW.PrintMore
open Go.Proofs.Ytoojkiihbpnfdaa.Lem
set_option linter.unusedVariables false
set_option linter.unusedSimpArgs false
theorem within_eq (a x y : Int) : impl_within.f a x y = some (decide (x ≤ a ∧ a ≤ y)) := by
  unfold impl_within.f
  split <;> rename_i h <;> simp <;> omega
theorem l1In_eq (a x y : Int) : spec_l1In.f a x y = some (decide (x ≤ a ∧ a ≤ y)) := by
  unfold spec_l1In.f
  split <;> rename_i h <;> simp <;> omega
def toH (x : S24) : S31 := ⟨x.f0, x.f1, x.f2, x.f3⟩
theorem rdH_at (l : List S31) (i : Nat) (h : i < l.length) : rd_T31 l (i : Int) = l[i] := by
  unfold rd_T31
  rw [Int.toNat_natCast, List.getD_eq_getElem?_getD, List.getElem?_eq_getElem h]
  rfl
theorem wsuccH {i n : Nat} (h : i < n) (hn : n ≤ 1000000000) : wrap64 ((i : Int) + 1) = ((i + 1 : Nat) : Int) := by unfold wrap64; omega
theorem rdG_at (l : List S24) (i : Nat) (h : i < l.length) : rd_T24 l (i : Int) = l[i] := by
  unfold rd_T24
  rw [Int.toNat_natCast, List.getD_eq_getElem?_getD, List.getElem?_eq_getElem h]
  rfl
theorem toH_from (l : List S24) (hl : l.length ≤ 1000000000) (d : Nat) : ∀ (k : Nat) (xs : List S31) (i : Nat), xs.length = l.length → l.length = i + d → (∀ j, j < i → xs[j]? = (l.map toH)[j]?) → d < k →
    laws_toHitS.l0 k l xs (i : Int) = some (l.map toH) := by
  induction d with
  | zero =>
    intro k xs i hx hd hp hk
    obtain ⟨k, rfl⟩ : ∃ m, k = m + 1 := ⟨k - 1, by omega⟩
    simp only [laws_toHitS.l0]
    rw [if_neg (by omega)]
    refine congrArg some (List.ext_getElem? fun j => ?_)
    by_cases hj : j < i
    · exact hp j hj
    · rw [List.getElem?_eq_none (by omega), List.getElem?_eq_none (by rw [List.length_map]; omega)]
  | succ d ih =>
    intro k xs i hx hd hp hk
    obtain ⟨k, rfl⟩ : ∃ m, k = m + 1 := ⟨k - 1, by omega⟩
    simp only [laws_toHitS.l0, laws_toHit.f, Option.bind_some]
    have hi : i < l.length := by omega
    rw [if_pos (by omega), if_pos (by omega), if_pos (by omega), rdG_at l i hi, wsuccH hi hl, Int.toNat_natCast]
    refine ih k _ (i + 1) (by simpa using hx) (by omega) (fun j hj => ?_) (by omega)
    rw [List.getElem?_set]
    by_cases e : i = j
    · subst e
      rw [if_pos rfl, if_pos (by omega), List.getElem?_map, List.getElem?_eq_getElem hi]
      rfl
    · rw [if_neg e]
      exact hp j (by omega)
theorem toH_is (k : Nat) (l : List S24) (hl : l.length ≤ 1048576) (hk : l.length < k) : laws_toHitS.f k l = some (l.map toH) := by
  unfold laws_toHitS.f
  have e : ((l.length : Int)).toNat = l.length := by omega
  rw [if_pos (by omega), e, if_pos (by omega)]
  exact toH_from l (by omega) l.length k _ 0 (by simp) (by omega) (fun j hj => by omega) hk
theorem eqH_from (l : List S31) (hl : l.length ≤ 1000000000) (d : Nat) : ∀ (k i : Nat), l.length = i + d → d < k → laws_eqHitS.l0 k l l (i : Int) = some true := by
  induction d with
  | zero =>
    intro k i hd hk
    obtain ⟨k, rfl⟩ : ∃ m, k = m + 1 := ⟨k - 1, by omega⟩
    simp only [laws_eqHitS.l0]
    rw [if_neg (by omega)]
  | succ d ih =>
    intro k i hd hk
    obtain ⟨k, rfl⟩ : ∃ m, k = m + 1 := ⟨k - 1, by omega⟩
    have hi : i < l.length := by omega
    have e : ∀ a b c d : Int, laws_eqHit.f a b c d a b c d = some true := fun a b c d => by unfold laws_eqHit.f; rw [if_pos rfl, if_pos rfl, if_pos rfl, if_pos rfl]
    simp only [laws_eqHitS.l0, e, Option.bind_some]
    rw [if_pos (by omega), if_pos (by omega), if_pos (by omega), if_pos trivial, wsuccH hi hl]
    exact ih k (i + 1) (by omega) (by omega)
theorem eqH_self (k : Nat) (l : List S31) (hl : l.length ≤ 1048576) (hk : l.length < k) : laws_eqHitS.f k l l = some true := by
  unfold laws_eqHitS.f
  rw [if_pos rfl]
  exact eqH_from l (by omega) l.length k 0 (by omega) hk
theorem szH (n : Nat) (l : List S24) (hm : l.length ≤ maxLen) (hn : n ≤ 1048576) : laws_szHitS.f l (n : Int) = some (if n < l.length then -1 else ((n - l.length : Nat) : Int)) := by
  unfold maxLen at hm
  have e : wrap64 ((n : Int) - (l.length : Int)) = (n : Int) - (l.length : Int) := by unfold wrap64; omega
  unfold laws_szHitS.f
  rw [e]
  by_cases h : n < l.length
  · rw [if_pos (by omega), if_pos h]
  · rw [if_neg (by omega), if_neg h]
    exact congrArg some (by omega)
def hOk (x : S31) : Prop := (0 ≤ x.f0 ∧ x.f0 ≤ 9) ∧ (0 ≤ x.f1 ∧ x.f1 ≤ 7) ∧ (0 ≤ x.f2 ∧ x.f2 ≤ 23) ∧ (1 ≤ x.f3 ∧ x.f3 ≤ 7)
instance (x : S31) : Decidable (hOk x) := by unfold hOk; infer_instance
theorem hitOk_spec (x : S31) : spec_l5Hit.f x.f0 x.f1 x.f2 x.f3 = some (decide (hOk x)) := by
  unfold spec_l5Hit.f
  simp only [l1In_eq, Option.bind_some, decide_eq_true_eq]
  by_cases a : 0 ≤ x.f0 ∧ x.f0 ≤ 9
  · by_cases b : 0 ≤ x.f1 ∧ x.f1 ≤ 7
    · by_cases c : 0 ≤ x.f2 ∧ x.f2 ≤ 23
      · rw [if_pos a, if_pos b, if_pos c]
        exact congrArg some (decide_eq_decide.mpr ⟨fun d => ⟨a, b, c, d⟩, fun h => h.2.2.2⟩)
      · rw [if_pos a, if_pos b, if_neg c, decide_eq_false (fun h : hOk x => c h.2.2.1)]
    · rw [if_pos a, if_neg b, decide_eq_false (fun h : hOk x => b h.2.1)]
  · rw [if_neg a, decide_eq_false (fun h : hOk x => a h.1)]
theorem hitOk_impl (x : S31) : impl_hitFault.f x.f0 x.f1 x.f2 x.f3 = some (if hOk x then 0 else 3) := by
  unfold impl_hitFault.f
  simp only [within_eq, Option.bind_some, decide_eq_true_eq]
  by_cases a : 0 ≤ x.f0 ∧ x.f0 ≤ 9
  · by_cases b : 0 ≤ x.f1 ∧ x.f1 ≤ 7
    · by_cases c : 0 ≤ x.f2 ∧ x.f2 ≤ 23
      · by_cases d : 1 ≤ x.f3 ∧ x.f3 ≤ 7
        · rw [if_pos a, if_pos b, if_pos c, if_pos d, if_pos (show hOk x from ⟨a, b, c, d⟩)]
        · rw [if_pos a, if_pos b, if_pos c, if_neg d, if_neg (fun h : hOk x => d h.2.2.2)]
      · rw [if_pos a, if_pos b, if_neg c, if_neg (fun h : hOk x => c h.2.2.1)]
    · rw [if_pos a, if_neg b, if_neg (fun h : hOk x => b h.2.1)]
  · rw [if_neg a, if_neg (fun h : hOk x => a h.1)]
theorem find_from (l : List S31) (hl : l.length ≤ 1000000000) (t p : Int) (d : Nat) : ∀ (k i : Nat), l.length = i + d → d < k → spec_l5Find.l0 k l t p (i : Int) = some (hIdx t p (l.drop i) (i : Int)) := by
  induction d with
  | zero =>
    intro k i hd hk
    obtain ⟨k, rfl⟩ : ∃ m, k = m + 1 := ⟨k - 1, by omega⟩
    simp only [spec_l5Find.l0]
    rw [if_neg (by omega), hIdx_end _ _ _ _ (by omega)]
  | succ d ih =>
    intro k i hd hk
    obtain ⟨k, rfl⟩ : ∃ m, k = m + 1 := ⟨k - 1, by omega⟩
    have hi : i < l.length := by omega
    have hi' := ih k (i + 1) (by omega) (by omega)
    have p0 : (i : Int) < (l.length : Int) := by omega
    have p1 : (0 : Int) ≤ (i : Int) := by omega
    rw [hIdx_cons t p l i hi]
    simp only [spec_l5Find.l0]
    rw [if_pos p0, if_pos p1, wsuccH hi hl, hi']
    generalize (rd_T31 l (i : Int)).f0 = F0
    generalize (rd_T31 l (i : Int)).f1 = F1
    by_cases c1 : F0 = t
    · have e1 : (F0 == t) = true := beq_iff_eq.mpr c1
      rw [if_pos c1, e1, Bool.true_and]
      by_cases c2 : F1 = p
      · rw [if_pos c2, if_pos (beq_iff_eq.mpr c2)]
      · rw [if_neg c2, beq_eq_false_iff_ne.mpr c2, if_neg (by decide)]
    · rw [if_neg c1, beq_eq_false_iff_ne.mpr c1, Bool.false_and, if_neg (by decide)]
theorem find_is (k : Nat) (l : List S31) (hl : l.length ≤ 1000000000) (t p : Int) (hk : l.length < k) : spec_l5Find.f k l t p = some (hIdx t p l 0) := by
  unfold spec_l5Find.f
  exact find_from l hl t p l.length k 0 (by omega) hk
def cfl (pre : List S31) : List S31 → Int
  | [] => 0
  | x :: t => if hOk x then (if hIdx x.f0 x.f1 pre 0 ≥ 0 then 6 else cfl (pre ++ [x]) t) else 3
def cf (l : List S31) : Int := if 12 < l.length then 2 else cfl [] l
theorem cfl_at (l : List S31) (i : Nat) (h : i < l.length) : cfl (l.take i) (l.drop i) = if hOk l[i] then (if hIdx l[i].f0 l[i].f1 (l.take i) 0 ≥ 0 then 6 else cfl (l.take (i + 1)) (l.drop (i + 1))) else 3 := by
  rw [List.drop_eq_getElem_cons h, List.take_succ_eq_append_getElem h]
  rfl
theorem specCF_from (l : List S31) (hl : l.length ≤ 12) (d : Nat) : ∀ (k i : Nat), l.length = i + d → d + 20 < k → spec_CacheFault.l0 k l (i : Int) = some (cfl (l.take i) (l.drop i)) := by
  induction d with
  | zero =>
    intro k i hd hk
    obtain ⟨k, rfl⟩ : ∃ m, k = m + 1 := ⟨k - 1, by omega⟩
    simp only [spec_CacheFault.l0]
    rw [if_neg (by omega), List.drop_eq_nil_of_le (by omega)]
    rfl
  | succ d ih =>
    intro k i hd hk
    obtain ⟨k, rfl⟩ : ∃ m, k = m + 1 := ⟨k - 1, by omega⟩
    have hi : i < l.length := by omega
    have hi' := ih k (i + 1) (by omega) (by omega)
    have p0 : (i : Int) < (l.length : Int) := by omega
    have p1 : (0 : Int) ≤ (i : Int) := by omega
    have p2 : (i : Int) ≤ (l.length : Int) := by omega
    rw [cfl_at l i hi]
    simp only [spec_CacheFault.l0]
    rw [if_pos p0, if_pos p1, rdH_at l i hi, hitOk_spec, Option.bind_some, wsuccH hi (by omega), hi', Int.toNat_natCast]
    by_cases c : hOk l[i]
    · rw [decide_eq_true c, if_pos rfl, if_pos p2, if_pos c, find_is k _ (by rw [List.length_take]; omega) _ _ (by rw [List.length_take]; omega), Option.bind_some]
      by_cases g : hIdx l[i].f0 l[i].f1 (l.take i) 0 ≥ 0
      · rw [if_pos g, if_pos g]
      · rw [if_neg g, if_neg g]
    · rw [decide_eq_false c, if_neg (by decide), if_neg c]
theorem implCF_from (l : List S31) (hl : l.length ≤ 12) (d : Nat) : ∀ (k i : Nat), l.length = i + d → d < k → impl_CacheFault.l0 k l l (l.length : Int) (i : Int) = some (cfl (l.take i) (l.drop i)) := by
  induction d with
  | zero =>
    intro k i hd hk
    obtain ⟨k, rfl⟩ : ∃ m, k = m + 1 := ⟨k - 1, by omega⟩
    simp only [impl_CacheFault.l0]
    rw [if_neg (by omega), List.drop_eq_nil_of_le (by omega)]
    rfl
  | succ d ih =>
    intro k i hd hk
    obtain ⟨k, rfl⟩ : ∃ m, k = m + 1 := ⟨k - 1, by omega⟩
    have hi : i < l.length := by omega
    have hi' := ih k (i + 1) (by omega) (by omega)
    have p0 : (i : Int) < (l.length : Int) := by omega
    have p1 : (0 : Int) ≤ (i : Int) := by omega
    have p2 : (i : Int) ≤ (l.length : Int) := by omega
    rw [cfl_at l i hi]
    simp only [impl_CacheFault.l0, impl_hitAt.f]
    rw [if_pos p0, if_pos p1, if_pos p0, rdH_at l i hi, hitOk_impl, Option.bind_some, wsuccH hi (by omega), hi', Int.toNat_natCast]
    by_cases c : hOk l[i]
    · rw [if_pos c, if_pos rfl, if_pos p2, Option.bind_some, if_pos c]
      by_cases g : hIdx l[i].f0 l[i].f1 (l.take i) 0 ≥ 0
      · rw [if_pos g, if_pos g]
      · rw [if_neg g, if_neg g]
    · rw [if_neg c, if_neg (by decide), if_neg c]
theorem specCF (k : Nat) (l : List S31) (hk : 40 < k) : spec_CacheFault.f k l = some (cf l) := by
  unfold spec_CacheFault.f cf
  by_cases h : 12 < l.length
  · rw [if_pos (by omega), if_pos h]
  · rw [if_neg (by omega), if_neg h]
    exact specCF_from l (by omega) l.length k 0 (by omega) (by omega)
theorem implCF (k : Nat) (l : List S31) (hk : 40 < k) : impl_CacheFault.f k l = some (cf l) := by
  unfold impl_CacheFault.f cf
  by_cases h : 12 < l.length
  · rw [if_pos (by omega), if_pos h]
  · rw [if_neg (by omega), if_neg h]
    exact implCF_from l (by omega) l.length k 0 (by omega) (by omega)
def toP (x : S71) : S69 := ⟨x.f0, x.f1⟩
theorem rdP_at (l : List S69) (i : Nat) (h : i < l.length) : rd_T69 l (i : Int) = l[i] := by
  unfold rd_T69
  rw [Int.toNat_natCast, List.getD_eq_getElem?_getD, List.getElem?_eq_getElem h]
  rfl
theorem wsucc {i n : Nat} (h : i < n) (hn : n ≤ 1000000000) : wrap64 ((i : Int) + 1) = ((i + 1 : Nat) : Int) := by unfold wrap64; omega
theorem rdQ_at (l : List S71) (i : Nat) (h : i < l.length) : rd_T71 l (i : Int) = l[i] := by
  unfold rd_T71
  rw [Int.toNat_natCast, List.getD_eq_getElem?_getD, List.getElem?_eq_getElem h]
  rfl
theorem toP_from (l : List S71) (hl : l.length ≤ 1000000000) (d : Nat) : ∀ (k : Nat) (xs : List S69) (i : Nat), xs.length = l.length → l.length = i + d → (∀ j, j < i → xs[j]? = (l.map toP)[j]?) → d < k →
    laws_toPageS.l0 k l xs (i : Int) = some (l.map toP) := by
  induction d with
  | zero =>
    intro k xs i hx hd hp hk
    obtain ⟨k, rfl⟩ : ∃ m, k = m + 1 := ⟨k - 1, by omega⟩
    simp only [laws_toPageS.l0]
    rw [if_neg (by omega)]
    refine congrArg some (List.ext_getElem? fun j => ?_)
    by_cases hj : j < i
    · exact hp j hj
    · rw [List.getElem?_eq_none (by omega), List.getElem?_eq_none (by rw [List.length_map]; omega)]
  | succ d ih =>
    intro k xs i hx hd hp hk
    obtain ⟨k, rfl⟩ : ∃ m, k = m + 1 := ⟨k - 1, by omega⟩
    simp only [laws_toPageS.l0, laws_toPage.f, Option.bind_some]
    have hi : i < l.length := by omega
    rw [if_pos (by omega), if_pos (by omega), if_pos (by omega), rdQ_at l i hi, wsucc hi hl, Int.toNat_natCast]
    refine ih k _ (i + 1) (by simpa using hx) (by omega) (fun j hj => ?_) (by omega)
    rw [List.getElem?_set]
    by_cases e : i = j
    · subst e
      rw [if_pos rfl, if_pos (by omega), List.getElem?_map, List.getElem?_eq_getElem hi]
      rfl
    · rw [if_neg e]
      exact hp j (by omega)
theorem toP_is (k : Nat) (l : List S71) (hl : l.length ≤ 1048576) (hk : l.length < k) : laws_toPageS.f k l = some (l.map toP) := by
  unfold laws_toPageS.f
  have e : ((l.length : Int)).toNat = l.length := by omega
  rw [if_pos (by omega), e, if_pos (by omega)]
  exact toP_from l (by omega) l.length k _ 0 (by simp) (by omega) (fun j hj => by omega) hk
theorem eqP_from (l : List S69) (hl : l.length ≤ 1000000000) (d : Nat) : ∀ (k i : Nat), l.length = i + d → d < k → laws_eqPageS.l0 k l l (i : Int) = some true := by
  induction d with
  | zero =>
    intro k i hd hk
    obtain ⟨k, rfl⟩ : ∃ m, k = m + 1 := ⟨k - 1, by omega⟩
    simp only [laws_eqPageS.l0]
    rw [if_neg (by omega)]
  | succ d ih =>
    intro k i hd hk
    obtain ⟨k, rfl⟩ : ∃ m, k = m + 1 := ⟨k - 1, by omega⟩
    have hi : i < l.length := by omega
    have e : ∀ a b : Int, laws_eqPage.f a b a b = some true := fun a b => by unfold laws_eqPage.f; rw [if_pos rfl, if_pos rfl]
    simp only [laws_eqPageS.l0, e, Option.bind_some]
    rw [if_pos (by omega), if_pos (by omega), if_pos (by omega), if_pos trivial, wsucc hi hl]
    exact ih k (i + 1) (by omega) (by omega)
theorem eqP_self (k : Nat) (l : List S69) (hl : l.length ≤ 1048576) (hk : l.length < k) : laws_eqPageS.f k l l = some true := by
  unfold laws_eqPageS.f
  rw [if_pos rfl]
  exact eqP_from l (by omega) l.length k 0 (by omega) hk
theorem szP (n : Nat) (l : List S71) (hm : l.length ≤ maxLen) (hn : n ≤ 1048576) : laws_szPageS.f l (n : Int) = some (if n < l.length then -1 else ((n - l.length : Nat) : Int)) := by
  unfold maxLen at hm
  have e : wrap64 ((n : Int) - (l.length : Int)) = (n : Int) - (l.length : Int) := by unfold wrap64; omega
  unfold laws_szPageS.f
  rw [e]
  by_cases h : n < l.length
  · rw [if_pos (by omega), if_pos h]
  · rw [if_neg (by omega), if_neg h]
    exact congrArg some (by omega)
def pfl (top : Int) : List S69 → Int
  | [] => 0
  | p :: t => if -1 ≤ p.f0 ∧ p.f0 ≤ top - 1 ∧ 0 ≤ p.f1 ∧ p.f1 ≤ 7 then (if p.f0 = -1 ∧ p.f1 ≠ 0 then 1 else pfl top t) else 3
def pf (top : Int) (l : List S69) : Int := if 1 ≤ top ∧ top ≤ 24 then (if l.length = 8 then pfl top l else 1) else 3
theorem drop_at {α : Type} (l : List α) (i : Nat) (h : i < l.length) : l.drop i = l[i] :: l.drop (i + 1) := List.drop_eq_getElem_cons h
theorem specPF_from (l : List S69) (hl : l.length ≤ 1000000000) (top : Int) (h1 : 1 ≤ top) (h2 : top ≤ 24) (d : Nat) : ∀ (k i : Nat), l.length = i + d → 2 * d < k → spec_PagesFault.l0 k l top (i : Int) = some (pfl top (l.drop i)) := by
  have ew : wrap64 (top - 1) = top - 1 := by unfold wrap64; omega
  induction d with
  | zero =>
    intro k i hd hk
    obtain ⟨k, rfl⟩ : ∃ m, k = m + 1 := ⟨k - 1, by omega⟩
    simp only [spec_PagesFault.l0]
    rw [if_neg (by omega), List.drop_eq_nil_of_le (by omega)]
    rfl
  | succ d ih =>
    intro k i hd hk
    obtain ⟨k, rfl⟩ : ∃ m, k = m + 1 + 1 := ⟨k - 2, by omega⟩
    have hi : i < l.length := by omega
    have hi' := ih k (i + 1) (by omega) (by omega)
    rw [drop_at l i hi]
    simp only [spec_PagesFault.l0, spec_PagesFault.j1, l1In_eq, Option.bind_some, ew, decide_eq_true_eq, pfl]
    have p0 : (0 : Int) ≤ (i : Int) := Int.natCast_nonneg _
    have p1 : (i : Int) < (l.length : Int) := by omega
    simp only [rdP_at l i hi, wsucc hi hl, hi', if_pos p0, if_pos p1]
    generalize l[i].f0 = F0
    generalize l[i].f1 = F1
    by_cases c1 : -1 ≤ F0 ∧ F0 ≤ top - 1
    · by_cases c2 : 0 ≤ F1 ∧ F1 ≤ 7
      · have c : -1 ≤ F0 ∧ F0 ≤ top - 1 ∧ 0 ≤ F1 ∧ F1 ≤ 7 := ⟨c1.1, c1.2, c2.1, c2.2⟩
        have c2' : decide (0 ≤ F1 ∧ F1 ≤ 7) = true := decide_eq_true c2
        simp only [if_pos c1, c2', if_pos c, Bool.not_true, Bool.false_eq_true, if_false]
        by_cases c3 : F0 = -1
        · have c3' : F0 < 0 := by omega
          by_cases c4 : F1 = 0
          · first | rw [if_pos c3', if_pos c4, if_neg (fun h => h.2 c4)] | rw [if_pos c3, if_pos c4, if_neg (fun h => h.2 c4)]
          · first | rw [if_pos c3', if_neg c4, if_pos ⟨c3, c4⟩] | rw [if_pos c3, if_neg c4, if_pos ⟨c3, c4⟩]
        · have c3' : ¬ F0 < 0 := by omega
          first | rw [if_neg c3', if_neg (fun h => c3 h.1)] | rw [if_neg c3, if_neg (fun h => c3 h.1)]
      · have c : ¬ (-1 ≤ F0 ∧ F0 ≤ top - 1 ∧ 0 ≤ F1 ∧ F1 ≤ 7) := fun h => c2 ⟨h.2.2.1, h.2.2.2⟩
        have c2' : decide (0 ≤ F1 ∧ F1 ≤ 7) = false := decide_eq_false c2
        rw [if_pos c1, if_neg c, c2']
        rfl
    · have c : ¬ (-1 ≤ F0 ∧ F0 ≤ top - 1 ∧ 0 ≤ F1 ∧ F1 ≤ 7) := fun h => c1 ⟨h.1, h.2.1⟩
      rw [if_neg c1, if_neg c]
      rfl
theorem implPF_from (l : List S69) (hl : l.length ≤ 1000000000) (top : Int) (h1 : 1 ≤ top) (h2 : top ≤ 24) (d : Nat) : ∀ (k i : Nat), l.length = i + d → 2 * d < k → impl_PagesFault.l0 k top l (l.length : Int) (i : Int) = some (pfl top (l.drop i)) := by
  have ew : wrap64 (top - 1) = top - 1 := by unfold wrap64; omega
  induction d with
  | zero =>
    intro k i hd hk
    obtain ⟨k, rfl⟩ : ∃ m, k = m + 1 := ⟨k - 1, by omega⟩
    simp only [impl_PagesFault.l0]
    rw [if_neg (by omega), List.drop_eq_nil_of_le (by omega)]
    rfl
  | succ d ih =>
    intro k i hd hk
    obtain ⟨k, rfl⟩ : ∃ m, k = m + 1 + 1 := ⟨k - 2, by omega⟩
    have hi : i < l.length := by omega
    have hi' := ih k (i + 1) (by omega) (by omega)
    rw [drop_at l i hi]
    simp only [impl_PagesFault.l0, impl_PagesFault.j1, within_eq, Option.bind_some, ew, decide_eq_true_eq, pfl]
    have p0 : (0 : Int) ≤ (i : Int) := Int.natCast_nonneg _
    have p1 : (i : Int) < (l.length : Int) := by omega
    simp only [rdP_at l i hi, wsucc hi hl, hi', if_pos p0, if_pos p1]
    generalize l[i].f0 = F0
    generalize l[i].f1 = F1
    by_cases c1 : -1 ≤ F0 ∧ F0 ≤ top - 1
    · by_cases c2 : 0 ≤ F1 ∧ F1 ≤ 7
      · have c : -1 ≤ F0 ∧ F0 ≤ top - 1 ∧ 0 ≤ F1 ∧ F1 ≤ 7 := ⟨c1.1, c1.2, c2.1, c2.2⟩
        have c2' : decide (0 ≤ F1 ∧ F1 ≤ 7) = true := decide_eq_true c2
        simp only [if_pos c1, c2', if_pos c, Bool.not_true, Bool.false_eq_true, if_false]
        by_cases c3 : F0 = -1
        · have c3' : F0 < 0 := by omega
          by_cases c4 : F1 = 0
          · first | rw [if_pos c3', if_pos c4, if_neg (fun h => h.2 c4)] | rw [if_pos c3, if_pos c4, if_neg (fun h => h.2 c4)]
          · first | rw [if_pos c3', if_neg c4, if_pos ⟨c3, c4⟩] | rw [if_pos c3, if_neg c4, if_pos ⟨c3, c4⟩]
        · have c3' : ¬ F0 < 0 := by omega
          first | rw [if_neg c3', if_neg (fun h => c3 h.1)] | rw [if_neg c3, if_neg (fun h => c3 h.1)]
      · have c : ¬ (-1 ≤ F0 ∧ F0 ≤ top - 1 ∧ 0 ≤ F1 ∧ F1 ≤ 7) := fun h => c2 ⟨h.2.2.1, h.2.2.2⟩
        have c2' : decide (0 ≤ F1 ∧ F1 ≤ 7) = false := decide_eq_false c2
        rw [if_pos c1, if_neg c, c2']
        rfl
    · have c : ¬ (-1 ≤ F0 ∧ F0 ≤ top - 1 ∧ 0 ≤ F1 ∧ F1 ≤ 7) := fun h => c1 ⟨h.1, h.2.1⟩
      rw [if_neg c1, if_neg c]
      rfl
theorem specPF (k : Nat) (l : List S69) (hl : l.length ≤ 1048576) (top : Int) (hk : 16 < k) : spec_PagesFault.f k l top = some (pf top l) := by
  unfold spec_PagesFault.f pf
  rw [l1In_eq]
  simp only [Option.bind_some, decide_eq_true_eq]
  by_cases c : 1 ≤ top ∧ top ≤ 24
  · rw [if_pos c, if_pos c]
    by_cases h8 : l.length = 8
    · rw [if_pos (by omega), if_pos h8]
      exact specPF_from l (by omega) top c.1 c.2 l.length k 0 (by omega) (by omega)
    · rw [if_neg (by omega), if_neg h8]
  · rw [if_neg c, if_neg c]
theorem implPF (k : Nat) (l : List S69) (hl : l.length ≤ 1048576) (top : Int) (hk : 16 < k) : impl_PagesFault.f k l top = some (pf top l) := by
  unfold impl_PagesFault.f pf
  rw [within_eq]
  simp only [Option.bind_some, decide_eq_true_eq]
  by_cases c : 1 ≤ top ∧ top ≤ 24
  · rw [if_pos c, if_pos c]
    by_cases h8 : l.length = 8
    · rw [if_pos (by omega), if_pos h8]
      exact implPF_from l (by omega) top c.1 c.2 l.length k 0 (by omega) (by omega)
    · rw [if_neg (by omega), if_neg h8]
  · rw [if_neg c, if_neg c]
theorem pfl_ok (top : Int) (l : List S69) (h : pfl top l = 0) : ∀ p ∈ l, (-1 ≤ p.f0 ∧ p.f0 ≤ top - 1 ∧ 0 ≤ p.f1 ∧ p.f1 ≤ 7) ∧ (p.f0 = -1 → p.f1 = 0) := by
  induction l with
  | nil => intro p hp; simp at hp
  | cons q t ih =>
    intro p hp
    unfold pfl at h
    by_cases c : -1 ≤ q.f0 ∧ q.f0 ≤ top - 1 ∧ 0 ≤ q.f1 ∧ q.f1 ≤ 7
    · rw [if_pos c] at h
      by_cases d : q.f0 = -1 ∧ q.f1 ≠ 0
      · rw [if_pos d] at h; exact absurd h (by decide)
      · rw [if_neg d] at h
        rcases List.mem_cons.mp hp with e | e
        · subst e
          exact ⟨c, fun h1 => by
            by_cases h2 : p.f1 = 0
            · exact h2
            · exact absurd ⟨h1, h2⟩ d⟩
        · exact ih h p e
    · rw [if_neg c] at h; exact absurd h (by decide)
theorem pf_ok {top : Int} {l : List S69} (h : pf top l = 0) : l.length = 8 ∧ ∀ p ∈ l, (-1 ≤ p.f0 ∧ p.f0 ≤ top - 1 ∧ 0 ≤ p.f1 ∧ p.f1 ≤ 7) ∧ (p.f0 = -1 → p.f1 = 0) := by
  unfold pf at h
  by_cases c : 1 ≤ top ∧ top ≤ 24
  · rw [if_pos c] at h
    by_cases d : l.length = 8
    · rw [if_pos d] at h
      exact ⟨d, pfl_ok top l h⟩
    · rw [if_neg d] at h; exact absurd h (by decide)
  · rw [if_neg c] at h; exact absurd h (by decide)
theorem cfl_ok (l : List S31) : ∀ pre, cfl pre l = 0 → ∀ x ∈ l, hOk x := by
  induction l with
  | nil => intro _ _ x hx; simp at hx
  | cons y t ih =>
    intro pre h x hx
    unfold cfl at h
    by_cases c : hOk y
    · rw [if_pos c] at h
      by_cases d : hIdx y.f0 y.f1 pre 0 ≥ 0
      · rw [if_pos d] at h; exact absurd h (by decide)
      · rw [if_neg d] at h
        rcases List.mem_cons.mp hx with e | e
        · rw [e]; exact c
        · exact ih _ h x e
    · rw [if_neg c] at h; exact absurd h (by decide)
theorem cf_ok {l : List S31} (h : cf l = 0) : l.length ≤ 12 ∧ ∀ x ∈ l, hOk x := by
  unfold cf at h
  by_cases c : 12 < l.length
  · rw [if_pos c] at h; exact absurd h (by decide)
  · rw [if_neg c] at h
    exact ⟨by omega, cfl_ok l [] h⟩
def fits (l : List S31) (tag : Int) (b : List S69) : Bool := if cf l = 0 then (if pf 24 b = 0 then !decide (0 ≤ fIdx tag b l 0) else false) else false
theorem rdH_mem (l : List S31) (i : Nat) (h : i < l.length) : rd_T31 l (i : Int) ∈ l := by
  have e : rd_T31 l (i : Int) = l[i] := by unfold rd_T31; rw [Int.toNat_natCast, List.getD_eq_getElem?_getD, List.getElem?_eq_getElem h]; rfl
  rw [e]
  exact List.getElem_mem h
theorem specFits_from (l : List S31) (hl : l.length ≤ 12) (hok : ∀ x ∈ l, hOk x) (tag : Int) (b : List S69) (hb : b.length = 8) (d : Nat) : ∀ (k i : Nat), l.length = i + d → d < k → spec_CacheFits.l0 k l tag b (i : Int) = some (!decide (0 ≤ fIdx tag b (l.drop i) (i : Int))) := by
  induction d with
  | zero =>
    intro k i hd hk
    obtain ⟨k, rfl⟩ : ∃ m, k = m + 1 := ⟨k - 1, by omega⟩
    simp only [spec_CacheFits.l0]
    rw [if_neg (by omega), fIdx_end _ _ _ _ (by omega)]
    rfl
  | succ d ih =>
    intro k i hd hk
    obtain ⟨k, rfl⟩ : ∃ m, k = m + 1 := ⟨k - 1, by omega⟩
    have hi : i < l.length := by omega
    have hi' := ih k (i + 1) (by omega) (by omega)
    have p0 : (i : Int) < (l.length : Int) := by omega
    have p1 : (0 : Int) ≤ (i : Int) := by omega
    have hx := hok _ (rdH_mem l i hi)
    have hs : wrap64 ((i : Int) + 1) = ((i + 1 : Nat) : Int) := by unfold wrap64; omega
    rw [fIdx_cons tag b l i hi]
    simp only [spec_CacheFits.l0]
    rw [if_pos p0, if_pos p1, hs, hi']
    generalize rd_T31 l (i : Int) = X at *
    have q0 : 0 ≤ X.f1 := hx.2.1.1
    have q1 : X.f1 < (b.length : Int) := by have := hx.2.1.2; omega
    unfold fitB
    by_cases c1 : X.f0 = tag
    · rw [if_pos c1, if_pos q0, if_pos q1, beq_iff_eq.mpr c1, Bool.true_and]
      by_cases c2 : (!((rd_T69 b X.f1).f0 == X.f2) || (!((rd_T69 b X.f1).f1 == X.f3))) = true
      · rw [if_pos c2, if_pos c2, decide_eq_true p1]
        rfl
      · rw [if_neg c2, if_neg c2]
    · rw [if_neg c1, beq_eq_false_iff_ne.mpr c1, Bool.false_and, if_neg (by decide)]
theorem specFits (k : Nat) (l : List S31) (tag : Int) (b : List S69) (hbl : b.length ≤ 1048576) (hk : 50 < k) : spec_CacheFits.f k l tag b = some (fits l tag b) := by
  obtain ⟨k, rfl⟩ : ∃ m, k = m + 1 := ⟨k - 1, by omega⟩
  unfold spec_CacheFits.f fits
  rw [specCF _ l (by omega), Option.bind_some]
  by_cases h : cf l = 0
  · obtain ⟨h1, h2⟩ := cf_ok h
    rw [if_pos h, if_pos h, specPF _ b hbl 24 (by omega), Option.bind_some]
    simp only [spec_CacheFits.j0]
    by_cases g : pf 24 b = 0
    · have g' : ¬ (pf 24 b != 0) = true := by simp [g]
      rw [if_neg g', if_pos g]
      exact specFits_from l h1 h2 tag b (pf_ok g).1 l.length k 0 (by omega) (by omega)
    · have g' : (pf 24 b != 0) = true := by simp [g]
      rw [if_pos g', if_neg g]
  · rw [if_neg h, if_neg h]
    simp only [spec_CacheFits.j0]
    rw [if_pos trivial]
theorem implFits (k : Nat) (l : List S31) (tag : Int) (b : List S69) (hbl : b.length ≤ 1048576) (hk : 50 < k) : impl_CacheFits.f k l tag b = some (fits l tag b) := by
  unfold impl_CacheFits.f fits
  rw [implCF _ l (by omega), Option.bind_some]
  by_cases h : cf l = 0
  · obtain ⟨h1, h2⟩ := cf_ok h
    rw [if_pos h, if_pos h, implPF _ b hbl 24 (by omega), Option.bind_some]
    by_cases g : pf 24 b = 0
    · have hb := (pf_ok g).1
      have ha : l.all (inL b) = true := List.all_eq_true.mpr (fun x hx => by
        have := (h2 x hx).2.1
        unfold inL
        exact decide_eq_true ⟨this.1, by have := this.2; omega⟩)
      rw [if_pos g, if_pos g, if_pos ha]
    · rw [if_neg g, if_neg g]
  · rw [if_neg h, if_neg h]
theorem FnExactCacheFits : laws_FnExactCacheFits.Pure := by
  intro l tag r hm hw _ hm2 hw2
  refine ⟨l.length + r.length + 60, ?_⟩
  unfold laws_FnExactCacheFits.f
  have hz := szH 1048576 l hm (by omega)
  rw [show ((1048576 : Nat) : Int) = 1048576 from rfl] at hz
  rw [hz, Option.bind_some]
  by_cases hb : 1048576 < l.length
  · rw [if_pos hb, if_pos (by omega)]
  have hz2 := szP (1048576 - l.length) r hm2 (by omega)
  rw [if_neg hb, if_neg (by omega), hz2, Option.bind_some]
  by_cases hb2 : 1048576 - l.length < r.length
  · rw [if_pos hb2, if_pos (by omega)]
  have hl' : (l.map toH).length ≤ 1048576 := by rw [List.length_map]; omega
  have hr' : (r.map toP).length ≤ 1048576 := by rw [List.length_map]; omega
  have hne : ¬ (fits (l.map toH) tag (r.map toP) != fits (l.map toH) tag (r.map toP)) = true := by simp
  rw [if_neg hb2, if_neg (by omega), toH_is _ l (by omega) (by omega), Option.bind_some, toP_is _ r (by omega) (by omega), Option.bind_some, specFits _ _ _ _ hr' (by omega), Option.bind_some, Option.bind_some, Option.bind_some, implFits _ _ _ _ hr' (by omega), Option.bind_some, if_neg hne, Option.bind_some, eqH_self _ _ hl' (by rw [List.length_map]; omega), Option.bind_some, if_pos rfl, Option.bind_some, eqP_self _ _ hr' (by rw [List.length_map]; omega), Option.bind_some, if_pos rfl]

end Go.Proofs.Ytoojkiihbpnfdaa.Pure
