/- FindHit of the program and of the reference tell the same, and the cache stays, for every list of hits, tag and page. No condition. -/
import Derived.Test.YtoojkiihbpnfdaaPFnExactFindHitx3
import Derived.Test.YtoojkiihbpnfdaaLem
namespace Go.Proofs.Ytoojkiihbpnfdaa.Pure
open Go.RowKit Go.Proofs.Ytoojkiihbpnfdaa.PFnExactFindHit Go.Proofs.YtoojkiihbpnfdaaW.PrintWords Go.Proofs.YtoojkiihbpnfdaaW.PrintLast Go.Proofs.YtoojkiihbpnfdaaW.PrintMore
open Go.Proofs.Ytoojkiihbpnfdaa.Lem
set_option linter.unusedVariables false
set_option linter.unusedSimpArgs false
theorem within_eq (a x y : Int) : impl_within.f a x y = some (decide (x ≤ a ∧ a ≤ y)) := by
  unfold impl_within.f
  split <;> rename_i h <;> simp <;> omega
theorem l1In_eq (a x y : Int) : spec_l1In.f a x y = some (decide (x ≤ a ∧ a ≤ y)) := by
  unfold spec_l1In.f
  split <;> rename_i h <;> simp <;> omega
def toH (x : S24) : S31 := ⟨x.f0, x.f1, x.f2, x.f3⟩
theorem rdH_at (l : List S31) (i : Nat) (h : i < l.length) : rd_T31 l (i : Int) = l[i] := by
  unfold rd_T31
  rw [Int.toNat_natCast, List.getD_eq_getElem?_getD, List.getElem?_eq_getElem h]
  rfl
theorem wsuccH {i n : Nat} (h : i < n) (hn : n ≤ 1000000000) : wrap64 ((i : Int) + 1) = ((i + 1 : Nat) : Int) := by unfold wrap64; omega
theorem rdG_at (l : List S24) (i : Nat) (h : i < l.length) : rd_T24 l (i : Int) = l[i] := by
  unfold rd_T24
  rw [Int.toNat_natCast, List.getD_eq_getElem?_getD, List.getElem?_eq_getElem h]
  rfl
theorem toH_from (l : List S24) (hl : l.length ≤ 1000000000) (d : Nat) : ∀ (k : Nat) (xs : List S31) (i : Nat), xs.length = l.length → l.length = i + d → (∀ j, j < i → xs[j]? = (l.map toH)[j]?) → d < k →
    laws_toHitS.l0 k l xs (i : Int) = some (l.map toH) := by
  induction d with
  | zero =>
    intro k xs i hx hd hp hk
    obtain ⟨k, rfl⟩ : ∃ m, k = m + 1 := ⟨k - 1, by omega⟩
    simp only [laws_toHitS.l0]
    rw [if_neg (by omega)]
    refine congrArg some (List.ext_getElem? fun j => ?_)
    by_cases hj : j < i
    · exact hp j hj
    · rw [List.getElem?_eq_none (by omega), List.getElem?_eq_none (by rw [List.length_map]; omega)]
  | succ d ih =>
    intro k xs i hx hd hp hk
    obtain ⟨k, rfl⟩ : ∃ m, k = m + 1 := ⟨k - 1, by omega⟩
    simp only [laws_toHitS.l0, laws_toHit.f, Option.bind_some]
    have hi : i < l.length := by omega
    rw [if_pos (by omega), if_pos (by omega), if_pos (by omega), rdG_at l i hi, wsuccH hi hl, Int.toNat_natCast]
    refine ih k _ (i + 1) (by simpa using hx) (by omega) (fun j hj => ?_) (by omega)
    rw [List.getElem?_set]
    by_cases e : i = j
    · subst e
      rw [if_pos rfl, if_pos (by omega), List.getElem?_map, List.getElem?_eq_getElem hi]
      rfl
    · rw [if_neg e]
      exact hp j (by omega)
theorem toH_is (k : Nat) (l : List S24) (hl : l.length ≤ 1048576) (hk : l.length < k) : laws_toHitS.f k l = some (l.map toH) := by
  unfold laws_toHitS.f
  have e : ((l.length : Int)).toNat = l.length := by omega
  rw [if_pos (by omega), e, if_pos (by omega)]
  exact toH_from l (by omega) l.length k _ 0 (by simp) (by omega) (fun j hj => by omega) hk
theorem eqH_from (l : List S31) (hl : l.length ≤ 1000000000) (d : Nat) : ∀ (k i : Nat), l.length = i + d → d < k → laws_eqHitS.l0 k l l (i : Int) = some true := by
  induction d with
  | zero =>
    intro k i hd hk
    obtain ⟨k, rfl⟩ : ∃ m, k = m + 1 := ⟨k - 1, by omega⟩
    simp only [laws_eqHitS.l0]
    rw [if_neg (by omega)]
  | succ d ih =>
    intro k i hd hk
    obtain ⟨k, rfl⟩ : ∃ m, k = m + 1 := ⟨k - 1, by omega⟩
    have hi : i < l.length := by omega
    have e : ∀ a b c d : Int, laws_eqHit.f a b c d a b c d = some true := fun a b c d => by unfold laws_eqHit.f; rw [if_pos rfl, if_pos rfl, if_pos rfl, if_pos rfl]
    simp only [laws_eqHitS.l0, e, Option.bind_some]
    rw [if_pos (by omega), if_pos (by omega), if_pos (by omega), if_pos trivial, wsuccH hi hl]
    exact ih k (i + 1) (by omega) (by omega)
theorem eqH_self (k : Nat) (l : List S31) (hl : l.length ≤ 1048576) (hk : l.length < k) : laws_eqHitS.f k l l = some true := by
  unfold laws_eqHitS.f
  rw [if_pos rfl]
  exact eqH_from l (by omega) l.length k 0 (by omega) hk
theorem szH (n : Nat) (l : List S24) (hm : l.length ≤ maxLen) (hn : n ≤ 1048576) : laws_szHitS.f l (n : Int) = some (if n < l.length then -1 else ((n - l.length : Nat) : Int)) := by
  unfold maxLen at hm
  have e : wrap64 ((n : Int) - (l.length : Int)) = (n : Int) - (l.length : Int) := by unfold wrap64; omega
  unfold laws_szHitS.f
  rw [e]
  by_cases h : n < l.length
  · rw [if_pos (by omega), if_pos h]
  · rw [if_neg (by omega), if_neg h]
    exact congrArg some (by omega)
def hOk (x : S31) : Prop := (0 ≤ x.f0 ∧ x.f0 ≤ 9) ∧ (0 ≤ x.f1 ∧ x.f1 ≤ 7) ∧ (0 ≤ x.f2 ∧ x.f2 ≤ 23) ∧ (1 ≤ x.f3 ∧ x.f3 ≤ 7)
instance (x : S31) : Decidable (hOk x) := by unfold hOk; infer_instance
theorem hitOk_spec (x : S31) : spec_l5Hit.f x.f0 x.f1 x.f2 x.f3 = some (decide (hOk x)) := by
  unfold spec_l5Hit.f
  simp only [l1In_eq, Option.bind_some, decide_eq_true_eq]
  by_cases a : 0 ≤ x.f0 ∧ x.f0 ≤ 9
  · by_cases b : 0 ≤ x.f1 ∧ x.f1 ≤ 7
    · by_cases c : 0 ≤ x.f2 ∧ x.f2 ≤ 23
      · rw [if_pos a, if_pos b, if_pos c]
        exact congrArg some (decide_eq_decide.mpr ⟨fun d => ⟨a, b, c, d⟩, fun h => h.2.2.2⟩)
      · rw [if_pos a, if_pos b, if_neg c, decide_eq_false (fun h : hOk x => c h.2.2.1)]
    · rw [if_pos a, if_neg b, decide_eq_false (fun h : hOk x => b h.2.1)]
  · rw [if_neg a, decide_eq_false (fun h : hOk x => a h.1)]
theorem hitOk_impl (x : S31) : impl_hitFault.f x.f0 x.f1 x.f2 x.f3 = some (if hOk x then 0 else 3) := by
  unfold impl_hitFault.f
  simp only [within_eq, Option.bind_some, decide_eq_true_eq]
  by_cases a : 0 ≤ x.f0 ∧ x.f0 ≤ 9
  · by_cases b : 0 ≤ x.f1 ∧ x.f1 ≤ 7
    · by_cases c : 0 ≤ x.f2 ∧ x.f2 ≤ 23
      · by_cases d : 1 ≤ x.f3 ∧ x.f3 ≤ 7
        · rw [if_pos a, if_pos b, if_pos c, if_pos d, if_pos (show hOk x from ⟨a, b, c, d⟩)]
        · rw [if_pos a, if_pos b, if_pos c, if_neg d, if_neg (fun h : hOk x => d h.2.2.2)]
      · rw [if_pos a, if_pos b, if_neg c, if_neg (fun h : hOk x => c h.2.2.1)]
    · rw [if_pos a, if_neg b, if_neg (fun h : hOk x => b h.2.1)]
  · rw [if_neg a, if_neg (fun h : hOk x => a h.1)]
theorem find_from (l : List S31) (hl : l.length ≤ 1000000000) (t p : Int) (d : Nat) : ∀ (k i : Nat), l.length = i + d → d < k → spec_l5Find.l0 k l t p (i : Int) = some (hIdx t p (l.drop i) (i : Int)) := by
  induction d with
  | zero =>
    intro k i hd hk
    obtain ⟨k, rfl⟩ : ∃ m, k = m + 1 := ⟨k - 1, by omega⟩
    simp only [spec_l5Find.l0]
    rw [if_neg (by omega), hIdx_end _ _ _ _ (by omega)]
  | succ d ih =>
    intro k i hd hk
    obtain ⟨k, rfl⟩ : ∃ m, k = m + 1 := ⟨k - 1, by omega⟩
    have hi : i < l.length := by omega
    have hi' := ih k (i + 1) (by omega) (by omega)
    have p0 : (i : Int) < (l.length : Int) := by omega
    have p1 : (0 : Int) ≤ (i : Int) := by omega
    rw [hIdx_cons t p l i hi]
    simp only [spec_l5Find.l0]
    rw [if_pos p0, if_pos p1, wsuccH hi hl, hi']
    generalize (rd_T31 l (i : Int)).f0 = F0
    generalize (rd_T31 l (i : Int)).f1 = F1
    by_cases c1 : F0 = t
    · have e1 : (F0 == t) = true := beq_iff_eq.mpr c1
      rw [if_pos c1, e1, Bool.true_and]
      by_cases c2 : F1 = p
      · rw [if_pos c2, if_pos (beq_iff_eq.mpr c2)]
      · rw [if_neg c2, beq_eq_false_iff_ne.mpr c2, if_neg (by decide)]
    · rw [if_neg c1, beq_eq_false_iff_ne.mpr c1, Bool.false_and, if_neg (by decide)]
theorem find_is (k : Nat) (l : List S31) (hl : l.length ≤ 1000000000) (t p : Int) (hk : l.length < k) : spec_l5Find.f k l t p = some (hIdx t p l 0) := by
  unfold spec_l5Find.f
  exact find_from l hl t p l.length k 0 (by omega) hk
def cfl (pre : List S31) : List S31 → Int
  | [] => 0
  | x :: t => if hOk x then (if hIdx x.f0 x.f1 pre 0 ≥ 0 then 6 else cfl (pre ++ [x]) t) else 3
def cf (l : List S31) : Int := if 12 < l.length then 2 else cfl [] l
theorem cfl_at (l : List S31) (i : Nat) (h : i < l.length) : cfl (l.take i) (l.drop i) = if hOk l[i] then (if hIdx l[i].f0 l[i].f1 (l.take i) 0 ≥ 0 then 6 else cfl (l.take (i + 1)) (l.drop (i + 1))) else 3 := by
  rw [List.drop_eq_getElem_cons h, List.take_succ_eq_append_getElem h]
  rfl
theorem specCF_from (l : List S31) (hl : l.length ≤ 12) (d : Nat) : ∀ (k i : Nat), l.length = i + d → d + 20 < k → spec_CacheFault.l0 k l (i : Int) = some (cfl (l.take i) (l.drop i)) := by
  induction d with
  | zero =>
    intro k i hd hk
    obtain ⟨k, rfl⟩ : ∃ m, k = m + 1 := ⟨k - 1, by omega⟩
    simp only [spec_CacheFault.l0]
    rw [if_neg (by omega), List.drop_eq_nil_of_le (by omega)]
    rfl
  | succ d ih =>
    intro k i hd hk
    obtain ⟨k, rfl⟩ : ∃ m, k = m + 1 := ⟨k - 1, by omega⟩
    have hi : i < l.length := by omega
    have hi' := ih k (i + 1) (by omega) (by omega)
    have p0 : (i : Int) < (l.length : Int) := by omega
    have p1 : (0 : Int) ≤ (i : Int) := by omega
    have p2 : (i : Int) ≤ (l.length : Int) := by omega
    rw [cfl_at l i hi]
    simp only [spec_CacheFault.l0]
    rw [if_pos p0, if_pos p1, rdH_at l i hi, hitOk_spec, Option.bind_some, wsuccH hi (by omega), hi', Int.toNat_natCast]
    by_cases c : hOk l[i]
    · rw [decide_eq_true c, if_pos rfl, if_pos p2, if_pos c, find_is k _ (by rw [List.length_take]; omega) _ _ (by rw [List.length_take]; omega), Option.bind_some]
      by_cases g : hIdx l[i].f0 l[i].f1 (l.take i) 0 ≥ 0
      · rw [if_pos g, if_pos g]
      · rw [if_neg g, if_neg g]
    · rw [decide_eq_false c, if_neg (by decide), if_neg c]
theorem implCF_from (l : List S31) (hl : l.length ≤ 12) (d : Nat) : ∀ (k i : Nat), l.length = i + d → d < k → impl_CacheFault.l0 k l l (l.length : Int) (i : Int) = some (cfl (l.take i) (l.drop i)) := by
  induction d with
  | zero =>
    intro k i hd hk
    obtain ⟨k, rfl⟩ : ∃ m, k = m + 1 := ⟨k - 1, by omega⟩
    simp only [impl_CacheFault.l0]
    rw [if_neg (by omega), List.drop_eq_nil_of_le (by omega)]
    rfl
  | succ d ih =>
    intro k i hd hk
    obtain ⟨k, rfl⟩ : ∃ m, k = m + 1 := ⟨k - 1, by omega⟩
    have hi : i < l.length := by omega
    have hi' := ih k (i + 1) (by omega) (by omega)
    have p0 : (i : Int) < (l.length : Int) := by omega
    have p1 : (0 : Int) ≤ (i : Int) := by omega
    have p2 : (i : Int) ≤ (l.length : Int) := by omega
    rw [cfl_at l i hi]
    simp only [impl_CacheFault.l0, impl_hitAt.f]
    rw [if_pos p0, if_pos p1, if_pos p0, rdH_at l i hi, hitOk_impl, Option.bind_some, wsuccH hi (by omega), hi', Int.toNat_natCast]
    by_cases c : hOk l[i]
    · rw [if_pos c, if_pos rfl, if_pos p2, Option.bind_some, if_pos c]
      by_cases g : hIdx l[i].f0 l[i].f1 (l.take i) 0 ≥ 0
      · rw [if_pos g, if_pos g]
      · rw [if_neg g, if_neg g]
    · rw [if_neg c, if_neg (by decide), if_neg c]
theorem specCF (k : Nat) (l : List S31) (hk : 40 < k) : spec_CacheFault.f k l = some (cf l) := by
  unfold spec_CacheFault.f cf
  by_cases h : 12 < l.length
  · rw [if_pos (by omega), if_pos h]
  · rw [if_neg (by omega), if_neg h]
    exact specCF_from l (by omega) l.length k 0 (by omega) (by omega)
theorem implCF (k : Nat) (l : List S31) (hk : 40 < k) : impl_CacheFault.f k l = some (cf l) := by
  unfold impl_CacheFault.f cf
  by_cases h : 12 < l.length
  · rw [if_pos (by omega), if_pos h]
  · rw [if_neg (by omega), if_neg h]
    exact implCF_from l (by omega) l.length k 0 (by omega) (by omega)
def fh (l : List S31) (t p : Int) : Int × Int := if cf l = 0 then (if hIdx t p l 0 < 0 then (4, 0) else (0, hIdx t p l 0)) else (cf l, 0)
theorem implFH (k : Nat) (l : List S31) (t p : Int) (hk : 40 < k) : impl_FindHit.f k l t p = some (fh l t p) := by
  unfold impl_FindHit.f fh impl_hitAt.f
  rw [implCF k l hk, Option.bind_some]
  by_cases h : cf l = 0
  · rw [if_pos h, if_pos h, Option.bind_some]
    by_cases g : hIdx t p l 0 < 0
    · rw [if_pos g, if_pos g]
    · rw [if_neg g, if_neg g]
  · rw [if_neg h, if_neg h]
theorem specFH (k : Nat) (l : List S31) (hl : l.length ≤ 1048576) (t p : Int) (hk : 40 < k) (hkl : l.length < k) : spec_FindHit.f k l t p = some (fh l t p) := by
  unfold spec_FindHit.f fh
  rw [specCF k l hk, Option.bind_some]
  by_cases h : cf l = 0
  · rw [if_pos h, if_pos h, find_is k l (by omega) t p hkl, Option.bind_some]
    by_cases g : hIdx t p l 0 < 0
    · rw [if_pos g, if_pos g]
    · rw [if_neg g, if_neg g]
  · rw [if_neg h, if_neg h]
theorem FnExactFindHit : laws_FnExactFindHit.Pure := by
  intro l t p hm hw _ _
  refine ⟨l.length + 50, ?_⟩
  have hself : ∀ c v : Int, laws_eqIntResult.f c v c v = some true := fun c v => by simp [laws_eqIntResult.f]
  unfold laws_FnExactFindHit.f
  have hz := szH 1048576 l hm (by omega)
  rw [show ((1048576 : Nat) : Int) = 1048576 from rfl] at hz
  rw [hz, Option.bind_some]
  by_cases hb : 1048576 < l.length
  · rw [if_pos hb, if_pos (by omega)]
  rw [if_neg hb, if_neg (by omega), toH_is _ l (by omega) (by omega), Option.bind_some, specFH _ _ (by simp <;> omega) _ _ (by omega) (by simp <;> omega), Option.bind_some, Option.bind_some, implFH _ _ _ _ (by omega), Option.bind_some, hself, Option.bind_some, if_pos rfl, Option.bind_some, eqH_self _ _ (by simp <;> omega) (by simp), Option.bind_some, if_pos rfl]

end Go.Proofs.Ytoojkiihbpnfdaa.Pure
