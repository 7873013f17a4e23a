/- RegionsApart of the program and of the reference tell the same, and the list stays, for every list of regions. No condition. -/
import Derived.Test.YtddnkakkejeacaaPFnExactRegionsApartx3
import Derived.Test.YtddnkakkejeacaaLem
namespace Go.Proofs.Ytddnkakkejeacaa.Pure
open Go.RowKit Go.Proofs.Ytddnkakkejeacaa.PFnExactRegionsApart Go.Proofs.YtddnkakkejeacaaW.PrintWords Go.Proofs.YtddnkakkejeacaaW.PrintLast Go.Proofs.YtddnkakkejeacaaW.PrintMore
open Go.Proofs.Ytddnkakkejeacaa.Lem
set_option linter.unusedVariables false
set_option linter.unusedSimpArgs false
theorem within_eq (a x y : Int) : impl_within.f a x y = some (decide (x ≤ a ∧ a ≤ y)) := by
  unfold impl_within.f
  split <;> rename_i h <;> simp <;> omega
theorem l1In_eq (a x y : Int) : spec_l1In.f a x y = some (decide (x ≤ a ∧ a ≤ y)) := by
  unfold spec_l1In.f
  split <;> rename_i h <;> simp <;> omega
def toP (x : S45) : S47 := ⟨x.f0, x.f1⟩
theorem rdP_at (l : List S47) (i : Nat) (h : i < l.length) : rd_T47 l (i : Int) = l[i] := by
  unfold rd_T47
  rw [Int.toNat_natCast, List.getD_eq_getElem?_getD, List.getElem?_eq_getElem h]
  rfl
theorem wsucc {i n : Nat} (h : i < n) (hn : n ≤ 1000000000) : wrap64 ((i : Int) + 1) = ((i + 1 : Nat) : Int) := by unfold wrap64; omega
theorem rdQ_at (l : List S45) (i : Nat) (h : i < l.length) : rd_T45 l (i : Int) = l[i] := by
  unfold rd_T45
  rw [Int.toNat_natCast, List.getD_eq_getElem?_getD, List.getElem?_eq_getElem h]
  rfl
theorem toP_from (l : List S45) (hl : l.length ≤ 1000000000) (d : Nat) : ∀ (k : Nat) (xs : List S47) (i : Nat), xs.length = l.length → l.length = i + d → (∀ j, j < i → xs[j]? = (l.map toP)[j]?) → d < k →
    laws_toRegionS.l0 k l xs (i : Int) = some (l.map toP) := by
  induction d with
  | zero =>
    intro k xs i hx hd hp hk
    obtain ⟨k, rfl⟩ : ∃ m, k = m + 1 := ⟨k - 1, by omega⟩
    simp only [laws_toRegionS.l0]
    rw [if_neg (by omega)]
    refine congrArg some (List.ext_getElem? fun j => ?_)
    by_cases hj : j < i
    · exact hp j hj
    · rw [List.getElem?_eq_none (by omega), List.getElem?_eq_none (by rw [List.length_map]; omega)]
  | succ d ih =>
    intro k xs i hx hd hp hk
    obtain ⟨k, rfl⟩ : ∃ m, k = m + 1 := ⟨k - 1, by omega⟩
    simp only [laws_toRegionS.l0, laws_toRegion.f, Option.bind_some]
    have hi : i < l.length := by omega
    rw [if_pos (by omega), if_pos (by omega), if_pos (by omega), rdQ_at l i hi, wsucc hi hl, Int.toNat_natCast]
    refine ih k _ (i + 1) (by simpa using hx) (by omega) (fun j hj => ?_) (by omega)
    rw [List.getElem?_set]
    by_cases e : i = j
    · subst e
      rw [if_pos rfl, if_pos (by omega), List.getElem?_map, List.getElem?_eq_getElem hi]
      rfl
    · rw [if_neg e]
      exact hp j (by omega)
theorem toP_is (k : Nat) (l : List S45) (hl : l.length ≤ 1048576) (hk : l.length < k) : laws_toRegionS.f k l = some (l.map toP) := by
  unfold laws_toRegionS.f
  have e : ((l.length : Int)).toNat = l.length := by omega
  rw [if_pos (by omega), e, if_pos (by omega)]
  exact toP_from l (by omega) l.length k _ 0 (by simp) (by omega) (fun j hj => by omega) hk
theorem eqP_from (l : List S47) (hl : l.length ≤ 1000000000) (d : Nat) : ∀ (k i : Nat), l.length = i + d → d < k → laws_eqRegionS.l0 k l l (i : Int) = some true := by
  induction d with
  | zero =>
    intro k i hd hk
    obtain ⟨k, rfl⟩ : ∃ m, k = m + 1 := ⟨k - 1, by omega⟩
    simp only [laws_eqRegionS.l0]
    rw [if_neg (by omega)]
  | succ d ih =>
    intro k i hd hk
    obtain ⟨k, rfl⟩ : ∃ m, k = m + 1 := ⟨k - 1, by omega⟩
    have hi : i < l.length := by omega
    have e : ∀ a b : Int, laws_eqRegion.f a b a b = some true := fun a b => by unfold laws_eqRegion.f; rw [if_pos rfl, if_pos rfl]
    simp only [laws_eqRegionS.l0, e, Option.bind_some]
    rw [if_pos (by omega), if_pos (by omega), if_pos (by omega), if_pos trivial, wsucc hi hl]
    exact ih k (i + 1) (by omega) (by omega)
theorem eqP_self (k : Nat) (l : List S47) (hl : l.length ≤ 1048576) (hk : l.length < k) : laws_eqRegionS.f k l l = some true := by
  unfold laws_eqRegionS.f
  rw [if_pos rfl]
  exact eqP_from l (by omega) l.length k 0 (by omega) hk
theorem szP (n : Nat) (l : List S45) (hm : l.length ≤ maxLen) (hn : n ≤ 1048576) : laws_szRegionS.f l (n : Int) = some (if n < l.length then -1 else ((n - l.length : Nat) : Int)) := by
  unfold maxLen at hm
  have e : wrap64 ((n : Int) - (l.length : Int)) = (n : Int) - (l.length : Int) := by unfold wrap64; omega
  unfold laws_szRegionS.f
  rw [e]
  by_cases h : n < l.length
  · rw [if_pos (by omega), if_pos h]
  · rw [if_neg (by omega), if_neg h]
    exact congrArg some (by omega)
def okR (a b : Int) : Prop := 0 ≤ a ∧ a ≤ 192 ∧ 0 ≤ b ∧ b ≤ 192 - a
instance (a b : Int) : Decidable (okR a b) := by unfold okR; infer_instance
theorem implRF (a b : Int) : impl_RegionFault.f a b = some (if okR a b then 0 else 3) := by
  unfold impl_RegionFault.f
  rw [within_eq, Option.bind_some]
  by_cases c : 0 ≤ a ∧ a ≤ 192
  · have e : wrap64 (192 - a) = 192 - a := by unfold wrap64; omega
    rw [decide_eq_true c, if_pos rfl, e, within_eq, Option.bind_some]
    by_cases d : 0 ≤ b ∧ b ≤ 192 - a
    · rw [decide_eq_true d, if_pos rfl, if_pos (show okR a b from ⟨c.1, c.2, d.1, d.2⟩)]
    · rw [decide_eq_false d, if_neg (by decide), if_neg (fun h : okR a b => d ⟨h.2.2.1, h.2.2.2⟩)]
  · rw [decide_eq_false c, if_neg (by decide), if_neg (fun h : okR a b => c ⟨h.1, h.2.1⟩)]
theorem specRF (a b : Int) : spec_RegionFault.f a b = some (if okR a b then 0 else 3) := by
  unfold spec_RegionFault.f
  rw [l1In_eq, Option.bind_some]
  by_cases c : 0 ≤ a ∧ a ≤ 192
  · rw [decide_eq_true c, if_pos rfl, l1In_eq, Option.bind_some]
    by_cases d : 0 ≤ b ∧ b ≤ 192
    · have e : wrap64 (a + b) = a + b := by unfold wrap64; omega
      rw [decide_eq_true d, if_pos rfl, e]
      by_cases g : a + b > 192
      · rw [if_pos g, if_neg (fun h : okR a b => by have := h.2.2.2; omega)]
      · rw [if_neg g, if_pos (show okR a b from ⟨c.1, c.2, d.1, by omega⟩)]
    · rw [decide_eq_false d, if_neg (by decide), if_neg (fun h : okR a b => d ⟨h.2.2.1, by have := h.2.2.2; have := h.1; omega⟩)]
  · rw [decide_eq_false c, if_neg (by decide), if_neg (fun h : okR a b => c ⟨h.1, h.2.1⟩)]
theorem implRM (a b c d : Int) (h1 : okR a b) (h2 : okR c d) : impl_RegionsMeet.f a b c d = some (decide (0 < b ∧ 0 < d ∧ a < c + d ∧ c < a + b)) := by
  unfold impl_RegionsMeet.f
  obtain ⟨p1, p2, p3, p4⟩ := h1
  obtain ⟨q1, q2, q3, q4⟩ := h2
  have e1 : wrap64 (a + b) = a + b := by unfold wrap64; omega
  have e2 : wrap64 (c + d) = c + d := by unfold wrap64; omega
  rw [implRF, if_pos (show okR a b from ⟨p1, p2, p3, p4⟩), Option.bind_some, if_pos rfl, implRF, if_pos (show okR c d from ⟨q1, q2, q3, q4⟩), Option.bind_some, if_pos rfl, e1, e2]
  refine congrArg some (decide_eq_decide.mpr ?_)
  have m1 : mx a c = if a < c then c else a := rfl
  have m2 : mn (a + b) (c + d) = mn (a + b) (c + d) := rfl
  unfold mn
  rw [m1]
  by_cases g : a < c
  · rw [if_pos g]
    split <;> omega
  · rw [if_neg g]
    split <;> omega
theorem specRM (a b c d : Int) (h1 : okR a b) (h2 : okR c d) : spec_l3Meet.f a b c d = some (decide (0 < b ∧ 0 < d ∧ a < c + d ∧ c < a + b)) := by
  obtain ⟨p1, p2, p3, p4⟩ := h1
  obtain ⟨q1, q2, q3, q4⟩ := h2
  have e1 : wrap64 (a + b) = a + b := by unfold wrap64; omega
  have e2 : wrap64 (c + d) = c + d := by unfold wrap64; omega
  unfold spec_l3Meet.f
  rw [e1, e2]
  by_cases g1 : b > 0
  · rw [if_pos g1]
    by_cases g2 : d > 0
    · rw [if_pos g2]
      by_cases g3 : a < c + d
      · rw [if_pos g3]
        exact congrArg some (decide_eq_decide.mpr ⟨fun h => ⟨g1, g2, g3, h⟩, fun h => h.2.2.2⟩)
      · rw [if_neg g3, decide_eq_false (fun h => g3 h.2.2.1)]
    · rw [if_neg g2, decide_eq_false (fun h => g2 h.2.1)]
  · rw [if_neg g1, decide_eq_false (fun h => g1 h.1)]
theorem meetB_ok (a b c d : Int) (h1 : okR a b) (h2 : okR c d) : spec_l3Meet.f c d a b = some (meetB a b c d) := by
  unfold meetB
  rw [implRM a b c d h1 h2, specRM c d a b h2 h1]
  refine congrArg some (decide_eq_decide.mpr ⟨fun h => ⟨h.2.1, h.1, h.2.2.2, h.2.2.1⟩, fun h => ⟨h.2.1, h.1, h.2.2.2, h.2.2.1⟩⟩)
theorem faultI_is (a b : Int) : faultI a b = if okR a b then 0 else 3 := by
  unfold faultI
  rw [implRF]
  rfl
theorem rIdx_any (r0 r1 : Int) (l : List S47) : ∀ s : Int, 0 ≤ s → (0 ≤ rIdx r0 r1 l s ↔ l.any (fun x => meetB x.f0 x.f1 r0 r1) = true) := by
  induction l with
  | nil => intro s _; unfold rIdx; simp
  | cons x t ih =>
    intro s hs
    unfold rIdx
    rw [List.any_cons]
    cases hb : meetB x.f0 x.f1 r0 r1 with
    | true => rw [if_pos rfl, Bool.true_or]; exact ⟨fun _ => rfl, fun _ => hs⟩
    | false => rw [if_neg (by decide), Bool.false_or]; exact ih (s + 1) (by omega)
theorem specRA1 (l : List S47) (hl : l.length ≤ 1000000000) (i : Nat) (hi : i < l.length) (hok : ∀ x ∈ l.take i, okR x.f0 x.f1) (hr : okR l[i].f0 l[i].f1) (K : Nat) (R : Bool) (hn : ∀ k, K ≤ k → spec_RegionsApart.l0 k l ((i + 1 : Nat) : Int) = some R) (d : Nat) : ∀ (k j : Nat), i = j + d → K + d + 1 ≤ k →
    spec_RegionsApart.l1 k l (i : Int) (j : Int) = some (if ((l.take i).drop j).any (fun x => meetB x.f0 x.f1 l[i].f0 l[i].f1) = true then false else R) := by
  induction d with
  | zero =>
    intro k j hd hk
    obtain ⟨k, rfl⟩ : ∃ m, k = m + 1 := ⟨k - 1, by omega⟩
    simp only [spec_RegionsApart.l1]
    rw [if_neg (by omega), wsucc hi hl, hn k (by omega), List.drop_eq_nil_of_le (by rw [List.length_take]; omega)]
    rfl
  | succ d ih =>
    intro k j hd hk
    obtain ⟨k, rfl⟩ : ∃ m, k = m + 1 := ⟨k - 1, by omega⟩
    have hj : j < l.length := by omega
    have hjt : j < (l.take i).length := by rw [List.length_take]; omega
    have hm : l[j] ∈ l.take i := by
      have : (l.take i)[j] = l[j] := List.getElem_take
      rw [← this]
      exact List.getElem_mem hjt
    have p1 : (j : Int) < (i : Int) := by omega
    have p2 : (0 : Int) ≤ (i : Int) := by omega
    have p3 : (i : Int) < (l.length : Int) := by omega
    have p4 : (0 : Int) ≤ (j : Int) := by omega
    have p5 : (j : Int) < (l.length : Int) := by omega
    simp only [spec_RegionsApart.l1]
    rw [if_pos p1, if_pos p2, if_pos p3, if_pos p4, if_pos p5, rdP_at l i hi, rdP_at l j hj, meetB_ok _ _ _ _ (hok _ hm) hr, Option.bind_some, wsucc hj hl, List.drop_eq_getElem_cons hjt, List.any_cons, show (l.take i)[j] = l[j] from List.getElem_take]
    cases meetB l[j].f0 l[j].f1 l[i].f0 l[i].f1 with
    | true => rw [if_pos rfl, Bool.true_or, if_pos rfl]
    | false =>
      rw [if_neg (by decide), Bool.false_or]
      exact ih k (j + 1) (by omega) (by omega)
theorem specRA0 (l : List S47) (hl : l.length ≤ 1000000000) (d : Nat) : ∀ (i : Nat), l.length = i + d → (∀ x ∈ l.take i, okR x.f0 x.f1) → ∃ K, ∀ k, K ≤ k → spec_RegionsApart.l0 k l (i : Int) = some (apD l d i) := by
  induction d with
  | zero =>
    intro i hd hok
    refine ⟨1, fun k hk => ?_⟩
    obtain ⟨k, rfl⟩ : ∃ m, k = m + 1 := ⟨k - 1, by omega⟩
    simp only [spec_RegionsApart.l0]
    rw [if_neg (by omega)]
    rfl
  | succ d ih =>
    intro i hd hok
    have hi : i < l.length := by omega
    have p1 : (i : Int) < (l.length : Int) := by omega
    have p2 : (0 : Int) ≤ (i : Int) := by omega
    by_cases hr : okR l[i].f0 l[i].f1
    · obtain ⟨K, hK⟩ := ih (i + 1) (by omega) (fun x hx => by
        rw [List.take_succ_eq_append_getElem hi, List.mem_append] at hx
        rcases hx with hx | hx
        · exact hok x hx
        · obtain rfl := List.mem_singleton.mp hx
          exact hr)
      refine ⟨K + i + 3, fun k hk => ?_⟩
      obtain ⟨k, rfl⟩ : ∃ m, k = m + 1 := ⟨k - 1, by omega⟩
      have h1 := specRA1 l hl i hi hok hr K _ hK i k 0 (by omega) (by omega)
      have ha := rIdx_any l[i].f0 l[i].f1 (l.take i) 0 (by decide)
      simp only [spec_RegionsApart.l0]
      rw [if_pos p1, if_pos p2, rdP_at l i hi, specRF, if_pos hr, Option.bind_some, if_pos rfl, apD, rdP_at l i hi, faultI_is, if_pos hr, if_pos rfl]
      rw [List.drop_zero] at h1
      refine h1.trans (congrArg some ?_)
      by_cases g : (l.take i).any (fun x => meetB x.f0 x.f1 l[i].f0 l[i].f1) = true
      · rw [if_pos g, if_pos (ha.mpr g)]
      · rw [if_neg g, if_neg (fun h => g (ha.mp h))]
    · refine ⟨1, fun k hk => ?_⟩
      obtain ⟨k, rfl⟩ : ∃ m, k = m + 1 := ⟨k - 1, by omega⟩
      simp only [spec_RegionsApart.l0]
      rw [if_pos p1, if_pos p2, rdP_at l i hi, specRF, if_neg hr, Option.bind_some, if_neg (by decide), apD, rdP_at l i hi, faultI_is, if_neg hr, if_neg (by decide)]
theorem specRA (l : List S47) (hl : l.length ≤ 1000000000) : ∃ K, ∀ k, K ≤ k → spec_RegionsApart.f k l = some (apD l l.length 0) :=
  specRA0 l hl l.length 0 (by omega) (fun x hx => by simp at hx)
theorem FnExactRegionsApart : laws_FnExactRegionsApart.Pure := by
  intro l hm hw
  by_cases hb : 1048576 < l.length
  · refine ⟨0, ?_⟩
    unfold laws_FnExactRegionsApart.f
    have hz := szP 1048576 l hm (by omega)
    rw [show ((1048576 : Nat) : Int) = 1048576 from rfl] at hz
    rw [hz, Option.bind_some, if_pos hb, if_pos (by omega)]
  have hl' : (l.map toP).length ≤ 1048576 := by rw [List.length_map]; omega
  obtain ⟨K, hK⟩ := specRA (l.map toP) (by omega)
  refine ⟨K + l.length + 50, ?_⟩
  unfold laws_FnExactRegionsApart.f
  have hz := szP 1048576 l hm (by omega)
  rw [show ((1048576 : Nat) : Int) = 1048576 from rfl] at hz
  have hi : impl_RegionsApart.f (l.map toP) = some (apD (l.map toP) (l.map toP).length 0) := rfl
  rw [hz, Option.bind_some, if_neg hb, if_neg (by omega), toP_is _ l (by omega) (by omega), Option.bind_some, hK _ (by omega), Option.bind_some, Option.bind_some, hi, Option.bind_some]
  have hne : ¬ (apD (l.map toP) (l.map toP).length 0 != apD (l.map toP) (l.map toP).length 0) = true := by simp
  rw [if_neg hne, Option.bind_some, eqP_self _ _ hl' (by rw [List.length_map]; omega), Option.bind_some, if_pos rfl]

end Go.Proofs.Ytddnkakkejeacaa.Pure
