/- ReadWord of the program and of the reference tell the same, and the memory stays, for every list and place. No condition. -/
import Derived.Test.YtddnkakkejeacaaPFnExactReadWordx2
import Derived.Test.YtddnkakkejeacaaLem
namespace Go.Proofs.Ytddnkakkejeacaa.Pure
open Go.RowKit Go.Proofs.Ytddnkakkejeacaa.PFnExactReadWord Go.Proofs.YtddnkakkejeacaaW.PrintWords Go.Proofs.YtddnkakkejeacaaW.PrintLast Go.Proofs.YtddnkakkejeacaaW.PrintMore
open Go.Proofs.Ytddnkakkejeacaa.Lem
set_option linter.unusedVariables false
set_option linter.unusedSimpArgs false
theorem within_eq (a x y : Int) : impl_within.f a x y = some (decide (x ≤ a ∧ a ≤ y)) := by
  unfold impl_within.f
  split <;> rename_i h <;> simp <;> omega
theorem l1In_eq (a x y : Int) : spec_l1In.f a x y = some (decide (x ≤ a ∧ a ≤ y)) := by
  unfold spec_l1In.f
  split <;> rename_i h <;> simp <;> omega
theorem wsuccI {i n : Nat} (h : i < n) (hn : n ≤ 1000000000) : wrap64 ((i : Int) + 1) = ((i + 1 : Nat) : Int) := by unfold wrap64; omega
theorem rdI_at (l : List Int) (i : Nat) (h : i < l.length) : rd l (i : Int) = l[i] := by
  unfold rd
  rw [Int.toNat_natCast, List.getD_eq_getElem?_getD, List.getElem?_eq_getElem h]
  rfl
theorem toI_from (l : List Int) (hl : l.length ≤ 1000000000) (d : Nat) : ∀ (k : Nat) (xs : List Int) (i : Nat), xs.length = l.length → l.length = i + d → (∀ j, j < i → xs[j]? = l[j]?) → d < k →
    laws_toInt64S.l0 k l xs (i : Int) = some l := by
  induction d with
  | zero =>
    intro k xs i hx hd hp hk
    obtain ⟨k, rfl⟩ : ∃ m, k = m + 1 := ⟨k - 1, by omega⟩
    simp only [laws_toInt64S.l0]
    rw [if_neg (by omega)]
    refine congrArg some (List.ext_getElem? fun j => ?_)
    by_cases hj : j < i
    · exact hp j hj
    · rw [List.getElem?_eq_none (by omega), List.getElem?_eq_none (by omega)]
  | succ d ih =>
    intro k xs i hx hd hp hk
    obtain ⟨k, rfl⟩ : ∃ m, k = m + 1 := ⟨k - 1, by omega⟩
    simp only [laws_toInt64S.l0]
    have hi : i < l.length := by omega
    rw [if_pos (by omega), if_pos (by omega), if_pos (by omega), rdI_at l i hi, wsuccI hi hl, Int.toNat_natCast]
    refine ih k _ (i + 1) (by simpa using hx) (by omega) (fun j hj => ?_) (by omega)
    rw [List.getElem?_set]
    by_cases e : i = j
    · subst e
      rw [if_pos rfl, if_pos (by omega), List.getElem?_eq_getElem hi]
    · rw [if_neg e]
      exact hp j (by omega)
theorem toI_is (k : Nat) (l : List Int) (hl : l.length ≤ 1048576) (hk : l.length < k) : laws_toInt64S.f k l = some l := by
  unfold laws_toInt64S.f
  have e : ((l.length : Int)).toNat = l.length := by omega
  rw [if_pos (by omega), e, if_pos (by omega)]
  exact toI_from l (by omega) l.length k _ 0 (by simp) (by omega) (fun j hj => by omega) hk
theorem w_succ {i : Int} {n : Nat} (h0 : 0 ≤ i) (h : i < (n : Int)) (hn : n ≤ 1000000000) : wrap64 (i + 1) = i + 1 := by unfold wrap64; omega
theorem eq_from (l : List Int) (hl : l.length ≤ 1000000000) (d : Nat) : ∀ (k : Nat) (i : Int), 0 ≤ i → (l.length : Int) - i = d → d < k → laws_eqInt64S.l0 k l l i = some true := by
  induction d with
  | zero =>
    intro k i h0 hd hk
    obtain ⟨k, rfl⟩ : ∃ m, k = m + 1 := ⟨k - 1, by omega⟩
    simp only [laws_eqInt64S.l0]
    rw [if_neg (by omega)]
  | succ d ih =>
    intro k i h0 hd hk
    obtain ⟨k, rfl⟩ : ∃ m, k = m + 1 := ⟨k - 1, by omega⟩
    simp only [laws_eqInt64S.l0]
    rw [if_pos (by omega), if_pos h0, if_pos (by omega), if_pos trivial, w_succ (n := l.length) h0 (by omega) hl]
    exact ih k (i + 1) (by omega) (by omega) (by omega)
theorem eq_self (k : Nat) (l : List Int) (hl : l.length ≤ 1000000000) (hk : l.length < k) : laws_eqInt64S.f k l l = some true := by
  unfold laws_eqInt64S.f
  rw [if_pos rfl]
  exact eq_from l hl l.length k 0 (by omega) (by omega) hk
def mf (l : List Int) : Int := if l.length = 0 ∨ 192 < l.length ∨ l.length % 8 ≠ 0 then 1 else if l.all isW = true then 0 else 3
theorem mf_cases (l : List Int) : mf l = 0 ∨ mf l = 1 ∨ mf l = 3 := by
  unfold mf
  by_cases h : l.length = 0 ∨ 192 < l.length ∨ l.length % 8 ≠ 0
  · rw [if_pos h]; exact .inr (.inl rfl)
  · rw [if_neg h]
    by_cases g : l.all isW = true
    · rw [if_pos g]; exact .inl rfl
    · rw [if_neg g]; exact .inr (.inr rfl)
theorem mf_ok {l : List Int} (h : mf l = 0) : (l.length ≠ 0 ∧ l.length ≤ 192 ∧ l.length % 8 = 0) ∧ l.all isW = true := by
  unfold mf at h
  by_cases g : l.length = 0 ∨ 192 < l.length ∨ l.length % 8 ≠ 0
  · rw [if_pos g] at h; exact absurd h (by decide)
  · rw [if_neg g] at h
    by_cases e : l.all isW = true
    · exact ⟨by omega, e⟩
    · rw [if_neg e] at h; exact absurd h (by decide)
theorem implMF (k : Nat) (l : List Int) : impl_MemoryFault.f (k + 1) l = some (mf l) := by
  unfold impl_MemoryFault.f mf
  simp only [impl_MemoryFault.j0, impl_areWords.f, Option.bind_some, if_true]
  by_cases h0 : l.length = 0
  · rw [if_pos (by omega), if_pos (.inl h0)]
  · rw [if_neg (by omega)]
    by_cases h1 : 192 < l.length
    · rw [if_pos (by omega), if_pos (.inr (.inl h1))]
    · rw [if_neg (by omega)]
      by_cases h2 : l.length % 8 = 0
      · have e : ((l.length : Int) % 8 != 0) = false := by rw [bne_eq_false_iff_eq]; omega
        have hA : ¬ (l.length = 0 ∨ 192 < l.length ∨ l.length % 8 ≠ 0) := by omega
        rw [e, if_neg (by decide), if_neg hA]
        by_cases g : l.all isW = true
        · rw [if_pos g, if_pos g]
        · rw [if_neg g, if_neg g]
      · have e : ((l.length : Int) % 8 != 0) = true := by rw [bne_iff_ne]; omega
        rw [e, if_pos rfl, if_pos (.inr (.inr h2))]
theorem specMF_from (l : List Int) (hl : l.length ≤ 192) (d : Nat) : ∀ (k i : Nat), l.length = i + d → d < k → spec_MemoryFault.l0 k l (i : Int) = some (if (l.drop i).all isW = true then 0 else 3) := by
  induction d with
  | zero =>
    intro k i hd hk
    obtain ⟨k, rfl⟩ : ∃ m, k = m + 1 := ⟨k - 1, by omega⟩
    simp only [spec_MemoryFault.l0]
    rw [if_neg (by omega), List.drop_eq_nil_of_le (by omega)]
    rfl
  | succ d ih =>
    intro k i hd hk
    obtain ⟨k, rfl⟩ : ∃ m, k = m + 1 := ⟨k - 1, by omega⟩
    have hi : i < l.length := by omega
    have hi' := ih k (i + 1) (by omega) (by omega)
    simp only [spec_MemoryFault.l0, l1In_eq, Option.bind_some]
    rw [if_pos (by omega), if_pos (by omega), rdI_at l i hi, wsuccI hi (by omega), hi', List.drop_eq_getElem_cons hi, List.all_cons]
    have e : decide (0 ≤ l[i] ∧ l[i] ≤ 4294967295) = isW l[i] := rfl
    rw [e]
    cases isW l[i] with
    | true => rw [if_pos rfl, Bool.true_and]
    | false => rw [if_neg (by decide), Bool.false_and, if_neg (by decide)]
theorem specMF (k : Nat) (l : List Int) (hk : 193 < k) : spec_MemoryFault.f (k + 1) l = some (mf l) := by
  unfold spec_MemoryFault.f mf
  by_cases h2 : l.length % 8 = 0
  · rw [if_pos (by omega)]
    by_cases h0 : l.length = 0
    · rw [if_pos (by omega), if_pos (.inl h0)]
      simp only [spec_MemoryFault.j0]
      rw [if_pos trivial]
    · rw [if_neg (by omega)]
      by_cases h1 : 192 < l.length
      · rw [decide_eq_true (by omega), if_pos (.inr (.inl h1))]
        simp only [spec_MemoryFault.j0]
        rw [if_pos trivial]
      · rw [decide_eq_false (by omega), if_neg (by omega)]
        simp only [spec_MemoryFault.j0]
        rw [if_neg (by decide)]
        have := specMF_from l (by omega) l.length k 0 (by omega) (by omega)
        simpa using this
  · rw [if_neg (by omega), if_pos (.inr (.inr h2))]
    simp only [spec_MemoryFault.j0]
    rw [if_pos trivial]
def rw_ (l : List Int) (i : Int) : Int × Int := if mf l = 0 then (if 0 ≤ i ∧ i < (l.length : Int) then (0, rd l i) else (7, 0)) else (mf l, 0)
theorem place_is (l : List Int) (hl : l.length ≤ 1048576) (i : Int) : impl_isPlace.f l i = some (decide (0 ≤ i ∧ i < (l.length : Int))) := by
  have e : wrap64 ((l.length : Int) - 1) = (l.length : Int) - 1 := by unfold wrap64; omega
  unfold impl_isPlace.f
  rw [e, within_eq, Option.bind_some]
  exact congrArg some (decide_eq_decide.mpr (by omega))
theorem implRW (k : Nat) (l : List Int) (hl : l.length ≤ 1048576) (i : Int) : impl_ReadWord.f (k + 1) l i = some (rw_ l i) := by
  unfold impl_ReadWord.f rw_
  rw [implMF, Option.bind_some]
  by_cases h : mf l = 0
  · rw [if_pos h, if_pos h, place_is l hl, Option.bind_some]
    by_cases g : 0 ≤ i ∧ i < (l.length : Int)
    · rw [decide_eq_true g, if_pos rfl, if_pos g.1, if_pos g.2, if_pos g]
    · rw [decide_eq_false g, if_neg (by decide), if_neg g]
  · rw [if_neg h, if_neg h]
theorem at_is (l : List Int) (hl : l.length ≤ 1048576) (i : Int) : spec_l3At.f l i = some (decide (0 ≤ i ∧ i < (l.length : Int))) := by
  have e : wrap64 ((l.length : Int) - 1) = (l.length : Int) - 1 := by unfold wrap64; omega
  unfold spec_l3At.f
  rw [e, l1In_eq, Option.bind_some]
  exact congrArg some (decide_eq_decide.mpr (by omega))
theorem specRW (k : Nat) (hk : 193 < k) (l : List Int) (hl : l.length ≤ 1048576) (i : Int) : spec_ReadWord.f (k + 1) l i = some (rw_ l i) := by
  unfold spec_ReadWord.f rw_
  rw [specMF k l hk, Option.bind_some]
  by_cases h : mf l = 0
  · rw [if_pos h, if_pos h, at_is l hl, Option.bind_some]
    by_cases g : 0 ≤ i ∧ i < (l.length : Int)
    · rw [decide_eq_true g, if_pos rfl, if_pos g.1, if_pos g.2, if_pos g]
    · rw [decide_eq_false g, if_neg (by decide), if_neg g]
  · rw [if_neg h, if_neg h]
theorem FnExactReadWord : laws_FnExactReadWord.Pure := by
  intro l i hm _ _ _
  refine ⟨l.length + 200, ?_⟩
  have hself : ∀ c v : Int, laws_eqIntResult.f c v c v = some true := fun c v => by simp [laws_eqIntResult.f]
  unfold laws_FnExactReadWord.f
  by_cases hb : (l.length : Int) > 1048576
  · rw [if_pos hb]
  rw [if_neg hb, toI_is _ l (by omega) (by omega), Option.bind_some, specRW (l.length + 199) (by omega) l (by omega), Option.bind_some, Option.bind_some, implRW (l.length + 199) l (by omega), Option.bind_some, hself, Option.bind_some, if_pos rfl, Option.bind_some, eq_self _ l (by omega) (by omega), Option.bind_some, if_pos rfl]

end Go.Proofs.Ytddnkakkejeacaa.Pure
