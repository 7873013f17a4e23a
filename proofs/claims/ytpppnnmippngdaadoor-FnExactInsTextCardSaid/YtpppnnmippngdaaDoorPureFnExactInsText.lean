/- FnExactInsText: the texts of the program and of the reference are one, for every instruction. No condition. -/
import Derived.Lib.ItoaLen
import Derived.Lib.ItoaMem
import Derived.Test.YtpppnnmippngdaaDoorPFnExactInsTextx5
import Derived.Test.YtpppnnmippngdaaDoorLem
namespace Go.Proofs.YtpppnnmippngdaaDoor.Pure
open Go.RowKit Go.Proofs.YtpppnnmippngdaaDoor.PFnExactInsText Go.Proofs.YtpppnnmippngdaaDoorW.PrintWords Go.Proofs.YtpppnnmippngdaaDoorW.PrintLast Go.Proofs.YtpppnnmippngdaaDoorW.PrintMore
open Go.Proofs.YtpppnnmippngdaaDoor.Lem
set_option linter.unusedVariables false
set_option linter.unusedSimpArgs false
theorem eqText_same (c : Int) (a : ByteArray) : laws_eqTextResult.f c a c a = some true := by
  unfold laws_eqTextResult.f
  rw [if_pos rfl, if_pos rfl]
theorem within_eq (a x y : Int) : impl_within.f a x y = some (decide (x ≤ a ∧ a ≤ y)) := by
  unfold impl_within.f
  split <;> rename_i h <;> simp <;> omega
theorem l1In_eq (a x y : Int) : spec_l1In.f a x y = some (decide (x ≤ a ∧ a ≤ y)) := by
  unfold spec_l1In.f
  split <;> rename_i h <;> simp <;> omega
def rangeOk (op d a i : Int) : Prop := (1 ≤ op ∧ op ≤ 26) ∧ (0 ≤ d ∧ d ≤ 15) ∧ (0 ≤ a ∧ a ≤ 15) ∧ (0 ≤ i ∧ i ≤ 65535)
def formBad (op d a i : Int) : Prop := (op ≤ 11 ∧ 15 < i) ∨ ((op = 13 ∨ op = 19 ∨ op = 21) ∧ a ≠ 0) ∨ ((op = 21 ∨ op = 22) ∧ 10 < i) ∨ (op = 22 ∧ d ≠ 0) ∨ (23 ≤ op ∧ (d ≠ 0 ∨ a ≠ 0 ∨ i ≠ 0))
instance (op d a i : Int) : Decidable (rangeOk op d a i) := by unfold rangeOk; infer_instance
instance (op d a i : Int) : Decidable (formBad op d a i) := by unfold formBad; infer_instance
def fault (op d a i : Int) : Int := if rangeOk op d a i then (if formBad op d a i then 1 else 0) else 3
theorem some_one {p : Prop} [Decidable p] (h : p) : (some 1 : Option Int) = some (if p then 1 else 0) := by rw [if_pos h]
theorem some_nil {p : Prop} [Decidable p] (h : ¬ p) : (some 0 : Option Int) = some (if p then 1 else 0) := by rw [if_neg h]
theorem implJ1 (k : Nat) (op d a i : Int) (h0 : 12 ≤ op) (h1 : op ≤ 26) (t : Bool) (ht : t = true ↔ (op = 13 ∨ op = 19)) (hi : 0 ≤ i) : impl_InsFault.j1 (k + 1) false op t op d a i = some (if formBad op d a i then 1 else 0) := by
  simp only [impl_InsFault.j1]
  cases t with
  | true =>
    have h := ht.mp rfl
    rw [if_pos rfl]
    by_cases c : a = 0
    · rw [if_pos c]; exact some_nil (by unfold formBad; omega)
    · rw [if_neg c]; exact some_one (by unfold formBad; omega)
  | false =>
    have h : ¬ (op = 13 ∨ op = 19) := fun e => Bool.noConfusion (ht.mpr e)
    rw [if_neg (by decide)]
    by_cases c1 : op = 21
    · rw [if_pos c1]
      by_cases c2 : i > 10
      · rw [if_pos c2]; exact some_one (by unfold formBad; omega)
      · rw [if_neg c2]
        by_cases c : a = 0
        · rw [if_pos c]; exact some_nil (by unfold formBad; omega)
        · rw [if_neg c]; exact some_one (by unfold formBad; omega)
    · rw [if_neg c1]
      by_cases c3 : op = 22
      · rw [if_pos c3]
        by_cases c2 : i > 10
        · rw [if_pos c2]; exact some_one (by unfold formBad; omega)
        · rw [if_neg c2]
          by_cases c : d = 0
          · rw [if_pos c]; exact some_nil (by unfold formBad; omega)
          · rw [if_neg c]; exact some_one (by unfold formBad; omega)
      · rw [if_neg c3]
        by_cases c4 : op ≥ 23
        · rw [if_pos c4]
          by_cases e1 : d = 0
          · rw [if_pos e1]
            by_cases e2 : a = 0
            · rw [if_pos e2]
              by_cases e3 : i = 0
              · rw [if_pos e3]; exact some_nil (by unfold formBad; omega)
              · rw [if_neg e3]; exact some_one (by unfold formBad; omega)
            · rw [if_neg e2]; exact some_one (by unfold formBad; omega)
          · rw [if_neg e1]; exact some_one (by unfold formBad; omega)
        · rw [if_neg c4, if_neg (by decide)]; exact some_nil (by unfold formBad; omega)
theorem implJ0 (k : Nat) (op d a i : Int) (h0 : 1 ≤ op) (h1 : op ≤ 26) (hi : 0 ≤ i) : impl_InsFault.j0 (k + 2) false op d a i = some (if formBad op d a i then 1 else 0) := by
  simp only [impl_InsFault.j0]
  rw [if_neg (by decide)]
  by_cases c : op ≤ 11
  · rw [if_pos c]
    by_cases c2 : i > 15
    · rw [if_pos c2]; exact some_one (by unfold formBad; omega)
    · rw [if_neg c2]; exact some_nil (by unfold formBad; omega)
  · rw [if_neg c]
    by_cases c3 : op = 13
    · rw [if_pos c3]
      exact implJ1 k op d a i (by omega) h1 _ (by rw [beq_iff_eq]; omega) hi
    · rw [if_neg c3]
      exact implJ1 k op d a i (by omega) h1 _ (by rw [beq_iff_eq]; omega) hi
theorem implIF (k : Nat) (op d a i : Int) : impl_InsFault.f (k + 2) op d a i = some (fault op d a i) := by
  have hbad : impl_InsFault.j0 (k + 2) true op d a i = some 3 := by simp only [impl_InsFault.j0]; rw [if_pos trivial]
  unfold impl_InsFault.f fault
  simp only [within_eq, Option.bind_some, decide_eq_true_eq]
  by_cases r1 : 1 ≤ op ∧ op ≤ 26
  · rw [if_pos r1]
    by_cases r2 : 0 ≤ d ∧ d ≤ 15
    · rw [if_pos r2]
      by_cases r3 : 0 ≤ a ∧ a ≤ 15
      · rw [if_pos r3]
        by_cases r4 : 0 ≤ i ∧ i ≤ 65535
        · rw [decide_eq_true r4, if_pos ⟨r1, r2, r3, r4⟩]
          exact implJ0 k op d a i r1.1 r1.2 r4.1
        · rw [decide_eq_false r4, if_neg (fun h => r4 h.2.2.2)]
          exact hbad
      · rw [if_neg r3, if_neg (fun h => r3 h.2.2.1)]; exact hbad
    · rw [if_neg r2, if_neg (fun h => r2 h.2.1)]; exact hbad
  · rw [if_neg r1, if_neg (fun h => r1 h.1)]; exact hbad
theorem bare_0 (k : Nat) (op : Int) (h : op ≠ 13 ∧ op ≠ 19 ∧ op ≠ 21 ∧ op ≤ 21 ∨ 26 < op) : spec_l2Bare.f (k + 1) op = some (false, false, false) := by
  unfold spec_l2Bare.f
  have e21 : (op == 21) = false := beq_eq_false_iff_ne.mpr (by omega)
  rw [if_neg (by omega), if_neg (by omega), e21]
  simp only [spec_l2Bare.j0]
  rw [if_neg (by decide), if_neg (by omega), if_neg (by omega), if_neg (by omega), if_neg (by omega), if_neg (by omega)]
theorem bare_a (k : Nat) (op : Int) (h : op = 13 ∨ op = 19 ∨ op = 21) : spec_l2Bare.f (k + 1) op = some (false, true, false) := by
  rcases h with rfl | rfl | rfl <;> rfl
theorem bare_d (k : Nat) : spec_l2Bare.f (k + 1) 22 = some (true, false, false) := rfl
theorem bare_all (k : Nat) (op : Int) (h : 23 ≤ op ∧ op ≤ 26) : spec_l2Bare.f (k + 1) op = some (true, true, true) := by
  have : op = 23 ∨ op = 24 ∨ op = 25 ∨ op = 26 := by omega
  rcases this with rfl | rfl | rfl | rfl <;> rfl
theorem specJ0 (k : Nat) (op d a i : Int) (h0 : 1 ≤ op) (h1 : op ≤ 26) (hi : 0 ≤ i) : spec_InsFault.j0 (k + 2) false op d a i = some (if formBad op d a i then 1 else 0) := by
  simp only [spec_InsFault.j0]
  rw [if_neg (by decide)]
  by_cases ca : op = 13 ∨ op = 19 ∨ op = 21
  · rw [bare_a k op ca, Option.bind_some]
    dsimp only
    rw [if_neg (by decide), if_pos rfl]
    by_cases c : a = 0
    · rw [if_pos c, if_neg (by decide), if_neg (by omega)]
      by_cases c1 : op = 21
      · rw [if_pos c1]
        by_cases c2 : i > 10
        · rw [if_pos c2]; exact some_one (by unfold formBad; omega)
        · rw [if_neg c2]; exact some_nil (by unfold formBad; omega)
      · rw [if_neg c1, if_neg (by omega)]; exact some_nil (by unfold formBad; omega)
    · rw [if_neg c]; exact some_one (by unfold formBad; omega)
  by_cases cd : op = 22
  · subst cd
    rw [bare_d k, Option.bind_some]
    dsimp only
    rw [if_pos rfl]
    by_cases c : d = 0
    · rw [if_pos c, if_neg (by decide), if_neg (by decide), if_neg (by decide), if_neg (by decide), if_pos rfl]
      by_cases c2 : i > 10
      · rw [if_pos c2]; exact some_one (by unfold formBad; omega)
      · rw [if_neg c2]; exact some_nil (by unfold formBad; omega)
    · rw [if_neg c]; exact some_one (by unfold formBad; omega)
  by_cases cl : 23 ≤ op
  · rw [bare_all k op ⟨cl, h1⟩, Option.bind_some]
    dsimp only
    rw [if_pos rfl]
    by_cases e1 : d = 0
    · rw [if_pos e1, if_pos rfl]
      by_cases e2 : a = 0
      · rw [if_pos e2, if_pos rfl]
        by_cases e3 : i = 0
        · rw [if_pos e3, if_neg (by omega), if_neg (by omega), if_neg (by omega)]; exact some_nil (by unfold formBad; omega)
        · rw [if_neg e3]; exact some_one (by unfold formBad; omega)
      · rw [if_neg e2]; exact some_one (by unfold formBad; omega)
    · rw [if_neg e1]; exact some_one (by unfold formBad; omega)
  · rw [bare_0 k op (by omega), Option.bind_some]
    dsimp only
    rw [if_neg (by decide), if_neg (by decide), if_neg (by decide)]
    by_cases c : op ≤ 11
    · rw [if_pos c]
      by_cases c2 : i > 15
      · rw [if_pos c2]; exact some_one (by unfold formBad; omega)
      · rw [if_neg c2, if_neg (by omega), if_neg (by omega)]; exact some_nil (by unfold formBad; omega)
    · rw [if_neg c, if_neg (by omega), if_neg (by omega)]; exact some_nil (by unfold formBad; omega)
theorem specIF (k : Nat) (op d a i : Int) : spec_InsFault.f (k + 2) op d a i = some (fault op d a i) := by
  have hbad : spec_InsFault.j0 (k + 2) true op d a i = some 3 := by simp only [spec_InsFault.j0]; rw [if_pos trivial]
  unfold spec_InsFault.f fault
  simp only [l1In_eq, Option.bind_some, decide_eq_true_eq]
  by_cases r1 : 1 ≤ op ∧ op ≤ 26
  · rw [if_pos r1]
    by_cases r2 : 0 ≤ d ∧ d ≤ 15
    · rw [if_pos r2]
      by_cases r3 : 0 ≤ a ∧ a ≤ 15
      · rw [if_pos r3]
        by_cases r4 : 0 ≤ i ∧ i ≤ 65535
        · rw [decide_eq_true r4, if_pos ⟨r1, r2, r3, r4⟩]
          exact specJ0 k op d a i r1.1 r1.2 r4.1
        · rw [decide_eq_false r4, if_neg (fun h => r4 h.2.2.2)]
          exact hbad
      · rw [if_neg r3, if_neg (fun h => r3 h.2.2.1)]; exact hbad
    · rw [if_neg r2, if_neg (fun h => r2 h.2.1)]; exact hbad
  · rw [if_neg r1, if_neg (fun h => r1 h.1)]; exact hbad
theorem fault_cases (op d a i : Int) : fault op d a i = 0 ∨ fault op d a i = 1 ∨ fault op d a i = 3 := by
  unfold fault
  by_cases h : rangeOk op d a i
  · rw [if_pos h]
    by_cases g : formBad op d a i
    · rw [if_pos g]; exact .inr (.inl rfl)
    · rw [if_neg g]; exact .inl rfl
  · rw [if_neg h]; exact .inr (.inr rfl)
theorem fault_range {op d a i : Int} (h : fault op d a i = 0) : rangeOk op d a i := by
  unfold fault at h
  by_cases g : rangeOk op d a i
  · exact g
  · rw [if_neg g] at h; exact absurd h (by decide)
theorem dec_len {n : Nat} (h : n ≤ 65535) : (Lib.decDigits n).length ≤ 21 := by
  have := Lib.itoa_length_le (n : Int) (by omega) (by omega)
  rwa [Lib.itoa_nonneg] at this
theorem one_digit {x : Nat} (h : x < 10) : strOfNums [wrap64 (48 + (x : Int)) % 256] = ⟨#[UInt8.ofNat (48 + x)]⟩ := by
  have e : wrap64 (48 + (x : Int)) % 256 = ((48 + x : Nat) : Int) := by unfold wrap64; omega
  rw [e]
  rfl
theorem mk_append (a b : List UInt8) : (⟨a.toArray⟩ : ByteArray) ++ ⟨b.toArray⟩ = ⟨(a ++ b).toArray⟩ := by
  apply ByteArray.ext
  rw [ByteArray.data_append]
  simp
theorem digits_dec : ∀ (k n : Nat), n < 10 ^ (k + 1) → n ≤ 65535 → spec_l2Digits.f (k + 1) (n : Int) = some ⟨(Lib.decDigits n).toArray⟩ := by
  intro k
  have small : ∀ (k n : Nat), n < 10 → spec_l2Digits.f (k + 1) (n : Int) = some ⟨(Lib.decDigits n).toArray⟩ := by
    intro k n h
    simp only [spec_l2Digits.f]
    rw [if_pos (by omega), one_digit h, Lib.decDigits_one h]
  induction k with
  | zero => intro n h _; exact small 0 n (by simpa using h)
  | succ k ih =>
    intro n h hn
    by_cases hs : n < 10
    · exact small (k + 1) n hs
    · have e1 : wrap64 (Int.tdiv (n : Int) 10) = ((n / 10 : Nat) : Int) := by
        rw [Int.tdiv_eq_ediv_of_nonneg (by omega)]
        unfold wrap64
        omega
      have e2 : Int.tmod (n : Int) 10 = ((n % 10 : Nat) : Int) := by
        rw [Int.tmod_eq_emod_of_nonneg (by omega)]
        omega
      have hd : n / 10 < 10 ^ (k + 1) := by rw [Nat.pow_succ] at h; omega
      have hl := dec_len (n := n / 10) (by omega)
      have e3 : (⟨(Lib.decDigits (n / 10)).toArray⟩ : ByteArray).size = (Lib.decDigits (n / 10)).length := by simp [ByteArray.size]
      have e4 : (⟨#[UInt8.ofNat (48 + n % 10)]⟩ : ByteArray).size = 1 := rfl
      have e5 : Lib.decDigits n = Lib.decDigits (n / 10) ++ [UInt8.ofNat (48 + n % 10)] := by rw [Lib.decDigits, dif_neg hs]
      simp only [spec_l2Digits.f] at ih ⊢
      rw [if_neg (by omega), e1, e2]
      have ih' := ih (n / 10) hd (by omega)
      rw [ih', Option.bind_some, Option.bind_some, one_digit (by omega), if_pos (by rw [e3, e4]; omega), e5, ← mk_append]
theorem decB_size {x : Int} (h0 : 0 ≤ x) (h1 : x ≤ 65535) : (decB x).size ≤ 21 := by
  obtain ⟨n, rfl⟩ := Int.eq_ofNat_of_zero_le h0
  have := dec_len (n := n) (by omega)
  unfold decB
  rw [Lib.itoa_nonneg]
  simpa [ByteArray.size] using this
theorem digits_eq (k : Nat) {x : Int} (h0 : 0 ≤ x) (h1 : x ≤ 65535) : spec_l2Digits.f (k + 6) x = some (decB x) := by
  obtain ⟨n, rfl⟩ := Int.eq_ofNat_of_zero_le h0
  unfold decB
  rw [Lib.itoa_nonneg]
  refine digits_dec (k + 5) n ?_ (by omega)
  refine Nat.lt_of_lt_of_le (m := 10 ^ 6) (by omega) (Nat.pow_le_pow_right (by decide) (by omega))
def sp : ByteArray := ⟨#[32]⟩
def step (s : ByteArray) (x : Int) : ByteArray := s ++ (sp ++ decB x)
theorem sp_size : (⟨#[32]⟩ : ByteArray).size = 1 := rfl
theorem step_eq (s : ByteArray) (x : Int) : (s ++ (⟨#[32]⟩ : ByteArray)) ++ decB x = step s x := ByteArray.append_assoc
theorem step_size {s : ByteArray} {x : Int} (h0 : 0 ≤ x) (h1 : x ≤ 65535) : (step s x).size ≤ s.size + 22 := by
  have := decB_size h0 h1
  unfold step sp
  rw [ByteArray.size_append, ByteArray.size_append, sp_size]
  omega
theorem insTxt_cons {x : Int} {s : ByteArray} {l : List Int} (h0 : 0 ≤ x) (h1 : x ≤ 65535) (hs : s.size ≤ 1000) : insTxt (x :: l) s = insTxt l (step s x) := by
  have := decB_size h0 h1
  show (if 0 ≤ x ∧ x ≤ 65535 ∧ s.size + (1 + (decB x).size) ≤ 9223372036854775807 then insTxt l (s ++ ((⟨#[32]⟩ : ByteArray) ++ decB x)) else none) = _
  rw [if_pos ⟨h0, h1, by omega⟩]
  rfl
theorem j0_tt (k : Nat) (s : ByteArray) (op a1 a2 a3 : Int) : spec_InsText.j0 (k + 1) s true true op a1 a2 a3 = some (0, s) := by
  simp only [spec_InsText.j0]
  rw [if_pos trivial, if_pos trivial]
theorem j0_tf (k : Nat) (s : ByteArray) (op a1 a2 a3 : Int) (hs : s.size ≤ 500) (h0 : 0 ≤ a3) (h1 : a3 ≤ 65535) : spec_InsText.j0 (k + 7) s true false op a1 a2 a3 = some (0, step s a3) := by
  have := decB_size h0 h1
  simp only [spec_InsText.j0]
  rw [if_pos trivial, if_neg (by decide), if_pos (by omega), digits_eq k h0 h1, Option.bind_some, if_pos (by rw [ByteArray.size_append, sp_size]; omega), step_eq]
theorem j0_ff (k : Nat) (s : ByteArray) (op a1 a2 a3 : Int) (hs : s.size ≤ 500) (g0 : 0 ≤ a2) (g1 : a2 ≤ 65535) (h0 : 0 ≤ a3) (h1 : a3 ≤ 65535) : spec_InsText.j0 (k + 7) s false false op a1 a2 a3 = some (0, step (step s a2) a3) := by
  have d2 := decB_size g0 g1
  have d3 := decB_size h0 h1
  have s2 := step_size (s := s) g0 g1
  simp only [spec_InsText.j0]
  rw [if_neg (by decide), if_pos (by omega), digits_eq k g0 g1, Option.bind_some, if_pos (by rw [ByteArray.size_append, sp_size]; omega), if_neg (by decide), step_eq, if_pos (by omega), digits_eq k h0 h1, Option.bind_some, if_pos (by rw [ByteArray.size_append, sp_size]; omega), step_eq]
def sN : List ByteArray := (spec_l2Names.f).getD []
theorem sN_eq : spec_l2Names.f = some sN := rfl
theorem sN_len : sN.length = 27 := rfl
theorem nm26 : ∀ i : Fin 26, rdOf ByteArray.empty sN ((i.val : Int) + 1) = rdOf ByteArray.empty nmList (i.val : Int) ∧ 1 ≤ (rdOf ByteArray.empty nmList (i.val : Int)).size ∧ (rdOf ByteArray.empty nmList (i.val : Int)).size ≤ 6 := by decide +kernel
theorem nm_at {op : Int} (h0 : 1 ≤ op) (h1 : op ≤ 26) : rdOf ByteArray.empty sN op = rdOf ByteArray.empty nmList (op - 1) ∧ 1 ≤ (rdOf ByteArray.empty nmList (op - 1)).size ∧ (rdOf ByteArray.empty nmList (op - 1)).size ≤ 6 := by
  have := nm26 ⟨(op - 1).toNat, by omega⟩
  rwa [show (((op - 1).toNat : Nat) : Int) + 1 = op by omega, show (((op - 1).toNat : Nat) : Int) = op - 1 by omega] at this
def txtOf (op d a i : Int) : ByteArray :=
  let nm := rdOf ByteArray.empty nmList (op - 1)
  if 23 ≤ op then nm else if op = 22 then step (step nm a) i else if op = 13 ∨ op = 19 ∨ op = 21 then step (step nm d) i else step (step (step nm d) a) i
def insT (op d a i : Int) : Int × ByteArray := if fault op d a i = 0 then (0, txtOf op d a i) else (fault op d a i, ⟨#[]⟩)
theorem fault_zero {op d a i : Int} (h : fault op d a i = 0) : rangeOk op d a i := by
  unfold fault at h
  by_cases hr : rangeOk op d a i
  · exact hr
  · rw [if_neg hr] at h; exact absurd h (by decide)
theorem implT (op d a i : Int) : impl_InsText.f op d a i = some (insT op d a i) := by
  unfold impl_InsText.f insT
  rw [implIF 1 op d a i, Option.bind_some]
  by_cases hf : fault op d a i = 0
  · rw [if_pos hf, if_pos hf]
    obtain ⟨⟨o0, o1⟩, ⟨d0, d1⟩, ⟨a0, a1⟩, ⟨i0, i1⟩⟩ := fault_zero hf
    obtain ⟨_, _, hs⟩ := nm_at o0 o1
    rw [if_pos ⟨o0, o1⟩]
    have sd := step_size (s := rdOf ByteArray.empty nmList (op - 1)) (x := d) d0 (by omega)
    have sa := step_size (s := rdOf ByteArray.empty nmList (op - 1)) (x := a) a0 (by omega)
    have sda := step_size (s := step (rdOf ByteArray.empty nmList (op - 1)) d) (x := a) a0 (by omega)
    unfold txtOf plcs
    dsimp only
    by_cases c1 : 23 ≤ op
    · rw [if_pos c1, if_pos c1]; rfl
    rw [if_neg c1, if_neg c1]
    by_cases c2 : op = 22
    · rw [if_pos c2, if_pos c2]
      show (insTxt [a, i] _).bind _ = _
      rw [insTxt_cons a0 (by omega) (by omega), insTxt_cons i0 i1 (by omega)]; rfl
    rw [if_neg c2, if_neg c2]
    by_cases c3 : op = 13 ∨ op = 19 ∨ op = 21
    · rw [if_pos c3, if_pos c3]
      show (insTxt [d, i] _).bind _ = _
      rw [insTxt_cons d0 (by omega) (by omega), insTxt_cons i0 i1 (by omega)]; rfl
    rw [if_neg c3, if_neg c3]
    show (insTxt [d, a, i] _).bind _ = _
    rw [insTxt_cons d0 (by omega) (by omega), insTxt_cons a0 (by omega) (by omega), insTxt_cons i0 i1 (by omega)]; rfl
  · rw [if_neg hf, if_neg hf]
theorem specT (k : Nat) (op d a i : Int) : spec_InsText.f (k + 8) op d a i = some (insT op d a i) := by
  unfold spec_InsText.f insT
  rw [specIF (k + 6) op d a i, Option.bind_some]
  by_cases hf : fault op d a i = 0
  · rw [if_pos hf, if_pos hf]
    obtain ⟨⟨o0, o1⟩, ⟨d0, d1⟩, ⟨a0, a1⟩, ⟨i0, i1⟩⟩ := fault_zero hf
    obtain ⟨he, _, hs⟩ := nm_at o0 o1
    have dd := decB_size (x := d) d0 (by omega)
    have sd := step_size (s := rdOf ByteArray.empty nmList (op - 1)) (x := d) d0 (by omega)
    rw [sN_eq, Option.bind_some, if_pos (by omega), if_pos (by rw [sN_len]; omega), he]
    unfold txtOf
    dsimp only
    by_cases c1 : 23 ≤ op
    · rw [if_pos c1, bare_all (k + 7) op ⟨c1, o1⟩, Option.bind_some]
      dsimp only
      rw [if_pos rfl, j0_tt]
    rw [if_neg c1]
    by_cases c2 : op = 22
    · subst c2
      rw [if_pos rfl, bare_d (k + 7), Option.bind_some]
      dsimp only
      rw [if_pos rfl]
      exact j0_ff (k + 1) _ _ _ _ _ (by omega) a0 (by omega) i0 i1
    rw [if_neg c2]
    by_cases c3 : op = 13 ∨ op = 19 ∨ op = 21
    · rw [if_pos c3, bare_a (k + 7) op c3, Option.bind_some]
      dsimp only
      rw [if_neg (by decide), if_pos (by omega), digits_eq (k + 2) d0 (by omega), Option.bind_some, if_pos (by rw [ByteArray.size_append, sp_size]; omega), step_eq]
      exact j0_tf (k + 1) _ _ _ _ _ (by omega) i0 i1
    rw [if_neg c3, bare_0 (k + 7) op (by omega), Option.bind_some]
    dsimp only
    rw [if_neg (by decide), if_pos (by omega), digits_eq (k + 2) d0 (by omega), Option.bind_some, if_pos (by rw [ByteArray.size_append, sp_size]; omega), step_eq]
    exact j0_ff (k + 1) _ _ _ _ _ (by omega) a0 (by omega) i0 i1
  · rw [if_neg hf, if_neg hf]
theorem FnExactInsText : laws_FnExactInsText.Pure := by
  intro op d a i _ _ _ _
  refine ⟨8, ?_⟩
  unfold laws_FnExactInsText.f laws_toIns.f
  rw [Option.bind_some]
  dsimp only
  rw [specT 0 op d a i, Option.bind_some, Option.bind_some]
  dsimp only
  rw [implT op d a i, Option.bind_some, eqText_same, Option.bind_some, if_pos rfl]

end Go.Proofs.YtpppnnmippngdaaDoor.Pure
