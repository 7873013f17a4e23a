/- AluOf of the program and of the reference tell the same, for every op and all two numbers. No condition. -/
import Derived.Test.YtpppnnmippngdaaPFnExactAluOfx2
import Derived.Test.YtpppnnmippngdaaLem
namespace Go.Proofs.Ytpppnnmippngdaa.Pure
open Go.RowKit Go.Proofs.Ytpppnnmippngdaa.PFnExactAluOf Go.Proofs.YtpppnnmippngdaaW.PrintWords Go.Proofs.YtpppnnmippngdaaW.PrintLast Go.Proofs.YtpppnnmippngdaaW.PrintMore
open Go.Proofs.Ytpppnnmippngdaa.Lem
set_option linter.unusedVariables false
set_option linter.unusedSimpArgs false
theorem l1In_eq (a x y : Int) : spec_l1In.f a x y = some (decide (x ≤ a ∧ a ≤ y)) := by
  unfold spec_l1In.f
  split <;> rename_i h <;> simp <;> omega
theorem wrap_is (a : Int) : impl_WrapWord.f a = some (a % 4294967296) := by unfold impl_WrapWord.f; rw [and_word]
theorem mm (a : Int) : a % 4294967296 % 4294967296 = a % 4294967296 := Int.emod_emod_of_dvd _ (Int.dvd_refl _)
theorem add_same (a b : Int) : impl_AddWords.f a b = spec_AddWords.f a b := by
  have e : wrap64 (a % 4294967296 + b % 4294967296) = a % 4294967296 + b % 4294967296 := by unfold wrap64; omega
  simp only [spec_AddWords.f, impl_AddWords.f, wrap_is, Option.bind_some, e]
theorem signed_eq (a : Int) : wrap64 (wrap32 (a % 4294967296)) = if a % 4294967296 < 2147483648 then a % 4294967296 else wrap64 (wrap64 (a % 4294967296 - 4294967295) - 1) := by
  unfold wrap64 wrap32
  split <;> omega
theorem signed_same (a : Int) : impl_SignedOf.f a = spec_SignedOf.f a := by
  simp only [spec_SignedOf.f, impl_SignedOf.f, wrap_is, Option.bind_some, signed_eq]
  split <;> simp
theorem signed_zero (b : Int) : b % 4294967296 = 0 ↔ wrap64 (wrap32 (b % 4294967296)) = 0 := by
  unfold wrap64 wrap32
  omega
theorem div_same (a b : Int) : impl_DivWords.f a b = spec_DivWords.f a b := by
  simp only [spec_DivWords.f, impl_DivWords.f, signed_same, spec_SignedOf.f, spec_WrapWord.f, wrap_is, Option.bind_some]
  by_cases h : b % 4294967296 = 0
  · rw [if_pos h, if_pos ((signed_zero b).mp h)]
  · rw [if_neg h, if_neg (fun e => h ((signed_zero b).mpr e)), if_neg (fun e => h ((signed_zero b).mpr e))]
theorem rem_same (a b : Int) : impl_RemWords.f a b = spec_RemWords.f a b := by
  simp only [spec_RemWords.f, impl_RemWords.f, signed_same, spec_SignedOf.f, spec_WrapWord.f, wrap_is, Option.bind_some]
  by_cases h : b % 4294967296 = 0
  · rw [if_pos h, if_pos ((signed_zero b).mp h)]
  · rw [if_neg h, if_neg (fun e => h ((signed_zero b).mpr e)), if_neg (fun e => h ((signed_zero b).mpr e))]
theorem mul_same (a b : Int) : impl_MulWords.f a b = spec_MulWords.f a b := rfl
theorem shift_same (a b : Int) (left : Bool) : impl_ShiftWord.f a b left = spec_ShiftWord.f a b left := by
  obtain ⟨n, hn, h32⟩ : ∃ n : Nat, Int.tmod (b % 4294967296) 32 = n ∧ n < 32 := by
    refine ⟨((b % 4294967296) % 32).toNat, ?_, by omega⟩
    rw [Int.tmod_eq_emod_of_nonneg (by omega)]
    omega
  have hm : (((b % 4294967296) % 32).toNat : Int) = n := by
    rw [Int.tmod_eq_emod_of_nonneg (by omega)] at hn
    omega
  have hm' : ((b % 4294967296) % 32).toNat = n := by omega
  have hmin : min n 64 = n := by omega
  have hs : shl .i64 (a % 4294967296) n = a % 4294967296 * 2 ^ n := by
    unfold shl
    simp only [Int.toNat_natCast, IntKind.bits, hmin]
    have h1 : (2 : Nat) ^ n ≤ 2 ^ 31 := Nat.pow_le_pow_right (by decide) (by omega)
    have h2 : (2 : Int) ^ n = ((2 ^ n : Nat) : Int) := by simp
    have h3 : (2 : Nat) ^ 31 = 2147483648 := by decide
    rw [h2, IntKind.wrap_i64]
    rw [h3] at h1
    have h0 : 0 < (2 : Nat) ^ n := Nat.two_pow_pos n
    have h4 : a % 4294967296 * ((2 ^ n : Nat) : Int) ≤ 4294967295 * 2147483648 := Int.mul_le_mul (by omega) (by omega) (by omega) (by decide)
    have h5 : 0 ≤ a % 4294967296 * ((2 ^ n : Nat) : Int) := Int.mul_nonneg (by omega) (Int.natCast_nonneg _)
    generalize a % 4294967296 * ((2 ^ n : Nat) : Int) = r at *
    omega
  have hr : shr .i64 (a % 4294967296) n = a % 4294967296 / 2 ^ n := by
    unfold shr
    simp only [Int.toNat_natCast, IntKind.bits, hmin]
  have hw : wrap64 (a % 4294967296 / 2 ^ n) = a % 4294967296 / 2 ^ n := by
    have h2 : (2 : Int) ^ n = ((2 ^ n : Nat) : Int) := by simp
    have h5 : 0 ≤ a % 4294967296 / ((2 ^ n : Nat) : Int) := Int.ediv_nonneg (by omega) (Int.natCast_nonneg _)
    have h6 : a % 4294967296 / ((2 ^ n : Nat) : Int) ≤ a % 4294967296 := Int.ediv_le_self _ (by omega)
    rw [h2]
    unfold wrap64
    generalize a % 4294967296 / ((2 ^ n : Nat) : Int) = r at *
    omega
  simp only [spec_ShiftWord.f, impl_ShiftWord.f, wrap_is, Option.bind_some, hn, hm', hs, hr, hw]
  cases left <;> simp
theorem bit_same (op a b : Int) : impl_BitWords.f op a b = spec_BitWords.f op a b := by
  obtain ⟨x, hx, hx'⟩ : ∃ x : Nat, a % 4294967296 = x ∧ x < 4294967296 := ⟨(a % 4294967296).toNat, by omega, by omega⟩
  obtain ⟨y, hy, hy'⟩ : ∃ y : Nat, b % 4294967296 = y ∧ y < 4294967296 := ⟨(b % 4294967296).toNat, by omega, by omega⟩
  have l1 : ((x &&& y : Nat) : Int) ≤ 4294967295 := by have : x &&& y ≤ x := Nat.and_le_left; omega
  have l2 : ((x ||| y : Nat) : Int) ≤ 4294967295 := by have : x ||| y < 4294967296 := Nat.or_lt_two_pow (n := 32) hx' hy'; omega
  have l3 : ((x ^^^ y : Nat) : Int) ≤ 4294967295 := by have : x ^^^ y < 4294967296 := Nat.xor_lt_two_pow (n := 32) hx' hy'; omega
  have e1 : wrap64 ((x &&& y : Nat) : Int) = ((x &&& y : Nat) : Int) := wrap64_in (by omega) (by omega)
  have e2 : wrap64 ((x ||| y : Nat) : Int) = ((x ||| y : Nat) : Int) := wrap64_in (by omega) (by omega)
  have e3 : wrap64 ((x ^^^ y : Nat) : Int) = ((x ^^^ y : Nat) : Int) := wrap64_in (by omega) (by omega)
  simp only [spec_BitWords.f, impl_BitWords.f, wrap_is, Option.bind_some, hx, hy, and32 x y hx' hy', or32 x y hx' hy', xor32 x y hx' hy', and_nat x y (by omega) (by omega), or_nat x y (by omega) (by omega), xor_nat x y (by omega) (by omega), e1, e2, e3]
theorem add_mod (a b : Int) : impl_AddWords.f (a % 4294967296) (b % 4294967296) = impl_AddWords.f a b := by simp only [impl_AddWords.f, wrap_is, mm]
theorem mul_mod (a b : Int) : impl_MulWords.f (a % 4294967296) (b % 4294967296) = impl_MulWords.f a b := by simp only [impl_MulWords.f, mm]
theorem signed_mod (a : Int) : impl_SignedOf.f (a % 4294967296) = impl_SignedOf.f a := by simp only [impl_SignedOf.f, wrap_is, mm]
theorem div_mod (a b : Int) : impl_DivWords.f (a % 4294967296) (b % 4294967296) = impl_DivWords.f a b := by simp only [impl_DivWords.f, signed_mod]
theorem rem_mod (a b : Int) : impl_RemWords.f (a % 4294967296) (b % 4294967296) = impl_RemWords.f a b := by simp only [impl_RemWords.f, signed_mod, wrap_is, mm]
theorem shift_mod (a b : Int) (l : Bool) : impl_ShiftWord.f (a % 4294967296) (b % 4294967296) l = impl_ShiftWord.f a b l := by simp only [impl_ShiftWord.f, wrap_is, mm]
theorem bit_mod (o a b : Int) : impl_BitWords.f o (a % 4294967296) (b % 4294967296) = impl_BitWords.f o a b := by simp only [impl_BitWords.f, wrap_is, mm]
theorem add_c (a b : Int) : impl_AddWords.f (a % 4294967296) (b % 4294967296) = spec_AddWords.f a b := (add_mod a b).trans (add_same a b)
theorem mul_c (a b : Int) : impl_MulWords.f (a % 4294967296) (b % 4294967296) = spec_MulWords.f a b := (mul_mod a b).trans (mul_same a b)
theorem div_c (a b : Int) : impl_DivWords.f (a % 4294967296) (b % 4294967296) = spec_DivWords.f a b := (div_mod a b).trans (div_same a b)
theorem rem_c (a b : Int) : impl_RemWords.f (a % 4294967296) (b % 4294967296) = spec_RemWords.f a b := (rem_mod a b).trans (rem_same a b)
theorem shift_c (a b : Int) (l : Bool) : impl_ShiftWord.f (a % 4294967296) (b % 4294967296) l = spec_ShiftWord.f a b l := (shift_mod a b l).trans (shift_same a b l)
theorem bit_c (o a b : Int) : impl_BitWords.f o (a % 4294967296) (b % 4294967296) = spec_BitWords.f o a b := (bit_mod o a b).trans (bit_same o a b)
theorem signed_c (a : Int) : impl_SignedOf.f (a % 4294967296) = spec_SignedOf.f a := (signed_mod a).trans (signed_same a)
theorem w_0 : wrap64 0 = 0 := by unfold wrap64; omega
theorem w_1 : wrap64 1 = 1 := by unfold wrap64; omega
theorem w_2 : wrap64 2 = 2 := by unfold wrap64; omega
theorem w_3 : wrap64 3 = 3 := by unfold wrap64; omega
theorem spec_add_some (a b : Int) : ∃ v, spec_AddWords.f a b = some v := ⟨_, rfl⟩
theorem spec_div_some (a b : Int) : ∃ v, spec_DivWords.f a b = some v := by
  simp only [spec_DivWords.f, spec_SignedOf.f, spec_WrapWord.f, Option.bind_some]
  by_cases h : b % 4294967296 = 0
  · rw [if_pos h]; exact ⟨_, rfl⟩
  · rw [if_neg h, if_neg (fun e => h ((signed_zero b).mpr e))]; exact ⟨_, rfl⟩
theorem spec_rem_some (a b : Int) : ∃ v, spec_RemWords.f a b = some v := by
  simp only [spec_RemWords.f, spec_SignedOf.f, spec_WrapWord.f, Option.bind_some]
  by_cases h : b % 4294967296 = 0
  · rw [if_pos h]; exact ⟨_, rfl⟩
  · rw [if_neg h, if_neg (fun e => h ((signed_zero b).mpr e))]; exact ⟨_, rfl⟩
theorem spec_shift_some (a b : Int) (l : Bool) : ∃ v, spec_ShiftWord.f a b l = some v := by
  unfold spec_ShiftWord.f
  cases l
  · exact ⟨_, rfl⟩
  · exact ⟨_, rfl⟩
theorem spec_bit_some (o a b : Int) (h : o = 1 ∨ o = 2 ∨ o = 3) : ∃ v, spec_BitWords.f o a b = some (0, v) := by
  unfold spec_BitWords.f
  rcases h with rfl | rfl | rfl
  · exact ⟨_, rfl⟩
  · exact ⟨_, rfl⟩
  · exact ⟨_, rfl⟩
theorem both (op a b : Int) : ∃ v, spec_AluOf.f 3 op a b = some v ∧ impl_AluOf.f 3 op a b = some v := by
  unfold spec_AluOf.f impl_AluOf.f
  simp only [l1In_eq, wrap_is, Option.bind_some]
  by_cases hr : 1 ≤ op ∧ op ≤ 11
  · rw [decide_eq_true hr, if_pos rfl]
    have hc : op = 1 ∨ op = 2 ∨ op = 3 ∨ op = 4 ∨ op = 5 ∨ (op = 6 ∨ op = 7 ∨ op = 8) ∨ op = 9 ∨ op = 10 ∨ op = 11 := by omega
    rcases hc with rfl | rfl | rfl | rfl | rfl | hb | rfl | rfl | rfl
    · obtain ⟨v, h⟩ := spec_add_some a b
      simp [spec_l2Alu.f, add_c, h]
    · have e : wrap64 (a % 4294967296 - b % 4294967296) = a % 4294967296 - b % 4294967296 := by unfold wrap64; omega
      simp [spec_l2Alu.f, e]
    · simp [spec_l2Alu.f, mul_c, spec_MulWords.f]
    · obtain ⟨v, h⟩ := spec_div_some a b
      simp [spec_l2Alu.f, div_c, h]
    · obtain ⟨v, h⟩ := spec_rem_some a b
      simp [spec_l2Alu.f, rem_c, h]
    · rcases hb with rfl | rfl | rfl
      · obtain ⟨v, h⟩ := spec_bit_some 1 a b (by omega)
        simp [spec_l2Alu.f, spec_l2Alu.j0, impl_AluOf.j0, w_0, w_1, bit_c, h]
      · obtain ⟨v, h⟩ := spec_bit_some 2 a b (by omega)
        simp [spec_l2Alu.f, spec_l2Alu.j0, impl_AluOf.j0, w_1, w_2, bit_c, h]
      · obtain ⟨v, h⟩ := spec_bit_some 3 a b (by omega)
        simp [spec_l2Alu.f, spec_l2Alu.j0, impl_AluOf.j0, w_2, w_3, bit_c, h]
    · obtain ⟨v, h⟩ := spec_shift_some a b true
      simp [spec_l2Alu.f, spec_l2Alu.j0, impl_AluOf.j0, impl_AluOf.j1, shift_c, h]
    · obtain ⟨v, h⟩ := spec_shift_some a b false
      simp [spec_l2Alu.f, spec_l2Alu.j0, impl_AluOf.j0, impl_AluOf.j1, shift_c, h]
    · simp only [spec_l2Alu.f, spec_l2Alu.j0, impl_AluOf.j0, impl_AluOf.j1, signed_c]
      simp only [spec_SignedOf.f]
      by_cases g : wrap64 (wrap32 (a % 4294967296)) < wrap64 (wrap32 (b % 4294967296)) <;> simp [g]
  · rw [decide_eq_false hr, if_neg (by decide)]
    refine ⟨(3, 0), rfl, ?_⟩
    have n1 : ¬ op = 1 := by omega
    have n2 : ¬ op = 2 := by omega
    have n3 : ¬ op = 3 := by omega
    have n4 : ¬ op = 4 := by omega
    have n5 : ¬ op = 5 := by omega
    have n6 : ¬ op = 6 := by omega
    have n7 : ¬ op = 7 := by omega
    have n8 : ¬ op = 8 := by omega
    have n9 : ¬ op = 9 := by omega
    have n10 : ¬ op = 10 := by omega
    have n11 : ¬ op = 11 := by omega
    simp [impl_AluOf.j0, impl_AluOf.j1, n1, n2, n3, n4, n5, n6, n7, n8, n9, n10, n11]
theorem FnExactAluOf : laws_FnExactAluOf.Pure := by
  intro op a b _ _ _
  refine ⟨3, ?_⟩
  have hself : ∀ c v : Int, laws_eqIntResult.f c v c v = some true := fun c v => by simp [laws_eqIntResult.f]
  obtain ⟨v, h1, h2⟩ := both op a b
  unfold laws_FnExactAluOf.f
  rw [h1, Option.bind_some, h2, Option.bind_some, hself, Option.bind_some, if_pos rfl]

end Go.Proofs.Ytpppnnmippngdaa.Pure
