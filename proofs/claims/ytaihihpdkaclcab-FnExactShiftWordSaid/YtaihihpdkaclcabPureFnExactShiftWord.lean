/- ShiftWord of the program and of the reference tell the same, for all words, counts and both ways. No condition. -/
import Derived.Test.YtaihihpdkaclcabPFnExactShiftWordx1
import Derived.Test.YtaihihpdkaclcabLem
namespace Go.Proofs.Ytaihihpdkaclcab.Pure
open Go.RowKit Go.Proofs.Ytaihihpdkaclcab.PFnExactShiftWord Go.Proofs.YtaihihpdkaclcabW.PrintWords Go.Proofs.YtaihihpdkaclcabW.PrintLast
open Go.Proofs.Ytaihihpdkaclcab.Lem
theorem FnExactShiftWord : laws_FnExactShiftWord.Pure := by
  intro a b left _ _
  obtain ⟨n, hn, h32⟩ : ∃ n : Nat, Int.tmod (b % 4294967296) 32 = n ∧ n < 32 := by
    refine ⟨((b % 4294967296) % 32).toNat, ?_, by omega⟩
    rw [Int.tmod_eq_emod_of_nonneg (by omega)]
    omega
  have hm : (((b % 4294967296) % 32).toNat : Int) = n := by
    rw [Int.tmod_eq_emod_of_nonneg (by omega)] at hn
    omega
  have hm' : ((b % 4294967296) % 32).toNat = n := by omega
  have hmin : min n 64 = n := by omega
  have hs : shl .i64 (a % 4294967296) n = a % 4294967296 * 2 ^ n := by
    unfold shl
    simp only [Int.toNat_natCast, IntKind.bits, hmin]
    have h1 : (2 : Nat) ^ n ≤ 2 ^ 31 := Nat.pow_le_pow_right (by decide) (by omega)
    have h2 : (2 : Int) ^ n = ((2 ^ n : Nat) : Int) := by simp
    have h3 : (2 : Nat) ^ 31 = 2147483648 := by decide
    rw [h2, IntKind.wrap_i64]
    rw [h3] at h1
    have h0 : 0 < (2 : Nat) ^ n := Nat.two_pow_pos n
    have h4 : a % 4294967296 * ((2 ^ n : Nat) : Int) ≤ 4294967295 * 2147483648 := Int.mul_le_mul (by omega) (by omega) (by omega) (by decide)
    have h5 : 0 ≤ a % 4294967296 * ((2 ^ n : Nat) : Int) := Int.mul_nonneg (by omega) (Int.natCast_nonneg _)
    generalize a % 4294967296 * ((2 ^ n : Nat) : Int) = r at *
    omega
  have hr : shr .i64 (a % 4294967296) n = a % 4294967296 / 2 ^ n := by
    unfold shr
    simp only [Int.toNat_natCast, IntKind.bits, hmin]
  have hw : wrap64 (a % 4294967296 / 2 ^ n) = a % 4294967296 / 2 ^ n := by
    have h2 : (2 : Int) ^ n = ((2 ^ n : Nat) : Int) := by simp
    have h5 : 0 ≤ a % 4294967296 / ((2 ^ n : Nat) : Int) := Int.ediv_nonneg (by omega) (Int.natCast_nonneg _)
    have h6 : a % 4294967296 / ((2 ^ n : Nat) : Int) ≤ a % 4294967296 := Int.ediv_le_self _ (by omega)
    rw [h2]
    unfold wrap64
    generalize a % 4294967296 / ((2 ^ n : Nat) : Int) = r at *
    omega
  simp only [laws_FnExactShiftWord.f, spec_ShiftWord.f, impl_ShiftWord.f, impl_WrapWord.f, and_word, Option.bind_some, hn, hm', hs, hr, hw]
  cases left <;> simp

end Go.Proofs.Ytaihihpdkaclcab.Pure
