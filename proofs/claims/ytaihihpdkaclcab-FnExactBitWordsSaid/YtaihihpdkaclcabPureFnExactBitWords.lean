/- BitWords of the program and of the reference tell the same, for all three numbers. No condition. -/
import Derived.Test.YtaihihpdkaclcabPFnExactBitWordsx1
import Derived.Test.YtaihihpdkaclcabLem
namespace Go.Proofs.Ytaihihpdkaclcab.Pure
open Go.RowKit Go.Proofs.Ytaihihpdkaclcab.PFnExactBitWords Go.Proofs.YtaihihpdkaclcabW.PrintWords Go.Proofs.YtaihihpdkaclcabW.PrintLast
open Go.Proofs.Ytaihihpdkaclcab.Lem
theorem FnExactBitWords : laws_FnExactBitWords.Pure := by
  intro op a b _ _ _
  obtain ⟨x, hx, hx'⟩ : ∃ x : Nat, a % 4294967296 = x ∧ x < 4294967296 := ⟨(a % 4294967296).toNat, by omega, by omega⟩
  obtain ⟨y, hy, hy'⟩ : ∃ y : Nat, b % 4294967296 = y ∧ y < 4294967296 := ⟨(b % 4294967296).toNat, by omega, by omega⟩
  have l1 : ((x &&& y : Nat) : Int) ≤ 4294967295 := by have : x &&& y ≤ x := Nat.and_le_left; omega
  have l2 : ((x ||| y : Nat) : Int) ≤ 4294967295 := by have : x ||| y < 4294967296 := Nat.or_lt_two_pow (n := 32) hx' hy'; omega
  have l3 : ((x ^^^ y : Nat) : Int) ≤ 4294967295 := by have : x ^^^ y < 4294967296 := Nat.xor_lt_two_pow (n := 32) hx' hy'; omega
  have e1 : wrap64 ((x &&& y : Nat) : Int) = ((x &&& y : Nat) : Int) := wrap64_in (by omega) (by omega)
  have e2 : wrap64 ((x ||| y : Nat) : Int) = ((x ||| y : Nat) : Int) := wrap64_in (by omega) (by omega)
  have e3 : wrap64 ((x ^^^ y : Nat) : Int) = ((x ^^^ y : Nat) : Int) := wrap64_in (by omega) (by omega)
  simp only [laws_FnExactBitWords.f, spec_BitWords.f, impl_BitWords.f, impl_WrapWord.f, and_word, Option.bind_some, hx, hy, and32 x y hx' hy', or32 x y hx' hy', xor32 x y hx' hy', and_nat x y (by omega) (by omega), or_nat x y (by omega) (by omega), xor_nat x y (by omega) (by omega), e1, e2, e3]
  repeat (split; · simp [laws_eqIntResult.f])
  simp [laws_eqIntResult.f]

end Go.Proofs.Ytaihihpdkaclcab.Pure
