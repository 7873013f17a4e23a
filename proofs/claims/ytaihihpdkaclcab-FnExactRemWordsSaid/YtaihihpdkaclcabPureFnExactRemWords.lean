/- RemWords of the program and of the reference tell the same, for all two numbers. No condition. -/
import Derived.Test.YtaihihpdkaclcabPFnExactRemWordsx1
import Derived.Test.YtaihihpdkaclcabLem
namespace Go.Proofs.Ytaihihpdkaclcab.Pure
open Go.RowKit Go.Proofs.Ytaihihpdkaclcab.PFnExactRemWords Go.Proofs.YtaihihpdkaclcabW.PrintWords Go.Proofs.YtaihihpdkaclcabW.PrintLast
open Go.Proofs.Ytaihihpdkaclcab.Lem
theorem signed_eq (a : Int) : wrap64 (wrap32 (a % 4294967296)) = if a % 4294967296 < 2147483648 then a % 4294967296 else wrap64 (wrap64 (a % 4294967296 - 4294967295) - 1) := by
  unfold wrap64 wrap32
  split <;> omega
theorem signed_same (a : Int) : impl_SignedOf.f a = spec_SignedOf.f a := by
  simp only [spec_SignedOf.f, impl_SignedOf.f, impl_WrapWord.f, and_word, Option.bind_some, signed_eq]
  split <;> simp
theorem signed_zero (b : Int) : b % 4294967296 = 0 ↔ wrap64 (wrap32 (b % 4294967296)) = 0 := by
  unfold wrap64 wrap32
  omega
theorem FnExactRemWords : laws_FnExactRemWords.Pure := by
  intro a b _ _
  simp only [laws_FnExactRemWords.f, spec_RemWords.f, impl_RemWords.f, signed_same, spec_SignedOf.f, spec_WrapWord.f, impl_WrapWord.f, and_word, Option.bind_some]
  by_cases h : b % 4294967296 = 0
  · rw [if_pos h, if_pos ((signed_zero b).mp h)]
    simp
  · rw [if_neg h, if_neg (fun e => h ((signed_zero b).mpr e)), if_neg (fun e => h ((signed_zero b).mpr e))]
    simp

end Go.Proofs.Ytaihihpdkaclcab.Pure
