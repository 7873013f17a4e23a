/- Lemmas on words: what 'and' with a mask leaves, what 'or' joins, and the same over 32 and 64 bits. Plain mathematics; no condition. -/
import Derived.Laws.BitsLemmas
import Derived.RowKit
namespace Go.Proofs.YtpppnnmippngdaaDoor.Lem
open Go.RowKit

theorem wrap64_eq (n : Int) : wrap64 n = IntKind.i64.wrap n := by rw [IntKind.wrap_i64]; rfl
theorem wrap64_in {n : Int} (h0 : -9223372036854775808 ≤ n) (h1 : n ≤ 9223372036854775807) : wrap64 n = n := by unfold wrap64; omega

theorem bits_raw (op : BinOp) (x y : Int) (f : Nat → Nat → Nat) (hf : ∀ a b : BitVec 64, (match op with
    | .and => a &&& b
    | .or => a ||| b
    | .xor => a ^^^ b
    | _ => a &&& ~~~b).toNat = f a.toNat b.toNat) : bits op .i64 x y = IntKind.i64.wrap (f (x % 18446744073709551616).toNat (y % 18446744073709551616).toNat) := by
  have e := hf (BitVec.ofInt 64 x) (BitVec.ofInt 64 y)
  simp only [BitVec.toNat_ofInt] at e
  exact congrArg (fun n : Nat => IntKind.i64.wrap (n : Int)) e

theorem and_i64 (x y : Int) : bits .and .i64 x y = IntKind.i64.wrap (((x % 18446744073709551616).toNat &&& (y % 18446744073709551616).toNat : Nat)) :=
  bits_raw .and x y (fun a b => a &&& b) (fun a b => by simp)
theorem or_i64 (x y : Int) : bits .or .i64 x y = IntKind.i64.wrap (((x % 18446744073709551616).toNat ||| (y % 18446744073709551616).toNat : Nat)) :=
  bits_raw .or x y (fun a b => a ||| b) (fun a b => by simp)
theorem xor_i64 (x y : Int) : bits .xor .i64 x y = IntKind.i64.wrap (((x % 18446744073709551616).toNat ^^^ (y % 18446744073709551616).toNat : Nat)) :=
  bits_raw .xor x y (fun a b => a ^^^ b) (fun a b => by simp)

theorem mask_nat (i : Nat) (hi : i ≤ 62) (x : Int) : bits .and .i64 x ((2 ^ i - 1 : Nat) : Int) = x % ((2 ^ i : Nat) : Int) := by
  have hp : 2 ^ i ≤ 2 ^ 62 := Nat.pow_le_pow_right (by decide) hi
  have hpos : 0 < 2 ^ i := Nat.two_pow_pos i
  have hp' : (2 : Nat) ^ 62 = 4611686018427387904 := by decide
  have hy : (((2 ^ i - 1 : Nat) : Int) % 18446744073709551616).toNat = 2 ^ i - 1 := by
    generalize 2 ^ i = p at *
    omega
  rw [and_i64, hy, Nat.and_two_pow_sub_one_eq_mod, IntKind.wrap_i64]
  have hd : (2 ^ i : Nat) ∣ 18446744073709551616 := by
    have : (18446744073709551616 : Nat) = 2 ^ 64 := by decide
    rw [this]
    exact Nat.pow_dvd_pow 2 (by omega)
  have h2 : (x % 18446744073709551616).toNat % 2 ^ i = (x % ((2 ^ i : Nat) : Int)).toNat := by
    have hx : ((x % 18446744073709551616).toNat : Int) = x % 18446744073709551616 := Int.toNat_of_nonneg (Int.emod_nonneg _ (by decide))
    have hx2 : ((x % ((2 ^ i : Nat) : Int)).toNat : Int) = x % ((2 ^ i : Nat) : Int) := Int.toNat_of_nonneg (Int.emod_nonneg _ (by omega))
    have : (((x % 18446744073709551616).toNat % 2 ^ i : Nat) : Int) = ((x % ((2 ^ i : Nat) : Int)).toNat : Int) := by
      rw [hx2, Int.natCast_emod, hx]
      exact Int.emod_emod_of_dvd x (Int.natCast_dvd_natCast.mpr hd)
    exact Int.ofNat.inj this
  rw [h2]
  have hx2 : ((x % ((2 ^ i : Nat) : Int)).toNat : Int) = x % ((2 ^ i : Nat) : Int) := Int.toNat_of_nonneg (Int.emod_nonneg _ (by omega))
  rw [hx2]
  have hl : x % ((2 ^ i : Nat) : Int) < ((2 ^ i : Nat) : Int) := Int.emod_lt_of_pos _ (by omega)
  have h0 : 0 ≤ x % ((2 ^ i : Nat) : Int) := Int.emod_nonneg _ (by omega)
  have hpI : ((2 ^ i : Nat) : Int) ≤ 4611686018427387904 := by rw [hp'] at hp; omega
  generalize x % ((2 ^ i : Nat) : Int) = r at *
  omega

theorem and_word (x : Int) : bits .and .i64 x 4294967295 = x % 4294967296 := mask_nat 32 (by decide) x
theorem and_65535 (x : Int) : bits .and .i64 x 65535 = x % 65536 := mask_nat 16 (by decide) x
theorem and_15 (x : Int) : bits .and .i64 x 15 = x % 16 := mask_nat 4 (by decide) x

/-- Both numbers below 2^32 (2^62 at most): the bits are those of the natural numbers. -/
theorem and_nat (a b : Nat) (ha : a < 4611686018427387904) (hb : b < 4611686018427387904) : bits .and .i64 a b = ((a &&& b : Nat) : Int) := by
  have h1 : (((a : Nat) : Int) % 18446744073709551616).toNat = a := by omega
  have h2 : (((b : Nat) : Int) % 18446744073709551616).toNat = b := by omega
  rw [and_i64, h1, h2, IntKind.wrap_i64]
  have : a &&& b ≤ a := Nat.and_le_left
  generalize a &&& b = r at *
  omega
theorem or_lt62 {a b : Nat} (ha : a < 4611686018427387904) (hb : b < 4611686018427387904) : a ||| b < 4611686018427387904 := Nat.or_lt_two_pow (n := 62) ha hb
theorem xor_lt62 {a b : Nat} (ha : a < 4611686018427387904) (hb : b < 4611686018427387904) : a ^^^ b < 4611686018427387904 := Nat.xor_lt_two_pow (n := 62) ha hb
theorem or_nat (a b : Nat) (ha : a < 4611686018427387904) (hb : b < 4611686018427387904) : bits .or .i64 a b = ((a ||| b : Nat) : Int) := by
  have h1 : (((a : Nat) : Int) % 18446744073709551616).toNat = a := by omega
  have h2 : (((b : Nat) : Int) % 18446744073709551616).toNat = b := by omega
  rw [or_i64, h1, h2, IntKind.wrap_i64]
  have := or_lt62 ha hb
  generalize a ||| b = r at *
  omega
theorem xor_nat (a b : Nat) (ha : a < 4611686018427387904) (hb : b < 4611686018427387904) : bits .xor .i64 a b = ((a ^^^ b : Nat) : Int) := by
  have h1 : (((a : Nat) : Int) % 18446744073709551616).toNat = a := by omega
  have h2 : (((b : Nat) : Int) % 18446744073709551616).toNat = b := by omega
  rw [xor_i64, h1, h2, IntKind.wrap_i64]
  have := xor_lt62 ha hb
  generalize a ^^^ b = r at *
  omega

/-- The same over 32 bits. -/
theorem u32_raw (op : BinOp) (a b : Nat) (ha : a < 4294967296) (hb : b < 4294967296) (f : Nat → Nat → Nat) (hf : ∀ a b : BitVec 32, (match op with
    | .and => a &&& b
    | .or => a ||| b
    | .xor => a ^^^ b
    | _ => a &&& ~~~b).toNat = f a.toNat b.toNat) : bits op .u32 a b = IntKind.u32.wrap (f a b) := by
  have e := hf (BitVec.ofInt 32 a) (BitVec.ofInt 32 b)
  have h1 : (((a : Nat) : Int) % 4294967296).toNat = a := by omega
  have h2 : (((b : Nat) : Int) % 4294967296).toNat = b := by omega
  simp only [BitVec.toNat_ofInt] at e
  have e1 : (((a : Nat) : Int) % ((2 ^ 32 : Nat) : Int)).toNat = a := h1
  have e2 : (((b : Nat) : Int) % ((2 ^ 32 : Nat) : Int)).toNat = b := h2
  rw [e1, e2] at e
  exact congrArg (fun n : Nat => IntKind.u32.wrap (n : Int)) e
theorem and32 (a b : Nat) (ha : a < 4294967296) (hb : b < 4294967296) : bits .and .u32 a b = ((a &&& b : Nat) : Int) := by
  rw [u32_raw .and a b ha hb (fun a b => a &&& b) (fun a b => by simp), IntKind.wrap_u32]
  have : a &&& b ≤ a := Nat.and_le_left
  generalize a &&& b = r at *
  omega
theorem or32 (a b : Nat) (ha : a < 4294967296) (hb : b < 4294967296) : bits .or .u32 a b = ((a ||| b : Nat) : Int) := by
  rw [u32_raw .or a b ha hb (fun a b => a ||| b) (fun a b => by simp), IntKind.wrap_u32]
  have : a ||| b < 4294967296 := Nat.or_lt_two_pow (n := 32) ha hb
  generalize a ||| b = r at *
  omega
theorem xor32 (a b : Nat) (ha : a < 4294967296) (hb : b < 4294967296) : bits .xor .u32 a b = ((a ^^^ b : Nat) : Int) := by
  rw [u32_raw .xor a b ha hb (fun a b => a ^^^ b) (fun a b => by simp), IntKind.wrap_u32]
  have : a ^^^ b < 4294967296 := Nat.xor_lt_two_pow (n := 32) ha hb
  generalize a ^^^ b = r at *
  omega

end Go.Proofs.YtpppnnmippngdaaDoor.Lem
