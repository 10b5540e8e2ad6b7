/- Masks of 24 bits (and of fewer), as remainders: plain arithmetic, no program in sight. -/
import Derived.Laws.BitsLemmas
namespace Go.Proofs.Ytihobchcmfamaaa.Bits
open Go
theorem and_u32_mask (x : Int) : Go.bits .and .u32 x 16777215 = x % 16777216 := by
  have hm : (BitVec.ofInt 32 16777215).toNat = 2 ^ 24 - 1 := by decide
  have key : (BitVec.ofInt 32 x &&& BitVec.ofInt 32 16777215).toNat = (x % ((2 ^ 32 : Nat) : Int)).toNat % 2 ^ 24 := by
    rw [BitVec.toNat_and, BitVec.toNat_ofInt, hm, Nat.and_two_pow_sub_one_eq_mod]
  show IntKind.u32.wrap ((BitVec.ofInt 32 x &&& BitVec.ofInt 32 16777215).toNat : Nat) = x % 16777216
  rw [key]
  simp only [IntKind.wrap, IntKind.bits, IntKind.signed]
  simp
  omega
theorem and_i64_mask (x : Int) : Go.bits .and .i64 x 16777215 = x % 16777216 := by
  have hm : (BitVec.ofInt 64 16777215).toNat = 2 ^ 24 - 1 := by decide
  have key : (BitVec.ofInt 64 x &&& BitVec.ofInt 64 16777215).toNat = (x % ((2 ^ 64 : Nat) : Int)).toNat % 2 ^ 24 := by
    rw [BitVec.toNat_and, BitVec.toNat_ofInt, hm, Nat.and_two_pow_sub_one_eq_mod]
  show IntKind.i64.wrap ((BitVec.ofInt 64 x &&& BitVec.ofInt 64 16777215).toNat : Nat) = x % 16777216
  rw [key, IntKind.wrap_i64]
  omega
theorem and_i64_63 (x : Int) : Go.bits .and .i64 x 63 = x % 64 := by
  have hm : (BitVec.ofInt 64 63).toNat = 2 ^ 6 - 1 := by decide
  have key : (BitVec.ofInt 64 x &&& BitVec.ofInt 64 63).toNat = (x % ((2 ^ 64 : Nat) : Int)).toNat % 2 ^ 6 := by
    rw [BitVec.toNat_and, BitVec.toNat_ofInt, hm, Nat.and_two_pow_sub_one_eq_mod]
  show IntKind.i64.wrap ((BitVec.ofInt 64 x &&& BitVec.ofInt 64 63).toNat : Nat) = x % 64
  rw [key, IntKind.wrap_i64]
  omega
theorem and_i64_255 (x : Int) : Go.bits .and .i64 x 255 = x % 256 := by
  have hm : (BitVec.ofInt 64 255).toNat = 2 ^ 8 - 1 := by decide
  have key : (BitVec.ofInt 64 x &&& BitVec.ofInt 64 255).toNat = (x % ((2 ^ 64 : Nat) : Int)).toNat % 2 ^ 8 := by
    rw [BitVec.toNat_and, BitVec.toNat_ofInt, hm, Nat.and_two_pow_sub_one_eq_mod]
  show IntKind.i64.wrap ((BitVec.ofInt 64 x &&& BitVec.ofInt 64 255).toNat : Nat) = x % 256
  rw [key, IntKind.wrap_i64]
  omega
end Go.Proofs.Ytihobchcmfamaaa.Bits
