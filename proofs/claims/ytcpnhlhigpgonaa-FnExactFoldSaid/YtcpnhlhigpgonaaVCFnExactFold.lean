/- Plain lemmas on numbers, lists and loops that the pure statements of this seat share. No program in sight. -/
import Derived.Test.YtcpnhlhigpgonaaVFnExactFold
import Derived.Laws.BytesArg
import Derived.Laws.BitsLemmas
import Derived.RowKit
namespace Go.Proofs.Ytcpnhlhigpgonaa.Common
open Go.RowKit Go.Proofs.YtcpnhlhigpgonaaW.PrintWords Go.Proofs.YtcpnhlhigpgonaaW.PrintLast

theorem w64 {x : Int} (h0 : -9223372036854775808 ≤ x) (h1 : x ≤ 9223372036854775807) : wrap64 x = x := by
  unfold wrap64; omega
theorem and_mask (n : Int) (i : Nat) (hi : i ≤ 62) : bits .and .i64 n (((2 ^ i - 1 : Nat) : Nat) : Int) = n % ((2 ^ i : Nat) : Int) := by
  have hp : 0 < 2 ^ i := Nat.two_pow_pos i
  have hle : 2 ^ i ≤ 2 ^ 62 := Nat.pow_le_pow_right (by decide) hi
  have hm : (BitVec.ofInt 64 (((2 ^ i - 1 : Nat) : Nat) : Int)).toNat = 2 ^ i - 1 := by
    rw [BitVec.toNat_ofInt]
    have : ((2 ^ i - 1 : Nat) : Int) % ((2 ^ 64 : Nat) : Int) = ((2 ^ i - 1 : Nat) : Int) := by
      apply Int.emod_eq_of_lt <;> omega
    rw [this]; simp
  have key : (BitVec.ofInt 64 n &&& BitVec.ofInt 64 (((2 ^ i - 1 : Nat) : Nat) : Int)).toNat = (n % ((2 ^ 64 : Nat) : Int)).toNat % 2 ^ i := by
    rw [BitVec.toNat_and, hm, BitVec.toNat_ofInt, Nat.and_two_pow_sub_one_eq_mod]
  have hd : (2 ^ i) ∣ 2 ^ 64 := Nat.pow_dvd_pow 2 (by omega)
  show IntKind.i64.wrap ((BitVec.ofInt 64 n &&& BitVec.ofInt 64 (((2 ^ i - 1 : Nat) : Nat) : Int)).toNat : Nat) = _
  rw [key]
  have e : (((n % ((2 ^ 64 : Nat) : Int)).toNat % 2 ^ i : Nat) : Int) = n % ((2 ^ i : Nat) : Int) := by
    rw [Int.natCast_emod, Int.toNat_of_nonneg (Int.emod_nonneg _ (by decide))]
    exact Int.emod_emod_of_dvd _ (by exact_mod_cast hd)
  rw [e, IntKind.wrap_i64]
  have h1 := Int.emod_nonneg n (b := ((2 ^ i : Nat) : Int)) (by omega)
  have h2 := Int.emod_lt_of_pos n (b := ((2 ^ i : Nat) : Int)) (by omega)
  generalize n % ((2 ^ i : Nat) : Int) = m at *
  have : ((2 ^ i : Nat) : Int) ≤ 4611686018427387904 := by
    have : (2 ^ 62 : Nat) = 4611686018427387904 := by decide
    omega
  omega
theorem and65535 (n : Int) : bits .and .i64 n 65535 = n % 65536 := and_mask n 16 (by decide)
section
variable {α : Type}
end

end Go.Proofs.Ytcpnhlhigpgonaa.Common
