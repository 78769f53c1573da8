/- Bits of words. No program is named here. -/
import Derived.WalkKit
import Derived.Lib.Hide
namespace Go.Proofs.YtdabdbbgaekmdaaGreat
open Go Go.RowKit

theorem or_add (k : Nat) (a b : Int) (h0 : 0 ≤ a) (h1 : a < 2 ^ k) (h2 : 0 ≤ b) (h3 : 2 ^ k * b < 18446744073709551616) (h4 : a < 18446744073709551616) :
    bits .or .u64 a (2 ^ k * b) = a + 2 ^ k * b := by
  obtain ⟨x, rfl⟩ := Int.eq_ofNat_of_zero_le h0
  obtain ⟨y, rfl⟩ := Int.eq_ofNat_of_zero_le h2
  have e : (2 : Int) ^ k * (y : Int) = ((2 ^ k * y : Nat) : Int) := by simp
  rw [e] at h3 ⊢
  have h1' : x < 2 ^ k := by
    have e2 : (2 : Int) ^ k = ((2 ^ k : Nat) : Int) := by simp
    rw [e2] at h1; exact Int.ofNat_lt.1 h1
  rw [u64_or_nat x (2 ^ k * y) (by omega) (by omega), Nat.or_comm, ← Nat.two_pow_add_eq_or_of_lt h1']
  omega
theorem and_mod (k : Nat) (a : Int) (hk : k < 64) (h0 : 0 ≤ a) (h1 : a < 18446744073709551616) : bits .and .u64 a (2 ^ k - 1) = a % 2 ^ k := by
  obtain ⟨x, rfl⟩ := Int.eq_ofNat_of_zero_le h0
  have hp : 0 < 2 ^ k := Nat.two_pow_pos k
  have hq : 2 ^ k ≤ 2 ^ 63 := Nat.pow_le_pow_right (by omega) (by omega)
  have e : (2 : Int) ^ k - 1 = ((2 ^ k - 1 : Nat) : Int) := by
    rw [Int.ofNat_sub hp]; simp
  rw [e, u64_and_nat x (2 ^ k - 1) (by omega) (by omega), Nat.and_two_pow_sub_one_eq_mod]
  simp
theorem or_add' (k : Nat) (a b : Int) (h0 : 0 ≤ a) (h1 : a < 2 ^ k) (h2 : 0 ≤ b) (h3 : 2 ^ k * b < 18446744073709551616) (h4 : a < 18446744073709551616) :
    bits .or .u64 (2 ^ k * b) a = 2 ^ k * b + a := by
  obtain ⟨x, rfl⟩ := Int.eq_ofNat_of_zero_le h0
  obtain ⟨y, rfl⟩ := Int.eq_ofNat_of_zero_le h2
  have e : (2 : Int) ^ k * (y : Int) = ((2 ^ k * y : Nat) : Int) := by simp
  rw [e] at h3 ⊢
  have h1' : x < 2 ^ k := by
    have e2 : (2 : Int) ^ k = ((2 ^ k : Nat) : Int) := by simp
    rw [e2] at h1; exact Int.ofNat_lt.1 h1
  rw [u64_or_nat (2 ^ k * y) x (by omega) (by omega), ← Nat.two_pow_add_eq_or_of_lt h1']
  omega
theorem or_zero' (x : Int) (h0 : 0 ≤ x) (h1 : x < 18446744073709551616) : bits .or .u64 0 x = x := by
  obtain ⟨y, rfl⟩ := Int.eq_ofNat_of_zero_le h0
  have := u64_or_nat 0 y (by omega) (by omega)
  simpa using this
end Go.Proofs.YtdabdbbgaekmdaaGreat
