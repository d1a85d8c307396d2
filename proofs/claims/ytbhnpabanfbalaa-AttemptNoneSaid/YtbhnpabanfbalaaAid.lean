/- Small facts on whole numbers and bits, proved for every number in their bounds; the pure statements of this seat use them. -/
import Derived.Laws.Entries
import Derived.Laws.BitsLemmas
import Derived.RowKit
namespace Go.Proofs.Ytbhnpabanfbalaa.Aid
open Go Go.RowKit

theorem wrap_small (k : IntKind) (n : Int) (h0 : 0 ≤ n) (h1 : n < 2 ^ (k.bits - 1)) : k.wrap n = n := by
  cases k <;> simp [IntKind.wrap, IntKind.bits, IntKind.signed] at * <;> omega

theorem wrap_u64 (n : Int) : IntKind.u64.wrap n = n % 18446744073709551616 := by simp [IntKind.wrap, IntKind.bits, IntKind.signed]
theorem wrap_u64_in (n : Int) (h0 : 0 ≤ n) (h1 : n < 18446744073709551616) : IntKind.u64.wrap n = n := by rw [wrap_u64]; omega

theorem w64 (n : Int) (h0 : -9223372036854775808 ≤ n) (h1 : n ≤ 9223372036854775807) : wrap64 n = n := by unfold wrap64; omega

theorem ofInt_toNat (n : Nat) (x : Int) : ((BitVec.ofInt n x).toNat : Int) = x % 2 ^ n := by
  rw [BitVec.toNat_ofInt]
  have : (0 : Int) ≤ x % ((2 ^ n : Nat) : Int) := Int.emod_nonneg _ (by have := Nat.two_pow_pos n; omega)
  rw [Int.toNat_of_nonneg this]; simp

theorem and_mask (k : IntKind) (i : Nat) (hi : i < k.bits) (x : Int) : bits .and k x (2 ^ i - 1) = x % 2 ^ i := by
  have hpos : 0 < 2 ^ i := Nat.two_pow_pos i
  have hlt : 2 ^ i < 2 ^ k.bits := Nat.pow_lt_pow_right (by decide) hi
  have hc : ((2 : Int) ^ i - 1) = ((2 ^ i - 1 : Nat) : Int) := by rw [Int.natCast_sub hpos]; simp
  have hm : (2 ^ i - 1) % 2 ^ k.bits = 2 ^ i - 1 := Nat.mod_eq_of_lt (by omega)
  have e : (((BitVec.ofInt k.bits x &&& BitVec.ofInt k.bits (2 ^ i - 1)).toNat : Nat) : Int) = x % 2 ^ i := by
    rw [BitVec.toNat_and, hc, BitVec.ofInt_natCast, BitVec.toNat_ofNat, hm, Nat.and_two_pow_sub_one_eq_mod]
    have hd : ((2 : Int) ^ i) ∣ 2 ^ k.bits := by exact_mod_cast Nat.pow_dvd_pow 2 (Nat.le_of_lt hi)
    have := Int.emod_emod_of_dvd x hd
    have h2 := ofInt_toNat k.bits x
    rw [← this, ← h2]; simp only [Int.natCast_emod, Int.natCast_pow]; rfl
  show k.wrap _ = _
  rw [e]
  have hb : (0 : Int) < 2 ^ i := by exact_mod_cast hpos
  have h0 := Int.emod_nonneg x (b := 2 ^ i) (by omega)
  have h1 := Int.emod_lt_of_pos x hb
  have h2 : (2 : Int) ^ i ≤ 2 ^ (k.bits - 1) := by exact_mod_cast Nat.pow_le_pow_right (by decide) (by omega)
  exact wrap_small k _ h0 (by omega)

theorem i64_and1 (x : Int) : bits .and .i64 x 1 = x % 2 := and_mask .i64 1 (by decide) x
theorem i64_and3 (x : Int) : bits .and .i64 x 3 = x % 4 := and_mask .i64 2 (by decide) x
theorem i64_and7 (x : Int) : bits .and .i64 x 7 = x % 8 := and_mask .i64 3 (by decide) x
theorem i64_and15 (x : Int) : bits .and .i64 x 15 = x % 16 := and_mask .i64 4 (by decide) x
theorem i64_and31 (x : Int) : bits .and .i64 x 31 = x % 32 := and_mask .i64 5 (by decide) x
theorem i64_and63 (x : Int) : bits .and .i64 x 63 = x % 64 := and_mask .i64 6 (by decide) x
theorem i64_and127 (x : Int) : bits .and .i64 x 127 = x % 128 := and_mask .i64 7 (by decide) x
theorem i64_and255 (x : Int) : bits .and .i64 x 255 = x % 256 := and_mask .i64 8 (by decide) x
theorem i64_and511 (x : Int) : bits .and .i64 x 511 = x % 512 := and_mask .i64 9 (by decide) x
theorem i64_and4095 (x : Int) : bits .and .i64 x 4095 = x % 4096 := and_mask .i64 12 (by decide) x
theorem i64_and65535 (x : Int) : bits .and .i64 x 65535 = x % 65536 := and_mask .i64 16 (by decide) x
theorem i64_and24 (x : Int) : bits .and .i64 x 16777215 = x % 16777216 := and_mask .i64 24 (by decide) x
theorem i64_and40 (x : Int) : bits .and .i64 x 1099511627775 = x % 1099511627776 := and_mask .i64 40 (by decide) x
theorem u64_and1 (x : Int) : bits .and .u64 x 1 = x % 2 := and_mask .u64 1 (by decide) x
theorem u64_and3 (x : Int) : bits .and .u64 x 3 = x % 4 := and_mask .u64 2 (by decide) x
theorem u64_and127 (x : Int) : bits .and .u64 x 127 = x % 128 := and_mask .u64 7 (by decide) x
theorem u32_and1 (x : Int) : bits .and .u32 x 1 = x % 2 := and_mask .u32 1 (by decide) x
theorem u32_and3 (x : Int) : bits .and .u32 x 3 = x % 4 := and_mask .u32 2 (by decide) x
theorem u32_and15 (x : Int) : bits .and .u32 x 15 = x % 16 := and_mask .u32 4 (by decide) x
theorem u32_and255 (x : Int) : bits .and .u32 x 255 = x % 256 := and_mask .u32 8 (by decide) x
end Go.Proofs.Ytbhnpabanfbalaa.Aid
