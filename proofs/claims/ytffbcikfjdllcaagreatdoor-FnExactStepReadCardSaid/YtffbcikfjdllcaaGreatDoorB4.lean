import Derived.Test.YtffbcikfjdllcaaGreatDoorB3
set_option linter.unusedSimpArgs false
set_option linter.unusedVariables false
namespace Go.Proofs.YtffbcikfjdllcaaGreatDoor
open Go.RowKit M

theorem byte_get (s : ByteArray) (i : Nat) (h : i < s.size) (h' : i < s.data.toList.length) : s.data.toList[i] = s[i] := rfl

theorem pow56 {k : Nat} (h : k ≤ 8) : 2 ^ (7 * k) ≤ 72057594037927936 := by
  have := Nat.pow_le_pow_right (n := 2) (by omega) (show 7 * k ≤ 56 by omega)
  simpa using this
theorem shift_lt {k x : Nat} (hk : k ≤ 9) (hx : x < 128) (h9 : k = 9 → x ≤ 1) : x * 2 ^ (7 * k) < 18446744073709551616 := by
  by_cases h : k ≤ 8
  · have h1 := pow56 h
    have h2 : x * 2 ^ (7 * k) ≤ 127 * 72057594037927936 := Nat.mul_le_mul (by omega) h1
    omega
  · obtain rfl : k = 9 := by omega
    have := h9 rfl
    have h2 : x * 2 ^ (7 * 9) ≤ 1 * 2 ^ (7 * 9) := Nat.mul_le_mul_right _ this
    have h3 : (2 : Nat) ^ (7 * 9) = 9223372036854775808 := by decide
    omega
theorem acc_lt {k u x : Nat} (hk : k ≤ 9) (hu : u < 2 ^ (7 * k)) (hx : x < 128) (h9 : k = 9 → x ≤ 1) : u + x * 2 ^ (7 * k) < 18446744073709551616 := by
  by_cases h : k ≤ 8
  · have h1 := pow56 h
    have h2 : x * 2 ^ (7 * k) ≤ 127 * 72057594037927936 := Nat.mul_le_mul (by omega) h1
    omega
  · obtain rfl : k = 9 := by omega
    have := h9 rfl
    have h2 : x * 2 ^ (7 * 9) ≤ 1 * 2 ^ (7 * 9) := Nat.mul_le_mul_right _ this
    have h3 : (2 : Nat) ^ (7 * 9) = 9223372036854775808 := by decide
    omega
theorem shl_nat {k x : Nat} (hk : k ≤ 9) (hx : x < 128) (h9 : k = 9 → x ≤ 1) : IntKind.u64.wrap ((x : Int) * 2 ^ (7 * k)) = ((x * 2 ^ (7 * k) : Nat) : Int) := by
  have h := shift_lt hk hx h9
  have e : (x : Int) * 2 ^ (7 * k) = ((x * 2 ^ (7 * k) : Nat) : Int) := by simp [Int.natCast_mul, Int.natCast_pow]
  rw [e, IntKind.wrap_u64]
  omega
theorem or_shift {k u x : Nat} (hk : k ≤ 9) (hu : u < 2 ^ (7 * k)) (hx : x < 128) (h9 : k = 9 → x ≤ 1) :
    bits .or .u64 (u : Int) (IntKind.u64.wrap ((x : Int) * 2 ^ (7 * k))) = ((u + x * 2 ^ (7 * k) : Nat) : Int) := by
  have h1 := shift_lt hk hx h9
  have h2 := acc_lt hk hu hx h9
  rw [shl_nat hk hx h9, u64_or_nat _ _ (by omega) h1]
  have h3 := Nat.shiftLeft_add_eq_or_of_lt hu x
  rw [Nat.shiftLeft_eq] at h3
  rw [Nat.or_comm, ← h3, Nat.add_comm]

theorem xor_neg (y : Nat) (h : y < 9223372036854775808) : bits BinOp.xor IntKind.i64 (-1) (y : Int) = -(y : Int) - 1 := by
  have h1 : (BitVec.ofInt 64 (-1) ^^^ BitVec.ofInt 64 (y : Int)).toNat = 18446744073709551615 - y := by
    have e1 : BitVec.ofInt 64 (-1) = BitVec.allOnes 64 := by decide
    have e2 : BitVec.ofInt 64 (y : Int) = BitVec.ofNat 64 y := rfl
    rw [e1, e2, BitVec.allOnes_xor, BitVec.toNat_not, BitVec.toNat_ofNat, Nat.mod_eq_of_lt (by omega)]
  show IntKind.i64.wrap (((BitVec.ofInt 64 (-1) ^^^ BitVec.ofInt 64 (y : Int)).toNat : Nat) : Int) = _
  rw [h1, IntKind.wrap_i64]
  omega

theorem num_odd {t : Bs} {a y : Nat} {z : Int} (hF : numAt t a = (unzig y, z, 0)) (hy : y < 18446744073709551616) (ho : (y : Int) % 2 = 1) :
    Ending.returned (.agg #[.int .i64 (bits BinOp.xor IntKind.i64 (-1) ((y : Int) / 2)), .int .i64 z, .int .i64 0]) = .returned (.agg #[.int .i64 (numAt t a).1, .int .i64 (numAt t a).2.1, .int .i64 (numAt t a).2.2]) := by
  rw [hF, show ((y : Int) / 2) = ((y / 2 : Nat) : Int) by omega, xor_neg _ (by omega)]
  unfold unzig
  rw [if_pos (by omega)]
theorem num_even {t : Bs} {a y : Nat} {z : Int} (hF : numAt t a = (unzig y, z, 0)) (ho : (y : Int) % 2 ≠ 1) :
    Ending.returned (.agg #[.int .i64 ((y : Int) / 2), .int .i64 z, .int .i64 0]) = .returned (.agg #[.int .i64 (numAt t a).1, .int .i64 (numAt t a).2.1, .int .i64 (numAt t a).2.2]) := by
  rw [hF]
  unfold unzig
  rw [if_neg (by omega), show ((y : Int) / 2) = ((y / 2 : Nat) : Int) by omega]

end Go.Proofs.YtffbcikfjdllcaaGreatDoor
