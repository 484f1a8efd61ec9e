import Derived.Test.YtffbcikfjdllcaaGreatDoorB4
set_option linter.unusedSimpArgs false
set_option linter.unusedVariables false
namespace Go.Proofs.YtffbcikfjdllcaaGreatDoor
open Go.RowKit M

theorem getNum_long {t : Bs} {a : Int} (h : 8000 < t.length) : getNum t a = (0, 0, 2) := by unfold getNum; rw [if_pos h]
theorem getNum_neg {t : Bs} {a : Int} (h : ¬ 8000 < t.length) (ha : a < 0) : getNum t a = (0, 0, 1) := by unfold getNum; rw [if_neg h, if_pos ha]
theorem getNum_at {t : Bs} {a : Int} (h : ¬ 8000 < t.length) (ha : ¬ a < 0) : getNum t a = numAt t a.toNat := by unfold getNum; rw [if_neg h, if_neg ha]
theorem numAt_end {t : Bs} {a : Nat} (h : t.length ≤ a) : numAt t a = (0, 0, 4) := numAt_bad (gnum_end h) (by decide)

theorem add_shift {k u x : Nat} (hk : k ≤ 9) (hu : u < 2 ^ (7 * k)) (hx : x < 128) (h9 : k = 9 → x ≤ 1) :
    IntKind.u64.wrap ((u : Int) + IntKind.u64.wrap ((x : Int) * 2 ^ (7 * k))) = ((u + x * 2 ^ (7 * k) : Nat) : Int) := by
  have h2 := acc_lt hk hu hx h9
  rw [shl_nat hk hx h9, IntKind.wrap_u64]
  omega
theorem num_odd_s {t : Bs} {a y : Nat} {z : Int} (hF : numAt t a = (unzig y, z, 0)) (ho : (y : Int) % 2 = 1) :
    Ending.returned (.agg #[.int .i64 (-((y : Int) / 2) - 1), .int .i64 z, .int .i64 0]) = .returned (.agg #[.int .i64 (numAt t a).1, .int .i64 (numAt t a).2.1, .int .i64 (numAt t a).2.2]) := by
  rw [hF]
  unfold unzig
  rw [if_pos (by omega), show ((y : Int) / 2) = ((y / 2 : Nat) : Int) by omega]

end Go.Proofs.YtffbcikfjdllcaaGreatDoor
