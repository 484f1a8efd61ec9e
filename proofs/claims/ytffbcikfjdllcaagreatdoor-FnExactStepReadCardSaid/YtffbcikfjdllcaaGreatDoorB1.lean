import Derived.Test.YtffbcikfjdllcaaGreatDoorProg
import Derived.Test.YtffbcikfjdllcaaGreatDoorLib
import Derived.Test.YtffbcikfjdllcaaGreatDoorMod
set_option linter.unusedSimpArgs false
set_option linter.unusedVariables false
namespace Go.Proofs.YtffbcikfjdllcaaGreatDoor
open Go.RowKit M

theorem toNat_byte (b : UInt8) : b.toNat < 256 := b.toNat_lt

theorem within_i (n lo hi : Int) (w : World) : Gives Tryz.prog 53 #[.int .i64 n, .int .i64 lo, .int .i64 hi] w (.bool (decide (lo ≤ n) && decide (n ≤ hi))) := by
  unfold Gives
  go_enter Tryz.func53, Tryz.ntmps53
  go_wp2
  all_goals go_ret
  all_goals refine ⟨?_, Below.refl _ _⟩
  all_goals simp [*]
  all_goals omega
theorem is_s (n lo hi : Int) (w : World) : Gives Tryz.prog 59 #[.int .i64 n, .int .i64 lo, .int .i64 hi] w (.bool (decide (lo ≤ n) && decide (n ≤ hi))) := by
  unfold Gives
  go_enter Tryz.func59, Tryz.ntmps59
  go_wp2
  all_goals go_ret
  all_goals refine ⟨?_, Below.refl _ _⟩
  all_goals simp [*]
  all_goals omega

theorem conv_four (w : World) (n : Int) : (convert 33 9 (.slice (some ⟨w.heap.size, 0, none⟩) 4 4)).run Tryz.prog (w.alloc (.cells #[.int .u8 (n % 256), .int .u8 (n / 256 % 256), .int .u8 (n / 65536 % 256), .int .u8 (n / 16777216 % 256)] 5)) =
    .ok (.string (bs (four n))) (w.alloc (.cells #[.int .u8 (n % 256), .int .u8 (n / 256 % 256), .int .u8 (n / 65536 % 256), .int .u8 (n / 16777216 % 256)] 5)) := by
  refine run_convert_bytes_back (P := Tryz.prog) _ 33 9 5 ⟨w.heap.size, 0, none⟩ 4 (four n) Tryz.underlying33 Tryz.underlying5 Tryz.underlying9 ?_
  intro j hj
  have hb : ∀ m : Int, (((UInt8.ofNat (m % 256).toNat).toNat : Nat) : Int) = m % 256 := fun m => by
    rw [UInt8.toNat_ofNat']; omega
  have h4 : j < 4 := hj
  rw [show (⟨w.heap.size, 0, none⟩ : Addr).add j = ⟨w.heap.size, j, none⟩ by unfold Addr.add; split <;> simp_all]
  match j, h4 with
  | 0, _ => simp [World.cell?_alloc_new, four, hb]; omega
  | 1, _ => simp [World.cell?_alloc_new, four, hb]; omega
  | 2, _ => simp [World.cell?_alloc_new, four, hb]; omega
  | 3, _ => simp [World.cell?_alloc_new, four, hb]; omega

theorem crc_and (x : Nat) (h : x < 4294967296) : bits .and .u32 (x : Int) 1 = (x : Int) % 2 := by
  have := u32_and_nat x 1 h (by omega)
  rw [Nat.and_one_is_mod] at this
  rw [show (1 : Int) = ((1 : Nat) : Int) from rfl, this]; omega
theorem crc_poly (x : Nat) (h : x < 4294967296) : bits .xor .u32 ((x : Int) / 2) 3988292384 = ((x / 2 ^^^ 3988292384 : Nat) : Int) := by
  have := u32_xor_nat (x / 2) 3988292384 (by omega) (by omega)
  rw [← this]; rfl
theorem xor_ones (x : Nat) (h : x < 4294967296) : 4294967295 ^^^ x = 4294967295 - x := by
  have h1 : (BitVec.allOnes 32 ^^^ BitVec.ofNat 32 x).toNat = (~~~ BitVec.ofNat 32 x).toNat := by rw [BitVec.allOnes_xor]
  rw [BitVec.toNat_xor, BitVec.toNat_not, BitVec.toNat_allOnes, BitVec.toNat_ofNat, Nat.mod_eq_of_lt h] at h1
  exact h1
theorem crc_not (x : Nat) (h : x < 4294967296) : bits .xor .u32 IntKind.u32.max (x : Int) = ((4294967295 - x : Nat) : Int) := by
  have := u32_xor_nat 4294967295 x (by omega) h
  rw [show IntKind.u32.max = ((4294967295 : Nat) : Int) from rfl, this, xor_ones x h]
theorem crc_not' (x : Nat) (h : x < 4294967296) : bits .xor .u32 (x : Int) 4294967295 = ((4294967295 - x : Nat) : Int) := by
  have := u32_xor_nat x 4294967295 h (by omega)
  rw [show (4294967295 : Int) = ((4294967295 : Nat) : Int) from rfl, this, Nat.xor_comm, xor_ones x h]
theorem crc_byte (x : Nat) (h : x < 4294967296) (b : UInt8) : bits .xor .u32 (x : Int) ((b.toNat : Int) % 4294967296) = ((x ^^^ b.toNat : Nat) : Int) := by
  have hb := b.toNat_lt
  have := u32_xor_nat x b.toNat h (by omega)
  rw [show ((b.toNat : Int) % 4294967296) = ((b.toNat : Nat) : Int) by omega, this]
theorem take_succ_get (s : ByteArray) (k : Nat) (h : k < s.size) : s.data.toList.take (k + 1) = s.data.toList.take k ++ [s[k]] := by
  rw [List.take_succ_eq_append_getElem (by simpa using h)]; rfl

end Go.Proofs.YtffbcikfjdllcaaGreatDoor
