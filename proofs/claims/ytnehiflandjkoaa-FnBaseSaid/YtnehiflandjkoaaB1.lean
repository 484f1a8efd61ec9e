import Derived.Test.YtnehiflandjkoaaProg
import Derived.Test.YtnehiflandjkoaaLib
import Derived.Test.YtnehiflandjkoaaMod
set_option linter.unusedSimpArgs false
set_option linter.unusedVariables false
namespace Go.Proofs.Ytnehiflandjkoaa
open Go.RowKit M

theorem toNat_byte (b : UInt8) : b.toNat < 256 := b.toNat_lt

theorem within_i (n lo hi : Int) (w : World) : Gives Try.prog 65 #[.int .i64 n, .int .i64 lo, .int .i64 hi] w (.bool (decide (lo ≤ n) && decide (n ≤ hi))) := by
  unfold Gives
  go_enter Try.func65, Try.ntmps65
  go_wp2
  all_goals go_ret
  all_goals refine ⟨?_, Below.refl _ _⟩
  all_goals simp [*]
  all_goals omega
theorem is_s (n lo hi : Int) (w : World) : Gives Try.prog 68 #[.int .i64 n, .int .i64 lo, .int .i64 hi] w (.bool (decide (lo ≤ n) && decide (n ≤ hi))) := by
  unfold Gives
  go_enter Try.func68, Try.ntmps68
  go_wp2
  all_goals go_ret
  all_goals refine ⟨?_, Below.refl _ _⟩
  all_goals simp [*]
  all_goals omega

theorem conv_four (w : World) (n : Int) : (convert 22 9 (.slice (some ⟨w.heap.size, 0, none⟩) 4 4)).run Try.prog (w.alloc (.cells #[.int .u8 (n % 256), .int .u8 (n / 256 % 256), .int .u8 (n / 65536 % 256), .int .u8 (n / 16777216 % 256)] 5)) =
    .ok (.string (bs (four n))) (w.alloc (.cells #[.int .u8 (n % 256), .int .u8 (n / 256 % 256), .int .u8 (n / 65536 % 256), .int .u8 (n / 16777216 % 256)] 5)) := by
  refine run_convert_bytes_back (P := Try.prog) _ 22 9 5 ⟨w.heap.size, 0, none⟩ 4 (four n) Try.underlying22 Try.underlying5 Try.underlying9 ?_
  intro j hj
  have hb : ∀ m : Int, (((UInt8.ofNat (m % 256).toNat).toNat : Nat) : Int) = m % 256 := fun m => by
    rw [UInt8.toNat_ofNat']; omega
  have h4 : j < 4 := hj
  rw [show (⟨w.heap.size, 0, none⟩ : Addr).add j = ⟨w.heap.size, j, none⟩ by unfold Addr.add; split <;> simp_all]
  match j, h4 with
  | 0, _ => simp [World.cell?_alloc_new, four, hb]; omega
  | 1, _ => simp [World.cell?_alloc_new, four, hb]; omega
  | 2, _ => simp [World.cell?_alloc_new, four, hb]; omega
  | 3, _ => simp [World.cell?_alloc_new, four, hb]; omega

set_option maxRecDepth 100000 in
theorem four_i (n : Int) (w : World) : Gives Try.prog 41 #[.int .i64 n] w (.string (bs (four n))) := by
  unfold Gives
  have hc := conv_four w n
  go_enter Try.func41, Try.ntmps41
  go_wp2
  go_ret
  exact ⟨rfl, (Below.refl _ _).alloc (Nat.le_refl _) _⟩
set_option maxRecDepth 100000 in
theorem four_s (n : Int) (w : World) : Gives Try.prog 51 #[.int .i64 n] w (.string (bs (four n))) := by
  unfold Gives
  have hc := conv_four w n
  go_enter Try.func51, Try.ntmps51
  go_wp2
  go_ret
  exact ⟨rfl, (Below.refl _ _).alloc (Nat.le_refl _) _⟩

theorem crc_and (x : Nat) (h : x < 4294967296) : bits .and .u32 (x : Int) 1 = (x : Int) % 2 := by
  have := u32_and_nat x 1 h (by omega)
  rw [Nat.and_one_is_mod] at this
  rw [show (1 : Int) = ((1 : Nat) : Int) from rfl, this]; omega
theorem crc_poly (x : Nat) (h : x < 4294967296) : bits .xor .u32 ((x : Int) / 2) 3988292384 = ((x / 2 ^^^ 3988292384 : Nat) : Int) := by
  have := u32_xor_nat (x / 2) 3988292384 (by omega) (by omega)
  rw [← this]; rfl
theorem xor_ones (x : Nat) (h : x < 4294967296) : 4294967295 ^^^ x = 4294967295 - x := by
  have h1 : (BitVec.allOnes 32 ^^^ BitVec.ofNat 32 x).toNat = (~~~ BitVec.ofNat 32 x).toNat := by rw [BitVec.allOnes_xor]
  rw [BitVec.toNat_xor, BitVec.toNat_not, BitVec.toNat_allOnes, BitVec.toNat_ofNat, Nat.mod_eq_of_lt h] at h1
  exact h1
theorem crc_not (x : Nat) (h : x < 4294967296) : bits .xor .u32 IntKind.u32.max (x : Int) = ((4294967295 - x : Nat) : Int) := by
  have := u32_xor_nat 4294967295 x (by omega) h
  rw [show IntKind.u32.max = ((4294967295 : Nat) : Int) from rfl, this, xor_ones x h]
theorem crc_not' (x : Nat) (h : x < 4294967296) : bits .xor .u32 (x : Int) 4294967295 = ((4294967295 - x : Nat) : Int) := by
  have := u32_xor_nat x 4294967295 h (by omega)
  rw [show (4294967295 : Int) = ((4294967295 : Nat) : Int) from rfl, this, Nat.xor_comm, xor_ones x h]
theorem crc_byte (x : Nat) (h : x < 4294967296) (b : UInt8) : bits .xor .u32 (x : Int) ((b.toNat : Int) % 4294967296) = ((x ^^^ b.toNat : Nat) : Int) := by
  have hb := b.toNat_lt
  have := u32_xor_nat x b.toNat h (by omega)
  rw [show ((b.toNat : Int) % 4294967296) = ((b.toNat : Nat) : Int) by omega, this]
theorem take_succ_get (s : ByteArray) (k : Nat) (h : k < s.size) : s.data.toList.take (k + 1) = s.data.toList.take k ++ [s[k]] := by
  rw [List.take_succ_eq_append_getElem (by simpa using h)]; rfl

set_option maxHeartbeats 400000 in
theorem sumMore_i (n : Nat) (hn : n < 4294967296) (s : ByteArray) (w : World) (hs : s.size ≤ maxLen) : Gives Try.prog 87 #[.int .i64 n, .string s] w (.int .i64 (crcMore n s.data.toList)) := by
  unfold Gives
  unfold maxLen at hs
  have hsz : s.data.toList.length = s.size := by rw [Array.length_toList]; rfl
  have H0 := Lib.hid (crc_not n hn)
  go_enter Try.func87, Try.ntmps87
  go_wp2
  rw [H0.out]
  go_loop [5, 13] (fun x i => ∃ k : Nat, k ≤ s.size ∧ i = .int .i64 k ∧ ∃ y : Nat, y < 4294967296 ∧ y = crcList (4294967295 - n) (s.data.toList.take k) ∧ x = .int .u32 y) (fun _ i => s.size - (intOf i).toNat)
  case atStart => exact ⟨0, Nat.zero_le _, rfl, 4294967295 - n, by omega, by simp [crcList], rfl⟩
  case round =>
    obtain ⟨k, hk, rfl, y, hy, hyk, rfl⟩ := hrel
    by_cases hlt : k < s.size
    · have HK := Lib.hid hyk
      clear hyk
      have HB := Lib.hid (crc_byte y hy s[k])
      have hts := Lib.hid (take_succ_get s k hlt)
      go_wp2
      rw [HB.out]
      go_loop [5, 22] (fun x i => ∃ j z : Nat, j ≤ 8 ∧ i = .int .i64 j ∧ z < 4294967296 ∧ Hid (z = crcBits j (y ^^^ s[k].toNat)) ∧ x = .int .u32 z) (fun _ i => 8 - (intOf i).toNat)
      case atStart => exact ⟨0, y ^^^ s[k].toNat, by omega, rfl, Nat.xor_lt_two_pow (n := 32) hy (by have := s[k].toNat_lt; omega), Lib.hid rfl, rfl⟩
      case round =>
        obtain ⟨j, z, hj, rfl, hz, HZ, rfl⟩ := hrel
        have ha := crc_and z hz
        have hp := Lib.hid (crc_poly z hz)
        by_cases hlt8 : j < 8
        · by_cases hodd : (z : Int) % 2 = 1
          · have ht : ((z : Int) % 2 == 1) = true := by simpa using hodd
            have hN : z % 2 = 1 := by omega
            have HE : Hid (crcBit z = z / 2 ^^^ 3988292384) := by unfold crcBit; rw [if_pos hN]; exact Lib.hid rfl
            clear hodd hN
            go_wp2
            go_round
            case rel => exact ⟨j + 1, z / 2 ^^^ 3988292384, by omega, by go_num, Nat.xor_lt_two_pow (n := 32) (by omega) (by omega), Lib.hid (by rw [crcBits_succ, ← HZ.out, HE.out]), by rw [hp.out]⟩
            case measure => simp [intOf]; omega
          · have ht : ((z : Int) % 2 == 1) = false := by simpa using hodd
            have hN : ¬ z % 2 = 1 := by omega
            have HE : Hid (crcBit z = z / 2) := by unfold crcBit; rw [if_neg hN]; exact Lib.hid rfl
            clear hodd hN
            go_wp2
            go_round
            case rel => exact ⟨j + 1, z / 2, by omega, by go_num, by omega, Lib.hid (by rw [crcBits_succ, ← HZ.out, HE.out]), by go_num⟩
            case measure => simp [intOf]; omega
        · have h8 : j = 8 := by omega
          subst h8
          clear ha
          go_wp2
          go_round
          case rel => exact ⟨k + 1, by omega, by go_num, z, hz, by rw [hts.out, crcList_snoc, ← HK.out, HZ.out]; rfl, rfl⟩
          case measure => simp [intOf]; omega
    · have HK := Lib.hid hyk
      have hn2 := Lib.hid (crc_not y hy)
      clear hyk
      go_wp2
      go_ret
      refine ⟨?_, Below.refl _ _⟩
      have hkk : s.data.toList.take k = s.data.toList := List.take_of_length_le (by omega)
      show Ending.returned (Value.int IntKind.i64 (wrap64 (bits BinOp.xor IntKind.u32 IntKind.u32.max (y : Int)))) = _
      rw [hn2.out, crcMore, HK.out, hkk]
      have : wrap64 ((4294967295 - crcList (4294967295 - n) s.data.toList : Nat) : Int) = ((4294967295 - crcList (4294967295 - n) s.data.toList : Nat) : Int) := by unfold wrap64; omega
      rw [this]

set_option maxHeartbeats 400000 in
theorem crc_s (n : Nat) (hn : n < 4294967296) (s : ByteArray) (w : World) (hs : s.size ≤ maxLen) : Gives Try.prog 79 #[.int .i64 n, .string s] w (.int .i64 (crcMore n s.data.toList)) := by
  unfold Gives
  unfold maxLen at hs
  have hsz : s.data.toList.length = s.size := by rw [Array.length_toList]; rfl
  have H0 := Lib.hid (crc_not' n hn)
  go_enter Try.func79, Try.ntmps79
  go_wp2
  rw [H0.out]
  go_loop [5, 6] (fun x i => ∃ k : Nat, k ≤ s.size ∧ i = .int .i64 k ∧ ∃ y : Nat, y < 4294967296 ∧ y = crcList (4294967295 - n) (s.data.toList.take k) ∧ x = .int .u32 y) (fun _ i => s.size - (intOf i).toNat)
  case atStart => exact ⟨0, Nat.zero_le _, rfl, 4294967295 - n, by omega, by simp [crcList], rfl⟩
  case round =>
    obtain ⟨k, hk, rfl, y, hy, hyk, rfl⟩ := hrel
    by_cases hlt : k < s.size
    · have HK := Lib.hid hyk
      clear hyk
      have HB := Lib.hid (crc_byte y hy s[k])
      have hts := Lib.hid (take_succ_get s k hlt)
      go_wp2
      rw [HB.out]
      go_loop [5, 7] (fun x i => ∃ j z : Nat, j ≤ 8 ∧ i = .int .i64 j ∧ z < 4294967296 ∧ Hid (z = crcBits j (y ^^^ s[k].toNat)) ∧ x = .int .u32 z) (fun _ i => 8 - (intOf i).toNat)
      case atStart => exact ⟨0, y ^^^ s[k].toNat, by omega, rfl, Nat.xor_lt_two_pow (n := 32) hy (by have := s[k].toNat_lt; omega), Lib.hid rfl, rfl⟩
      case round =>
        obtain ⟨j, z, hj, rfl, hz, HZ, rfl⟩ := hrel
        have ha := crc_and z hz
        have hp := Lib.hid (crc_poly z hz)
        by_cases hlt8 : j < 8
        · by_cases hodd : (z : Int) % 2 = 1
          · have ht : ((z : Int) % 2 == 1) = true := by simpa using hodd
            have hN : z % 2 = 1 := by omega
            have HE : Hid (crcBit z = z / 2 ^^^ 3988292384) := by unfold crcBit; rw [if_pos hN]; exact Lib.hid rfl
            clear hodd hN
            go_wp2
            go_round
            case rel => exact ⟨j + 1, z / 2 ^^^ 3988292384, by omega, by go_num, Nat.xor_lt_two_pow (n := 32) (by omega) (by omega), Lib.hid (by rw [crcBits_succ, ← HZ.out, HE.out]), by rw [hp.out]⟩
            case measure => simp [intOf]; omega
          · have ht : ((z : Int) % 2 == 1) = false := by simpa using hodd
            have hN : ¬ z % 2 = 1 := by omega
            have HE : Hid (crcBit z = z / 2) := by unfold crcBit; rw [if_neg hN]; exact Lib.hid rfl
            clear hodd hN
            go_wp2
            go_round
            case rel => exact ⟨j + 1, z / 2, by omega, by go_num, by omega, Lib.hid (by rw [crcBits_succ, ← HZ.out, HE.out]), by go_num⟩
            case measure => simp [intOf]; omega
        · have h8 : j = 8 := by omega
          subst h8
          clear ha
          go_wp2
          go_round
          case rel => exact ⟨k + 1, by omega, by go_num, z, hz, by rw [hts.out, crcList_snoc, ← HK.out, HZ.out]; rfl, rfl⟩
          case measure => simp [intOf]; omega
    · have HK := Lib.hid hyk
      have hn2 := Lib.hid (crc_not' y hy)
      clear hyk
      go_wp2
      go_ret
      refine ⟨?_, Below.refl _ _⟩
      have hkk : s.data.toList.take k = s.data.toList := List.take_of_length_le (by omega)
      show Ending.returned (Value.int IntKind.i64 (wrap64 (bits BinOp.xor IntKind.u32 (y : Int) 4294967295))) = _
      rw [hn2.out, crcMore, HK.out, hkk]
      have : wrap64 ((4294967295 - crcList (4294967295 - n) s.data.toList : Nat) : Int) = ((4294967295 - crcList (4294967295 - n) s.data.toList : Nat) : Int) := by unfold wrap64; omega
      rw [this]
end Go.Proofs.Ytnehiflandjkoaa
