import Derived.Test.YtnehiflandjkoaaB3
set_option linter.unusedSimpArgs false
set_option linter.unusedVariables false
namespace Go.Proofs.Ytnehiflandjkoaa
open Go.RowKit M

theorem byte_get (s : ByteArray) (i : Nat) (h : i < s.size) (h' : i < s.data.toList.length) : s.data.toList[i] = s[i] := rfl

theorem pow56 {k : Nat} (h : k ≤ 8) : 2 ^ (7 * k) ≤ 72057594037927936 := by
  have := Nat.pow_le_pow_right (n := 2) (by omega) (show 7 * k ≤ 56 by omega)
  simpa using this
theorem shift_lt {k x : Nat} (hk : k ≤ 9) (hx : x < 128) (h9 : k = 9 → x ≤ 1) : x * 2 ^ (7 * k) < 18446744073709551616 := by
  by_cases h : k ≤ 8
  · have h1 := pow56 h
    have h2 : x * 2 ^ (7 * k) ≤ 127 * 72057594037927936 := Nat.mul_le_mul (by omega) h1
    omega
  · obtain rfl : k = 9 := by omega
    have := h9 rfl
    have h2 : x * 2 ^ (7 * 9) ≤ 1 * 2 ^ (7 * 9) := Nat.mul_le_mul_right _ this
    have h3 : (2 : Nat) ^ (7 * 9) = 9223372036854775808 := by decide
    omega
theorem acc_lt {k u x : Nat} (hk : k ≤ 9) (hu : u < 2 ^ (7 * k)) (hx : x < 128) (h9 : k = 9 → x ≤ 1) : u + x * 2 ^ (7 * k) < 18446744073709551616 := by
  by_cases h : k ≤ 8
  · have h1 := pow56 h
    have h2 : x * 2 ^ (7 * k) ≤ 127 * 72057594037927936 := Nat.mul_le_mul (by omega) h1
    omega
  · obtain rfl : k = 9 := by omega
    have := h9 rfl
    have h2 : x * 2 ^ (7 * 9) ≤ 1 * 2 ^ (7 * 9) := Nat.mul_le_mul_right _ this
    have h3 : (2 : Nat) ^ (7 * 9) = 9223372036854775808 := by decide
    omega
theorem shl_nat {k x : Nat} (hk : k ≤ 9) (hx : x < 128) (h9 : k = 9 → x ≤ 1) : IntKind.u64.wrap ((x : Int) * 2 ^ (7 * k)) = ((x * 2 ^ (7 * k) : Nat) : Int) := by
  have h := shift_lt hk hx h9
  have e : (x : Int) * 2 ^ (7 * k) = ((x * 2 ^ (7 * k) : Nat) : Int) := by simp [Int.natCast_mul, Int.natCast_pow]
  rw [e, IntKind.wrap_u64]
  omega
theorem or_shift {k u x : Nat} (hk : k ≤ 9) (hu : u < 2 ^ (7 * k)) (hx : x < 128) (h9 : k = 9 → x ≤ 1) :
    bits .or .u64 (u : Int) (IntKind.u64.wrap ((x : Int) * 2 ^ (7 * k))) = ((u + x * 2 ^ (7 * k) : Nat) : Int) := by
  have h1 := shift_lt hk hx h9
  have h2 := acc_lt hk hu hx h9
  rw [shl_nat hk hx h9, u64_or_nat _ _ (by omega) h1]
  have h3 := Nat.shiftLeft_add_eq_or_of_lt hu x
  rw [Nat.shiftLeft_eq] at h3
  rw [Nat.or_comm, ← h3, Nat.add_comm]

theorem xor_neg (y : Nat) (h : y < 9223372036854775808) : bits BinOp.xor IntKind.i64 (-1) (y : Int) = -(y : Int) - 1 := by
  have h1 : (BitVec.ofInt 64 (-1) ^^^ BitVec.ofInt 64 (y : Int)).toNat = 18446744073709551615 - y := by
    have e1 : BitVec.ofInt 64 (-1) = BitVec.allOnes 64 := by decide
    have e2 : BitVec.ofInt 64 (y : Int) = BitVec.ofNat 64 y := rfl
    rw [e1, e2, BitVec.allOnes_xor, BitVec.toNat_not, BitVec.toNat_ofNat, Nat.mod_eq_of_lt (by omega)]
  show IntKind.i64.wrap (((BitVec.ofInt 64 (-1) ^^^ BitVec.ofInt 64 (y : Int)).toNat : Nat) : Int) = _
  rw [h1, IntKind.wrap_i64]
  omega

theorem num_odd {t : Bs} {a y : Nat} {z : Int} (hF : numAt t a = (unzig y, z, 0)) (hy : y < 18446744073709551616) (ho : (y : Int) % 2 = 1) :
    Ending.returned (.agg #[.int .i64 (bits BinOp.xor IntKind.i64 (-1) ((y : Int) / 2)), .int .i64 z, .int .i64 0]) = .returned (.agg #[.int .i64 (numAt t a).1, .int .i64 (numAt t a).2.1, .int .i64 (numAt t a).2.2]) := by
  rw [hF, show ((y : Int) / 2) = ((y / 2 : Nat) : Int) by omega, xor_neg _ (by omega)]
  unfold unzig
  rw [if_pos (by omega)]
theorem num_even {t : Bs} {a y : Nat} {z : Int} (hF : numAt t a = (unzig y, z, 0)) (ho : (y : Int) % 2 ≠ 1) :
    Ending.returned (.agg #[.int .i64 ((y : Int) / 2), .int .i64 z, .int .i64 0]) = .returned (.agg #[.int .i64 (numAt t a).1, .int .i64 (numAt t a).2.1, .int .i64 (numAt t a).2.2]) := by
  rw [hF]
  unfold unzig
  rw [if_neg (by omega), show ((y : Int) / 2) = ((y / 2 : Nat) : Int) by omega]

set_option maxRecDepth 100000 in
set_option maxHeartbeats 2000000 in
theorem getNumAt_i (s : ByteArray) (a : Nat) (ha : a ≤ 1000000000) (hs : s.size ≤ 1000000000) (w : World) :
    Gives Try.prog 89 #[.string s, .int .i64 a] w (.agg #[.int .i64 (numAt s.data.toList a).1, .int .i64 (numAt s.data.toList a).2.1, .int .i64 (numAt s.data.toList a).2.2]) := by
  unfold Gives
  have hsz := size_data s
  have hsz' := Lib.hid hsz
  clear hsz
  go_enter Try.func89, Try.ntmps89
  go_wp2
  go_loopw [5, 6] (fun x i wr => ∃ (k u : Nat), k ≤ 9 ∧ i = .int .i64 k ∧ x = .int .u64 u ∧ u < 2 ^ (7 * k) ∧ Hid (gnum (10 - k) (s.data.toList.drop (a + k)) k u = gnum 10 (s.data.toList.drop a) 0 0) ∧ wr = w.alloc (.cells #[.int .i64 0, .int .i64 0, .int .i64 0] 104)) (fun _ i _ => 10 - (intOf i).toNat)
  case atStart => exact ⟨0, 0, by omega, rfl, rfl, by omega, Lib.hid rfl, rfl⟩
  case round =>
    obtain ⟨k, u, hk, rfl, rfl, hu, HG, rfl⟩ := hrel
    by_cases hin : a + k < s.size
    · have hG := HG.out
      rw [show 10 - k = (9 - k) + 1 by omega, gnum_at (by rw [hsz'.out]; exact hin)] at hG
      have hbyte : s.data.toList[a + k]'(by rw [hsz'.out]; exact hin) = s[a + k] := rfl
      rw [hbyte] at hG
      have hG' := Lib.hid hG
      clear hG hbyte HG
      have hI0 : (0 : Int) ≤ (a : Int) + (k : Int) := by omega
      have hI1 : (a : Int) + (k : Int) < (s.size : Int) := by omega
      have hb : s[a + k].toNat < 256 := s[a + k].toNat_lt
      generalize hbq : s[a + k] = b at *
      by_cases h9 : k = 9 ∧ 1 < b.toNat
      · have HR : Hid (gnum 10 (s.data.toList.drop a) 0 0 = (0, 0, 3)) := by have h := hG'.out; rw [if_pos h9] at h; exact Lib.hid h.symm
        obtain ⟨rfl, h1⟩ := h9
        clear hG'
        go_wp2
        refine bodyPost_ret (v := .agg #[.int .i64 0, .int .i64 0, .int .i64 3]) (by simp [results, Try.results89, go_sem]) rfl ⟨by rw [numAt_bad HR.out (by decide)], bnew _ _⟩
      · by_cases h128 : 128 ≤ b.toNat
        · have HR := hG'.out
          rw [if_neg h9, if_pos h128] at HR
          have HR' := Lib.hid HR
          have hk9 : ((k : Int) == 9) = false := by simp; omega
          have hk8 : k ≤ 8 := by omega
          have hO := Lib.hid (or_shift (k := k) (u := u) (x := b.toNat % 128) hk hu (by omega) (by omega))
          have hp7 := Lib.hid (pow7 (b := b.toNat % 128) hu (by omega))
          clear hG' h9 HR
          go_wp2
          refine ⟨⟨k + 1, u + b.toNat % 128 * 2 ^ (7 * k), by omega, by go_num, ?_, hp7.out, Lib.hid ?_, trivial⟩, by simp [intOf]; omega⟩
          · have h := hO.out
            rw [show (((b.toNat % 128 : Nat)) : Int) = (b.toNat : Int) % 128 by omega] at h
            rw [h]
          · rw [show 10 - (k + 1) = 9 - k by omega, ← Nat.add_assoc]; exact HR'.out
        · by_cases h0 : b.toNat = 0 ∧ 0 < k
          · have HR : Hid (gnum 10 (s.data.toList.drop a) 0 0 = (0, 0, 3)) := by have h := hG'.out; rw [if_neg h9, if_neg h128, if_pos h0] at h; exact Lib.hid h.symm
            obtain ⟨hb0, hk0⟩ := h0
            have hb0' : (b.toNat : Int) = 0 := by omega
            clear hG' h9 h128 hb0
            by_cases hk9 : k = 9
            · subst hk9
              go_wp2
              refine bodyPost_ret (v := .agg #[.int .i64 0, .int .i64 0, .int .i64 3]) (by simp [results, Try.results89, go_sem]) rfl ⟨by rw [numAt_bad HR.out (by decide)], bnew _ _⟩
            · have hk9' : ((k : Int) == 9) = false := by simp; omega
              go_wp2
              refine bodyPost_ret (v := .agg #[.int .i64 0, .int .i64 0, .int .i64 3]) (by simp [results, Try.results89, go_sem]) rfl ⟨by rw [numAt_bad HR.out (by decide)], bnew _ _⟩
          · have HR := hG'.out
            rw [if_neg h9, if_neg h128, if_neg h0] at HR
            have hO := or_shift (k := k) (u := u) (x := b.toNat % 128) hk hu (by omega) (by omega)
            have hL := acc_lt (k := k) (u := u) (x := b.toNat % 128) hk hu (by omega) (by omega)
            rw [show (((b.toNat % 128 : Nat)) : Int) = (b.toNat : Int) % 128 by omega] at hO
            have fin : ∀ (y : Nat), gnum 10 (s.data.toList.drop a) 0 0 = (unzig y, k + 1, 0) → (numAt s.data.toList a = (unzig y, (((a : Int) + k) + 1), 0)) := fun y h => by rw [numAt_ok h]; simp [Int.add_assoc]
            have hF := Lib.hid (fin _ HR.symm)
            clear fin hG' HR
            by_cases hk9 : k = 9
            · subst hk9
              have hb1 : b.toNat = 1 := by omega
              have hO9 : bits BinOp.or IntKind.u64 (u : Int) 9223372036854775808 = ((u + b.toNat % 128 * 2 ^ (7 * 9) : Nat) : Int) := by
                rw [← hO, hb1]; rfl
              have hbI : (b.toNat : Int) = 1 := by omega
              generalize u + b.toNat % 128 * 2 ^ (7 * 9) = y at *
              clear hO h9 h128 h0 hb1
              by_cases hodd : (y : Int) % 2 = 1
              · go_wp2
                refine bodyPost_ret (v := .agg #[.int .i64 (bits BinOp.xor IntKind.i64 (-1) ((y : Int) / 2)), .int .i64 ((a : Int) + 9 + 1), .int .i64 0]) (by simp [results, Try.results89, go_sem]) rfl ⟨num_odd hF.out hL hodd, bnew _ _⟩
              · have hodd' : ((y : Int) % 2 == 1) = false := by simpa using hodd
                go_wp2
                refine bodyPost_ret (v := .agg #[.int .i64 ((y : Int) / 2), .int .i64 ((a : Int) + 9 + 1), .int .i64 0]) (by simp [results, Try.results89, go_sem]) rfl ⟨num_even hF.out hodd, bnew _ _⟩
            · have hk9' : ((k : Int) == 9) = false := by simp; omega
              by_cases hb0 : b.toNat = 0
              · obtain rfl : k = 0 := by omega
                obtain rfl : u = 0 := by omega
                have hbI : (b.toNat : Int) = 0 := by omega
                have h00 : bits BinOp.or IntKind.u64 0 0 = 0 := by decide
                rw [hb0] at hF
                have hin' : a < s.size := hin
                have hbq' : s[a] = b := hbq
                clear hO h9 h128 h0 hL hbq
                go_wp2
                refine bodyPost_ret (v := .agg #[.int .i64 0, .int .i64 ((a : Int) + 1), .int .i64 0]) (by simp [results, Try.results89, go_sem]) rfl ⟨num_even (y := 0) (z := (a : Int) + 1) hF.out (by decide), bnew _ _⟩
              · have hbI : ((b.toNat : Int) == 0) = false := by simp; omega
                generalize u + b.toNat % 128 * 2 ^ (7 * k) = y at *
                clear h9 h0
                by_cases hodd : (y : Int) % 2 = 1
                · go_wp2
                  refine bodyPost_ret (v := .agg #[.int .i64 (bits BinOp.xor IntKind.i64 (-1) ((y : Int) / 2)), .int .i64 ((a : Int) + k + 1), .int .i64 0]) (by simp [results, Try.results89, go_sem]) rfl ⟨num_odd hF.out hL hodd, bnew _ _⟩
                · have hodd' : ((y : Int) % 2 == 1) = false := by simpa using hodd
                  go_wp2
                  refine bodyPost_ret (v := .agg #[.int .i64 ((y : Int) / 2), .int .i64 ((a : Int) + k + 1), .int .i64 0]) (by simp [results, Try.results89, go_sem]) rfl ⟨num_even hF.out hodd, bnew _ _⟩
    · have HR : Hid (gnum 10 (s.data.toList.drop a) 0 0 = (0, 0, 4)) := by
        have h := HG.out
        rw [show 10 - k = (9 - k) + 1 by omega, gnum_end (by rw [hsz'.out]; omega)] at h
        exact Lib.hid h.symm
      have hI : ¬ (a : Int) + (k : Int) < (s.size : Int) := by omega
      clear HG
      go_wp2
      refine bodyPost_ret (v := .agg #[.int .i64 0, .int .i64 0, .int .i64 4]) (by simp [results, Try.results89, go_sem]) rfl ⟨by rw [numAt_bad HR.out (by decide)], bnew _ _⟩
end Go.Proofs.Ytnehiflandjkoaa
