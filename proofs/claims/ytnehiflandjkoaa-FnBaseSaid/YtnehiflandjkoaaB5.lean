import Derived.Test.YtnehiflandjkoaaB4
set_option linter.unusedSimpArgs false
set_option linter.unusedVariables false
namespace Go.Proofs.Ytnehiflandjkoaa
open Go.RowKit M

theorem getNum_long {t : Bs} {a : Int} (h : 8000 < t.length) : getNum t a = (0, 0, 2) := by unfold getNum; rw [if_pos h]
theorem getNum_neg {t : Bs} {a : Int} (h : ¬ 8000 < t.length) (ha : a < 0) : getNum t a = (0, 0, 1) := by unfold getNum; rw [if_neg h, if_pos ha]
theorem getNum_at {t : Bs} {a : Int} (h : ¬ 8000 < t.length) (ha : ¬ a < 0) : getNum t a = numAt t a.toNat := by unfold getNum; rw [if_neg h, if_neg ha]
theorem numAt_end {t : Bs} {a : Nat} (h : t.length ≤ a) : numAt t a = (0, 0, 4) := numAt_bad (gnum_end h) (by decide)

theorem getNum_i (s : ByteArray) (a : Int) (hs : s.size ≤ maxLen) (w : World) :
    Gives Try.prog 83 #[.string s, .int .i64 a] w (.agg #[.int .i64 (getNum s.data.toList a).1, .int .i64 (getNum s.data.toList a).2.1, .int .i64 (getNum s.data.toList a).2.2]) := by
  unfold Gives
  unfold maxLen at hs
  have hsz := size_data s
  by_cases hl : 8000 < s.size
  · have HG := Lib.hid (getNum_long (t := s.data.toList) (a := a) (by omega))
    have hl' : decide (8000 < s.size) = true := by simpa using hl
    clear hsz
    go_enter Try.func83, Try.ntmps83
    go_wp2_with (go_at_call 55; refine (isLong_i _ _).use.mono ?_; rw [hl']; rintro e w1 ⟨rfl, hb1⟩; obtain ⟨hc1, hf1⟩ := bcell hb1)
    refine bodyPost_ret (v := .agg #[.int .i64 0, .int .i64 0, .int .i64 2]) (by simp [results, Try.results83, go_sem, hc1]) rfl ⟨by rw [HG.out], bset (bset (bset (bthen (bnew _ _) hb1) (Nat.le_refl _) _) (Nat.le_refl _) _) (Nat.le_refl _) _⟩
  · have hl' : decide (8000 < s.size) = false := by simpa using hl
    by_cases ha : a < 0
    · have HG := Lib.hid (getNum_neg (t := s.data.toList) (a := a) (by omega) ha)
      clear hsz
      go_enter Try.func83, Try.ntmps83
      go_wp2_with (go_at_call 55; refine (isLong_i _ _).use.mono ?_; rw [hl']; rintro e w1 ⟨rfl, hb1⟩; obtain ⟨hc1, hf1⟩ := bcell hb1)
      refine bodyPost_ret (v := .agg #[.int .i64 0, .int .i64 0, .int .i64 1]) (by simp [results, Try.results83, go_sem, hc1]) rfl ⟨by rw [HG.out], bset (bset (bset (bthen (bnew _ _) hb1) (Nat.le_refl _) _) (Nat.le_refl _) _) (Nat.le_refl _) _⟩
    · obtain ⟨n, rfl⟩ := Int.eq_ofNat_of_zero_le (by omega : 0 ≤ a)
      have HG0 := Lib.hid (getNum_at (t := s.data.toList) (a := (n : Int)) (by omega) ha)
      rw [Int.toNat_natCast] at HG0
      by_cases hn : s.size ≤ n
      · have HG : Hid (getNum s.data.toList (n : Int) = (0, 0, 4)) := by rw [HG0.out, numAt_end (by omega)]; exact Lib.hid rfl
        have hn' : (s.size : Int) ≤ n := by omega
        clear hsz HG0
        go_enter Try.func83, Try.ntmps83
        go_wp2_with (go_at_call 55; refine (isLong_i _ _).use.mono ?_; rw [hl']; rintro e w1 ⟨rfl, hb1⟩; obtain ⟨hc1, hf1⟩ := bcell hb1)
        refine bodyPost_ret (v := .agg #[.int .i64 0, .int .i64 0, .int .i64 4]) (by simp [results, Try.results83, go_sem, hc1]) rfl ⟨by rw [HG.out], bset (bset (bset (bthen (bnew _ _) hb1) (Nat.le_refl _) _) (Nat.le_refl _) _) (Nat.le_refl _) _⟩
      · have hn' : ¬ (s.size : Int) ≤ n := by omega
        clear hsz ha
        go_enter Try.func83, Try.ntmps83
        go_wp2_with (first
          | (go_at_call 55; refine (isLong_i _ _).use.mono ?_; rw [hl']; rintro e w1 ⟨rfl, hb1⟩; obtain ⟨hc1, hf1⟩ := bcell hb1)
          | (go_at_call 89; refine (getNumAt_i s n (by omega) (by omega) _).use.mono ?_; rintro e w2 ⟨rfl, hb2⟩; obtain ⟨hc2, hf2⟩ := bcell (bthen hb1 hb2)))
        refine bodyPost_ret (v := .agg #[.int .i64 (numAt s.data.toList n).1, .int .i64 (numAt s.data.toList n).2.1, .int .i64 (numAt s.data.toList n).2.2]) (by simp [results, Try.results83, go_sem, hc2]) rfl ⟨by rw [HG0.out], bset (bset (bset (bthen (bnew _ _) (bthen hb1 hb2)) (Nat.le_refl _) _) (Nat.le_refl _) _) (Nat.le_refl _) _⟩

theorem add_shift {k u x : Nat} (hk : k ≤ 9) (hu : u < 2 ^ (7 * k)) (hx : x < 128) (h9 : k = 9 → x ≤ 1) :
    IntKind.u64.wrap ((u : Int) + IntKind.u64.wrap ((x : Int) * 2 ^ (7 * k))) = ((u + x * 2 ^ (7 * k) : Nat) : Int) := by
  have h2 := acc_lt hk hu hx h9
  rw [shl_nat hk hx h9, IntKind.wrap_u64]
  omega
theorem num_odd_s {t : Bs} {a y : Nat} {z : Int} (hF : numAt t a = (unzig y, z, 0)) (ho : (y : Int) % 2 = 1) :
    Ending.returned (.agg #[.int .i64 (-((y : Int) / 2) - 1), .int .i64 z, .int .i64 0]) = .returned (.agg #[.int .i64 (numAt t a).1, .int .i64 (numAt t a).2.1, .int .i64 (numAt t a).2.2]) := by
  rw [hF]
  unfold unzig
  rw [if_pos (by omega), show ((y : Int) / 2) = ((y / 2 : Nat) : Int) by omega]

set_option maxRecDepth 100000 in
set_option maxHeartbeats 2000000 in
theorem getNumAt_s (s : ByteArray) (a : Nat) (ha : (a : Int) ≤ 9223372036854775807) (hs : s.size ≤ 8000) (w : World) :
    Gives Try.prog 80 #[.string s, .int .i64 a] w (.agg #[.int .i64 (numAt s.data.toList a).1, .int .i64 (numAt s.data.toList a).2.1, .int .i64 (numAt s.data.toList a).2.2]) := by
  unfold Gives
  have hsz := size_data s
  have hsz' := Lib.hid hsz
  have hs' : ¬ (8000 : Int) < s.size := by omega
  clear hsz
  go_enter Try.func80, Try.ntmps80
  go_wp2
  go_loopw [5, 6] (fun x i wr => ∃ (k u : Nat), k ≤ 9 ∧ i = .int .i64 k ∧ x = .int .u64 u ∧ u < 2 ^ (7 * k) ∧ Hid (gnum (10 - k) (s.data.toList.drop (a + k)) k u = gnum 10 (s.data.toList.drop a) 0 0) ∧ wr = w.alloc (.cells #[.int .i64 0, .int .i64 0, .int .i64 0] 104)) (fun _ i _ => 10 - (intOf i).toNat)
  case atStart => exact ⟨0, 0, by omega, rfl, rfl, by omega, Lib.hid rfl, rfl⟩
  case round =>
    obtain ⟨k, u, hk, rfl, rfl, hu, HG, rfl⟩ := hrel
    have hk10 : (k : Int) < 10 := by omega
    by_cases hin : a + k < s.size
    · have hG := HG.out
      rw [show 10 - k = (9 - k) + 1 by omega, gnum_at (by rw [hsz'.out]; exact hin)] at hG
      have hbyte : s.data.toList[a + k]'(by rw [hsz'.out]; exact hin) = s[a + k] := rfl
      rw [hbyte] at hG
      have hG' := Lib.hid hG
      clear hG hbyte HG
      have hI0 : (0 : Int) ≤ (a : Int) + (k : Int) := by omega
      have hI1 : (a : Int) + (k : Int) < (s.size : Int) := by omega
      have hb : s[a + k].toNat < 256 := s[a + k].toNat_lt
      generalize hbq : s[a + k] = b at *
      by_cases h9 : k = 9 ∧ 1 < b.toNat
      · have HR : Hid (gnum 10 (s.data.toList.drop a) 0 0 = (0, 0, 3)) := by have h := hG'.out; rw [if_pos h9] at h; exact Lib.hid h.symm
        obtain ⟨rfl, h1⟩ := h9
        clear hG'
        go_wp2
        refine bodyPost_ret (v := .agg #[.int .i64 0, .int .i64 0, .int .i64 3]) (by simp [results, Try.results80, go_sem]) rfl ⟨by rw [numAt_bad HR.out (by decide)], bnew _ _⟩
      · by_cases h128 : 128 ≤ b.toNat
        · have HR := hG'.out
          rw [if_neg h9, if_pos h128] at HR
          have HR' := Lib.hid HR
          have hk9 : ((k : Int) == 9) = false := by simp; omega
          have hk8 : k ≤ 8 := by omega
          have hO := Lib.hid (add_shift (k := k) (u := u) (x := b.toNat % 128) hk hu (by omega) (by omega))
          have hp7 := Lib.hid (pow7 (b := b.toNat % 128) hu (by omega))
          clear hG' h9 HR
          go_wp2
          refine ⟨⟨k + 1, u + b.toNat % 128 * 2 ^ (7 * k), by omega, by go_num, ?_, hp7.out, Lib.hid ?_, trivial⟩, by simp [intOf]; omega⟩
          · have h := hO.out
            rw [show (((b.toNat % 128 : Nat)) : Int) = (b.toNat : Int) % 128 by omega] at h
            rw [h]
          · rw [show 10 - (k + 1) = 9 - k by omega, ← Nat.add_assoc]; exact HR'.out
        · by_cases h0 : b.toNat = 0 ∧ 0 < k
          · have HR : Hid (gnum 10 (s.data.toList.drop a) 0 0 = (0, 0, 3)) := by have h := hG'.out; rw [if_neg h9, if_neg h128, if_pos h0] at h; exact Lib.hid h.symm
            obtain ⟨hb0, hk0⟩ := h0
            have hb0' : (b.toNat : Int) = 0 := by omega
            clear hG' h9 h128 hb0
            by_cases hk9 : k = 9
            · subst hk9
              go_wp2
              refine bodyPost_ret (v := .agg #[.int .i64 0, .int .i64 0, .int .i64 3]) (by simp [results, Try.results80, go_sem]) rfl ⟨by rw [numAt_bad HR.out (by decide)], bnew _ _⟩
            · have hk9' : ((k : Int) == 9) = false := by simp; omega
              go_wp2
              refine bodyPost_ret (v := .agg #[.int .i64 0, .int .i64 0, .int .i64 3]) (by simp [results, Try.results80, go_sem]) rfl ⟨by rw [numAt_bad HR.out (by decide)], bnew _ _⟩
          · have HR := hG'.out
            rw [if_neg h9, if_neg h128, if_neg h0] at HR
            have hO := add_shift (k := k) (u := u) (x := b.toNat % 128) hk hu (by omega) (by omega)
            have hL := acc_lt (k := k) (u := u) (x := b.toNat % 128) hk hu (by omega) (by omega)
            rw [show (((b.toNat % 128 : Nat)) : Int) = (b.toNat : Int) % 128 by omega] at hO
            have fin : ∀ (y : Nat), gnum 10 (s.data.toList.drop a) 0 0 = (unzig y, k + 1, 0) → (numAt s.data.toList a = (unzig y, (((a : Int) + k) + 1), 0)) := fun y h => by rw [numAt_ok h]; simp [Int.add_assoc]
            have hF := Lib.hid (fin _ HR.symm)
            clear fin hG' HR
            by_cases hk9 : k = 9
            · subst hk9
              have hb1 : b.toNat = 1 := by omega
              have hO9 : IntKind.u64.wrap ((u : Int) + 9223372036854775808) = ((u + b.toNat % 128 * 2 ^ (7 * 9) : Nat) : Int) := by
                rw [← hO, hb1]; rfl
              have hbI : (b.toNat : Int) = 1 := by omega
              generalize u + b.toNat % 128 * 2 ^ (7 * 9) = y at *
              clear hO h9 h128 h0 hb1
              by_cases hodd : (y : Int) % 2 = 1
              · go_wp2
                refine bodyPost_ret (v := .agg #[.int .i64 (-((y : Int) / 2) - 1), .int .i64 ((a : Int) + 9 + 1), .int .i64 0]) (by simp [results, Try.results80, go_sem]) rfl ⟨num_odd_s hF.out hodd, bnew _ _⟩
              · have hodd' : ((y : Int) % 2 == 1) = false := by simpa using hodd
                have hE := Lib.hid (num_even hF.out hodd)
                have hy2 : (y : Int) / 2 ≤ 9223372036854775807 := by omega
                have hy0 : (0 : Int) ≤ (y : Int) / 2 := by omega
                clear hodd hF hb hk hu hk10
                go_wp2
                refine bodyPost_ret (v := .agg #[.int .i64 ((y : Int) / 2), .int .i64 ((a : Int) + 9 + 1), .int .i64 0]) (by simp [results, Try.results80, go_sem]) rfl ⟨hE.out, bnew _ _⟩
            · have hk9' : ((k : Int) == 9) = false := by simp; omega
              by_cases hb0 : b.toNat = 0
              · obtain rfl : k = 0 := by omega
                obtain rfl : u = 0 := by omega
                have hbI : (b.toNat : Int) = 0 := by omega
                rw [hb0] at hF
                have hin' : a < s.size := hin
                have hbq' : s[a] = b := hbq
                clear hO h9 h128 h0 hL hbq
                go_wp2
                refine bodyPost_ret (v := .agg #[.int .i64 0, .int .i64 ((a : Int) + 1), .int .i64 0]) (by simp [results, Try.results80, go_sem]) rfl ⟨num_even (y := 0) (z := (a : Int) + 1) hF.out (by decide), bnew _ _⟩
              · have hbI : ((b.toNat : Int) == 0) = false := by simp; omega
                generalize u + b.toNat % 128 * 2 ^ (7 * k) = y at *
                clear h9 h0
                by_cases hodd : (y : Int) % 2 = 1
                · go_wp2
                  refine bodyPost_ret (v := .agg #[.int .i64 (-((y : Int) / 2) - 1), .int .i64 ((a : Int) + k + 1), .int .i64 0]) (by simp [results, Try.results80, go_sem]) rfl ⟨num_odd_s hF.out hodd, bnew _ _⟩
                · have hodd' : ((y : Int) % 2 == 1) = false := by simpa using hodd
                  go_wp2
                  refine bodyPost_ret (v := .agg #[.int .i64 ((y : Int) / 2), .int .i64 ((a : Int) + k + 1), .int .i64 0]) (by simp [results, Try.results80, go_sem]) rfl ⟨num_even hF.out hodd, bnew _ _⟩
    · have HR : Hid (gnum 10 (s.data.toList.drop a) 0 0 = (0, 0, 4)) := by
        have h := HG.out
        rw [show 10 - k = (9 - k) + 1 by omega, gnum_end (by rw [hsz'.out]; omega)] at h
        exact Lib.hid h.symm
      have hI : (s.size : Int) - (k : Int) ≤ (a : Int) := by omega
      clear HG
      go_wp2
      refine bodyPost_ret (v := .agg #[.int .i64 0, .int .i64 0, .int .i64 4]) (by simp [results, Try.results80, go_sem]) rfl ⟨by rw [numAt_bad HR.out (by decide)], bnew _ _⟩
theorem getNum_s (s : ByteArray) (a : Int) (hmx : a ≤ 9223372036854775807) (hs : s.size ≤ maxLen) (w : World) :
    Gives Try.prog 80 #[.string s, .int .i64 a] w (.agg #[.int .i64 (getNum s.data.toList a).1, .int .i64 (getNum s.data.toList a).2.1, .int .i64 (getNum s.data.toList a).2.2]) := by
  have hsz := size_data s
  by_cases hl : 8000 < s.size
  · have HG := Lib.hid (getNum_long (t := s.data.toList) (a := a) (by omega))
    have hl' : (8000 : Int) < s.size := by omega
    clear hsz
    unfold Gives
    go_enter Try.func80, Try.ntmps80
    go_wp2
    refine bodyPost_ret (v := .agg #[.int .i64 0, .int .i64 0, .int .i64 2]) (by simp [results, Try.results80, go_sem]) rfl ⟨by rw [HG.out], bnew _ _⟩
  · by_cases ha : a < 0
    · have HG := Lib.hid (getNum_neg (t := s.data.toList) (a := a) (by omega) ha)
      have hl' : ¬ (8000 : Int) < s.size := by omega
      clear hsz
      unfold Gives
      go_enter Try.func80, Try.ntmps80
      go_wp2
      refine bodyPost_ret (v := .agg #[.int .i64 0, .int .i64 0, .int .i64 1]) (by simp [results, Try.results80, go_sem]) rfl ⟨by rw [HG.out], bnew _ _⟩
    · obtain ⟨n, rfl⟩ := Int.eq_ofNat_of_zero_le (by omega : 0 ≤ a)
      have HG0 := getNum_at (t := s.data.toList) (a := (n : Int)) (by omega) ha
      rw [Int.toNat_natCast] at HG0
      rw [HG0]
      exact getNumAt_s s n hmx (by omega) w
end Go.Proofs.Ytnehiflandjkoaa
