import Derived.Test.YtnehiflandjkoaaB6
set_option linter.unusedSimpArgs false
set_option linter.unusedVariables false
namespace Go.Proofs.Ytnehiflandjkoaa
open Go.RowKit M

theorem unseal_long {t : Bs} (h : 8000 < t.length) : unseal_ t = ([], 0, 2) := by unfold unseal_; rw [if_pos h]
theorem unseal_short {t : Bs} (h : t.length < 4) : unseal_ t = ([], 0, 4) := by unfold unseal_; rw [if_neg (by omega), if_pos h]
theorem unseal_mid {t : Bs} (h : ¬ 8000 < t.length) (h4 : ¬ t.length < 4) : unseal_ t = if crcFour (t.take (t.length - 4)) = t.drop (t.length - 4) then (t.take (t.length - 4), 0, 0) else ([], 0, 5) := by unfold unseal_; rw [if_neg h, if_neg h4]
theorem beq_bs (a b : Bs) : ((bs a).toList == (bs b).toList) = decide (a = b) := by
  rw [str_beq, decide_eq_decide, bs_inj]

set_option maxRecDepth 100000 in
set_option maxHeartbeats 1000000 in
theorem unseal_i (s : ByteArray) (hs : s.size ≤ maxLen) (w : World) :
    Gives Try.prog 53 #[.string s] w (encTO (unseal_ s.data.toList)) := by
  unfold Gives
  have hsz := size_data s
  by_cases hl : 8000 < s.size
  · have HR := Lib.hid (unseal_long (t := s.data.toList) (by omega))
    have hCall : ∀ w, Gives Try.prog 55 #[.string s] w (.bool true) := fun w => by have h := isLong_i s w; rwa [show decide (8000 < s.size) = true by simpa using hl] at h
    clear hsz hs
    go_enter Try.func53, Try.ntmps53
    go_wp2_with (go_at_call 55; refine (hCall _).use.mono ?_; rintro e w1 ⟨rfl, hb1⟩; obtain ⟨hc1, hf1, hs1⟩ := bcell1 hb1)
    refine bodyPost_ret (v := .agg #[.string ⟨#[]⟩, .int .i64 0, .int .i64 2]) (by simp [results, Try.results53, go_sem, hc1, hs1]) rfl ⟨by rw [HR.out]; rfl, ?_⟩
    (repeat (first | (with_reducible refine bset ?_ (by first | (simp; done) | (simp; omega)) _) | (with_reducible refine balloc ?_ _) | (with_reducible refine bdrew ?_) | with_reducible exact Below.refl _ _ | (refine bthen ?_ (by with_reducible assumption)) | (refine bthen ?_ (by assumption)) | exact Below.refl _ _))
  · have hCall : ∀ w, Gives Try.prog 55 #[.string s] w (.bool false) := fun w => by have h := isLong_i s w; rwa [show decide (8000 < s.size) = false by simpa using hl] at h
    by_cases h4 : s.size < 4
    · have HR := Lib.hid (unseal_short (t := s.data.toList) (by omega))
      have h4' : (s.size : Int) - 4 < 0 := by omega
      clear hsz hs
      go_enter Try.func53, Try.ntmps53
      go_wp2_with (go_at_call 55; refine (hCall _).use.mono ?_; rintro e w1 ⟨rfl, hb1⟩; obtain ⟨hc1, hf1, hs1⟩ := bcell1 hb1)
      refine bodyPost_ret (v := .agg #[.string ⟨#[]⟩, .int .i64 0, .int .i64 4]) (by simp [results, Try.results53, go_sem, hc1, hs1]) rfl ⟨by rw [HR.out]; rfl, ?_⟩
      (repeat (first | (with_reducible refine bset ?_ (by first | (simp; done) | (simp; omega)) _) | (with_reducible refine balloc ?_ _) | (with_reducible refine bdrew ?_) | with_reducible exact Below.refl _ _ | (refine bthen ?_ (by with_reducible assumption)) | (refine bthen ?_ (by assumption)) | exact Below.refl _ _))
    · have HR := unseal_mid (t := s.data.toList) (by omega) (by omega)
      rw [hsz] at HR
      obtain ⟨n, hn⟩ : ∃ n, s.size = n + 4 := ⟨s.size - 4, by omega⟩
      have hn' : (s.size : Int) - 4 = n := by omega
      rw [show s.size - 4 = n by omega] at HR
      have hx1 : s.extract 0 n = bs (s.data.toList.take n) := by rw [extract_bs, Nat.sub_zero, List.drop_zero]
      have hx2 : s.extract n (n + 4) = bs (s.data.toList.drop n) := by rw [extract_bs, List.take_of_length_le (by rw [List.length_drop]; omega)]
      have hd := beq_bs (crcFour (s.data.toList.take n)) (s.data.toList.drop n)
      have hC : ∀ w, Gives Try.prog 78 #[.string (bs (s.data.toList.take n))] w (.string (bs (crcFour (s.data.toList.take n)))) := fun w => sumOf_i _ (by rw [size_bs, List.length_take]; unfold maxLen at *; omega) w
      by_cases hc : crcFour (s.data.toList.take n) = s.data.toList.drop n
      · rw [if_pos hc] at HR
        have HR := Lib.hid HR
        rw [decide_eq_true hc] at hd
        clear hc hsz hs
        go_enter Try.func53, Try.ntmps53
        go_wp2_with (go_at_call 55; refine (hCall _).use.mono ?_; rintro e w1 ⟨rfl, hb1⟩; obtain ⟨hc1, hf1, hs1⟩ := bcell1 hb1)
        refine wp_region_later (by kernel_rfl) (by kernel_rfl) ?_
        repeat (go_big_quiet_step ((go_at_call 78; exact Gives.later _ (hC _))))
        refine wpQuiet_nil ?_
        rintro _ ⟨x, rfl⟩
        have hx := x.ok
        obtain ⟨hcx, hfx⟩ := bcell hx
        go_wp2
        refine bodyPost_ret (v := .agg #[.string (bs (s.data.toList.take n)), .int .i64 0, .int .i64 0]) (by simp [results, Try.results53, go_sem, hc1, hcx, hs1]) rfl ⟨by rw [HR.out]; rfl, ?_⟩
        (repeat (first | (with_reducible refine bset ?_ (by first | (simp; done) | (simp; omega)) _) | (with_reducible refine balloc ?_ _) | (with_reducible refine bdrew ?_) | with_reducible exact Below.refl _ _ | (refine bthen ?_ (by with_reducible assumption)) | (refine bthen ?_ (by assumption)) | exact Below.refl _ _))
      · rw [if_neg hc] at HR
        have HR := Lib.hid HR
        rw [decide_eq_false hc] at hd
        clear hc hsz hs
        go_enter Try.func53, Try.ntmps53
        go_wp2_with (go_at_call 55; refine (hCall _).use.mono ?_; rintro e w1 ⟨rfl, hb1⟩; obtain ⟨hc1, hf1, hs1⟩ := bcell1 hb1)
        refine wp_region_later (by kernel_rfl) (by kernel_rfl) ?_
        repeat (go_big_quiet_step ((go_at_call 78; exact Gives.later _ (hC _))))
        refine wpQuiet_nil ?_
        rintro _ ⟨x, rfl⟩
        have hx := x.ok
        obtain ⟨hcx, hfx⟩ := bcell hx
        go_wp2
        refine bodyPost_ret (v := .agg #[.string ⟨#[]⟩, .int .i64 0, .int .i64 5]) (by simp [results, Try.results53, go_sem, hc1, hcx, hs1]) rfl ⟨by rw [HR.out]; rfl, ?_⟩
        (repeat (first | (with_reducible refine bset ?_ (by first | (simp; done) | (simp; omega)) _) | (with_reducible refine balloc ?_ _) | (with_reducible refine bdrew ?_) | with_reducible exact Below.refl _ _ | (refine bthen ?_ (by with_reducible assumption)) | (refine bthen ?_ (by assumption)) | exact Below.refl _ _))

set_option maxRecDepth 100000 in
set_option maxHeartbeats 1000000 in
theorem unseal_s (s : ByteArray) (hs : s.size ≤ maxLen) (w : World) :
    Gives Try.prog 44 #[.string s] w (encTO (unseal_ s.data.toList)) := by
  unfold Gives
  have hsz := size_data s
  by_cases hl : 8000 < s.size
  · have HR := Lib.hid (unseal_long (t := s.data.toList) (by omega))
    have hl' : (8000 : Int) < s.size := by omega
    clear hsz hs
    go_enter Try.func44, Try.ntmps44
    go_wp2
    refine bodyPost_ret (v := .agg #[.string ⟨#[]⟩, .int .i64 0, .int .i64 2]) (by simp [results, Try.results44, go_sem]) rfl ⟨by rw [HR.out]; rfl, ?_⟩
    (repeat (first | (with_reducible refine bset ?_ (by first | (simp; done) | (simp; omega)) _) | (with_reducible refine balloc ?_ _) | (with_reducible refine bdrew ?_) | with_reducible exact Below.refl _ _ | (refine bthen ?_ (by with_reducible assumption)) | (refine bthen ?_ (by assumption)) | exact Below.refl _ _))
  · have hl' : ¬ (8000 : Int) < s.size := by omega
    by_cases h4 : s.size < 4
    · have HR := Lib.hid (unseal_short (t := s.data.toList) (by omega))
      have h4' : (s.size : Int) < 4 := by omega
      clear hsz hs
      go_enter Try.func44, Try.ntmps44
      go_wp2
      refine bodyPost_ret (v := .agg #[.string ⟨#[]⟩, .int .i64 0, .int .i64 4]) (by simp [results, Try.results44, go_sem]) rfl ⟨by rw [HR.out]; rfl, ?_⟩
      (repeat (first | (with_reducible refine bset ?_ (by first | (simp; done) | (simp; omega)) _) | (with_reducible refine balloc ?_ _) | (with_reducible refine bdrew ?_) | with_reducible exact Below.refl _ _ | (refine bthen ?_ (by with_reducible assumption)) | (refine bthen ?_ (by assumption)) | exact Below.refl _ _))
    · have HR := unseal_mid (t := s.data.toList) (by omega) (by omega)
      rw [hsz] at HR
      obtain ⟨n, hn⟩ : ∃ n, s.size = n + 4 := ⟨s.size - 4, by omega⟩
      have hn' : (s.size : Int) - 4 = n := by omega
      have hn4 : ¬ (n : Int) + 4 < 4 := by omega
      rw [show s.size - 4 = n by omega] at HR
      have hx1 : s.extract 0 n = bs (s.data.toList.take n) := by rw [extract_bs, Nat.sub_zero, List.drop_zero]
      have hx2 : s.extract n (n + 4) = bs (s.data.toList.drop n) := by rw [extract_bs, List.take_of_length_le (by rw [List.length_drop]; omega)]
      have hd := beq_bs (crcFour (s.data.toList.take n)) (s.data.toList.drop n)
      have hC : ∀ w, Gives Try.prog 79 #[.int .i64 0, .string (bs (s.data.toList.take n))] w (.int .i64 (crcMore 0 (s.data.toList.take n))) := fun w => crc_s 0 (by omega) _ _ (by rw [size_bs, List.length_take]; unfold maxLen at *; omega)
      have hC2 : ∀ w, Gives Try.prog 51 #[.int .i64 (crcMore 0 (s.data.toList.take n))] w (.string (bs (crcFour (s.data.toList.take n)))) := fun w => four_s _ _
      have hp : (n : Int) ≤ (n : Int) + 4 := by omega
      by_cases hc : crcFour (s.data.toList.take n) = s.data.toList.drop n
      · rw [if_pos hc] at HR
        have HR := Lib.hid HR
        rw [decide_eq_true hc] at hd
        clear hc hsz hs
        go_enter Try.func44, Try.ntmps44
        go_wp2
        refine wp_region_later (by kernel_rfl) (by kernel_rfl) ?_
        repeat (go_big_quiet_step (first
          | (go_at_call 79; exact Gives.later _ (hC _))
          | (go_at_call 51; exact Gives.later _ (hC2 _))))
        refine wpQuiet_nil ?_
        rintro _ ⟨x, rfl⟩
        have hx := x.ok
        obtain ⟨hcx, hfx⟩ := bcell hx
        go_wp2
        refine bodyPost_ret (v := .agg #[.string (bs (s.data.toList.take n)), .int .i64 0, .int .i64 0]) (by simp [results, Try.results44, go_sem, hcx]) rfl ⟨by rw [HR.out]; rfl, ?_⟩
        (repeat (first | (with_reducible refine bset ?_ (by first | (simp; done) | (simp; omega)) _) | (with_reducible refine balloc ?_ _) | (with_reducible refine bdrew ?_) | with_reducible exact Below.refl _ _ | (refine bthen ?_ (by with_reducible assumption)) | (refine bthen ?_ (by assumption)) | exact Below.refl _ _))
      · rw [if_neg hc] at HR
        have HR := Lib.hid HR
        rw [decide_eq_false hc] at hd
        clear hc hsz hs
        go_enter Try.func44, Try.ntmps44
        go_wp2
        refine wp_region_later (by kernel_rfl) (by kernel_rfl) ?_
        repeat (go_big_quiet_step (first
          | (go_at_call 79; exact Gives.later _ (hC _))
          | (go_at_call 51; exact Gives.later _ (hC2 _))))
        refine wpQuiet_nil ?_
        rintro _ ⟨x, rfl⟩
        have hx := x.ok
        obtain ⟨hcx, hfx⟩ := bcell hx
        go_wp2
        refine bodyPost_ret (v := .agg #[.string ⟨#[]⟩, .int .i64 0, .int .i64 5]) (by simp [results, Try.results44, go_sem, hcx]) rfl ⟨by rw [HR.out]; rfl, ?_⟩
        (repeat (first | (with_reducible refine bset ?_ (by first | (simp; done) | (simp; omega)) _) | (with_reducible refine balloc ?_ _) | (with_reducible refine bdrew ?_) | with_reducible exact Below.refl _ _ | (refine bthen ?_ (by with_reducible assumption)) | (refine bthen ?_ (by assumption)) | exact Below.refl _ _))
end Go.Proofs.Ytnehiflandjkoaa
