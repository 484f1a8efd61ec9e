import Derived.Test.YtnehiflandjkoaaB6
set_option linter.unusedSimpArgs false
set_option linter.unusedVariables false
namespace Go.Proofs.Ytnehiflandjkoaa
open Go.RowKit M

theorem unseal_long {t : Bs} (h : 8000 < t.length) : unseal_ t = ([], 0, 2) := by unfold unseal_; rw [if_pos h]
theorem unseal_short {t : Bs} (h : t.length < 4) : unseal_ t = ([], 0, 4) := by unfold unseal_; rw [if_neg (by omega), if_pos h]
theorem unseal_mid {t : Bs} (h : ¬ 8000 < t.length) (h4 : ¬ t.length < 4) : unseal_ t = if crcFour (t.take (t.length - 4)) = t.drop (t.length - 4) then (t.take (t.length - 4), 0, 0) else ([], 0, 5) := by unfold unseal_; rw [if_neg h, if_neg h4]
theorem beq_bs (a b : Bs) : ((bs a).toList == (bs b).toList) = decide (a = b) := by
  rw [str_beq, decide_eq_decide, bs_inj]

set_option maxRecDepth 100000 in
set_option maxHeartbeats 1000000 in
theorem unseal_i (s : ByteArray) (hs : s.size ≤ maxLen) (w : World) :
    Gives Try.prog 53 #[.string s] w (encTO (unseal_ s.data.toList)) := by
  unfold Gives
  have hsz := size_data s
  by_cases hl : 8000 < s.size
  · have HR := Lib.hid (unseal_long (t := s.data.toList) (by omega))
    have hCall : ∀ w, Gives Try.prog 55 #[.string s] w (.bool true) := fun w => by have h := isLong_i s w; rwa [show decide (8000 < s.size) = true by simpa using hl] at h
    clear hsz hs
    go_enter Try.func53, Try.ntmps53
    go_wp2_with (go_at_call 55; refine (hCall _).use.mono ?_; rintro e w1 ⟨rfl, hb1⟩; obtain ⟨hc1, hf1, hs1⟩ := bcell1 hb1)
    refine bodyPost_ret (v := .agg #[.string ⟨#[]⟩, .int .i64 0, .int .i64 2]) (by simp [results, Try.results53, go_sem, hc1, hs1]) rfl ⟨by rw [HR.out]; rfl, ?_⟩
    (repeat (first | (with_reducible refine bset ?_ (by first | (simp; done) | (simp; omega)) _) | (with_reducible refine balloc ?_ _) | (with_reducible refine bdrew ?_) | with_reducible exact Below.refl _ _ | (refine bthen ?_ (by with_reducible assumption)) | (refine bthen ?_ (by assumption)) | exact Below.refl _ _))
  · have hCall : ∀ w, Gives Try.prog 55 #[.string s] w (.bool false) := fun w => by have h := isLong_i s w; rwa [show decide (8000 < s.size) = false by simpa using hl] at h
    by_cases h4 : s.size < 4
    · have HR := Lib.hid (unseal_short (t := s.data.toList) (by omega))
      have h4' : (s.size : Int) - 4 < 0 := by omega
      clear hsz hs
      go_enter Try.func53, Try.ntmps53
      go_wp2_with (go_at_call 55; refine (hCall _).use.mono ?_; rintro e w1 ⟨rfl, hb1⟩; obtain ⟨hc1, hf1, hs1⟩ := bcell1 hb1)
      refine bodyPost_ret (v := .agg #[.string ⟨#[]⟩, .int .i64 0, .int .i64 4]) (by simp [results, Try.results53, go_sem, hc1, hs1]) rfl ⟨by rw [HR.out]; rfl, ?_⟩
      (repeat (first | (with_reducible refine bset ?_ (by first | (simp; done) | (simp; omega)) _) | (with_reducible refine balloc ?_ _) | (with_reducible refine bdrew ?_) | with_reducible exact Below.refl _ _ | (refine bthen ?_ (by with_reducible assumption)) | (refine bthen ?_ (by assumption)) | exact Below.refl _ _))
    · have HR := unseal_mid (t := s.data.toList) (by omega) (by omega)
      rw [hsz] at HR
      obtain ⟨n, hn⟩ : ∃ n, s.size = n + 4 := ⟨s.size - 4, by omega⟩
      have hn' : (s.size : Int) - 4 = n := by omega
      rw [show s.size - 4 = n by omega] at HR
      have hx1 : s.extract 0 n = bs (s.data.toList.take n) := by rw [extract_bs, Nat.sub_zero, List.drop_zero]
      have hx2 : s.extract n (n + 4) = bs (s.data.toList.drop n) := by rw [extract_bs, List.take_of_length_le (by rw [List.length_drop]; omega)]
      have hd := beq_bs (crcFour (s.data.toList.take n)) (s.data.toList.drop n)
      have hC : ∀ w, Gives Try.prog 78 #[.string (bs (s.data.toList.take n))] w (.string (bs (crcFour (s.data.toList.take n)))) := fun w => sumOf_i _ (by rw [size_bs, List.length_take]; unfold maxLen at *; omega) w
      by_cases hc : crcFour (s.data.toList.take n) = s.data.toList.drop n
      · rw [if_pos hc] at HR
        have HR := Lib.hid HR
        rw [decide_eq_true hc] at hd
        clear hc hsz hs
        go_enter Try.func53, Try.ntmps53
        go_wp2_with (go_at_call 55; refine (hCall _).use.mono ?_; rintro e w1 ⟨rfl, hb1⟩; obtain ⟨hc1, hf1, hs1⟩ := bcell1 hb1)
        refine wp_region_later (by kernel_rfl) (by kernel_rfl) ?_
        repeat (go_big_quiet_step ((go_at_call 78; exact Gives.later _ (hC _))))
        refine wpQuiet_nil ?_
        rintro _ ⟨x, rfl⟩
        have hx := x.ok
        obtain ⟨hcx, hfx⟩ := bcell hx
        go_wp2
        refine bodyPost_ret (v := .agg #[.string (bs (s.data.toList.take n)), .int .i64 0, .int .i64 0]) (by simp [results, Try.results53, go_sem, hc1, hcx, hs1]) rfl ⟨by rw [HR.out]; rfl, ?_⟩
        (repeat (first | (with_reducible refine bset ?_ (by first | (simp; done) | (simp; omega)) _) | (with_reducible refine balloc ?_ _) | (with_reducible refine bdrew ?_) | with_reducible exact Below.refl _ _ | (refine bthen ?_ (by with_reducible assumption)) | (refine bthen ?_ (by assumption)) | exact Below.refl _ _))
      · rw [if_neg hc] at HR
        have HR := Lib.hid HR
        rw [decide_eq_false hc] at hd
        clear hc hsz hs
        go_enter Try.func53, Try.ntmps53
        go_wp2_with (go_at_call 55; refine (hCall _).use.mono ?_; rintro e w1 ⟨rfl, hb1⟩; obtain ⟨hc1, hf1, hs1⟩ := bcell1 hb1)
        refine wp_region_later (by kernel_rfl) (by kernel_rfl) ?_
        repeat (go_big_quiet_step ((go_at_call 78; exact Gives.later _ (hC _))))
        refine wpQuiet_nil ?_
        rintro _ ⟨x, rfl⟩
        have hx := x.ok
        obtain ⟨hcx, hfx⟩ := bcell hx
        go_wp2
        refine bodyPost_ret (v := .agg #[.string ⟨#[]⟩, .int .i64 0, .int .i64 5]) (by simp [results, Try.results53, go_sem, hc1, hcx, hs1]) rfl ⟨by rw [HR.out]; rfl, ?_⟩
        (repeat (first | (with_reducible refine bset ?_ (by first | (simp; done) | (simp; omega)) _) | (with_reducible refine balloc ?_ _) | (with_reducible refine bdrew ?_) | with_reducible exact Below.refl _ _ | (refine bthen ?_ (by with_reducible assumption)) | (refine bthen ?_ (by assumption)) | exact Below.refl _ _))

set_option maxRecDepth 100000 in
set_option maxHeartbeats 1000000 in
theorem unseal_s (s : ByteArray) (hs : s.size ≤ maxLen) (w : World) :
    Gives Try.prog 44 #[.string s] w (encTO (unseal_ s.data.toList)) := by
  unfold Gives
  have hsz := size_data s
  by_cases hl : 8000 < s.size
  · have HR := Lib.hid (unseal_long (t := s.data.toList) (by omega))
    have hl' : (8000 : Int) < s.size := by omega
    clear hsz hs
    go_enter Try.func44, Try.ntmps44
    go_wp2
    refine bodyPost_ret (v := .agg #[.string ⟨#[]⟩, .int .i64 0, .int .i64 2]) (by simp [results, Try.results44, go_sem]) rfl ⟨by rw [HR.out]; rfl, ?_⟩
    (repeat (first | (with_reducible refine bset ?_ (by first | (simp; done) | (simp; omega)) _) | (with_reducible refine balloc ?_ _) | (with_reducible refine bdrew ?_) | with_reducible exact Below.refl _ _ | (refine bthen ?_ (by with_reducible assumption)) | (refine bthen ?_ (by assumption)) | exact Below.refl _ _))
  · have hl' : ¬ (8000 : Int) < s.size := by omega
    by_cases h4 : s.size < 4
    · have HR := Lib.hid (unseal_short (t := s.data.toList) (by omega))
      have h4' : (s.size : Int) < 4 := by omega
      clear hsz hs
      go_enter Try.func44, Try.ntmps44
      go_wp2
      refine bodyPost_ret (v := .agg #[.string ⟨#[]⟩, .int .i64 0, .int .i64 4]) (by simp [results, Try.results44, go_sem]) rfl ⟨by rw [HR.out]; rfl, ?_⟩
      (repeat (first | (with_reducible refine bset ?_ (by first | (simp; done) | (simp; omega)) _) | (with_reducible refine balloc ?_ _) | (with_reducible refine bdrew ?_) | with_reducible exact Below.refl _ _ | (refine bthen ?_ (by with_reducible assumption)) | (refine bthen ?_ (by assumption)) | exact Below.refl _ _))
    · have HR := unseal_mid (t := s.data.toList) (by omega) (by omega)
      rw [hsz] at HR
      obtain ⟨n, hn⟩ : ∃ n, s.size = n + 4 := ⟨s.size - 4, by omega⟩
      have hn' : (s.size : Int) - 4 = n := by omega
      have hn4 : ¬ (n : Int) + 4 < 4 := by omega
      rw [show s.size - 4 = n by omega] at HR
      have hx1 : s.extract 0 n = bs (s.data.toList.take n) := by rw [extract_bs, Nat.sub_zero, List.drop_zero]
      have hx2 : s.extract n (n + 4) = bs (s.data.toList.drop n) := by rw [extract_bs, List.take_of_length_le (by rw [List.length_drop]; omega)]
      have hd := beq_bs (crcFour (s.data.toList.take n)) (s.data.toList.drop n)
      have hC : ∀ w, Gives Try.prog 79 #[.int .i64 0, .string (bs (s.data.toList.take n))] w (.int .i64 (crcMore 0 (s.data.toList.take n))) := fun w => crc_s 0 (by omega) _ _ (by rw [size_bs, List.length_take]; unfold maxLen at *; omega)
      have hC2 : ∀ w, Gives Try.prog 51 #[.int .i64 (crcMore 0 (s.data.toList.take n))] w (.string (bs (crcFour (s.data.toList.take n)))) := fun w => four_s _ _
      have hp : (n : Int) ≤ (n : Int) + 4 := by omega
      by_cases hc : crcFour (s.data.toList.take n) = s.data.toList.drop n
      · rw [if_pos hc] at HR
        have HR := Lib.hid HR
        rw [decide_eq_true hc] at hd
        clear hc hsz hs
        go_enter Try.func44, Try.ntmps44
        go_wp2
        refine wp_region_later (by kernel_rfl) (by kernel_rfl) ?_
        repeat (go_big_quiet_step (first
          | (go_at_call 79; exact Gives.later _ (hC _))
          | (go_at_call 51; exact Gives.later _ (hC2 _))))
        refine wpQuiet_nil ?_
        rintro _ ⟨x, rfl⟩
        have hx := x.ok
        obtain ⟨hcx, hfx⟩ := bcell hx
        go_wp2
        refine bodyPost_ret (v := .agg #[.string (bs (s.data.toList.take n)), .int .i64 0, .int .i64 0]) (by simp [results, Try.results44, go_sem, hcx]) rfl ⟨by rw [HR.out]; rfl, ?_⟩
        (repeat (first | (with_reducible refine bset ?_ (by first | (simp; done) | (simp; omega)) _) | (with_reducible refine balloc ?_ _) | (with_reducible refine bdrew ?_) | with_reducible exact Below.refl _ _ | (refine bthen ?_ (by with_reducible assumption)) | (refine bthen ?_ (by assumption)) | exact Below.refl _ _))
      · rw [if_neg hc] at HR
        have HR := Lib.hid HR
        rw [decide_eq_false hc] at hd
        clear hc hsz hs
        go_enter Try.func44, Try.ntmps44
        go_wp2
        refine wp_region_later (by kernel_rfl) (by kernel_rfl) ?_
        repeat (go_big_quiet_step (first
          | (go_at_call 79; exact Gives.later _ (hC _))
          | (go_at_call 51; exact Gives.later _ (hC2 _))))
        refine wpQuiet_nil ?_
        rintro _ ⟨x, rfl⟩
        have hx := x.ok
        obtain ⟨hcx, hfx⟩ := bcell hx
        go_wp2
        refine bodyPost_ret (v := .agg #[.string ⟨#[]⟩, .int .i64 0, .int .i64 5]) (by simp [results, Try.results44, go_sem, hcx]) rfl ⟨by rw [HR.out]; rfl, ?_⟩
        (repeat (first | (with_reducible refine bset ?_ (by first | (simp; done) | (simp; omega)) _) | (with_reducible refine balloc ?_ _) | (with_reducible refine bdrew ?_) | with_reducible exact Below.refl _ _ | (refine bthen ?_ (by with_reducible assumption)) | (refine bthen ?_ (by assumption)) | exact Below.refl _ _))
end Go.Proofs.Ytnehiflandjkoaa
namespace Go.Proofs.Ytnehiflandjkoaa
open Go.RowKit M

theorem set2 {w : World} {a b : Addr} {v : Value} (h : w.cell? b = some v) (hne : a.block ≠ b.block) (u : Value) : (w.setCell a u).cell? b = some v := by
  rw [World.cell?_setCell_other (h := fun e => hne (by rw [e]))]; exact h
theorem ofFour_get (s : ByteArray) (h : 4 ≤ s.size) : ofFour s.data.toList = four4 s[0].toNat s[1].toNat s[2].toNat s[3].toNat := by
  have hz := size_data s
  unfold ofFour
  rw [List.getElem?_eq_getElem (show 0 < s.data.toList.length by omega), List.getElem?_eq_getElem (show 1 < s.data.toList.length by omega), List.getElem?_eq_getElem (show 2 < s.data.toList.length by omega), List.getElem?_eq_getElem (show 3 < s.data.toList.length by omega)]
  rfl

set_option maxRecDepth 100000 in
theorem ofFour_i (s : ByteArray) (h4 : 4 ≤ s.size) (w : World) : Gives Try.prog 54 #[.string s] w (.int .i64 (ofFour s.data.toList)) := by
  unfold Gives
  have hR := Lib.hid (ofFour_get s h4)
  have b0 : s[0].toNat < 256 := s[0].toNat_lt
  have b1 : s[1].toNat < 256 := s[1].toNat_lt
  have b2 : s[2].toNat < 256 := s[2].toNat_lt
  have b3 : s[3].toNat < 256 := s[3].toNat_lt
  have j0 : 0 < s.size := by omega
  have j1 : 1 < s.size := by omega
  have j2 : 2 < s.size := by omega
  have j3 : 3 < s.size := by omega
  have i1 : (1 : Int) < s.size := by omega
  have i2 : (2 : Int) < s.size := by omega
  have i3 : (3 : Int) < s.size := by omega
  go_enter Try.func54, Try.ntmps54
  go_wp2
  refine wp_region_later (by kernel_rfl) (by kernel_rfl) ?_
  repeat (go_big_quiet_step (fail "no call"))
  refine wpQuiet_nil ?_
  rintro _ ⟨x, rfl⟩
  have hx := x.ok
  go_wp2
  go_ret
  refine ⟨?_, hx⟩
  rw [hR.out]
  simp [four4]

def encFO (x : FrameOut) : Value := .agg #[.int .i64 x.1, .string (bs x.2.1), .int .i64 x.2.2.1, .int .i64 x.2.2.2]
theorem getText_range (t : Bs) (a : Int) :
    (getText t a).1 = [] ∧ (getText t a).2.1 = 0 ∧ (1 ≤ (getText t a).2.2 ∧ (getText t a).2.2 ≤ 4) ∨
    (getText t a).2.2 = 0 ∧ t.length ≤ 8000 ∧ 0 ≤ a ∧ a + 1 ≤ (getText t a).2.1 ∧ (getText t a).2.1 ≤ t.length ∧ (getText t a).1.length ≤ 8000 := by
  rw [getText_eq]
  rcases getNum_range t a with ⟨h1, h2, h3⟩ | ⟨h1, h2, h3, h4, h5, h6⟩
  · rw [if_pos (by omega)]; left; exact ⟨rfl, rfl, h3⟩
  · rw [if_neg (by omega)]
    by_cases h7 : (getNum t a).1 < 0 ∨ 8000 < (getNum t a).1
    · rw [if_pos h7]; left; simp
    · rw [if_neg h7]
      by_cases h8 : (t.length : Int) < (getNum t a).2.1 + (getNum t a).1
      · rw [if_pos h8]; left; simp
      · rw [if_neg h8]; right
        refine ⟨rfl, h2, h3, by dsimp only; omega, by dsimp only; omega, ?_⟩
        dsimp only
        rw [List.length_take]; omega
theorem unseal_range (t : Bs) : (unseal_ t).1 = [] ∧ (unseal_ t).2.1 = 0 ∧ (1 ≤ (unseal_ t).2.2 ∧ (unseal_ t).2.2 ≤ 5) ∨ (unseal_ t).2.1 = 0 ∧ (unseal_ t).2.2 = 0 ∧ t.length ≤ 8000 ∧ (unseal_ t).1.length + 4 = t.length := by
  unfold unseal_
  by_cases h1 : 8000 < t.length
  · rw [if_pos h1]; left; simp
  · rw [if_neg h1]
    by_cases h2 : t.length < 4
    · rw [if_pos h2]; left; simp
    · rw [if_neg h2]
      by_cases h3 : crcFour (t.take (t.length - 4)) = t.drop (t.length - 4)
      · rw [if_pos h3]; right
        refine ⟨rfl, rfl, by omega, ?_⟩
        dsimp only
        rw [List.length_take]; omega
      · rw [if_neg h3]; left; simp
/-- what FrameRead makes of a text -/
def frameOf (x y : TextOut) : FrameOut :=
  if x.2.2 ≠ 0 then (0, [], 0, x.2.2)
  else if y.2.2 ≠ 0 then (0, [], 0, y.2.2)
  else if y.1.length < 4 then (0, [], 0, 3)
  else if frameOk (ofFour y.1) (y.1.drop 4) then (ofFour y.1, y.1.drop 4, x.2.1, 0)
  else (0, [], 0, 3)
theorem frameRead_eq (t : Bs) (a : Int) : frameRead t a = frameOf (getText t a) (unseal_ (getText t a).1) := rfl
end Go.Proofs.Ytnehiflandjkoaa
