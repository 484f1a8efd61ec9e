import Derived.Test.YtnehiflandjkoaaMod2
import Derived.BigRegion
set_option linter.unusedSimpArgs false
set_option linter.unusedVariables false
namespace Go.Proofs.Ytnehiflandjkoaa
open Go.RowKit M

theorem getText_eq (t : Bs) (a : Int) : getText t a = if (getNum t a).2.2 ≠ 0 then ([], 0, (getNum t a).2.2)
  else if (getNum t a).1 < 0 ∨ 8000 < (getNum t a).1 then ([], 0, 3)
  else if (t.length : Int) < (getNum t a).2.1 + (getNum t a).1 then ([], 0, 4)
  else ((t.drop (getNum t a).2.1.toNat).take (getNum t a).1.toNat, (getNum t a).2.1 + (getNum t a).1, 0) := rfl

theorem add_facts {a b : Nat} (h : a + b ≤ 1000000) : IntKind.i64.wrap ((a : Int) + b) = (a : Int) + b ∧ 0 ≤ (a : Int) + b ∧ ((a : Int) + b).toNat = a + b := by
  refine ⟨?_, by omega, by omega⟩
  rw [IntKind.wrap_i64]; omega

def encTO (x : TextOut) : Value := .agg #[.string (bs x.1), .int .i64 x.2.1, .int .i64 x.2.2]

set_option maxRecDepth 100000 in
set_option maxHeartbeats 1000000 in
theorem getText_i (s : ByteArray) (a : Int) (hs : s.size ≤ maxLen) (w : World) :
    Gives Try.prog 52 #[.string s, .int .i64 a] w (encTO (getText s.data.toList a)) := by
  unfold Gives
  have hr := getNum_range s.data.toList a
  have hsz := size_data s
  rw [hsz] at hr
  have hN := getNum_i s a hs
  have HG := getText_eq s.data.toList a
  rw [hsz] at HG
  generalize getNum s.data.toList a = x at *
  obtain ⟨n, z, c⟩ := x
  dsimp only at hr hN HG
  rcases hr with ⟨rfl, rfl, hc⟩ | ⟨rfl, hl, h0, h1, h2, h3⟩
  · have hc' : (c == 0) = false := by simp; omega
    have HR : Hid (getText s.data.toList a = ([], 0, c)) := by rw [HG, if_pos (by omega)]; exact Lib.hid rfl
    clear hsz HG hs
    go_enter Try.func52, Try.ntmps52
    go_wp2_with (go_at_call 83; refine (hN _).use.mono ?_; rintro e w1 ⟨rfl, hb1⟩; obtain ⟨hc1, hf1, hs1⟩ := bcell1 hb1)
    refine bodyPost_ret (v := .agg #[.string ⟨#[]⟩, .int .i64 0, .int .i64 c]) (by simp [results, Try.results52, go_sem, hc1, hs1]) rfl ⟨by rw [HR.out]; rfl, ?_⟩
    (repeat (first | (with_reducible refine bset ?_ (by first | (simp; done) | (simp; omega)) _) | (with_reducible refine balloc ?_ _) | (with_reducible refine bdrew ?_) | with_reducible exact Below.refl _ _ | (refine bthen ?_ (by with_reducible assumption)) | (refine bthen ?_ (by assumption)) | exact Below.refl _ _))
  · rw [if_neg (by simp)] at HG
    have hCall : ∀ w, Gives Try.prog 65 #[.int .i64 n, .int .i64 0, .int .i64 8000] w (.bool (decide (0 ≤ n) && decide (n ≤ 8000))) := fun w => within_i n 0 8000 w
    by_cases hw : 0 ≤ n ∧ n ≤ 8000
    · obtain ⟨m, rfl⟩ := Int.eq_ofNat_of_zero_le hw.1
      obtain ⟨y, rfl⟩ := Int.eq_ofNat_of_zero_le (by omega : 0 ≤ z)
      rw [if_neg (by omega)] at HG
      rw [show (decide ((0 : Int) ≤ m) && decide ((m : Int) ≤ 8000)) = true by simp; omega] at hCall
      by_cases hm : (y : Int) + m ≤ s.size
      · rw [if_neg (by omega)] at HG
        have HR : Hid (getText s.data.toList a = ((s.data.toList.drop y).take m, (y : Int) + m, 0)) := Lib.hid HG
        have hm' : ¬ (s.size : Int) < (y : Int) + m := by omega
        have hx : s.extract y (y + m) = bs ((s.data.toList.drop y).take m) := by rw [extract_bs, Nat.add_sub_cancel_left]
        obtain ⟨p1, p2, p3⟩ := add_facts (a := y) (b := m) (by omega)
        have p1' := Lib.hid p1
        have p3' := Lib.hid p3
        clear hsz HG hs p1 p3
        go_enter Try.func52, Try.ntmps52
        go_wp2_with (first
          | (go_at_call 83; refine (hN _).use.mono ?_; rintro e w1 ⟨rfl, hb1⟩; obtain ⟨hc1, hf1, hs1⟩ := bcell1 hb1)
          | (go_at_call 65; refine (hCall _).use.mono ?_; rintro e w2 ⟨rfl, hb2⟩; obtain ⟨hc2, hf2, hs2⟩ := bcell1 hb2))
        go_region
        go_wp2
        have k := kept2 hb2 hs1
        refine bodyPost_ret (v := .agg #[.string (bs ((s.data.toList.drop y).take m)), .int .i64 ((y : Int) + m), .int .i64 0]) (by simp [results, Try.results52, go_sem, hc1, k]) rfl ⟨by rw [HR.out]; rfl, ?_⟩
        (repeat (first | (with_reducible refine bset ?_ (by first | (simp; done) | (simp; omega)) _) | (with_reducible refine balloc ?_ _) | (with_reducible refine bdrew ?_) | with_reducible exact Below.refl _ _ | (refine bthen ?_ (by with_reducible assumption)) | (refine bthen ?_ (by assumption)) | exact Below.refl _ _))
      · rw [if_pos (by omega)] at HG
        have HR : Hid (getText s.data.toList a = ([], 0, 4)) := Lib.hid HG
        have hm' : (s.size : Int) < (y : Int) + m := by omega
        clear hsz HG hs
        go_enter Try.func52, Try.ntmps52
        go_wp2_with (first
          | (go_at_call 83; refine (hN _).use.mono ?_; rintro e w1 ⟨rfl, hb1⟩; obtain ⟨hc1, hf1, hs1⟩ := bcell1 hb1)
          | (go_at_call 65; refine (hCall _).use.mono ?_; rintro e w2 ⟨rfl, hb2⟩; obtain ⟨hc2, hf2, hs2⟩ := bcell1 hb2))
        have k := kept2 hb2 hs1
        refine bodyPost_ret (v := .agg #[.string ⟨#[]⟩, .int .i64 0, .int .i64 4]) (by simp [results, Try.results52, go_sem, hc1, k]) rfl ⟨by rw [HR.out]; rfl, ?_⟩
        (repeat (first | (with_reducible refine bset ?_ (by first | (simp; done) | (simp; omega)) _) | (with_reducible refine balloc ?_ _) | (with_reducible refine bdrew ?_) | with_reducible exact Below.refl _ _ | (refine bthen ?_ (by with_reducible assumption)) | (refine bthen ?_ (by assumption)) | exact Below.refl _ _))
    · rw [if_pos (by omega)] at HG
      have HR : Hid (getText s.data.toList a = ([], 0, 3)) := Lib.hid HG
      rw [show (decide ((0 : Int) ≤ n) && decide (n ≤ 8000)) = false by simp; omega] at hCall
      clear hsz HG hs
      go_enter Try.func52, Try.ntmps52
      go_wp2_with (first
        | (go_at_call 83; refine (hN _).use.mono ?_; rintro e w1 ⟨rfl, hb1⟩; obtain ⟨hc1, hf1, hs1⟩ := bcell1 hb1)
        | (go_at_call 65; refine (hCall _).use.mono ?_; rintro e w2 ⟨rfl, hb2⟩; obtain ⟨hc2, hf2, hs2⟩ := bcell1 hb2))
      have k := kept2 hb2 hs1
      refine bodyPost_ret (v := .agg #[.string ⟨#[]⟩, .int .i64 0, .int .i64 3]) (by simp [results, Try.results52, go_sem, hc1, k]) rfl ⟨by rw [HR.out]; rfl, ?_⟩
      (repeat (first | (with_reducible refine bset ?_ (by first | (simp; done) | (simp; omega)) _) | (with_reducible refine balloc ?_ _) | (with_reducible refine bdrew ?_) | with_reducible exact Below.refl _ _ | (refine bthen ?_ (by with_reducible assumption)) | (refine bthen ?_ (by assumption)) | exact Below.refl _ _))
set_option maxRecDepth 100000 in
set_option maxHeartbeats 1000000 in
theorem getText_s (s : ByteArray) (a : Int) (ha : a ≤ 9223372036854775807) (hs : s.size ≤ maxLen) (w : World) :
    Gives Try.prog 45 #[.string s, .int .i64 a] w (encTO (getText s.data.toList a)) := by
  unfold Gives
  have hr := getNum_range s.data.toList a
  have hsz := size_data s
  rw [hsz] at hr
  have hN := getNum_s s a ha hs
  have HG := getText_eq s.data.toList a
  rw [hsz] at HG
  generalize getNum s.data.toList a = x at *
  obtain ⟨n, z, c⟩ := x
  dsimp only at hr hN HG
  rcases hr with ⟨rfl, rfl, hc⟩ | ⟨rfl, hl, h0, h1, h2, h3⟩
  · have hc' : (c == 0) = false := by simp; omega
    have HR : Hid (getText s.data.toList a = ([], 0, c)) := by rw [HG, if_pos (by omega)]; exact Lib.hid rfl
    clear hsz HG hs
    go_enter Try.func45, Try.ntmps45
    go_wp2_with (go_at_call 80; refine (hN _).use.mono ?_; rintro e w1 ⟨rfl, hb1⟩; obtain ⟨hc1, hf1, hs1⟩ := bcell1 hb1)
    refine bodyPost_ret (v := .agg #[.string ⟨#[]⟩, .int .i64 0, .int .i64 c]) (by simp [results, Try.results45, go_sem, hc1, hs1]) rfl ⟨by rw [HR.out]; rfl, ?_⟩
    (repeat (first | (with_reducible refine bset ?_ (by first | (simp; done) | (simp; omega)) _) | (with_reducible refine balloc ?_ _) | (with_reducible refine bdrew ?_) | with_reducible exact Below.refl _ _ | (refine bthen ?_ (by with_reducible assumption)) | (refine bthen ?_ (by assumption)) | exact Below.refl _ _))
  · rw [if_neg (by simp)] at HG
    have hCall : ∀ w, Gives Try.prog 65 #[.int .i64 n, .int .i64 0, .int .i64 8000] w (.bool (decide (0 ≤ n) && decide (n ≤ 8000))) := fun w => within_i n 0 8000 w
    by_cases hw : 0 ≤ n ∧ n ≤ 8000
    · obtain ⟨m, rfl⟩ := Int.eq_ofNat_of_zero_le hw.1
      obtain ⟨y, rfl⟩ := Int.eq_ofNat_of_zero_le (by omega : 0 ≤ z)
      rw [if_neg (by omega)] at HG
      rw [show (decide ((0 : Int) ≤ m) && decide ((m : Int) ≤ 8000)) = true by simp; omega] at hCall
      by_cases hm : (y : Int) + m ≤ s.size
      · rw [if_neg (by omega)] at HG
        have HR : Hid (getText s.data.toList a = ((s.data.toList.drop y).take m, (y : Int) + m, 0)) := Lib.hid HG
        have hm' : ¬ (s.size : Int) < (y : Int) + m := by omega
        have hx : s.extract y (y + m) = bs ((s.data.toList.drop y).take m) := by rw [extract_bs, Nat.add_sub_cancel_left]
        obtain ⟨p1, p2, p3⟩ := add_facts (a := y) (b := m) (by omega)
        have p1' := Lib.hid p1
        have p3' := Lib.hid p3
        clear hsz HG hs p1 p3
        go_enter Try.func45, Try.ntmps45
        go_wp2_with (first
          | (go_at_call 80; refine (hN _).use.mono ?_; rintro e w1 ⟨rfl, hb1⟩; obtain ⟨hc1, hf1, hs1⟩ := bcell1 hb1)
          | (go_at_call 65; refine (hCall _).use.mono ?_; rintro e w2 ⟨rfl, hb2⟩; obtain ⟨hc2, hf2, hs2⟩ := bcell1 hb2))
        go_region
        go_wp2
        refine bodyPost_ret (v := .agg #[.string (bs ((s.data.toList.drop y).take m)), .int .i64 ((y : Int) + m), .int .i64 0]) (by simp [results, Try.results45, go_sem, hc1, hs1]) rfl ⟨by rw [HR.out]; rfl, ?_⟩
        (repeat (first | (with_reducible refine bset ?_ (by first | (simp; done) | (simp; omega)) _) | (with_reducible refine balloc ?_ _) | (with_reducible refine bdrew ?_) | with_reducible exact Below.refl _ _ | (refine bthen ?_ (by with_reducible assumption)) | (refine bthen ?_ (by assumption)) | exact Below.refl _ _))
      · rw [if_pos (by omega)] at HG
        have HR : Hid (getText s.data.toList a = ([], 0, 4)) := Lib.hid HG
        have hm' : (s.size : Int) < (y : Int) + m := by omega
        clear hsz HG hs
        go_enter Try.func45, Try.ntmps45
        go_wp2_with (first
          | (go_at_call 80; refine (hN _).use.mono ?_; rintro e w1 ⟨rfl, hb1⟩; obtain ⟨hc1, hf1, hs1⟩ := bcell1 hb1)
          | (go_at_call 65; refine (hCall _).use.mono ?_; rintro e w2 ⟨rfl, hb2⟩; obtain ⟨hc2, hf2, hs2⟩ := bcell1 hb2))
        refine bodyPost_ret (v := .agg #[.string ⟨#[]⟩, .int .i64 0, .int .i64 4]) (by simp [results, Try.results45, go_sem, hc1, hs1]) rfl ⟨by rw [HR.out]; rfl, ?_⟩
        (repeat (first | (with_reducible refine bset ?_ (by first | (simp; done) | (simp; omega)) _) | (with_reducible refine balloc ?_ _) | (with_reducible refine bdrew ?_) | with_reducible exact Below.refl _ _ | (refine bthen ?_ (by with_reducible assumption)) | (refine bthen ?_ (by assumption)) | exact Below.refl _ _))
    · rw [if_pos (by omega)] at HG
      have HR : Hid (getText s.data.toList a = ([], 0, 3)) := Lib.hid HG
      rw [show (decide ((0 : Int) ≤ n) && decide (n ≤ 8000)) = false by simp; omega] at hCall
      clear hsz HG hs
      go_enter Try.func45, Try.ntmps45
      go_wp2_with (first
        | (go_at_call 80; refine (hN _).use.mono ?_; rintro e w1 ⟨rfl, hb1⟩; obtain ⟨hc1, hf1, hs1⟩ := bcell1 hb1)
        | (go_at_call 65; refine (hCall _).use.mono ?_; rintro e w2 ⟨rfl, hb2⟩; obtain ⟨hc2, hf2, hs2⟩ := bcell1 hb2))
      all_goals refine bodyPost_ret (v := .agg #[.string ⟨#[]⟩, .int .i64 0, .int .i64 3]) (by simp [results, Try.results45, go_sem, hc1, hs1]) rfl ⟨by rw [HR.out]; rfl, ?_⟩
      all_goals (repeat (first | (with_reducible refine bset ?_ (by first | (simp; done) | (simp; omega)) _) | (with_reducible refine balloc ?_ _) | (with_reducible refine bdrew ?_) | with_reducible exact Below.refl _ _ | (refine bthen ?_ (by with_reducible assumption)) | (refine bthen ?_ (by assumption)) | exact Below.refl _ _))
end Go.Proofs.Ytnehiflandjkoaa
