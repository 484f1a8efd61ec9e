import Derived.Test.YtfblolkkajppcaaGreatDoorO4
set_option linter.unusedSimpArgs false
set_option linter.unusedVariables false
namespace Go.Proofs.YtfblolkkajppcaaGreatDoor
open Go.RowKit M

namespace M
def numsTo (k a b c d : Int) : Nat → Bool
  | 0 => true
  | 1 => numOk k 0 a
  | 2 => numOk k 0 a && numOk k 1 b
  | 3 => numOk k 0 a && numOk k 1 b && numOk k 2 c
  | _ => numOk k 0 a && numOk k 1 b && numOk k 2 c && numOk k 3 d
def tailE (k : Int) (e : Bool) (n : Bool) (b m1 m2 af : Int) : Bool :=
  if k = 1 then n && labelOk m1 m2 && (af != 0 || (m1 == 0 && m2 == 0))
  else if k = 7 then e && labelOk m1 m2 && af == 0
  else if k = 13 then e && m1 == 0 && m2 == 0 && af == 0 && isIn b 1 3
  else e && m1 == 0 && m2 == 0 && af == 0
end M
theorem tailOk_eq (k : Int) (ow : ByteArray) (b m1 m2 af : Int) : tailOk k ow b m1 m2 af = tailE k (decide (ow.toList = [])) (nameOk ow.data.toList) b m1 m2 af := by
  have h : decide (ow = ⟨#[]⟩) = decide (ow.toList = []) := by
    rw [decide_eq_decide, Lib.toList_data]
    exact ⟨fun e => by rw [e], fun e => ByteArray.ext (by rw [← Array.toList_inj]; exact e)⟩
  rw [← h]; rfl
theorem numOk_bad {k i n : Int} (h : isIn n 0 9999999 = false) : numOk k i n = false := by unfold numOk; rw [h]; rfl
theorem nums_bad0 {k a b c d : Int} (h : numOk k 0 a = false) : numsOk k a b c d = false := by unfold numsOk; rw [h]; rfl
theorem nums_bad1 {k a b c d : Int} (h : numOk k 1 b = false) : numsOk k a b c d = false := by unfold numsOk; rw [h]; simp
theorem nums_bad2 {k a b c d : Int} (h : numOk k 2 c = false) : numsOk k a b c d = false := by unfold numsOk; rw [h]; simp
theorem nums_bad3 {k a b c d : Int} (h : numOk k 3 d = false) : numsOk k a b c d = false := by unfold numsOk; rw [h]; simp
theorem head_facts {sys : Bool} {l1 l2 k af : Int} (h : headOk sys l1 l2 k af = true) : (1 ≤ k ∧ k ≤ 17) ∧ labelOk l1 l2 = true ∧ isIn af 0 9999999 = true ∧ (sys = true ∧ 12 ≤ k ∧ l1 = 0 ∧ l2 = 0 ∨ sys = false ∧ k < 12) := by
  unfold headOk at h
  simp only [Bool.and_eq_true, Bool.or_eq_true, Bool.not_eq_true', beq_iff_eq] at h
  obtain ⟨⟨⟨⟨h1, h2⟩, h3⟩, h4⟩, h5⟩ := h
  refine ⟨by simpa [isIn] using h1, h3, h5, ?_⟩
  cases sys
  · right; refine ⟨rfl, ?_⟩; simp at h2; omega
  · left; simp at h2 h4; exact ⟨rfl, h2, h4.1, h4.2⟩
set_option maxRecDepth 100000 in
set_option maxHeartbeats 4000000 in
theorem opRight_i_sys (k : Int) (ow : ByteArray) (a b c d m1 m2 af : Int) (how : ow.size ≤ maxLen) (h1 : 1 ≤ k) (h17 : k ≤ 17) (h12 : 12 ≤ k) (hL : labelOk 0 0 = true) (hA : isIn af 0 9999999 = true) (w : World) :
    Gives Tryz.prog 12 #[encOp true 0 0 k ow a b c d m1 m2 af] w (.bool (numsOk k a b c d && tailOk k ow b m1 m2 af)) := by
  have hW : ∀ w, Gives Tryz.prog 47 #[.int .i64 k, .int .i64 1, .int .i64 17] w (.bool true) := fun w => by
    have h := within_i k 1 17 w
    rwa [show (decide ((1 : Int) ≤ k) && decide (k ≤ 17)) = true by simp [h1, h17]] at h
  have hLL : ∀ w, Gives Tryz.prog 48 #[.agg #[.int .i64 0, .int .i64 0]] w (.bool true) := fun w => by have h := labelRight_i 0 0 w; rwa [hL] at h
  have hAA : ∀ w, Gives Tryz.prog 49 #[.int .i64 af] w (.bool true) := fun w => by have h := isNum_i af w; rwa [hA] at h
  unfold Gives encOp
  obtain ⟨R, sR⟩ := fresh w #[.bool true, .int .i64 0, .int .i64 0, .int .i64 k, .string ow, .int .i64 a, .int .i64 b, .int .i64 c, .int .i64 d, .int .i64 m1, .int .i64 m2, .int .i64 af] 26
  have B0 := bnew w (.cells #[.bool true, .int .i64 0, .int .i64 0, .int .i64 k, .string ow, .int .i64 a, .int .i64 b, .int .i64 c, .int .i64 d, .int .i64 m1, .int .i64 m2, .int .i64 af] 26)
  go_enter Tryz.func12, Tryz.ntmps12
  go_wp2_with fail
  generalize w.alloc (.cells #[.bool true, .int .i64 0, .int .i64 0, .int .i64 k, .string ow, .int .i64 a, .int .i64 b, .int .i64 c, .int .i64 d, .int .i64 m1, .int .i64 m2, .int .i64 af] 26) = w0 at *
  go_wp2_with (first
    | (go_at_call 47; with_reducible refine (hW _).use.mono ?_; rintro e w1 ⟨rfl, hb1⟩; have RR := carry R sR hb1; clear R sR; obtain ⟨R, sR⟩ := RR)
    | (go_at_call 48; with_reducible refine (hLL _).use.mono ?_; rintro e w2 ⟨rfl, hb2⟩; have RR := carry R sR hb2; clear R sR; obtain ⟨R, sR⟩ := RR)
    | (go_at_call 49; with_reducible refine (hAA _).use.mono ?_; rintro e w3 ⟨rfl, hb3⟩; have RR := carry R sR hb3; clear R sR; obtain ⟨R, sR⟩ := RR)
    | (go_at_call 25; refine (numbers_i _ _ _ _ _ _ _ _ _ _ _ _ _).mono ?_; rintro e w4 ⟨v, S, rfl, hb4, hS, rfl, sS, Q⟩; have RR := carry R sR hb4; clear R sR; obtain ⟨R, sR⟩ := RR))
  have BB : Below w.heap.size w w4 := by (repeat (first | (with_reducible refine bset ?_ (by first | (simp; done) | (simp; omega)) _) | (with_reducible refine balloc ?_ _) | (with_reducible refine bdrew ?_) | with_reducible exact Below.refl _ _ | (refine bthen ?_ (by with_reducible assumption)) | (refine bthen ?_ (by assumption)) | exact Below.refl _ _))
  have HT := Lib.hid (tailOk_eq k ow b m1 m2 af)
  have hNm := nameRight_i ow how
  generalize nameOk ow.data.toList = nm at *
  clear hb1 hb2 hb3 hb4 B0 hS
  go_loopw [43] (fun i wr => ∃ j : Nat, j ≤ 4 ∧ i = .int .i64 j ∧ Hid (numsTo k a b c d j = true) ∧ w.heap.size < wr.heap.size ∧ S < wr.heap.size ∧
    (∀ i, wr.cell? ⟨w.heap.size, i, none⟩ = (#[.bool true, .int .i64 0, .int .i64 0, .int .i64 k, .string ow, .int .i64 a, .int .i64 b, .int .i64 c, .int .i64 d, .int .i64 m1, .int .i64 m2, .int .i64 af] : Array Value)[i]?) ∧ (∀ i, wr.cell? ⟨S, i, none⟩ = (#[.int .i64 a, .int .i64 b, .int .i64 c, .int .i64 d] : Array Value)[i]?) ∧ Below w.heap.size w wr) (fun i _ => 4 - (intOf i).toNat)
  case atStart => exact ⟨0, by omega, rfl, Lib.hid rfl, sR, sS, R, Q, BB⟩
  case round =>
    clear R Q sR sS BB
    obtain ⟨j, hj, rfl, HN, sR, sS, R, Q, BB⟩ := hrel
    have hjj : j = 0 ∨ j = 1 ∨ j = 2 ∨ j = 3 ∨ j = 4 := by omega
    rcases hjj with rfl | rfl | rfl | rfl | rfl
    · have HP := HN.out
      clear HN
      go_wp2_with (first
        | (go_at_call 49; refine (isNum_i _ _).use.mono ?_; rintro e w5 ⟨rfl, hb5⟩; have RR := carry R sR hb5; clear R sR; obtain ⟨R, sR⟩ := RR; have QQ := carry Q sS hb5; clear Q sS; obtain ⟨Q, sS⟩ := QQ)
        | (go_at_call 26; refine (numbersIn_i _ _).use.mono ?_; rintro e w6 ⟨rfl, hb6⟩; have RR := carry R sR hb6; clear R sR; obtain ⟨R, sR⟩ := RR; have QQ := carry Q sS hb6; clear Q sS; obtain ⟨Q, sS⟩ := QQ))
      all_goals first
        | (refine ⟨⟨1, by omega, rfl, Lib.hid ?_, sR, sS, R, Q, by (repeat (first | (with_reducible refine bset ?_ (by first | (simp; done) | (simp; omega)) _) | (with_reducible refine balloc ?_ _) | (with_reducible refine bdrew ?_) | with_reducible exact Below.refl _ _ | (refine bthen ?_ (by with_reducible assumption)) | (refine bthen ?_ (by assumption)) | exact Below.refl _ _))⟩, by simp [intOf]⟩; clear R Q hW hLL hAA hNm HT; unfold numsTo at HP ⊢; simp_all [numOk]; done)
        | (go_ret; refine ⟨?_, by (repeat (first | (with_reducible refine bset ?_ (by first | (simp; done) | (simp; omega)) _) | (with_reducible refine balloc ?_ _) | (with_reducible refine bdrew ?_) | with_reducible exact Below.refl _ _ | (refine bthen ?_ (by with_reducible assumption)) | (refine bthen ?_ (by assumption)) | exact Below.refl _ _))⟩; have hz : numOk k 0 a = false := (by clear R Q hW hLL hAA hNm HT HP; simp_all [numOk]); rw [nums_bad0 hz]; rfl)
    · have HP := HN.out
      clear HN
      go_wp2_with (first
        | (go_at_call 49; refine (isNum_i _ _).use.mono ?_; rintro e w5 ⟨rfl, hb5⟩; have RR := carry R sR hb5; clear R sR; obtain ⟨R, sR⟩ := RR; have QQ := carry Q sS hb5; clear Q sS; obtain ⟨Q, sS⟩ := QQ)
        | (go_at_call 26; refine (numbersIn_i _ _).use.mono ?_; rintro e w6 ⟨rfl, hb6⟩; have RR := carry R sR hb6; clear R sR; obtain ⟨R, sR⟩ := RR; have QQ := carry Q sS hb6; clear Q sS; obtain ⟨Q, sS⟩ := QQ))
      all_goals first
        | (refine ⟨⟨2, by omega, rfl, Lib.hid ?_, sR, sS, R, Q, by (repeat (first | (with_reducible refine bset ?_ (by first | (simp; done) | (simp; omega)) _) | (with_reducible refine balloc ?_ _) | (with_reducible refine bdrew ?_) | with_reducible exact Below.refl _ _ | (refine bthen ?_ (by with_reducible assumption)) | (refine bthen ?_ (by assumption)) | exact Below.refl _ _))⟩, by simp [intOf]⟩; clear R Q hW hLL hAA hNm HT; unfold numsTo at HP ⊢; simp_all [numOk]; done)
        | (go_ret; refine ⟨?_, by (repeat (first | (with_reducible refine bset ?_ (by first | (simp; done) | (simp; omega)) _) | (with_reducible refine balloc ?_ _) | (with_reducible refine bdrew ?_) | with_reducible exact Below.refl _ _ | (refine bthen ?_ (by with_reducible assumption)) | (refine bthen ?_ (by assumption)) | exact Below.refl _ _))⟩; have hz : numOk k 1 b = false := (by clear R Q hW hLL hAA hNm HT HP; simp_all [numOk]); rw [nums_bad1 hz]; rfl)
    · have HP := HN.out
      clear HN
      go_wp2_with (first
        | (go_at_call 49; refine (isNum_i _ _).use.mono ?_; rintro e w5 ⟨rfl, hb5⟩; have RR := carry R sR hb5; clear R sR; obtain ⟨R, sR⟩ := RR; have QQ := carry Q sS hb5; clear Q sS; obtain ⟨Q, sS⟩ := QQ)
        | (go_at_call 26; refine (numbersIn_i _ _).use.mono ?_; rintro e w6 ⟨rfl, hb6⟩; have RR := carry R sR hb6; clear R sR; obtain ⟨R, sR⟩ := RR; have QQ := carry Q sS hb6; clear Q sS; obtain ⟨Q, sS⟩ := QQ))
      all_goals first
        | (refine ⟨⟨3, by omega, rfl, Lib.hid ?_, sR, sS, R, Q, by (repeat (first | (with_reducible refine bset ?_ (by first | (simp; done) | (simp; omega)) _) | (with_reducible refine balloc ?_ _) | (with_reducible refine bdrew ?_) | with_reducible exact Below.refl _ _ | (refine bthen ?_ (by with_reducible assumption)) | (refine bthen ?_ (by assumption)) | exact Below.refl _ _))⟩, by simp [intOf]⟩; clear R Q hW hLL hAA hNm HT; unfold numsTo at HP ⊢; simp_all [numOk]; done)
        | (go_ret; refine ⟨?_, by (repeat (first | (with_reducible refine bset ?_ (by first | (simp; done) | (simp; omega)) _) | (with_reducible refine balloc ?_ _) | (with_reducible refine bdrew ?_) | with_reducible exact Below.refl _ _ | (refine bthen ?_ (by with_reducible assumption)) | (refine bthen ?_ (by assumption)) | exact Below.refl _ _))⟩; have hz : numOk k 2 c = false := (by clear R Q hW hLL hAA hNm HT HP; simp_all [numOk]); rw [nums_bad2 hz]; rfl)
    · have HP := HN.out
      clear HN
      go_wp2_with (first
        | (go_at_call 49; refine (isNum_i _ _).use.mono ?_; rintro e w5 ⟨rfl, hb5⟩; have RR := carry R sR hb5; clear R sR; obtain ⟨R, sR⟩ := RR; have QQ := carry Q sS hb5; clear Q sS; obtain ⟨Q, sS⟩ := QQ)
        | (go_at_call 26; refine (numbersIn_i _ _).use.mono ?_; rintro e w6 ⟨rfl, hb6⟩; have RR := carry R sR hb6; clear R sR; obtain ⟨R, sR⟩ := RR; have QQ := carry Q sS hb6; clear Q sS; obtain ⟨Q, sS⟩ := QQ))
      all_goals first
        | (refine ⟨⟨4, by omega, rfl, Lib.hid ?_, sR, sS, R, Q, by (repeat (first | (with_reducible refine bset ?_ (by first | (simp; done) | (simp; omega)) _) | (with_reducible refine balloc ?_ _) | (with_reducible refine bdrew ?_) | with_reducible exact Below.refl _ _ | (refine bthen ?_ (by with_reducible assumption)) | (refine bthen ?_ (by assumption)) | exact Below.refl _ _))⟩, by simp [intOf]⟩; clear R Q hW hLL hAA hNm HT; unfold numsTo at HP ⊢; simp_all [numOk]; done)
        | (go_ret; refine ⟨?_, by (repeat (first | (with_reducible refine bset ?_ (by first | (simp; done) | (simp; omega)) _) | (with_reducible refine balloc ?_ _) | (with_reducible refine bdrew ?_) | with_reducible exact Below.refl _ _ | (refine bthen ?_ (by with_reducible assumption)) | (refine bthen ?_ (by assumption)) | exact Below.refl _ _))⟩; have hz : numOk k 3 d = false := (by clear R Q hW hLL hAA hNm HT HP; simp_all [numOk]); rw [nums_bad3 hz]; rfl)
    · have HE : Hid ((numsOk k a b c d && tailOk k ow b m1 m2 af) = tailE k (decide (ow.toList = [])) nm b m1 m2 af) := by
        have HP : numsOk k a b c d = true := HN.out
        rw [HP, Bool.true_and, HT.out]; exact Lib.hid rfl
      clear HN HT
      go_wp2_with (first
        | (go_at_call 50; refine (hNm _).use.mono ?_; rintro e w5 ⟨rfl, hb5⟩; have RR := carry R sR hb5; clear R sR; obtain ⟨R, sR⟩ := RR; have QQ := carry Q sS hb5; clear Q sS; obtain ⟨Q, sS⟩ := QQ)
        | (go_at_call 48; refine (labelRight_i _ _ _).use.mono ?_; rintro e w6 ⟨rfl, hb6⟩; have RR := carry R sR hb6; clear R sR; obtain ⟨R, sR⟩ := RR; have QQ := carry Q sS hb6; clear Q sS; obtain ⟨Q, sS⟩ := QQ)
        | (go_at_call 51; refine (isNodeState_i _ _).use.mono ?_; rintro e w7 ⟨rfl, hb7⟩; have RR := carry R sR hb7; clear R sR; obtain ⟨R, sR⟩ := RR; have QQ := carry Q sS hb7; clear Q sS; obtain ⟨Q, sS⟩ := QQ))
      all_goals go_ret
      all_goals refine ⟨?_, by (repeat (first | (with_reducible refine bset ?_ (by first | (simp; done) | (simp; omega)) _) | (with_reducible refine balloc ?_ _) | (with_reducible refine bdrew ?_) | with_reducible exact Below.refl _ _ | (refine bthen ?_ (by with_reducible assumption)) | (refine bthen ?_ (by assumption)) | exact Below.refl _ _))⟩
      all_goals rw [HE.out]
      all_goals clear R Q HE hW hLL hAA hNm
      all_goals unfold tailE
      all_goals first
        | (clear BB; simp_all; done)
        | (clear BB; simp_all; omega)
set_option maxRecDepth 100000 in
set_option maxHeartbeats 4000000 in
theorem opRight_i_own (l1 l2 k : Int) (ow : ByteArray) (a b c d m1 m2 af : Int) (how : ow.size ≤ maxLen) (h1 : 1 ≤ k) (h17 : k ≤ 17) (h12 : k < 12) (hL : labelOk l1 l2 = true) (hA : isIn af 0 9999999 = true) (w : World) :
    Gives Tryz.prog 12 #[encOp false l1 l2 k ow a b c d m1 m2 af] w (.bool (numsOk k a b c d && tailOk k ow b m1 m2 af)) := by
  have hW : ∀ w, Gives Tryz.prog 47 #[.int .i64 k, .int .i64 1, .int .i64 17] w (.bool true) := fun w => by
    have h := within_i k 1 17 w
    rwa [show (decide ((1 : Int) ≤ k) && decide (k ≤ 17)) = true by simp [h1, h17]] at h
  have hLL : ∀ w, Gives Tryz.prog 48 #[.agg #[.int .i64 l1, .int .i64 l2]] w (.bool true) := fun w => by have h := labelRight_i l1 l2 w; rwa [hL] at h
  have hAA : ∀ w, Gives Tryz.prog 49 #[.int .i64 af] w (.bool true) := fun w => by have h := isNum_i af w; rwa [hA] at h
  unfold Gives encOp
  obtain ⟨R, sR⟩ := fresh w #[.bool false, .int .i64 l1, .int .i64 l2, .int .i64 k, .string ow, .int .i64 a, .int .i64 b, .int .i64 c, .int .i64 d, .int .i64 m1, .int .i64 m2, .int .i64 af] 26
  have B0 := bnew w (.cells #[.bool false, .int .i64 l1, .int .i64 l2, .int .i64 k, .string ow, .int .i64 a, .int .i64 b, .int .i64 c, .int .i64 d, .int .i64 m1, .int .i64 m2, .int .i64 af] 26)
  go_enter Tryz.func12, Tryz.ntmps12
  go_wp2_with fail
  generalize w.alloc (.cells #[.bool false, .int .i64 l1, .int .i64 l2, .int .i64 k, .string ow, .int .i64 a, .int .i64 b, .int .i64 c, .int .i64 d, .int .i64 m1, .int .i64 m2, .int .i64 af] 26) = w0 at *
  go_wp2_with (first
    | (go_at_call 47; with_reducible refine (hW _).use.mono ?_; rintro e w1 ⟨rfl, hb1⟩; have RR := carry R sR hb1; clear R sR; obtain ⟨R, sR⟩ := RR)
    | (go_at_call 48; with_reducible refine (hLL _).use.mono ?_; rintro e w2 ⟨rfl, hb2⟩; have RR := carry R sR hb2; clear R sR; obtain ⟨R, sR⟩ := RR)
    | (go_at_call 49; with_reducible refine (hAA _).use.mono ?_; rintro e w3 ⟨rfl, hb3⟩; have RR := carry R sR hb3; clear R sR; obtain ⟨R, sR⟩ := RR)
    | (go_at_call 25; refine (numbers_i _ _ _ _ _ _ _ _ _ _ _ _ _).mono ?_; rintro e w4 ⟨v, S, rfl, hb4, hS, rfl, sS, Q⟩; have RR := carry R sR hb4; clear R sR; obtain ⟨R, sR⟩ := RR))
  have BB : Below w.heap.size w w4 := by (repeat (first | (with_reducible refine bset ?_ (by first | (simp; done) | (simp; omega)) _) | (with_reducible refine balloc ?_ _) | (with_reducible refine bdrew ?_) | with_reducible exact Below.refl _ _ | (refine bthen ?_ (by with_reducible assumption)) | (refine bthen ?_ (by assumption)) | exact Below.refl _ _))
  have HT := Lib.hid (tailOk_eq k ow b m1 m2 af)
  have hNm := nameRight_i ow how
  generalize nameOk ow.data.toList = nm at *
  clear hb1 hb2 hb3 hb4 B0 hS
  go_loopw [43] (fun i wr => ∃ j : Nat, j ≤ 4 ∧ i = .int .i64 j ∧ Hid (numsTo k a b c d j = true) ∧ w.heap.size < wr.heap.size ∧ S < wr.heap.size ∧
    (∀ i, wr.cell? ⟨w.heap.size, i, none⟩ = (#[.bool false, .int .i64 l1, .int .i64 l2, .int .i64 k, .string ow, .int .i64 a, .int .i64 b, .int .i64 c, .int .i64 d, .int .i64 m1, .int .i64 m2, .int .i64 af] : Array Value)[i]?) ∧ (∀ i, wr.cell? ⟨S, i, none⟩ = (#[.int .i64 a, .int .i64 b, .int .i64 c, .int .i64 d] : Array Value)[i]?) ∧ Below w.heap.size w wr) (fun i _ => 4 - (intOf i).toNat)
  case atStart => exact ⟨0, by omega, rfl, Lib.hid rfl, sR, sS, R, Q, BB⟩
  case round =>
    clear R Q sR sS BB
    obtain ⟨j, hj, rfl, HN, sR, sS, R, Q, BB⟩ := hrel
    have hjj : j = 0 ∨ j = 1 ∨ j = 2 ∨ j = 3 ∨ j = 4 := by omega
    rcases hjj with rfl | rfl | rfl | rfl | rfl
    · have HP := HN.out
      clear HN
      go_wp2_with (first
        | (go_at_call 49; refine (isNum_i _ _).use.mono ?_; rintro e w5 ⟨rfl, hb5⟩; have RR := carry R sR hb5; clear R sR; obtain ⟨R, sR⟩ := RR; have QQ := carry Q sS hb5; clear Q sS; obtain ⟨Q, sS⟩ := QQ)
        | (go_at_call 26; refine (numbersIn_i _ _).use.mono ?_; rintro e w6 ⟨rfl, hb6⟩; have RR := carry R sR hb6; clear R sR; obtain ⟨R, sR⟩ := RR; have QQ := carry Q sS hb6; clear Q sS; obtain ⟨Q, sS⟩ := QQ))
      all_goals first
        | (refine ⟨⟨1, by omega, rfl, Lib.hid ?_, sR, sS, R, Q, by (repeat (first | (with_reducible refine bset ?_ (by first | (simp; done) | (simp; omega)) _) | (with_reducible refine balloc ?_ _) | (with_reducible refine bdrew ?_) | with_reducible exact Below.refl _ _ | (refine bthen ?_ (by with_reducible assumption)) | (refine bthen ?_ (by assumption)) | exact Below.refl _ _))⟩, by simp [intOf]⟩; clear R Q hW hLL hAA hNm HT; unfold numsTo at HP ⊢; simp_all [numOk]; done)
        | (go_ret; refine ⟨?_, by (repeat (first | (with_reducible refine bset ?_ (by first | (simp; done) | (simp; omega)) _) | (with_reducible refine balloc ?_ _) | (with_reducible refine bdrew ?_) | with_reducible exact Below.refl _ _ | (refine bthen ?_ (by with_reducible assumption)) | (refine bthen ?_ (by assumption)) | exact Below.refl _ _))⟩; have hz : numOk k 0 a = false := (by clear R Q hW hLL hAA hNm HT HP; simp_all [numOk]); rw [nums_bad0 hz]; rfl)
    · have HP := HN.out
      clear HN
      go_wp2_with (first
        | (go_at_call 49; refine (isNum_i _ _).use.mono ?_; rintro e w5 ⟨rfl, hb5⟩; have RR := carry R sR hb5; clear R sR; obtain ⟨R, sR⟩ := RR; have QQ := carry Q sS hb5; clear Q sS; obtain ⟨Q, sS⟩ := QQ)
        | (go_at_call 26; refine (numbersIn_i _ _).use.mono ?_; rintro e w6 ⟨rfl, hb6⟩; have RR := carry R sR hb6; clear R sR; obtain ⟨R, sR⟩ := RR; have QQ := carry Q sS hb6; clear Q sS; obtain ⟨Q, sS⟩ := QQ))
      all_goals first
        | (refine ⟨⟨2, by omega, rfl, Lib.hid ?_, sR, sS, R, Q, by (repeat (first | (with_reducible refine bset ?_ (by first | (simp; done) | (simp; omega)) _) | (with_reducible refine balloc ?_ _) | (with_reducible refine bdrew ?_) | with_reducible exact Below.refl _ _ | (refine bthen ?_ (by with_reducible assumption)) | (refine bthen ?_ (by assumption)) | exact Below.refl _ _))⟩, by simp [intOf]⟩; clear R Q hW hLL hAA hNm HT; unfold numsTo at HP ⊢; simp_all [numOk]; done)
        | (go_ret; refine ⟨?_, by (repeat (first | (with_reducible refine bset ?_ (by first | (simp; done) | (simp; omega)) _) | (with_reducible refine balloc ?_ _) | (with_reducible refine bdrew ?_) | with_reducible exact Below.refl _ _ | (refine bthen ?_ (by with_reducible assumption)) | (refine bthen ?_ (by assumption)) | exact Below.refl _ _))⟩; have hz : numOk k 1 b = false := (by clear R Q hW hLL hAA hNm HT HP; simp_all [numOk]); rw [nums_bad1 hz]; rfl)
    · have HP := HN.out
      clear HN
      go_wp2_with (first
        | (go_at_call 49; refine (isNum_i _ _).use.mono ?_; rintro e w5 ⟨rfl, hb5⟩; have RR := carry R sR hb5; clear R sR; obtain ⟨R, sR⟩ := RR; have QQ := carry Q sS hb5; clear Q sS; obtain ⟨Q, sS⟩ := QQ)
        | (go_at_call 26; refine (numbersIn_i _ _).use.mono ?_; rintro e w6 ⟨rfl, hb6⟩; have RR := carry R sR hb6; clear R sR; obtain ⟨R, sR⟩ := RR; have QQ := carry Q sS hb6; clear Q sS; obtain ⟨Q, sS⟩ := QQ))
      all_goals first
        | (refine ⟨⟨3, by omega, rfl, Lib.hid ?_, sR, sS, R, Q, by (repeat (first | (with_reducible refine bset ?_ (by first | (simp; done) | (simp; omega)) _) | (with_reducible refine balloc ?_ _) | (with_reducible refine bdrew ?_) | with_reducible exact Below.refl _ _ | (refine bthen ?_ (by with_reducible assumption)) | (refine bthen ?_ (by assumption)) | exact Below.refl _ _))⟩, by simp [intOf]⟩; clear R Q hW hLL hAA hNm HT; unfold numsTo at HP ⊢; simp_all [numOk]; done)
        | (go_ret; refine ⟨?_, by (repeat (first | (with_reducible refine bset ?_ (by first | (simp; done) | (simp; omega)) _) | (with_reducible refine balloc ?_ _) | (with_reducible refine bdrew ?_) | with_reducible exact Below.refl _ _ | (refine bthen ?_ (by with_reducible assumption)) | (refine bthen ?_ (by assumption)) | exact Below.refl _ _))⟩; have hz : numOk k 2 c = false := (by clear R Q hW hLL hAA hNm HT HP; simp_all [numOk]); rw [nums_bad2 hz]; rfl)
    · have HP := HN.out
      clear HN
      go_wp2_with (first
        | (go_at_call 49; refine (isNum_i _ _).use.mono ?_; rintro e w5 ⟨rfl, hb5⟩; have RR := carry R sR hb5; clear R sR; obtain ⟨R, sR⟩ := RR; have QQ := carry Q sS hb5; clear Q sS; obtain ⟨Q, sS⟩ := QQ)
        | (go_at_call 26; refine (numbersIn_i _ _).use.mono ?_; rintro e w6 ⟨rfl, hb6⟩; have RR := carry R sR hb6; clear R sR; obtain ⟨R, sR⟩ := RR; have QQ := carry Q sS hb6; clear Q sS; obtain ⟨Q, sS⟩ := QQ))
      all_goals first
        | (refine ⟨⟨4, by omega, rfl, Lib.hid ?_, sR, sS, R, Q, by (repeat (first | (with_reducible refine bset ?_ (by first | (simp; done) | (simp; omega)) _) | (with_reducible refine balloc ?_ _) | (with_reducible refine bdrew ?_) | with_reducible exact Below.refl _ _ | (refine bthen ?_ (by with_reducible assumption)) | (refine bthen ?_ (by assumption)) | exact Below.refl _ _))⟩, by simp [intOf]⟩; clear R Q hW hLL hAA hNm HT; unfold numsTo at HP ⊢; simp_all [numOk]; done)
        | (go_ret; refine ⟨?_, by (repeat (first | (with_reducible refine bset ?_ (by first | (simp; done) | (simp; omega)) _) | (with_reducible refine balloc ?_ _) | (with_reducible refine bdrew ?_) | with_reducible exact Below.refl _ _ | (refine bthen ?_ (by with_reducible assumption)) | (refine bthen ?_ (by assumption)) | exact Below.refl _ _))⟩; have hz : numOk k 3 d = false := (by clear R Q hW hLL hAA hNm HT HP; simp_all [numOk]); rw [nums_bad3 hz]; rfl)
    · have HE : Hid ((numsOk k a b c d && tailOk k ow b m1 m2 af) = tailE k (decide (ow.toList = [])) nm b m1 m2 af) := by
        have HP : numsOk k a b c d = true := HN.out
        rw [HP, Bool.true_and, HT.out]; exact Lib.hid rfl
      clear HN HT
      go_wp2_with (first
        | (go_at_call 50; refine (hNm _).use.mono ?_; rintro e w5 ⟨rfl, hb5⟩; have RR := carry R sR hb5; clear R sR; obtain ⟨R, sR⟩ := RR; have QQ := carry Q sS hb5; clear Q sS; obtain ⟨Q, sS⟩ := QQ)
        | (go_at_call 48; refine (labelRight_i _ _ _).use.mono ?_; rintro e w6 ⟨rfl, hb6⟩; have RR := carry R sR hb6; clear R sR; obtain ⟨R, sR⟩ := RR; have QQ := carry Q sS hb6; clear Q sS; obtain ⟨Q, sS⟩ := QQ)
        | (go_at_call 51; refine (isNodeState_i _ _).use.mono ?_; rintro e w7 ⟨rfl, hb7⟩; have RR := carry R sR hb7; clear R sR; obtain ⟨R, sR⟩ := RR; have QQ := carry Q sS hb7; clear Q sS; obtain ⟨Q, sS⟩ := QQ))
      all_goals go_ret
      all_goals refine ⟨?_, by (repeat (first | (with_reducible refine bset ?_ (by first | (simp; done) | (simp; omega)) _) | (with_reducible refine balloc ?_ _) | (with_reducible refine bdrew ?_) | with_reducible exact Below.refl _ _ | (refine bthen ?_ (by with_reducible assumption)) | (refine bthen ?_ (by assumption)) | exact Below.refl _ _))⟩
      all_goals rw [HE.out]
      all_goals clear R Q HE hW hLL hAA hNm
      all_goals unfold tailE
      all_goals first
        | (clear BB; simp_all; done)
        | (clear BB; simp_all; omega)

theorem opRight_i (sys : Bool) (l1 l2 k : Int) (ow : ByteArray) (a b c d m1 m2 af : Int) (how : ow.size ≤ maxLen) (w : World) :
    Gives Tryz.prog 12 #[encOp sys l1 l2 k ow a b c d m1 m2 af] w (.bool (opOk sys l1 l2 k ow a b c d m1 m2 af)) := by
  unfold opOk
  rw [Bool.and_assoc]
  cases hH : headOk sys l1 l2 k af
  · exact opRight_i_bad sys l1 l2 k ow a b c d m1 m2 af hH w
  · rw [Bool.true_and]
    obtain ⟨⟨h1, h17⟩, hL, hA, ⟨rfl, h12, rfl, rfl⟩ | ⟨rfl, h12⟩⟩ := head_facts hH
    · exact opRight_i_sys k ow a b c d m1 m2 af how h1 h17 h12 hL hA w
    · exact opRight_i_own l1 l2 k ow a b c d m1 m2 af how h1 h17 h12 hL hA w
end Go.Proofs.YtfblolkkajppcaaGreatDoor
