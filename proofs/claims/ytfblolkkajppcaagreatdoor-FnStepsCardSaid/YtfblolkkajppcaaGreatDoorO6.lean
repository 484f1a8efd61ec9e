import Derived.Test.YtfblolkkajppcaaGreatDoorO3
import Derived.Test.YtfblolkkajppcaaGreatDoorO5
set_option linter.unusedSimpArgs false
set_option linter.unusedVariables false
namespace Go.Proofs.YtfblolkkajppcaaGreatDoor
namespace M
def num4 (a b c d : Int) : Nat → Int
  | 0 => a
  | 1 => b
  | 2 => c
  | _ => d
theorem numsTo_succ {k a b c d : Int} {j : Nat} (hj : j < 4) (h : numsTo k a b c d j = true) (h2 : numOk k j (num4 a b c d j) = true) : numsTo k a b c d (j + 1) = true := by
  have hjj : j = 0 ∨ j = 1 ∨ j = 2 ∨ j = 3 := by omega
  rcases hjj with rfl | rfl | rfl | rfl <;> simp_all [numsTo, num4]
theorem nums_badj {k a b c d : Int} {j : Nat} (hj : j < 4) (h2 : numOk k j (num4 a b c d j) = false) : numsOk k a b c d = false := by
  have hjj : j = 0 ∨ j = 1 ∨ j = 2 ∨ j = 3 := by omega
  rcases hjj with rfl | rfl | rfl | rfl
  · exact nums_bad0 h2
  · exact nums_bad1 h2
  · exact nums_bad2 h2
  · exact nums_bad3 h2
theorem numOk_le {k n : Int} {j : Nat} (h1 : isIn n 0 9999999 = true) (h2 : (j : Int) < many k) : numOk k j n = true := by unfold numOk; rw [h1]; simp [h2]
theorem numOk_z {k n : Int} {j : Nat} (h1 : isIn n 0 9999999 = true) (h2 : n = 0) : numOk k j n = true := by unfold numOk; rw [h1]; simp [h2]
theorem numOk_no {k n : Int} {j : Nat} (h2 : ¬ (j : Int) < many k) (h1 : (n == 0) = false) : numOk k j n = false := by unfold numOk; simp at h1; simp [h2, h1]
/-- the reference's order of the tail -/
def tailS (k : Int) (e : Bool) (n : Bool) (b m1 m2 af : Int) : Bool :=
  if (k == 1) != n then false else if k != 1 && !e then false else
  if k = 1 then labelOk m1 m2 && (decide (0 < af) || (m1 == 0 && m2 == 0))
  else if k = 7 then labelOk m1 m2 && af == 0
  else if k = 13 then isIn b 1 3 && af == 0 && m1 == 0 && m2 == 0
  else af == 0 && m1 == 0 && m2 == 0
end M
open Go.RowKit M
theorem tailOk_eqS {k : Int} {ow : ByteArray} {b m1 m2 af : Int} (ha : isIn af 0 9999999 = true) : tailOk k ow b m1 m2 af = tailS k (decide (ow.toList = [])) (nameOk ow.data.toList) b m1 m2 af := by
  rw [tailOk_eq]
  have h0 : decide (0 < af) = (af != 0) := by
    unfold isIn at ha; simp at ha
    by_cases h : af = 0
    · subst h; rfl
    · have : 0 < af := by omega
      simp [h, this]
  have hn : ow.toList = [] → nameOk ow.data.toList = false := by
    intro h
    rw [Lib.toList_data] at h
    rw [h]; rfl
  unfold tailE tailS
  rw [h0]
  generalize nameOk ow.data.toList = n at *
  by_cases he : ow.toList = []
  · rw [hn he, decide_eq_true he]
    by_cases h1 : k = 1
    · simp [h1]
    · by_cases h7 : k = 7 <;> by_cases h13 : k = 13 <;> simp [h1, h7, h13] <;> ac_rfl
  · rw [decide_eq_false he]
    by_cases h1 : k = 1
    · cases n <;> simp [h1]
    · by_cases h7 : k = 7 <;> by_cases h13 : k = 13 <;> cases n <;> simp [h1, h7, h13]
theorem carryH {W w' : World} {B : Nat} {cs : Array Value} (hR : Hid (∀ i, W.cell? ⟨B, i, none⟩ = cs[i]?)) (hB : B < W.heap.size) (hb : Below W.heap.size W w') : Hid (∀ i, w'.cell? ⟨B, i, none⟩ = cs[i]?) ∧ B < w'.heap.size :=
  carry hR.out hB hb
theorem later_cells {W : World} {B : Nat} {cs : Array Value} (hR : ∀ i, W.cell? ⟨B, i, none⟩ = cs[i]?) (hB : B < W.heap.size) (i : Nat) (x : Later W) : x.now.cell? ⟨B, i, none⟩ = cs[i]? :=
  (carry hR hB x.ok).1 i
theorem four_cell {W : World} {S : Nat} {a b c d : Int} (Q : ∀ i, W.cell? ⟨S, i, none⟩ = (#[Value.int .i64 a, .int .i64 b, .int .i64 c, .int .i64 d] : Array Value)[i]?) {j : Nat} (hj : j < 4) : W.cell? ⟨S, j, none⟩ = some (.int .i64 (num4 a b c d j)) := by
  rw [Q]
  have hjj : j = 0 ∨ j = 1 ∨ j = 2 ∨ j = 3 := by omega
  rcases hjj with rfl | rfl | rfl | rfl <;> rfl

set_option maxRecDepth 100000 in
set_option maxHeartbeats 4000000 in
theorem opRight_s_bad (sys : Bool) (l1 l2 k : Int) (ow : ByteArray) (a b c d m1 m2 af : Int) (hH : headOk sys l1 l2 k af = false) (w : World) :
    Gives Tryz.prog 13 #[encOp sys l1 l2 k ow a b c d m1 m2 af] w (.bool false) := by
  have hH' := Lib.hid hH
  clear hH
  have hWd := l17Word_s k
  have hEm := wordOf_empty k
  generalize wordOf k = wd at *
  have hEm' : (wd.toList = []) ↔ isIn k 1 17 = false := by
    rw [show ByteArray.toList ⟨#[]⟩ = [] by rw [Lib.toList_data]] at hEm
    cases h : isIn k 1 17 <;> rw [h] at hEm <;> simpa using hEm
  clear hEm
  unfold Gives encOp
  obtain ⟨R, sR⟩ := fresh w #[.bool sys, .int .i64 l1, .int .i64 l2, .int .i64 k, .string ow, .int .i64 a, .int .i64 b, .int .i64 c, .int .i64 d, .int .i64 m1, .int .i64 m2, .int .i64 af] 26
  have B0 := bnew w (.cells #[.bool sys, .int .i64 l1, .int .i64 l2, .int .i64 k, .string ow, .int .i64 a, .int .i64 b, .int .i64 c, .int .i64 d, .int .i64 m1, .int .i64 m2, .int .i64 af] 26)
  go_enter Tryz.func13, Tryz.ntmps13
  go_wp2_with fail
  generalize w.alloc (.cells #[.bool sys, .int .i64 l1, .int .i64 l2, .int .i64 k, .string ow, .int .i64 a, .int .i64 b, .int .i64 c, .int .i64 d, .int .i64 m1, .int .i64 m2, .int .i64 af] 26) = w0 at *
  go_wp2_with (first
    | (go_at_call 53; refine (is_s _ _ _ _).use.mono ?_; rintro e w1 ⟨rfl, hb1⟩; obtain ⟨R, sR⟩ := carry R sR hb1)
    | (go_at_call 52; refine (labelRight_s _ _ _).use.mono ?_; rintro e w2 ⟨rfl, hb2⟩; obtain ⟨R, sR⟩ := carry R sR hb2)
    | (go_at_call 44; refine (hWd _).use.mono ?_; rintro e w3 ⟨rfl, hb3⟩; obtain ⟨R, sR⟩ := carry R sR hb3))
  all_goals clear R sR
  all_goals first
    | (go_ret; exact ⟨rfl, by (repeat (first | (with_reducible refine bset ?_ (by first | (simp; done) | (simp; omega)) _) | (with_reducible refine balloc ?_ _) | (with_reducible refine bdrew ?_) | with_reducible exact Below.refl _ _ | (refine bthen ?_ (by with_reducible assumption)) | (refine bthen ?_ (by assumption)) | exact Below.refl _ _))⟩)
    | (exfalso; have h := hH'.out; unfold headOk at h; simp_all [isIn]; done)
    | (exfalso; have h := hH'.out; unfold headOk at h; rename_i h12 hz; have h13 : ¬ (12 : Int) ≤ k := (by omega); simp_all [isIn]; done)

set_option maxRecDepth 100000 in
set_option maxHeartbeats 4000000 in
theorem opRight_s_sys (k : Int) (ow : ByteArray) (a b c d m1 m2 af : Int) (how : ow.size ≤ maxLen) (h1 : 1 ≤ k) (h17 : k ≤ 17) (h12 : 12 ≤ k) (hL : labelOk 0 0 = true) (hA : isIn af 0 9999999 = true) (w : World) :
    Gives Tryz.prog 13 #[encOp true 0 0 k ow a b c d m1 m2 af] w (.bool (numsOk k a b c d && tailOk k ow b m1 m2 af)) := by
  have hWd := l17Word_s k
  have hEm := wordOf_empty k
  rw [show isIn k 1 17 = true by simp [isIn, h1, h17]] at hEm
  generalize wordOf k = wd at *
  have hEm' : ¬ (wd.toList = []) := by
    rw [show ByteArray.toList ⟨#[]⟩ = [] by rw [Lib.toList_data]] at hEm
    simpa using hEm
  have hEm2 : wd.toList.isEmpty = false := by simpa using hEm'
  have hKK : decide (12 ≤ k) = true := by simp; omega
  clear hEm
  have hLL : ∀ w, Gives Tryz.prog 52 #[.agg #[.int .i64 0, .int .i64 0]] w (.bool true) := fun w => by have h := labelRight_s 0 0 w; rwa [hL] at h
  have hAA : ∀ w, Gives Tryz.prog 53 #[.int .i64 af, .int .i64 0, .int .i64 9999999] w (.bool true) := fun w => by have h : Gives _ _ _ _ (.bool (isIn af 0 9999999)) := is_s af 0 9999999 w; rwa [hA] at h
  have hN : ∀ n w, Gives Tryz.prog 53 #[.int .i64 n, .int .i64 0, .int .i64 9999999] w (.bool (isIn n 0 9999999)) := fun n w => is_s n 0 9999999 w
  unfold Gives encOp
  obtain ⟨R, sR⟩ := fresh w #[.bool true, .int .i64 0, .int .i64 0, .int .i64 k, .string ow, .int .i64 a, .int .i64 b, .int .i64 c, .int .i64 d, .int .i64 m1, .int .i64 m2, .int .i64 af] 26
  have B0 := bnew w (.cells #[.bool true, .int .i64 0, .int .i64 0, .int .i64 k, .string ow, .int .i64 a, .int .i64 b, .int .i64 c, .int .i64 d, .int .i64 m1, .int .i64 m2, .int .i64 af] 26)
  go_enter Tryz.func13, Tryz.ntmps13
  go_wp2_with fail
  generalize w.alloc (.cells #[.bool true, .int .i64 0, .int .i64 0, .int .i64 k, .string ow, .int .i64 a, .int .i64 b, .int .i64 c, .int .i64 d, .int .i64 m1, .int .i64 m2, .int .i64 af] 26) = w0 at *
  go_wp2_with (first
    | (go_at_call 53; with_reducible refine (hAA _).use.mono ?_; rintro e w1 ⟨rfl, hb1⟩; have RR := carry R sR hb1; clear R sR; obtain ⟨R, sR⟩ := RR)
    | (go_at_call 52; with_reducible refine (hLL _).use.mono ?_; rintro e w2 ⟨rfl, hb2⟩; have RR := carry R sR hb2; clear R sR; obtain ⟨R, sR⟩ := RR)
    | (go_at_call 44; with_reducible refine (hWd _).use.mono ?_; rintro e w3 ⟨rfl, hb3⟩; have RR := carry R sR hb3; clear R sR; obtain ⟨R, sR⟩ := RR))
  have BB : Below w.heap.size w (w1.alloc (.cells #[.int .i64 a, .int .i64 b, .int .i64 c, .int .i64 d] 2)) := by (repeat (first | (with_reducible refine bset ?_ (by first | (simp; done) | (simp; omega)) _) | (with_reducible refine balloc ?_ _) | (with_reducible refine bdrew ?_) | with_reducible exact Below.refl _ _ | (refine bthen ?_ (by with_reducible assumption)) | (refine bthen ?_ (by assumption)) | exact Below.refl _ _))
  have HT := Lib.hid (tailOk_eqS (k := k) (ow := ow) (b := b) (m1 := m1) (m2 := m2) hA)
  have hNm := nameRight_s ow how
  generalize nameOk ow.data.toList = nm at *
  clear hb1 hb2 hb3 B0 hEm' hEm2 hKK hWd hLL hAA
  have RR := carryA R sR (.cells #[.int .i64 a, .int .i64 b, .int .i64 c, .int .i64 d] 2)
  clear R sR
  obtain ⟨R, sR⟩ := RR
  obtain ⟨Q, sS⟩ := fresh w1 #[.int .i64 a, .int .i64 b, .int .i64 c, .int .i64 d] 2
  go_loopw [4] (fun i wr => ∃ j : Nat, j ≤ 4 ∧ i = .int .i64 j ∧ Hid (numsTo k a b c d j = true) ∧ w.heap.size < wr.heap.size ∧ w1.heap.size < wr.heap.size ∧
    (∀ i, wr.cell? ⟨w.heap.size, i, none⟩ = (#[.bool true, .int .i64 0, .int .i64 0, .int .i64 k, .string ow, .int .i64 a, .int .i64 b, .int .i64 c, .int .i64 d, .int .i64 m1, .int .i64 m2, .int .i64 af] : Array Value)[i]?) ∧ (∀ i, wr.cell? ⟨w1.heap.size, i, none⟩ = (#[.int .i64 a, .int .i64 b, .int .i64 c, .int .i64 d] : Array Value)[i]?) ∧ Below w.heap.size w wr) (fun i _ => 4 - (intOf i).toNat)
  case atStart => exact ⟨0, by omega, rfl, Lib.hid rfl, sR, sS, R, Q, BB⟩
  case round =>
    clear R Q sR sS BB
    obtain ⟨j, hj, rfl, HN, sR, sS, R, Q, BB⟩ := hrel
    by_cases hj4 : j < 4
    · have i1 : (j : Int) < 4 := by omega
      have hc := four_cell Q hj4
      have Q' := Lib.hid Q
      clear HT Q
      go_wp2_with (first
        | (go_at_call 53; refine (hN _ _).use.mono ?_; rintro e w5 ⟨rfl, hb5⟩; have RR := carry R sR hb5; clear R sR; obtain ⟨R, sR⟩ := RR; have QQ := carryH Q' sS hb5; clear Q' sS hc; obtain ⟨Q', sS⟩ := QQ; have hc := four_cell Q'.out hj4)
        | (go_at_call 45; refine (l17Many_s _ _).use.mono ?_; rintro e w6 ⟨rfl, hb6⟩; have RR := carry R sR hb6; clear R sR; obtain ⟨R, sR⟩ := RR; have QQ := carryH Q' sS hb6; clear Q' sS hc; obtain ⟨Q', sS⟩ := QQ; have hc := four_cell Q'.out hj4))
      all_goals first
        | (refine ⟨⟨j + 1, by omega, by go_num, Lib.hid ?_, sR, sS, R, Q'.out, by (repeat (first | (with_reducible refine bset ?_ (by first | (simp; done) | (simp; omega)) _) | (with_reducible refine balloc ?_ _) | (with_reducible refine bdrew ?_) | with_reducible exact Below.refl _ _ | (refine bthen ?_ (by with_reducible assumption)) | (refine bthen ?_ (by assumption)) | exact Below.refl _ _))⟩, by simp [intOf]; omega⟩
           clear R Q' hc hN hNm
           first
             | exact numsTo_succ hj4 HN.out (numOk_le (by assumption) (by omega))
             | exact numsTo_succ hj4 HN.out (numOk_z (by assumption) (by simp_all)))
        | (go_ret
           refine ⟨?_, by (repeat (first | (with_reducible refine bset ?_ (by first | (simp; done) | (simp; omega)) _) | (with_reducible refine balloc ?_ _) | (with_reducible refine bdrew ?_) | with_reducible exact Below.refl _ _ | (refine bthen ?_ (by with_reducible assumption)) | (refine bthen ?_ (by assumption)) | exact Below.refl _ _))⟩
           have hz : numOk k j (num4 a b c d j) = false := (by first | exact numOk_bad (by simpa using ‹¬isIn _ _ _ = true›) | exact numOk_no (by omega) (by simp_all))
           rw [nums_badj hj4 hz]
           rfl)
    · obtain rfl : j = 4 := by omega
      have HE : Hid ((numsOk k a b c d && tailOk k ow b m1 m2 af) = tailS k (decide (ow.toList = [])) nm b m1 m2 af) := by
        have HP : numsOk k a b c d = true := HN.out
        rw [HP, Bool.true_and, HT.out]; exact Lib.hid rfl
      clear HN HT
      have g3 : ∀ x : Later _, x.now.cell? ⟨w.heap.size, 3, none⟩ = some (.int .i64 k) := fun x => later_cells R sR 3 x
      have g4 : ∀ x : Later _, x.now.cell? ⟨w.heap.size, 4, none⟩ = some (.string ow) := fun x => later_cells R sR 4 x
      have R' := Lib.hid R
      clear R Q sS
      have hcs : k = 1 ∨ ((k == 1) = false ∧ (k != 1) = true ∧ ¬ k = 1) := by
        by_cases h : k = 1
        · exact .inl h
        · exact .inr (by simp [h])
      rcases hcs with rfl | ⟨e1, e2, e3⟩
      all_goals cases nm
      all_goals try (exfalso; omega)
      all_goals
        go_wp2
        refine wp_region_later (by kernel_rfl) (by kernel_rfl) ?_
        repeat (go_big_quiet_step ((go_at_call 54; exact Gives.later _ (hNm _))))
        refine wpQuiet_nil ?_
        rintro _ ⟨x, rfl⟩
        have hx := x.ok
        obtain ⟨R, sR⟩ := carry R'.out sR hx
        clear g3 g4 R' hNm
        generalize x.now = w9 at *
      all_goals
        go_wp2_with (first
          | (go_at_call 52; refine (labelRight_s _ _ _).use.mono ?_; rintro e w6 ⟨rfl, hb6⟩; have RR := carry R sR hb6; clear R sR; obtain ⟨R, sR⟩ := RR)
          | (go_at_call 55; refine (l10State_s _ _).use.mono ?_; rintro e w7 ⟨rfl, hb7⟩; have RR := carry R sR hb7; clear R sR; obtain ⟨R, sR⟩ := RR))
      all_goals go_ret
      all_goals refine ⟨?_, by (repeat (first | (with_reducible refine bset ?_ (by first | (simp; done) | (simp; omega)) _) | (with_reducible refine balloc ?_ _) | (with_reducible refine bdrew ?_) | with_reducible exact Below.refl _ _ | (refine bthen ?_ (by with_reducible assumption)) | (refine bthen ?_ (by assumption)) | exact Below.refl _ _))⟩
      all_goals rw [HE.out]
      all_goals clear R HE
      all_goals unfold tailS
      all_goals first
        | (clear BB; simp_all; done)
        | (clear BB; simp_all; omega)
set_option maxRecDepth 100000 in
set_option maxHeartbeats 4000000 in
theorem opRight_s_own (l1 l2 : Int) (k : Int) (ow : ByteArray) (a b c d m1 m2 af : Int) (how : ow.size ≤ maxLen) (h1 : 1 ≤ k) (h17 : k ≤ 17) (h12 : k < 12) (hL : labelOk l1 l2 = true) (hA : isIn af 0 9999999 = true) (w : World) :
    Gives Tryz.prog 13 #[encOp false l1 l2 k ow a b c d m1 m2 af] w (.bool (numsOk k a b c d && tailOk k ow b m1 m2 af)) := by
  have hWd := l17Word_s k
  have hEm := wordOf_empty k
  rw [show isIn k 1 17 = true by simp [isIn, h1, h17]] at hEm
  generalize wordOf k = wd at *
  have hEm' : ¬ (wd.toList = []) := by
    rw [show ByteArray.toList ⟨#[]⟩ = [] by rw [Lib.toList_data]] at hEm
    simpa using hEm
  have hEm2 : wd.toList.isEmpty = false := by simpa using hEm'
  have hKK : decide (12 ≤ k) = false := by simp; omega
  clear hEm
  have hLL : ∀ w, Gives Tryz.prog 52 #[.agg #[.int .i64 l1, .int .i64 l2]] w (.bool true) := fun w => by have h := labelRight_s l1 l2 w; rwa [hL] at h
  have hAA : ∀ w, Gives Tryz.prog 53 #[.int .i64 af, .int .i64 0, .int .i64 9999999] w (.bool true) := fun w => by have h : Gives _ _ _ _ (.bool (isIn af 0 9999999)) := is_s af 0 9999999 w; rwa [hA] at h
  have hN : ∀ n w, Gives Tryz.prog 53 #[.int .i64 n, .int .i64 0, .int .i64 9999999] w (.bool (isIn n 0 9999999)) := fun n w => is_s n 0 9999999 w
  unfold Gives encOp
  obtain ⟨R, sR⟩ := fresh w #[.bool false, .int .i64 l1, .int .i64 l2, .int .i64 k, .string ow, .int .i64 a, .int .i64 b, .int .i64 c, .int .i64 d, .int .i64 m1, .int .i64 m2, .int .i64 af] 26
  have B0 := bnew w (.cells #[.bool false, .int .i64 l1, .int .i64 l2, .int .i64 k, .string ow, .int .i64 a, .int .i64 b, .int .i64 c, .int .i64 d, .int .i64 m1, .int .i64 m2, .int .i64 af] 26)
  go_enter Tryz.func13, Tryz.ntmps13
  go_wp2_with fail
  generalize w.alloc (.cells #[.bool false, .int .i64 l1, .int .i64 l2, .int .i64 k, .string ow, .int .i64 a, .int .i64 b, .int .i64 c, .int .i64 d, .int .i64 m1, .int .i64 m2, .int .i64 af] 26) = w0 at *
  go_wp2_with (first
    | (go_at_call 53; with_reducible refine (hAA _).use.mono ?_; rintro e w1 ⟨rfl, hb1⟩; have RR := carry R sR hb1; clear R sR; obtain ⟨R, sR⟩ := RR)
    | (go_at_call 52; with_reducible refine (hLL _).use.mono ?_; rintro e w2 ⟨rfl, hb2⟩; have RR := carry R sR hb2; clear R sR; obtain ⟨R, sR⟩ := RR)
    | (go_at_call 44; with_reducible refine (hWd _).use.mono ?_; rintro e w3 ⟨rfl, hb3⟩; have RR := carry R sR hb3; clear R sR; obtain ⟨R, sR⟩ := RR))
  have BB : Below w.heap.size w (w1.alloc (.cells #[.int .i64 a, .int .i64 b, .int .i64 c, .int .i64 d] 2)) := by (repeat (first | (with_reducible refine bset ?_ (by first | (simp; done) | (simp; omega)) _) | (with_reducible refine balloc ?_ _) | (with_reducible refine bdrew ?_) | with_reducible exact Below.refl _ _ | (refine bthen ?_ (by with_reducible assumption)) | (refine bthen ?_ (by assumption)) | exact Below.refl _ _))
  have HT := Lib.hid (tailOk_eqS (k := k) (ow := ow) (b := b) (m1 := m1) (m2 := m2) hA)
  have hNm := nameRight_s ow how
  generalize nameOk ow.data.toList = nm at *
  clear hb1 hb2 hb3 B0 hEm' hEm2 hKK hWd hLL hAA
  have RR := carryA R sR (.cells #[.int .i64 a, .int .i64 b, .int .i64 c, .int .i64 d] 2)
  clear R sR
  obtain ⟨R, sR⟩ := RR
  obtain ⟨Q, sS⟩ := fresh w1 #[.int .i64 a, .int .i64 b, .int .i64 c, .int .i64 d] 2
  go_loopw [4] (fun i wr => ∃ j : Nat, j ≤ 4 ∧ i = .int .i64 j ∧ Hid (numsTo k a b c d j = true) ∧ w.heap.size < wr.heap.size ∧ w1.heap.size < wr.heap.size ∧
    (∀ i, wr.cell? ⟨w.heap.size, i, none⟩ = (#[.bool false, .int .i64 l1, .int .i64 l2, .int .i64 k, .string ow, .int .i64 a, .int .i64 b, .int .i64 c, .int .i64 d, .int .i64 m1, .int .i64 m2, .int .i64 af] : Array Value)[i]?) ∧ (∀ i, wr.cell? ⟨w1.heap.size, i, none⟩ = (#[.int .i64 a, .int .i64 b, .int .i64 c, .int .i64 d] : Array Value)[i]?) ∧ Below w.heap.size w wr) (fun i _ => 4 - (intOf i).toNat)
  case atStart => exact ⟨0, by omega, rfl, Lib.hid rfl, sR, sS, R, Q, BB⟩
  case round =>
    clear R Q sR sS BB
    obtain ⟨j, hj, rfl, HN, sR, sS, R, Q, BB⟩ := hrel
    by_cases hj4 : j < 4
    · have i1 : (j : Int) < 4 := by omega
      have hc := four_cell Q hj4
      have Q' := Lib.hid Q
      clear HT Q
      go_wp2_with (first
        | (go_at_call 53; refine (hN _ _).use.mono ?_; rintro e w5 ⟨rfl, hb5⟩; have RR := carry R sR hb5; clear R sR; obtain ⟨R, sR⟩ := RR; have QQ := carryH Q' sS hb5; clear Q' sS hc; obtain ⟨Q', sS⟩ := QQ; have hc := four_cell Q'.out hj4)
        | (go_at_call 45; refine (l17Many_s _ _).use.mono ?_; rintro e w6 ⟨rfl, hb6⟩; have RR := carry R sR hb6; clear R sR; obtain ⟨R, sR⟩ := RR; have QQ := carryH Q' sS hb6; clear Q' sS hc; obtain ⟨Q', sS⟩ := QQ; have hc := four_cell Q'.out hj4))
      all_goals first
        | (refine ⟨⟨j + 1, by omega, by go_num, Lib.hid ?_, sR, sS, R, Q'.out, by (repeat (first | (with_reducible refine bset ?_ (by first | (simp; done) | (simp; omega)) _) | (with_reducible refine balloc ?_ _) | (with_reducible refine bdrew ?_) | with_reducible exact Below.refl _ _ | (refine bthen ?_ (by with_reducible assumption)) | (refine bthen ?_ (by assumption)) | exact Below.refl _ _))⟩, by simp [intOf]; omega⟩
           clear R Q' hc hN hNm
           first
             | exact numsTo_succ hj4 HN.out (numOk_le (by assumption) (by omega))
             | exact numsTo_succ hj4 HN.out (numOk_z (by assumption) (by simp_all)))
        | (go_ret
           refine ⟨?_, by (repeat (first | (with_reducible refine bset ?_ (by first | (simp; done) | (simp; omega)) _) | (with_reducible refine balloc ?_ _) | (with_reducible refine bdrew ?_) | with_reducible exact Below.refl _ _ | (refine bthen ?_ (by with_reducible assumption)) | (refine bthen ?_ (by assumption)) | exact Below.refl _ _))⟩
           have hz : numOk k j (num4 a b c d j) = false := (by first | exact numOk_bad (by simpa using ‹¬isIn _ _ _ = true›) | exact numOk_no (by omega) (by simp_all))
           rw [nums_badj hj4 hz]
           rfl)
    · obtain rfl : j = 4 := by omega
      have HE : Hid ((numsOk k a b c d && tailOk k ow b m1 m2 af) = tailS k (decide (ow.toList = [])) nm b m1 m2 af) := by
        have HP : numsOk k a b c d = true := HN.out
        rw [HP, Bool.true_and, HT.out]; exact Lib.hid rfl
      clear HN HT
      have g3 : ∀ x : Later _, x.now.cell? ⟨w.heap.size, 3, none⟩ = some (.int .i64 k) := fun x => later_cells R sR 3 x
      have g4 : ∀ x : Later _, x.now.cell? ⟨w.heap.size, 4, none⟩ = some (.string ow) := fun x => later_cells R sR 4 x
      have R' := Lib.hid R
      clear R Q sS
      have hcs : k = 1 ∨ ((k == 1) = false ∧ (k != 1) = true ∧ ¬ k = 1) := by
        by_cases h : k = 1
        · exact .inl h
        · exact .inr (by simp [h])
      rcases hcs with rfl | ⟨e1, e2, e3⟩
      all_goals cases nm
      all_goals try (exfalso; omega)
      all_goals
        go_wp2
        refine wp_region_later (by kernel_rfl) (by kernel_rfl) ?_
        repeat (go_big_quiet_step ((go_at_call 54; exact Gives.later _ (hNm _))))
        refine wpQuiet_nil ?_
        rintro _ ⟨x, rfl⟩
        have hx := x.ok
        obtain ⟨R, sR⟩ := carry R'.out sR hx
        clear g3 g4 R' hNm
        generalize x.now = w9 at *
      all_goals
        go_wp2_with (first
          | (go_at_call 52; refine (labelRight_s _ _ _).use.mono ?_; rintro e w6 ⟨rfl, hb6⟩; have RR := carry R sR hb6; clear R sR; obtain ⟨R, sR⟩ := RR)
          | (go_at_call 55; refine (l10State_s _ _).use.mono ?_; rintro e w7 ⟨rfl, hb7⟩; have RR := carry R sR hb7; clear R sR; obtain ⟨R, sR⟩ := RR))
      all_goals go_ret
      all_goals refine ⟨?_, by (repeat (first | (with_reducible refine bset ?_ (by first | (simp; done) | (simp; omega)) _) | (with_reducible refine balloc ?_ _) | (with_reducible refine bdrew ?_) | with_reducible exact Below.refl _ _ | (refine bthen ?_ (by with_reducible assumption)) | (refine bthen ?_ (by assumption)) | exact Below.refl _ _))⟩
      all_goals rw [HE.out]
      all_goals clear R HE
      all_goals unfold tailS
      all_goals first
        | (clear BB; simp_all; done)
        | (clear BB; simp_all; omega)
end Go.Proofs.YtfblolkkajppcaaGreatDoor
