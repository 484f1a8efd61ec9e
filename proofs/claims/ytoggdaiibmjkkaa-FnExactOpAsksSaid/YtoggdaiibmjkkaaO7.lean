import Derived.Test.YtoggdaiibmjkkaaO6
import Derived.Test.YtoggdaiibmjkkaaBlk
namespace Go.Proofs.Ytoggdaiibmjkkaa
open Go.RowKit M

theorem opRight_s (sys : Bool) (l1 l2 k : Int) (ow : ByteArray) (a b c d m1 m2 af : Int) (how : ow.size ≤ maxLen) (w : World) :
    Gives Try.prog 23 #[encOp sys l1 l2 k ow a b c d m1 m2 af] w (.bool (opOk sys l1 l2 k ow a b c d m1 m2 af)) := by
  unfold opOk
  rw [Bool.and_assoc]
  cases hH : headOk sys l1 l2 k af
  · exact opRight_s_bad sys l1 l2 k ow a b c d m1 m2 af hH w
  · rw [Bool.true_and]
    obtain ⟨⟨h1, h17⟩, hL, hA, ⟨rfl, h12, rfl, rfl⟩ | ⟨rfl, h12⟩⟩ := head_facts hH
    · exact opRight_s_sys k ow a b c d m1 m2 af how h1 h17 h12 hL hA w
    · exact opRight_s_own l1 l2 k ow a b c d m1 m2 af how h1 h17 h12 hL hA w
theorem toLabel_l (a b : Int) (w : World) : Gives Try.prog 53 #[.agg #[.int .i64 a, .int .i64 b]] w (.agg #[.int .i64 a, .int .i64 b]) := by
  unfold Gives
  go_enter Try.func53, Try.ntmps53
  go_wp2
  exact bodyPost_ret (v := .agg #[.int .i64 a, .int .i64 b]) (by simp [results, Try.results53, go_sem]) rfl ⟨rfl, by (repeat (first | (with_reducible refine bset ?_ (by first | (simp; done) | (simp; omega)) _) | (with_reducible refine balloc ?_ _) | (with_reducible refine bdrew ?_) | (refine bthen ?_ (by with_reducible assumption)) | with_reducible exact Below.refl _ _ | (refine bthen ?_ (by assumption)) | exact Below.refl _ _))⟩
set_option maxRecDepth 100000 in
set_option maxHeartbeats 8000000 in
theorem toOp_l (sys : Bool) (l1 l2 k : Int) (ow : ByteArray) (a b c d m1 m2 af : Int) (w : World) :
    Gives Try.prog 24 #[encOp sys l1 l2 k ow a b c d m1 m2 af] w (encOp sys l1 l2 k ow a b c d m1 m2 af) := by
  unfold Gives encOp
  go_enter Try.func24, Try.ntmps24
  go_wp2_with fail
  refine (toLabel_l _ _ _).use.mono ?_
  rintro e w1 ⟨rfl, hb1⟩
  (apply Blk.use (w := w1) (g := w.heap.size); (focus (apply Blk.lat hb1; (repeat (first | with_reducible assumption | ((with_reducible apply Blk.new'); first | rfl | (simp; done)) | with_reducible apply Blk.set_ | (with_reducible apply Blk.far' (by first | (simp; done) | (simp; omega))) | with_reducible apply Blk.alloc | with_reducible apply Blk.drew)))); intro A1; (try simp only [List.setIfInBounds_toArray, List.set_cons_zero, List.set_cons_succ] at A1); have A1c := A1.cell; have A1f := A1.frozen)
  (apply Blk.use (w := w1) (g := w.heap.size + 1 + 1); (focus (apply Blk.lat hb1; (repeat (first | with_reducible assumption | ((with_reducible apply Blk.new'); first | rfl | (simp; done)) | with_reducible apply Blk.set_ | (with_reducible apply Blk.far' (by first | (simp; done) | (simp; omega))) | with_reducible apply Blk.alloc | with_reducible apply Blk.drew)))); intro O1; (try simp only [List.setIfInBounds_toArray, List.set_cons_zero, List.set_cons_succ] at O1); have O1c := O1.cell; have O1f := O1.frozen)
  (apply Blk.use (w := w1) (g := w.heap.size + 1); (focus (apply Blk.lat hb1; (repeat (first | with_reducible assumption | ((with_reducible apply Blk.new'); first | rfl | (simp; done)) | with_reducible apply Blk.set_ | (with_reducible apply Blk.far' (by first | (simp; done) | (simp; omega))) | with_reducible apply Blk.alloc | with_reducible apply Blk.drew)))); intro Z1; (try simp only [List.setIfInBounds_toArray, List.set_cons_zero, List.set_cons_succ] at Z1); have Z1c := Z1.cell; have Z1f := Z1.frozen)
  have B1 : Below w.heap.size w w1 := by (repeat (first | (with_reducible refine bset ?_ (by first | (simp; done) | (simp; omega)) _) | (with_reducible refine balloc ?_ _) | (with_reducible refine bdrew ?_) | (refine bthen ?_ (by with_reducible assumption)) | with_reducible exact Below.refl _ _ | (refine bthen ?_ (by assumption)) | exact Below.refl _ _))
  clear hb1
  go_wp2_with fail
  refine (toLabel_l _ _ _).use.mono ?_
  rintro e w2 ⟨rfl, hb2⟩
  (apply Blk.use (w := w2) (g := w.heap.size); (focus (apply Blk.lat hb2; (repeat (first | with_reducible assumption | ((with_reducible apply Blk.new'); first | rfl | (simp; done)) | with_reducible apply Blk.set_ | (with_reducible apply Blk.far' (by first | (simp; done) | (simp; omega))) | with_reducible apply Blk.alloc | with_reducible apply Blk.drew)))); intro A2; (try simp only [List.setIfInBounds_toArray, List.set_cons_zero, List.set_cons_succ] at A2); have A2c := A2.cell; have A2f := A2.frozen)
  (apply Blk.use (w := w2) (g := w.heap.size + 1 + 1); (focus (apply Blk.lat hb2; (repeat (first | with_reducible assumption | ((with_reducible apply Blk.new'); first | rfl | (simp; done)) | with_reducible apply Blk.set_ | (with_reducible apply Blk.far' (by first | (simp; done) | (simp; omega))) | with_reducible apply Blk.alloc | with_reducible apply Blk.drew)))); intro O2; (try simp only [List.setIfInBounds_toArray, List.set_cons_zero, List.set_cons_succ] at O2); have O2c := O2.cell; have O2f := O2.frozen)
  (apply Blk.use (w := w2) (g := w.heap.size + 1); (focus (apply Blk.lat hb2; (repeat (first | with_reducible assumption | ((with_reducible apply Blk.new'); first | rfl | (simp; done)) | with_reducible apply Blk.set_ | (with_reducible apply Blk.far' (by first | (simp; done) | (simp; omega))) | with_reducible apply Blk.alloc | with_reducible apply Blk.drew)))); intro Z2; (try simp only [List.setIfInBounds_toArray, List.set_cons_zero, List.set_cons_succ] at Z2); have Z2c := Z2.cell; have Z2f := Z2.frozen)
  have B2 : Below w.heap.size w w2 := by (repeat (first | (with_reducible refine bset ?_ (by first | (simp; done) | (simp; omega)) _) | (with_reducible refine balloc ?_ _) | (with_reducible refine bdrew ?_) | (refine bthen ?_ (by with_reducible assumption)) | with_reducible exact Below.refl _ _ | (refine bthen ?_ (by assumption)) | exact Below.refl _ _))
  clear hb2 A1 O1 A1c A1f O1c O1f Z1 Z1c Z1f
  go_wp2
  refine bp_world ?_
  intro w3 hw3
  (apply Blk.use (w := w3) (g := w.heap.size + 1); (focus (rw [hw3]; (repeat (first | with_reducible assumption | ((with_reducible apply Blk.new'); first | rfl | (simp; done)) | with_reducible apply Blk.set_ | (with_reducible apply Blk.far' (by first | (simp; done) | (simp; omega))) | with_reducible apply Blk.alloc | with_reducible apply Blk.drew)))); intro Z3; (try simp only [List.setIfInBounds_toArray, List.set_cons_zero, List.set_cons_succ] at Z3); have Z3c := Z3.cell; have Z3f := Z3.frozen)
  have B3 : Below w.heap.size w w3 := by rw [hw3]; (repeat (first | (with_reducible refine bset ?_ (by first | (simp; done) | (simp; omega)) _) | (with_reducible refine balloc ?_ _) | (with_reducible refine bdrew ?_) | (refine bthen ?_ (by with_reducible assumption)) | with_reducible exact Below.refl _ _ | (refine bthen ?_ (by assumption)) | exact Below.refl _ _))
  clear hw3 A2 A2c A2f O2 O2c O2f Z2 Z2c Z2f
  exact bodyPost_ret (v := .agg #[.bool sys, .int .i64 l1, .int .i64 l2, .int .i64 k, .string ow, .int .i64 a, .int .i64 b, .int .i64 c, .int .i64 d, .int .i64 m1, .int .i64 m2, .int .i64 af]) (by simp [results, Try.results24, go_sem, Z3c]) rfl ⟨rfl, B3⟩
theorem szOp_l (sys : Bool) (l1 l2 k : Int) (ow : ByteArray) (a b c d m1 m2 af : Int) (m : Int) (hm : 0 ≤ m ∧ m ≤ 1048576) (ht : ow.size ≤ maxLen) (w : World) :
    Gives Try.prog 22 #[encOp sys l1 l2 k ow a b c d m1 m2 af, .int .i64 m] w (.int .i64 (if m < ow.size then -1 else m - ow.size)) := by
  unfold Gives encOp
  unfold maxLen at ht
  by_cases h : m < ow.size
  · rw [if_pos h]
    go_enter Try.func22, Try.ntmps22
    go_wp2
    go_ret
    exact ⟨rfl, bnew _ _⟩
  · rw [if_neg h]
    go_enter Try.func22, Try.ntmps22
    go_wp2
    go_ret
    exact ⟨rfl, bnew _ _⟩
namespace M
def asksOk (sys : Bool) (l1 l2 k : Int) (ow : ByteArray) (a b c d m1 m2 af : Int) : Bool := opOk sys l1 l2 k ow a b c d m1 m2 af && isIn k 8 11
end M
theorem isQuery_i (n : Int) (w : World) : Gives Try.prog 60 #[.int .i64 n] w (.bool (isIn n 8 11)) := by
  unfold Gives
  go_enter Try.func60, Try.ntmps60
  go_wp2_with (go_at_call 32; refine (within_i _ _ _ _).use.mono ?_; rintro e w1 ⟨rfl, hb1⟩; obtain ⟨hc1, hf1⟩ := bcell hb1)
  go_ret
  exact ⟨rfl, hb1⟩
theorem opAsks_i (sys : Bool) (l1 l2 k : Int) (ow : ByteArray) (a b c d m1 m2 af : Int) (how : ow.size ≤ maxLen) (w : World) :
    Gives Try.prog 27 #[encOp sys l1 l2 k ow a b c d m1 m2 af] w (.bool (asksOk sys l1 l2 k ow a b c d m1 m2 af)) := by
  have hR := opRight_i sys l1 l2 k ow a b c d m1 m2 af how
  unfold asksOk
  generalize opOk sys l1 l2 k ow a b c d m1 m2 af = r at *
  unfold encOp at *
  unfold Gives
  go_enter Try.func27, Try.ntmps27
  go_wp2_with (first
    | (go_at_call 25; refine (hR _).use.mono ?_; rintro e w1 ⟨rfl, hb1⟩; obtain ⟨hc1, hf1, hs1⟩ := bcell1 hb1)
    | (go_at_call 60; refine (isQuery_i _ _).use.mono ?_; rintro e w2 ⟨rfl, hb2⟩; obtain ⟨hc2, hf2⟩ := bcell hb2))
  all_goals go_ret
  all_goals refine ⟨?_, by (repeat (first | (with_reducible refine bset ?_ (by first | (simp; done) | (simp; omega)) _) | (with_reducible refine balloc ?_ _) | (with_reducible refine bdrew ?_) | (refine bthen ?_ (by with_reducible assumption)) | with_reducible exact Below.refl _ _ | (refine bthen ?_ (by assumption)) | exact Below.refl _ _))⟩
  all_goals simp_all
theorem opAsks_s (sys : Bool) (l1 l2 k : Int) (ow : ByteArray) (a b c d m1 m2 af : Int) (how : ow.size ≤ maxLen) (w : World) :
    Gives Try.prog 26 #[encOp sys l1 l2 k ow a b c d m1 m2 af] w (.bool (asksOk sys l1 l2 k ow a b c d m1 m2 af)) := by
  have hR := opRight_s sys l1 l2 k ow a b c d m1 m2 af how
  unfold asksOk isIn
  generalize opOk sys l1 l2 k ow a b c d m1 m2 af = r at *
  unfold encOp at *
  unfold Gives
  go_enter Try.func26, Try.ntmps26
  go_wp2_with (go_at_call 23; refine (hR _).use.mono ?_; rintro e w1 ⟨rfl, hb1⟩; obtain ⟨hc1, hf1, hs1⟩ := bcell1 hb1)
  all_goals go_ret
  all_goals refine ⟨?_, by (repeat (first | (with_reducible refine bset ?_ (by first | (simp; done) | (simp; omega)) _) | (with_reducible refine balloc ?_ _) | (with_reducible refine bdrew ?_) | (refine bthen ?_ (by with_reducible assumption)) | with_reducible exact Below.refl _ _ | (refine bthen ?_ (by assumption)) | exact Below.refl _ _))⟩
  all_goals first | (simp_all; done) | (simp_all; omega)

theorem law_OpRight' (sys : Bool) (l1 l2 k : Int) (ow : ByteArray) (a b c d m1 m2 af : Int) (ht : ow.size ≤ maxLen) (w : World) :
    Gives Try.prog 6 #[encOp sys l1 l2 k ow a b c d m1 m2 af] w (.bool true) := by
  have hI := opRight_i sys l1 l2 k ow a b c d m1 m2 af ht
  have hS := opRight_s sys l1 l2 k ow a b c d m1 m2 af ht
  have hZ := szOp_l sys l1 l2 k ow a b c d m1 m2 af 1048576 (by omega) ht
  have hT := toOp_l sys l1 l2 k ow a b c d m1 m2 af
  generalize opOk sys l1 l2 k ow a b c d m1 m2 af = r at *
  unfold Gives
  unfold encOp at *
  by_cases h : (1048576 : Int) < ow.size
  · rw [if_pos h] at hZ
    clear h
    go_enter Try.func6, Try.ntmps6
    go_wp2_with (go_at_call 22; refine (hZ _).use.mono ?_; rintro e w1 ⟨rfl, hb1⟩; obtain ⟨hc1, hf1, hs1⟩ := bcell1 hb1)
    go_ret
    exact ⟨rfl, by (repeat (first | (with_reducible refine bset ?_ (by first | (simp; done) | (simp; omega)) _) | (with_reducible refine balloc ?_ _) | (with_reducible refine bdrew ?_) | (refine bthen ?_ (by with_reducible assumption)) | with_reducible exact Below.refl _ _ | (refine bthen ?_ (by assumption)) | exact Below.refl _ _))⟩
  · rw [if_neg h] at hZ
    have h' : (ow.size : Int) ≤ 1048576 := by omega
    clear h
    obtain ⟨R, sR⟩ := fresh w #[.bool sys, .int .i64 l1, .int .i64 l2, .int .i64 k, .string ow, .int .i64 a, .int .i64 b, .int .i64 c, .int .i64 d, .int .i64 m1, .int .i64 m2, .int .i64 af] 46
    have B0 := bnew w (.cells #[.bool sys, .int .i64 l1, .int .i64 l2, .int .i64 k, .string ow, .int .i64 a, .int .i64 b, .int .i64 c, .int .i64 d, .int .i64 m1, .int .i64 m2, .int .i64 af] 46)
    go_enter Try.func6, Try.ntmps6
    go_wp2_with fail
    generalize w.alloc (.cells #[.bool sys, .int .i64 l1, .int .i64 l2, .int .i64 k, .string ow, .int .i64 a, .int .i64 b, .int .i64 c, .int .i64 d, .int .i64 m1, .int .i64 m2, .int .i64 af] 46) = w0 at *
    go_wp2_with (first
      | (go_at_call 22; refine (hZ _).use.mono ?_; rintro e w1 ⟨rfl, hb1⟩; have RR := carry R sR hb1; clear R sR; obtain ⟨R, sR⟩ := RR)
      | (go_at_call 24; refine (hT _).use.mono ?_; rintro e w2 ⟨rfl, hb2⟩; have RR := carry R sR hb2; clear R sR; obtain ⟨R, sR⟩ := RR)
      | (go_at_call 23; refine (hS _).use.mono ?_; rintro e w3 ⟨rfl, hb3⟩; have RR := carry R sR hb3; clear R sR; obtain ⟨R, sR⟩ := RR)
      | (go_at_call 25; refine (hI _).use.mono ?_; rintro e w5 ⟨rfl, hb5⟩; have RR := carry R sR hb5; clear R sR; obtain ⟨R, sR⟩ := RR))
    go_ret
    exact ⟨rfl, by (repeat (first | (with_reducible refine bset ?_ (by first | (simp; done) | (simp; omega)) _) | (with_reducible refine balloc ?_ _) | (with_reducible refine bdrew ?_) | (refine bthen ?_ (by with_reducible assumption)) | with_reducible exact Below.refl _ _ | (refine bthen ?_ (by assumption)) | exact Below.refl _ _))⟩
theorem law_OpAsks' (sys : Bool) (l1 l2 k : Int) (ow : ByteArray) (a b c d m1 m2 af : Int) (ht : ow.size ≤ maxLen) (w : World) :
    Gives Try.prog 7 #[encOp sys l1 l2 k ow a b c d m1 m2 af] w (.bool true) := by
  have hI := opAsks_i sys l1 l2 k ow a b c d m1 m2 af ht
  have hS := opAsks_s sys l1 l2 k ow a b c d m1 m2 af ht
  have hZ := szOp_l sys l1 l2 k ow a b c d m1 m2 af 1048576 (by omega) ht
  have hT := toOp_l sys l1 l2 k ow a b c d m1 m2 af
  generalize asksOk sys l1 l2 k ow a b c d m1 m2 af = r at *
  unfold Gives
  unfold encOp at *
  by_cases h : (1048576 : Int) < ow.size
  · rw [if_pos h] at hZ
    clear h
    go_enter Try.func7, Try.ntmps7
    go_wp2_with (go_at_call 22; refine (hZ _).use.mono ?_; rintro e w1 ⟨rfl, hb1⟩; obtain ⟨hc1, hf1, hs1⟩ := bcell1 hb1)
    go_ret
    exact ⟨rfl, by (repeat (first | (with_reducible refine bset ?_ (by first | (simp; done) | (simp; omega)) _) | (with_reducible refine balloc ?_ _) | (with_reducible refine bdrew ?_) | (refine bthen ?_ (by with_reducible assumption)) | with_reducible exact Below.refl _ _ | (refine bthen ?_ (by assumption)) | exact Below.refl _ _))⟩
  · rw [if_neg h] at hZ
    have h' : (ow.size : Int) ≤ 1048576 := by omega
    clear h
    obtain ⟨R, sR⟩ := fresh w #[.bool sys, .int .i64 l1, .int .i64 l2, .int .i64 k, .string ow, .int .i64 a, .int .i64 b, .int .i64 c, .int .i64 d, .int .i64 m1, .int .i64 m2, .int .i64 af] 46
    have B0 := bnew w (.cells #[.bool sys, .int .i64 l1, .int .i64 l2, .int .i64 k, .string ow, .int .i64 a, .int .i64 b, .int .i64 c, .int .i64 d, .int .i64 m1, .int .i64 m2, .int .i64 af] 46)
    go_enter Try.func7, Try.ntmps7
    go_wp2_with fail
    generalize w.alloc (.cells #[.bool sys, .int .i64 l1, .int .i64 l2, .int .i64 k, .string ow, .int .i64 a, .int .i64 b, .int .i64 c, .int .i64 d, .int .i64 m1, .int .i64 m2, .int .i64 af] 46) = w0 at *
    go_wp2_with (first
      | (go_at_call 22; refine (hZ _).use.mono ?_; rintro e w1 ⟨rfl, hb1⟩; have RR := carry R sR hb1; clear R sR; obtain ⟨R, sR⟩ := RR)
      | (go_at_call 24; refine (hT _).use.mono ?_; rintro e w2 ⟨rfl, hb2⟩; have RR := carry R sR hb2; clear R sR; obtain ⟨R, sR⟩ := RR)
      | (go_at_call 26; refine (hS _).use.mono ?_; rintro e w3 ⟨rfl, hb3⟩; have RR := carry R sR hb3; clear R sR; obtain ⟨R, sR⟩ := RR)
      | (go_at_call 27; refine (hI _).use.mono ?_; rintro e w5 ⟨rfl, hb5⟩; have RR := carry R sR hb5; clear R sR; obtain ⟨R, sR⟩ := RR))
    go_ret
    exact ⟨rfl, by (repeat (first | (with_reducible refine bset ?_ (by first | (simp; done) | (simp; omega)) _) | (with_reducible refine balloc ?_ _) | (with_reducible refine bdrew ?_) | (refine bthen ?_ (by with_reducible assumption)) | with_reducible exact Below.refl _ _ | (refine bthen ?_ (by assumption)) | exact Below.refl _ _))⟩
end Go.Proofs.Ytoggdaiibmjkkaa
