import Derived.Test.YtnehiflandjkoaaE1
import Derived.Test.YtnehiflandjkoaaC6
import Derived.BigRegion
set_option linter.unusedSimpArgs false
set_option linter.unusedVariables false
namespace Go.Proofs.Ytnehiflandjkoaa
open Go.RowKit M
namespace M
/-- what a slot holds: number, text, whether it is a whole frame and nothing more -/
def heldOf (t : Bs) : Int × Bs × Bool := ((frameRead t 0).1, (frameRead t 0).2.1, decide ((frameRead t 0).2.2.2 = 0 ∧ (frameRead t 0).2.2.1 = t.length))
def slotFO (t : Bs) : FrameOut := if (frameRead t 0).2.2.2 = 0 ∧ (frameRead t 0).2.2.1 ≠ t.length then (0, [], 0, 3) else frameRead t 0
end M
theorem str_eq_bs (a : Bs) (s : ByteArray) : ((bs a).toList == s.toList) = decide (a = s.data.toList) := by
  rw [str_beq, decide_eq_decide, ← bs_inj, bs_data]

set_option maxRecDepth 100000 in
set_option maxHeartbeats 1000000 in
theorem held_i (s : ByteArray) (hs : s.size ≤ maxLen) (w : World) :
    Gives Try.prog 69 #[.string s] w (.tuple #[.agg #[.int .i64 (heldOf s.data.toList).1, .string (bs (heldOf s.data.toList).2.1)], .bool (heldOf s.data.toList).2.2]) := by
  unfold Gives
  have hF := fun w => frameRead_i s 0 hs w
  have hbad := frameRead_bad (t := s.data.toList) (a := 0)
  have hput := fun q x z (h : frameRead s.data.toList 0 = (q, x, z, 0)) => held_iff h
  have hH : heldOf s.data.toList = ((frameRead s.data.toList 0).1, (frameRead s.data.toList 0).2.1, decide ((frameRead s.data.toList 0).2.2.2 = 0 ∧ (frameRead s.data.toList 0).2.2.1 = s.data.toList.length)) := rfl
  rcases hx : frameRead s.data.toList 0 with ⟨q, x, z, c⟩
  rw [hx] at hF hbad hput hH
  dsimp only at hbad hH
  unfold encFO at hF
  dsimp only at hF
  have HF := Lib.hid hF
  have HH := Lib.hid hH
  by_cases hc : c = 0
  · subst hc
    have hq := hput q x z rfl
    have hB := fun w => frameBytes_i q (bs x) w
    simp only [data_bs] at hB
    have hd := str_eq_bs (frameBytes q x) s
    have hv : decide (frameBytes q x = s.data.toList) = (heldOf s.data.toList).2.2 := by
      rw [hH, decide_eq_decide, hq]; simp
    rw [hv] at hd
    generalize (heldOf s.data.toList).2.2 = b at *
    have hq1 : (heldOf s.data.toList).1 = q := by rw [hH]
    have hx1 : (heldOf s.data.toList).2.1 = x := by rw [hH]
    rw [hq1, hx1]
    have HB := Lib.hid hB
    clear hx hF hbad hput hH hq hB hv hq1 hx1 HH hs
    go_enter Try.func69, Try.ntmps69
    go_wp2_with (go_at_call 10; refine (HF.out _).use.mono ?_; rintro e w1 ⟨rfl, hb1⟩; (apply Blk.use (w := w1) (g := w.heap.size); (focus (apply Blk.lat hb1; (repeat (first | with_reducible assumption | ((with_reducible apply Blk.new'); first | rfl | (simp; done)) | with_reducible apply Blk.set_ | (with_reducible apply Blk.far' (by first | (simp; done) | (simp; omega))) | with_reducible apply Blk.alloc | with_reducible apply Blk.drew)))); intro Z1; (try simp only [List.setIfInBounds_toArray, List.set_cons_zero, List.set_cons_succ] at Z1); have Z1c := Z1.cell; have Z1f := Z1.frozen; have Z1s := Z1.lt))
    refine wp_world ?_
    intro w2 hw2
    (apply Blk.use (w := w2) (g := w.heap.size); (focus (rw [hw2]; (repeat (first | with_reducible assumption | ((with_reducible apply Blk.new'); first | rfl | (simp; done)) | with_reducible apply Blk.set_ | (with_reducible apply Blk.far' (by first | (simp; done) | (simp; omega))) | with_reducible apply Blk.alloc | with_reducible apply Blk.drew)))); intro Z2; (try simp only [List.setIfInBounds_toArray, List.set_cons_zero, List.set_cons_succ] at Z2); have Z2c := Z2.cell; have Z2f := Z2.frozen; have Z2s := Z2.lt)
    (apply Blk.use (w := w2) (g := w1.heap.size); (focus (rw [hw2]; (repeat (first | with_reducible assumption | ((with_reducible apply Blk.new'); first | rfl | (simp; done)) | with_reducible apply Blk.set_ | (with_reducible apply Blk.far' (by first | (simp; done) | (simp; omega))) | with_reducible apply Blk.alloc | with_reducible apply Blk.drew)))); intro F2; (try simp only [List.setIfInBounds_toArray, List.set_cons_zero, List.set_cons_succ] at F2); have F2c := F2.cell; have F2f := F2.frozen; have F2s := F2.lt)
    have BB2 : Below w.heap.size w w2 := by rw [hw2]; (repeat (first | (with_reducible refine bset ?_ (by first | (simp; done) | (simp; omega)) _) | (with_reducible refine balloc ?_ _) | (with_reducible refine bdrew ?_) | with_reducible exact Below.refl _ _ | (refine bthen ?_ (by with_reducible assumption)) | (refine bthen ?_ (by assumption)) | exact Below.refl _ _))
    have hzs : w.heap.size ≠ w1.heap.size := Nat.ne_of_lt Z1s
    clear hw2 Z1 Z1c Z1f hb1
    go_region_with (go_at_call 7; refine (HB.out _).use.mono ?_; rintro e w3 ⟨rfl, hb3⟩; (apply Blk.use (w := w3) (g := w.heap.size); (focus (apply Blk.lat hb3; (repeat (first | with_reducible assumption | ((with_reducible apply Blk.new'); first | rfl | (simp; done)) | with_reducible apply Blk.set_ | (with_reducible apply Blk.far' (by first | (simp; done) | (simp; omega))) | with_reducible apply Blk.alloc | with_reducible apply Blk.drew)))); intro Z3; (try simp only [List.setIfInBounds_toArray, List.set_cons_zero, List.set_cons_succ] at Z3); have Z3c := Z3.cell; have Z3f := Z3.frozen; have Z3s := Z3.lt); (apply Blk.use (w := w3) (g := w1.heap.size); (focus (apply Blk.lat hb3; (repeat (first | with_reducible assumption | ((with_reducible apply Blk.new'); first | rfl | (simp; done)) | with_reducible apply Blk.set_ | (with_reducible apply Blk.far' (by first | (simp; done) | (simp; omega))) | with_reducible apply Blk.alloc | with_reducible apply Blk.drew)))); intro F3; (try simp only [List.setIfInBounds_toArray, List.set_cons_zero, List.set_cons_succ] at F3); have F3c := F3.cell; have F3f := F3.frozen; have F3s := F3.lt); have BB3 : Below w.heap.size w w3 := (by (repeat (first | (with_reducible refine bset ?_ (by first | (simp; done) | (simp; omega)) _) | (with_reducible refine balloc ?_ _) | (with_reducible refine bdrew ?_) | with_reducible exact Below.refl _ _ | (refine bthen ?_ (by with_reducible assumption)) | (refine bthen ?_ (by assumption)) | exact Below.refl _ _))))
    all_goals
      go_wp2
      refine bp_world ?_
      intro w9 hw9
      (apply Blk.use (w := w9) (g := w.heap.size); (focus (rw [hw9]; (repeat (first | with_reducible assumption | ((with_reducible apply Blk.new'); first | rfl | (simp; done)) | with_reducible apply Blk.set_ | (with_reducible apply Blk.far' (by first | (simp; done) | (simp; omega))) | with_reducible apply Blk.alloc | with_reducible apply Blk.drew)))); intro Z9; (try simp only [List.setIfInBounds_toArray, List.set_cons_zero, List.set_cons_succ] at Z9); have Z9c := Z9.cell; have Z9f := Z9.frozen; have Z9s := Z9.lt)
      have B9 : Below w.heap.size w w9 := by rw [hw9]; (repeat (first | (with_reducible refine bset ?_ (by first | (simp; done) | (simp; omega)) _) | (with_reducible refine balloc ?_ _) | (with_reducible refine bdrew ?_) | with_reducible exact Below.refl _ _ | (refine bthen ?_ (by with_reducible assumption)) | (refine bthen ?_ (by assumption)) | exact Below.refl _ _))
      clear hw9 Z2 Z2c Z2f F2 F2c F2f Z3 Z3c Z3f F3 F3c F3f
      exact bodyPost_ret (v := .tuple #[.agg #[.int .i64 q, .string (bs x)], .bool b]) (by simp [results, Try.results69, go_sem, Z9c]) rfl ⟨rfl, B9⟩
  · have hv := (hbad hc).1
    simp only [Prod.mk.injEq] at hv
    obtain ⟨rfl, rfl, rfl, _⟩ := hv
    have hc' : (c == 0) = false := by simpa using hc
    have hv : heldOf s.data.toList = (0, [], false) := by rw [hH]; simp [hc]
    rw [hv]
    clear hx hF hbad hput hH hv HH hs hc
    go_enter Try.func69, Try.ntmps69
    go_wp2_with (go_at_call 10; refine (HF.out _).use.mono ?_; rintro e w1 ⟨rfl, hb1⟩; (apply Blk.use (w := w1) (g := w.heap.size); (focus (apply Blk.lat hb1; (repeat (first | with_reducible assumption | ((with_reducible apply Blk.new'); first | rfl | (simp; done)) | with_reducible apply Blk.set_ | (with_reducible apply Blk.far' (by first | (simp; done) | (simp; omega))) | with_reducible apply Blk.alloc | with_reducible apply Blk.drew)))); intro Z1; (try simp only [List.setIfInBounds_toArray, List.set_cons_zero, List.set_cons_succ] at Z1); have Z1c := Z1.cell; have Z1f := Z1.frozen; have Z1s := Z1.lt))
    refine wp_world ?_
    intro w2 hw2
    (apply Blk.use (w := w2) (g := w.heap.size); (focus (rw [hw2]; (repeat (first | with_reducible assumption | ((with_reducible apply Blk.new'); first | rfl | (simp; done)) | with_reducible apply Blk.set_ | (with_reducible apply Blk.far' (by first | (simp; done) | (simp; omega))) | with_reducible apply Blk.alloc | with_reducible apply Blk.drew)))); intro Z2; (try simp only [List.setIfInBounds_toArray, List.set_cons_zero, List.set_cons_succ] at Z2); have Z2c := Z2.cell; have Z2f := Z2.frozen; have Z2s := Z2.lt)
    (apply Blk.use (w := w2) (g := w1.heap.size); (focus (rw [hw2]; (repeat (first | with_reducible assumption | ((with_reducible apply Blk.new'); first | rfl | (simp; done)) | with_reducible apply Blk.set_ | (with_reducible apply Blk.far' (by first | (simp; done) | (simp; omega))) | with_reducible apply Blk.alloc | with_reducible apply Blk.drew)))); intro F2; (try simp only [List.setIfInBounds_toArray, List.set_cons_zero, List.set_cons_succ] at F2); have F2c := F2.cell; have F2f := F2.frozen; have F2s := F2.lt)
    have BB2 : Below w.heap.size w w2 := by rw [hw2]; (repeat (first | (with_reducible refine bset ?_ (by first | (simp; done) | (simp; omega)) _) | (with_reducible refine balloc ?_ _) | (with_reducible refine bdrew ?_) | with_reducible exact Below.refl _ _ | (refine bthen ?_ (by with_reducible assumption)) | (refine bthen ?_ (by assumption)) | exact Below.refl _ _))
    have hzs : w.heap.size ≠ w1.heap.size := Nat.ne_of_lt Z1s
    clear hw2 Z1 Z1c Z1f hb1
    go_region
    all_goals
      go_wp2
      refine bp_world ?_
      intro w9 hw9
      (apply Blk.use (w := w9) (g := w.heap.size); (focus (rw [hw9]; (repeat (first | with_reducible assumption | ((with_reducible apply Blk.new'); first | rfl | (simp; done)) | with_reducible apply Blk.set_ | (with_reducible apply Blk.far' (by first | (simp; done) | (simp; omega))) | with_reducible apply Blk.alloc | with_reducible apply Blk.drew)))); intro Z9; (try simp only [List.setIfInBounds_toArray, List.set_cons_zero, List.set_cons_succ] at Z9); have Z9c := Z9.cell; have Z9f := Z9.frozen; have Z9s := Z9.lt)
      have B9 : Below w.heap.size w w9 := by rw [hw9]; (repeat (first | (with_reducible refine bset ?_ (by first | (simp; done) | (simp; omega)) _) | (with_reducible refine balloc ?_ _) | (with_reducible refine bdrew ?_) | with_reducible exact Below.refl _ _ | (refine bthen ?_ (by with_reducible assumption)) | (refine bthen ?_ (by assumption)) | exact Below.refl _ _))
      clear hw9 Z2 Z2c Z2f F2 F2c F2f
      exact bodyPost_ret (v := .tuple #[.agg #[.int .i64 0, .string (bs [])], .bool false]) (by simp [results, Try.results69, go_sem, Z9c]) rfl ⟨rfl, B9⟩

set_option maxRecDepth 100000 in
theorem l16Slot_s (s : ByteArray) (hs : s.size ≤ maxLen) (w : World) : Gives Try.prog 72 #[.string s] w (encFO (slotFO s.data.toList)) := by
  unfold Gives
  have hF := fun w => frameRead_s s 0 (by omega) hs w
  have hsz := size_data s
  have hH : slotFO s.data.toList = if (frameRead s.data.toList 0).2.2.2 = 0 ∧ (frameRead s.data.toList 0).2.2.1 ≠ s.data.toList.length then (0, [], 0, 3) else frameRead s.data.toList 0 := rfl
  rcases hx : frameRead s.data.toList 0 with ⟨q, x, z, c⟩
  rw [hx] at hF hH
  dsimp only at hH
  rw [hsz] at hH
  unfold encFO at hF
  dsimp only at hF
  have HF := Lib.hid hF
  by_cases hc : c = 0
  · subst hc
    by_cases hz : z = s.size
    · have hv : slotFO s.data.toList = (q, x, z, 0) := by rw [hH]; simp [hz]
      have hz' : (z != (s.size : Int)) = false := by simpa using hz
      rw [hv]
      unfold encFO
      dsimp only
      clear hx hF hH hv hs hsz hz
      go_enter Try.func72, Try.ntmps72
      go_wp2_with (go_at_call 11; refine (HF.out _).use.mono ?_; rintro e w1 ⟨rfl, hb1⟩; (apply Blk.use (w := w1) (g := w.heap.size); (focus (apply Blk.lat hb1; (repeat (first | with_reducible assumption | ((with_reducible apply Blk.new'); first | rfl | (simp; done)) | with_reducible apply Blk.set_ | (with_reducible apply Blk.far' (by first | (simp; done) | (simp; omega))) | with_reducible apply Blk.alloc | with_reducible apply Blk.drew)))); intro Z1; (try simp only [List.setIfInBounds_toArray, List.set_cons_zero, List.set_cons_succ] at Z1); have Z1c := Z1.cell; have Z1f := Z1.frozen; have Z1s := Z1.lt))
      refine bp_world ?_
      intro w9 hw9
      (apply Blk.use (w := w9) (g := w.heap.size); (focus (rw [hw9]; (repeat (first | with_reducible assumption | ((with_reducible apply Blk.new'); first | rfl | (simp; done)) | with_reducible apply Blk.set_ | (with_reducible apply Blk.far' (by first | (simp; done) | (simp; omega))) | with_reducible apply Blk.alloc | with_reducible apply Blk.drew)))); intro Z9; (try simp only [List.setIfInBounds_toArray, List.set_cons_zero, List.set_cons_succ] at Z9); have Z9c := Z9.cell; have Z9f := Z9.frozen; have Z9s := Z9.lt)
      have B9 : Below w.heap.size w w9 := by rw [hw9]; (repeat (first | (with_reducible refine bset ?_ (by first | (simp; done) | (simp; omega)) _) | (with_reducible refine balloc ?_ _) | (with_reducible refine bdrew ?_) | with_reducible exact Below.refl _ _ | (refine bthen ?_ (by with_reducible assumption)) | (refine bthen ?_ (by assumption)) | exact Below.refl _ _))
      clear hw9 Z1 Z1c Z1f
      exact bodyPost_ret (v := .agg #[.int .i64 q, .string (bs x), .int .i64 z, .int .i64 0]) (by simp [results, Try.results72, go_sem, Z9c]) rfl ⟨rfl, B9⟩
    · have hv : slotFO s.data.toList = (0, [], 0, 3) := by rw [hH]; simp [hz]
      have hz' : (z != (s.size : Int)) = true := by simpa using hz
      rw [hv]
      unfold encFO
      dsimp only
      clear hx hF hH hv hs hsz hz
      go_enter Try.func72, Try.ntmps72
      go_wp2_with (go_at_call 11; refine (HF.out _).use.mono ?_; rintro e w1 ⟨rfl, hb1⟩; (apply Blk.use (w := w1) (g := w.heap.size); (focus (apply Blk.lat hb1; (repeat (first | with_reducible assumption | ((with_reducible apply Blk.new'); first | rfl | (simp; done)) | with_reducible apply Blk.set_ | (with_reducible apply Blk.far' (by first | (simp; done) | (simp; omega))) | with_reducible apply Blk.alloc | with_reducible apply Blk.drew)))); intro Z1; (try simp only [List.setIfInBounds_toArray, List.set_cons_zero, List.set_cons_succ] at Z1); have Z1c := Z1.cell; have Z1f := Z1.frozen; have Z1s := Z1.lt))
      refine bp_world ?_
      intro w9 hw9
      (apply Blk.use (w := w9) (g := w.heap.size); (focus (rw [hw9]; (repeat (first | with_reducible assumption | ((with_reducible apply Blk.new'); first | rfl | (simp; done)) | with_reducible apply Blk.set_ | (with_reducible apply Blk.far' (by first | (simp; done) | (simp; omega))) | with_reducible apply Blk.alloc | with_reducible apply Blk.drew)))); intro Z9; (try simp only [List.setIfInBounds_toArray, List.set_cons_zero, List.set_cons_succ] at Z9); have Z9c := Z9.cell; have Z9f := Z9.frozen; have Z9s := Z9.lt)
      have B9 : Below w.heap.size w w9 := by rw [hw9]; (repeat (first | (with_reducible refine bset ?_ (by first | (simp; done) | (simp; omega)) _) | (with_reducible refine balloc ?_ _) | (with_reducible refine bdrew ?_) | with_reducible exact Below.refl _ _ | (refine bthen ?_ (by with_reducible assumption)) | (refine bthen ?_ (by assumption)) | exact Below.refl _ _))
      clear hw9 Z1 Z1c Z1f
      exact bodyPost_ret (v := .agg #[.int .i64 0, .string (bs []), .int .i64 0, .int .i64 3]) (by simp [results, Try.results72, go_sem, Z9c]; rfl) rfl ⟨rfl, B9⟩
  · have hv : slotFO s.data.toList = (q, x, z, c) := by rw [hH]; simp [hc]
    have hc' : (c == 0) = false := by simpa using hc
    rw [hv]
    unfold encFO
    dsimp only
    clear hx hF hH hv hs hsz hc
    go_enter Try.func72, Try.ntmps72
    go_wp2_with (go_at_call 11; refine (HF.out _).use.mono ?_; rintro e w1 ⟨rfl, hb1⟩; (apply Blk.use (w := w1) (g := w.heap.size); (focus (apply Blk.lat hb1; (repeat (first | with_reducible assumption | ((with_reducible apply Blk.new'); first | rfl | (simp; done)) | with_reducible apply Blk.set_ | (with_reducible apply Blk.far' (by first | (simp; done) | (simp; omega))) | with_reducible apply Blk.alloc | with_reducible apply Blk.drew)))); intro Z1; (try simp only [List.setIfInBounds_toArray, List.set_cons_zero, List.set_cons_succ] at Z1); have Z1c := Z1.cell; have Z1f := Z1.frozen; have Z1s := Z1.lt))
    refine bp_world ?_
    intro w9 hw9
    (apply Blk.use (w := w9) (g := w.heap.size); (focus (rw [hw9]; (repeat (first | with_reducible assumption | ((with_reducible apply Blk.new'); first | rfl | (simp; done)) | with_reducible apply Blk.set_ | (with_reducible apply Blk.far' (by first | (simp; done) | (simp; omega))) | with_reducible apply Blk.alloc | with_reducible apply Blk.drew)))); intro Z9; (try simp only [List.setIfInBounds_toArray, List.set_cons_zero, List.set_cons_succ] at Z9); have Z9c := Z9.cell; have Z9f := Z9.frozen; have Z9s := Z9.lt)
    have B9 : Below w.heap.size w w9 := by rw [hw9]; (repeat (first | (with_reducible refine bset ?_ (by first | (simp; done) | (simp; omega)) _) | (with_reducible refine balloc ?_ _) | (with_reducible refine bdrew ?_) | with_reducible exact Below.refl _ _ | (refine bthen ?_ (by with_reducible assumption)) | (refine bthen ?_ (by assumption)) | exact Below.refl _ _))
    clear hw9 Z1 Z1c Z1f
    exact bodyPost_ret (v := .agg #[.int .i64 q, .string (bs x), .int .i64 z, .int .i64 c]) (by simp [results, Try.results72, go_sem, Z9c]) rfl ⟨rfl, B9⟩
end Go.Proofs.Ytnehiflandjkoaa
