import Derived.Test.YtmammjpfmfblbaaD8
set_option linter.unusedSimpArgs false
set_option linter.unusedVariables false
namespace Go.Proofs.Ytmammjpfmfblbaa
open Go.RowKit M

set_option maxRecDepth 100000 in
theorem diskBase_i (rs : List Reg) (v : Value) (p : Int) (w : World) (hr : Rd w 3 v rs.length (flat encReg rs)) :
    Gives Try.prog 33 #[.agg #[v, .int .i64 p]] w (.int .i64 (baseOf rs p)) := by
  unfold baseOf
  cases h : diskOk rs p
  · rw [if_pos rfl]
    unfold Gives
    have hD := fun w hr => diskRight_i rs v p w hr
    rw [h] at hD
    obtain ⟨A, cap, rfl, _⟩ := hr.form
    have HR := Lib.hid hr
    have HD := Lib.hid hD
    clear hr h hD
    go_enter Try.func33, Try.ntmps33
    go_wp2_with (go_at_call 55; refine (HD.out _ (HR.out.later (by (repeat (first | (with_reducible refine bset ?_ (by first | (simp; done) | (simp; omega)) _) | (with_reducible refine balloc ?_ _) | (with_reducible refine bdrew ?_) | with_reducible exact Below.refl _ _ | (refine bthen ?_ (by with_reducible assumption)) | (refine bthen ?_ (by assumption)) | exact Below.refl _ _))))).use.mono ?_; rintro e w1 ⟨rfl, hb1⟩)
    go_ret
    exact ⟨rfl, by (repeat (first | (with_reducible refine bset ?_ (by first | (simp; done) | (simp; omega)) _) | (with_reducible refine balloc ?_ _) | (with_reducible refine bdrew ?_) | with_reducible exact Below.refl _ _ | (refine bthen ?_ (by with_reducible assumption)) | (refine bthen ?_ (by assumption)) | exact Below.refl _ _))⟩
  · rw [if_neg (by simp)]
    exact diskBase_i_ok rs v p h w hr
set_option maxRecDepth 100000 in
theorem diskBase_s (rs : List Reg) (v : Value) (p : Int) (w : World) (hr : Rd w 3 v rs.length (flat encReg rs)) :
    Gives Try.prog 32 #[.agg #[v, .int .i64 p]] w (.int .i64 (baseOf rs p)) := by
  unfold baseOf
  cases h : diskOk rs p
  · rw [if_pos rfl]
    unfold Gives
    have hD := fun w hr => diskRight_s rs v p w hr
    rw [h] at hD
    obtain ⟨A, cap, rfl, _⟩ := hr.form
    have HR := Lib.hid hr
    have HD := Lib.hid hD
    clear hr h hD
    go_enter Try.func32, Try.ntmps32
    go_wp2_with (go_at_call 53; refine (HD.out _ (HR.out.later (by (repeat (first | (with_reducible refine bset ?_ (by first | (simp; done) | (simp; omega)) _) | (with_reducible refine balloc ?_ _) | (with_reducible refine bdrew ?_) | with_reducible exact Below.refl _ _ | (refine bthen ?_ (by with_reducible assumption)) | (refine bthen ?_ (by assumption)) | exact Below.refl _ _))))).use.mono ?_; rintro e w1 ⟨rfl, hb1⟩)
    go_ret
    exact ⟨rfl, by (repeat (first | (with_reducible refine bset ?_ (by first | (simp; done) | (simp; omega)) _) | (with_reducible refine balloc ?_ _) | (with_reducible refine bdrew ?_) | with_reducible exact Below.refl _ _ | (refine bthen ?_ (by with_reducible assumption)) | (refine bthen ?_ (by assumption)) | exact Below.refl _ _))⟩
  · rw [if_neg (by simp)]
    exact diskBase_s_ok rs v p h w hr
set_option maxRecDepth 100000 in
set_option maxHeartbeats 2000000 in
theorem law_DiskBase (v : Value) (rs : List Reg) (p : Int) (w : World) (hr : Rd w 3 v rs.length (flat encReg rs)) (ho : okSizes rs) :
    Gives Try.prog 8 #[.agg #[v, .int .i64 p]] w (.bool true) := by
  have hI := fun v w hr => diskBase_i rs v p w hr
  have hS := fun v w hr => diskBase_s rs v p w hr
  obtain ⟨y, hy⟩ : ∃ y, baseOf rs p = y := ⟨_, rfl⟩
  rw [hy] at hI hS
  obtain ⟨A, cap, rfl, hn, hcap, _⟩ := hr.form
  unfold maxLen at hcap
  unfold Gives
  have HI := Lib.hid hI
  have HS := Lib.hid hS
  have RA := Lib.hid hr
  clear hI hS hr hy
  go_enter Try.func8, Try.ntmps8
  go_wp2_with fail
  refine (szDisk_l rs _ p _ (by omega) _ (RA.out.later (by (repeat (first | (with_reducible refine bset ?_ (by first | (simp; done) | (simp; omega)) _) | (with_reducible refine balloc ?_ _) | (with_reducible refine bdrew ?_) | with_reducible exact Below.refl _ _ | (refine bthen ?_ (by with_reducible assumption)) | (refine bthen ?_ (by assumption)) | exact Below.refl _ _)))) ho).mono ?_
  rintro e w1 ⟨hb1, r1, rfl, hr1⟩
  (apply Blk.use (w := w1) (g := w.heap.size); (focus (apply Blk.lat hb1; (repeat (first | with_reducible assumption | ((with_reducible apply Blk.new'); first | rfl | (simp; done)) | with_reducible apply Blk.set_ | (with_reducible apply Blk.far' (by first | (simp; done) | (simp; omega))) | with_reducible apply Blk.alloc | with_reducible apply Blk.drew)))); intro A; (try simp only [List.setIfInBounds_toArray, List.set_cons_zero, List.set_cons_succ] at A); have Ac := A.cell; have Af := A.frozen; have As := A.lt)
  have BB : Below w.heap.size w w1 := by (repeat (first | (with_reducible refine bset ?_ (by first | (simp; done) | (simp; omega)) _) | (with_reducible refine balloc ?_ _) | (with_reducible refine bdrew ?_) | with_reducible exact Below.refl _ _ | (refine bthen ?_ (by with_reducible assumption)) | (refine bthen ?_ (by assumption)) | exact Below.refl _ _))
  clear hb1
  rcases hr1 with rfl | ⟨hr0, hr1, hq⟩
  · go_wp2
    go_ret
    exact ⟨rfl, BB⟩
  · have h0 : ¬ r1 < 0 := by omega
    go_wp2_with fail
    refine (toDisk_l rs _ p hq _ (RA.out.later (by (repeat (first | (with_reducible refine bset ?_ (by first | (simp; done) | (simp; omega)) _) | (with_reducible refine balloc ?_ _) | (with_reducible refine bdrew ?_) | with_reducible exact Below.refl _ _ | (refine bthen ?_ (by with_reducible assumption)) | (refine bthen ?_ (by assumption)) | exact Below.refl _ _))))).mono ?_
    rintro e w2 ⟨A2, c2, rfl, ho2, hb2⟩
    ((apply Blk.use (w := w2) (g := w.heap.size); (focus (apply Blk.lat hb2; (repeat (first | with_reducible assumption | ((with_reducible apply Blk.new'); first | rfl | (simp; done)) | with_reducible apply Blk.set_ | (with_reducible apply Blk.far' (by first | (simp; done) | (simp; omega))) | with_reducible apply Blk.alloc | with_reducible apply Blk.drew)))); clear A Ac Af As; intro A; (try simp only [List.setIfInBounds_toArray, List.set_cons_zero, List.set_cons_succ] at A); have Ac := A.cell; have Af := A.frozen; have As := A.lt); (have BBn : Below w.heap.size w w2 := (by (repeat (first | (with_reducible refine bset ?_ (by first | (simp; done) | (simp; omega)) _) | (with_reducible refine balloc ?_ _) | (with_reducible refine bdrew ?_) | with_reducible exact Below.refl _ _ | (refine bthen ?_ (by with_reducible assumption)) | (refine bthen ?_ (by assumption)) | exact Below.refl _ _))); clear BB; have BB := BBn; clear BBn); clear hb2)
    go_wp2_with fail
    refine (HS.out _ _ (Rd.of_own ho2)).use.mono ?_
    rintro e w3 ⟨rfl, hb3⟩
    clear ho2
    ((apply Blk.use (w := w3) (g := w.heap.size); (focus (apply Blk.lat hb3; (repeat (first | with_reducible assumption | ((with_reducible apply Blk.new'); first | rfl | (simp; done)) | with_reducible apply Blk.set_ | (with_reducible apply Blk.far' (by first | (simp; done) | (simp; omega))) | with_reducible apply Blk.alloc | with_reducible apply Blk.drew)))); clear A Ac Af As; intro A; (try simp only [List.setIfInBounds_toArray, List.set_cons_zero, List.set_cons_succ] at A); have Ac := A.cell; have Af := A.frozen; have As := A.lt); (have BBn : Below w.heap.size w w3 := (by (repeat (first | (with_reducible refine bset ?_ (by first | (simp; done) | (simp; omega)) _) | (with_reducible refine balloc ?_ _) | (with_reducible refine bdrew ?_) | with_reducible exact Below.refl _ _ | (refine bthen ?_ (by with_reducible assumption)) | (refine bthen ?_ (by assumption)) | exact Below.refl _ _))); clear BB; have BB := BBn; clear BBn); clear hb3)
    go_wp2_with fail
    refine (toDisk_l rs _ p hq _ (RA.out.later (by (repeat (first | (with_reducible refine bset ?_ (by first | (simp; done) | (simp; omega)) _) | (with_reducible refine balloc ?_ _) | (with_reducible refine bdrew ?_) | with_reducible exact Below.refl _ _ | (refine bthen ?_ (by with_reducible assumption)) | (refine bthen ?_ (by assumption)) | exact Below.refl _ _))))).mono ?_
    rintro e w4 ⟨AX, cX, rfl, oX, hb4⟩
    ((apply Blk.use (w := w4) (g := w.heap.size); (focus (apply Blk.lat hb4; (repeat (first | with_reducible assumption | ((with_reducible apply Blk.new'); first | rfl | (simp; done)) | with_reducible apply Blk.set_ | (with_reducible apply Blk.far' (by first | (simp; done) | (simp; omega))) | with_reducible apply Blk.alloc | with_reducible apply Blk.drew)))); clear A Ac Af As; intro A; (try simp only [List.setIfInBounds_toArray, List.set_cons_zero, List.set_cons_succ] at A); have Ac := A.cell; have Af := A.frozen; have As := A.lt); (have BBn : Below w.heap.size w w4 := (by (repeat (first | (with_reducible refine bset ?_ (by first | (simp; done) | (simp; omega)) _) | (with_reducible refine balloc ?_ _) | (with_reducible refine bdrew ?_) | with_reducible exact Below.refl _ _ | (refine bthen ?_ (by with_reducible assumption)) | (refine bthen ?_ (by assumption)) | exact Below.refl _ _))); clear BB; have BB := BBn; clear BBn); clear hb4)
    have OX := Lib.hid oX
    clear oX
    go_wp2_with fail
    refine (HI.out _ _ (Rd.of_own (OX.out.alloc _))).use.mono ?_
    rintro e w5 ⟨rfl, hb5⟩
    ((apply Blk.use (w := w5) (g := w.heap.size); (focus (apply Blk.lat hb5; (repeat (first | with_reducible assumption | ((with_reducible apply Blk.new'); first | rfl | (simp; done)) | with_reducible apply Blk.set_ | (with_reducible apply Blk.far' (by first | (simp; done) | (simp; omega))) | with_reducible apply Blk.alloc | with_reducible apply Blk.drew)))); clear A Ac Af As; intro A; (try simp only [List.setIfInBounds_toArray, List.set_cons_zero, List.set_cons_succ] at A); have Ac := A.cell; have Af := A.frozen; have As := A.lt); (apply Blk.use (w := w5) (g := w4.heap.size); (focus (apply Blk.lat hb5; (repeat (first | with_reducible assumption | ((with_reducible apply Blk.new'); first | rfl | (simp; done)) | with_reducible apply Blk.set_ | (with_reducible apply Blk.far' (by first | (simp; done) | (simp; omega))) | with_reducible apply Blk.alloc | with_reducible apply Blk.drew)))); intro X; (try simp only [List.setIfInBounds_toArray, List.set_cons_zero, List.set_cons_succ] at X); have Xc := X.cell; have Xf := X.frozen; have Xs := X.lt); (have OXn := own_keep OX.out (w' := w5) (by (repeat (first | (with_reducible refine bset ?_ (by first | (simp; done) | (simp; omega)) _) | (with_reducible refine balloc ?_ _) | (with_reducible refine bdrew ?_) | with_reducible exact Below.refl _ _ | (refine bthen ?_ (by with_reducible assumption)) | (refine bthen ?_ (by assumption)) | exact Below.refl _ _))); clear OX; have OX := Lib.hid OXn; clear OXn); (have BBn : Below w.heap.size w w5 := (by (repeat (first | (with_reducible refine bset ?_ (by first | (simp; done) | (simp; omega)) _) | (with_reducible refine balloc ?_ _) | (with_reducible refine bdrew ?_) | with_reducible exact Below.refl _ _ | (refine bthen ?_ (by with_reducible assumption)) | (refine bthen ?_ (by assumption)) | exact Below.refl _ _))); clear BB; have BB := BBn; clear BBn); clear hb5)
    go_wp2_with fail
    go_region_with (first
      | (go_at_call 16; refine (toDisk_l rs _ p hq _ (RA.out.later (by (repeat (first | (with_reducible refine bset ?_ (by first | (simp; done) | (simp; omega)) _) | (with_reducible refine balloc ?_ _) | (with_reducible refine bdrew ?_) | with_reducible exact Below.refl _ _ | (refine bthen ?_ (by with_reducible assumption)) | (refine bthen ?_ (by assumption)) | exact Below.refl _ _))))).mono ?_; rintro e w7 ⟨A7, c7, rfl, o7, hb7⟩; ((apply Blk.use (w := w7) (g := w.heap.size); (focus (apply Blk.lat hb7; (repeat (first | with_reducible assumption | ((with_reducible apply Blk.new'); first | rfl | (simp; done)) | with_reducible apply Blk.set_ | (with_reducible apply Blk.far' (by first | (simp; done) | (simp; omega))) | with_reducible apply Blk.alloc | with_reducible apply Blk.drew)))); clear A Ac Af As; intro A; (try simp only [List.setIfInBounds_toArray, List.set_cons_zero, List.set_cons_succ] at A); have Ac := A.cell; have Af := A.frozen; have As := A.lt); (apply Blk.use (w := w7) (g := w4.heap.size); (focus (apply Blk.lat hb7; (repeat (first | with_reducible assumption | ((with_reducible apply Blk.new'); first | rfl | (simp; done)) | with_reducible apply Blk.set_ | (with_reducible apply Blk.far' (by first | (simp; done) | (simp; omega))) | with_reducible apply Blk.alloc | with_reducible apply Blk.drew)))); clear X Xc Xf Xs; intro X; (try simp only [List.setIfInBounds_toArray, List.set_cons_zero, List.set_cons_succ] at X); have Xc := X.cell; have Xf := X.frozen; have Xs := X.lt); (have OXn := own_keep OX.out (w' := w7) (by (repeat (first | (with_reducible refine bset ?_ (by first | (simp; done) | (simp; omega)) _) | (with_reducible refine balloc ?_ _) | (with_reducible refine bdrew ?_) | with_reducible exact Below.refl _ _ | (refine bthen ?_ (by with_reducible assumption)) | (refine bthen ?_ (by assumption)) | exact Below.refl _ _))); clear OX; have OX := Lib.hid OXn; clear OXn); (have BBn : Below w.heap.size w w7 := (by (repeat (first | (with_reducible refine bset ?_ (by first | (simp; done) | (simp; omega)) _) | (with_reducible refine balloc ?_ _) | (with_reducible refine bdrew ?_) | with_reducible exact Below.refl _ _ | (refine bthen ?_ (by with_reducible assumption)) | (refine bthen ?_ (by assumption)) | exact Below.refl _ _))); clear BB; have BB := BBn; clear BBn); clear hb7))
      | (go_at_call 19; refine (eqDisk_same _ _ rs p _ (Rd.of_own OX.out) (Rd.of_own o7)).use.mono ?_; rintro e w8 ⟨rfl, hb8⟩; ((apply Blk.use (w := w8) (g := w.heap.size); (focus (apply Blk.lat hb8; (repeat (first | with_reducible assumption | ((with_reducible apply Blk.new'); first | rfl | (simp; done)) | with_reducible apply Blk.set_ | (with_reducible apply Blk.far' (by first | (simp; done) | (simp; omega))) | with_reducible apply Blk.alloc | with_reducible apply Blk.drew)))); clear A Ac Af As; intro A; (try simp only [List.setIfInBounds_toArray, List.set_cons_zero, List.set_cons_succ] at A); have Ac := A.cell; have Af := A.frozen; have As := A.lt); (have OXn := own_keep OX.out (w' := w8) (by (repeat (first | (with_reducible refine bset ?_ (by first | (simp; done) | (simp; omega)) _) | (with_reducible refine balloc ?_ _) | (with_reducible refine bdrew ?_) | with_reducible exact Below.refl _ _ | (refine bthen ?_ (by with_reducible assumption)) | (refine bthen ?_ (by assumption)) | exact Below.refl _ _))); clear OX; have OX := Lib.hid OXn; clear OXn); (have BBn : Below w.heap.size w w8 := (by (repeat (first | (with_reducible refine bset ?_ (by first | (simp; done) | (simp; omega)) _) | (with_reducible refine balloc ?_ _) | (with_reducible refine bdrew ?_) | with_reducible exact Below.refl _ _ | (refine bthen ?_ (by with_reducible assumption)) | (refine bthen ?_ (by assumption)) | exact Below.refl _ _))); clear BB; have BB := BBn; clear BBn); clear hb8); clear o7))
    all_goals go_wp2
    all_goals go_ret
    all_goals exact ⟨rfl, BB⟩
end Go.Proofs.Ytmammjpfmfblbaa
