import Derived.Test.YtnehiflandjkoaaC6
set_option linter.unusedSimpArgs false
set_option linter.unusedVariables false
namespace Go.Proofs.Ytnehiflandjkoaa
open Go.RowKit M

namespace M
def wipeRs (rs : List Reg) (p r : Int) : List Reg := if stage rs p r = 0 then setLog rs r.toNat ⟨#[]⟩ else illRs rs (stage rs p r)
def doneP (rs : List Reg) (p r : Int) : Int := if stage rs p r = 0 then p else illP p (stage rs p r)
end M

set_option maxRecDepth 100000 in
set_option maxHeartbeats 1000000 in
theorem wipe_i_ok (rs : List Reg) (v : Value) (p : Int) (k : Nat) (hk : k < rs.length) (h : diskOk rs p = true) (hp : p ≠ 0) (w : World) (hr : Rd w 3 v rs.length (flat encReg rs)) :
    Calls Try.prog 26 #[.agg #[v, .int .i64 p], .int .i64 k] w fun e w' => NewOut w e w' (setLog rs k ⟨#[]⟩) p 0 := by
  have hB := fun w hr => begin_i_ok rs v p k w hr h ⟨by omega, by omega⟩ hp
  obtain ⟨A, cap, rfl, _⟩ := hr.form
  have hl := diskOk_len' h
  have HR := Lib.hid hr
  have HB := Lib.hid hB
  have HF := Lib.hid (flat_log rs k ⟨#[]⟩ hk)
  have HL := Lib.hid (setLog_len rs k ⟨#[]⟩)
  clear hr hB h hp
  have i1 : (k : Int) < rs.length := by omega
  go_enter Try.func26, Try.ntmps26
  go_wp2_with (go_at_call 58; refine (HB.out _ (HR.out.later (by (repeat (first | (with_reducible refine bset ?_ (by first | (simp; done) | (simp; omega)) _) | (with_reducible refine balloc ?_ _) | (with_reducible refine bdrew ?_) | with_reducible exact Below.refl _ _ | (refine bthen ?_ (by with_reducible assumption)) | (refine bthen ?_ (by assumption)) | exact Below.refl _ _))))).mono ?_; rintro e w1 ⟨A1, c1, rfl, ho1, hb1⟩; (apply Blk.use (w := w1) (g := w.heap.size + 1); (focus (apply Blk.lat hb1; (repeat (first | with_reducible assumption | ((with_reducible apply Blk.new'); first | rfl | (simp; done)) | with_reducible apply Blk.set_ | (with_reducible apply Blk.far' (by first | (simp; done) | (simp; omega))) | with_reducible apply Blk.alloc | with_reducible apply Blk.drew)))); intro Z1; (try simp only [List.setIfInBounds_toArray, List.set_cons_zero, List.set_cons_succ] at Z1); have Z1c := Z1.cell; have Z1f := Z1.frozen; have Z1s := Z1.lt); obtain ⟨g, rfl, hg1, hg2⟩ := own_slice ho1 (by omega); obtain ⟨⟨u0, q0⟩, q1, q2⟩ := own_at ho1 (m := k * 3 + 2) (by omega); have hz : w.heap.size + 1 < w1.heap.size := Z1.lt; have hgne : g ≠ w.heap.size + 1 := (by simp at hg1; omega); have hgne' := hgne.symm; have Q2 := Lib.hid q2; clear q2)
  have O2 := Q2.out (.string ⟨#[]⟩)
  rw [HF.out] at O2
  simp only [World.size_alloc] at hg1 O2
  refine bp_world ?_
  intro w9 hw9
  (apply Blk.use (w := w9) (g := w.heap.size + 1); (focus (rw [hw9]; (repeat (first | with_reducible assumption | ((with_reducible apply Blk.new'); first | rfl | (simp; done)) | with_reducible apply Blk.set_ | (with_reducible apply Blk.far' (by first | (simp; done) | (simp; omega))) | with_reducible apply Blk.alloc | with_reducible apply Blk.drew)))); intro Z9; (try simp only [List.setIfInBounds_toArray, List.set_cons_zero, List.set_cons_succ] at Z9); have Z9c := Z9.cell; have Z9f := Z9.frozen; have Z9s := Z9.lt)
  have O9 : w9.ownsRow (w.heap.size + 1 + 1) 57 3 (.slice (some ⟨g, 0, none⟩) rs.length c1) rs.length (flat encReg (setLog rs k ⟨#[]⟩)) := by rw [hw9]; (repeat (first | with_reducible assumption | (with_reducible refine own_set ?_ (by first | (simp; done) | (simp; omega)) _) | (with_reducible refine own_alloc ?_ _)))
  have B9 : Below w.heap.size w w9 := by rw [hw9]; (repeat (first | (with_reducible refine bset ?_ (by first | (simp; done) | (simp; omega)) _) | (with_reducible refine balloc ?_ _) | (with_reducible refine bdrew ?_) | with_reducible exact Below.refl _ _ | (refine bthen ?_ (by with_reducible assumption)) | (refine bthen ?_ (by assumption)) | exact Below.refl _ _))
  clear hw9 O2 Q2 HB HR HF Z1 Z1c Z1f Z1s hb1 ho1 q0 q1
  exact bodyPost_ret (v := .agg #[.slice (some ⟨g, 0, none⟩) rs.length c1, .int .i64 p, .int .i64 0]) (by simp [results, Try.results26, go_sem, Z9c]) rfl ⟨some ⟨g, 0, none⟩, c1, by rw [HL.out], by rw [HL.out]; exact own_base O9 (by omega), B9⟩

set_option maxRecDepth 100000 in
theorem wipe_i_ill (rs : List Reg) (v : Value) (p r : Int) (hs : stage rs p r ≠ 0) (w : World) (hr : Rd w 3 v rs.length (flat encReg rs)) :
    Calls Try.prog 26 #[.agg #[v, .int .i64 p], .int .i64 r] w fun e w' => NewOut w e w' (illRs rs (stage rs p r)) (illP p (stage rs p r)) (stage rs p r) := by
  have hB := fun w hr => begin_i_ill rs v p r hs w hr
  obtain ⟨A, cap, rfl, _⟩ := hr.form
  have HR := Lib.hid hr
  have HB := Lib.hid hB
  clear hr hB
  generalize illRs rs (stage rs p r) = rs' at *
  generalize illP p (stage rs p r) = p' at *
  generalize stage rs p r = c at *
  have hc : (c == 0) = false := by simpa using hs
  clear hs
  go_enter Try.func26, Try.ntmps26
  go_wp2_with (go_at_call 58; refine (HB.out _ (HR.out.later (by (repeat (first | (with_reducible refine bset ?_ (by first | (simp; done) | (simp; omega)) _) | (with_reducible refine balloc ?_ _) | (with_reducible refine bdrew ?_) | with_reducible exact Below.refl _ _ | (refine bthen ?_ (by with_reducible assumption)) | (refine bthen ?_ (by assumption)) | exact Below.refl _ _))))).mono ?_; rintro e w1 ⟨A1, c1, rfl, ho1, hb1⟩; (apply Blk.use (w := w1) (g := w.heap.size + 1); (focus (apply Blk.lat hb1; (repeat (first | with_reducible assumption | ((with_reducible apply Blk.new'); first | rfl | (simp; done)) | with_reducible apply Blk.set_ | (with_reducible apply Blk.far' (by first | (simp; done) | (simp; omega))) | with_reducible apply Blk.alloc | with_reducible apply Blk.drew)))); intro Z1; (try simp only [List.setIfInBounds_toArray, List.set_cons_zero, List.set_cons_succ] at Z1); have Z1c := Z1.cell; have Z1f := Z1.frozen; have Z1s := Z1.lt); have hz : w.heap.size + 1 < w1.heap.size := Z1.lt)
  refine bp_world ?_
  intro w9 hw9
  (apply Blk.use (w := w9) (g := w.heap.size + 1); (focus (rw [hw9]; (repeat (first | with_reducible assumption | ((with_reducible apply Blk.new'); first | rfl | (simp; done)) | with_reducible apply Blk.set_ | (with_reducible apply Blk.far' (by first | (simp; done) | (simp; omega))) | with_reducible apply Blk.alloc | with_reducible apply Blk.drew)))); intro Z9; (try simp only [List.setIfInBounds_toArray, List.set_cons_zero, List.set_cons_succ] at Z9); have Z9c := Z9.cell; have Z9f := Z9.frozen; have Z9s := Z9.lt)
  simp only [World.size_alloc] at ho1
  have O9 : w9.ownsRow (w.heap.size + 1 + 1) 57 3 (.slice A1 rs'.length c1) rs'.length (flat encReg rs') := by rw [hw9]; (repeat (first | with_reducible assumption | (with_reducible refine own_set ?_ (by first | (simp; done) | (simp; omega)) _) | (with_reducible refine own_alloc ?_ _)))
  have B9 : Below w.heap.size w w9 := by rw [hw9]; (repeat (first | (with_reducible refine bset ?_ (by first | (simp; done) | (simp; omega)) _) | (with_reducible refine balloc ?_ _) | (with_reducible refine bdrew ?_) | with_reducible exact Below.refl _ _ | (refine bthen ?_ (by with_reducible assumption)) | (refine bthen ?_ (by assumption)) | exact Below.refl _ _))
  clear hw9 HB HR Z1 Z1c Z1f Z1s hb1 ho1
  exact bodyPost_ret (v := .agg #[.slice A1 rs'.length c1, .int .i64 p', .int .i64 c]) (by simp [results, Try.results26, go_sem, Z9c]) rfl ⟨A1, c1, rfl, own_base O9 (by omega), B9⟩
theorem wipe_i (rs : List Reg) (v : Value) (p r : Int) (w : World) (hr : Rd w 3 v rs.length (flat encReg rs)) :
    Calls Try.prog 26 #[.agg #[v, .int .i64 p], .int .i64 r] w fun e w' => NewOut w e w' (wipeRs rs p r) (doneP rs p r) (stage rs p r) := by
  unfold wipeRs doneP
  by_cases h : stage rs p r = 0
  · obtain ⟨h1, h2, h3⟩ := stage_zero h
    obtain ⟨k, rfl⟩ := Int.eq_ofNat_of_zero_le h2.1
    rw [h, if_pos rfl, if_pos rfl]
    exact wipe_i_ok rs v p k (by omega) h1 h3 w hr
  · rw [if_neg h, if_neg h]
    exact wipe_i_ill rs v p r h w hr

set_option maxRecDepth 100000 in
theorem wipe_s_ok (rs : List Reg) (v : Value) (p : Int) (k : Nat) (hk : k < rs.length) (h : diskOk rs p = true) (hp : p ≠ 0) (w : World) (hr : Rd w 3 v rs.length (flat encReg rs)) :
    Calls Try.prog 27 #[.agg #[v, .int .i64 p], .int .i64 k] w fun e w' => NewOut w e w' (setLog rs k ⟨#[]⟩) p 0 := by
  have hB := fun w hr => l16Code_s rs v p k w hr
  rw [stage_ok h ⟨by omega, by omega⟩ hp] at hB
  obtain ⟨A, cap, rfl, _⟩ := hr.form
  have hl := diskOk_len' h
  have HR := Lib.hid hr
  have HB := Lib.hid hB
  have HF := Lib.hid (flat_log rs k ⟨#[]⟩ hk)
  have HL := Lib.hid (setLog_len rs k ⟨#[]⟩)
  clear hr hB h hp
  have i1 : (k : Int) < rs.length := by omega
  go_enter Try.func27, Try.ntmps27
  go_wp2_with (first
    | (go_at_call 61; refine (HB.out _ (HR.out.later (by (repeat (first | (with_reducible refine bset ?_ (by first | (simp; done) | (simp; omega)) _) | (with_reducible refine balloc ?_ _) | (with_reducible refine bdrew ?_) | with_reducible exact Below.refl _ _ | (refine bthen ?_ (by with_reducible assumption)) | (refine bthen ?_ (by assumption)) | exact Below.refl _ _))))).use.mono ?_; rintro e w0 ⟨rfl, hb0⟩; (apply Blk.use (w := w0) (g := w.heap.size + 1); (focus (apply Blk.lat hb0; (repeat (first | with_reducible assumption | ((with_reducible apply Blk.new'); first | rfl | (simp; done)) | with_reducible apply Blk.set_ | (with_reducible apply Blk.far' (by first | (simp; done) | (simp; omega))) | with_reducible apply Blk.alloc | with_reducible apply Blk.drew)))); intro Z0; (try simp only [List.setIfInBounds_toArray, List.set_cons_zero, List.set_cons_succ] at Z0); have Z0c := Z0.cell; have Z0f := Z0.frozen; have Z0s := Z0.lt); (apply Blk.use (w := w0) (g := w.heap.size); (focus (apply Blk.lat hb0; (repeat (first | with_reducible assumption | ((with_reducible apply Blk.new'); first | rfl | (simp; done)) | with_reducible apply Blk.set_ | (with_reducible apply Blk.far' (by first | (simp; done) | (simp; omega))) | with_reducible apply Blk.alloc | with_reducible apply Blk.drew)))); intro D0; (try simp only [List.setIfInBounds_toArray, List.set_cons_zero, List.set_cons_succ] at D0); have D0c := D0.cell; have D0f := D0.frozen; have D0s := D0.lt))
    | (go_at_call 63; refine (copyDisk_s rs _ _ hl _ (HR.out.later (by (repeat (first | (with_reducible refine bset ?_ (by first | (simp; done) | (simp; omega)) _) | (with_reducible refine balloc ?_ _) | (with_reducible refine bdrew ?_) | with_reducible exact Below.refl _ _ | (refine bthen ?_ (by with_reducible assumption)) | (refine bthen ?_ (by assumption)) | exact Below.refl _ _))))).mono ?_; rintro e w1 ⟨A1, c1, rfl, ho1, hb1⟩; (apply Blk.use (w := w1) (g := w.heap.size + 1); (focus (apply Blk.lat hb1; (repeat (first | with_reducible assumption | ((with_reducible apply Blk.new'); first | rfl | (simp; done)) | with_reducible apply Blk.set_ | (with_reducible apply Blk.far' (by first | (simp; done) | (simp; omega))) | with_reducible apply Blk.alloc | with_reducible apply Blk.drew)))); intro Z1; (try simp only [List.setIfInBounds_toArray, List.set_cons_zero, List.set_cons_succ] at Z1); have Z1c := Z1.cell; have Z1f := Z1.frozen; have Z1s := Z1.lt); obtain ⟨g, rfl, hg1, hg2⟩ := own_slice ho1 (by omega); obtain ⟨⟨u0, q0⟩, q1, q2⟩ := own_at ho1 (m := k * 3 + 2) (by omega); have hz : w.heap.size + 1 < w1.heap.size := Z1.lt; have hz0 := Z0.lt; have hgne : g ≠ w.heap.size + 1 := (by omega); have hgne' := hgne.symm; have Q2 := Lib.hid q2; clear q2 Z0 Z0c Z0f Z0s D0 D0c D0f D0s))
  have O2 := Q2.out (.string ⟨#[]⟩)
  rw [HF.out] at O2
  refine bp_world ?_
  intro w9 hw9
  (apply Blk.use (w := w9) (g := w.heap.size + 1); (focus (rw [hw9]; (repeat (first | with_reducible assumption | ((with_reducible apply Blk.new'); first | rfl | (simp; done)) | with_reducible apply Blk.set_ | (with_reducible apply Blk.far' (by first | (simp; done) | (simp; omega))) | with_reducible apply Blk.alloc | with_reducible apply Blk.drew)))); intro Z9; (try simp only [List.setIfInBounds_toArray, List.set_cons_zero, List.set_cons_succ] at Z9); have Z9c := Z9.cell; have Z9f := Z9.frozen; have Z9s := Z9.lt)
  have O9 : w9.ownsRow (w0.heap.size) 57 3 (.slice (some ⟨g, 0, none⟩) rs.length c1) rs.length (flat encReg (setLog rs k ⟨#[]⟩)) := by rw [hw9]; (repeat (first | with_reducible assumption | (with_reducible refine own_set ?_ (by first | (simp; done) | (simp; omega)) _) | (with_reducible refine own_alloc ?_ _)))
  have B9 : Below w.heap.size w w9 := by rw [hw9]; (repeat (first | (with_reducible refine bset ?_ (by first | (simp; done) | (simp; omega)) _) | (with_reducible refine balloc ?_ _) | (with_reducible refine bdrew ?_) | with_reducible exact Below.refl _ _ | (refine bthen ?_ (by with_reducible assumption)) | (refine bthen ?_ (by assumption)) | exact Below.refl _ _))
  clear hw9 O2 Q2 HB HR HF Z1 Z1c Z1f Z1s hb1 ho1 q0 q1
  exact bodyPost_ret (v := .agg #[.slice (some ⟨g, 0, none⟩) rs.length c1, .int .i64 p, .int .i64 0]) (by simp [results, Try.results27, go_sem, Z9c]) rfl ⟨some ⟨g, 0, none⟩, c1, by rw [HL.out], by rw [HL.out]; exact own_base O9 (by omega), B9⟩
set_option maxRecDepth 100000 in
theorem wipe_s_ill (rs : List Reg) (v : Value) (p r : Int) (hs : stage rs p r ≠ 0) (w : World) (hr : Rd w 3 v rs.length (flat encReg rs)) :
    Calls Try.prog 27 #[.agg #[v, .int .i64 p], .int .i64 r] w fun e w' => NewOut w e w' (illRs rs (stage rs p r)) (illP p (stage rs p r)) (stage rs p r) := by
  have hB := fun w hr => l16Code_s rs v p r w hr
  have hI := fun w hr => l16Ill_s rs v p r w hr
  obtain ⟨A, cap, rfl, _⟩ := hr.form
  have HR := Lib.hid hr
  have HB := Lib.hid hB
  have HI := Lib.hid hI
  clear hr hB hI
  generalize illRs rs (stage rs p r) = rs' at *
  generalize illP p (stage rs p r) = p' at *
  generalize stage rs p r = c at *
  have hc : (c != 0) = true := by simpa using hs
  clear hs
  go_enter Try.func27, Try.ntmps27
  go_wp2_with (first
    | (go_at_call 61; refine (HB.out _ (HR.out.later (by (repeat (first | (with_reducible refine bset ?_ (by first | (simp; done) | (simp; omega)) _) | (with_reducible refine balloc ?_ _) | (with_reducible refine bdrew ?_) | with_reducible exact Below.refl _ _ | (refine bthen ?_ (by with_reducible assumption)) | (refine bthen ?_ (by assumption)) | exact Below.refl _ _))))).use.mono ?_; rintro e w0 ⟨rfl, hb0⟩; (apply Blk.use (w := w0) (g := w.heap.size + 1); (focus (apply Blk.lat hb0; (repeat (first | with_reducible assumption | ((with_reducible apply Blk.new'); first | rfl | (simp; done)) | with_reducible apply Blk.set_ | (with_reducible apply Blk.far' (by first | (simp; done) | (simp; omega))) | with_reducible apply Blk.alloc | with_reducible apply Blk.drew)))); intro Z0; (try simp only [List.setIfInBounds_toArray, List.set_cons_zero, List.set_cons_succ] at Z0); have Z0c := Z0.cell; have Z0f := Z0.frozen; have Z0s := Z0.lt); (apply Blk.use (w := w0) (g := w.heap.size); (focus (apply Blk.lat hb0; (repeat (first | with_reducible assumption | ((with_reducible apply Blk.new'); first | rfl | (simp; done)) | with_reducible apply Blk.set_ | (with_reducible apply Blk.far' (by first | (simp; done) | (simp; omega))) | with_reducible apply Blk.alloc | with_reducible apply Blk.drew)))); intro D0; (try simp only [List.setIfInBounds_toArray, List.set_cons_zero, List.set_cons_succ] at D0); have D0c := D0.cell; have D0f := D0.frozen; have D0s := D0.lt))
    | (go_at_call 62; refine (HI.out _ (HR.out.later (by (repeat (first | (with_reducible refine bset ?_ (by first | (simp; done) | (simp; omega)) _) | (with_reducible refine balloc ?_ _) | (with_reducible refine bdrew ?_) | with_reducible exact Below.refl _ _ | (refine bthen ?_ (by with_reducible assumption)) | (refine bthen ?_ (by assumption)) | exact Below.refl _ _))))).mono ?_; rintro e w1 ⟨A1, c1, rfl, ho1, hb1⟩; (apply Blk.use (w := w1) (g := w.heap.size + 1); (focus (apply Blk.lat hb1; (repeat (first | with_reducible assumption | ((with_reducible apply Blk.new'); first | rfl | (simp; done)) | with_reducible apply Blk.set_ | (with_reducible apply Blk.far' (by first | (simp; done) | (simp; omega))) | with_reducible apply Blk.alloc | with_reducible apply Blk.drew)))); intro Z1; (try simp only [List.setIfInBounds_toArray, List.set_cons_zero, List.set_cons_succ] at Z1); have Z1c := Z1.cell; have Z1f := Z1.frozen; have Z1s := Z1.lt); have hz : w.heap.size + 1 < w1.heap.size := Z1.lt; have hz0 := Z0.lt; clear Z0 Z0c Z0f Z0s D0 D0c D0f D0s))
  refine bp_world ?_
  intro w9 hw9
  (apply Blk.use (w := w9) (g := w.heap.size + 1); (focus (rw [hw9]; (repeat (first | with_reducible assumption | ((with_reducible apply Blk.new'); first | rfl | (simp; done)) | with_reducible apply Blk.set_ | (with_reducible apply Blk.far' (by first | (simp; done) | (simp; omega))) | with_reducible apply Blk.alloc | with_reducible apply Blk.drew)))); intro Z9; (try simp only [List.setIfInBounds_toArray, List.set_cons_zero, List.set_cons_succ] at Z9); have Z9c := Z9.cell; have Z9f := Z9.frozen; have Z9s := Z9.lt)
  have O9 : w9.ownsRow (w0.heap.size) 57 3 (.slice A1 rs'.length c1) rs'.length (flat encReg rs') := by rw [hw9]; (repeat (first | with_reducible assumption | (with_reducible refine own_set ?_ (by first | (simp; done) | (simp; omega)) _) | (with_reducible refine own_alloc ?_ _)))
  have B9 : Below w.heap.size w w9 := by rw [hw9]; (repeat (first | (with_reducible refine bset ?_ (by first | (simp; done) | (simp; omega)) _) | (with_reducible refine balloc ?_ _) | (with_reducible refine bdrew ?_) | with_reducible exact Below.refl _ _ | (refine bthen ?_ (by with_reducible assumption)) | (refine bthen ?_ (by assumption)) | exact Below.refl _ _))
  clear hw9 HB HR Z1 Z1c Z1f Z1s hb1 ho1
  exact bodyPost_ret (v := .agg #[.slice A1 rs'.length c1, .int .i64 p', .int .i64 c]) (by simp [results, Try.results27, go_sem, Z9c]) rfl ⟨A1, c1, rfl, own_base O9 (by omega), B9⟩
theorem wipe_s (rs : List Reg) (v : Value) (p r : Int) (w : World) (hr : Rd w 3 v rs.length (flat encReg rs)) :
    Calls Try.prog 27 #[.agg #[v, .int .i64 p], .int .i64 r] w fun e w' => NewOut w e w' (wipeRs rs p r) (doneP rs p r) (stage rs p r) := by
  unfold wipeRs doneP
  by_cases h : stage rs p r = 0
  · obtain ⟨h1, h2, h3⟩ := stage_zero h
    obtain ⟨k, rfl⟩ := Int.eq_ofNat_of_zero_le h2.1
    rw [h, if_pos rfl, if_pos rfl]
    exact wipe_s_ok rs v p k (by omega) h1 h3 w hr
  · rw [if_neg h, if_neg h]
    exact wipe_s_ill rs v p r h w hr
end Go.Proofs.Ytnehiflandjkoaa
