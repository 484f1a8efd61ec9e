import Derived.Test.YtmammjpfmfblbaaCA
namespace Go.Proofs.Ytmammjpfmfblbaa
open Go.RowKit M

set_option maxRecDepth 100000 in
set_option maxHeartbeats 2000000 in
theorem trim_i_ok (rs : List Reg) (v : Value) (p : Int) (k : Nat) (hk : k < rs.length) (h : diskOk rs p = true) (hp : p ≠ 0) (w : World) (hr : Rd w 3 v rs.length (flat encReg rs)) :
    Calls Try.prog 17 #[.agg #[v, .int .i64 p], .int .i64 k] w fun e w' => NewOut w e w' (setLog rs k (trimLog (rs.getD k noReg).2.2)) p 0 := by
  have hB := fun w hr => begin_i_ok rs v p k w hr h ⟨by omega, by omega⟩ hp
  obtain ⟨A, cap, rfl, _⟩ := hr.form
  have hl := diskOk_len' h
  obtain ⟨x, hx, hxd, hxm⟩ := reg_at hk
  have hle := (reg_le h hxm).2.2
  have hcell : (flat encReg rs)[k * 3 + 2]? = some (.string x.2.2) := by rw [flat_get encReg_len rs k 2 x hx (by omega)]; rfl
  have HF := Lib.hid (flat_log rs k (trimLog x.2.2) hk)
  have HL := Lib.hid (setLog_len rs k (trimLog x.2.2))
  rw [hxd]
  obtain ⟨fs, m, c0, hlog, hm, htrim⟩ := trim_facts x.2.2 hle
  have hI := fun w => logRead_i x.2.2 (by unfold maxLen; omega) w
  rw [hlog] at hI
  have HR := Lib.hid hr
  have HB := Lib.hid hB
  have HC := Lib.hid hcell
  have HI := Lib.hid hI
  have HT := Lib.hid htrim
  clear hr hB h hp hx hxd hxm hcell hlog hI htrim
  generalize x.2.2 = s at *
  have i1 : (k : Int) < rs.length := by omega
  have i2 : (m : Int) ≤ s.size := by omega
  go_enter Try.func17, Try.ntmps17
  go_wp2_with (go_at_call 45; refine (HB.out _ (HR.out.later (by (repeat (first | (with_reducible refine bset ?_ (by first | (simp; done) | (simp; omega)) _) | (with_reducible refine balloc ?_ _) | (with_reducible refine bdrew ?_) | with_reducible exact Below.refl _ _ | (refine bthen ?_ (by with_reducible assumption)) | (refine bthen ?_ (by assumption)) | exact Below.refl _ _))))).mono ?_; rintro e w1 ⟨A1, c1, rfl, ho1, hb1⟩; (apply Blk.use (w := w1) (g := w.heap.size + 1); (focus (apply Blk.lat hb1; (repeat (first | with_reducible assumption | ((with_reducible apply Blk.new'); first | rfl | (simp; done)) | with_reducible apply Blk.set_ | (with_reducible apply Blk.far' (by first | (simp; done) | (simp; omega))) | with_reducible apply Blk.alloc | with_reducible apply Blk.drew)))); intro Z1; (try simp only [List.setIfInBounds_toArray, List.set_cons_zero, List.set_cons_succ] at Z1); have Z1c := Z1.cell; have Z1f := Z1.frozen; have Z1s := Z1.lt); obtain ⟨g, rfl, hg1, hg2⟩ := own_slice ho1 (by omega); simp only [World.size_alloc] at ho1 hg1)
  have O1 := Lib.hid ho1
  clear ho1
  refine wp_world ?_
  intro w2 hw2
  (apply Blk.use (w := w2) (g := w.heap.size + 1); (focus (rw [hw2]; (repeat (first | with_reducible assumption | ((with_reducible apply Blk.new'); first | rfl | (simp; done)) | with_reducible apply Blk.set_ | (with_reducible apply Blk.far' (by first | (simp; done) | (simp; omega))) | with_reducible apply Blk.alloc | with_reducible apply Blk.drew)))); intro Z2; (try simp only [List.setIfInBounds_toArray, List.set_cons_zero, List.set_cons_succ] at Z2); have Z2c := Z2.cell; have Z2f := Z2.frozen; have Z2s := Z2.lt)
  (apply Blk.use (w := w2) (g := w1.heap.size); (focus (rw [hw2]; (repeat (first | with_reducible assumption | ((with_reducible apply Blk.new'); first | rfl | (simp; done)) | with_reducible apply Blk.set_ | (with_reducible apply Blk.far' (by first | (simp; done) | (simp; omega))) | with_reducible apply Blk.alloc | with_reducible apply Blk.drew)))); intro U2; (try simp only [List.setIfInBounds_toArray, List.set_cons_zero, List.set_cons_succ] at U2); have U2c := U2.cell; have U2f := U2.frozen; have U2s := U2.lt)
  have O2 : Hid (w2.ownsRow (w.heap.size + 1 + 1) 68 3 (.slice (some ⟨g, 0, none⟩) rs.length c1) rs.length (flat encReg rs)) := Lib.hid (by rw [hw2]; have O1' := O1.out; (repeat (first | with_reducible assumption | (with_reducible refine own_set ?_ (by first | (simp; done) | (simp; omega)) _) | (with_reducible refine own_alloc ?_ _))))
  have BB2 : Below w.heap.size w w2 := by rw [hw2]; (repeat (first | (with_reducible refine bset ?_ (by first | (simp; done) | (simp; omega)) _) | (with_reducible refine balloc ?_ _) | (with_reducible refine bdrew ?_) | with_reducible exact Below.refl _ _ | (refine bthen ?_ (by with_reducible assumption)) | (refine bthen ?_ (by assumption)) | exact Below.refl _ _))
  clear hw2 O1 hb1 Z1 Z1c Z1f
  have gne : g ≠ w1.heap.size := Nat.ne_of_lt hg2
  have q2 : w2.cell? ⟨g, k * 3 + 2, none⟩ = some (.string s) := by rw [O2.out.cellAt _ (by omega)]; exact HC.out
  have r2 : w2.frozen? ⟨g, k * 3 + 2, none⟩ = false := O2.out.frozenAt _
  have hfd := field_size
  go_region_with (go_at_call 10; refine (HI.out _).mono ?_; rintro e w3 ⟨AL, cL, rfl, oL, hb3⟩; (apply Blk.use (w := w3) (g := w.heap.size + 1); (focus (apply Blk.lat hb3; (repeat (first | with_reducible assumption | ((with_reducible apply Blk.new'); first | rfl | (simp; done)) | with_reducible apply Blk.set_ | (with_reducible apply Blk.far' (by first | (simp; done) | (simp; omega))) | with_reducible apply Blk.alloc | with_reducible apply Blk.drew)))); intro Z3; (try simp only [List.setIfInBounds_toArray, List.set_cons_zero, List.set_cons_succ] at Z3); have Z3c := Z3.cell; have Z3f := Z3.frozen; have Z3s := Z3.lt); (apply Blk.use (w := w3) (g := w1.heap.size); (focus (apply Blk.lat hb3; (repeat (first | with_reducible assumption | ((with_reducible apply Blk.new'); first | rfl | (simp; done)) | with_reducible apply Blk.set_ | (with_reducible apply Blk.far' (by first | (simp; done) | (simp; omega))) | with_reducible apply Blk.alloc | with_reducible apply Blk.drew)))); intro U3; (try simp only [List.setIfInBounds_toArray, List.set_cons_zero, List.set_cons_succ] at U3); have U3c := U3.cell; have U3f := U3.frozen; have U3s := U3.lt); have O3 := Lib.hid (own_keep (own_drew O2.out) hb3); have BB3 : Below w.heap.size w w3 := (by (repeat (first | (with_reducible refine bset ?_ (by first | (simp; done) | (simp; omega)) _) | (with_reducible refine balloc ?_ _) | (with_reducible refine bdrew ?_) | with_reducible exact Below.refl _ _ | (refine bthen ?_ (by with_reducible assumption)) | (refine bthen ?_ (by assumption)) | exact Below.refl _ _))); have q3 : w3.cell? ⟨g, k * 3 + 2, none⟩ = some (.string s) := (by rw [O3.out.cellAt _ (by omega)]; exact HC.out); have r3 : w3.frozen? ⟨g, k * 3 + 2, none⟩ = false := O3.out.frozenAt _; clear oL)
  all_goals
    have O4 := (own_at O3.out (m := k * 3 + 2) (by omega)).2.2 (.string (s.extract 0 m))
    rw [← HT.out, HF.out, HT.out] at O4
    have hgz : g ≠ w.heap.size + 1 := by omega
    have hgz' := hgz.symm
    have gne' := gne.symm
    go_wp2
    refine bp_world ?_
    intro w9 hw9
    (apply Blk.use (w := w9) (g := w.heap.size + 1); (focus (rw [hw9]; (repeat (first | with_reducible assumption | ((with_reducible apply Blk.new'); first | rfl | (simp; done)) | with_reducible apply Blk.set_ | (with_reducible apply Blk.far' (by first | (simp; done) | (simp; omega))) | with_reducible apply Blk.alloc | with_reducible apply Blk.drew)))); intro Z9; (try simp only [List.setIfInBounds_toArray, List.set_cons_zero, List.set_cons_succ] at Z9); have Z9c := Z9.cell; have Z9f := Z9.frozen; have Z9s := Z9.lt)
    have O9 : w9.ownsRow (w.heap.size + 1 + 1) 68 3 (.slice (some ⟨g, 0, none⟩) rs.length c1) rs.length (flat encReg (setLog rs k (trimLog s))) := by rw [hw9, HT.out]; (repeat (first | with_reducible assumption | (with_reducible refine own_set ?_ (by first | (simp; done) | (simp; omega)) _) | (with_reducible refine own_alloc ?_ _)))
    have B9 : Below w.heap.size w w9 := by rw [hw9]; (repeat (first | (with_reducible refine bset ?_ (by first | (simp; done) | (simp; omega)) _) | (with_reducible refine balloc ?_ _) | (with_reducible refine bdrew ?_) | with_reducible exact Below.refl _ _ | (refine bthen ?_ (by with_reducible assumption)) | (refine bthen ?_ (by assumption)) | exact Below.refl _ _))
    clear hw9 O4 HB HR HF Z3 Z3c Z3f U3 U3c U3f Z2 Z2c Z2f U2 U2c U2f hb3 O2 O3 q2 q3 r2 r3
    exact bodyPost_ret (v := .agg #[.slice (some ⟨g, 0, none⟩) rs.length c1, .int .i64 p, .int .i64 0]) (by simp [results, Try.results17, go_sem, Z9c]) rfl ⟨some ⟨g, 0, none⟩, c1, by rw [HL.out], by rw [HL.out]; exact own_base O9 (by omega), B9⟩
set_option maxRecDepth 100000 in
theorem trim_i_ill (rs : List Reg) (v : Value) (p r : Int) (hs : stage rs p r ≠ 0) (w : World) (hr : Rd w 3 v rs.length (flat encReg rs)) :
    Calls Try.prog 17 #[.agg #[v, .int .i64 p], .int .i64 r] w fun e w' => NewOut w e w' (illRs rs (stage rs p r)) (illP p (stage rs p r)) (stage rs p r) := by
  have hB := fun w hr => begin_i_ill rs v p r hs w hr
  obtain ⟨A, cap, rfl, _⟩ := hr.form
  have HR := Lib.hid hr
  have HB := Lib.hid hB
  clear hr hB
  generalize illRs rs (stage rs p r) = rs' at *
  generalize illP p (stage rs p r) = p' at *
  generalize stage rs p r = c at *
  have hc : (c == 0) = false := by simpa using hs
  clear hs
  go_enter Try.func17, Try.ntmps17
  go_wp2_with (go_at_call 45; refine (HB.out _ (HR.out.later (by (repeat (first | (with_reducible refine bset ?_ (by first | (simp; done) | (simp; omega)) _) | (with_reducible refine balloc ?_ _) | (with_reducible refine bdrew ?_) | with_reducible exact Below.refl _ _ | (refine bthen ?_ (by with_reducible assumption)) | (refine bthen ?_ (by assumption)) | exact Below.refl _ _))))).mono ?_; rintro e w1 ⟨A1, c1, rfl, ho1, hb1⟩; (apply Blk.use (w := w1) (g := w.heap.size + 1); (focus (apply Blk.lat hb1; (repeat (first | with_reducible assumption | ((with_reducible apply Blk.new'); first | rfl | (simp; done)) | with_reducible apply Blk.set_ | (with_reducible apply Blk.far' (by first | (simp; done) | (simp; omega))) | with_reducible apply Blk.alloc | with_reducible apply Blk.drew)))); intro Z1; (try simp only [List.setIfInBounds_toArray, List.set_cons_zero, List.set_cons_succ] at Z1); have Z1c := Z1.cell; have Z1f := Z1.frozen; have Z1s := Z1.lt); have hz : w.heap.size + 1 < w1.heap.size := Z1.lt)
  refine bp_world ?_
  intro w9 hw9
  (apply Blk.use (w := w9) (g := w.heap.size + 1); (focus (rw [hw9]; (repeat (first | with_reducible assumption | ((with_reducible apply Blk.new'); first | rfl | (simp; done)) | with_reducible apply Blk.set_ | (with_reducible apply Blk.far' (by first | (simp; done) | (simp; omega))) | with_reducible apply Blk.alloc | with_reducible apply Blk.drew)))); intro Z9; (try simp only [List.setIfInBounds_toArray, List.set_cons_zero, List.set_cons_succ] at Z9); have Z9c := Z9.cell; have Z9f := Z9.frozen; have Z9s := Z9.lt)
  simp only [World.size_alloc] at ho1
  have O9 : w9.ownsRow (w.heap.size + 1 + 1) 68 3 (.slice A1 rs'.length c1) rs'.length (flat encReg rs') := by rw [hw9]; (repeat (first | with_reducible assumption | (with_reducible refine own_set ?_ (by first | (simp; done) | (simp; omega)) _) | (with_reducible refine own_alloc ?_ _)))
  have B9 : Below w.heap.size w w9 := by rw [hw9]; (repeat (first | (with_reducible refine bset ?_ (by first | (simp; done) | (simp; omega)) _) | (with_reducible refine balloc ?_ _) | (with_reducible refine bdrew ?_) | with_reducible exact Below.refl _ _ | (refine bthen ?_ (by with_reducible assumption)) | (refine bthen ?_ (by assumption)) | exact Below.refl _ _))
  clear hw9 HB HR Z1 Z1c Z1f Z1s hb1 ho1
  exact bodyPost_ret (v := .agg #[.slice A1 rs'.length c1, .int .i64 p', .int .i64 c]) (by simp [results, Try.results17, go_sem, Z9c]) rfl ⟨A1, c1, rfl, own_base O9 (by omega), B9⟩
theorem trim_i (rs : List Reg) (v : Value) (p r : Int) (w : World) (hr : Rd w 3 v rs.length (flat encReg rs)) :
    Calls Try.prog 17 #[.agg #[v, .int .i64 p], .int .i64 r] w fun e w' => NewOut w e w' (trimRs rs p r) (doneP rs p r) (stage rs p r) := by
  unfold trimRs doneP
  by_cases h : stage rs p r = 0
  · obtain ⟨h1, h2, h3⟩ := stage_zero h
    obtain ⟨k, rfl⟩ := Int.eq_ofNat_of_zero_le h2.1
    rw [h, if_pos rfl, if_pos rfl]
    exact trim_i_ok rs v p k (by omega) h1 h3 w hr
  · rw [if_neg h, if_neg h]
    exact trim_i_ill rs v p r h w hr
end Go.Proofs.Ytmammjpfmfblbaa
