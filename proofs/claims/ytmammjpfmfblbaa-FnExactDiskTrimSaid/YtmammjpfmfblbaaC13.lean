import Derived.Test.YtmammjpfmfblbaaCA
namespace Go.Proofs.Ytmammjpfmfblbaa
open Go.RowKit M

set_option maxRecDepth 100000 in
set_option maxHeartbeats 2000000 in
theorem trim_s_ok (rs : List Reg) (v : Value) (p : Int) (k : Nat) (hk : k < rs.length) (h : diskOk rs p = true) (hp : p ≠ 0) (w : World) (hr : Rd w 3 v rs.length (flat encReg rs)) :
    Calls Try.prog 15 #[.agg #[v, .int .i64 p], .int .i64 k] w fun e w' => NewOut w e w' (setLog rs k (trimLog (rs.getD k noReg).2.2)) p 0 := by
  have hB := fun w hr => l16Code_s rs v p k w hr
  rw [stage_ok h ⟨by omega, by omega⟩ hp] at hB
  obtain ⟨A, cap, rfl, hn, hcap, hform⟩ := hr.form
  obtain ⟨b, off, rfl, hcells⟩ := hform (by omega)
  have hl := diskOk_len' h
  obtain ⟨x, hx, hxd, hxm⟩ := reg_at hk
  have hle := (reg_le h hxm).2.2
  have hcell : (flat encReg rs)[k * 3 + 2]? = some (.string x.2.2) := by rw [flat_get encReg_len rs k 2 x hx (by omega)]; rfl
  have HF := Lib.hid (flat_log rs k (trimLog x.2.2) hk)
  have HL := Lib.hid (setLog_len rs k (trimLog x.2.2))
  rw [hxd]
  obtain ⟨fs, m, c0, hlog, hm, htrim⟩ := trim_facts x.2.2 hle
  have hI := fun w => logRead_s x.2.2 (by unfold maxLen; omega) w
  rw [hlog] at hI
  have hold : ∀ w', Below w.heap.size w w' → w'.cell? ⟨b, off + k * 3 + 2, none⟩ = some (.string x.2.2) := fun w' hb => by
    have h := hcells (k * 3 + 2) _ hcell
    rw [Nat.add_assoc, (bcell hb).1 _ _ (World.block_lt_of_cell? w _ h)]
    exact h
  have HR := Lib.hid hr
  have HB := Lib.hid hB
  have HC := Lib.hid hcell
  have HI := Lib.hid hI
  have HT := Lib.hid htrim
  have HO := Lib.hid hold
  have HBl := Lib.hid (World.block_lt_of_cell? w _ (hcells _ _ hcell))
  clear hr hB h hp hx hxd hxm hcell hlog hI htrim hold hform hcells
  generalize x.2.2 = s at *
  have i1 : (k : Int) < rs.length := by omega
  have i2 : (m : Int) ≤ s.size := by omega
  go_enter Try.func15, Try.ntmps15
  go_wp2_with (first
    | (go_at_call 41; refine (HB.out _ (HR.out.later (by (repeat (first | (with_reducible refine bset ?_ (by first | (simp; done) | (simp; omega)) _) | (with_reducible refine balloc ?_ _) | (with_reducible refine bdrew ?_) | with_reducible exact Below.refl _ _ | (refine bthen ?_ (by with_reducible assumption)) | (refine bthen ?_ (by assumption)) | exact Below.refl _ _))))).use.mono ?_; rintro e w0 ⟨rfl, hb0⟩; (apply Blk.use (w := w0) (g := w.heap.size + 1); (focus (apply Blk.lat hb0; (repeat (first | with_reducible assumption | ((with_reducible apply Blk.new'); first | rfl | (simp; done)) | with_reducible apply Blk.set_ | (with_reducible apply Blk.far' (by first | (simp; done) | (simp; omega))) | with_reducible apply Blk.alloc | with_reducible apply Blk.drew)))); intro Z0; (try simp only [List.setIfInBounds_toArray, List.set_cons_zero, List.set_cons_succ] at Z0); have Z0c := Z0.cell; have Z0f := Z0.frozen; have Z0s := Z0.lt); (apply Blk.use (w := w0) (g := w.heap.size); (focus (apply Blk.lat hb0; (repeat (first | with_reducible assumption | ((with_reducible apply Blk.new'); first | rfl | (simp; done)) | with_reducible apply Blk.set_ | (with_reducible apply Blk.far' (by first | (simp; done) | (simp; omega))) | with_reducible apply Blk.alloc | with_reducible apply Blk.drew)))); intro D0; (try simp only [List.setIfInBounds_toArray, List.set_cons_zero, List.set_cons_succ] at D0); have D0c := D0.cell; have D0f := D0.frozen; have D0s := D0.lt))
    | (go_at_call 43; refine (copyDisk_s rs _ _ hl _ (HR.out.later (by (repeat (first | (with_reducible refine bset ?_ (by first | (simp; done) | (simp; omega)) _) | (with_reducible refine balloc ?_ _) | (with_reducible refine bdrew ?_) | with_reducible exact Below.refl _ _ | (refine bthen ?_ (by with_reducible assumption)) | (refine bthen ?_ (by assumption)) | exact Below.refl _ _))))).mono ?_; rintro e w1 ⟨A1, c1, rfl, ho1, hb1⟩; (apply Blk.use (w := w1) (g := w.heap.size + 1); (focus (apply Blk.lat hb1; (repeat (first | with_reducible assumption | ((with_reducible apply Blk.new'); first | rfl | (simp; done)) | with_reducible apply Blk.set_ | (with_reducible apply Blk.far' (by first | (simp; done) | (simp; omega))) | with_reducible apply Blk.alloc | with_reducible apply Blk.drew)))); intro Z1; (try simp only [List.setIfInBounds_toArray, List.set_cons_zero, List.set_cons_succ] at Z1); have Z1c := Z1.cell; have Z1f := Z1.frozen; have Z1s := Z1.lt); (apply Blk.use (w := w1) (g := w.heap.size); (focus (apply Blk.lat hb1; (repeat (first | with_reducible assumption | ((with_reducible apply Blk.new'); first | rfl | (simp; done)) | with_reducible apply Blk.set_ | (with_reducible apply Blk.far' (by first | (simp; done) | (simp; omega))) | with_reducible apply Blk.alloc | with_reducible apply Blk.drew)))); intro D1; (try simp only [List.setIfInBounds_toArray, List.set_cons_zero, List.set_cons_succ] at D1); have D1c := D1.cell; have D1f := D1.frozen; have D1s := D1.lt); obtain ⟨g, rfl, hg1, hg2⟩ := own_slice ho1 (by omega)))
  have O1 := Lib.hid ho1
  clear ho1
  refine wp_world ?_
  intro w2 hw2
  (apply Blk.use (w := w2) (g := w.heap.size + 1); (focus (rw [hw2]; (repeat (first | with_reducible assumption | ((with_reducible apply Blk.new'); first | rfl | (simp; done)) | with_reducible apply Blk.set_ | (with_reducible apply Blk.far' (by first | (simp; done) | (simp; omega))) | with_reducible apply Blk.alloc | with_reducible apply Blk.drew)))); intro Z2; (try simp only [List.setIfInBounds_toArray, List.set_cons_zero, List.set_cons_succ] at Z2); have Z2c := Z2.cell; have Z2f := Z2.frozen; have Z2s := Z2.lt)
  (apply Blk.use (w := w2) (g := w.heap.size); (focus (rw [hw2]; (repeat (first | with_reducible assumption | ((with_reducible apply Blk.new'); first | rfl | (simp; done)) | with_reducible apply Blk.set_ | (with_reducible apply Blk.far' (by first | (simp; done) | (simp; omega))) | with_reducible apply Blk.alloc | with_reducible apply Blk.drew)))); intro D2; (try simp only [List.setIfInBounds_toArray, List.set_cons_zero, List.set_cons_succ] at D2); have D2c := D2.cell; have D2f := D2.frozen; have D2s := D2.lt)
  (apply Blk.use (w := w2) (g := w1.heap.size); (focus (rw [hw2]; (repeat (first | with_reducible assumption | ((with_reducible apply Blk.new'); first | rfl | (simp; done)) | with_reducible apply Blk.set_ | (with_reducible apply Blk.far' (by first | (simp; done) | (simp; omega))) | with_reducible apply Blk.alloc | with_reducible apply Blk.drew)))); intro U2; (try simp only [List.setIfInBounds_toArray, List.set_cons_zero, List.set_cons_succ] at U2); have U2c := U2.cell; have U2f := U2.frozen; have U2s := U2.lt)
  have O2 : Hid (w2.ownsRow w0.heap.size 68 3 (.slice (some ⟨g, 0, none⟩) rs.length c1) rs.length (flat encReg rs)) := Lib.hid (by rw [hw2]; have O1' := O1.out; (repeat (first | with_reducible assumption | (with_reducible refine own_set ?_ (by first | (simp; done) | (simp; omega)) _) | (with_reducible refine own_alloc ?_ _))))
  have BB2 : Below w.heap.size w w2 := by rw [hw2]; (repeat (first | (with_reducible refine bset ?_ (by first | (simp; done) | (simp; omega)) _) | (with_reducible refine balloc ?_ _) | (with_reducible refine bdrew ?_) | with_reducible exact Below.refl _ _ | (refine bthen ?_ (by with_reducible assumption)) | (refine bthen ?_ (by assumption)) | exact Below.refl _ _))
  have hz0 : w.heap.size + 1 < w0.heap.size := Z0s
  clear hw2 O1 hb1 hb0 Z1 Z1c Z1f D1 D1c D1f Z0 Z0c Z0f D0 D0c D0f
  have gne : g ≠ w1.heap.size := Nat.ne_of_lt hg2
  have q2 : w2.cell? ⟨b, off + k * 3 + 2, none⟩ = some (.string s) := HO.out _ BB2
  have c2 : ∃ u, w2.cell? ⟨g, k * 3 + 2, none⟩ = some u := (own_at O2.out (m := k * 3 + 2) (by omega)).1
  obtain ⟨u2, c2⟩ := c2
  have r2 : w2.frozen? ⟨g, k * 3 + 2, none⟩ = false := O2.out.frozenAt _
  have hfd := field_size
  have gw : g ≠ w.heap.size := by omega
  have gw' := gw.symm
  have hbw : b < w.heap.size := HBl.out
  have gb : g ≠ b := by omega
  have gb' := gb.symm
  have gne' := gne.symm
  go_region_held3 (fun w' => w'.cell? ⟨w1.heap.size, 0, none⟩ = some (.slice (some ⟨g, 0, none⟩) rs.length c1) ∧ w'.cell? ⟨w.heap.size, 0, none⟩ = some (.slice (some ⟨b, off, none⟩) rs.length cap) ∧ w'.cell? ⟨b, off + k * 3 + 2, none⟩ = some (.string s)) (go_keep) (first | (go_at_call 9; refine (HI.out _).mono ?_; rintro e w3 ⟨AL, cL, rfl, oL, hb3⟩; (apply Blk.use (w := w3) (g := w.heap.size + 1); (focus (apply Blk.lat hb3; (repeat (first | with_reducible assumption | ((with_reducible apply Blk.new'); first | rfl | (simp; done)) | with_reducible apply Blk.set_ | (with_reducible apply Blk.far' (by first | (simp; done) | (simp; omega))) | with_reducible apply Blk.alloc | with_reducible apply Blk.drew)))); intro Z3; (try simp only [List.setIfInBounds_toArray, List.set_cons_zero, List.set_cons_succ] at Z3); have Z3c := Z3.cell; have Z3f := Z3.frozen; have Z3s := Z3.lt); (apply Blk.use (w := w3) (g := w1.heap.size); (focus (apply Blk.lat hb3; (repeat (first | with_reducible assumption | ((with_reducible apply Blk.new'); first | rfl | (simp; done)) | with_reducible apply Blk.set_ | (with_reducible apply Blk.far' (by first | (simp; done) | (simp; omega))) | with_reducible apply Blk.alloc | with_reducible apply Blk.drew)))); intro U3; (try simp only [List.setIfInBounds_toArray, List.set_cons_zero, List.set_cons_succ] at U3); have U3c := U3.cell; have U3f := U3.frozen; have U3s := U3.lt); (apply Blk.use (w := w3) (g := w.heap.size); (focus (apply Blk.lat hb3; (repeat (first | with_reducible assumption | ((with_reducible apply Blk.new'); first | rfl | (simp; done)) | with_reducible apply Blk.set_ | (with_reducible apply Blk.far' (by first | (simp; done) | (simp; omega))) | with_reducible apply Blk.alloc | with_reducible apply Blk.drew)))); intro D3; (try simp only [List.setIfInBounds_toArray, List.set_cons_zero, List.set_cons_succ] at D3); have D3c := D3.cell; have D3f := D3.frozen; have D3s := D3.lt); have O3 := Lib.hid (own_keep (own_drew O2.out) hb3); have BB3 : Below w.heap.size w w3 := (by (repeat (first | (with_reducible refine bset ?_ (by first | (simp; done) | (simp; omega)) _) | (with_reducible refine balloc ?_ _) | (with_reducible refine bdrew ?_) | with_reducible exact Below.refl _ _ | (refine bthen ?_ (by with_reducible assumption)) | (refine bthen ?_ (by assumption)) | exact Below.refl _ _))); have q3 : w3.cell? ⟨b, off + k * 3 + 2, none⟩ = some (.string s) := HO.out _ BB3; obtain ⟨u3, c3⟩ := (own_at O3.out (m := k * 3 + 2) (by omega)).1; have r3 : w3.frozen? ⟨g, k * 3 + 2, none⟩ = false := O3.out.frozenAt _; clear oL))
  all_goals
    have O4 := (own_at O3.out (m := k * 3 + 2) (by omega)).2.2 (.string (s.extract 0 m))
    rw [← HT.out, HF.out, HT.out] at O4
    have hgz : g ≠ w.heap.size + 1 := by omega
    have hgz' := hgz.symm
    go_wp2
    refine bp_world ?_
    intro w9 hw9
    (apply Blk.use (w := w9) (g := w.heap.size + 1); (focus (rw [hw9]; (repeat (first | with_reducible assumption | ((with_reducible apply Blk.new'); first | rfl | (simp; done)) | with_reducible apply Blk.set_ | (with_reducible apply Blk.far' (by first | (simp; done) | (simp; omega))) | with_reducible apply Blk.alloc | with_reducible apply Blk.drew)))); intro Z9; (try simp only [List.setIfInBounds_toArray, List.set_cons_zero, List.set_cons_succ] at Z9); have Z9c := Z9.cell; have Z9f := Z9.frozen; have Z9s := Z9.lt)
    have O9 : w9.ownsRow w0.heap.size 68 3 (.slice (some ⟨g, 0, none⟩) rs.length c1) rs.length (flat encReg (setLog rs k (trimLog s))) := by rw [hw9, HT.out]; (repeat (first | with_reducible assumption | (with_reducible refine own_set ?_ (by first | (simp; done) | (simp; omega)) _) | (with_reducible refine own_alloc ?_ _)))
    have B9 : Below w.heap.size w w9 := by rw [hw9]; (repeat (first | (with_reducible refine bset ?_ (by first | (simp; done) | (simp; omega)) _) | (with_reducible refine balloc ?_ _) | (with_reducible refine bdrew ?_) | with_reducible exact Below.refl _ _ | (refine bthen ?_ (by with_reducible assumption)) | (refine bthen ?_ (by assumption)) | exact Below.refl _ _))
    clear hw9 O4 HB HR HF HO Z3 Z3c Z3f U3 U3c U3f D3 D3c D3f Z2 Z2c Z2f U2 U2c U2f D2 D2c D2f hb3 O2 O3 q2 q3 r2 r3 c2 c3
    exact bodyPost_ret (v := .agg #[.slice (some ⟨g, 0, none⟩) rs.length c1, .int .i64 p, .int .i64 0]) (by simp [results, Try.results15, go_sem, Z9c]) rfl ⟨some ⟨g, 0, none⟩, c1, by rw [HL.out], by rw [HL.out]; exact own_base O9 (by omega), B9⟩
set_option maxRecDepth 100000 in
theorem trim_s_ill (rs : List Reg) (v : Value) (p r : Int) (hs : stage rs p r ≠ 0) (w : World) (hr : Rd w 3 v rs.length (flat encReg rs)) :
    Calls Try.prog 15 #[.agg #[v, .int .i64 p], .int .i64 r] w fun e w' => NewOut w e w' (illRs rs (stage rs p r)) (illP p (stage rs p r)) (stage rs p r) := by
  have hB := fun w hr => l16Code_s rs v p r w hr
  have hI := fun w hr => l16Ill_s rs v p r w hr
  obtain ⟨A, cap, rfl, _⟩ := hr.form
  have HR := Lib.hid hr
  have HB := Lib.hid hB
  have HI := Lib.hid hI
  clear hr hB hI
  generalize illRs rs (stage rs p r) = rs' at *
  generalize illP p (stage rs p r) = p' at *
  generalize stage rs p r = c at *
  have hc : (c != 0) = true := by simpa using hs
  clear hs
  go_enter Try.func15, Try.ntmps15
  go_wp2_with (first
    | (go_at_call 41; refine (HB.out _ (HR.out.later (by (repeat (first | (with_reducible refine bset ?_ (by first | (simp; done) | (simp; omega)) _) | (with_reducible refine balloc ?_ _) | (with_reducible refine bdrew ?_) | with_reducible exact Below.refl _ _ | (refine bthen ?_ (by with_reducible assumption)) | (refine bthen ?_ (by assumption)) | exact Below.refl _ _))))).use.mono ?_; rintro e w0 ⟨rfl, hb0⟩; (apply Blk.use (w := w0) (g := w.heap.size + 1); (focus (apply Blk.lat hb0; (repeat (first | with_reducible assumption | ((with_reducible apply Blk.new'); first | rfl | (simp; done)) | with_reducible apply Blk.set_ | (with_reducible apply Blk.far' (by first | (simp; done) | (simp; omega))) | with_reducible apply Blk.alloc | with_reducible apply Blk.drew)))); intro Z0; (try simp only [List.setIfInBounds_toArray, List.set_cons_zero, List.set_cons_succ] at Z0); have Z0c := Z0.cell; have Z0f := Z0.frozen; have Z0s := Z0.lt); (apply Blk.use (w := w0) (g := w.heap.size); (focus (apply Blk.lat hb0; (repeat (first | with_reducible assumption | ((with_reducible apply Blk.new'); first | rfl | (simp; done)) | with_reducible apply Blk.set_ | (with_reducible apply Blk.far' (by first | (simp; done) | (simp; omega))) | with_reducible apply Blk.alloc | with_reducible apply Blk.drew)))); intro D0; (try simp only [List.setIfInBounds_toArray, List.set_cons_zero, List.set_cons_succ] at D0); have D0c := D0.cell; have D0f := D0.frozen; have D0s := D0.lt))
    | (go_at_call 42; refine (HI.out _ (HR.out.later (by (repeat (first | (with_reducible refine bset ?_ (by first | (simp; done) | (simp; omega)) _) | (with_reducible refine balloc ?_ _) | (with_reducible refine bdrew ?_) | with_reducible exact Below.refl _ _ | (refine bthen ?_ (by with_reducible assumption)) | (refine bthen ?_ (by assumption)) | exact Below.refl _ _))))).mono ?_; rintro e w1 ⟨A1, c1, rfl, ho1, hb1⟩; (apply Blk.use (w := w1) (g := w.heap.size + 1); (focus (apply Blk.lat hb1; (repeat (first | with_reducible assumption | ((with_reducible apply Blk.new'); first | rfl | (simp; done)) | with_reducible apply Blk.set_ | (with_reducible apply Blk.far' (by first | (simp; done) | (simp; omega))) | with_reducible apply Blk.alloc | with_reducible apply Blk.drew)))); intro Z1; (try simp only [List.setIfInBounds_toArray, List.set_cons_zero, List.set_cons_succ] at Z1); have Z1c := Z1.cell; have Z1f := Z1.frozen; have Z1s := Z1.lt); have hz : w.heap.size + 1 < w1.heap.size := Z1.lt; have hz0 := Z0.lt; clear Z0 Z0c Z0f Z0s D0 D0c D0f D0s))
  refine bp_world ?_
  intro w9 hw9
  (apply Blk.use (w := w9) (g := w.heap.size + 1); (focus (rw [hw9]; (repeat (first | with_reducible assumption | ((with_reducible apply Blk.new'); first | rfl | (simp; done)) | with_reducible apply Blk.set_ | (with_reducible apply Blk.far' (by first | (simp; done) | (simp; omega))) | with_reducible apply Blk.alloc | with_reducible apply Blk.drew)))); intro Z9; (try simp only [List.setIfInBounds_toArray, List.set_cons_zero, List.set_cons_succ] at Z9); have Z9c := Z9.cell; have Z9f := Z9.frozen; have Z9s := Z9.lt)
  have O9 : w9.ownsRow (w0.heap.size) 68 3 (.slice A1 rs'.length c1) rs'.length (flat encReg rs') := by rw [hw9]; (repeat (first | with_reducible assumption | (with_reducible refine own_set ?_ (by first | (simp; done) | (simp; omega)) _) | (with_reducible refine own_alloc ?_ _)))
  have B9 : Below w.heap.size w w9 := by rw [hw9]; (repeat (first | (with_reducible refine bset ?_ (by first | (simp; done) | (simp; omega)) _) | (with_reducible refine balloc ?_ _) | (with_reducible refine bdrew ?_) | with_reducible exact Below.refl _ _ | (refine bthen ?_ (by with_reducible assumption)) | (refine bthen ?_ (by assumption)) | exact Below.refl _ _))
  clear hw9 HB HR Z1 Z1c Z1f Z1s hb1 ho1
  exact bodyPost_ret (v := .agg #[.slice A1 rs'.length c1, .int .i64 p', .int .i64 c]) (by simp [results, Try.results15, go_sem, Z9c]) rfl ⟨A1, c1, rfl, own_base O9 (by omega), B9⟩
theorem trim_s (rs : List Reg) (v : Value) (p r : Int) (w : World) (hr : Rd w 3 v rs.length (flat encReg rs)) :
    Calls Try.prog 15 #[.agg #[v, .int .i64 p], .int .i64 r] w fun e w' => NewOut w e w' (trimRs rs p r) (doneP rs p r) (stage rs p r) := by
  unfold trimRs doneP
  by_cases h : stage rs p r = 0
  · obtain ⟨h1, h2, h3⟩ := stage_zero h
    obtain ⟨k, rfl⟩ := Int.eq_ofNat_of_zero_le h2.1
    rw [h, if_pos rfl, if_pos rfl]
    exact trim_s_ok rs v p k (by omega) h1 h3 w hr
  · rw [if_neg h, if_neg h]
    exact trim_s_ill rs v p r h w hr
end Go.Proofs.Ytmammjpfmfblbaa
