import Derived.Test.YtmammjpfmfblbaaC11
set_option linter.unusedSimpArgs false
set_option linter.unusedVariables false
namespace Go.Proofs.Ytmammjpfmfblbaa
open Go.RowKit M
namespace M
def logOf (rs : List Reg) (k : Nat) : ByteArray := (rs.getD k noReg).2.2
def fullLog (s : ByteArray) (fb : Bs) : Prop := 12 ≤ (logRead s.data.toList).1.length ∨ 3000 < s.size + fb.length
instance (s : ByteArray) (fb : Bs) : Decidable (fullLog s fb) := by unfold fullLog; exact inferInstance
/-- regions, power, code behind a frame's writing to a log -/
def addOut (rs : List Reg) (p r : Int) (fb : Bs) : List Reg × Int × Int :=
  if stage rs p r ≠ 0 then (illRs rs (stage rs p r), illP p (stage rs p r), stage rs p r)
  else if fb = [] then ([], 0, 2)
  else if fullLog (logOf rs r.toNat) fb then ([], 0, 9)
  else (setLog rs r.toNat (logOf rs r.toNat ++ bs (cutText p fb).1), (cutText p fb).2.1, (cutText p fb).2.2)
end M

/-- the facts of one region's log that a walk wants -/
theorem log_facts {rs : List Reg} {p : Int} {k : Nat} (hk : k < rs.length) (h : diskOk rs p = true) :
    ∃ s : ByteArray, logOf rs k = s ∧ s.size ≤ 3000 ∧ (flat encReg rs)[k * 3 + 2]? = some (.string s) ∧ ∀ t, (flat encReg rs).set (k * 3 + 2) (.string t) = flat encReg (setLog rs k t) := by
  obtain ⟨x, hx, hxd, hxm⟩ := reg_at hk
  exact ⟨x.2.2, by unfold logOf; rw [hxd], (reg_le h hxm).2.2, by rw [flat_get encReg_len rs k 2 x hx (by omega)]; rfl, fun t => flat_log rs k t hk⟩

set_option maxRecDepth 100000 in
set_option maxHeartbeats 4000000 in
theorem add_i_ok (rs : List Reg) (v : Value) (p : Int) (k : Nat) (q : Int) (t : ByteArray) (hk : k < rs.length) (h : diskOk rs p = true) (hp : p ≠ 0) (hfb : frameBytes q t.data.toList ≠ []) (hfull : ¬ fullLog (logOf rs k) (frameBytes q t.data.toList)) (w : World) (hr : Rd w 3 v rs.length (flat encReg rs)) :
    Calls Try.prog 28 #[.agg #[v, .int .i64 p], .int .i64 k, .agg #[.int .i64 q, .string t]] w fun e w' => NewOut w e w' (setLog rs k (logOf rs k ++ bs (cutText p (frameBytes q t.data.toList)).1)) (cutText p (frameBytes q t.data.toList)).2.1 (cutText p (frameBytes q t.data.toList)).2.2 := by
  have hB := fun w hr => begin_i_ok rs v p k w hr h ⟨by omega, by omega⟩ hp
  have hF := fun w => frameBytes_i q t w
  have hfl := frameBytes_len q t.data.toList
  generalize frameBytes q t.data.toList = fb at *
  obtain ⟨A, cap, rfl, _⟩ := hr.form
  have hl := diskOk_len' h
  have hpw := power_le h
  obtain ⟨s, hs, hsz, hcell, hset⟩ := log_facts hk h
  rw [hs] at hfull ⊢
  unfold fullLog at hfull
  have hI := fun w => logRead_i s (by unfold maxLen; omega) w
  rcases hlg : logRead s.data.toList with ⟨fs, la, lc⟩
  rw [hlg] at hI hfull
  dsimp only at hfull
  have f1 : ¬ (12 : Int) ≤ fs.length := by omega
  have f2 : ¬ (3000 : Int) < (s.size : Int) + (fb.length : Int) := by omega
  have d1 : decide ((12 : Int) ≤ fs.length) = false := by simpa using f1
  have d2 : decide ((3000 : Int) < (s.size : Int) + (fb.length : Int)) = false := by simpa using f2
  have f3 : (s.size : Int) + (fb.length : Int) ≤ 20000 := by omega
  have hemp : (bs fb).toList.isEmpty = false := by rw [Lib.toList_data]; cases fb with
    | nil => exact absurd rfl hfb
    | cons a l => rfl
  have hemp' : ¬ (bs fb).toList = [] := by rw [Lib.toList_data]; exact hfb
  have HR := Lib.hid hr
  have HB := Lib.hid hB
  have HFB := Lib.hid hF
  have HF := Lib.hid (hset (s ++ bs (cutText p fb).1))
  have HL := Lib.hid (setLog_len rs k (s ++ bs (cutText p fb).1))
  have HC := Lib.hid hcell
  have HI := Lib.hid hI
  have hfd := field_frames
  clear hr hB h hp hF hfb hfull hlg hI hcell hset hs
  have i1 : (k : Int) < rs.length := by omega
  go_enter Try.func28, Try.ntmps28
  go_wp2_with (go_at_call 45; refine (HB.out _ (HR.out.later (by (repeat (first | (with_reducible refine bset ?_ (by first | (simp; done) | (simp; omega)) _) | (with_reducible refine balloc ?_ _) | (with_reducible refine bdrew ?_) | with_reducible exact Below.refl _ _ | (refine bthen ?_ (by with_reducible assumption)) | (refine bthen ?_ (by assumption)) | exact Below.refl _ _))))).mono ?_; rintro e w1 ⟨A1, c1, rfl, ho1, hb1⟩; (apply Blk.use (w := w1) (g := w.heap.size + 1 + 1); (focus (apply Blk.lat hb1; (repeat (first | with_reducible assumption | ((with_reducible apply Blk.new'); first | rfl | (simp; done)) | with_reducible apply Blk.set_ | (with_reducible apply Blk.far' (by first | (simp; done) | (simp; omega))) | with_reducible apply Blk.alloc | with_reducible apply Blk.drew)))); intro Z1; (try simp only [List.setIfInBounds_toArray, List.set_cons_zero, List.set_cons_succ] at Z1); have Z1c := Z1.cell; have Z1f := Z1.frozen; have Z1s := Z1.lt); (apply Blk.use (w := w1) (g := w.heap.size + 1); (focus (apply Blk.lat hb1; (repeat (first | with_reducible assumption | ((with_reducible apply Blk.new'); first | rfl | (simp; done)) | with_reducible apply Blk.set_ | (with_reducible apply Blk.far' (by first | (simp; done) | (simp; omega))) | with_reducible apply Blk.alloc | with_reducible apply Blk.drew)))); intro F1; (try simp only [List.setIfInBounds_toArray, List.set_cons_zero, List.set_cons_succ] at F1); have F1c := F1.cell; have F1f := F1.frozen; have F1s := F1.lt); obtain ⟨g, rfl, hg1, hg2⟩ := own_slice ho1 (by omega); simp only [World.size_alloc] at ho1 hg1; have O1 := Lib.hid ho1; clear ho1)
  refine wp_world ?_
  intro w2 hw2
  (apply Blk.use (w := w2) (g := w.heap.size + 1 + 1); (focus (rw [hw2]; (repeat (first | with_reducible assumption | ((with_reducible apply Blk.new'); first | rfl | (simp; done)) | with_reducible apply Blk.set_ | (with_reducible apply Blk.far' (by first | (simp; done) | (simp; omega))) | with_reducible apply Blk.alloc | with_reducible apply Blk.drew)))); intro Z2; (try simp only [List.setIfInBounds_toArray, List.set_cons_zero, List.set_cons_succ] at Z2); have Z2c := Z2.cell; have Z2f := Z2.frozen; have Z2s := Z2.lt)
  (apply Blk.use (w := w2) (g := w.heap.size + 1); (focus (rw [hw2]; (repeat (first | with_reducible assumption | ((with_reducible apply Blk.new'); first | rfl | (simp; done)) | with_reducible apply Blk.set_ | (with_reducible apply Blk.far' (by first | (simp; done) | (simp; omega))) | with_reducible apply Blk.alloc | with_reducible apply Blk.drew)))); intro F2; (try simp only [List.setIfInBounds_toArray, List.set_cons_zero, List.set_cons_succ] at F2); have F2c := F2.cell; have F2f := F2.frozen; have F2s := F2.lt)
  (apply Blk.use (w := w2) (g := w1.heap.size); (focus (rw [hw2]; (repeat (first | with_reducible assumption | ((with_reducible apply Blk.new'); first | rfl | (simp; done)) | with_reducible apply Blk.set_ | (with_reducible apply Blk.far' (by first | (simp; done) | (simp; omega))) | with_reducible apply Blk.alloc | with_reducible apply Blk.drew)))); intro U2; (try simp only [List.setIfInBounds_toArray, List.set_cons_zero, List.set_cons_succ] at U2); have U2c := U2.cell; have U2f := U2.frozen; have U2s := U2.lt)
  have O2 : Hid (w2.ownsRow (w.heap.size + 1 + 1 + 1) 68 3 (.slice (some ⟨g, 0, none⟩) rs.length c1) rs.length (flat encReg rs)) := Lib.hid (by rw [hw2]; have O1' := O1.out; (repeat (first | with_reducible assumption | (with_reducible refine own_set ?_ (by first | (simp; done) | (simp; omega)) _) | (with_reducible refine own_alloc ?_ _))))
  have BB2 : Below w.heap.size w w2 := by rw [hw2]; (repeat (first | (with_reducible refine bset ?_ (by first | (simp; done) | (simp; omega)) _) | (with_reducible refine balloc ?_ _) | (with_reducible refine bdrew ?_) | with_reducible exact Below.refl _ _ | (refine bthen ?_ (by with_reducible assumption)) | (refine bthen ?_ (by assumption)) | exact Below.refl _ _))
  have gne : g ≠ w1.heap.size := Nat.ne_of_lt hg2
  have gne' := gne.symm
  have gnz : g ≠ w.heap.size + 1 + 1 := by omega
  have gnz' := gnz.symm
  clear hw2 O1 hb1 Z1 Z1c Z1f F1 F1c F1f
  have l0 := fun x => U2.atL (i := 0) rfl x
  have l1 := fun x => F2.atL (i := 0) rfl x
  have l2 := fun x => F2.atL (i := 1) rfl x
  refine wp_region_later (by kernel_rfl) (by kernel_rfl) ?_
  repeat (go_big_quiet_step ((go_at_call 51; exact Gives.later _ (HFB.out _))))
  refine wpQuiet_nil ?_
  rintro _ ⟨y, rfl⟩
  have hy := y.ok
  clear l0 l1 l2
  generalize y.now = w3 at *
  (apply Blk.use (w := w3) (g := w.heap.size + 1 + 1); (focus (apply Blk.lat hy; (repeat (first | with_reducible assumption | ((with_reducible apply Blk.new'); first | rfl | (simp; done)) | with_reducible apply Blk.set_ | (with_reducible apply Blk.far' (by first | (simp; done) | (simp; omega))) | with_reducible apply Blk.alloc | with_reducible apply Blk.drew)))); intro Z3; (try simp only [List.setIfInBounds_toArray, List.set_cons_zero, List.set_cons_succ] at Z3); have Z3c := Z3.cell; have Z3f := Z3.frozen; have Z3s := Z3.lt)
  (apply Blk.use (w := w3) (g := w1.heap.size); (focus (apply Blk.lat hy; (repeat (first | with_reducible assumption | ((with_reducible apply Blk.new'); first | rfl | (simp; done)) | with_reducible apply Blk.set_ | (with_reducible apply Blk.far' (by first | (simp; done) | (simp; omega))) | with_reducible apply Blk.alloc | with_reducible apply Blk.drew)))); intro U3; (try simp only [List.setIfInBounds_toArray, List.set_cons_zero, List.set_cons_succ] at U3); have U3c := U3.cell; have U3f := U3.frozen; have U3s := U3.lt)
  have O3 := Lib.hid (own_keep O2.out hy)
  have BB3 : Below w.heap.size w w3 := by (repeat (first | (with_reducible refine bset ?_ (by first | (simp; done) | (simp; omega)) _) | (with_reducible refine balloc ?_ _) | (with_reducible refine bdrew ?_) | with_reducible exact Below.refl _ _ | (refine bthen ?_ (by with_reducible assumption)) | (refine bthen ?_ (by assumption)) | exact Below.refl _ _))
  clear hy Z2 Z2c Z2f F2 F2c F2f U2 U2c U2f O2 BB2
  have q3 : w3.cell? ⟨g, k * 3 + 2, none⟩ = some (.string s) := by rw [O3.out.cellAt _ (by omega)]; exact HC.out
  go_wp2_with (first
    | (go_at_call 10; refine (HI.out _).mono ?_; rintro e w4 ⟨AL, cL, rfl, oL, hb4⟩; (apply Blk.use (w := w4) (g := w.heap.size + 1 + 1); (focus (apply Blk.lat hb4; (repeat (first | with_reducible assumption | ((with_reducible apply Blk.new'); first | rfl | (simp; done)) | with_reducible apply Blk.set_ | (with_reducible apply Blk.far' (by first | (simp; done) | (simp; omega))) | with_reducible apply Blk.alloc | with_reducible apply Blk.drew)))); intro Z4; (try simp only [List.setIfInBounds_toArray, List.set_cons_zero, List.set_cons_succ] at Z4); have Z4c := Z4.cell; have Z4f := Z4.frozen; have Z4s := Z4.lt); (apply Blk.use (w := w4) (g := w1.heap.size); (focus (apply Blk.lat hb4; (repeat (first | with_reducible assumption | ((with_reducible apply Blk.new'); first | rfl | (simp; done)) | with_reducible apply Blk.set_ | (with_reducible apply Blk.far' (by first | (simp; done) | (simp; omega))) | with_reducible apply Blk.alloc | with_reducible apply Blk.drew)))); intro U4; (try simp only [List.setIfInBounds_toArray, List.set_cons_zero, List.set_cons_succ] at U4); have U4c := U4.cell; have U4f := U4.frozen; have U4s := U4.lt); have O4 := Lib.hid (own_keep O3.out (w' := w4) (by (repeat (first | (with_reducible refine bset ?_ (by first | (simp; done) | (simp; omega)) _) | (with_reducible refine balloc ?_ _) | (with_reducible refine bdrew ?_) | with_reducible exact Below.refl _ _ | (refine bthen ?_ (by with_reducible assumption)) | (refine bthen ?_ (by assumption)) | exact Below.refl _ _)))); have BB4 : Below w.heap.size w w4 := (by (repeat (first | (with_reducible refine bset ?_ (by first | (simp; done) | (simp; omega)) _) | (with_reducible refine balloc ?_ _) | (with_reducible refine bdrew ?_) | with_reducible exact Below.refl _ _ | (refine bthen ?_ (by with_reducible assumption)) | (refine bthen ?_ (by assumption)) | exact Below.refl _ _))); have q4 : w4.cell? ⟨g, k * 3 + 2, none⟩ = some (.string s) := (by rw [O4.out.cellAt _ (by omega)]; exact HC.out); clear oL hb4 Z3 Z3c Z3f U3 U3c U3f q3 O3 BB3)
    | (go_at_call 52; refine (write_i _ w1.heap.size g (k * 3 + 2) rs.length c1 (w.heap.size + 1 + 1 + 1) _ p s fb (flat encReg rs) U4 hpw hfl hsz O4.out (by omega) HC.out gne').mono ?_; rintro e w5 ⟨rfl, U5, O5, only5⟩; have U5c := U5.cell; have U5s := U5.lt; have Z5 := only5.blk Z4 (by omega) gnz'; have Z5c := Z5.cell; have Z5f := Z5.frozen; have Z5s := Z5.lt))
  rw [HF.out] at O5
  have BB5 : Below w.heap.size w w5 := only5.below BB4 (by omega) (by omega)
  refine bp_world ?_
  intro w9 hw9
  (apply Blk.use (w := w9) (g := w.heap.size + 1 + 1); (focus (rw [hw9]; (repeat (first | with_reducible assumption | ((with_reducible apply Blk.new'); first | rfl | (simp; done)) | with_reducible apply Blk.set_ | (with_reducible apply Blk.far' (by first | (simp; done) | (simp; omega))) | with_reducible apply Blk.alloc | with_reducible apply Blk.drew)))); intro Z9; (try simp only [List.setIfInBounds_toArray, List.set_cons_zero, List.set_cons_succ] at Z9); have Z9c := Z9.cell; have Z9f := Z9.frozen; have Z9s := Z9.lt)
  have O9 : w9.ownsRow (w.heap.size + 1 + 1 + 1) 68 3 (.slice (some ⟨g, 0, none⟩) rs.length c1) rs.length (flat encReg (setLog rs k (s ++ bs (cutText p fb).1))) := by rw [hw9]; (repeat (first | with_reducible assumption | (with_reducible refine own_set ?_ (by first | (simp; done) | (simp; omega)) _) | (with_reducible refine own_alloc ?_ _)))
  have B9 : Below w.heap.size w w9 := by rw [hw9]; (repeat (first | (with_reducible refine bset ?_ (by first | (simp; done) | (simp; omega)) _) | (with_reducible refine balloc ?_ _) | (with_reducible refine bdrew ?_) | with_reducible exact Below.refl _ _ | (refine bthen ?_ (by with_reducible assumption)) | (refine bthen ?_ (by assumption)) | exact Below.refl _ _))
  clear hw9 HB HR HF Z4 Z4c Z4f U4 U4c U4f Z5 Z5c Z5f U5 U5c O4 O5 q4 only5
  exact bodyPost_ret (v := .agg #[.slice (some ⟨g, 0, none⟩) rs.length c1, .int .i64 (cutText p fb).2.1, .int .i64 (cutText p fb).2.2]) (by simp [results, Try.results28, go_sem, Z9c]) rfl ⟨some ⟨g, 0, none⟩, c1, by rw [HL.out], by rw [HL.out]; exact own_base O9 (by omega), B9⟩
set_option maxRecDepth 100000 in
set_option maxHeartbeats 4000000 in
theorem add_i_full (rs : List Reg) (v : Value) (p : Int) (k : Nat) (q : Int) (t : ByteArray) (hk : k < rs.length) (h : diskOk rs p = true) (hp : p ≠ 0) (hfb : frameBytes q t.data.toList ≠ []) (hfull : fullLog (logOf rs k) (frameBytes q t.data.toList)) (w : World) (hr : Rd w 3 v rs.length (flat encReg rs)) :
    Calls Try.prog 28 #[.agg #[v, .int .i64 p], .int .i64 k, .agg #[.int .i64 q, .string t]] w fun e w' => NewOut w e w' [] 0 9 := by
  have hB := fun w hr => begin_i_ok rs v p k w hr h ⟨by omega, by omega⟩ hp
  have hF := fun w => frameBytes_i q t w
  have hfl := frameBytes_len q t.data.toList
  generalize frameBytes q t.data.toList = fb at *
  obtain ⟨A, cap, rfl, _⟩ := hr.form
  have hl := diskOk_len' h
  have hpw := power_le h
  obtain ⟨s, hs, hsz, hcell, hset⟩ := log_facts hk h
  rw [hs] at hfull
  unfold fullLog at hfull
  have hI := fun w => logRead_i s (by unfold maxLen; omega) w
  rcases hlg : logRead s.data.toList with ⟨fs, la, lc⟩
  rw [hlg] at hI hfull
  dsimp only at hfull
  have f3 : (s.size : Int) + (fb.length : Int) ≤ 20000 := by omega
  have hff : ((12 : Int) ≤ fs.length ∧ decide ((12 : Int) ≤ fs.length) = true) ∨ (decide ((12 : Int) ≤ fs.length) = false ∧ decide ((3000 : Int) < (s.size : Int) + (fb.length : Int)) = true ∧ (3000 : Int) < (s.size : Int) + (fb.length : Int)) := by
    by_cases h12 : (12 : Int) ≤ fs.length
    · exact .inl ⟨h12, by simpa using h12⟩
    · have h30 : (3000 : Int) < (s.size : Int) + (fb.length : Int) := by omega
      exact .inr ⟨by simpa using h12, by simpa using h30, h30⟩
  have hemp : (bs fb).toList.isEmpty = false := by rw [Lib.toList_data]; cases fb with
    | nil => exact absurd rfl hfb
    | cons a l => rfl
  have hemp' : ¬ (bs fb).toList = [] := by rw [Lib.toList_data]; exact hfb
  have HR := Lib.hid hr
  have HB := Lib.hid hB
  have HFB := Lib.hid hF
  have HC := Lib.hid hcell
  have HI := Lib.hid hI
  have hfd := field_frames
  clear hr hB h hp hF hfb hfull hlg hI hcell hset hs
  have i1 : (k : Int) < rs.length := by omega
  go_enter Try.func28, Try.ntmps28
  go_wp2_with (go_at_call 45; refine (HB.out _ (HR.out.later (by (repeat (first | (with_reducible refine bset ?_ (by first | (simp; done) | (simp; omega)) _) | (with_reducible refine balloc ?_ _) | (with_reducible refine bdrew ?_) | with_reducible exact Below.refl _ _ | (refine bthen ?_ (by with_reducible assumption)) | (refine bthen ?_ (by assumption)) | exact Below.refl _ _))))).mono ?_; rintro e w1 ⟨A1, c1, rfl, ho1, hb1⟩; (apply Blk.use (w := w1) (g := w.heap.size + 1 + 1); (focus (apply Blk.lat hb1; (repeat (first | with_reducible assumption | ((with_reducible apply Blk.new'); first | rfl | (simp; done)) | with_reducible apply Blk.set_ | (with_reducible apply Blk.far' (by first | (simp; done) | (simp; omega))) | with_reducible apply Blk.alloc | with_reducible apply Blk.drew)))); intro Z1; (try simp only [List.setIfInBounds_toArray, List.set_cons_zero, List.set_cons_succ] at Z1); have Z1c := Z1.cell; have Z1f := Z1.frozen; have Z1s := Z1.lt); (apply Blk.use (w := w1) (g := w.heap.size + 1); (focus (apply Blk.lat hb1; (repeat (first | with_reducible assumption | ((with_reducible apply Blk.new'); first | rfl | (simp; done)) | with_reducible apply Blk.set_ | (with_reducible apply Blk.far' (by first | (simp; done) | (simp; omega))) | with_reducible apply Blk.alloc | with_reducible apply Blk.drew)))); intro F1; (try simp only [List.setIfInBounds_toArray, List.set_cons_zero, List.set_cons_succ] at F1); have F1c := F1.cell; have F1f := F1.frozen; have F1s := F1.lt); obtain ⟨g, rfl, hg1, hg2⟩ := own_slice ho1 (by omega); simp only [World.size_alloc] at ho1 hg1; have O1 := Lib.hid ho1; clear ho1)
  refine wp_world ?_
  intro w2 hw2
  (apply Blk.use (w := w2) (g := w.heap.size + 1 + 1); (focus (rw [hw2]; (repeat (first | with_reducible assumption | ((with_reducible apply Blk.new'); first | rfl | (simp; done)) | with_reducible apply Blk.set_ | (with_reducible apply Blk.far' (by first | (simp; done) | (simp; omega))) | with_reducible apply Blk.alloc | with_reducible apply Blk.drew)))); intro Z2; (try simp only [List.setIfInBounds_toArray, List.set_cons_zero, List.set_cons_succ] at Z2); have Z2c := Z2.cell; have Z2f := Z2.frozen; have Z2s := Z2.lt)
  (apply Blk.use (w := w2) (g := w.heap.size + 1); (focus (rw [hw2]; (repeat (first | with_reducible assumption | ((with_reducible apply Blk.new'); first | rfl | (simp; done)) | with_reducible apply Blk.set_ | (with_reducible apply Blk.far' (by first | (simp; done) | (simp; omega))) | with_reducible apply Blk.alloc | with_reducible apply Blk.drew)))); intro F2; (try simp only [List.setIfInBounds_toArray, List.set_cons_zero, List.set_cons_succ] at F2); have F2c := F2.cell; have F2f := F2.frozen; have F2s := F2.lt)
  (apply Blk.use (w := w2) (g := w1.heap.size); (focus (rw [hw2]; (repeat (first | with_reducible assumption | ((with_reducible apply Blk.new'); first | rfl | (simp; done)) | with_reducible apply Blk.set_ | (with_reducible apply Blk.far' (by first | (simp; done) | (simp; omega))) | with_reducible apply Blk.alloc | with_reducible apply Blk.drew)))); intro U2; (try simp only [List.setIfInBounds_toArray, List.set_cons_zero, List.set_cons_succ] at U2); have U2c := U2.cell; have U2f := U2.frozen; have U2s := U2.lt)
  have O2 : Hid (w2.ownsRow (w.heap.size + 1 + 1 + 1) 68 3 (.slice (some ⟨g, 0, none⟩) rs.length c1) rs.length (flat encReg rs)) := Lib.hid (by rw [hw2]; have O1' := O1.out; (repeat (first | with_reducible assumption | (with_reducible refine own_set ?_ (by first | (simp; done) | (simp; omega)) _) | (with_reducible refine own_alloc ?_ _))))
  have BB2 : Below w.heap.size w w2 := by rw [hw2]; (repeat (first | (with_reducible refine bset ?_ (by first | (simp; done) | (simp; omega)) _) | (with_reducible refine balloc ?_ _) | (with_reducible refine bdrew ?_) | with_reducible exact Below.refl _ _ | (refine bthen ?_ (by with_reducible assumption)) | (refine bthen ?_ (by assumption)) | exact Below.refl _ _))
  have gne : g ≠ w1.heap.size := Nat.ne_of_lt hg2
  have gne' := gne.symm
  have gnz : g ≠ w.heap.size + 1 + 1 := by omega
  have gnz' := gnz.symm
  clear hw2 O1 hb1 Z1 Z1c Z1f F1 F1c F1f
  have l0 := fun x => U2.atL (i := 0) rfl x
  have l1 := fun x => F2.atL (i := 0) rfl x
  have l2 := fun x => F2.atL (i := 1) rfl x
  refine wp_region_later (by kernel_rfl) (by kernel_rfl) ?_
  repeat (go_big_quiet_step ((go_at_call 51; exact Gives.later _ (HFB.out _))))
  refine wpQuiet_nil ?_
  rintro _ ⟨y, rfl⟩
  have hy := y.ok
  clear l0 l1 l2
  generalize y.now = w3 at *
  (apply Blk.use (w := w3) (g := w.heap.size + 1 + 1); (focus (apply Blk.lat hy; (repeat (first | with_reducible assumption | ((with_reducible apply Blk.new'); first | rfl | (simp; done)) | with_reducible apply Blk.set_ | (with_reducible apply Blk.far' (by first | (simp; done) | (simp; omega))) | with_reducible apply Blk.alloc | with_reducible apply Blk.drew)))); intro Z3; (try simp only [List.setIfInBounds_toArray, List.set_cons_zero, List.set_cons_succ] at Z3); have Z3c := Z3.cell; have Z3f := Z3.frozen; have Z3s := Z3.lt)
  (apply Blk.use (w := w3) (g := w1.heap.size); (focus (apply Blk.lat hy; (repeat (first | with_reducible assumption | ((with_reducible apply Blk.new'); first | rfl | (simp; done)) | with_reducible apply Blk.set_ | (with_reducible apply Blk.far' (by first | (simp; done) | (simp; omega))) | with_reducible apply Blk.alloc | with_reducible apply Blk.drew)))); intro U3; (try simp only [List.setIfInBounds_toArray, List.set_cons_zero, List.set_cons_succ] at U3); have U3c := U3.cell; have U3f := U3.frozen; have U3s := U3.lt)
  have O3 := Lib.hid (own_keep O2.out hy)
  have BB3 : Below w.heap.size w w3 := by (repeat (first | (with_reducible refine bset ?_ (by first | (simp; done) | (simp; omega)) _) | (with_reducible refine balloc ?_ _) | (with_reducible refine bdrew ?_) | with_reducible exact Below.refl _ _ | (refine bthen ?_ (by with_reducible assumption)) | (refine bthen ?_ (by assumption)) | exact Below.refl _ _))
  clear hy Z2 Z2c Z2f F2 F2c F2f U2 U2c U2f O2 BB2
  have q3 : w3.cell? ⟨g, k * 3 + 2, none⟩ = some (.string s) := by rw [O3.out.cellAt _ (by omega)]; exact HC.out
  rcases hff with ⟨f1, d1⟩ | ⟨d1, d2, f2⟩
  all_goals
    go_wp2_with (go_at_call 10; refine (HI.out _).mono ?_; rintro e w4 ⟨AL, cL, rfl, oL, hb4⟩; (apply Blk.use (w := w4) (g := w.heap.size + 1 + 1); (focus (apply Blk.lat hb4; (repeat (first | with_reducible assumption | ((with_reducible apply Blk.new'); first | rfl | (simp; done)) | with_reducible apply Blk.set_ | (with_reducible apply Blk.far' (by first | (simp; done) | (simp; omega))) | with_reducible apply Blk.alloc | with_reducible apply Blk.drew)))); intro Z4; (try simp only [List.setIfInBounds_toArray, List.set_cons_zero, List.set_cons_succ] at Z4); have Z4c := Z4.cell; have Z4f := Z4.frozen; have Z4s := Z4.lt); (apply Blk.use (w := w4) (g := w1.heap.size); (focus (apply Blk.lat hb4; (repeat (first | with_reducible assumption | ((with_reducible apply Blk.new'); first | rfl | (simp; done)) | with_reducible apply Blk.set_ | (with_reducible apply Blk.far' (by first | (simp; done) | (simp; omega))) | with_reducible apply Blk.alloc | with_reducible apply Blk.drew)))); intro U4; (try simp only [List.setIfInBounds_toArray, List.set_cons_zero, List.set_cons_succ] at U4); have U4c := U4.cell; have U4f := U4.frozen; have U4s := U4.lt); have O4 := Lib.hid (own_keep O3.out (w' := w4) (by (repeat (first | (with_reducible refine bset ?_ (by first | (simp; done) | (simp; omega)) _) | (with_reducible refine balloc ?_ _) | (with_reducible refine bdrew ?_) | with_reducible exact Below.refl _ _ | (refine bthen ?_ (by with_reducible assumption)) | (refine bthen ?_ (by assumption)) | exact Below.refl _ _)))); have BB4 : Below w.heap.size w w4 := (by (repeat (first | (with_reducible refine bset ?_ (by first | (simp; done) | (simp; omega)) _) | (with_reducible refine balloc ?_ _) | (with_reducible refine bdrew ?_) | with_reducible exact Below.refl _ _ | (refine bthen ?_ (by with_reducible assumption)) | (refine bthen ?_ (by assumption)) | exact Below.refl _ _))); have q4 : w4.cell? ⟨g, k * 3 + 2, none⟩ = some (.string s) := (by rw [O4.out.cellAt _ (by omega)]; exact HC.out); clear oL hb4 Z3 Z3c Z3f U3 U3c U3f q3 O3 BB3)
    refine bp_world ?_
    intro w9 hw9
    (apply Blk.use (w := w9) (g := w.heap.size + 1 + 1); (focus (rw [hw9]; (repeat (first | with_reducible assumption | ((with_reducible apply Blk.new'); first | rfl | (simp; done)) | with_reducible apply Blk.set_ | (with_reducible apply Blk.far' (by first | (simp; done) | (simp; omega))) | with_reducible apply Blk.alloc | with_reducible apply Blk.drew)))); intro Z9; (try simp only [List.setIfInBounds_toArray, List.set_cons_zero, List.set_cons_succ] at Z9); have Z9c := Z9.cell; have Z9f := Z9.frozen; have Z9s := Z9.lt)
    have B9 : Below w.heap.size w w9 := by rw [hw9]; (repeat (first | (with_reducible refine bset ?_ (by first | (simp; done) | (simp; omega)) _) | (with_reducible refine balloc ?_ _) | (with_reducible refine bdrew ?_) | with_reducible exact Below.refl _ _ | (refine bthen ?_ (by with_reducible assumption)) | (refine bthen ?_ (by assumption)) | exact Below.refl _ _))
    clear hw9 HB HR Z4 Z4c Z4f U4 U4c U4f O4 q4
    exact bodyPost_ret (v := .agg #[.slice none 0 0, .int .i64 0, .int .i64 9]) (by simp [results, Try.results28, go_sem, Z9c]) rfl ⟨none, 0, rfl, World.ownsRow_nil _ _ _ _, B9⟩
set_option maxRecDepth 100000 in
set_option maxHeartbeats 4000000 in
theorem add_i_empty (rs : List Reg) (v : Value) (p : Int) (k : Nat) (q : Int) (t : ByteArray) (hk : k < rs.length) (h : diskOk rs p = true) (hp : p ≠ 0) (hfb : frameBytes q t.data.toList = []) (w : World) (hr : Rd w 3 v rs.length (flat encReg rs)) :
    Calls Try.prog 28 #[.agg #[v, .int .i64 p], .int .i64 k, .agg #[.int .i64 q, .string t]] w fun e w' => NewOut w e w' [] 0 2 := by
  have hB := fun w hr => begin_i_ok rs v p k w hr h ⟨by omega, by omega⟩ hp
  have hF := fun w => frameBytes_i q t w
  rw [hfb] at hF
  obtain ⟨A, cap, rfl, _⟩ := hr.form
  have hl := diskOk_len' h
  obtain ⟨s, hs, hsz, hcell, hset⟩ := log_facts hk h
  have hemp : (bs []).toList.isEmpty = true := by rw [Lib.toList_data]; rfl
  have hemp' : (bs []).toList = [] := by rw [Lib.toList_data]; rfl
  have HR := Lib.hid hr
  have HB := Lib.hid hB
  have HFB := Lib.hid hF
  have HC := Lib.hid hcell
  clear hr hB h hp hF hfb hcell hset hs
  have i1 : (k : Int) < rs.length := by omega
  go_enter Try.func28, Try.ntmps28
  go_wp2_with (go_at_call 45; refine (HB.out _ (HR.out.later (by (repeat (first | (with_reducible refine bset ?_ (by first | (simp; done) | (simp; omega)) _) | (with_reducible refine balloc ?_ _) | (with_reducible refine bdrew ?_) | with_reducible exact Below.refl _ _ | (refine bthen ?_ (by with_reducible assumption)) | (refine bthen ?_ (by assumption)) | exact Below.refl _ _))))).mono ?_; rintro e w1 ⟨A1, c1, rfl, ho1, hb1⟩; (apply Blk.use (w := w1) (g := w.heap.size + 1 + 1); (focus (apply Blk.lat hb1; (repeat (first | with_reducible assumption | ((with_reducible apply Blk.new'); first | rfl | (simp; done)) | with_reducible apply Blk.set_ | (with_reducible apply Blk.far' (by first | (simp; done) | (simp; omega))) | with_reducible apply Blk.alloc | with_reducible apply Blk.drew)))); intro Z1; (try simp only [List.setIfInBounds_toArray, List.set_cons_zero, List.set_cons_succ] at Z1); have Z1c := Z1.cell; have Z1f := Z1.frozen; have Z1s := Z1.lt); (apply Blk.use (w := w1) (g := w.heap.size + 1); (focus (apply Blk.lat hb1; (repeat (first | with_reducible assumption | ((with_reducible apply Blk.new'); first | rfl | (simp; done)) | with_reducible apply Blk.set_ | (with_reducible apply Blk.far' (by first | (simp; done) | (simp; omega))) | with_reducible apply Blk.alloc | with_reducible apply Blk.drew)))); intro F1; (try simp only [List.setIfInBounds_toArray, List.set_cons_zero, List.set_cons_succ] at F1); have F1c := F1.cell; have F1f := F1.frozen; have F1s := F1.lt); obtain ⟨g, rfl, hg1, hg2⟩ := own_slice ho1 (by omega); simp only [World.size_alloc] at ho1 hg1; have O1 := Lib.hid ho1; clear ho1)
  refine wp_world ?_
  intro w2 hw2
  (apply Blk.use (w := w2) (g := w.heap.size + 1 + 1); (focus (rw [hw2]; (repeat (first | with_reducible assumption | ((with_reducible apply Blk.new'); first | rfl | (simp; done)) | with_reducible apply Blk.set_ | (with_reducible apply Blk.far' (by first | (simp; done) | (simp; omega))) | with_reducible apply Blk.alloc | with_reducible apply Blk.drew)))); intro Z2; (try simp only [List.setIfInBounds_toArray, List.set_cons_zero, List.set_cons_succ] at Z2); have Z2c := Z2.cell; have Z2f := Z2.frozen; have Z2s := Z2.lt)
  (apply Blk.use (w := w2) (g := w.heap.size + 1); (focus (rw [hw2]; (repeat (first | with_reducible assumption | ((with_reducible apply Blk.new'); first | rfl | (simp; done)) | with_reducible apply Blk.set_ | (with_reducible apply Blk.far' (by first | (simp; done) | (simp; omega))) | with_reducible apply Blk.alloc | with_reducible apply Blk.drew)))); intro F2; (try simp only [List.setIfInBounds_toArray, List.set_cons_zero, List.set_cons_succ] at F2); have F2c := F2.cell; have F2f := F2.frozen; have F2s := F2.lt)
  (apply Blk.use (w := w2) (g := w1.heap.size); (focus (rw [hw2]; (repeat (first | with_reducible assumption | ((with_reducible apply Blk.new'); first | rfl | (simp; done)) | with_reducible apply Blk.set_ | (with_reducible apply Blk.far' (by first | (simp; done) | (simp; omega))) | with_reducible apply Blk.alloc | with_reducible apply Blk.drew)))); intro U2; (try simp only [List.setIfInBounds_toArray, List.set_cons_zero, List.set_cons_succ] at U2); have U2c := U2.cell; have U2f := U2.frozen; have U2s := U2.lt)
  have O2 : Hid (w2.ownsRow (w.heap.size + 1 + 1 + 1) 68 3 (.slice (some ⟨g, 0, none⟩) rs.length c1) rs.length (flat encReg rs)) := Lib.hid (by rw [hw2]; have O1' := O1.out; (repeat (first | with_reducible assumption | (with_reducible refine own_set ?_ (by first | (simp; done) | (simp; omega)) _) | (with_reducible refine own_alloc ?_ _))))
  have BB2 : Below w.heap.size w w2 := by rw [hw2]; (repeat (first | (with_reducible refine bset ?_ (by first | (simp; done) | (simp; omega)) _) | (with_reducible refine balloc ?_ _) | (with_reducible refine bdrew ?_) | with_reducible exact Below.refl _ _ | (refine bthen ?_ (by with_reducible assumption)) | (refine bthen ?_ (by assumption)) | exact Below.refl _ _))
  have gne : g ≠ w1.heap.size := Nat.ne_of_lt hg2
  have gne' := gne.symm
  have gnz : g ≠ w.heap.size + 1 + 1 := by omega
  have gnz' := gnz.symm
  clear hw2 O1 hb1 Z1 Z1c Z1f F1 F1c F1f
  have l0 := fun x => U2.atL (i := 0) rfl x
  have l1 := fun x => F2.atL (i := 0) rfl x
  have l2 := fun x => F2.atL (i := 1) rfl x
  refine wp_region_later (by kernel_rfl) (by kernel_rfl) ?_
  repeat (go_big_quiet_step ((go_at_call 51; exact Gives.later _ (HFB.out _))))
  refine wpQuiet_nil ?_
  rintro _ ⟨y, rfl⟩
  have hy := y.ok
  clear l0 l1 l2
  generalize y.now = w3 at *
  (apply Blk.use (w := w3) (g := w.heap.size + 1 + 1); (focus (apply Blk.lat hy; (repeat (first | with_reducible assumption | ((with_reducible apply Blk.new'); first | rfl | (simp; done)) | with_reducible apply Blk.set_ | (with_reducible apply Blk.far' (by first | (simp; done) | (simp; omega))) | with_reducible apply Blk.alloc | with_reducible apply Blk.drew)))); intro Z3; (try simp only [List.setIfInBounds_toArray, List.set_cons_zero, List.set_cons_succ] at Z3); have Z3c := Z3.cell; have Z3f := Z3.frozen; have Z3s := Z3.lt)
  (apply Blk.use (w := w3) (g := w1.heap.size); (focus (apply Blk.lat hy; (repeat (first | with_reducible assumption | ((with_reducible apply Blk.new'); first | rfl | (simp; done)) | with_reducible apply Blk.set_ | (with_reducible apply Blk.far' (by first | (simp; done) | (simp; omega))) | with_reducible apply Blk.alloc | with_reducible apply Blk.drew)))); intro U3; (try simp only [List.setIfInBounds_toArray, List.set_cons_zero, List.set_cons_succ] at U3); have U3c := U3.cell; have U3f := U3.frozen; have U3s := U3.lt)
  have O3 := Lib.hid (own_keep O2.out hy)
  have BB3 : Below w.heap.size w w3 := by (repeat (first | (with_reducible refine bset ?_ (by first | (simp; done) | (simp; omega)) _) | (with_reducible refine balloc ?_ _) | (with_reducible refine bdrew ?_) | with_reducible exact Below.refl _ _ | (refine bthen ?_ (by with_reducible assumption)) | (refine bthen ?_ (by assumption)) | exact Below.refl _ _))
  clear hy Z2 Z2c Z2f F2 F2c F2f U2 U2c U2f O2 BB2
  have q3 : w3.cell? ⟨g, k * 3 + 2, none⟩ = some (.string s) := by rw [O3.out.cellAt _ (by omega)]; exact HC.out
  go_wp2
  refine bp_world ?_
  intro w9 hw9
  (apply Blk.use (w := w9) (g := w.heap.size + 1 + 1); (focus (rw [hw9]; (repeat (first | with_reducible assumption | ((with_reducible apply Blk.new'); first | rfl | (simp; done)) | with_reducible apply Blk.set_ | (with_reducible apply Blk.far' (by first | (simp; done) | (simp; omega))) | with_reducible apply Blk.alloc | with_reducible apply Blk.drew)))); intro Z9; (try simp only [List.setIfInBounds_toArray, List.set_cons_zero, List.set_cons_succ] at Z9); have Z9c := Z9.cell; have Z9f := Z9.frozen; have Z9s := Z9.lt)
  have B9 : Below w.heap.size w w9 := by rw [hw9]; (repeat (first | (with_reducible refine bset ?_ (by first | (simp; done) | (simp; omega)) _) | (with_reducible refine balloc ?_ _) | (with_reducible refine bdrew ?_) | with_reducible exact Below.refl _ _ | (refine bthen ?_ (by with_reducible assumption)) | (refine bthen ?_ (by assumption)) | exact Below.refl _ _))
  clear hw9 HB HR Z3 Z3c Z3f U3 U3c U3f q3 O3
  exact bodyPost_ret (v := .agg #[.slice none 0 0, .int .i64 0, .int .i64 2]) (by simp [results, Try.results28, go_sem, Z9c]) rfl ⟨none, 0, rfl, World.ownsRow_nil _ _ _ _, B9⟩
set_option maxRecDepth 100000 in
theorem add_i_ill (rs : List Reg) (v : Value) (p r : Int) (q : Int) (t : ByteArray) (hs : stage rs p r ≠ 0) (w : World) (hr : Rd w 3 v rs.length (flat encReg rs)) :
    Calls Try.prog 28 #[.agg #[v, .int .i64 p], .int .i64 r, .agg #[.int .i64 q, .string t]] w fun e w' => NewOut w e w' (illRs rs (stage rs p r)) (illP p (stage rs p r)) (stage rs p r) := by
  have hB := fun w hr => begin_i_ill rs v p r hs w hr
  obtain ⟨A, cap, rfl, _⟩ := hr.form
  have HR := Lib.hid hr
  have HB := Lib.hid hB
  clear hr hB
  generalize illRs rs (stage rs p r) = rs' at *
  generalize illP p (stage rs p r) = p' at *
  generalize stage rs p r = c at *
  have hc : (c != 0) = true := by simpa using hs
  clear hs
  go_enter Try.func28, Try.ntmps28
  go_wp2_with (go_at_call 45; refine (HB.out _ (HR.out.later (by (repeat (first | (with_reducible refine bset ?_ (by first | (simp; done) | (simp; omega)) _) | (with_reducible refine balloc ?_ _) | (with_reducible refine bdrew ?_) | with_reducible exact Below.refl _ _ | (refine bthen ?_ (by with_reducible assumption)) | (refine bthen ?_ (by assumption)) | exact Below.refl _ _))))).mono ?_; rintro e w1 ⟨A1, c1, rfl, ho1, hb1⟩; (apply Blk.use (w := w1) (g := w.heap.size + 1 + 1); (focus (apply Blk.lat hb1; (repeat (first | with_reducible assumption | ((with_reducible apply Blk.new'); first | rfl | (simp; done)) | with_reducible apply Blk.set_ | (with_reducible apply Blk.far' (by first | (simp; done) | (simp; omega))) | with_reducible apply Blk.alloc | with_reducible apply Blk.drew)))); intro Z1; (try simp only [List.setIfInBounds_toArray, List.set_cons_zero, List.set_cons_succ] at Z1); have Z1c := Z1.cell; have Z1f := Z1.frozen; have Z1s := Z1.lt))
  refine bp_world ?_
  intro w9 hw9
  (apply Blk.use (w := w9) (g := w.heap.size + 1 + 1); (focus (rw [hw9]; (repeat (first | with_reducible assumption | ((with_reducible apply Blk.new'); first | rfl | (simp; done)) | with_reducible apply Blk.set_ | (with_reducible apply Blk.far' (by first | (simp; done) | (simp; omega))) | with_reducible apply Blk.alloc | with_reducible apply Blk.drew)))); intro Z9; (try simp only [List.setIfInBounds_toArray, List.set_cons_zero, List.set_cons_succ] at Z9); have Z9c := Z9.cell; have Z9f := Z9.frozen; have Z9s := Z9.lt)
  simp only [World.size_alloc] at ho1
  have O9 : w9.ownsRow (w.heap.size + 1 + 1 + 1) 68 3 (.slice A1 rs'.length c1) rs'.length (flat encReg rs') := by rw [hw9]; (repeat (first | with_reducible assumption | (with_reducible refine own_set ?_ (by first | (simp; done) | (simp; omega)) _) | (with_reducible refine own_alloc ?_ _)))
  have B9 : Below w.heap.size w w9 := by rw [hw9]; (repeat (first | (with_reducible refine bset ?_ (by first | (simp; done) | (simp; omega)) _) | (with_reducible refine balloc ?_ _) | (with_reducible refine bdrew ?_) | with_reducible exact Below.refl _ _ | (refine bthen ?_ (by with_reducible assumption)) | (refine bthen ?_ (by assumption)) | exact Below.refl _ _))
  clear hw9 HB HR Z1 Z1c Z1f hb1 ho1
  exact bodyPost_ret (v := .agg #[.slice A1 rs'.length c1, .int .i64 p', .int .i64 c]) (by simp [results, Try.results28, go_sem, Z9c]) rfl ⟨A1, c1, rfl, own_base O9 (by omega), B9⟩
theorem add_i (rs : List Reg) (v : Value) (p r : Int) (q : Int) (t : ByteArray) (w : World) (hr : Rd w 3 v rs.length (flat encReg rs)) :
    Calls Try.prog 28 #[.agg #[v, .int .i64 p], .int .i64 r, .agg #[.int .i64 q, .string t]] w fun e w' => NewOut w e w' (addOut rs p r (frameBytes q t.data.toList)).1 (addOut rs p r (frameBytes q t.data.toList)).2.1 (addOut rs p r (frameBytes q t.data.toList)).2.2 := by
  unfold addOut
  by_cases h : stage rs p r = 0
  · obtain ⟨h1, h2, h3⟩ := stage_zero h
    obtain ⟨k, rfl⟩ := Int.eq_ofNat_of_zero_le h2.1
    rw [if_neg (by simpa using h), Int.toNat_natCast]
    by_cases hf : frameBytes q t.data.toList = []
    · rw [if_pos hf]
      exact add_i_empty rs v p k q t (by omega) h1 h3 hf w hr
    · rw [if_neg hf]
      by_cases hg : fullLog (logOf rs k) (frameBytes q t.data.toList)
      · rw [if_pos hg]
        exact add_i_full rs v p k q t (by omega) h1 h3 hf hg w hr
      · rw [if_neg hg]
        exact add_i_ok rs v p k q t (by omega) h1 h3 hf hg w hr
  · rw [if_pos h]
    exact add_i_ill rs v p r q t h w hr
end Go.Proofs.Ytmammjpfmfblbaa
