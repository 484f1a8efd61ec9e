import Derived.Test.YtnehiflandjkoaaC10
import Derived.Test.YtnehiflandjkoaaCA
set_option linter.unusedSimpArgs false
set_option linter.unusedVariables false
namespace Go.Proofs.Ytnehiflandjkoaa
open Go.RowKit M
namespace M
def setSlot (rs : List Reg) (k : Nat) (odd : Bool) (t : ByteArray) : List Reg :=
  rs.set k (if odd then ((rs.getD k noReg).1, t, (rs.getD k noReg).2.2) else (t, (rs.getD k noReg).2.1, (rs.getD k noReg).2.2))
/-- regions, power, code behind a slot's writing -/
def slotOut (rs : List Reg) (p r : Int) (odd : Bool) (fb : Bs) : List Reg × Int × Int :=
  if stage rs p r ≠ 0 then (illRs rs (stage rs p r), illP p (stage rs p r), stage rs p r)
  else if fb = [] then ([], 0, 2)
  else (setSlot rs r.toNat odd (bs (cutText p fb).1), (cutText p fb).2.1, (cutText p fb).2.2)
end M
theorem setSlot_len (rs : List Reg) (k : Nat) (odd : Bool) (t : ByteArray) : (setSlot rs k odd t).length = rs.length := by simp [setSlot]
theorem flat_slot0 (rs : List Reg) (k : Nat) (t : ByteArray) (hk : k < rs.length) : (flat encReg rs).set (k * 3) (.string t) = flat encReg (setSlot rs k false t) := by
  obtain ⟨x, hx, hd, _⟩ := reg_at hk
  unfold setSlot
  rw [hd]
  exact flat_setj rs k 0 x _ _ hx (by omega) rfl
theorem flat_slot1 (rs : List Reg) (k : Nat) (t : ByteArray) (hk : k < rs.length) : (flat encReg rs).set (k * 3 + 1) (.string t) = flat encReg (setSlot rs k true t) := by
  obtain ⟨x, hx, hd, _⟩ := reg_at hk
  unfold setSlot
  rw [hd]
  exact flat_setj rs k 1 x _ _ hx (by omega) rfl
theorem nil_app (t : Bs) : (⟨#[]⟩ : ByteArray) ++ bs t = bs t := bs_append [] t
theorem frameBytes_len (q : Int) (t : Bs) : (frameBytes q t).length ≤ 8000 := by
  unfold frameBytes
  by_cases h : frameOk q t = true
  · rw [if_pos h]
    unfold frameOk at h
    simp at h
    have h2 := seal_length (four q ++ t)
    rw [List.length_append, four_length] at h2
    unfold putText
    split
    · have := putNum_length (seal_ (four q ++ t)).length
      rw [List.length_append]
      omega
    · simp
  · rw [if_neg h]; simp
theorem power_le {rs : List Reg} {p : Int} (h : diskOk rs p = true) : -1 ≤ p ∧ p ≤ 1000000 := by
  unfold diskOk at h; simp at h; omega

set_option maxRecDepth 100000 in
set_option maxHeartbeats 2000000 in
theorem slot_i_even (rs : List Reg) (v : Value) (p : Int) (k : Nat) (q : Int) (t : ByteArray) (hk : k < rs.length) (h : diskOk rs p = true) (hp : p ≠ 0) (hfb : frameBytes q t.data.toList ≠ []) (w : World) (hr : Rd w 3 v rs.length (flat encReg rs)) :
    Calls Try.prog 24 #[.agg #[v, .int .i64 p], .int .i64 k, .bool false, .agg #[.int .i64 q, .string t]] w fun e w' => NewOut w e w' (setSlot rs k false (bs (cutText p (frameBytes q t.data.toList)).1)) (cutText p (frameBytes q t.data.toList)).2.1 (cutText p (frameBytes q t.data.toList)).2.2 := by
  have hB := fun w hr => begin_i_ok rs v p k w hr h ⟨by omega, by omega⟩ hp
  have hF := fun w => frameBytes_i q t w
  have hfl := frameBytes_len q t.data.toList
  generalize frameBytes q t.data.toList = fb at *
  obtain ⟨A, cap, rfl, _⟩ := hr.form
  have hl := diskOk_len' h
  have hpw := power_le h
  have hemp : (bs fb).toList.isEmpty = false := by rw [Lib.toList_data]; cases fb with
    | nil => exact absurd rfl hfb
    | cons a l => rfl
  have hemp' : ¬ (bs fb).toList = [] := by rw [Lib.toList_data]; exact hfb
  have HR := Lib.hid hr
  have HB := Lib.hid hB
  have HFB := Lib.hid hF
  have HF := Lib.hid (flat_slot0 rs k (bs (cutText p fb).1) hk)
  have HL := Lib.hid (setSlot_len rs k false (bs (cutText p fb).1))
  clear hr hB h hp hF hfb
  have i1 : (k : Int) < rs.length := by omega
  go_enter Try.func24, Try.ntmps24
  go_wp2_with (first
    | (go_at_call 58; refine (HB.out _ (HR.out.later (by (repeat (first | (with_reducible refine bset ?_ (by first | (simp; done) | (simp; omega)) _) | (with_reducible refine balloc ?_ _) | (with_reducible refine bdrew ?_) | with_reducible exact Below.refl _ _ | (refine bthen ?_ (by with_reducible assumption)) | (refine bthen ?_ (by assumption)) | exact Below.refl _ _))))).mono ?_; rintro e w1 ⟨A1, c1, rfl, ho1, hb1⟩; (apply Blk.use (w := w1) (g := w.heap.size + 1 + 1); (focus (apply Blk.lat hb1; (repeat (first | with_reducible assumption | ((with_reducible apply Blk.new'); first | rfl | (simp; done)) | with_reducible apply Blk.set_ | (with_reducible apply Blk.far' (by first | (simp; done) | (simp; omega))) | with_reducible apply Blk.alloc | with_reducible apply Blk.drew)))); intro Z1; (try simp only [List.setIfInBounds_toArray, List.set_cons_zero, List.set_cons_succ] at Z1); have Z1c := Z1.cell; have Z1f := Z1.frozen; have Z1s := Z1.lt); (apply Blk.use (w := w1) (g := w.heap.size + 1); (focus (apply Blk.lat hb1; (repeat (first | with_reducible assumption | ((with_reducible apply Blk.new'); first | rfl | (simp; done)) | with_reducible apply Blk.set_ | (with_reducible apply Blk.far' (by first | (simp; done) | (simp; omega))) | with_reducible apply Blk.alloc | with_reducible apply Blk.drew)))); intro F1; (try simp only [List.setIfInBounds_toArray, List.set_cons_zero, List.set_cons_succ] at F1); have F1c := F1.cell; have F1f := F1.frozen; have F1s := F1.lt); obtain ⟨g, rfl, hg1, hg2⟩ := own_slice ho1 (by omega); simp only [World.size_alloc] at ho1 hg1; have O1 := Lib.hid ho1; clear ho1)
    | (go_at_call 7; refine (HFB.out _).use.mono ?_; rintro e w2 ⟨rfl, hb2⟩; (apply Blk.use (w := w2) (g := w.heap.size + 1 + 1); (focus (apply Blk.lat hb2; (repeat (first | with_reducible assumption | ((with_reducible apply Blk.new'); first | rfl | (simp; done)) | with_reducible apply Blk.set_ | (with_reducible apply Blk.far' (by first | (simp; done) | (simp; omega))) | with_reducible apply Blk.alloc | with_reducible apply Blk.drew)))); intro Z2; (try simp only [List.setIfInBounds_toArray, List.set_cons_zero, List.set_cons_succ] at Z2); have Z2c := Z2.cell; have Z2f := Z2.frozen; have Z2s := Z2.lt); (apply Blk.use (w := w2) (g := w1.heap.size); (focus (apply Blk.lat hb2; (repeat (first | with_reducible assumption | ((with_reducible apply Blk.new'); first | rfl | (simp; done)) | with_reducible apply Blk.set_ | (with_reducible apply Blk.far' (by first | (simp; done) | (simp; omega))) | with_reducible apply Blk.alloc | with_reducible apply Blk.drew)))); intro U2; (try simp only [List.setIfInBounds_toArray, List.set_cons_zero, List.set_cons_succ] at U2); have U2c := U2.cell; have U2f := U2.frozen; have U2s := U2.lt); have O2 := Lib.hid (own_keep O1.out (w' := w2) (by (repeat (first | (with_reducible refine bset ?_ (by first | (simp; done) | (simp; omega)) _) | (with_reducible refine balloc ?_ _) | (with_reducible refine bdrew ?_) | with_reducible exact Below.refl _ _ | (refine bthen ?_ (by with_reducible assumption)) | (refine bthen ?_ (by assumption)) | exact Below.refl _ _)))); have BB2 : Below w.heap.size w w2 := (by (repeat (first | (with_reducible refine bset ?_ (by first | (simp; done) | (simp; omega)) _) | (with_reducible refine balloc ?_ _) | (with_reducible refine bdrew ?_) | with_reducible exact Below.refl _ _ | (refine bthen ?_ (by with_reducible assumption)) | (refine bthen ?_ (by assumption)) | exact Below.refl _ _))); obtain ⟨⟨u0, q0⟩, q1, q2⟩ := own_at O2.out (m := k * 3) (by omega); have Q2 := Lib.hid q2; have gne : g ≠ w1.heap.size := Nat.ne_of_lt hg2; have gne' := gne.symm; have gnz : g ≠ w.heap.size + 1 + 1 := (by omega); have gnz' := gnz.symm; clear q2 Z1 Z1c Z1f F1 F1c F1f hb1 hb2 O1)
    | (go_at_call 59; refine (write_i _ w1.heap.size g (k * 3) rs.length c1 (w.heap.size + 1 + 1 + 1) _ p ⟨#[]⟩ fb ((flat encReg rs).set (k * 3) (.string ⟨#[]⟩)) (U2.far' gne') hpw hfl (by decide) (Q2.out (.string ⟨#[]⟩)) (by omega) (by rw [List.getElem?_set_self (by rw [flat_length encReg_len]; omega)]) gne').mono ?_; rintro e w3 ⟨rfl, U3, O3, only3⟩; have U3c := U3.cell; have U3s := U3.lt; have Z3 := only3.blk (Z2.far' gnz') (by have := U2s; have := Z2s; omega) gnz'; have Z3c := Z3.cell; have Z3f := Z3.frozen))
  rw [List.set_set, nil_app, HF.out] at O3
  have BB3 : Below w.heap.size w w3 := only3.below (bset BB2 (by simp; omega) _) (by have := BB2.size; omega) (by omega)
  refine bp_world ?_
  intro w9 hw9
  (apply Blk.use (w := w9) (g := w.heap.size + 1 + 1); (focus (rw [hw9]; (repeat (first | with_reducible assumption | ((with_reducible apply Blk.new'); first | rfl | (simp; done)) | with_reducible apply Blk.set_ | (with_reducible apply Blk.far' (by first | (simp; done) | (simp; omega))) | with_reducible apply Blk.alloc | with_reducible apply Blk.drew)))); intro Z9; (try simp only [List.setIfInBounds_toArray, List.set_cons_zero, List.set_cons_succ] at Z9); have Z9c := Z9.cell; have Z9f := Z9.frozen; have Z9s := Z9.lt)
  have O9 : w9.ownsRow (w.heap.size + 1 + 1 + 1) 57 3 (.slice (some ⟨g, 0, none⟩) rs.length c1) rs.length (flat encReg (setSlot rs k false (bs (cutText p fb).1))) := by rw [hw9]; (repeat (first | with_reducible assumption | (with_reducible refine own_set ?_ (by first | (simp; done) | (simp; omega)) _) | (with_reducible refine own_alloc ?_ _)))
  have B9 : Below w.heap.size w w9 := by rw [hw9]; (repeat (first | (with_reducible refine bset ?_ (by first | (simp; done) | (simp; omega)) _) | (with_reducible refine balloc ?_ _) | (with_reducible refine bdrew ?_) | with_reducible exact Below.refl _ _ | (refine bthen ?_ (by with_reducible assumption)) | (refine bthen ?_ (by assumption)) | exact Below.refl _ _))
  clear hw9 Q2 HB HR HF Z2 Z2c Z2f U2 U2c U2f Z3 Z3c Z3f U3 U3c O2 O3 q0 q1 only3
  exact bodyPost_ret (v := .agg #[.slice (some ⟨g, 0, none⟩) rs.length c1, .int .i64 (cutText p fb).2.1, .int .i64 (cutText p fb).2.2]) (by simp [results, Try.results24, go_sem, Z9c]) rfl ⟨some ⟨g, 0, none⟩, c1, by rw [HL.out], by rw [HL.out]; exact own_base O9 (by omega), B9⟩
set_option maxRecDepth 100000 in
set_option maxHeartbeats 2000000 in
theorem slot_i_odd (rs : List Reg) (v : Value) (p : Int) (k : Nat) (q : Int) (t : ByteArray) (hk : k < rs.length) (h : diskOk rs p = true) (hp : p ≠ 0) (hfb : frameBytes q t.data.toList ≠ []) (w : World) (hr : Rd w 3 v rs.length (flat encReg rs)) :
    Calls Try.prog 24 #[.agg #[v, .int .i64 p], .int .i64 k, .bool true, .agg #[.int .i64 q, .string t]] w fun e w' => NewOut w e w' (setSlot rs k true (bs (cutText p (frameBytes q t.data.toList)).1)) (cutText p (frameBytes q t.data.toList)).2.1 (cutText p (frameBytes q t.data.toList)).2.2 := by
  have hB := fun w hr => begin_i_ok rs v p k w hr h ⟨by omega, by omega⟩ hp
  have hF := fun w => frameBytes_i q t w
  have hfl := frameBytes_len q t.data.toList
  generalize frameBytes q t.data.toList = fb at *
  obtain ⟨A, cap, rfl, _⟩ := hr.form
  have hl := diskOk_len' h
  have hpw := power_le h
  have hemp : (bs fb).toList.isEmpty = false := by rw [Lib.toList_data]; cases fb with
    | nil => exact absurd rfl hfb
    | cons a l => rfl
  have hemp' : ¬ (bs fb).toList = [] := by rw [Lib.toList_data]; exact hfb
  have HR := Lib.hid hr
  have HB := Lib.hid hB
  have HFB := Lib.hid hF
  have HF := Lib.hid (flat_slot1 rs k (bs (cutText p fb).1) hk)
  have HL := Lib.hid (setSlot_len rs k true (bs (cutText p fb).1))
  clear hr hB h hp hF hfb
  have i1 : (k : Int) < rs.length := by omega
  go_enter Try.func24, Try.ntmps24
  go_wp2_with (first
    | (go_at_call 58; refine (HB.out _ (HR.out.later (by (repeat (first | (with_reducible refine bset ?_ (by first | (simp; done) | (simp; omega)) _) | (with_reducible refine balloc ?_ _) | (with_reducible refine bdrew ?_) | with_reducible exact Below.refl _ _ | (refine bthen ?_ (by with_reducible assumption)) | (refine bthen ?_ (by assumption)) | exact Below.refl _ _))))).mono ?_; rintro e w1 ⟨A1, c1, rfl, ho1, hb1⟩; (apply Blk.use (w := w1) (g := w.heap.size + 1 + 1); (focus (apply Blk.lat hb1; (repeat (first | with_reducible assumption | ((with_reducible apply Blk.new'); first | rfl | (simp; done)) | with_reducible apply Blk.set_ | (with_reducible apply Blk.far' (by first | (simp; done) | (simp; omega))) | with_reducible apply Blk.alloc | with_reducible apply Blk.drew)))); intro Z1; (try simp only [List.setIfInBounds_toArray, List.set_cons_zero, List.set_cons_succ] at Z1); have Z1c := Z1.cell; have Z1f := Z1.frozen; have Z1s := Z1.lt); (apply Blk.use (w := w1) (g := w.heap.size + 1); (focus (apply Blk.lat hb1; (repeat (first | with_reducible assumption | ((with_reducible apply Blk.new'); first | rfl | (simp; done)) | with_reducible apply Blk.set_ | (with_reducible apply Blk.far' (by first | (simp; done) | (simp; omega))) | with_reducible apply Blk.alloc | with_reducible apply Blk.drew)))); intro F1; (try simp only [List.setIfInBounds_toArray, List.set_cons_zero, List.set_cons_succ] at F1); have F1c := F1.cell; have F1f := F1.frozen; have F1s := F1.lt); obtain ⟨g, rfl, hg1, hg2⟩ := own_slice ho1 (by omega); simp only [World.size_alloc] at ho1 hg1; have O1 := Lib.hid ho1; clear ho1)
    | (go_at_call 7; refine (HFB.out _).use.mono ?_; rintro e w2 ⟨rfl, hb2⟩; (apply Blk.use (w := w2) (g := w.heap.size + 1 + 1); (focus (apply Blk.lat hb2; (repeat (first | with_reducible assumption | ((with_reducible apply Blk.new'); first | rfl | (simp; done)) | with_reducible apply Blk.set_ | (with_reducible apply Blk.far' (by first | (simp; done) | (simp; omega))) | with_reducible apply Blk.alloc | with_reducible apply Blk.drew)))); intro Z2; (try simp only [List.setIfInBounds_toArray, List.set_cons_zero, List.set_cons_succ] at Z2); have Z2c := Z2.cell; have Z2f := Z2.frozen; have Z2s := Z2.lt); (apply Blk.use (w := w2) (g := w1.heap.size); (focus (apply Blk.lat hb2; (repeat (first | with_reducible assumption | ((with_reducible apply Blk.new'); first | rfl | (simp; done)) | with_reducible apply Blk.set_ | (with_reducible apply Blk.far' (by first | (simp; done) | (simp; omega))) | with_reducible apply Blk.alloc | with_reducible apply Blk.drew)))); intro U2; (try simp only [List.setIfInBounds_toArray, List.set_cons_zero, List.set_cons_succ] at U2); have U2c := U2.cell; have U2f := U2.frozen; have U2s := U2.lt); have O2 := Lib.hid (own_keep O1.out (w' := w2) (by (repeat (first | (with_reducible refine bset ?_ (by first | (simp; done) | (simp; omega)) _) | (with_reducible refine balloc ?_ _) | (with_reducible refine bdrew ?_) | with_reducible exact Below.refl _ _ | (refine bthen ?_ (by with_reducible assumption)) | (refine bthen ?_ (by assumption)) | exact Below.refl _ _)))); have BB2 : Below w.heap.size w w2 := (by (repeat (first | (with_reducible refine bset ?_ (by first | (simp; done) | (simp; omega)) _) | (with_reducible refine balloc ?_ _) | (with_reducible refine bdrew ?_) | with_reducible exact Below.refl _ _ | (refine bthen ?_ (by with_reducible assumption)) | (refine bthen ?_ (by assumption)) | exact Below.refl _ _))); obtain ⟨⟨u0, q0⟩, q1, q2⟩ := own_at O2.out (m := k * 3 + 1) (by omega); have Q2 := Lib.hid q2; have gne : g ≠ w1.heap.size := Nat.ne_of_lt hg2; have gne' := gne.symm; have gnz : g ≠ w.heap.size + 1 + 1 := (by omega); have gnz' := gnz.symm; clear q2 Z1 Z1c Z1f F1 F1c F1f hb1 hb2 O1)
    | (go_at_call 59; refine (write_i _ w1.heap.size g (k * 3 + 1) rs.length c1 (w.heap.size + 1 + 1 + 1) _ p ⟨#[]⟩ fb ((flat encReg rs).set (k * 3 + 1) (.string ⟨#[]⟩)) (U2.far' gne') hpw hfl (by decide) (Q2.out (.string ⟨#[]⟩)) (by omega) (by rw [List.getElem?_set_self (by rw [flat_length encReg_len]; omega)]) gne').mono ?_; rintro e w3 ⟨rfl, U3, O3, only3⟩; have U3c := U3.cell; have U3s := U3.lt; have Z3 := only3.blk (Z2.far' gnz') (by have := U2s; have := Z2s; omega) gnz'; have Z3c := Z3.cell; have Z3f := Z3.frozen))
  rw [List.set_set, nil_app, HF.out] at O3
  have BB3 : Below w.heap.size w w3 := only3.below (bset BB2 (by simp; omega) _) (by have := BB2.size; omega) (by omega)
  refine bp_world ?_
  intro w9 hw9
  (apply Blk.use (w := w9) (g := w.heap.size + 1 + 1); (focus (rw [hw9]; (repeat (first | with_reducible assumption | ((with_reducible apply Blk.new'); first | rfl | (simp; done)) | with_reducible apply Blk.set_ | (with_reducible apply Blk.far' (by first | (simp; done) | (simp; omega))) | with_reducible apply Blk.alloc | with_reducible apply Blk.drew)))); intro Z9; (try simp only [List.setIfInBounds_toArray, List.set_cons_zero, List.set_cons_succ] at Z9); have Z9c := Z9.cell; have Z9f := Z9.frozen; have Z9s := Z9.lt)
  have O9 : w9.ownsRow (w.heap.size + 1 + 1 + 1) 57 3 (.slice (some ⟨g, 0, none⟩) rs.length c1) rs.length (flat encReg (setSlot rs k true (bs (cutText p fb).1))) := by rw [hw9]; (repeat (first | with_reducible assumption | (with_reducible refine own_set ?_ (by first | (simp; done) | (simp; omega)) _) | (with_reducible refine own_alloc ?_ _)))
  have B9 : Below w.heap.size w w9 := by rw [hw9]; (repeat (first | (with_reducible refine bset ?_ (by first | (simp; done) | (simp; omega)) _) | (with_reducible refine balloc ?_ _) | (with_reducible refine bdrew ?_) | with_reducible exact Below.refl _ _ | (refine bthen ?_ (by with_reducible assumption)) | (refine bthen ?_ (by assumption)) | exact Below.refl _ _))
  clear hw9 Q2 HB HR HF Z2 Z2c Z2f U2 U2c U2f Z3 Z3c Z3f U3 U3c O2 O3 q0 q1 only3
  exact bodyPost_ret (v := .agg #[.slice (some ⟨g, 0, none⟩) rs.length c1, .int .i64 (cutText p fb).2.1, .int .i64 (cutText p fb).2.2]) (by simp [results, Try.results24, go_sem, Z9c]) rfl ⟨some ⟨g, 0, none⟩, c1, by rw [HL.out], by rw [HL.out]; exact own_base O9 (by omega), B9⟩
set_option maxRecDepth 100000 in
theorem slot_i_empty (rs : List Reg) (v : Value) (p : Int) (k : Nat) (odd : Bool) (q : Int) (t : ByteArray) (hk : k < rs.length) (h : diskOk rs p = true) (hp : p ≠ 0) (hfb : frameBytes q t.data.toList = []) (w : World) (hr : Rd w 3 v rs.length (flat encReg rs)) :
    Calls Try.prog 24 #[.agg #[v, .int .i64 p], .int .i64 k, .bool odd, .agg #[.int .i64 q, .string t]] w fun e w' => NewOut w e w' [] 0 2 := by
  have hB := fun w hr => begin_i_ok rs v p k w hr h ⟨by omega, by omega⟩ hp
  have hF := fun w => frameBytes_i q t w
  rw [hfb] at hF
  obtain ⟨A, cap, rfl, _⟩ := hr.form
  have hemp : (bs []).toList.isEmpty = true := by rw [Lib.toList_data]; rfl
  have hemp' : (bs []).toList = [] := by rw [Lib.toList_data]; rfl
  have HR := Lib.hid hr
  have HB := Lib.hid hB
  have HFB := Lib.hid hF
  clear hr hB h hp hF hfb
  go_enter Try.func24, Try.ntmps24
  go_wp2_with (first
    | (go_at_call 58; refine (HB.out _ (HR.out.later (by (repeat (first | (with_reducible refine bset ?_ (by first | (simp; done) | (simp; omega)) _) | (with_reducible refine balloc ?_ _) | (with_reducible refine bdrew ?_) | with_reducible exact Below.refl _ _ | (refine bthen ?_ (by with_reducible assumption)) | (refine bthen ?_ (by assumption)) | exact Below.refl _ _))))).mono ?_; rintro e w1 ⟨A1, c1, rfl, ho1, hb1⟩; (apply Blk.use (w := w1) (g := w.heap.size + 1 + 1); (focus (apply Blk.lat hb1; (repeat (first | with_reducible assumption | ((with_reducible apply Blk.new'); first | rfl | (simp; done)) | with_reducible apply Blk.set_ | (with_reducible apply Blk.far' (by first | (simp; done) | (simp; omega))) | with_reducible apply Blk.alloc | with_reducible apply Blk.drew)))); intro Z1; (try simp only [List.setIfInBounds_toArray, List.set_cons_zero, List.set_cons_succ] at Z1); have Z1c := Z1.cell; have Z1f := Z1.frozen; have Z1s := Z1.lt); (apply Blk.use (w := w1) (g := w.heap.size + 1); (focus (apply Blk.lat hb1; (repeat (first | with_reducible assumption | ((with_reducible apply Blk.new'); first | rfl | (simp; done)) | with_reducible apply Blk.set_ | (with_reducible apply Blk.far' (by first | (simp; done) | (simp; omega))) | with_reducible apply Blk.alloc | with_reducible apply Blk.drew)))); intro F1; (try simp only [List.setIfInBounds_toArray, List.set_cons_zero, List.set_cons_succ] at F1); have F1c := F1.cell; have F1f := F1.frozen; have F1s := F1.lt))
    | (go_at_call 7; refine (HFB.out _).use.mono ?_; rintro e w2 ⟨rfl, hb2⟩; (apply Blk.use (w := w2) (g := w.heap.size + 1 + 1); (focus (apply Blk.lat hb2; (repeat (first | with_reducible assumption | ((with_reducible apply Blk.new'); first | rfl | (simp; done)) | with_reducible apply Blk.set_ | (with_reducible apply Blk.far' (by first | (simp; done) | (simp; omega))) | with_reducible apply Blk.alloc | with_reducible apply Blk.drew)))); intro Z2; (try simp only [List.setIfInBounds_toArray, List.set_cons_zero, List.set_cons_succ] at Z2); have Z2c := Z2.cell; have Z2f := Z2.frozen; have Z2s := Z2.lt)))
  exact bodyPost_ret (v := .agg #[.slice none 0 0, .int .i64 0, .int .i64 2]) (by simp [results, Try.results24, go_sem, Z2c, Z2f]) rfl ⟨none, 0, rfl, World.ownsRow_nil _ _ _ _, by (repeat (first | (with_reducible refine bset ?_ (by first | (simp; done) | (simp; omega)) _) | (with_reducible refine balloc ?_ _) | (with_reducible refine bdrew ?_) | with_reducible exact Below.refl _ _ | (refine bthen ?_ (by with_reducible assumption)) | (refine bthen ?_ (by assumption)) | exact Below.refl _ _))⟩
set_option maxRecDepth 100000 in
theorem slot_i_ill (rs : List Reg) (v : Value) (p r : Int) (odd : Bool) (q : Int) (t : ByteArray) (hs : stage rs p r ≠ 0) (w : World) (hr : Rd w 3 v rs.length (flat encReg rs)) :
    Calls Try.prog 24 #[.agg #[v, .int .i64 p], .int .i64 r, .bool odd, .agg #[.int .i64 q, .string t]] w fun e w' => NewOut w e w' (illRs rs (stage rs p r)) (illP p (stage rs p r)) (stage rs p r) := by
  have hB := fun w hr => begin_i_ill rs v p r hs w hr
  obtain ⟨A, cap, rfl, _⟩ := hr.form
  have HR := Lib.hid hr
  have HB := Lib.hid hB
  clear hr hB
  generalize illRs rs (stage rs p r) = rs' at *
  generalize illP p (stage rs p r) = p' at *
  generalize stage rs p r = c at *
  have hc : (c != 0) = true := by simpa using hs
  clear hs
  go_enter Try.func24, Try.ntmps24
  go_wp2_with (go_at_call 58; refine (HB.out _ (HR.out.later (by (repeat (first | (with_reducible refine bset ?_ (by first | (simp; done) | (simp; omega)) _) | (with_reducible refine balloc ?_ _) | (with_reducible refine bdrew ?_) | with_reducible exact Below.refl _ _ | (refine bthen ?_ (by with_reducible assumption)) | (refine bthen ?_ (by assumption)) | exact Below.refl _ _))))).mono ?_; rintro e w1 ⟨A1, c1, rfl, ho1, hb1⟩; (apply Blk.use (w := w1) (g := w.heap.size + 1 + 1); (focus (apply Blk.lat hb1; (repeat (first | with_reducible assumption | ((with_reducible apply Blk.new'); first | rfl | (simp; done)) | with_reducible apply Blk.set_ | (with_reducible apply Blk.far' (by first | (simp; done) | (simp; omega))) | with_reducible apply Blk.alloc | with_reducible apply Blk.drew)))); intro Z1; (try simp only [List.setIfInBounds_toArray, List.set_cons_zero, List.set_cons_succ] at Z1); have Z1c := Z1.cell; have Z1f := Z1.frozen; have Z1s := Z1.lt))
  refine bp_world ?_
  intro w9 hw9
  (apply Blk.use (w := w9) (g := w.heap.size + 1 + 1); (focus (rw [hw9]; (repeat (first | with_reducible assumption | ((with_reducible apply Blk.new'); first | rfl | (simp; done)) | with_reducible apply Blk.set_ | (with_reducible apply Blk.far' (by first | (simp; done) | (simp; omega))) | with_reducible apply Blk.alloc | with_reducible apply Blk.drew)))); intro Z9; (try simp only [List.setIfInBounds_toArray, List.set_cons_zero, List.set_cons_succ] at Z9); have Z9c := Z9.cell; have Z9f := Z9.frozen; have Z9s := Z9.lt)
  simp only [World.size_alloc] at ho1
  have O9 : w9.ownsRow (w.heap.size + 1 + 1 + 1) 57 3 (.slice A1 rs'.length c1) rs'.length (flat encReg rs') := by rw [hw9]; (repeat (first | with_reducible assumption | (with_reducible refine own_set ?_ (by first | (simp; done) | (simp; omega)) _) | (with_reducible refine own_alloc ?_ _)))
  have B9 : Below w.heap.size w w9 := by rw [hw9]; (repeat (first | (with_reducible refine bset ?_ (by first | (simp; done) | (simp; omega)) _) | (with_reducible refine balloc ?_ _) | (with_reducible refine bdrew ?_) | with_reducible exact Below.refl _ _ | (refine bthen ?_ (by with_reducible assumption)) | (refine bthen ?_ (by assumption)) | exact Below.refl _ _))
  clear hw9 HB HR Z1 Z1c Z1f hb1 ho1
  exact bodyPost_ret (v := .agg #[.slice A1 rs'.length c1, .int .i64 p', .int .i64 c]) (by simp [results, Try.results24, go_sem, Z9c]) rfl ⟨A1, c1, rfl, own_base O9 (by omega), B9⟩
theorem slot_i (rs : List Reg) (v : Value) (p r : Int) (odd : Bool) (q : Int) (t : ByteArray) (w : World) (hr : Rd w 3 v rs.length (flat encReg rs)) :
    Calls Try.prog 24 #[.agg #[v, .int .i64 p], .int .i64 r, .bool odd, .agg #[.int .i64 q, .string t]] w fun e w' => NewOut w e w' (slotOut rs p r odd (frameBytes q t.data.toList)).1 (slotOut rs p r odd (frameBytes q t.data.toList)).2.1 (slotOut rs p r odd (frameBytes q t.data.toList)).2.2 := by
  unfold slotOut
  by_cases h : stage rs p r = 0
  · obtain ⟨h1, h2, h3⟩ := stage_zero h
    obtain ⟨k, rfl⟩ := Int.eq_ofNat_of_zero_le h2.1
    rw [if_neg (by simpa using h)]
    by_cases hf : frameBytes q t.data.toList = []
    · rw [if_pos hf]
      exact slot_i_empty rs v p k odd q t (by omega) h1 h3 hf w hr
    · rw [if_neg hf]
      cases odd
      · exact slot_i_even rs v p k q t (by omega) h1 h3 hf w hr
      · exact slot_i_odd rs v p k q t (by omega) h1 h3 hf w hr
  · rw [if_pos h]
    exact slot_i_ill rs v p r odd q t h w hr

set_option maxRecDepth 100000 in
set_option maxHeartbeats 2000000 in
theorem slot_s_even (rs : List Reg) (v : Value) (p : Int) (k : Nat) (q : Int) (t : ByteArray) (hk : k < rs.length) (h : diskOk rs p = true) (hp : p ≠ 0) (hfb : frameBytes q t.data.toList ≠ []) (w : World) (hr : Rd w 3 v rs.length (flat encReg rs)) :
    Calls Try.prog 25 #[.agg #[v, .int .i64 p], .int .i64 k, .bool false, .agg #[.int .i64 q, .string t]] w fun e w' => NewOut w e w' (setSlot rs k false (bs (cutText p (frameBytes q t.data.toList)).1)) (cutText p (frameBytes q t.data.toList)).2.1 (cutText p (frameBytes q t.data.toList)).2.2 := by
  have hB := fun w hr => l16Code_s rs v p k w hr
  rw [stage_ok h ⟨by omega, by omega⟩ hp] at hB
  have hF := fun w => frameBytes_s q t w
  have hfl := frameBytes_len q t.data.toList
  generalize frameBytes q t.data.toList = fb at *
  obtain ⟨A, cap, rfl, _⟩ := hr.form
  have hl := diskOk_len' h
  have hpw := power_le h
  have hemp : (bs fb).toList.isEmpty = false := by rw [Lib.toList_data]; cases fb with
    | nil => exact absurd rfl hfb
    | cons a l => rfl
  have hemp' : ¬ (bs fb).toList = [] := by rw [Lib.toList_data]; exact hfb
  have HR := Lib.hid hr
  have HB := Lib.hid hB
  have HFB := Lib.hid hF
  have HF := Lib.hid (flat_slot0 rs k (bs (cutText p fb).1) hk)
  have HL := Lib.hid (setSlot_len rs k false (bs (cutText p fb).1))
  have HCut := Lib.hid (fun w => l16Cut_s p fb hpw hfl w)
  clear hr hB h hp hF hfb
  generalize cutText p fb = ct at *
  obtain ⟨ct1, ct2, ct3⟩ := ct
  dsimp only at HF HL HCut ⊢
  have i1 : (k : Int) < rs.length := by omega
  go_enter Try.func25, Try.ntmps25
  go_wp2_with (first
    | (go_at_call 61; refine (HB.out _ (HR.out.later (by (repeat (first | (with_reducible refine bset ?_ (by first | (simp; done) | (simp; omega)) _) | (with_reducible refine balloc ?_ _) | (with_reducible refine bdrew ?_) | with_reducible exact Below.refl _ _ | (refine bthen ?_ (by with_reducible assumption)) | (refine bthen ?_ (by assumption)) | exact Below.refl _ _))))).use.mono ?_; rintro e w0 ⟨rfl, hb0⟩; (apply Blk.use (w := w0) (g := w.heap.size + 1 + 1); (focus (apply Blk.lat hb0; (repeat (first | with_reducible assumption | ((with_reducible apply Blk.new'); first | rfl | (simp; done)) | with_reducible apply Blk.set_ | (with_reducible apply Blk.far' (by first | (simp; done) | (simp; omega))) | with_reducible apply Blk.alloc | with_reducible apply Blk.drew)))); intro Z0; (try simp only [List.setIfInBounds_toArray, List.set_cons_zero, List.set_cons_succ] at Z0); have Z0c := Z0.cell; have Z0f := Z0.frozen; have Z0s := Z0.lt); (apply Blk.use (w := w0) (g := w.heap.size); (focus (apply Blk.lat hb0; (repeat (first | with_reducible assumption | ((with_reducible apply Blk.new'); first | rfl | (simp; done)) | with_reducible apply Blk.set_ | (with_reducible apply Blk.far' (by first | (simp; done) | (simp; omega))) | with_reducible apply Blk.alloc | with_reducible apply Blk.drew)))); intro D0; (try simp only [List.setIfInBounds_toArray, List.set_cons_zero, List.set_cons_succ] at D0); have D0c := D0.cell; have D0f := D0.frozen; have D0s := D0.lt); (apply Blk.use (w := w0) (g := w.heap.size + 1); (focus (apply Blk.lat hb0; (repeat (first | with_reducible assumption | ((with_reducible apply Blk.new'); first | rfl | (simp; done)) | with_reducible apply Blk.set_ | (with_reducible apply Blk.far' (by first | (simp; done) | (simp; omega))) | with_reducible apply Blk.alloc | with_reducible apply Blk.drew)))); intro F0; (try simp only [List.setIfInBounds_toArray, List.set_cons_zero, List.set_cons_succ] at F0); have F0c := F0.cell; have F0f := F0.frozen; have F0s := F0.lt))
    | (go_at_call 9; refine (HFB.out _).use.mono ?_; rintro e w1 ⟨rfl, hb1⟩; (apply Blk.use (w := w1) (g := w.heap.size + 1 + 1); (focus (apply Blk.lat hb1; (repeat (first | with_reducible assumption | ((with_reducible apply Blk.new'); first | rfl | (simp; done)) | with_reducible apply Blk.set_ | (with_reducible apply Blk.far' (by first | (simp; done) | (simp; omega))) | with_reducible apply Blk.alloc | with_reducible apply Blk.drew)))); intro Z1; (try simp only [List.setIfInBounds_toArray, List.set_cons_zero, List.set_cons_succ] at Z1); have Z1c := Z1.cell; have Z1f := Z1.frozen; have Z1s := Z1.lt); (apply Blk.use (w := w1) (g := w.heap.size); (focus (apply Blk.lat hb1; (repeat (first | with_reducible assumption | ((with_reducible apply Blk.new'); first | rfl | (simp; done)) | with_reducible apply Blk.set_ | (with_reducible apply Blk.far' (by first | (simp; done) | (simp; omega))) | with_reducible apply Blk.alloc | with_reducible apply Blk.drew)))); intro D1; (try simp only [List.setIfInBounds_toArray, List.set_cons_zero, List.set_cons_succ] at D1); have D1c := D1.cell; have D1f := D1.frozen; have D1s := D1.lt); have BB1 : Below w.heap.size w w1 := (by (repeat (first | (with_reducible refine bset ?_ (by first | (simp; done) | (simp; omega)) _) | (with_reducible refine balloc ?_ _) | (with_reducible refine bdrew ?_) | with_reducible exact Below.refl _ _ | (refine bthen ?_ (by with_reducible assumption)) | (refine bthen ?_ (by assumption)) | exact Below.refl _ _))); clear Z0 Z0c Z0f D0 D0c D0f F0 F0c F0f hb0 hb1)
    | (go_at_call 63; refine (copyDisk_s rs _ _ hl _ (HR.out.later (by (repeat (first | (with_reducible refine bset ?_ (by first | (simp; done) | (simp; omega)) _) | (with_reducible refine balloc ?_ _) | (with_reducible refine bdrew ?_) | with_reducible exact Below.refl _ _ | (refine bthen ?_ (by with_reducible assumption)) | (refine bthen ?_ (by assumption)) | exact Below.refl _ _))))).mono ?_; rintro e w2 ⟨A1, c1, rfl, ho1, hb2⟩; (apply Blk.use (w := w2) (g := w.heap.size + 1 + 1); (focus (apply Blk.lat hb2; (repeat (first | with_reducible assumption | ((with_reducible apply Blk.new'); first | rfl | (simp; done)) | with_reducible apply Blk.set_ | (with_reducible apply Blk.far' (by first | (simp; done) | (simp; omega))) | with_reducible apply Blk.alloc | with_reducible apply Blk.drew)))); intro Z2; (try simp only [List.setIfInBounds_toArray, List.set_cons_zero, List.set_cons_succ] at Z2); have Z2c := Z2.cell; have Z2f := Z2.frozen; have Z2s := Z2.lt); (apply Blk.use (w := w2) (g := w.heap.size); (focus (apply Blk.lat hb2; (repeat (first | with_reducible assumption | ((with_reducible apply Blk.new'); first | rfl | (simp; done)) | with_reducible apply Blk.set_ | (with_reducible apply Blk.far' (by first | (simp; done) | (simp; omega))) | with_reducible apply Blk.alloc | with_reducible apply Blk.drew)))); intro D2; (try simp only [List.setIfInBounds_toArray, List.set_cons_zero, List.set_cons_succ] at D2); have D2c := D2.cell; have D2f := D2.frozen; have D2s := D2.lt); obtain ⟨g, rfl, hg1, hg2⟩ := own_slice ho1 (by omega); have O1 := Lib.hid ho1; have BB2 : Below w.heap.size w w2 := (by (repeat (first | (with_reducible refine bset ?_ (by first | (simp; done) | (simp; omega)) _) | (with_reducible refine balloc ?_ _) | (with_reducible refine bdrew ?_) | with_reducible exact Below.refl _ _ | (refine bthen ?_ (by with_reducible assumption)) | (refine bthen ?_ (by assumption)) | exact Below.refl _ _))); clear ho1 Z1 Z1c Z1f D1 D1c D1f hb2 BB1)
    | (go_at_call 64; refine (HCut.out _).use.mono ?_; rintro e w3 ⟨rfl, hb3⟩; (apply Blk.use (w := w3) (g := w.heap.size + 1 + 1); (focus (apply Blk.lat hb3; (repeat (first | with_reducible assumption | ((with_reducible apply Blk.new'); first | rfl | (simp; done)) | with_reducible apply Blk.set_ | (with_reducible apply Blk.far' (by first | (simp; done) | (simp; omega))) | with_reducible apply Blk.alloc | with_reducible apply Blk.drew)))); intro Z3; (try simp only [List.setIfInBounds_toArray, List.set_cons_zero, List.set_cons_succ] at Z3); have Z3c := Z3.cell; have Z3f := Z3.frozen; have Z3s := Z3.lt); (apply Blk.use (w := w3) (g := w2.heap.size); (focus (apply Blk.lat hb3; (repeat (first | with_reducible assumption | ((with_reducible apply Blk.new'); first | rfl | (simp; done)) | with_reducible apply Blk.set_ | (with_reducible apply Blk.far' (by first | (simp; done) | (simp; omega))) | with_reducible apply Blk.alloc | with_reducible apply Blk.drew)))); intro U3; (try simp only [List.setIfInBounds_toArray, List.set_cons_zero, List.set_cons_succ] at U3); have U3c := U3.cell; have U3f := U3.frozen; have U3s := U3.lt); have O3 := Lib.hid (own_keep O1.out (w' := w3) (by (repeat (first | (with_reducible refine bset ?_ (by first | (simp; done) | (simp; omega)) _) | (with_reducible refine balloc ?_ _) | (with_reducible refine bdrew ?_) | with_reducible exact Below.refl _ _ | (refine bthen ?_ (by with_reducible assumption)) | (refine bthen ?_ (by assumption)) | exact Below.refl _ _)))); have BB3 : Below w.heap.size w w3 := (by (repeat (first | (with_reducible refine bset ?_ (by first | (simp; done) | (simp; omega)) _) | (with_reducible refine balloc ?_ _) | (with_reducible refine bdrew ?_) | with_reducible exact Below.refl _ _ | (refine bthen ?_ (by with_reducible assumption)) | (refine bthen ?_ (by assumption)) | exact Below.refl _ _))); obtain ⟨⟨u0, q0⟩, q1, q2⟩ := own_at O3.out (m := k * 3) (by omega); have Q2 := Lib.hid q2; have gne : g ≠ w2.heap.size := Nat.ne_of_lt hg2; have gne' := gne.symm; have gnz : g ≠ w.heap.size + 1 + 1 := (by omega); have gnz' := gnz.symm; clear q2 Z2 Z2c Z2f D2 D2c D2f hb3 O1 BB2))
  have O4 := Q2.out (.string (bs ct1))
  rw [HF.out] at O4
  refine bp_world ?_
  intro w9 hw9
  (apply Blk.use (w := w9) (g := w.heap.size + 1 + 1); (focus (rw [hw9]; (repeat (first | with_reducible assumption | ((with_reducible apply Blk.new'); first | rfl | (simp; done)) | with_reducible apply Blk.set_ | (with_reducible apply Blk.far' (by first | (simp; done) | (simp; omega))) | with_reducible apply Blk.alloc | with_reducible apply Blk.drew)))); intro Z9; (try simp only [List.setIfInBounds_toArray, List.set_cons_zero, List.set_cons_succ] at Z9); have Z9c := Z9.cell; have Z9f := Z9.frozen; have Z9s := Z9.lt)
  have hob : (Value.slice (some ⟨g, 0, none⟩) rs.length c1).ownBlock ≠ some w2.heap.size := by simp [Value.ownBlock]; exact gne
  have O9 : w9.ownsRow w1.heap.size 57 3 (.slice (some ⟨g, 0, none⟩) rs.length c1) rs.length (flat encReg (setSlot rs k false (bs ct1))) := by
    rw [hw9]
    have O5 := own_far O4 (j := 1) hob (.int .i64 ct2)
    (repeat (first | with_reducible assumption | (with_reducible refine own_set ?_ (by first | (simp; done) | (simp; omega)) _) | (with_reducible refine own_alloc ?_ _)))
  have B9 : Below w.heap.size w w9 := by rw [hw9]; (repeat (first | (with_reducible refine bset ?_ (by first | (simp; done) | (simp; omega)) _) | (with_reducible refine balloc ?_ _) | (with_reducible refine bdrew ?_) | with_reducible exact Below.refl _ _ | (refine bthen ?_ (by with_reducible assumption)) | (refine bthen ?_ (by assumption)) | exact Below.refl _ _))
  clear hw9 Q2 HB HR HF Z3 Z3c Z3f U3 U3c U3f O3 O4 q0 q1
  exact bodyPost_ret (v := .agg #[.slice (some ⟨g, 0, none⟩) rs.length c1, .int .i64 ct2, .int .i64 ct3]) (by simp [results, Try.results25, go_sem, Z9c]) rfl ⟨some ⟨g, 0, none⟩, c1, by rw [HL.out], by rw [HL.out]; exact own_base O9 (by omega), B9⟩
set_option maxRecDepth 100000 in
set_option maxHeartbeats 2000000 in
theorem slot_s_odd (rs : List Reg) (v : Value) (p : Int) (k : Nat) (q : Int) (t : ByteArray) (hk : k < rs.length) (h : diskOk rs p = true) (hp : p ≠ 0) (hfb : frameBytes q t.data.toList ≠ []) (w : World) (hr : Rd w 3 v rs.length (flat encReg rs)) :
    Calls Try.prog 25 #[.agg #[v, .int .i64 p], .int .i64 k, .bool true, .agg #[.int .i64 q, .string t]] w fun e w' => NewOut w e w' (setSlot rs k true (bs (cutText p (frameBytes q t.data.toList)).1)) (cutText p (frameBytes q t.data.toList)).2.1 (cutText p (frameBytes q t.data.toList)).2.2 := by
  have hB := fun w hr => l16Code_s rs v p k w hr
  rw [stage_ok h ⟨by omega, by omega⟩ hp] at hB
  have hF := fun w => frameBytes_s q t w
  have hfl := frameBytes_len q t.data.toList
  generalize frameBytes q t.data.toList = fb at *
  obtain ⟨A, cap, rfl, _⟩ := hr.form
  have hl := diskOk_len' h
  have hpw := power_le h
  have hemp : (bs fb).toList.isEmpty = false := by rw [Lib.toList_data]; cases fb with
    | nil => exact absurd rfl hfb
    | cons a l => rfl
  have hemp' : ¬ (bs fb).toList = [] := by rw [Lib.toList_data]; exact hfb
  have HR := Lib.hid hr
  have HB := Lib.hid hB
  have HFB := Lib.hid hF
  have HF := Lib.hid (flat_slot1 rs k (bs (cutText p fb).1) hk)
  have HL := Lib.hid (setSlot_len rs k true (bs (cutText p fb).1))
  have HCut := Lib.hid (fun w => l16Cut_s p fb hpw hfl w)
  clear hr hB h hp hF hfb
  generalize cutText p fb = ct at *
  obtain ⟨ct1, ct2, ct3⟩ := ct
  dsimp only at HF HL HCut ⊢
  have i1 : (k : Int) < rs.length := by omega
  go_enter Try.func25, Try.ntmps25
  go_wp2_with (first
    | (go_at_call 61; refine (HB.out _ (HR.out.later (by (repeat (first | (with_reducible refine bset ?_ (by first | (simp; done) | (simp; omega)) _) | (with_reducible refine balloc ?_ _) | (with_reducible refine bdrew ?_) | with_reducible exact Below.refl _ _ | (refine bthen ?_ (by with_reducible assumption)) | (refine bthen ?_ (by assumption)) | exact Below.refl _ _))))).use.mono ?_; rintro e w0 ⟨rfl, hb0⟩; (apply Blk.use (w := w0) (g := w.heap.size + 1 + 1); (focus (apply Blk.lat hb0; (repeat (first | with_reducible assumption | ((with_reducible apply Blk.new'); first | rfl | (simp; done)) | with_reducible apply Blk.set_ | (with_reducible apply Blk.far' (by first | (simp; done) | (simp; omega))) | with_reducible apply Blk.alloc | with_reducible apply Blk.drew)))); intro Z0; (try simp only [List.setIfInBounds_toArray, List.set_cons_zero, List.set_cons_succ] at Z0); have Z0c := Z0.cell; have Z0f := Z0.frozen; have Z0s := Z0.lt); (apply Blk.use (w := w0) (g := w.heap.size); (focus (apply Blk.lat hb0; (repeat (first | with_reducible assumption | ((with_reducible apply Blk.new'); first | rfl | (simp; done)) | with_reducible apply Blk.set_ | (with_reducible apply Blk.far' (by first | (simp; done) | (simp; omega))) | with_reducible apply Blk.alloc | with_reducible apply Blk.drew)))); intro D0; (try simp only [List.setIfInBounds_toArray, List.set_cons_zero, List.set_cons_succ] at D0); have D0c := D0.cell; have D0f := D0.frozen; have D0s := D0.lt); (apply Blk.use (w := w0) (g := w.heap.size + 1); (focus (apply Blk.lat hb0; (repeat (first | with_reducible assumption | ((with_reducible apply Blk.new'); first | rfl | (simp; done)) | with_reducible apply Blk.set_ | (with_reducible apply Blk.far' (by first | (simp; done) | (simp; omega))) | with_reducible apply Blk.alloc | with_reducible apply Blk.drew)))); intro F0; (try simp only [List.setIfInBounds_toArray, List.set_cons_zero, List.set_cons_succ] at F0); have F0c := F0.cell; have F0f := F0.frozen; have F0s := F0.lt))
    | (go_at_call 9; refine (HFB.out _).use.mono ?_; rintro e w1 ⟨rfl, hb1⟩; (apply Blk.use (w := w1) (g := w.heap.size + 1 + 1); (focus (apply Blk.lat hb1; (repeat (first | with_reducible assumption | ((with_reducible apply Blk.new'); first | rfl | (simp; done)) | with_reducible apply Blk.set_ | (with_reducible apply Blk.far' (by first | (simp; done) | (simp; omega))) | with_reducible apply Blk.alloc | with_reducible apply Blk.drew)))); intro Z1; (try simp only [List.setIfInBounds_toArray, List.set_cons_zero, List.set_cons_succ] at Z1); have Z1c := Z1.cell; have Z1f := Z1.frozen; have Z1s := Z1.lt); (apply Blk.use (w := w1) (g := w.heap.size); (focus (apply Blk.lat hb1; (repeat (first | with_reducible assumption | ((with_reducible apply Blk.new'); first | rfl | (simp; done)) | with_reducible apply Blk.set_ | (with_reducible apply Blk.far' (by first | (simp; done) | (simp; omega))) | with_reducible apply Blk.alloc | with_reducible apply Blk.drew)))); intro D1; (try simp only [List.setIfInBounds_toArray, List.set_cons_zero, List.set_cons_succ] at D1); have D1c := D1.cell; have D1f := D1.frozen; have D1s := D1.lt); have BB1 : Below w.heap.size w w1 := (by (repeat (first | (with_reducible refine bset ?_ (by first | (simp; done) | (simp; omega)) _) | (with_reducible refine balloc ?_ _) | (with_reducible refine bdrew ?_) | with_reducible exact Below.refl _ _ | (refine bthen ?_ (by with_reducible assumption)) | (refine bthen ?_ (by assumption)) | exact Below.refl _ _))); clear Z0 Z0c Z0f D0 D0c D0f F0 F0c F0f hb0 hb1)
    | (go_at_call 63; refine (copyDisk_s rs _ _ hl _ (HR.out.later (by (repeat (first | (with_reducible refine bset ?_ (by first | (simp; done) | (simp; omega)) _) | (with_reducible refine balloc ?_ _) | (with_reducible refine bdrew ?_) | with_reducible exact Below.refl _ _ | (refine bthen ?_ (by with_reducible assumption)) | (refine bthen ?_ (by assumption)) | exact Below.refl _ _))))).mono ?_; rintro e w2 ⟨A1, c1, rfl, ho1, hb2⟩; (apply Blk.use (w := w2) (g := w.heap.size + 1 + 1); (focus (apply Blk.lat hb2; (repeat (first | with_reducible assumption | ((with_reducible apply Blk.new'); first | rfl | (simp; done)) | with_reducible apply Blk.set_ | (with_reducible apply Blk.far' (by first | (simp; done) | (simp; omega))) | with_reducible apply Blk.alloc | with_reducible apply Blk.drew)))); intro Z2; (try simp only [List.setIfInBounds_toArray, List.set_cons_zero, List.set_cons_succ] at Z2); have Z2c := Z2.cell; have Z2f := Z2.frozen; have Z2s := Z2.lt); (apply Blk.use (w := w2) (g := w.heap.size); (focus (apply Blk.lat hb2; (repeat (first | with_reducible assumption | ((with_reducible apply Blk.new'); first | rfl | (simp; done)) | with_reducible apply Blk.set_ | (with_reducible apply Blk.far' (by first | (simp; done) | (simp; omega))) | with_reducible apply Blk.alloc | with_reducible apply Blk.drew)))); intro D2; (try simp only [List.setIfInBounds_toArray, List.set_cons_zero, List.set_cons_succ] at D2); have D2c := D2.cell; have D2f := D2.frozen; have D2s := D2.lt); obtain ⟨g, rfl, hg1, hg2⟩ := own_slice ho1 (by omega); have O1 := Lib.hid ho1; have BB2 : Below w.heap.size w w2 := (by (repeat (first | (with_reducible refine bset ?_ (by first | (simp; done) | (simp; omega)) _) | (with_reducible refine balloc ?_ _) | (with_reducible refine bdrew ?_) | with_reducible exact Below.refl _ _ | (refine bthen ?_ (by with_reducible assumption)) | (refine bthen ?_ (by assumption)) | exact Below.refl _ _))); clear ho1 Z1 Z1c Z1f D1 D1c D1f hb2 BB1)
    | (go_at_call 64; refine (HCut.out _).use.mono ?_; rintro e w3 ⟨rfl, hb3⟩; (apply Blk.use (w := w3) (g := w.heap.size + 1 + 1); (focus (apply Blk.lat hb3; (repeat (first | with_reducible assumption | ((with_reducible apply Blk.new'); first | rfl | (simp; done)) | with_reducible apply Blk.set_ | (with_reducible apply Blk.far' (by first | (simp; done) | (simp; omega))) | with_reducible apply Blk.alloc | with_reducible apply Blk.drew)))); intro Z3; (try simp only [List.setIfInBounds_toArray, List.set_cons_zero, List.set_cons_succ] at Z3); have Z3c := Z3.cell; have Z3f := Z3.frozen; have Z3s := Z3.lt); (apply Blk.use (w := w3) (g := w2.heap.size); (focus (apply Blk.lat hb3; (repeat (first | with_reducible assumption | ((with_reducible apply Blk.new'); first | rfl | (simp; done)) | with_reducible apply Blk.set_ | (with_reducible apply Blk.far' (by first | (simp; done) | (simp; omega))) | with_reducible apply Blk.alloc | with_reducible apply Blk.drew)))); intro U3; (try simp only [List.setIfInBounds_toArray, List.set_cons_zero, List.set_cons_succ] at U3); have U3c := U3.cell; have U3f := U3.frozen; have U3s := U3.lt); have O3 := Lib.hid (own_keep O1.out (w' := w3) (by (repeat (first | (with_reducible refine bset ?_ (by first | (simp; done) | (simp; omega)) _) | (with_reducible refine balloc ?_ _) | (with_reducible refine bdrew ?_) | with_reducible exact Below.refl _ _ | (refine bthen ?_ (by with_reducible assumption)) | (refine bthen ?_ (by assumption)) | exact Below.refl _ _)))); have BB3 : Below w.heap.size w w3 := (by (repeat (first | (with_reducible refine bset ?_ (by first | (simp; done) | (simp; omega)) _) | (with_reducible refine balloc ?_ _) | (with_reducible refine bdrew ?_) | with_reducible exact Below.refl _ _ | (refine bthen ?_ (by with_reducible assumption)) | (refine bthen ?_ (by assumption)) | exact Below.refl _ _))); obtain ⟨⟨u0, q0⟩, q1, q2⟩ := own_at O3.out (m := k * 3 + 1) (by omega); have Q2 := Lib.hid q2; have gne : g ≠ w2.heap.size := Nat.ne_of_lt hg2; have gne' := gne.symm; have gnz : g ≠ w.heap.size + 1 + 1 := (by omega); have gnz' := gnz.symm; clear q2 Z2 Z2c Z2f D2 D2c D2f hb3 O1 BB2))
  have O4 := Q2.out (.string (bs ct1))
  rw [HF.out] at O4
  refine bp_world ?_
  intro w9 hw9
  (apply Blk.use (w := w9) (g := w.heap.size + 1 + 1); (focus (rw [hw9]; (repeat (first | with_reducible assumption | ((with_reducible apply Blk.new'); first | rfl | (simp; done)) | with_reducible apply Blk.set_ | (with_reducible apply Blk.far' (by first | (simp; done) | (simp; omega))) | with_reducible apply Blk.alloc | with_reducible apply Blk.drew)))); intro Z9; (try simp only [List.setIfInBounds_toArray, List.set_cons_zero, List.set_cons_succ] at Z9); have Z9c := Z9.cell; have Z9f := Z9.frozen; have Z9s := Z9.lt)
  have hob : (Value.slice (some ⟨g, 0, none⟩) rs.length c1).ownBlock ≠ some w2.heap.size := by simp [Value.ownBlock]; exact gne
  have O9 : w9.ownsRow w1.heap.size 57 3 (.slice (some ⟨g, 0, none⟩) rs.length c1) rs.length (flat encReg (setSlot rs k true (bs ct1))) := by
    rw [hw9]
    have O5 := own_far O4 (j := 1) hob (.int .i64 ct2)
    (repeat (first | with_reducible assumption | (with_reducible refine own_set ?_ (by first | (simp; done) | (simp; omega)) _) | (with_reducible refine own_alloc ?_ _)))
  have B9 : Below w.heap.size w w9 := by rw [hw9]; (repeat (first | (with_reducible refine bset ?_ (by first | (simp; done) | (simp; omega)) _) | (with_reducible refine balloc ?_ _) | (with_reducible refine bdrew ?_) | with_reducible exact Below.refl _ _ | (refine bthen ?_ (by with_reducible assumption)) | (refine bthen ?_ (by assumption)) | exact Below.refl _ _))
  clear hw9 Q2 HB HR HF Z3 Z3c Z3f U3 U3c U3f O3 O4 q0 q1
  exact bodyPost_ret (v := .agg #[.slice (some ⟨g, 0, none⟩) rs.length c1, .int .i64 ct2, .int .i64 ct3]) (by simp [results, Try.results25, go_sem, Z9c]) rfl ⟨some ⟨g, 0, none⟩, c1, by rw [HL.out], by rw [HL.out]; exact own_base O9 (by omega), B9⟩
set_option maxRecDepth 100000 in
theorem slot_s_empty (rs : List Reg) (v : Value) (p : Int) (k : Nat) (odd : Bool) (q : Int) (t : ByteArray) (hk : k < rs.length) (h : diskOk rs p = true) (hp : p ≠ 0) (hfb : frameBytes q t.data.toList = []) (w : World) (hr : Rd w 3 v rs.length (flat encReg rs)) :
    Calls Try.prog 25 #[.agg #[v, .int .i64 p], .int .i64 k, .bool odd, .agg #[.int .i64 q, .string t]] w fun e w' => NewOut w e w' [] 0 2 := by
  have hB := fun w hr => l16Code_s rs v p k w hr
  rw [stage_ok h ⟨by omega, by omega⟩ hp] at hB
  have hF := fun w => frameBytes_s q t w
  rw [hfb] at hF
  obtain ⟨A, cap, rfl, _⟩ := hr.form
  have hemp : (bs []).toList.isEmpty = true := by rw [Lib.toList_data]; rfl
  have hemp' : (bs []).toList = [] := by rw [Lib.toList_data]; rfl
  have HR := Lib.hid hr
  have HB := Lib.hid hB
  have HFB := Lib.hid hF
  clear hr hB h hp hF hfb
  go_enter Try.func25, Try.ntmps25
  go_wp2_with (first
    | (go_at_call 61; refine (HB.out _ (HR.out.later (by (repeat (first | (with_reducible refine bset ?_ (by first | (simp; done) | (simp; omega)) _) | (with_reducible refine balloc ?_ _) | (with_reducible refine bdrew ?_) | with_reducible exact Below.refl _ _ | (refine bthen ?_ (by with_reducible assumption)) | (refine bthen ?_ (by assumption)) | exact Below.refl _ _))))).use.mono ?_; rintro e w0 ⟨rfl, hb0⟩; (apply Blk.use (w := w0) (g := w.heap.size + 1 + 1); (focus (apply Blk.lat hb0; (repeat (first | with_reducible assumption | ((with_reducible apply Blk.new'); first | rfl | (simp; done)) | with_reducible apply Blk.set_ | (with_reducible apply Blk.far' (by first | (simp; done) | (simp; omega))) | with_reducible apply Blk.alloc | with_reducible apply Blk.drew)))); intro Z0; (try simp only [List.setIfInBounds_toArray, List.set_cons_zero, List.set_cons_succ] at Z0); have Z0c := Z0.cell; have Z0f := Z0.frozen; have Z0s := Z0.lt); (apply Blk.use (w := w0) (g := w.heap.size); (focus (apply Blk.lat hb0; (repeat (first | with_reducible assumption | ((with_reducible apply Blk.new'); first | rfl | (simp; done)) | with_reducible apply Blk.set_ | (with_reducible apply Blk.far' (by first | (simp; done) | (simp; omega))) | with_reducible apply Blk.alloc | with_reducible apply Blk.drew)))); intro D0; (try simp only [List.setIfInBounds_toArray, List.set_cons_zero, List.set_cons_succ] at D0); have D0c := D0.cell; have D0f := D0.frozen; have D0s := D0.lt); (apply Blk.use (w := w0) (g := w.heap.size + 1); (focus (apply Blk.lat hb0; (repeat (first | with_reducible assumption | ((with_reducible apply Blk.new'); first | rfl | (simp; done)) | with_reducible apply Blk.set_ | (with_reducible apply Blk.far' (by first | (simp; done) | (simp; omega))) | with_reducible apply Blk.alloc | with_reducible apply Blk.drew)))); intro F0; (try simp only [List.setIfInBounds_toArray, List.set_cons_zero, List.set_cons_succ] at F0); have F0c := F0.cell; have F0f := F0.frozen; have F0s := F0.lt))
    | (go_at_call 9; refine (HFB.out _).use.mono ?_; rintro e w2 ⟨rfl, hb2⟩; (apply Blk.use (w := w2) (g := w.heap.size + 1 + 1); (focus (apply Blk.lat hb2; (repeat (first | with_reducible assumption | ((with_reducible apply Blk.new'); first | rfl | (simp; done)) | with_reducible apply Blk.set_ | (with_reducible apply Blk.far' (by first | (simp; done) | (simp; omega))) | with_reducible apply Blk.alloc | with_reducible apply Blk.drew)))); intro Z2; (try simp only [List.setIfInBounds_toArray, List.set_cons_zero, List.set_cons_succ] at Z2); have Z2c := Z2.cell; have Z2f := Z2.frozen; have Z2s := Z2.lt)))
  exact bodyPost_ret (v := .agg #[.slice none 0 0, .int .i64 0, .int .i64 2]) (by simp [results, Try.results25, go_sem, Z2c, Z2f]) rfl ⟨none, 0, rfl, World.ownsRow_nil _ _ _ _, by (repeat (first | (with_reducible refine bset ?_ (by first | (simp; done) | (simp; omega)) _) | (with_reducible refine balloc ?_ _) | (with_reducible refine bdrew ?_) | with_reducible exact Below.refl _ _ | (refine bthen ?_ (by with_reducible assumption)) | (refine bthen ?_ (by assumption)) | exact Below.refl _ _))⟩
set_option maxRecDepth 100000 in
theorem slot_s_ill (rs : List Reg) (v : Value) (p r : Int) (odd : Bool) (q : Int) (t : ByteArray) (hs : stage rs p r ≠ 0) (w : World) (hr : Rd w 3 v rs.length (flat encReg rs)) :
    Calls Try.prog 25 #[.agg #[v, .int .i64 p], .int .i64 r, .bool odd, .agg #[.int .i64 q, .string t]] w fun e w' => NewOut w e w' (illRs rs (stage rs p r)) (illP p (stage rs p r)) (stage rs p r) := by
  have hB := fun w hr => l16Code_s rs v p r w hr
  have hI := fun w hr => l16Ill_s rs v p r w hr
  obtain ⟨A, cap, rfl, _⟩ := hr.form
  have HR := Lib.hid hr
  have HB := Lib.hid hB
  have HI := Lib.hid hI
  clear hr hB hI
  generalize illRs rs (stage rs p r) = rs' at *
  generalize illP p (stage rs p r) = p' at *
  generalize stage rs p r = c at *
  have hc : (c != 0) = true := by simpa using hs
  clear hs
  go_enter Try.func25, Try.ntmps25
  go_wp2_with (first
    | (go_at_call 61; refine (HB.out _ (HR.out.later (by (repeat (first | (with_reducible refine bset ?_ (by first | (simp; done) | (simp; omega)) _) | (with_reducible refine balloc ?_ _) | (with_reducible refine bdrew ?_) | with_reducible exact Below.refl _ _ | (refine bthen ?_ (by with_reducible assumption)) | (refine bthen ?_ (by assumption)) | exact Below.refl _ _))))).use.mono ?_; rintro e w0 ⟨rfl, hb0⟩; (apply Blk.use (w := w0) (g := w.heap.size + 1 + 1); (focus (apply Blk.lat hb0; (repeat (first | with_reducible assumption | ((with_reducible apply Blk.new'); first | rfl | (simp; done)) | with_reducible apply Blk.set_ | (with_reducible apply Blk.far' (by first | (simp; done) | (simp; omega))) | with_reducible apply Blk.alloc | with_reducible apply Blk.drew)))); intro Z0; (try simp only [List.setIfInBounds_toArray, List.set_cons_zero, List.set_cons_succ] at Z0); have Z0c := Z0.cell; have Z0f := Z0.frozen; have Z0s := Z0.lt); (apply Blk.use (w := w0) (g := w.heap.size); (focus (apply Blk.lat hb0; (repeat (first | with_reducible assumption | ((with_reducible apply Blk.new'); first | rfl | (simp; done)) | with_reducible apply Blk.set_ | (with_reducible apply Blk.far' (by first | (simp; done) | (simp; omega))) | with_reducible apply Blk.alloc | with_reducible apply Blk.drew)))); intro D0; (try simp only [List.setIfInBounds_toArray, List.set_cons_zero, List.set_cons_succ] at D0); have D0c := D0.cell; have D0f := D0.frozen; have D0s := D0.lt))
    | (go_at_call 62; refine (HI.out _ (HR.out.later (by (repeat (first | (with_reducible refine bset ?_ (by first | (simp; done) | (simp; omega)) _) | (with_reducible refine balloc ?_ _) | (with_reducible refine bdrew ?_) | with_reducible exact Below.refl _ _ | (refine bthen ?_ (by with_reducible assumption)) | (refine bthen ?_ (by assumption)) | exact Below.refl _ _))))).mono ?_; rintro e w1 ⟨A1, c1, rfl, ho1, hb1⟩; (apply Blk.use (w := w1) (g := w.heap.size + 1 + 1); (focus (apply Blk.lat hb1; (repeat (first | with_reducible assumption | ((with_reducible apply Blk.new'); first | rfl | (simp; done)) | with_reducible apply Blk.set_ | (with_reducible apply Blk.far' (by first | (simp; done) | (simp; omega))) | with_reducible apply Blk.alloc | with_reducible apply Blk.drew)))); intro Z1; (try simp only [List.setIfInBounds_toArray, List.set_cons_zero, List.set_cons_succ] at Z1); have Z1c := Z1.cell; have Z1f := Z1.frozen; have Z1s := Z1.lt); have hz0 := Z0.lt; clear Z0 Z0c Z0f D0 D0c D0f))
  refine bp_world ?_
  intro w9 hw9
  (apply Blk.use (w := w9) (g := w.heap.size + 1 + 1); (focus (rw [hw9]; (repeat (first | with_reducible assumption | ((with_reducible apply Blk.new'); first | rfl | (simp; done)) | with_reducible apply Blk.set_ | (with_reducible apply Blk.far' (by first | (simp; done) | (simp; omega))) | with_reducible apply Blk.alloc | with_reducible apply Blk.drew)))); intro Z9; (try simp only [List.setIfInBounds_toArray, List.set_cons_zero, List.set_cons_succ] at Z9); have Z9c := Z9.cell; have Z9f := Z9.frozen; have Z9s := Z9.lt)
  have O9 : w9.ownsRow w0.heap.size 57 3 (.slice A1 rs'.length c1) rs'.length (flat encReg rs') := by rw [hw9]; (repeat (first | with_reducible assumption | (with_reducible refine own_set ?_ (by first | (simp; done) | (simp; omega)) _) | (with_reducible refine own_alloc ?_ _)))
  have B9 : Below w.heap.size w w9 := by rw [hw9]; (repeat (first | (with_reducible refine bset ?_ (by first | (simp; done) | (simp; omega)) _) | (with_reducible refine balloc ?_ _) | (with_reducible refine bdrew ?_) | with_reducible exact Below.refl _ _ | (refine bthen ?_ (by with_reducible assumption)) | (refine bthen ?_ (by assumption)) | exact Below.refl _ _))
  clear hw9 HB HR Z1 Z1c Z1f hb1 ho1
  exact bodyPost_ret (v := .agg #[.slice A1 rs'.length c1, .int .i64 p', .int .i64 c]) (by simp [results, Try.results25, go_sem, Z9c]) rfl ⟨A1, c1, rfl, own_base O9 (by omega), B9⟩
theorem slot_s (rs : List Reg) (v : Value) (p r : Int) (odd : Bool) (q : Int) (t : ByteArray) (w : World) (hr : Rd w 3 v rs.length (flat encReg rs)) :
    Calls Try.prog 25 #[.agg #[v, .int .i64 p], .int .i64 r, .bool odd, .agg #[.int .i64 q, .string t]] w fun e w' => NewOut w e w' (slotOut rs p r odd (frameBytes q t.data.toList)).1 (slotOut rs p r odd (frameBytes q t.data.toList)).2.1 (slotOut rs p r odd (frameBytes q t.data.toList)).2.2 := by
  unfold slotOut
  by_cases h : stage rs p r = 0
  · obtain ⟨h1, h2, h3⟩ := stage_zero h
    obtain ⟨k, rfl⟩ := Int.eq_ofNat_of_zero_le h2.1
    rw [if_neg (by simpa using h)]
    by_cases hf : frameBytes q t.data.toList = []
    · rw [if_pos hf]
      exact slot_s_empty rs v p k odd q t (by omega) h1 h3 hf w hr
    · rw [if_neg hf]
      cases odd
      · exact slot_s_even rs v p k q t (by omega) h1 h3 hf w hr
      · exact slot_s_odd rs v p k q t (by omega) h1 h3 hf w hr
  · rw [if_pos h]
    exact slot_s_ill rs v p r odd q t h w hr

end Go.Proofs.Ytnehiflandjkoaa
