import Derived.Test.YtnehiflandjkoaaD3
set_option linter.unusedSimpArgs false
set_option linter.unusedVariables false
namespace Go.Proofs.Ytnehiflandjkoaa
open Go.RowKit M

theorem reg_max {rs : List Reg} {p : Int} {x : Reg} (h : diskOk rs p = true) (hx : x ∈ rs) : x.1.size ≤ maxLen ∧ x.2.1.size ≤ maxLen := by
  have := reg_le h hx
  unfold maxLen
  omega
set_option maxRecDepth 100000 in
set_option maxHeartbeats 1000000 in
theorem slotOf_i_ok (rs : List Reg) (v : Value) (p : Int) (k : Nat) (seq : Int) (hk : k < rs.length) (h : diskOk rs p = true) (w : World) (hr : Rd w 3 v rs.length (flat encReg rs)) :
    Gives Try.prog 35 #[.agg #[v, .int .i64 p], .int .i64 k, .int .i64 seq] w (encFO (ofFO (ofReg (rs.getD k noReg) seq))) := by
  unfold Gives
  have hD := fun w hr => diskRight_i rs v p w hr
  have hl := diskOk_len' h
  obtain ⟨x, hx, hxd, hxm⟩ := reg_at hk
  have hle := reg_max h hxm
  rw [h] at hD
  rw [hxd]
  have hS := fun w => slotOf_i x seq hle.1 hle.2 w
  obtain ⟨A, cap, rfl, hn, hcap, hform⟩ := hr.form
  obtain ⟨b, off, rfl, hcells⟩ := hform (by omega)
  have hW : ∀ w, Gives Try.prog 65 #[.int .i64 k, .int .i64 0, .int .i64 (rs.length - 1)] w (.bool true) := fun w => by
    have h := within_i k 0 (rs.length - 1) w
    rwa [show (decide ((0 : Int) ≤ k) && decide ((k : Int) ≤ rs.length - 1)) = true by simp; omega] at h
  have e0 : (flat encReg rs)[k * 3 + 0]? = some (.string x.1) := by rw [flat_get encReg_len rs k 0 x hx (by omega)]; rfl
  have e1 : (flat encReg rs)[k * 3 + 1]? = some (.string x.2.1) := by rw [flat_get encReg_len rs k 1 x hx (by omega)]; rfl
  have e2 : (flat encReg rs)[k * 3 + 2]? = some (.string x.2.2) := by rw [flat_get encReg_len rs k 2 x hx (by omega)]; rfl
  have c0 := hcells _ _ e0
  have c1 := hcells _ _ e1
  have c2 := hcells _ _ e2
  rw [Nat.add_zero] at c0
  rw [← Nat.add_assoc] at c1 c2
  have hbl : b < w.heap.size := World.block_lt_of_cell? w _ c0
  have HC : Hid (∀ w', Below w.heap.size w w' → w'.cell? ⟨b, off + k * 3, none⟩ = some (.string x.1) ∧ w'.cell? ⟨b, off + k * 3 + 1, none⟩ = some (.string x.2.1) ∧ w'.cell? ⟨b, off + k * 3 + 2, none⟩ = some (.string x.2.2)) :=
    Lib.hid fun w' hb => ⟨by rw [(bcell hb).1 _ _ hbl]; exact c0, by rw [(bcell hb).1 _ _ hbl]; exact c1, by rw [(bcell hb).1 _ _ hbl]; exact c2⟩
  have i1 : (k : Int) < rs.length := by omega
  have HR := Lib.hid hr
  have HD := Lib.hid hD
  generalize ofReg x seq = y at *
  obtain ⟨yq, yt, yb⟩ := y
  dsimp only at hS
  have HS := Lib.hid hS
  clear hr h hD hform hcells e0 e1 e2 c0 c1 c2 hx hxd hxm hS hle
  have HV := Lib.hid (show encFO (ofFO (yq, yt, yb)) = if yb = true then .agg #[.int .i64 yq, .string (bs yt), .int .i64 0, .int .i64 0] else .agg #[.int .i64 0, .string (bs []), .int .i64 0, .int .i64 6] by unfold ofFO encFO; cases yb <;> rfl)
  cases yb
  all_goals
    go_enter Try.func35, Try.ntmps35
    go_wp2_with (first
      | (go_at_call 29; refine (HD.out _ (HR.out.later (by (repeat (first | (with_reducible refine bset ?_ (by first | (simp; done) | (simp; omega)) _) | (with_reducible refine balloc ?_ _) | (with_reducible refine bdrew ?_) | with_reducible exact Below.refl _ _ | (refine bthen ?_ (by with_reducible assumption)) | (refine bthen ?_ (by assumption)) | exact Below.refl _ _))))).use.mono ?_; rintro e w1 ⟨rfl, hb1⟩; (apply Blk.use (w := w1) (g := w.heap.size + 1); (focus (apply Blk.lat hb1; (repeat (first | with_reducible assumption | ((with_reducible apply Blk.new'); first | rfl | (simp; done)) | with_reducible apply Blk.set_ | (with_reducible apply Blk.far' (by first | (simp; done) | (simp; omega))) | with_reducible apply Blk.alloc | with_reducible apply Blk.drew)))); intro Z1; (try simp only [List.setIfInBounds_toArray, List.set_cons_zero, List.set_cons_succ] at Z1); have Z1c := Z1.cell; have Z1f := Z1.frozen; have Z1s := Z1.lt); (apply Blk.use (w := w1) (g := w.heap.size); (focus (apply Blk.lat hb1; (repeat (first | with_reducible assumption | ((with_reducible apply Blk.new'); first | rfl | (simp; done)) | with_reducible apply Blk.set_ | (with_reducible apply Blk.far' (by first | (simp; done) | (simp; omega))) | with_reducible apply Blk.alloc | with_reducible apply Blk.drew)))); intro D1; (try simp only [List.setIfInBounds_toArray, List.set_cons_zero, List.set_cons_succ] at D1); have D1c := D1.cell; have D1f := D1.frozen; have D1s := D1.lt); have BB1 : Below w.heap.size w w1 := (by (repeat (first | (with_reducible refine bset ?_ (by first | (simp; done) | (simp; omega)) _) | (with_reducible refine balloc ?_ _) | (with_reducible refine bdrew ?_) | with_reducible exact Below.refl _ _ | (refine bthen ?_ (by with_reducible assumption)) | (refine bthen ?_ (by assumption)) | exact Below.refl _ _))))
      | (go_at_call 65; refine (hW _).use.mono ?_; rintro e w2 ⟨rfl, hb2⟩; (apply Blk.use (w := w2) (g := w.heap.size + 1); (focus (apply Blk.lat hb2; (repeat (first | with_reducible assumption | ((with_reducible apply Blk.new'); first | rfl | (simp; done)) | with_reducible apply Blk.set_ | (with_reducible apply Blk.far' (by first | (simp; done) | (simp; omega))) | with_reducible apply Blk.alloc | with_reducible apply Blk.drew)))); intro Z2; (try simp only [List.setIfInBounds_toArray, List.set_cons_zero, List.set_cons_succ] at Z2); have Z2c := Z2.cell; have Z2f := Z2.frozen; have Z2s := Z2.lt); (apply Blk.use (w := w2) (g := w.heap.size); (focus (apply Blk.lat hb2; (repeat (first | with_reducible assumption | ((with_reducible apply Blk.new'); first | rfl | (simp; done)) | with_reducible apply Blk.set_ | (with_reducible apply Blk.far' (by first | (simp; done) | (simp; omega))) | with_reducible apply Blk.alloc | with_reducible apply Blk.drew)))); intro D2; (try simp only [List.setIfInBounds_toArray, List.set_cons_zero, List.set_cons_succ] at D2); have D2c := D2.cell; have D2f := D2.frozen; have D2s := D2.lt); have BB2 : Below w.heap.size w w2 := (by (repeat (first | (with_reducible refine bset ?_ (by first | (simp; done) | (simp; omega)) _) | (with_reducible refine balloc ?_ _) | (with_reducible refine bdrew ?_) | with_reducible exact Below.refl _ _ | (refine bthen ?_ (by with_reducible assumption)) | (refine bthen ?_ (by assumption)) | exact Below.refl _ _))); obtain ⟨o0, o1, o2⟩ := HC.out w2 BB2; clear Z1 Z1c Z1f D1 D1c D1f hb1 hb2)
      | (go_at_call 71; refine (HS.out _).use.mono ?_; rintro e w3 ⟨rfl, hb3⟩; (apply Blk.use (w := w3) (g := w.heap.size + 1); (focus (apply Blk.lat hb3; (repeat (first | with_reducible assumption | ((with_reducible apply Blk.new'); first | rfl | (simp; done)) | with_reducible apply Blk.set_ | (with_reducible apply Blk.far' (by first | (simp; done) | (simp; omega))) | with_reducible apply Blk.alloc | with_reducible apply Blk.drew)))); intro Z3; (try simp only [List.setIfInBounds_toArray, List.set_cons_zero, List.set_cons_succ] at Z3); have Z3c := Z3.cell; have Z3f := Z3.frozen; have Z3s := Z3.lt); have BB3 : Below w.heap.size w w3 := (by (repeat (first | (with_reducible refine bset ?_ (by first | (simp; done) | (simp; omega)) _) | (with_reducible refine balloc ?_ _) | (with_reducible refine bdrew ?_) | with_reducible exact Below.refl _ _ | (refine bthen ?_ (by with_reducible assumption)) | (refine bthen ?_ (by assumption)) | exact Below.refl _ _))); clear Z2 Z2c Z2f D2 D2c D2f hb3 o0 o1 o2))
    refine bp_world ?_
    intro w9 hw9
    (apply Blk.use (w := w9) (g := w.heap.size + 1); (focus (rw [hw9]; (repeat (first | with_reducible assumption | ((with_reducible apply Blk.new'); first | rfl | (simp; done)) | with_reducible apply Blk.set_ | (with_reducible apply Blk.far' (by first | (simp; done) | (simp; omega))) | with_reducible apply Blk.alloc | with_reducible apply Blk.drew)))); intro Z9; (try simp only [List.setIfInBounds_toArray, List.set_cons_zero, List.set_cons_succ] at Z9); have Z9c := Z9.cell; have Z9f := Z9.frozen; have Z9s := Z9.lt)
    have B9 : Below w.heap.size w w9 := by rw [hw9]; (repeat (first | (with_reducible refine bset ?_ (by first | (simp; done) | (simp; omega)) _) | (with_reducible refine balloc ?_ _) | (with_reducible refine bdrew ?_) | with_reducible exact Below.refl _ _ | (refine bthen ?_ (by with_reducible assumption)) | (refine bthen ?_ (by assumption)) | exact Below.refl _ _))
    clear hw9 Z3 Z3c Z3f
  · exact bodyPost_ret (v := .agg #[.int .i64 0, .string (bs []), .int .i64 0, .int .i64 6]) (by simp [results, Try.results35, go_sem, Z9c]; rfl) rfl ⟨by rw [HV.out]; rfl, B9⟩
  · exact bodyPost_ret (v := .agg #[.int .i64 yq, .string (bs yt), .int .i64 0, .int .i64 0]) (by simp [results, Try.results35, go_sem, Z9c]) rfl ⟨by rw [HV.out]; rfl, B9⟩
set_option maxRecDepth 100000 in
theorem slotOf_i_no (rs : List Reg) (v : Value) (p r seq : Int) (h : diskOk rs p = true) (hq : ¬ (0 ≤ r ∧ r < rs.length)) (w : World) (hr : Rd w 3 v rs.length (flat encReg rs)) :
    Gives Try.prog 35 #[.agg #[v, .int .i64 p], .int .i64 r, .int .i64 seq] w (encFO (0, [], 0, 6)) := by
  unfold Gives
  have hD := fun w hr => diskRight_i rs v p w hr
  have hl := diskOk_len' h
  rw [h] at hD
  obtain ⟨A, cap, rfl, _⟩ := hr.form
  have hW : ∀ w, Gives Try.prog 65 #[.int .i64 r, .int .i64 0, .int .i64 (rs.length - 1)] w (.bool false) := fun w => by
    have h := within_i r 0 (rs.length - 1) w
    rwa [show (decide ((0 : Int) ≤ r) && decide (r ≤ rs.length - 1)) = false by rw [Bool.eq_false_iff]; simp; omega] at h
  have HR := Lib.hid hr
  have HD := Lib.hid hD
  clear hr h hD hq
  go_enter Try.func35, Try.ntmps35
  go_wp2_with (first
    | (go_at_call 29; refine (HD.out _ (HR.out.later (by (repeat (first | (with_reducible refine bset ?_ (by first | (simp; done) | (simp; omega)) _) | (with_reducible refine balloc ?_ _) | (with_reducible refine bdrew ?_) | with_reducible exact Below.refl _ _ | (refine bthen ?_ (by with_reducible assumption)) | (refine bthen ?_ (by assumption)) | exact Below.refl _ _))))).use.mono ?_; rintro e w1 ⟨rfl, hb1⟩; (apply Blk.use (w := w1) (g := w.heap.size + 1); (focus (apply Blk.lat hb1; (repeat (first | with_reducible assumption | ((with_reducible apply Blk.new'); first | rfl | (simp; done)) | with_reducible apply Blk.set_ | (with_reducible apply Blk.far' (by first | (simp; done) | (simp; omega))) | with_reducible apply Blk.alloc | with_reducible apply Blk.drew)))); intro Z1; (try simp only [List.setIfInBounds_toArray, List.set_cons_zero, List.set_cons_succ] at Z1); have Z1c := Z1.cell; have Z1f := Z1.frozen; have Z1s := Z1.lt); (apply Blk.use (w := w1) (g := w.heap.size); (focus (apply Blk.lat hb1; (repeat (first | with_reducible assumption | ((with_reducible apply Blk.new'); first | rfl | (simp; done)) | with_reducible apply Blk.set_ | (with_reducible apply Blk.far' (by first | (simp; done) | (simp; omega))) | with_reducible apply Blk.alloc | with_reducible apply Blk.drew)))); intro D1; (try simp only [List.setIfInBounds_toArray, List.set_cons_zero, List.set_cons_succ] at D1); have D1c := D1.cell; have D1f := D1.frozen; have D1s := D1.lt))
    | (go_at_call 65; refine (hW _).use.mono ?_; rintro e w2 ⟨rfl, hb2⟩; (apply Blk.use (w := w2) (g := w.heap.size + 1); (focus (apply Blk.lat hb2; (repeat (first | with_reducible assumption | ((with_reducible apply Blk.new'); first | rfl | (simp; done)) | with_reducible apply Blk.set_ | (with_reducible apply Blk.far' (by first | (simp; done) | (simp; omega))) | with_reducible apply Blk.alloc | with_reducible apply Blk.drew)))); intro Z2; (try simp only [List.setIfInBounds_toArray, List.set_cons_zero, List.set_cons_succ] at Z2); have Z2c := Z2.cell; have Z2f := Z2.frozen; have Z2s := Z2.lt)))
  exact bodyPost_ret (v := .agg #[.int .i64 0, .string (bs []), .int .i64 0, .int .i64 6]) (by simp [results, Try.results35, go_sem, Z2c, Z2f]; rfl) rfl ⟨rfl, by (repeat (first | (with_reducible refine bset ?_ (by first | (simp; done) | (simp; omega)) _) | (with_reducible refine balloc ?_ _) | (with_reducible refine bdrew ?_) | with_reducible exact Below.refl _ _ | (refine bthen ?_ (by with_reducible assumption)) | (refine bthen ?_ (by assumption)) | exact Below.refl _ _))⟩
set_option maxRecDepth 100000 in
theorem slotOf_i_bad (rs : List Reg) (v : Value) (p r seq : Int) (h : diskOk rs p = false) (w : World) (hr : Rd w 3 v rs.length (flat encReg rs)) :
    Gives Try.prog 35 #[.agg #[v, .int .i64 p], .int .i64 r, .int .i64 seq] w (encFO (0, [], 0, 1)) := by
  unfold Gives
  have hD := fun w hr => diskRight_i rs v p w hr
  rw [h] at hD
  obtain ⟨A, cap, rfl, _⟩ := hr.form
  have HR := Lib.hid hr
  have HD := Lib.hid hD
  clear hr h hD
  go_enter Try.func35, Try.ntmps35
  go_wp2_with (go_at_call 29; refine (HD.out _ (HR.out.later (by (repeat (first | (with_reducible refine bset ?_ (by first | (simp; done) | (simp; omega)) _) | (with_reducible refine balloc ?_ _) | (with_reducible refine bdrew ?_) | with_reducible exact Below.refl _ _ | (refine bthen ?_ (by with_reducible assumption)) | (refine bthen ?_ (by assumption)) | exact Below.refl _ _))))).use.mono ?_; rintro e w1 ⟨rfl, hb1⟩; (apply Blk.use (w := w1) (g := w.heap.size + 1); (focus (apply Blk.lat hb1; (repeat (first | with_reducible assumption | ((with_reducible apply Blk.new'); first | rfl | (simp; done)) | with_reducible apply Blk.set_ | (with_reducible apply Blk.far' (by first | (simp; done) | (simp; omega))) | with_reducible apply Blk.alloc | with_reducible apply Blk.drew)))); intro Z1; (try simp only [List.setIfInBounds_toArray, List.set_cons_zero, List.set_cons_succ] at Z1); have Z1c := Z1.cell; have Z1f := Z1.frozen; have Z1s := Z1.lt))
  exact bodyPost_ret (v := .agg #[.int .i64 0, .string (bs []), .int .i64 0, .int .i64 1]) (by simp [results, Try.results35, go_sem, Z1c, Z1f]; rfl) rfl ⟨rfl, by (repeat (first | (with_reducible refine bset ?_ (by first | (simp; done) | (simp; omega)) _) | (with_reducible refine balloc ?_ _) | (with_reducible refine bdrew ?_) | with_reducible exact Below.refl _ _ | (refine bthen ?_ (by with_reducible assumption)) | (refine bthen ?_ (by assumption)) | exact Below.refl _ _))⟩
theorem slotOfAll_i (rs : List Reg) (v : Value) (p r seq : Int) (w : World) (hr : Rd w 3 v rs.length (flat encReg rs)) :
    Gives Try.prog 35 #[.agg #[v, .int .i64 p], .int .i64 r, .int .i64 seq] w (encFO (slotOfOut rs p r seq)) := by
  unfold slotOfOut
  cases h : diskOk rs p
  · rw [if_pos rfl]; exact slotOf_i_bad rs v p r seq h w hr
  · rw [if_neg (by simp)]
    by_cases hq : 0 ≤ r ∧ r < rs.length
    · rw [if_pos hq]
      obtain ⟨k, rfl⟩ := Int.eq_ofNat_of_zero_le hq.1
      exact slotOf_i_ok rs v p k seq (by omega) h w hr
    · rw [if_neg hq]; exact slotOf_i_no rs v p r seq h hq w hr

end Go.Proofs.Ytnehiflandjkoaa
