import Derived.Test.YtnehiflandjkoaaD2
import Derived.Test.YtnehiflandjkoaaCA
set_option linter.unusedSimpArgs false
set_option linter.unusedVariables false
namespace Go.Proofs.Ytnehiflandjkoaa
open Go.RowKit M
namespace M
def ofFO (x : Int × Bs × Bool) : FrameOut := if x.2.2 = true then (x.1, x.2.1, 0, 0) else (0, [], 0, 6)
def slotOfOut (rs : List Reg) (p r seq : Int) : FrameOut := if diskOk rs p = false then (0, [], 0, 1) else if 0 ≤ r ∧ r < rs.length then ofFO (ofReg (rs.getD r.toNat noReg) seq) else (0, [], 0, 6)
end M
theorem slotFO_held (t : Bs) : ((slotFO t).2.2.2 = 0 ∧ (heldOf t).2.2 = true ∧ (slotFO t).1 = (heldOf t).1 ∧ (slotFO t).2.1 = (heldOf t).2.1) ∨ ((slotFO t).2.2.2 ≠ 0 ∧ (heldOf t).2.2 = false) := by
  unfold slotFO heldOf
  by_cases hc : (frameRead t 0).2.2.2 = 0
  · by_cases hz : (frameRead t 0).2.2.1 = t.length
    · left; simp [hc, hz]
    · right; simp [hc, hz]
  · right; simp [hc]
/-- how a slot stands to a number, in the reference's words -/
theorem slot_cases (t : Bs) (seq : Int) : ((slotFO t).2.2.2 = 0 ∧ (slotFO t).1 = seq ∧ (((heldOf t).2.2 && (heldOf t).1 == seq) = true) ∧ (slotFO t).1 = (heldOf t).1 ∧ (slotFO t).2.1 = (heldOf t).2.1) ∨
    ((slotFO t).2.2.2 ≠ 0 ∧ ((heldOf t).2.2 && (heldOf t).1 == seq) = false) ∨ ((slotFO t).2.2.2 = 0 ∧ (slotFO t).1 ≠ seq ∧ ((heldOf t).2.2 && (heldOf t).1 == seq) = false) := by
  rcases slotFO_held t with ⟨h1, h2, h3, h4⟩ | ⟨h1, h2⟩
  · by_cases hq : (slotFO t).1 = seq
    · left; exact ⟨h1, hq, by rw [h2, ← h3, hq]; simp, h3, h4⟩
    · right; right; exact ⟨h1, hq, by rw [h2, ← h3]; simpa using hq⟩
  · right; left; exact ⟨h1, by rw [h2]; rfl⟩

theorem ofFO_ofReg (x : Reg) (seq : Int) : ofFO (ofReg x seq) = if okAt x seq 0 = true then ((heldOf (pick x 0).data.toList).1, (heldOf (pick x 0).data.toList).2.1, 0, 0) else if okAt x seq 1 = true then ((heldOf (pick x 1).data.toList).1, (heldOf (pick x 1).data.toList).2.1, 0, 0) else (0, [], 0, 6) := by
  unfold ofReg
  by_cases h0 : okAt x seq 0 = true
  · rw [if_pos h0, if_pos h0]; rfl
  · rw [if_neg h0, if_neg h0]
    by_cases h1 : okAt x seq 1 = true
    · rw [if_pos h1, if_pos h1]; rfl
    · rw [if_neg h1, if_neg h1]; rfl
set_option maxRecDepth 100000 in
set_option maxHeartbeats 4000000 in
theorem l16Of_s (rs : List Reg) (v : Value) (p : Int) (k : Nat) (seq : Int) (x : Reg) (hx : rs[k]? = some x) (h1 : x.1.size ≤ maxLen) (h2 : x.2.1.size ≤ maxLen) (w : World) (hr : Rd w 3 v rs.length (flat encReg rs)) :
    Gives Try.prog 73 #[.agg #[v, .int .i64 p], .int .i64 k, .int .i64 seq] w (encFO (ofFO (ofReg x seq))) := by
  unfold Gives
  have hk : k < rs.length := (List.getElem?_eq_some_iff.1 hx).1
  obtain ⟨A, cap, rfl, hn, hcap, hform⟩ := hr.form
  obtain ⟨b, off, rfl, hcells⟩ := hform (by omega)
  have e0 : (flat encReg rs)[k * 3 + 0]? = some (.string x.1) := by rw [flat_get encReg_len rs k 0 x hx (by omega)]; rfl
  have e1 : (flat encReg rs)[k * 3 + 1]? = some (.string x.2.1) := by rw [flat_get encReg_len rs k 1 x hx (by omega)]; rfl
  have c0 := hcells _ _ e0
  have c1 := hcells _ _ e1
  rw [Nat.add_zero] at c0
  rw [← Nat.add_assoc] at c1
  have hbl : b < w.heap.size := World.block_lt_of_cell? w _ c0
  have HC1 : Hid (∀ w', Below w.heap.size w w' → w'.cell? ⟨b, off + k * 3 + 1, none⟩ = some (.string x.2.1)) := Lib.hid fun w' hb => by rw [(bcell hb).1 _ _ hbl]; exact c1
  have i1 : (k : Int) < rs.length := by omega
  have hE := fun w => l16Slot_s x.1 h1 w
  have hO := fun w => l16Slot_s x.2.1 h2 w
  have sE := slot_cases x.1.data.toList seq
  have sO := slot_cases x.2.1.data.toList seq
  obtain ⟨R, hR⟩ : ∃ R, ofFO (ofReg x seq) = R := ⟨_, rfl⟩
  rw [hR]
  have hof : ofFO (ofReg x seq) = if ((heldOf x.1.data.toList).2.2 && (heldOf x.1.data.toList).1 == seq) = true then ((heldOf x.1.data.toList).1, (heldOf x.1.data.toList).2.1, 0, 0) else if ((heldOf x.2.1.data.toList).2.2 && (heldOf x.2.1.data.toList).1 == seq) = true then ((heldOf x.2.1.data.toList).1, (heldOf x.2.1.data.toList).2.1, 0, 0) else (0, [], 0, 6) := by
    exact ofFO_ofReg x seq
  rw [hR] at hof
  clear hR hr hform hcells e0 e1 hx
  generalize heldOf x.1.data.toList = gE at *
  generalize heldOf x.2.1.data.toList = gO at *
  rcases hve : slotFO x.1.data.toList with ⟨qe, xe, ze, ce⟩
  rcases hvo : slotFO x.2.1.data.toList with ⟨qo, xo, zo, co⟩
  rw [hve] at hE sE
  rw [hvo] at hO sO
  clear hve hvo
  unfold encFO at hE hO
  dsimp only at hE hO sE sO
  have HE := Lib.hid hE
  have HO := Lib.hid hO
  have HOf := Lib.hid hof
  clear hE hO hof c1 h1 h2
  rcases sE with ⟨rfl, rfl, a3, a4, a5⟩ | sE
  · have HR : Hid (R = (qe, xe, 0, 0)) := Lib.hid (by rw [HOf.out, if_pos a3, ← a4, ← a5])
    have t1 : (qe != qe) = false := by simp
    clear HOf sO a3 a4 a5
    go_enter Try.func73, Try.ntmps73
    go_wp2_with (go_at_call 72; with_reducible refine (HE.out _).use.mono ?_; rintro e w1 ⟨rfl, hb1⟩; (apply Blk.use (w := w1) (g := w.heap.size + 1); (focus (apply Blk.lat hb1; (repeat (first | with_reducible assumption | ((with_reducible apply Blk.new'); first | rfl | (simp; done)) | with_reducible apply Blk.set_ | (with_reducible apply Blk.far' (by first | (simp; done) | (simp; omega))) | with_reducible apply Blk.alloc | with_reducible apply Blk.drew)))); intro Z1; (try simp only [List.setIfInBounds_toArray, List.set_cons_zero, List.set_cons_succ] at Z1); have Z1c := Z1.cell; have Z1f := Z1.frozen; have Z1s := Z1.lt))
    refine bp_world ?_
    intro w9 hw9
    (apply Blk.use (w := w9) (g := w.heap.size + 1); (focus (rw [hw9]; (repeat (first | with_reducible assumption | ((with_reducible apply Blk.new'); first | rfl | (simp; done)) | with_reducible apply Blk.set_ | (with_reducible apply Blk.far' (by first | (simp; done) | (simp; omega))) | with_reducible apply Blk.alloc | with_reducible apply Blk.drew)))); intro Z9; (try simp only [List.setIfInBounds_toArray, List.set_cons_zero, List.set_cons_succ] at Z9); have Z9c := Z9.cell; have Z9f := Z9.frozen; have Z9s := Z9.lt)
    have B9 : Below w.heap.size w w9 := by rw [hw9]; (repeat (first | (with_reducible refine bset ?_ (by first | (simp; done) | (simp; omega)) _) | (with_reducible refine balloc ?_ _) | (with_reducible refine bdrew ?_) | with_reducible exact Below.refl _ _ | (refine bthen ?_ (by with_reducible assumption)) | (refine bthen ?_ (by assumption)) | exact Below.refl _ _))
    clear hw9 Z1 Z1c Z1f
    exact bodyPost_ret (v := .agg #[.int .i64 qe, .string (bs xe), .int .i64 0, .int .i64 0]) (by simp [results, Try.results73, go_sem, Z9c]) rfl ⟨by rw [HR.out]; rfl, B9⟩
  · have hne : (gE.2.2 && gE.1 == seq) = false := by rcases sE with ⟨_, h⟩ | ⟨_, _, h⟩ <;> exact h
    have hE' : (ce != 0) = true ∨ ((ce != 0) = false ∧ (qe != seq) = true) := by
      rcases sE with ⟨h, _⟩ | ⟨h, h', _⟩
      · left; simpa using h
      · right; simp [h, h']
    have hO' : ((co != 0) = false ∧ (qo != seq) = false ∧ R = (qo, xo, 0, 0)) ∨ (((co != 0) = true ∨ ((co != 0) = false ∧ (qo != seq) = true)) ∧ R = (0, [], 0, 6)) := by
      rcases sO with ⟨h1, h2, h3, h4, h5⟩ | ⟨h1, h2⟩ | ⟨h1, h2, h3⟩
      · left
        refine ⟨by simpa using h1, by simpa using h2, ?_⟩
        rw [HOf.out, if_neg (by rw [hne]; simp), if_pos h3, ← h4, ← h5]
      · right
        refine ⟨.inl (by simpa using h1), ?_⟩
        rw [HOf.out, if_neg (by rw [hne]; simp), if_neg (by rw [h2]; simp)]
      · right
        refine ⟨.inr ⟨by simpa using h1, by simpa using h2⟩, ?_⟩
        rw [HOf.out, if_neg (by rw [hne]; simp), if_neg (by rw [h3]; simp)]
    clear HOf sE sO hne
    rcases hO' with ⟨o1, o2, hR⟩ | ⟨hO', hR⟩
    · have HR := Lib.hid hR
      clear hR
      have co0 : co = 0 := by simpa using o1
      rcases hE' with a1 | ⟨a1, a2⟩
      all_goals
        go_enter Try.func73, Try.ntmps73
        go_wp2_with (first
          | (go_at_call 72; with_reducible refine (HE.out _).use.mono ?_; rintro e w1 ⟨rfl, hb1⟩; (apply Blk.use (w := w1) (g := w.heap.size + 1); (focus (apply Blk.lat hb1; (repeat (first | with_reducible assumption | ((with_reducible apply Blk.new'); first | rfl | (simp; done)) | with_reducible apply Blk.set_ | (with_reducible apply Blk.far' (by first | (simp; done) | (simp; omega))) | with_reducible apply Blk.alloc | with_reducible apply Blk.drew)))); intro Z1; (try simp only [List.setIfInBounds_toArray, List.set_cons_zero, List.set_cons_succ] at Z1); have Z1c := Z1.cell; have Z1f := Z1.frozen; have Z1s := Z1.lt); (apply Blk.use (w := w1) (g := w.heap.size); (focus (apply Blk.lat hb1; (repeat (first | with_reducible assumption | ((with_reducible apply Blk.new'); first | rfl | (simp; done)) | with_reducible apply Blk.set_ | (with_reducible apply Blk.far' (by first | (simp; done) | (simp; omega))) | with_reducible apply Blk.alloc | with_reducible apply Blk.drew)))); intro D1; (try simp only [List.setIfInBounds_toArray, List.set_cons_zero, List.set_cons_succ] at D1); have D1c := D1.cell; have D1f := D1.frozen; have D1s := D1.lt); have BB1 : Below w.heap.size w w1 := (by (repeat (first | (with_reducible refine bset ?_ (by first | (simp; done) | (simp; omega)) _) | (with_reducible refine balloc ?_ _) | (with_reducible refine bdrew ?_) | with_reducible exact Below.refl _ _ | (refine bthen ?_ (by with_reducible assumption)) | (refine bthen ?_ (by assumption)) | exact Below.refl _ _))); have o3 := HC1.out w1 BB1; have hbl1 : b < w1.heap.size := Nat.lt_of_lt_of_le hbl BB1.size)
          | (go_at_call 72; with_reducible refine (HO.out _).use.mono ?_; rintro e w2 ⟨rfl, hb2⟩; (apply Blk.use (w := w2) (g := w.heap.size + 1); (focus (apply Blk.lat hb2; (repeat (first | with_reducible assumption | ((with_reducible apply Blk.new'); first | rfl | (simp; done)) | with_reducible apply Blk.set_ | (with_reducible apply Blk.far' (by first | (simp; done) | (simp; omega))) | with_reducible apply Blk.alloc | with_reducible apply Blk.drew)))); intro Z2; (try simp only [List.setIfInBounds_toArray, List.set_cons_zero, List.set_cons_succ] at Z2); have Z2c := Z2.cell; have Z2f := Z2.frozen; have Z2s := Z2.lt); (apply Blk.use (w := w2) (g := w1.heap.size); (focus (apply Blk.lat hb2; (repeat (first | with_reducible assumption | ((with_reducible apply Blk.new'); first | rfl | (simp; done)) | with_reducible apply Blk.set_ | (with_reducible apply Blk.far' (by first | (simp; done) | (simp; omega))) | with_reducible apply Blk.alloc | with_reducible apply Blk.drew)))); intro U2; (try simp only [List.setIfInBounds_toArray, List.set_cons_zero, List.set_cons_succ] at U2); have U2c := U2.cell; have U2f := U2.frozen; have U2s := U2.lt)))
        refine bp_world ?_
        intro w9 hw9
        (apply Blk.use (w := w9) (g := w.heap.size + 1); (focus (rw [hw9]; (repeat (first | with_reducible assumption | ((with_reducible apply Blk.new'); first | rfl | (simp; done)) | with_reducible apply Blk.set_ | (with_reducible apply Blk.far' (by first | (simp; done) | (simp; omega))) | with_reducible apply Blk.alloc | with_reducible apply Blk.drew)))); intro Z9; (try simp only [List.setIfInBounds_toArray, List.set_cons_zero, List.set_cons_succ] at Z9); have Z9c := Z9.cell; have Z9f := Z9.frozen; have Z9s := Z9.lt)
        have B9 : Below w.heap.size w w9 := by rw [hw9]; (repeat (first | (with_reducible refine bset ?_ (by first | (simp; done) | (simp; omega)) _) | (with_reducible refine balloc ?_ _) | (with_reducible refine bdrew ?_) | with_reducible exact Below.refl _ _ | (refine bthen ?_ (by with_reducible assumption)) | (refine bthen ?_ (by assumption)) | exact Below.refl _ _))
        clear hw9 Z1 Z1c Z1f D1 D1c D1f Z2 Z2c Z2f U2 U2c U2f
        exact bodyPost_ret (v := .agg #[.int .i64 qo, .string (bs xo), .int .i64 0, .int .i64 0]) (by simp [results, Try.results73, go_sem, Z9c]) rfl ⟨by rw [HR.out]; rfl, B9⟩
    · have HR := Lib.hid hR
      clear hR
      rcases hE' with a1 | ⟨a1, a2⟩
      all_goals rcases hO' with o1 | ⟨o1, o2⟩
      all_goals
        go_enter Try.func73, Try.ntmps73
        go_wp2_with (first
          | (go_at_call 72; with_reducible refine (HE.out _).use.mono ?_; rintro e w1 ⟨rfl, hb1⟩; (apply Blk.use (w := w1) (g := w.heap.size + 1); (focus (apply Blk.lat hb1; (repeat (first | with_reducible assumption | ((with_reducible apply Blk.new'); first | rfl | (simp; done)) | with_reducible apply Blk.set_ | (with_reducible apply Blk.far' (by first | (simp; done) | (simp; omega))) | with_reducible apply Blk.alloc | with_reducible apply Blk.drew)))); intro Z1; (try simp only [List.setIfInBounds_toArray, List.set_cons_zero, List.set_cons_succ] at Z1); have Z1c := Z1.cell; have Z1f := Z1.frozen; have Z1s := Z1.lt); (apply Blk.use (w := w1) (g := w.heap.size); (focus (apply Blk.lat hb1; (repeat (first | with_reducible assumption | ((with_reducible apply Blk.new'); first | rfl | (simp; done)) | with_reducible apply Blk.set_ | (with_reducible apply Blk.far' (by first | (simp; done) | (simp; omega))) | with_reducible apply Blk.alloc | with_reducible apply Blk.drew)))); intro D1; (try simp only [List.setIfInBounds_toArray, List.set_cons_zero, List.set_cons_succ] at D1); have D1c := D1.cell; have D1f := D1.frozen; have D1s := D1.lt); have BB1 : Below w.heap.size w w1 := (by (repeat (first | (with_reducible refine bset ?_ (by first | (simp; done) | (simp; omega)) _) | (with_reducible refine balloc ?_ _) | (with_reducible refine bdrew ?_) | with_reducible exact Below.refl _ _ | (refine bthen ?_ (by with_reducible assumption)) | (refine bthen ?_ (by assumption)) | exact Below.refl _ _))); have o3 := HC1.out w1 BB1; have hbl1 : b < w1.heap.size := Nat.lt_of_lt_of_le hbl BB1.size)
          | (go_at_call 72; with_reducible refine (HO.out _).use.mono ?_; rintro e w2 ⟨rfl, hb2⟩; (apply Blk.use (w := w2) (g := w.heap.size + 1); (focus (apply Blk.lat hb2; (repeat (first | with_reducible assumption | ((with_reducible apply Blk.new'); first | rfl | (simp; done)) | with_reducible apply Blk.set_ | (with_reducible apply Blk.far' (by first | (simp; done) | (simp; omega))) | with_reducible apply Blk.alloc | with_reducible apply Blk.drew)))); intro Z2; (try simp only [List.setIfInBounds_toArray, List.set_cons_zero, List.set_cons_succ] at Z2); have Z2c := Z2.cell; have Z2f := Z2.frozen; have Z2s := Z2.lt); (apply Blk.use (w := w2) (g := w1.heap.size); (focus (apply Blk.lat hb2; (repeat (first | with_reducible assumption | ((with_reducible apply Blk.new'); first | rfl | (simp; done)) | with_reducible apply Blk.set_ | (with_reducible apply Blk.far' (by first | (simp; done) | (simp; omega))) | with_reducible apply Blk.alloc | with_reducible apply Blk.drew)))); intro U2; (try simp only [List.setIfInBounds_toArray, List.set_cons_zero, List.set_cons_succ] at U2); have U2c := U2.cell; have U2f := U2.frozen; have U2s := U2.lt)))
        refine bp_world ?_
        intro w9 hw9
        (apply Blk.use (w := w9) (g := w.heap.size + 1); (focus (rw [hw9]; (repeat (first | with_reducible assumption | ((with_reducible apply Blk.new'); first | rfl | (simp; done)) | with_reducible apply Blk.set_ | (with_reducible apply Blk.far' (by first | (simp; done) | (simp; omega))) | with_reducible apply Blk.alloc | with_reducible apply Blk.drew)))); intro Z9; (try simp only [List.setIfInBounds_toArray, List.set_cons_zero, List.set_cons_succ] at Z9); have Z9c := Z9.cell; have Z9f := Z9.frozen; have Z9s := Z9.lt)
        have B9 : Below w.heap.size w w9 := by rw [hw9]; (repeat (first | (with_reducible refine bset ?_ (by first | (simp; done) | (simp; omega)) _) | (with_reducible refine balloc ?_ _) | (with_reducible refine bdrew ?_) | with_reducible exact Below.refl _ _ | (refine bthen ?_ (by with_reducible assumption)) | (refine bthen ?_ (by assumption)) | exact Below.refl _ _))
        clear hw9 Z1 Z1c Z1f D1 D1c D1f Z2 Z2c Z2f U2 U2c U2f
        exact bodyPost_ret (v := .agg #[.int .i64 0, .string (bs []), .int .i64 0, .int .i64 6]) (by simp [results, Try.results73, go_sem, Z9c]; rfl) rfl ⟨by rw [HR.out]; rfl, B9⟩
end Go.Proofs.Ytnehiflandjkoaa
