import Derived.Test.YtnehiflandjkoaaD1
set_option linter.unusedSimpArgs false
set_option linter.unusedVariables false
namespace Go.Proofs.Ytnehiflandjkoaa
open Go.RowKit M
namespace M
def pick (r : Reg) (j : Nat) : ByteArray := if j = 0 then r.1 else r.2.1
def okAt (r : Reg) (seq : Int) (j : Nat) : Bool := (heldOf (pick r j).data.toList).2.2 && (heldOf (pick r j).data.toList).1 == seq
/-- the frame with a number that a region holds -/
def ofReg (r : Reg) (seq : Int) : Int × Bs × Bool :=
  if okAt r seq 0 = true then ((heldOf (pick r 0).data.toList).1, (heldOf (pick r 0).data.toList).2.1, true)
  else if okAt r seq 1 = true then ((heldOf (pick r 1).data.toList).1, (heldOf (pick r 1).data.toList).2.1, true)
  else (0, [], false)
end M
theorem ofReg_hit {r : Reg} {seq : Int} {j : Nat} (hj : j < 2) (hp : ∀ i, i < j → okAt r seq i = false) (h : okAt r seq j = true) : ofReg r seq = ((heldOf (pick r j).data.toList).1, (heldOf (pick r j).data.toList).2.1, true) := by
  unfold ofReg
  have hjj : j = 0 ∨ j = 1 := by omega
  rcases hjj with rfl | rfl
  · rw [if_pos h]
  · rw [if_neg (by rw [hp 0 (by omega)]; simp), if_pos h]
theorem ofReg_miss {r : Reg} {seq : Int} (hp : ∀ i, i < 2 → okAt r seq i = false) : ofReg r seq = (0, [], false) := by
  unfold ofReg
  rw [if_neg (by rw [hp 0 (by omega)]; simp), if_neg (by rw [hp 1 (by omega)]; simp)]

set_option maxRecDepth 100000 in
set_option maxHeartbeats 2000000 in
theorem slotOf_i (r : Reg) (seq : Int) (h1 : r.1.size ≤ maxLen) (h2 : r.2.1.size ≤ maxLen) (w : World) :
    Gives Try.prog 71 #[.agg #[.string r.1, .string r.2.1, .string r.2.2], .int .i64 seq] w (.tuple #[.agg #[.int .i64 (ofReg r seq).1, .string (bs (ofReg r seq).2.1)], .bool (ofReg r seq).2.2]) := by
  unfold Gives
  obtain ⟨R, hR⟩ : ∃ R, ofReg r seq = R := ⟨_, rfl⟩
  have HH := Lib.hid (fun j (hj : j < 2) (hp : ∀ i, i < j → okAt r seq i = false) h => (ofReg_hit hj hp h).symm.trans hR)
  have HM := Lib.hid (fun (hp : ∀ i, i < 2 → okAt r seq i = false) => (ofReg_miss hp).symm.trans hR)
  rw [hR]
  have HP : Hid (∀ j, (pick r j).size ≤ maxLen) := Lib.hid fun j => by unfold pick; split <;> assumption
  have HE : Hid (∀ j w, (pick r j).size ≤ maxLen → Gives Try.prog 69 #[.string (pick r j)] w (.tuple #[.agg #[.int .i64 (heldOf (pick r j).data.toList).1, .string (bs (heldOf (pick r j).data.toList).2.1)], .bool (heldOf (pick r j).data.toList).2.2])) := Lib.hid fun j w h => held_i _ h w
  clear hR h1 h2
  go_enter Try.func71, Try.ntmps71
  go_wp2
  go_loopw [16] (fun i wr => ∃ j : Nat, j ≤ 2 ∧ i = .int .i64 j ∧ Hid (∀ i, i < j → okAt r seq i = false) ∧ Blk wr (w.heap.size + 1 + 1) 9 #[.string r.1, .string r.2.1] ∧ Blk wr (w.heap.size + 1) 24 #[.int .i64 0, .string ⟨#[]⟩] ∧ Below w.heap.size w wr) (fun i _ => 2 - (intOf i).toNat)
  case atStart =>
    refine ⟨0, by omega, rfl, Lib.hid (fun i h => absurd h (by omega)), ?_, ?_, by (repeat (first | (with_reducible refine bset ?_ (by first | (simp; done) | (simp; omega)) _) | (with_reducible refine balloc ?_ _) | (with_reducible refine bdrew ?_) | with_reducible exact Below.refl _ _ | (refine bthen ?_ (by with_reducible assumption)) | (refine bthen ?_ (by assumption)) | exact Below.refl _ _))⟩
    · (repeat (first | with_reducible assumption | ((with_reducible apply Blk.new'); first | rfl | (simp; done)) | with_reducible apply Blk.set_ | (with_reducible apply Blk.far' (by first | (simp; done) | (simp; omega))) | with_reducible apply Blk.alloc | with_reducible apply Blk.drew))
    · (repeat (first | with_reducible assumption | ((with_reducible apply Blk.new'); first | rfl | (simp; done)) | with_reducible apply Blk.set_ | (with_reducible apply Blk.far' (by first | (simp; done) | (simp; omega))) | with_reducible apply Blk.alloc | with_reducible apply Blk.drew))
  case round =>
    obtain ⟨j, hj, rfl, HN, S0, Z0, BB⟩ := hrel
    have Z0c := Z0.cell
    have Z0f := Z0.frozen
    have Z0s := Z0.lt
    by_cases hlt : j < 2
    · have i1 : (j : Int) < 2 := by omega
      have c0 : _ = some (Value.string (pick r j)) := S0.at (i := j) (by
        have hjj : j = 0 ∨ j = 1 := by omega
        rcases hjj with rfl | rfl <;> rfl)
      have hok : okAt r seq j = ((heldOf (pick r j).data.toList).2.2 && (heldOf (pick r j).data.toList).1 == seq) := rfl
      have hhit := HH.out j hlt HN.out
      have hE := fun w => HE.out j w (HP.out j)
      rcases hv : heldOf (pick r j).data.toList with ⟨q, x, b⟩
      rw [hv] at hok hhit hE
      dsimp only at hok hhit hE
      have HE2 := Lib.hid hE
      have HHit := Lib.hid hhit
      have HOk := Lib.hid hok
      clear hv hE hhit hok HH HE HP
      cases b
      · have HN' : Hid (∀ i, i < j + 1 → okAt r seq i = false) := Lib.hid fun i hi => by
          rcases Nat.lt_or_ge i j with h | h
          · exact HN.out i h
          · obtain rfl : i = j := by omega
            rw [HOk.out]; rfl
        clear HHit HOk HN
        go_wp2_with (go_at_call 69; refine (HE2.out _).use.mono ?_; rintro e w1 ⟨rfl, hb1⟩; (apply Blk.use (w := w1) (g := w.heap.size + 1); (focus (apply Blk.lat hb1; (repeat (first | with_reducible assumption | ((with_reducible apply Blk.new'); first | rfl | (simp; done)) | with_reducible apply Blk.set_ | (with_reducible apply Blk.far' (by first | (simp; done) | (simp; omega))) | with_reducible apply Blk.alloc | with_reducible apply Blk.drew)))); intro Z1; (try simp only [List.setIfInBounds_toArray, List.set_cons_zero, List.set_cons_succ] at Z1); have Z1c := Z1.cell; have Z1f := Z1.frozen; have Z1s := Z1.lt); (apply Blk.use (w := w1) (g := w.heap.size + 1 + 1); (focus (apply Blk.lat hb1; (repeat (first | with_reducible assumption | ((with_reducible apply Blk.new'); first | rfl | (simp; done)) | with_reducible apply Blk.set_ | (with_reducible apply Blk.far' (by first | (simp; done) | (simp; omega))) | with_reducible apply Blk.alloc | with_reducible apply Blk.drew)))); intro S1); have BB1 : Below w.heap.size w w1 := (by (repeat (first | (with_reducible refine bset ?_ (by first | (simp; done) | (simp; omega)) _) | (with_reducible refine balloc ?_ _) | (with_reducible refine bdrew ?_) | with_reducible exact Below.refl _ _ | (refine bthen ?_ (by with_reducible assumption)) | (refine bthen ?_ (by assumption)) | exact Below.refl _ _))); clear Z0 Z0c Z0f S0 c0 hb1)
        exact ⟨⟨j + 1, by omega, by go_num, HN', S1.alloc _, Z1.alloc _, by (repeat (first | (with_reducible refine bset ?_ (by first | (simp; done) | (simp; omega)) _) | (with_reducible refine balloc ?_ _) | (with_reducible refine bdrew ?_) | with_reducible exact Below.refl _ _ | (refine bthen ?_ (by with_reducible assumption)) | (refine bthen ?_ (by assumption)) | exact Below.refl _ _))⟩, by simp [intOf]; omega⟩
      · by_cases hq : q = seq
        · have hq' : (q == seq) = true := by simpa using hq
          have HR : Hid (R = (q, x, true)) := Lib.hid (HHit.out (by rw [HOk.out]; simp [hq])).symm
          clear HHit HOk HN hq
          go_wp2_with (go_at_call 69; refine (HE2.out _).use.mono ?_; rintro e w1 ⟨rfl, hb1⟩; (apply Blk.use (w := w1) (g := w.heap.size + 1); (focus (apply Blk.lat hb1; (repeat (first | with_reducible assumption | ((with_reducible apply Blk.new'); first | rfl | (simp; done)) | with_reducible apply Blk.set_ | (with_reducible apply Blk.far' (by first | (simp; done) | (simp; omega))) | with_reducible apply Blk.alloc | with_reducible apply Blk.drew)))); intro Z1; (try simp only [List.setIfInBounds_toArray, List.set_cons_zero, List.set_cons_succ] at Z1); have Z1c := Z1.cell; have Z1f := Z1.frozen; have Z1s := Z1.lt); have BB1 : Below w.heap.size w w1 := (by (repeat (first | (with_reducible refine bset ?_ (by first | (simp; done) | (simp; omega)) _) | (with_reducible refine balloc ?_ _) | (with_reducible refine bdrew ?_) | with_reducible exact Below.refl _ _ | (refine bthen ?_ (by with_reducible assumption)) | (refine bthen ?_ (by assumption)) | exact Below.refl _ _))); clear Z0 Z0c Z0f S0 c0 hb1)
          refine bp_world ?_
          intro w9 hw9
          (apply Blk.use (w := w9) (g := w.heap.size + 1); (focus (rw [hw9]; (repeat (first | with_reducible assumption | ((with_reducible apply Blk.new'); first | rfl | (simp; done)) | with_reducible apply Blk.set_ | (with_reducible apply Blk.far' (by first | (simp; done) | (simp; omega))) | with_reducible apply Blk.alloc | with_reducible apply Blk.drew)))); intro Z9; (try simp only [List.setIfInBounds_toArray, List.set_cons_zero, List.set_cons_succ] at Z9); have Z9c := Z9.cell; have Z9f := Z9.frozen; have Z9s := Z9.lt)
          have B9 : Below w.heap.size w w9 := by rw [hw9]; (repeat (first | (with_reducible refine bset ?_ (by first | (simp; done) | (simp; omega)) _) | (with_reducible refine balloc ?_ _) | (with_reducible refine bdrew ?_) | with_reducible exact Below.refl _ _ | (refine bthen ?_ (by with_reducible assumption)) | (refine bthen ?_ (by assumption)) | exact Below.refl _ _))
          clear hw9 Z1 Z1c Z1f
          exact bodyPost_ret (v := .tuple #[.agg #[.int .i64 q, .string (bs x)], .bool true]) (by simp [results, Try.results71, go_sem, Z9c]) rfl ⟨by rw [HR.out], B9⟩
        · have hq' : (q == seq) = false := by simpa using hq
          have HN' : Hid (∀ i, i < j + 1 → okAt r seq i = false) := Lib.hid fun i hi => by
            rcases Nat.lt_or_ge i j with h | h
            · exact HN.out i h
            · obtain rfl : i = j := by omega
              rw [HOk.out, hq']; rfl
          clear HHit HOk HN hq
          go_wp2_with (go_at_call 69; refine (HE2.out _).use.mono ?_; rintro e w1 ⟨rfl, hb1⟩; (apply Blk.use (w := w1) (g := w.heap.size + 1); (focus (apply Blk.lat hb1; (repeat (first | with_reducible assumption | ((with_reducible apply Blk.new'); first | rfl | (simp; done)) | with_reducible apply Blk.set_ | (with_reducible apply Blk.far' (by first | (simp; done) | (simp; omega))) | with_reducible apply Blk.alloc | with_reducible apply Blk.drew)))); intro Z1; (try simp only [List.setIfInBounds_toArray, List.set_cons_zero, List.set_cons_succ] at Z1); have Z1c := Z1.cell; have Z1f := Z1.frozen; have Z1s := Z1.lt); (apply Blk.use (w := w1) (g := w.heap.size + 1 + 1); (focus (apply Blk.lat hb1; (repeat (first | with_reducible assumption | ((with_reducible apply Blk.new'); first | rfl | (simp; done)) | with_reducible apply Blk.set_ | (with_reducible apply Blk.far' (by first | (simp; done) | (simp; omega))) | with_reducible apply Blk.alloc | with_reducible apply Blk.drew)))); intro S1); have BB1 : Below w.heap.size w w1 := (by (repeat (first | (with_reducible refine bset ?_ (by first | (simp; done) | (simp; omega)) _) | (with_reducible refine balloc ?_ _) | (with_reducible refine bdrew ?_) | with_reducible exact Below.refl _ _ | (refine bthen ?_ (by with_reducible assumption)) | (refine bthen ?_ (by assumption)) | exact Below.refl _ _))); clear Z0 Z0c Z0f S0 c0 hb1)
          exact ⟨⟨j + 1, by omega, by go_num, HN', S1.alloc _, Z1.alloc _, by (repeat (first | (with_reducible refine bset ?_ (by first | (simp; done) | (simp; omega)) _) | (with_reducible refine balloc ?_ _) | (with_reducible refine bdrew ?_) | with_reducible exact Below.refl _ _ | (refine bthen ?_ (by with_reducible assumption)) | (refine bthen ?_ (by assumption)) | exact Below.refl _ _))⟩, by simp [intOf]; omega⟩
    · obtain rfl : j = 2 := by omega
      have HR : Hid (R = (0, [], false)) := Lib.hid (HM.out HN.out).symm
      clear HH HM HN HE HP
      go_wp2
      refine bp_world ?_
      intro w9 hw9
      (apply Blk.use (w := w9) (g := w.heap.size + 1); (focus (rw [hw9]; (repeat (first | with_reducible assumption | ((with_reducible apply Blk.new'); first | rfl | (simp; done)) | with_reducible apply Blk.set_ | (with_reducible apply Blk.far' (by first | (simp; done) | (simp; omega))) | with_reducible apply Blk.alloc | with_reducible apply Blk.drew)))); intro Z9; (try simp only [List.setIfInBounds_toArray, List.set_cons_zero, List.set_cons_succ] at Z9); have Z9c := Z9.cell; have Z9f := Z9.frozen; have Z9s := Z9.lt)
      have B9 : Below w.heap.size w w9 := by rw [hw9]; (repeat (first | (with_reducible refine bset ?_ (by first | (simp; done) | (simp; omega)) _) | (with_reducible refine balloc ?_ _) | (with_reducible refine bdrew ?_) | with_reducible exact Below.refl _ _ | (refine bthen ?_ (by with_reducible assumption)) | (refine bthen ?_ (by assumption)) | exact Below.refl _ _))
      clear hw9 Z0 Z0c Z0f S0
      exact bodyPost_ret (v := .tuple #[.agg #[.int .i64 0, .string (bs [])], .bool false]) (by simp [results, Try.results71, go_sem, Z9c]; rfl) rfl ⟨by rw [HR.out], B9⟩
end Go.Proofs.Ytnehiflandjkoaa
