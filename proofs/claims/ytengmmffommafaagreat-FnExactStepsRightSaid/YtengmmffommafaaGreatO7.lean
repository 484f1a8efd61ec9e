import Derived.Test.YtengmmffommafaaGreatO6
import Derived.Test.YtengmmffommafaaGreatBlk
set_option linter.unusedSimpArgs false
set_option linter.unusedVariables false
namespace Go.Proofs.YtengmmffommafaaGreat
open Go.RowKit M

theorem opRight_s (sys : Bool) (l1 l2 k : Int) (ow : ByteArray) (a b c d m1 m2 af : Int) (how : ow.size ≤ maxLen) (w : World) :
    Gives Tryz.prog 80 #[encOp sys l1 l2 k ow a b c d m1 m2 af] w (.bool (opOk sys l1 l2 k ow a b c d m1 m2 af)) := by
  unfold opOk
  rw [Bool.and_assoc]
  cases hH : headOk sys l1 l2 k af
  · exact opRight_s_bad sys l1 l2 k ow a b c d m1 m2 af hH w
  · rw [Bool.true_and]
    obtain ⟨⟨h1, h17⟩, hL, hA, ⟨rfl, h12, rfl, rfl⟩ | ⟨rfl, h12⟩⟩ := head_facts hH
    · exact opRight_s_sys k ow a b c d m1 m2 af how h1 h17 h12 hL hA w
    · exact opRight_s_own l1 l2 k ow a b c d m1 m2 af how h1 h17 h12 hL hA w
theorem toLabO_l (a b : Int) (w : World) : Gives Tryz.prog 19 #[.agg #[.int .i64 a, .int .i64 b]] w (.agg #[.int .i64 a, .int .i64 b]) := by
  unfold Gives
  go_enter Tryz.func19, Tryz.ntmps19
  go_wp2
  exact bodyPost_ret (v := .agg #[.int .i64 a, .int .i64 b]) (by simp [results, Tryz.results19, go_sem]) rfl ⟨rfl, by (repeat (first | (with_reducible refine bset ?_ (by first | (simp; done) | (simp; omega)) _) | (with_reducible refine balloc ?_ _) | (with_reducible refine bdrew ?_) | with_reducible exact Below.refl _ _ | (refine bthen ?_ (by with_reducible assumption)) | (refine bthen ?_ (by assumption)) | exact Below.refl _ _))⟩
set_option maxRecDepth 100000 in
set_option maxHeartbeats 8000000 in
theorem toOp_l (sys : Bool) (l1 l2 k : Int) (ow : ByteArray) (a b c d m1 m2 af : Int) (w : World) :
    Gives Tryz.prog 85 #[encOp sys l1 l2 k ow a b c d m1 m2 af] w (encOp sys l1 l2 k ow a b c d m1 m2 af) := by
  unfold Gives encOp
  go_enter Tryz.func85, Tryz.ntmps85
  go_wp2_with fail
  refine (toLabO_l _ _ _).use.mono ?_
  rintro e w1 ⟨rfl, hb1⟩
  (apply Blk.use (w := w1) (g := w.heap.size); (focus (apply Blk.lat hb1; (repeat (first | with_reducible assumption | ((with_reducible apply Blk.new'); first | rfl | (simp; done)) | with_reducible apply Blk.set_ | (with_reducible apply Blk.far' (by first | (simp; done) | (simp; omega))) | with_reducible apply Blk.alloc | with_reducible apply Blk.drew)))); intro A1; (try simp only [List.setIfInBounds_toArray, List.set_cons_zero, List.set_cons_succ] at A1); have A1c := A1.cell; have A1f := A1.frozen; have A1s := A1.lt)
  (apply Blk.use (w := w1) (g := w.heap.size + 1 + 1); (focus (apply Blk.lat hb1; (repeat (first | with_reducible assumption | ((with_reducible apply Blk.new'); first | rfl | (simp; done)) | with_reducible apply Blk.set_ | (with_reducible apply Blk.far' (by first | (simp; done) | (simp; omega))) | with_reducible apply Blk.alloc | with_reducible apply Blk.drew)))); intro O1; (try simp only [List.setIfInBounds_toArray, List.set_cons_zero, List.set_cons_succ] at O1); have O1c := O1.cell; have O1f := O1.frozen; have O1s := O1.lt)
  (apply Blk.use (w := w1) (g := w.heap.size + 1); (focus (apply Blk.lat hb1; (repeat (first | with_reducible assumption | ((with_reducible apply Blk.new'); first | rfl | (simp; done)) | with_reducible apply Blk.set_ | (with_reducible apply Blk.far' (by first | (simp; done) | (simp; omega))) | with_reducible apply Blk.alloc | with_reducible apply Blk.drew)))); intro Z1; (try simp only [List.setIfInBounds_toArray, List.set_cons_zero, List.set_cons_succ] at Z1); have Z1c := Z1.cell; have Z1f := Z1.frozen; have Z1s := Z1.lt)
  have B1 : Below w.heap.size w w1 := by (repeat (first | (with_reducible refine bset ?_ (by first | (simp; done) | (simp; omega)) _) | (with_reducible refine balloc ?_ _) | (with_reducible refine bdrew ?_) | with_reducible exact Below.refl _ _ | (refine bthen ?_ (by with_reducible assumption)) | (refine bthen ?_ (by assumption)) | exact Below.refl _ _))
  clear hb1
  go_wp2_with fail
  refine (toLabO_l _ _ _).use.mono ?_
  rintro e w2 ⟨rfl, hb2⟩
  (apply Blk.use (w := w2) (g := w.heap.size); (focus (apply Blk.lat hb2; (repeat (first | with_reducible assumption | ((with_reducible apply Blk.new'); first | rfl | (simp; done)) | with_reducible apply Blk.set_ | (with_reducible apply Blk.far' (by first | (simp; done) | (simp; omega))) | with_reducible apply Blk.alloc | with_reducible apply Blk.drew)))); intro A2; (try simp only [List.setIfInBounds_toArray, List.set_cons_zero, List.set_cons_succ] at A2); have A2c := A2.cell; have A2f := A2.frozen; have A2s := A2.lt)
  (apply Blk.use (w := w2) (g := w.heap.size + 1 + 1); (focus (apply Blk.lat hb2; (repeat (first | with_reducible assumption | ((with_reducible apply Blk.new'); first | rfl | (simp; done)) | with_reducible apply Blk.set_ | (with_reducible apply Blk.far' (by first | (simp; done) | (simp; omega))) | with_reducible apply Blk.alloc | with_reducible apply Blk.drew)))); intro O2; (try simp only [List.setIfInBounds_toArray, List.set_cons_zero, List.set_cons_succ] at O2); have O2c := O2.cell; have O2f := O2.frozen; have O2s := O2.lt)
  (apply Blk.use (w := w2) (g := w.heap.size + 1); (focus (apply Blk.lat hb2; (repeat (first | with_reducible assumption | ((with_reducible apply Blk.new'); first | rfl | (simp; done)) | with_reducible apply Blk.set_ | (with_reducible apply Blk.far' (by first | (simp; done) | (simp; omega))) | with_reducible apply Blk.alloc | with_reducible apply Blk.drew)))); intro Z2; (try simp only [List.setIfInBounds_toArray, List.set_cons_zero, List.set_cons_succ] at Z2); have Z2c := Z2.cell; have Z2f := Z2.frozen; have Z2s := Z2.lt)
  have B2 : Below w.heap.size w w2 := by (repeat (first | (with_reducible refine bset ?_ (by first | (simp; done) | (simp; omega)) _) | (with_reducible refine balloc ?_ _) | (with_reducible refine bdrew ?_) | with_reducible exact Below.refl _ _ | (refine bthen ?_ (by with_reducible assumption)) | (refine bthen ?_ (by assumption)) | exact Below.refl _ _))
  clear hb2 A1 O1 A1c A1f O1c O1f Z1 Z1c Z1f Z1s
  go_wp2
  refine bp_world ?_
  intro w3 hw3
  (apply Blk.use (w := w3) (g := w.heap.size + 1); (focus (rw [hw3]; (repeat (first | with_reducible assumption | ((with_reducible apply Blk.new'); first | rfl | (simp; done)) | with_reducible apply Blk.set_ | (with_reducible apply Blk.far' (by first | (simp; done) | (simp; omega))) | with_reducible apply Blk.alloc | with_reducible apply Blk.drew)))); intro Z3; (try simp only [List.setIfInBounds_toArray, List.set_cons_zero, List.set_cons_succ] at Z3); have Z3c := Z3.cell; have Z3f := Z3.frozen; have Z3s := Z3.lt)
  have B3 : Below w.heap.size w w3 := by rw [hw3]; (repeat (first | (with_reducible refine bset ?_ (by first | (simp; done) | (simp; omega)) _) | (with_reducible refine balloc ?_ _) | (with_reducible refine bdrew ?_) | with_reducible exact Below.refl _ _ | (refine bthen ?_ (by with_reducible assumption)) | (refine bthen ?_ (by assumption)) | exact Below.refl _ _))
  clear hw3 A2 A2c A2f A2s O2 O2c O2f O2s Z2 Z2c Z2f Z2s
  exact bodyPost_ret (v := .agg #[.bool sys, .int .i64 l1, .int .i64 l2, .int .i64 k, .string ow, .int .i64 a, .int .i64 b, .int .i64 c, .int .i64 d, .int .i64 m1, .int .i64 m2, .int .i64 af]) (by simp [results, Tryz.results85, go_sem, Z3c]) rfl ⟨rfl, B3⟩
theorem szOp_l (sys : Bool) (l1 l2 k : Int) (ow : ByteArray) (a b c d m1 m2 af : Int) (m : Int) (hm : 0 ≤ m ∧ m ≤ 1048576) (ht : ow.size ≤ maxLen) (w : World) :
    Gives Tryz.prog 74 #[encOp sys l1 l2 k ow a b c d m1 m2 af, .int .i64 m] w (.int .i64 (if m < ow.size then -1 else m - ow.size)) := by
  unfold Gives encOp
  unfold maxLen at ht
  by_cases h : m < ow.size
  · rw [if_pos h]
    go_enter Tryz.func74, Tryz.ntmps74
    go_wp2
    go_ret
    exact ⟨rfl, bnew _ _⟩
  · rw [if_neg h]
    go_enter Tryz.func74, Tryz.ntmps74
    go_wp2
    go_ret
    exact ⟨rfl, bnew _ _⟩
namespace M
def asksOk (sys : Bool) (l1 l2 k : Int) (ow : ByteArray) (a b c d m1 m2 af : Int) : Bool := opOk sys l1 l2 k ow a b c d m1 m2 af && isIn k 8 11
end M
end Go.Proofs.YtengmmffommafaaGreat
