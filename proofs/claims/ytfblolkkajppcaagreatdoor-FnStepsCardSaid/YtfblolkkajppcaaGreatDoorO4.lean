import Derived.Test.YtfblolkkajppcaaGreatDoorG7
set_option linter.unusedSimpArgs false
set_option linter.unusedVariables false
namespace Go.Proofs.YtfblolkkajppcaaGreatDoor
namespace M
def numOk (k i n : Int) : Bool := isIn n 0 9999999 && (decide (i < many k) || n == 0)
def headOk (sys : Bool) (l1 l2 k af : Int) : Bool := isIn k 1 17 && (sys == decide (12 ≤ k)) && labelOk l1 l2 && (!sys || (l1 == 0 && l2 == 0)) && isIn af 0 9999999
def numsOk (k a b c d : Int) : Bool := numOk k 0 a && numOk k 1 b && numOk k 2 c && numOk k 3 d
def tailOk (k : Int) (ow : ByteArray) (b u1 u2 af : Int) : Bool :=
  if k = 1 then nameOk ow.data.toList && labelOk u1 u2 && (af != 0 || (u1 == 0 && u2 == 0))
  else if k = 7 then decide (ow = ⟨#[]⟩) && labelOk u1 u2 && af == 0
  else if k = 13 then decide (ow = ⟨#[]⟩) && u1 == 0 && u2 == 0 && af == 0 && isIn b 1 3
  else decide (ow = ⟨#[]⟩) && u1 == 0 && u2 == 0 && af == 0
def opOk (sys : Bool) (l1 l2 k : Int) (ow : ByteArray) (a b c d u1 u2 af : Int) : Bool := headOk sys l1 l2 k af && numsOk k a b c d && tailOk k ow b u1 u2 af
end M
open Go.RowKit M
def encOp (sys : Bool) (l1 l2 k : Int) (ow : ByteArray) (a b c d u1 u2 af : Int) : Value :=
  .agg #[.bool sys, .int .i64 l1, .int .i64 l2, .int .i64 k, .string ow, .int .i64 a, .int .i64 b, .int .i64 c, .int .i64 d, .int .i64 u1, .int .i64 u2, .int .i64 af]


theorem carry {W w' : World} {B : Nat} {cs : Array Value} (hR : ∀ i, W.cell? ⟨B, i, none⟩ = cs[i]?) (hB : B < W.heap.size) (hb : Below W.heap.size W w') : (∀ i, w'.cell? ⟨B, i, none⟩ = cs[i]?) ∧ B < w'.heap.size :=
  ⟨fun i => by rw [(bcell hb).1 _ _ hB]; exact hR i, Nat.lt_of_lt_of_le hB hb.size⟩
theorem carryA {W : World} {B : Nat} {cs : Array Value} (hR : ∀ i, W.cell? ⟨B, i, none⟩ = cs[i]?) (hB : B < W.heap.size) (o : Obj) : (∀ i, (W.alloc o).cell? ⟨B, i, none⟩ = cs[i]?) ∧ B < (W.alloc o).heap.size :=
  carry hR hB (bnew W o)
theorem fresh (w : World) (cs : Array Value) (t : TypeId) : (∀ i, (w.alloc (.cells cs t)).cell? ⟨w.heap.size, i, none⟩ = cs[i]?) ∧ w.heap.size < (w.alloc (.cells cs t)).heap.size :=
  ⟨fun i => by simp [World.cell?_alloc_new], by simp⟩

/-- a slice of four numbers -/
def Four (W : World) (v : Value) (B : Nat) (a b c d : Int) : Prop :=
  v = .slice (some ⟨B, 0, none⟩) 4 4 ∧ B < W.heap.size ∧ ∀ i, W.cell? ⟨B, i, none⟩ = (#[Value.int .i64 a, .int .i64 b, .int .i64 c, .int .i64 d] : Array Value)[i]?

theorem numbers_i (sys : Bool) (l1 l2 k : Int) (ow : ByteArray) (a b c d u1 u2 af : Int) (w : World) :
    Calls Tryz.prog 25 #[.agg #[.bool sys, .int .i64 l1, .int .i64 l2, .int .i64 k, .string ow, .int .i64 a, .int .i64 b, .int .i64 c, .int .i64 d, .int .i64 u1, .int .i64 u2, .int .i64 af]] w (fun e w' => ∃ v B, e = .returned v ∧ Below w.heap.size w w' ∧ w.heap.size ≤ B ∧ Four w' v B a b c d) := by
  go_enter Tryz.func25, Tryz.ntmps25
  go_wp2
  refine bodyPost_ret (v := .slice (some ⟨w.heap.size + 1, 0, none⟩) 4 4) (by simp [results, Tryz.results25, go_sem]) rfl ⟨_, w.heap.size + 1, rfl, by (repeat (first | (with_reducible refine bset ?_ (by first | (simp; done) | (simp; omega)) _) | (with_reducible refine balloc ?_ _) | (with_reducible refine bdrew ?_) | with_reducible exact Below.refl _ _ | (refine bthen ?_ (by with_reducible assumption)) | (refine bthen ?_ (by assumption)) | exact Below.refl _ _)), by omega, rfl, by simp, fun i => ?_⟩
  simp

set_option maxRecDepth 100000 in
set_option maxHeartbeats 4000000 in
theorem opRight_i_bad (sys : Bool) (l1 l2 k : Int) (ow : ByteArray) (a b c d u1 u2 af : Int) (hH : headOk sys l1 l2 k af = false) (w : World) :
    Gives Tryz.prog 12 #[encOp sys l1 l2 k ow a b c d u1 u2 af] w (.bool false) := by
  have hH' := Lib.hid hH
  clear hH
  unfold Gives encOp
  obtain ⟨R, sR⟩ := fresh w #[.bool sys, .int .i64 l1, .int .i64 l2, .int .i64 k, .string ow, .int .i64 a, .int .i64 b, .int .i64 c, .int .i64 d, .int .i64 u1, .int .i64 u2, .int .i64 af] 26
  have B0 := bnew w (.cells #[.bool sys, .int .i64 l1, .int .i64 l2, .int .i64 k, .string ow, .int .i64 a, .int .i64 b, .int .i64 c, .int .i64 d, .int .i64 u1, .int .i64 u2, .int .i64 af] 26)
  go_enter Tryz.func12, Tryz.ntmps12
  go_wp2_with fail
  generalize w.alloc (.cells #[.bool sys, .int .i64 l1, .int .i64 l2, .int .i64 k, .string ow, .int .i64 a, .int .i64 b, .int .i64 c, .int .i64 d, .int .i64 u1, .int .i64 u2, .int .i64 af] 26) = w0 at *
  go_wp2_with (first
    | (go_at_call 47; refine (within_i _ _ _ _).use.mono ?_; rintro e w1 ⟨rfl, hb1⟩; obtain ⟨R, sR⟩ := carry R sR hb1)
    | (go_at_call 48; refine (labelRight_i _ _ _).use.mono ?_; rintro e w2 ⟨rfl, hb2⟩; obtain ⟨R, sR⟩ := carry R sR hb2)
    | (go_at_call 49; refine (isNum_i _ _).use.mono ?_; rintro e w3 ⟨rfl, hb3⟩; obtain ⟨R, sR⟩ := carry R sR hb3))
  all_goals clear R sR
  all_goals first
    | (go_ret; exact ⟨rfl, by (repeat (first | (with_reducible refine bset ?_ (by first | (simp; done) | (simp; omega)) _) | (with_reducible refine balloc ?_ _) | (with_reducible refine bdrew ?_) | with_reducible exact Below.refl _ _ | (refine bthen ?_ (by with_reducible assumption)) | (refine bthen ?_ (by assumption)) | exact Below.refl _ _))⟩)
    | (exfalso; have h := hH'.out; unfold headOk at h; simp_all [isIn]; done)
    | (exfalso; have h := hH'.out; unfold headOk at h; rename_i h12 hz; have h13 : ¬ (12 : Int) ≤ k := (by omega); simp_all [isIn]; done)
end Go.Proofs.YtfblolkkajppcaaGreatDoor
