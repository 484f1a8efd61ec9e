import Derived.Test.YtmammjpfmfblbaaC6
set_option linter.unusedSimpArgs false
set_option linter.unusedVariables false
namespace Go.Proofs.Ytmammjpfmfblbaa
open Go.RowKit M

/-! ### results of disk and code: compared, marked -/
theorem eqDiskOut_same (va vb : Value) (rs : List Reg) (p c : Int) (w : World) (ha : Rd w 3 va rs.length (flat encReg rs)) (hb : Rd w 3 vb rs.length (flat encReg rs)) :
    Gives Try.prog 18 #[.agg #[va, .int .i64 p, .int .i64 c], .agg #[vb, .int .i64 p, .int .i64 c]] w (.bool true) := by
  unfold Gives
  have HA := Lib.hid ha
  have HB := Lib.hid hb
  clear ha hb
  go_enter Try.func18, Try.ntmps18
  go_wp2_with (go_at_call 19; refine (eqDisk_same _ _ rs _ _ (HA.out.later (by (repeat (first | (with_reducible refine bset ?_ (by first | (simp; done) | (simp; omega)) _) | (with_reducible refine balloc ?_ _) | (with_reducible refine bdrew ?_) | with_reducible exact Below.refl _ _ | (refine bthen ?_ (by with_reducible assumption)) | (refine bthen ?_ (by assumption)) | exact Below.refl _ _)))) (HB.out.later (by (repeat (first | (with_reducible refine bset ?_ (by first | (simp; done) | (simp; omega)) _) | (with_reducible refine balloc ?_ _) | (with_reducible refine bdrew ?_) | with_reducible exact Below.refl _ _ | (refine bthen ?_ (by with_reducible assumption)) | (refine bthen ?_ (by assumption)) | exact Below.refl _ _))))).use.mono ?_; rintro e w1 ⟨rfl, hb1⟩; (apply Blk.use (w := w1) (g := w.heap.size); (focus (apply Blk.lat hb1; (repeat (first | with_reducible assumption | ((with_reducible apply Blk.new'); first | rfl | (simp; done)) | with_reducible apply Blk.set_ | (with_reducible apply Blk.far' (by first | (simp; done) | (simp; omega))) | with_reducible apply Blk.alloc | with_reducible apply Blk.drew)))); intro A1; (try simp only [List.setIfInBounds_toArray, List.set_cons_zero, List.set_cons_succ] at A1); have A1c := A1.cell; have A1f := A1.frozen; have A1s := A1.lt); (apply Blk.use (w := w1) (g := w.heap.size + 1); (focus (apply Blk.lat hb1; (repeat (first | with_reducible assumption | ((with_reducible apply Blk.new'); first | rfl | (simp; done)) | with_reducible apply Blk.set_ | (with_reducible apply Blk.far' (by first | (simp; done) | (simp; omega))) | with_reducible apply Blk.alloc | with_reducible apply Blk.drew)))); intro B1; (try simp only [List.setIfInBounds_toArray, List.set_cons_zero, List.set_cons_succ] at B1); have B1c := B1.cell; have B1f := B1.frozen; have B1s := B1.lt))
  go_ret
  exact ⟨rfl, by (repeat (first | (with_reducible refine bset ?_ (by first | (simp; done) | (simp; omega)) _) | (with_reducible refine balloc ?_ _) | (with_reducible refine bdrew ?_) | with_reducible exact Below.refl _ _ | (refine bthen ?_ (by with_reducible assumption)) | (refine bthen ?_ (by assumption)) | exact Below.refl _ _))⟩
theorem grown_alloc {a b : World} {o : Obj} {row : Option Nat} (hg : (a.alloc o).grownBy b row) : a.grownBy b row :=
  ⟨hg.os, hg.tape, hg.output, Nat.le_trans (by simp) hg.size, fun i hi hr => (hg.block i (by simp; omega) hr).trans (Below.heap_alloc _ _ _ hi)⟩
theorem markDiskOut_l (w : World) (base : Nat) (v : Value) (p c : Int) (n k : Nat) (xs : List Value) (hown : w.ownsRow base 68 3 v n xs) (hk : k + n * 3 < 9223372036854775807) :
    Calls Try.prog 21 #[.agg #[v, .int .i64 p, .int .i64 c], .int .i64 k] w fun en w' => en = .returned (.int .i64 (k + n * 3 : Nat)) ∧ w'.ownsRow base 68 3 v n (marks k (n * 3)) ∧ w.grownBy w' v.ownBlock := by
  go_enter Try.func21, Try.ntmps21
  go_wp2_with (go_at_call 20; refine (markDisk_l _ _ _ _ _ _ _ (hown.alloc _) hk).mono ?_; rintro e w1 ⟨rfl, ho1, hg1⟩)
  go_ret
  exact ⟨rfl, ho1, grown_alloc hg1⟩
theorem heldDiskOut_l (w : World) (v : Value) (p c : Int) (n k : Nat) (hrd : Rd w 3 v n (marks k (n * 3))) (hk : k + n * 3 < 9223372036854775807) :
    Gives Try.prog 22 #[.agg #[v, .int .i64 p, .int .i64 c], .int .i64 k] w (.int .i64 (k + n * 3 : Nat)) := by
  unfold Gives
  have h0 : ¬ ((k + n * 3 : Nat) : Int) < 0 := by omega
  have HR := Lib.hid hrd
  clear hrd
  go_enter Try.func22, Try.ntmps22
  go_wp2_with (go_at_call 48; refine (heldDisk_l _ _ _ _ _ (HR.out.later (by (repeat (first | (with_reducible refine bset ?_ (by first | (simp; done) | (simp; omega)) _) | (with_reducible refine balloc ?_ _) | (with_reducible refine bdrew ?_) | with_reducible exact Below.refl _ _ | (refine bthen ?_ (by with_reducible assumption)) | (refine bthen ?_ (by assumption)) | exact Below.refl _ _)))) hk).use.mono ?_; rintro e w1 ⟨rfl, hb1⟩)
  go_ret
  exact ⟨rfl, by (repeat (first | (with_reducible refine bset ?_ (by first | (simp; done) | (simp; omega)) _) | (with_reducible refine balloc ?_ _) | (with_reducible refine bdrew ?_) | with_reducible exact Below.refl _ _ | (refine bthen ?_ (by with_reducible assumption)) | (refine bthen ?_ (by assumption)) | exact Below.refl _ _))⟩
end Go.Proofs.Ytmammjpfmfblbaa
