import Derived.Test.YtnehiflandjkoaaE1
set_option linter.unusedSimpArgs false
set_option linter.unusedVariables false
namespace Go.Proofs.Ytnehiflandjkoaa
namespace M
/-- what is written of some bytes, the power that is left, the code -/
def cutText (p : Int) (t : Bs) : Bs × Int × Int := if p < 0 then (t, p, 0) else if p < t.length then (t.take p.toNat, 0, 12) else (t, p - t.length, 0)
end M
open Go.RowKit M

/-- all but two blocks, and what is new, are as they were -/
structure Only2 (w w' : World) (B g : Nat) : Prop where
  os : w'.os = w.os
  tape : w'.tape = w.tape
  output : w'.output = w.output
  size : w.heap.size ≤ w'.heap.size
  block : ∀ k, k < w.heap.size → k ≠ B → k ≠ g → w'.heap[k]? = w.heap[k]?
theorem Only2.refl (w : World) (B g : Nat) : Only2 w w B g := ⟨rfl, rfl, rfl, Nat.le_refl _, fun _ _ _ _ => rfl⟩
theorem Only2.drew {w w' : World} {B g : Nat} (h : Only2 w w' B g) : Only2 w w'.drew B g := ⟨h.os, h.tape, h.output, h.size, h.block⟩
theorem Only2.alloc {w w' : World} {B g : Nat} (h : Only2 w w' B g) (o : Obj) : Only2 w (w'.alloc o) B g :=
  ⟨h.os, h.tape, h.output, Nat.le_trans h.size (by simp), fun k hk h1 h2 => (Below.heap_alloc _ _ _ (Nat.lt_of_lt_of_le hk h.size)).trans (h.block k hk h1 h2)⟩
theorem Only2.set1 {w w' : World} {B g : Nat} (h : Only2 w w' B g) (j : Nat) (u : Value) : Only2 w (w'.setCell ⟨B, j, none⟩ u) B g :=
  ⟨h.os, h.tape, h.output, by simpa [World.setCell] using h.size, fun k hk h1 h2 => (Below.heap_setCell w' ⟨B, j, none⟩ u k h1).trans (h.block k hk h1 h2)⟩
theorem Only2.set2 {w w' : World} {B g : Nat} (h : Only2 w w' B g) (j : Nat) (u : Value) : Only2 w (w'.setCell ⟨g, j, none⟩ u) B g :=
  ⟨h.os, h.tape, h.output, by simpa [World.setCell] using h.size, fun k hk h1 h2 => (Below.heap_setCell w' ⟨g, j, none⟩ u k h2).trans (h.block k hk h1 h2)⟩
theorem Only2.below {w0 w w' : World} {B g : Nat} (h : Only2 w w' B g) (h0 : Below w0.heap.size w0 w) (hB : w0.heap.size ≤ B) (hg : w0.heap.size ≤ g) : Below w0.heap.size w0 w' :=
  ⟨h.os.trans h0.os, h.tape.trans h0.tape, h.output.trans h0.output, Nat.le_trans h0.size h.size, fun k hk => (h.block k (Nat.lt_of_lt_of_le hk h0.size) (by omega) (by omega)).trans (h0.block k hk)⟩
theorem Only2.blk {w w' : World} {B g k t : Nat} {cs : Array Value} (h : Only2 w w' B g) (hk : Blk w k t cs) (h1 : k ≠ B) (h2 : k ≠ g) : Blk w' k t cs := (h.block k hk.lt h1 h2).trans hk

theorem cut_any {p : Int} {t : Bs} (h : p < 0) : cutText p t = (t, p, 0) := if_pos h
theorem cut_down {p : Int} {t : Bs} (h : ¬ p < 0) (h2 : p < t.length) : cutText p t = (t.take p.toNat, 0, 12) := by unfold cutText; rw [if_neg h, if_pos h2]
theorem cut_all {p : Int} {t : Bs} (h : ¬ p < 0) (h2 : ¬ p < t.length) : cutText p t = (t, p - t.length, 0) := by unfold cutText; rw [if_neg h, if_neg h2]

/-- what 'write' leaves -/
def Wrote (w : World) (B g m n c base : Nat) (sl : Value) (p : Int) (s : ByteArray) (t : Bs) (xs : List Value) (e : Ending) (w' : World) : Prop :=
  e = .returned (.tuple #[]) ∧ Blk w' B 46 #[sl, .int .i64 (cutText p t).2.1, .int .i64 (cutText p t).2.2] ∧ w'.ownsRow base 57 3 (.slice (some ⟨g, 0, none⟩) n c) n (xs.set m (.string (s ++ bs (cutText p t).1))) ∧ Only2 w w' B g
theorem Only2.of_below {w w' : World} {B g : Nat} (h : Below w.heap.size w w') : Only2 w w' B g := ⟨h.os, h.tape, h.output, h.size, fun k hk _ _ => h.block k hk⟩
theorem bs_take (t : Bs) (m : Nat) : (bs t).extract 0 m = bs (t.take m) := by rw [extract_bs, data_bs, List.drop_zero, Nat.sub_zero]

set_option maxRecDepth 100000 in
set_option maxHeartbeats 1000000 in
theorem write_i (w : World) (B g m n c base : Nat) (sl : Value) (p : Int) (s : ByteArray) (t : Bs) (xs : List Value) (hB : Blk w B 46 #[sl, .int .i64 p, .int .i64 0]) (hp : -1 ≤ p ∧ p ≤ 1000000) (ht : t.length ≤ 8000) (hs : s.size ≤ 3000)
    (ho : w.ownsRow base 57 3 (.slice (some ⟨g, 0, none⟩) n c) n xs) (hm : m < n * 3) (hx : xs[m]? = some (.string s)) (hne : B ≠ g) :
    Calls Try.prog 59 #[.pointer (some ⟨B, 0, none⟩), .pointer (some ⟨g, m, none⟩), .string (bs t)] w fun e w' => Wrote w B g m n c base sl p s t xs e w' := by
  have hne' := hne.symm
  have HO := Lib.hid ho
  have HX := Lib.hid hx
  have hsz : (bs t).size = t.length := rfl
  have g1 := fun x => hB.atL (i := 1) rfl x
  have HBB := Lib.hid hB
  clear ho hB hx
  by_cases h1 : p < 0
  · have HC := Lib.hid (cut_any (t := t) h1)
    go_enter Try.func59, Try.ntmps59
    go_wp2
    refine wp_region_later (by kernel_rfl) (by kernel_rfl) ?_
    repeat (go_big_quiet_step (fail "no call"))
    refine wpQuiet_nil ?_
    rintro _ ⟨y, rfl⟩
    have hy := y.ok
    clear g1
    generalize y.now = w2 at *
    have B2 := HBB.out.later hy
    have B2c := B2.cell
    have B2f := B2.frozen
    have O2 := Lib.hid (own_keep HO.out hy)
    have q2 : w2.cell? ⟨g, m, none⟩ = some (.string s) := by rw [O2.out.cellAt _ hm]; exact HX.out
    have r2 : w2.frozen? ⟨g, m, none⟩ = false := O2.out.frozenAt _
    go_wp2
    go_end0
    refine ⟨rfl, ?_, ?_, ?_⟩
    · rw [HC.out]
      exact B2.far' hne
    · rw [HC.out]
      exact (own_at O2.out hm).2.2 _
    · exact (Only2.of_below hy).set2 _ _
  · by_cases h2 : p < t.length
    · have HC := Lib.hid (cut_down h1 h2)
      obtain ⟨k, rfl⟩ := Int.eq_ofNat_of_zero_le (Int.not_lt.1 h1)
      have hk : ((bs t).extract 0 k) = bs (t.take k) := bs_take t k
      have i1 : (k : Int) ≤ (bs t).size := by rw [hsz]; omega
      have i2 : (k : Int) < (bs t).size := by rw [hsz]; omega
      have HK := Lib.hid hk
      clear hk
      go_enter Try.func59, Try.ntmps59
      go_wp2
      refine wp_region_later (by kernel_rfl) (by kernel_rfl) ?_
      repeat (go_big_quiet_step (fail "no call"))
      refine wpQuiet_nil ?_
      rintro _ ⟨y, rfl⟩
      have hy := y.ok
      clear g1
      generalize y.now = w2 at *
      have B2 := HBB.out.later hy
      have B2c := B2.cell
      have B2f := B2.frozen
      have O2 := Lib.hid (own_keep HO.out hy)
      have q2 : w2.cell? ⟨g, m, none⟩ = some (.string s) := by rw [O2.out.cellAt _ hm]; exact HX.out
      have r2 : w2.frozen? ⟨g, m, none⟩ = false := O2.out.frozenAt _
      go_wp2
      go_end0
      have hob : (Value.slice (some ⟨g, 0, none⟩) n c).ownBlock ≠ some B := by simp [Value.ownBlock]; exact hne'
      refine ⟨rfl, ?_, ?_, ?_⟩
      · rw [HC.out]
        exact ((B2.set_ 1 _).set_ 2 _).far' hne
      · rw [HC.out, Int.toNat_natCast, ← HK.out]
        exact (own_at (own_far (own_far O2.out hob _) hob _) hm).2.2 _
      · exact (((Only2.of_below hy).set1 _ _).set1 _ _).set2 _ _
    · have HC := Lib.hid (cut_all h1 h2)
      have i2 : ¬ p < ((bs t).size : Int) := by rw [hsz]; omega
      go_enter Try.func59, Try.ntmps59
      go_wp2
      refine wp_region_later (by kernel_rfl) (by kernel_rfl) ?_
      repeat (go_big_quiet_step (fail "no call"))
      refine wpQuiet_nil ?_
      rintro _ ⟨y, rfl⟩
      have hy := y.ok
      clear g1
      generalize y.now = w2 at *
      have B2 := HBB.out.later hy
      have B2c := B2.cell
      have B2f := B2.frozen
      have O2 := Lib.hid (own_keep HO.out hy)
      have q2 : w2.cell? ⟨g, m, none⟩ = some (.string s) := by rw [O2.out.cellAt _ hm]; exact HX.out
      have r2 : w2.frozen? ⟨g, m, none⟩ = false := O2.out.frozenAt _
      go_wp2
      go_end0
      have hob : (Value.slice (some ⟨g, 0, none⟩) n c).ownBlock ≠ some B := by simp [Value.ownBlock]; exact hne'
      refine ⟨rfl, ?_, ?_, ?_⟩
      · rw [HC.out]
        exact (B2.set_ 1 _).far' hne
      · rw [HC.out]
        exact (own_at (own_far O2.out hob _) hm).2.2 _
      · exact ((Only2.of_below hy).set1 _ _).set2 _ _
theorem l16Cut_s (p : Int) (t : Bs) (hp : -1 ≤ p ∧ p ≤ 1000000) (ht : t.length ≤ 8000) (w : World) :
    Gives Try.prog 64 #[.int .i64 p, .string (bs t)] w (.tuple #[.string (bs (cutText p t).1), .int .i64 (cutText p t).2.1, .int .i64 (cutText p t).2.2]) := by
  unfold Gives
  have hsz : (bs t).size = t.length := rfl
  by_cases h1 : p < 0
  · have HC := Lib.hid (cut_any (t := t) h1)
    go_enter Try.func64, Try.ntmps64
    go_wp2
    go_ret3
    exact ⟨by rw [HC.out]; rfl, by (repeat (first | (with_reducible refine bset ?_ (by first | (simp; done) | (simp; omega)) _) | (with_reducible refine balloc ?_ _) | (with_reducible refine bdrew ?_) | with_reducible exact Below.refl _ _ | (refine bthen ?_ (by with_reducible assumption)) | (refine bthen ?_ (by assumption)) | exact Below.refl _ _))⟩
  · by_cases h2 : p < t.length
    · have HC := Lib.hid (cut_down h1 h2)
      obtain ⟨k, rfl⟩ := Int.eq_ofNat_of_zero_le (Int.not_lt.1 h1)
      have i1 : (k : Int) ≤ (bs t).size := by rw [hsz]; omega
      have i2 : (k : Int) < (bs t).size := by rw [hsz]; omega
      go_enter Try.func64, Try.ntmps64
      go_wp2
      go_ret3
      refine ⟨?_, by (repeat (first | (with_reducible refine bset ?_ (by first | (simp; done) | (simp; omega)) _) | (with_reducible refine balloc ?_ _) | (with_reducible refine bdrew ?_) | with_reducible exact Below.refl _ _ | (refine bthen ?_ (by with_reducible assumption)) | (refine bthen ?_ (by assumption)) | exact Below.refl _ _))⟩
      rw [HC.out, Int.toNat_natCast, ← bs_take]
      rfl
    · have HC := Lib.hid (cut_all h1 h2)
      have i2 : ¬ p < ((bs t).size : Int) := by rw [hsz]; omega
      go_enter Try.func64, Try.ntmps64
      go_wp2
      go_ret3
      exact ⟨by rw [HC.out]; rfl, by (repeat (first | (with_reducible refine bset ?_ (by first | (simp; done) | (simp; omega)) _) | (with_reducible refine balloc ?_ _) | (with_reducible refine bdrew ?_) | with_reducible exact Below.refl _ _ | (refine bthen ?_ (by with_reducible assumption)) | (refine bthen ?_ (by assumption)) | exact Below.refl _ _))⟩
end Go.Proofs.Ytnehiflandjkoaa
