import Derived.Test.YtnehiflandjkoaaS6
import Derived.Test.YtnehiflandjkoaaE3
import Derived.Test.YtnehiflandjkoaaMod4
set_option linter.unusedSimpArgs false
set_option linter.unusedVariables false
namespace Go.Proofs.Ytnehiflandjkoaa
open Go.RowKit M
namespace M
/-- a number out of a code -/
def atOf (l : Bs) (at_ : Nat) (most : Int) : Int := if most ≤ 1 ∨ l = [] then 0 else ((l.getD (at_ % l.length) 0).toNat : Int) % most
end M
theorem neq_Frame (q : Int) (t : ByteArray) (w : World) : (binOp .neq 24 (.agg #[.int .i64 q, .string t]) (.agg #[.int .i64 q, .string t])).run Try.prog w = .ok (.bool false) w := by
  go_simp
theorem neq_FrameOut (q z c : Int) (t : ByteArray) (w : World) : (binOp .neq 30 (.agg #[.int .i64 q, .string t, .int .i64 z, .int .i64 c]) (.agg #[.int .i64 q, .string t, .int .i64 z, .int .i64 c])).run Try.prog w = .ok (.bool false) w := by
  go_simp
theorem atOf_rng (l : Bs) (a : Nat) (most : Int) : 0 ≤ atOf l a most ∧ (atOf l a most < most ∨ atOf l a most = 0) := by
  unfold atOf
  by_cases h : most ≤ 1 ∨ l = []
  · rw [if_pos h]; exact ⟨by omega, .inr rfl⟩
  · rw [if_neg h]
    have hm : 1 < most := by omega
    exact ⟨Int.emod_nonneg _ (by omega), .inl (Int.emod_lt_of_pos _ (by omega))⟩
set_option maxRecDepth 100000 in
set_option maxHeartbeats 2000000 in
theorem lwAt_l (v : Value) (l : List UInt8) (hlen : l.length ≤ 1048576) (a : Nat) (ha : a ≤ 1000) (most : Int) (hm : -9223372036854775808 ≤ most ∧ most ≤ 9223372036854775807) (w : World) (hr : Rd w 1 v l.length (cb l)) :
    Gives Try.prog 16 #[v, .int .i64 a, .int .i64 most] w (.int .i64 (atOf l a most)) := by
  unfold Gives
  obtain ⟨A, cap, rfl, hn, hcap, hform⟩ := hr.form
  by_cases h1 : most ≤ 1
  · have HE : Hid (atOf l a most = 0) := Lib.hid (by unfold atOf; rw [if_pos (.inl h1)])
    clear hform hr
    go_enter Try.func16, Try.ntmps16
    go_wp2
    go_ret
    exact ⟨by rw [HE.out]; rfl, by (repeat (first | (with_reducible refine bset ?_ (by first | (simp; done) | (simp; omega)) _) | (with_reducible refine balloc ?_ _) | (with_reducible refine bdrew ?_) | with_reducible exact Below.refl _ _ | (refine bthen ?_ (by with_reducible assumption)) | (refine bthen ?_ (by assumption)) | exact Below.refl _ _))⟩
  · by_cases h0 : l = []
    · subst h0
      have HE : Hid (atOf [] a most = 0) := Lib.hid (by unfold atOf; rw [if_pos (.inr rfl)])
      have hd : decide (most ≤ 1) = false := by simpa using h1
      clear hform hr
      go_enter Try.func16, Try.ntmps16
      go_wp2
      go_ret
      exact ⟨by rw [HE.out]; rfl, by (repeat (first | (with_reducible refine bset ?_ (by first | (simp; done) | (simp; omega)) _) | (with_reducible refine balloc ?_ _) | (with_reducible refine bdrew ?_) | with_reducible exact Below.refl _ _ | (refine bthen ?_ (by with_reducible assumption)) | (refine bthen ?_ (by assumption)) | exact Below.refl _ _))⟩
    · have hpos : 0 < l.length := by
        cases l with
        | nil => exact absurd rfl h0
        | cons x y => simp
      have hd : decide (most ≤ 1) = false := by simpa using h1
      have hd2 : ((l.length : Int) == 0) = false := by simp; exact h0
      obtain ⟨b, off, rfl, hc⟩ := hform hpos
      have hml : a % l.length < l.length := Nat.mod_lt _ hpos
      have HE0 : atOf l a most = (l[a % l.length].toNat : Int) % most := by
        unfold atOf
        rw [if_neg (by rintro (h | h); exact h1 h; exact h0 h), List.getD_eq_getElem?_getD, List.getElem?_eq_getElem hml]; rfl
      have hmi : (a : Int) % (l.length : Int) = ((a % l.length : Nat) : Int) := by simp
      generalize hj : a % l.length = j at *
      have hcell := hc j (.int .u8 l[j].toNat) (by unfold cb; rw [List.getElem?_map, List.getElem?_eq_getElem hml]; rfl)
      have hmi1 : (j : Int) < l.length := by omega
      have hby0 : 0 ≤ (l[j].toNat : Int) := by omega
      have hby : (l[j].toNat : Int) < 256 := by have := l[j].toNat_lt; omega
      generalize (l[j].toNat : Int) = by_ at *
      have HE := Lib.hid HE0
      clear HE0
      clear hform hr hc h0
      have hnz : ¬ (l.length : Int) = 0 := by omega
      have hmz : ¬ most = 0 := by omega
      go_enter Try.func16, Try.ntmps16
      go_wp2
      go_ret
      exact ⟨by rw [HE.out]; rfl, by (repeat (first | (with_reducible refine bset ?_ (by first | (simp; done) | (simp; omega)) _) | (with_reducible refine balloc ?_ _) | (with_reducible refine bdrew ?_) | with_reducible exact Below.refl _ _ | (refine bthen ?_ (by with_reducible assumption)) | (refine bthen ?_ (by assumption)) | exact Below.refl _ _))⟩

set_option maxRecDepth 100000 in
set_option maxHeartbeats 2000000 in
theorem lwFrames_same (fs : List Frm) (va vb : Value) (w : World) (ha : Rd w 2 va fs.length (flat encFrm fs)) (hb : Rd w 2 vb fs.length (flat encFrm fs)) :
    Gives Try.prog 15 #[va, vb] w (.bool true) := by
  unfold Gives
  obtain ⟨A1, c1, rfl, hn1, hc1, hf1⟩ := ha.form
  obtain ⟨A2, c2, rfl, hn2, hc2, hf2⟩ := hb.form
  unfold maxLen at hc1 hc2
  have hne : ((fs.length : Int) != fs.length) = false := by simp
  have H1 := Lib.hid hf1
  have H2 := Lib.hid hf2
  clear ha hb hf1 hf2
  go_enter Try.func15, Try.ntmps15
  go_wp2
  go_loopw [5] (fun i wr => ∃ k : Nat, k ≤ fs.length ∧ i = .int .i64 k ∧ Below w.heap.size w wr) (fun i _ => fs.length - (intOf i).toNat)
  case atStart => exact ⟨0, Nat.zero_le _, rfl, Below.refl _ _⟩
  case round =>
    obtain ⟨k, hk, rfl, BB⟩ := hrel
    by_cases hlt : k < fs.length
    · obtain ⟨b1, o1, rfl, q1⟩ := H1.out (by omega)
      obtain ⟨b2, o2, rfl, q2⟩ := H2.out (by omega)
      have hi : (k : Int) < fs.length := by omega
      have cells : ∀ (b off : Nat), (∀ j u, (flat encFrm fs)[j]? = some u → w.cell? ⟨b, off + j, none⟩ = some u) → ∀ x : Later wr, x.now.cell? ⟨b, off + k * 2, none⟩ = some (.int .i64 fs[k].1) ∧ x.now.cell? ⟨b, off + k * 2 + 1, none⟩ = some (.string fs[k].2) := fun b off hc x => by
        have e0 := flat_get encFrm_len fs k 0 fs[k] (List.getElem?_eq_getElem hlt) (by omega)
        have e1 := flat_get encFrm_len fs k 1 fs[k] (List.getElem?_eq_getElem hlt) (by omega)
        have h0 := hc _ _ (e0.trans rfl)
        have h1 := hc _ _ (e1.trans rfl)
        have bb := bthen BB x.ok
        rw [← (bcell bb).1 _ _ (World.block_lt_of_cell? w _ h0)] at h0
        rw [← (bcell bb).1 _ _ (World.block_lt_of_cell? w _ h1)] at h1
        exact ⟨h0, by rw [Nat.add_assoc]; exact h1⟩
      have l0 := fun x => (cells b1 o1 q1 x).1
      have l1 := fun x => (cells b1 o1 q1 x).2
      have l2 := fun x => (cells b2 o2 q2 x).1
      have l3 := fun x => (cells b2 o2 q2 x).2
      have hnq := neq_Frame
      generalize fs[k] = f at *
      obtain ⟨fq, ft⟩ := f
      dsimp only at l0 l1 l2 l3
      clear q1 q2 cells
      go_wp2
      refine wp_region_later (by kernel_rfl) (by kernel_rfl) ?_
      repeat (go_big_quiet_step (fail "no call"))
      refine wpQuiet_nil ?_
      rintro _ ⟨y, rfl⟩
      have hy := y.ok
      clear l0 l1 l2 l3
      generalize y.now = w5 at *
      have BB5 := bthen BB hy
      clear BB hy
      go_wp2
      go_roundw
      case rel => exact ⟨k + 1, by omega, by go_num, BB5⟩
      case measure => simp [intOf]; omega
    · obtain rfl : k = fs.length := by omega
      go_wp2
      go_ret
      exact ⟨rfl, BB⟩
end Go.Proofs.Ytnehiflandjkoaa
