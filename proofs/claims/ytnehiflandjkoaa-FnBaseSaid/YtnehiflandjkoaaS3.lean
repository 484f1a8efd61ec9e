import Derived.Test.YtnehiflandjkoaaS2
import Derived.BigRegion
import Derived.Deep.DeepCutAuto
set_option linter.unusedSimpArgs false
set_option linter.unusedVariables false
namespace Go.Proofs.Ytnehiflandjkoaa
open Go.RowKit M

def edges : List Int := [0, 1, -1, 2, 1000, 1001, 2147483648, 2147483647, -2147483648, 4611686018427387904, 9223372036854775807, -9223372036854775808, 1000000, 1000001]
set_option maxRecDepth 100000 in
set_option maxHeartbeats 2000000 in
/-- a number at a limit -/
theorem edge_s (g : Nat) (v : Value) (l : List UInt8) (sz : Int) (w : World) (hs : Src w g v l sz) :
    Calls Try.prog 49 #[.pointer (some ⟨g, 0, none⟩)] w (Drawn w g v l sz fun r => ∃ n : Int, r = .int .i64 n ∧ -9223372036854775808 ≤ n ∧ n ≤ 9223372036854775807) := by
  have HS := Lib.hid hs
  have hgl := hs.lt
  clear hs
  go_enter Try.func49, Try.ntmps49
  go_wp2_with fail
  refine (n_s g v l sz 14 (by omega) _ (HS.out.later (by (repeat (first | (with_reducible refine bset ?_ (by first | (simp; done) | (simp; omega)) _) | (with_reducible refine balloc ?_ _) | (with_reducible refine bdrew ?_) | with_reducible exact Below.refl _ _ | (refine bthen ?_ (by with_reducible assumption)) | (refine bthen ?_ (by assumption)) | exact Below.refl _ _))))).mono ?_
  rintro e w1 ⟨_, rfl, ⟨c, rfl, h0, h1⟩, S1, G1⟩
  have h14 : c < 14 := by omega
  obtain ⟨k, rfl⟩ := Int.eq_ofNat_of_zero_le h0
  have hk : k < edges.length := by show k < 14; omega
  have B0 : Blk w1 w.heap.size 2 (edges.map (Value.int .i64)).toArray := Blk.grown (Blk.new' rfl) G1 (by omega)
  have hc : w1.cell? ⟨w.heap.size, k, none⟩ = some (.int .i64 edges[k]) := B0.at (by simp [hk])
  have hr : ∀ n ∈ edges, -9223372036854775808 ≤ n ∧ n ≤ 9223372036854775807 := by decide
  have hr' := hr _ (List.getElem_mem hk)
  have hG := gr_trans (gr_below (bnew w _) (some g)) G1
  clear hr B0 h1
  generalize edges[k] = n at *
  have HS1 := Lib.hid S1
  have HG := Lib.hid hG
  clear S1 G1 hG
  go_wp2
  go_ret
  exact ⟨_, rfl, ⟨n, rfl, hr'⟩, HS1.out, HG.out⟩

theorem conv_by1 (w : World) (b : UInt8) : (convert 22 9 (.slice (some ⟨w.heap.size, 0, none⟩) 1 1)).run Try.prog (w.alloc (.cells #[.int .u8 b.toNat] 5)) = .ok (.string (bs [b])) (w.alloc (.cells #[.int .u8 b.toNat] 5)) := by
  refine run_convert_bytes_back (P := Try.prog) _ 22 9 5 ⟨w.heap.size, 0, none⟩ 1 [b] Try.underlying22 Try.underlying5 Try.underlying9 ?_
  intro j hj
  obtain rfl : j = 0 := by simp at hj; omega
  simp [World.cell?_alloc_new, Addr.add]
def spoils : Bs := [32, 10, 48, 97, 45, 110, 44, 58, 93, 255, 40, 120, 126, 49, 128, 225, 59]
theorem spoil_at (j : Nat) (hj : j < 17) : ∃ b : UInt8, ∀ w, (Instr.index 9 (.string ⟨#[32, 10, 48, 97, 45, 110, 44, 58, 93, 255, 40, 120, 126, 49, 128, 225, 59]⟩) (.int .i64 (j : Int))).run Try.prog w = .ok (.int .u8 b.toNat) w := by
  refine ⟨spoils.getD j 0, fun w => ?_⟩
  have h : j = 0 ∨ j = 1 ∨ j = 2 ∨ j = 3 ∨ j = 4 ∨ j = 5 ∨ j = 6 ∨ j = 7 ∨ j = 8 ∨ j = 9 ∨ j = 10 ∨ j = 11 ∨ j = 12 ∨ j = 13 ∨ j = 14 ∨ j = 15 ∨ j = 16 := by omega
  rcases h with rfl | rfl | rfl | rfl | rfl | rfl | rfl | rfl | rfl | rfl | rfl | rfl | rfl | rfl | rfl | rfl | rfl <;> (show _ = _; kernel_rfl)
theorem w3bel {a b c : World} (h : b = c) (h2 : Below a.heap.size a c) : Below a.heap.size a b := h ▸ h2
theorem size_cut (t : ByteArray) (a b : Nat) : (t.extract a b).size ≤ b - a ∧ (t.extract a b).size ≤ t.size := by
  rw [ByteArray.size_extract]; omega
set_option maxRecDepth 100000 in
set_option maxHeartbeats 4000000 in
/-- a text that is a little changed -/
theorem spoil_s (g : Nat) (v : Value) (l : List UInt8) (sz : Int) (t : ByteArray) (ht : t.size ≤ 1000000) (w : World) (hs : Src w g v l sz) :
    Calls Try.prog 48 #[.pointer (some ⟨g, 0, none⟩), .string t] w (Drawn w g v l sz fun r => ∃ s : ByteArray, r = .string s ∧ s.size ≤ t.size + 1) := by
  have HS := Lib.hid hs
  have hgl := hs.lt
  clear hs
  go_enter Try.func48, Try.ntmps48
  go_wp2_with fail
  refine (n_s g v l sz _ (by omega) _ HS.out).mono ?_
  rintro e w1 ⟨_, rfl, ⟨c, rfl, h0, h1⟩, S1, G1⟩
  have hcl : c ≤ t.size := by omega
  obtain ⟨k, rfl⟩ := Int.eq_ofNat_of_zero_le h0
  have HS1 := Lib.hid S1
  have HG1 := Lib.hid G1
  clear S1 G1 h1 HS
  go_wp2_with fail
  refine (n_s g v l sz 17 (by omega) _ HS1.out).mono ?_
  rintro e w2 ⟨_, rfl, ⟨c, rfl, h2, h3⟩, S2, G2⟩
  have h17 : c < 17 := by omega
  obtain ⟨j, rfl⟩ := Int.eq_ofNat_of_zero_le h2
  have HS2 := Lib.hid S2
  have HG2 := Lib.hid (gr_trans HG1.out G2)
  clear S2 G2 h3 HS1 HG1
  obtain ⟨b, hidx⟩ := spoil_at j (by omega)
  have hcv := fun w => conv_by1 w b
  have hk1 : (k : Int) ≤ t.size := hcl
  go_upto_region 3 with fail
  refine wp_world ?_
  intro w3 hw3
  have HS3 := Lib.hid (HS2.out.later (w' := w3) (by rw [hw3]; (repeat (first | (with_reducible refine bset ?_ (by first | (simp; done) | (simp; omega)) _) | (with_reducible refine balloc ?_ _) | (with_reducible refine bdrew ?_) | with_reducible exact Below.refl _ _ | (refine bthen ?_ (by with_reducible assumption)) | (refine bthen ?_ (by assumption)) | exact Below.refl _ _))))
  have HG3 := Lib.hid (gr_trans HG2.out (gr_below (w3bel hw3 (by (repeat (first | (with_reducible refine bset ?_ (by first | (simp; done) | (simp; omega)) _) | (with_reducible refine balloc ?_ _) | (with_reducible refine bdrew ?_) | with_reducible exact Below.refl _ _ | (refine bthen ?_ (by with_reducible assumption)) | (refine bthen ?_ (by assumption)) | exact Below.refl _ _)))) _))
  clear hw3 HS2 HG2 hidx hcv
  have hfl : ((k : Int) == (t.size : Int)) = decide (k = t.size) := by
    rw [Bool.eq_iff_iff]; simp; omega
  by_cases he : k = t.size
  · have he1 : ((k : Int) == (t.size : Int)) = true := by rw [hfl]; simpa using he
    clear hfl
    go_upto_region 4 with fail
    go_region
    all_goals
      go_wp2
      refine bp_world ?_
      intro w9 hw9
      have HS9 := Lib.hid (HS3.out.later (w' := w9) (w3bel hw9 (by (repeat (first | (with_reducible refine bset ?_ (by first | (simp; done) | (simp; omega)) _) | (with_reducible refine balloc ?_ _) | (with_reducible refine bdrew ?_) | with_reducible exact Below.refl _ _ | (refine bthen ?_ (by with_reducible assumption)) | (refine bthen ?_ (by assumption)) | exact Below.refl _ _)))))
      have HG9 := Lib.hid (gr_trans HG3.out (gr_below (w3bel hw9 (by (repeat (first | (with_reducible refine bset ?_ (by first | (simp; done) | (simp; omega)) _) | (with_reducible refine balloc ?_ _) | (with_reducible refine bdrew ?_) | with_reducible exact Below.refl _ _ | (refine bthen ?_ (by with_reducible assumption)) | (refine bthen ?_ (by assumption)) | exact Below.refl _ _)))) _))
      clear hw9
      go_ret
      exact ⟨_, rfl, ⟨_, rfl, by simp [ByteArray.size_append, ByteArray.size_extract, size_bs]; try omega⟩, HS9.out, HG9.out⟩
  · have he1 : ((k : Int) == (t.size : Int)) = false := by rw [hfl]; simpa using he
    have hk2 : (k : Int) < t.size := by omega
    clear hfl
    go_wp2_with fail
    refine (one_s g v l sz 3 (by omega) _ HS3.out).mono ?_
    rintro e w4 ⟨_, rfl, ⟨b3, rfl⟩, S4, G4⟩
    have HS4 := Lib.hid S4
    have HG4 := Lib.hid (gr_trans HG3.out G4)
    clear S4 G4 HS3 HG3
    cases b3
    · go_wp2_with fail
      refine (one_s g v l sz 2 (by omega) _ HS4.out).mono ?_
      rintro e w5 ⟨_, rfl, ⟨b2, rfl⟩, S5, G5⟩
      have HS5 := Lib.hid S5
      have HG5 := Lib.hid (gr_trans HG4.out G5)
      clear S5 G5 HS4 HG4
      cases b2
      · go_wp2
        go_region
        all_goals
          go_wp2
          refine bp_world ?_
          intro w9 hw9
          have HS9 := Lib.hid (HS5.out.later (w' := w9) (w3bel hw9 (by (repeat (first | (with_reducible refine bset ?_ (by first | (simp; done) | (simp; omega)) _) | (with_reducible refine balloc ?_ _) | (with_reducible refine bdrew ?_) | with_reducible exact Below.refl _ _ | (refine bthen ?_ (by with_reducible assumption)) | (refine bthen ?_ (by assumption)) | exact Below.refl _ _)))))
          have HG9 := Lib.hid (gr_trans HG5.out (gr_below (w3bel hw9 (by (repeat (first | (with_reducible refine bset ?_ (by first | (simp; done) | (simp; omega)) _) | (with_reducible refine balloc ?_ _) | (with_reducible refine bdrew ?_) | with_reducible exact Below.refl _ _ | (refine bthen ?_ (by with_reducible assumption)) | (refine bthen ?_ (by assumption)) | exact Below.refl _ _)))) _))
          clear hw9
          go_ret
          exact ⟨_, rfl, ⟨_, rfl, by simp [ByteArray.size_append, ByteArray.size_extract, size_bs]; try omega⟩, HS9.out, HG9.out⟩
      · go_wp2
        go_region
        all_goals
          go_wp2
          refine bp_world ?_
          intro w9 hw9
          have HS9 := Lib.hid (HS5.out.later (w' := w9) (w3bel hw9 (by (repeat (first | (with_reducible refine bset ?_ (by first | (simp; done) | (simp; omega)) _) | (with_reducible refine balloc ?_ _) | (with_reducible refine bdrew ?_) | with_reducible exact Below.refl _ _ | (refine bthen ?_ (by with_reducible assumption)) | (refine bthen ?_ (by assumption)) | exact Below.refl _ _)))))
          have HG9 := Lib.hid (gr_trans HG5.out (gr_below (w3bel hw9 (by (repeat (first | (with_reducible refine bset ?_ (by first | (simp; done) | (simp; omega)) _) | (with_reducible refine balloc ?_ _) | (with_reducible refine bdrew ?_) | with_reducible exact Below.refl _ _ | (refine bthen ?_ (by with_reducible assumption)) | (refine bthen ?_ (by assumption)) | exact Below.refl _ _)))) _))
          clear hw9
          go_ret
          exact ⟨_, rfl, ⟨_, rfl, by simp [ByteArray.size_append, ByteArray.size_extract, size_bs]; try omega⟩, HS9.out, HG9.out⟩
    · go_wp2
      go_region
      all_goals
        go_wp2
        refine bp_world ?_
        intro w9 hw9
        have HS9 := Lib.hid (HS4.out.later (w' := w9) (w3bel hw9 (by (repeat (first | (with_reducible refine bset ?_ (by first | (simp; done) | (simp; omega)) _) | (with_reducible refine balloc ?_ _) | (with_reducible refine bdrew ?_) | with_reducible exact Below.refl _ _ | (refine bthen ?_ (by with_reducible assumption)) | (refine bthen ?_ (by assumption)) | exact Below.refl _ _)))))
        have HG9 := Lib.hid (gr_trans HG4.out (gr_below (w3bel hw9 (by (repeat (first | (with_reducible refine bset ?_ (by first | (simp; done) | (simp; omega)) _) | (with_reducible refine balloc ?_ _) | (with_reducible refine bdrew ?_) | with_reducible exact Below.refl _ _ | (refine bthen ?_ (by with_reducible assumption)) | (refine bthen ?_ (by assumption)) | exact Below.refl _ _)))) _))
        clear hw9
        go_ret
        exact ⟨_, rfl, ⟨_, rfl, by simp [ByteArray.size_append, ByteArray.size_extract, size_bs]; try omega⟩, HS9.out, HG9.out⟩
end Go.Proofs.Ytnehiflandjkoaa
