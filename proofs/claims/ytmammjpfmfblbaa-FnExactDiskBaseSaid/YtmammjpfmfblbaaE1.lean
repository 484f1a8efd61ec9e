import Derived.Test.YtmammjpfmfblbaaC9
import Derived.Test.YtmammjpfmfblbaaMod3
import Derived.Test.YtmammjpfmfblbaaB11
set_option linter.unusedSimpArgs false
set_option linter.unusedVariables false
namespace Go.Proofs.Ytmammjpfmfblbaa
open Go.RowKit M

theorem own_far {w : World} {base e s n : Nat} {v : Value} {xs : List Value} (h : w.ownsRow base e s v n xs) {b j : Nat} (hb : v.ownBlock ≠ some b) (u : Value) : (w.setCell ⟨b, j, none⟩ u).ownsRow base e s v n xs :=
  h.kept (grown_set (World.grownBy.refl w _) u) (.inr hb)

/-! ### lists of frames: compared, marked -/
def encFrm (f : Frm) : List Value := [.int .i64 f.1, .string f.2]
theorem encFrm_len (f : Frm) : (encFrm f).length = 2 := rfl
theorem info_Frame : (Try.prog.info? 49).map (fun i => (i.zero, i.size, i.bytes)) = some (some (.agg #[.int .i64 0, .string ⟨#[]⟩]), 2, 24) := by kernel_rfl

set_option maxHeartbeats 800000 in
theorem eqFrameS_same (fs : List Frm) (va vb : Value) (w : World) (ha : Rd w 2 va fs.length (flat encFrm fs)) (hb : Rd w 2 vb fs.length (flat encFrm fs)) :
    Gives Try.prog 37 #[va, vb] w (.bool true) := by
  obtain ⟨A, ca, rfl, hna, hca, hfa⟩ := ha.form
  obtain ⟨B, cb, rfl, hnb, hcb, hfb⟩ := hb.form
  unfold Gives
  unfold maxLen at *
  go_enter Try.func37, Try.ntmps37
  go_wp2
  go_loopw [5] (fun i wr => ∃ k : Nat, k ≤ fs.length ∧ i = .int .i64 k ∧ Below w.heap.size w wr) (fun i _ => fs.length - (intOf i).toNat)
  case atStart => exact ⟨0, Nat.zero_le _, rfl, Below.refl _ _⟩
  case round =>
    obtain ⟨k, hk, rfl, hbw⟩ := hrel
    by_cases hlt : k < fs.length
    · obtain ⟨ba, oa, rfl, hcella⟩ := hfa (by omega)
      obtain ⟨bb, ob, rfl, hcellb⟩ := hfb (by omega)
      have hkI : (k : Int) < (fs.length : Int) := by omega
      have ga : ∀ j u, j < 2 → (encFrm fs[k])[j]? = some u → ∀ x : Later wr, x.now.cell? ⟨ba, oa + k * 2 + j, none⟩ = some u := fun j u hj hu x => by
        rw [Nat.add_assoc]; exact Rd.at_ (n := 0) (s := 0) (cap := 0) hcella hbw _ u (by rw [flat_get encFrm_len fs k j fs[k] (by simp [hlt]) hj]; exact hu) x
      have gb : ∀ j u, j < 2 → (encFrm fs[k])[j]? = some u → ∀ x : Later wr, x.now.cell? ⟨bb, ob + k * 2 + j, none⟩ = some u := fun j u hj hu x => by
        rw [Nat.add_assoc]; exact Rd.at_ (n := 0) (s := 0) (cap := 0) hcellb hbw _ u (by rw [flat_get encFrm_len fs k j fs[k] (by simp [hlt]) hj]; exact hu) x
      have a0 := ga 0 _ (by omega) rfl
      have a1 := ga 1 _ (by omega) rfl
      have b0 := gb 0 _ (by omega) rfl
      have b1 := gb 1 _ (by omega) rfl
      clear ga gb
      simp only [Nat.add_zero] at a0 b0
      generalize fs[k] = xa at *
      go_wp2
      refine wp_region_later (by kernel_rfl) (by kernel_rfl) ?_
      repeat (go_big_quiet_step ((go_at_call 58; exact Gives.later _ (eqFrame_same xa.1 xa.2 _))))
      refine wpQuiet_nil ?_
      rintro _ ⟨x, rfl⟩
      have hx := x.ok
      go_wp2
      go_roundw
      case rel => exact ⟨k + 1, by omega, by go_num, bthen hbw hx⟩
      case measure => simp [intOf]; omega
    · go_wp2
      go_ret
      exact ⟨rfl, hbw⟩

def fmark (k j : Nat) : Value := if j % 2 = 0 then .int .i64 (k + j : Nat) else .string (bs (mtext (k + j)))
def fmarks (k m : Nat) : List Value := (List.range m).map (fmark k)
theorem fmarks_length (k m : Nat) : (fmarks k m).length = m := by simp [fmarks]
theorem fmarks_get {k m i : Nat} (h : i < m) : (fmarks k m)[i]? = some (fmark k i) := by simp [fmarks, h]
def fmarking (k m : Nat) (xs : List Value) : List Value := fmarks k m ++ xs.drop m
theorem fmarking_length {k m : Nat} {xs : List Value} (h : m ≤ xs.length) : (fmarking k m xs).length = xs.length := by simp [fmarking, fmarks_length]; omega
theorem fmarking_set {k m : Nat} {xs : List Value} (h : m < xs.length) : (fmarking k m xs).set m (fmark k m) = fmarking k (m + 1) xs := by
  unfold fmarking
  rw [List.set_append_right _ _ (by simp [fmarks_length]), fmarks_length, Nat.sub_self]
  rw [List.drop_eq_getElem_cons h]
  simp only [fmarks, List.range_succ, List.map_append, List.map_cons, List.map_nil, List.append_assoc, List.cons_append, List.nil_append]
  rfl
theorem fmarking_zero (k : Nat) (xs : List Value) : fmarking k 0 xs = xs := by simp [fmarking, fmarks]
theorem fmarking_all {k m : Nat} {xs : List Value} (h : xs.length = m) : fmarking k m xs = fmarks k m := by
  unfold fmarking; rw [List.drop_eq_nil_of_le (by omega), List.append_nil]
theorem fmark_even (k j : Nat) : fmark k (j * 2) = .int .i64 (k + j * 2 : Nat) := by unfold fmark; rw [if_pos (by omega)]
theorem fmark_odd (k j : Nat) : fmark k (j * 2 + 1) = .string (bs (mtext (k + (j * 2 + 1)))) := by unfold fmark; rw [if_neg (by omega)]
theorem fmark_step {w wr w1 : World} {base e s g n cap k m : Nat} {xs : List Value} (HO : wr.ownsRow base e s (.slice (some ⟨g, 0, none⟩) n cap) n (fmarking k m xs)) (HG : w.grownBy wr (some g))
    (hb1 : Below wr.heap.size wr w1) (hl : xs.length = n * s) (hm : m < n * s) :
    (∃ u, w1.cell? ⟨g, m, none⟩ = some u) ∧ w1.frozen? ⟨g, m, none⟩ = false ∧
    (∀ u, u = fmark k m → (w1.setCell ⟨g, m, none⟩ u).ownsRow base e s (.slice (some ⟨g, 0, none⟩) n cap) n (fmarking k (m + 1) xs) ∧
      w.grownBy (w1.setCell ⟨g, m, none⟩ u) (some g)) := by
  have O1 := own_keep HO hb1
  refine ⟨?_, O1.frozenAt m, ?_⟩
  · rw [O1.cellAt m hm]
    exact ⟨_, List.getElem?_eq_getElem (by rw [fmarking_length (by omega)]; omega)⟩
  · rintro u rfl
    have h := (O1.stored m (fmark k m)).1
    rw [fmarking_set (by omega)] at h
    exact ⟨h, grown_set (grown_below HG hb1) _⟩

set_option maxHeartbeats 800000 in
theorem markFrameS_l (w : World) (base : Nat) (v : Value) (n k : Nat) (xs : List Value) (hown : w.ownsRow base 49 2 v n xs) (hk : k + n * 2 < 9223372036854775807) :
    Calls Try.prog 38 #[v, .int .i64 k] w fun en w' => en = .returned (.int .i64 (k + n * 2 : Nat)) ∧ w'.ownsRow base 49 2 v n (fmarks k (n * 2)) ∧ w.grownBy w' v.ownBlock := by
  have hxs := hown.1
  obtain ⟨A, cap, rfl, hn, hcap, _⟩ := (Rd.of_own hown).form
  unfold maxLen at hcap
  go_enter Try.func38, Try.ntmps38
  go_wp2
  go_loopw [1, 5] (fun x i wr => ∃ j : Nat, j ≤ n ∧ i = .int .i64 j ∧ x = .int .i64 (k + j * 2 : Nat) ∧ Hid (wr.ownsRow base 49 2 (.slice A n cap) n (fmarking k (j * 2) xs)) ∧ Hid (w.grownBy wr (Value.slice A n cap).ownBlock)) (fun _ i _ => n - (intOf i).toNat)
  case atStart => exact ⟨0, Nat.zero_le _, rfl, by simp, by rw [Nat.zero_mul, fmarking_zero]; exact Lib.hid hown, Lib.hid (World.grownBy.refl _ _)⟩
  case round =>
    obtain ⟨j, hj, rfl, rfl, HO, HG⟩ := hrel
    by_cases hlt : j < n
    · obtain ⟨g, cap', hv, _, _⟩ := HO.out.form (by omega)
      injection hv with hv1 hv2 hv3
      subst hv1 hv3
      clear hv2 hown
      have hjI : (j : Int) < (n : Int) := by omega
      have hxs' := Lib.hid hxs
      clear hxs
      obtain ⟨⟨u0, c0⟩, f0, S0⟩ := fmark_step HO.out HG.out (Below.refl _ _) hxs'.out (by omega)
      obtain ⟨O0, G0⟩ := S0 (.int .i64 (k + j * 2 : Nat)) (fmark_even k j).symm
      have HO0 := Lib.hid O0
      have HG0 := Lib.hid G0
      clear S0 O0 G0 HO HG
      go_wp2_with fail
      refine (markText_any _ (by omega) _).use.mono ?_
      rintro e w2 ⟨rfl, hb2⟩
      obtain ⟨⟨u1, c1⟩, f1, S1⟩ := fmark_step HO0.out HG0.out hb2 hxs'.out (by omega)
      obtain ⟨O1, G1⟩ := S1 (.string (bs (mtext (k + j * 2 + 1)))) (by rw [fmark_odd]; rfl)
      have HO1 := Lib.hid O1
      have HG1 := Lib.hid G1
      clear S1 O1 G1 HO0 HG0 c0 f0
      go_wp2_with fail
      go_roundw
      case rel => exact ⟨j + 1, by omega, by go_num, congrArg (Value.int .i64) (by omega), by rw [show (j + 1) * 2 = j * 2 + 1 + 1 by omega]; exact HO1, HG1⟩
      case measure => simp [intOf]; omega
    · obtain rfl : j = n := by omega
      go_wp2
      go_ret
      have hx := HO.out
      rw [fmarking_all hown.1] at hx
      exact ⟨rfl, hx, HG.out⟩

set_option maxHeartbeats 800000 in
theorem heldFrameS_l (w : World) (v : Value) (n k : Nat) (hrd : Rd w 2 v n (fmarks k (n * 2))) (hk : k + n * 2 < 9223372036854775807) :
    Gives Try.prog 39 #[v, .int .i64 k] w (.int .i64 (k + n * 2 : Nat)) := by
  obtain ⟨A, cap, rfl, hn, hcap, hA⟩ := hrd.form
  unfold maxLen at hcap
  unfold Gives
  go_enter Try.func39, Try.ntmps39
  go_wp2
  go_loopw [1, 5] (fun x i wr => ∃ j : Nat, j ≤ n ∧ i = .int .i64 j ∧ x = .int .i64 (k + j * 2 : Nat) ∧ Below w.heap.size w wr) (fun _ i _ => n - (intOf i).toNat)
  case atStart => exact ⟨0, Nat.zero_le _, rfl, by simp, Below.refl _ _⟩
  case round =>
    obtain ⟨j, hj, rfl, rfl, hb⟩ := hrel
    by_cases hlt : j < n
    · obtain ⟨b, o, rfl, hcell⟩ := hA (by omega)
      have hjI : (j : Int) < (n : Int) := by omega
      have g0 : ∀ y : Later wr, y.now.cell? ⟨b, o + j * 2, none⟩ = some (.int .i64 (k + j * 2 : Nat)) := fun y => by rw [← fmark_even]; exact Rd.at_ (n := 0) (s := 0) (cap := 0) hcell hb (j * 2) _ (fmarks_get (by omega)) y
      have g1 : ∀ y : Later wr, y.now.cell? ⟨b, o + j * 2 + 1, none⟩ = some (.string (bs (mtext (k + j * 2 + 1)))) := fun y => by rw [show k + j * 2 + 1 = k + (j * 2 + 1) by omega, ← fmark_odd, Nat.add_assoc]; exact Rd.at_ (n := 0) (s := 0) (cap := 0) hcell hb (j * 2 + 1) _ (fmarks_get (by omega)) y
      have e0 := g0 ⟨wr, Below.refl _ _⟩
      dsimp only at e0
      clear g0
      go_wp2
      refine wp_region_later (by kernel_rfl) (by kernel_rfl) ?_
      repeat (go_big_quiet_step ((go_at_call 71; exact Gives.later _ (markText_any _ (by omega) _))))
      refine wpQuiet_nil ?_
      rintro _ ⟨y, rfl⟩
      have hb2 := bthen hb y.ok
      clear g1 hb e0
      generalize y.now = w2 at *
      simp only [beq_self_eq_true, Bool.not_true]
      go_wp2
      go_roundw
      case rel => exact ⟨j + 1, by omega, by go_num, congrArg (Value.int .i64) (by omega), hb2⟩
      case measure => simp [intOf]; omega
    · obtain rfl : j = n := by omega
      go_wp2
      go_ret
      exact ⟨rfl, hb⟩

theorem eqLogOut_same (va vb : Value) (fs : List Frm) (a c : Int) (w : World) (ha : Rd w 2 va fs.length (flat encFrm fs)) (hb : Rd w 2 vb fs.length (flat encFrm fs)) :
    Gives Try.prog 11 #[.agg #[va, .int .i64 a, .int .i64 c], .agg #[vb, .int .i64 a, .int .i64 c]] w (.bool true) := by
  unfold Gives
  have HA := Lib.hid ha
  have HB := Lib.hid hb
  clear ha hb
  go_enter Try.func11, Try.ntmps11
  go_wp2_with (go_at_call 37; refine (eqFrameS_same fs _ _ _ (HA.out.later (by (repeat (first | (with_reducible refine bset ?_ (by first | (simp; done) | (simp; omega)) _) | (with_reducible refine balloc ?_ _) | (with_reducible refine bdrew ?_) | with_reducible exact Below.refl _ _ | (refine bthen ?_ (by with_reducible assumption)) | (refine bthen ?_ (by assumption)) | exact Below.refl _ _)))) (HB.out.later (by (repeat (first | (with_reducible refine bset ?_ (by first | (simp; done) | (simp; omega)) _) | (with_reducible refine balloc ?_ _) | (with_reducible refine bdrew ?_) | with_reducible exact Below.refl _ _ | (refine bthen ?_ (by with_reducible assumption)) | (refine bthen ?_ (by assumption)) | exact Below.refl _ _))))).use.mono ?_; rintro e w1 ⟨rfl, hb1⟩; (apply Blk.use (w := w1) (g := w.heap.size); (focus (apply Blk.lat hb1; (repeat (first | with_reducible assumption | ((with_reducible apply Blk.new'); first | rfl | (simp; done)) | with_reducible apply Blk.set_ | (with_reducible apply Blk.far' (by first | (simp; done) | (simp; omega))) | with_reducible apply Blk.alloc | with_reducible apply Blk.drew)))); intro A1; (try simp only [List.setIfInBounds_toArray, List.set_cons_zero, List.set_cons_succ] at A1); have A1c := A1.cell; have A1f := A1.frozen; have A1s := A1.lt); (apply Blk.use (w := w1) (g := w.heap.size + 1); (focus (apply Blk.lat hb1; (repeat (first | with_reducible assumption | ((with_reducible apply Blk.new'); first | rfl | (simp; done)) | with_reducible apply Blk.set_ | (with_reducible apply Blk.far' (by first | (simp; done) | (simp; omega))) | with_reducible apply Blk.alloc | with_reducible apply Blk.drew)))); intro B1; (try simp only [List.setIfInBounds_toArray, List.set_cons_zero, List.set_cons_succ] at B1); have B1c := B1.cell; have B1f := B1.frozen; have B1s := B1.lt))
  go_ret
  exact ⟨rfl, by (repeat (first | (with_reducible refine bset ?_ (by first | (simp; done) | (simp; omega)) _) | (with_reducible refine balloc ?_ _) | (with_reducible refine bdrew ?_) | with_reducible exact Below.refl _ _ | (refine bthen ?_ (by with_reducible assumption)) | (refine bthen ?_ (by assumption)) | exact Below.refl _ _))⟩
theorem markLogOut_l (w : World) (base : Nat) (v : Value) (p c : Int) (n k : Nat) (xs : List Value) (hown : w.ownsRow base 49 2 v n xs) (hk : k + n * 2 < 9223372036854775807) :
    Calls Try.prog 12 #[.agg #[v, .int .i64 p, .int .i64 c], .int .i64 k] w fun en w' => en = .returned (.int .i64 (k + n * 2 : Nat)) ∧ w'.ownsRow base 49 2 v n (fmarks k (n * 2)) ∧ w.grownBy w' v.ownBlock := by
  go_enter Try.func12, Try.ntmps12
  go_wp2_with (go_at_call 38; refine (markFrameS_l _ _ _ _ _ _ (hown.alloc _) hk).mono ?_; rintro e w1 ⟨rfl, ho1, hg1⟩)
  go_ret
  exact ⟨rfl, ho1, grown_alloc hg1⟩
theorem heldLogOut_l (w : World) (v : Value) (p c : Int) (n k : Nat) (hrd : Rd w 2 v n (fmarks k (n * 2))) (hk : k + n * 2 < 9223372036854775807) :
    Gives Try.prog 13 #[.agg #[v, .int .i64 p, .int .i64 c], .int .i64 k] w (.int .i64 (k + n * 2 : Nat)) := by
  unfold Gives
  have h0 : ¬ ((k + n * 2 : Nat) : Int) < 0 := by omega
  have HR := Lib.hid hrd
  clear hrd
  go_enter Try.func13, Try.ntmps13
  go_wp2_with (go_at_call 39; refine (heldFrameS_l _ _ _ _ (HR.out.later (by (repeat (first | (with_reducible refine bset ?_ (by first | (simp; done) | (simp; omega)) _) | (with_reducible refine balloc ?_ _) | (with_reducible refine bdrew ?_) | with_reducible exact Below.refl _ _ | (refine bthen ?_ (by with_reducible assumption)) | (refine bthen ?_ (by assumption)) | exact Below.refl _ _)))) hk).use.mono ?_; rintro e w1 ⟨rfl, hb1⟩)
  go_ret
  exact ⟨rfl, by (repeat (first | (with_reducible refine bset ?_ (by first | (simp; done) | (simp; omega)) _) | (with_reducible refine balloc ?_ _) | (with_reducible refine bdrew ?_) | with_reducible exact Below.refl _ _ | (refine bthen ?_ (by with_reducible assumption)) | (refine bthen ?_ (by assumption)) | exact Below.refl _ _))⟩
end Go.Proofs.Ytmammjpfmfblbaa
