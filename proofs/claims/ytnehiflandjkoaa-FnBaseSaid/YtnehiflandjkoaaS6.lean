import Derived.Test.YtnehiflandjkoaaS5
import Derived.Test.YtnehiflandjkoaaE2
set_option linter.unusedSimpArgs false
set_option linter.unusedVariables false
namespace Go.Proofs.Ytnehiflandjkoaa
open Go.RowKit M

theorem below_src {w a b : World} {g : Nat} (h : Below w.heap.size w a) (hg : a.grownBy b (some g)) (hw : w.heap.size ≤ g) : Below w.heap.size w b :=
  h.grown hg h.size fun k hk => by injection hk with hk; omega
set_option maxRecDepth 100000 in
set_option maxHeartbeats 2000000 in
theorem drawFrameBytes_s (v : Value) (l : List UInt8) (hlen : l.length ≤ 1048576) (w : World) (hr : Rd w 1 v l.length (cb l)) :
    Calls Try.prog 6 #[v] w fun e w' => ∃ (q : Int) (t : ByteArray), e = .returned (.agg #[.int .i64 q, .string t]) ∧ t.size ≤ 3000 ∧ -9223372036854775808 ≤ q ∧ q ≤ 9223372036854775807 ∧ Below w.heap.size w w' := by
  have HR := Lib.hid hr
  clear hr
  go_enter Try.func6, Try.ntmps6
  go_wp2_with fail
  refine (source_s v l hlen _ (HR.out.later (by (repeat (first | (with_reducible refine bset ?_ (by first | (simp; done) | (simp; omega)) _) | (with_reducible refine balloc ?_ _) | (with_reducible refine bdrew ?_) | with_reducible exact Below.refl _ _ | (refine bthen ?_ (by with_reducible assumption)) | (refine bthen ?_ (by assumption)) | exact Below.refl _ _))))).mono ?_
  rintro e w1 ⟨sz, z0, z1, rfl, S1, hb1⟩
  have BB1 : Below w.heap.size w w1 := by (repeat (first | (with_reducible refine bset ?_ (by first | (simp; done) | (simp; omega)) _) | (with_reducible refine balloc ?_ _) | (with_reducible refine bdrew ?_) | with_reducible exact Below.refl _ _ | (refine bthen ?_ (by with_reducible assumption)) | (refine bthen ?_ (by assumption)) | exact Below.refl _ _))
  have HS := Lib.hid S1
  have hgl := S1.lt
  (apply Blk.use (w := w1) (g := w.heap.size); (focus (apply Blk.lat hb1; (repeat (first | with_reducible assumption | ((with_reducible apply Blk.new'); first | rfl | (simp; done)) | with_reducible apply Blk.set_ | (with_reducible apply Blk.far' (by first | (simp; done) | (simp; omega))) | with_reducible apply Blk.alloc | with_reducible apply Blk.drew)))); intro R1; (try simp only [List.setIfInBounds_toArray, List.set_cons_zero, List.set_cons_succ] at R1); have R1c := R1.cell; have R1f := R1.frozen; have R1s := R1.lt)
  simp only [World.size_alloc] at HS hgl ⊢
  go_wp2_with fail
  refine (l16Frame_s (w.heap.size + 1) v l sz _ HS.out).mono ?_
  rintro e w2 ⟨_, rfl, ⟨q, t, rfl, ht, q0, q1⟩, S2, G2⟩
  have R2 : Blk w2 w.heap.size 24 _ := Blk.gr G2 (by omega) R1
  have R2c := R2.cell
  have R2f := R2.frozen
  have BB2 := below_src BB1 G2 (by omega)
  have hz2 := R2.lt
  clear R1 R1c R1f S2 G2 BB1
  go_wp2
  refine bp_world ?_
  intro w9 hw9
  (apply Blk.use (w := w9) (g := w.heap.size); (focus (rw [hw9]; (repeat (first | with_reducible assumption | ((with_reducible apply Blk.new'); first | rfl | (simp; done)) | with_reducible apply Blk.set_ | (with_reducible apply Blk.far' (by first | (simp; done) | (simp; omega))) | with_reducible apply Blk.alloc | with_reducible apply Blk.drew)))); intro R9; (try simp only [List.setIfInBounds_toArray, List.set_cons_zero, List.set_cons_succ] at R9); have R9c := R9.cell; have R9f := R9.frozen; have R9s := R9.lt)
  have B9 : Below w.heap.size w w9 := by rw [hw9]; (repeat (first | (with_reducible refine bset ?_ (by first | (simp; done) | (simp; omega)) _) | (with_reducible refine balloc ?_ _) | (with_reducible refine bdrew ?_) | with_reducible exact Below.refl _ _ | (refine bthen ?_ (by with_reducible assumption)) | (refine bthen ?_ (by assumption)) | exact Below.refl _ _))
  clear hw9 R2 R2c R2f
  exact bodyPost_ret (v := .agg #[.int .i64 q, .string t]) (by simp [results, Try.results6, go_sem, R9c]) rfl ⟨q, t, rfl, ht, q0, q1, B9⟩
set_option maxRecDepth 100000 in
set_option maxHeartbeats 2000000 in
theorem drawLogRead_s (v : Value) (l : List UInt8) (hlen : l.length ≤ 1048576) (w : World) (hr : Rd w 1 v l.length (cb l)) :
    Calls Try.prog 12 #[v] w fun e w' => ∃ t : ByteArray, e = .returned (.string t) ∧ t.size ≤ 96001 ∧ Below w.heap.size w w' := by
  have HR := Lib.hid hr
  clear hr
  go_enter Try.func12, Try.ntmps12
  go_wp2_with fail
  refine (source_s v l hlen _ HR.out).mono ?_
  rintro e w1 ⟨sz, z0, z1, rfl, S1, hb1⟩
  have HS := Lib.hid S1
  have hgl := S1.lt
  go_wp2_with fail
  refine (l16Log_s w.heap.size v l sz _ HS.out).mono ?_
  rintro e w2 ⟨_, rfl, ⟨t, rfl, ht⟩, S2, G2⟩
  have BB2 := below_src hb1 G2 (Nat.le_refl _)
  clear S2 G2 hb1
  go_wp2
  go_ret
  exact ⟨t, rfl, ht, BB2⟩
theorem field_text (t : ByteArray) (z c : Int) (w : World) : (Instr.field 71 (.agg #[.string t, .int .i64 z, .int .i64 c]) 0).run Try.prog w = .ok (.string t) w := by kernel_rfl
theorem field_at (t : ByteArray) (z c : Int) (w : World) : (Instr.field 71 (.agg #[.string t, .int .i64 z, .int .i64 c]) 1).run Try.prog w = .ok (.int .i64 z) w := by kernel_rfl
theorem getText_le (t : Bs) (a : Int) : (getText t a).1.length ≤ 8000 ∧ 0 ≤ (getText t a).2.1 ∧ (getText t a).2.1 ≤ 8000 := by
  rcases getText_range t a with ⟨h1, h2, _⟩ | ⟨_, h2, h3, h4, h5, h6⟩
  · rw [h1, h2]; simp
  · omega
theorem unseal_le (t : Bs) : (unseal_ t).1.length ≤ 8000 := by
  rcases unseal_range t with ⟨h1, _⟩ | ⟨_, _, h3, h4⟩
  · rw [h1]; simp
  · omega
theorem putText_le (t : Bs) : (putText t).length ≤ 8011 := by
  unfold putText
  split
  · have := putNum_length t.length
    rw [List.length_append]; omega
  · simp
set_option maxRecDepth 100000 in
set_option maxHeartbeats 8000000 in
theorem drawFrameRead_s (v : Value) (l : List UInt8) (hlen : l.length ≤ 1048576) (w0 : World) (hr : Rd w0 1 v l.length (cb l)) :
    Calls Try.prog 8 #[v] w0 fun e w' => ∃ (t : ByteArray) (a : Int), e = .returned (.tuple #[.string t, .int .i64 a]) ∧ t.size ≤ 96001 ∧ -9223372036854775808 ≤ a ∧ a ≤ 9223372036854775807 ∧ Below w0.heap.size w0 w' := by
  have HR := Lib.hid hr
  clear hr
  go_enter Try.func8, Try.ntmps8
  go_wp2_with fail
  refine (source_s v l hlen _ HR.out).mono ?_
  rintro e w ⟨sz, z0, z1, rfl, S1, hb1⟩
  obtain ⟨g, hg⟩ : ∃ g, g = w0.heap.size := ⟨_, rfl⟩
  rw [← hg] at S1 ⊢
  have hgw : w0.heap.size ≤ g := by omega
  have BW := Lib.hid hb1
  have hgl := S1.lt
  have HS := Lib.hid S1
  have HB0 := Lib.hid S1.blk
  have HG0 := Lib.hid (gr_refl w (some g))
  clear S1 hb1 hg HR
  go_wp2_with fail; refine (l16Log_s g v l sz _ (HS.out.make (by (repeat (first | exact HB0.out | (with_reducible refine SrcB.far ?_ (by first | (simp; done) | (simp; omega)) _) | (with_reducible refine SrcB.alloc ?_ _) | (with_reducible refine SrcB.drew ?_)))) (by (repeat (first | exact HG0.out | (with_reducible refine gr_new ?_ (by first | (simp; done) | (simp; omega)) _) | (with_reducible refine gr_alloc ?_ _) | (with_reducible refine gr_drew ?_)))))).mono ?_; rintro e w1 ⟨_, rfl, ⟨t, rfl, hT⟩, S1, G1⟩; have HB1 := Lib.hid S1.blk; have HG1 := Lib.hid (gr_trans (a := w) (by (repeat (first | exact HG0.out | (with_reducible refine gr_new ?_ (by first | (simp; done) | (simp; omega)) _) | (with_reducible refine gr_alloc ?_ _) | (with_reducible refine gr_drew ?_)))) G1); clear S1 G1 HB0 HG0
  go_wp2_with fail; refine (one_s g v l sz 5 (by omega) _ (HS.out.make (by (repeat (first | exact HB1.out | (with_reducible refine SrcB.far ?_ (by first | (simp; done) | (simp; omega)) _) | (with_reducible refine SrcB.alloc ?_ _) | (with_reducible refine SrcB.drew ?_)))) (by (repeat (first | exact HG1.out | (with_reducible refine gr_new ?_ (by first | (simp; done) | (simp; omega)) _) | (with_reducible refine gr_alloc ?_ _) | (with_reducible refine gr_drew ?_)))))).mono ?_; rintro e w2 ⟨_, rfl, ⟨b, rfl⟩, S2, G2⟩; have HB2 := Lib.hid S2.blk; have HG2 := Lib.hid (gr_trans (a := w) (by (repeat (first | exact HG1.out | (with_reducible refine gr_new ?_ (by first | (simp; done) | (simp; omega)) _) | (with_reducible refine gr_alloc ?_ _) | (with_reducible refine gr_drew ?_)))) G2); clear S2 G2 HB1 HG1
  cases b
  · go_wp2_with fail; refine (one_s g v l sz 8 (by omega) _ (HS.out.make (by (repeat (first | exact HB2.out | (with_reducible refine SrcB.far ?_ (by first | (simp; done) | (simp; omega)) _) | (with_reducible refine SrcB.alloc ?_ _) | (with_reducible refine SrcB.drew ?_)))) (by (repeat (first | exact HG2.out | (with_reducible refine gr_new ?_ (by first | (simp; done) | (simp; omega)) _) | (with_reducible refine gr_alloc ?_ _) | (with_reducible refine gr_drew ?_)))))).mono ?_; rintro e w20 ⟨_, rfl, ⟨b2, rfl⟩, S20, G20⟩; have HB20 := Lib.hid S20.blk; have HG20 := Lib.hid (gr_trans (a := w) (by (repeat (first | exact HG2.out | (with_reducible refine gr_new ?_ (by first | (simp; done) | (simp; omega)) _) | (with_reducible refine gr_alloc ?_ _) | (with_reducible refine gr_drew ?_)))) G20); clear S20 G20 HB2 HG2
    cases b2
    · have hL := fun u => logRead_s t (by unfold maxLen; omega) u
      rcases hlg : logRead t.data.toList with ⟨fs, la, lc⟩
      rw [hlg] at hL
      have HL := Lib.hid hL
      clear hL hlg
      go_wp2_with fail
      refine (HL.out _).mono ?_
      rintro e w21 ⟨AL, cL, rfl, oL, hb21⟩
      have HB21 : Hid (SrcB w21 g v l.length sz) := Lib.hid (SrcB.later (by (repeat (first | exact HB20.out | (with_reducible refine SrcB.far ?_ (by first | (simp; done) | (simp; omega)) _) | (with_reducible refine SrcB.alloc ?_ _) | (with_reducible refine SrcB.drew ?_)))) hb21)
      have HG21 : Hid (w.grownBy w21 (some g)) := Lib.hid (gr_trans (a := w) (by (repeat (first | exact HG20.out | (with_reducible refine gr_new ?_ (by first | (simp; done) | (simp; omega)) _) | (with_reducible refine gr_alloc ?_ _) | (with_reducible refine gr_drew ?_)))) (gr_below hb21 (some g)))
      have hg21 : g < w21.heap.size := by obtain ⟨_, _, _, _, _, hb⟩ := HB21.out; exact hb.lt
      clear oL hb21 HB20 HG20 HL
      dsimp only
      by_cases hn : (1 : Int) < fs.length
      · have hn2 : 1 < fs.length := by omega
        go_wp2_with fail; refine (one_s g v l sz 2 (by omega) _ (HS.out.make (by (repeat (first | exact HB21.out | (with_reducible refine SrcB.far ?_ (by first | (simp; done) | (simp; omega)) _) | (with_reducible refine SrcB.alloc ?_ _) | (with_reducible refine SrcB.drew ?_)))) (by (repeat (first | exact HG21.out | (with_reducible refine gr_new ?_ (by first | (simp; done) | (simp; omega)) _) | (with_reducible refine gr_alloc ?_ _) | (with_reducible refine gr_drew ?_)))))).mono ?_; rintro e w22 ⟨_, rfl, ⟨b3, rfl⟩, S22, G22⟩; (apply Blk.use (w := w22) (g := w21.heap.size); (focus (apply Blk.gr G22 (by omega); (repeat (first | with_reducible assumption | ((with_reducible apply Blk.new'); first | rfl | (simp; done)) | with_reducible apply Blk.set_ | (with_reducible apply Blk.far' (by first | (simp; done) | (simp; omega))) | with_reducible apply Blk.alloc | with_reducible apply Blk.drew)))); intro X; (try simp only [List.setIfInBounds_toArray, List.set_cons_zero, List.set_cons_succ] at X); have Xc := X.cell; have Xf := X.frozen; have Xs := X.lt); have HB22 := Lib.hid S22.blk; have HG22 := Lib.hid (gr_trans (a := w) (by (repeat (first | exact HG21.out | (with_reducible refine gr_new ?_ (by first | (simp; done) | (simp; omega)) _) | (with_reducible refine gr_alloc ?_ _) | (with_reducible refine gr_drew ?_)))) G22); clear S22 G22 HB21 HG21
        cases b3
        · go_wp2
          refine bp_world ?_
          intro w99 hw99
          have HG99 : Hid (w.grownBy w99 (some g)) := Lib.hid (by rw [hw99]; (repeat (first | exact HG22.out | (with_reducible refine gr_new ?_ (by first | (simp; done) | (simp; omega)) _) | (with_reducible refine gr_alloc ?_ _) | (with_reducible refine gr_drew ?_))))
          clear hw99
          go_ret2
          exact ⟨_, _, rfl, hT, by omega, by omega, below_src BW.out HG99.out hgw⟩
        · have hG := fun u => getText_s t 0 (by omega) (by unfold maxLen; omega) u
          have hle := getText_le t.data.toList 0
          rcases hx : getText t.data.toList 0 with ⟨y1, y2, y3⟩
          rw [hx] at hG hle
          unfold encTO at hG
          dsimp only at hG hle
          have HGT := Lib.hid hG
          have hfd := field_at
          clear hG hx
          go_wp2_with fail; refine (HGT.out _).use.mono ?_; rintro e w23 ⟨rfl, hb23⟩; have HB23 : Hid (SrcB w23 g v l.length sz) := Lib.hid (SrcB.later (by (repeat (first | exact HB22.out | (with_reducible refine SrcB.far ?_ (by first | (simp; done) | (simp; omega)) _) | (with_reducible refine SrcB.alloc ?_ _) | (with_reducible refine SrcB.drew ?_)))) hb23); have HG23 := Lib.hid (gr_trans (a := w) (by (repeat (first | exact HG22.out | (with_reducible refine gr_new ?_ (by first | (simp; done) | (simp; omega)) _) | (with_reducible refine gr_alloc ?_ _) | (with_reducible refine gr_drew ?_)))) (gr_below hb23 (some g))); clear hb23 HB22 HG22
          go_wp2
          refine bp_world ?_
          intro w99 hw99
          have HG99 : Hid (w.grownBy w99 (some g)) := Lib.hid (by rw [hw99]; (repeat (first | exact HG23.out | (with_reducible refine gr_new ?_ (by first | (simp; done) | (simp; omega)) _) | (with_reducible refine gr_alloc ?_ _) | (with_reducible refine gr_drew ?_))))
          clear hw99
          go_ret2
          exact ⟨_, _, rfl, hT, by omega, by omega, below_src BW.out HG99.out hgw⟩
      · have hd1 : decide ((1 : Int) < fs.length) = false := by simpa using hn
        have hd2 : decide (1 < fs.length) = false := by simp; omega
        go_wp2
        refine bp_world ?_
        intro w99 hw99
        have HG99 : Hid (w.grownBy w99 (some g)) := Lib.hid (by rw [hw99]; (repeat (first | exact HG21.out | (with_reducible refine gr_new ?_ (by first | (simp; done) | (simp; omega)) _) | (with_reducible refine gr_alloc ?_ _) | (with_reducible refine gr_drew ?_))))
        clear hw99
        go_ret2
        exact ⟨_, _, rfl, hT, by omega, by omega, below_src BW.out HG99.out hgw⟩
    · go_wp2_with fail; refine (edge_s g v l sz _ (HS.out.make (by (repeat (first | exact HB20.out | (with_reducible refine SrcB.far ?_ (by first | (simp; done) | (simp; omega)) _) | (with_reducible refine SrcB.alloc ?_ _) | (with_reducible refine SrcB.drew ?_)))) (by (repeat (first | exact HG20.out | (with_reducible refine gr_new ?_ (by first | (simp; done) | (simp; omega)) _) | (with_reducible refine gr_alloc ?_ _) | (with_reducible refine gr_drew ?_)))))).mono ?_; rintro e w21 ⟨_, rfl, ⟨z, rfl, z0, z1⟩, S21, G21⟩; have HB21 := Lib.hid S21.blk; have HG21 := Lib.hid (gr_trans (a := w) (by (repeat (first | exact HG20.out | (with_reducible refine gr_new ?_ (by first | (simp; done) | (simp; omega)) _) | (with_reducible refine gr_alloc ?_ _) | (with_reducible refine gr_drew ?_)))) G21); clear S21 G21 HB20 HG20
      go_wp2
      refine bp_world ?_
      intro w99 hw99
      have HG99 : Hid (w.grownBy w99 (some g)) := Lib.hid (by rw [hw99]; (repeat (first | exact HG21.out | (with_reducible refine gr_new ?_ (by first | (simp; done) | (simp; omega)) _) | (with_reducible refine gr_alloc ?_ _) | (with_reducible refine gr_drew ?_))))
      clear hw99
      go_ret2
      exact ⟨_, _, rfl, hT, z0, z1, below_src BW.out HG99.out hgw⟩
  · obtain ⟨T, hTT, HW⟩ : ∃ T : ByteArray, T.size ≤ 96001 ∧ True := ⟨t, hT, trivial⟩
    have hG := fun u => getText_s t 0 (by omega) (by unfold maxLen; omega) u
    have hle := getText_le t.data.toList 0
    rcases hx : getText t.data.toList 0 with ⟨y1, y2, y3⟩
    rw [hx] at hG hle
    unfold encTO at hG
    dsimp only at hG hle
    have HGT := Lib.hid hG
    clear hG hx hTT HW T
    have hU := fun u => unseal_s (bs y1) (by unfold maxLen; rw [size_bs]; omega) u
    have hul := unseal_le (bs y1).data.toList
    rcases hx : unseal_ (bs y1).data.toList with ⟨u1, u2, u3⟩
    rw [hx] at hU hul
    unfold encTO at hU
    dsimp only at hU hul
    have HU := Lib.hid hU
    clear hU hx
    have hfd := field_text
    go_wp2_with fail; refine (HGT.out _).use.mono ?_; rintro e w3 ⟨rfl, hb3⟩; have HB3 : Hid (SrcB w3 g v l.length sz) := Lib.hid (SrcB.later (by (repeat (first | exact HB2.out | (with_reducible refine SrcB.far ?_ (by first | (simp; done) | (simp; omega)) _) | (with_reducible refine SrcB.alloc ?_ _) | (with_reducible refine SrcB.drew ?_)))) hb3); have HG3 := Lib.hid (gr_trans (a := w) (by (repeat (first | exact HG2.out | (with_reducible refine gr_new ?_ (by first | (simp; done) | (simp; omega)) _) | (with_reducible refine gr_alloc ?_ _) | (with_reducible refine gr_drew ?_)))) (gr_below hb3 (some g))); clear hb3 HB2 HG2
    go_wp2_with fail; refine (HU.out _).use.mono ?_; rintro e w4 ⟨rfl, hb4⟩; have HB4 : Hid (SrcB w4 g v l.length sz) := Lib.hid (SrcB.later (by (repeat (first | exact HB3.out | (with_reducible refine SrcB.far ?_ (by first | (simp; done) | (simp; omega)) _) | (with_reducible refine SrcB.alloc ?_ _) | (with_reducible refine SrcB.drew ?_)))) hb4); have HG4 := Lib.hid (gr_trans (a := w) (by (repeat (first | exact HG3.out | (with_reducible refine gr_new ?_ (by first | (simp; done) | (simp; omega)) _) | (with_reducible refine gr_alloc ?_ _) | (with_reducible refine gr_drew ?_)))) (gr_below hb4 (some g))); clear hb4 HB3 HG3
    have hu1 : (bs u1).size ≤ 1000000 := by rw [size_bs]; omega
    go_wp2_with fail; refine (spoil_s g v l sz (bs u1) hu1 _ (HS.out.make (by (repeat (first | exact HB4.out | (with_reducible refine SrcB.far ?_ (by first | (simp; done) | (simp; omega)) _) | (with_reducible refine SrcB.alloc ?_ _) | (with_reducible refine SrcB.drew ?_)))) (by (repeat (first | exact HG4.out | (with_reducible refine gr_new ?_ (by first | (simp; done) | (simp; omega)) _) | (with_reducible refine gr_alloc ?_ _) | (with_reducible refine gr_drew ?_)))))).mono ?_; rintro e w5 ⟨_, rfl, ⟨t2, rfl, ht2⟩, S5, G5⟩; have HB5 := Lib.hid S5.blk; have HG5 := Lib.hid (gr_trans (a := w) (by (repeat (first | exact HG4.out | (with_reducible refine gr_new ?_ (by first | (simp; done) | (simp; omega)) _) | (with_reducible refine gr_alloc ?_ _) | (with_reducible refine gr_drew ?_)))) G5); clear S5 G5 HB4 HG4
    rw [size_bs] at ht2
    have hm2 : t2.size ≤ maxLen := by unfold maxLen; omega
    go_wp2_with fail; refine (seal_s t2 hm2 _).use.mono ?_; rintro e w6 ⟨rfl, hb6⟩; have HB6 : Hid (SrcB w6 g v l.length sz) := Lib.hid (SrcB.later (by (repeat (first | exact HB5.out | (with_reducible refine SrcB.far ?_ (by first | (simp; done) | (simp; omega)) _) | (with_reducible refine SrcB.alloc ?_ _) | (with_reducible refine SrcB.drew ?_)))) hb6); have HG6 := Lib.hid (gr_trans (a := w) (by (repeat (first | exact HG5.out | (with_reducible refine gr_new ?_ (by first | (simp; done) | (simp; omega)) _) | (with_reducible refine gr_alloc ?_ _) | (with_reducible refine gr_drew ?_)))) (gr_below hb6 (some g))); clear hb6 HB5 HG5
    have hsl := seal_length t2.data.toList
    rw [size_data] at hsl
    generalize seal_ t2.data.toList = s1 at *
    have hm3 : (bs s1).size ≤ maxLen := by unfold maxLen; rw [size_bs]; omega
    go_wp2_with fail; refine (putText_s (bs s1) hm3 _).use.mono ?_; rintro e w7 ⟨rfl, hb7⟩; have HB7 : Hid (SrcB w7 g v l.length sz) := Lib.hid (SrcB.later (by (repeat (first | exact HB6.out | (with_reducible refine SrcB.far ?_ (by first | (simp; done) | (simp; omega)) _) | (with_reducible refine SrcB.alloc ?_ _) | (with_reducible refine SrcB.drew ?_)))) hb7); have HG7 := Lib.hid (gr_trans (a := w) (by (repeat (first | exact HG6.out | (with_reducible refine gr_new ?_ (by first | (simp; done) | (simp; omega)) _) | (with_reducible refine gr_alloc ?_ _) | (with_reducible refine gr_drew ?_)))) (gr_below hb7 (some g))); clear hb7 HB6 HG6
    have hpl := putText_le (bs s1).data.toList
    generalize putText (bs s1).data.toList = p1 at *
    clear hfd HGT HU hT
    have hT : (bs p1).size ≤ 96001 := by rw [size_bs]; omega
    generalize bs p1 = t7 at *
    go_wp2_with fail; refine (one_s g v l sz 8 (by omega) _ (HS.out.make (by (repeat (first | exact HB7.out | (with_reducible refine SrcB.far ?_ (by first | (simp; done) | (simp; omega)) _) | (with_reducible refine SrcB.alloc ?_ _) | (with_reducible refine SrcB.drew ?_)))) (by (repeat (first | exact HG7.out | (with_reducible refine gr_new ?_ (by first | (simp; done) | (simp; omega)) _) | (with_reducible refine gr_alloc ?_ _) | (with_reducible refine gr_drew ?_)))))).mono ?_; rintro e w20 ⟨_, rfl, ⟨b2, rfl⟩, S20, G20⟩; have HB20 := Lib.hid S20.blk; have HG20 := Lib.hid (gr_trans (a := w) (by (repeat (first | exact HG7.out | (with_reducible refine gr_new ?_ (by first | (simp; done) | (simp; omega)) _) | (with_reducible refine gr_alloc ?_ _) | (with_reducible refine gr_drew ?_)))) G20); clear S20 G20 HB7 HG7
    cases b2
    · have hL := fun u => logRead_s t7 (by unfold maxLen; omega) u
      rcases hlg : logRead t7.data.toList with ⟨fs, la, lc⟩
      rw [hlg] at hL
      have HL := Lib.hid hL
      clear hL hlg
      go_wp2_with fail
      refine (HL.out _).mono ?_
      rintro e w21 ⟨AL, cL, rfl, oL, hb21⟩
      have HB21 : Hid (SrcB w21 g v l.length sz) := Lib.hid (SrcB.later (by (repeat (first | exact HB20.out | (with_reducible refine SrcB.far ?_ (by first | (simp; done) | (simp; omega)) _) | (with_reducible refine SrcB.alloc ?_ _) | (with_reducible refine SrcB.drew ?_)))) hb21)
      have HG21 : Hid (w.grownBy w21 (some g)) := Lib.hid (gr_trans (a := w) (by (repeat (first | exact HG20.out | (with_reducible refine gr_new ?_ (by first | (simp; done) | (simp; omega)) _) | (with_reducible refine gr_alloc ?_ _) | (with_reducible refine gr_drew ?_)))) (gr_below hb21 (some g)))
      have hg21 : g < w21.heap.size := by obtain ⟨_, _, _, _, _, hb⟩ := HB21.out; exact hb.lt
      clear oL hb21 HB20 HG20 HL
      dsimp only
      by_cases hn : (1 : Int) < fs.length
      · have hn2 : 1 < fs.length := by omega
        go_wp2_with fail; refine (one_s g v l sz 2 (by omega) _ (HS.out.make (by (repeat (first | exact HB21.out | (with_reducible refine SrcB.far ?_ (by first | (simp; done) | (simp; omega)) _) | (with_reducible refine SrcB.alloc ?_ _) | (with_reducible refine SrcB.drew ?_)))) (by (repeat (first | exact HG21.out | (with_reducible refine gr_new ?_ (by first | (simp; done) | (simp; omega)) _) | (with_reducible refine gr_alloc ?_ _) | (with_reducible refine gr_drew ?_)))))).mono ?_; rintro e w22 ⟨_, rfl, ⟨b3, rfl⟩, S22, G22⟩; (apply Blk.use (w := w22) (g := w21.heap.size); (focus (apply Blk.gr G22 (by omega); (repeat (first | with_reducible assumption | ((with_reducible apply Blk.new'); first | rfl | (simp; done)) | with_reducible apply Blk.set_ | (with_reducible apply Blk.far' (by first | (simp; done) | (simp; omega))) | with_reducible apply Blk.alloc | with_reducible apply Blk.drew)))); intro X; (try simp only [List.setIfInBounds_toArray, List.set_cons_zero, List.set_cons_succ] at X); have Xc := X.cell; have Xf := X.frozen; have Xs := X.lt); have HB22 := Lib.hid S22.blk; have HG22 := Lib.hid (gr_trans (a := w) (by (repeat (first | exact HG21.out | (with_reducible refine gr_new ?_ (by first | (simp; done) | (simp; omega)) _) | (with_reducible refine gr_alloc ?_ _) | (with_reducible refine gr_drew ?_)))) G22); clear S22 G22 HB21 HG21
        cases b3
        · go_wp2
          refine bp_world ?_
          intro w99 hw99
          have HG99 : Hid (w.grownBy w99 (some g)) := Lib.hid (by rw [hw99]; (repeat (first | exact HG22.out | (with_reducible refine gr_new ?_ (by first | (simp; done) | (simp; omega)) _) | (with_reducible refine gr_alloc ?_ _) | (with_reducible refine gr_drew ?_))))
          clear hw99
          go_ret2
          exact ⟨_, _, rfl, hT, by omega, by omega, below_src BW.out HG99.out hgw⟩
        · have hG := fun u => getText_s t7 0 (by omega) (by unfold maxLen; omega) u
          have hle := getText_le t7.data.toList 0
          rcases hx : getText t7.data.toList 0 with ⟨y1, y2, y3⟩
          rw [hx] at hG hle
          unfold encTO at hG
          dsimp only at hG hle
          have HGT := Lib.hid hG
          have hfd := field_at
          clear hG hx
          go_wp2_with fail; refine (HGT.out _).use.mono ?_; rintro e w23 ⟨rfl, hb23⟩; have HB23 : Hid (SrcB w23 g v l.length sz) := Lib.hid (SrcB.later (by (repeat (first | exact HB22.out | (with_reducible refine SrcB.far ?_ (by first | (simp; done) | (simp; omega)) _) | (with_reducible refine SrcB.alloc ?_ _) | (with_reducible refine SrcB.drew ?_)))) hb23); have HG23 := Lib.hid (gr_trans (a := w) (by (repeat (first | exact HG22.out | (with_reducible refine gr_new ?_ (by first | (simp; done) | (simp; omega)) _) | (with_reducible refine gr_alloc ?_ _) | (with_reducible refine gr_drew ?_)))) (gr_below hb23 (some g))); clear hb23 HB22 HG22
          go_wp2
          refine bp_world ?_
          intro w99 hw99
          have HG99 : Hid (w.grownBy w99 (some g)) := Lib.hid (by rw [hw99]; (repeat (first | exact HG23.out | (with_reducible refine gr_new ?_ (by first | (simp; done) | (simp; omega)) _) | (with_reducible refine gr_alloc ?_ _) | (with_reducible refine gr_drew ?_))))
          clear hw99
          go_ret2
          exact ⟨_, _, rfl, hT, by omega, by omega, below_src BW.out HG99.out hgw⟩
      · have hd1 : decide ((1 : Int) < fs.length) = false := by simpa using hn
        have hd2 : decide (1 < fs.length) = false := by simp; omega
        go_wp2
        refine bp_world ?_
        intro w99 hw99
        have HG99 : Hid (w.grownBy w99 (some g)) := Lib.hid (by rw [hw99]; (repeat (first | exact HG21.out | (with_reducible refine gr_new ?_ (by first | (simp; done) | (simp; omega)) _) | (with_reducible refine gr_alloc ?_ _) | (with_reducible refine gr_drew ?_))))
        clear hw99
        go_ret2
        exact ⟨_, _, rfl, hT, by omega, by omega, below_src BW.out HG99.out hgw⟩
    · go_wp2_with fail; refine (edge_s g v l sz _ (HS.out.make (by (repeat (first | exact HB20.out | (with_reducible refine SrcB.far ?_ (by first | (simp; done) | (simp; omega)) _) | (with_reducible refine SrcB.alloc ?_ _) | (with_reducible refine SrcB.drew ?_)))) (by (repeat (first | exact HG20.out | (with_reducible refine gr_new ?_ (by first | (simp; done) | (simp; omega)) _) | (with_reducible refine gr_alloc ?_ _) | (with_reducible refine gr_drew ?_)))))).mono ?_; rintro e w21 ⟨_, rfl, ⟨z, rfl, z0, z1⟩, S21, G21⟩; have HB21 := Lib.hid S21.blk; have HG21 := Lib.hid (gr_trans (a := w) (by (repeat (first | exact HG20.out | (with_reducible refine gr_new ?_ (by first | (simp; done) | (simp; omega)) _) | (with_reducible refine gr_alloc ?_ _) | (with_reducible refine gr_drew ?_)))) G21); clear S21 G21 HB20 HG20
      go_wp2
      refine bp_world ?_
      intro w99 hw99
      have HG99 : Hid (w.grownBy w99 (some g)) := Lib.hid (by rw [hw99]; (repeat (first | exact HG21.out | (with_reducible refine gr_new ?_ (by first | (simp; done) | (simp; omega)) _) | (with_reducible refine gr_alloc ?_ _) | (with_reducible refine gr_drew ?_))))
      clear hw99
      go_ret2
      exact ⟨_, _, rfl, hT, z0, z1, below_src BW.out HG99.out hgw⟩
end Go.Proofs.Ytnehiflandjkoaa
