import Derived.Test.YtnehiflandjkoaaS4
set_option linter.unusedSimpArgs false
set_option linter.unusedVariables false
namespace Go.Proofs.Ytnehiflandjkoaa
open Go.RowKit M

theorem frame_le (q : Int) (t : Bs) : (frameBytes q t).length ≤ 8000 := by
  unfold frameBytes
  by_cases h : frameOk q t = true
  · rw [if_pos h]
    unfold frameOk at h
    simp at h
    have h2 := seal_length (four q ++ t)
    rw [List.length_append, four_length] at h2
    unfold putText
    split
    · have := putNum_length (seal_ (four q ++ t)).length
      rw [List.length_append]
      omega
    · simp
  · rw [if_neg h]; simp
set_option maxRecDepth 100000 in
set_option maxHeartbeats 4000000 in
theorem l16Log_s (g : Nat) (v : Value) (l : List UInt8) (sz : Int) (w : World) (hs : Src w g v l sz) :
    Calls Try.prog 42 #[.pointer (some ⟨g, 0, none⟩)] w (Drawn w g v l sz fun r => ∃ t : ByteArray, r = .string t ∧ t.size ≤ 96001) := by
  have HS := Lib.hid hs
  have hgl := hs.lt
  have HB0 := Lib.hid hs.blk
  have HG0 := Lib.hid (gr_refl w (some g))
  clear hs
  go_enter Try.func42, Try.ntmps42
  go_wp2_with fail; refine (n_s g v l sz 3 (by omega) _ (HS.out.make (by (repeat (first | exact HB0.out | (with_reducible refine SrcB.far ?_ (by first | (simp; done) | (simp; omega)) _) | (with_reducible refine SrcB.alloc ?_ _) | (with_reducible refine SrcB.drew ?_)))) (by (repeat (first | exact HG0.out | (with_reducible refine gr_new ?_ (by first | (simp; done) | (simp; omega)) _) | (with_reducible refine gr_alloc ?_ _) | (with_reducible refine gr_drew ?_)))))).mono ?_; rintro e w1 ⟨_, rfl, ⟨q, rfl, q0, q1⟩, S1, G1⟩; have HB1 := Lib.hid S1.blk; have HG1 := Lib.hid (gr_trans (a := w) (by (repeat (first | exact HG0.out | (with_reducible refine gr_new ?_ (by first | (simp; done) | (simp; omega)) _) | (with_reducible refine gr_alloc ?_ _) | (with_reducible refine gr_drew ?_)))) G1); clear S1 G1 HB0 HG0
  go_wp2_with fail; refine (n_s g v l sz 6 (by omega) _ (HS.out.make (by (repeat (first | exact HB1.out | (with_reducible refine SrcB.far ?_ (by first | (simp; done) | (simp; omega)) _) | (with_reducible refine SrcB.alloc ?_ _) | (with_reducible refine SrcB.drew ?_)))) (by (repeat (first | exact HG1.out | (with_reducible refine gr_new ?_ (by first | (simp; done) | (simp; omega)) _) | (with_reducible refine gr_alloc ?_ _) | (with_reducible refine gr_drew ?_)))))).mono ?_; rintro e w2 ⟨_, rfl, ⟨k, rfl, k0, k1⟩, S2, G2⟩; have HB2 := Lib.hid S2.blk; have HG2 := Lib.hid (gr_trans (a := w) (by (repeat (first | exact HG1.out | (with_reducible refine gr_new ?_ (by first | (simp; done) | (simp; omega)) _) | (with_reducible refine gr_alloc ?_ _) | (with_reducible refine gr_drew ?_)))) G2); clear S2 G2 HB1 HG1
  go_wp2_with fail; refine (one_s g v l sz 8 (by omega) _ (HS.out.make (by (repeat (first | exact HB2.out | (with_reducible refine SrcB.far ?_ (by first | (simp; done) | (simp; omega)) _) | (with_reducible refine SrcB.alloc ?_ _) | (with_reducible refine SrcB.drew ?_)))) (by (repeat (first | exact HG2.out | (with_reducible refine gr_new ?_ (by first | (simp; done) | (simp; omega)) _) | (with_reducible refine gr_alloc ?_ _) | (with_reducible refine gr_drew ?_)))))).mono ?_; rintro e w3 ⟨_, rfl, ⟨b, rfl⟩, S3, G3⟩; have HB3 := Lib.hid S3.blk; have HG3 := Lib.hid (gr_trans (a := w) (by (repeat (first | exact HG2.out | (with_reducible refine gr_new ?_ (by first | (simp; done) | (simp; omega)) _) | (with_reducible refine gr_alloc ?_ _) | (with_reducible refine gr_drew ?_)))) G3); clear S3 G3 HB2 HG2
  cases b
  · go_wp2
    go_loopw [3, 4, 5] (fun t q k wr => ∃ (t' : ByteArray) (q' k' : Int), t = .string t' ∧ q = .int .i64 q' ∧ k = .int .i64 k' ∧ 0 ≤ k' ∧ k' ≤ 12 ∧ t'.size + k'.toNat * 8000 ≤ 96000 ∧ 0 ≤ q' ∧ q' + 2 * k' ≤ 100 ∧ SrcB wr g v l.length sz ∧ w.grownBy wr (some g)) (fun _ _ k _ => (intOf k).toNat)
    case atStart => exact ⟨_, _, _, rfl, rfl, rfl, by omega, by omega, by (show 0 + _ ≤ _); omega, by omega, by omega, HB3.out, HG3.out⟩
    case round =>
      obtain ⟨t, qq, kk, rfl, rfl, rfl, kk0, kk1, ht, qq0, qq1, hsrc, hgr⟩ := hrel
      have HB10 := Lib.hid hsrc
      have HG10 := Lib.hid hgr
      clear hsrc hgr HB3 HG3
      by_cases hgo : 0 < kk
      · go_wp2_with fail; refine (n_s g v l sz 7 (by omega) _ (HS.out.make (by (repeat (first | exact HB10.out | (with_reducible refine SrcB.far ?_ (by first | (simp; done) | (simp; omega)) _) | (with_reducible refine SrcB.alloc ?_ _) | (with_reducible refine SrcB.drew ?_)))) (by (repeat (first | exact HG10.out | (with_reducible refine gr_new ?_ (by first | (simp; done) | (simp; omega)) _) | (with_reducible refine gr_alloc ?_ _) | (with_reducible refine gr_drew ?_)))))).mono ?_; rintro e w11 ⟨_, rfl, ⟨c, rfl, c0, c1⟩, S11, G11⟩; have HB11 := Lib.hid S11.blk; have HG11 := Lib.hid (gr_trans (a := w) (by (repeat (first | exact HG10.out | (with_reducible refine gr_new ?_ (by first | (simp; done) | (simp; omega)) _) | (with_reducible refine gr_alloc ?_ _) | (with_reducible refine gr_drew ?_)))) G11); clear S11 G11 HB10 HG10
        go_wp2_with fail; refine (bytes_s g v l sz c (by omega) _ (HS.out.make (by (repeat (first | exact HB11.out | (with_reducible refine SrcB.far ?_ (by first | (simp; done) | (simp; omega)) _) | (with_reducible refine SrcB.alloc ?_ _) | (with_reducible refine SrcB.drew ?_)))) (by (repeat (first | exact HG11.out | (with_reducible refine gr_new ?_ (by first | (simp; done) | (simp; omega)) _) | (with_reducible refine gr_alloc ?_ _) | (with_reducible refine gr_drew ?_)))))).mono ?_; rintro e w12 ⟨_, rfl, ⟨x, rfl, hx⟩, S12, G12⟩; have HB12 := Lib.hid S12.blk; have HG12 := Lib.hid (gr_trans (a := w) (by (repeat (first | exact HG11.out | (with_reducible refine gr_new ?_ (by first | (simp; done) | (simp; omega)) _) | (with_reducible refine gr_alloc ?_ _) | (with_reducible refine gr_drew ?_)))) G12); clear S12 G12 HB11 HG11
        go_wp2_with fail; refine (frameBytes_s qq (bs x) _).use.mono ?_; rintro e w13 ⟨rfl, hb13⟩; have HB13 : Hid (SrcB w13 g v l.length sz) := Lib.hid (SrcB.later (by (repeat (first | exact HB12.out | (with_reducible refine SrcB.far ?_ (by first | (simp; done) | (simp; omega)) _) | (with_reducible refine SrcB.alloc ?_ _) | (with_reducible refine SrcB.drew ?_)))) hb13); have HG13 := Lib.hid (gr_trans (a := w) (by (repeat (first | exact HG12.out | (with_reducible refine gr_new ?_ (by first | (simp; done) | (simp; omega)) _) | (with_reducible refine gr_alloc ?_ _) | (with_reducible refine gr_drew ?_)))) (gr_below hb13 (some g))); clear hb13 HB12 HG12
        have hfl := frame_le qq (bs x).data.toList
        generalize frameBytes qq (bs x).data.toList = fb at *
        have hsum : (t.size : Int) + (fb.length : Int) ≤ 1000000 := by omega
        go_wp2_with fail; refine (n_s g v l sz 2 (by omega) _ (HS.out.make (by (repeat (first | exact HB13.out | (with_reducible refine SrcB.far ?_ (by first | (simp; done) | (simp; omega)) _) | (with_reducible refine SrcB.alloc ?_ _) | (with_reducible refine SrcB.drew ?_)))) (by (repeat (first | exact HG13.out | (with_reducible refine gr_new ?_ (by first | (simp; done) | (simp; omega)) _) | (with_reducible refine gr_alloc ?_ _) | (with_reducible refine gr_drew ?_)))))).mono ?_; rintro e w14 ⟨_, rfl, ⟨d, rfl, d0, d1⟩, S14, G14⟩; have HB14 := Lib.hid S14.blk; have HG14 := Lib.hid (gr_trans (a := w) (by (repeat (first | exact HG13.out | (with_reducible refine gr_new ?_ (by first | (simp; done) | (simp; omega)) _) | (with_reducible refine gr_alloc ?_ _) | (with_reducible refine gr_drew ?_)))) G14); clear S14 G14 HB13 HG13
        go_wp2_with fail; refine (n_s g v l sz 9 (by omega) _ (HS.out.make (by (repeat (first | exact HB14.out | (with_reducible refine SrcB.far ?_ (by first | (simp; done) | (simp; omega)) _) | (with_reducible refine SrcB.alloc ?_ _) | (with_reducible refine SrcB.drew ?_)))) (by (repeat (first | exact HG14.out | (with_reducible refine gr_new ?_ (by first | (simp; done) | (simp; omega)) _) | (with_reducible refine gr_alloc ?_ _) | (with_reducible refine gr_drew ?_)))))).mono ?_; rintro e w15 ⟨_, rfl, ⟨e, rfl, e0, e1⟩, S15, G15⟩; have HB15 := Lib.hid S15.blk; have HG15 := Lib.hid (gr_trans (a := w) (by (repeat (first | exact HG14.out | (with_reducible refine gr_new ?_ (by first | (simp; done) | (simp; omega)) _) | (with_reducible refine gr_alloc ?_ _) | (with_reducible refine gr_drew ?_)))) G15); clear S15 G15 HB14 HG14
        have e2 : 0 ≤ e / 8 := by omega
        have e3 : e / 8 ≤ 1 := by omega
        go_wp2
        go_roundw
        case rel => exact ⟨_, _, _, rfl, rfl, rfl, by omega, by omega, by simp only [ByteArray.size_append, size_bs]; omega, by omega, by omega, HB15.out, HG15.out⟩
        case measure => simp [intOf]; omega
      · have htl : t.size ≤ 96000 := by omega
        go_wp2_with fail; refine (n_s g v l sz 6 (by omega) _ (HS.out.make (by (repeat (first | exact HB10.out | (with_reducible refine SrcB.far ?_ (by first | (simp; done) | (simp; omega)) _) | (with_reducible refine SrcB.alloc ?_ _) | (with_reducible refine SrcB.drew ?_)))) (by (repeat (first | exact HG10.out | (with_reducible refine gr_new ?_ (by first | (simp; done) | (simp; omega)) _) | (with_reducible refine gr_alloc ?_ _) | (with_reducible refine gr_drew ?_)))))).mono ?_; rintro e w16 ⟨_, rfl, ⟨c, rfl, c0, c1⟩, S16, G16⟩; have HB16 := Lib.hid S16.blk; have HG16 := Lib.hid (gr_trans (a := w) (by (repeat (first | exact HG10.out | (with_reducible refine gr_new ?_ (by first | (simp; done) | (simp; omega)) _) | (with_reducible refine gr_alloc ?_ _) | (with_reducible refine gr_drew ?_)))) G16); clear S16 G16 HB10 HG10
        by_cases hc0 : c = 0
        · have hz : (c == 0) = true := by simpa using hc0
          go_wp2_with fail; refine (spoil_s g v l sz t (by omega) _ (HS.out.make (by (repeat (first | exact HB16.out | (with_reducible refine SrcB.far ?_ (by first | (simp; done) | (simp; omega)) _) | (with_reducible refine SrcB.alloc ?_ _) | (with_reducible refine SrcB.drew ?_)))) (by (repeat (first | exact HG16.out | (with_reducible refine gr_new ?_ (by first | (simp; done) | (simp; omega)) _) | (with_reducible refine gr_alloc ?_ _) | (with_reducible refine gr_drew ?_)))))).mono ?_; rintro e w17 ⟨_, rfl, ⟨t2, rfl, ht2⟩, S17, G17⟩; have HB17 := Lib.hid S17.blk; have HG17 := Lib.hid (gr_trans (a := w) (by (repeat (first | exact HG16.out | (with_reducible refine gr_new ?_ (by first | (simp; done) | (simp; omega)) _) | (with_reducible refine gr_alloc ?_ _) | (with_reducible refine gr_drew ?_)))) G17); clear S17 G17 HB16 HG16
          go_wp2
          go_ret
          exact ⟨_, rfl, ⟨t2, rfl, by omega⟩, HS.out.make HB17.out HG17.out, HG17.out⟩
        · have hz : (c == 0) = false := by simpa using hc0
          by_cases hc1 : c = 1
          · have hz1 : (c == 1) = true := by simpa using hc1
            go_wp2_with fail; refine (n_s g v l sz _ (by omega) _ (HS.out.make (by (repeat (first | exact HB16.out | (with_reducible refine SrcB.far ?_ (by first | (simp; done) | (simp; omega)) _) | (with_reducible refine SrcB.alloc ?_ _) | (with_reducible refine SrcB.drew ?_)))) (by (repeat (first | exact HG16.out | (with_reducible refine gr_new ?_ (by first | (simp; done) | (simp; omega)) _) | (with_reducible refine gr_alloc ?_ _) | (with_reducible refine gr_drew ?_)))))).mono ?_; rintro e w17 ⟨_, rfl, ⟨d, rfl, d0, d1⟩, S17, G17⟩; have HB17 := Lib.hid S17.blk; have HG17 := Lib.hid (gr_trans (a := w) (by (repeat (first | exact HG16.out | (with_reducible refine gr_new ?_ (by first | (simp; done) | (simp; omega)) _) | (with_reducible refine gr_alloc ?_ _) | (with_reducible refine gr_drew ?_)))) G17); clear S17 G17 HB16 HG16
            have hd : d ≤ t.size := by omega
            obtain ⟨m, rfl⟩ := Int.eq_ofNat_of_zero_le d0
            go_wp2
            go_ret
            exact ⟨_, rfl, ⟨_, rfl, by simp [ByteArray.size_extract]; omega⟩, HS.out.make HB17.out HG17.out, HG17.out⟩
          · have hz1 : (c == 1) = false := by simpa using hc1
            go_wp2
            go_ret
            exact ⟨_, rfl, ⟨t, rfl, by omega⟩, HS.out.make HB16.out HG16.out, HG16.out⟩
  · go_wp2_with fail; refine (n_s g v l sz 2 (by omega) _ (HS.out.make (by (repeat (first | exact HB3.out | (with_reducible refine SrcB.far ?_ (by first | (simp; done) | (simp; omega)) _) | (with_reducible refine SrcB.alloc ?_ _) | (with_reducible refine SrcB.drew ?_)))) (by (repeat (first | exact HG3.out | (with_reducible refine gr_new ?_ (by first | (simp; done) | (simp; omega)) _) | (with_reducible refine gr_alloc ?_ _) | (with_reducible refine gr_drew ?_)))))).mono ?_; rintro e w4 ⟨_, rfl, ⟨k2, rfl, k20, k21⟩, S4, G4⟩; have HB4 := Lib.hid S4.blk; have HG4 := Lib.hid (gr_trans (a := w) (by (repeat (first | exact HG3.out | (with_reducible refine gr_new ?_ (by first | (simp; done) | (simp; omega)) _) | (with_reducible refine gr_alloc ?_ _) | (with_reducible refine gr_drew ?_)))) G4); clear S4 G4 HB3 HG3
    go_wp2
    go_loopw [3, 4, 5] (fun t q k wr => ∃ (t' : ByteArray) (q' k' : Int), t = .string t' ∧ q = .int .i64 q' ∧ k = .int .i64 k' ∧ 0 ≤ k' ∧ k' ≤ 12 ∧ t'.size + k'.toNat * 8000 ≤ 96000 ∧ 0 ≤ q' ∧ q' + 2 * k' ≤ 100 ∧ SrcB wr g v l.length sz ∧ w.grownBy wr (some g)) (fun _ _ k _ => (intOf k).toNat)
    case atStart => exact ⟨_, _, _, rfl, rfl, rfl, by omega, by omega, by (show 0 + _ ≤ _); omega, by omega, by omega, HB4.out, HG4.out⟩
    case round =>
      obtain ⟨t, qq, kk, rfl, rfl, rfl, kk0, kk1, ht, qq0, qq1, hsrc, hgr⟩ := hrel
      have HB10 := Lib.hid hsrc
      have HG10 := Lib.hid hgr
      clear hsrc hgr HB4 HG4
      by_cases hgo : 0 < kk
      · go_wp2_with fail; refine (n_s g v l sz 7 (by omega) _ (HS.out.make (by (repeat (first | exact HB10.out | (with_reducible refine SrcB.far ?_ (by first | (simp; done) | (simp; omega)) _) | (with_reducible refine SrcB.alloc ?_ _) | (with_reducible refine SrcB.drew ?_)))) (by (repeat (first | exact HG10.out | (with_reducible refine gr_new ?_ (by first | (simp; done) | (simp; omega)) _) | (with_reducible refine gr_alloc ?_ _) | (with_reducible refine gr_drew ?_)))))).mono ?_; rintro e w11 ⟨_, rfl, ⟨c, rfl, c0, c1⟩, S11, G11⟩; have HB11 := Lib.hid S11.blk; have HG11 := Lib.hid (gr_trans (a := w) (by (repeat (first | exact HG10.out | (with_reducible refine gr_new ?_ (by first | (simp; done) | (simp; omega)) _) | (with_reducible refine gr_alloc ?_ _) | (with_reducible refine gr_drew ?_)))) G11); clear S11 G11 HB10 HG10
        go_wp2_with fail; refine (bytes_s g v l sz c (by omega) _ (HS.out.make (by (repeat (first | exact HB11.out | (with_reducible refine SrcB.far ?_ (by first | (simp; done) | (simp; omega)) _) | (with_reducible refine SrcB.alloc ?_ _) | (with_reducible refine SrcB.drew ?_)))) (by (repeat (first | exact HG11.out | (with_reducible refine gr_new ?_ (by first | (simp; done) | (simp; omega)) _) | (with_reducible refine gr_alloc ?_ _) | (with_reducible refine gr_drew ?_)))))).mono ?_; rintro e w12 ⟨_, rfl, ⟨x, rfl, hx⟩, S12, G12⟩; have HB12 := Lib.hid S12.blk; have HG12 := Lib.hid (gr_trans (a := w) (by (repeat (first | exact HG11.out | (with_reducible refine gr_new ?_ (by first | (simp; done) | (simp; omega)) _) | (with_reducible refine gr_alloc ?_ _) | (with_reducible refine gr_drew ?_)))) G12); clear S12 G12 HB11 HG11
        go_wp2_with fail; refine (frameBytes_s qq (bs x) _).use.mono ?_; rintro e w13 ⟨rfl, hb13⟩; have HB13 : Hid (SrcB w13 g v l.length sz) := Lib.hid (SrcB.later (by (repeat (first | exact HB12.out | (with_reducible refine SrcB.far ?_ (by first | (simp; done) | (simp; omega)) _) | (with_reducible refine SrcB.alloc ?_ _) | (with_reducible refine SrcB.drew ?_)))) hb13); have HG13 := Lib.hid (gr_trans (a := w) (by (repeat (first | exact HG12.out | (with_reducible refine gr_new ?_ (by first | (simp; done) | (simp; omega)) _) | (with_reducible refine gr_alloc ?_ _) | (with_reducible refine gr_drew ?_)))) (gr_below hb13 (some g))); clear hb13 HB12 HG12
        have hfl := frame_le qq (bs x).data.toList
        generalize frameBytes qq (bs x).data.toList = fb at *
        have hsum : (t.size : Int) + (fb.length : Int) ≤ 1000000 := by omega
        go_wp2_with fail; refine (n_s g v l sz 2 (by omega) _ (HS.out.make (by (repeat (first | exact HB13.out | (with_reducible refine SrcB.far ?_ (by first | (simp; done) | (simp; omega)) _) | (with_reducible refine SrcB.alloc ?_ _) | (with_reducible refine SrcB.drew ?_)))) (by (repeat (first | exact HG13.out | (with_reducible refine gr_new ?_ (by first | (simp; done) | (simp; omega)) _) | (with_reducible refine gr_alloc ?_ _) | (with_reducible refine gr_drew ?_)))))).mono ?_; rintro e w14 ⟨_, rfl, ⟨d, rfl, d0, d1⟩, S14, G14⟩; have HB14 := Lib.hid S14.blk; have HG14 := Lib.hid (gr_trans (a := w) (by (repeat (first | exact HG13.out | (with_reducible refine gr_new ?_ (by first | (simp; done) | (simp; omega)) _) | (with_reducible refine gr_alloc ?_ _) | (with_reducible refine gr_drew ?_)))) G14); clear S14 G14 HB13 HG13
        go_wp2_with fail; refine (n_s g v l sz 9 (by omega) _ (HS.out.make (by (repeat (first | exact HB14.out | (with_reducible refine SrcB.far ?_ (by first | (simp; done) | (simp; omega)) _) | (with_reducible refine SrcB.alloc ?_ _) | (with_reducible refine SrcB.drew ?_)))) (by (repeat (first | exact HG14.out | (with_reducible refine gr_new ?_ (by first | (simp; done) | (simp; omega)) _) | (with_reducible refine gr_alloc ?_ _) | (with_reducible refine gr_drew ?_)))))).mono ?_; rintro e w15 ⟨_, rfl, ⟨e, rfl, e0, e1⟩, S15, G15⟩; have HB15 := Lib.hid S15.blk; have HG15 := Lib.hid (gr_trans (a := w) (by (repeat (first | exact HG14.out | (with_reducible refine gr_new ?_ (by first | (simp; done) | (simp; omega)) _) | (with_reducible refine gr_alloc ?_ _) | (with_reducible refine gr_drew ?_)))) G15); clear S15 G15 HB14 HG14
        have e2 : 0 ≤ e / 8 := by omega
        have e3 : e / 8 ≤ 1 := by omega
        go_wp2
        go_roundw
        case rel => exact ⟨_, _, _, rfl, rfl, rfl, by omega, by omega, by simp only [ByteArray.size_append, size_bs]; omega, by omega, by omega, HB15.out, HG15.out⟩
        case measure => simp [intOf]; omega
      · have htl : t.size ≤ 96000 := by omega
        go_wp2_with fail; refine (n_s g v l sz 6 (by omega) _ (HS.out.make (by (repeat (first | exact HB10.out | (with_reducible refine SrcB.far ?_ (by first | (simp; done) | (simp; omega)) _) | (with_reducible refine SrcB.alloc ?_ _) | (with_reducible refine SrcB.drew ?_)))) (by (repeat (first | exact HG10.out | (with_reducible refine gr_new ?_ (by first | (simp; done) | (simp; omega)) _) | (with_reducible refine gr_alloc ?_ _) | (with_reducible refine gr_drew ?_)))))).mono ?_; rintro e w16 ⟨_, rfl, ⟨c, rfl, c0, c1⟩, S16, G16⟩; have HB16 := Lib.hid S16.blk; have HG16 := Lib.hid (gr_trans (a := w) (by (repeat (first | exact HG10.out | (with_reducible refine gr_new ?_ (by first | (simp; done) | (simp; omega)) _) | (with_reducible refine gr_alloc ?_ _) | (with_reducible refine gr_drew ?_)))) G16); clear S16 G16 HB10 HG10
        by_cases hc0 : c = 0
        · have hz : (c == 0) = true := by simpa using hc0
          go_wp2_with fail; refine (spoil_s g v l sz t (by omega) _ (HS.out.make (by (repeat (first | exact HB16.out | (with_reducible refine SrcB.far ?_ (by first | (simp; done) | (simp; omega)) _) | (with_reducible refine SrcB.alloc ?_ _) | (with_reducible refine SrcB.drew ?_)))) (by (repeat (first | exact HG16.out | (with_reducible refine gr_new ?_ (by first | (simp; done) | (simp; omega)) _) | (with_reducible refine gr_alloc ?_ _) | (with_reducible refine gr_drew ?_)))))).mono ?_; rintro e w17 ⟨_, rfl, ⟨t2, rfl, ht2⟩, S17, G17⟩; have HB17 := Lib.hid S17.blk; have HG17 := Lib.hid (gr_trans (a := w) (by (repeat (first | exact HG16.out | (with_reducible refine gr_new ?_ (by first | (simp; done) | (simp; omega)) _) | (with_reducible refine gr_alloc ?_ _) | (with_reducible refine gr_drew ?_)))) G17); clear S17 G17 HB16 HG16
          go_wp2
          go_ret
          exact ⟨_, rfl, ⟨t2, rfl, by omega⟩, HS.out.make HB17.out HG17.out, HG17.out⟩
        · have hz : (c == 0) = false := by simpa using hc0
          by_cases hc1 : c = 1
          · have hz1 : (c == 1) = true := by simpa using hc1
            go_wp2_with fail; refine (n_s g v l sz _ (by omega) _ (HS.out.make (by (repeat (first | exact HB16.out | (with_reducible refine SrcB.far ?_ (by first | (simp; done) | (simp; omega)) _) | (with_reducible refine SrcB.alloc ?_ _) | (with_reducible refine SrcB.drew ?_)))) (by (repeat (first | exact HG16.out | (with_reducible refine gr_new ?_ (by first | (simp; done) | (simp; omega)) _) | (with_reducible refine gr_alloc ?_ _) | (with_reducible refine gr_drew ?_)))))).mono ?_; rintro e w17 ⟨_, rfl, ⟨d, rfl, d0, d1⟩, S17, G17⟩; have HB17 := Lib.hid S17.blk; have HG17 := Lib.hid (gr_trans (a := w) (by (repeat (first | exact HG16.out | (with_reducible refine gr_new ?_ (by first | (simp; done) | (simp; omega)) _) | (with_reducible refine gr_alloc ?_ _) | (with_reducible refine gr_drew ?_)))) G17); clear S17 G17 HB16 HG16
            have hd : d ≤ t.size := by omega
            obtain ⟨m, rfl⟩ := Int.eq_ofNat_of_zero_le d0
            go_wp2
            go_ret
            exact ⟨_, rfl, ⟨_, rfl, by simp [ByteArray.size_extract]; omega⟩, HS.out.make HB17.out HG17.out, HG17.out⟩
          · have hz1 : (c == 1) = false := by simpa using hc1
            go_wp2
            go_ret
            exact ⟨_, rfl, ⟨t, rfl, by omega⟩, HS.out.make HB16.out HG16.out, HG16.out⟩
end Go.Proofs.Ytnehiflandjkoaa
