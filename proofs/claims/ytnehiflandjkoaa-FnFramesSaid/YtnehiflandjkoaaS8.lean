import Derived.Test.YtnehiflandjkoaaS7
import Derived.Test.YtnehiflandjkoaaS9
import Derived.Test.YtnehiflandjkoaaMod5
import Derived.Test.YtnehiflandjkoaaC6
import Derived.Deep.DeepCutAuto
set_option linter.unusedSimpArgs false
set_option linter.unusedVariables false
namespace Go.Proofs.Ytnehiflandjkoaa
open Go.RowKit M

theorem cat_run (a b : ByteArray) (h : a.size + b.size ≤ 9223372036854775807) (w : World) : (binOp .add 9 (.string a) (.string b)).run Try.prog w = .ok (.string (a ++ b)) w := by
  go_simp
theorem bs_take' (t : Bs) (m : Nat) : (bs t).extract 0 m = bs (t.take m) := by rw [extract_bs, data_bs, List.drop_zero, Nat.sub_zero]
theorem growI {w : World} {k : IntKind} {a b : Int} (h : b = a) : growUpon Try.prog w (isV (.int k a)) (.ok (.value (.int k b)) w) := h ▸ growV
theorem Rd.pre {w : World} {A : Option Addr} {cap : Nat} {gs : List Frm} {f : Frm} {n : Nat} (hn : n = gs.length + 1) (h : Rd w 2 (.slice A n cap) n (flat encFrm (gs ++ [f]))) : Rd w 2 (.slice A gs.length cap) gs.length (flat encFrm gs) := by
  obtain ⟨hl, A', cap', e, h1, h2, hc⟩ := h
  injection e with e1 e2 e3
  subst e1 e3
  refine ⟨flat_length encFrm_len gs, A, cap, rfl, by omega, h2, fun hp => ?_⟩
  obtain ⟨b, off, hA, hcc⟩ := hc (by omega)
  refine ⟨b, off, hA, fun j u hu => hcc j u ?_⟩
  rw [flat_append, List.getElem?_append_left (List.getElem?_eq_some_iff.1 hu).1]
  exact hu
theorem beq_self_bytes (a : ByteArray) : (a.toList != a.toList) = false := by simp
set_option maxRecDepth 100000 in
set_option maxHeartbeats 16000000 in
theorem law_F_Frames_in (v1 v2 : Value) (l1 l2 : List UInt8) (hl1 : l1.length ≤ 1048576) (hl2 : l2.length ≤ 1048576) (w : World) (hr1 : Rd w 1 v1 l1.length (cb l1)) (hr2 : Rd w 1 v2 l2.length (cb l2)) :
    Gives Try.prog 3 #[v1, v2] w (.bool true) := by
  unfold Gives
  obtain ⟨A1, c1, rfl, hn1, hc1, _⟩ := hr1.form
  obtain ⟨A2, c2, rfl, hn2, hc2, _⟩ := hr2.form
  unfold maxLen at hc1 hc2
  have H1 := Lib.hid hr1
  have H2 := Lib.hid hr2
  have BB : Below w.heap.size w w := Below.refl _ _
  have hi1 : (l1.length : Int) ≤ 1048576 := by omega
  have hi2 : (l2.length : Int) ≤ 1048576 := by omega
  clear hr1 hr2
  go_enter Try.func3, Try.ntmps3
  go_wp2_with fail
  refine (drawFrameBytes_s _ l1 hl1 _ (H1.out.later (by (repeat (first | (with_reducible refine bset ?_ (by first | (simp; done) | (simp; omega)) _) | (with_reducible refine balloc ?_ _) | (with_reducible refine bdrew ?_) | with_reducible exact Below.refl _ _ | (refine bthen ?_ (by with_reducible assumption)) | (refine bthen ?_ (by assumption)) | exact Below.refl _ _))))).mono ?_
  rintro e w1 ⟨q, t, rfl, ht, q0, q1, hb1⟩
  ((have BBn : Below w.heap.size w w1 := (by (repeat (first | (with_reducible refine bset ?_ (by first | (simp; done) | (simp; omega)) _) | (with_reducible refine balloc ?_ _) | (with_reducible refine bdrew ?_) | with_reducible exact Below.refl _ _ | (refine bthen ?_ (by with_reducible assumption)) | (refine bthen ?_ (by assumption)) | exact Below.refl _ _))); clear BB; have BB := BBn; clear BBn); clear hb1)
  go_wp2_with fail
  refine (frameBytes_i q t _).use.mono ?_
  rintro e w2 ⟨rfl, hb2⟩
  ((apply Blk.use (w := w2) (g := w1.heap.size); (focus (apply Blk.lat hb2; (repeat (first | with_reducible assumption | ((with_reducible apply Blk.new'); first | rfl | (simp; done)) | with_reducible apply Blk.set_ | (with_reducible apply Blk.far' (by first | (simp; done) | (simp; omega))) | with_reducible apply Blk.alloc | with_reducible apply Blk.drew)))); intro F; (try simp only [List.setIfInBounds_toArray, List.set_cons_zero, List.set_cons_succ] at F); have Fc := F.cell; have Ff := F.frozen; have Fs := F.lt); (have BBn : Below w.heap.size w w2 := (by (repeat (first | (with_reducible refine bset ?_ (by first | (simp; done) | (simp; omega)) _) | (with_reducible refine balloc ?_ _) | (with_reducible refine bdrew ?_) | with_reducible exact Below.refl _ _ | (refine bthen ?_ (by with_reducible assumption)) | (refine bthen ?_ (by assumption)) | exact Below.refl _ _))); clear BB; have BB := BBn; clear BBn); clear hb2)
  go_wp2_with fail
  refine (drawFrameRead_s _ l2 hl2 _ (H2.out.later (by (repeat (first | (with_reducible refine bset ?_ (by first | (simp; done) | (simp; omega)) _) | (with_reducible refine balloc ?_ _) | (with_reducible refine bdrew ?_) | with_reducible exact Below.refl _ _ | (refine bthen ?_ (by with_reducible assumption)) | (refine bthen ?_ (by assumption)) | exact Below.refl _ _))))).mono ?_
  rintro e w3 ⟨u, at_, rfl, hu, a0, a1, hb3⟩
  ((apply Blk.use (w := w3) (g := w1.heap.size); (focus (apply Blk.lat hb3; (repeat (first | with_reducible assumption | ((with_reducible apply Blk.new'); first | rfl | (simp; done)) | with_reducible apply Blk.set_ | (with_reducible apply Blk.far' (by first | (simp; done) | (simp; omega))) | with_reducible apply Blk.alloc | with_reducible apply Blk.drew)))); clear F Fc Ff Fs; intro F; (try simp only [List.setIfInBounds_toArray, List.set_cons_zero, List.set_cons_succ] at F); have Fc := F.cell; have Ff := F.frozen; have Fs := F.lt); (have BBn : Below w.heap.size w w3 := (by (repeat (first | (with_reducible refine bset ?_ (by first | (simp; done) | (simp; omega)) _) | (with_reducible refine balloc ?_ _) | (with_reducible refine bdrew ?_) | with_reducible exact Below.refl _ _ | (refine bthen ?_ (by with_reducible assumption)) | (refine bthen ?_ (by assumption)) | exact Below.refl _ _))); clear BB; have BB := BBn; clear BBn); clear hb3)
  have hum : u.size ≤ maxLen := by unfold maxLen; omega
  have hI := fun w => frameRead_i u at_ hum w
  have hS := fun w => frameRead_s u at_ a1 hum w
  have hE := fun w => frameBytes_s q t w
  rcases hx : frameRead u.data.toList at_ with ⟨xq, xt, xz, xc⟩
  rw [hx] at hI hS
  unfold encFO at hI hS
  dsimp only at hI hS
  have HI := Lib.hid hI
  have HS := Lib.hid hS
  have HE := Lib.hid hE
  have hnq := neq_FrameOut
  clear hI hS hE hx
  have HFb : Hid (∃ fb, frameBytes q t.data.toList = fb) := Lib.hid ⟨_, rfl⟩
  go_wp2_with fail
  refine (HE.out _).use.mono ?_
  rintro e w4 ⟨rfl, hb4⟩
  ((apply Blk.use (w := w4) (g := w1.heap.size); (focus (apply Blk.lat hb4; (repeat (first | with_reducible assumption | ((with_reducible apply Blk.new'); first | rfl | (simp; done)) | with_reducible apply Blk.set_ | (with_reducible apply Blk.far' (by first | (simp; done) | (simp; omega))) | with_reducible apply Blk.alloc | with_reducible apply Blk.drew)))); clear F Fc Ff Fs; intro F; (try simp only [List.setIfInBounds_toArray, List.set_cons_zero, List.set_cons_succ] at F); have Fc := F.cell; have Ff := F.frozen; have Fs := F.lt); (have BBn : Below w.heap.size w w4 := (by (repeat (first | (with_reducible refine bset ?_ (by first | (simp; done) | (simp; omega)) _) | (with_reducible refine balloc ?_ _) | (with_reducible refine bdrew ?_) | with_reducible exact Below.refl _ _ | (refine bthen ?_ (by with_reducible assumption)) | (refine bthen ?_ (by assumption)) | exact Below.refl _ _))); clear BB; have BB := BBn; clear BBn); clear hb4)
  go_wp2_with fail
  refine (HI.out _).use.mono ?_
  rintro e w5 ⟨rfl, hb5⟩
  ((apply Blk.use (w := w5) (g := w1.heap.size); (focus (apply Blk.lat hb5; (repeat (first | with_reducible assumption | ((with_reducible apply Blk.new'); first | rfl | (simp; done)) | with_reducible apply Blk.set_ | (with_reducible apply Blk.far' (by first | (simp; done) | (simp; omega))) | with_reducible apply Blk.alloc | with_reducible apply Blk.drew)))); clear F Fc Ff Fs; intro F; (try simp only [List.setIfInBounds_toArray, List.set_cons_zero, List.set_cons_succ] at F); have Fc := F.cell; have Ff := F.frozen; have Fs := F.lt); (have BBn : Below w.heap.size w w5 := (by (repeat (first | (with_reducible refine bset ?_ (by first | (simp; done) | (simp; omega)) _) | (with_reducible refine balloc ?_ _) | (with_reducible refine bdrew ?_) | with_reducible exact Below.refl _ _ | (refine bthen ?_ (by with_reducible assumption)) | (refine bthen ?_ (by assumption)) | exact Below.refl _ _))); clear BB; have BB := BBn; clear BBn); clear hb5)
  go_wp2_with fail
  refine (HS.out _).use.mono ?_
  rintro e w6 ⟨rfl, hb6⟩
  ((apply Blk.use (w := w6) (g := w1.heap.size); (focus (apply Blk.lat hb6; (repeat (first | with_reducible assumption | ((with_reducible apply Blk.new'); first | rfl | (simp; done)) | with_reducible apply Blk.set_ | (with_reducible apply Blk.far' (by first | (simp; done) | (simp; omega))) | with_reducible apply Blk.alloc | with_reducible apply Blk.drew)))); clear F Fc Ff Fs; intro F; (try simp only [List.setIfInBounds_toArray, List.set_cons_zero, List.set_cons_succ] at F); have Fc := F.cell; have Ff := F.frozen; have Fs := F.lt); (have BBn : Below w.heap.size w w6 := (by (repeat (first | (with_reducible refine bset ?_ (by first | (simp; done) | (simp; omega)) _) | (with_reducible refine balloc ?_ _) | (with_reducible refine bdrew ?_) | with_reducible exact Below.refl _ _ | (refine bthen ?_ (by with_reducible assumption)) | (refine bthen ?_ (by assumption)) | exact Below.refl _ _))); clear BB; have BB := BBn; clear BBn); clear hb6)
  go_upto_if 51 with fail
  clear HI HS HE hnq HFb
  go_cut [] (fun wr => Below w.heap.size w wr)
  case first =>
    by_cases hne : frameBytes q t.data.toList = []
    · have hemp : (bs (frameBytes q t.data.toList)).toList.isEmpty = true := by rw [hne, Lib.toList_data]; rfl
      have hemp' : (bs (frameBytes q t.data.toList)).toList = [] := by rw [hne, Lib.toList_data]; rfl
      have hB : (!(bs (frameBytes q t.data.toList)).toList.isEmpty) = false := by rw [hemp]; rfl
      rw [hB]
      generalize frameBytes q t.data.toList = fb at *
      clear hne hB hemp hemp'
      go_wp2
      go_meet
      case rel => exact BB
    · have hemp : (bs (frameBytes q t.data.toList)).toList.isEmpty = false := by
        rw [Lib.toList_data]
        show (frameBytes q t.data.toList).isEmpty = false
        simpa using hne
      have hemp' : ¬ (bs (frameBytes q t.data.toList)).toList = [] := by rw [Lib.toList_data]; exact hne
      have hB : (!(bs (frameBytes q t.data.toList)).toList.isEmpty) = true := by rw [hemp]; rfl
      rw [hB]
      clear hB hemp hemp'
      have hok := frameOk_of hne
      have hfe := frameBytes_eq hok
      have ht2 := hfe.2.1
      have hq0 := hfe.2.2.1
      have hq1 := hfe.2.2.2
      clear hfe
      have hsz := frameBytes_size hok
      have htw := putNum_two (n := t.data.toList.length + 8) (by omega)
      have hR := frameRead_at (pre := [120, 121, 122]) (rest := []) hok (by rw [List.append_nil, List.length_append, hsz, List.length_cons, List.length_cons, List.length_cons, List.length_nil]; omega)
      have hq2 : isTime ((q * 7 + 300) % 1000000) = true := by unfold isTime; simp; omega
      have hsm := frameBytes_same hok hq2
      have hqq0 : 0 ≤ q * 7 + 300 := by omega
      have hqq1 : q * 7 + 300 ≤ 10000000 := by omega
      have hfl : (frameBytes q t.data.toList).length ≤ 3000 := by omega
      have HG : Hid (∀ w, Gives Try.prog 7 #[.agg #[.int .i64 ((q * 7 + 300) % 1000000), .string t]] w (.string (bs (frameBytes ((q * 7 + 300) % 1000000) t.data.toList)))) := Lib.hid fun w => frameBytes_i _ t w
      have HFR : Hid (∀ w, Gives Try.prog 10 #[.string (⟨#[120, 121, 122]⟩ ++ bs (frameBytes q t.data.toList)), .int .i64 3] w (.agg #[.int .i64 q, .string t, .int .i64 ((frameBytes q t.data.toList).length + 3), .int .i64 0])) := Lib.hid fun w => by
        have h := frameRead_i (⟨#[120, 121, 122]⟩ ++ bs (frameBytes q t.data.toList)) 3 (by unfold maxLen; rw [ByteArray.size_append, size_bs]; show 3 + _ ≤ _; omega) w
        rw [data_app, data_bs] at h
        rw [List.append_nil] at hR
        rw [show (⟨#[120, 121, 122]⟩ : ByteArray).data.toList = [120, 121, 122] from rfl, show (3 : Int) = (([120, 121, 122] : Bs).length : Int) from rfl, hR] at h
        unfold encFO at h
        dsimp only at h
        rw [bs_data] at h
        have e : ((([120, 121, 122] : Bs).length + (frameBytes q t.data.toList).length : Nat) : Int) = (frameBytes q t.data.toList).length + 3 := by
          show ((3 + _ : Nat) : Int) = _
          omega
        rw [e] at h
        exact h
      generalize frameBytes q t.data.toList = fb at *
      generalize frameBytes ((q * 7 + 300) % 1000000) t.data.toList = fb2 at *
      have hnq := neq_FrameOut
      have hcat := fun w => cat_run ⟨#[120, 121, 122]⟩ (bs fb) (by rw [size_bs]; show 3 + _ ≤ _; omega) w
      clear hR hok hsz htw hne hq2 hq0 hq1
      go_upto_region 11 with fail
      refine wp_world ?_
      intro w7 hw7
      apply Blk.use (w := w7) (g := w6.heap.size)
      · rw [hw7]; (repeat (first | with_reducible assumption | ((with_reducible apply Blk.new'); first | rfl | (simp; done)) | with_reducible apply Blk.set_ | (with_reducible apply Blk.far' (by first | (simp; done) | (simp; omega))) | with_reducible apply Blk.alloc | with_reducible apply Blk.drew))
      intro G
      try simp only [List.setIfInBounds_toArray, List.set_cons_zero, List.set_cons_succ] at G
      ((apply Blk.use (w := w7) (g := w1.heap.size); (focus (rw [hw7]; (repeat (first | with_reducible assumption | ((with_reducible apply Blk.new'); first | rfl | (simp; done)) | with_reducible apply Blk.set_ | (with_reducible apply Blk.far' (by first | (simp; done) | (simp; omega))) | with_reducible apply Blk.alloc | with_reducible apply Blk.drew)))); clear F Fc Ff Fs; intro F; (try simp only [List.setIfInBounds_toArray, List.set_cons_zero, List.set_cons_succ] at F); have Fc := F.cell; have Ff := F.frozen; have Fs := F.lt); (have BBn : Below w.heap.size w w7 := (by rw [hw7]; (repeat (first | (with_reducible refine bset ?_ (by first | (simp; done) | (simp; omega)) _) | (with_reducible refine balloc ?_ _) | (with_reducible refine bdrew ?_) | with_reducible exact Below.refl _ _ | (refine bthen ?_ (by with_reducible assumption)) | (refine bthen ?_ (by assumption)) | exact Below.refl _ _))); clear BB; have BB := BBn; clear BBn))
      clear hw7
      have l0 := fun x => F.atL (i := 0) rfl x
      have l1_ := fun x => F.atL (i := 1) rfl x
      have l2_ := fun x => G.atL (i := 0) rfl x
      have l3_ := fun x => G.atL (i := 1) rfl x
      refine wp_region_later (by kernel_rfl) (by kernel_rfl) ?_
      repeat (go_big_quiet_step ((first | (go_at_call 10; exact Gives.later _ (HFR.out _)) | (go_at_call 7; exact Gives.later _ (HG.out _)))))
      refine wpQuiet_nil ?_
      rintro _ ⟨y, rfl⟩
      have hy := y.ok
      clear l0 l1_ l2_ l3_
      generalize y.now = w8 at *
      have BB8 : Below w.heap.size w w8 := bthen BB hy
      clear BB hy F Fc Ff Fs G
      go_wp2
      go_meet
      case rel => exact BB8
  case rest =>
    clear BB F Fc Ff Fs
    have BB := hcut
    clear hcut hu a0 a1 hum ht q0 q1
    go_wp2_with fail
    refine (drawLogRead_s _ l1 hl1 _ (H1.out.later (by (repeat (first | (with_reducible refine bset ?_ (by first | (simp; done) | (simp; omega)) _) | (with_reducible refine balloc ?_ _) | (with_reducible refine bdrew ?_) | with_reducible exact Below.refl _ _ | (refine bthen ?_ (by with_reducible assumption)) | (refine bthen ?_ (by assumption)) | exact Below.refl _ _))))).mono ?_
    rintro e w11 ⟨lg, rfl, hlg, hb11⟩
    ((have BBn : Below w.heap.size w w11 := (by (repeat (first | (with_reducible refine bset ?_ (by first | (simp; done) | (simp; omega)) _) | (with_reducible refine balloc ?_ _) | (with_reducible refine bdrew ?_) | with_reducible exact Below.refl _ _ | (refine bthen ?_ (by with_reducible assumption)) | (refine bthen ?_ (by assumption)) | exact Below.refl _ _))); clear BB; have BB := BBn; clear BBn); clear hb11)
    have hlm : lg.size ≤ maxLen := by unfold maxLen; omega
    have hLI := fun w => logRead_i lg hlm w
    have hLS := fun w => logRead_s lg hlm w
    rcases hx : logRead lg.data.toList with ⟨fs, z, c⟩
    rw [hx] at hLI hLS
    have HLI := Lib.hid hLI
    have HLS := Lib.hid hLS
    have HX := Lib.hid hx
    clear hLI hLS hx
    go_wp2_with fail
    refine (HLI.out _).mono ?_
    rintro e w12 ⟨AX, cX, rfl, oX, hb12⟩
    dsimp only at oX ⊢
    have OX := Lib.hid oX
    clear oX
    ((have BBn : Below w.heap.size w w12 := (by (repeat (first | (with_reducible refine bset ?_ (by first | (simp; done) | (simp; omega)) _) | (with_reducible refine balloc ?_ _) | (with_reducible refine bdrew ?_) | with_reducible exact Below.refl _ _ | (refine bthen ?_ (by with_reducible assumption)) | (refine bthen ?_ (by assumption)) | exact Below.refl _ _))); clear BB; have BB := BBn; clear BBn); clear hb12)
    go_wp2_with fail
    refine (HLS.out _).mono ?_
    rintro e w13 ⟨AY, cY, rfl, oY, hb13⟩
    dsimp only at oY ⊢
    have OY := Lib.hid oY
    clear oY
    ((have OXn := own_keep OX.out (w' := w13) (by (repeat (first | (with_reducible refine bset ?_ (by first | (simp; done) | (simp; omega)) _) | (with_reducible refine balloc ?_ _) | (with_reducible refine bdrew ?_) | with_reducible exact Below.refl _ _ | (refine bthen ?_ (by with_reducible assumption)) | (refine bthen ?_ (by assumption)) | exact Below.refl _ _))); clear OX; have OX := Lib.hid OXn; clear OXn); (have BBn : Below w.heap.size w w13 := (by (repeat (first | (with_reducible refine bset ?_ (by first | (simp; done) | (simp; omega)) _) | (with_reducible refine balloc ?_ _) | (with_reducible refine bdrew ?_) | with_reducible exact Below.refl _ _ | (refine bthen ?_ (by with_reducible assumption)) | (refine bthen ?_ (by assumption)) | exact Below.refl _ _))); clear BB; have BB := BBn; clear BBn); clear hb13)
    go_upto_region 15 with fail
    refine wp_world ?_
    intro w14 hw14
    apply Blk.use (w := w14) (g := w13.heap.size)
    · rw [hw14]; (repeat (first | with_reducible assumption | ((with_reducible apply Blk.new'); first | rfl | (simp; done)) | with_reducible apply Blk.set_ | (with_reducible apply Blk.far' (by first | (simp; done) | (simp; omega))) | with_reducible apply Blk.alloc | with_reducible apply Blk.drew))
    intro X
    try simp only [List.setIfInBounds_toArray, List.set_cons_zero, List.set_cons_succ] at X
    apply Blk.use (w := w14) (g := w13.heap.size + 1)
    · rw [hw14]; (repeat (first | with_reducible assumption | ((with_reducible apply Blk.new'); first | rfl | (simp; done)) | with_reducible apply Blk.set_ | (with_reducible apply Blk.far' (by first | (simp; done) | (simp; omega))) | with_reducible apply Blk.alloc | with_reducible apply Blk.drew))
    intro Y
    try simp only [List.setIfInBounds_toArray, List.set_cons_zero, List.set_cons_succ] at Y
    have Xc := X.cell
    have Xf := X.frozen
    have Xs := X.lt
    have Yc := Y.cell
    have Yf := Y.frozen
    have Ys := Y.lt
    have OX14 : Hid (w14.ownsRow _ _ _ _ _ _) := Lib.hid (by rw [hw14]; have h := OX.out; exact own_alloc (own_alloc h _) _)
    have OY14 : Hid (w14.ownsRow _ _ _ _ _ _) := Lib.hid (by rw [hw14]; have h := OY.out; exact own_alloc (own_alloc h _) _)
    have BB14 : Below w.heap.size w w14 := by rw [hw14]; (repeat (first | (with_reducible refine bset ?_ (by first | (simp; done) | (simp; omega)) _) | (with_reducible refine balloc ?_ _) | (with_reducible refine bdrew ?_) | with_reducible exact Below.refl _ _ | (refine bthen ?_ (by with_reducible assumption)) | (refine bthen ?_ (by assumption)) | exact Below.refl _ _))
    clear hw14 OX OY BB HLS HLI
    have BB := BB14
    have OX := OX14
    have OY := OY14
    clear BB14 OX14 OY14
    go_wp2_with fail
    refine (lwFrames_same fs _ _ _ (Rd.of_own OX.out) (Rd.of_own OY.out)).use.mono ?_
    rintro e w15 ⟨rfl, hb15⟩
    ((apply Blk.use (w := w15) (g := w13.heap.size); (focus (apply Blk.lat hb15; (repeat (first | with_reducible assumption | ((with_reducible apply Blk.new'); first | rfl | (simp; done)) | with_reducible apply Blk.set_ | (with_reducible apply Blk.far' (by first | (simp; done) | (simp; omega))) | with_reducible apply Blk.alloc | with_reducible apply Blk.drew)))); clear X Xc Xf Xs; intro X; (try simp only [List.setIfInBounds_toArray, List.set_cons_zero, List.set_cons_succ] at X); have Xc := X.cell; have Xf := X.frozen; have Xs := X.lt); (have OXn := own_keep OX.out (w' := w15) (by (repeat (first | (with_reducible refine bset ?_ (by first | (simp; done) | (simp; omega)) _) | (with_reducible refine balloc ?_ _) | (with_reducible refine bdrew ?_) | with_reducible exact Below.refl _ _ | (refine bthen ?_ (by with_reducible assumption)) | (refine bthen ?_ (by assumption)) | exact Below.refl _ _))); clear OX; have OX := Lib.hid OXn; clear OXn); (have BBn : Below w.heap.size w w15 := (by (repeat (first | (with_reducible refine bset ?_ (by first | (simp; done) | (simp; omega)) _) | (with_reducible refine balloc ?_ _) | (with_reducible refine bdrew ?_) | with_reducible exact Below.refl _ _ | (refine bthen ?_ (by with_reducible assumption)) | (refine bthen ?_ (by assumption)) | exact Below.refl _ _))); clear BB; have BB := BBn; clear BBn); clear hb15)
    clear OY Y Yc Yf Ys
    by_cases hfs : fs = []
    · subst hfs
      go_wp2
      go_ret
      exact ⟨rfl, BB⟩
    · have hfl : ((fs.length : Int) == 0) = false := by simpa using hfs
      have hfn : 0 < fs.length := by
        cases fs with
        | nil => exact absurd rfl hfs
        | cons a b => simp
      obtain ⟨rfl, hra, hri, rfl, htk, hle, h8⟩ := log_facts_of HX.out hfs
      have hwh := log_whole hra hri (by omega)
      rw [size_data] at hle h8
      have hex : lg.extract 0 (cat fs).length = bs (cat fs) := by rw [extract_bs, List.drop_zero, Nat.sub_zero, htk]
      have HRA := Lib.hid hra
      have HRI := Lib.hid hri
      have HZI : Hid (∀ w, Calls Try.prog 13 #[.string (bs (cat fs))] w fun e w' => NewLog w e w' (fs, ((cat fs).length : Int), 0)) := Lib.hid fun w => by
        have h := logRead_i (bs (cat fs)) (by unfold maxLen; rw [size_bs]; omega) w
        rw [data_bs, hwh] at h
        exact h
      have hz1 : ((cat fs).length : Int) ≤ lg.size := by omega
      clear hra hri htk hwh HX hfs
      go_upto_region 20 with fail
      clear hex
      go_wp2_with fail
      refine (HZI.out _).mono ?_
      rintro e w21 ⟨AZ, cZ, rfl, oZ, hb21⟩
      dsimp only at oZ ⊢
      have OZ := Lib.hid oZ
      clear oZ
      ((apply Blk.use (w := w21) (g := w13.heap.size); (focus (apply Blk.lat hb21; (repeat (first | with_reducible assumption | ((with_reducible apply Blk.new'); first | rfl | (simp; done)) | with_reducible apply Blk.set_ | (with_reducible apply Blk.far' (by first | (simp; done) | (simp; omega))) | with_reducible apply Blk.alloc | with_reducible apply Blk.drew)))); clear X Xc Xf Xs; intro X; (try simp only [List.setIfInBounds_toArray, List.set_cons_zero, List.set_cons_succ] at X); have Xc := X.cell; have Xf := X.frozen; have Xs := X.lt); (have OXn := own_keep OX.out (w' := w21) (by (repeat (first | (with_reducible refine bset ?_ (by first | (simp; done) | (simp; omega)) _) | (with_reducible refine balloc ?_ _) | (with_reducible refine bdrew ?_) | with_reducible exact Below.refl _ _ | (refine bthen ?_ (by with_reducible assumption)) | (refine bthen ?_ (by assumption)) | exact Below.refl _ _))); clear OX; have OX := Lib.hid OXn; clear OXn); (have BBn : Below w.heap.size w w21 := (by (repeat (first | (with_reducible refine bset ?_ (by first | (simp; done) | (simp; omega)) _) | (with_reducible refine balloc ?_ _) | (with_reducible refine bdrew ?_) | with_reducible exact Below.refl _ _ | (refine bthen ?_ (by with_reducible assumption)) | (refine bthen ?_ (by assumption)) | exact Below.refl _ _))); clear BB; have BB := BBn; clear BBn); clear hb21)
      go_upto_region 21 with fail
      refine wp_world ?_
      intro w22 hw22
      apply Blk.use (w := w22) (g := w21.heap.size)
      · rw [hw22]; (repeat (first | with_reducible assumption | ((with_reducible apply Blk.new'); first | rfl | (simp; done)) | with_reducible apply Blk.set_ | (with_reducible apply Blk.far' (by first | (simp; done) | (simp; omega))) | with_reducible apply Blk.alloc | with_reducible apply Blk.drew))
      intro Z
      try simp only [List.setIfInBounds_toArray, List.set_cons_zero, List.set_cons_succ] at Z
      ((apply Blk.use (w := w22) (g := w13.heap.size); (focus (rw [hw22]; (repeat (first | with_reducible assumption | ((with_reducible apply Blk.new'); first | rfl | (simp; done)) | with_reducible apply Blk.set_ | (with_reducible apply Blk.far' (by first | (simp; done) | (simp; omega))) | with_reducible apply Blk.alloc | with_reducible apply Blk.drew)))); clear X Xc Xf Xs; intro X; (try simp only [List.setIfInBounds_toArray, List.set_cons_zero, List.set_cons_succ] at X); have Xc := X.cell; have Xf := X.frozen; have Xs := X.lt); (have BBn : Below w.heap.size w w22 := (by rw [hw22]; (repeat (first | (with_reducible refine bset ?_ (by first | (simp; done) | (simp; omega)) _) | (with_reducible refine balloc ?_ _) | (with_reducible refine bdrew ?_) | with_reducible exact Below.refl _ _ | (refine bthen ?_ (by with_reducible assumption)) | (refine bthen ?_ (by assumption)) | exact Below.refl _ _))); clear BB; have BB := BBn; clear BBn))
      have Zc := Z.cell
      have Zf := Z.frozen
      have Zs := Z.lt
      have OX22 : Hid (w22.ownsRow _ _ _ _ _ _) := Lib.hid (by rw [hw22]; have h := OX.out; exact own_alloc h _)
      have OZ22 : Hid (w22.ownsRow _ _ _ _ _ _) := Lib.hid (by rw [hw22]; have h := OZ.out; exact own_alloc h _)
      clear hw22 OX OZ
      have OX := OX22
      have OZ := OZ22
      clear OX22 OZ22
      go_wp2_with fail
      refine (lwFrames_same fs _ _ _ (Rd.of_own OZ.out) (Rd.of_own OX.out)).use.mono ?_
      rintro e w23 ⟨rfl, hb23⟩
      ((apply Blk.use (w := w23) (g := w13.heap.size); (focus (apply Blk.lat hb23; (repeat (first | with_reducible assumption | ((with_reducible apply Blk.new'); first | rfl | (simp; done)) | with_reducible apply Blk.set_ | (with_reducible apply Blk.far' (by first | (simp; done) | (simp; omega))) | with_reducible apply Blk.alloc | with_reducible apply Blk.drew)))); clear X Xc Xf Xs; intro X; (try simp only [List.setIfInBounds_toArray, List.set_cons_zero, List.set_cons_succ] at X); have Xc := X.cell; have Xf := X.frozen; have Xs := X.lt); (have OXn := own_keep OX.out (w' := w23) (by (repeat (first | (with_reducible refine bset ?_ (by first | (simp; done) | (simp; omega)) _) | (with_reducible refine balloc ?_ _) | (with_reducible refine bdrew ?_) | with_reducible exact Below.refl _ _ | (refine bthen ?_ (by with_reducible assumption)) | (refine bthen ?_ (by assumption)) | exact Below.refl _ _))); clear OX; have OX := Lib.hid OXn; clear OXn); (have BBn : Below w.heap.size w w23 := (by (repeat (first | (with_reducible refine bset ?_ (by first | (simp; done) | (simp; omega)) _) | (with_reducible refine balloc ?_ _) | (with_reducible refine bdrew ?_) | with_reducible exact Below.refl _ _ | (refine bthen ?_ (by with_reducible assumption)) | (refine bthen ?_ (by assumption)) | exact Below.refl _ _))); clear BB; have BB := BBn; clear BBn); clear hb23)
      clear OZ Z Zc Zf Zs
      obtain ⟨gX, rfl, hgX1, hgX2⟩ := own_slice OX.out (by omega)
      obtain ⟨gs, f, hsp⟩ := last_split (fs := fs) (by intro h; rw [h] at hfn; simp at hfn)
      have hn1 : fs.length - 1 < fs.length := by omega
      have hgsl : fs.length = gs.length + 1 := by rw [hsp]; simp
      have hfi : fs[gs.length]? = some f := by rw [hsp, List.getElem?_append_right (Nat.le_refl _), Nat.sub_self]; rfl
      have cX0 : w23.cell? ⟨gX, gs.length * 2, none⟩ = some (.int .i64 f.1) := by
        have e0 := flat_get encFrm_len fs gs.length 0 f hfi (by omega)
        have h := OX.out.cells (g := gX) rfl (gs.length * 2) (.int .i64 f.1) (e0.trans rfl)
        rw [Addr.add_mid, Nat.zero_add] at h
        exact h
      have cX1 : w23.cell? ⟨gX, gs.length * 2 + 1, none⟩ = some (.string f.2) := by
        have e0 := flat_get encFrm_len fs gs.length 1 f hfi (by omega)
        have h := OX.out.cells (g := gX) rfl (gs.length * 2 + 1) (.string f.2) (e0.trans rfl)
        rw [Addr.add_mid, Nat.zero_add] at h
        exact h
      have hfb1 : (fs.length : Int) ≤ 8000 := by have := cat_len HRA.out; omega
      have hfb2 : 1 ≤ (fs.length : Int) := by omega
      have hfb3 : 0 ≤ (fs.length : Int) - 1 := by omega
      have hni : (fs.length : Int) - 1 = (gs.length : Int) := by omega
      have hnl : (gs.length : Int) < fs.length := by omega
      have hok : frameOk f.1 f.2.data.toList = true := HRA.out f (by rw [hsp]; simp)
      have HFB : Hid (∀ w, Gives Try.prog 7 #[.agg #[.int .i64 f.1, .string f.2]] w (.string (bs (frameBytes f.1 f.2.data.toList)))) := Lib.hid fun w => frameBytes_i f.1 f.2 w
      have hlast : 9 ≤ (frameBytes f.1 f.2.data.toList).length := frameBytes_pos hok
      have hcl : (cat fs).length = (cat gs).length + (frameBytes f.1 f.2.data.toList).length := by rw [hsp, cat_app, cat_one, List.length_append]
      have HSP := Lib.hid hsp
      have HCL := Lib.hid hcl
      have HFI := Lib.hid hfi
      clear hsp hcl hfi hok
      go_wp2_with fail
      refine (HFB.out _).use.mono ?_
      rintro e w24 ⟨rfl, hb24⟩
      clear cX0 cX1 hni hnl hfb2 hfb3 hn1
      ((apply Blk.use (w := w24) (g := w13.heap.size); (focus (apply Blk.lat hb24; (repeat (first | with_reducible assumption | ((with_reducible apply Blk.new'); first | rfl | (simp; done)) | with_reducible apply Blk.set_ | (with_reducible apply Blk.far' (by first | (simp; done) | (simp; omega))) | with_reducible apply Blk.alloc | with_reducible apply Blk.drew)))); clear X Xc Xf Xs; intro X; (try simp only [List.setIfInBounds_toArray, List.set_cons_zero, List.set_cons_succ] at X); have Xc := X.cell; have Xf := X.frozen; have Xs := X.lt); (have OXn := own_keep OX.out (w' := w24) (by (repeat (first | (with_reducible refine bset ?_ (by first | (simp; done) | (simp; omega)) _) | (with_reducible refine balloc ?_ _) | (with_reducible refine bdrew ?_) | with_reducible exact Below.refl _ _ | (refine bthen ?_ (by with_reducible assumption)) | (refine bthen ?_ (by assumption)) | exact Below.refl _ _))); clear OX; have OX := Lib.hid OXn; clear OXn); (have BBn : Below w.heap.size w w24 := (by (repeat (first | (with_reducible refine bset ?_ (by first | (simp; done) | (simp; omega)) _) | (with_reducible refine balloc ?_ _) | (with_reducible refine bdrew ?_) | with_reducible exact Below.refl _ _ | (refine bthen ?_ (by with_reducible assumption)) | (refine bthen ?_ (by assumption)) | exact Below.refl _ _))); clear BB; have BB := BBn; clear BBn); clear hb24)
      have hpl : (frameBytes f.1 f.2.data.toList).length ≤ (cat fs).length := by have := HCL.out; omega
      have hm0 := atOf_rng l2 0 ((frameBytes f.1 f.2.data.toList).length : Int)
      obtain ⟨m, hm⟩ := Int.eq_ofNat_of_zero_le hm0.1
      have hml : m < (frameBytes f.1 f.2.data.toList).length := by rw [hm] at hm0; omega
      have HAT : Hid (∀ w', Below w.heap.size w w' → Gives Try.prog 16 #[.slice A2 l2.length c2, .int .i64 0, .int .i64 ((frameBytes f.1 f.2.data.toList).length : Int)] w' (.int .i64 m)) := Lib.hid fun w' hb => by
        have h := lwAt_l _ l2 hl2 0 (by omega) ((frameBytes f.1 f.2.data.toList).length : Int) (by omega) w' (H2.out.later hb)
        rw [hm] at h
        exact h
      have HCUT : Hid (∀ w, Calls Try.prog 13 #[.string (bs ((cat fs).take ((cat fs).length - 1 - m)))] w fun e w' => NewLog w e w' (gs, ((cat gs).length : Int), 0)) := Lib.hid fun w => by
        have h := logRead_i (bs ((cat fs).take ((cat fs).length - 1 - m))) (by unfold maxLen; rw [size_bs, List.length_take]; omega) w
        have h1 := HRA.out
        have h2 := HRI.out
        have h3 := HSP.out
        subst h3
        rw [data_bs, log_cut h1 h2 (by omega) hml] at h
        exact h
      have hN : ((cat fs).length : Int) - 1 - m = (((cat fs).length - 1 - m : Nat) : Int) := by omega
      have hexN : (bs (cat fs)).extract 0 ((cat fs).length - 1 - m) = bs ((cat fs).take ((cat fs).length - 1 - m)) := bs_take' _ _
      have hNle : (cat fs).length - 1 - m ≤ (cat fs).length := by omega
      have HHm := Lib.hid hm
      have hzz : (cat fs).length ≤ 8000 := by omega
      have hz9 : 9 ≤ (cat fs).length := by omega
      generalize (cat fs).length - 1 - m = N at *
      generalize frameBytes f.1 f.2.data.toList = P at *
      clear hm0 hm
      have hw24 : w.heap.size ≤ w24.heap.size := BB.size
      go_upto_region 24 with fail
      refine wp_region_grow 11 [isV (.string (bs (cat fs))), isV (.pointer (some ⟨w13.heap.size, 1, none⟩)), isV (.int .i64 (cat fs).length), isV (.int .i64 ((cat fs).length - 1)), isV (.slice A2 l2.length c2), isV (.int .i64 P.length), isV (.int .i64 m), isV (.int .i64 N), isV (.string (bs ((cat fs).take N))), isOwn (fun x => .agg #[x, .int .i64 (cat gs).length, .int .i64 0]) w24.heap.size 24 2 gs.length (flat encFrm gs), isBox w24.heap.size 35 #[.slice none 0 0, .int .i64 0, .int .i64 0]] (by kernel_rfl) (by kernel_rfl) (by repeat (first | exact AllStay.nil | refine AllStay.cons (stays_v _) ?_ | refine AllStay.cons (stays_own _ _ _ _ _ _) ?_ | refine AllStay.cons (stays_box _ _ _) ?_ | refine AllStay.cons (stays_sl _ _ _ _) ?_ | (refine AllStay.cons (by with_reducible assumption) ?_))) ?_; intro vs
      refine wpGrow_step rfl (by intro w' hb hd; clear hd; unfold growAt; go_simp; exact growV) ?_
      refine wpGrow_step rfl (by intro w' hb hd; clear hd; unfold growAt; go_simp; exact growV) ?_
      refine wpGrow_step rfl (by intro w' hb hd; have d1 := kV (hd 1 (by decide)) rfl; clear hd; have X' := X.later hb; have X'c := X'.cell; unfold growAt; go_simp; exact growV) ?_
      refine wpGrow_step rfl (by intro w' hb hd; have d2 := kV (hd 2 (by decide)) rfl; clear hd; unfold growAt; go_simp; exact growI (by first | rfl | (rw [IntKind.wrap_i64]; omega))) ?_
      refine wpGrow_step rfl (by intro w' hb hd; clear hd; unfold growAt; go_simp; exact growV) ?_
      refine wpGrow_step rfl (by intro w' hb hd; clear hd; unfold growAt; go_simp; exact growV) ?_
      refine wpGrow_step rfl (by intro w' hb hd; have d4 := kV (hd 4 (by decide)) rfl; have d5 := kV (hd 5 (by decide)) rfl; clear hd; unfold growAt; go_simp; exact growGives (HAT.out _ (bthen BB hb))) ?_
      refine wpGrow_step rfl (by intro w' hb hd; have d3 := kV (hd 3 (by decide)) rfl; have d6 := kV (hd 6 (by decide)) rfl; clear hd; unfold growAt; go_simp; exact growI (by first | rfl | (rw [IntKind.wrap_i64]; omega))) ?_
      refine wpGrow_step rfl (by intro w' hb hd; have d0 := kV (hd 0 (by decide)) rfl; have d7 := kV (hd 7 (by decide)) rfl; clear hd; unfold growAt; go_simp; exact growV) ?_
      refine wpGrow_step rfl (by intro w' hb hd; have d8 := kV (hd 8 (by decide)) rfl; clear hd; unfold growAt; go_simp; exact growCall ((HCUT.out _).mono fun e w'' ⟨A2, c2, he, ho2, hb2⟩ => ⟨_, he, hb2, A2, c2, rfl, own_base ho2 hb.size⟩)) ?_
      refine wpGrow_step rfl (by intro w' hb hd; clear hd; unfold growAt; go_simp; exact growBox hb.size) ?_
      intro w25 hb25 hk; have d0 := kV (hk 0 (by omega)) rfl; have d1 := kV (hk 1 (by omega)) rfl; have d2 := kV (hk 2 (by omega)) rfl; have d3 := kV (hk 3 (by omega)) rfl; have d4 := kV (hk 4 (by omega)) rfl; have d5 := kV (hk 5 (by omega)) rfl; have d6 := kV (hk 6 (by omega)) rfl; have d7 := kV (hk 7 (by omega)) rfl; have d8 := kV (hk 8 (by omega)) rfl; (obtain ⟨A9, c9, d9, o9⟩ := kOwn (hk 9 (by omega)) rfl; have O9 := Lib.hid o9; clear o9); (obtain ⟨g10, d10, gb10, B10⟩ := kBox (hk 10 (by omega)) rfl; have B10c := B10.cell; have B10f := B10.frozen; have B10s := B10.lt); simp only [d0, d1, d2, d3, d4, d5, d6, d7, d8, d9, d10, Act.put, List.setIfInBounds_toArray, List.set_cons_succ, List.set_cons_zero]; clear hk d0 d1 d2 d3 d4 d5 d6 d7 d8 d9 d10
      have hz24 : w13.heap.size < w24.heap.size := Xs
      ((apply Blk.use (w := w25) (g := w13.heap.size); (focus (apply Blk.lat hb25; (repeat (first | with_reducible assumption | ((with_reducible apply Blk.new'); first | rfl | (simp; done)) | with_reducible apply Blk.set_ | (with_reducible apply Blk.far' (by first | (simp; done) | (simp; omega))) | with_reducible apply Blk.alloc | with_reducible apply Blk.drew)))); clear X Xc Xf Xs; intro X; (try simp only [List.setIfInBounds_toArray, List.set_cons_zero, List.set_cons_succ] at X); have Xc := X.cell; have Xf := X.frozen; have Xs := X.lt); (have OXn := own_keep OX.out (w' := w25) (by (repeat (first | (with_reducible refine bset ?_ (by first | (simp; done) | (simp; omega)) _) | (with_reducible refine balloc ?_ _) | (with_reducible refine bdrew ?_) | with_reducible exact Below.refl _ _ | (refine bthen ?_ (by with_reducible assumption)) | (refine bthen ?_ (by assumption)) | exact Below.refl _ _))); clear OX; have OX := Lib.hid OXn; clear OXn); (have BBn : Below w.heap.size w w25 := (by (repeat (first | (with_reducible refine bset ?_ (by first | (simp; done) | (simp; omega)) _) | (with_reducible refine balloc ?_ _) | (with_reducible refine bdrew ?_) | with_reducible exact Below.refl _ _ | (refine bthen ?_ (by with_reducible assumption)) | (refine bthen ?_ (by assumption)) | exact Below.refl _ _))); clear BB; have BB := BBn; clear BBn); clear hb25)
      generalize g10 = gC at *
      have C := B10
      have Cc := C.cell
      have Cf := C.frozen
      have hneX := own_blk_ne OX.out C (by decide)
      have hneG := own_blk_ne O9.out C (by decide)
      have hCw : w24.heap.size ≤ gC := by assumption
      have hCw0 : w.heap.size ≤ gC := by omega
      clear B10 B10c B10f B10s
      go_upto_region 25 with fail
      refine wp_world ?_
      intro w26 hw26
      apply Blk.use (w := w26) (g := gC)
      · rw [hw26]; (repeat (first | with_reducible assumption | ((with_reducible apply Blk.new'); first | rfl | (simp; done)) | with_reducible apply Blk.set_ | (with_reducible apply Blk.far' (by first | (simp; done) | (simp; omega))) | with_reducible apply Blk.alloc | with_reducible apply Blk.drew))
      intro C2
      try simp only [List.setIfInBounds_toArray, List.set_cons_zero, List.set_cons_succ] at C2
      ((apply Blk.use (w := w26) (g := w13.heap.size); (focus (rw [hw26]; (repeat (first | with_reducible assumption | ((with_reducible apply Blk.new'); first | rfl | (simp; done)) | with_reducible apply Blk.set_ | (with_reducible apply Blk.far' (by first | (simp; done) | (simp; omega))) | with_reducible apply Blk.alloc | with_reducible apply Blk.drew)))); clear X Xc Xf Xs; intro X; (try simp only [List.setIfInBounds_toArray, List.set_cons_zero, List.set_cons_succ] at X); have Xc := X.cell; have Xf := X.frozen; have Xs := X.lt); (have BBn : Below w.heap.size w w26 := (by rw [hw26]; (repeat (first | (with_reducible refine bset ?_ (by first | (simp; done) | (simp; omega)) _) | (with_reducible refine balloc ?_ _) | (with_reducible refine bdrew ?_) | with_reducible exact Below.refl _ _ | (refine bthen ?_ (by with_reducible assumption)) | (refine bthen ?_ (by assumption)) | exact Below.refl _ _))); clear BB; have BB := BBn; clear BBn))
      have OX26 : Hid (w26.ownsRow _ _ _ _ _ _) := Lib.hid (by rw [hw26]; exact own_far (own_far (own_far OX.out hneX _) hneX _) hneX _)
      have OC26 : Hid (w26.ownsRow _ _ _ _ _ _) := Lib.hid (by rw [hw26]; exact own_far (own_far (own_far O9.out hneG _) hneG _) hneG _)
      clear hw26 OX O9 hneX hneG C Cc Cf
      have OX := OX26
      have OC := OC26
      clear OX26 OC26
      have hcX : gs.length + 1 ≤ cX := by
        obtain ⟨_, _, _, e, h1, _⟩ := Rd.of_own OX.out
        injection e with e1 e2 e3
        omega
      have HRG : Hid (∀ w', Below w26.heap.size w26 w' → Rd w' 2 (.slice (some ⟨gX, 0, none⟩) gs.length cX) gs.length (flat encFrm gs)) := Lib.hid fun w' hb => by
        have h := (Rd.of_own OX.out).later hb
        rw [HSP.out] at h
        exact Rd.pre (by simp) h
      have HLW : Hid (∀ w', Below w26.heap.size w26 w' → Gives Try.prog 15 #[.slice A9 gs.length c9, .slice (some ⟨gX, 0, none⟩) gs.length cX] w' (.bool true)) := Lib.hid fun w' hb => lwFrames_same gs _ _ w' ((Rd.of_own OC.out).later hb) (HRG.out w' hb)
      have hsub : ((cat fs).length : Int) - (P.length : Int) = (cat gs).length := by have := HCL.out; omega
      have hni : (fs.length : Int) - 1 = (gs.length : Int) := by omega
      have hcl3 : (cat gs).length ≤ 8000 := by have := HCL.out; omega
      have hgl3 : gs.length ≤ 8000 := by omega
      have hw1 : IntKind.i64.wrap (((cat fs).length : Int) - (P.length : Int)) = (cat gs).length := by rw [hsub, IntKind.wrap_i64]; omega
      have hw2 : IntKind.i64.wrap ((fs.length : Int) - 1) = (gs.length : Int) := by rw [hni, IntKind.wrap_i64]; omega
      have hsi : (gs.length : Int) ≤ cX := by omega
      have hsi2 : (gs.length : Int) ≤ fs.length := by omega
      have l0 := fun x => C2.atL (i := 0) rfl x
      have l1_ := fun x => C2.atL (i := 1) rfl x
      have l2_ := fun x => X.atL (i := 0) rfl x
      have l3_ := fun x => X.atL (i := 1) rfl x
      clear hexN hN hNle
      refine wp_region_later (by kernel_rfl) (by kernel_rfl) ?_
      repeat (go_big_quiet_step ((go_at_call 15; exact Gives.later _ (HLW.out _ (Later.ok _)))))
      refine wpQuiet_nil ?_
      rintro _ ⟨y, rfl⟩
      have hy := y.ok
      clear l0 l1_ l2_ l3_ hw1 hw2
      generalize y.now = w27 at *
      ((apply Blk.use (w := w27) (g := w13.heap.size); (focus (apply Blk.lat hy; (repeat (first | with_reducible assumption | ((with_reducible apply Blk.new'); first | rfl | (simp; done)) | with_reducible apply Blk.set_ | (with_reducible apply Blk.far' (by first | (simp; done) | (simp; omega))) | with_reducible apply Blk.alloc | with_reducible apply Blk.drew)))); clear X Xc Xf Xs; intro X; (try simp only [List.setIfInBounds_toArray, List.set_cons_zero, List.set_cons_succ] at X); have Xc := X.cell; have Xf := X.frozen; have Xs := X.lt); (have OXn := own_keep OX.out (w' := w27) (by (repeat (first | (with_reducible refine bset ?_ (by first | (simp; done) | (simp; omega)) _) | (with_reducible refine balloc ?_ _) | (with_reducible refine bdrew ?_) | with_reducible exact Below.refl _ _ | (refine bthen ?_ (by with_reducible assumption)) | (refine bthen ?_ (by assumption)) | exact Below.refl _ _))); clear OX; have OX := Lib.hid OXn; clear OXn); (have BBn : Below w.heap.size w w27 := (by (repeat (first | (with_reducible refine bset ?_ (by first | (simp; done) | (simp; omega)) _) | (with_reducible refine balloc ?_ _) | (with_reducible refine bdrew ?_) | with_reducible exact Below.refl _ _ | (refine bthen ?_ (by with_reducible assumption)) | (refine bthen ?_ (by assumption)) | exact Below.refl _ _))); clear BB; have BB := BBn; clear BBn); clear hy)
      clear C2 OC HLW HRG
      obtain ⟨cB, w28, hcv, hcB, hb28, YB⟩ := Bys.made w27 (bs (cat fs))
      rw [size_bs] at hcv hcB
      rw [data_bs] at YB
      go_upto_region 28 with fail
      clear hcv
      obtain ⟨gB, hgB⟩ : ∃ gB, w27.heap.size = gB := ⟨_, rfl⟩
      have hgB0 : w.heap.size ≤ gB := by have := BB.size; omega
      have hgBX : gX < gB := by have := OX.out.lt gX rfl; omega
      have hgBX2 : w13.heap.size < gB := by have := X.lt; omega
      rw [hgB] at YB ⊢
      clear hgB
      ((apply Blk.use (w := w28) (g := w13.heap.size); (focus (apply Blk.lat hb28; (repeat (first | with_reducible assumption | ((with_reducible apply Blk.new'); first | rfl | (simp; done)) | with_reducible apply Blk.set_ | (with_reducible apply Blk.far' (by first | (simp; done) | (simp; omega))) | with_reducible apply Blk.alloc | with_reducible apply Blk.drew)))); clear X Xc Xf Xs; intro X; (try simp only [List.setIfInBounds_toArray, List.set_cons_zero, List.set_cons_succ] at X); have Xc := X.cell; have Xf := X.frozen; have Xs := X.lt); (have OXn := own_keep OX.out (w' := w28) (by (repeat (first | (with_reducible refine bset ?_ (by first | (simp; done) | (simp; omega)) _) | (with_reducible refine balloc ?_ _) | (with_reducible refine bdrew ?_) | with_reducible exact Below.refl _ _ | (refine bthen ?_ (by with_reducible assumption)) | (refine bthen ?_ (by assumption)) | exact Below.refl _ _))); clear OX; have OX := Lib.hid OXn; clear OXn); (have BBn : Below w.heap.size w w28 := (by (repeat (first | (with_reducible refine bset ?_ (by first | (simp; done) | (simp; omega)) _) | (with_reducible refine balloc ?_ _) | (with_reducible refine bdrew ?_) | with_reducible exact Below.refl _ _ | (refine bthen ?_ (by with_reducible assumption)) | (refine bthen ?_ (by assumption)) | exact Below.refl _ _))); clear BB; have BB := BBn; clear BBn); clear hb28)
      have hp3 : P.length - 2 ≤ 8000 := by omega
      have hm1 := atOf_rng l2 1 ((P.length : Int) - 2)
      obtain ⟨j2, hj2⟩ := Int.eq_ofNat_of_zero_le hm1.1
      have hj2l : j2 + 3 ≤ P.length := by rw [hj2] at hm1; omega
      have HAT1 : Hid (∀ w', Below w.heap.size w w' → Gives Try.prog 16 #[.slice A2 l2.length c2, .int .i64 1, .int .i64 ((P.length : Int) - 2)] w' (.int .i64 j2)) := Lib.hid fun w' hb => by
        have h := lwAt_l _ l2 hl2 1 (by omega) ((P.length : Int) - 2) (by omega) w' (H2.out.later hb)
        rw [hj2] at h
        exact h
      obtain ⟨K, hK⟩ : ∃ K : Nat, ((cat fs).length : Int) - 1 - j2 = (K : Int) := ⟨(cat fs).length - 1 - j2, by omega⟩
      have hK1 : (cat gs).length + 2 ≤ K := by have := HCL.out; omega
      have hK2 : K < (cat fs).length := by omega
      have hwa : IntKind.i64.wrap (((cat fs).length : Int) - 1) = (cat fs).length - 1 := by rw [IntKind.wrap_i64]; omega
      have hwb : IntKind.i64.wrap ((P.length : Int) - 2) = P.length - 2 := by rw [IntKind.wrap_i64]; omega
      have hwc : IntKind.i64.wrap (K : Int) = K := by rw [IntKind.wrap_i64]; omega
      have l3_ := fun x => X.atL (i := 1) rfl x
      clear hm1 hj2 hsub hni hsi hsi2
      refine wp_region_later (by kernel_rfl) (by kernel_rfl) ?_
      repeat (go_big_quiet_step ((go_at_call 16; exact Gives.later _ (HAT1.out _ (bthen BB (Later.ok _))))))
      refine wpQuiet_nil ?_
      rintro _ ⟨y, rfl⟩
      have hy := y.ok
      clear l3_ hwa hwb hwc HAT1
      generalize y.now = w29 at *
      have YB29 := YB.later hy
      ((apply Blk.use (w := w29) (g := w13.heap.size); (focus (apply Blk.lat hy; (repeat (first | with_reducible assumption | ((with_reducible apply Blk.new'); first | rfl | (simp; done)) | with_reducible apply Blk.set_ | (with_reducible apply Blk.far' (by first | (simp; done) | (simp; omega))) | with_reducible apply Blk.alloc | with_reducible apply Blk.drew)))); clear X Xc Xf Xs; intro X; (try simp only [List.setIfInBounds_toArray, List.set_cons_zero, List.set_cons_succ] at X); have Xc := X.cell; have Xf := X.frozen; have Xs := X.lt); (have OXn := own_keep OX.out (w' := w29) (by (repeat (first | (with_reducible refine bset ?_ (by first | (simp; done) | (simp; omega)) _) | (with_reducible refine balloc ?_ _) | (with_reducible refine bdrew ?_) | with_reducible exact Below.refl _ _ | (refine bthen ?_ (by with_reducible assumption)) | (refine bthen ?_ (by assumption)) | exact Below.refl _ _))); clear OX; have OX := Lib.hid OXn; clear OXn); (have BBn : Below w.heap.size w w29 := (by (repeat (first | (with_reducible refine bset ?_ (by first | (simp; done) | (simp; omega)) _) | (with_reducible refine balloc ?_ _) | (with_reducible refine bdrew ?_) | with_reducible exact Below.refl _ _ | (refine bthen ?_ (by with_reducible assumption)) | (refine bthen ?_ (by assumption)) | exact Below.refl _ _))); clear BB; have BB := BBn; clear BBn); clear hy)
      clear YB
      go_upto_region 29 with fail
      have hm2 := atOf_rng l2 2 255
      obtain ⟨r3, hr3⟩ := Int.eq_ofNat_of_zero_le hm2.1
      have hr3l : r3 < 255 := by rw [hr3] at hm2; omega
      have HAT2 : Hid (∀ w', Below w.heap.size w w' → Gives Try.prog 16 #[.slice A2 l2.length c2, .int .i64 2, .int .i64 255] w' (.int .i64 r3)) := Lib.hid fun w' hb => by
        have h := lwAt_l _ l2 hl2 2 (by omega) 255 (by omega) w' (H2.out.later hb)
        rw [hr3] at h
        exact h
      clear hm2 hr3
      obtain ⟨x0, hx0⟩ : ∃ x0, (cat fs)[K] = x0 := ⟨_, rfl⟩
      have HX0 := Lib.hid hx0
      obtain ⟨nb, hnb⟩ : ∃ nb, x0 ^^^ UInt8.ofNat (1 + r3) = nb := ⟨_, rfl⟩
      have hxor : bits .xor .u8 (x0.toNat : Int) (1 + (r3 : Int)) = (nb.toNat : Int) := by
        rw [← hnb, UInt8.toNat_xor, UInt8.toNat_ofNat', Nat.mod_eq_of_lt (by omega), show (1 + (r3 : Int)) = ((1 + r3 : Nat) : Int) by omega]
        exact u8_xor_nat _ _ (by have := x0.toNat_lt; omega) (by omega)
      have hne0 : (cat fs)[K] ≠ nb := by rw [hx0, ← hnb]; exact fun e => xor_ne x0 r3 hr3l e.symm
      have HTURN : Hid (∀ w, Calls Try.prog 13 #[.string (bs ((cat fs).set K nb))] w fun e w' => NewLog w e w' (gs, ((cat gs).length : Int), 0)) := Lib.hid fun w => by
        have h := logRead_i (bs ((cat fs).set K nb)) (by unfold maxLen; rw [size_bs, List.length_set]; omega) w
        have h1 := HRA.out
        have h2 := HRI.out
        have h3 := HSP.out
        subst h3
        rw [data_bs, log_turn h1 h2 (by omega) hK1 hK2 hne0] at h
        exact h
      have hKi : (K : Int) < (cat fs).length := by omega
      have HNB := Lib.hid hne0
      clear hx0 hnb hne0
      have hcx := YB29.cell K hK2
      rw [HX0.out] at hcx
      refine wp_region_grow 12 [isV (.slice (some ⟨gB, 0, none⟩) (cat fs).length cB), isV (.int .i64 K), isV (.slice (some ⟨gB, 0, none⟩) (cat fs).length cB), isV (.int .i64 K), isV (.pointer (some ⟨gB, K, none⟩)), isV (.int .u8 x0.toNat), isV (.slice A2 l2.length c2), isV (.int .i64 r3), isV (.int .i64 (1 + r3)), isV (.int .u8 (1 + r3)), isV (.int .u8 nb.toNat), isV (.pointer (some ⟨gB, K, none⟩))] (by kernel_rfl) (by kernel_rfl) (by repeat (first | exact AllStay.nil | refine AllStay.cons (stays_v _) ?_ | refine AllStay.cons (stays_own _ _ _ _ _ _) ?_ | refine AllStay.cons (stays_box _ _ _) ?_ | refine AllStay.cons (stays_sl _ _ _ _) ?_ | (refine AllStay.cons (by with_reducible assumption) ?_))) ?_; intro vs
      refine wpGrow_step rfl (by intro w' hb hd; clear hd; unfold growAt; go_simp; exact growV) ?_
      refine wpGrow_step rfl (by intro w' hb hd; clear hd; unfold growAt; go_simp; exact growV) ?_
      refine wpGrow_step rfl (by intro w' hb hd; clear hd; unfold growAt; go_simp; exact growV) ?_
      refine wpGrow_step rfl (by intro w' hb hd; clear hd; unfold growAt; go_simp; exact growV) ?_
      refine wpGrow_step rfl (by intro w' hb hd; have d2 := kV (hd 2 (by decide)) rfl; have d3 := kV (hd 3 (by decide)) rfl; clear hd; unfold growAt; go_simp; exact growV) ?_
      refine wpGrow_step rfl (by intro w' hb hd; have d4 := kV (hd 4 (by decide)) rfl; clear hd; unfold growAt; go_simp; (have cK := (bcell hb).1 gB K YB29.lt; rw [hcx] at cK; go_simp; exact growV)) ?_
      refine wpGrow_step rfl (by intro w' hb hd; clear hd; unfold growAt; go_simp; exact growV) ?_
      refine wpGrow_step rfl (by intro w' hb hd; have d6 := kV (hd 6 (by decide)) rfl; clear hd; unfold growAt; go_simp; exact growGives (HAT2.out _ (bthen BB hb))) ?_
      refine wpGrow_step rfl (by intro w' hb hd; have d7 := kV (hd 7 (by decide)) rfl; clear hd; unfold growAt; go_simp; exact growI (by first | rfl | (rw [IntKind.wrap_i64]; omega))) ?_
      refine wpGrow_step rfl (by intro w' hb hd; have d8 := kV (hd 8 (by decide)) rfl; clear hd; unfold growAt; go_simp; exact growI (by first | rfl | (simp [IntKind.wrap, IntKind.bits, IntKind.signed]; omega))) ?_
      refine wpGrow_step rfl (by intro w' hb hd; have d5 := kV (hd 5 (by decide)) rfl; have d9 := kV (hd 9 (by decide)) rfl; clear hd; unfold growAt; go_simp; exact growI (by first | exact hxor | rfl)) ?_
      refine wpGrow_step rfl (by intro w' hb hd; have d0 := kV (hd 0 (by decide)) rfl; have d1 := kV (hd 1 (by decide)) rfl; clear hd; unfold growAt; go_simp; exact growV) ?_
      intro w30 hb30 hk; have d0 := kV (hk 0 (by omega)) rfl; have d1 := kV (hk 1 (by omega)) rfl; have d2 := kV (hk 2 (by omega)) rfl; have d3 := kV (hk 3 (by omega)) rfl; have d4 := kV (hk 4 (by omega)) rfl; have d5 := kV (hk 5 (by omega)) rfl; have d6 := kV (hk 6 (by omega)) rfl; have d7 := kV (hk 7 (by omega)) rfl; have d8 := kV (hk 8 (by omega)) rfl; have d9 := kV (hk 9 (by omega)) rfl; have d10 := kV (hk 10 (by omega)) rfl; have d11 := kV (hk 11 (by omega)) rfl; simp only [d0, d1, d2, d3, d4, d5, d6, d7, d8, d9, d10, d11, Act.put, List.setIfInBounds_toArray, List.set_cons_succ, List.set_cons_zero]; clear hk d0 d1 d2 d3 d4 d5 d6 d7 d8 d9 d10 d11
      have YB30 := YB29.later hb30
      have ck := YB30.cell K hK2
      have fk := YB30.fro K hK2
      ((apply Blk.use (w := w30) (g := w13.heap.size); (focus (apply Blk.lat hb30; (repeat (first | with_reducible assumption | ((with_reducible apply Blk.new'); first | rfl | (simp; done)) | with_reducible apply Blk.set_ | (with_reducible apply Blk.far' (by first | (simp; done) | (simp; omega))) | with_reducible apply Blk.alloc | with_reducible apply Blk.drew)))); clear X Xc Xf Xs; intro X; (try simp only [List.setIfInBounds_toArray, List.set_cons_zero, List.set_cons_succ] at X); have Xc := X.cell; have Xf := X.frozen; have Xs := X.lt); (have OXn := own_keep OX.out (w' := w30) (by (repeat (first | (with_reducible refine bset ?_ (by first | (simp; done) | (simp; omega)) _) | (with_reducible refine balloc ?_ _) | (with_reducible refine bdrew ?_) | with_reducible exact Below.refl _ _ | (refine bthen ?_ (by with_reducible assumption)) | (refine bthen ?_ (by assumption)) | exact Below.refl _ _))); clear OX; have OX := Lib.hid OXn; clear OXn); (have BBn : Below w.heap.size w w30 := (by (repeat (first | (with_reducible refine bset ?_ (by first | (simp; done) | (simp; omega)) _) | (with_reducible refine balloc ?_ _) | (with_reducible refine bdrew ?_) | with_reducible exact Below.refl _ _ | (refine bthen ?_ (by with_reducible assumption)) | (refine bthen ?_ (by assumption)) | exact Below.refl _ _))); clear BB; have BB := BBn; clear BBn); clear hb30)
      have hXB : w13.heap.size ≠ gB := by omega
      have hXg : (Value.slice (some ⟨gX, 0, none⟩) fs.length cX).ownBlock ≠ some gB := by simp [Value.ownBlock]; omega
      go_upto_region 30 with fail
      refine wp_world ?_
      intro w31 hw31
      have YB31 : Bys w31 gB ((cat fs).set K nb) := by rw [hw31]; exact YB30.set hK2 nb
      ((apply Blk.use (w := w31) (g := w13.heap.size); (focus (rw [hw31]; (repeat (first | with_reducible assumption | ((with_reducible apply Blk.new'); first | rfl | (simp; done)) | with_reducible apply Blk.set_ | (with_reducible apply Blk.far' (by first | (simp; done) | (simp; omega))) | with_reducible apply Blk.alloc | with_reducible apply Blk.drew)))); clear X Xc Xf Xs; intro X; (try simp only [List.setIfInBounds_toArray, List.set_cons_zero, List.set_cons_succ] at X); have Xc := X.cell; have Xf := X.frozen; have Xs := X.lt); (have BBn : Below w.heap.size w w31 := (by rw [hw31]; (repeat (first | (with_reducible refine bset ?_ (by first | (simp; done) | (simp; omega)) _) | (with_reducible refine balloc ?_ _) | (with_reducible refine bdrew ?_) | with_reducible exact Below.refl _ _ | (refine bthen ?_ (by with_reducible assumption)) | (refine bthen ?_ (by assumption)) | exact Below.refl _ _))); clear BB; have BB := BBn; clear BBn))
      have OX31 : Hid (w31.ownsRow _ _ _ _ _ _) := Lib.hid (by rw [hw31]; exact own_far OX.out hXg _)
      clear hw31 OX YB30 YB29 ck fk hcx hxor HAT2
      have OX := OX31
      clear OX31
      have hcv2 := YB31.conv cB
      rw [List.length_set] at hcv2
      go_wp2_with fail
      refine (HTURN.out _).mono ?_
      rintro e w32 ⟨AT, cT, rfl, oT, hb32⟩
      dsimp only at oT ⊢
      have OT := Lib.hid oT
      clear oT hcv2 YB31
      ((apply Blk.use (w := w32) (g := w13.heap.size); (focus (apply Blk.lat hb32; (repeat (first | with_reducible assumption | ((with_reducible apply Blk.new'); first | rfl | (simp; done)) | with_reducible apply Blk.set_ | (with_reducible apply Blk.far' (by first | (simp; done) | (simp; omega))) | with_reducible apply Blk.alloc | with_reducible apply Blk.drew)))); clear X Xc Xf Xs; intro X; (try simp only [List.setIfInBounds_toArray, List.set_cons_zero, List.set_cons_succ] at X); have Xc := X.cell; have Xf := X.frozen; have Xs := X.lt); (have OXn := own_keep OX.out (w' := w32) (by (repeat (first | (with_reducible refine bset ?_ (by first | (simp; done) | (simp; omega)) _) | (with_reducible refine balloc ?_ _) | (with_reducible refine bdrew ?_) | with_reducible exact Below.refl _ _ | (refine bthen ?_ (by with_reducible assumption)) | (refine bthen ?_ (by assumption)) | exact Below.refl _ _))); clear OX; have OX := Lib.hid OXn; clear OXn); (have BBn : Below w.heap.size w w32 := (by (repeat (first | (with_reducible refine bset ?_ (by first | (simp; done) | (simp; omega)) _) | (with_reducible refine balloc ?_ _) | (with_reducible refine bdrew ?_) | with_reducible exact Below.refl _ _ | (refine bthen ?_ (by with_reducible assumption)) | (refine bthen ?_ (by assumption)) | exact Below.refl _ _))); clear BB; have BB := BBn; clear BBn); clear hb32)
      go_upto_region 31 with fail
      refine wp_world ?_
      intro w33 hw33
      apply Blk.use (w := w33) (g := w32.heap.size)
      · rw [hw33]; (repeat (first | with_reducible assumption | ((with_reducible apply Blk.new'); first | rfl | (simp; done)) | with_reducible apply Blk.set_ | (with_reducible apply Blk.far' (by first | (simp; done) | (simp; omega))) | with_reducible apply Blk.alloc | with_reducible apply Blk.drew))
      intro T
      try simp only [List.setIfInBounds_toArray, List.set_cons_zero, List.set_cons_succ] at T
      ((apply Blk.use (w := w33) (g := w13.heap.size); (focus (rw [hw33]; (repeat (first | with_reducible assumption | ((with_reducible apply Blk.new'); first | rfl | (simp; done)) | with_reducible apply Blk.set_ | (with_reducible apply Blk.far' (by first | (simp; done) | (simp; omega))) | with_reducible apply Blk.alloc | with_reducible apply Blk.drew)))); clear X Xc Xf Xs; intro X; (try simp only [List.setIfInBounds_toArray, List.set_cons_zero, List.set_cons_succ] at X); have Xc := X.cell; have Xf := X.frozen; have Xs := X.lt); (have BBn : Below w.heap.size w w33 := (by rw [hw33]; (repeat (first | (with_reducible refine bset ?_ (by first | (simp; done) | (simp; omega)) _) | (with_reducible refine balloc ?_ _) | (with_reducible refine bdrew ?_) | with_reducible exact Below.refl _ _ | (refine bthen ?_ (by with_reducible assumption)) | (refine bthen ?_ (by assumption)) | exact Below.refl _ _))); clear BB; have BB := BBn; clear BBn))
      have OX33 : Hid (w33.ownsRow _ _ _ _ _ _) := Lib.hid (by rw [hw33]; have h := OX.out; exact own_alloc h _)
      have OT33 : Hid (w33.ownsRow _ _ _ _ _ _) := Lib.hid (by rw [hw33]; have h := OT.out; exact own_alloc h _)
      clear hw33 OX OT
      have OX := OX33
      have OT := OT33
      clear OX33 OT33
      have HRG : Hid (∀ w', Below w33.heap.size w33 w' → Rd w' 2 (.slice (some ⟨gX, 0, none⟩) gs.length cX) gs.length (flat encFrm gs)) := Lib.hid fun w' hb => by
        have h := (Rd.of_own OX.out).later hb
        rw [HSP.out] at h
        exact Rd.pre (by simp) h
      have HLW : Hid (∀ w', Below w33.heap.size w33 w' → Gives Try.prog 15 #[.slice AT gs.length cT, .slice (some ⟨gX, 0, none⟩) gs.length cX] w' (.bool true)) := Lib.hid fun w' hb => lwFrames_same gs _ _ w' ((Rd.of_own OT.out).later hb) (HRG.out w' hb)
      have hsub : ((cat fs).length : Int) - (P.length : Int) = (cat gs).length := by have := HCL.out; omega
      have hni : (fs.length : Int) - 1 = (gs.length : Int) := by omega
      have hw1 : IntKind.i64.wrap (((cat fs).length : Int) - (P.length : Int)) = (cat gs).length := by rw [hsub, IntKind.wrap_i64]; omega
      have hw2 : IntKind.i64.wrap ((fs.length : Int) - 1) = (gs.length : Int) := by rw [hni, IntKind.wrap_i64]; omega
      have hsi : (gs.length : Int) ≤ cX := by omega
      have hsi2 : (gs.length : Int) ≤ fs.length := by omega
      have l0 := fun x => T.atL (i := 0) rfl x
      have l1_ := fun x => T.atL (i := 1) rfl x
      have l2_ := fun x => X.atL (i := 0) rfl x
      have l3_ := fun x => X.atL (i := 1) rfl x
      refine wp_region_later (by kernel_rfl) (by kernel_rfl) ?_
      repeat (go_big_quiet_step ((go_at_call 15; exact Gives.later _ (HLW.out _ (Later.ok _)))))
      refine wpQuiet_nil ?_
      rintro _ ⟨y, rfl⟩
      have hy := y.ok
      clear l0 l1_ l2_ l3_ hw1 hw2
      generalize y.now = w34 at *
      have BB34 : Below w.heap.size w w34 := bthen BB hy
      go_wp2
      go_ret
      exact ⟨rfl, BB34⟩
end Go.Proofs.Ytnehiflandjkoaa
