import Derived.Test.YtmammjpfmfblbaaC15
import Derived.Test.YtmammjpfmfblbaaInv
set_option linter.unusedSimpArgs false
set_option linter.unusedVariables false
namespace Go.Proofs.Ytmammjpfmfblbaa
open Go.RowKit M

theorem cut_len (p : Int) (t : Bs) : (cutText p t).1.length ≤ t.length := by
  unfold cutText
  split
  · exact Nat.le_refl _
  · split
    · simp; omega
    · exact Nat.le_refl _
set_option maxRecDepth 100000 in
set_option maxHeartbeats 4000000 in
theorem add_s_ok (rs : List Reg) (v : Value) (p : Int) (k : Nat) (q : Int) (t : ByteArray) (hk : k < rs.length) (h : diskOk rs p = true) (hp : p ≠ 0) (hfb : frameBytes q t.data.toList ≠ []) (hfull : ¬ fullLog (logOf rs k) (frameBytes q t.data.toList)) (w : World) (hr : Rd w 3 v rs.length (flat encReg rs)) :
    Calls Try.prog 27 #[.agg #[v, .int .i64 p], .int .i64 k, .agg #[.int .i64 q, .string t]] w fun e w' => NewOut w e w' (setLog rs k (logOf rs k ++ bs (cutText p (frameBytes q t.data.toList)).1)) (cutText p (frameBytes q t.data.toList)).2.1 (cutText p (frameBytes q t.data.toList)).2.2 := by
  have hB := fun w hr => l16Code_s rs v p k w hr
  rw [stage_ok h ⟨by omega, by omega⟩ hp] at hB
  have hF := fun w => frameBytes_s q t w
  have hfl := frameBytes_len q t.data.toList
  generalize frameBytes q t.data.toList = fb at *
  obtain ⟨A, cap, rfl, hn, hcap, hform⟩ := hr.form
  obtain ⟨b, off, rfl, hcells⟩ := hform (by omega)
  have hl := diskOk_len' h
  have hpw := power_le h
  obtain ⟨s, hs, hsz, hcell, hset⟩ := log_facts hk h
  rw [hs] at hfull ⊢
  unfold fullLog at hfull
  have hI := fun w => logRead_s s (by unfold maxLen; omega) w
  rcases hlg : logRead s.data.toList with ⟨fs, la, lc⟩
  rw [hlg] at hI hfull
  dsimp only at hfull
  have f1 : ¬ (12 : Int) ≤ fs.length := by omega
  have f2 : ¬ (3000 : Int) < (s.size : Int) + (fb.length : Int) := by omega
  have d1 : decide ((12 : Int) ≤ fs.length) = false := by simpa using f1
  have d2 : decide ((3000 : Int) < (s.size : Int) + (fb.length : Int)) = false := by simpa using f2
  have f3 : (s.size : Int) + (fb.length : Int) ≤ 20000 := by omega
  have hemp : (bs fb).toList.isEmpty = false := by rw [Lib.toList_data]; cases fb with
    | nil => exact absurd rfl hfb
    | cons a l => rfl
  have hemp' : ¬ (bs fb).toList = [] := by rw [Lib.toList_data]; exact hfb
  have hold := hcells (k * 3 + 2) _ hcell
  rw [← Nat.add_assoc] at hold
  have hbw : b < w.heap.size := World.block_lt_of_cell? w _ hold
  have HO : Hid (∀ w', Below w.heap.size w w' → w'.cell? ⟨b, off + k * 3 + 2, none⟩ = some (.string s)) := Lib.hid fun w' hb => by rw [(bcell hb).1 _ _ hbw]; exact hold
  have HR := Lib.hid hr
  have HB := Lib.hid hB
  have HFB := Lib.hid hF
  have HF := Lib.hid (hset (s ++ bs (cutText p fb).1))
  have HL := Lib.hid (setLog_len rs k (s ++ bs (cutText p fb).1))
  have HI := Lib.hid hI
  have HCut := Lib.hid (fun w => l16Cut_s p fb hpw hfl w)
  have hfd := field_frames
  have f4 : (s.size : Int) + ((cutText p fb).1.length : Int) ≤ 20000 := by have := cut_len p fb; omega
  clear hr hB h hp hF hfb hfull hlg hI hcell hset hs hform hcells hold
  generalize cutText p fb = ct at *
  obtain ⟨ct1, ct2, ct3⟩ := ct
  dsimp only at HF HL HCut f4 ⊢
  have i1 : (k : Int) < rs.length := by omega
  go_enter Try.func27, Try.ntmps27
  go_wp2_with (first
    | (go_at_call 41; refine (HB.out _ (HR.out.later (by (repeat (first | (with_reducible refine bset ?_ (by first | (simp; done) | (simp; omega)) _) | (with_reducible refine balloc ?_ _) | (with_reducible refine bdrew ?_) | with_reducible exact Below.refl _ _ | (refine bthen ?_ (by with_reducible assumption)) | (refine bthen ?_ (by assumption)) | exact Below.refl _ _))))).use.mono ?_; rintro e w0 ⟨rfl, hb0⟩; (apply Blk.use (w := w0) (g := w.heap.size + 1 + 1); (focus (apply Blk.lat hb0; (repeat (first | with_reducible assumption | ((with_reducible apply Blk.new'); first | rfl | (simp; done)) | with_reducible apply Blk.set_ | (with_reducible apply Blk.far' (by first | (simp; done) | (simp; omega))) | with_reducible apply Blk.alloc | with_reducible apply Blk.drew)))); intro Z0; (try simp only [List.setIfInBounds_toArray, List.set_cons_zero, List.set_cons_succ] at Z0); have Z0c := Z0.cell; have Z0f := Z0.frozen; have Z0s := Z0.lt); (apply Blk.use (w := w0) (g := w.heap.size); (focus (apply Blk.lat hb0; (repeat (first | with_reducible assumption | ((with_reducible apply Blk.new'); first | rfl | (simp; done)) | with_reducible apply Blk.set_ | (with_reducible apply Blk.far' (by first | (simp; done) | (simp; omega))) | with_reducible apply Blk.alloc | with_reducible apply Blk.drew)))); intro D0; (try simp only [List.setIfInBounds_toArray, List.set_cons_zero, List.set_cons_succ] at D0); have D0c := D0.cell; have D0f := D0.frozen; have D0s := D0.lt); (apply Blk.use (w := w0) (g := w.heap.size + 1); (focus (apply Blk.lat hb0; (repeat (first | with_reducible assumption | ((with_reducible apply Blk.new'); first | rfl | (simp; done)) | with_reducible apply Blk.set_ | (with_reducible apply Blk.far' (by first | (simp; done) | (simp; omega))) | with_reducible apply Blk.alloc | with_reducible apply Blk.drew)))); intro F0; (try simp only [List.setIfInBounds_toArray, List.set_cons_zero, List.set_cons_succ] at F0); have F0c := F0.cell; have F0f := F0.frozen; have F0s := F0.lt))
    | (go_at_call 49; refine (HFB.out _).use.mono ?_; rintro e w1 ⟨rfl, hb1⟩; (apply Blk.use (w := w1) (g := w.heap.size + 1 + 1); (focus (apply Blk.lat hb1; (repeat (first | with_reducible assumption | ((with_reducible apply Blk.new'); first | rfl | (simp; done)) | with_reducible apply Blk.set_ | (with_reducible apply Blk.far' (by first | (simp; done) | (simp; omega))) | with_reducible apply Blk.alloc | with_reducible apply Blk.drew)))); intro Z1; (try simp only [List.setIfInBounds_toArray, List.set_cons_zero, List.set_cons_succ] at Z1); have Z1c := Z1.cell; have Z1f := Z1.frozen; have Z1s := Z1.lt); (apply Blk.use (w := w1) (g := w.heap.size); (focus (apply Blk.lat hb1; (repeat (first | with_reducible assumption | ((with_reducible apply Blk.new'); first | rfl | (simp; done)) | with_reducible apply Blk.set_ | (with_reducible apply Blk.far' (by first | (simp; done) | (simp; omega))) | with_reducible apply Blk.alloc | with_reducible apply Blk.drew)))); intro D1; (try simp only [List.setIfInBounds_toArray, List.set_cons_zero, List.set_cons_succ] at D1); have D1c := D1.cell; have D1f := D1.frozen; have D1s := D1.lt); have BB1 : Below w.heap.size w w1 := (by (repeat (first | (with_reducible refine bset ?_ (by first | (simp; done) | (simp; omega)) _) | (with_reducible refine balloc ?_ _) | (with_reducible refine bdrew ?_) | with_reducible exact Below.refl _ _ | (refine bthen ?_ (by with_reducible assumption)) | (refine bthen ?_ (by assumption)) | exact Below.refl _ _))); have o1 := HO.out w1 BB1; have hbl1 : b < w1.heap.size := Nat.lt_of_lt_of_le hbw BB1.size; clear Z0 Z0c Z0f D0 D0c D0f F0 F0c F0f hb0 hb1)
    | (go_at_call 9; refine (HI.out _).mono ?_; rintro e w2 ⟨AL, cL, rfl, oL, hb2⟩; (apply Blk.use (w := w2) (g := w.heap.size + 1 + 1); (focus (apply Blk.lat hb2; (repeat (first | with_reducible assumption | ((with_reducible apply Blk.new'); first | rfl | (simp; done)) | with_reducible apply Blk.set_ | (with_reducible apply Blk.far' (by first | (simp; done) | (simp; omega))) | with_reducible apply Blk.alloc | with_reducible apply Blk.drew)))); intro Z2; (try simp only [List.setIfInBounds_toArray, List.set_cons_zero, List.set_cons_succ] at Z2); have Z2c := Z2.cell; have Z2f := Z2.frozen; have Z2s := Z2.lt); (apply Blk.use (w := w2) (g := w.heap.size); (focus (apply Blk.lat hb2; (repeat (first | with_reducible assumption | ((with_reducible apply Blk.new'); first | rfl | (simp; done)) | with_reducible apply Blk.set_ | (with_reducible apply Blk.far' (by first | (simp; done) | (simp; omega))) | with_reducible apply Blk.alloc | with_reducible apply Blk.drew)))); intro D2; (try simp only [List.setIfInBounds_toArray, List.set_cons_zero, List.set_cons_succ] at D2); have D2c := D2.cell; have D2f := D2.frozen; have D2s := D2.lt); have BB2 : Below w.heap.size w w2 := (by (repeat (first | (with_reducible refine bset ?_ (by first | (simp; done) | (simp; omega)) _) | (with_reducible refine balloc ?_ _) | (with_reducible refine bdrew ?_) | with_reducible exact Below.refl _ _ | (refine bthen ?_ (by with_reducible assumption)) | (refine bthen ?_ (by assumption)) | exact Below.refl _ _))); have o2 := HO.out w2 BB2; have hbl2 : b < w2.heap.size := Nat.lt_of_lt_of_le hbw BB2.size; clear oL Z1 Z1c Z1f D1 D1c D1f hb2 BB1 o1)
    | (go_at_call 43; refine (copyDisk_s rs _ _ hl _ (HR.out.later (by (repeat (first | (with_reducible refine bset ?_ (by first | (simp; done) | (simp; omega)) _) | (with_reducible refine balloc ?_ _) | (with_reducible refine bdrew ?_) | with_reducible exact Below.refl _ _ | (refine bthen ?_ (by with_reducible assumption)) | (refine bthen ?_ (by assumption)) | exact Below.refl _ _))))).mono ?_; rintro e w3 ⟨A1, c1, rfl, ho1, hb3⟩; (apply Blk.use (w := w3) (g := w.heap.size + 1 + 1); (focus (apply Blk.lat hb3; (repeat (first | with_reducible assumption | ((with_reducible apply Blk.new'); first | rfl | (simp; done)) | with_reducible apply Blk.set_ | (with_reducible apply Blk.far' (by first | (simp; done) | (simp; omega))) | with_reducible apply Blk.alloc | with_reducible apply Blk.drew)))); intro Z3; (try simp only [List.setIfInBounds_toArray, List.set_cons_zero, List.set_cons_succ] at Z3); have Z3c := Z3.cell; have Z3f := Z3.frozen; have Z3s := Z3.lt); (apply Blk.use (w := w3) (g := w.heap.size); (focus (apply Blk.lat hb3; (repeat (first | with_reducible assumption | ((with_reducible apply Blk.new'); first | rfl | (simp; done)) | with_reducible apply Blk.set_ | (with_reducible apply Blk.far' (by first | (simp; done) | (simp; omega))) | with_reducible apply Blk.alloc | with_reducible apply Blk.drew)))); intro D3; (try simp only [List.setIfInBounds_toArray, List.set_cons_zero, List.set_cons_succ] at D3); have D3c := D3.cell; have D3f := D3.frozen; have D3s := D3.lt); obtain ⟨g, rfl, hg1, hg2⟩ := own_slice ho1 (by omega); have O1 := Lib.hid ho1; have BB3 : Below w.heap.size w w3 := (by (repeat (first | (with_reducible refine bset ?_ (by first | (simp; done) | (simp; omega)) _) | (with_reducible refine balloc ?_ _) | (with_reducible refine bdrew ?_) | with_reducible exact Below.refl _ _ | (refine bthen ?_ (by with_reducible assumption)) | (refine bthen ?_ (by assumption)) | exact Below.refl _ _))); clear ho1 Z2 Z2c Z2f D2 D2c D2f hb3 BB2 o2)
    | (go_at_call 50; refine (HCut.out _).use.mono ?_; rintro e w4 ⟨rfl, hb4⟩; (apply Blk.use (w := w4) (g := w.heap.size + 1 + 1); (focus (apply Blk.lat hb4; (repeat (first | with_reducible assumption | ((with_reducible apply Blk.new'); first | rfl | (simp; done)) | with_reducible apply Blk.set_ | (with_reducible apply Blk.far' (by first | (simp; done) | (simp; omega))) | with_reducible apply Blk.alloc | with_reducible apply Blk.drew)))); intro Z4; (try simp only [List.setIfInBounds_toArray, List.set_cons_zero, List.set_cons_succ] at Z4); have Z4c := Z4.cell; have Z4f := Z4.frozen; have Z4s := Z4.lt); (apply Blk.use (w := w4) (g := w3.heap.size); (focus (apply Blk.lat hb4; (repeat (first | with_reducible assumption | ((with_reducible apply Blk.new'); first | rfl | (simp; done)) | with_reducible apply Blk.set_ | (with_reducible apply Blk.far' (by first | (simp; done) | (simp; omega))) | with_reducible apply Blk.alloc | with_reducible apply Blk.drew)))); intro U4; (try simp only [List.setIfInBounds_toArray, List.set_cons_zero, List.set_cons_succ] at U4); have U4c := U4.cell; have U4f := U4.frozen; have U4s := U4.lt); (apply Blk.use (w := w4) (g := w.heap.size); (focus (apply Blk.lat hb4; (repeat (first | with_reducible assumption | ((with_reducible apply Blk.new'); first | rfl | (simp; done)) | with_reducible apply Blk.set_ | (with_reducible apply Blk.far' (by first | (simp; done) | (simp; omega))) | with_reducible apply Blk.alloc | with_reducible apply Blk.drew)))); intro D4; (try simp only [List.setIfInBounds_toArray, List.set_cons_zero, List.set_cons_succ] at D4); have D4c := D4.cell; have D4f := D4.frozen; have D4s := D4.lt); have O4 := Lib.hid (own_keep O1.out (w' := w4) (by (repeat (first | (with_reducible refine bset ?_ (by first | (simp; done) | (simp; omega)) _) | (with_reducible refine balloc ?_ _) | (with_reducible refine bdrew ?_) | with_reducible exact Below.refl _ _ | (refine bthen ?_ (by with_reducible assumption)) | (refine bthen ?_ (by assumption)) | exact Below.refl _ _)))); have BB4 : Below w.heap.size w w4 := (by (repeat (first | (with_reducible refine bset ?_ (by first | (simp; done) | (simp; omega)) _) | (with_reducible refine balloc ?_ _) | (with_reducible refine bdrew ?_) | with_reducible exact Below.refl _ _ | (refine bthen ?_ (by with_reducible assumption)) | (refine bthen ?_ (by assumption)) | exact Below.refl _ _))); have o4 := HO.out w4 BB4; obtain ⟨⟨u0, q0⟩, q1, q2⟩ := own_at O4.out (m := k * 3 + 2) (by omega); have Q2 := Lib.hid q2; have gne : g ≠ w3.heap.size := Nat.ne_of_lt hg2; have gne' := gne.symm; have gnz : g ≠ w.heap.size + 1 + 1 := (by omega); have gnz' := gnz.symm; clear q2 Z3 Z3c Z3f D3 D3c D3f hb4 O1 BB3))
  have gw : g ≠ w.heap.size := by omega
  have gw' := gw.symm
  have gb : g ≠ b := by omega
  have gb' := gb.symm
  have hbl4 : b < w4.heap.size := Nat.lt_of_lt_of_le hbw BB4.size
  refine wp_region_grow 13 [isV (.pointer (some ⟨w3.heap.size, 0, none⟩)), isV (.slice (some ⟨g, 0, none⟩) rs.length c1), isV (.int .i64 k), isV (.pointer (some ⟨w.heap.size, 0, none⟩)), isV (.slice (some ⟨b, off, none⟩) rs.length cap), isV (.int .i64 k), isV (.pointer (some ⟨b, off + k * 3, none⟩)), isV (.pointer (some ⟨b, off + k * 3 + 2, none⟩)), isV (.string s), isV (.string (bs ct1)), isV (.string (s ++ bs ct1)), isV (.pointer (some ⟨g, k * 3, none⟩)), isV (.pointer (some ⟨g, k * 3 + 2, none⟩))] (by kernel_rfl) (by kernel_rfl) (by repeat (first | exact AllStay.nil | refine AllStay.cons (stays_v _) ?_ | refine AllStay.cons (stays_own _ _ _ _ _ _) ?_ | refine AllStay.cons (stays_box _ _ _) ?_ | refine AllStay.cons (stays_sl _ _ _ _) ?_ | (refine AllStay.cons (by with_reducible assumption) ?_))) ?_; intro vs
  refine wpGrow_step rfl (by intro w' hb hd; clear hd; unfold growAt; go_simp; exact growV) ?_
  refine wpGrow_step rfl (by intro w' hb hd; have d0 := kV (hd 0 (by decide)) rfl; clear hd; have U4' := U4.later hb; have U4'c := U4'.cell; unfold growAt; go_simp; exact growV) ?_
  refine wpGrow_step rfl (by intro w' hb hd; clear hd; unfold growAt; go_simp; exact growV) ?_
  refine wpGrow_step rfl (by intro w' hb hd; clear hd; unfold growAt; go_simp; exact growV) ?_
  refine wpGrow_step rfl (by intro w' hb hd; have d3 := kV (hd 3 (by decide)) rfl; clear hd; have D4' := D4.later hb; have D4'c := D4'.cell; unfold growAt; go_simp; exact growV) ?_
  refine wpGrow_step rfl (by intro w' hb hd; clear hd; unfold growAt; go_simp; exact growV) ?_
  refine wpGrow_step rfl (by intro w' hb hd; have d4 := kV (hd 4 (by decide)) rfl; have d5 := kV (hd 5 (by decide)) rfl; clear hd; unfold growAt; go_simp; exact growV) ?_
  refine wpGrow_step rfl (by intro w' hb hd; have d6 := kV (hd 6 (by decide)) rfl; clear hd; unfold growAt; go_simp; exact growV) ?_
  refine wpGrow_step rfl (by intro w' hb hd; have d7 := kV (hd 7 (by decide)) rfl; clear hd; unfold growAt; go_simp; (have r0 := (bcell hb).1 b (off + k * 3 + 2) hbl4; rw [o4] at r0; go_simp; exact growV)) ?_
  refine wpGrow_step rfl (by intro w' hb hd; clear hd; unfold growAt; go_simp; exact growV) ?_
  refine wpGrow_step rfl (by intro w' hb hd; have d8 := kV (hd 8 (by decide)) rfl; have d9 := kV (hd 9 (by decide)) rfl; clear hd; unfold growAt; go_simp; (rw [if_neg (by omega)]; exact growV)) ?_
  refine wpGrow_step rfl (by intro w' hb hd; have d1 := kV (hd 1 (by decide)) rfl; have d2 := kV (hd 2 (by decide)) rfl; clear hd; unfold growAt; go_simp; exact growV) ?_
  refine wpGrow_step rfl (by intro w' hb hd; have d11 := kV (hd 11 (by decide)) rfl; clear hd; unfold growAt; go_simp; exact growV) ?_
  intro w5 hb5 hk; have d0 := kV (hk 0 (by omega)) rfl; have d1 := kV (hk 1 (by omega)) rfl; have d2 := kV (hk 2 (by omega)) rfl; have d3 := kV (hk 3 (by omega)) rfl; have d4 := kV (hk 4 (by omega)) rfl; have d5 := kV (hk 5 (by omega)) rfl; have d6 := kV (hk 6 (by omega)) rfl; have d7 := kV (hk 7 (by omega)) rfl; have d8 := kV (hk 8 (by omega)) rfl; have d9 := kV (hk 9 (by omega)) rfl; have d10 := kV (hk 10 (by omega)) rfl; have d11 := kV (hk 11 (by omega)) rfl; have d12 := kV (hk 12 (by omega)) rfl; simp only [d0, d1, d2, d3, d4, d5, d6, d7, d8, d9, d10, d11, d12, Act.put, List.setIfInBounds_toArray, List.set_cons_succ, List.set_cons_zero]; clear hk d0 d1 d2 d3 d4 d5 d6 d7 d8 d9 d10 d11 d12
  have hz4 : w3.heap.size < w4.heap.size := U4s
  (apply Blk.use (w := w5) (g := w.heap.size + 1 + 1); (focus (apply Blk.lat hb5; (repeat (first | with_reducible assumption | ((with_reducible apply Blk.new'); first | rfl | (simp; done)) | with_reducible apply Blk.set_ | (with_reducible apply Blk.far' (by first | (simp; done) | (simp; omega))) | with_reducible apply Blk.alloc | with_reducible apply Blk.drew)))); intro Z5; (try simp only [List.setIfInBounds_toArray, List.set_cons_zero, List.set_cons_succ] at Z5); have Z5c := Z5.cell; have Z5f := Z5.frozen; have Z5s := Z5.lt)
  (apply Blk.use (w := w5) (g := w3.heap.size); (focus (apply Blk.lat hb5; (repeat (first | with_reducible assumption | ((with_reducible apply Blk.new'); first | rfl | (simp; done)) | with_reducible apply Blk.set_ | (with_reducible apply Blk.far' (by first | (simp; done) | (simp; omega))) | with_reducible apply Blk.alloc | with_reducible apply Blk.drew)))); intro U5; (try simp only [List.setIfInBounds_toArray, List.set_cons_zero, List.set_cons_succ] at U5); have U5c := U5.cell; have U5f := U5.frozen; have U5s := U5.lt)
  (apply Blk.use (w := w5) (g := w.heap.size); (focus (apply Blk.lat hb5; (repeat (first | with_reducible assumption | ((with_reducible apply Blk.new'); first | rfl | (simp; done)) | with_reducible apply Blk.set_ | (with_reducible apply Blk.far' (by first | (simp; done) | (simp; omega))) | with_reducible apply Blk.alloc | with_reducible apply Blk.drew)))); intro D5; (try simp only [List.setIfInBounds_toArray, List.set_cons_zero, List.set_cons_succ] at D5); have D5c := D5.cell; have D5f := D5.frozen; have D5s := D5.lt)
  have O4' := Lib.hid (own_keep O4.out hb5)
  have BB5 : Below w.heap.size w w5 := by (repeat (first | (with_reducible refine bset ?_ (by first | (simp; done) | (simp; omega)) _) | (with_reducible refine balloc ?_ _) | (with_reducible refine bdrew ?_) | with_reducible exact Below.refl _ _ | (refine bthen ?_ (by with_reducible assumption)) | (refine bthen ?_ (by assumption)) | exact Below.refl _ _))
  obtain ⟨⟨u0, q5⟩, q6, q7⟩ := own_at O4'.out (m := k * 3 + 2) (by omega)
  have Q5 := Lib.hid q7
  clear q7 Q2 Z4 Z4c Z4f U4 U4c U4f D4 D4c D4f O4 o4 q0 q1 hb5
  have O5 := Q5.out (.string (s ++ bs ct1))
  rw [HF.out] at O5
  go_wp2
  refine bp_world ?_
  intro w9 hw9
  (apply Blk.use (w := w9) (g := w.heap.size + 1 + 1); (focus (rw [hw9]; (repeat (first | with_reducible assumption | ((with_reducible apply Blk.new'); first | rfl | (simp; done)) | with_reducible apply Blk.set_ | (with_reducible apply Blk.far' (by first | (simp; done) | (simp; omega))) | with_reducible apply Blk.alloc | with_reducible apply Blk.drew)))); intro Z9; (try simp only [List.setIfInBounds_toArray, List.set_cons_zero, List.set_cons_succ] at Z9); have Z9c := Z9.cell; have Z9f := Z9.frozen; have Z9s := Z9.lt)
  have hob : (Value.slice (some ⟨g, 0, none⟩) rs.length c1).ownBlock ≠ some w3.heap.size := by simp [Value.ownBlock]; exact gne
  have O9 : w9.ownsRow w2.heap.size 68 3 (.slice (some ⟨g, 0, none⟩) rs.length c1) rs.length (flat encReg (setLog rs k (s ++ bs ct1))) := by
    rw [hw9]
    have O7 := own_far O5 (j := 1) hob (.int .i64 ct2)
    (repeat (first | with_reducible assumption | (with_reducible refine own_set ?_ (by first | (simp; done) | (simp; omega)) _) | (with_reducible refine own_alloc ?_ _)))
  have B9 : Below w.heap.size w w9 := by rw [hw9]; (repeat (first | (with_reducible refine bset ?_ (by first | (simp; done) | (simp; omega)) _) | (with_reducible refine balloc ?_ _) | (with_reducible refine bdrew ?_) | with_reducible exact Below.refl _ _ | (refine bthen ?_ (by with_reducible assumption)) | (refine bthen ?_ (by assumption)) | exact Below.refl _ _))
  clear hw9 Q5 HB HR HF Z5 Z5c Z5f U5 U5c U5f D5 D5c D5f O4' O5 q5 q6
  exact bodyPost_ret (v := .agg #[.slice (some ⟨g, 0, none⟩) rs.length c1, .int .i64 ct2, .int .i64 ct3]) (by simp [results, Try.results27, go_sem, Z9c]) rfl ⟨some ⟨g, 0, none⟩, c1, by rw [HL.out], by rw [HL.out]; exact own_base O9 (by omega), B9⟩
set_option maxRecDepth 100000 in
set_option maxHeartbeats 4000000 in
theorem add_s_full (rs : List Reg) (v : Value) (p : Int) (k : Nat) (q : Int) (t : ByteArray) (hk : k < rs.length) (h : diskOk rs p = true) (hp : p ≠ 0) (hfb : frameBytes q t.data.toList ≠ []) (hfull : fullLog (logOf rs k) (frameBytes q t.data.toList)) (w : World) (hr : Rd w 3 v rs.length (flat encReg rs)) :
    Calls Try.prog 27 #[.agg #[v, .int .i64 p], .int .i64 k, .agg #[.int .i64 q, .string t]] w fun e w' => NewOut w e w' [] 0 9 := by
  have hB := fun w hr => l16Code_s rs v p k w hr
  rw [stage_ok h ⟨by omega, by omega⟩ hp] at hB
  have hF := fun w => frameBytes_s q t w
  have hfl := frameBytes_len q t.data.toList
  generalize frameBytes q t.data.toList = fb at *
  obtain ⟨A, cap, rfl, hn, hcap, hform⟩ := hr.form
  obtain ⟨b, off, rfl, hcells⟩ := hform (by omega)
  have hl := diskOk_len' h
  have hpw := power_le h
  obtain ⟨s, hs, hsz, hcell, hset⟩ := log_facts hk h
  rw [hs] at hfull
  unfold fullLog at hfull
  have hI := fun w => logRead_s s (by unfold maxLen; omega) w
  rcases hlg : logRead s.data.toList with ⟨fs, la, lc⟩
  rw [hlg] at hI hfull
  dsimp only at hfull
  have f3 : (s.size : Int) + (fb.length : Int) ≤ 20000 := by omega
  have hff : ((12 : Int) ≤ fs.length ∧ decide ((12 : Int) ≤ fs.length) = true) ∨ (decide ((12 : Int) ≤ fs.length) = false ∧ decide ((3000 : Int) < (s.size : Int) + (fb.length : Int)) = true ∧ (3000 : Int) < (s.size : Int) + (fb.length : Int)) := by
    by_cases h12 : (12 : Int) ≤ fs.length
    · exact .inl ⟨h12, by simpa using h12⟩
    · have h30 : (3000 : Int) < (s.size : Int) + (fb.length : Int) := by omega
      exact .inr ⟨by simpa using h12, by simpa using h30, h30⟩
  have hemp : (bs fb).toList.isEmpty = false := by rw [Lib.toList_data]; cases fb with
    | nil => exact absurd rfl hfb
    | cons a l => rfl
  have hemp' : ¬ (bs fb).toList = [] := by rw [Lib.toList_data]; exact hfb
  have hold := hcells (k * 3 + 2) _ hcell
  rw [← Nat.add_assoc] at hold
  have hbw : b < w.heap.size := World.block_lt_of_cell? w _ hold
  have HO : Hid (∀ w', Below w.heap.size w w' → w'.cell? ⟨b, off + k * 3 + 2, none⟩ = some (.string s)) := Lib.hid fun w' hb => by rw [(bcell hb).1 _ _ hbw]; exact hold
  have HR := Lib.hid hr
  have HB := Lib.hid hB
  have HFB := Lib.hid hF
  have HI := Lib.hid hI
  have hfd := field_frames
  clear hr hB h hp hF hfb hfull hlg hI hcell hset hs hform hcells hold
  have i1 : (k : Int) < rs.length := by omega
  rcases hff with ⟨f1, d1⟩ | ⟨d1, d2, f2⟩
  all_goals
    go_enter Try.func27, Try.ntmps27
    go_wp2_with (first
      | (go_at_call 41; refine (HB.out _ (HR.out.later (by (repeat (first | (with_reducible refine bset ?_ (by first | (simp; done) | (simp; omega)) _) | (with_reducible refine balloc ?_ _) | (with_reducible refine bdrew ?_) | with_reducible exact Below.refl _ _ | (refine bthen ?_ (by with_reducible assumption)) | (refine bthen ?_ (by assumption)) | exact Below.refl _ _))))).use.mono ?_; rintro e w0 ⟨rfl, hb0⟩; (apply Blk.use (w := w0) (g := w.heap.size + 1 + 1); (focus (apply Blk.lat hb0; (repeat (first | with_reducible assumption | ((with_reducible apply Blk.new'); first | rfl | (simp; done)) | with_reducible apply Blk.set_ | (with_reducible apply Blk.far' (by first | (simp; done) | (simp; omega))) | with_reducible apply Blk.alloc | with_reducible apply Blk.drew)))); intro Z0; (try simp only [List.setIfInBounds_toArray, List.set_cons_zero, List.set_cons_succ] at Z0); have Z0c := Z0.cell; have Z0f := Z0.frozen; have Z0s := Z0.lt); (apply Blk.use (w := w0) (g := w.heap.size); (focus (apply Blk.lat hb0; (repeat (first | with_reducible assumption | ((with_reducible apply Blk.new'); first | rfl | (simp; done)) | with_reducible apply Blk.set_ | (with_reducible apply Blk.far' (by first | (simp; done) | (simp; omega))) | with_reducible apply Blk.alloc | with_reducible apply Blk.drew)))); intro D0; (try simp only [List.setIfInBounds_toArray, List.set_cons_zero, List.set_cons_succ] at D0); have D0c := D0.cell; have D0f := D0.frozen; have D0s := D0.lt); (apply Blk.use (w := w0) (g := w.heap.size + 1); (focus (apply Blk.lat hb0; (repeat (first | with_reducible assumption | ((with_reducible apply Blk.new'); first | rfl | (simp; done)) | with_reducible apply Blk.set_ | (with_reducible apply Blk.far' (by first | (simp; done) | (simp; omega))) | with_reducible apply Blk.alloc | with_reducible apply Blk.drew)))); intro F0; (try simp only [List.setIfInBounds_toArray, List.set_cons_zero, List.set_cons_succ] at F0); have F0c := F0.cell; have F0f := F0.frozen; have F0s := F0.lt))
      | (go_at_call 49; refine (HFB.out _).use.mono ?_; rintro e w1 ⟨rfl, hb1⟩; (apply Blk.use (w := w1) (g := w.heap.size + 1 + 1); (focus (apply Blk.lat hb1; (repeat (first | with_reducible assumption | ((with_reducible apply Blk.new'); first | rfl | (simp; done)) | with_reducible apply Blk.set_ | (with_reducible apply Blk.far' (by first | (simp; done) | (simp; omega))) | with_reducible apply Blk.alloc | with_reducible apply Blk.drew)))); intro Z1; (try simp only [List.setIfInBounds_toArray, List.set_cons_zero, List.set_cons_succ] at Z1); have Z1c := Z1.cell; have Z1f := Z1.frozen; have Z1s := Z1.lt); (apply Blk.use (w := w1) (g := w.heap.size); (focus (apply Blk.lat hb1; (repeat (first | with_reducible assumption | ((with_reducible apply Blk.new'); first | rfl | (simp; done)) | with_reducible apply Blk.set_ | (with_reducible apply Blk.far' (by first | (simp; done) | (simp; omega))) | with_reducible apply Blk.alloc | with_reducible apply Blk.drew)))); intro D1; (try simp only [List.setIfInBounds_toArray, List.set_cons_zero, List.set_cons_succ] at D1); have D1c := D1.cell; have D1f := D1.frozen; have D1s := D1.lt); have BB1 : Below w.heap.size w w1 := (by (repeat (first | (with_reducible refine bset ?_ (by first | (simp; done) | (simp; omega)) _) | (with_reducible refine balloc ?_ _) | (with_reducible refine bdrew ?_) | with_reducible exact Below.refl _ _ | (refine bthen ?_ (by with_reducible assumption)) | (refine bthen ?_ (by assumption)) | exact Below.refl _ _))); have o1 := HO.out w1 BB1; have hbl1 : b < w1.heap.size := Nat.lt_of_lt_of_le hbw BB1.size; clear Z0 Z0c Z0f D0 D0c D0f F0 F0c F0f hb0 hb1)
      | (go_at_call 9; refine (HI.out _).mono ?_; rintro e w2 ⟨AL, cL, rfl, oL, hb2⟩; (apply Blk.use (w := w2) (g := w.heap.size + 1 + 1); (focus (apply Blk.lat hb2; (repeat (first | with_reducible assumption | ((with_reducible apply Blk.new'); first | rfl | (simp; done)) | with_reducible apply Blk.set_ | (with_reducible apply Blk.far' (by first | (simp; done) | (simp; omega))) | with_reducible apply Blk.alloc | with_reducible apply Blk.drew)))); intro Z2; (try simp only [List.setIfInBounds_toArray, List.set_cons_zero, List.set_cons_succ] at Z2); have Z2c := Z2.cell; have Z2f := Z2.frozen; have Z2s := Z2.lt); (apply Blk.use (w := w2) (g := w.heap.size); (focus (apply Blk.lat hb2; (repeat (first | with_reducible assumption | ((with_reducible apply Blk.new'); first | rfl | (simp; done)) | with_reducible apply Blk.set_ | (with_reducible apply Blk.far' (by first | (simp; done) | (simp; omega))) | with_reducible apply Blk.alloc | with_reducible apply Blk.drew)))); intro D2; (try simp only [List.setIfInBounds_toArray, List.set_cons_zero, List.set_cons_succ] at D2); have D2c := D2.cell; have D2f := D2.frozen; have D2s := D2.lt); have BB2 : Below w.heap.size w w2 := (by (repeat (first | (with_reducible refine bset ?_ (by first | (simp; done) | (simp; omega)) _) | (with_reducible refine balloc ?_ _) | (with_reducible refine bdrew ?_) | with_reducible exact Below.refl _ _ | (refine bthen ?_ (by with_reducible assumption)) | (refine bthen ?_ (by assumption)) | exact Below.refl _ _))); have o2 := HO.out w2 BB2; have hbl2 : b < w2.heap.size := Nat.lt_of_lt_of_le hbw BB2.size; clear oL Z1 Z1c Z1f D1 D1c D1f hb2 BB1 o1))
    refine bp_world ?_
    intro w9 hw9
    (apply Blk.use (w := w9) (g := w.heap.size + 1 + 1); (focus (rw [hw9]; (repeat (first | with_reducible assumption | ((with_reducible apply Blk.new'); first | rfl | (simp; done)) | with_reducible apply Blk.set_ | (with_reducible apply Blk.far' (by first | (simp; done) | (simp; omega))) | with_reducible apply Blk.alloc | with_reducible apply Blk.drew)))); intro Z9; (try simp only [List.setIfInBounds_toArray, List.set_cons_zero, List.set_cons_succ] at Z9); have Z9c := Z9.cell; have Z9f := Z9.frozen; have Z9s := Z9.lt)
    have B9 : Below w.heap.size w w9 := by rw [hw9]; (repeat (first | (with_reducible refine bset ?_ (by first | (simp; done) | (simp; omega)) _) | (with_reducible refine balloc ?_ _) | (with_reducible refine bdrew ?_) | with_reducible exact Below.refl _ _ | (refine bthen ?_ (by with_reducible assumption)) | (refine bthen ?_ (by assumption)) | exact Below.refl _ _))
    clear hw9 HB HR Z2 Z2c Z2f D2 D2c D2f o2
    exact bodyPost_ret (v := .agg #[.slice none 0 0, .int .i64 0, .int .i64 9]) (by simp [results, Try.results27, go_sem, Z9c]) rfl ⟨none, 0, rfl, World.ownsRow_nil _ _ _ _, B9⟩
set_option maxRecDepth 100000 in
theorem add_s_empty (rs : List Reg) (v : Value) (p : Int) (k : Nat) (q : Int) (t : ByteArray) (hk : k < rs.length) (h : diskOk rs p = true) (hp : p ≠ 0) (hfb : frameBytes q t.data.toList = []) (w : World) (hr : Rd w 3 v rs.length (flat encReg rs)) :
    Calls Try.prog 27 #[.agg #[v, .int .i64 p], .int .i64 k, .agg #[.int .i64 q, .string t]] w fun e w' => NewOut w e w' [] 0 2 := by
  have hB := fun w hr => l16Code_s rs v p k w hr
  rw [stage_ok h ⟨by omega, by omega⟩ hp] at hB
  have hF := fun w => frameBytes_s q t w
  rw [hfb] at hF
  obtain ⟨A, cap, rfl, _⟩ := hr.form
  have hemp : (bs []).toList.isEmpty = true := by rw [Lib.toList_data]; rfl
  have hemp' : (bs []).toList = [] := by rw [Lib.toList_data]; rfl
  have HR := Lib.hid hr
  have HB := Lib.hid hB
  have HFB := Lib.hid hF
  clear hr hB h hp hF hfb
  go_enter Try.func27, Try.ntmps27
  go_wp2_with (first
    | (go_at_call 41; refine (HB.out _ (HR.out.later (by (repeat (first | (with_reducible refine bset ?_ (by first | (simp; done) | (simp; omega)) _) | (with_reducible refine balloc ?_ _) | (with_reducible refine bdrew ?_) | with_reducible exact Below.refl _ _ | (refine bthen ?_ (by with_reducible assumption)) | (refine bthen ?_ (by assumption)) | exact Below.refl _ _))))).use.mono ?_; rintro e w0 ⟨rfl, hb0⟩; (apply Blk.use (w := w0) (g := w.heap.size + 1 + 1); (focus (apply Blk.lat hb0; (repeat (first | with_reducible assumption | ((with_reducible apply Blk.new'); first | rfl | (simp; done)) | with_reducible apply Blk.set_ | (with_reducible apply Blk.far' (by first | (simp; done) | (simp; omega))) | with_reducible apply Blk.alloc | with_reducible apply Blk.drew)))); intro Z0; (try simp only [List.setIfInBounds_toArray, List.set_cons_zero, List.set_cons_succ] at Z0); have Z0c := Z0.cell; have Z0f := Z0.frozen; have Z0s := Z0.lt); (apply Blk.use (w := w0) (g := w.heap.size); (focus (apply Blk.lat hb0; (repeat (first | with_reducible assumption | ((with_reducible apply Blk.new'); first | rfl | (simp; done)) | with_reducible apply Blk.set_ | (with_reducible apply Blk.far' (by first | (simp; done) | (simp; omega))) | with_reducible apply Blk.alloc | with_reducible apply Blk.drew)))); intro D0; (try simp only [List.setIfInBounds_toArray, List.set_cons_zero, List.set_cons_succ] at D0); have D0c := D0.cell; have D0f := D0.frozen; have D0s := D0.lt); (apply Blk.use (w := w0) (g := w.heap.size + 1); (focus (apply Blk.lat hb0; (repeat (first | with_reducible assumption | ((with_reducible apply Blk.new'); first | rfl | (simp; done)) | with_reducible apply Blk.set_ | (with_reducible apply Blk.far' (by first | (simp; done) | (simp; omega))) | with_reducible apply Blk.alloc | with_reducible apply Blk.drew)))); intro F0; (try simp only [List.setIfInBounds_toArray, List.set_cons_zero, List.set_cons_succ] at F0); have F0c := F0.cell; have F0f := F0.frozen; have F0s := F0.lt))
    | (go_at_call 49; refine (HFB.out _).use.mono ?_; rintro e w2 ⟨rfl, hb2⟩; (apply Blk.use (w := w2) (g := w.heap.size + 1 + 1); (focus (apply Blk.lat hb2; (repeat (first | with_reducible assumption | ((with_reducible apply Blk.new'); first | rfl | (simp; done)) | with_reducible apply Blk.set_ | (with_reducible apply Blk.far' (by first | (simp; done) | (simp; omega))) | with_reducible apply Blk.alloc | with_reducible apply Blk.drew)))); intro Z2; (try simp only [List.setIfInBounds_toArray, List.set_cons_zero, List.set_cons_succ] at Z2); have Z2c := Z2.cell; have Z2f := Z2.frozen; have Z2s := Z2.lt)))
  exact bodyPost_ret (v := .agg #[.slice none 0 0, .int .i64 0, .int .i64 2]) (by simp [results, Try.results27, go_sem, Z2c, Z2f]) rfl ⟨none, 0, rfl, World.ownsRow_nil _ _ _ _, by (repeat (first | (with_reducible refine bset ?_ (by first | (simp; done) | (simp; omega)) _) | (with_reducible refine balloc ?_ _) | (with_reducible refine bdrew ?_) | with_reducible exact Below.refl _ _ | (refine bthen ?_ (by with_reducible assumption)) | (refine bthen ?_ (by assumption)) | exact Below.refl _ _))⟩
set_option maxRecDepth 100000 in
theorem add_s_ill (rs : List Reg) (v : Value) (p r : Int) (q : Int) (t : ByteArray) (hs : stage rs p r ≠ 0) (w : World) (hr : Rd w 3 v rs.length (flat encReg rs)) :
    Calls Try.prog 27 #[.agg #[v, .int .i64 p], .int .i64 r, .agg #[.int .i64 q, .string t]] w fun e w' => NewOut w e w' (illRs rs (stage rs p r)) (illP p (stage rs p r)) (stage rs p r) := by
  have hB := fun w hr => l16Code_s rs v p r w hr
  have hI := fun w hr => l16Ill_s rs v p r w hr
  obtain ⟨A, cap, rfl, _⟩ := hr.form
  have HR := Lib.hid hr
  have HB := Lib.hid hB
  have HI := Lib.hid hI
  clear hr hB hI
  generalize illRs rs (stage rs p r) = rs' at *
  generalize illP p (stage rs p r) = p' at *
  generalize stage rs p r = c at *
  have hc : (c != 0) = true := by simpa using hs
  clear hs
  go_enter Try.func27, Try.ntmps27
  go_wp2_with (first
    | (go_at_call 41; refine (HB.out _ (HR.out.later (by (repeat (first | (with_reducible refine bset ?_ (by first | (simp; done) | (simp; omega)) _) | (with_reducible refine balloc ?_ _) | (with_reducible refine bdrew ?_) | with_reducible exact Below.refl _ _ | (refine bthen ?_ (by with_reducible assumption)) | (refine bthen ?_ (by assumption)) | exact Below.refl _ _))))).use.mono ?_; rintro e w0 ⟨rfl, hb0⟩; (apply Blk.use (w := w0) (g := w.heap.size + 1 + 1); (focus (apply Blk.lat hb0; (repeat (first | with_reducible assumption | ((with_reducible apply Blk.new'); first | rfl | (simp; done)) | with_reducible apply Blk.set_ | (with_reducible apply Blk.far' (by first | (simp; done) | (simp; omega))) | with_reducible apply Blk.alloc | with_reducible apply Blk.drew)))); intro Z0; (try simp only [List.setIfInBounds_toArray, List.set_cons_zero, List.set_cons_succ] at Z0); have Z0c := Z0.cell; have Z0f := Z0.frozen; have Z0s := Z0.lt); (apply Blk.use (w := w0) (g := w.heap.size); (focus (apply Blk.lat hb0; (repeat (first | with_reducible assumption | ((with_reducible apply Blk.new'); first | rfl | (simp; done)) | with_reducible apply Blk.set_ | (with_reducible apply Blk.far' (by first | (simp; done) | (simp; omega))) | with_reducible apply Blk.alloc | with_reducible apply Blk.drew)))); intro D0; (try simp only [List.setIfInBounds_toArray, List.set_cons_zero, List.set_cons_succ] at D0); have D0c := D0.cell; have D0f := D0.frozen; have D0s := D0.lt))
    | (go_at_call 42; refine (HI.out _ (HR.out.later (by (repeat (first | (with_reducible refine bset ?_ (by first | (simp; done) | (simp; omega)) _) | (with_reducible refine balloc ?_ _) | (with_reducible refine bdrew ?_) | with_reducible exact Below.refl _ _ | (refine bthen ?_ (by with_reducible assumption)) | (refine bthen ?_ (by assumption)) | exact Below.refl _ _))))).mono ?_; rintro e w1 ⟨A1, c1, rfl, ho1, hb1⟩; (apply Blk.use (w := w1) (g := w.heap.size + 1 + 1); (focus (apply Blk.lat hb1; (repeat (first | with_reducible assumption | ((with_reducible apply Blk.new'); first | rfl | (simp; done)) | with_reducible apply Blk.set_ | (with_reducible apply Blk.far' (by first | (simp; done) | (simp; omega))) | with_reducible apply Blk.alloc | with_reducible apply Blk.drew)))); intro Z1; (try simp only [List.setIfInBounds_toArray, List.set_cons_zero, List.set_cons_succ] at Z1); have Z1c := Z1.cell; have Z1f := Z1.frozen; have Z1s := Z1.lt); have hz0 := Z0.lt; clear Z0 Z0c Z0f D0 D0c D0f))
  refine bp_world ?_
  intro w9 hw9
  (apply Blk.use (w := w9) (g := w.heap.size + 1 + 1); (focus (rw [hw9]; (repeat (first | with_reducible assumption | ((with_reducible apply Blk.new'); first | rfl | (simp; done)) | with_reducible apply Blk.set_ | (with_reducible apply Blk.far' (by first | (simp; done) | (simp; omega))) | with_reducible apply Blk.alloc | with_reducible apply Blk.drew)))); intro Z9; (try simp only [List.setIfInBounds_toArray, List.set_cons_zero, List.set_cons_succ] at Z9); have Z9c := Z9.cell; have Z9f := Z9.frozen; have Z9s := Z9.lt)
  have O9 : w9.ownsRow w0.heap.size 68 3 (.slice A1 rs'.length c1) rs'.length (flat encReg rs') := by rw [hw9]; (repeat (first | with_reducible assumption | (with_reducible refine own_set ?_ (by first | (simp; done) | (simp; omega)) _) | (with_reducible refine own_alloc ?_ _)))
  have B9 : Below w.heap.size w w9 := by rw [hw9]; (repeat (first | (with_reducible refine bset ?_ (by first | (simp; done) | (simp; omega)) _) | (with_reducible refine balloc ?_ _) | (with_reducible refine bdrew ?_) | with_reducible exact Below.refl _ _ | (refine bthen ?_ (by with_reducible assumption)) | (refine bthen ?_ (by assumption)) | exact Below.refl _ _))
  clear hw9 HB HR Z1 Z1c Z1f hb1 ho1
  exact bodyPost_ret (v := .agg #[.slice A1 rs'.length c1, .int .i64 p', .int .i64 c]) (by simp [results, Try.results27, go_sem, Z9c]) rfl ⟨A1, c1, rfl, own_base O9 (by omega), B9⟩
theorem add_s (rs : List Reg) (v : Value) (p r : Int) (q : Int) (t : ByteArray) (w : World) (hr : Rd w 3 v rs.length (flat encReg rs)) :
    Calls Try.prog 27 #[.agg #[v, .int .i64 p], .int .i64 r, .agg #[.int .i64 q, .string t]] w fun e w' => NewOut w e w' (addOut rs p r (frameBytes q t.data.toList)).1 (addOut rs p r (frameBytes q t.data.toList)).2.1 (addOut rs p r (frameBytes q t.data.toList)).2.2 := by
  unfold addOut
  by_cases h : stage rs p r = 0
  · obtain ⟨h1, h2, h3⟩ := stage_zero h
    obtain ⟨k, rfl⟩ := Int.eq_ofNat_of_zero_le h2.1
    rw [if_neg (by simpa using h), Int.toNat_natCast]
    by_cases hf : frameBytes q t.data.toList = []
    · rw [if_pos hf]
      exact add_s_empty rs v p k q t (by omega) h1 h3 hf w hr
    · rw [if_neg hf]
      by_cases hg : fullLog (logOf rs k) (frameBytes q t.data.toList)
      · rw [if_pos hg]
        exact add_s_full rs v p k q t (by omega) h1 h3 hf hg w hr
      · rw [if_neg hg]
        exact add_s_ok rs v p k q t (by omega) h1 h3 hf hg w hr
  · rw [if_pos h]
    exact add_s_ill rs v p r q t h w hr
end Go.Proofs.Ytmammjpfmfblbaa
