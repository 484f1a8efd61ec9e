/-
  The pairs of a configuration in the reference: the walk.
-/
import Derived.Test.YtpfdhfchgnnpiaaGreatCl
set_option linter.unusedSimpArgs false
set_option linter.unusedVariables false
namespace Go.Proofs.YtpfdhfchgnnpiaaGreat
open Go.RowKit M
namespace M
theorem samePr_comm (x y : Pr) : samePr x y = (eqB y.1 x.1 && eqB y.2.1 x.2.1) := by unfold samePr; rw [eqB_comm x.1, eqB_comm x.2.1]
end M
set_option maxRecDepth 100000 in
set_option maxHeartbeats 4000000 in
theorem pairs_s (v lv : Value) (l : List Pr) (labels : List Lab) (hlab : ∀ a, hasL labels a = true → okL a = true) (w : World) (hr : (Ty.sl 103 tyPr).rd w [v] l) (hrl : (Ty.sl 66 tyLab).rd w [lv] labels) :
    Gives Tryz.prog 117 #[lv, v] w (.bool (pairsOk labels l)) := by
  have HLAB := Lib.hid hlab
  have HRL := Lib.hid hrl
  obtain ⟨B, bn, hlv⟩ : ∃ B bn, lv = .slice B labels.length bn := by obtain ⟨B, bn, h, _⟩ := sl_form hrl; exact ⟨B, bn, h⟩
  subst hlv
  obtain ⟨ln, hln⟩ : ∃ ln, ln = labels.length := ⟨_, rfl⟩
  rw [← hln] at HRL ⊢
  obtain ⟨A, c, rfl, hlc, hcm⟩ := sl_form hr
  have HR := Lib.hid hr
  obtain ⟨n, hn⟩ : ∃ n, n = l.length := ⟨_, rfl⟩
  rw [← hn] at HR ⊢
  have HN := Lib.hid hn
  obtain ⟨z, hz⟩ : ∃ z, z = pairsOk labels l := ⟨_, rfl⟩
  rw [← hz]
  obtain ⟨f, hf'⟩ : ∃ f, f = pairIn labels l := ⟨_, rfl⟩
  have HF := Lib.hid hf'
  have HZ : Hid (z = (allFrom f n 0 && decide (n ≤ 4))) := Lib.hid (by rw [hz, hf', hn]; rfl)
  clear hr hn hlc hcm hrl hlab hz hf' hln
  have H := Hs.start noRow w
  unfold Gives
  by_cases h4 : 4 < n
  · have h5 : (4 : Int) < n := by omega
    have HI3 : Hid (z = false) := Lib.hid (by rw [HZ.out, show decide (n ≤ 4) = false by simp; omega]; simp)
    go_enter Tryz.func117, Tryz.ntmps117
    go_wp2_with (fail)
    go_ret
    exact ⟨by rw [HI3.out]; rfl, H.below⟩
  have h5 : ¬ (4 : Int) < n := by omega
  have HZ2 : Hid (z = allFrom f n 0) := Lib.hid (by rw [HZ.out, show decide (n ≤ 4) = true by simp; omega]; simp)
  clear HZ
  go_enter Tryz.func117, Tryz.ntmps117
  go_wp2_with (fail)
  go_loopg [5] n (fun m iv wr => ∃ (i : Nat), i + m = n ∧ iv = .int .i64 i ∧ Hid (z = allFrom f n i) ∧ Hs noRow w [] wr)
  case atStart => exact ⟨0, by omega, rfl, HZ2, H⟩
  case round =>
    clear H
    obtain ⟨i, hi, rfl, HI, H⟩ := hrel
    by_cases hlt : i < n
    · obtain ⟨x, hx⟩ : ∃ x, l[i]? = some x := ⟨l[i]'(by rw [← HN.out]; exact hlt), List.getElem?_eq_getElem (by rw [← HN.out]; exact hlt)⟩
      have hs := sl_at (by have := HR.out; rw [HN.out] at this; exact this) hx
      rw [← HN.out] at hs
      obtain ⟨b, off, c', cs, hv, hcs, hA⟩ := hs
      injection hv with hv1 hv2 hv3
      subst hv1 hv3
      obtain rfl : cs = encPr x := hcs
      have hstep := HI.out
      have hfi : f i = (!(l.take i).any (samePr x) && (hasL labels x.1 && (hasL labels x.2.1 && (!belowB x.1 x.2.1 && isIn x.2.2 1 3)))) := by rw [HF.out]; unfold pairIn; rw [hx]
      rw [allFrom_step hlt, hfi] at hstep
      clear hfi
      have hlt1 : (i : Int) < n := by omega
      clear hx hv2
      obtain ⟨⟨x1, x2⟩, ⟨x3, x4⟩, x5⟩ := x
      have c1 := fun w1 hb => cleared_s _ labels (x1, x2) w1 (Ty.below _ HRL.out hb)
      have c2 := fun w1 hb => cleared_s _ labels (x3, x4) w1 (Ty.below _ HRL.out hb)
      have c3 : hasL labels (x1, x2) = true → hasL labels (x3, x4) = true → ∀ w1, Gives Tryz.prog 177 _ w1 _ := fun h1 h2 w1 => below_s (x1, x2) (x3, x4) (HLAB.out _ h1) (HLAB.out _ h2) w1
      have c4 := fun w1 => is_s x5 1 3 w1
      unfold encPr at hA
      simp only at c1 c2 c3 hA hstep
      obtain ⟨zs, hzs⟩ : ∃ zs, zs = (l.take i).any (samePr ((x1, x2), (x3, x4), x5)) := ⟨_, rfl⟩
      rw [← hzs] at hstep
      have HS := Lib.hid hzs
      clear hzs
      generalize hasL labels (x1, x2) = z1 at *
      generalize hasL labels (x3, x4) = z2 at *
      generalize belowB (x1, x2) (x3, x4) = z3 at *
      unfold isIn at hstep
      generalize (decide (1 ≤ x5) && decide (x5 ≤ 3)) = z4 at *
      cases z1
      case false =>
        have HI2 : Hid (z = false) := Lib.hid (by rw [hstep]; simp)
        clear hstep
        go_wp2_with (first | ((((with_reducible refine st_gsF ?_ ?_); rfl)); (try simp only [Act.put, yA, yB, yC, yD, yE, yF])) | ((first | ((with_reducible apply st_loads H); decide +kernel; rfl; exact iF; exact zF; rfl) | ((with_reducible apply st_store H); rfl; exact eF; (focus (exact cells_agg _)); exact uF; kernel_rfl; (focus (exact Nat.le_of_ble_eq_true (by rfl))); (focus (rfl)))); clear H; intro wn H; (try simp only [splice, yG, yH, yI, yJ, yK, yL, yM, yN, yO, yP, yQ, Nat.reduceAdd, yA, yB, yC] at H); simp only [Act.put, yA, yB, yC, yD, yE, yF]) | ((first | ((with_reducible apply st_alloc (dst := some 6) H); exact nF; intro b6) | ((with_reducible apply st_loadat H); decide +kernel; rfl; exact aF; exact zF; rfl)); clear H; intro wn H; simp only [Act.put, yA, yB, yC, yD, yE, yF]) | (((go_at_call 32; refine gvF (c1 _ H.below) H ?_; clear c1)); clear H; intro wn H))
        go_ret
        exact ⟨by rw [HI2.out]; rfl, H.below⟩
      cases z2
      case false =>
        have HI2 : Hid (z = false) := Lib.hid (by rw [hstep]; simp)
        clear hstep
        go_wp2_with (first | ((first | ((with_reducible refine st_gwF ?_ ?_); rfl) | ((with_reducible refine st_gsF ?_ ?_); rfl)); (try simp only [Act.put, yA, yB, yC, yD, yE, yF])) | ((first | ((with_reducible apply st_loads H); decide +kernel; rfl; exact iF; exact zF; rfl) | ((with_reducible apply st_store H); rfl; exact eF; (focus (exact cells_agg _)); exact uF; kernel_rfl; (focus (exact Nat.le_of_ble_eq_true (by rfl))); (focus (rfl)))); clear H; intro wn H; (try simp only [splice, yG, yH, yI, yJ, yK, yL, yM, yN, yO, yP, yQ, Nat.reduceAdd, yA, yB, yC] at H); simp only [Act.put, yA, yB, yC, yD, yE, yF]) | ((first | ((with_reducible apply st_alloc (dst := some 6) H); exact nF; intro b6) | ((with_reducible apply st_loadat H); decide +kernel; rfl; exact aF; exact zF; rfl)); clear H; intro wn H; simp only [Act.put, yA, yB, yC, yD, yE, yF]) | ((first | (go_at_call 32; refine gvF (c1 _ H.below) H ?_; clear c1) | (go_at_call 32; refine gvF (c2 _ H.below) H ?_)); clear H; intro wn H))
        go_ret
        exact ⟨by rw [HI2.out]; rfl, H.below⟩
      have c5 := c3 rfl rfl
      clear c3
      cases z3
      case true =>
        have HI2 : Hid (z = false) := Lib.hid (by rw [hstep]; simp)
        clear hstep
        go_wp2_with (first | ((first | ((with_reducible refine st_gwF ?_ ?_); rfl) | ((with_reducible refine st_gsF ?_ ?_); rfl)); (try simp only [Act.put, yA, yB, yC, yD, yE, yF])) | ((first | ((with_reducible apply st_loads H); decide +kernel; rfl; exact iF; exact zF; rfl) | ((with_reducible apply st_store H); rfl; exact eF; (focus (exact cells_agg _)); exact uF; kernel_rfl; (focus (exact Nat.le_of_ble_eq_true (by rfl))); (focus (rfl)))); clear H; intro wn H; (try simp only [splice, yG, yH, yI, yJ, yK, yL, yM, yN, yO, yP, yQ, Nat.reduceAdd, yA, yB, yC] at H); simp only [Act.put, yA, yB, yC, yD, yE, yF]) | ((first | ((with_reducible apply st_alloc (dst := some 6) H); exact nF; intro b6) | ((with_reducible apply st_loadat H); decide +kernel; rfl; exact aF; exact zF; rfl)); clear H; intro wn H; simp only [Act.put, yA, yB, yC, yD, yE, yF]) | ((first | (go_at_call 32; refine gvF (c1 _ H.below) H ?_; clear c1) | (go_at_call 32; refine gvF (c2 _ H.below) H ?_) | (go_at_call 177; refine gvF (c5 _) H ?_)); clear H; intro wn H))
        go_ret
        exact ⟨by rw [HI2.out]; rfl, H.below⟩
      cases z4
      case false =>
        have HI2 : Hid (z = false) := Lib.hid (by rw [hstep]; simp)
        clear hstep
        go_wp2_with (first | ((((with_reducible refine st_gwF ?_ ?_); rfl)); (try simp only [Act.put, yA, yB, yC, yD, yE, yF])) | ((first | ((with_reducible apply st_load1 H); decide +kernel; rfl; exact cF) | ((with_reducible apply st_loads H); decide +kernel; rfl; exact iF; exact zF; rfl) | ((with_reducible apply st_store H); rfl; exact eF; (focus (exact cells_agg _)); exact uF; kernel_rfl; (focus (exact Nat.le_of_ble_eq_true (by rfl))); (focus (rfl)))); clear H; intro wn H; (try simp only [splice, yG, yH, yI, yJ, yK, yL, yM, yN, yO, yP, yQ, Nat.reduceAdd, yA, yB, yC] at H); simp only [Act.put, yA, yB, yC, yD, yE, yF]) | ((first | ((with_reducible apply st_alloc (dst := some 6) H); exact nF; intro b6) | ((with_reducible apply st_loadat H); decide +kernel; rfl; exact aF; exact zF; rfl)); clear H; intro wn H; simp only [Act.put, yA, yB, yC, yD, yE, yF]) | ((first | (go_at_call 32; refine gvF (c1 _ H.below) H ?_; clear c1) | (go_at_call 32; refine gvF (c2 _ H.below) H ?_) | (go_at_call 177; refine gvF (c5 _) H ?_) | (go_at_call 115; refine gvF (c4 _) H ?_)); clear H; intro wn H))
        go_ret
        exact ⟨by rw [HI2.out]; rfl, H.below⟩
      have HI2 : Hid (z = (!zs && allFrom f n (i + 1))) := Lib.hid (by rw [hstep]; simp)
      clear hstep
      go_wp2_with (first | ((((with_reducible refine st_gwF ?_ ?_); rfl)); (try simp only [Act.put, yA, yB, yC, yD, yE, yF])) | ((first | ((with_reducible apply st_load1 H); decide +kernel; rfl; exact cF) | ((with_reducible apply st_loads H); decide +kernel; rfl; exact iF; exact zF; rfl) | ((with_reducible apply st_store H); rfl; exact eF; (focus (exact cells_agg _)); exact uF; kernel_rfl; (focus (exact Nat.le_of_ble_eq_true (by rfl))); (focus (rfl)))); clear H; intro wn H; (try simp only [splice, yG, yH, yI, yJ, yK, yL, yM, yN, yO, yP, yQ, Nat.reduceAdd, yA, yB, yC] at H); simp only [Act.put, yA, yB, yC, yD, yE, yF]) | ((first | ((with_reducible apply st_alloc (dst := some 6) H); exact nF; intro b6) | ((with_reducible apply st_loadat H); decide +kernel; rfl; exact aF; exact zF; rfl)); clear H; intro wn H; simp only [Act.put, yA, yB, yC, yD, yE, yF]) | ((first | (go_at_call 32; refine gvF (c1 _ H.below) H ?_; clear c1) | (go_at_call 32; refine gvF (c2 _ H.below) H ?_) | (go_at_call 177; refine gvF (c5 _) H ?_) | (go_at_call 115; refine gvF (c4 _) H ?_)); clear H; intro wn H))
      go_loopg [7] i (fun m kv wr => ∃ (k : Nat), k + m = i ∧ kv = .int .i64 k ∧ Hid (zs = ((l.take i).drop k).any (samePr ((x1, x2), (x3, x4), x5))) ∧ Hs noRow w [Hl.blk b6 103 #[.int .i64 x1, .int .i64 x2, .int .i64 x3, .int .i64 x4, .int .i64 x5]] wr)
      case atStart => exact ⟨0, by omega, rfl, HS, H.sel sF⟩
      case round =>
        clear H HS
        obtain ⟨k, hk, rfl, HK, H⟩ := hrel
        by_cases hlk : k < i
        · obtain ⟨y, hy⟩ : ∃ y, l[k]? = some y := ⟨l[k]'(by rw [← HN.out]; omega), List.getElem?_eq_getElem (by rw [← HN.out]; omega)⟩
          have hs2 := sl_at (by have := HR.out; rw [HN.out] at this; exact this) hy
          rw [← HN.out] at hs2
          obtain ⟨b9, off9, c9, cs9, hw, hcs9, hB⟩ := hs2
          injection hw with hw1 hw2 hw3
          injection hw1 with hw1
          injection hw1 with hw4 hw5
          subst hw3 hw4 hw5
          obtain rfl : cs9 = encPr y := hcs9
          have hst := HK.out
          rw [any_drop (i := k) (a := y) (by rw [List.getElem?_take, if_pos hlk]; exact hy), samePr_comm] at hst
          obtain ⟨⟨y1, y2⟩, ⟨y3, y4⟩, y5⟩ := y
          unfold encPr at hB
          simp only at hB hst
          have hB1 : At w b (off + k * 5) [.int .i64 y1, .int .i64 y2] := At.pre (us := [.int .i64 y3, .int .i64 y4, .int .i64 y5]) hB
          have hB2 : At w b (off + k * 5 + 2) [.int .i64 y3, .int .i64 y4] := fun j u hu => by
            match j, hu with
            | 0, hu => exact hB 2 u hu
            | 1, hu => exact hB 3 u hu
          have hlk1 : (k : Int) < i := by omega
          have hlk2 : (k : Int) < n := by omega
          have hlk3 : k < n := by omega
          clear hy hw2 HK hA hB
          cases hp1 : eqB (y1, y2) (x1, x2)
          · rw [hp1, Bool.false_and, Bool.false_or] at hst
            have HK2 := Lib.hid hst
            clear hst
            go_wp2_with (((with_reducible apply wp_region_hq (id := 12) H); kernel_rfl; kernel_rfl; (iterate 18 (all_goals ((first | ((with_reducible refine hq_gsT ?_ ?_); rfl) | ((with_reducible refine' hq_step ?_ ?_ ?_); rotate_left; rfl; (focus (intro w1 H1; first | first | exact qF | exact qAF | exact qEF | exact qVF)); (try simp only [yG, yH, yJ, yK]))); (try simp only [Act.put, yA, yB, yC, yD, yE, yF])))); all_goals (refine wpQuiet_nil ?_; clear H; intro wn H)))
            go_roundg (i - (k + 1))
            case measure => omega
            case rel => exact ⟨k + 1, by omega, by go_num, HK2, H.sel sF⟩
          cases hp2 : eqB (y3, y4) (x3, x4)
          · rw [hp1, hp2, Bool.true_and, Bool.false_or] at hst
            have HK2 := Lib.hid hst
            clear hst
            go_wp2_with (((with_reducible apply wp_region_hq (id := 12) H); kernel_rfl; kernel_rfl; (iterate 18 (all_goals ((first | ((with_reducible refine hq_gwT ?_ ?_); rfl; (with_reducible refine' hq_step ?_ ?_ ?_); rotate_left; rfl; (focus (intro w1 H1; first | first | exact qF | exact qAF | exact qEF | exact qVF)); (try simp only [yG, yH, yJ, yK])) | ((with_reducible refine' hq_step ?_ ?_ ?_); rotate_left; rfl; (focus (intro w1 H1; first | first | exact qF | exact qAF | exact qEF | exact qVF)); (try simp only [yG, yH, yJ, yK]))); (try simp only [Act.put, yA, yB, yC, yD, yE, yF])))); all_goals (refine wpQuiet_nil ?_; clear H; intro wn H)))
            go_roundg (i - (k + 1))
            case measure => omega
            case rel => exact ⟨k + 1, by omega, by go_num, HK2, H.sel sF⟩
          · rw [hp1, hp2, Bool.true_and, Bool.true_or] at hst
            have HI3 : Hid (z = false) := Lib.hid (by rw [HI2.out, hst]; rfl)
            clear hst HI2
            go_wp2_with (((with_reducible apply wp_region_hq (id := 12) H); kernel_rfl; kernel_rfl; (iterate 18 (all_goals ((first | ((with_reducible refine hq_gwT ?_ ?_); rfl; (with_reducible refine' hq_step ?_ ?_ ?_); rotate_left; rfl; (focus (intro w1 H1; first | first | exact qF | exact qAF | exact qEF | exact qVF)); (try simp only [yG, yH, yJ, yK])) | ((with_reducible refine' hq_step ?_ ?_ ?_); rotate_left; rfl; (focus (intro w1 H1; first | first | exact qF | exact qAF | exact qEF | exact qVF)); (try simp only [yG, yH, yJ, yK]))); (try simp only [Act.put, yA, yB, yC, yD, yE, yF])))); all_goals (refine wpQuiet_nil ?_; clear H; intro wn H)))
            go_ret
            exact ⟨by rw [HI3.out]; rfl, H.below⟩
        · obtain rfl : k = i := by omega
          have hlk1 : ¬ (k : Int) < k := by omega
          have hzs : zs = false := by rw [HK.out, List.drop_of_length_le (by rw [List.length_take]; omega)]; rfl
          have HI3 : Hid (z = allFrom f n (k + 1)) := Lib.hid (by rw [HI2.out, hzs]; rfl)
          clear hzs HK HI2
          go_wp2_with (fail)
          go_roundg (n - (k + 1))
          case measure => omega
          case rel => exact ⟨k + 1, by omega, by go_num, HI3, H.sel sF⟩
    · obtain rfl : i = n := by omega
      have hlt1 : ¬ (i : Int) < i := by omega
      have hz := HI.out
      rw [allFrom_end (Nat.le_refl _)] at hz
      have HI2 := Lib.hid hz
      clear hz HI HZ2
      go_wp2_with (fail)
      go_ret
      exact ⟨by rw [HI2.out]; rfl, H.below⟩
end Go.Proofs.YtpfdhfchgnnpiaaGreat
