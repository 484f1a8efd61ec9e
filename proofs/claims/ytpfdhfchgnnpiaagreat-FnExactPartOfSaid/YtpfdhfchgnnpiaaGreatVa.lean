/-
  Spans and nodes that may be so, in the program and in the reference: the walks.
-/
import Derived.Test.YtpfdhfchgnnpiaaGreatVb
import Derived.Test.YtpfdhfchgnnpiaaGreatCp
set_option linter.unusedSimpArgs false
set_option linter.unusedVariables false
namespace Go.Proofs.YtpfdhfchgnnpiaaGreat
open Go.RowKit M
namespace M
def spanOk (x : Sp) : Bool := isIn x.1 0 1000000 && (decide (x.1 < x.2) && decide (x.2 ≤ 1000000))
/-- the span at i begins no earlier than the one before it ends -/
def spanAft (l : List Sp) (i : Nat) (x : Sp) : Bool := match i with
  | 0 => true
  | j + 1 => match l[j]? with
    | some y => !decide (x.1 < y.2)
    | none => true
def spanIn (l : List Sp) (i : Nat) : Bool := match l[i]? with
  | some x => spanOk x && spanAft l i x
  | none => true
def spansOk (l : List Sp) : Bool := allFrom (spanIn l) l.length 0 && decide (l.length ≤ 20)
def nodeOk (x : Nd) : Bool := isIn x.1 1 3 && (decide (x.2.length ≤ 4) && spansOk x.2)
def nodesOk (l : List Nd) : Bool := decide (1 ≤ l.length) && (decide (l.length ≤ 6) && l.all nodeOk)
theorem spanOk_i (x : Sp) : (isIn x.1 0 1000000 && (isIn x.2 0 1000000 && decide (x.1 < x.2))) = spanOk x := by
  unfold spanOk isIn
  by_cases h1 : 0 ≤ x.1 <;> by_cases h2 : x.1 < x.2 <;> by_cases h3 : x.2 ≤ 1000000 <;> simp [h1, h2, h3]
  intro; omega
end M
theorem tim_i (n : Int) (w : World) : Gives Tryz.prog 191 #[.int .i64 n] w (.bool (isIn n 0 1000000)) := by
  have hC := fun w => within_i n 0 1000000 w
  have H := Hs.start noRow w
  unfold Gives isIn
  generalize (decide (0 ≤ n) && decide (n ≤ 1000000)) = z at *
  go_enter Tryz.func191, Tryz.ntmps191
  go_wp2_with ((((go_at_call 20; refine gvF (hC _) H ?_)); clear H; intro wn H))
  go_ret
  exact ⟨rfl, H.below⟩
theorem tim_s (n : Int) (w : World) : Gives Tryz.prog 131 #[.int .i64 n] w (.bool (isIn n 0 1000000)) := by
  have hC := fun w => is_s n 0 1000000 w
  have H := Hs.start noRow w
  unfold Gives isIn
  generalize (decide (0 ≤ n) && decide (n ≤ 1000000)) = z at *
  go_enter Tryz.func131, Tryz.ntmps131
  go_wp2_with ((((go_at_call 115; refine gvF (hC _) H ?_)); clear H; intro wn H))
  go_ret
  exact ⟨rfl, H.below⟩
theorem ndSt_i (n : Int) (w : World) : Gives Tryz.prog 145 #[.int .i64 n] w (.bool (isIn n 1 3)) := by
  have hC := fun w => within_i n 1 3 w
  have H := Hs.start noRow w
  unfold Gives isIn
  generalize (decide (1 ≤ n) && decide (n ≤ 3)) = z at *
  go_enter Tryz.func145, Tryz.ntmps145
  go_wp2_with ((((go_at_call 20; refine gvF (hC _) H ?_)); clear H; intro wn H))
  go_ret
  exact ⟨rfl, H.below⟩
theorem ndSt_s (n : Int) (w : World) : Gives Tryz.prog 119 #[.int .i64 n] w (.bool (isIn n 1 3)) := by
  have hC := fun w => is_s n 1 3 w
  have H := Hs.start noRow w
  unfold Gives isIn
  generalize (decide (1 ≤ n) && decide (n ≤ 3)) = z at *
  go_enter Tryz.func119, Tryz.ntmps119
  go_wp2_with ((((go_at_call 115; refine gvF (hC _) H ?_)); clear H; intro wn H))
  go_ret
  exact ⟨rfl, H.below⟩
set_option maxRecDepth 100000 in
set_option maxHeartbeats 4000000 in
theorem spanRight_i (x : Sp) (w : World) : Gives Tryz.prog 188 #[.agg #[.int .i64 x.1, .int .i64 x.2]] w (.bool (spanOk x)) := by
  rw [← spanOk_i]
  obtain ⟨a, b⟩ := x
  have c1 := fun w1 => tim_i a w1
  have c2 := fun w1 => tim_i b w1
  simp only
  generalize isIn a 0 1000000 = z1 at *
  generalize isIn b 0 1000000 = z2 at *
  have H := Hs.start noRow w
  unfold Gives
  cases z1 <;> cases z2
  all_goals (
    simp only [Bool.true_and, Bool.false_and]
    go_enter Tryz.func188, Tryz.ntmps188
    go_wp2_with (first | ((first | ((with_reducible refine st_gwT ?_ ?_); rfl) | ((with_reducible refine st_gsT ?_ ?_); rfl)); (try simp only [Act.put, yA, yB, yC, yD, yE, yF])) | ((((with_reducible apply st_load1 H); decide +kernel; rfl; exact cF)); clear H; intro wn H; (try simp only [splice, yG, yH, yI, yJ, yK, yL, yM, yN, yO, yP, yQ, Nat.reduceAdd, yA, yB, yC] at H); simp only [Act.put, yA, yB, yC, yD, yE, yF]) | ((((with_reducible apply st_box (dst := some 1) H); exact nF; intro b1)); clear H; intro wn H; simp only [Act.put, yA, yB, yC, yD, yE, yF]) | ((first | (go_at_call 191; refine gvF (c1 _) H ?_; clear c1) | (go_at_call 191; refine gvF (c2 _) H ?_)); clear H; intro wn H))
    go_ret
    exact ⟨rfl, H.below⟩)
set_option maxRecDepth 100000 in
set_option maxHeartbeats 4000000 in
theorem spanRight_s (x : Sp) (w : World) : Gives Tryz.prog 178 #[.agg #[.int .i64 x.1, .int .i64 x.2]] w (.bool (spanOk x)) := by
  obtain ⟨a, b⟩ := x
  have c1 := fun w1 => tim_s a w1
  unfold spanOk
  simp only
  generalize isIn a 0 1000000 = z1 at *
  have H := Hs.start noRow w
  unfold Gives
  cases z1 <;> by_cases h : a < b
  all_goals (
    simp only [Bool.true_and, Bool.false_and, h, decide_true, decide_false]
    go_enter Tryz.func178, Tryz.ntmps178
    go_wp2_with (first | ((first | ((with_reducible refine st_gwT ?_ ?_); rfl) | ((with_reducible refine st_gsT ?_ ?_); rfl)); (try simp only [Act.put, yA, yB, yC, yD, yE, yF])) | ((((with_reducible apply st_load1 H); decide +kernel; rfl; exact cF)); clear H; intro wn H; (try simp only [splice, yG, yH, yI, yJ, yK, yL, yM, yN, yO, yP, yQ, Nat.reduceAdd, yA, yB, yC] at H); simp only [Act.put, yA, yB, yC, yD, yE, yF]) | ((((with_reducible apply st_box (dst := some 1) H); exact nF; intro b1)); clear H; intro wn H; simp only [Act.put, yA, yB, yC, yD, yE, yF]) | (((go_at_call 131; refine gvF (c1 _) H ?_)); clear H; intro wn H))
    go_ret
    exact ⟨rfl, H.below⟩)
set_option maxRecDepth 100000 in
set_option maxHeartbeats 4000000 in
theorem spansRight_i (v : Value) (l : List Sp) (w : World) (hr : (Ty.sl 94 tySp).rd w [v] l) : Gives Tryz.prog 146 #[v] w (.bool (spansOk l)) := by
  obtain ⟨A, c, rfl, hlc, hcm⟩ := sl_form hr
  unfold maxLen at *
  have HR := Lib.hid hr
  obtain ⟨n, hn⟩ : ∃ n, n = l.length := ⟨_, rfl⟩
  have hnl : n ≤ 9223372036854775807 := by omega
  rw [← hn] at HR ⊢
  have HN := Lib.hid hn
  obtain ⟨z, hz⟩ : ∃ z, z = spansOk l := ⟨_, rfl⟩
  rw [← hz]
  obtain ⟨f, hf'⟩ : ∃ f, f = spanIn l := ⟨_, rfl⟩
  have HF := Lib.hid hf'
  have HZ : Hid (z = (allFrom f n 0 && decide (n ≤ 20))) := Lib.hid (by rw [hz, hf', hn]; rfl)
  clear hr hn hlc hcm hz hf'
  have H := Hs.start noRow w
  unfold Gives
  go_enter Tryz.func146, Tryz.ntmps146
  go_wp2_with (fail)
  go_loopg [7] n (fun m iv wr => ∃ (i : Nat), i + m = n ∧ iv = .int .i64 i ∧ Hid (z = (allFrom f n i && decide (n ≤ 20))) ∧ Hs noRow w [] wr)
  case atStart => exact ⟨0, by omega, rfl, HZ, H⟩
  case round =>
    clear H
    obtain ⟨i, hi, rfl, HI, H⟩ := hrel
    by_cases hlt : i < n
    · obtain ⟨x, hx⟩ : ∃ x, l[i]? = some x := ⟨l[i]'(by rw [← HN.out]; exact hlt), List.getElem?_eq_getElem (by rw [← HN.out]; exact hlt)⟩
      have hs := sl_at (by have := HR.out; rw [HN.out] at this; exact this) hx
      rw [← HN.out] at hs
      obtain ⟨b, off, c', cs, hv, hcs, hA⟩ := hs
      injection hv with hv1 hv2 hv3
      subst hv1 hv3
      obtain rfl : cs = encSp x := hcs
      have hstep := HI.out
      have hfi : f i = (spanOk x && spanAft l i x) := by rw [HF.out]; unfold spanIn; rw [hx]
      rw [allFrom_step hlt, hfi] at hstep
      clear hfi
      have hlt1 : (i : Int) < n := by omega
      clear hx hv2
      obtain ⟨x1, x2⟩ := x
      have c1 := fun w1 => spanRight_i (x1, x2) w1
      unfold encSp at hA
      simp only at hA hstep c1
      generalize spanOk (x1, x2) = z1 at *
      cases z1
      case false =>
        have HI2 : Hid (z = false) := Lib.hid (by rw [hstep]; simp)
        clear hstep
        go_wp2_with (first | ((((with_reducible apply st_store H); rfl; exact eF; (focus (exact cells_agg _)); exact uF; kernel_rfl; (focus (exact Nat.le_of_ble_eq_true (by rfl))); (focus (rfl)))); clear H; intro wn H; (try simp only [splice, yG, yH, yI, yJ, yK, yL, yM, yN, yO, yP, yQ, Nat.reduceAdd, yA, yB, yC] at H); simp only [Act.put, yA, yB, yC, yD, yE, yF]) | ((first | ((with_reducible apply st_alloc (dst := some 4) H); exact nF; intro b4) | ((with_reducible apply st_loadat H); decide +kernel; rfl; exact aF; exact zF; rfl)); clear H; intro wn H; simp only [Act.put, yA, yB, yC, yD, yE, yF]) | ((with_reducible apply wp_region_hq (id := 4) H); kernel_rfl; kernel_rfl; (iterate 1 (all_goals ((with_reducible refine' hq_step ?_ ?_ ?_); rotate_left; rfl; (focus (intro w1 H1; exact qF)); (try simp only [yG, yH, yJ, yK]); (try simp only [Act.put, yA, yB, yC, yD, yE, yF])))); (all_goals ((with_reducible refine' hq_step ?_ ?_ ?_); rotate_left; rfl; (focus (intro w1 H1; unfold QOk; go_simp; exact q_call (c1 _))); (try simp only [yG, yH, yJ, yK]); simp only [Act.put, yA, yB, yC, yD, yE, yF])); (iterate 16 (all_goals ((first | ((with_reducible refine hq_gsF ?_ ?_); rfl) | ((with_reducible refine hq_skip ?_ ?_); rfl) | ((with_reducible refine' hq_step ?_ ?_ ?_); rotate_left; rfl; (focus (intro w1 H1; exact qVF)); (try simp only [yG, yH, yJ, yK]))); (try simp only [Act.put, yA, yB, yC, yD, yE, yF])))); all_goals (refine wpQuiet_nil ?_; clear H; intro wn H)))
        go_ret
        exact ⟨by rw [HI2.out]; rfl, H.below⟩
      cases i with
      | zero =>
        have HI2 : Hid (z = (allFrom f n 1 && decide (n ≤ 20))) := Lib.hid (by rw [hstep]; simp [spanAft])
        clear hstep
        go_wp2_with (first | ((((with_reducible apply st_store H); rfl; exact eF; (focus (exact cells_agg _)); exact uF; kernel_rfl; (focus (exact Nat.le_of_ble_eq_true (by rfl))); (focus (rfl)))); clear H; intro wn H; (try simp only [splice, yG, yH, yI, yJ, yK, yL, yM, yN, yO, yP, yQ, Nat.reduceAdd, yA, yB, yC] at H); simp only [Act.put, yA, yB, yC, yD, yE, yF]) | ((first | ((with_reducible apply st_alloc (dst := some 4) H); exact nF; intro b4) | ((with_reducible apply st_loadat H); decide +kernel; rfl; exact aF; exact zF; rfl)); clear H; intro wn H; simp only [Act.put, yA, yB, yC, yD, yE, yF]) | ((with_reducible apply wp_region_hq (id := 4) H); kernel_rfl; kernel_rfl; (iterate 1 (all_goals ((with_reducible refine' hq_step ?_ ?_ ?_); rotate_left; rfl; (focus (intro w1 H1; exact qF)); (try simp only [yG, yH, yJ, yK]); (try simp only [Act.put, yA, yB, yC, yD, yE, yF])))); (all_goals ((with_reducible refine' hq_step ?_ ?_ ?_); rotate_left; rfl; (focus (intro w1 H1; unfold QOk; go_simp; exact q_call (c1 _))); (try simp only [yG, yH, yJ, yK]); simp only [Act.put, yA, yB, yC, yD, yE, yF])); (iterate 16 (all_goals ((first | ((with_reducible refine hq_gwF ?_ ?_); rfl; (with_reducible refine' hq_step ?_ ?_ ?_); rotate_left; rfl; (focus (intro w1 H1; exact qVF)); (try simp only [yG, yH, yJ, yK])) | ((with_reducible refine hq_gsT ?_ ?_); rfl) | ((with_reducible refine' hq_step ?_ ?_ ?_); rotate_left; rfl; (focus (intro w1 H1; exact qVF)); (try simp only [yG, yH, yJ, yK]))); (try simp only [Act.put, yA, yB, yC, yD, yE, yF])))); all_goals (refine wpQuiet_nil ?_; clear H; intro wn H)))
        go_roundg (n - 1)
        case measure => omega
        case rel => exact ⟨1, by omega, by go_num, HI2, H.sel sF⟩
      | succ j =>
        obtain ⟨y, hy⟩ : ∃ y, l[j]? = some y := ⟨l[j]'(by rw [← HN.out]; omega), List.getElem?_eq_getElem (by rw [← HN.out]; omega)⟩
        have hs2 := sl_at (by have := HR.out; rw [HN.out] at this; exact this) hy
        rw [← HN.out] at hs2
        obtain ⟨b3, off3, c3, cs3, hw, hcs3, hB⟩ := hs2
        injection hw with hw1 hw2 hw3
        injection hw1 with hw1
        injection hw1 with hw4 hw5
        subst hw3 hw4 hw5
        obtain rfl : cs3 = encSp y := hcs3
        unfold spanAft at hstep
        simp only [hy] at hstep
        obtain ⟨y1, y2⟩ := y
        simp only at hstep
        have h2 : w.cell? ⟨b, off + j * 2 + 1, none⟩ = some (.int .i64 y2) := hB 1 _ rfl
        have hlt2 : (j : Int) < n := by omega
        have hlt3 : j < n := by omega
        have hpos : (0 : Int) < (j : Int) + 1 := by omega
        clear hB hy hw2
        by_cases hq : x1 < y2
        · have HI2 : Hid (z = false) := Lib.hid (by rw [hstep]; simp [hq])
          clear hstep
          go_wp2_with (first | ((((with_reducible apply st_store H); rfl; exact eF; (focus (exact cells_agg _)); exact uF; kernel_rfl; (focus (exact Nat.le_of_ble_eq_true (by rfl))); (focus (rfl)))); clear H; intro wn H; (try simp only [splice, yG, yH, yI, yJ, yK, yL, yM, yN, yO, yP, yQ, Nat.reduceAdd, yA, yB, yC] at H); simp only [Act.put, yA, yB, yC, yD, yE, yF]) | ((first | ((with_reducible apply st_alloc (dst := some 4) H); exact nF; intro b4) | ((with_reducible apply st_loadat H); decide +kernel; rfl; exact aF; exact zF; rfl)); clear H; intro wn H; simp only [Act.put, yA, yB, yC, yD, yE, yF]) | ((with_reducible apply wp_region_hq (id := 4) H); kernel_rfl; kernel_rfl; (iterate 1 (all_goals ((with_reducible refine' hq_step ?_ ?_ ?_); rotate_left; rfl; (focus (intro w1 H1; exact qF)); (try simp only [yG, yH, yJ, yK]); (try simp only [Act.put, yA, yB, yC, yD, yE, yF])))); (all_goals ((with_reducible refine' hq_step ?_ ?_ ?_); rotate_left; rfl; (focus (intro w1 H1; unfold QOk; go_simp; exact q_call (c1 _))); (try simp only [yG, yH, yJ, yK]); simp only [Act.put, yA, yB, yC, yD, yE, yF])); (iterate 16 (all_goals ((first | ((first | ((with_reducible refine hq_gwF ?_ ?_); rfl) | ((with_reducible refine hq_gwT ?_ ?_); rfl)); (with_reducible refine' hq_step ?_ ?_ ?_); rotate_left; rfl; (focus (intro w1 H1; first | exact qF | exact qWF | exact qVF)); (try simp only [yG, yH, yJ, yK])) | ((with_reducible refine' hq_step ?_ ?_ ?_); rotate_left; rfl; (focus (intro w1 H1; exact qVF)); (try simp only [yG, yH, yJ, yK]))); (try simp only [Act.put, yA, yB, yC, yD, yE, yF])))); all_goals (refine wpQuiet_nil ?_; clear H; intro wn H)))
          go_ret
          exact ⟨by rw [HI2.out]; rfl, H.below⟩
        · have HI2 : Hid (z = (allFrom f n (j + 1 + 1) && decide (n ≤ 20))) := Lib.hid (by rw [hstep]; simp [hq])
          clear hstep
          go_wp2_with (first | ((((with_reducible apply st_store H); rfl; exact eF; (focus (exact cells_agg _)); exact uF; kernel_rfl; (focus (exact Nat.le_of_ble_eq_true (by rfl))); (focus (rfl)))); clear H; intro wn H; (try simp only [splice, yG, yH, yI, yJ, yK, yL, yM, yN, yO, yP, yQ, Nat.reduceAdd, yA, yB, yC] at H); simp only [Act.put, yA, yB, yC, yD, yE, yF]) | ((first | ((with_reducible apply st_alloc (dst := some 4) H); exact nF; intro b4) | ((with_reducible apply st_loadat H); decide +kernel; rfl; exact aF; exact zF; rfl)); clear H; intro wn H; simp only [Act.put, yA, yB, yC, yD, yE, yF]) | ((with_reducible apply wp_region_hq (id := 4) H); kernel_rfl; kernel_rfl; (iterate 1 (all_goals ((with_reducible refine' hq_step ?_ ?_ ?_); rotate_left; rfl; (focus (intro w1 H1; exact qF)); (try simp only [yG, yH, yJ, yK]); (try simp only [Act.put, yA, yB, yC, yD, yE, yF])))); (all_goals ((with_reducible refine' hq_step ?_ ?_ ?_); rotate_left; rfl; (focus (intro w1 H1; unfold QOk; go_simp; exact q_call (c1 _))); (try simp only [yG, yH, yJ, yK]); simp only [Act.put, yA, yB, yC, yD, yE, yF])); (iterate 16 (all_goals ((first | ((first | ((with_reducible refine hq_gwF ?_ ?_); rfl) | ((with_reducible refine hq_gwT ?_ ?_); rfl)); (with_reducible refine' hq_step ?_ ?_ ?_); rotate_left; rfl; (focus (intro w1 H1; first | exact qF | exact qWF | exact qVF)); (try simp only [yG, yH, yJ, yK])) | ((with_reducible refine' hq_step ?_ ?_ ?_); rotate_left; rfl; (focus (intro w1 H1; exact qVF)); (try simp only [yG, yH, yJ, yK]))); (try simp only [Act.put, yA, yB, yC, yD, yE, yF])))); all_goals (refine wpQuiet_nil ?_; clear H; intro wn H)))
          go_roundg (n - (j + 1 + 1))
          case measure => omega
          case rel => exact ⟨j + 1 + 1, by omega, by go_num, HI2, H.sel sF⟩
    · obtain rfl : i = n := by omega
      have hlt1 : ¬ (i : Int) < i := by omega
      have hz := HI.out
      rw [allFrom_end (Nat.le_refl _), Bool.true_and] at hz
      have HI2 := Lib.hid hz
      clear hz HI HZ
      by_cases h4 : i ≤ 20
      · have h5 : (i : Int) ≤ 20 := by omega
        have HI3 : Hid (z = true) := Lib.hid (by rw [HI2.out]; simp [h4])
        go_wp2_with (fail)
        go_ret
        exact ⟨by rw [HI3.out]; rfl, H.below⟩
      · have h5 : ¬ (i : Int) ≤ 20 := by omega
        have HI3 : Hid (z = false) := Lib.hid (by rw [HI2.out]; simp [h4])
        go_wp2_with (fail)
        go_ret
        exact ⟨by rw [HI3.out]; rfl, H.below⟩
set_option maxRecDepth 100000 in
set_option maxHeartbeats 4000000 in
theorem spansRight_s (v : Value) (l : List Sp) (w : World) (hr : (Ty.sl 94 tySp).rd w [v] l) : Gives Tryz.prog 120 #[v] w (.bool (spansOk l)) := by
  obtain ⟨A, c, rfl, hlc, hcm⟩ := sl_form hr
  unfold maxLen at *
  have HR := Lib.hid hr
  obtain ⟨n, hn⟩ : ∃ n, n = l.length := ⟨_, rfl⟩
  have hnl : n ≤ 9223372036854775807 := by omega
  rw [← hn] at HR ⊢
  have HN := Lib.hid hn
  obtain ⟨z, hz⟩ : ∃ z, z = spansOk l := ⟨_, rfl⟩
  rw [← hz]
  obtain ⟨f, hf'⟩ : ∃ f, f = spanIn l := ⟨_, rfl⟩
  have HF := Lib.hid hf'
  have HZ : Hid (z = (allFrom f n 0 && decide (n ≤ 20))) := Lib.hid (by rw [hz, hf', hn]; rfl)
  clear hr hn hlc hcm hz hf'
  have H := Hs.start noRow w
  unfold Gives
  go_enter Tryz.func120, Tryz.ntmps120
  go_wp2_with (fail)
  go_loopg [3] n (fun m iv wr => ∃ (i : Nat), i + m = n ∧ iv = .int .i64 i ∧ Hid (z = (allFrom f n i && decide (n ≤ 20))) ∧ Hs noRow w [] wr)
  case atStart => exact ⟨0, by omega, rfl, HZ, H⟩
  case round =>
    clear H
    obtain ⟨i, hi, rfl, HI, H⟩ := hrel
    by_cases h20 : 20 < i
    · have h5 : ¬ (i : Int) ≤ 20 := by omega
      have h6 : (20 : Int) < i := by omega
      by_cases hlt : i < n
      · have hlt1 : (i : Int) < n := by omega
        have h7 : ¬ (n : Int) ≤ 20 := by omega
        have HI3 : Hid (z = false) := Lib.hid (by rw [HI.out]; simp; intro _; omega)
        go_wp2_with (((((with_reducible refine st_gwT ?_ ?_); rfl)); (try simp only [Act.put, yA, yB, yC, yD, yE, yF])))
        go_ret
        exact ⟨by rw [HI3.out]; rfl, H.below⟩
      · have hlt1 : ¬ (i : Int) < n := by omega
        have h7 : ¬ (n : Int) ≤ 20 := by omega
        have HI3 : Hid (z = false) := Lib.hid (by rw [HI.out]; simp; intro _; omega)
        go_wp2_with (fail)
        go_ret
        exact ⟨by rw [HI3.out]; rfl, H.below⟩
    have h20a : (i : Int) ≤ 20 := by omega
    have h20b : ¬ (20 : Int) < i := by omega
    by_cases hlt : i < n
    · obtain ⟨x, hx⟩ : ∃ x, l[i]? = some x := ⟨l[i]'(by rw [← HN.out]; exact hlt), List.getElem?_eq_getElem (by rw [← HN.out]; exact hlt)⟩
      have hs := sl_at (by have := HR.out; rw [HN.out] at this; exact this) hx
      rw [← HN.out] at hs
      obtain ⟨b, off, c', cs, hv, hcs, hA⟩ := hs
      injection hv with hv1 hv2 hv3
      subst hv1 hv3
      obtain rfl : cs = encSp x := hcs
      have hstep := HI.out
      have hfi : f i = (spanOk x && spanAft l i x) := by rw [HF.out]; unfold spanIn; rw [hx]
      rw [allFrom_step hlt, hfi] at hstep
      clear hfi
      have hlt1 : (i : Int) < n := by omega
      clear hx hv2
      obtain ⟨x1, x2⟩ := x
      have c1 := fun w1 => spanRight_s (x1, x2) w1
      unfold encSp at hA
      simp only at hA hstep c1
      generalize spanOk (x1, x2) = z1 at *
      cases z1
      case false =>
        have HI2 : Hid (z = false) := Lib.hid (by rw [hstep]; simp)
        clear hstep
        go_wp2_with (first | ((((with_reducible refine st_gwT ?_ ?_); rfl)); (try simp only [Act.put, yA, yB, yC, yD, yE, yF])) | ((with_reducible apply wp_region_hq (id := 4) H); kernel_rfl; kernel_rfl; (iterate 4 (all_goals ((with_reducible refine' hq_step ?_ ?_ ?_); rotate_left; rfl; (focus (intro w1 H1; first | exact qAF | exact qVF)); (try simp only [yG, yH, yJ, yK]); (try simp only [Act.put, yA, yB, yC, yD, yE, yF])))); (all_goals ((with_reducible refine' hq_step ?_ ?_ ?_); rotate_left; rfl; (focus (intro w1 H1; unfold QOk; go_simp; exact q_call (c1 _))); (try simp only [yG, yH, yJ, yK]); simp only [Act.put, yA, yB, yC, yD, yE, yF])); (iterate 19 (all_goals ((first | ((with_reducible refine hq_gsF ?_ ?_); rfl) | ((with_reducible refine hq_skip ?_ ?_); rfl) | ((with_reducible refine' hq_step ?_ ?_ ?_); rotate_left; rfl; (focus (intro w1 H1; exact qVF)); (try simp only [yG, yH, yJ, yK]))); (try simp only [Act.put, yA, yB, yC, yD, yE, yF])))); all_goals (refine wpQuiet_nil ?_; clear H; intro wn H)))
        go_ret
        exact ⟨by rw [HI2.out]; rfl, H.below⟩
      cases i with
      | zero =>
        have HI2 : Hid (z = (allFrom f n 1 && decide (n ≤ 20))) := Lib.hid (by rw [hstep]; simp [spanAft])
        clear hstep
        go_wp2_with (first | ((((with_reducible refine st_gwT ?_ ?_); rfl)); (try simp only [Act.put, yA, yB, yC, yD, yE, yF])) | ((with_reducible apply wp_region_hq (id := 4) H); kernel_rfl; kernel_rfl; (iterate 4 (all_goals ((with_reducible refine' hq_step ?_ ?_ ?_); rotate_left; rfl; (focus (intro w1 H1; first | exact qAF | exact qVF)); (try simp only [yG, yH, yJ, yK]); (try simp only [Act.put, yA, yB, yC, yD, yE, yF])))); (all_goals ((with_reducible refine' hq_step ?_ ?_ ?_); rotate_left; rfl; (focus (intro w1 H1; unfold QOk; go_simp; exact q_call (c1 _))); (try simp only [yG, yH, yJ, yK]); simp only [Act.put, yA, yB, yC, yD, yE, yF])); (iterate 19 (all_goals ((first | ((with_reducible refine hq_gwF ?_ ?_); rfl; (with_reducible refine' hq_step ?_ ?_ ?_); rotate_left; rfl; (focus (intro w1 H1; exact qVF)); (try simp only [yG, yH, yJ, yK])) | ((with_reducible refine hq_gsT ?_ ?_); rfl) | ((with_reducible refine' hq_step ?_ ?_ ?_); rotate_left; rfl; (focus (intro w1 H1; exact qVF)); (try simp only [yG, yH, yJ, yK]))); (try simp only [Act.put, yA, yB, yC, yD, yE, yF])))); all_goals (refine wpQuiet_nil ?_; clear H; intro wn H)))
        go_roundg (n - 1)
        case measure => omega
        case rel => exact ⟨1, by omega, by go_num, HI2, H.sel sF⟩
      | succ j =>
        obtain ⟨y, hy⟩ : ∃ y, l[j]? = some y := ⟨l[j]'(by rw [← HN.out]; omega), List.getElem?_eq_getElem (by rw [← HN.out]; omega)⟩
        have hs2 := sl_at (by have := HR.out; rw [HN.out] at this; exact this) hy
        rw [← HN.out] at hs2
        obtain ⟨b3, off3, c3, cs3, hw, hcs3, hB⟩ := hs2
        injection hw with hw1 hw2 hw3
        injection hw1 with hw1
        injection hw1 with hw4 hw5
        subst hw3 hw4 hw5
        obtain rfl : cs3 = encSp y := hcs3
        unfold spanAft at hstep
        simp only [hy] at hstep
        obtain ⟨y1, y2⟩ := y
        simp only at hstep
        have h2 : w.cell? ⟨b, off + j * 2 + 1, none⟩ = some (.int .i64 y2) := hB 1 _ rfl
        have hlt2 : (j : Int) < n := by omega
        have hlt3 : j < n := by omega
        have hpos : (0 : Int) < (j : Int) + 1 := by omega
        have h3 : w.cell? ⟨b, off + (j + 1) * 2, none⟩ = some (.int .i64 x1) := hA.head (u := .int .i64 x1) rfl
        have hlt4 : (j : Int) + 1 < n := by omega
        have hlt5 : j + 1 < n := by omega
        clear hB hy hw2
        by_cases hq : x1 < y2
        · have HI2 : Hid (z = false) := Lib.hid (by rw [hstep]; simp [hq])
          clear hstep
          go_wp2_with (first | ((((with_reducible refine st_gwT ?_ ?_); rfl)); (try simp only [Act.put, yA, yB, yC, yD, yE, yF])) | ((with_reducible apply wp_region_hq (id := 4) H); kernel_rfl; kernel_rfl; (iterate 4 (all_goals ((with_reducible refine' hq_step ?_ ?_ ?_); rotate_left; rfl; (focus (intro w1 H1; first | exact qAF | exact qVF)); (try simp only [yG, yH, yJ, yK]); (try simp only [Act.put, yA, yB, yC, yD, yE, yF])))); (all_goals ((with_reducible refine' hq_step ?_ ?_ ?_); rotate_left; rfl; (focus (intro w1 H1; unfold QOk; go_simp; exact q_call (c1 _))); (try simp only [yG, yH, yJ, yK]); simp only [Act.put, yA, yB, yC, yD, yE, yF])); (iterate 19 (all_goals ((first | ((first | ((with_reducible refine hq_gwF ?_ ?_); rfl) | ((with_reducible refine hq_gwT ?_ ?_); rfl)); (with_reducible refine' hq_step ?_ ?_ ?_); rotate_left; rfl; (focus (intro w1 H1; first | exact qF | exact qWF | exact qVF)); (try simp only [yG, yH, yJ, yK])) | ((with_reducible refine' hq_step ?_ ?_ ?_); rotate_left; rfl; (focus (intro w1 H1; exact qVF)); (try simp only [yG, yH, yJ, yK]))); (try simp only [Act.put, yA, yB, yC, yD, yE, yF])))); all_goals (refine wpQuiet_nil ?_; clear H; intro wn H)))
          go_ret
          exact ⟨by rw [HI2.out]; rfl, H.below⟩
        · have HI2 : Hid (z = (allFrom f n (j + 1 + 1) && decide (n ≤ 20))) := Lib.hid (by rw [hstep]; simp [hq])
          clear hstep
          go_wp2_with (first | ((((with_reducible refine st_gwT ?_ ?_); rfl)); (try simp only [Act.put, yA, yB, yC, yD, yE, yF])) | ((with_reducible apply wp_region_hq (id := 4) H); kernel_rfl; kernel_rfl; (iterate 4 (all_goals ((with_reducible refine' hq_step ?_ ?_ ?_); rotate_left; rfl; (focus (intro w1 H1; first | exact qAF | exact qVF)); (try simp only [yG, yH, yJ, yK]); (try simp only [Act.put, yA, yB, yC, yD, yE, yF])))); (all_goals ((with_reducible refine' hq_step ?_ ?_ ?_); rotate_left; rfl; (focus (intro w1 H1; unfold QOk; go_simp; exact q_call (c1 _))); (try simp only [yG, yH, yJ, yK]); simp only [Act.put, yA, yB, yC, yD, yE, yF])); (iterate 19 (all_goals ((first | ((first | ((with_reducible refine hq_gwF ?_ ?_); rfl) | ((with_reducible refine hq_gwT ?_ ?_); rfl)); (with_reducible refine' hq_step ?_ ?_ ?_); rotate_left; rfl; (focus (intro w1 H1; first | exact qF | exact qWF | exact qVF)); (try simp only [yG, yH, yJ, yK])) | ((with_reducible refine' hq_step ?_ ?_ ?_); rotate_left; rfl; (focus (intro w1 H1; exact qVF)); (try simp only [yG, yH, yJ, yK]))); (try simp only [Act.put, yA, yB, yC, yD, yE, yF])))); all_goals (refine wpQuiet_nil ?_; clear H; intro wn H)))
          go_roundg (n - (j + 1 + 1))
          case measure => omega
          case rel => exact ⟨j + 1 + 1, by omega, by go_num, HI2, H.sel sF⟩
    · obtain rfl : i = n := by omega
      have hlt1 : ¬ (i : Int) < i := by omega
      have hz := HI.out
      rw [allFrom_end (Nat.le_refl _), Bool.true_and] at hz
      have HI2 := Lib.hid hz
      clear hz HI HZ
      have h5 : (i : Int) ≤ 20 := by omega
      have HI3 : Hid (z = true) := Lib.hid (by rw [HI2.out]; simp; omega)
      go_wp2_with (fail)
      go_ret
      exact ⟨by rw [HI3.out]; rfl, H.below⟩
theorem nodeC (x : Nd) (cs : List Value) (w : World) (hx : tyNd.rd w cs x) : Gives Tryz.prog 144 (#[.agg cs.toArray] ++ #[]) w (.bool (!nodeOk x)) := by
  obtain ⟨A, n, k, rfl, h1⟩ := Nd_form hx
  obtain ⟨a, l⟩ := x
  simp only at h1
  show Gives Tryz.prog _ #[.agg #[.int .i64 a, .slice A n k]] w _
  have hn : n = l.length := by obtain ⟨_, _, e, _⟩ := sl_form h1; injection e
  have c1 := fun w1 => ndSt_i a w1
  have c2 := fun w1 hb => spansRight_i _ l w1 (Ty.below _ h1 hb)
  unfold nodeOk
  simp only
  rw [← hn]
  clear h1 hx hn
  generalize isIn a 1 3 = z1 at *
  generalize spansOk l = z2 at *
  have H := Hs.start noRow w
  unfold Gives
  by_cases h : n ≤ 4
  · have h6 : decide ((4 : Int) < (n : Int)) = false := by simp; omega
    have h7 : decide (n ≤ 4) = true := by simp [h]
    clear h
    cases z1 <;> cases z2
    all_goals (
      simp only [h7, Bool.true_and, Bool.and_true, Bool.false_and, Bool.and_false, Bool.not_true, Bool.not_false]
      go_enter Tryz.func144, Tryz.ntmps144
      go_wp2_with (first | ((first | ((with_reducible refine st_gwF ?_ ?_); rfl) | ((with_reducible refine st_gsF ?_ ?_); rfl)); (try simp only [Act.put, yA, yB, yC, yD, yE, yF])) | ((((with_reducible apply st_load1 H); decide +kernel; rfl; exact cF)); clear H; intro wn H; (try simp only [splice, yG, yH, yI, yJ, yK, yL, yM, yN, yO, yP, yQ, Nat.reduceAdd, yA, yB, yC] at H); simp only [Act.put, yA, yB, yC, yD, yE, yF]) | ((((with_reducible apply st_box (dst := some 1) H); exact nF; intro b1)); clear H; intro wn H; simp only [Act.put, yA, yB, yC, yD, yE, yF]) | ((first | (go_at_call 145; refine gvF (c1 _) H ?_) | (go_at_call 146; refine gvF (c2 _ H.below) H ?_)); clear H; intro wn H))
      go_ret
      exact ⟨rfl, H.below⟩)
  · have h6 : decide ((4 : Int) < (n : Int)) = true := by simp; omega
    have h7 : decide (n ≤ 4) = false := by simp [h]
    clear h
    cases z1 <;> cases z2
    all_goals (
      simp only [h7, Bool.true_and, Bool.and_true, Bool.false_and, Bool.and_false, Bool.not_true, Bool.not_false]
      go_enter Tryz.func144, Tryz.ntmps144
      go_wp2_with (first | ((first | ((with_reducible refine st_gwF ?_ ?_); rfl) | ((with_reducible refine st_gsF ?_ ?_); rfl)); (try simp only [Act.put, yA, yB, yC, yD, yE, yF])) | ((((with_reducible apply st_load1 H); decide +kernel; rfl; exact cF)); clear H; intro wn H; (try simp only [splice, yG, yH, yI, yJ, yK, yL, yM, yN, yO, yP, yQ, Nat.reduceAdd, yA, yB, yC] at H); simp only [Act.put, yA, yB, yC, yD, yE, yF]) | ((((with_reducible apply st_box (dst := some 1) H); exact nF; intro b1)); clear H; intro wn H; simp only [Act.put, yA, yB, yC, yD, yE, yF]) | (((go_at_call 145; refine gvF (c1 _) H ?_)); clear H; intro wn H))
      go_ret
      exact ⟨rfl, H.below⟩)
set_option maxRecDepth 100000 in
set_option maxHeartbeats 4000000 in
theorem nodesRight_i (v : Value) (l : List Nd) (w : World) (hr : (Ty.sl 92 tyNd).rd w [v] l) : Gives Tryz.prog 83 #[v] w (.bool (nodesOk l)) := by
  have eg : ∀ args w, (callFunc 144 args).run Tryz.prog w = .ok (.enter 144 args) w := enters_of Tryz.func144 (by kernel_rfl) rfl
  have hC := fun w1 hb => containsFunc_Nd v l (fun a => !nodeOk a) 144 #[] w1 eg (Ty.below _ hr hb) (fun w2 _ i x u _ hu => nodeC x u w2 hu)
  rw [any_not_all (p := nodeOk) (fun _ => rfl) l] at hC
  obtain ⟨A, c, rfl, hlc, hcm⟩ := sl_form hr
  unfold maxLen at *
  have e : nodesOk l = (decide ((1 : Int) ≤ l.length) && decide ((l.length : Int) ≤ 6) && l.all nodeOk) := by
    unfold nodesOk
    rw [Bool.and_assoc]
    congr 1
    · simp; omega
    · congr 1
      simp; omega
  rw [e]
  have c1 := fun w1 => within_i (l.length : Int) 1 6 w1
  generalize (decide ((1 : Int) ≤ l.length) && decide ((l.length : Int) ≤ 6)) = z1 at *
  generalize l.all nodeOk = z2 at *
  generalize l.length = n at *
  clear e hr
  have H := Hs.start noRow w
  unfold Gives
  cases z1 <;> cases z2
  all_goals (
    go_enter Tryz.func83, Tryz.ntmps83
    go_wp2_with (((first | (go_at_call 20; refine gvF (c1 _) H ?_) | (go_at_call 143; refine gvF (hC _ H.below) H ?_)); clear H; intro wn H))
    go_ret
    exact ⟨rfl, H.below⟩)
set_option maxRecDepth 100000 in
set_option maxHeartbeats 4000000 in
theorem nodesRight_s (v : Value) (l : List Nd) (w : World) (hr : (Ty.sl 92 tyNd).rd w [v] l) : Gives Tryz.prog 67 #[v] w (.bool (nodesOk l)) := by
  obtain ⟨A, c, rfl, hlc, hcm⟩ := sl_form hr
  unfold maxLen at *
  have HR := Lib.hid hr
  obtain ⟨n, hn⟩ : ∃ n, n = l.length := ⟨_, rfl⟩
  have hnl : n ≤ 9223372036854775807 := by omega
  rw [← hn] at HR ⊢
  have HN := Lib.hid hn
  obtain ⟨z, hz⟩ : ∃ z, z = nodesOk l := ⟨_, rfl⟩
  rw [← hz]
  have hst : z = (decide (1 ≤ n) && (decide (n ≤ 6) && l.all nodeOk)) := by rw [hz, hn]; rfl
  clear hr hn hlc hcm hz
  have H := Hs.start noRow w
  unfold Gives
  by_cases h1 : 1 ≤ n
  case neg =>
    have f1 : (n : Int) < 1 := by omega
    have HI2 : Hid (z = false) := Lib.hid (by rw [hst]; simp [h1])
    clear hst
    go_enter Tryz.func67, Tryz.ntmps67
    go_wp2_with (fail)
    go_ret
    exact ⟨by rw [HI2.out]; rfl, H.below⟩
  have f1 : ¬ (n : Int) < 1 := by omega
  by_cases h6 : n ≤ 6
  case neg =>
    have f2 : (6 : Int) < n := by omega
    have HI2 : Hid (z = false) := Lib.hid (by rw [hst]; simp [h6])
    clear hst
    go_enter Tryz.func67, Tryz.ntmps67
    go_wp2_with (((((with_reducible refine st_gwF ?_ ?_); rfl)); (try simp only [Act.put, yA, yB, yC, yD, yE, yF])))
    go_ret
    exact ⟨by rw [HI2.out]; rfl, H.below⟩
  have f2 : ¬ (6 : Int) < n := by omega
  have HZ : Hid (z = (l.drop 0).all nodeOk) := Lib.hid (by rw [hst]; simp [h1, h6])
  clear hst
  go_enter Tryz.func67, Tryz.ntmps67
  go_wp2_with (((((with_reducible refine st_gwF ?_ ?_); rfl)); (try simp only [Act.put, yA, yB, yC, yD, yE, yF])))
  go_loopg [3] n (fun m iv wr => ∃ (i : Nat), i + m = n ∧ iv = .int .i64 i ∧ Hid (z = (l.drop i).all nodeOk) ∧ Hs noRow w [] wr)
  case atStart => exact ⟨0, by omega, rfl, HZ, H⟩
  case round =>
    clear H
    obtain ⟨i, hi, rfl, HI, H⟩ := hrel
    by_cases hlt : i < n
    · obtain ⟨x, hx⟩ : ∃ x, l[i]? = some x := ⟨l[i]'(by rw [← HN.out]; exact hlt), List.getElem?_eq_getElem (by rw [← HN.out]; exact hlt)⟩
      have hs := sl_at (by have := HR.out; rw [HN.out] at this; exact this) hx
      rw [← HN.out] at hs
      obtain ⟨b, off, c', cs, hv, hcs, hA⟩ := hs
      injection hv with hv1 hv2 hv3
      subst hv1 hv3
      obtain ⟨E1, e2, e3, rfl, g1⟩ := Nd_form hcs
      have hstep := HI.out
      obtain ⟨hlt', e⟩ := List.getElem?_eq_some_iff.1 hx
      rw [List.drop_eq_getElem_cons hlt', e, List.all_cons] at hstep
      obtain ⟨a, bk⟩ := x
      simp only at g1
      have he2 : e2 = bk.length := by obtain ⟨_, _, e, _⟩ := sl_form g1; injection e
      have c1 := fun w1 => ndSt_s a w1
      have c2 := fun w1 hb => spansRight_s _ bk w1 (Ty.below _ g1 hb)
      have h0 : w.cell? ⟨b, off + i * 2, none⟩ = some (.int .i64 a) := hA.head (u := .int .i64 a) rfl
      have h1' : w.cell? ⟨b, off + i * 2 + 1, none⟩ = some (.slice E1 e2 e3) := hA 1 _ rfl
      have hno : nodeOk (a, bk) = (isIn a 1 3 && (decide (bk.length ≤ 4) && spansOk bk)) := rfl
      rw [hno, ← he2] at hstep
      clear hno
      generalize isIn a 1 3 = z1 at *
      generalize spansOk bk = z2 at *
      have hlt1 : (i : Int) < n := by omega
      clear hx hv2 hcs hA g1 he2 e hlt' HI
      have hd : (z = false ∧ (z1 = false ∨ (z1 = true ∧ (decide ((4 : Int) < (e2 : Int)) = true ∨ (decide ((4 : Int) < (e2 : Int)) = false ∧ z2 = false))))) ∨ (z1 = true ∧ decide ((4 : Int) < (e2 : Int)) = false ∧ z2 = true ∧ z = (l.drop (i + 1)).all nodeOk) := by
        cases z1
        · exact .inl ⟨by rw [hstep]; rfl, .inl rfl⟩
        by_cases h4 : e2 ≤ 4
        · cases z2
          · exact .inl ⟨by rw [hstep]; simp, .inr ⟨rfl, .inr ⟨by simp; omega, rfl⟩⟩⟩
          · exact .inr ⟨rfl, by simp; omega, rfl, by rw [hstep]; simp [h4]⟩
        · exact .inl ⟨by rw [hstep]; simp [h4], .inr ⟨rfl, .inl (by simp; omega)⟩⟩
      clear hstep
      rcases hd with ⟨hz, hd⟩ | ⟨rfl, h4, rfl, hz⟩
      · have HZ2 := Lib.hid hz
        clear hz
        rcases hd with rfl | ⟨rfl, h4 | ⟨h4, rfl⟩⟩
        all_goals (
          go_wp2_with (first | ((((with_reducible refine st_gwF ?_ ?_); rfl)); (try simp only [Act.put, yA, yB, yC, yD, yE, yF])) | ((((with_reducible apply st_load1 H); decide +kernel; rfl; exact cF)); clear H; intro wn H; (try simp only [splice, yG, yH, yI, yJ, yK, yL, yM, yN, yO, yP, yQ, Nat.reduceAdd, yA, yB, yC] at H); simp only [Act.put, yA, yB, yC, yD, yE, yF]) | ((first | (go_at_call 119; refine gvF (c1 _) H ?_) | (go_at_call 120; refine gvF (c2 _ H.below) H ?_)); clear H; intro wn H))
          go_ret
          exact ⟨by rw [HZ2.out]; rfl, H.below⟩)
      · have HI2 := Lib.hid hz
        clear hz
        go_wp2_with (first | ((((with_reducible refine st_gwF ?_ ?_); rfl)); (try simp only [Act.put, yA, yB, yC, yD, yE, yF])) | ((((with_reducible apply st_load1 H); decide +kernel; rfl; exact cF)); clear H; intro wn H; (try simp only [splice, yG, yH, yI, yJ, yK, yL, yM, yN, yO, yP, yQ, Nat.reduceAdd, yA, yB, yC] at H); simp only [Act.put, yA, yB, yC, yD, yE, yF]) | ((first | (go_at_call 119; refine gvF (c1 _) H ?_) | (go_at_call 120; refine gvF (c2 _ H.below) H ?_)); clear H; intro wn H))
        go_roundg (n - (i + 1))
        case measure => omega
        case rel => exact ⟨i + 1, by omega, by go_num, HI2, H⟩
    · obtain rfl : i = n := by omega
      have hlt1 : ¬ (i : Int) < i := by omega
      have HI2 : Hid (z = true) := Lib.hid (by rw [HI.out, List.drop_of_length_le (by rw [← HN.out]; exact Nat.le_refl _)]; rfl)
      clear HI HZ
      go_wp2_with (fail)
      go_ret
      exact ⟨by rw [HI2.out]; rfl, H.below⟩
end Go.Proofs.YtpfdhfchgnnpiaaGreat
