/-
  Mail that may be so, in the reference and in the program: the walks.
-/
import Derived.Test.YtpfdhfchgnnpiaaGreatG8
import Derived.Test.YtpfdhfchgnnpiaaGreatG5
set_option linter.unusedSimpArgs false
set_option linter.unusedVariables false
namespace Go.Proofs.YtpfdhfchgnnpiaaGreat
open Go.RowKit M
namespace M
/-- the note at i stands no earlier than the one before it -/
def noteAft (l : List Nt) (i : Nat) (x : Nt) : Bool := match i with
  | 0 => true
  | j + 1 => match l[j]? with
    | some y => !decide (x.1 < y.1)
    | none => true
def noteIn (l : List Nt) (i : Nat) : Bool := match l[i]? with
  | some x => isIn x.1 0 999900 && noteAft l i x
  | none => true
def notesOk (l : List Nt) : Bool := allFrom (noteIn l) l.length 0 && decide (l.length ≤ 12)
def boxOk (r : Int) (b : Bo) : Bool := decide ((b.1.length : Int) ≤ r) && (decide ((b.2.1.length : Int) ≤ r) && notesOk b.2.2)
def boxIn (pr : List Pr) (m : List Bo) (i : Nat) : Bool := match m[i]? with
  | some b => match pr[i]? with
    | some p => boxOk p.2.2 b
    | none => true
  | none => true
def mailOk (c : Cfg) (m : List Bo) : Bool := cfgOk c && (decide (m.length = c.2.1.length) && allFrom (boxIn c.2.1 m) m.length 0)
end M
theorem isNow_i (n : Int) (w : World) : Gives Tryz.prog 86 #[.int .i64 n] w (.bool (isIn n 0 999900)) := by
  have hC := fun w => within_i n 0 999900 w
  have H := Hs.start noRow w
  unfold Gives isIn
  generalize (decide (0 ≤ n) && decide (n ≤ 999900)) = z at *
  go_enter Tryz.func86, Tryz.ntmps86
  go_wp2_with ((((go_at_call 20; refine gvF (hC _) H ?_)); clear H; intro wn H))
  go_ret
  exact ⟨rfl, H.below⟩
theorem now_s (n : Int) (w : World) : Gives Tryz.prog 65 #[.int .i64 n] w (.bool (isIn n 0 999900)) := by
  have hC := fun w => is_s n 0 999900 w
  have H := Hs.start noRow w
  unfold Gives isIn
  generalize (decide (0 ≤ n) && decide (n ≤ 999900)) = z at *
  go_enter Tryz.func65, Tryz.ntmps65
  go_wp2_with ((((go_at_call 115; refine gvF (hC _) H ?_)); clear H; intro wn H))
  go_ret
  exact ⟨rfl, H.below⟩
set_option maxRecDepth 100000 in
set_option maxHeartbeats 4000000 in
theorem notesRight_i (v : Value) (l : List Nt) (w : World) (hr : (Ty.sl 87 tyNt).rd w [v] l) : Gives Tryz.prog 95 #[v] w (.bool (notesOk l)) := by
  obtain ⟨A, c, rfl, hlc, hcm⟩ := sl_form hr
  unfold maxLen at *
  have HR := Lib.hid hr
  obtain ⟨n, hn⟩ : ∃ n, n = l.length := ⟨_, rfl⟩
  have hnl : n ≤ 9223372036854775807 := by omega
  rw [← hn] at HR ⊢
  have HN := Lib.hid hn
  obtain ⟨z, hz⟩ : ∃ z, z = notesOk l := ⟨_, rfl⟩
  rw [← hz]
  obtain ⟨f, hf'⟩ : ∃ f, f = noteIn l := ⟨_, rfl⟩
  have HF := Lib.hid hf'
  have HZ : Hid (z = (allFrom f n 0 && decide (n ≤ 12))) := Lib.hid (by rw [hz, hf', hn]; rfl)
  clear hr hn hlc hcm hz hf'
  have H := Hs.start noRow w
  unfold Gives
  go_enter Tryz.func95, Tryz.ntmps95
  go_wp2_with (fail)
  go_loopg [7] n (fun m iv wr => ∃ (i : Nat), i + m = n ∧ iv = .int .i64 i ∧ Hid (z = (allFrom f n i && decide (n ≤ 12))) ∧ Hs noRow w [] wr)
  case atStart => exact ⟨0, by omega, rfl, HZ, H⟩
  case round =>
    clear H
    obtain ⟨i, hi, rfl, HI, H⟩ := hrel
    by_cases hlt : i < n
    · obtain ⟨x, hx⟩ : ∃ x, l[i]? = some x := ⟨l[i]'(by rw [← HN.out]; exact hlt), List.getElem?_eq_getElem (by rw [← HN.out]; exact hlt)⟩
      have hs := sl_at (by have := HR.out; rw [HN.out] at this; exact this) hx
      rw [← HN.out] at hs
      obtain ⟨b, off, c', cs, hv, hcs, hA⟩ := hs
      injection hv with hv1 hv2 hv3
      subst hv1 hv3
      obtain rfl : cs = encNt x := hcs
      have hstep := HI.out
      have hfi : f i = (isIn x.1 0 999900 && noteAft l i x) := by rw [HF.out]; unfold noteIn; rw [hx]
      rw [allFrom_step hlt, hfi] at hstep
      clear hfi
      have hlt1 : (i : Int) < n := by omega
      clear hx hv2
      obtain ⟨x1, x2⟩ := x
      have c1 := fun w1 => isNow_i x1 w1
      unfold encNt at hA
      simp only at hA hstep
      generalize isIn x1 0 999900 = z1 at *
      cases z1
      case false =>
        have HI2 : Hid (z = false) := Lib.hid (by rw [hstep]; simp)
        clear hstep
        go_wp2_with (first | ((((with_reducible apply st_store H); rfl; exact eF; (focus (exact cells_agg _)); exact uF; kernel_rfl; (focus (exact Nat.le_of_ble_eq_true (by rfl))); (focus (rfl)))); clear H; intro wn H; (try simp only [splice, yG, yH, yI, yJ, yK, yL, yM, yN, yO, yP, yQ, Nat.reduceAdd, yA, yB, yC] at H); simp only [Act.put, yA, yB, yC, yD, yE, yF]) | ((first | ((with_reducible apply st_alloc (dst := some 4) H); exact nF; intro b4) | ((with_reducible apply st_loadat H); decide +kernel; rfl; exact aF; exact zF; rfl)); clear H; intro wn H; simp only [Act.put, yA, yB, yC, yD, yE, yF]) | ((with_reducible apply wp_region_hq (id := 4) H); kernel_rfl; kernel_rfl; (iterate 2 (all_goals ((with_reducible refine' hq_step ?_ ?_ ?_); rotate_left; rfl; (focus (intro w1 H1; first | exact qF | exact qVF)); (try simp only [yG, yH, yJ, yK]); (try simp only [Act.put, yA, yB, yC, yD, yE, yF])))); (all_goals ((with_reducible refine' hq_step ?_ ?_ ?_); rotate_left; rfl; (focus (intro w1 H1; unfold QOk; go_simp; exact q_call (c1 _))); (try simp only [yG, yH, yJ, yK]); simp only [Act.put, yA, yB, yC, yD, yE, yF])); (iterate 16 (all_goals ((first | ((with_reducible refine hq_gsF ?_ ?_); rfl) | ((with_reducible refine hq_skip ?_ ?_); rfl) | ((with_reducible refine' hq_step ?_ ?_ ?_); rotate_left; rfl; (focus (intro w1 H1; exact qVF)); (try simp only [yG, yH, yJ, yK]))); (try simp only [Act.put, yA, yB, yC, yD, yE, yF])))); all_goals (refine wpQuiet_nil ?_; clear H; intro wn H)))
        go_ret
        exact ⟨by rw [HI2.out]; rfl, H.below⟩
      cases i with
      | zero =>
        have HI2 : Hid (z = (allFrom f n 1 && decide (n ≤ 12))) := Lib.hid (by rw [hstep]; simp [noteAft])
        clear hstep
        go_wp2_with (first | ((((with_reducible apply st_store H); rfl; exact eF; (focus (exact cells_agg _)); exact uF; kernel_rfl; (focus (exact Nat.le_of_ble_eq_true (by rfl))); (focus (rfl)))); clear H; intro wn H; (try simp only [splice, yG, yH, yI, yJ, yK, yL, yM, yN, yO, yP, yQ, Nat.reduceAdd, yA, yB, yC] at H); simp only [Act.put, yA, yB, yC, yD, yE, yF]) | ((first | ((with_reducible apply st_alloc (dst := some 4) H); exact nF; intro b4) | ((with_reducible apply st_loadat H); decide +kernel; rfl; exact aF; exact zF; rfl)); clear H; intro wn H; simp only [Act.put, yA, yB, yC, yD, yE, yF]) | ((with_reducible apply wp_region_hq (id := 4) H); kernel_rfl; kernel_rfl; (iterate 2 (all_goals ((with_reducible refine' hq_step ?_ ?_ ?_); rotate_left; rfl; (focus (intro w1 H1; first | exact qF | exact qVF)); (try simp only [yG, yH, yJ, yK]); (try simp only [Act.put, yA, yB, yC, yD, yE, yF])))); (all_goals ((with_reducible refine' hq_step ?_ ?_ ?_); rotate_left; rfl; (focus (intro w1 H1; unfold QOk; go_simp; exact q_call (c1 _))); (try simp only [yG, yH, yJ, yK]); simp only [Act.put, yA, yB, yC, yD, yE, yF])); (iterate 16 (all_goals ((first | ((with_reducible refine hq_gwF ?_ ?_); rfl; (with_reducible refine' hq_step ?_ ?_ ?_); rotate_left; rfl; (focus (intro w1 H1; exact qVF)); (try simp only [yG, yH, yJ, yK])) | ((with_reducible refine hq_gsT ?_ ?_); rfl) | ((with_reducible refine' hq_step ?_ ?_ ?_); rotate_left; rfl; (focus (intro w1 H1; exact qVF)); (try simp only [yG, yH, yJ, yK]))); (try simp only [Act.put, yA, yB, yC, yD, yE, yF])))); all_goals (refine wpQuiet_nil ?_; clear H; intro wn H)))
        go_roundg (n - 1)
        case measure => omega
        case rel => exact ⟨1, by omega, by go_num, HI2, H.sel sF⟩
      | succ j =>
        obtain ⟨y, hy⟩ : ∃ y, l[j]? = some y := ⟨l[j]'(by rw [← HN.out]; omega), List.getElem?_eq_getElem (by rw [← HN.out]; omega)⟩
        have hs2 := sl_at (by have := HR.out; rw [HN.out] at this; exact this) hy
        rw [← HN.out] at hs2
        obtain ⟨b3, off3, c3, cs3, hw, hcs3, hB⟩ := hs2
        injection hw with hw1 hw2 hw3
        injection hw1 with hw1
        injection hw1 with hw4 hw5
        subst hw3 hw4 hw5
        obtain rfl : cs3 = encNt y := hcs3
        unfold noteAft at hstep
        simp only [hy] at hstep
        obtain ⟨y1, y2⟩ := y
        simp only at hstep
        have h2 : w.cell? ⟨b, off + j * 2, none⟩ = some (.int .i64 y1) := hB.head (u := .int .i64 y1) rfl
        have hlt2 : (j : Int) < n := by omega
        have hlt3 : j < n := by omega
        have hpos : (0 : Int) < (j : Int) + 1 := by omega
        clear hB hy hw2
        by_cases hq : x1 < y1
        · have HI2 : Hid (z = false) := Lib.hid (by rw [hstep]; simp [hq])
          clear hstep
          go_wp2_with (first | ((((with_reducible apply st_store H); rfl; exact eF; (focus (exact cells_agg _)); exact uF; kernel_rfl; (focus (exact Nat.le_of_ble_eq_true (by rfl))); (focus (rfl)))); clear H; intro wn H; (try simp only [splice, yG, yH, yI, yJ, yK, yL, yM, yN, yO, yP, yQ, Nat.reduceAdd, yA, yB, yC] at H); simp only [Act.put, yA, yB, yC, yD, yE, yF]) | ((first | ((with_reducible apply st_alloc (dst := some 4) H); exact nF; intro b4) | ((with_reducible apply st_loadat H); decide +kernel; rfl; exact aF; exact zF; rfl)); clear H; intro wn H; simp only [Act.put, yA, yB, yC, yD, yE, yF]) | ((with_reducible apply wp_region_hq (id := 4) H); kernel_rfl; kernel_rfl; (iterate 2 (all_goals ((with_reducible refine' hq_step ?_ ?_ ?_); rotate_left; rfl; (focus (intro w1 H1; first | exact qF | exact qVF)); (try simp only [yG, yH, yJ, yK]); (try simp only [Act.put, yA, yB, yC, yD, yE, yF])))); (all_goals ((with_reducible refine' hq_step ?_ ?_ ?_); rotate_left; rfl; (focus (intro w1 H1; unfold QOk; go_simp; exact q_call (c1 _))); (try simp only [yG, yH, yJ, yK]); simp only [Act.put, yA, yB, yC, yD, yE, yF])); (iterate 16 (all_goals ((first | ((first | ((with_reducible refine hq_gwF ?_ ?_); rfl) | ((with_reducible refine hq_gwT ?_ ?_); rfl)); (with_reducible refine' hq_step ?_ ?_ ?_); rotate_left; rfl; (focus (intro w1 H1; first | exact qF | exact qWF | exact qVF)); (try simp only [yG, yH, yJ, yK])) | ((with_reducible refine' hq_step ?_ ?_ ?_); rotate_left; rfl; (focus (intro w1 H1; exact qVF)); (try simp only [yG, yH, yJ, yK]))); (try simp only [Act.put, yA, yB, yC, yD, yE, yF])))); all_goals (refine wpQuiet_nil ?_; clear H; intro wn H)))
          go_ret
          exact ⟨by rw [HI2.out]; rfl, H.below⟩
        · have HI2 : Hid (z = (allFrom f n (j + 1 + 1) && decide (n ≤ 12))) := Lib.hid (by rw [hstep]; simp [hq])
          clear hstep
          go_wp2_with (first | ((((with_reducible apply st_store H); rfl; exact eF; (focus (exact cells_agg _)); exact uF; kernel_rfl; (focus (exact Nat.le_of_ble_eq_true (by rfl))); (focus (rfl)))); clear H; intro wn H; (try simp only [splice, yG, yH, yI, yJ, yK, yL, yM, yN, yO, yP, yQ, Nat.reduceAdd, yA, yB, yC] at H); simp only [Act.put, yA, yB, yC, yD, yE, yF]) | ((first | ((with_reducible apply st_alloc (dst := some 4) H); exact nF; intro b4) | ((with_reducible apply st_loadat H); decide +kernel; rfl; exact aF; exact zF; rfl)); clear H; intro wn H; simp only [Act.put, yA, yB, yC, yD, yE, yF]) | ((with_reducible apply wp_region_hq (id := 4) H); kernel_rfl; kernel_rfl; (iterate 2 (all_goals ((with_reducible refine' hq_step ?_ ?_ ?_); rotate_left; rfl; (focus (intro w1 H1; first | exact qF | exact qVF)); (try simp only [yG, yH, yJ, yK]); (try simp only [Act.put, yA, yB, yC, yD, yE, yF])))); (all_goals ((with_reducible refine' hq_step ?_ ?_ ?_); rotate_left; rfl; (focus (intro w1 H1; unfold QOk; go_simp; exact q_call (c1 _))); (try simp only [yG, yH, yJ, yK]); simp only [Act.put, yA, yB, yC, yD, yE, yF])); (iterate 16 (all_goals ((first | ((first | ((with_reducible refine hq_gwF ?_ ?_); rfl) | ((with_reducible refine hq_gwT ?_ ?_); rfl)); (with_reducible refine' hq_step ?_ ?_ ?_); rotate_left; rfl; (focus (intro w1 H1; first | exact qF | exact qWF | exact qVF)); (try simp only [yG, yH, yJ, yK])) | ((with_reducible refine' hq_step ?_ ?_ ?_); rotate_left; rfl; (focus (intro w1 H1; exact qVF)); (try simp only [yG, yH, yJ, yK]))); (try simp only [Act.put, yA, yB, yC, yD, yE, yF])))); all_goals (refine wpQuiet_nil ?_; clear H; intro wn H)))
          go_roundg (n - (j + 1 + 1))
          case measure => omega
          case rel => exact ⟨j + 1 + 1, by omega, by go_num, HI2, H.sel sF⟩
    · obtain rfl : i = n := by omega
      have hlt1 : ¬ (i : Int) < i := by omega
      have hz := HI.out
      rw [allFrom_end (Nat.le_refl _), Bool.true_and] at hz
      have HI2 := Lib.hid hz
      clear hz HI HZ
      by_cases h4 : i ≤ 12
      · have h5 : (i : Int) ≤ 12 := by omega
        have HI3 : Hid (z = true) := Lib.hid (by rw [HI2.out]; simp [h4])
        go_wp2_with (fail)
        go_ret
        exact ⟨by rw [HI3.out]; rfl, H.below⟩
      · have h5 : ¬ (i : Int) ≤ 12 := by omega
        have HI3 : Hid (z = false) := Lib.hid (by rw [HI2.out]; simp [h4])
        go_wp2_with (fail)
        go_ret
        exact ⟨by rw [HI3.out]; rfl, H.below⟩
set_option maxRecDepth 100000 in
set_option maxHeartbeats 4000000 in
theorem mailRight_i (c : Cfg) (cs : List Value) (v : Value) (l : List Bo) (w : World) (hrc : tyCfg.rd w cs c) (hr : (Ty.sl 71 tyBo).rd w [v] l) : Gives Tryz.prog 43 #[.agg cs.toArray, .agg #[v]] w (.bool (mailOk c l)) := by
  have c1 := fun w1 hb => configRight_i c cs w1 (Ty.below _ hrc hb)
  obtain ⟨v1, v2, v3, rfl, h1, h2, h3⟩ := cfg_form hrc
  obtain ⟨nd, pr, qt, hf⟩ := c
  simp only at h1 h2 h3
  have c1 : ∀ w1, Below w.heap.size w w1 → Gives Tryz.prog 82 #[.agg #[v1, v2, v3, .int .i64 hf]] w1 (.bool (cfgOk (nd, pr, qt, hf))) := c1
  show Gives Tryz.prog _ #[.agg #[v1, v2, v3, .int .i64 hf], .agg #[v]] w _
  obtain ⟨z, hz⟩ : ∃ z, z = mailOk (nd, pr, qt, hf) l := ⟨_, rfl⟩
  rw [← hz]
  have hst : z = (cfgOk (nd, pr, qt, hf) && (decide (l.length = pr.length) && allFrom (boxIn pr l) l.length 0)) := hz
  obtain ⟨A, ca, rfl, hlc, hcm⟩ := sl_form hr
  obtain ⟨B, cb, rfl, hlb, hbm⟩ := sl_form h2
  unfold maxLen at *
  have HR := Lib.hid hr
  have HP := Lib.hid h2
  obtain ⟨n, hn⟩ : ∃ n, n = l.length := ⟨_, rfl⟩
  obtain ⟨m, hm⟩ : ∃ m, m = pr.length := ⟨_, rfl⟩
  have hnl : n ≤ 9223372036854775807 := by omega
  rw [← hn] at HR hst ⊢
  rw [← hm] at HP hst ⊢
  rw [← hm] at c1
  have HN := Lib.hid hn
  have HM := Lib.hid hm
  clear hr h1 h2 h3 hrc hlc hcm hlb hbm hn hm hz
  generalize cfgOk (nd, pr, qt, hf) = z1 at *
  have H := Hs.start noRow w
  unfold Gives
  cases z1
  case false =>
    have HI2 : Hid (z = false) := Lib.hid (by rw [hst]; simp)
    clear hst
    go_enter Tryz.func43, Tryz.ntmps43
    go_wp2_with (first | ((((with_reducible refine st_gsF ?_ ?_); rfl)); (try simp only [Act.put, yA, yB, yC, yD, yE, yF])) | ((((with_reducible apply st_loads H); decide +kernel; rfl; exact iF; exact zF; rfl)); clear H; intro wn H; (try simp only [splice, yG, yH, yI, yJ, yK, yL, yM, yN, yO, yP, yQ, Nat.reduceAdd, yA, yB, yC] at H); simp only [Act.put, yA, yB, yC, yD, yE, yF]) | ((first | ((with_reducible apply st_box (dst := some 2) H); exact nF; intro b2) | ((with_reducible apply st_box (dst := some 3) H); exact nF; intro b3)); clear H; intro wn H; simp only [Act.put, yA, yB, yC, yD, yE, yF]) | (((go_at_call 82; refine gvF (c1 _ H.below) H ?_)); clear H; intro wn H))
    go_ret
    exact ⟨by rw [HI2.out]; rfl, H.below⟩
  by_cases hnm : n = m
  case neg =>
    have hnm2 : ((n : Int) == (m : Int)) = false := by simp; omega
    have HI2 : Hid (z = false) := Lib.hid (by rw [hst]; simp [hnm])
    clear hst
    go_enter Tryz.func43, Tryz.ntmps43
    go_wp2_with (first | ((((with_reducible refine st_gwF ?_ ?_); rfl)); (try simp only [Act.put, yA, yB, yC, yD, yE, yF])) | ((first | ((with_reducible apply st_load1 H); decide +kernel; rfl; exact cF) | ((with_reducible apply st_loads H); decide +kernel; rfl; exact iF; exact zF; rfl)); clear H; intro wn H; (try simp only [splice, yG, yH, yI, yJ, yK, yL, yM, yN, yO, yP, yQ, Nat.reduceAdd, yA, yB, yC] at H); simp only [Act.put, yA, yB, yC, yD, yE, yF]) | ((first | ((with_reducible apply st_box (dst := some 2) H); exact nF; intro b2) | ((with_reducible apply st_box (dst := some 3) H); exact nF; intro b3)); clear H; intro wn H; simp only [Act.put, yA, yB, yC, yD, yE, yF]) | (((go_at_call 82; refine gvF (c1 _ H.below) H ?_)); clear H; intro wn H))
    go_ret
    exact ⟨by rw [HI2.out]; rfl, H.below⟩
  subst hnm
  obtain ⟨f, hf'⟩ : ∃ f, f = boxIn pr l := ⟨_, rfl⟩
  have HF := Lib.hid hf'
  have HZ : Hid (z = allFrom f n 0) := Lib.hid (by rw [hst, hf']; simp)
  clear hst hf'
  go_enter Tryz.func43, Tryz.ntmps43
  go_wp2_with (first | ((((with_reducible refine st_gwF ?_ ?_); rfl)); (try simp only [Act.put, yA, yB, yC, yD, yE, yF])) | ((first | ((with_reducible apply st_load1 H); decide +kernel; rfl; exact cF) | ((with_reducible apply st_loads H); decide +kernel; rfl; exact iF; exact zF; rfl)); clear H; intro wn H; (try simp only [splice, yG, yH, yI, yJ, yK, yL, yM, yN, yO, yP, yQ, Nat.reduceAdd, yA, yB, yC] at H); simp only [Act.put, yA, yB, yC, yD, yE, yF]) | ((first | ((with_reducible apply st_box (dst := some 2) H); exact nF; intro b2) | ((with_reducible apply st_box (dst := some 3) H); exact nF; intro b3)); clear H; intro wn H; simp only [Act.put, yA, yB, yC, yD, yE, yF]) | (((go_at_call 82; refine gvF (c1 _ H.below) H ?_)); clear H; intro wn H))
  go_loopg [23] n (fun m iv wr => ∃ (i : Nat), i + m = n ∧ iv = .int .i64 i ∧ Hid (z = allFrom f n i) ∧ Hs noRow w [Hl.blk b2 43 #[v1, .slice B n cb, v3, .int .i64 hf], Hl.blk b3 51 #[.slice A n ca]] wr)
  case atStart => exact ⟨0, by omega, rfl, HZ, H.sel sF⟩
  case round =>
    clear H
    obtain ⟨i, hi, rfl, HI, H⟩ := hrel
    by_cases hlt : i < n
    · obtain ⟨x, hx⟩ : ∃ x, l[i]? = some x := ⟨l[i]'(by rw [← HN.out]; exact hlt), List.getElem?_eq_getElem (by rw [← HN.out]; exact hlt)⟩
      obtain ⟨p, hp⟩ : ∃ p, pr[i]? = some p := ⟨pr[i]'(by rw [← HM.out]; exact hlt), List.getElem?_eq_getElem (by rw [← HM.out]; exact hlt)⟩
      have hs := sl_at (by have := HR.out; rw [HN.out] at this; exact this) hx
      rw [← HN.out] at hs
      obtain ⟨b, off, c', cs, hv, hcs, hA⟩ := hs
      injection hv with hv1 hv2 hv3
      subst hv1 hv3
      obtain ⟨u1, u2, u3, hu, g1, g2, g3⟩ := bo_form hcs
      subst hu
      have hs2 := sl_at (by have := HP.out; rw [HM.out] at this; exact this) hp
      rw [← HM.out] at hs2
      obtain ⟨d, dff, c2, cs2, hw, hcs2, hB⟩ := hs2
      injection hw with hw1 hw2 hw3
      subst hw1 hw3
      obtain rfl : cs2 = encPr p := hcs2
      have hfi : f i = boxOk p.2.2 x := by rw [HF.out]; unfold boxIn; rw [hx, hp]
      have hstep := HI.out
      rw [allFrom_step hlt, hfi] at hstep
      obtain ⟨⟨p1, p2⟩, ⟨p3, p4⟩, r⟩ := p
      obtain ⟨x1, x2, x3⟩ := x
      unfold boxOk at hstep
      simp only at hstep g1 g2 g3
      have h4 : w.cell? ⟨d, dff + i * 5 + 4, none⟩ = some (.int .i64 r) := hB 4 _ rfl
      have c3 := fun w1 hb => notesRight_i u3 x3 w1 (Ty.below _ g3 hb)
      obtain ⟨A1, d1, rfl, _, _⟩ := sl_form g1
      obtain ⟨A2, d2, rfl, _, _⟩ := sl_form g2
      obtain ⟨A3, d3, rfl, _, _⟩ := sl_form g3
      generalize x1.length = n1 at *
      generalize x2.length = n2 at *
      generalize x3.length = n3 at *
      generalize notesOk x3 = z3 at *
      have hlt1 : (i : Int) < n := by omega
      clear hfi hx hp hv2 hw2 hcs hB g1 g2 g3 HI
      by_cases q1 : (n1 : Int) ≤ r
      case neg =>
        have q1' : (r : Int) < n1 := by omega
        have HI2 : Hid (z = false) := Lib.hid (by rw [hstep]; simp [q1])
        clear hstep
        go_wp2_with (first | ((((with_reducible refine st_gsF ?_ ?_); rfl)); (try simp only [Act.put, yA, yB, yC, yD, yE, yF])) | ((first | ((with_reducible apply st_load1 H); decide +kernel; rfl; exact cF) | ((with_reducible apply st_store H); rfl; exact eF; (focus (exact cells_agg _)); exact uF; kernel_rfl; (focus (exact Nat.le_of_ble_eq_true (by rfl))); (focus (rfl)))); clear H; intro wn H; (try simp only [splice, yG, yH, yI, yJ, yK, yL, yM, yN, yO, yP, yQ, Nat.reduceAdd, yA, yB, yC] at H); simp only [Act.put, yA, yB, yC, yD, yE, yF]) | ((first | ((with_reducible apply st_alloc (dst := some 6) H); exact nF; intro b6) | ((with_reducible apply st_loadat H); decide +kernel; rfl; exact aF; exact zF; rfl)); clear H; intro wn H; simp only [Act.put, yA, yB, yC, yD, yE, yF]))
        go_ret
        exact ⟨by rw [HI2.out]; rfl, H.below⟩
      have q1' : ¬ (r : Int) < n1 := by omega
      by_cases q2 : (n2 : Int) ≤ r
      case neg =>
        have q2' : (r : Int) < n2 := by omega
        have HI2 : Hid (z = false) := Lib.hid (by rw [hstep]; simp [q2])
        clear hstep
        go_wp2_with (first | ((first | ((with_reducible refine st_gwF ?_ ?_); rfl) | ((with_reducible refine st_gsF ?_ ?_); rfl)); (try simp only [Act.put, yA, yB, yC, yD, yE, yF])) | ((first | ((with_reducible apply st_load1 H); decide +kernel; rfl; exact cF) | ((with_reducible apply st_store H); rfl; exact eF; (focus (exact cells_agg _)); exact uF; kernel_rfl; (focus (exact Nat.le_of_ble_eq_true (by rfl))); (focus (rfl)))); clear H; intro wn H; (try simp only [splice, yG, yH, yI, yJ, yK, yL, yM, yN, yO, yP, yQ, Nat.reduceAdd, yA, yB, yC] at H); simp only [Act.put, yA, yB, yC, yD, yE, yF]) | ((first | ((with_reducible apply st_alloc (dst := some 6) H); exact nF; intro b6) | ((with_reducible apply st_loadat H); decide +kernel; rfl; exact aF; exact zF; rfl)); clear H; intro wn H; simp only [Act.put, yA, yB, yC, yD, yE, yF]))
        go_ret
        exact ⟨by rw [HI2.out]; rfl, H.below⟩
      have q2' : ¬ (r : Int) < n2 := by omega
      cases z3
      case false =>
        have HI2 : Hid (z = false) := Lib.hid (by rw [hstep]; simp)
        clear hstep
        go_wp2_with (first | ((((with_reducible refine st_gwF ?_ ?_); rfl)); (try simp only [Act.put, yA, yB, yC, yD, yE, yF])) | ((first | ((with_reducible apply st_load1 H); decide +kernel; rfl; exact cF) | ((with_reducible apply st_store H); rfl; exact eF; (focus (exact cells_agg _)); exact uF; kernel_rfl; (focus (exact Nat.le_of_ble_eq_true (by rfl))); (focus (rfl)))); clear H; intro wn H; (try simp only [splice, yG, yH, yI, yJ, yK, yL, yM, yN, yO, yP, yQ, Nat.reduceAdd, yA, yB, yC] at H); simp only [Act.put, yA, yB, yC, yD, yE, yF]) | ((first | ((with_reducible apply st_alloc (dst := some 6) H); exact nF; intro b6) | ((with_reducible apply st_loadat H); decide +kernel; rfl; exact aF; exact zF; rfl)); clear H; intro wn H; simp only [Act.put, yA, yB, yC, yD, yE, yF]) | (((go_at_call 95; refine gvF (c3 _ H.below) H ?_)); clear H; intro wn H))
        go_ret
        exact ⟨by rw [HI2.out]; rfl, H.below⟩
      have HI2 : Hid (z = allFrom f n (i + 1)) := Lib.hid (by rw [hstep]; simp [q1, q2])
      clear hstep
      go_wp2_with (first | ((((with_reducible refine st_gwF ?_ ?_); rfl)); (try simp only [Act.put, yA, yB, yC, yD, yE, yF])) | ((first | ((with_reducible apply st_load1 H); decide +kernel; rfl; exact cF) | ((with_reducible apply st_store H); rfl; exact eF; (focus (exact cells_agg _)); exact uF; kernel_rfl; (focus (exact Nat.le_of_ble_eq_true (by rfl))); (focus (rfl)))); clear H; intro wn H; (try simp only [splice, yG, yH, yI, yJ, yK, yL, yM, yN, yO, yP, yQ, Nat.reduceAdd, yA, yB, yC] at H); simp only [Act.put, yA, yB, yC, yD, yE, yF]) | ((first | ((with_reducible apply st_alloc (dst := some 6) H); exact nF; intro b6) | ((with_reducible apply st_loadat H); decide +kernel; rfl; exact aF; exact zF; rfl)); clear H; intro wn H; simp only [Act.put, yA, yB, yC, yD, yE, yF]) | (((go_at_call 95; refine gvF (c3 _ H.below) H ?_)); clear H; intro wn H))
      go_roundg (n - (i + 1))
      case measure => omega
      case rel => exact ⟨i + 1, by omega, by go_num, HI2, H.sel sF⟩
    · obtain rfl : i = n := by omega
      have hlt1 : ¬ (i : Int) < i := by omega
      have hz := HI.out
      rw [allFrom_end (Nat.le_refl _)] at hz
      have HI2 := Lib.hid hz
      clear hz HI HZ
      go_wp2_with (fail)
      go_ret
      exact ⟨by rw [HI2.out]; rfl, H.below⟩
set_option maxRecDepth 100000 in
set_option maxHeartbeats 4000000 in
theorem mailRight_s (c : Cfg) (cs : List Value) (v : Value) (l : List Bo) (w : World) (hrc : tyCfg.rd w cs c) (hr : (Ty.sl 71 tyBo).rd w [v] l) : Gives Tryz.prog 31 #[.agg cs.toArray, .agg #[v]] w (.bool (mailOk c l)) := by
  have c1 := fun w1 hb => configRight_s c cs w1 (Ty.below _ hrc hb)
  obtain ⟨v1, v2, v3, rfl, h1, h2, h3⟩ := cfg_form hrc
  obtain ⟨nd, pr, qt, hf⟩ := c
  simp only at h1 h2 h3
  have c1 : ∀ w1, Below w.heap.size w w1 → Gives Tryz.prog 66 #[.agg #[v1, v2, v3, .int .i64 hf]] w1 (.bool (cfgOk (nd, pr, qt, hf))) := c1
  show Gives Tryz.prog _ #[.agg #[v1, v2, v3, .int .i64 hf], .agg #[v]] w _
  obtain ⟨z, hz⟩ : ∃ z, z = mailOk (nd, pr, qt, hf) l := ⟨_, rfl⟩
  rw [← hz]
  have hst : z = (cfgOk (nd, pr, qt, hf) && (decide (l.length = pr.length) && allFrom (boxIn pr l) l.length 0)) := hz
  obtain ⟨A, ca, rfl, hlc, hcm⟩ := sl_form hr
  obtain ⟨B, cb, rfl, hlb, hbm⟩ := sl_form h2
  unfold maxLen at *
  have HR := Lib.hid hr
  have HP := Lib.hid h2
  obtain ⟨n, hn⟩ : ∃ n, n = l.length := ⟨_, rfl⟩
  obtain ⟨m, hm⟩ : ∃ m, m = pr.length := ⟨_, rfl⟩
  have hnl : n ≤ 9223372036854775807 := by omega
  rw [← hn] at HR hst ⊢
  rw [← hm] at HP hst ⊢
  rw [← hm] at c1
  have HN := Lib.hid hn
  have HM := Lib.hid hm
  clear hr h1 h2 h3 hrc hlc hcm hlb hbm hn hm hz
  generalize cfgOk (nd, pr, qt, hf) = z1 at *
  have H := Hs.start noRow w
  unfold Gives
  cases z1
  case false =>
    have HI2 : Hid (z = false) := Lib.hid (by rw [hst]; simp)
    clear hst
    go_enter Tryz.func31, Tryz.ntmps31
    go_wp2_with (first | ((((with_reducible refine st_gsF ?_ ?_); rfl)); (try simp only [Act.put, yA, yB, yC, yD, yE, yF])) | ((((with_reducible apply st_loads H); decide +kernel; rfl; exact iF; exact zF; rfl)); clear H; intro wn H; (try simp only [splice, yG, yH, yI, yJ, yK, yL, yM, yN, yO, yP, yQ, Nat.reduceAdd, yA, yB, yC] at H); simp only [Act.put, yA, yB, yC, yD, yE, yF]) | ((first | ((with_reducible apply st_box (dst := some 2) H); exact nF; intro b2) | ((with_reducible apply st_box (dst := some 3) H); exact nF; intro b3)); clear H; intro wn H; simp only [Act.put, yA, yB, yC, yD, yE, yF]) | (((go_at_call 66; refine gvF (c1 _ H.below) H ?_)); clear H; intro wn H))
    go_ret
    exact ⟨by rw [HI2.out]; rfl, H.below⟩
  by_cases hnm : n = m
  case neg =>
    have hnm2 : ((n : Int) == (m : Int)) = false := by simp; omega
    have HI2 : Hid (z = false) := Lib.hid (by rw [hst]; simp [hnm])
    clear hst
    go_enter Tryz.func31, Tryz.ntmps31
    go_wp2_with (first | ((((with_reducible refine st_gwF ?_ ?_); rfl)); (try simp only [Act.put, yA, yB, yC, yD, yE, yF])) | ((first | ((with_reducible apply st_load1 H); decide +kernel; rfl; exact cF) | ((with_reducible apply st_loads H); decide +kernel; rfl; exact iF; exact zF; rfl)); clear H; intro wn H; (try simp only [splice, yG, yH, yI, yJ, yK, yL, yM, yN, yO, yP, yQ, Nat.reduceAdd, yA, yB, yC] at H); simp only [Act.put, yA, yB, yC, yD, yE, yF]) | ((first | ((with_reducible apply st_box (dst := some 2) H); exact nF; intro b2) | ((with_reducible apply st_box (dst := some 3) H); exact nF; intro b3)); clear H; intro wn H; simp only [Act.put, yA, yB, yC, yD, yE, yF]) | (((go_at_call 66; refine gvF (c1 _ H.below) H ?_)); clear H; intro wn H))
    go_ret
    exact ⟨by rw [HI2.out]; rfl, H.below⟩
  subst hnm
  obtain ⟨f, hf'⟩ : ∃ f, f = boxIn pr l := ⟨_, rfl⟩
  have HF := Lib.hid hf'
  have HZ : Hid (z = allFrom f n 0) := Lib.hid (by rw [hst, hf']; simp)
  clear hst hf'
  go_enter Tryz.func31, Tryz.ntmps31
  go_wp2_with (first | ((((with_reducible refine st_gwF ?_ ?_); rfl)); (try simp only [Act.put, yA, yB, yC, yD, yE, yF])) | ((first | ((with_reducible apply st_load1 H); decide +kernel; rfl; exact cF) | ((with_reducible apply st_loads H); decide +kernel; rfl; exact iF; exact zF; rfl)); clear H; intro wn H; (try simp only [splice, yG, yH, yI, yJ, yK, yL, yM, yN, yO, yP, yQ, Nat.reduceAdd, yA, yB, yC] at H); simp only [Act.put, yA, yB, yC, yD, yE, yF]) | ((first | ((with_reducible apply st_box (dst := some 2) H); exact nF; intro b2) | ((with_reducible apply st_box (dst := some 3) H); exact nF; intro b3)); clear H; intro wn H; simp only [Act.put, yA, yB, yC, yD, yE, yF]) | (((go_at_call 66; refine gvF (c1 _ H.below) H ?_)); clear H; intro wn H))
  go_loopg [5] n (fun m iv wr => ∃ (i : Nat), i + m = n ∧ iv = .int .i64 i ∧ Hid (z = allFrom f n i) ∧ Hs noRow w [Hl.blk b2 43 #[v1, .slice B n cb, v3, .int .i64 hf], Hl.blk b3 51 #[.slice A n ca]] wr)
  case atStart => exact ⟨0, by omega, rfl, HZ, H.sel sF⟩
  case round =>
    clear H
    obtain ⟨i, hi, rfl, HI, H⟩ := hrel
    by_cases hlt : i < n
    · obtain ⟨x, hx⟩ : ∃ x, l[i]? = some x := ⟨l[i]'(by rw [← HN.out]; exact hlt), List.getElem?_eq_getElem (by rw [← HN.out]; exact hlt)⟩
      obtain ⟨p, hp⟩ : ∃ p, pr[i]? = some p := ⟨pr[i]'(by rw [← HM.out]; exact hlt), List.getElem?_eq_getElem (by rw [← HM.out]; exact hlt)⟩
      have hs := sl_at (by have := HR.out; rw [HN.out] at this; exact this) hx
      rw [← HN.out] at hs
      obtain ⟨b, off, c', cs, hv, hcs, hA⟩ := hs
      injection hv with hv1 hv2 hv3
      subst hv1 hv3
      obtain ⟨u1, u2, u3, hu, g1, g2, g3⟩ := bo_form hcs
      subst hu
      have hs2 := sl_at (by have := HP.out; rw [HM.out] at this; exact this) hp
      rw [← HM.out] at hs2
      obtain ⟨d, dff, c2, cs2, hw, hcs2, hB⟩ := hs2
      injection hw with hw1 hw2 hw3
      subst hw1 hw3
      obtain rfl : cs2 = encPr p := hcs2
      have hfi : f i = boxOk p.2.2 x := by rw [HF.out]; unfold boxIn; rw [hx, hp]
      have hstep := HI.out
      rw [allFrom_step hlt, hfi] at hstep
      obtain ⟨⟨p1, p2⟩, ⟨p3, p4⟩, r⟩ := p
      obtain ⟨x1, x2, x3⟩ := x
      unfold boxOk at hstep
      simp only at hstep g1 g2 g3
      have h4 : w.cell? ⟨d, dff + i * 5 + 4, none⟩ = some (.int .i64 r) := hB 4 _ rfl
      obtain ⟨A1, d1, rfl, _, _⟩ := sl_form g1
      obtain ⟨A2, d2, rfl, _, _⟩ := sl_form g2
      obtain ⟨A3, d3, rfl, hl3, hm3⟩ := sl_form g3
      unfold maxLen at *
      have HR3 := Lib.hid g3
      have hst3 : notesOk x3 = (allFrom (noteIn x3) x3.length 0 && decide (x3.length ≤ 12)) := rfl
      rw [hst3] at hstep
      generalize x1.length = n1 at *
      generalize x2.length = n2 at *
      obtain ⟨n3, hn3⟩ : ∃ n3, n3 = x3.length := ⟨_, rfl⟩
      rw [← hn3] at hstep HR3 hA
      have hn39 : n3 ≤ 9223372036854775807 := by omega
      have HN3 := Lib.hid hn3
      obtain ⟨h, hh⟩ : ∃ h, h = noteIn x3 := ⟨_, rfl⟩
      rw [← hh] at hstep
      have HH := Lib.hid hh
      clear hl3 hm3 hst3 hn3 hh
      have hlt1 : (i : Int) < n := by omega
      clear hfi hx hp hv2 hw2 hcs hB g1 g2 g3 HI
      by_cases q1 : (n1 : Int) ≤ r
      case neg =>
        have q1' : (r : Int) < n1 := by omega
        have HI2 : Hid (z = false) := Lib.hid (by rw [hstep]; simp [q1])
        clear hstep
        go_wp2_with (first | ((first | ((with_reducible apply st_load1 H); decide +kernel; rfl; exact cF) | ((with_reducible apply st_store H); rfl; exact eF; (focus (exact cells_agg _)); exact uF; kernel_rfl; (focus (exact Nat.le_of_ble_eq_true (by rfl))); (focus (rfl)))); clear H; intro wn H; (try simp only [splice, yG, yH, yI, yJ, yK, yL, yM, yN, yO, yP, yQ, Nat.reduceAdd, yA, yB, yC] at H); simp only [Act.put, yA, yB, yC, yD, yE, yF]) | ((first | ((with_reducible apply st_alloc (dst := some 6) H); exact nF; intro b6) | ((with_reducible apply st_loadat H); decide +kernel; rfl; exact aF; exact zF; rfl)); clear H; intro wn H; simp only [Act.put, yA, yB, yC, yD, yE, yF]) | ((with_reducible apply wp_region_hq (id := 7) H); kernel_rfl; kernel_rfl; (iterate 28 (all_goals ((first | ((with_reducible refine hq_gsF ?_ ?_); rfl) | ((with_reducible refine' hq_step ?_ ?_ ?_); rotate_left; rfl; (focus (intro w1 H1; first | exact qF | exact qVF)); (try simp only [yG, yH, yJ, yK]))); (try simp only [Act.put, yA, yB, yC, yD, yE, yF])))); all_goals (refine wpQuiet_nil ?_; clear H; intro wn H)))
        go_ret
        exact ⟨by rw [HI2.out]; rfl, H.below⟩
      have q1' : ¬ (r : Int) < n1 := by omega
      by_cases q2 : (n2 : Int) ≤ r
      case neg =>
        have q2' : (r : Int) < n2 := by omega
        have HI2 : Hid (z = false) := Lib.hid (by rw [hstep]; simp [q2])
        clear hstep
        go_wp2_with (first | ((first | ((with_reducible apply st_load1 H); decide +kernel; rfl; exact cF) | ((with_reducible apply st_store H); rfl; exact eF; (focus (exact cells_agg _)); exact uF; kernel_rfl; (focus (exact Nat.le_of_ble_eq_true (by rfl))); (focus (rfl)))); clear H; intro wn H; (try simp only [splice, yG, yH, yI, yJ, yK, yL, yM, yN, yO, yP, yQ, Nat.reduceAdd, yA, yB, yC] at H); simp only [Act.put, yA, yB, yC, yD, yE, yF]) | ((first | ((with_reducible apply st_alloc (dst := some 6) H); exact nF; intro b6) | ((with_reducible apply st_loadat H); decide +kernel; rfl; exact aF; exact zF; rfl)); clear H; intro wn H; simp only [Act.put, yA, yB, yC, yD, yE, yF]) | ((with_reducible apply wp_region_hq (id := 7) H); kernel_rfl; kernel_rfl; (iterate 28 (all_goals ((first | ((with_reducible refine hq_gwF ?_ ?_); rfl; (with_reducible refine' hq_step ?_ ?_ ?_); rotate_left; rfl; (focus (intro w1 H1; first | exact qF | exact qVF)); (try simp only [yG, yH, yJ, yK])) | ((with_reducible refine hq_gsF ?_ ?_); rfl) | ((with_reducible refine' hq_step ?_ ?_ ?_); rotate_left; rfl; (focus (intro w1 H1; first | exact qF | exact qVF)); (try simp only [yG, yH, yJ, yK]))); (try simp only [Act.put, yA, yB, yC, yD, yE, yF])))); all_goals (refine wpQuiet_nil ?_; clear H; intro wn H)))
        go_ret
        exact ⟨by rw [HI2.out]; rfl, H.below⟩
      have q2' : ¬ (r : Int) < n2 := by omega
      by_cases q3 : n3 ≤ 12
      case neg =>
        have q3' : (12 : Int) < n3 := by omega
        have HI2 : Hid (z = false) := Lib.hid (by rw [hstep]; simp [q3])
        clear hstep
        go_wp2_with (first | ((first | ((with_reducible apply st_load1 H); decide +kernel; rfl; exact cF) | ((with_reducible apply st_store H); rfl; exact eF; (focus (exact cells_agg _)); exact uF; kernel_rfl; (focus (exact Nat.le_of_ble_eq_true (by rfl))); (focus (rfl)))); clear H; intro wn H; (try simp only [splice, yG, yH, yI, yJ, yK, yL, yM, yN, yO, yP, yQ, Nat.reduceAdd, yA, yB, yC] at H); simp only [Act.put, yA, yB, yC, yD, yE, yF]) | ((first | ((with_reducible apply st_alloc (dst := some 6) H); exact nF; intro b6) | ((with_reducible apply st_loadat H); decide +kernel; rfl; exact aF; exact zF; rfl)); clear H; intro wn H; simp only [Act.put, yA, yB, yC, yD, yE, yF]) | ((with_reducible apply wp_region_hq (id := 7) H); kernel_rfl; kernel_rfl; (iterate 28 (all_goals ((first | ((with_reducible refine hq_gwF ?_ ?_); rfl; (with_reducible refine' hq_step ?_ ?_ ?_); rotate_left; rfl; (focus (intro w1 H1; first | exact qF | exact qVF)); (try simp only [yG, yH, yJ, yK])) | ((with_reducible refine' hq_step ?_ ?_ ?_); rotate_left; rfl; (focus (intro w1 H1; first | exact qF | exact qVF)); (try simp only [yG, yH, yJ, yK]))); (try simp only [Act.put, yA, yB, yC, yD, yE, yF])))); all_goals (refine wpQuiet_nil ?_; clear H; intro wn H)))
        go_ret
        exact ⟨by rw [HI2.out]; rfl, H.below⟩
      have q3' : ¬ (12 : Int) < n3 := by omega
      have HI2 : Hid (z = (allFrom h n3 0 && allFrom f n (i + 1))) := Lib.hid (by rw [hstep]; simp [q1, q2, q3])
      clear hstep
      go_wp2_with (first | ((first | ((with_reducible apply st_load1 H); decide +kernel; rfl; exact cF) | ((with_reducible apply st_store H); rfl; exact eF; (focus (exact cells_agg _)); exact uF; kernel_rfl; (focus (exact Nat.le_of_ble_eq_true (by rfl))); (focus (rfl)))); clear H; intro wn H; (try simp only [splice, yG, yH, yI, yJ, yK, yL, yM, yN, yO, yP, yQ, Nat.reduceAdd, yA, yB, yC] at H); simp only [Act.put, yA, yB, yC, yD, yE, yF]) | ((first | ((with_reducible apply st_alloc (dst := some 6) H); exact nF; intro b6) | ((with_reducible apply st_loadat H); decide +kernel; rfl; exact aF; exact zF; rfl)); clear H; intro wn H; simp only [Act.put, yA, yB, yC, yD, yE, yF]) | ((with_reducible apply wp_region_hq (id := 7) H); kernel_rfl; kernel_rfl; (iterate 28 (all_goals ((first | ((with_reducible refine hq_gwF ?_ ?_); rfl; (with_reducible refine' hq_step ?_ ?_ ?_); rotate_left; rfl; (focus (intro w1 H1; first | exact qF | exact qVF)); (try simp only [yG, yH, yJ, yK])) | ((with_reducible refine' hq_step ?_ ?_ ?_); rotate_left; rfl; (focus (intro w1 H1; first | exact qF | exact qVF)); (try simp only [yG, yH, yJ, yK]))); (try simp only [Act.put, yA, yB, yC, yD, yE, yF])))); all_goals (refine wpQuiet_nil ?_; clear H; intro wn H)))
      go_loopg [7] n3 (fun m kv wr => ∃ (k : Nat), k + m = n3 ∧ kv = .int .i64 k ∧ Hid (z = (allFrom h n3 k && allFrom f n (i + 1))) ∧ Hs noRow w [Hl.blk b6 71 #[.slice A1 n1 d1, .slice A2 n2 d2, .slice A3 n3 d3], Hl.blk b2 43 #[v1, .slice (some ⟨d, dff, none⟩) n cb, v3, .int .i64 hf], Hl.blk b3 51 #[.slice (some ⟨b, off, none⟩) n ca]] wr)
      case atStart => exact ⟨0, by omega, rfl, HI2, H.sel sF⟩
      case round =>
        clear H HI2
        obtain ⟨k, hk, rfl, HI, H⟩ := hrel
        by_cases hlk : k < n3
        · obtain ⟨y, hy⟩ : ∃ y, x3[k]? = some y := ⟨x3[k]'(by rw [← HN3.out]; exact hlk), List.getElem?_eq_getElem (by rw [← HN3.out]; exact hlk)⟩
          have hs := sl_at (by have := HR3.out; rw [HN3.out] at this; exact this) hy
          rw [← HN3.out] at hs
          obtain ⟨e, eff, c7, cs7, hv, hcs, hA⟩ := hs
          injection hv with hv1 hv2 hv3
          subst hv1 hv3
          obtain rfl : cs7 = encNt y := hcs
          have hstep := HI.out
          have hfi : h k = (isIn y.1 0 999900 && noteAft x3 k y) := by rw [HH.out]; unfold noteIn; rw [hy]
          rw [allFrom_step hlk, hfi] at hstep
          clear hfi
          have hlk1 : (k : Int) < n3 := by omega
          clear hy hv2
          obtain ⟨y1, y2⟩ := y
          have c5 := fun w1 => now_s y1 w1
          simp only at hstep c5
          have h5 : w.cell? ⟨e, eff + k * 2, none⟩ = some (.int .i64 y1) := hA.head (u := .int .i64 y1) rfl
          clear hA
          generalize isIn y1 0 999900 = z1 at *
          cases z1
          case false =>
            have HI2 : Hid (z = false) := Lib.hid (by rw [hstep]; simp)
            clear hstep
            go_wp2_with (first | ((((with_reducible apply st_load1 H); decide +kernel; rfl; exact cF)); clear H; intro wn H; (try simp only [splice, yG, yH, yI, yJ, yK, yL, yM, yN, yO, yP, yQ, Nat.reduceAdd, yA, yB, yC] at H); simp only [Act.put, yA, yB, yC, yD, yE, yF]) | ((with_reducible apply wp_region_hq (id := 12) H); kernel_rfl; kernel_rfl; (iterate 6 (all_goals ((with_reducible refine' hq_step ?_ ?_ ?_); rotate_left; rfl; (focus (intro w1 H1; first | exact qF | exact qVF)); (try simp only [yG, yH, yJ, yK]); (try simp only [Act.put, yA, yB, yC, yD, yE, yF])))); (all_goals ((with_reducible refine' hq_step ?_ ?_ ?_); rotate_left; rfl; (focus (intro w1 H1; unfold QOk; go_simp; exact q_call (c5 _))); (try simp only [yG, yH, yJ, yK]); simp only [Act.put, yA, yB, yC, yD, yE, yF])); (iterate 21 (all_goals ((first | ((with_reducible refine hq_gsF ?_ ?_); rfl) | ((with_reducible refine hq_skip ?_ ?_); rfl) | ((with_reducible refine' hq_step ?_ ?_ ?_); rotate_left; rfl; (focus (intro w1 H1; exact qVF)); (try simp only [yG, yH, yJ, yK]))); (try simp only [Act.put, yA, yB, yC, yD, yE, yF])))); all_goals (refine wpQuiet_nil ?_; clear H; intro wn H)))
            go_ret
            exact ⟨by rw [HI2.out]; rfl, H.below⟩
          cases k with
          | zero =>
            have HI2 : Hid (z = (allFrom h n3 1 && allFrom f n (i + 1))) := Lib.hid (by rw [hstep]; simp [noteAft])
            clear hstep
            go_wp2_with (first | ((((with_reducible apply st_load1 H); decide +kernel; rfl; exact cF)); clear H; intro wn H; (try simp only [splice, yG, yH, yI, yJ, yK, yL, yM, yN, yO, yP, yQ, Nat.reduceAdd, yA, yB, yC] at H); simp only [Act.put, yA, yB, yC, yD, yE, yF]) | ((with_reducible apply wp_region_hq (id := 12) H); kernel_rfl; kernel_rfl; (iterate 6 (all_goals ((with_reducible refine' hq_step ?_ ?_ ?_); rotate_left; rfl; (focus (intro w1 H1; first | exact qF | exact qVF)); (try simp only [yG, yH, yJ, yK]); (try simp only [Act.put, yA, yB, yC, yD, yE, yF])))); (all_goals ((with_reducible refine' hq_step ?_ ?_ ?_); rotate_left; rfl; (focus (intro w1 H1; unfold QOk; go_simp; exact q_call (c5 _))); (try simp only [yG, yH, yJ, yK]); simp only [Act.put, yA, yB, yC, yD, yE, yF])); (iterate 21 (all_goals ((first | ((with_reducible refine hq_gwF ?_ ?_); rfl; (with_reducible refine' hq_step ?_ ?_ ?_); rotate_left; rfl; (focus (intro w1 H1; exact qVF)); (try simp only [yG, yH, yJ, yK])) | ((with_reducible refine hq_gsT ?_ ?_); rfl) | ((with_reducible refine' hq_step ?_ ?_ ?_); rotate_left; rfl; (focus (intro w1 H1; exact qVF)); (try simp only [yG, yH, yJ, yK]))); (try simp only [Act.put, yA, yB, yC, yD, yE, yF])))); all_goals (refine wpQuiet_nil ?_; clear H; intro wn H)))
            go_roundg (n3 - 1)
            case measure => omega
            case rel => exact ⟨1, by omega, by go_num, HI2, H.sel sF⟩
          | succ j =>
            obtain ⟨o, ho⟩ : ∃ y, x3[j]? = some y := ⟨x3[j]'(by rw [← HN3.out]; omega), List.getElem?_eq_getElem (by rw [← HN3.out]; omega)⟩
            have hs2 := sl_at (by have := HR3.out; rw [HN3.out] at this; exact this) ho
            rw [← HN3.out] at hs2
            obtain ⟨e3, eff3, c3, cs3, hw, hcs3, hB⟩ := hs2
            injection hw with hw1 hw2 hw3
            injection hw1 with hw1
            injection hw1 with hw4 hw5
            subst hw3 hw4 hw5
            obtain rfl : cs3 = encNt o := hcs3
            unfold noteAft at hstep
            simp only [ho] at hstep
            obtain ⟨o1, o2⟩ := o
            simp only at hstep
            have h6 : w.cell? ⟨e, eff + j * 2, none⟩ = some (.int .i64 o1) := hB.head (u := .int .i64 o1) rfl
            have hlk2 : (j : Int) < n3 := by omega
            have hlk3 : j < n3 := by omega
            have hpos : (0 : Int) < (j : Int) + 1 := by omega
            clear hB ho hw2
            by_cases hq : y1 < o1
            · have HI2 : Hid (z = false) := Lib.hid (by rw [hstep]; simp [hq])
              clear hstep
              go_wp2_with (first | ((((with_reducible apply st_load1 H); decide +kernel; rfl; exact cF)); clear H; intro wn H; (try simp only [splice, yG, yH, yI, yJ, yK, yL, yM, yN, yO, yP, yQ, Nat.reduceAdd, yA, yB, yC] at H); simp only [Act.put, yA, yB, yC, yD, yE, yF]) | ((with_reducible apply wp_region_hq (id := 12) H); kernel_rfl; kernel_rfl; (iterate 6 (all_goals ((with_reducible refine' hq_step ?_ ?_ ?_); rotate_left; rfl; (focus (intro w1 H1; first | exact qF | exact qVF)); (try simp only [yG, yH, yJ, yK]); (try simp only [Act.put, yA, yB, yC, yD, yE, yF])))); (all_goals ((with_reducible refine' hq_step ?_ ?_ ?_); rotate_left; rfl; (focus (intro w1 H1; unfold QOk; go_simp; exact q_call (c5 _))); (try simp only [yG, yH, yJ, yK]); simp only [Act.put, yA, yB, yC, yD, yE, yF])); (iterate 21 (all_goals ((first | ((first | ((with_reducible refine hq_gwF ?_ ?_); rfl) | ((with_reducible refine hq_gwT ?_ ?_); rfl)); (with_reducible refine' hq_step ?_ ?_ ?_); rotate_left; rfl; (focus (intro w1 H1; first | exact qF | exact qWF | exact qVF)); (try simp only [yG, yH, yJ, yK])) | ((with_reducible refine' hq_step ?_ ?_ ?_); rotate_left; rfl; (focus (intro w1 H1; exact qVF)); (try simp only [yG, yH, yJ, yK]))); (try simp only [Act.put, yA, yB, yC, yD, yE, yF])))); all_goals (refine wpQuiet_nil ?_; clear H; intro wn H)))
              go_ret
              exact ⟨by rw [HI2.out]; rfl, H.below⟩
            · have HI2 : Hid (z = (allFrom h n3 (j + 1 + 1) && allFrom f n (i + 1))) := Lib.hid (by rw [hstep]; simp [hq])
              clear hstep
              go_wp2_with (first | ((((with_reducible apply st_load1 H); decide +kernel; rfl; exact cF)); clear H; intro wn H; (try simp only [splice, yG, yH, yI, yJ, yK, yL, yM, yN, yO, yP, yQ, Nat.reduceAdd, yA, yB, yC] at H); simp only [Act.put, yA, yB, yC, yD, yE, yF]) | ((with_reducible apply wp_region_hq (id := 12) H); kernel_rfl; kernel_rfl; (iterate 6 (all_goals ((with_reducible refine' hq_step ?_ ?_ ?_); rotate_left; rfl; (focus (intro w1 H1; first | exact qF | exact qVF)); (try simp only [yG, yH, yJ, yK]); (try simp only [Act.put, yA, yB, yC, yD, yE, yF])))); (all_goals ((with_reducible refine' hq_step ?_ ?_ ?_); rotate_left; rfl; (focus (intro w1 H1; unfold QOk; go_simp; exact q_call (c5 _))); (try simp only [yG, yH, yJ, yK]); simp only [Act.put, yA, yB, yC, yD, yE, yF])); (iterate 21 (all_goals ((first | ((first | ((with_reducible refine hq_gwF ?_ ?_); rfl) | ((with_reducible refine hq_gwT ?_ ?_); rfl)); (with_reducible refine' hq_step ?_ ?_ ?_); rotate_left; rfl; (focus (intro w1 H1; first | exact qF | exact qWF | exact qVF)); (try simp only [yG, yH, yJ, yK])) | ((with_reducible refine' hq_step ?_ ?_ ?_); rotate_left; rfl; (focus (intro w1 H1; exact qVF)); (try simp only [yG, yH, yJ, yK]))); (try simp only [Act.put, yA, yB, yC, yD, yE, yF])))); all_goals (refine wpQuiet_nil ?_; clear H; intro wn H)))
              go_roundg (n3 - (j + 1 + 1))
              case measure => omega
              case rel => exact ⟨j + 1 + 1, by omega, by go_num, HI2, H.sel sF⟩
        · obtain rfl : k = n3 := by omega
          have hlk1 : ¬ (k : Int) < k := by omega
          have hz := HI.out
          rw [allFrom_end (Nat.le_refl _), Bool.true_and] at hz
          have HI2 := Lib.hid hz
          clear hz HI
          go_wp2_with (((((with_reducible apply st_load1 H); decide +kernel; rfl; exact cF)); clear H; intro wn H; (try simp only [splice, yG, yH, yI, yJ, yK, yL, yM, yN, yO, yP, yQ, Nat.reduceAdd, yA, yB, yC] at H); simp only [Act.put, yA, yB, yC, yD, yE, yF]))
          go_roundg (n - (i + 1))
          case measure => omega
          case rel => exact ⟨i + 1, by omega, by go_num, HI2, H.sel sF⟩
    · obtain rfl : i = n := by omega
      have hlt1 : ¬ (i : Int) < i := by omega
      have hz := HI.out
      rw [allFrom_end (Nat.le_refl _)] at hz
      have HI2 := Lib.hid hz
      clear hz HI HZ
      go_wp2_with (((((with_reducible apply st_load1 H); decide +kernel; rfl; exact cF)); clear H; intro wn H; (try simp only [splice, yG, yH, yI, yJ, yK, yL, yM, yN, yO, yP, yQ, Nat.reduceAdd, yA, yB, yC] at H); simp only [Act.put, yA, yB, yC, yD, yE, yF]))
      go_ret
      exact ⟨by rw [HI2.out]; rfl, H.below⟩
end Go.Proofs.YtpfdhfchgnnpiaaGreat
