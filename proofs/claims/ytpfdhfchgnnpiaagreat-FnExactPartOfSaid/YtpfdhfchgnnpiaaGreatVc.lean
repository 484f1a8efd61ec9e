/-
  Tasks that may be so, in the program and in the reference: the walks.
-/
import Derived.Test.YtpfdhfchgnnpiaaGreatVa
set_option linter.unusedSimpArgs false
set_option linter.unusedVariables false
namespace Go.Proofs.YtpfdhfchgnnpiaaGreat
open Go.RowKit M
namespace M
def workOk (n l p : Int) : Bool := isIn n 1 6 && (isIn l 1 20 && isIn p 0 9)
/-- the number at i is greater than the one before it -/
def numAft (l : List Int) (i : Nat) (x : Int) : Bool := match i with
  | 0 => true
  | j + 1 => match l[j]? with
    | some y => !decide (x ≤ y)
    | none => true
def numIn (l : List Int) (i : Nat) : Bool := match l[i]? with
  | some x => isIn x 0 5 && numAft l i x
  | none => true
def numsOk (l : List Int) : Bool := allFrom (numIn l) l.length 0
def taskHead (l1 l2 id : Int) (ow : ByteArray) (need long prio born st : Int) : Bool := labelOk l1 l2 && (isIn id 1 12 && (nameOk ow.data.toList && (workOk need long prio && (isIn born 0 999900 && isIn st 1 6))))
def taskDep (l1 l2 id u1 u2 aft : Int) : Bool := if aft = 0 ∧ u1 = 0 ∧ u2 = 0 then true else isIn aft 1 12 && (okL (u1, u2) && (okL (l1, l2) && belowB (u1, u2) (l1, l2))) && !(eqB (u1, u2) (l1, l2) && decide (id ≤ aft))
def taskPlace (need st start : Int) (nodes : List Int) : Bool := if st = 2 ∨ (st = 1 ∧ 0 < nodes.length) then isIn start 0 1000000 && (numsOk nodes && decide ((nodes.length : Int) = need)) else decide (start = 0) && decide (nodes.length = 0)
def taskOk : Ta → Bool
  | (((l1, l2), id, ow, need, long, prio, (u1, u2), aft, born, st, start), nodes) => taskHead l1 l2 id ow need long prio born st && (taskDep l1 l2 id u1 u2 aft && taskPlace need st start nodes)
end M
set_option maxRecDepth 100000 in
theorem isWork_i (n l p : Int) (w : World) : Gives Tryz.prog 189 #[.int .i64 n, .int .i64 l, .int .i64 p] w (.bool (workOk n l p)) := by
  unfold workOk isIn
  have H := Hs.start noRow w
  unfold Gives
  cases h1 : (decide ((1 : Int) ≤ n) && decide (n ≤ 6)) <;> cases h2 : (decide ((1 : Int) ≤ l) && decide (l ≤ 20))
  all_goals (
    simp only [Bool.true_and, Bool.false_and]
    go_enter Tryz.func189, Tryz.ntmps189
    go_wp2_with (first | ((((with_reducible refine st_gwT ?_ ?_); rfl)); (try simp only [Act.put, yA, yB, yC, yD, yE, yF])) | (((go_at_call 20; refine gvF (within_i _ _ _ _) H ?_)); clear H; intro wn H))
    go_ret
    exact ⟨rfl, H.below⟩)
set_option maxRecDepth 100000 in
set_option maxHeartbeats 4000000 in
theorem nums_i (v : Value) (l : List Int) (need : Int) (w : World) (hr : (Ty.sl 2 tyNum).rd w [v] l) : Gives Tryz.prog 192 #[v, .int .i64 need] w (.bool (numsOk l && decide ((l.length : Int) = need))) := by
  obtain ⟨A, c, rfl, hlc, hcm⟩ := sl_form hr
  unfold maxLen at *
  have HR := Lib.hid hr
  obtain ⟨n, hn⟩ : ∃ n, n = l.length := ⟨_, rfl⟩
  have hnl : n ≤ 9223372036854775807 := by omega
  rw [← hn] at HR ⊢
  have HN := Lib.hid hn
  obtain ⟨f, hf'⟩ : ∃ f, f = numIn l := ⟨_, rfl⟩
  have HF := Lib.hid hf'
  obtain ⟨z, hz⟩ : ∃ z, z = (numsOk l && decide ((n : Int) = need)) := ⟨_, rfl⟩
  rw [← hz]
  have HZ : Hid (z = (allFrom f n 0 && decide ((n : Int) = need))) := Lib.hid (by rw [hz, hf', hn]; rfl)
  clear hr hn hlc hcm hz hf'
  have H := Hs.start noRow w
  unfold Gives
  go_enter Tryz.func192, Tryz.ntmps192
  go_wp2_with (fail)
  go_loopg [9] n (fun m iv wr => ∃ (i : Nat), i + m = n ∧ iv = .int .i64 i ∧ Hid (z = (allFrom f n i && decide ((n : Int) = need))) ∧ Hs noRow w [] wr)
  case atStart => exact ⟨0, by omega, rfl, HZ, H⟩
  case round =>
    clear H
    obtain ⟨i, hi, rfl, HI, H⟩ := hrel
    by_cases hlt : i < n
    · obtain ⟨x, hx⟩ : ∃ x, l[i]? = some x := ⟨l[i]'(by rw [← HN.out]; exact hlt), List.getElem?_eq_getElem (by rw [← HN.out]; exact hlt)⟩
      have hs := sl_at (by have := HR.out; rw [HN.out] at this; exact this) hx
      rw [← HN.out] at hs
      obtain ⟨b, off, c', cs, hv, hcs, hA⟩ := hs
      injection hv with hv1 hv2 hv3
      subst hv1 hv3
      obtain rfl : cs = encNum x := hcs
      have h0 : w.cell? ⟨b, off + i, none⟩ = some (.int .i64 x) := by have h := hA.head (u := .int .i64 x) rfl; rw [show i * tyNum.s = i from Nat.mul_one i] at h; exact h
      have hstep := HI.out
      have hfi : f i = (isIn x 0 5 && numAft l i x) := by rw [HF.out]; unfold numIn; rw [hx]
      rw [allFrom_step hlt, hfi] at hstep
      clear hfi
      have hlt1 : (i : Int) < n := by omega
      clear hx hv2 hA
      have c1 := fun w1 => within_i x 0 5 w1
      unfold isIn at hstep
      generalize (decide ((0 : Int) ≤ x) && decide (x ≤ 5)) = z1 at *
      cases z1
      case false =>
        have HI2 : Hid (z = false) := Lib.hid (by rw [hstep]; simp)
        clear hstep
        go_wp2_with (first | ((((with_reducible apply st_load1 H); decide +kernel; rfl; exact cF)); clear H; intro wn H; (try simp only [splice, yG, yH, yI, yJ, yK, yL, yM, yN, yO, yP, yQ, Nat.reduceAdd, yA, yB, yC] at H); simp only [Act.put, yA, yB, yC, yD, yE, yF]) | (((go_at_call 20; refine gvF (c1 _) H ?_)); clear H; intro wn H))
        go_ret
        exact ⟨by rw [HI2.out]; rfl, H.below⟩
      cases i with
      | zero =>
        have HI2 : Hid (z = (allFrom f n 1 && decide ((n : Int) = need))) := Lib.hid (by rw [hstep]; simp [numAft])
        clear hstep
        go_wp2_with (first | ((((with_reducible refine st_gwF ?_ ?_); rfl)); (try simp only [Act.put, yA, yB, yC, yD, yE, yF])) | ((((with_reducible apply st_load1 H); decide +kernel; rfl; exact cF)); clear H; intro wn H; (try simp only [splice, yG, yH, yI, yJ, yK, yL, yM, yN, yO, yP, yQ, Nat.reduceAdd, yA, yB, yC] at H); simp only [Act.put, yA, yB, yC, yD, yE, yF]) | (((go_at_call 20; refine gvF (c1 _) H ?_)); clear H; intro wn H))
        go_roundg (n - 1)
        case measure => omega
        case rel => exact ⟨1, by omega, by go_num, HI2, H.sel sF⟩
      | succ j =>
        obtain ⟨y, hy⟩ : ∃ y, l[j]? = some y := ⟨l[j]'(by rw [← HN.out]; omega), List.getElem?_eq_getElem (by rw [← HN.out]; omega)⟩
        have hs2 := sl_at (by have := HR.out; rw [HN.out] at this; exact this) hy
        rw [← HN.out] at hs2
        obtain ⟨b3, off3, c3, cs3, hw, hcs3, hB⟩ := hs2
        injection hw with hw1 hw2 hw3
        injection hw1 with hw1
        injection hw1 with hw4 hw5
        subst hw3 hw4 hw5
        obtain rfl : cs3 = encNum y := hcs3
        unfold numAft at hstep
        simp only [hy] at hstep
        have h2 : w.cell? ⟨b, off + j, none⟩ = some (.int .i64 y) := by have h := hB.head (u := .int .i64 y) rfl; rw [show j * tyNum.s = j from Nat.mul_one j] at h; exact h
        have hlt2 : (j : Int) < n := by omega
        have hlt3 : j < n := by omega
        have hpos : (0 : Int) < (j : Int) + 1 := by omega
        have hlt4 : (j : Int) + 1 < n := by omega
        clear hB hy hw2
        by_cases hq : x ≤ y
        · have HI2 : Hid (z = false) := Lib.hid (by rw [hstep]; simp [hq])
          clear hstep
          go_wp2_with (first | ((first | ((with_reducible refine st_gwT ?_ ?_); rfl) | ((with_reducible refine st_gwF ?_ ?_); rfl)); (try simp only [Act.put, yA, yB, yC, yD, yE, yF])) | ((((with_reducible apply st_load1 H); decide +kernel; rfl; exact cF)); clear H; intro wn H; (try simp only [splice, yG, yH, yI, yJ, yK, yL, yM, yN, yO, yP, yQ, Nat.reduceAdd, yA, yB, yC] at H); simp only [Act.put, yA, yB, yC, yD, yE, yF]) | (((go_at_call 20; refine gvF (c1 _) H ?_)); clear H; intro wn H))
          go_ret
          exact ⟨by rw [HI2.out]; rfl, H.below⟩
        · have HI2 : Hid (z = (allFrom f n (j + 1 + 1) && decide ((n : Int) = need))) := Lib.hid (by rw [hstep]; simp [hq])
          clear hstep
          go_wp2_with (first | ((first | ((with_reducible refine st_gwT ?_ ?_); rfl) | ((with_reducible refine st_gwF ?_ ?_); rfl)); (try simp only [Act.put, yA, yB, yC, yD, yE, yF])) | ((((with_reducible apply st_load1 H); decide +kernel; rfl; exact cF)); clear H; intro wn H; (try simp only [splice, yG, yH, yI, yJ, yK, yL, yM, yN, yO, yP, yQ, Nat.reduceAdd, yA, yB, yC] at H); simp only [Act.put, yA, yB, yC, yD, yE, yF]) | (((go_at_call 20; refine gvF (c1 _) H ?_)); clear H; intro wn H))
          go_roundg (n - (j + 1 + 1))
          case measure => omega
          case rel => exact ⟨j + 1 + 1, by omega, by go_num, HI2, H.sel sF⟩
    · obtain rfl : i = n := by omega
      have hlt1 : ¬ (i : Int) < i := by omega
      have hz := HI.out
      rw [allFrom_end (Nat.le_refl _), Bool.true_and] at hz
      have HI2 := Lib.hid hz
      clear hz HI HZ
      by_cases h4 : (i : Int) = need
      · have HI3 : Hid (z = true) := Lib.hid (by rw [HI2.out]; simp [h4])
        subst h4
        go_wp2_with (fail)
        go_ret
        exact ⟨by rw [HI3.out]; rfl, H.below⟩
      · have h5 : ((i : Int) == need) = false := by simp [h4]
        have HI3 : Hid (z = false) := Lib.hid (by rw [HI2.out]; simp [h4])
        go_wp2_with (fail)
        go_ret
        exact ⟨by rw [HI3.out]; rfl, H.below⟩
set_option maxRecDepth 100000 in
set_option maxHeartbeats 4000000 in
theorem nums_s (v : Value) (l : List Int) (w : World) (hr : (Ty.sl 2 tyNum).rd w [v] l) : Gives Tryz.prog 132 #[v] w (.bool (numsOk l)) := by
  obtain ⟨A, c, rfl, hlc, hcm⟩ := sl_form hr
  unfold maxLen at *
  have HR := Lib.hid hr
  obtain ⟨n, hn⟩ : ∃ n, n = l.length := ⟨_, rfl⟩
  have hnl : n ≤ 9223372036854775807 := by omega
  rw [← hn] at HR ⊢
  have HN := Lib.hid hn
  obtain ⟨f, hf'⟩ : ∃ f, f = numIn l := ⟨_, rfl⟩
  have HF := Lib.hid hf'
  obtain ⟨z, hz⟩ : ∃ z, z = numsOk l := ⟨_, rfl⟩
  rw [← hz]
  have HZ : Hid (z = (allFrom f n 0)) := Lib.hid (by rw [hz, hf', hn]; rfl)
  clear hr hn hlc hcm hz hf'
  have H := Hs.start noRow w
  unfold Gives
  go_enter Tryz.func132, Tryz.ntmps132
  go_wp2_with (fail)
  go_loopg [3] n (fun m iv wr => ∃ (i : Nat), i + m = n ∧ iv = .int .i64 i ∧ Hid (z = (allFrom f n i)) ∧ Hs noRow w [] wr)
  case atStart => exact ⟨0, by omega, rfl, HZ, H⟩
  case round =>
    clear H
    obtain ⟨i, hi, rfl, HI, H⟩ := hrel
    by_cases hlt : i < n
    · obtain ⟨x, hx⟩ : ∃ x, l[i]? = some x := ⟨l[i]'(by rw [← HN.out]; exact hlt), List.getElem?_eq_getElem (by rw [← HN.out]; exact hlt)⟩
      have hs := sl_at (by have := HR.out; rw [HN.out] at this; exact this) hx
      rw [← HN.out] at hs
      obtain ⟨b, off, c', cs, hv, hcs, hA⟩ := hs
      injection hv with hv1 hv2 hv3
      subst hv1 hv3
      obtain rfl : cs = encNum x := hcs
      have h0 : w.cell? ⟨b, off + i, none⟩ = some (.int .i64 x) := by have h := hA.head (u := .int .i64 x) rfl; rw [show i * tyNum.s = i from Nat.mul_one i] at h; exact h
      have hstep := HI.out
      have hfi : f i = (isIn x 0 5 && numAft l i x) := by rw [HF.out]; unfold numIn; rw [hx]
      rw [allFrom_step hlt, hfi] at hstep
      clear hfi
      have hlt1 : (i : Int) < n := by omega
      clear hx hv2 hA
      have c1 := fun w1 => is_s x 0 5 w1
      unfold isIn at hstep
      generalize (decide ((0 : Int) ≤ x) && decide (x ≤ 5)) = z1 at *
      cases z1
      case false =>
        have HI2 : Hid (z = false) := Lib.hid (by rw [hstep]; simp)
        clear hstep
        go_wp2_with (((with_reducible apply wp_region_hq (id := 4) H); kernel_rfl; kernel_rfl; (iterate 4 (all_goals ((with_reducible refine' hq_step ?_ ?_ ?_); rotate_left; rfl; (focus (intro w1 H1; first | exact qF | exact qVF)); (try simp only [yG, yH, yJ, yK]); (try simp only [Act.put, yA, yB, yC, yD, yE, yF])))); (all_goals ((with_reducible refine' hq_step ?_ ?_ ?_); rotate_left; rfl; (focus (intro w1 H1; unfold QOk; go_simp; exact q_call (c1 _))); (try simp only [yG, yH, yJ, yK]); simp only [Act.put, yA, yB, yC, yD, yE, yF])); (iterate 17 (all_goals ((first | ((with_reducible refine hq_gsF ?_ ?_); rfl) | ((with_reducible refine hq_skip ?_ ?_); rfl) | ((with_reducible refine' hq_step ?_ ?_ ?_); rotate_left; rfl; (focus (intro w1 H1; exact qVF)); (try simp only [yG, yH, yJ, yK]))); (try simp only [Act.put, yA, yB, yC, yD, yE, yF])))); all_goals (refine wpQuiet_nil ?_; clear H; intro wn H)))
        go_ret
        exact ⟨by rw [HI2.out]; rfl, H.below⟩
      cases i with
      | zero =>
        have HI2 : Hid (z = (allFrom f n 1)) := Lib.hid (by rw [hstep]; simp [numAft])
        clear hstep
        go_wp2_with (((with_reducible apply wp_region_hq (id := 4) H); kernel_rfl; kernel_rfl; (iterate 4 (all_goals ((with_reducible refine' hq_step ?_ ?_ ?_); rotate_left; rfl; (focus (intro w1 H1; first | exact qF | exact qVF)); (try simp only [yG, yH, yJ, yK]); (try simp only [Act.put, yA, yB, yC, yD, yE, yF])))); (all_goals ((with_reducible refine' hq_step ?_ ?_ ?_); rotate_left; rfl; (focus (intro w1 H1; unfold QOk; go_simp; exact q_call (c1 _))); (try simp only [yG, yH, yJ, yK]); simp only [Act.put, yA, yB, yC, yD, yE, yF])); (iterate 17 (all_goals ((first | ((with_reducible refine hq_gwF ?_ ?_); rfl; (with_reducible refine' hq_step ?_ ?_ ?_); rotate_left; rfl; (focus (intro w1 H1; exact qVF)); (try simp only [yG, yH, yJ, yK])) | ((with_reducible refine hq_gsT ?_ ?_); rfl) | ((with_reducible refine' hq_step ?_ ?_ ?_); rotate_left; rfl; (focus (intro w1 H1; exact qVF)); (try simp only [yG, yH, yJ, yK]))); (try simp only [Act.put, yA, yB, yC, yD, yE, yF])))); all_goals (refine wpQuiet_nil ?_; clear H; intro wn H)))
        go_roundg (n - 1)
        case measure => omega
        case rel => exact ⟨1, by omega, by go_num, HI2, H.sel sF⟩
      | succ j =>
        obtain ⟨y, hy⟩ : ∃ y, l[j]? = some y := ⟨l[j]'(by rw [← HN.out]; omega), List.getElem?_eq_getElem (by rw [← HN.out]; omega)⟩
        have hs2 := sl_at (by have := HR.out; rw [HN.out] at this; exact this) hy
        rw [← HN.out] at hs2
        obtain ⟨b3, off3, c3, cs3, hw, hcs3, hB⟩ := hs2
        injection hw with hw1 hw2 hw3
        injection hw1 with hw1
        injection hw1 with hw4 hw5
        subst hw3 hw4 hw5
        obtain rfl : cs3 = encNum y := hcs3
        unfold numAft at hstep
        simp only [hy] at hstep
        have h2 : w.cell? ⟨b, off + j, none⟩ = some (.int .i64 y) := by have h := hB.head (u := .int .i64 y) rfl; rw [show j * tyNum.s = j from Nat.mul_one j] at h; exact h
        have hlt2 : (j : Int) < n := by omega
        have hlt3 : j < n := by omega
        have hpos : (0 : Int) < (j : Int) + 1 := by omega
        have hlt4 : (j : Int) + 1 < n := by omega
        have hlt5 : j + 1 < n := by omega
        clear hB hy hw2
        by_cases hq : x ≤ y
        · have HI2 : Hid (z = false) := Lib.hid (by rw [hstep]; simp [hq])
          clear hstep
          go_wp2_with (((with_reducible apply wp_region_hq (id := 4) H); kernel_rfl; kernel_rfl; (iterate 4 (all_goals ((with_reducible refine' hq_step ?_ ?_ ?_); rotate_left; rfl; (focus (intro w1 H1; first | exact qF | exact qVF)); (try simp only [yG, yH, yJ, yK]); (try simp only [Act.put, yA, yB, yC, yD, yE, yF])))); (all_goals ((with_reducible refine' hq_step ?_ ?_ ?_); rotate_left; rfl; (focus (intro w1 H1; unfold QOk; go_simp; exact q_call (c1 _))); (try simp only [yG, yH, yJ, yK]); simp only [Act.put, yA, yB, yC, yD, yE, yF])); (iterate 17 (all_goals ((first | ((first | ((with_reducible refine hq_gwF ?_ ?_); rfl) | ((with_reducible refine hq_gwT ?_ ?_); rfl)); (with_reducible refine' hq_step ?_ ?_ ?_); rotate_left; rfl; (focus (intro w1 H1; first | exact qF | exact qWF | exact qVF)); (try simp only [yG, yH, yJ, yK])) | ((with_reducible refine' hq_step ?_ ?_ ?_); rotate_left; rfl; (focus (intro w1 H1; exact qVF)); (try simp only [yG, yH, yJ, yK]))); (try simp only [Act.put, yA, yB, yC, yD, yE, yF])))); all_goals (refine wpQuiet_nil ?_; clear H; intro wn H)))
          go_ret
          exact ⟨by rw [HI2.out]; rfl, H.below⟩
        · have HI2 : Hid (z = (allFrom f n (j + 1 + 1))) := Lib.hid (by rw [hstep]; simp [hq])
          clear hstep
          go_wp2_with (((with_reducible apply wp_region_hq (id := 4) H); kernel_rfl; kernel_rfl; (iterate 4 (all_goals ((with_reducible refine' hq_step ?_ ?_ ?_); rotate_left; rfl; (focus (intro w1 H1; first | exact qF | exact qVF)); (try simp only [yG, yH, yJ, yK]); (try simp only [Act.put, yA, yB, yC, yD, yE, yF])))); (all_goals ((with_reducible refine' hq_step ?_ ?_ ?_); rotate_left; rfl; (focus (intro w1 H1; unfold QOk; go_simp; exact q_call (c1 _))); (try simp only [yG, yH, yJ, yK]); simp only [Act.put, yA, yB, yC, yD, yE, yF])); (iterate 17 (all_goals ((first | ((first | ((with_reducible refine hq_gwF ?_ ?_); rfl) | ((with_reducible refine hq_gwT ?_ ?_); rfl)); (with_reducible refine' hq_step ?_ ?_ ?_); rotate_left; rfl; (focus (intro w1 H1; first | exact qF | exact qWF | exact qVF)); (try simp only [yG, yH, yJ, yK])) | ((with_reducible refine' hq_step ?_ ?_ ?_); rotate_left; rfl; (focus (intro w1 H1; exact qVF)); (try simp only [yG, yH, yJ, yK]))); (try simp only [Act.put, yA, yB, yC, yD, yE, yF])))); all_goals (refine wpQuiet_nil ?_; clear H; intro wn H)))
          go_roundg (n - (j + 1 + 1))
          case measure => omega
          case rel => exact ⟨j + 1 + 1, by omega, by go_num, HI2, H.sel sF⟩
    · obtain rfl : i = n := by omega
      have hlt1 : ¬ (i : Int) < i := by omega
      have hz := HI.out
      rw [allFrom_end (Nat.le_refl _)] at hz
      have HI2 := Lib.hid hz
      clear hz HI HZ
      go_wp2_with (fail)
      go_ret
      exact ⟨by rw [HI2.out]; rfl, H.below⟩
set_option maxRecDepth 100000 in
set_option maxHeartbeats 4000000 in
theorem Below_i (a b : Lab) (w : World) : Gives Tryz.prog 190 #[.agg #[.int .i64 a.1, .int .i64 a.2], .agg #[.int .i64 b.1, .int .i64 b.2]] w (.bool (okL a && (okL b && belowB a b))) := by
  obtain ⟨a1, a2⟩ := a
  obtain ⟨b1, b2⟩ := b
  have c1 := fun w1 => labelRight_i a1 a2 w1
  have c2 := fun w1 => labelRight_i b1 b2 w1
  have c3 := fun ha hb w1 => below_i (a1, a2) (b1, b2) ha hb w1
  have e1 : okL (a1, a2) = labelOk a1 a2 := rfl
  have e2 : okL (b1, b2) = labelOk b1 b2 := rfl
  rw [e1, e2]
  clear e1 e2
  simp only at c3 ⊢
  generalize labelOk a1 a2 = z1 at *
  generalize labelOk b1 b2 = z2 at *
  generalize belowB (a1, a2) (b1, b2) = z3 at *
  have H := Hs.start noRow w
  unfold Gives
  cases z1 <;> cases z2
  all_goals (
    simp only [Bool.true_and, Bool.false_and]
    (try have c4 := c3 rfl rfl)
    clear c3
    go_enter Tryz.func190, Tryz.ntmps190
    go_wp2_with (first | ((first | ((with_reducible refine st_gwT ?_ ?_); rfl) | ((with_reducible refine st_gsT ?_ ?_); rfl)); (try simp only [Act.put, yA, yB, yC, yD, yE, yF])) | ((((with_reducible apply st_loads H); decide +kernel; rfl; exact iF; exact zF; rfl)); clear H; intro wn H; (try simp only [splice, yG, yH, yI, yJ, yK, yL, yM, yN, yO, yP, yQ, Nat.reduceAdd, yA, yB, yC] at H); simp only [Act.put, yA, yB, yC, yD, yE, yF]) | ((first | ((with_reducible apply st_box (dst := some 2) H); exact nF; intro b2) | ((with_reducible apply st_box (dst := some 3) H); exact nF; intro b3)); clear H; intro wn H; simp only [Act.put, yA, yB, yC, yD, yE, yF]) | ((first | (go_at_call 149; refine gvF (c1 _) H ?_; clear c1) | (go_at_call 149; refine gvF (c2 _) H ?_) | (go_at_call 186; refine gvF (c4 _) H ?_)); clear H; intro wn H))
    go_ret
    exact ⟨rfl, H.below⟩)
set_option maxRecDepth 100000 in
set_option maxHeartbeats 4000000 in
theorem Below_s (a b : Lab) (w : World) : Gives Tryz.prog 130 #[.agg #[.int .i64 a.1, .int .i64 a.2], .agg #[.int .i64 b.1, .int .i64 b.2]] w (.bool (okL a && (okL b && belowB a b))) := by
  obtain ⟨a1, a2⟩ := a
  obtain ⟨b1, b2⟩ := b
  have c1 := fun w1 => labelRight_s a1 a2 w1
  have c2 := fun w1 => labelRight_s b1 b2 w1
  have c3 := fun ha hb w1 => below_s (a1, a2) (b1, b2) ha hb w1
  have e1 : okL (a1, a2) = labelOk a1 a2 := rfl
  have e2 : okL (b1, b2) = labelOk b1 b2 := rfl
  rw [e1, e2]
  clear e1 e2
  simp only at c3 ⊢
  generalize labelOk a1 a2 = z1 at *
  generalize labelOk b1 b2 = z2 at *
  generalize belowB (a1, a2) (b1, b2) = z3 at *
  have H := Hs.start noRow w
  unfold Gives
  cases z1 <;> cases z2
  all_goals (
    simp only [Bool.true_and, Bool.false_and]
    (try have c4 := c3 rfl rfl)
    clear c3
    go_enter Tryz.func130, Tryz.ntmps130
    go_wp2_with (first | ((first | ((with_reducible refine st_gwT ?_ ?_); rfl) | ((with_reducible refine st_gsT ?_ ?_); rfl)); (try simp only [Act.put, yA, yB, yC, yD, yE, yF])) | ((((with_reducible apply st_loads H); decide +kernel; rfl; exact iF; exact zF; rfl)); clear H; intro wn H; (try simp only [splice, yG, yH, yI, yJ, yK, yL, yM, yN, yO, yP, yQ, Nat.reduceAdd, yA, yB, yC] at H); simp only [Act.put, yA, yB, yC, yD, yE, yF]) | ((first | ((with_reducible apply st_box (dst := some 2) H); exact nF; intro b2) | ((with_reducible apply st_box (dst := some 3) H); exact nF; intro b3)); clear H; intro wn H; simp only [Act.put, yA, yB, yC, yD, yE, yF]) | ((first | (go_at_call 123; refine gvF (c1 _) H ?_; clear c1) | (go_at_call 123; refine gvF (c2 _) H ?_) | (go_at_call 177; refine gvF (c4 _) H ?_)); clear H; intro wn H))
    go_ret
    exact ⟨rfl, H.below⟩)
end Go.Proofs.YtpfdhfchgnnpiaaGreat
