/-
  Steps that may be so, in the reference and in the program: the walks.
-/
import Derived.Test.YtengmmffommafaaGreatHs
import Derived.Test.YtengmmffommafaaGreatCo
set_option linter.unusedSimpArgs false
set_option linter.unusedVariables false
namespace Go.Proofs.YtengmmffommafaaGreat
open Go.RowKit M
namespace M
def powOk (p : Int) : Bool := decide (-1 ≤ p) && decide (p ≤ 1000000)
end M
def opB (x : Stp) : Bool := opOk x.1.sys x.1.l1 x.1.l2 x.1.k x.1.ow x.1.a x.1.b x.1.c x.1.d x.1.m1 x.1.m2 x.1.af
def stepOk (x : Stp) : Bool := opB x && (powOk x.2 && (!(x.1.k == 17) || x.2 == -1))
def stepIn (l : List Stp) (i : Nat) : Bool := match l[i]? with
  | some x => stepOk x
  | none => true
def stepsOk (c : Cfg) (l : List Stp) : Bool := cfgOk c && (decide (l.length ≤ 60) && allFrom (stepIn l) l.length 0)
set_option maxRecDepth 100000 in
theorem isPower_i (p : Int) (w : World) : Gives Tryz.prog 91 #[.int .i64 p] w (.bool (powOk p)) := by
  unfold Gives
  have H := Hs.start noRow w
  go_enter Tryz.func91, Tryz.ntmps91
  go_wp2_with (first | ((first | ((with_reducible refine st_gwT ?_ ?_); rfl) | ((with_reducible refine st_gwF ?_ ?_); rfl) | ((with_reducible refine st_gsT ?_ ?_); rfl) | ((with_reducible refine st_gsF ?_ ?_); rfl)); (try simp only [Act.put, yA, yB, yC, yD, yE, yF])) | ((with_reducible refine' st_guard ?_ ?_ ?_); rotate_left; rfl; (all_goals (intro hgd; cases hgd)); (try simp only [Act.put, yA, yB, yC, yD, yE, yF])) | ((with_reducible apply st_want); rfl) | ((with_reducible refine st_skip ?_ ?_); rfl; simp only [Act.put, yA, yB, yC, yD, yE, yF]) | ((first | ((with_reducible apply st_load1 H); decide +kernel; rfl; exact cF) | ((with_reducible apply st_loads H); decide +kernel; rfl; exact iF; exact zF; rfl) | ((with_reducible apply st_store H); rfl; exact eF; (focus (exact cells_agg _)); exact uF; kernel_rfl; (focus (exact Nat.le_of_ble_eq_true (by rfl))); (focus (first | rfl | simp))) | ((with_reducible apply st_storeown H); rfl; exact eF; (focus (exact (rfl : _ = [_]))); exact uF; (focus omega); kernel_rfl; rfl)); clear H; intro wn H; (try simp only [splice, yG, yH, yI, yJ, yK, yL, yM, yN, yO, yP, yQ, Nat.reduceAdd, yA, yB, yC] at H); simp only [Act.put, yA, yB, yC, yD, yE, yF]) | ((first | (go_at_call 68; refine gvF (within_i _ _ _ _) H ?_)); clear H; intro wn H) | fail)
  go_ret
  exact ⟨rfl, H.below⟩
set_option maxRecDepth 100000 in
theorem l19Power_s (p : Int) (w : World) : Gives Tryz.prog 81 #[.int .i64 p] w (.bool (powOk p)) := by
  unfold Gives
  have H := Hs.start noRow w
  go_enter Tryz.func81, Tryz.ntmps81
  go_wp2_with (first | ((first | ((with_reducible refine st_gwT ?_ ?_); rfl) | ((with_reducible refine st_gwF ?_ ?_); rfl) | ((with_reducible refine st_gsT ?_ ?_); rfl) | ((with_reducible refine st_gsF ?_ ?_); rfl)); (try simp only [Act.put, yA, yB, yC, yD, yE, yF])) | ((with_reducible refine' st_guard ?_ ?_ ?_); rotate_left; rfl; (all_goals (intro hgd; cases hgd)); (try simp only [Act.put, yA, yB, yC, yD, yE, yF])) | ((with_reducible apply st_want); rfl) | ((with_reducible refine st_skip ?_ ?_); rfl; simp only [Act.put, yA, yB, yC, yD, yE, yF]) | ((first | ((with_reducible apply st_load1 H); decide +kernel; rfl; exact cF) | ((with_reducible apply st_loads H); decide +kernel; rfl; exact iF; exact zF; rfl) | ((with_reducible apply st_store H); rfl; exact eF; (focus (exact cells_agg _)); exact uF; kernel_rfl; (focus (exact Nat.le_of_ble_eq_true (by rfl))); (focus (first | rfl | simp))) | ((with_reducible apply st_storeown H); rfl; exact eF; (focus (exact (rfl : _ = [_]))); exact uF; (focus omega); kernel_rfl; rfl)); clear H; intro wn H; (try simp only [splice, yG, yH, yI, yJ, yK, yL, yM, yN, yO, yP, yQ, Nat.reduceAdd, yA, yB, yC] at H); simp only [Act.put, yA, yB, yC, yD, yE, yF]) | ((first | (go_at_call 76; refine gvF (is_s _ _ _ _) H ?_)); clear H; intro wn H) | fail)
  go_ret
  exact ⟨rfl, H.below⟩
set_option maxRecDepth 100000 in
set_option maxHeartbeats 4000000 in
theorem l20Step_s (x : Stp) (ho : x.1.ow.size ≤ maxLen) (w : World) : Gives Tryz.prog 38 #[.agg (encStp x).toArray] w (.bool (opB x && powOk x.2)) := by
  obtain ⟨⟨sys, l1, l2, k, ow, a, b, c, d, m1, m2, af⟩, p⟩ := x
  have hR := fun w1 => opRight_s sys l1 l2 k ow a b c d m1 m2 af ho w1
  have hP := fun w1 => l19Power_s p w1
  unfold encOp at hR
  unfold encStp opB
  simp only
  generalize opOk sys l1 l2 k ow a b c d m1 m2 af = r at *
  generalize powOk p = q at *
  have H := Hs.start noRow w
  unfold Gives
  cases r
  · go_enter Tryz.func38, Tryz.ntmps38
    go_wp2_with (first | ((first | ((with_reducible refine st_gwT ?_ ?_); rfl) | ((with_reducible refine st_gwF ?_ ?_); rfl) | ((with_reducible refine st_gsT ?_ ?_); rfl) | ((with_reducible refine st_gsF ?_ ?_); rfl)); (try simp only [Act.put, yA, yB, yC, yD, yE, yF])) | ((with_reducible refine' st_guard ?_ ?_ ?_); rotate_left; rfl; (all_goals (intro hgd; cases hgd)); (try simp only [Act.put, yA, yB, yC, yD, yE, yF])) | ((with_reducible apply st_want); rfl) | ((with_reducible refine st_skip ?_ ?_); rfl; simp only [Act.put, yA, yB, yC, yD, yE, yF]) | ((first | ((with_reducible apply st_load1 H); decide +kernel; rfl; exact cF) | ((with_reducible apply st_loads H); decide +kernel; rfl; exact iF; exact zF; rfl) | ((with_reducible apply st_store H); rfl; exact eF; (focus (exact cells_agg _)); exact uF; kernel_rfl; (focus (exact Nat.le_of_ble_eq_true (by rfl))); (focus (first | rfl | simp))) | ((with_reducible apply st_storeown H); rfl; exact eF; (focus (exact (rfl : _ = [_]))); exact uF; (focus omega); kernel_rfl; rfl)); clear H; intro wn H; (try simp only [splice, yG, yH, yI, yJ, yK, yL, yM, yN, yO, yP, yQ, Nat.reduceAdd, yA, yB, yC] at H); simp only [Act.put, yA, yB, yC, yD, yE, yF]) | ((first | ((with_reducible apply st_box (dst := some 1) H); exact nF; intro b1)); clear H; intro wn H; simp only [Act.put, yA, yB, yC, yD, yE, yF]) | ((with_reducible apply st_loadat H); decide +kernel; rfl; exact aF; exact zF; rfl; clear H; intro wn H; simp only [Act.put, yA, yB, yC, yD, yE, yF]) | ((first | (go_at_call 80; refine gvF (hR _) H ?_) | (go_at_call 81; refine gvF (hP _) H ?_)); clear H; intro wn H) | fail)
    go_ret
    exact ⟨rfl, H.below⟩
  · go_enter Tryz.func38, Tryz.ntmps38
    go_wp2_with (first | ((first | ((with_reducible refine st_gwT ?_ ?_); rfl) | ((with_reducible refine st_gwF ?_ ?_); rfl) | ((with_reducible refine st_gsT ?_ ?_); rfl) | ((with_reducible refine st_gsF ?_ ?_); rfl)); (try simp only [Act.put, yA, yB, yC, yD, yE, yF])) | ((with_reducible refine' st_guard ?_ ?_ ?_); rotate_left; rfl; (all_goals (intro hgd; cases hgd)); (try simp only [Act.put, yA, yB, yC, yD, yE, yF])) | ((with_reducible apply st_want); rfl) | ((with_reducible refine st_skip ?_ ?_); rfl; simp only [Act.put, yA, yB, yC, yD, yE, yF]) | ((first | ((with_reducible apply st_load1 H); decide +kernel; rfl; exact cF) | ((with_reducible apply st_loads H); decide +kernel; rfl; exact iF; exact zF; rfl) | ((with_reducible apply st_store H); rfl; exact eF; (focus (exact cells_agg _)); exact uF; kernel_rfl; (focus (exact Nat.le_of_ble_eq_true (by rfl))); (focus (first | rfl | simp))) | ((with_reducible apply st_storeown H); rfl; exact eF; (focus (exact (rfl : _ = [_]))); exact uF; (focus omega); kernel_rfl; rfl)); clear H; intro wn H; (try simp only [splice, yG, yH, yI, yJ, yK, yL, yM, yN, yO, yP, yQ, Nat.reduceAdd, yA, yB, yC] at H); simp only [Act.put, yA, yB, yC, yD, yE, yF]) | ((first | ((with_reducible apply st_box (dst := some 1) H); exact nF; intro b1)); clear H; intro wn H; simp only [Act.put, yA, yB, yC, yD, yE, yF]) | ((with_reducible apply st_loadat H); decide +kernel; rfl; exact aF; exact zF; rfl; clear H; intro wn H; simp only [Act.put, yA, yB, yC, yD, yE, yF]) | ((first | (go_at_call 80; refine gvF (hR _) H ?_) | (go_at_call 81; refine gvF (hP _) H ?_)); clear H; intro wn H) | fail)
    go_ret
    exact ⟨by simp, H.below⟩
set_option maxRecDepth 100000 in
set_option maxHeartbeats 4000000 in
theorem stepRight_i (x : Stp) (ho : x.1.ow.size ≤ maxLen) (w : World) : Gives Tryz.prog 44 #[.agg (encStp x).toArray] w (.bool (stepOk x)) := by
  obtain ⟨⟨sys, l1, l2, k, ow, a, b, c, d, m1, m2, af⟩, p⟩ := x
  have hR := fun w1 => opRight_i sys l1 l2 k ow a b c d m1 m2 af ho w1
  have hP := fun w1 => isPower_i p w1
  unfold encOp at hR
  unfold encStp stepOk opB
  simp only
  generalize opOk sys l1 l2 k ow a b c d m1 m2 af = r at *
  generalize powOk p = q at *
  have H := Hs.start noRow w
  unfold Gives
  cases r
  · go_enter Tryz.func44, Tryz.ntmps44
    go_wp2_with (first | ((first | ((with_reducible refine st_gwT ?_ ?_); rfl) | ((with_reducible refine st_gwF ?_ ?_); rfl) | ((with_reducible refine st_gsT ?_ ?_); rfl) | ((with_reducible refine st_gsF ?_ ?_); rfl)); (try simp only [Act.put, yA, yB, yC, yD, yE, yF])) | ((with_reducible refine' st_guard ?_ ?_ ?_); rotate_left; rfl; (all_goals (intro hgd; cases hgd)); (try simp only [Act.put, yA, yB, yC, yD, yE, yF])) | ((with_reducible apply st_want); rfl) | ((with_reducible refine st_skip ?_ ?_); rfl; simp only [Act.put, yA, yB, yC, yD, yE, yF]) | ((first | ((with_reducible apply st_load1 H); decide +kernel; rfl; exact cF) | ((with_reducible apply st_loads H); decide +kernel; rfl; exact iF; exact zF; rfl) | ((with_reducible apply st_store H); rfl; exact eF; (focus (exact cells_agg _)); exact uF; kernel_rfl; (focus (exact Nat.le_of_ble_eq_true (by rfl))); (focus (first | rfl | simp))) | ((with_reducible apply st_storeown H); rfl; exact eF; (focus (exact (rfl : _ = [_]))); exact uF; (focus omega); kernel_rfl; rfl)); clear H; intro wn H; (try simp only [splice, yG, yH, yI, yJ, yK, yL, yM, yN, yO, yP, yQ, Nat.reduceAdd, yA, yB, yC] at H); simp only [Act.put, yA, yB, yC, yD, yE, yF]) | ((first | ((with_reducible apply st_box (dst := some 1) H); exact nF; intro b1) | ((with_reducible apply st_strsum H); rfl; rfl; exact szF; kernel_rfl)); clear H; intro wn H; simp only [Act.put, yA, yB, yC, yD, yE, yF]) | ((with_reducible apply st_loadat H); decide +kernel; rfl; exact aF; exact zF; rfl; clear H; intro wn H; simp only [Act.put, yA, yB, yC, yD, yE, yF]) | ((first | (go_at_call 90; refine gvF (hR _) H ?_) | (go_at_call 91; refine gvF (hP _) H ?_)); clear H; intro wn H) | fail)
    go_ret
    exact ⟨rfl, H.below⟩
  cases q
  · go_enter Tryz.func44, Tryz.ntmps44
    go_wp2_with (first | ((first | ((with_reducible refine st_gwT ?_ ?_); rfl) | ((with_reducible refine st_gwF ?_ ?_); rfl) | ((with_reducible refine st_gsT ?_ ?_); rfl) | ((with_reducible refine st_gsF ?_ ?_); rfl)); (try simp only [Act.put, yA, yB, yC, yD, yE, yF])) | ((with_reducible refine' st_guard ?_ ?_ ?_); rotate_left; rfl; (all_goals (intro hgd; cases hgd)); (try simp only [Act.put, yA, yB, yC, yD, yE, yF])) | ((with_reducible apply st_want); rfl) | ((with_reducible refine st_skip ?_ ?_); rfl; simp only [Act.put, yA, yB, yC, yD, yE, yF]) | ((first | ((with_reducible apply st_load1 H); decide +kernel; rfl; exact cF) | ((with_reducible apply st_loads H); decide +kernel; rfl; exact iF; exact zF; rfl) | ((with_reducible apply st_store H); rfl; exact eF; (focus (exact cells_agg _)); exact uF; kernel_rfl; (focus (exact Nat.le_of_ble_eq_true (by rfl))); (focus (first | rfl | simp))) | ((with_reducible apply st_storeown H); rfl; exact eF; (focus (exact (rfl : _ = [_]))); exact uF; (focus omega); kernel_rfl; rfl)); clear H; intro wn H; (try simp only [splice, yG, yH, yI, yJ, yK, yL, yM, yN, yO, yP, yQ, Nat.reduceAdd, yA, yB, yC] at H); simp only [Act.put, yA, yB, yC, yD, yE, yF]) | ((first | ((with_reducible apply st_box (dst := some 1) H); exact nF; intro b1) | ((with_reducible apply st_strsum H); rfl; rfl; exact szF; kernel_rfl)); clear H; intro wn H; simp only [Act.put, yA, yB, yC, yD, yE, yF]) | ((with_reducible apply st_loadat H); decide +kernel; rfl; exact aF; exact zF; rfl; clear H; intro wn H; simp only [Act.put, yA, yB, yC, yD, yE, yF]) | ((first | (go_at_call 90; refine gvF (hR _) H ?_) | (go_at_call 91; refine gvF (hP _) H ?_)); clear H; intro wn H) | fail)
    go_ret
    exact ⟨rfl, H.below⟩
  by_cases hk : k = 17
  · subst hk
    cases hp : (p == -1)
    · go_enter Tryz.func44, Tryz.ntmps44
      go_wp2_with (first | ((first | ((with_reducible refine st_gwT ?_ ?_); rfl) | ((with_reducible refine st_gwF ?_ ?_); rfl) | ((with_reducible refine st_gsT ?_ ?_); rfl) | ((with_reducible refine st_gsF ?_ ?_); rfl)); (try simp only [Act.put, yA, yB, yC, yD, yE, yF])) | ((with_reducible refine' st_guard ?_ ?_ ?_); rotate_left; rfl; (all_goals (intro hgd; cases hgd)); (try simp only [Act.put, yA, yB, yC, yD, yE, yF])) | ((with_reducible apply st_want); rfl) | ((with_reducible refine st_skip ?_ ?_); rfl; simp only [Act.put, yA, yB, yC, yD, yE, yF]) | ((first | ((with_reducible apply st_load1 H); decide +kernel; rfl; exact cF) | ((with_reducible apply st_loads H); decide +kernel; rfl; exact iF; exact zF; rfl) | ((with_reducible apply st_store H); rfl; exact eF; (focus (exact cells_agg _)); exact uF; kernel_rfl; (focus (exact Nat.le_of_ble_eq_true (by rfl))); (focus (first | rfl | simp))) | ((with_reducible apply st_storeown H); rfl; exact eF; (focus (exact (rfl : _ = [_]))); exact uF; (focus omega); kernel_rfl; rfl)); clear H; intro wn H; (try simp only [splice, yG, yH, yI, yJ, yK, yL, yM, yN, yO, yP, yQ, Nat.reduceAdd, yA, yB, yC] at H); simp only [Act.put, yA, yB, yC, yD, yE, yF]) | ((first | ((with_reducible apply st_box (dst := some 1) H); exact nF; intro b1) | ((with_reducible apply st_strsum H); rfl; rfl; exact szF; kernel_rfl)); clear H; intro wn H; simp only [Act.put, yA, yB, yC, yD, yE, yF]) | ((with_reducible apply st_loadat H); decide +kernel; rfl; exact aF; exact zF; rfl; clear H; intro wn H; simp only [Act.put, yA, yB, yC, yD, yE, yF]) | ((first | (go_at_call 90; refine gvF (hR _) H ?_) | (go_at_call 91; refine gvF (hP _) H ?_)); clear H; intro wn H) | fail)
      go_ret
      exact ⟨by simp, H.below⟩
    · go_enter Tryz.func44, Tryz.ntmps44
      go_wp2_with (first | ((first | ((with_reducible refine st_gwT ?_ ?_); rfl) | ((with_reducible refine st_gwF ?_ ?_); rfl) | ((with_reducible refine st_gsT ?_ ?_); rfl) | ((with_reducible refine st_gsF ?_ ?_); rfl)); (try simp only [Act.put, yA, yB, yC, yD, yE, yF])) | ((with_reducible refine' st_guard ?_ ?_ ?_); rotate_left; rfl; (all_goals (intro hgd; cases hgd)); (try simp only [Act.put, yA, yB, yC, yD, yE, yF])) | ((with_reducible apply st_want); rfl) | ((with_reducible refine st_skip ?_ ?_); rfl; simp only [Act.put, yA, yB, yC, yD, yE, yF]) | ((first | ((with_reducible apply st_load1 H); decide +kernel; rfl; exact cF) | ((with_reducible apply st_loads H); decide +kernel; rfl; exact iF; exact zF; rfl) | ((with_reducible apply st_store H); rfl; exact eF; (focus (exact cells_agg _)); exact uF; kernel_rfl; (focus (exact Nat.le_of_ble_eq_true (by rfl))); (focus (first | rfl | simp))) | ((with_reducible apply st_storeown H); rfl; exact eF; (focus (exact (rfl : _ = [_]))); exact uF; (focus omega); kernel_rfl; rfl)); clear H; intro wn H; (try simp only [splice, yG, yH, yI, yJ, yK, yL, yM, yN, yO, yP, yQ, Nat.reduceAdd, yA, yB, yC] at H); simp only [Act.put, yA, yB, yC, yD, yE, yF]) | ((first | ((with_reducible apply st_box (dst := some 1) H); exact nF; intro b1) | ((with_reducible apply st_strsum H); rfl; rfl; exact szF; kernel_rfl)); clear H; intro wn H; simp only [Act.put, yA, yB, yC, yD, yE, yF]) | ((with_reducible apply st_loadat H); decide +kernel; rfl; exact aF; exact zF; rfl; clear H; intro wn H; simp only [Act.put, yA, yB, yC, yD, yE, yF]) | ((first | (go_at_call 90; refine gvF (hR _) H ?_) | (go_at_call 91; refine gvF (hP _) H ?_)); clear H; intro wn H) | fail)
      go_ret
      exact ⟨by simp, H.below⟩
  · have q17 : (k == 17) = false := by simp; exact hk
    rw [q17]
    go_enter Tryz.func44, Tryz.ntmps44
    go_wp2_with (first | ((first | ((with_reducible refine st_gwT ?_ ?_); rfl) | ((with_reducible refine st_gwF ?_ ?_); rfl) | ((with_reducible refine st_gsT ?_ ?_); rfl) | ((with_reducible refine st_gsF ?_ ?_); rfl)); (try simp only [Act.put, yA, yB, yC, yD, yE, yF])) | ((with_reducible refine' st_guard ?_ ?_ ?_); rotate_left; rfl; (all_goals (intro hgd; cases hgd)); (try simp only [Act.put, yA, yB, yC, yD, yE, yF])) | ((with_reducible apply st_want); rfl) | ((with_reducible refine st_skip ?_ ?_); rfl; simp only [Act.put, yA, yB, yC, yD, yE, yF]) | ((first | ((with_reducible apply st_load1 H); decide +kernel; rfl; exact cF) | ((with_reducible apply st_loads H); decide +kernel; rfl; exact iF; exact zF; rfl) | ((with_reducible apply st_store H); rfl; exact eF; (focus (exact cells_agg _)); exact uF; kernel_rfl; (focus (exact Nat.le_of_ble_eq_true (by rfl))); (focus (first | rfl | simp))) | ((with_reducible apply st_storeown H); rfl; exact eF; (focus (exact (rfl : _ = [_]))); exact uF; (focus omega); kernel_rfl; rfl)); clear H; intro wn H; (try simp only [splice, yG, yH, yI, yJ, yK, yL, yM, yN, yO, yP, yQ, Nat.reduceAdd, yA, yB, yC] at H); simp only [Act.put, yA, yB, yC, yD, yE, yF]) | ((first | ((with_reducible apply st_box (dst := some 1) H); exact nF; intro b1) | ((with_reducible apply st_strsum H); rfl; rfl; exact szF; kernel_rfl)); clear H; intro wn H; simp only [Act.put, yA, yB, yC, yD, yE, yF]) | ((with_reducible apply st_loadat H); decide +kernel; rfl; exact aF; exact zF; rfl; clear H; intro wn H; simp only [Act.put, yA, yB, yC, yD, yE, yF]) | ((first | (go_at_call 90; refine gvF (hR _) H ?_) | (go_at_call 91; refine gvF (hP _) H ?_)); clear H; intro wn H) | fail)
    go_ret
    exact ⟨by simp, H.below⟩
set_option maxRecDepth 100000 in
set_option maxHeartbeats 4000000 in
theorem stepsRight_i (c : Cfg) (cs : List Value) (v : Value) (l : List Stp) (w : World) (hrc : tyCfg.rd w cs c) (hr : (Ty.sl 82 tyStp).rd w [v] l) : Gives Tryz.prog 13 #[.agg cs.toArray, v] w (.bool (stepsOk c l)) := by
  have c1 := fun w1 hb => configRight_i c cs w1 (Ty.below _ hrc hb)
  obtain ⟨v1, v2, v3, rfl, h1, h2, h3⟩ := cfg_form hrc
  obtain ⟨nd, pr, qt, hf⟩ := c
  replace c1 : ∀ w1, Below w.heap.size w w1 → Gives Tryz.prog 43 #[.agg #[v1, v2, v3, .int .i64 hf]] w1 (.bool (cfgOk (nd, pr, qt, hf))) := c1
  show Gives Tryz.prog _ #[.agg #[v1, v2, v3, .int .i64 hf], v] w _
  obtain ⟨z, hz⟩ : ∃ z, z = stepsOk (nd, pr, qt, hf) l := ⟨_, rfl⟩
  rw [← hz]
  obtain ⟨A, ca, rfl, hlc, hcm⟩ := sl_form hr
  unfold maxLen at hcm
  have HR := Lib.hid hr
  obtain ⟨n, hn⟩ : ∃ n, n = l.length := ⟨_, rfl⟩
  have hnl : n ≤ 9223372036854775807 := by omega
  have hst : z = (cfgOk (nd, pr, qt, hf) && (decide (n ≤ 60) && allFrom (stepIn l) n 0)) := by rw [hz, hn]; rfl
  rw [← hn] at HR ⊢
  have HN := Lib.hid hn
  clear hr h1 h2 h3 hrc hlc hcm hn hz
  generalize cfgOk (nd, pr, qt, hf) = z1 at *
  obtain ⟨f, hf'⟩ : ∃ f, f = stepIn l := ⟨_, rfl⟩
  rw [← hf'] at hst
  have HF := Lib.hid hf'
  clear hf'
  have H := Hs.start noRow w
  unfold Gives
  cases z1
  case false =>
    have HI2 : Hid (z = false) := Lib.hid (by rw [hst]; simp)
    clear hst
    go_enter Tryz.func13, Tryz.ntmps13
    go_wp2_with (first | ((first | ((with_reducible refine st_gwT ?_ ?_); rfl) | ((with_reducible refine st_gwF ?_ ?_); rfl) | ((with_reducible refine st_gsT ?_ ?_); rfl) | ((with_reducible refine st_gsF ?_ ?_); rfl)); (try simp only [Act.put, yA, yB, yC, yD, yE, yF])) | ((with_reducible refine' st_guard ?_ ?_ ?_); rotate_left; rfl; (all_goals (intro hgd; cases hgd)); (try simp only [Act.put, yA, yB, yC, yD, yE, yF])) | ((with_reducible apply st_want); rfl) | ((with_reducible refine st_skip ?_ ?_); rfl; simp only [Act.put, yA, yB, yC, yD, yE, yF]) | ((first | ((with_reducible apply st_load1 H); decide +kernel; rfl; exact cF) | ((with_reducible apply st_loads H); decide +kernel; rfl; exact iF; exact zF; rfl) | ((with_reducible apply st_store H); rfl; exact eF; (focus (exact cells_agg _)); exact uF; kernel_rfl; (focus (exact Nat.le_of_ble_eq_true (by rfl))); (focus (first | rfl | simp))) | ((with_reducible apply st_storeown H); rfl; exact eF; (focus (exact (rfl : _ = [_]))); exact uF; (focus omega); kernel_rfl; rfl)); clear H; intro wn H; (try simp only [splice, yG, yH, yI, yJ, yK, yL, yM, yN, yO, yP, yQ, Nat.reduceAdd, yA, yB, yC] at H); simp only [Act.put, yA, yB, yC, yD, yE, yF]) | ((first | ((with_reducible apply st_box (dst := some 2) H); exact nF; intro b2) | ((with_reducible apply st_alloc (dst := some 6) H); exact nF; intro b6) | ((with_reducible apply st_strsum H); rfl; rfl; exact szF; kernel_rfl)); clear H; intro wn H; simp only [Act.put, yA, yB, yC, yD, yE, yF]) | ((with_reducible apply st_loadat H); decide +kernel; rfl; exact aF; exact zF; rfl; clear H; intro wn H; simp only [Act.put, yA, yB, yC, yD, yE, yF]) | ((with_reducible apply st_storerow H); rfl; exact eF; (first | exact cells_agg _ | exact cellI | exact cellS | exact cellB | exact (rfl : _ = [_])); exact uF; kernel_rfl; exact Nat.succ_pos _; exact fitF; rfl; clear H; intro wn H; simp only [Act.put, yA, yB, yC, yD, yE, yF]) | ((first | (go_at_call 43; refine gvF (c1 _ H.below) H ?_) | (go_at_call 44; refine gvF (c2 _) H ?_)); clear H; intro wn H) | fail)
    go_ret
    exact ⟨by rw [HI2.out]; rfl, H.below⟩
  by_cases h60 : n ≤ 60
  case neg =>
    have h5 : (60 : Int) < n := by omega
    have HI2 : Hid (z = false) := Lib.hid (by rw [hst]; simp [h60])
    clear hst
    go_enter Tryz.func13, Tryz.ntmps13
    go_wp2_with (first | ((first | ((with_reducible refine st_gwT ?_ ?_); rfl) | ((with_reducible refine st_gwF ?_ ?_); rfl) | ((with_reducible refine st_gsT ?_ ?_); rfl) | ((with_reducible refine st_gsF ?_ ?_); rfl)); (try simp only [Act.put, yA, yB, yC, yD, yE, yF])) | ((with_reducible refine' st_guard ?_ ?_ ?_); rotate_left; rfl; (all_goals (intro hgd; cases hgd)); (try simp only [Act.put, yA, yB, yC, yD, yE, yF])) | ((with_reducible apply st_want); rfl) | ((with_reducible refine st_skip ?_ ?_); rfl; simp only [Act.put, yA, yB, yC, yD, yE, yF]) | ((first | ((with_reducible apply st_load1 H); decide +kernel; rfl; exact cF) | ((with_reducible apply st_loads H); decide +kernel; rfl; exact iF; exact zF; rfl) | ((with_reducible apply st_store H); rfl; exact eF; (focus (exact cells_agg _)); exact uF; kernel_rfl; (focus (exact Nat.le_of_ble_eq_true (by rfl))); (focus (first | rfl | simp))) | ((with_reducible apply st_storeown H); rfl; exact eF; (focus (exact (rfl : _ = [_]))); exact uF; (focus omega); kernel_rfl; rfl)); clear H; intro wn H; (try simp only [splice, yG, yH, yI, yJ, yK, yL, yM, yN, yO, yP, yQ, Nat.reduceAdd, yA, yB, yC] at H); simp only [Act.put, yA, yB, yC, yD, yE, yF]) | ((first | ((with_reducible apply st_box (dst := some 2) H); exact nF; intro b2) | ((with_reducible apply st_alloc (dst := some 6) H); exact nF; intro b6) | ((with_reducible apply st_strsum H); rfl; rfl; exact szF; kernel_rfl)); clear H; intro wn H; simp only [Act.put, yA, yB, yC, yD, yE, yF]) | ((with_reducible apply st_loadat H); decide +kernel; rfl; exact aF; exact zF; rfl; clear H; intro wn H; simp only [Act.put, yA, yB, yC, yD, yE, yF]) | ((with_reducible apply st_storerow H); rfl; exact eF; (first | exact cells_agg _ | exact cellI | exact cellS | exact cellB | exact (rfl : _ = [_])); exact uF; kernel_rfl; exact Nat.succ_pos _; exact fitF; rfl; clear H; intro wn H; simp only [Act.put, yA, yB, yC, yD, yE, yF]) | ((first | (go_at_call 43; refine gvF (c1 _ H.below) H ?_) | (go_at_call 44; refine gvF (c2 _) H ?_)); clear H; intro wn H) | fail)
    go_ret
    exact ⟨by rw [HI2.out]; rfl, H.below⟩
  have h5 : ¬ (60 : Int) < n := by omega
  have HZ : Hid (z = allFrom f n 0) := Lib.hid (by rw [hst]; simp [h60])
  clear hst
  go_enter Tryz.func13, Tryz.ntmps13
  go_wp2_with (first | ((first | ((with_reducible refine st_gwT ?_ ?_); rfl) | ((with_reducible refine st_gwF ?_ ?_); rfl) | ((with_reducible refine st_gsT ?_ ?_); rfl) | ((with_reducible refine st_gsF ?_ ?_); rfl)); (try simp only [Act.put, yA, yB, yC, yD, yE, yF])) | ((with_reducible refine' st_guard ?_ ?_ ?_); rotate_left; rfl; (all_goals (intro hgd; cases hgd)); (try simp only [Act.put, yA, yB, yC, yD, yE, yF])) | ((with_reducible apply st_want); rfl) | ((with_reducible refine st_skip ?_ ?_); rfl; simp only [Act.put, yA, yB, yC, yD, yE, yF]) | ((first | ((with_reducible apply st_load1 H); decide +kernel; rfl; exact cF) | ((with_reducible apply st_loads H); decide +kernel; rfl; exact iF; exact zF; rfl) | ((with_reducible apply st_store H); rfl; exact eF; (focus (exact cells_agg _)); exact uF; kernel_rfl; (focus (exact Nat.le_of_ble_eq_true (by rfl))); (focus (first | rfl | simp))) | ((with_reducible apply st_storeown H); rfl; exact eF; (focus (exact (rfl : _ = [_]))); exact uF; (focus omega); kernel_rfl; rfl)); clear H; intro wn H; (try simp only [splice, yG, yH, yI, yJ, yK, yL, yM, yN, yO, yP, yQ, Nat.reduceAdd, yA, yB, yC] at H); simp only [Act.put, yA, yB, yC, yD, yE, yF]) | ((first | ((with_reducible apply st_box (dst := some 2) H); exact nF; intro b2) | ((with_reducible apply st_alloc (dst := some 6) H); exact nF; intro b6) | ((with_reducible apply st_strsum H); rfl; rfl; exact szF; kernel_rfl)); clear H; intro wn H; simp only [Act.put, yA, yB, yC, yD, yE, yF]) | ((with_reducible apply st_loadat H); decide +kernel; rfl; exact aF; exact zF; rfl; clear H; intro wn H; simp only [Act.put, yA, yB, yC, yD, yE, yF]) | ((with_reducible apply st_storerow H); rfl; exact eF; (first | exact cells_agg _ | exact cellI | exact cellS | exact cellB | exact (rfl : _ = [_])); exact uF; kernel_rfl; exact Nat.succ_pos _; exact fitF; rfl; clear H; intro wn H; simp only [Act.put, yA, yB, yC, yD, yE, yF]) | ((first | (go_at_call 43; refine gvF (c1 _ H.below) H ?_) | (go_at_call 44; refine gvF (c2 _) H ?_)); clear H; intro wn H) | fail)
  go_loopg [17] n (fun m iv wr => ∃ (i : Nat), i + m = n ∧ iv = .int .i64 i ∧ Hid (z = allFrom f n i) ∧ Hs noRow w [] wr)
  case atStart => exact ⟨0, by omega, rfl, HZ, H.sel sF⟩
  case round =>
    clear H
    obtain ⟨i, hi, rfl, HI, H⟩ := hrel
    by_cases hlt : i < n
    · obtain ⟨x, hx⟩ : ∃ x, l[i]? = some x := ⟨l[i]'(by rw [← HN.out]; exact hlt), List.getElem?_eq_getElem (by rw [← HN.out]; exact hlt)⟩
      have hs := sl_at (by have := HR.out; rw [HN.out] at this; exact this) hx
      rw [← HN.out] at hs
      obtain ⟨b, off, c', cs, hv, hcs, hA⟩ := hs
      injection hv with hv1 hv2 hv3
      subst hv1 hv3
      obtain ⟨rfl, hox⟩ := hcs
      have hfi : f i = stepOk x := by rw [HF.out]; unfold stepIn; rw [hx]
      have hstep := HI.out
      rw [allFrom_step hlt, hfi] at hstep
      have c2 := fun w1 => stepRight_i x hox w1
      have hlt1 : (i : Int) < n := by omega
      unfold encStp at hA c2
      clear hx hv2 hfi HI hox
      generalize stepOk x = z2 at *
      cases z2
      case false =>
        have HI2 : Hid (z = false) := Lib.hid (by rw [hstep]; simp)
        clear hstep
        go_wp2_with (first | ((first | ((with_reducible refine st_gwT ?_ ?_); rfl) | ((with_reducible refine st_gwF ?_ ?_); rfl) | ((with_reducible refine st_gsT ?_ ?_); rfl) | ((with_reducible refine st_gsF ?_ ?_); rfl)); (try simp only [Act.put, yA, yB, yC, yD, yE, yF])) | ((with_reducible refine' st_guard ?_ ?_ ?_); rotate_left; rfl; (all_goals (intro hgd; cases hgd)); (try simp only [Act.put, yA, yB, yC, yD, yE, yF])) | ((with_reducible apply st_want); rfl) | ((with_reducible refine st_skip ?_ ?_); rfl; simp only [Act.put, yA, yB, yC, yD, yE, yF]) | ((first | ((with_reducible apply st_load1 H); decide +kernel; rfl; exact cF) | ((with_reducible apply st_loads H); decide +kernel; rfl; exact iF; exact zF; rfl) | ((with_reducible apply st_store H); rfl; exact eF; (focus (exact cells_agg _)); exact uF; kernel_rfl; (focus (exact Nat.le_of_ble_eq_true (by rfl))); (focus (first | rfl | simp))) | ((with_reducible apply st_storeown H); rfl; exact eF; (focus (exact (rfl : _ = [_]))); exact uF; (focus omega); kernel_rfl; rfl)); clear H; intro wn H; (try simp only [splice, yG, yH, yI, yJ, yK, yL, yM, yN, yO, yP, yQ, Nat.reduceAdd, yA, yB, yC] at H); simp only [Act.put, yA, yB, yC, yD, yE, yF]) | ((first | ((with_reducible apply st_box (dst := some 2) H); exact nF; intro b2) | ((with_reducible apply st_alloc (dst := some 6) H); exact nF; intro b6) | ((with_reducible apply st_strsum H); rfl; rfl; exact szF; kernel_rfl)); clear H; intro wn H; simp only [Act.put, yA, yB, yC, yD, yE, yF]) | ((with_reducible apply st_loadat H); decide +kernel; rfl; exact aF; exact zF; rfl; clear H; intro wn H; simp only [Act.put, yA, yB, yC, yD, yE, yF]) | ((with_reducible apply st_storerow H); rfl; exact eF; (first | exact cells_agg _ | exact cellI | exact cellS | exact cellB | exact (rfl : _ = [_])); exact uF; kernel_rfl; exact Nat.succ_pos _; exact fitF; rfl; clear H; intro wn H; simp only [Act.put, yA, yB, yC, yD, yE, yF]) | ((first | (go_at_call 43; refine gvF (c1 _ H.below) H ?_) | (go_at_call 44; refine gvF (c2 _) H ?_)); clear H; intro wn H) | fail)
        go_ret
        exact ⟨by rw [HI2.out]; rfl, H.below⟩
      case true =>
        have HI2 : Hid (z = allFrom f n (i + 1)) := Lib.hid (by rw [hstep]; simp)
        clear hstep
        go_wp2_with (first | ((first | ((with_reducible refine st_gwT ?_ ?_); rfl) | ((with_reducible refine st_gwF ?_ ?_); rfl) | ((with_reducible refine st_gsT ?_ ?_); rfl) | ((with_reducible refine st_gsF ?_ ?_); rfl)); (try simp only [Act.put, yA, yB, yC, yD, yE, yF])) | ((with_reducible refine' st_guard ?_ ?_ ?_); rotate_left; rfl; (all_goals (intro hgd; cases hgd)); (try simp only [Act.put, yA, yB, yC, yD, yE, yF])) | ((with_reducible apply st_want); rfl) | ((with_reducible refine st_skip ?_ ?_); rfl; simp only [Act.put, yA, yB, yC, yD, yE, yF]) | ((first | ((with_reducible apply st_load1 H); decide +kernel; rfl; exact cF) | ((with_reducible apply st_loads H); decide +kernel; rfl; exact iF; exact zF; rfl) | ((with_reducible apply st_store H); rfl; exact eF; (focus (exact cells_agg _)); exact uF; kernel_rfl; (focus (exact Nat.le_of_ble_eq_true (by rfl))); (focus (first | rfl | simp))) | ((with_reducible apply st_storeown H); rfl; exact eF; (focus (exact (rfl : _ = [_]))); exact uF; (focus omega); kernel_rfl; rfl)); clear H; intro wn H; (try simp only [splice, yG, yH, yI, yJ, yK, yL, yM, yN, yO, yP, yQ, Nat.reduceAdd, yA, yB, yC] at H); simp only [Act.put, yA, yB, yC, yD, yE, yF]) | ((first | ((with_reducible apply st_box (dst := some 2) H); exact nF; intro b2) | ((with_reducible apply st_alloc (dst := some 6) H); exact nF; intro b6) | ((with_reducible apply st_strsum H); rfl; rfl; exact szF; kernel_rfl)); clear H; intro wn H; simp only [Act.put, yA, yB, yC, yD, yE, yF]) | ((with_reducible apply st_loadat H); decide +kernel; rfl; exact aF; exact zF; rfl; clear H; intro wn H; simp only [Act.put, yA, yB, yC, yD, yE, yF]) | ((with_reducible apply st_storerow H); rfl; exact eF; (first | exact cells_agg _ | exact cellI | exact cellS | exact cellB | exact (rfl : _ = [_])); exact uF; kernel_rfl; exact Nat.succ_pos _; exact fitF; rfl; clear H; intro wn H; simp only [Act.put, yA, yB, yC, yD, yE, yF]) | ((first | (go_at_call 43; refine gvF (c1 _ H.below) H ?_) | (go_at_call 44; refine gvF (c2 _) H ?_)); clear H; intro wn H) | fail)
        go_roundg (n - (i + 1))
        case measure => omega
        case rel => exact ⟨i + 1, by omega, by go_num, HI2, H.sel sF⟩
    · obtain rfl : i = n := by omega
      have hlt1 : ¬ (i : Int) < i := by omega
      have hz := HI.out
      rw [allFrom_end (Nat.le_refl _)] at hz
      have HI2 := Lib.hid hz
      clear hz HI HZ
      go_wp2_with (first | ((first | ((with_reducible refine st_gwT ?_ ?_); rfl) | ((with_reducible refine st_gwF ?_ ?_); rfl) | ((with_reducible refine st_gsT ?_ ?_); rfl) | ((with_reducible refine st_gsF ?_ ?_); rfl)); (try simp only [Act.put, yA, yB, yC, yD, yE, yF])) | ((with_reducible refine' st_guard ?_ ?_ ?_); rotate_left; rfl; (all_goals (intro hgd; cases hgd)); (try simp only [Act.put, yA, yB, yC, yD, yE, yF])) | ((with_reducible apply st_want); rfl) | ((with_reducible refine st_skip ?_ ?_); rfl; simp only [Act.put, yA, yB, yC, yD, yE, yF]) | ((first | ((with_reducible apply st_load1 H); decide +kernel; rfl; exact cF) | ((with_reducible apply st_loads H); decide +kernel; rfl; exact iF; exact zF; rfl) | ((with_reducible apply st_store H); rfl; exact eF; (focus (exact cells_agg _)); exact uF; kernel_rfl; (focus (exact Nat.le_of_ble_eq_true (by rfl))); (focus (first | rfl | simp))) | ((with_reducible apply st_storeown H); rfl; exact eF; (focus (exact (rfl : _ = [_]))); exact uF; (focus omega); kernel_rfl; rfl)); clear H; intro wn H; (try simp only [splice, yG, yH, yI, yJ, yK, yL, yM, yN, yO, yP, yQ, Nat.reduceAdd, yA, yB, yC] at H); simp only [Act.put, yA, yB, yC, yD, yE, yF]) | ((first | ((with_reducible apply st_box (dst := some 2) H); exact nF; intro b2) | ((with_reducible apply st_alloc (dst := some 6) H); exact nF; intro b6) | ((with_reducible apply st_strsum H); rfl; rfl; exact szF; kernel_rfl)); clear H; intro wn H; simp only [Act.put, yA, yB, yC, yD, yE, yF]) | ((with_reducible apply st_loadat H); decide +kernel; rfl; exact aF; exact zF; rfl; clear H; intro wn H; simp only [Act.put, yA, yB, yC, yD, yE, yF]) | ((with_reducible apply st_storerow H); rfl; exact eF; (first | exact cells_agg _ | exact cellI | exact cellS | exact cellB | exact (rfl : _ = [_])); exact uF; kernel_rfl; exact Nat.succ_pos _; exact fitF; rfl; clear H; intro wn H; simp only [Act.put, yA, yB, yC, yD, yE, yF]) | ((first | (go_at_call 43; refine gvF (c1 _ H.below) H ?_) | (go_at_call 44; refine gvF (c2 _) H ?_)); clear H; intro wn H) | fail)
      go_ret
      exact ⟨by rw [HI2.out]; rfl, H.below⟩
set_option maxRecDepth 100000 in
set_option maxHeartbeats 4000000 in
theorem stepsRight_s (c : Cfg) (cs : List Value) (v : Value) (l : List Stp) (w : World) (hrc : tyCfg.rd w cs c) (hr : (Ty.sl 82 tyStp).rd w [v] l) : Gives Tryz.prog 10 #[.agg cs.toArray, v] w (.bool (stepsOk c l)) := by
  have c1 := fun w1 hb => configRight_s c cs w1 (Ty.below _ hrc hb)
  obtain ⟨v1, v2, v3, rfl, h1, h2, h3⟩ := cfg_form hrc
  obtain ⟨nd, pr, qt, hf⟩ := c
  replace c1 : ∀ w1, Below w.heap.size w w1 → Gives Tryz.prog 37 #[.agg #[v1, v2, v3, .int .i64 hf]] w1 (.bool (cfgOk (nd, pr, qt, hf))) := c1
  show Gives Tryz.prog _ #[.agg #[v1, v2, v3, .int .i64 hf], v] w _
  obtain ⟨z, hz⟩ : ∃ z, z = stepsOk (nd, pr, qt, hf) l := ⟨_, rfl⟩
  rw [← hz]
  obtain ⟨A, ca, rfl, hlc, hcm⟩ := sl_form hr
  unfold maxLen at hcm
  have HR := Lib.hid hr
  obtain ⟨n, hn⟩ : ∃ n, n = l.length := ⟨_, rfl⟩
  have hnl : n ≤ 9223372036854775807 := by omega
  have hst : z = (cfgOk (nd, pr, qt, hf) && (decide (n ≤ 60) && allFrom (stepIn l) n 0)) := by rw [hz, hn]; rfl
  rw [← hn] at HR ⊢
  have HN := Lib.hid hn
  clear hr h1 h2 h3 hrc hlc hcm hn hz
  generalize cfgOk (nd, pr, qt, hf) = z1 at *
  obtain ⟨f, hf'⟩ : ∃ f, f = stepIn l := ⟨_, rfl⟩
  rw [← hf'] at hst
  have HF := Lib.hid hf'
  clear hf'
  have H := Hs.start noRow w
  unfold Gives
  by_cases h60 : n ≤ 60
  case neg =>
    have h5 : (60 : Int) < n := by omega
    have HI2 : Hid (z = false) := Lib.hid (by rw [hst]; simp [h60])
    clear hst
    go_enter Tryz.func10, Tryz.ntmps10
    go_wp2_with (first | ((first | ((with_reducible refine st_gwT ?_ ?_); rfl) | ((with_reducible refine st_gwF ?_ ?_); rfl) | ((with_reducible refine st_gsT ?_ ?_); rfl) | ((with_reducible refine st_gsF ?_ ?_); rfl)); (try simp only [Act.put, yA, yB, yC, yD, yE, yF])) | ((with_reducible refine' st_guard ?_ ?_ ?_); rotate_left; rfl; (all_goals (intro hgd; cases hgd)); (try simp only [Act.put, yA, yB, yC, yD, yE, yF])) | ((with_reducible apply st_want); rfl) | ((with_reducible refine st_skip ?_ ?_); rfl; simp only [Act.put, yA, yB, yC, yD, yE, yF]) | ((first | ((with_reducible apply st_load1 H); decide +kernel; rfl; exact cF) | ((with_reducible apply st_loads H); decide +kernel; rfl; exact iF; exact zF; rfl) | ((with_reducible apply st_store H); rfl; exact eF; (focus (exact cells_agg _)); exact uF; kernel_rfl; (focus (exact Nat.le_of_ble_eq_true (by rfl))); (focus (first | rfl | simp))) | ((with_reducible apply st_storeown H); rfl; exact eF; (focus (exact (rfl : _ = [_]))); exact uF; (focus omega); kernel_rfl; rfl)); clear H; intro wn H; (try simp only [splice, yG, yH, yI, yJ, yK, yL, yM, yN, yO, yP, yQ, Nat.reduceAdd, yA, yB, yC] at H); simp only [Act.put, yA, yB, yC, yD, yE, yF]) | ((first | ((with_reducible apply st_box (dst := some 2) H); exact nF; intro b2) | ((with_reducible apply st_strsum H); rfl; rfl; exact szF; kernel_rfl)); clear H; intro wn H; simp only [Act.put, yA, yB, yC, yD, yE, yF]) | ((with_reducible apply st_loadat H); decide +kernel; rfl; exact aF; exact zF; rfl; clear H; intro wn H; simp only [Act.put, yA, yB, yC, yD, yE, yF]) | ((first | (go_at_call 37; refine gvF (c1 _ H.below) H ?_) | (go_at_call 38; refine gvF (c2 _) H ?_)); clear H; intro wn H) | fail)
    go_ret
    exact ⟨by rw [HI2.out]; rfl, H.below⟩
  have h5 : ¬ (60 : Int) < n := by omega
  cases z1
  case false =>
    have HI2 : Hid (z = false) := Lib.hid (by rw [hst]; simp)
    clear hst
    go_enter Tryz.func10, Tryz.ntmps10
    go_wp2_with (first | ((first | ((with_reducible refine st_gwT ?_ ?_); rfl) | ((with_reducible refine st_gwF ?_ ?_); rfl) | ((with_reducible refine st_gsT ?_ ?_); rfl) | ((with_reducible refine st_gsF ?_ ?_); rfl)); (try simp only [Act.put, yA, yB, yC, yD, yE, yF])) | ((with_reducible refine' st_guard ?_ ?_ ?_); rotate_left; rfl; (all_goals (intro hgd; cases hgd)); (try simp only [Act.put, yA, yB, yC, yD, yE, yF])) | ((with_reducible apply st_want); rfl) | ((with_reducible refine st_skip ?_ ?_); rfl; simp only [Act.put, yA, yB, yC, yD, yE, yF]) | ((first | ((with_reducible apply st_load1 H); decide +kernel; rfl; exact cF) | ((with_reducible apply st_loads H); decide +kernel; rfl; exact iF; exact zF; rfl) | ((with_reducible apply st_store H); rfl; exact eF; (focus (exact cells_agg _)); exact uF; kernel_rfl; (focus (exact Nat.le_of_ble_eq_true (by rfl))); (focus (first | rfl | simp))) | ((with_reducible apply st_storeown H); rfl; exact eF; (focus (exact (rfl : _ = [_]))); exact uF; (focus omega); kernel_rfl; rfl)); clear H; intro wn H; (try simp only [splice, yG, yH, yI, yJ, yK, yL, yM, yN, yO, yP, yQ, Nat.reduceAdd, yA, yB, yC] at H); simp only [Act.put, yA, yB, yC, yD, yE, yF]) | ((first | ((with_reducible apply st_box (dst := some 2) H); exact nF; intro b2) | ((with_reducible apply st_strsum H); rfl; rfl; exact szF; kernel_rfl)); clear H; intro wn H; simp only [Act.put, yA, yB, yC, yD, yE, yF]) | ((with_reducible apply st_loadat H); decide +kernel; rfl; exact aF; exact zF; rfl; clear H; intro wn H; simp only [Act.put, yA, yB, yC, yD, yE, yF]) | ((first | (go_at_call 37; refine gvF (c1 _ H.below) H ?_) | (go_at_call 38; refine gvF (c2 _) H ?_)); clear H; intro wn H) | fail)
    go_ret
    exact ⟨by rw [HI2.out]; rfl, H.below⟩
  have HZ : Hid (z = allFrom f n 0) := Lib.hid (by rw [hst]; simp [h60])
  clear hst
  go_enter Tryz.func10, Tryz.ntmps10
  go_wp2_with (first | ((first | ((with_reducible refine st_gwT ?_ ?_); rfl) | ((with_reducible refine st_gwF ?_ ?_); rfl) | ((with_reducible refine st_gsT ?_ ?_); rfl) | ((with_reducible refine st_gsF ?_ ?_); rfl)); (try simp only [Act.put, yA, yB, yC, yD, yE, yF])) | ((with_reducible refine' st_guard ?_ ?_ ?_); rotate_left; rfl; (all_goals (intro hgd; cases hgd)); (try simp only [Act.put, yA, yB, yC, yD, yE, yF])) | ((with_reducible apply st_want); rfl) | ((with_reducible refine st_skip ?_ ?_); rfl; simp only [Act.put, yA, yB, yC, yD, yE, yF]) | ((first | ((with_reducible apply st_load1 H); decide +kernel; rfl; exact cF) | ((with_reducible apply st_loads H); decide +kernel; rfl; exact iF; exact zF; rfl) | ((with_reducible apply st_store H); rfl; exact eF; (focus (exact cells_agg _)); exact uF; kernel_rfl; (focus (exact Nat.le_of_ble_eq_true (by rfl))); (focus (first | rfl | simp))) | ((with_reducible apply st_storeown H); rfl; exact eF; (focus (exact (rfl : _ = [_]))); exact uF; (focus omega); kernel_rfl; rfl)); clear H; intro wn H; (try simp only [splice, yG, yH, yI, yJ, yK, yL, yM, yN, yO, yP, yQ, Nat.reduceAdd, yA, yB, yC] at H); simp only [Act.put, yA, yB, yC, yD, yE, yF]) | ((first | ((with_reducible apply st_box (dst := some 2) H); exact nF; intro b2) | ((with_reducible apply st_strsum H); rfl; rfl; exact szF; kernel_rfl)); clear H; intro wn H; simp only [Act.put, yA, yB, yC, yD, yE, yF]) | ((with_reducible apply st_loadat H); decide +kernel; rfl; exact aF; exact zF; rfl; clear H; intro wn H; simp only [Act.put, yA, yB, yC, yD, yE, yF]) | ((first | (go_at_call 37; refine gvF (c1 _ H.below) H ?_) | (go_at_call 38; refine gvF (c2 _) H ?_)); clear H; intro wn H) | fail)
  go_loopg [5] n (fun m iv wr => ∃ (i : Nat), i + m = n ∧ iv = .int .i64 i ∧ Hid (z = allFrom f n i) ∧ Hs noRow w [] wr)
  case atStart => exact ⟨0, by omega, rfl, HZ, H.sel sF⟩
  case round =>
    clear H
    obtain ⟨i, hi, rfl, HI, H⟩ := hrel
    by_cases hlt : i < n
    · obtain ⟨x, hx⟩ : ∃ x, l[i]? = some x := ⟨l[i]'(by rw [← HN.out]; exact hlt), List.getElem?_eq_getElem (by rw [← HN.out]; exact hlt)⟩
      have hs := sl_at (by have := HR.out; rw [HN.out] at this; exact this) hx
      rw [← HN.out] at hs
      obtain ⟨b, off, c', cs, hv, hcs, hA⟩ := hs
      injection hv with hv1 hv2 hv3
      subst hv1 hv3
      obtain ⟨rfl, hox⟩ := hcs
      have hfi : f i = stepOk x := by rw [HF.out]; unfold stepIn; rw [hx]
      have hstep := HI.out
      rw [allFrom_step hlt, hfi] at hstep
      have hso : stepOk x = (opB x && (powOk x.2 && (!(x.1.k == 17) || x.2 == -1))) := rfl
      have c2 := fun w1 => l20Step_s x hox w1
      have hlt1 : (i : Int) < n := by omega
      obtain ⟨⟨sys, l1, l2, k, ow, a, b5, d, e, m1, m2, af⟩, p⟩ := x
      have h6 : w.cell? ⟨b, off + i * 13 + 3, none⟩ = some (.int .i64 k) := hA 3 _ rfl
      have h7 : w.cell? ⟨b, off + i * 13 + 12, none⟩ = some (.int .i64 p) := hA 12 _ rfl
      unfold encStp at hA c2
      rw [hso] at hstep
      simp only at hstep c2 hA
      clear hx hv2 hfi HI hox hso
      generalize opB _ = z2 at *
      generalize powOk p = z3 at *
      cases z2
      case false =>
        have HI2 : Hid (z = false) := Lib.hid (by rw [hstep]; simp)
        clear hstep
        go_wp2_with (first | ((first | ((with_reducible refine st_gwT ?_ ?_); rfl) | ((with_reducible refine st_gwF ?_ ?_); rfl) | ((with_reducible refine st_gsT ?_ ?_); rfl) | ((with_reducible refine st_gsF ?_ ?_); rfl)); (try simp only [Act.put, yA, yB, yC, yD, yE, yF])) | ((with_reducible refine' st_guard ?_ ?_ ?_); rotate_left; rfl; (all_goals (intro hgd; cases hgd)); (try simp only [Act.put, yA, yB, yC, yD, yE, yF])) | ((with_reducible apply st_want); rfl) | ((with_reducible refine st_skip ?_ ?_); rfl; simp only [Act.put, yA, yB, yC, yD, yE, yF]) | ((first | ((with_reducible apply st_load1 H); decide +kernel; rfl; exact cF) | ((with_reducible apply st_loads H); decide +kernel; rfl; exact iF; exact zF; rfl) | ((with_reducible apply st_store H); rfl; exact eF; (focus (exact cells_agg _)); exact uF; kernel_rfl; (focus (exact Nat.le_of_ble_eq_true (by rfl))); (focus (first | rfl | simp))) | ((with_reducible apply st_storeown H); rfl; exact eF; (focus (exact (rfl : _ = [_]))); exact uF; (focus omega); kernel_rfl; rfl)); clear H; intro wn H; (try simp only [splice, yG, yH, yI, yJ, yK, yL, yM, yN, yO, yP, yQ, Nat.reduceAdd, yA, yB, yC] at H); simp only [Act.put, yA, yB, yC, yD, yE, yF]) | ((first | ((with_reducible apply st_box (dst := some 2) H); exact nF; intro b2) | ((with_reducible apply st_strsum H); rfl; rfl; exact szF; kernel_rfl)); clear H; intro wn H; simp only [Act.put, yA, yB, yC, yD, yE, yF]) | ((with_reducible apply st_loadat H); decide +kernel; rfl; exact aF; exact zF; rfl; clear H; intro wn H; simp only [Act.put, yA, yB, yC, yD, yE, yF]) | ((first | (go_at_call 37; refine gvF (c1 _ H.below) H ?_) | (go_at_call 38; refine gvF (c2 _) H ?_)); clear H; intro wn H) | fail)
        go_ret
        exact ⟨by rw [HI2.out]; rfl, H.below⟩
      cases z3
      case false =>
        have HI2 : Hid (z = false) := Lib.hid (by rw [hstep]; simp)
        clear hstep
        go_wp2_with (first | ((first | ((with_reducible refine st_gwT ?_ ?_); rfl) | ((with_reducible refine st_gwF ?_ ?_); rfl) | ((with_reducible refine st_gsT ?_ ?_); rfl) | ((with_reducible refine st_gsF ?_ ?_); rfl)); (try simp only [Act.put, yA, yB, yC, yD, yE, yF])) | ((with_reducible refine' st_guard ?_ ?_ ?_); rotate_left; rfl; (all_goals (intro hgd; cases hgd)); (try simp only [Act.put, yA, yB, yC, yD, yE, yF])) | ((with_reducible apply st_want); rfl) | ((with_reducible refine st_skip ?_ ?_); rfl; simp only [Act.put, yA, yB, yC, yD, yE, yF]) | ((first | ((with_reducible apply st_load1 H); decide +kernel; rfl; exact cF) | ((with_reducible apply st_loads H); decide +kernel; rfl; exact iF; exact zF; rfl) | ((with_reducible apply st_store H); rfl; exact eF; (focus (exact cells_agg _)); exact uF; kernel_rfl; (focus (exact Nat.le_of_ble_eq_true (by rfl))); (focus (first | rfl | simp))) | ((with_reducible apply st_storeown H); rfl; exact eF; (focus (exact (rfl : _ = [_]))); exact uF; (focus omega); kernel_rfl; rfl)); clear H; intro wn H; (try simp only [splice, yG, yH, yI, yJ, yK, yL, yM, yN, yO, yP, yQ, Nat.reduceAdd, yA, yB, yC] at H); simp only [Act.put, yA, yB, yC, yD, yE, yF]) | ((first | ((with_reducible apply st_box (dst := some 2) H); exact nF; intro b2) | ((with_reducible apply st_strsum H); rfl; rfl; exact szF; kernel_rfl)); clear H; intro wn H; simp only [Act.put, yA, yB, yC, yD, yE, yF]) | ((with_reducible apply st_loadat H); decide +kernel; rfl; exact aF; exact zF; rfl; clear H; intro wn H; simp only [Act.put, yA, yB, yC, yD, yE, yF]) | ((first | (go_at_call 37; refine gvF (c1 _ H.below) H ?_) | (go_at_call 38; refine gvF (c2 _) H ?_)); clear H; intro wn H) | fail)
        go_ret
        exact ⟨by rw [HI2.out]; rfl, H.below⟩
      by_cases hk : k = 17
      · subst hk
        cases hp : (p == -1)
        · have HI2 : Hid (z = false) := Lib.hid (by rw [hstep, hp]; simp)
          have hp2 : (p != -1) = true := by simp only [bne, hp]; rfl
          clear hstep
          go_wp2_with (first | ((first | ((with_reducible refine st_gwT ?_ ?_); rfl) | ((with_reducible refine st_gwF ?_ ?_); rfl) | ((with_reducible refine st_gsT ?_ ?_); rfl) | ((with_reducible refine st_gsF ?_ ?_); rfl)); (try simp only [Act.put, yA, yB, yC, yD, yE, yF])) | ((with_reducible refine' st_guard ?_ ?_ ?_); rotate_left; rfl; (all_goals (intro hgd; cases hgd)); (try simp only [Act.put, yA, yB, yC, yD, yE, yF])) | ((with_reducible apply st_want); rfl) | ((with_reducible refine st_skip ?_ ?_); rfl; simp only [Act.put, yA, yB, yC, yD, yE, yF]) | ((first | ((with_reducible apply st_load1 H); decide +kernel; rfl; exact cF) | ((with_reducible apply st_loads H); decide +kernel; rfl; exact iF; exact zF; rfl) | ((with_reducible apply st_store H); rfl; exact eF; (focus (exact cells_agg _)); exact uF; kernel_rfl; (focus (exact Nat.le_of_ble_eq_true (by rfl))); (focus (first | rfl | simp))) | ((with_reducible apply st_storeown H); rfl; exact eF; (focus (exact (rfl : _ = [_]))); exact uF; (focus omega); kernel_rfl; rfl)); clear H; intro wn H; (try simp only [splice, yG, yH, yI, yJ, yK, yL, yM, yN, yO, yP, yQ, Nat.reduceAdd, yA, yB, yC] at H); simp only [Act.put, yA, yB, yC, yD, yE, yF]) | ((first | ((with_reducible apply st_box (dst := some 2) H); exact nF; intro b2) | ((with_reducible apply st_strsum H); rfl; rfl; exact szF; kernel_rfl)); clear H; intro wn H; simp only [Act.put, yA, yB, yC, yD, yE, yF]) | ((with_reducible apply st_loadat H); decide +kernel; rfl; exact aF; exact zF; rfl; clear H; intro wn H; simp only [Act.put, yA, yB, yC, yD, yE, yF]) | ((first | (go_at_call 37; refine gvF (c1 _ H.below) H ?_) | (go_at_call 38; refine gvF (c2 _) H ?_)); clear H; intro wn H) | fail)
          go_ret
          exact ⟨by rw [HI2.out]; rfl, H.below⟩
        · have HI2 : Hid (z = allFrom f n (i + 1)) := Lib.hid (by rw [hstep, hp]; simp)
          have hp2 : (p != -1) = false := by simp only [bne, hp]; rfl
          clear hstep
          go_wp2_with (first | ((first | ((with_reducible refine st_gwT ?_ ?_); rfl) | ((with_reducible refine st_gwF ?_ ?_); rfl) | ((with_reducible refine st_gsT ?_ ?_); rfl) | ((with_reducible refine st_gsF ?_ ?_); rfl)); (try simp only [Act.put, yA, yB, yC, yD, yE, yF])) | ((with_reducible refine' st_guard ?_ ?_ ?_); rotate_left; rfl; (all_goals (intro hgd; cases hgd)); (try simp only [Act.put, yA, yB, yC, yD, yE, yF])) | ((with_reducible apply st_want); rfl) | ((with_reducible refine st_skip ?_ ?_); rfl; simp only [Act.put, yA, yB, yC, yD, yE, yF]) | ((first | ((with_reducible apply st_load1 H); decide +kernel; rfl; exact cF) | ((with_reducible apply st_loads H); decide +kernel; rfl; exact iF; exact zF; rfl) | ((with_reducible apply st_store H); rfl; exact eF; (focus (exact cells_agg _)); exact uF; kernel_rfl; (focus (exact Nat.le_of_ble_eq_true (by rfl))); (focus (first | rfl | simp))) | ((with_reducible apply st_storeown H); rfl; exact eF; (focus (exact (rfl : _ = [_]))); exact uF; (focus omega); kernel_rfl; rfl)); clear H; intro wn H; (try simp only [splice, yG, yH, yI, yJ, yK, yL, yM, yN, yO, yP, yQ, Nat.reduceAdd, yA, yB, yC] at H); simp only [Act.put, yA, yB, yC, yD, yE, yF]) | ((first | ((with_reducible apply st_box (dst := some 2) H); exact nF; intro b2) | ((with_reducible apply st_strsum H); rfl; rfl; exact szF; kernel_rfl)); clear H; intro wn H; simp only [Act.put, yA, yB, yC, yD, yE, yF]) | ((with_reducible apply st_loadat H); decide +kernel; rfl; exact aF; exact zF; rfl; clear H; intro wn H; simp only [Act.put, yA, yB, yC, yD, yE, yF]) | ((first | (go_at_call 37; refine gvF (c1 _ H.below) H ?_) | (go_at_call 38; refine gvF (c2 _) H ?_)); clear H; intro wn H) | fail)
          go_roundg (n - (i + 1))
          case measure => omega
          case rel => exact ⟨i + 1, by omega, by go_num, HI2, H.sel sF⟩
      · have q17 : (k == 17) = false := by simp; exact hk
        have HI2 : Hid (z = allFrom f n (i + 1)) := Lib.hid (by rw [hstep, q17]; simp)
        clear hstep
        go_wp2_with (first | ((first | ((with_reducible refine st_gwT ?_ ?_); rfl) | ((with_reducible refine st_gwF ?_ ?_); rfl) | ((with_reducible refine st_gsT ?_ ?_); rfl) | ((with_reducible refine st_gsF ?_ ?_); rfl)); (try simp only [Act.put, yA, yB, yC, yD, yE, yF])) | ((with_reducible refine' st_guard ?_ ?_ ?_); rotate_left; rfl; (all_goals (intro hgd; cases hgd)); (try simp only [Act.put, yA, yB, yC, yD, yE, yF])) | ((with_reducible apply st_want); rfl) | ((with_reducible refine st_skip ?_ ?_); rfl; simp only [Act.put, yA, yB, yC, yD, yE, yF]) | ((first | ((with_reducible apply st_load1 H); decide +kernel; rfl; exact cF) | ((with_reducible apply st_loads H); decide +kernel; rfl; exact iF; exact zF; rfl) | ((with_reducible apply st_store H); rfl; exact eF; (focus (exact cells_agg _)); exact uF; kernel_rfl; (focus (exact Nat.le_of_ble_eq_true (by rfl))); (focus (first | rfl | simp))) | ((with_reducible apply st_storeown H); rfl; exact eF; (focus (exact (rfl : _ = [_]))); exact uF; (focus omega); kernel_rfl; rfl)); clear H; intro wn H; (try simp only [splice, yG, yH, yI, yJ, yK, yL, yM, yN, yO, yP, yQ, Nat.reduceAdd, yA, yB, yC] at H); simp only [Act.put, yA, yB, yC, yD, yE, yF]) | ((first | ((with_reducible apply st_box (dst := some 2) H); exact nF; intro b2) | ((with_reducible apply st_strsum H); rfl; rfl; exact szF; kernel_rfl)); clear H; intro wn H; simp only [Act.put, yA, yB, yC, yD, yE, yF]) | ((with_reducible apply st_loadat H); decide +kernel; rfl; exact aF; exact zF; rfl; clear H; intro wn H; simp only [Act.put, yA, yB, yC, yD, yE, yF]) | ((first | (go_at_call 37; refine gvF (c1 _ H.below) H ?_) | (go_at_call 38; refine gvF (c2 _) H ?_)); clear H; intro wn H) | fail)
        go_roundg (n - (i + 1))
        case measure => omega
        case rel => exact ⟨i + 1, by omega, by go_num, HI2, H.sel sF⟩
    · obtain rfl : i = n := by omega
      have hlt1 : ¬ (i : Int) < i := by omega
      have hz := HI.out
      rw [allFrom_end (Nat.le_refl _)] at hz
      have HI2 := Lib.hid hz
      clear hz HI HZ
      go_wp2_with (first | ((first | ((with_reducible refine st_gwT ?_ ?_); rfl) | ((with_reducible refine st_gwF ?_ ?_); rfl) | ((with_reducible refine st_gsT ?_ ?_); rfl) | ((with_reducible refine st_gsF ?_ ?_); rfl)); (try simp only [Act.put, yA, yB, yC, yD, yE, yF])) | ((with_reducible refine' st_guard ?_ ?_ ?_); rotate_left; rfl; (all_goals (intro hgd; cases hgd)); (try simp only [Act.put, yA, yB, yC, yD, yE, yF])) | ((with_reducible apply st_want); rfl) | ((with_reducible refine st_skip ?_ ?_); rfl; simp only [Act.put, yA, yB, yC, yD, yE, yF]) | ((first | ((with_reducible apply st_load1 H); decide +kernel; rfl; exact cF) | ((with_reducible apply st_loads H); decide +kernel; rfl; exact iF; exact zF; rfl) | ((with_reducible apply st_store H); rfl; exact eF; (focus (exact cells_agg _)); exact uF; kernel_rfl; (focus (exact Nat.le_of_ble_eq_true (by rfl))); (focus (first | rfl | simp))) | ((with_reducible apply st_storeown H); rfl; exact eF; (focus (exact (rfl : _ = [_]))); exact uF; (focus omega); kernel_rfl; rfl)); clear H; intro wn H; (try simp only [splice, yG, yH, yI, yJ, yK, yL, yM, yN, yO, yP, yQ, Nat.reduceAdd, yA, yB, yC] at H); simp only [Act.put, yA, yB, yC, yD, yE, yF]) | ((first | ((with_reducible apply st_box (dst := some 2) H); exact nF; intro b2) | ((with_reducible apply st_strsum H); rfl; rfl; exact szF; kernel_rfl)); clear H; intro wn H; simp only [Act.put, yA, yB, yC, yD, yE, yF]) | ((with_reducible apply st_loadat H); decide +kernel; rfl; exact aF; exact zF; rfl; clear H; intro wn H; simp only [Act.put, yA, yB, yC, yD, yE, yF]) | ((first | (go_at_call 37; refine gvF (c1 _ H.below) H ?_) | (go_at_call 38; refine gvF (c2 _) H ?_)); clear H; intro wn H) | fail)
      go_ret
      exact ⟨by rw [HI2.out]; rfl, H.below⟩
end Go.Proofs.YtengmmffommafaaGreat
