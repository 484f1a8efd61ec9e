/-
  The law FnExactOpRead: the walk.
-/
import Derived.Test.YtffbcikfjdllcaaDoorQ5d
import Derived.Test.YtffbcikfjdllcaaDoorQ6
set_option linter.unusedSimpArgs false
set_option linter.unusedVariables false
namespace Go.Proofs.YtffbcikfjdllcaaDoor
open Go.RowKit M
set_option maxRecDepth 100000 in
set_option maxHeartbeats 4000000 in
theorem law_OpRead' (t : ByteArray) (w : World) (hE : Env w) : Gives Tryd.prog 5 #[.string t] w (.bool true) := by
  have hI := opRead_i t
  have hS := opRead_s t
  rw [read_same] at hI
  have HE := Lib.hid hE
  generalize (readS t.data.toList).1 = o at *
  generalize (readS t.data.toList).2 = e at *
  have hQ := eqOpOut_l o e
  have H := Hs.start noRow w
  clear hE
  unfold Gives
  obtain ⟨sys, l1, l2, k, ow, a, b, c, d, m1, m2, af⟩ := o
  unfold encOut at *
  by_cases h : (1048576 : Int) < t.size
  · go_enter Tryd.func5, Tryd.ntmps5
    go_wp2_with (first | ((with_reducible apply st_want); rfl) | ((with_reducible apply st_skip); rfl; simp only [Act.put, yA, yB, yC, yD, yE, yF]) | ((first | ((with_reducible apply st_load1 H); decide +kernel; rfl; exact cF) | ((with_reducible apply st_loads H); decide +kernel; rfl; exact iF; exact zF; rfl) | ((with_reducible apply st_store H); rfl; exact eF; (focus (exact cells_agg _)); exact uF; kernel_rfl; (focus (exact Nat.le_of_ble_eq_true (by rfl))); (focus (first | rfl | simp))) | ((with_reducible apply st_storeown H); rfl; exact eF; (focus (exact (rfl : _ = [_]))); exact uF; (focus omega); kernel_rfl; rfl)); clear H; intro wn H; (try simp only [splice, yG, yH, yI, yJ, yK, yL, yM, yN, yO, yP, yQ, Nat.reduceAdd, yA, yB, yC] at H); simp only [Act.put, yA, yB, yC, yD, yE, yF]) | ((first | ((with_reducible apply st_alloc (dst := some 3) H); exact nF; intro b3) | ((with_reducible apply st_alloc (dst := some 4) H); exact nF; intro b4) | ((with_reducible apply st_strsum H); rfl; rfl; exact szF; kernel_rfl)); clear H; intro wn H; simp only [Act.put, yA, yB, yC, yD, yE, yF]) | ((first | (go_at_call 14; refine gvF (hS _) H ?_) | (go_at_call 15; refine gvF (hI _ (HE.out.later H.below)) H ?_) | (go_at_call 16; refine gvF (hQ _) H ?_)); clear H; intro wn H) | fail)
    go_ret
    exact ⟨rfl, H.below⟩
  · go_enter Tryd.func5, Tryd.ntmps5
    go_wp2_with (first | ((with_reducible apply st_want); rfl) | ((with_reducible apply st_skip); rfl; simp only [Act.put, yA, yB, yC, yD, yE, yF]) | ((first | ((with_reducible apply st_load1 H); decide +kernel; rfl; exact cF) | ((with_reducible apply st_loads H); decide +kernel; rfl; exact iF; exact zF; rfl) | ((with_reducible apply st_store H); rfl; exact eF; (focus (exact cells_agg _)); exact uF; kernel_rfl; (focus (exact Nat.le_of_ble_eq_true (by rfl))); (focus (first | rfl | simp))) | ((with_reducible apply st_storeown H); rfl; exact eF; (focus (exact (rfl : _ = [_]))); exact uF; (focus omega); kernel_rfl; rfl)); clear H; intro wn H; (try simp only [splice, yG, yH, yI, yJ, yK, yL, yM, yN, yO, yP, yQ, Nat.reduceAdd, yA, yB, yC] at H); simp only [Act.put, yA, yB, yC, yD, yE, yF]) | ((first | ((with_reducible apply st_alloc (dst := some 3) H); exact nF; intro b3) | ((with_reducible apply st_alloc (dst := some 4) H); exact nF; intro b4) | ((with_reducible apply st_strsum H); rfl; rfl; exact szF; kernel_rfl)); clear H; intro wn H; simp only [Act.put, yA, yB, yC, yD, yE, yF]) | ((first | (go_at_call 14; refine gvF (hS _) H ?_) | (go_at_call 15; refine gvF (hI _ (HE.out.later H.below)) H ?_) | (go_at_call 16; refine gvF (hQ _) H ?_)); clear H; intro wn H) | fail)
    go_ret
    exact ⟨rfl, H.below⟩
end Go.Proofs.YtffbcikfjdllcaaDoor
