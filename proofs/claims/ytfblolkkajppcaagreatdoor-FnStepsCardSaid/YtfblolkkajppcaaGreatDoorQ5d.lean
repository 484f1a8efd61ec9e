/-
  OpRead of the program, whole.
-/
import Derived.Test.YtfblolkkajppcaaGreatDoorQ5a
import Derived.Test.YtfblolkkajppcaaGreatDoorQ5b
import Derived.Test.YtfblolkkajppcaaGreatDoorQ5c
set_option linter.unusedSimpArgs false
set_option linter.unusedVariables false
namespace Go.Proofs.YtfblolkkajppcaaGreatDoor
open Go.RowKit M
set_option maxRecDepth 100000 in
set_option maxHeartbeats 8000000 in
theorem opRead_i (t : ByteArray) (w : World) (hE : Env w) : Gives Tryz.prog 8 #[.string t] w (encOut (readI t.data.toList).1 (readI t.data.toList).2) := by
  have hsz := size_data t
  by_cases hl : 8000 < t.size
  · unfold Gives
    have H := Hs.start noRow w
    have hL := isLong_i t
    rw [decide_eq_true hl] at hL
    have HR : Hid (readI t.data.toList = (zeroO, 2)) := Lib.hid (by unfold readI; rw [if_pos (by omega)])
    clear hl hsz hE
    go_enter Tryz.func8, Tryz.ntmps8
    go_wp2_with (first | ((first | ((with_reducible refine st_gwT ?_ ?_); rfl) | ((with_reducible refine st_gwF ?_ ?_); rfl) | ((with_reducible refine st_gsT ?_ ?_); rfl) | ((with_reducible refine st_gsF ?_ ?_); rfl)); (try simp only [Act.put, yA, yB, yC, yD, yE, yF])) | ((with_reducible refine' st_guard ?_ ?_ ?_); rotate_left; rfl; (all_goals (intro hgd; cases hgd)); (try simp only [Act.put, yA, yB, yC, yD, yE, yF])) | ((with_reducible apply st_want); rfl) | ((with_reducible refine st_skip ?_ ?_); rfl; simp only [Act.put, yA, yB, yC, yD, yE, yF]) | ((first | ((with_reducible apply st_load1 H); decide +kernel; rfl; exact cF) | ((with_reducible apply st_loads H); decide +kernel; rfl; exact iF; exact zF; rfl) | ((with_reducible apply st_store H); rfl; exact eF; (focus (exact cells_agg _)); exact uF; kernel_rfl; (focus (exact Nat.le_of_ble_eq_true (by rfl))); (focus (first | rfl | simp))) | ((with_reducible apply st_storeown H); rfl; exact eF; (focus (exact (rfl : _ = [_]))); exact uF; (focus omega); kernel_rfl; rfl)); clear H; intro wn H; (try simp only [splice, yG, yH, yI, yJ, yK, yL, yM, yN, yO, yP, yQ, Nat.reduceAdd, yA, yB, yC] at H); simp only [Act.put, yA, yB, yC, yD, yE, yF]) | ((first | ((with_reducible apply st_alloc (dst := some 2) H); exact nF; intro b2) | ((with_reducible apply st_alloc (dst := some 3) H); exact nF; intro b3) | ((with_reducible apply st_strsum H); rfl; rfl; exact szF; kernel_rfl) | ((with_reducible apply st_bslice H); exact nsF; intro nb) | ((with_reducible apply st_loadat H); decide +kernel; rfl; exact aF; exact zF; rfl) | ((with_reducible apply st_storerow H); rfl; exact eF; (first | exact cells_agg _ | exact cellI | exact cellS | exact cellB | exact (rfl : _ = [_])); exact uF; kernel_rfl; exact Nat.succ_pos _; exact fitF; rfl)); clear H; intro wn H; simp only [Act.put, yA, yB, yC, yD, yE, yF]) | ((first | (go_at_call 33; refine gvF (hL _) H ?_)); clear H; intro wn H) | fail)
    refine bp_cell H rfl rfl iF (by kernel_rfl) (by kernel_rfl) rfl (by first | exact .inl rfl | exact .inr rfl) ?_
    rw [HR.out]
    exact ⟨rfl, H.below⟩
  · have hl' : t.size ≤ 8000 := by omega
    by_cases h1 : kindOf (getW (cut [] t.data.toList) 1) = 1
    · cases hA : aftB (cut [] t.data.toList)
      · exact opRead_i1n t hl' _ rfl h1 hA w hE
      · exact opRead_i1y t hl' _ rfl h1 hA w hE
    by_cases h7 : kindOf (getW (cut [] t.data.toList) 1) = 7
    · exact opRead_i7 t hl' _ rfl h7 w hE
    by_cases h13 : kindOf (getW (cut [] t.data.toList) 1) = 13
    · exact opRead_i13 t hl' _ rfl h13 w hE
    exact opRead_io t hl' _ rfl _ (by simpa using h1) (by simpa using h7) (by simpa using h13) rfl w hE
end Go.Proofs.YtfblolkkajppcaaGreatDoor
