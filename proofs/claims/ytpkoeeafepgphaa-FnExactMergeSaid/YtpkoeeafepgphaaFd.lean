/-
  The law of Merge: the walk.
-/
import Derived.Test.YtpkoeeafepgphaaFc
import Derived.Test.YtpkoeeafepgphaaFo
import Derived.Test.YtpkoeeafepgphaaFk
set_option linter.unusedSimpArgs false
set_option linter.unusedVariables false
namespace Go.Proofs.Ytpkoeeafepgphaa
open Go.ChangeShapes Go.WideShapes Go.ChangeAt Go.RowKit Go.Joins Go.Deep M
theorem sl_re {α : Type} {T : Ty α} {E F E2 F2 : TypeId} {w : World} {cs : List Value} {l : List (List α)} (h : (Ty.sl E (Ty.sl F T)).rd w cs l) : (Ty.sl E2 (Ty.sl F2 T)).rd w cs l := by
  obtain ⟨v', xs, e, hr, hl⟩ := h
  refine ⟨v', xs, e, hr, ?_⟩
  clear hr
  induction hl with
  | nil => exact .nil
  | cons h _ ih => exact .cons h ih
namespace M
theorem mergeL_len (l : List (List Fm)) : (mergeL l).length ≤ 1048576 := by
  unfold mergeL
  split
  · rename_i h
    unfold logsOk at h
    simp only [Bool.and_eq_true, decide_eq_true_eq] at h
    have := flatten_bd l h.2
    rw [(List.mergeSort_perm _ _).length_eq]
    omega
  · exact Nat.zero_le _
theorem cnt_Fm (l : List Fm) : mkFm.cntl l = 2 * l.length := by
  induction l with
  | nil => rfl
  | cons a l ih =>
    show 2 + mkFm.cntl l = _
    rw [ih, List.length_cons]; omega
theorem cnt_Fms (l : List (List Fm)) : mkFm.list.cntl l ≤ 2 * szFmll l := by
  unfold szFmll
  induction l with
  | nil => exact Nat.zero_le _
  | cons a l ih =>
    show mkFm.cntl a + mkFm.list.cntl l ≤ 2 * ((a :: l).length + (szFml a + mzFmS.cntl l))
    rw [cnt_Fm, List.length_cons]
    unfold szFml
    omega
end M
set_option maxRecDepth 100000 in
set_option maxHeartbeats 8000000 in
theorem law_Merge (u : Value) (l : List (List Fm)) (ho : ∀ x ∈ l, ∀ y ∈ x, okFm y) (w : World) (hr : (Ty.sl 24 (Ty.sl 37 tyFm)).rd w [u] l) :
    Gives Try.prog 3 #[u] w (.bool true) := by
  have hr0 : (Ty.sl 0 (Ty.sl 0 tyFm)).rd w [u] l := sl_re hr
  have c1 := fun w1 hb => Fz.szFrameSS_l u l 1048576 (by omega) ho w1 (Ty.below _ hr0 hb)
  have c3 := fun hs w1 hb => Fz.toFrameSS_l u l hs w1 (Ty.below _ hr0 hb)
  have c5 := fun v w1 h => merge_s v l w1 h
  have c6 := fun v w1 h => merge_i v l w1 h
  have hml := mergeL_len l
  have hcl := cnt_Fms l
  have hcm := cnt_Fm (mergeL l)
  generalize mergeL l = mo at *
  obtain ⟨A0, n0, rfl, _, _⟩ := sl_form hr
  clear hr ho hr0
  generalize l.length = ll at *
  have H := Hs.start noRow w
  unfold Gives
  by_cases hn1 : (1048576 : Int) - szFmll l < 0
  · rw [szC_neg hn1] at c1
    go_enter Try.func3, Try.ntmps3
    go_wp2_with (first | ((first | ((with_reducible refine st_gwT ?_ ?_); rfl) | ((with_reducible refine st_gwF ?_ ?_); rfl) | ((with_reducible refine st_gsT ?_ ?_); rfl) | ((with_reducible refine st_gsF ?_ ?_); rfl)); (try simp only [Act.put, yA, yB, yC, yD, yE, yF])) | ((with_reducible refine' st_guard ?_ ?_ ?_); rotate_left; rfl; (all_goals (intro hgd; cases hgd)); (try simp only [Act.put, yA, yB, yC, yD, yE, yF])) | ((with_reducible apply st_want); rfl) | ((with_reducible refine st_skip ?_ ?_); rfl; simp only [Act.put, yA, yB, yC, yD, yE, yF]) | ((first | ((with_reducible apply st_load1 H); decide +kernel; rfl; exact cF) | ((with_reducible apply st_loads H); decide +kernel; rfl; exact iF; exact zF; rfl)); clear H; intro wn H; (try simp only [splice, yG, yH, yI, yJ, yK, yL, yM, yN, yO, yP, yQ, Nat.reduceAdd, yA, yB, yC] at H); simp only [Act.put, yA, yB, yC, yD, yE, yF]) | ((first | ((with_reducible apply st_strsum H); rfl; rfl; exact szF; kernel_rfl)); clear H; intro wn H; simp only [Act.put, yA, yB, yC, yD, yE, yF]) | ((first | (go_at_call 5; refine gvF (c1 _ H.below) H ?_) | (go_at_call 9; refine gvF (Fz.eqFrameS_l _ _ mo _ (own_rd H iF o6) (own_rd H iF o4)) H ?_)); clear H; intro wn H) | fail)
    go_ret
    exact ⟨rfl, H.below⟩
  rw [szC_pos hn1] at c1
  have c8 := c3 (by omega)
  clear c3
  have cM1 := fun v => Fz.markFrameSS_l v l 1 (by omega)
  obtain ⟨k1, hk1e⟩ : ∃ k, k = 1 + mkFm.list.cntl l := ⟨_, rfl⟩
  rw [← hk1e] at cM1
  have cM3 := fun v => Fz.markFrameS_l v mo 1 (by omega)
  have cH := fun v w1 h => Fz.heldFrameS_l v mo 1 (by omega) w1 h
  obtain ⟨k3, hk3e⟩ : ∃ k, k = 1 + mkFm.cntl mo := ⟨_, rfl⟩
  rw [← hk3e] at cM3 cH
  generalize (1048576 : Int) - szFmll l = s2 at *
  have f2 : ¬ (k1 : Int) < 0 := by omega
  have f3 : ¬ (k3 : Int) < 0 := by omega
  have f4 : ((k3 : Int) != (k3 : Int)) = false := by simp
  clear hk1e hk3e hml hcl hcm
  go_enter Try.func3, Try.ntmps3
  go_wp2_with (first | ((first | ((with_reducible refine st_gwT ?_ ?_); rfl) | ((with_reducible refine st_gwF ?_ ?_); rfl) | ((with_reducible refine st_gsT ?_ ?_); rfl) | ((with_reducible refine st_gsF ?_ ?_); rfl)); (try simp only [Act.put, yA, yB, yC, yD, yE, yF])) | ((with_reducible refine' st_guard ?_ ?_ ?_); rotate_left; rfl; (all_goals (intro hgd; cases hgd)); (try simp only [Act.put, yA, yB, yC, yD, yE, yF])) | ((with_reducible apply st_want); rfl) | ((with_reducible refine st_skip ?_ ?_); rfl; simp only [Act.put, yA, yB, yC, yD, yE, yF]) | ((first | ((with_reducible apply st_load1 H); decide +kernel; rfl; exact cF) | ((with_reducible apply st_loads H); decide +kernel; rfl; exact iF; exact zF; rfl)); clear H; intro wn H; (try simp only [splice, yG, yH, yI, yJ, yK, yL, yM, yN, yO, yP, yQ, Nat.reduceAdd, yA, yB, yC] at H); simp only [Act.put, yA, yB, yC, yD, yE, yF]) | ((first | ((with_reducible apply st_strsum H); rfl; rfl; exact szF; kernel_rfl)); clear H; intro wn H; simp only [Act.put, yA, yB, yC, yD, yE, yF]) | ((first | (go_at_call 5; refine gvF (c1 _ H.below) H ?_) | (go_at_call 9; refine gvF (Fz.eqFrameS_l _ _ mo _ (own_rd H iF o6) (own_rd H iF o4)) H ?_)); clear H; intro wn H) | fail)
  refine (Rets.use (c8 _ H.below)).mono ?_; rintro e wn ⟨_, _, rfl, ⟨N1, o1', rfl, e1⟩, hkk⟩; have Hn := H.moreK (by intro k hk; first | exact absurd hk List.not_mem_nil | (obtain rfl := List.mem_singleton.1 hk; exact In.mem iF)) hkk; clear hkk; clear H; have H := Hn; clear Hn; (try simp only [yT, yV] at H)
  have o1 := own_single o1' e1 rfl
  clear o1' e1
  go_wp2_with (first | ((first | ((with_reducible refine st_gwT ?_ ?_); rfl) | ((with_reducible refine st_gwF ?_ ?_); rfl) | ((with_reducible refine st_gsT ?_ ?_); rfl) | ((with_reducible refine st_gsF ?_ ?_); rfl)); (try simp only [Act.put, yA, yB, yC, yD, yE, yF])) | ((with_reducible refine' st_guard ?_ ?_ ?_); rotate_left; rfl; (all_goals (intro hgd; cases hgd)); (try simp only [Act.put, yA, yB, yC, yD, yE, yF])) | ((with_reducible apply st_want); rfl) | ((with_reducible refine st_skip ?_ ?_); rfl; simp only [Act.put, yA, yB, yC, yD, yE, yF]) | ((first | ((with_reducible apply st_load1 H); decide +kernel; rfl; exact cF) | ((with_reducible apply st_loads H); decide +kernel; rfl; exact iF; exact zF; rfl)); clear H; intro wn H; (try simp only [splice, yG, yH, yI, yJ, yK, yL, yM, yN, yO, yP, yQ, Nat.reduceAdd, yA, yB, yC] at H); simp only [Act.put, yA, yB, yC, yD, yE, yF]) | ((first | ((with_reducible apply st_strsum H); rfl; rfl; exact szF; kernel_rfl)); clear H; intro wn H; simp only [Act.put, yA, yB, yC, yD, yE, yF]) | ((first | (go_at_call 5; refine gvF (c1 _ H.below) H ?_) | (go_at_call 9; refine gvF (Fz.eqFrameS_l _ _ mo _ (own_rd H iF o6) (own_rd H iF o4)) H ?_)); clear H; intro wn H) | fail)
  refine (Rets.use (c5 _ _ (own_rd H iF o1))).mono ?_; rintro e wn ⟨_, _, rfl, ⟨N4, o4', rfl, e4⟩, hkk⟩; have Hn := H.moreK (by intro k hk; first | exact absurd hk List.not_mem_nil | (obtain rfl := List.mem_singleton.1 hk; exact In.mem iF)) hkk; clear hkk; clear H; have H := Hn; clear Hn; (try simp only [yT, yV] at H)
  have o4 := own_single o4' e4 rfl
  clear o4' e4
  go_wp2_with (first | ((first | ((with_reducible refine st_gwT ?_ ?_); rfl) | ((with_reducible refine st_gwF ?_ ?_); rfl) | ((with_reducible refine st_gsT ?_ ?_); rfl) | ((with_reducible refine st_gsF ?_ ?_); rfl)); (try simp only [Act.put, yA, yB, yC, yD, yE, yF])) | ((with_reducible refine' st_guard ?_ ?_ ?_); rotate_left; rfl; (all_goals (intro hgd; cases hgd)); (try simp only [Act.put, yA, yB, yC, yD, yE, yF])) | ((with_reducible apply st_want); rfl) | ((with_reducible refine st_skip ?_ ?_); rfl; simp only [Act.put, yA, yB, yC, yD, yE, yF]) | ((first | ((with_reducible apply st_load1 H); decide +kernel; rfl; exact cF) | ((with_reducible apply st_loads H); decide +kernel; rfl; exact iF; exact zF; rfl)); clear H; intro wn H; (try simp only [splice, yG, yH, yI, yJ, yK, yL, yM, yN, yO, yP, yQ, Nat.reduceAdd, yA, yB, yC] at H); simp only [Act.put, yA, yB, yC, yD, yE, yF]) | ((first | ((with_reducible apply st_strsum H); rfl; rfl; exact szF; kernel_rfl)); clear H; intro wn H; simp only [Act.put, yA, yB, yC, yD, yE, yF]) | ((first | (go_at_call 5; refine gvF (c1 _ H.below) H ?_) | (go_at_call 9; refine gvF (Fz.eqFrameS_l _ _ mo _ (own_rd H iF o6) (own_rd H iF o4)) H ?_)); clear H; intro wn H) | fail)
  refine (Rets.use (c8 _ H.below)).mono ?_; rintro e wn ⟨_, _, rfl, ⟨N2, o2', rfl, e2⟩, hkk⟩; have Hn := H.moreK (by intro k hk; first | exact absurd hk List.not_mem_nil | (obtain rfl := List.mem_singleton.1 hk; exact In.mem iF)) hkk; clear hkk; clear H; have H := Hn; clear Hn; (try simp only [yT, yV] at H)
  have o2 := own_single o2' e2 rfl
  clear o2' e2
  go_wp2_with (first | ((first | ((with_reducible refine st_gwT ?_ ?_); rfl) | ((with_reducible refine st_gwF ?_ ?_); rfl) | ((with_reducible refine st_gsT ?_ ?_); rfl) | ((with_reducible refine st_gsF ?_ ?_); rfl)); (try simp only [Act.put, yA, yB, yC, yD, yE, yF])) | ((with_reducible refine' st_guard ?_ ?_ ?_); rotate_left; rfl; (all_goals (intro hgd; cases hgd)); (try simp only [Act.put, yA, yB, yC, yD, yE, yF])) | ((with_reducible apply st_want); rfl) | ((with_reducible refine st_skip ?_ ?_); rfl; simp only [Act.put, yA, yB, yC, yD, yE, yF]) | ((first | ((with_reducible apply st_load1 H); decide +kernel; rfl; exact cF) | ((with_reducible apply st_loads H); decide +kernel; rfl; exact iF; exact zF; rfl)); clear H; intro wn H; (try simp only [splice, yG, yH, yI, yJ, yK, yL, yM, yN, yO, yP, yQ, Nat.reduceAdd, yA, yB, yC] at H); simp only [Act.put, yA, yB, yC, yD, yE, yF]) | ((first | ((with_reducible apply st_strsum H); rfl; rfl; exact szF; kernel_rfl)); clear H; intro wn H; simp only [Act.put, yA, yB, yC, yD, yE, yF]) | ((first | (go_at_call 5; refine gvF (c1 _ H.below) H ?_) | (go_at_call 9; refine gvF (Fz.eqFrameS_l _ _ mo _ (own_rd H iF o6) (own_rd H iF o4)) H ?_)); clear H; intro wn H) | fail)
  refine (Rets.use (c6 _ _ (own_rd H iF o2))).mono ?_; rintro e wn ⟨_, _, rfl, ⟨N6, o6', rfl, e6⟩, hkk⟩; have Hn := H.moreK (by intro k hk; first | exact absurd hk List.not_mem_nil | (obtain rfl := List.mem_singleton.1 hk; exact In.mem iF)) hkk; clear hkk; clear H; have H := Hn; clear Hn; (try simp only [yT, yV] at H)
  have o6 := own_single o6' e6 rfl
  clear o6' e6
  go_wp2_with (first | ((first | ((with_reducible refine st_gwT ?_ ?_); rfl) | ((with_reducible refine st_gwF ?_ ?_); rfl) | ((with_reducible refine st_gsT ?_ ?_); rfl) | ((with_reducible refine st_gsF ?_ ?_); rfl)); (try simp only [Act.put, yA, yB, yC, yD, yE, yF])) | ((with_reducible refine' st_guard ?_ ?_ ?_); rotate_left; rfl; (all_goals (intro hgd; cases hgd)); (try simp only [Act.put, yA, yB, yC, yD, yE, yF])) | ((with_reducible apply st_want); rfl) | ((with_reducible refine st_skip ?_ ?_); rfl; simp only [Act.put, yA, yB, yC, yD, yE, yF]) | ((first | ((with_reducible apply st_load1 H); decide +kernel; rfl; exact cF) | ((with_reducible apply st_loads H); decide +kernel; rfl; exact iF; exact zF; rfl)); clear H; intro wn H; (try simp only [splice, yG, yH, yI, yJ, yK, yL, yM, yN, yO, yP, yQ, Nat.reduceAdd, yA, yB, yC] at H); simp only [Act.put, yA, yB, yC, yD, yE, yF]) | ((first | ((with_reducible apply st_strsum H); rfl; rfl; exact szF; kernel_rfl)); clear H; intro wn H; simp only [Act.put, yA, yB, yC, yD, yE, yF]) | ((first | (go_at_call 5; refine gvF (c1 _ H.below) H ?_) | (go_at_call 9; refine gvF (Fz.eqFrameS_l _ _ mo _ (own_rd H iF o6) (own_rd H iF o4)) H ?_)); clear H; intro wn H) | fail)
  refine (Rets.use (c8 _ H.below)).mono ?_; rintro e wn ⟨_, _, rfl, ⟨N7, o7', rfl, e7⟩, hkk⟩; have Hn := H.moreK (by intro k hk; first | exact absurd hk List.not_mem_nil | (obtain rfl := List.mem_singleton.1 hk; exact In.mem iF)) hkk; clear hkk; clear H; have H := Hn; clear Hn; (try simp only [yT, yV] at H)
  have o7 := own_single o7' e7 rfl
  clear o7' e7
  go_wp2_with (first | ((first | ((with_reducible refine st_gwT ?_ ?_); rfl) | ((with_reducible refine st_gwF ?_ ?_); rfl) | ((with_reducible refine st_gsT ?_ ?_); rfl) | ((with_reducible refine st_gsF ?_ ?_); rfl)); (try simp only [Act.put, yA, yB, yC, yD, yE, yF])) | ((with_reducible refine' st_guard ?_ ?_ ?_); rotate_left; rfl; (all_goals (intro hgd; cases hgd)); (try simp only [Act.put, yA, yB, yC, yD, yE, yF])) | ((with_reducible apply st_want); rfl) | ((with_reducible refine st_skip ?_ ?_); rfl; simp only [Act.put, yA, yB, yC, yD, yE, yF]) | ((first | ((with_reducible apply st_load1 H); decide +kernel; rfl; exact cF) | ((with_reducible apply st_loads H); decide +kernel; rfl; exact iF; exact zF; rfl)); clear H; intro wn H; (try simp only [splice, yG, yH, yI, yJ, yK, yL, yM, yN, yO, yP, yQ, Nat.reduceAdd, yA, yB, yC] at H); simp only [Act.put, yA, yB, yC, yD, yE, yF]) | ((first | ((with_reducible apply st_strsum H); rfl; rfl; exact szF; kernel_rfl)); clear H; intro wn H; simp only [Act.put, yA, yB, yC, yD, yE, yF]) | ((first | (go_at_call 5; refine gvF (c1 _ H.below) H ?_) | (go_at_call 9; refine gvF (Fz.eqFrameS_l _ _ mo _ (own_rd H iF o6) (own_rd H iF o4)) H ?_)); clear H; intro wn H) | fail)
  refine gvF (Fz.eqFrameSS_l _ _ l _ (own_rd H iF o2) (own_rd H iF o7)) H ?_; clear H; intro wn H
  go_wp2_with (first | ((first | ((with_reducible refine st_gwT ?_ ?_); rfl) | ((with_reducible refine st_gwF ?_ ?_); rfl) | ((with_reducible refine st_gsT ?_ ?_); rfl) | ((with_reducible refine st_gsF ?_ ?_); rfl)); (try simp only [Act.put, yA, yB, yC, yD, yE, yF])) | ((with_reducible refine' st_guard ?_ ?_ ?_); rotate_left; rfl; (all_goals (intro hgd; cases hgd)); (try simp only [Act.put, yA, yB, yC, yD, yE, yF])) | ((with_reducible apply st_want); rfl) | ((with_reducible refine st_skip ?_ ?_); rfl; simp only [Act.put, yA, yB, yC, yD, yE, yF]) | ((first | ((with_reducible apply st_load1 H); decide +kernel; rfl; exact cF) | ((with_reducible apply st_loads H); decide +kernel; rfl; exact iF; exact zF; rfl)); clear H; intro wn H; (try simp only [splice, yG, yH, yI, yJ, yK, yL, yM, yN, yO, yP, yQ, Nat.reduceAdd, yA, yB, yC] at H); simp only [Act.put, yA, yB, yC, yD, yE, yF]) | ((first | ((with_reducible apply st_strsum H); rfl; rfl; exact szF; kernel_rfl)); clear H; intro wn H; simp only [Act.put, yA, yB, yC, yD, yE, yF]) | ((first | (go_at_call 5; refine gvF (c1 _ H.below) H ?_) | (go_at_call 9; refine gvF (Fz.eqFrameS_l _ _ mo _ (own_rd H iF o6) (own_rd H iF o4)) H ?_)); clear H; intro wn H) | fail)
  have Hn := H.reperm (Del.perm (h := Hl.all N2) dF)
  refine (cM1 _ _ _ _ _ _ o2 Hn).mono ?_
  rintro e wn ⟨rfl, M9, o9, Hq⟩
  clear H Hn
  have H := Hq
  clear Hq
  go_wp2_with (first | ((first | ((with_reducible refine st_gwT ?_ ?_); rfl) | ((with_reducible refine st_gwF ?_ ?_); rfl) | ((with_reducible refine st_gsT ?_ ?_); rfl) | ((with_reducible refine st_gsF ?_ ?_); rfl)); (try simp only [Act.put, yA, yB, yC, yD, yE, yF])) | ((with_reducible refine' st_guard ?_ ?_ ?_); rotate_left; rfl; (all_goals (intro hgd; cases hgd)); (try simp only [Act.put, yA, yB, yC, yD, yE, yF])) | ((with_reducible apply st_want); rfl) | ((with_reducible refine st_skip ?_ ?_); rfl; simp only [Act.put, yA, yB, yC, yD, yE, yF]) | ((first | ((with_reducible apply st_load1 H); decide +kernel; rfl; exact cF) | ((with_reducible apply st_loads H); decide +kernel; rfl; exact iF; exact zF; rfl)); clear H; intro wn H; (try simp only [splice, yG, yH, yI, yJ, yK, yL, yM, yN, yO, yP, yQ, Nat.reduceAdd, yA, yB, yC] at H); simp only [Act.put, yA, yB, yC, yD, yE, yF]) | ((first | ((with_reducible apply st_strsum H); rfl; rfl; exact szF; kernel_rfl)); clear H; intro wn H; simp only [Act.put, yA, yB, yC, yD, yE, yF]) | ((first | (go_at_call 5; refine gvF (c1 _ H.below) H ?_) | (go_at_call 9; refine gvF (Fz.eqFrameS_l _ _ mo _ (own_rd H iF o6) (own_rd H iF o4)) H ?_)); clear H; intro wn H) | fail)
  have Hn := H.reperm (Del.perm (h := Hl.all N6) dF)
  refine (cM3 _ _ _ _ _ _ o6 Hn).mono ?_
  rintro e wn ⟨rfl, M11, o11, Hq⟩
  clear H Hn o6
  have H := Hq
  clear Hq
  go_wp2_with (first | ((first | ((with_reducible refine st_gwT ?_ ?_); rfl) | ((with_reducible refine st_gwF ?_ ?_); rfl) | ((with_reducible refine st_gsT ?_ ?_); rfl) | ((with_reducible refine st_gsF ?_ ?_); rfl)); (try simp only [Act.put, yA, yB, yC, yD, yE, yF])) | ((with_reducible refine' st_guard ?_ ?_ ?_); rotate_left; rfl; (all_goals (intro hgd; cases hgd)); (try simp only [Act.put, yA, yB, yC, yD, yE, yF])) | ((with_reducible apply st_want); rfl) | ((with_reducible refine st_skip ?_ ?_); rfl; simp only [Act.put, yA, yB, yC, yD, yE, yF]) | ((first | ((with_reducible apply st_load1 H); decide +kernel; rfl; exact cF) | ((with_reducible apply st_loads H); decide +kernel; rfl; exact iF; exact zF; rfl)); clear H; intro wn H; (try simp only [splice, yG, yH, yI, yJ, yK, yL, yM, yN, yO, yP, yQ, Nat.reduceAdd, yA, yB, yC] at H); simp only [Act.put, yA, yB, yC, yD, yE, yF]) | ((first | ((with_reducible apply st_strsum H); rfl; rfl; exact szF; kernel_rfl)); clear H; intro wn H; simp only [Act.put, yA, yB, yC, yD, yE, yF]) | ((first | (go_at_call 5; refine gvF (c1 _ H.below) H ?_) | (go_at_call 9; refine gvF (Fz.eqFrameS_l _ _ mo _ (own_rd H iF o6) (own_rd H iF o4)) H ?_)); clear H; intro wn H) | fail)
  refine gvF (cH _ _ (own_rd H iF o11)) H ?_; clear H; intro wn H
  go_wp2_with (first | ((first | ((with_reducible refine st_gwT ?_ ?_); rfl) | ((with_reducible refine st_gwF ?_ ?_); rfl) | ((with_reducible refine st_gsT ?_ ?_); rfl) | ((with_reducible refine st_gsF ?_ ?_); rfl)); (try simp only [Act.put, yA, yB, yC, yD, yE, yF])) | ((with_reducible refine' st_guard ?_ ?_ ?_); rotate_left; rfl; (all_goals (intro hgd; cases hgd)); (try simp only [Act.put, yA, yB, yC, yD, yE, yF])) | ((with_reducible apply st_want); rfl) | ((with_reducible refine st_skip ?_ ?_); rfl; simp only [Act.put, yA, yB, yC, yD, yE, yF]) | ((first | ((with_reducible apply st_load1 H); decide +kernel; rfl; exact cF) | ((with_reducible apply st_loads H); decide +kernel; rfl; exact iF; exact zF; rfl)); clear H; intro wn H; (try simp only [splice, yG, yH, yI, yJ, yK, yL, yM, yN, yO, yP, yQ, Nat.reduceAdd, yA, yB, yC] at H); simp only [Act.put, yA, yB, yC, yD, yE, yF]) | ((first | ((with_reducible apply st_strsum H); rfl; rfl; exact szF; kernel_rfl)); clear H; intro wn H; simp only [Act.put, yA, yB, yC, yD, yE, yF]) | ((first | (go_at_call 5; refine gvF (c1 _ H.below) H ?_) | (go_at_call 9; refine gvF (Fz.eqFrameS_l _ _ mo _ (own_rd H iF o6) (own_rd H iF o4)) H ?_)); clear H; intro wn H) | fail)
  refine (Rets.use (c8 _ H.below)).mono ?_; rintro e wn ⟨_, _, rfl, ⟨N12, o12', rfl, e12⟩, hkk⟩; have Hn := H.moreK (by intro k hk; first | exact absurd hk List.not_mem_nil | (obtain rfl := List.mem_singleton.1 hk; exact In.mem iF)) hkk; clear hkk; clear H; have H := Hn; clear Hn; (try simp only [yT, yV] at H)
  have o12 := own_single o12' e12 rfl
  clear o12' e12
  go_wp2_with (first | ((first | ((with_reducible refine st_gwT ?_ ?_); rfl) | ((with_reducible refine st_gwF ?_ ?_); rfl) | ((with_reducible refine st_gsT ?_ ?_); rfl) | ((with_reducible refine st_gsF ?_ ?_); rfl)); (try simp only [Act.put, yA, yB, yC, yD, yE, yF])) | ((with_reducible refine' st_guard ?_ ?_ ?_); rotate_left; rfl; (all_goals (intro hgd; cases hgd)); (try simp only [Act.put, yA, yB, yC, yD, yE, yF])) | ((with_reducible apply st_want); rfl) | ((with_reducible refine st_skip ?_ ?_); rfl; simp only [Act.put, yA, yB, yC, yD, yE, yF]) | ((first | ((with_reducible apply st_load1 H); decide +kernel; rfl; exact cF) | ((with_reducible apply st_loads H); decide +kernel; rfl; exact iF; exact zF; rfl)); clear H; intro wn H; (try simp only [splice, yG, yH, yI, yJ, yK, yL, yM, yN, yO, yP, yQ, Nat.reduceAdd, yA, yB, yC] at H); simp only [Act.put, yA, yB, yC, yD, yE, yF]) | ((first | ((with_reducible apply st_strsum H); rfl; rfl; exact szF; kernel_rfl)); clear H; intro wn H; simp only [Act.put, yA, yB, yC, yD, yE, yF]) | ((first | (go_at_call 5; refine gvF (c1 _ H.below) H ?_) | (go_at_call 9; refine gvF (Fz.eqFrameS_l _ _ mo _ (own_rd H iF o6) (own_rd H iF o4)) H ?_)); clear H; intro wn H) | fail)
  refine (Rets.use (c6 _ _ (own_rd H iF o12))).mono ?_; rintro e wn ⟨_, _, rfl, ⟨N14, o14', rfl, e14⟩, hkk⟩; have Hn := H.moreK (by intro k hk; first | exact absurd hk List.not_mem_nil | (obtain rfl := List.mem_singleton.1 hk; exact In.mem iF)) hkk; clear hkk; clear H; have H := Hn; clear Hn; (try simp only [yT, yV] at H)
  have o14 := own_single o14' e14 rfl
  clear o14' e14
  go_wp2_with (first | ((first | ((with_reducible refine st_gwT ?_ ?_); rfl) | ((with_reducible refine st_gwF ?_ ?_); rfl) | ((with_reducible refine st_gsT ?_ ?_); rfl) | ((with_reducible refine st_gsF ?_ ?_); rfl)); (try simp only [Act.put, yA, yB, yC, yD, yE, yF])) | ((with_reducible refine' st_guard ?_ ?_ ?_); rotate_left; rfl; (all_goals (intro hgd; cases hgd)); (try simp only [Act.put, yA, yB, yC, yD, yE, yF])) | ((with_reducible apply st_want); rfl) | ((with_reducible refine st_skip ?_ ?_); rfl; simp only [Act.put, yA, yB, yC, yD, yE, yF]) | ((first | ((with_reducible apply st_load1 H); decide +kernel; rfl; exact cF) | ((with_reducible apply st_loads H); decide +kernel; rfl; exact iF; exact zF; rfl)); clear H; intro wn H; (try simp only [splice, yG, yH, yI, yJ, yK, yL, yM, yN, yO, yP, yQ, Nat.reduceAdd, yA, yB, yC] at H); simp only [Act.put, yA, yB, yC, yD, yE, yF]) | ((first | ((with_reducible apply st_strsum H); rfl; rfl; exact szF; kernel_rfl)); clear H; intro wn H; simp only [Act.put, yA, yB, yC, yD, yE, yF]) | ((first | (go_at_call 5; refine gvF (c1 _ H.below) H ?_) | (go_at_call 9; refine gvF (Fz.eqFrameS_l _ _ mo _ (own_rd H iF o6) (own_rd H iF o4)) H ?_)); clear H; intro wn H) | fail)
  refine gvF (Fz.eqFrameS_l _ _ mo _ (own_rd H iF o14) (own_rd H iF o4)) H ?_; clear H; intro wn H
  go_wp2_with (first | ((first | ((with_reducible refine st_gwT ?_ ?_); rfl) | ((with_reducible refine st_gwF ?_ ?_); rfl) | ((with_reducible refine st_gsT ?_ ?_); rfl) | ((with_reducible refine st_gsF ?_ ?_); rfl)); (try simp only [Act.put, yA, yB, yC, yD, yE, yF])) | ((with_reducible refine' st_guard ?_ ?_ ?_); rotate_left; rfl; (all_goals (intro hgd; cases hgd)); (try simp only [Act.put, yA, yB, yC, yD, yE, yF])) | ((with_reducible apply st_want); rfl) | ((with_reducible refine st_skip ?_ ?_); rfl; simp only [Act.put, yA, yB, yC, yD, yE, yF]) | ((first | ((with_reducible apply st_load1 H); decide +kernel; rfl; exact cF) | ((with_reducible apply st_loads H); decide +kernel; rfl; exact iF; exact zF; rfl)); clear H; intro wn H; (try simp only [splice, yG, yH, yI, yJ, yK, yL, yM, yN, yO, yP, yQ, Nat.reduceAdd, yA, yB, yC] at H); simp only [Act.put, yA, yB, yC, yD, yE, yF]) | ((first | ((with_reducible apply st_strsum H); rfl; rfl; exact szF; kernel_rfl)); clear H; intro wn H; simp only [Act.put, yA, yB, yC, yD, yE, yF]) | ((first | (go_at_call 5; refine gvF (c1 _ H.below) H ?_) | (go_at_call 9; refine gvF (Fz.eqFrameS_l _ _ mo _ (own_rd H iF o6) (own_rd H iF o4)) H ?_)); clear H; intro wn H) | fail)
  refine gvF (cH _ _ (own_rd H iF o11)) H ?_; clear H; intro wn H
  go_wp2_with (first | ((first | ((with_reducible refine st_gwT ?_ ?_); rfl) | ((with_reducible refine st_gwF ?_ ?_); rfl) | ((with_reducible refine st_gsT ?_ ?_); rfl) | ((with_reducible refine st_gsF ?_ ?_); rfl)); (try simp only [Act.put, yA, yB, yC, yD, yE, yF])) | ((with_reducible refine' st_guard ?_ ?_ ?_); rotate_left; rfl; (all_goals (intro hgd; cases hgd)); (try simp only [Act.put, yA, yB, yC, yD, yE, yF])) | ((with_reducible apply st_want); rfl) | ((with_reducible refine st_skip ?_ ?_); rfl; simp only [Act.put, yA, yB, yC, yD, yE, yF]) | ((first | ((with_reducible apply st_load1 H); decide +kernel; rfl; exact cF) | ((with_reducible apply st_loads H); decide +kernel; rfl; exact iF; exact zF; rfl)); clear H; intro wn H; (try simp only [splice, yG, yH, yI, yJ, yK, yL, yM, yN, yO, yP, yQ, Nat.reduceAdd, yA, yB, yC] at H); simp only [Act.put, yA, yB, yC, yD, yE, yF]) | ((first | ((with_reducible apply st_strsum H); rfl; rfl; exact szF; kernel_rfl)); clear H; intro wn H; simp only [Act.put, yA, yB, yC, yD, yE, yF]) | ((first | (go_at_call 5; refine gvF (c1 _ H.below) H ?_) | (go_at_call 9; refine gvF (Fz.eqFrameS_l _ _ mo _ (own_rd H iF o6) (own_rd H iF o4)) H ?_)); clear H; intro wn H) | fail)
  go_ret
  exact ⟨rfl, H.below⟩
end Go.Proofs.Ytpkoeeafepgphaa
