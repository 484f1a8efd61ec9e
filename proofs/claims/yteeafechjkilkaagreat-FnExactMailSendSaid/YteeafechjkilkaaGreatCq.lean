/-
  The place of a pair, in the reference and in the program: the walks.
-/
import Derived.Test.YteeafechjkilkaaGreatCo
set_option linter.unusedSimpArgs false
set_option linter.unusedVariables false
namespace Go.Proofs.YteeafechjkilkaaGreat
open Go.RowKit M
namespace M
def prEq (a b : Lab) (x : Pr) : Bool := eqB x.1 a && eqB x.2.1 b
theorem idxF_at {α : Type} {p : α → Bool} {l : List α} {i : Nat} {a : α} (h : l[i]? = some a) : idxF p i (l.drop i) = if p a then (i : Int) else idxF p (i + 1) (l.drop (i + 1)) := by
  obtain ⟨hlt, rfl⟩ := List.getElem?_eq_some_iff.1 h
  rw [List.drop_eq_getElem_cons hlt]
  rfl
theorem idxF_end {α : Type} {p : α → Bool} {l : List α} {i : Nat} (h : l.length ≤ i) : idxF p i (l.drop i) = -1 := by
  rw [List.drop_of_length_le h]; rfl
theorem idxF_bd {α : Type} {p : α → Bool} : ∀ (l : List α) (k : Nat), -1 ≤ idxF p k l ∧ idxF p k l < k + l.length ∧ (idxF p k l < 0 → idxF p k l = -1) := by
  intro l
  induction l with
  | nil => intro k; unfold idxF; simp; omega
  | cons a l ih =>
    intro k
    unfold idxF
    by_cases h : p a
    · simp only [h, if_true, List.length_cons]; omega
    · simp only [h, if_false, List.length_cons, Bool.false_eq_true]
      have := ih (k + 1)
      omega
end M
set_option maxRecDepth 100000 in
set_option maxHeartbeats 4000000 in
theorem pairAtC (p q : Lab) (y : Pr) (b d : Nat) (w : World) (h1 : At w b 0 (encLab p)) (h2 : At w d 0 (encLab q)) :
    Gives Tryz.prog 118 (#[.agg (encPr y).toArray] ++ #[.pointer (some ⟨b, 0, none⟩), .pointer (some ⟨d, 0, none⟩)]) w (.bool (prEq p q y)) := by
  obtain ⟨p1, p2⟩ := p
  obtain ⟨q1, q2⟩ := q
  obtain ⟨⟨y1, y2⟩, ⟨y3, y4⟩, y5⟩ := y
  unfold encLab at h1 h2
  unfold encPr prEq
  simp only at h1 h2 ⊢
  have H := Hs.start noRow w
  unfold Gives
  show Calls _ _ #[.agg #[.int .i64 y1, .int .i64 y2, .int .i64 y3, .int .i64 y4, .int .i64 y5], .pointer (some ⟨b, 0, none⟩), .pointer (some ⟨d, 0, none⟩)] _ _
  cases hp1 : eqB (y1, y2) (p1, p2)
  · rw [Bool.false_and]
    go_enter Tryz.func118, Tryz.ntmps118
    go_wp2_with (first | ((first | ((with_reducible refine st_gwT ?_ ?_); rfl) | ((with_reducible refine st_gwF ?_ ?_); rfl) | ((with_reducible refine st_gsT ?_ ?_); rfl) | ((with_reducible refine st_gsF ?_ ?_); rfl)); (try simp only [Act.put, yA, yB, yC, yD, yE, yF])) | ((with_reducible refine' st_guard ?_ ?_ ?_); rotate_left; rfl; (all_goals (intro hgd; cases hgd)); (try simp only [Act.put, yA, yB, yC, yD, yE, yF])) | ((with_reducible apply st_want); rfl) | ((with_reducible refine st_skip ?_ ?_); rfl; simp only [Act.put, yA, yB, yC, yD, yE, yF]) | ((first | ((with_reducible apply st_load1 H); decide +kernel; rfl; exact cF) | ((with_reducible apply st_loads H); decide +kernel; rfl; exact iF; exact zF; rfl)); clear H; intro wn H; (try simp only [splice, yG, yH, yI, yJ, yK, yL, yM, yN, yO, yP, yQ, Nat.reduceAdd, yA, yB, yC] at H); simp only [Act.put, yA, yB, yC, yD, yE, yF]) | ((first | ((with_reducible apply st_box (dst := some 3) H); exact nF; intro b3) | ((with_reducible apply st_strsum H); rfl; rfl; exact szF; kernel_rfl) | ((first | ((with_reducible apply st_eqLabz H); rfl; rfl; (focus assumption)) | ((with_reducible apply st_neLabz H); rfl; rfl; (focus assumption)) | ((with_reducible apply st_eqLab H); rfl; rfl) | ((with_reducible apply st_neLab H); rfl; rfl))) | ((with_reducible apply st_loadat H); decide +kernel; rfl; exact aF; exact zF; rfl)); clear H; intro wn H; simp only [Act.put, yA, yB, yC, yD, yE, yF]) | fail)
    go_ret
    exact ⟨rfl, H.below⟩
  · rw [Bool.true_and]
    cases hp2 : eqB (y3, y4) (q1, q2)
    all_goals
      go_enter Tryz.func118, Tryz.ntmps118
    all_goals (
      go_wp2_with (first | ((first | ((with_reducible refine st_gwT ?_ ?_); rfl) | ((with_reducible refine st_gwF ?_ ?_); rfl) | ((with_reducible refine st_gsT ?_ ?_); rfl) | ((with_reducible refine st_gsF ?_ ?_); rfl)); (try simp only [Act.put, yA, yB, yC, yD, yE, yF])) | ((with_reducible refine' st_guard ?_ ?_ ?_); rotate_left; rfl; (all_goals (intro hgd; cases hgd)); (try simp only [Act.put, yA, yB, yC, yD, yE, yF])) | ((with_reducible apply st_want); rfl) | ((with_reducible refine st_skip ?_ ?_); rfl; simp only [Act.put, yA, yB, yC, yD, yE, yF]) | ((first | ((with_reducible apply st_load1 H); decide +kernel; rfl; exact cF) | ((with_reducible apply st_loads H); decide +kernel; rfl; exact iF; exact zF; rfl)); clear H; intro wn H; (try simp only [splice, yG, yH, yI, yJ, yK, yL, yM, yN, yO, yP, yQ, Nat.reduceAdd, yA, yB, yC] at H); simp only [Act.put, yA, yB, yC, yD, yE, yF]) | ((first | ((with_reducible apply st_box (dst := some 3) H); exact nF; intro b3) | ((with_reducible apply st_strsum H); rfl; rfl; exact szF; kernel_rfl) | ((first | ((with_reducible apply st_eqLabz H); rfl; rfl; (focus assumption)) | ((with_reducible apply st_neLabz H); rfl; rfl; (focus assumption)) | ((with_reducible apply st_eqLab H); rfl; rfl) | ((with_reducible apply st_neLab H); rfl; rfl))) | ((with_reducible apply st_loadat H); decide +kernel; rfl; exact aF; exact zF; rfl)); clear H; intro wn H; simp only [Act.put, yA, yB, yC, yD, yE, yF]) | fail)
      )
    all_goals go_ret
    all_goals exact ⟨rfl, H.below⟩
set_option maxRecDepth 100000 in
set_option maxHeartbeats 4000000 in
theorem pairAt_i (c : Cfg) (cs : List Value) (p q : Lab) (w : World) (hr : tyCfg.rd w cs c) :
    Gives Tryz.prog 60 #[.agg cs.toArray, .agg #[.int .i64 p.1, .int .i64 p.2], .agg #[.int .i64 q.1, .int .i64 q.2]] w (.int .i64 (idxF (prEq p q) 0 c.2.1)) := by
  have eg : ∀ args w, (callFunc 118 args).run Tryz.prog w = .ok (.enter 118 args) w := enters_of Tryz.func118 (by kernel_rfl) rfl
  obtain ⟨v1, v2, v3, rfl, h1, h2, h3⟩ := cfg_form hr
  obtain ⟨nd, pr, qt, hf⟩ := c
  obtain ⟨p1, p2⟩ := p
  obtain ⟨q1, q2⟩ := q
  simp only at h1 h2 h3
  show Gives Tryz.prog _ #[.agg #[v1, v2, v3, .int .i64 hf], .agg #[.int .i64 p1, .int .i64 p2], .agg #[.int .i64 q1, .int .i64 q2]] w _
  have HP := fun (b4 b5 : Nat) w1 (hb : Below w.heap.size w w1) k1 k2 => indexFunc_Pr v2 pr (prEq (p1, p2) (q1, q2)) 118 #[.pointer (some ⟨b4, 0, none⟩), .pointer (some ⟨b5, 0, none⟩)] w1 eg (Ty.below _ h2 hb) (fun w2 hb2 _ y _ => pairAtC (p1, p2) (q1, q2) y b4 b5 w2 (At.below k1 hb2) (At.below k2 hb2))
  clear hr h1 h2 h3
  simp only at HP ⊢
  generalize idxF (prEq (p1, p2) (q1, q2)) 0 pr = z at *
  have H := Hs.start noRow w
  unfold Gives
  go_enter Tryz.func60, Tryz.ntmps60
  go_wp2_with (first | ((first | ((with_reducible apply st_load1 H); decide +kernel; rfl; exact cF) | ((with_reducible apply st_loads H); decide +kernel; rfl; exact iF; exact zF; rfl)); clear H; intro wn H; (try simp only [splice, yG, yH, yI, yJ, yK, yL, yM, yN, yO, yP, yQ, Nat.reduceAdd, yA, yB, yC] at H); simp only [Act.put, yA, yB, yC, yD, yE, yF]) | ((first | ((with_reducible apply st_box (dst := some 3) H); exact nF; intro b3) | ((with_reducible apply st_box (dst := some 4) H); exact nF; intro b4) | ((with_reducible apply st_box (dst := some 5) H); exact nF; intro b5) | ((with_reducible apply st_loadat H); decide +kernel; rfl; exact aF; exact zF; rfl)); clear H; intro wn H; simp only [Act.put, yA, yB, yC, yD, yE, yF]) | fail)
  refine gvF (HP _ _ _ H.below (At.blk2 (H.blk iF) rfl rfl) (At.blk2 (H.blk iF) rfl rfl)) H ?_; clear H; intro wn H
  clear HP
  go_wp2_with (first | ((first | ((with_reducible apply st_load1 H); decide +kernel; rfl; exact cF) | ((with_reducible apply st_loads H); decide +kernel; rfl; exact iF; exact zF; rfl)); clear H; intro wn H; (try simp only [splice, yG, yH, yI, yJ, yK, yL, yM, yN, yO, yP, yQ, Nat.reduceAdd, yA, yB, yC] at H); simp only [Act.put, yA, yB, yC, yD, yE, yF]) | ((first | ((with_reducible apply st_box (dst := some 3) H); exact nF; intro b3) | ((with_reducible apply st_box (dst := some 4) H); exact nF; intro b4) | ((with_reducible apply st_box (dst := some 5) H); exact nF; intro b5) | ((with_reducible apply st_loadat H); decide +kernel; rfl; exact aF; exact zF; rfl)); clear H; intro wn H; simp only [Act.put, yA, yB, yC, yD, yE, yF]) | fail)
  go_ret
  exact ⟨rfl, H.below⟩
set_option maxRecDepth 100000 in
set_option maxHeartbeats 4000000 in
theorem pairAt_s (c : Cfg) (cs : List Value) (p q : Lab) (w : World) (hr : tyCfg.rd w cs c) :
    Gives Tryz.prog 52 #[.agg cs.toArray, .agg #[.int .i64 p.1, .int .i64 p.2], .agg #[.int .i64 q.1, .int .i64 q.2]] w (.int .i64 (if cfgOk c then idxF (prEq p q) 0 c.2.1 else -1)) := by
  have c1 := fun w1 hb => configRight_s c cs w1 (Ty.below _ hr hb)
  obtain ⟨v1, v2, v3, rfl, h1, h2, h3⟩ := cfg_form hr
  obtain ⟨nd, pr, qt, hf⟩ := c
  obtain ⟨p1, p2⟩ := p
  obtain ⟨q1, q2⟩ := q
  simp only at h1 h2 h3
  have c1 : ∀ w1, Below w.heap.size w w1 → Gives Tryz.prog 109 #[.agg #[v1, v2, v3, .int .i64 hf]] w1 (.bool (cfgOk (nd, pr, qt, hf))) := c1
  show Gives Tryz.prog _ #[.agg #[v1, v2, v3, .int .i64 hf], .agg #[.int .i64 p1, .int .i64 p2], .agg #[.int .i64 q1, .int .i64 q2]] w (.int .i64 (if cfgOk (nd, pr, qt, hf) then idxF (prEq (p1, p2) (q1, q2)) 0 pr else -1))
  obtain ⟨B, cb, rfl, hlb, hbm⟩ := sl_form h2
  unfold maxLen at *
  have HP := Lib.hid h2
  obtain ⟨n, hn⟩ : ∃ n, n = pr.length := ⟨_, rfl⟩
  have hnl : n ≤ 9223372036854775807 := by omega
  rw [← hn] at HP c1 ⊢
  have HN := Lib.hid hn
  clear hr h1 h2 h3 hlb hbm hn
  generalize cfgOk (nd, pr, qt, hf) = z1 at *
  have H := Hs.start noRow w
  unfold Gives
  cases z1
  case false =>
    rw [if_neg (by simp)]
    go_enter Tryz.func52, Tryz.ntmps52
    go_wp2_with (first | ((first | ((with_reducible apply st_load1 H); decide +kernel; rfl; exact cF) | ((with_reducible apply st_loads H); decide +kernel; rfl; exact iF; exact zF; rfl)); clear H; intro wn H; (try simp only [splice, yG, yH, yI, yJ, yK, yL, yM, yN, yO, yP, yQ, Nat.reduceAdd, yA, yB, yC] at H); simp only [Act.put, yA, yB, yC, yD, yE, yF]) | ((first | ((with_reducible apply st_box (dst := some 3) H); exact nF; intro b3) | ((with_reducible apply st_box (dst := some 4) H); exact nF; intro b4) | ((with_reducible apply st_box (dst := some 5) H); exact nF; intro b5) | ((with_reducible apply st_strsum H); rfl; rfl; exact szF; kernel_rfl) | ((first | ((with_reducible apply st_eqLabz H); rfl; rfl; (focus assumption)) | ((with_reducible apply st_neLabz H); rfl; rfl; (focus assumption)) | ((with_reducible apply st_eqLab H); rfl; rfl) | ((with_reducible apply st_neLab H); rfl; rfl))) | ((with_reducible apply st_loadat H); decide +kernel; rfl; exact aF; exact zF; rfl)); clear H; intro wn H; simp only [Act.put, yA, yB, yC, yD, yE, yF]) | ((first | (go_at_call 109; refine gvF (c1 _ H.below) H ?_)); clear H; intro wn H) | ((with_reducible apply wp_region_hq (id := 6) H); kernel_rfl; kernel_rfl; (iterate 9 (all_goals ((with_reducible refine' hq_step ?_ ?_ ?_); rotate_left; rfl; (focus (intro w1 H1; first | (first | exact qF | exact qAF | exact qRF) | (exact qEF) | (exact qVF))); (try simp only [yG, yH, yJ, yK]); simp only [Act.put, yA, yB, yC, yD, yE, yF]))); (iterate 8 (all_goals (first | ((with_reducible refine hq_gwT ?_ ?_); rfl; ((with_reducible refine' hq_step ?_ ?_ ?_); rotate_left; rfl; (focus (intro w1 H1; first | (first | exact qF | exact qAF | exact qRF) | (exact qEF) | (exact qVF))); (try simp only [yG, yH, yJ, yK]); simp only [Act.put, yA, yB, yC, yD, yE, yF])) | ((with_reducible refine hq_gsT ?_ ?_); rfl; (try simp only [Act.put, yA, yB, yC, yD, yE, yF])) | ((with_reducible refine hq_skip ?_ ?_); rfl; (try simp only [Act.put, yA, yB, yC, yD, yE, yF]))))); (iterate 1 (all_goals ((with_reducible refine' hq_step ?_ ?_ ?_); rotate_left; rfl; (focus (intro w1 H1; exact qVF)); (try simp only [yG, yH, yJ, yK]); simp only [Act.put, yA, yB, yC, yD, yE, yF]))); all_goals (refine wpQuiet_nil ?_; clear H; intro wn H)) | fail)
    go_ret
    exact ⟨rfl, H.below⟩
  rw [if_pos rfl]
  obtain ⟨z, hz⟩ : ∃ z, z = idxF (prEq (p1, p2) (q1, q2)) 0 pr := ⟨_, rfl⟩
  rw [← hz]
  have HZ := Lib.hid hz
  clear hz
  go_enter Tryz.func52, Tryz.ntmps52
  go_wp2_with (first | ((first | ((with_reducible apply st_load1 H); decide +kernel; rfl; exact cF) | ((with_reducible apply st_loads H); decide +kernel; rfl; exact iF; exact zF; rfl)); clear H; intro wn H; (try simp only [splice, yG, yH, yI, yJ, yK, yL, yM, yN, yO, yP, yQ, Nat.reduceAdd, yA, yB, yC] at H); simp only [Act.put, yA, yB, yC, yD, yE, yF]) | ((first | ((with_reducible apply st_box (dst := some 3) H); exact nF; intro b3) | ((with_reducible apply st_box (dst := some 4) H); exact nF; intro b4) | ((with_reducible apply st_box (dst := some 5) H); exact nF; intro b5) | ((with_reducible apply st_strsum H); rfl; rfl; exact szF; kernel_rfl) | ((first | ((with_reducible apply st_eqLabz H); rfl; rfl; (focus assumption)) | ((with_reducible apply st_neLabz H); rfl; rfl; (focus assumption)) | ((with_reducible apply st_eqLab H); rfl; rfl) | ((with_reducible apply st_neLab H); rfl; rfl))) | ((with_reducible apply st_loadat H); decide +kernel; rfl; exact aF; exact zF; rfl)); clear H; intro wn H; simp only [Act.put, yA, yB, yC, yD, yE, yF]) | ((first | (go_at_call 109; refine gvF (c1 _ H.below) H ?_)); clear H; intro wn H) | ((with_reducible apply wp_region_hq (id := 6) H); kernel_rfl; kernel_rfl; (iterate 9 (all_goals ((with_reducible refine' hq_step ?_ ?_ ?_); rotate_left; rfl; (focus (intro w1 H1; first | (first | exact qF | exact qAF | exact qRF) | (exact qEF) | (exact qVF))); (try simp only [yG, yH, yJ, yK]); simp only [Act.put, yA, yB, yC, yD, yE, yF]))); (iterate 8 (all_goals (first | ((with_reducible refine hq_gwT ?_ ?_); rfl; ((with_reducible refine' hq_step ?_ ?_ ?_); rotate_left; rfl; (focus (intro w1 H1; first | (first | exact qF | exact qAF | exact qRF) | (exact qEF) | (exact qVF))); (try simp only [yG, yH, yJ, yK]); simp only [Act.put, yA, yB, yC, yD, yE, yF])) | ((with_reducible refine hq_gsT ?_ ?_); rfl; (try simp only [Act.put, yA, yB, yC, yD, yE, yF])) | ((with_reducible refine hq_skip ?_ ?_); rfl; (try simp only [Act.put, yA, yB, yC, yD, yE, yF]))))); (iterate 1 (all_goals ((with_reducible refine' hq_step ?_ ?_ ?_); rotate_left; rfl; (focus (intro w1 H1; exact qVF)); (try simp only [yG, yH, yJ, yK]); simp only [Act.put, yA, yB, yC, yD, yE, yF]))); all_goals (refine wpQuiet_nil ?_; clear H; intro wn H)) | fail)
  go_loopg [7] n (fun m iv wr => ∃ (i : Nat), i + m = n ∧ iv = .int .i64 i ∧ Hid (z = idxF (prEq (p1, p2) (q1, q2)) i (pr.drop i)) ∧ Hs noRow w [Hl.blk b3 44 #[v1, .slice B n cb, v3, .int .i64 hf], Hl.blk b4 47 #[.int .i64 p1, .int .i64 p2], Hl.blk b5 47 #[.int .i64 q1, .int .i64 q2]] wr)
  case atStart => exact ⟨0, by omega, rfl, HZ, H.sel sF⟩
  case round =>
    clear H
    obtain ⟨i, hi, rfl, HI, H⟩ := hrel
    by_cases hlt : i < n
    · obtain ⟨x, hx⟩ : ∃ x, pr[i]? = some x := ⟨pr[i]'(by rw [← HN.out]; exact hlt), List.getElem?_eq_getElem (by rw [← HN.out]; exact hlt)⟩
      have hs := sl_at (by have := HP.out; rw [HN.out] at this; exact this) hx
      rw [← HN.out] at hs
      obtain ⟨b, off, c', cs, hv, hcs, hB⟩ := hs
      injection hv with hv1 hv2 hv3
      subst hv1 hv3
      obtain rfl : cs = encPr x := hcs
      have hstep := HI.out
      rw [idxF_at hx] at hstep
      obtain ⟨⟨y1, y2⟩, ⟨y3, y4⟩, y5⟩ := x
      unfold encPr at hB
      unfold prEq at hstep
      simp only at hB hstep
      have hB1 : At w b (off + i * 5) [.int .i64 y1, .int .i64 y2] := At.pre (us := [.int .i64 y3, .int .i64 y4, .int .i64 y5]) hB
      have hB2 : At w b (off + i * 5 + 2) [.int .i64 y3, .int .i64 y4] := fun j u hu => by
        match j, hu with
        | 0, hu => exact hB 2 u hu
        | 1, hu => exact hB 3 u hu
      have hlt1 : (i : Int) < n := by omega
      clear hx hv2 HI hB
      cases hp1 : eqB (y1, y2) (p1, p2)
      · have HI2 : Hid (z = idxF (prEq (p1, p2) (q1, q2)) (i + 1) (pr.drop (i + 1))) := Lib.hid (by rw [hstep, hp1]; rfl)
        clear hstep
        go_wp2_with (first | ((first | ((with_reducible apply st_load1 H); decide +kernel; rfl; exact cF) | ((with_reducible apply st_loads H); decide +kernel; rfl; exact iF; exact zF; rfl)); clear H; intro wn H; (try simp only [splice, yG, yH, yI, yJ, yK, yL, yM, yN, yO, yP, yQ, Nat.reduceAdd, yA, yB, yC] at H); simp only [Act.put, yA, yB, yC, yD, yE, yF]) | ((first | ((with_reducible apply st_box (dst := some 3) H); exact nF; intro b3) | ((with_reducible apply st_box (dst := some 4) H); exact nF; intro b4) | ((with_reducible apply st_box (dst := some 5) H); exact nF; intro b5) | ((with_reducible apply st_strsum H); rfl; rfl; exact szF; kernel_rfl) | ((first | ((with_reducible apply st_eqLabz H); rfl; rfl; (focus assumption)) | ((with_reducible apply st_neLabz H); rfl; rfl; (focus assumption)) | ((with_reducible apply st_eqLab H); rfl; rfl) | ((with_reducible apply st_neLab H); rfl; rfl))) | ((with_reducible apply st_loadat H); decide +kernel; rfl; exact aF; exact zF; rfl)); clear H; intro wn H; simp only [Act.put, yA, yB, yC, yD, yE, yF]) | ((first | (go_at_call 109; refine gvF (c1 _ H.below) H ?_)); clear H; intro wn H) | ((with_reducible apply wp_region_hq (id := 6) H); kernel_rfl; kernel_rfl; (iterate 9 (all_goals ((with_reducible refine' hq_step ?_ ?_ ?_); rotate_left; rfl; (focus (intro w1 H1; first | (first | exact qF | exact qAF | exact qRF) | (exact qEF) | (exact qVF))); (try simp only [yG, yH, yJ, yK]); simp only [Act.put, yA, yB, yC, yD, yE, yF]))); (iterate 8 (all_goals (first | ((with_reducible refine hq_gwT ?_ ?_); rfl; ((with_reducible refine' hq_step ?_ ?_ ?_); rotate_left; rfl; (focus (intro w1 H1; first | (first | exact qF | exact qAF | exact qRF) | (exact qEF) | (exact qVF))); (try simp only [yG, yH, yJ, yK]); simp only [Act.put, yA, yB, yC, yD, yE, yF])) | ((with_reducible refine hq_gsT ?_ ?_); rfl; (try simp only [Act.put, yA, yB, yC, yD, yE, yF])) | ((with_reducible refine hq_skip ?_ ?_); rfl; (try simp only [Act.put, yA, yB, yC, yD, yE, yF]))))); (iterate 1 (all_goals ((with_reducible refine' hq_step ?_ ?_ ?_); rotate_left; rfl; (focus (intro w1 H1; exact qVF)); (try simp only [yG, yH, yJ, yK]); simp only [Act.put, yA, yB, yC, yD, yE, yF]))); all_goals (refine wpQuiet_nil ?_; clear H; intro wn H)) | fail)
        go_roundg (n - (i + 1))
        case measure => omega
        case rel => exact ⟨i + 1, by omega, by go_num, HI2, H.sel sF⟩
      cases hp2 : eqB (y3, y4) (q1, q2)
      · have HI2 : Hid (z = idxF (prEq (p1, p2) (q1, q2)) (i + 1) (pr.drop (i + 1))) := Lib.hid (by rw [hstep, hp1, hp2]; rfl)
        clear hstep
        go_wp2_with (first | ((first | ((with_reducible apply st_load1 H); decide +kernel; rfl; exact cF) | ((with_reducible apply st_loads H); decide +kernel; rfl; exact iF; exact zF; rfl)); clear H; intro wn H; (try simp only [splice, yG, yH, yI, yJ, yK, yL, yM, yN, yO, yP, yQ, Nat.reduceAdd, yA, yB, yC] at H); simp only [Act.put, yA, yB, yC, yD, yE, yF]) | ((first | ((with_reducible apply st_box (dst := some 3) H); exact nF; intro b3) | ((with_reducible apply st_box (dst := some 4) H); exact nF; intro b4) | ((with_reducible apply st_box (dst := some 5) H); exact nF; intro b5) | ((with_reducible apply st_strsum H); rfl; rfl; exact szF; kernel_rfl) | ((first | ((with_reducible apply st_eqLabz H); rfl; rfl; (focus assumption)) | ((with_reducible apply st_neLabz H); rfl; rfl; (focus assumption)) | ((with_reducible apply st_eqLab H); rfl; rfl) | ((with_reducible apply st_neLab H); rfl; rfl))) | ((with_reducible apply st_loadat H); decide +kernel; rfl; exact aF; exact zF; rfl)); clear H; intro wn H; simp only [Act.put, yA, yB, yC, yD, yE, yF]) | ((first | (go_at_call 109; refine gvF (c1 _ H.below) H ?_)); clear H; intro wn H) | ((with_reducible apply wp_region_hq (id := 6) H); kernel_rfl; kernel_rfl; (iterate 9 (all_goals ((with_reducible refine' hq_step ?_ ?_ ?_); rotate_left; rfl; (focus (intro w1 H1; first | (first | exact qF | exact qAF | exact qRF) | (exact qEF) | (exact qVF))); (try simp only [yG, yH, yJ, yK]); simp only [Act.put, yA, yB, yC, yD, yE, yF]))); (iterate 8 (all_goals (first | ((with_reducible refine hq_gwT ?_ ?_); rfl; ((with_reducible refine' hq_step ?_ ?_ ?_); rotate_left; rfl; (focus (intro w1 H1; first | (first | exact qF | exact qAF | exact qRF) | (exact qEF) | (exact qVF))); (try simp only [yG, yH, yJ, yK]); simp only [Act.put, yA, yB, yC, yD, yE, yF])) | ((with_reducible refine hq_gsT ?_ ?_); rfl; (try simp only [Act.put, yA, yB, yC, yD, yE, yF])) | ((with_reducible refine hq_skip ?_ ?_); rfl; (try simp only [Act.put, yA, yB, yC, yD, yE, yF]))))); (iterate 1 (all_goals ((with_reducible refine' hq_step ?_ ?_ ?_); rotate_left; rfl; (focus (intro w1 H1; exact qVF)); (try simp only [yG, yH, yJ, yK]); simp only [Act.put, yA, yB, yC, yD, yE, yF]))); all_goals (refine wpQuiet_nil ?_; clear H; intro wn H)) | fail)
        go_roundg (n - (i + 1))
        case measure => omega
        case rel => exact ⟨i + 1, by omega, by go_num, HI2, H.sel sF⟩
      · have HI3 : Hid (z = i) := Lib.hid (by rw [hstep, hp1, hp2]; rfl)
        clear hstep
        go_wp2_with (first | ((first | ((with_reducible apply st_load1 H); decide +kernel; rfl; exact cF) | ((with_reducible apply st_loads H); decide +kernel; rfl; exact iF; exact zF; rfl)); clear H; intro wn H; (try simp only [splice, yG, yH, yI, yJ, yK, yL, yM, yN, yO, yP, yQ, Nat.reduceAdd, yA, yB, yC] at H); simp only [Act.put, yA, yB, yC, yD, yE, yF]) | ((first | ((with_reducible apply st_box (dst := some 3) H); exact nF; intro b3) | ((with_reducible apply st_box (dst := some 4) H); exact nF; intro b4) | ((with_reducible apply st_box (dst := some 5) H); exact nF; intro b5) | ((with_reducible apply st_strsum H); rfl; rfl; exact szF; kernel_rfl) | ((first | ((with_reducible apply st_eqLabz H); rfl; rfl; (focus assumption)) | ((with_reducible apply st_neLabz H); rfl; rfl; (focus assumption)) | ((with_reducible apply st_eqLab H); rfl; rfl) | ((with_reducible apply st_neLab H); rfl; rfl))) | ((with_reducible apply st_loadat H); decide +kernel; rfl; exact aF; exact zF; rfl)); clear H; intro wn H; simp only [Act.put, yA, yB, yC, yD, yE, yF]) | ((first | (go_at_call 109; refine gvF (c1 _ H.below) H ?_)); clear H; intro wn H) | ((with_reducible apply wp_region_hq (id := 6) H); kernel_rfl; kernel_rfl; (iterate 9 (all_goals ((with_reducible refine' hq_step ?_ ?_ ?_); rotate_left; rfl; (focus (intro w1 H1; first | (first | exact qF | exact qAF | exact qRF) | (exact qEF) | (exact qVF))); (try simp only [yG, yH, yJ, yK]); simp only [Act.put, yA, yB, yC, yD, yE, yF]))); (iterate 8 (all_goals (first | ((with_reducible refine hq_gwT ?_ ?_); rfl; ((with_reducible refine' hq_step ?_ ?_ ?_); rotate_left; rfl; (focus (intro w1 H1; first | (first | exact qF | exact qAF | exact qRF) | (exact qEF) | (exact qVF))); (try simp only [yG, yH, yJ, yK]); simp only [Act.put, yA, yB, yC, yD, yE, yF])) | ((with_reducible refine hq_gsT ?_ ?_); rfl; (try simp only [Act.put, yA, yB, yC, yD, yE, yF])) | ((with_reducible refine hq_skip ?_ ?_); rfl; (try simp only [Act.put, yA, yB, yC, yD, yE, yF]))))); (iterate 1 (all_goals ((with_reducible refine' hq_step ?_ ?_ ?_); rotate_left; rfl; (focus (intro w1 H1; exact qVF)); (try simp only [yG, yH, yJ, yK]); simp only [Act.put, yA, yB, yC, yD, yE, yF]))); all_goals (refine wpQuiet_nil ?_; clear H; intro wn H)) | fail)
        go_ret
        exact ⟨by rw [HI3.out]; rfl, H.below⟩
    · obtain rfl : i = n := by omega
      have hlt1 : ¬ (i : Int) < i := by omega
      have HI2 : Hid (z = -1) := Lib.hid (by rw [HI.out, idxF_end (by rw [← HN.out]; exact Nat.le_refl _)])
      clear HI HZ
      go_wp2_with (first | ((first | ((with_reducible apply st_load1 H); decide +kernel; rfl; exact cF) | ((with_reducible apply st_loads H); decide +kernel; rfl; exact iF; exact zF; rfl)); clear H; intro wn H; (try simp only [splice, yG, yH, yI, yJ, yK, yL, yM, yN, yO, yP, yQ, Nat.reduceAdd, yA, yB, yC] at H); simp only [Act.put, yA, yB, yC, yD, yE, yF]) | ((first | ((with_reducible apply st_box (dst := some 3) H); exact nF; intro b3) | ((with_reducible apply st_box (dst := some 4) H); exact nF; intro b4) | ((with_reducible apply st_box (dst := some 5) H); exact nF; intro b5) | ((with_reducible apply st_strsum H); rfl; rfl; exact szF; kernel_rfl) | ((first | ((with_reducible apply st_eqLabz H); rfl; rfl; (focus assumption)) | ((with_reducible apply st_neLabz H); rfl; rfl; (focus assumption)) | ((with_reducible apply st_eqLab H); rfl; rfl) | ((with_reducible apply st_neLab H); rfl; rfl))) | ((with_reducible apply st_loadat H); decide +kernel; rfl; exact aF; exact zF; rfl)); clear H; intro wn H; simp only [Act.put, yA, yB, yC, yD, yE, yF]) | ((first | (go_at_call 109; refine gvF (c1 _ H.below) H ?_)); clear H; intro wn H) | ((with_reducible apply wp_region_hq (id := 6) H); kernel_rfl; kernel_rfl; (iterate 9 (all_goals ((with_reducible refine' hq_step ?_ ?_ ?_); rotate_left; rfl; (focus (intro w1 H1; first | (first | exact qF | exact qAF | exact qRF) | (exact qEF) | (exact qVF))); (try simp only [yG, yH, yJ, yK]); simp only [Act.put, yA, yB, yC, yD, yE, yF]))); (iterate 8 (all_goals (first | ((with_reducible refine hq_gwT ?_ ?_); rfl; ((with_reducible refine' hq_step ?_ ?_ ?_); rotate_left; rfl; (focus (intro w1 H1; first | (first | exact qF | exact qAF | exact qRF) | (exact qEF) | (exact qVF))); (try simp only [yG, yH, yJ, yK]); simp only [Act.put, yA, yB, yC, yD, yE, yF])) | ((with_reducible refine hq_gsT ?_ ?_); rfl; (try simp only [Act.put, yA, yB, yC, yD, yE, yF])) | ((with_reducible refine hq_skip ?_ ?_); rfl; (try simp only [Act.put, yA, yB, yC, yD, yE, yF]))))); (iterate 1 (all_goals ((with_reducible refine' hq_step ?_ ?_ ?_); rotate_left; rfl; (focus (intro w1 H1; exact qVF)); (try simp only [yG, yH, yJ, yK]); simp only [Act.put, yA, yB, yC, yD, yE, yF]))); all_goals (refine wpQuiet_nil ?_; clear H; intro wn H)) | fail)
      go_ret
      exact ⟨by rw [HI2.out]; rfl, H.below⟩
end Go.Proofs.YteeafechjkilkaaGreat
