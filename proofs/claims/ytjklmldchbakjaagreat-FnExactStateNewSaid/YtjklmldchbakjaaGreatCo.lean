/-
  Configurations that may be so, in the reference and in the program: the walks.
-/
import Derived.Test.YtjklmldchbakjaaGreatCn
set_option linter.unusedSimpArgs false
set_option linter.unusedVariables false
namespace Go.Proofs.YtjklmldchbakjaaGreat
open Go.RowKit M
namespace M
abbrev Cfg := List (List Lab) × List Pr × List Qt × Int
def cfgOk (c : Cfg) : Bool := clearOk c.1 && (isIn c.2.2.2 1 9 && (decide ((labelsOf c.1).length ≤ 8) && (pairsOk (labelsOf c.1) c.2.1 && quotasOk (labelsOf c.1) c.2.2.1)))
theorem labs_ok : ∀ a ∈ labsAll, okL a = true := by decide
theorem labels_ok {l : List (List Lab)} (a : Lab) (h : hasL (labelsOf l) a = true) : okL a = true := by
  have h1 := hasL_iff.1 h
  unfold labelsOf at h1
  exact labs_ok a (List.mem_filter.1 h1).1
end M
def tyCfg : Ty Cfg := Ty.pair (Ty.sl 93 (Ty.sl 96 tyLab)) (Ty.pair (Ty.sl 98 tyPr) (Ty.pair (Ty.sl 104 tyQt) tyNum))
theorem cfg_form {w : World} {cs : List Value} {c : Cfg} (h : tyCfg.rd w cs c) : ∃ v1 v2 v3, cs = [v1, v2, v3, .int .i64 c.2.2.2] ∧ (Ty.sl 93 (Ty.sl 96 tyLab)).rd w [v1] c.1 ∧ (Ty.sl 98 tyPr).rd w [v2] c.2.1 ∧ (Ty.sl 104 tyQt).rd w [v3] c.2.2.1 := by
  obtain ⟨x1, y1, rfl, h1, x2, y2, rfl, h2, x3, y3, rfl, h3, h4⟩ := h
  obtain ⟨v1, hv1⟩ : ∃ v, x1 = [v] := by obtain ⟨v, _, rfl, _⟩ := h1; exact ⟨v, rfl⟩
  obtain ⟨v2, hv2⟩ : ∃ v, x2 = [v] := by obtain ⟨v, _, rfl, _⟩ := h2; exact ⟨v, rfl⟩
  obtain ⟨v3, hv3⟩ : ∃ v, x3 = [v] := by obtain ⟨v, _, rfl, _⟩ := h3; exact ⟨v, rfl⟩
  subst hv1 hv2 hv3
  obtain rfl : y3 = encNum c.2.2.2 := h4
  exact ⟨v1, v2, v3, rfl, h1, h2, h3⟩
set_option maxRecDepth 100000 in
set_option maxHeartbeats 4000000 in
theorem configRight_s (c : Cfg) (cs : List Value) (w : World) (hr : tyCfg.rd w cs c) : Gives Tryz.prog 48 #[.agg cs.toArray] w (.bool (cfgOk c)) := by
  obtain ⟨v1, v2, v3, rfl, h1, h2, h3⟩ := cfg_form hr
  clear hr
  obtain ⟨l, pr, qt, hf⟩ := c
  simp only at h1 h2 h3
  show Gives Tryz.prog _ #[.agg #[v1, v2, v3, .int .i64 hf]] w _
  have HR1 := Lib.hid h1
  have HR2 := Lib.hid h2
  have HR3 := Lib.hid h3
  obtain ⟨z, hz⟩ : ∃ z, z = cfgOk (l, pr, qt, hf) := ⟨_, rfl⟩
  rw [← hz]
  have HZ : Hid (z = (clearOk l && (isIn hf 1 9 && (decide ((labelsOf l).length ≤ 8) && (pairsOk (labelsOf l) pr && quotasOk (labelsOf l) qt))))) := Lib.hid hz
  have c1 := fun w1 hb => clear_s v1 l w1 (Ty.below _ HR1.out hb)
  have c2 := fun w1 => is_s hf 1 9 w1
  clear hz h1 h2 h3
  have hst := HZ.out
  unfold isIn at hst
  generalize clearOk l = z1 at *
  generalize (decide (1 ≤ hf) && decide (hf ≤ 9)) = z2 at *
  have H := Hs.start noRow w
  unfold Gives
  cases z1
  case false =>
    have HI2 : Hid (z = false) := Lib.hid (by rw [hst]; simp)
    clear hst HZ
    go_enter Tryz.func48, Tryz.ntmps48
    go_wp2_with (first | ((first | ((with_reducible refine st_gwT ?_ ?_); rfl) | ((with_reducible refine st_gwF ?_ ?_); rfl) | ((with_reducible refine st_gsT ?_ ?_); rfl) | ((with_reducible refine st_gsF ?_ ?_); rfl)); (try simp only [Act.put, yA, yB, yC, yD, yE, yF])) | ((with_reducible refine' st_guard ?_ ?_ ?_); rotate_left; rfl; (all_goals (intro hgd; cases hgd)); (try simp only [Act.put, yA, yB, yC, yD, yE, yF])) | ((with_reducible apply st_want); rfl) | ((with_reducible refine st_skip ?_ ?_); rfl; simp only [Act.put, yA, yB, yC, yD, yE, yF]) | ((first | ((with_reducible apply st_load1 H); decide +kernel; rfl; exact cF) | ((with_reducible apply st_loads H); decide +kernel; rfl; exact iF; exact zF; rfl)); clear H; intro wn H; (try simp only [splice, yG, yH, yI, yJ, yK, yL, yM, yN, yO, yP, yQ, Nat.reduceAdd, yA, yB, yC] at H); simp only [Act.put, yA, yB, yC, yD, yE, yF]) | ((first | ((with_reducible apply st_box (dst := some 1) H); exact nF; intro b1) | ((with_reducible apply st_strsum H); rfl; rfl; exact szF; kernel_rfl) | ((with_reducible apply st_loadat H); decide +kernel; rfl; exact aF; exact zF; rfl)); clear H; intro wn H; simp only [Act.put, yA, yB, yC, yD, yE, yF]) | ((first | (go_at_call 75; refine gvF (c1 _ H.below) H ?_) | (go_at_call 68; refine gvF (c2 _) H ?_)); clear H; intro wn H) | fail)
    go_ret
    exact ⟨by rw [HI2.out]; rfl, H.below⟩
  cases z2
  case false =>
    have HI2 : Hid (z = false) := Lib.hid (by rw [hst]; simp)
    clear hst HZ
    go_enter Tryz.func48, Tryz.ntmps48
    go_wp2_with (first | ((first | ((with_reducible refine st_gwT ?_ ?_); rfl) | ((with_reducible refine st_gwF ?_ ?_); rfl) | ((with_reducible refine st_gsT ?_ ?_); rfl) | ((with_reducible refine st_gsF ?_ ?_); rfl)); (try simp only [Act.put, yA, yB, yC, yD, yE, yF])) | ((with_reducible refine' st_guard ?_ ?_ ?_); rotate_left; rfl; (all_goals (intro hgd; cases hgd)); (try simp only [Act.put, yA, yB, yC, yD, yE, yF])) | ((with_reducible apply st_want); rfl) | ((with_reducible refine st_skip ?_ ?_); rfl; simp only [Act.put, yA, yB, yC, yD, yE, yF]) | ((first | ((with_reducible apply st_load1 H); decide +kernel; rfl; exact cF) | ((with_reducible apply st_loads H); decide +kernel; rfl; exact iF; exact zF; rfl)); clear H; intro wn H; (try simp only [splice, yG, yH, yI, yJ, yK, yL, yM, yN, yO, yP, yQ, Nat.reduceAdd, yA, yB, yC] at H); simp only [Act.put, yA, yB, yC, yD, yE, yF]) | ((first | ((with_reducible apply st_box (dst := some 1) H); exact nF; intro b1) | ((with_reducible apply st_strsum H); rfl; rfl; exact szF; kernel_rfl) | ((with_reducible apply st_loadat H); decide +kernel; rfl; exact aF; exact zF; rfl)); clear H; intro wn H; simp only [Act.put, yA, yB, yC, yD, yE, yF]) | ((first | (go_at_call 75; refine gvF (c1 _ H.below) H ?_) | (go_at_call 68; refine gvF (c2 _) H ?_)); clear H; intro wn H) | fail)
    go_ret
    exact ⟨by rw [HI2.out]; rfl, H.below⟩
  rw [Bool.true_and, Bool.true_and] at hst
  have HZ2 := Lib.hid hst
  clear hst HZ
  go_enter Tryz.func48, Tryz.ntmps48
  go_wp2_with (first | ((first | ((with_reducible refine st_gwT ?_ ?_); rfl) | ((with_reducible refine st_gwF ?_ ?_); rfl) | ((with_reducible refine st_gsT ?_ ?_); rfl) | ((with_reducible refine st_gsF ?_ ?_); rfl)); (try simp only [Act.put, yA, yB, yC, yD, yE, yF])) | ((with_reducible refine' st_guard ?_ ?_ ?_); rotate_left; rfl; (all_goals (intro hgd; cases hgd)); (try simp only [Act.put, yA, yB, yC, yD, yE, yF])) | ((with_reducible apply st_want); rfl) | ((with_reducible refine st_skip ?_ ?_); rfl; simp only [Act.put, yA, yB, yC, yD, yE, yF]) | ((first | ((with_reducible apply st_load1 H); decide +kernel; rfl; exact cF) | ((with_reducible apply st_loads H); decide +kernel; rfl; exact iF; exact zF; rfl)); clear H; intro wn H; (try simp only [splice, yG, yH, yI, yJ, yK, yL, yM, yN, yO, yP, yQ, Nat.reduceAdd, yA, yB, yC] at H); simp only [Act.put, yA, yB, yC, yD, yE, yF]) | ((first | ((with_reducible apply st_box (dst := some 1) H); exact nF; intro b1) | ((with_reducible apply st_strsum H); rfl; rfl; exact szF; kernel_rfl) | ((with_reducible apply st_loadat H); decide +kernel; rfl; exact aF; exact zF; rfl)); clear H; intro wn H; simp only [Act.put, yA, yB, yC, yD, yE, yF]) | ((first | (go_at_call 75; refine gvF (c1 _ H.below) H ?_) | (go_at_call 68; refine gvF (c2 _) H ?_)); clear H; intro wn H) | fail)
  refine (Rets.use (labels_s v1 l _ (Ty.below _ HR1.out H.below))).mono ?_; rintro e wn ⟨_, _, rfl, ⟨N, hN, rfl, hone⟩, hkk⟩; have Hn := H.moreK (by intro k hk; first | exact absurd hk List.not_mem_nil | (obtain rfl := List.mem_singleton.1 hk; exact In.mem iF)) hkk; clear hkk; clear H; have H := Hn; clear Hn; (try simp only [yT, yV] at H)
  have hN2 := own_single hN hone rfl
  clear hN hone
  have hlab : ∀ a, hasL (labelsOf l) a = true → okL a = true := fun a => labels_ok a
  obtain ⟨A, ca, rfl, hlc, hcm⟩ := sl_form (own_rd H .here hN2)
  generalize labelsOf l = ls at *
  obtain ⟨n, hn⟩ : ∃ n, n = ls.length := ⟨_, rfl⟩
  have hst := HZ2.out
  rw [← hn] at hst hN2 ⊢
  have c3 := fun w1 hb hl => pairs_s v2 (.slice A n ca) pr ls hlab w1 (Ty.below _ HR2.out hb) hl
  have c4 := fun w1 hb hl => quotas_s v3 (.slice A n ca) qt ls hlab w1 (Ty.below _ HR3.out hb) hl
  have HN2 := Lib.hid hN2
  have HLAB := Lib.hid hlab
  have HN := Lib.hid hn
  clear hlab hlc hcm hN2 c1 c2 HZ2
  by_cases h8 : n ≤ 8
  · have h9 : (n : Int) ≤ 8 := by omega
    rw [decide_eq_true h8, Bool.true_and] at hst
    cases hp : pairsOk ls pr
    case false =>
      have HI2 : Hid (z = false) := Lib.hid (by rw [hst, hp]; rfl)
      rw [hp] at c3
      clear hst hn c4
      go_wp2_with (first | ((first | ((with_reducible refine st_gwT ?_ ?_); rfl) | ((with_reducible refine st_gwF ?_ ?_); rfl) | ((with_reducible refine st_gsT ?_ ?_); rfl) | ((with_reducible refine st_gsF ?_ ?_); rfl)); (try simp only [Act.put, yA, yB, yC, yD, yE, yF])) | ((with_reducible refine' st_guard ?_ ?_ ?_); rotate_left; rfl; (all_goals (intro hgd; cases hgd)); (try simp only [Act.put, yA, yB, yC, yD, yE, yF])) | ((with_reducible apply st_want); rfl) | ((with_reducible refine st_skip ?_ ?_); rfl; simp only [Act.put, yA, yB, yC, yD, yE, yF]) | ((first | ((with_reducible apply st_load1 H); decide +kernel; rfl; exact cF) | ((with_reducible apply st_loads H); decide +kernel; rfl; exact iF; exact zF; rfl)); clear H; intro wn H; (try simp only [splice, yG, yH, yI, yJ, yK, yL, yM, yN, yO, yP, yQ, Nat.reduceAdd, yA, yB, yC] at H); simp only [Act.put, yA, yB, yC, yD, yE, yF]) | ((first | ((with_reducible apply st_box (dst := some 1) H); exact nF; intro b1) | ((with_reducible apply st_strsum H); rfl; rfl; exact szF; kernel_rfl) | ((with_reducible apply st_loadat H); decide +kernel; rfl; exact aF; exact zF; rfl)); clear H; intro wn H; simp only [Act.put, yA, yB, yC, yD, yE, yF]) | ((first | (go_at_call 75; refine gvF (c1 _ H.below) H ?_) | (go_at_call 68; refine gvF (c2 _) H ?_) | (go_at_call 76; refine gvF (c3 _ H.below (own_rd H iF HN2.out)) H ?_) | (go_at_call 77; refine gvF (c4 _ H.below (own_rd H iF HN2.out)) H ?_)); clear H; intro wn H) | fail)
      go_ret
      exact ⟨by rw [HI2.out]; rfl, H.below⟩
    case true =>
      rw [hp, Bool.true_and] at hst
      rw [hp] at c3
      have hq8 : (decide (qt.length ≤ 8) && quotasOk ls qt) = quotasOk ls qt := by
        cases hq : quotasOk ls qt
        · simp
        · have := quotas_len HLAB.out hq
          simp
          omega
      rw [hq8, ← hst] at c4
      clear hst hn hq8
      go_wp2_with (first | ((first | ((with_reducible refine st_gwT ?_ ?_); rfl) | ((with_reducible refine st_gwF ?_ ?_); rfl) | ((with_reducible refine st_gsT ?_ ?_); rfl) | ((with_reducible refine st_gsF ?_ ?_); rfl)); (try simp only [Act.put, yA, yB, yC, yD, yE, yF])) | ((with_reducible refine' st_guard ?_ ?_ ?_); rotate_left; rfl; (all_goals (intro hgd; cases hgd)); (try simp only [Act.put, yA, yB, yC, yD, yE, yF])) | ((with_reducible apply st_want); rfl) | ((with_reducible refine st_skip ?_ ?_); rfl; simp only [Act.put, yA, yB, yC, yD, yE, yF]) | ((first | ((with_reducible apply st_load1 H); decide +kernel; rfl; exact cF) | ((with_reducible apply st_loads H); decide +kernel; rfl; exact iF; exact zF; rfl)); clear H; intro wn H; (try simp only [splice, yG, yH, yI, yJ, yK, yL, yM, yN, yO, yP, yQ, Nat.reduceAdd, yA, yB, yC] at H); simp only [Act.put, yA, yB, yC, yD, yE, yF]) | ((first | ((with_reducible apply st_box (dst := some 1) H); exact nF; intro b1) | ((with_reducible apply st_strsum H); rfl; rfl; exact szF; kernel_rfl) | ((with_reducible apply st_loadat H); decide +kernel; rfl; exact aF; exact zF; rfl)); clear H; intro wn H; simp only [Act.put, yA, yB, yC, yD, yE, yF]) | ((first | (go_at_call 75; refine gvF (c1 _ H.below) H ?_) | (go_at_call 68; refine gvF (c2 _) H ?_) | (go_at_call 76; refine gvF (c3 _ H.below (own_rd H iF HN2.out)) H ?_) | (go_at_call 77; refine gvF (c4 _ H.below (own_rd H iF HN2.out)) H ?_)); clear H; intro wn H) | fail)
      go_ret
      exact ⟨rfl, H.below⟩
  · have h9 : ¬ (n : Int) ≤ 8 := by omega
    have HI2 : Hid (z = false) := Lib.hid (by rw [hst]; simp [h8])
    clear hst hn c3 c4
    go_wp2_with (first | ((first | ((with_reducible refine st_gwT ?_ ?_); rfl) | ((with_reducible refine st_gwF ?_ ?_); rfl) | ((with_reducible refine st_gsT ?_ ?_); rfl) | ((with_reducible refine st_gsF ?_ ?_); rfl)); (try simp only [Act.put, yA, yB, yC, yD, yE, yF])) | ((with_reducible refine' st_guard ?_ ?_ ?_); rotate_left; rfl; (all_goals (intro hgd; cases hgd)); (try simp only [Act.put, yA, yB, yC, yD, yE, yF])) | ((with_reducible apply st_want); rfl) | ((with_reducible refine st_skip ?_ ?_); rfl; simp only [Act.put, yA, yB, yC, yD, yE, yF]) | ((first | ((with_reducible apply st_load1 H); decide +kernel; rfl; exact cF) | ((with_reducible apply st_loads H); decide +kernel; rfl; exact iF; exact zF; rfl)); clear H; intro wn H; (try simp only [splice, yG, yH, yI, yJ, yK, yL, yM, yN, yO, yP, yQ, Nat.reduceAdd, yA, yB, yC] at H); simp only [Act.put, yA, yB, yC, yD, yE, yF]) | ((first | ((with_reducible apply st_box (dst := some 1) H); exact nF; intro b1) | ((with_reducible apply st_strsum H); rfl; rfl; exact szF; kernel_rfl) | ((with_reducible apply st_loadat H); decide +kernel; rfl; exact aF; exact zF; rfl)); clear H; intro wn H; simp only [Act.put, yA, yB, yC, yD, yE, yF]) | ((first | (go_at_call 75; refine gvF (c1 _ H.below) H ?_) | (go_at_call 68; refine gvF (c2 _) H ?_) | (go_at_call 76; refine gvF (c3 _ H.below (own_rd H iF HN2.out)) H ?_) | (go_at_call 77; refine gvF (c4 _ H.below (own_rd H iF HN2.out)) H ?_)); clear H; intro wn H) | fail)
    go_ret
    exact ⟨by rw [HI2.out]; rfl, H.below⟩
set_option maxRecDepth 100000 in
set_option maxHeartbeats 4000000 in
theorem configRight_i (c : Cfg) (cs : List Value) (w : World) (hr : tyCfg.rd w cs c) : Gives Tryz.prog 55 #[.agg cs.toArray] w (.bool (cfgOk c)) := by
  obtain ⟨v1, v2, v3, rfl, h1, h2, h3⟩ := cfg_form hr
  clear hr
  obtain ⟨l, pr, qt, hf⟩ := c
  simp only at h1 h2 h3
  show Gives Tryz.prog _ #[.agg #[v1, v2, v3, .int .i64 hf]] w _
  obtain ⟨pA, pc, hv2, _, _⟩ := sl_form h2
  obtain ⟨qA, qc, hv3, _, _⟩ := sl_form h3
  obtain ⟨pn, hpn⟩ : ∃ n, n = pr.length := ⟨_, rfl⟩
  obtain ⟨qn, hqn⟩ : ∃ n, n = qt.length := ⟨_, rfl⟩
  rw [← hpn] at hv2
  rw [← hqn] at hv3
  subst hv2 hv3
  obtain ⟨nA, nc, hv1, _, _⟩ := sl_form h1
  obtain ⟨nn, hnn⟩ : ∃ n, n = l.length := ⟨_, rfl⟩
  rw [← hnn] at hv1
  subst hv1
  have HR1 := Lib.hid h1
  have HR2 := Lib.hid h2
  have HR3 := Lib.hid h3
  obtain ⟨z, hz⟩ : ∃ z, z = cfgOk (l, pr, qt, hf) := ⟨_, rfl⟩
  rw [← hz]
  have HZ : Hid (z = (clearOk l && (isIn hf 1 9 && (decide ((labelsOf l).length ≤ 8) && (pairsOk (labelsOf l) pr && quotasOk (labelsOf l) qt))))) := Lib.hid hz
  have c1 := fun w1 hb => clearRight_i _ l w1 (Ty.below _ HR1.out hb)
  have c2 := fun w1 => within_i hf 1 9 w1
  clear hz h1 h2 h3 hpn hqn hnn
  have hst := HZ.out
  unfold isIn at hst
  obtain ⟨z1, hz1⟩ : ∃ z1, z1 = clearOk l := ⟨_, rfl⟩
  rw [← hz1] at hst c1
  have HOK0 := Lib.hid hz1
  clear hz1
  generalize (decide (1 ≤ hf) && decide (hf ≤ 9)) = z2 at *
  have H := Hs.start noRow w
  unfold Gives
  cases z1
  case false =>
    have HI2 : Hid (z = false) := Lib.hid (by rw [hst]; simp)
    clear hst HZ
    go_enter Tryz.func55, Tryz.ntmps55
    go_wp2_with (first | ((first | ((with_reducible refine st_gwT ?_ ?_); rfl) | ((with_reducible refine st_gwF ?_ ?_); rfl) | ((with_reducible refine st_gsT ?_ ?_); rfl) | ((with_reducible refine st_gsF ?_ ?_); rfl)); (try simp only [Act.put, yA, yB, yC, yD, yE, yF])) | ((with_reducible refine' st_guard ?_ ?_ ?_); rotate_left; rfl; (all_goals (intro hgd; cases hgd)); (try simp only [Act.put, yA, yB, yC, yD, yE, yF])) | ((with_reducible apply st_want); rfl) | ((with_reducible refine st_skip ?_ ?_); rfl; simp only [Act.put, yA, yB, yC, yD, yE, yF]) | ((first | ((with_reducible apply st_load1 H); decide +kernel; rfl; exact cF) | ((with_reducible apply st_loads H); decide +kernel; rfl; exact iF; exact zF; rfl)); clear H; intro wn H; (try simp only [splice, yG, yH, yI, yJ, yK, yL, yM, yN, yO, yP, yQ, Nat.reduceAdd, yA, yB, yC] at H); simp only [Act.put, yA, yB, yC, yD, yE, yF]) | ((first | ((with_reducible apply st_box (dst := some 1) H); exact nF; intro b1) | ((with_reducible apply st_strsum H); rfl; rfl; exact szF; kernel_rfl) | ((with_reducible apply st_loadat H); decide +kernel; rfl; exact aF; exact zF; rfl)); clear H; intro wn H; simp only [Act.put, yA, yB, yC, yD, yE, yF]) | ((first | (go_at_call 79; refine gvF (c1 _ H.below) H ?_) | (go_at_call 70; refine gvF (c2 _) H ?_)); clear H; intro wn H) | fail)
    go_ret
    exact ⟨by rw [HI2.out]; rfl, H.below⟩
  cases z2
  case false =>
    have HI2 : Hid (z = false) := Lib.hid (by rw [hst]; simp)
    clear hst HZ
    go_enter Tryz.func55, Tryz.ntmps55
    go_wp2_with (first | ((first | ((with_reducible refine st_gwT ?_ ?_); rfl) | ((with_reducible refine st_gwF ?_ ?_); rfl) | ((with_reducible refine st_gsT ?_ ?_); rfl) | ((with_reducible refine st_gsF ?_ ?_); rfl)); (try simp only [Act.put, yA, yB, yC, yD, yE, yF])) | ((with_reducible refine' st_guard ?_ ?_ ?_); rotate_left; rfl; (all_goals (intro hgd; cases hgd)); (try simp only [Act.put, yA, yB, yC, yD, yE, yF])) | ((with_reducible apply st_want); rfl) | ((with_reducible refine st_skip ?_ ?_); rfl; simp only [Act.put, yA, yB, yC, yD, yE, yF]) | ((first | ((with_reducible apply st_load1 H); decide +kernel; rfl; exact cF) | ((with_reducible apply st_loads H); decide +kernel; rfl; exact iF; exact zF; rfl)); clear H; intro wn H; (try simp only [splice, yG, yH, yI, yJ, yK, yL, yM, yN, yO, yP, yQ, Nat.reduceAdd, yA, yB, yC] at H); simp only [Act.put, yA, yB, yC, yD, yE, yF]) | ((first | ((with_reducible apply st_box (dst := some 1) H); exact nF; intro b1) | ((with_reducible apply st_strsum H); rfl; rfl; exact szF; kernel_rfl) | ((with_reducible apply st_loadat H); decide +kernel; rfl; exact aF; exact zF; rfl)); clear H; intro wn H; simp only [Act.put, yA, yB, yC, yD, yE, yF]) | ((first | (go_at_call 79; refine gvF (c1 _ H.below) H ?_) | (go_at_call 70; refine gvF (c2 _) H ?_)); clear H; intro wn H) | fail)
    go_ret
    exact ⟨by rw [HI2.out]; rfl, H.below⟩
  rw [Bool.true_and, Bool.true_and] at hst
  have HOK : Hid (clearOk l = true) := Lib.hid HOK0.out.symm
  clear HOK0
  have HZ2 := Lib.hid hst
  clear hst HZ
  go_enter Tryz.func55, Tryz.ntmps55
  go_wp2_with (first | ((first | ((with_reducible refine st_gwT ?_ ?_); rfl) | ((with_reducible refine st_gwF ?_ ?_); rfl) | ((with_reducible refine st_gsT ?_ ?_); rfl) | ((with_reducible refine st_gsF ?_ ?_); rfl)); (try simp only [Act.put, yA, yB, yC, yD, yE, yF])) | ((with_reducible refine' st_guard ?_ ?_ ?_); rotate_left; rfl; (all_goals (intro hgd; cases hgd)); (try simp only [Act.put, yA, yB, yC, yD, yE, yF])) | ((with_reducible apply st_want); rfl) | ((with_reducible refine st_skip ?_ ?_); rfl; simp only [Act.put, yA, yB, yC, yD, yE, yF]) | ((first | ((with_reducible apply st_load1 H); decide +kernel; rfl; exact cF) | ((with_reducible apply st_loads H); decide +kernel; rfl; exact iF; exact zF; rfl)); clear H; intro wn H; (try simp only [splice, yG, yH, yI, yJ, yK, yL, yM, yN, yO, yP, yQ, Nat.reduceAdd, yA, yB, yC] at H); simp only [Act.put, yA, yB, yC, yD, yE, yF]) | ((first | ((with_reducible apply st_box (dst := some 1) H); exact nF; intro b1) | ((with_reducible apply st_strsum H); rfl; rfl; exact szF; kernel_rfl) | ((with_reducible apply st_loadat H); decide +kernel; rfl; exact aF; exact zF; rfl)); clear H; intro wn H; simp only [Act.put, yA, yB, yC, yD, yE, yF]) | ((first | (go_at_call 79; refine gvF (c1 _ H.below) H ?_) | (go_at_call 70; refine gvF (c2 _) H ?_)); clear H; intro wn H) | fail)
  refine (Rets.use (labels_i _ pA qA pn pc qn qc hf l HOK.out _ (Ty.below _ HR1.out H.below))).mono ?_; rintro e wn ⟨_, _, rfl, ⟨N, hN, rfl, hone⟩, hkk⟩; have Hn := H.moreK (by intro k hk; first | exact absurd hk List.not_mem_nil | (obtain rfl := List.mem_singleton.1 hk; exact In.mem iF)) hkk; clear hkk; clear H; have H := Hn; clear Hn; (try simp only [yT, yV] at H)
  have hN2 := own_single hN hone rfl
  clear hN hone
  have hlab : ∀ a, hasL (labelsOf l) a = true → okL a = true := fun a => labels_ok a
  obtain ⟨A, ca, rfl, hlc, hcm⟩ := sl_form (own_rd H .here hN2)
  generalize labelsOf l = ls at *
  obtain ⟨n, hn⟩ : ∃ n, n = ls.length := ⟨_, rfl⟩
  have hst := HZ2.out
  rw [← hn] at hst hN2 ⊢
  have c3 := fun w1 hb hl => pairsOf_i nA qA nn nc qn qc hf _ (.slice A n ca) pr ls hlab w1 (Ty.below _ HR2.out hb) hl
  have c4 := fun w1 hb hl => quotasOf_i nA pA nn nc pn pc hf _ (.slice A n ca) qt ls w1 (Ty.below _ HR3.out hb) hl
  have HN2 := Lib.hid hN2
  have HLAB := Lib.hid hlab
  have HN := Lib.hid hn
  clear hlab hlc hcm hN2 c1 c2 HZ2
  by_cases h8 : n ≤ 8
  · have h9 : (n : Int) ≤ 8 := by omega
    rw [decide_eq_true h8, Bool.true_and] at hst
    cases hp : pairsOk ls pr
    case false =>
      have HI2 : Hid (z = false) := Lib.hid (by rw [hst, hp]; rfl)
      rw [hp] at c3
      clear hst hn c4
      go_wp2_with (first | ((first | ((with_reducible refine st_gwT ?_ ?_); rfl) | ((with_reducible refine st_gwF ?_ ?_); rfl) | ((with_reducible refine st_gsT ?_ ?_); rfl) | ((with_reducible refine st_gsF ?_ ?_); rfl)); (try simp only [Act.put, yA, yB, yC, yD, yE, yF])) | ((with_reducible refine' st_guard ?_ ?_ ?_); rotate_left; rfl; (all_goals (intro hgd; cases hgd)); (try simp only [Act.put, yA, yB, yC, yD, yE, yF])) | ((with_reducible apply st_want); rfl) | ((with_reducible refine st_skip ?_ ?_); rfl; simp only [Act.put, yA, yB, yC, yD, yE, yF]) | ((first | ((with_reducible apply st_load1 H); decide +kernel; rfl; exact cF) | ((with_reducible apply st_loads H); decide +kernel; rfl; exact iF; exact zF; rfl)); clear H; intro wn H; (try simp only [splice, yG, yH, yI, yJ, yK, yL, yM, yN, yO, yP, yQ, Nat.reduceAdd, yA, yB, yC] at H); simp only [Act.put, yA, yB, yC, yD, yE, yF]) | ((first | ((with_reducible apply st_box (dst := some 1) H); exact nF; intro b1) | ((with_reducible apply st_strsum H); rfl; rfl; exact szF; kernel_rfl) | ((with_reducible apply st_loadat H); decide +kernel; rfl; exact aF; exact zF; rfl)); clear H; intro wn H; simp only [Act.put, yA, yB, yC, yD, yE, yF]) | ((first | (go_at_call 79; refine gvF (c1 _ H.below) H ?_) | (go_at_call 70; refine gvF (c2 _) H ?_) | (go_at_call 80; refine gvF (c3 _ H.below (own_rd H iF HN2.out)) H ?_) | (go_at_call 81; refine gvF (c4 _ H.below (own_rd H iF HN2.out)) H ?_)); clear H; intro wn H) | fail)
      go_ret
      exact ⟨by rw [HI2.out]; rfl, H.below⟩
    case true =>
      rw [hp, Bool.true_and] at hst
      rw [hp] at c3
      rw [← hst] at c4
      clear hst hn
      go_wp2_with (first | ((first | ((with_reducible refine st_gwT ?_ ?_); rfl) | ((with_reducible refine st_gwF ?_ ?_); rfl) | ((with_reducible refine st_gsT ?_ ?_); rfl) | ((with_reducible refine st_gsF ?_ ?_); rfl)); (try simp only [Act.put, yA, yB, yC, yD, yE, yF])) | ((with_reducible refine' st_guard ?_ ?_ ?_); rotate_left; rfl; (all_goals (intro hgd; cases hgd)); (try simp only [Act.put, yA, yB, yC, yD, yE, yF])) | ((with_reducible apply st_want); rfl) | ((with_reducible refine st_skip ?_ ?_); rfl; simp only [Act.put, yA, yB, yC, yD, yE, yF]) | ((first | ((with_reducible apply st_load1 H); decide +kernel; rfl; exact cF) | ((with_reducible apply st_loads H); decide +kernel; rfl; exact iF; exact zF; rfl)); clear H; intro wn H; (try simp only [splice, yG, yH, yI, yJ, yK, yL, yM, yN, yO, yP, yQ, Nat.reduceAdd, yA, yB, yC] at H); simp only [Act.put, yA, yB, yC, yD, yE, yF]) | ((first | ((with_reducible apply st_box (dst := some 1) H); exact nF; intro b1) | ((with_reducible apply st_strsum H); rfl; rfl; exact szF; kernel_rfl) | ((with_reducible apply st_loadat H); decide +kernel; rfl; exact aF; exact zF; rfl)); clear H; intro wn H; simp only [Act.put, yA, yB, yC, yD, yE, yF]) | ((first | (go_at_call 79; refine gvF (c1 _ H.below) H ?_) | (go_at_call 70; refine gvF (c2 _) H ?_) | (go_at_call 80; refine gvF (c3 _ H.below (own_rd H iF HN2.out)) H ?_) | (go_at_call 81; refine gvF (c4 _ H.below (own_rd H iF HN2.out)) H ?_)); clear H; intro wn H) | fail)
      go_ret
      exact ⟨rfl, H.below⟩
  · have h9 : ¬ (n : Int) ≤ 8 := by omega
    have HI2 : Hid (z = false) := Lib.hid (by rw [hst]; simp [h8])
    clear hst hn c3 c4
    go_wp2_with (first | ((first | ((with_reducible refine st_gwT ?_ ?_); rfl) | ((with_reducible refine st_gwF ?_ ?_); rfl) | ((with_reducible refine st_gsT ?_ ?_); rfl) | ((with_reducible refine st_gsF ?_ ?_); rfl)); (try simp only [Act.put, yA, yB, yC, yD, yE, yF])) | ((with_reducible refine' st_guard ?_ ?_ ?_); rotate_left; rfl; (all_goals (intro hgd; cases hgd)); (try simp only [Act.put, yA, yB, yC, yD, yE, yF])) | ((with_reducible apply st_want); rfl) | ((with_reducible refine st_skip ?_ ?_); rfl; simp only [Act.put, yA, yB, yC, yD, yE, yF]) | ((first | ((with_reducible apply st_load1 H); decide +kernel; rfl; exact cF) | ((with_reducible apply st_loads H); decide +kernel; rfl; exact iF; exact zF; rfl)); clear H; intro wn H; (try simp only [splice, yG, yH, yI, yJ, yK, yL, yM, yN, yO, yP, yQ, Nat.reduceAdd, yA, yB, yC] at H); simp only [Act.put, yA, yB, yC, yD, yE, yF]) | ((first | ((with_reducible apply st_box (dst := some 1) H); exact nF; intro b1) | ((with_reducible apply st_strsum H); rfl; rfl; exact szF; kernel_rfl) | ((with_reducible apply st_loadat H); decide +kernel; rfl; exact aF; exact zF; rfl)); clear H; intro wn H; simp only [Act.put, yA, yB, yC, yD, yE, yF]) | ((first | (go_at_call 79; refine gvF (c1 _ H.below) H ?_) | (go_at_call 70; refine gvF (c2 _) H ?_) | (go_at_call 80; refine gvF (c3 _ H.below (own_rd H iF HN2.out)) H ?_) | (go_at_call 81; refine gvF (c4 _ H.below (own_rd H iF HN2.out)) H ?_)); clear H; intro wn H) | fail)
    go_ret
    exact ⟨by rw [HI2.out]; rfl, H.below⟩
end Go.Proofs.YtjklmldchbakjaaGreat
