/-
  Configurations: what the statements do with them: the walks.
-/
import Derived.Test.YtpfdhfchgnnpiaaGreatHb
import Derived.Test.YtpfdhfchgnnpiaaGreatG8
set_option linter.unusedSimpArgs false
set_option linter.unusedVariables false
namespace Go.Proofs.YtpfdhfchgnnpiaaGreat
open Go.RowKit M
namespace M
def szCfg (c : Cfg) : Nat := total c.1 + (c.2.1.length + c.2.2.1.length)
end M
set_option maxRecDepth 100000 in
set_option maxHeartbeats 4000000 in
theorem toConfig_l (c : Cfg) (cs : List Value) (hl : szCfg c ≤ 1048576) (w : World) (hr : tyCfg.rd w cs c) : Rets Tryz.prog [] 37 #[.agg cs.toArray] w (tAgg tyCfg c) := by
  obtain ⟨v1, v2, v3, rfl, h1, h2, h3⟩ := cfg_form hr
  clear hr
  obtain ⟨l, pr, qt, hf⟩ := c
  have hl1 : total l ≤ 1048576 := by have : total l + (pr.length + qt.length) ≤ 1048576 := hl; omega
  have hl2 : pr.length ≤ 1048576 := by have : total l + (pr.length + qt.length) ≤ 1048576 := hl; omega
  have hl3 : qt.length ≤ 1048576 := by have : total l + (pr.length + qt.length) ≤ 1048576 := hl; omega
  simp only at h1 h2 h3
  show Rets Tryz.prog [] _ #[.agg #[v1, v2, v3, .int .i64 hf]] w _
  have c1 := fun w1 hb => toLabelSS_l v1 l hl1 w1 (Ty.below _ (sl_cast (E := 60) (F := 0) (T := Ty.sl 66 tyLab) (U := Ty.sl 0 tyLab) rfl (fun _ _ h => h) h1) hb)
  have c2 := fun w1 hb => toPairS_l v2 pr hl2 w1 (Ty.below _ h2 hb)
  have c3 := fun w1 hb => toQuotaS_l v3 qt hl3 w1 (Ty.below _ h3 hb)
  clear hl hl1 hl2 hl3 h1 h2 h3
  have H := Hs.start noRow w
  refine Rets.of ?_
  go_enter Tryz.func37, Tryz.ntmps37
  go_wp2_with (first | ((((with_reducible apply st_load1 H); decide +kernel; rfl; exact cF)); clear H; intro wn H; (try simp only [splice, yG, yH, yI, yJ, yK, yL, yM, yN, yO, yP, yQ, Nat.reduceAdd, yA, yB, yC] at H); simp only [Act.put, yA, yB, yC, yD, yE, yF]) | ((first | ((with_reducible apply st_box (dst := some 1) H); exact nF; intro b1) | ((with_reducible apply st_alloc (dst := some 2) H); exact nF; intro b2) | ((with_reducible apply st_alloc (dst := some 3) H); exact nF; intro b3)); clear H; intro wn H; simp only [Act.put, yA, yB, yC, yD, yE, yF]))
  refine (Rets.use (c1 _ H.below)).mono ?_; rintro e wn ⟨_, _, rfl, ⟨N1, hN1, rfl, o1⟩, hkk⟩; have Hn := H.moreK (by intro k hk; first | exact absurd hk List.not_mem_nil | (obtain rfl := List.mem_singleton.1 hk; exact In.mem iF)) hkk; clear hkk; clear H; have H := Hn; clear Hn; (try simp only [yT, yV] at H)
  have hA1 := own_single hN1 o1 rfl
  clear hN1 o1
  obtain ⟨A1, k1, rfl, _, _⟩ := sl_form (own_rd H .here hA1)
  go_wp2_with (((first | ((with_reducible apply st_load1 H); decide +kernel; rfl; exact cF) | ((with_reducible apply st_store H); rfl; exact eF; (focus (exact cells_agg _)); exact uF; kernel_rfl; (focus (exact Nat.le_of_ble_eq_true (by rfl))); (focus (rfl)))); clear H; intro wn H; (try simp only [splice, yG, yH, yI, yJ, yK, yL, yM, yN, yO, yP, yQ, Nat.reduceAdd, yA, yB, yC] at H); simp only [Act.put, yA, yB, yC, yD, yE, yF]))
  refine (Rets.use (c2 _ H.below)).mono ?_; rintro e wn ⟨_, _, rfl, ⟨N2, hN2, rfl, o2⟩, hkk⟩; have Hn := H.moreK (by intro k hk; first | exact absurd hk List.not_mem_nil | (obtain rfl := List.mem_singleton.1 hk; exact In.mem iF)) hkk; clear hkk; clear H; have H := Hn; clear Hn; (try simp only [yT, yV] at H)
  have hA2 := own_single hN2 o2 rfl
  clear hN2 o2
  obtain ⟨A2, k2, rfl, _, _⟩ := sl_form (own_rd H .here hA2)
  go_wp2_with (((first | ((with_reducible apply st_load1 H); decide +kernel; rfl; exact cF) | ((with_reducible apply st_store H); rfl; exact eF; (focus (exact cells_agg _)); exact uF; kernel_rfl; (focus (exact Nat.le_of_ble_eq_true (by rfl))); (focus (rfl)))); clear H; intro wn H; (try simp only [splice, yG, yH, yI, yJ, yK, yL, yM, yN, yO, yP, yQ, Nat.reduceAdd, yA, yB, yC] at H); simp only [Act.put, yA, yB, yC, yD, yE, yF]))
  refine (Rets.use (c3 _ H.below)).mono ?_; rintro e wn ⟨_, _, rfl, ⟨N3, hN3, rfl, o3⟩, hkk⟩; have Hn := H.moreK (by intro k hk; first | exact absurd hk List.not_mem_nil | (obtain rfl := List.mem_singleton.1 hk; exact In.mem iF)) hkk; clear hkk; clear H; have H := Hn; clear Hn; (try simp only [yT, yV] at H)
  have hA3 := own_single hN3 o3 rfl
  clear hN3 o3
  obtain ⟨A3, k3, rfl, _, _⟩ := sl_form (own_rd H .here hA3)
  have HA1 := Lib.hid hA1
  have HA2 := Lib.hid hA2
  have HA3 := Lib.hid hA3
  clear c1 c2 c3 hA1 hA2 hA3
  go_wp2_with (((first | ((with_reducible apply st_load1 H); decide +kernel; rfl; exact cF) | ((with_reducible apply st_loads H); decide +kernel; rfl; exact iF; exact zF; rfl) | ((with_reducible apply st_store H); rfl; exact eF; (focus (exact cells_agg _)); exact uF; kernel_rfl; (focus (exact Nat.le_of_ble_eq_true (by rfl))); (focus (rfl)))); clear H; intro wn H; (try simp only [splice, yG, yH, yI, yJ, yK, yL, yM, yN, yO, yP, yQ, Nat.reduceAdd, yA, yB, yC] at H); simp only [Act.put, yA, yB, yC, yD, yE, yF]))
  refine bp_cell H rfl rfl iF (by kernel_rfl) (by kernel_rfl) rfl (by first | exact .inl rfl | exact .inr rfl) ?_
  have H2 := H.sel (M := [Hl.all N1, Hl.all N2, Hl.all N3]) sF
  rw [← List.append_nil N3] at H2
  exact Hs.retd H2.join3 (List.Sublist.refl _) ⟨[_, _, _, _], _, rfl, ⟨[_], [_, _, _], _, _, rfl, rfl, HA1.out, [_], [_, _], _, _, rfl, rfl, HA2.out, [_], [_], _, _, rfl, rfl, HA3.out, rfl, rfl⟩, rfl⟩
set_option maxRecDepth 100000 in
set_option maxHeartbeats 4000000 in
theorem eqConfig_l (c : Cfg) (cs ds : List Value) (w : World) (ha : tyCfg.rd w cs c) (hb : tyCfg.rd w ds c) : Gives Tryz.prog 53 #[.agg cs.toArray, .agg ds.toArray] w (.bool true) := by
  obtain ⟨v1, v2, v3, rfl, h1, h2, h3⟩ := cfg_form ha
  obtain ⟨u1, u2, u3, rfl, k1, k2, k3⟩ := cfg_form hb
  clear ha hb
  obtain ⟨l, pr, qt, hf⟩ := c
  simp only at h1 h2 h3 k1 k2 k3
  show Gives Tryz.prog _ #[.agg #[v1, v2, v3, .int .i64 hf], .agg #[u1, u2, u3, .int .i64 hf]] w _
  have c1 := fun w1 hb => eqLabelSS_l v1 u1 l w1 (Ty.below _ h1 hb) (Ty.below _ k1 hb)
  have c2 := fun w1 hb => eqPairS_l v2 u2 pr w1 (Ty.below _ h2 hb) (Ty.below _ k2 hb)
  have c3 := fun w1 hb => eqQuotaS_l v3 u3 qt w1 (Ty.below _ h3 hb) (Ty.below _ k3 hb)
  clear h1 h2 h3 k1 k2 k3
  have H := Hs.start noRow w
  unfold Gives
  go_enter Tryz.func53, Tryz.ntmps53
  go_wp2_with (first | ((((with_reducible apply st_load1 H); decide +kernel; rfl; exact cF)); clear H; intro wn H; (try simp only [splice, yG, yH, yI, yJ, yK, yL, yM, yN, yO, yP, yQ, Nat.reduceAdd, yA, yB, yC] at H); simp only [Act.put, yA, yB, yC, yD, yE, yF]) | ((first | ((with_reducible apply st_box (dst := some 2) H); exact nF; intro b2) | ((with_reducible apply st_box (dst := some 3) H); exact nF; intro b3)); clear H; intro wn H; simp only [Act.put, yA, yB, yC, yD, yE, yF]) | ((first | (go_at_call 104; refine gvF (c1 _ H.below) H ?_) | (go_at_call 105; refine gvF (c2 _ H.below) H ?_) | (go_at_call 106; refine gvF (c3 _ H.below) H ?_)); clear H; intro wn H))
  go_ret
  exact ⟨rfl, H.below⟩
set_option maxRecDepth 100000 in
set_option maxHeartbeats 4000000 in
theorem szConfig_l (c : Cfg) (cs : List Value) (k : Int) (hk : 0 ≤ k ∧ k ≤ 1048576) (w : World) (ha : tyCfg.rd w cs c) : Gives Tryz.prog 25 #[.agg cs.toArray, .int .i64 k] w (.int .i64 (szC k (szCfg c))) := by
  obtain ⟨v1, v2, v3, rfl, h1, h2, h3⟩ := cfg_form ha
  clear ha
  obtain ⟨l, pr, qt, hf⟩ := c
  simp only at h1 h2 h3
  show Gives Tryz.prog _ #[.agg #[v1, v2, v3, .int .i64 hf], _] w _
  have c1 := fun w1 hb => szLabelSS_l v1 l k hk w1 (Ty.below _ (sl_cast (E := 60) (F := 0) (T := Ty.sl 66 tyLab) (U := Ty.sl 0 tyLab) rfl (fun _ _ h => h) h1) hb)
  have c2 := fun k hk w1 hb => szPairS_l v2 pr k hk w1 (Ty.below _ h2 hb)
  have c3 := fun k hk w1 hb => szQuotaS_l v3 qt k hk w1 (Ty.below _ h3 hb)
  show Gives Tryz.prog _ _ w (.int .i64 (szC k (total l + (pr.length + qt.length))))
  clear h1 h2 h3
  generalize total l = n1 at *
  generalize pr.length = n2 at *
  generalize qt.length = n3 at *
  have H := Hs.start noRow w
  unfold Gives
  by_cases hn1 : k - n1 < 0
  · rw [szC_neg hn1] at c1
    rw [szC_neg (by omega)]
    go_enter Tryz.func25, Tryz.ntmps25
    go_wp2_with (first | ((((with_reducible apply st_load1 H); decide +kernel; rfl; exact cF)); clear H; intro wn H; (try simp only [splice, yG, yH, yI, yJ, yK, yL, yM, yN, yO, yP, yQ, Nat.reduceAdd, yA, yB, yC] at H); simp only [Act.put, yA, yB, yC, yD, yE, yF]) | ((((with_reducible apply st_box (dst := some 2) H); exact nF; intro b2)); clear H; intro wn H; simp only [Act.put, yA, yB, yC, yD, yE, yF]) | (((go_at_call 58; refine gvF (c1 _ H.below) H ?_)); clear H; intro wn H))
    go_ret
    exact ⟨rfl, H.below⟩
  rw [szC_pos hn1] at c1
  have c5 := c2 (k - n1) ⟨by omega, by omega⟩
  by_cases hn2 : k - n1 - n2 < 0
  · rw [szC_neg hn2] at c5
    rw [szC_neg (by omega)]
    clear c2 c3
    go_enter Tryz.func25, Tryz.ntmps25
    go_wp2_with (first | ((((with_reducible apply st_load1 H); decide +kernel; rfl; exact cF)); clear H; intro wn H; (try simp only [splice, yG, yH, yI, yJ, yK, yL, yM, yN, yO, yP, yQ, Nat.reduceAdd, yA, yB, yC] at H); simp only [Act.put, yA, yB, yC, yD, yE, yF]) | ((((with_reducible apply st_box (dst := some 2) H); exact nF; intro b2)); clear H; intro wn H; simp only [Act.put, yA, yB, yC, yD, yE, yF]) | ((first | (go_at_call 58; refine gvF (c1 _ H.below) H ?_) | (go_at_call 59; refine gvF (c5 _ H.below) H ?_)); clear H; intro wn H))
    go_ret
    exact ⟨rfl, H.below⟩
  rw [szC_pos hn2] at c5
  have c6 := c3 (k - n1 - n2) ⟨by omega, by omega⟩
  clear c2 c3
  by_cases hn3 : k - n1 - n2 - n3 < 0
  · rw [szC_neg hn3] at c6
    rw [szC_neg (by omega)]
    go_enter Tryz.func25, Tryz.ntmps25
    go_wp2_with (first | ((((with_reducible apply st_load1 H); decide +kernel; rfl; exact cF)); clear H; intro wn H; (try simp only [splice, yG, yH, yI, yJ, yK, yL, yM, yN, yO, yP, yQ, Nat.reduceAdd, yA, yB, yC] at H); simp only [Act.put, yA, yB, yC, yD, yE, yF]) | ((((with_reducible apply st_box (dst := some 2) H); exact nF; intro b2)); clear H; intro wn H; simp only [Act.put, yA, yB, yC, yD, yE, yF]) | ((first | (go_at_call 58; refine gvF (c1 _ H.below) H ?_) | (go_at_call 59; refine gvF (c5 _ H.below) H ?_) | (go_at_call 60; refine gvF (c6 _ H.below) H ?_)); clear H; intro wn H))
    go_ret
    exact ⟨rfl, H.below⟩
  · rw [szC_pos hn3] at c6
    rw [szC_pos (by omega), show k - ((n1 + (n2 + n3) : Nat) : Int) = k - n1 - n2 - n3 by omega]
    go_enter Tryz.func25, Tryz.ntmps25
    go_wp2_with (first | ((((with_reducible apply st_load1 H); decide +kernel; rfl; exact cF)); clear H; intro wn H; (try simp only [splice, yG, yH, yI, yJ, yK, yL, yM, yN, yO, yP, yQ, Nat.reduceAdd, yA, yB, yC] at H); simp only [Act.put, yA, yB, yC, yD, yE, yF]) | ((((with_reducible apply st_box (dst := some 2) H); exact nF; intro b2)); clear H; intro wn H; simp only [Act.put, yA, yB, yC, yD, yE, yF]) | ((first | (go_at_call 58; refine gvF (c1 _ H.below) H ?_) | (go_at_call 59; refine gvF (c5 _ H.below) H ?_) | (go_at_call 60; refine gvF (c6 _ H.below) H ?_)); clear H; intro wn H))
    go_ret
    exact ⟨rfl, H.below⟩
end Go.Proofs.YtpfdhfchgnnpiaaGreat
namespace Go.Proofs.YtpfdhfchgnnpiaaGreat
open Go.RowKit M
namespace M
abbrev Bo := List Int × List Int × List Nt
def szBo (b : Bo) : Nat := b.1.length + (b.2.1.length + b.2.2.length)
def mkSz : Mark Bo := ⟨szBo, fun _ a => a⟩
def szMl (l : List Bo) : Nat := l.length + mkSz.cntl l
end M
def tyBo : Ty Bo := Ty.pair (Ty.sl 2 tyNum) (Ty.pair (Ty.sl 2 tyNum) (Ty.sl 87 tyNt))
theorem bo_form {w : World} {cs : List Value} {c : Bo} (h : tyBo.rd w cs c) : ∃ v1 v2 v3, cs = [v1, v2, v3] ∧ (Ty.sl 2 tyNum).rd w [v1] c.1 ∧ (Ty.sl 2 tyNum).rd w [v2] c.2.1 ∧ (Ty.sl 87 tyNt).rd w [v3] c.2.2 := by
  obtain ⟨x1, y1, rfl, h1, x2, y2, rfl, h2, h3⟩ := h
  obtain ⟨v1, hv1⟩ : ∃ v, x1 = [v] := by obtain ⟨v, _, rfl, _⟩ := h1; exact ⟨v, rfl⟩
  obtain ⟨v2, hv2⟩ : ∃ v, x2 = [v] := by obtain ⟨v, _, rfl, _⟩ := h2; exact ⟨v, rfl⟩
  obtain ⟨v3, hv3⟩ : ∃ v, y2 = [v] := by obtain ⟨v, _, rfl, _⟩ := h3; exact ⟨v, rfl⟩
  subst hv1 hv2 hv3
  exact ⟨v1, v2, v3, rfl, h1, h2, h3⟩
set_option maxRecDepth 100000 in
set_option maxHeartbeats 4000000 in
theorem toBox_l (c : Bo) (cs : List Value) (hl : szBo c ≤ 1048576) (w : World) (hr : tyBo.rd w cs c) : Rets Tryz.prog [] 81 #[.agg cs.toArray] w (tAgg tyBo c) := by
  obtain ⟨v1, v2, v3, rfl, h1, h2, h3⟩ := bo_form hr
  clear hr
  obtain ⟨l, pr, qt⟩ := c
  have hl1 : l.length ≤ 1048576 := by have : l.length + (pr.length + qt.length) ≤ 1048576 := hl; omega
  have hl2 : pr.length ≤ 1048576 := by have : l.length + (pr.length + qt.length) ≤ 1048576 := hl; omega
  have hl3 : qt.length ≤ 1048576 := by have : l.length + (pr.length + qt.length) ≤ 1048576 := hl; omega
  simp only at h1 h2 h3
  show Rets Tryz.prog [] _ #[.agg #[v1, v2, v3]] w _
  have c1 := fun w1 hb => toInt64S_l v1 l hl1 w1 (Ty.below _ h1 hb)
  have c2 := fun w1 hb => toInt64S_l v2 pr hl2 w1 (Ty.below _ h2 hb)
  have c3 := fun w1 hb => toNoteS_l v3 qt hl3 w1 (Ty.below _ h3 hb)
  clear hl hl1 hl2 hl3 h1 h2 h3
  have H := Hs.start noRow w
  refine Rets.of ?_
  go_enter Tryz.func81, Tryz.ntmps81
  go_wp2_with (first | ((((with_reducible apply st_load1 H); decide +kernel; rfl; exact cF)); clear H; intro wn H; (try simp only [splice, yG, yH, yI, yJ, yK, yL, yM, yN, yO, yP, yQ, Nat.reduceAdd, yA, yB, yC] at H); simp only [Act.put, yA, yB, yC, yD, yE, yF]) | ((first | ((with_reducible apply st_box (dst := some 1) H); exact nF; intro b1) | ((with_reducible apply st_alloc (dst := some 2) H); exact nF; intro b2) | ((with_reducible apply st_alloc (dst := some 3) H); exact nF; intro b3)); clear H; intro wn H; simp only [Act.put, yA, yB, yC, yD, yE, yF]))
  refine (Rets.use (c1 _ H.below)).mono ?_; rintro e wn ⟨_, _, rfl, ⟨N1, hN1, rfl, o1⟩, hkk⟩; have Hn := H.moreK (by intro k hk; first | exact absurd hk List.not_mem_nil | (obtain rfl := List.mem_singleton.1 hk; exact In.mem iF)) hkk; clear hkk; clear H; have H := Hn; clear Hn; (try simp only [yT, yV] at H)
  have hA1 := own_single hN1 o1 rfl
  clear hN1 o1
  obtain ⟨A1, k1, rfl, _, _⟩ := sl_form (own_rd H .here hA1)
  go_wp2_with (((first | ((with_reducible apply st_load1 H); decide +kernel; rfl; exact cF) | ((with_reducible apply st_store H); rfl; exact eF; (focus (exact cells_agg _)); exact uF; kernel_rfl; (focus (exact Nat.le_of_ble_eq_true (by rfl))); (focus (rfl)))); clear H; intro wn H; (try simp only [splice, yG, yH, yI, yJ, yK, yL, yM, yN, yO, yP, yQ, Nat.reduceAdd, yA, yB, yC] at H); simp only [Act.put, yA, yB, yC, yD, yE, yF]))
  refine (Rets.use (c2 _ H.below)).mono ?_; rintro e wn ⟨_, _, rfl, ⟨N2, hN2, rfl, o2⟩, hkk⟩; have Hn := H.moreK (by intro k hk; first | exact absurd hk List.not_mem_nil | (obtain rfl := List.mem_singleton.1 hk; exact In.mem iF)) hkk; clear hkk; clear H; have H := Hn; clear Hn; (try simp only [yT, yV] at H)
  have hA2 := own_single hN2 o2 rfl
  clear hN2 o2
  obtain ⟨A2, k2, rfl, _, _⟩ := sl_form (own_rd H .here hA2)
  go_wp2_with (((first | ((with_reducible apply st_load1 H); decide +kernel; rfl; exact cF) | ((with_reducible apply st_store H); rfl; exact eF; (focus (exact cells_agg _)); exact uF; kernel_rfl; (focus (exact Nat.le_of_ble_eq_true (by rfl))); (focus (rfl)))); clear H; intro wn H; (try simp only [splice, yG, yH, yI, yJ, yK, yL, yM, yN, yO, yP, yQ, Nat.reduceAdd, yA, yB, yC] at H); simp only [Act.put, yA, yB, yC, yD, yE, yF]))
  refine (Rets.use (c3 _ H.below)).mono ?_; rintro e wn ⟨_, _, rfl, ⟨N3, hN3, rfl, o3⟩, hkk⟩; have Hn := H.moreK (by intro k hk; first | exact absurd hk List.not_mem_nil | (obtain rfl := List.mem_singleton.1 hk; exact In.mem iF)) hkk; clear hkk; clear H; have H := Hn; clear Hn; (try simp only [yT, yV] at H)
  have hA3 := own_single hN3 o3 rfl
  clear hN3 o3
  obtain ⟨A3, k3, rfl, _, _⟩ := sl_form (own_rd H .here hA3)
  have HA1 := Lib.hid hA1
  have HA2 := Lib.hid hA2
  have HA3 := Lib.hid hA3
  clear c1 c2 c3 hA1 hA2 hA3
  go_wp2_with (((first | ((with_reducible apply st_loads H); decide +kernel; rfl; exact iF; exact zF; rfl) | ((with_reducible apply st_store H); rfl; exact eF; (focus (exact cells_agg _)); exact uF; kernel_rfl; (focus (exact Nat.le_of_ble_eq_true (by rfl))); (focus (rfl)))); clear H; intro wn H; (try simp only [splice, yG, yH, yI, yJ, yK, yL, yM, yN, yO, yP, yQ, Nat.reduceAdd, yA, yB, yC] at H); simp only [Act.put, yA, yB, yC, yD, yE, yF]))
  refine bp_cell H rfl rfl iF (by kernel_rfl) (by kernel_rfl) rfl (by first | exact .inl rfl | exact .inr rfl) ?_
  have H2 : Hs noRow w [Hl.all N1, Hl.all N2, Hl.all N3] _ := H.sel sF
  exact Hs.retd H2.join3 (List.Sublist.refl _) ⟨[_, _, _], _, rfl, ⟨[_], [_, _], _, _, rfl, rfl, HA1.out, [_], [_], _, _, rfl, rfl, HA2.out, HA3.out⟩, rfl⟩
set_option maxRecDepth 100000 in
set_option maxHeartbeats 4000000 in
theorem eqBox_l (c : Bo) (cs ds : List Value) (w : World) (ha : tyBo.rd w cs c) (hb : tyBo.rd w ds c) : Gives Tryz.prog 110 #[.agg cs.toArray, .agg ds.toArray] w (.bool true) := by
  obtain ⟨v1, v2, v3, rfl, h1, h2, h3⟩ := bo_form ha
  obtain ⟨u1, u2, u3, rfl, k1, k2, k3⟩ := bo_form hb
  clear ha hb
  obtain ⟨l, pr, qt⟩ := c
  simp only at h1 h2 h3 k1 k2 k3
  show Gives Tryz.prog _ #[.agg #[v1, v2, v3], .agg #[u1, u2, u3]] w _
  have c1 := fun w1 hb => eqInt64S_l v1 u1 l w1 (Ty.below _ h1 hb) (Ty.below _ k1 hb)
  have c2 := fun w1 hb => eqInt64S_l v2 u2 pr w1 (Ty.below _ h2 hb) (Ty.below _ k2 hb)
  have c3 := fun w1 hb => eqNoteS_l v3 u3 qt w1 (Ty.below _ h3 hb) (Ty.below _ k3 hb)
  clear h1 h2 h3 k1 k2 k3
  have H := Hs.start noRow w
  unfold Gives
  go_enter Tryz.func110, Tryz.ntmps110
  go_wp2_with (first | ((((with_reducible apply st_load1 H); decide +kernel; rfl; exact cF)); clear H; intro wn H; (try simp only [splice, yG, yH, yI, yJ, yK, yL, yM, yN, yO, yP, yQ, Nat.reduceAdd, yA, yB, yC] at H); simp only [Act.put, yA, yB, yC, yD, yE, yF]) | ((first | ((with_reducible apply st_box (dst := some 2) H); exact nF; intro b2) | ((with_reducible apply st_box (dst := some 3) H); exact nF; intro b3)); clear H; intro wn H; simp only [Act.put, yA, yB, yC, yD, yE, yF]) | ((first | (go_at_call 174; refine gvF (c1 _ H.below) H ?_; clear c1) | (go_at_call 174; refine gvF (c2 _ H.below) H ?_) | (go_at_call 175; refine gvF (c3 _ H.below) H ?_)); clear H; intro wn H))
  go_ret
  exact ⟨rfl, H.below⟩
set_option maxRecDepth 100000 in
set_option maxHeartbeats 4000000 in
theorem szBox_l (c : Bo) (cs : List Value) (k : Int) (hk : 0 ≤ k ∧ k ≤ 1048576) (w : World) (ha : tyBo.rd w cs c) : Gives Tryz.prog 64 #[.agg cs.toArray, .int .i64 k] w (.int .i64 (szC k (szBo c))) := by
  obtain ⟨v1, v2, v3, rfl, h1, h2, h3⟩ := bo_form ha
  clear ha
  obtain ⟨l, pr, qt⟩ := c
  simp only at h1 h2 h3
  show Gives Tryz.prog _ #[.agg #[v1, v2, v3], _] w _
  have c1 := fun w1 hb => szInt64S_l v1 l k hk w1 (Ty.below _ h1 hb)
  have c2 := fun k hk w1 hb => szInt64S_l v2 pr k hk w1 (Ty.below _ h2 hb)
  have c3 := fun k hk w1 hb => szNoteS_l v3 qt k hk w1 (Ty.below _ h3 hb)
  show Gives Tryz.prog _ _ w (.int .i64 (szC k (l.length + (pr.length + qt.length))))
  clear h1 h2 h3
  generalize l.length = n1 at *
  generalize pr.length = n2 at *
  generalize qt.length = n3 at *
  have H := Hs.start noRow w
  unfold Gives
  by_cases hn1 : k - n1 < 0
  · rw [szC_neg hn1] at c1
    rw [szC_neg (by omega)]
    go_enter Tryz.func64, Tryz.ntmps64
    go_wp2_with (first | ((((with_reducible apply st_load1 H); decide +kernel; rfl; exact cF)); clear H; intro wn H; (try simp only [splice, yG, yH, yI, yJ, yK, yL, yM, yN, yO, yP, yQ, Nat.reduceAdd, yA, yB, yC] at H); simp only [Act.put, yA, yB, yC, yD, yE, yF]) | ((((with_reducible apply st_box (dst := some 2) H); exact nF; intro b2)); clear H; intro wn H; simp only [Act.put, yA, yB, yC, yD, yE, yF]) | (((go_at_call 113; refine gvF (c1 _ H.below) H ?_; clear c1)); clear H; intro wn H))
    go_ret
    exact ⟨rfl, H.below⟩
  rw [szC_pos hn1] at c1
  have c5 := c2 (k - n1) ⟨by omega, by omega⟩
  by_cases hn2 : k - n1 - n2 < 0
  · rw [szC_neg hn2] at c5
    rw [szC_neg (by omega)]
    clear c2 c3
    go_enter Tryz.func64, Tryz.ntmps64
    go_wp2_with (first | ((((with_reducible apply st_load1 H); decide +kernel; rfl; exact cF)); clear H; intro wn H; (try simp only [splice, yG, yH, yI, yJ, yK, yL, yM, yN, yO, yP, yQ, Nat.reduceAdd, yA, yB, yC] at H); simp only [Act.put, yA, yB, yC, yD, yE, yF]) | ((((with_reducible apply st_box (dst := some 2) H); exact nF; intro b2)); clear H; intro wn H; simp only [Act.put, yA, yB, yC, yD, yE, yF]) | ((first | (go_at_call 113; refine gvF (c1 _ H.below) H ?_; clear c1) | (go_at_call 113; refine gvF (c5 _ H.below) H ?_)); clear H; intro wn H))
    go_ret
    exact ⟨rfl, H.below⟩
  rw [szC_pos hn2] at c5
  have c6 := c3 (k - n1 - n2) ⟨by omega, by omega⟩
  clear c2 c3
  by_cases hn3 : k - n1 - n2 - n3 < 0
  · rw [szC_neg hn3] at c6
    rw [szC_neg (by omega)]
    go_enter Tryz.func64, Tryz.ntmps64
    go_wp2_with (first | ((((with_reducible apply st_load1 H); decide +kernel; rfl; exact cF)); clear H; intro wn H; (try simp only [splice, yG, yH, yI, yJ, yK, yL, yM, yN, yO, yP, yQ, Nat.reduceAdd, yA, yB, yC] at H); simp only [Act.put, yA, yB, yC, yD, yE, yF]) | ((((with_reducible apply st_box (dst := some 2) H); exact nF; intro b2)); clear H; intro wn H; simp only [Act.put, yA, yB, yC, yD, yE, yF]) | ((first | (go_at_call 113; refine gvF (c1 _ H.below) H ?_; clear c1) | (go_at_call 113; refine gvF (c5 _ H.below) H ?_) | (go_at_call 114; refine gvF (c6 _ H.below) H ?_)); clear H; intro wn H))
    go_ret
    exact ⟨rfl, H.below⟩
  · rw [szC_pos hn3] at c6
    rw [szC_pos (by omega), show k - ((n1 + (n2 + n3) : Nat) : Int) = k - n1 - n2 - n3 by omega]
    go_enter Tryz.func64, Tryz.ntmps64
    go_wp2_with (first | ((((with_reducible apply st_load1 H); decide +kernel; rfl; exact cF)); clear H; intro wn H; (try simp only [splice, yG, yH, yI, yJ, yK, yL, yM, yN, yO, yP, yQ, Nat.reduceAdd, yA, yB, yC] at H); simp only [Act.put, yA, yB, yC, yD, yE, yF]) | ((((with_reducible apply st_box (dst := some 2) H); exact nF; intro b2)); clear H; intro wn H; simp only [Act.put, yA, yB, yC, yD, yE, yF]) | ((first | (go_at_call 113; refine gvF (c1 _ H.below) H ?_; clear c1) | (go_at_call 113; refine gvF (c5 _ H.below) H ?_) | (go_at_call 114; refine gvF (c6 _ H.below) H ?_)); clear H; intro wn H))
    go_ret
    exact ⟨rfl, H.below⟩
end Go.Proofs.YtpfdhfchgnnpiaaGreat
namespace Go.Proofs.YtpfdhfchgnnpiaaGreat
open Go.RowKit M
set_option maxRecDepth 100000 in
set_option maxHeartbeats 4000000 in
theorem toBoxS_l (v : Value) (l : List Bo) (hl : szMl l ≤ 1048576) (w : World) (hr : (Ty.sl 0 tyBo).rd w [v] l) : Rets Tryz.prog [] 41 #[v] w (tOwn (Ty.sl 71 tyBo) l) := by
  obtain ⟨A, c, rfl, hlc, hcm⟩ := sl_form hr
  have HR := Lib.hid hr
  have HL := Lib.hid hl
  have H := Hs.start noRow w
  obtain ⟨n, hn⟩ : ∃ n, n = l.length := ⟨_, rfl⟩
  have hnl : n ≤ 1048576 := by unfold szMl at hl; omega
  rw [← hn] at HR ⊢
  have HN := Lib.hid hn
  clear hr hn hl hcm hlc
  refine Rets.of ?_
  go_enter Tryz.func41, Tryz.ntmps41
  go_wp2_with (((with_reducible apply st_makerow (E := 71) (s := 3) H); rfl; rfl; decide +kernel; (focus omega); clear H; intro g zs wn hz0 hz1 H; simp only [Act.put, yA, yB, yC, yD, yE, yF]))
  go_loopg [4] n (fun m iv wr => ∃ (i : Nat) (pre zs : List Value) (N : List Hl), i + m = n ∧ iv = .int .i64 i ∧ Hid (OwnL tyBo pre (l.take i) N ∧ zs.length = (n - i) * 3) ∧ Hs noRow w [Hl.row 71 3 (.slice (some ⟨g, 0, none⟩) n n) n (pre ++ zs), Hl.all N] wr)
  case atStart => exact ⟨0, [], zs, [], by omega, rfl, Lib.hid ⟨.nil, hz0⟩, by rw [List.nil_append]; exact H.allNil.sel sF⟩
  case round =>
    clear H
    obtain ⟨i, pre, zs, N, hi, rfl, HO, H⟩ := hrel
    by_cases hlt : i < n
    · obtain ⟨x, hx⟩ : ∃ x, l[i]? = some x := ⟨l[i]'(by rw [← HN.out]; exact hlt), List.getElem?_eq_getElem (by rw [← HN.out]; exact hlt)⟩
      have hs := sl_at (by have := HR.out; rw [HN.out] at this; exact this) hx
      rw [← HN.out] at hs
      obtain ⟨b, off, c', cs, hv, hcs, hA⟩ := hs
      injection hv with hv1 hv2 hv3
      subst hv1 hv3
      obtain ⟨u1, u2, u3, hu, _, _, _⟩ := bo_form hcs
      subst hu
      have hxl : szBo x ≤ 1048576 := by have h1 := mkSz.cnt_at_le hx; have h2 := HL.out; unfold szMl at h2; have h3 : mkSz.cnt x = szBo x := rfl; omega
      have hC := fun w1 hb => toBox_l x _ hxl w1 (Ty.below _ hcs hb)
      have hfit : i * 3 + 3 ≤ (pre ++ zs).length := by
        have h1 := HO.out.1.len
        have h2 := HO.out.2
        rw [List.length_append, h1, h2, List.length_take, Nat.min_eq_left (by rw [← HN.out]; omega)]
        show i * 3 + 3 ≤ i * 3 + (n - i) * 3
        omega
      have hlt1 : (i : Int) < n := by omega
      clear hv2 hcs
      go_wp2_with (((((with_reducible apply st_loadat H); decide +kernel; rfl; exact aF; exact zF; rfl)); clear H; intro wn H; simp only [Act.put, yA, yB, yC, yD, yE, yF]))
      refine (Rets.use (hC _ H.below)).mono ?_; rintro e wn ⟨_, _, rfl, ⟨c4, N4, rfl, hN2, rfl⟩, hkk⟩; have Hn := H.moreK (by intro k hk; first | exact absurd hk List.not_mem_nil | (obtain rfl := List.mem_singleton.1 hk; exact In.mem iF)) hkk; clear hkk; clear H; have H := Hn; clear Hn; (try simp only [yT, yV] at H)
      obtain ⟨k1, k2, k3, rfl, r1, r2, r3⟩ := bo_form (own_rd H .here hN2)
      obtain ⟨A1, d1, rfl, _, _⟩ := sl_form r1
      obtain ⟨A2, d2, rfl, _, _⟩ := sl_form r2
      obtain ⟨A3, d3, rfl, _, _⟩ := sl_form r3
      clear r1 r2 r3
      obtain ⟨p', z', hp, hsp, hz'⟩ := own_step (m := n - (i + 1)) HO.out.1 hx (by rw [HO.out.2]; show (n - i) * 3 = (n - (i + 1) + 1) * 3; congr 1; omega) hN2
      have HS : Hid (spl (pre ++ zs) (i * 3) _ = p' ++ z') := Lib.hid hsp
      have HO2 := Lib.hid (And.intro hp hz')
      clear hsp hp hz' hx HO hN2
      go_wp2_with (((((with_reducible apply st_storerow H); rfl; exact eF; (exact cells_agg _); exact uF; kernel_rfl; exact Nat.succ_pos _; exact fitF; rfl)); clear H; intro wn H; simp only [Act.put, yA, yB, yC, yD, yE, yF]))
      go_roundg (n - (i + 1))
      case measure => omega
      case rel => exact ⟨i + 1, p', z', _, by omega, by go_num, HO2, by rw [← HS.out]; exact (Hs.join (H.sel (M := [Hl.all N, Hl.all N4, Hl.row 71 3 (.slice (some ⟨g, 0, none⟩) n n) n _]) sF)).reperm (List.Perm.swap ..)⟩
    · obtain rfl : i = n := by omega
      have hlt1 : ¬ (i : Int) < i := by omega
      go_wp2_with (fail)
      go_ret
      exact ret_sl H HO.out.1 (List.take_of_length_le (by rw [← HN.out]; exact Nat.le_refl _)) (by rw [HO.out.2, Nat.sub_self, Nat.zero_mul]) HN.out
set_option maxRecDepth 100000 in
set_option maxHeartbeats 4000000 in
theorem eqBoxS_l (va vb : Value) (l : List Bo) (w : World) (ha : (Ty.sl 71 tyBo).rd w [va] l) (hb : (Ty.sl 71 tyBo).rd w [vb] l) : Gives Tryz.prog 57 #[va, vb] w (.bool true) := by
  obtain ⟨A, c, rfl, hlc, hcm⟩ := sl_form ha
  obtain ⟨B, d, rfl, _, _⟩ := sl_form hb
  unfold maxLen at *
  have HA := Lib.hid ha
  have HB := Lib.hid hb
  have H := Hs.start noRow w
  obtain ⟨n, hn⟩ : ∃ n, n = l.length := ⟨_, rfl⟩
  have hnl : n ≤ 9223372036854775807 := by omega
  rw [← hn] at HA HB ⊢
  have HN := Lib.hid hn
  clear ha hb hn hcm hlc
  unfold Gives
  go_enter Tryz.func57, Tryz.ntmps57
  go_wp2_with (fail)
  go_loopg [5] n (fun m iv wr => ∃ (i : Nat), i + m = n ∧ iv = .int .i64 i ∧ Hs noRow w [] wr)
  case atStart => exact ⟨0, by omega, rfl, H⟩
  case round =>
    clear H
    obtain ⟨i, hi, rfl, H⟩ := hrel
    by_cases hlt : i < n
    · obtain ⟨x, hx⟩ : ∃ x, l[i]? = some x := ⟨l[i]'(by rw [← HN.out]; exact hlt), List.getElem?_eq_getElem (by rw [← HN.out]; exact hlt)⟩
      have hs := sl_at (by have := HA.out; rw [HN.out] at this; exact this) hx
      have hs2 := sl_at (by have := HB.out; rw [HN.out] at this; exact this) hx
      rw [← HN.out] at hs hs2
      obtain ⟨b, off, c', cs, hv, hcs, hA⟩ := hs
      injection hv with hv1 hv2 hv3
      subst hv1 hv3
      obtain ⟨b2, off2, c2', cs2, hw, hcs2, hB⟩ := hs2
      injection hw with hw1 hw2 hw3
      subst hw1 hw3
      obtain ⟨u1, u2, u3, hu, _, _, _⟩ := bo_form hcs
      obtain ⟨x1, x2, x3, hu2, _, _, _⟩ := bo_form hcs2
      subst hu hu2
      have c1 := fun w1 hb => eqBox_l x _ _ w1 (Ty.below _ hcs hb) (Ty.below _ hcs2 hb)
      have hlt1 : (i : Int) < n := by omega
      clear hx hv2 hw2 hcs hcs2
      go_wp2_with (((with_reducible apply wp_region_hq (id := 6) H); kernel_rfl; kernel_rfl; (iterate 8 (all_goals ((with_reducible refine' hq_step ?_ ?_ ?_); rotate_left; rfl; (focus (intro w1 H1; first | (exact qAF) | (exact qVF))); (try simp only [yG, yH, yJ, yK]); simp only [Act.put, yA, yB, yC, yD, yE, yF]))); (all_goals ((with_reducible refine' hq_step ?_ ?_ ?_); rotate_left; rfl; (focus (intro w1 H1; unfold QOk; go_simp; exact q_call (c1 _ H1.below))); (try simp only [yG, yH, yJ, yK]); simp only [Act.put, yA, yB, yC, yD, yE, yF])); (iterate 1 (all_goals ((with_reducible refine' hq_step ?_ ?_ ?_); rotate_left; rfl; (focus (intro w1 H1; exact qVF)); (try simp only [yG, yH, yJ, yK]); simp only [Act.put, yA, yB, yC, yD, yE, yF]))); all_goals (refine wpQuiet_nil ?_; clear H; intro wn H)))
      go_roundg (n - (i + 1))
      case measure => omega
      case rel => exact ⟨i + 1, by omega, by go_num, H⟩
    · obtain rfl : i = n := by omega
      have hlt1 : ¬ (i : Int) < i := by omega
      go_wp2_with (fail)
      go_ret
      exact ⟨rfl, H.below⟩
set_option maxRecDepth 100000 in
set_option maxHeartbeats 4000000 in
theorem szBoxS_l (v : Value) (l : List Bo) (k : Int) (hk : 0 ≤ k ∧ k ≤ 1048576) (w : World) (hr : (Ty.sl 0 tyBo).rd w [v] l) : Gives Tryz.prog 29 #[v, .int .i64 k] w (.int .i64 (szC k (szMl l))) := by
  obtain ⟨A, c, rfl, hlc, hcm⟩ := sl_form hr
  unfold maxLen at *
  have HR := Lib.hid hr
  have H := Hs.start noRow w
  obtain ⟨n, hn⟩ : ∃ n, n = l.length := ⟨_, rfl⟩
  obtain ⟨t, ht⟩ : ∃ t, t = mkSz.cntl l := ⟨_, rfl⟩
  rw [show szMl l = n + t by rw [hn, ht]; rfl]
  rw [← hn] at HR ⊢
  have HN := Lib.hid hn
  have HT := Lib.hid ht
  have hnl : n ≤ 9223372036854775807 := by omega
  clear hr hn ht hcm hlc
  unfold Gives
  by_cases h : k - n < 0
  · rw [szC_neg (by omega)]
    go_enter Tryz.func29, Tryz.ntmps29
    go_wp2_with (fail)
    go_ret
    exact ⟨rfl, H.below⟩
  obtain ⟨z, hz⟩ : ∃ z, z = szC k (n + t : Nat) := ⟨_, rfl⟩
  rw [← hz]
  have HZ := Lib.hid hz
  clear hz
  go_enter Tryz.func29, Tryz.ntmps29
  go_wp2_with (fail)
  go_loopg [1, 5] n (fun m kv iv wr => ∃ (i s : Nat), i + m = n ∧ iv = .int .i64 i ∧ kv = .int .i64 (k - n - s) ∧ 0 ≤ k - n - s ∧ Hid (s = mkSz.cntl (l.take i)) ∧ Hs noRow w [] wr)
  case atStart => exact ⟨0, 0, by omega, rfl, by go_num, by omega, Lib.hid rfl, H⟩
  case round =>
    clear H
    obtain ⟨i, s, hi, rfl, rfl, hs0, HI, H⟩ := hrel
    by_cases hlt : i < n
    · obtain ⟨x, hx⟩ : ∃ x, l[i]? = some x := ⟨l[i]'(by rw [← HN.out]; exact hlt), List.getElem?_eq_getElem (by rw [← HN.out]; exact hlt)⟩
      have hs := sl_at (by have := HR.out; rw [HN.out] at this; exact this) hx
      rw [← HN.out] at hs
      obtain ⟨b, off, c', cs, hv, hcs, hA⟩ := hs
      injection hv with hv1 hv2 hv3
      subst hv1 hv3
      obtain ⟨u1, u2, u3, hu, _, _, _⟩ := bo_form hcs
      subst hu
      have c1 := fun w1 hb => szBox_l x _ (k - n - s) ⟨hs0, by omega⟩ w1 (Ty.below _ hcs hb)
      have hle := mkSz.cnt_at_le hx
      have hxs : mkSz.cnt x = szBo x := rfl
      rw [← HI.out, ← HT.out, hxs] at hle
      have HI2 : Hid (s + szBo x = mkSz.cntl (l.take (i + 1))) := Lib.hid (by rw [mkSz.cntl_step hx, ← HI.out]; rfl)
      have hlt1 : (i : Int) < n := by omega
      clear hx hv2 hcs hxs
      generalize szBo x = xn at *
      by_cases hng : k - n - s - xn < 0
      · rw [szC_neg hng] at c1
        have HZ2 : Hid (z = -1) := Lib.hid (by rw [HZ.out, szC_neg (by omega)])
        go_wp2_with (first | ((((with_reducible apply st_loadat H); decide +kernel; rfl; exact aF; exact zF; rfl)); clear H; intro wn H; simp only [Act.put, yA, yB, yC, yD, yE, yF]) | (((go_at_call 64; refine gvF (c1 _ H.below) H ?_)); clear H; intro wn H))
        go_ret
        exact ⟨by rw [HZ2.out]; rfl, H.below⟩
      · rw [szC_pos hng] at c1
        go_wp2_with (first | ((((with_reducible apply st_loadat H); decide +kernel; rfl; exact aF; exact zF; rfl)); clear H; intro wn H; simp only [Act.put, yA, yB, yC, yD, yE, yF]) | (((go_at_call 64; refine gvF (c1 _ H.below) H ?_)); clear H; intro wn H))
        go_roundg (n - (i + 1))
        case measure => omega
        case rel => exact ⟨i + 1, s + xn, by omega, by go_num, by go_num, by omega, HI2, H⟩
    · obtain rfl : i = n := by omega
      have hlt1 : ¬ (i : Int) < i := by omega
      have hst : s = t := by rw [HI.out, HT.out, List.take_of_length_le (by rw [← HN.out]; exact Nat.le_refl _)]
      subst hst
      have HZ2 : Hid (z = k - i - s) := Lib.hid (by rw [HZ.out, szC_pos (by omega)]; omega)
      go_wp2_with (fail)
      go_ret
      exact ⟨by rw [HZ2.out]; rfl, H.below⟩
end Go.Proofs.YtpfdhfchgnnpiaaGreat
namespace Go.Proofs.YtpfdhfchgnnpiaaGreat
open Go.RowKit M
namespace M
abbrev MO := List Bo × Int
end M
/-- the result of a struct of one slice -/
def tOne {α : Type} (T : Ty α) (a : α) : Value → List Hl → Prop := fun v M => ∃ u N, v = .agg #[u] ∧ T.own [u] a N ∧ M = [Hl.all N]
set_option maxRecDepth 100000 in
set_option maxHeartbeats 4000000 in
theorem toMail_l (v : Value) (l : List Bo) (hl : szMl l ≤ 1048576) (w : World) (hr : (Ty.sl 0 tyBo).rd w [v] l) : Rets Tryz.prog [] 18 #[.agg #[v]] w (tOne (Ty.sl 71 tyBo) l) := by
  have c1 := fun w1 hb => toBoxS_l v l hl w1 (Ty.below _ hr hb)
  clear hr hl
  have H := Hs.start noRow w
  refine Rets.of ?_
  go_enter Tryz.func18, Tryz.ntmps18
  go_wp2_with (first | ((((with_reducible apply st_load1 H); decide +kernel; rfl; exact cF)); clear H; intro wn H; (try simp only [splice, yG, yH, yI, yJ, yK, yL, yM, yN, yO, yP, yQ, Nat.reduceAdd, yA, yB, yC] at H); simp only [Act.put, yA, yB, yC, yD, yE, yF]) | ((first | ((with_reducible apply st_box (dst := some 1) H); exact nF; intro b1) | ((with_reducible apply st_alloc (dst := some 2) H); exact nF; intro b2) | ((with_reducible apply st_alloc (dst := some 3) H); exact nF; intro b3)); clear H; intro wn H; simp only [Act.put, yA, yB, yC, yD, yE, yF]))
  refine (Rets.use (c1 _ H.below)).mono ?_; rintro e wn ⟨_, _, rfl, ⟨N1, hN1, rfl, o1⟩, hkk⟩; have Hn := H.moreK (by intro k hk; first | exact absurd hk List.not_mem_nil | (obtain rfl := List.mem_singleton.1 hk; exact In.mem iF)) hkk; clear hkk; clear H; have H := Hn; clear Hn; (try simp only [yT, yV] at H)
  have hA1 := own_single hN1 o1 rfl
  clear hN1 o1
  obtain ⟨A1, k1, rfl, _, _⟩ := sl_form (own_rd H .here hA1)
  have HA1 := Lib.hid hA1
  clear c1 hA1
  go_wp2_with (((first | ((with_reducible apply st_loads H); decide +kernel; rfl; exact iF; exact zF; rfl) | ((with_reducible apply st_store H); rfl; exact eF; (focus (exact cells_agg _)); exact uF; kernel_rfl; (focus (exact Nat.le_of_ble_eq_true (by rfl))); (focus (rfl)))); clear H; intro wn H; (try simp only [splice, yG, yH, yI, yJ, yK, yL, yM, yN, yO, yP, yQ, Nat.reduceAdd, yA, yB, yC] at H); simp only [Act.put, yA, yB, yC, yD, yE, yF]))
  refine bp_cell H rfl rfl iF (by kernel_rfl) (by kernel_rfl) rfl (by first | exact .inl rfl | exact .inr rfl) ?_
  have H2 := H.sel (M := [Hl.all N1]) sF
  exact Hs.retd H2 (List.Sublist.refl _) ⟨_, _, rfl, HA1.out, rfl⟩
set_option maxRecDepth 100000 in
set_option maxHeartbeats 4000000 in
theorem eqMail_l (v u : Value) (l : List Bo) (w : World) (ha : (Ty.sl 71 tyBo).rd w [v] l) (hb : (Ty.sl 71 tyBo).rd w [u] l) : Gives Tryz.prog 24 #[.agg #[v], .agg #[u]] w (.bool true) := by
  have c1 := fun w1 hb' => eqBoxS_l v u l w1 (Ty.below _ ha hb') (Ty.below _ hb hb')
  clear ha hb
  have H := Hs.start noRow w
  unfold Gives
  go_enter Tryz.func24, Tryz.ntmps24
  go_wp2_with (first | ((((with_reducible apply st_load1 H); decide +kernel; rfl; exact cF)); clear H; intro wn H; (try simp only [splice, yG, yH, yI, yJ, yK, yL, yM, yN, yO, yP, yQ, Nat.reduceAdd, yA, yB, yC] at H); simp only [Act.put, yA, yB, yC, yD, yE, yF]) | ((first | ((with_reducible apply st_box (dst := some 2) H); exact nF; intro b2) | ((with_reducible apply st_box (dst := some 3) H); exact nF; intro b3)); clear H; intro wn H; simp only [Act.put, yA, yB, yC, yD, yE, yF]) | (((go_at_call 57; refine gvF (c1 _ H.below) H ?_)); clear H; intro wn H))
  go_ret
  exact ⟨rfl, H.below⟩
set_option maxRecDepth 100000 in
set_option maxHeartbeats 4000000 in
theorem szMail_l (v : Value) (l : List Bo) (k : Int) (hk : 0 ≤ k ∧ k ≤ 1048576) (w : World) (ha : (Ty.sl 0 tyBo).rd w [v] l) : Gives Tryz.prog 10 #[.agg #[v], .int .i64 k] w (.int .i64 (szC k (szMl l))) := by
  have c1 := fun w1 hb => szBoxS_l v l k hk w1 (Ty.below _ ha hb)
  clear ha
  generalize szMl l = n at *
  have H := Hs.start noRow w
  unfold Gives
  by_cases hn : k - n < 0
  · rw [szC_neg hn] at c1 ⊢
    go_enter Tryz.func10, Tryz.ntmps10
    go_wp2_with (first | ((((with_reducible apply st_load1 H); decide +kernel; rfl; exact cF)); clear H; intro wn H; (try simp only [splice, yG, yH, yI, yJ, yK, yL, yM, yN, yO, yP, yQ, Nat.reduceAdd, yA, yB, yC] at H); simp only [Act.put, yA, yB, yC, yD, yE, yF]) | ((((with_reducible apply st_box (dst := some 2) H); exact nF; intro b2)); clear H; intro wn H; simp only [Act.put, yA, yB, yC, yD, yE, yF]) | (((go_at_call 29; refine gvF (c1 _ H.below) H ?_)); clear H; intro wn H))
    go_ret
    exact ⟨rfl, H.below⟩
  · rw [szC_pos hn] at c1 ⊢
    go_enter Tryz.func10, Tryz.ntmps10
    go_wp2_with (first | ((((with_reducible apply st_load1 H); decide +kernel; rfl; exact cF)); clear H; intro wn H; (try simp only [splice, yG, yH, yI, yJ, yK, yL, yM, yN, yO, yP, yQ, Nat.reduceAdd, yA, yB, yC] at H); simp only [Act.put, yA, yB, yC, yD, yE, yF]) | ((((with_reducible apply st_box (dst := some 2) H); exact nF; intro b2)); clear H; intro wn H; simp only [Act.put, yA, yB, yC, yD, yE, yF]) | (((go_at_call 29; refine gvF (c1 _ H.below) H ?_)); clear H; intro wn H))
    go_ret
    exact ⟨rfl, H.below⟩
end Go.Proofs.YtpfdhfchgnnpiaaGreat
