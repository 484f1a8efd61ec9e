/-
  Configurations: what the statements do with them: the walks.
-/
import Derived.Test.YtjklmldchbakjaaGreatHb
import Derived.Test.YtjklmldchbakjaaGreatCo
set_option linter.unusedSimpArgs false
set_option linter.unusedVariables false
namespace Go.Proofs.YtjklmldchbakjaaGreat
open Go.RowKit M
namespace M
def szCfg (c : Cfg) : Nat := total c.1 + (c.2.1.length + c.2.2.1.length)
def mkKeep : Mark Int := ⟨fun _ => 0, fun _ a => a⟩
def mkCfg : Mark Cfg := mkLab.list.list.pair (mkPr.list.pair (mkQt.list.pair mkKeep))
end M
set_option maxRecDepth 100000 in
set_option maxHeartbeats 4000000 in
theorem toConfig_l (c : Cfg) (cs : List Value) (hl : szCfg c ≤ 1048576) (w : World) (hr : tyCfg.rd w cs c) : Rets Tryz.prog [] 7 #[.agg cs.toArray] w (tAgg tyCfg c) := by
  obtain ⟨v1, v2, v3, rfl, h1, h2, h3⟩ := cfg_form hr
  clear hr
  obtain ⟨l, pr, qt, hf⟩ := c
  have hl1 : total l ≤ 1048576 := by have : total l + (pr.length + qt.length) ≤ 1048576 := hl; omega
  have hl2 : pr.length ≤ 1048576 := by have : total l + (pr.length + qt.length) ≤ 1048576 := hl; omega
  have hl3 : qt.length ≤ 1048576 := by have : total l + (pr.length + qt.length) ≤ 1048576 := hl; omega
  simp only at h1 h2 h3
  show Rets Tryz.prog [] _ #[.agg #[v1, v2, v3, .int .i64 hf]] w _
  have c1 := fun w1 hb => toLabelSS_l v1 l hl1 w1 (Ty.below _ (sl_cast (E := 93) (F := 0) (T := Ty.sl 96 tyLab) (U := Ty.sl 0 tyLab) rfl (fun _ _ h => h) h1) hb)
  have c2 := fun w1 hb => toPairS_l v2 pr hl2 w1 (Ty.below _ h2 hb)
  have c3 := fun w1 hb => toQuotaS_l v3 qt hl3 w1 (Ty.below _ h3 hb)
  clear hl hl1 hl2 hl3 h1 h2 h3
  have H := Hs.start noRow w
  refine Rets.of ?_
  go_enter Tryz.func7, Tryz.ntmps7
  go_wp2_with (first | ((first | ((with_reducible apply st_load1 H); decide +kernel; rfl; exact cF) | ((with_reducible apply st_loads H); decide +kernel; rfl; exact iF; exact zF; rfl) | ((with_reducible apply st_store H); rfl; exact eF; (focus (exact cells_agg _)); exact uF; kernel_rfl; (focus (exact Nat.le_of_ble_eq_true (by rfl))); (focus (first | rfl | simp))) | ((with_reducible apply st_storeown H); rfl; exact eF; (focus (exact (rfl : _ = [_]))); exact uF; (focus omega); kernel_rfl; rfl)); clear H; intro wn H; (try simp only [splice, yG, yH, yI, yJ, yK, yL, yM, yN, yO, yP, yQ, Nat.reduceAdd, yA, yB, yC] at H); simp only [Act.put, yA, yB, yC, yD, yE, yF]) | ((first | ((with_reducible apply st_box (dst := some 1) H); exact nF; intro b1) | ((with_reducible apply st_alloc (dst := some 2) H); exact nF; intro b2) | ((with_reducible apply st_alloc (dst := some 3) H); exact nF; intro b3) | ((with_reducible apply st_loadat H); decide +kernel; rfl; exact aF; exact zF; rfl) | ((with_reducible apply st_storerow H); rfl; exact eF; (first | exact cells_agg _ | exact cellI | exact cellS | exact cellB | exact (rfl : _ = [_])); exact uF; kernel_rfl; exact Nat.succ_pos _; exact fitF; rfl)); clear H; intro wn H; simp only [Act.put, yA, yB, yC, yD, yE, yF]) | fail)
  refine (Rets.use (c1 _ H.below)).mono ?_; rintro e wn ⟨_, _, rfl, ⟨N1, hN1, rfl, o1⟩, hkk⟩; have Hn := H.moreK (by intro k hk; first | exact absurd hk List.not_mem_nil | (obtain rfl := List.mem_singleton.1 hk; exact In.mem iF)) hkk; clear hkk; clear H; have H := Hn; clear Hn; (try simp only [yT, yV] at H)
  have hA1 := own_single hN1 o1 rfl
  clear hN1 o1
  obtain ⟨A1, k1, rfl, _, _⟩ := sl_form (own_rd H .here hA1)
  go_wp2_with (first | ((first | ((with_reducible apply st_load1 H); decide +kernel; rfl; exact cF) | ((with_reducible apply st_loads H); decide +kernel; rfl; exact iF; exact zF; rfl) | ((with_reducible apply st_store H); rfl; exact eF; (focus (exact cells_agg _)); exact uF; kernel_rfl; (focus (exact Nat.le_of_ble_eq_true (by rfl))); (focus (first | rfl | simp))) | ((with_reducible apply st_storeown H); rfl; exact eF; (focus (exact (rfl : _ = [_]))); exact uF; (focus omega); kernel_rfl; rfl)); clear H; intro wn H; (try simp only [splice, yG, yH, yI, yJ, yK, yL, yM, yN, yO, yP, yQ, Nat.reduceAdd, yA, yB, yC] at H); simp only [Act.put, yA, yB, yC, yD, yE, yF]) | ((first | ((with_reducible apply st_box (dst := some 1) H); exact nF; intro b1) | ((with_reducible apply st_alloc (dst := some 2) H); exact nF; intro b2) | ((with_reducible apply st_alloc (dst := some 3) H); exact nF; intro b3) | ((with_reducible apply st_loadat H); decide +kernel; rfl; exact aF; exact zF; rfl) | ((with_reducible apply st_storerow H); rfl; exact eF; (first | exact cells_agg _ | exact cellI | exact cellS | exact cellB | exact (rfl : _ = [_])); exact uF; kernel_rfl; exact Nat.succ_pos _; exact fitF; rfl)); clear H; intro wn H; simp only [Act.put, yA, yB, yC, yD, yE, yF]) | fail)
  refine (Rets.use (c2 _ H.below)).mono ?_; rintro e wn ⟨_, _, rfl, ⟨N2, hN2, rfl, o2⟩, hkk⟩; have Hn := H.moreK (by intro k hk; first | exact absurd hk List.not_mem_nil | (obtain rfl := List.mem_singleton.1 hk; exact In.mem iF)) hkk; clear hkk; clear H; have H := Hn; clear Hn; (try simp only [yT, yV] at H)
  have hA2 := own_single hN2 o2 rfl
  clear hN2 o2
  obtain ⟨A2, k2, rfl, _, _⟩ := sl_form (own_rd H .here hA2)
  go_wp2_with (first | ((first | ((with_reducible apply st_load1 H); decide +kernel; rfl; exact cF) | ((with_reducible apply st_loads H); decide +kernel; rfl; exact iF; exact zF; rfl) | ((with_reducible apply st_store H); rfl; exact eF; (focus (exact cells_agg _)); exact uF; kernel_rfl; (focus (exact Nat.le_of_ble_eq_true (by rfl))); (focus (first | rfl | simp))) | ((with_reducible apply st_storeown H); rfl; exact eF; (focus (exact (rfl : _ = [_]))); exact uF; (focus omega); kernel_rfl; rfl)); clear H; intro wn H; (try simp only [splice, yG, yH, yI, yJ, yK, yL, yM, yN, yO, yP, yQ, Nat.reduceAdd, yA, yB, yC] at H); simp only [Act.put, yA, yB, yC, yD, yE, yF]) | ((first | ((with_reducible apply st_box (dst := some 1) H); exact nF; intro b1) | ((with_reducible apply st_alloc (dst := some 2) H); exact nF; intro b2) | ((with_reducible apply st_alloc (dst := some 3) H); exact nF; intro b3) | ((with_reducible apply st_loadat H); decide +kernel; rfl; exact aF; exact zF; rfl) | ((with_reducible apply st_storerow H); rfl; exact eF; (first | exact cells_agg _ | exact cellI | exact cellS | exact cellB | exact (rfl : _ = [_])); exact uF; kernel_rfl; exact Nat.succ_pos _; exact fitF; rfl)); clear H; intro wn H; simp only [Act.put, yA, yB, yC, yD, yE, yF]) | fail)
  refine (Rets.use (c3 _ H.below)).mono ?_; rintro e wn ⟨_, _, rfl, ⟨N3, hN3, rfl, o3⟩, hkk⟩; have Hn := H.moreK (by intro k hk; first | exact absurd hk List.not_mem_nil | (obtain rfl := List.mem_singleton.1 hk; exact In.mem iF)) hkk; clear hkk; clear H; have H := Hn; clear Hn; (try simp only [yT, yV] at H)
  have hA3 := own_single hN3 o3 rfl
  clear hN3 o3
  obtain ⟨A3, k3, rfl, _, _⟩ := sl_form (own_rd H .here hA3)
  have HA1 := Lib.hid hA1
  have HA2 := Lib.hid hA2
  have HA3 := Lib.hid hA3
  clear c1 c2 c3 hA1 hA2 hA3
  go_wp2_with (first | ((first | ((with_reducible apply st_load1 H); decide +kernel; rfl; exact cF) | ((with_reducible apply st_loads H); decide +kernel; rfl; exact iF; exact zF; rfl) | ((with_reducible apply st_store H); rfl; exact eF; (focus (exact cells_agg _)); exact uF; kernel_rfl; (focus (exact Nat.le_of_ble_eq_true (by rfl))); (focus (first | rfl | simp))) | ((with_reducible apply st_storeown H); rfl; exact eF; (focus (exact (rfl : _ = [_]))); exact uF; (focus omega); kernel_rfl; rfl)); clear H; intro wn H; (try simp only [splice, yG, yH, yI, yJ, yK, yL, yM, yN, yO, yP, yQ, Nat.reduceAdd, yA, yB, yC] at H); simp only [Act.put, yA, yB, yC, yD, yE, yF]) | ((first | ((with_reducible apply st_box (dst := some 1) H); exact nF; intro b1) | ((with_reducible apply st_alloc (dst := some 2) H); exact nF; intro b2) | ((with_reducible apply st_alloc (dst := some 3) H); exact nF; intro b3) | ((with_reducible apply st_loadat H); decide +kernel; rfl; exact aF; exact zF; rfl) | ((with_reducible apply st_storerow H); rfl; exact eF; (first | exact cells_agg _ | exact cellI | exact cellS | exact cellB | exact (rfl : _ = [_])); exact uF; kernel_rfl; exact Nat.succ_pos _; exact fitF; rfl)); clear H; intro wn H; simp only [Act.put, yA, yB, yC, yD, yE, yF]) | fail)
  refine bp_cell H rfl rfl iF (by kernel_rfl) (by kernel_rfl) rfl (by first | exact .inl rfl | exact .inr rfl) ?_
  have H2 := H.sel (M := [Hl.all N1, Hl.all N2, Hl.all N3]) sF
  rw [← List.append_nil N3] at H2
  exact Hs.retd H2.join3 (List.Sublist.refl _) ⟨[_, _, _, _], _, rfl, ⟨[_], [_, _, _], _, _, rfl, rfl, HA1.out, [_], [_, _], _, _, rfl, rfl, HA2.out, [_], [_], _, _, rfl, rfl, HA3.out, rfl, rfl⟩, rfl⟩
set_option maxRecDepth 100000 in
set_option maxHeartbeats 4000000 in
theorem eqConfig_l (c : Cfg) (cs ds : List Value) (w : World) (ha : tyCfg.rd w cs c) (hb : tyCfg.rd w ds c) : Gives Tryz.prog 10 #[.agg cs.toArray, .agg ds.toArray] w (.bool true) := by
  obtain ⟨v1, v2, v3, rfl, h1, h2, h3⟩ := cfg_form ha
  obtain ⟨u1, u2, u3, rfl, k1, k2, k3⟩ := cfg_form hb
  clear ha hb
  obtain ⟨l, pr, qt, hf⟩ := c
  simp only at h1 h2 h3 k1 k2 k3
  show Gives Tryz.prog _ #[.agg #[v1, v2, v3, .int .i64 hf], .agg #[u1, u2, u3, .int .i64 hf]] w _
  have c1 := fun w1 hb => eqLabelSS_l v1 u1 l w1 (Ty.below _ h1 hb) (Ty.below _ k1 hb)
  have c2 := fun w1 hb => eqPairS_l v2 u2 pr w1 (Ty.below _ h2 hb) (Ty.below _ k2 hb)
  have c3 := fun w1 hb => eqQuotaS_l v3 u3 qt w1 (Ty.below _ h3 hb) (Ty.below _ k3 hb)
  clear h1 h2 h3 k1 k2 k3
  have H := Hs.start noRow w
  unfold Gives
  go_enter Tryz.func10, Tryz.ntmps10
  go_wp2_with (first | ((first | ((with_reducible apply st_load1 H); decide +kernel; rfl; exact cF) | ((with_reducible apply st_loads H); decide +kernel; rfl; exact iF; exact zF; rfl)); clear H; intro wn H; (try simp only [splice, yG, yH, yI, yJ, yK, yL, yM, yN, yO, yP, yQ, Nat.reduceAdd, yA, yB, yC] at H); simp only [Act.put, yA, yB, yC, yD, yE, yF]) | ((first | ((with_reducible apply st_box (dst := some 2) H); exact nF; intro b2) | ((with_reducible apply st_box (dst := some 3) H); exact nF; intro b3) | ((with_reducible apply st_strsum H); rfl; rfl; exact szF; kernel_rfl) | ((with_reducible apply st_loadat H); decide +kernel; rfl; exact aF; exact zF; rfl)); clear H; intro wn H; simp only [Act.put, yA, yB, yC, yD, yE, yF]) | ((first | (go_at_call 31; refine gvF (c1 _ H.below) H ?_) | (go_at_call 32; refine gvF (c2 _ H.below) H ?_) | (go_at_call 33; refine gvF (c3 _ H.below) H ?_)); clear H; intro wn H) | fail)
  go_ret
  exact ⟨rfl, H.below⟩
set_option maxRecDepth 100000 in
set_option maxHeartbeats 4000000 in
theorem szConfig_l (c : Cfg) (cs : List Value) (k : Int) (hk : 0 ≤ k ∧ k ≤ 1048576) (w : World) (ha : tyCfg.rd w cs c) : Gives Tryz.prog 5 #[.agg cs.toArray, .int .i64 k] w (.int .i64 (szC k (szCfg c))) := by
  obtain ⟨v1, v2, v3, rfl, h1, h2, h3⟩ := cfg_form ha
  clear ha
  obtain ⟨l, pr, qt, hf⟩ := c
  simp only at h1 h2 h3
  show Gives Tryz.prog _ #[.agg #[v1, v2, v3, .int .i64 hf], _] w _
  have c1 := fun w1 hb => szLabelSS_l v1 l k hk w1 (Ty.below _ (sl_cast (E := 93) (F := 0) (T := Ty.sl 96 tyLab) (U := Ty.sl 0 tyLab) rfl (fun _ _ h => h) h1) hb)
  have c2 := fun k hk w1 hb => szPairS_l v2 pr k hk w1 (Ty.below _ h2 hb)
  have c3 := fun k hk w1 hb => szQuotaS_l v3 qt k hk w1 (Ty.below _ h3 hb)
  show Gives Tryz.prog _ _ w (.int .i64 (szC k (total l + (pr.length + qt.length))))
  clear h1 h2 h3
  generalize total l = n1 at *
  generalize pr.length = n2 at *
  generalize qt.length = n3 at *
  have H := Hs.start noRow w
  unfold Gives
  by_cases hn1 : k - n1 < 0
  · rw [szC_neg hn1] at c1
    rw [szC_neg (by omega)]
    go_enter Tryz.func5, Tryz.ntmps5
    go_wp2_with (first | ((first | ((with_reducible apply st_load1 H); decide +kernel; rfl; exact cF) | ((with_reducible apply st_loads H); decide +kernel; rfl; exact iF; exact zF; rfl)); clear H; intro wn H; (try simp only [splice, yG, yH, yI, yJ, yK, yL, yM, yN, yO, yP, yQ, Nat.reduceAdd, yA, yB, yC] at H); simp only [Act.put, yA, yB, yC, yD, yE, yF]) | ((first | ((with_reducible apply st_box (dst := some 2) H); exact nF; intro b2) | ((with_reducible apply st_strsum H); rfl; rfl; exact szF; kernel_rfl) | ((with_reducible apply st_loadat H); decide +kernel; rfl; exact aF; exact zF; rfl)); clear H; intro wn H; simp only [Act.put, yA, yB, yC, yD, yE, yF]) | ((first | (go_at_call 19; refine gvF (c1 _ H.below) H ?_) | (go_at_call 20; refine gvF (c5 _ H.below) H ?_) | (go_at_call 21; refine gvF (c6 _ H.below) H ?_)); clear H; intro wn H) | fail)
    go_ret
    exact ⟨rfl, H.below⟩
  rw [szC_pos hn1] at c1
  have c5 := c2 (k - n1) ⟨by omega, by omega⟩
  by_cases hn2 : k - n1 - n2 < 0
  · rw [szC_neg hn2] at c5
    rw [szC_neg (by omega)]
    clear c2 c3
    go_enter Tryz.func5, Tryz.ntmps5
    go_wp2_with (first | ((first | ((with_reducible apply st_load1 H); decide +kernel; rfl; exact cF) | ((with_reducible apply st_loads H); decide +kernel; rfl; exact iF; exact zF; rfl)); clear H; intro wn H; (try simp only [splice, yG, yH, yI, yJ, yK, yL, yM, yN, yO, yP, yQ, Nat.reduceAdd, yA, yB, yC] at H); simp only [Act.put, yA, yB, yC, yD, yE, yF]) | ((first | ((with_reducible apply st_box (dst := some 2) H); exact nF; intro b2) | ((with_reducible apply st_strsum H); rfl; rfl; exact szF; kernel_rfl) | ((with_reducible apply st_loadat H); decide +kernel; rfl; exact aF; exact zF; rfl)); clear H; intro wn H; simp only [Act.put, yA, yB, yC, yD, yE, yF]) | ((first | (go_at_call 19; refine gvF (c1 _ H.below) H ?_) | (go_at_call 20; refine gvF (c5 _ H.below) H ?_) | (go_at_call 21; refine gvF (c6 _ H.below) H ?_)); clear H; intro wn H) | fail)
    go_ret
    exact ⟨rfl, H.below⟩
  rw [szC_pos hn2] at c5
  have c6 := c3 (k - n1 - n2) ⟨by omega, by omega⟩
  clear c2 c3
  by_cases hn3 : k - n1 - n2 - n3 < 0
  · rw [szC_neg hn3] at c6
    rw [szC_neg (by omega)]
    go_enter Tryz.func5, Tryz.ntmps5
    go_wp2_with (first | ((first | ((with_reducible apply st_load1 H); decide +kernel; rfl; exact cF) | ((with_reducible apply st_loads H); decide +kernel; rfl; exact iF; exact zF; rfl)); clear H; intro wn H; (try simp only [splice, yG, yH, yI, yJ, yK, yL, yM, yN, yO, yP, yQ, Nat.reduceAdd, yA, yB, yC] at H); simp only [Act.put, yA, yB, yC, yD, yE, yF]) | ((first | ((with_reducible apply st_box (dst := some 2) H); exact nF; intro b2) | ((with_reducible apply st_strsum H); rfl; rfl; exact szF; kernel_rfl) | ((with_reducible apply st_loadat H); decide +kernel; rfl; exact aF; exact zF; rfl)); clear H; intro wn H; simp only [Act.put, yA, yB, yC, yD, yE, yF]) | ((first | (go_at_call 19; refine gvF (c1 _ H.below) H ?_) | (go_at_call 20; refine gvF (c5 _ H.below) H ?_) | (go_at_call 21; refine gvF (c6 _ H.below) H ?_)); clear H; intro wn H) | fail)
    go_ret
    exact ⟨rfl, H.below⟩
  · rw [szC_pos hn3] at c6
    rw [szC_pos (by omega), show k - ((n1 + (n2 + n3) : Nat) : Int) = k - n1 - n2 - n3 by omega]
    go_enter Tryz.func5, Tryz.ntmps5
    go_wp2_with (first | ((first | ((with_reducible apply st_load1 H); decide +kernel; rfl; exact cF) | ((with_reducible apply st_loads H); decide +kernel; rfl; exact iF; exact zF; rfl)); clear H; intro wn H; (try simp only [splice, yG, yH, yI, yJ, yK, yL, yM, yN, yO, yP, yQ, Nat.reduceAdd, yA, yB, yC] at H); simp only [Act.put, yA, yB, yC, yD, yE, yF]) | ((first | ((with_reducible apply st_box (dst := some 2) H); exact nF; intro b2) | ((with_reducible apply st_strsum H); rfl; rfl; exact szF; kernel_rfl) | ((with_reducible apply st_loadat H); decide +kernel; rfl; exact aF; exact zF; rfl)); clear H; intro wn H; simp only [Act.put, yA, yB, yC, yD, yE, yF]) | ((first | (go_at_call 19; refine gvF (c1 _ H.below) H ?_) | (go_at_call 20; refine gvF (c5 _ H.below) H ?_) | (go_at_call 21; refine gvF (c6 _ H.below) H ?_)); clear H; intro wn H) | fail)
    go_ret
    exact ⟨rfl, H.below⟩
end Go.Proofs.YtjklmldchbakjaaGreat
