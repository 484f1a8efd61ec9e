/-
  New yards and states, in the program and in the reference: the walks.
-/
import Derived.Test.YtjklmldchbakjaaGreatYb
set_option linter.unusedSimpArgs false
set_option linter.unusedVariables false
namespace Go.Proofs.YtjklmldchbakjaaGreat
open Go.RowKit M
namespace M
theorem cfg_fits {c : Cfg} (h : cfgOk c = true) : fitsCfg c ∧ 0 < c.1.length ∧ c.1.length ≤ 6 ∧ c.2.1.length ≤ 4 := by
  unfold cfgOk at h
  simp only [Bool.and_eq_true, decide_eq_true_eq] at h
  obtain ⟨h1, h2, h3, h4, h5⟩ := h
  have hc := clear_ok h1
  have hp : c.2.1.length ≤ 4 := by
    unfold pairsOk at h4
    simp only [Bool.and_eq_true, decide_eq_true_eq] at h4
    exact h4.2
  have hq := quotas_len (fun a => labels_ok a) h5
  refine ⟨⟨by omega, fun x hx => ?_, by omega, by omega⟩, by omega, by omega, hp⟩
  have h6 := List.all_eq_true.1 hc.1 x hx
  unfold chainOk at h6
  simp only [Bool.and_eq_true, decide_eq_true_eq] at h6
  omega
def zeroCfg : Cfg := ([], [], [], 0)
def zeroYd : Yd := (zeroCfg, [], [], [], 0)
def zeroSt : St := (zeroYd, [])
def newYd (c : Cfg) : Yd := (c, List.replicate c.1.length newNd, [], [], 0)
def newSt (c : Cfg) : St := (newYd c, List.replicate c.2.1.length newBo)
def newMl (c : Cfg) : List Bo := if cfgOk c then List.replicate c.2.1.length newBo else []
def yardNew (c : Cfg) : YO := if cfgOk c then (newYd c, (0, 0)) else (zeroYd, (0, 1))
def stateNew (c : Cfg) : SO := if cfgOk c then (newSt c, (0, 0)) else (zeroSt, (0, 1))
end M
theorem ret_nodes {w w' : World} {L : List Hl} {A : Option Addr} {n c : Nat} (H : Hs noRow w (Hl.row 126 2 (.slice A n c) n (List.replicate n cellNd).flatten :: L) w') :
    RPost [] w (tSli (Ty.sl 126 tyNd) (List.replicate n newNd)) (.returned (.slice A n c)) w' := by
  obtain ⟨N, hN, H2⟩ := rep_row H own_newNd free_Nd
  have hl : (List.replicate n newNd).length = n := by simp
  exact Hs.retd H2 (List.Sublist.cons_cons _ (List.nil_sublist _)) ⟨A, c, N, by rw [hl], by rw [hl]; exact hN, rfl⟩
set_option maxRecDepth 100000 in
set_option maxHeartbeats 4000000 in
theorem nodesNew_i (n : Nat) (hn0 : 0 < n) (hn6 : n ≤ 6) (w : World) : Rets Tryz.prog [] 57 #[.int .i64 n] w (tSli (Ty.sl 126 tyNd) (List.replicate n newNd)) := by
  have c1 := fun w1 => within_i (n : Int) 1 6 w1
  rw [show (decide ((1 : Int) ≤ n) && decide ((n : Int) ≤ 6)) = true by simp; omega] at c1
  have H := Hs.start noRow w
  refine Rets.of ?_
  go_enter Tryz.func57, Tryz.ntmps57
  go_wp2_with (first | ((first | ((with_reducible apply st_load1 H); decide +kernel; rfl; exact cF) | ((with_reducible apply st_loads H); decide +kernel; rfl; exact iF; exact zF; rfl)); clear H; intro wn H; (try simp only [splice, yG, yH, yI, yJ, yK, yL, yM, yN, yO, yP, yQ, Nat.reduceAdd, yA, yB, yC] at H); simp only [Act.put, yA, yB, yC, yD, yE, yF]) | ((first | ((with_reducible apply st_bslice H); exact nsF; intro nb)); clear H; intro wn H; simp only [Act.put, yA, yB, yC, yD, yE, yF]) | ((first | (go_at_call 70; refine gvF (c1 _) H ?_)); clear H; intro wn H) | fail)
  have hc1 : ∀ u ∈ cellNd, u.oneCell' = true := fun u hu => by
    simp only [cellNd, List.mem_cons, List.not_mem_nil, or_false] at hu
    rcases hu with rfl | rfl <;> rfl
  refine (Rets.use (repeat_Nd _ cellNd hc1 n hn0 hn6 _ (Rd.of_blk (H.blk iF) rfl (by decide)))).mono ?_; rintro e wn ⟨_, _, rfl, ⟨A4, c4, rfl, rfl⟩, hkk⟩; have Hn := H.moreK (by intro k hk; first | exact absurd hk List.not_mem_nil | (obtain rfl := List.mem_singleton.1 hk; exact In.mem iF)) hkk; clear hkk; clear H; have H := Hn; clear Hn; (try simp only [yT, yV] at H)
  go_wp2_with (first | ((first | ((with_reducible apply st_load1 H); decide +kernel; rfl; exact cF) | ((with_reducible apply st_loads H); decide +kernel; rfl; exact iF; exact zF; rfl)); clear H; intro wn H; (try simp only [splice, yG, yH, yI, yJ, yK, yL, yM, yN, yO, yP, yQ, Nat.reduceAdd, yA, yB, yC] at H); simp only [Act.put, yA, yB, yC, yD, yE, yF]) | ((first | ((with_reducible apply st_bslice H); exact nsF; intro nb)); clear H; intro wn H; simp only [Act.put, yA, yB, yC, yD, yE, yF]) | ((first | (go_at_call 70; refine gvF (c1 _) H ?_)); clear H; intro wn H) | fail)
  go_ret
  exact ret_nodes H
set_option maxRecDepth 100000 in
set_option maxHeartbeats 4000000 in
theorem nodesNew_s (n : Nat) (hn0 : 0 < n) (hn6 : n ≤ 6) (w : World) : Rets Tryz.prog [] 51 #[.int .i64 n] w (tSli (Ty.sl 126 tyNd) (List.replicate n newNd)) := by
  have c1 := fun w1 => is_s (n : Int) 1 6 w1
  rw [show (decide ((1 : Int) ≤ n) && decide ((n : Int) ≤ 6)) = true by simp; omega] at c1
  have H := Hs.start noRow w
  refine Rets.of ?_
  go_enter Tryz.func51, Tryz.ntmps51
  go_wp2_with (first | ((with_reducible apply st_appendrb H); (first | ((focus (with_reducible exact dH)); rfl) | ((focus (with_reducible exact dT (dH))); rfl) | ((focus (with_reducible exact dT (dT (dH)))); rfl)); rfl; exact iF; kernel_rfl; rfl; rfl; (focus (first | omega | (simp; done) | (simp; omega))); clear H; intro vq wn H; obtain ⟨Aq, cq, hvq, _, _⟩ := (H.rows .here).slice; subst hvq; simp only [Act.put, yA, yB, yC, yD, yE, yF]) | ((first | ((with_reducible apply st_load1 H); decide +kernel; rfl; exact cF) | ((with_reducible apply st_loads H); decide +kernel; rfl; exact iF; exact zF; rfl)); clear H; intro wn H; (try simp only [splice, yG, yH, yI, yJ, yK, yL, yM, yN, yO, yP, yQ, Nat.reduceAdd, yA, yB, yC] at H); simp only [Act.put, yA, yB, yC, yD, yE, yF]) | ((first | ((with_reducible apply st_strsum H); rfl; rfl; exact szF; kernel_rfl) | ((with_reducible apply st_bslice H); exact nsF; intro nb)); clear H; intro wn H; simp only [Act.put, yA, yB, yC, yD, yE, yF]) | ((with_reducible apply st_appendb H); (first | ((focus (with_reducible exact dH)); rfl) | ((focus (with_reducible exact dT (dH))); rfl) | ((focus (with_reducible exact dT (dT (dH)))); rfl) | ((focus (with_reducible exact dT (dT (dT (dH))))); rfl) | ((focus (with_reducible exact dT (dT (dT (dT (dH)))))); rfl) | ((focus (with_reducible exact dT (dT (dT (dT (dT (dH))))))); rfl) | ((focus (with_reducible exact dT (dT (dT (dT (dT (dT (dH)))))))); rfl)); rfl; exact iF; kernel_rfl; rfl; rfl; (focus (first | omega | (simp; done) | (simp; omega))); clear H; intro vq wn H; (try simp only [yM, yN, yO] at H); simp only [Act.put, yA, yB, yC, yD, yE, yF]) | ((with_reducible apply st_appendrb H); (first | ((focus (with_reducible exact dH)); rfl) | ((focus (with_reducible exact dT (dH))); rfl) | ((focus (with_reducible exact dT (dT (dH)))); rfl) | ((focus (with_reducible exact dT (dT (dT (dH))))); rfl) | ((focus (with_reducible exact dT (dT (dT (dT (dH)))))); rfl) | ((focus (with_reducible exact dT (dT (dT (dT (dT (dH))))))); rfl) | ((focus (with_reducible exact dT (dT (dT (dT (dT (dT (dH)))))))); rfl)); rfl; exact iF; kernel_rfl; rfl; rfl; (focus (first | omega | (simp; done) | (simp; omega))); clear H; intro vq wn H; (try simp only [yM, yN, yO] at H); simp only [Act.put, yA, yB, yC, yD, yE, yF]) | ((first | (go_at_call 68; refine gvF (c1 _) H ?_)); clear H; intro wn H) | fail)
  have Hn := H.putRow 126 2 (some ⟨nb, 0, none⟩)
  clear H
  have H := Hn
  clear Hn
  go_loopg [0, 3] n (fun m nv sv wr => ∃ (i : Nat) (ov : Value), i + m = n ∧ nv = .int .i64 m ∧ sv = ov ∧ Hs noRow w [Hl.row 126 2 ov i (List.replicate i cellNd).flatten] wr)
  case atStart => exact ⟨0, _, by omega, rfl, rfl, H.sel (M := [Hl.row 126 2 (.slice (some ⟨nb, 0, none⟩) 0 0) 0 []]) sF⟩
  case round =>
    clear H
    obtain ⟨i, ov, hi, rfl, rfl, H⟩ := hrel
    obtain ⟨A9, c9, rfl, hn9, hm9⟩ := (H.rows .here).slice
    by_cases hlt : i < n
    · obtain ⟨m, rfl⟩ : ∃ m, gk = m + 1 := ⟨gk - 1, by omega⟩
      have hlt1 : (0 : Int) < (m : Int) + 1 := by omega
      go_wp2_with (first | ((with_reducible apply st_appendrb H); (first | ((focus (with_reducible exact dH)); rfl) | ((focus (with_reducible exact dT (dH))); rfl) | ((focus (with_reducible exact dT (dT (dH)))); rfl)); rfl; exact iF; kernel_rfl; rfl; rfl; (focus (first | omega | (simp; done) | (simp; omega))); clear H; intro vq wn H; obtain ⟨Aq, cq, hvq, _, _⟩ := (H.rows .here).slice; subst hvq; simp only [Act.put, yA, yB, yC, yD, yE, yF]) | ((first | ((with_reducible apply st_load1 H); decide +kernel; rfl; exact cF) | ((with_reducible apply st_loads H); decide +kernel; rfl; exact iF; exact zF; rfl)); clear H; intro wn H; (try simp only [splice, yG, yH, yI, yJ, yK, yL, yM, yN, yO, yP, yQ, Nat.reduceAdd, yA, yB, yC] at H); simp only [Act.put, yA, yB, yC, yD, yE, yF]) | ((first | ((with_reducible apply st_strsum H); rfl; rfl; exact szF; kernel_rfl) | ((with_reducible apply st_bslice H); exact nsF; intro nb)); clear H; intro wn H; simp only [Act.put, yA, yB, yC, yD, yE, yF]) | ((with_reducible apply st_appendb H); (first | ((focus (with_reducible exact dH)); rfl) | ((focus (with_reducible exact dT (dH))); rfl) | ((focus (with_reducible exact dT (dT (dH)))); rfl) | ((focus (with_reducible exact dT (dT (dT (dH))))); rfl) | ((focus (with_reducible exact dT (dT (dT (dT (dH)))))); rfl) | ((focus (with_reducible exact dT (dT (dT (dT (dT (dH))))))); rfl) | ((focus (with_reducible exact dT (dT (dT (dT (dT (dT (dH)))))))); rfl)); rfl; exact iF; kernel_rfl; rfl; rfl; (focus (first | omega | (simp; done) | (simp; omega))); clear H; intro vq wn H; (try simp only [yM, yN, yO] at H); simp only [Act.put, yA, yB, yC, yD, yE, yF]) | ((with_reducible apply st_appendrb H); (first | ((focus (with_reducible exact dH)); rfl) | ((focus (with_reducible exact dT (dH))); rfl) | ((focus (with_reducible exact dT (dT (dH)))); rfl) | ((focus (with_reducible exact dT (dT (dT (dH))))); rfl) | ((focus (with_reducible exact dT (dT (dT (dT (dH)))))); rfl) | ((focus (with_reducible exact dT (dT (dT (dT (dT (dH))))))); rfl) | ((focus (with_reducible exact dT (dT (dT (dT (dT (dT (dH)))))))); rfl)); rfl; exact iF; kernel_rfl; rfl; rfl; (focus (first | omega | (simp; done) | (simp; omega))); clear H; intro vq wn H; (try simp only [yM, yN, yO] at H); simp only [Act.put, yA, yB, yC, yD, yE, yF]) | ((first | (go_at_call 68; refine gvF (c1 _) H ?_)); clear H; intro wn H) | fail)
      go_roundg m
      case measure => omega
      case rel => exact ⟨i + 1, .slice Aq (i + 1) cq, by omega, by go_num, rfl, by rw [rep_add, show List.replicate 1 cellNd = [cellNd] from rfl, List.flatten_singleton]; exact H.sel (M := [Hl.row 126 2 (.slice Aq (i + 1) cq) (i + 1) ((List.replicate i cellNd).flatten ++ [.int .i64 1, .slice none 0 0])]) sF⟩
    · obtain rfl : i = n := by omega
      obtain rfl : gk = 0 := by omega
      go_wp2_with (first | ((with_reducible apply st_appendrb H); (first | ((focus (with_reducible exact dH)); rfl) | ((focus (with_reducible exact dT (dH))); rfl) | ((focus (with_reducible exact dT (dT (dH)))); rfl)); rfl; exact iF; kernel_rfl; rfl; rfl; (focus (first | omega | (simp; done) | (simp; omega))); clear H; intro vq wn H; obtain ⟨Aq, cq, hvq, _, _⟩ := (H.rows .here).slice; subst hvq; simp only [Act.put, yA, yB, yC, yD, yE, yF]) | ((first | ((with_reducible apply st_load1 H); decide +kernel; rfl; exact cF) | ((with_reducible apply st_loads H); decide +kernel; rfl; exact iF; exact zF; rfl)); clear H; intro wn H; (try simp only [splice, yG, yH, yI, yJ, yK, yL, yM, yN, yO, yP, yQ, Nat.reduceAdd, yA, yB, yC] at H); simp only [Act.put, yA, yB, yC, yD, yE, yF]) | ((first | ((with_reducible apply st_strsum H); rfl; rfl; exact szF; kernel_rfl) | ((with_reducible apply st_bslice H); exact nsF; intro nb)); clear H; intro wn H; simp only [Act.put, yA, yB, yC, yD, yE, yF]) | ((with_reducible apply st_appendb H); (first | ((focus (with_reducible exact dH)); rfl) | ((focus (with_reducible exact dT (dH))); rfl) | ((focus (with_reducible exact dT (dT (dH)))); rfl) | ((focus (with_reducible exact dT (dT (dT (dH))))); rfl) | ((focus (with_reducible exact dT (dT (dT (dT (dH)))))); rfl) | ((focus (with_reducible exact dT (dT (dT (dT (dT (dH))))))); rfl) | ((focus (with_reducible exact dT (dT (dT (dT (dT (dT (dH)))))))); rfl)); rfl; exact iF; kernel_rfl; rfl; rfl; (focus (first | omega | (simp; done) | (simp; omega))); clear H; intro vq wn H; (try simp only [yM, yN, yO] at H); simp only [Act.put, yA, yB, yC, yD, yE, yF]) | ((with_reducible apply st_appendrb H); (first | ((focus (with_reducible exact dH)); rfl) | ((focus (with_reducible exact dT (dH))); rfl) | ((focus (with_reducible exact dT (dT (dH)))); rfl) | ((focus (with_reducible exact dT (dT (dT (dH))))); rfl) | ((focus (with_reducible exact dT (dT (dT (dT (dH)))))); rfl) | ((focus (with_reducible exact dT (dT (dT (dT (dT (dH))))))); rfl) | ((focus (with_reducible exact dT (dT (dT (dT (dT (dT (dH)))))))); rfl)); rfl; exact iF; kernel_rfl; rfl; rfl; (focus (first | omega | (simp; done) | (simp; omega))); clear H; intro vq wn H; (try simp only [yM, yN, yO] at H); simp only [Act.put, yA, yB, yC, yD, yE, yF]) | ((first | (go_at_call 68; refine gvF (c1 _) H ?_)); clear H; intro wn H) | fail)
      go_ret
      exact ret_nodes H
set_option maxRecDepth 100000 in
theorem info_Box : (Tryz.prog.info? 167).map (fun i => i.zero) = some (some (.agg #[.slice none 0 0, .slice none 0 0, .slice none 0 0])) := by kernel_rfl
set_option maxRecDepth 100000 in
theorem zero_boxes {n : Nat} {zs : List Value} (h : ∃ i z, Tryz.prog.info? 167 = some i ∧ i.zero = some z ∧ zs = (madeCells z.cells (n * 3)).toList) : zs = (List.replicate n cellBo).flatten := by
  obtain ⟨i, z, h1, h2, rfl⟩ := h
  have h3 := info_Box
  rw [h1] at h3
  simp only [Option.map_some, Option.some.injEq] at h3
  rw [h2] at h3
  injection h3 with h3
  subst h3
  exact made_rep #[.slice none 0 0, .slice none 0 0, .slice none 0 0] (by decide) n
theorem ret_boxes {w w' : World} {L : List Hl} {v : Value} {n : Nat} (H : Hs noRow w (Hl.row 167 3 v n (List.replicate n cellBo).flatten :: L) w') :
    RPost [] w (tOne (Ty.sl 167 tyBo) (List.replicate n newBo)) (.returned (.agg #[v])) w' := by
  obtain ⟨N, hN, H2⟩ := rep_row H own_newBo free_Bo
  exact Hs.retd H2 (List.Sublist.cons_cons _ (List.nil_sublist _)) ⟨v, N, rfl, hN, rfl⟩
set_option maxRecDepth 100000 in
set_option maxHeartbeats 4000000 in
theorem mailNew_i (c : Cfg) (cs : List Value) (w : World) (hrc : tyCfg.rd w cs c) : Rets Tryz.prog [] 29 #[.agg cs.toArray] w (tOne (Ty.sl 167 tyBo) (newMl c)) := by
  have c1 := fun w1 hb => configRight_i c cs w1 (Ty.below _ hrc hb)
  have hfit := @cfg_fits c
  obtain ⟨v1, v2, v3, rfl, h1, h2, h3⟩ := cfg_form hrc
  obtain ⟨nd, pr, qt, hf⟩ := c
  simp only at h1 h2 h3 hfit
  replace c1 : ∀ w1, Below w.heap.size w w1 → Gives Tryz.prog 55 #[.agg #[v1, v2, v3, .int .i64 hf]] w1 (.bool (cfgOk (nd, pr, qt, hf))) := c1
  show Rets Tryz.prog [] _ #[.agg #[v1, v2, v3, .int .i64 hf]] w (tOne (Ty.sl 167 tyBo) (if cfgOk (nd, pr, qt, hf) = true then List.replicate pr.length newBo else []))
  generalize cfgOk (nd, pr, qt, hf) = z at *
  obtain ⟨D2, d2, rfl, _, _⟩ := sl_form h2
  generalize pr.length = m at *
  clear hrc h1 h2 h3
  have H := Hs.start noRow w
  refine Rets.of ?_
  cases z
  case false =>
    clear hfit
    go_enter Tryz.func29, Tryz.ntmps29
    go_wp2_with (first | ((with_reducible apply st_appendrb H); (first | ((focus (with_reducible exact dH)); rfl) | ((focus (with_reducible exact dT (dH))); rfl) | ((focus (with_reducible exact dT (dT (dH)))); rfl)); rfl; exact iF; kernel_rfl; rfl; rfl; (focus (first | omega | (simp; done) | (simp; omega))); clear H; intro vq wn H; obtain ⟨Aq, cq, hvq, _, _⟩ := (H.rows .here).slice; subst hvq; simp only [Act.put, yA, yB, yC, yD, yE, yF]) | ((first | ((with_reducible apply st_load1 H); decide +kernel; rfl; exact cF) | ((with_reducible apply st_loads H); decide +kernel; rfl; exact iF; exact zF; rfl) | ((with_reducible apply st_store H); rfl; exact eF; (focus (exact cells_agg _)); exact uF; kernel_rfl; (focus (exact Nat.le_of_ble_eq_true (by rfl))); (focus (first | rfl | simp))) | ((with_reducible apply st_storeown H); rfl; exact eF; (focus (exact (rfl : _ = [_]))); exact uF; (focus omega); kernel_rfl; rfl)); clear H; intro wn H; (try simp only [splice, yG, yH, yI, yJ, yK, yL, yM, yN, yO, yP, yQ, Nat.reduceAdd, yA, yB, yC] at H); simp only [Act.put, yA, yB, yC, yD, yE, yF]) | ((first | ((with_reducible apply st_box (dst := some 1) H); exact nF; intro b1) | ((with_reducible apply st_alloc (dst := some 2) H); exact nF; intro b2) | ((with_reducible apply st_loadat H); decide +kernel; rfl; exact aF; exact zF; rfl) | ((with_reducible apply st_storerow H); rfl; exact eF; (first | exact cells_agg _ | exact cellI | exact cellS | exact cellB | exact (rfl : _ = [_])); exact uF; kernel_rfl; exact Nat.succ_pos _; exact fitF; rfl)); clear H; intro wn H; simp only [Act.put, yA, yB, yC, yD, yE, yF]) | ((first | (go_at_call 55; refine gvF (c1 _ H.below) H ?_)); clear H; intro wn H) | fail)
    refine bp_cell H rfl rfl iF (by kernel_rfl) (by kernel_rfl) rfl (by first | exact .inl rfl | exact .inr rfl) ?_
    have H2 : Hs noRow w (Hl.all [Hl.row 167 3 (.slice none 0 0) 0 []] :: _) _ := Hs.pack (M := [_]) (H.putRow 167 3 none)
    exact Hs.retd H2 (List.Sublist.cons_cons _ (List.nil_sublist _)) ⟨_, _, rfl, own_none _, rfl⟩
  obtain ⟨_, _, _, hm4⟩ := hfit rfl
  clear hfit
  go_enter Tryz.func29, Tryz.ntmps29
  go_wp2_with (first | ((with_reducible apply st_appendrb H); (first | ((focus (with_reducible exact dH)); rfl) | ((focus (with_reducible exact dT (dH))); rfl) | ((focus (with_reducible exact dT (dT (dH)))); rfl)); rfl; exact iF; kernel_rfl; rfl; rfl; (focus (first | omega | (simp; done) | (simp; omega))); clear H; intro vq wn H; obtain ⟨Aq, cq, hvq, _, _⟩ := (H.rows .here).slice; subst hvq; simp only [Act.put, yA, yB, yC, yD, yE, yF]) | ((first | ((with_reducible apply st_load1 H); decide +kernel; rfl; exact cF) | ((with_reducible apply st_loads H); decide +kernel; rfl; exact iF; exact zF; rfl) | ((with_reducible apply st_store H); rfl; exact eF; (focus (exact cells_agg _)); exact uF; kernel_rfl; (focus (exact Nat.le_of_ble_eq_true (by rfl))); (focus (first | rfl | simp))) | ((with_reducible apply st_storeown H); rfl; exact eF; (focus (exact (rfl : _ = [_]))); exact uF; (focus omega); kernel_rfl; rfl)); clear H; intro wn H; (try simp only [splice, yG, yH, yI, yJ, yK, yL, yM, yN, yO, yP, yQ, Nat.reduceAdd, yA, yB, yC] at H); simp only [Act.put, yA, yB, yC, yD, yE, yF]) | ((first | ((with_reducible apply st_box (dst := some 1) H); exact nF; intro b1) | ((with_reducible apply st_alloc (dst := some 2) H); exact nF; intro b2) | ((with_reducible apply st_loadat H); decide +kernel; rfl; exact aF; exact zF; rfl) | ((with_reducible apply st_storerow H); rfl; exact eF; (first | exact cells_agg _ | exact cellI | exact cellS | exact cellB | exact (rfl : _ = [_])); exact uF; kernel_rfl; exact Nat.succ_pos _; exact fitF; rfl)); clear H; intro wn H; simp only [Act.put, yA, yB, yC, yD, yE, yF]) | ((first | (go_at_call 55; refine gvF (c1 _ H.below) H ?_)); clear H; intro wn H) | ((with_reducible apply st_makerow (E := 167) (s := 3) H); rfl; rfl; decide +kernel; (focus omega); clear H; intro g zs wn hz0 hz1 H; simp only [Act.put, yA, yB, yC, yD, yE, yF]) | fail)
  refine bp_cell H rfl rfl iF (by kernel_rfl) (by kernel_rfl) rfl (by first | exact .inl rfl | exact .inr rfl) ?_
  rw [zero_boxes hz1] at H
  (try rw [if_pos rfl])
  exact ret_boxes (H.sel (M := [Hl.row 167 3 (.slice (some ⟨g, 0, none⟩) m m) m (List.replicate m cellBo).flatten]) sF)
set_option maxRecDepth 100000 in
set_option maxHeartbeats 4000000 in
theorem mailNew_s (c : Cfg) (cs : List Value) (w : World) (hrc : tyCfg.rd w cs c) : Rets Tryz.prog [] 24 #[.agg cs.toArray] w (tOne (Ty.sl 167 tyBo) (newMl c)) := by
  have c1 := fun w1 hb => configRight_s c cs w1 (Ty.below _ hrc hb)
  have hfit := @cfg_fits c
  obtain ⟨v1, v2, v3, rfl, h1, h2, h3⟩ := cfg_form hrc
  obtain ⟨nd, pr, qt, hf⟩ := c
  simp only at h1 h2 h3 hfit
  replace c1 : ∀ w1, Below w.heap.size w w1 → Gives Tryz.prog 48 #[.agg #[v1, v2, v3, .int .i64 hf]] w1 (.bool (cfgOk (nd, pr, qt, hf))) := c1
  show Rets Tryz.prog [] _ #[.agg #[v1, v2, v3, .int .i64 hf]] w (tOne (Ty.sl 167 tyBo) (if cfgOk (nd, pr, qt, hf) = true then List.replicate pr.length newBo else []))
  generalize cfgOk (nd, pr, qt, hf) = z at *
  obtain ⟨D2, d2, rfl, _, _⟩ := sl_form h2
  generalize pr.length = m at *
  clear hrc h1 h2 h3
  have H := Hs.start noRow w
  refine Rets.of ?_
  cases z
  case false =>
    clear hfit
    go_enter Tryz.func24, Tryz.ntmps24
    go_wp2_with (first | ((with_reducible apply st_appendrb H); (first | ((focus (with_reducible exact dH)); rfl) | ((focus (with_reducible exact dT (dH))); rfl) | ((focus (with_reducible exact dT (dT (dH)))); rfl)); rfl; exact iF; kernel_rfl; rfl; rfl; (focus (first | omega | (simp; done) | (simp; omega))); clear H; intro vq wn H; obtain ⟨Aq, cq, hvq, _, _⟩ := (H.rows .here).slice; subst hvq; simp only [Act.put, yA, yB, yC, yD, yE, yF]) | ((first | ((with_reducible apply st_load1 H); decide +kernel; rfl; exact cF) | ((with_reducible apply st_loads H); decide +kernel; rfl; exact iF; exact zF; rfl) | ((with_reducible apply st_store H); rfl; exact eF; (focus (exact cells_agg _)); exact uF; kernel_rfl; (focus (exact Nat.le_of_ble_eq_true (by rfl))); (focus (first | rfl | simp))) | ((with_reducible apply st_storeown H); rfl; exact eF; (focus (exact (rfl : _ = [_]))); exact uF; (focus omega); kernel_rfl; rfl)); clear H; intro wn H; (try simp only [splice, yG, yH, yI, yJ, yK, yL, yM, yN, yO, yP, yQ, Nat.reduceAdd, yA, yB, yC] at H); simp only [Act.put, yA, yB, yC, yD, yE, yF]) | ((first | ((with_reducible apply st_box (dst := some 1) H); exact nF; intro b1) | ((with_reducible apply st_alloc (dst := some 2) H); exact nF; intro b2) | ((with_reducible apply st_loadat H); decide +kernel; rfl; exact aF; exact zF; rfl) | ((with_reducible apply st_storerow H); rfl; exact eF; (first | exact cells_agg _ | exact cellI | exact cellS | exact cellB | exact (rfl : _ = [_])); exact uF; kernel_rfl; exact Nat.succ_pos _; exact fitF; rfl)); clear H; intro wn H; simp only [Act.put, yA, yB, yC, yD, yE, yF]) | ((first | (go_at_call 48; refine gvF (c1 _ H.below) H ?_)); clear H; intro wn H) | ((with_reducible apply st_makerow (E := 167) (s := 3) H); rfl; rfl; decide +kernel; (focus omega); clear H; intro g zs wn hz0 hz1 H; simp only [Act.put, yA, yB, yC, yD, yE, yF]) | fail)
    refine bp_cell H rfl rfl iF (by kernel_rfl) (by kernel_rfl) rfl (by first | exact .inl rfl | exact .inr rfl) ?_
    have H2 : Hs noRow w (Hl.all [Hl.row 167 3 (.slice none 0 0) 0 []] :: _) _ := Hs.pack (M := [_]) (H.putRow 167 3 none)
    exact Hs.retd H2 (List.Sublist.cons_cons _ (List.nil_sublist _)) ⟨_, _, rfl, own_none _, rfl⟩
  obtain ⟨_, _, _, hm4⟩ := hfit rfl
  clear hfit
  go_enter Tryz.func24, Tryz.ntmps24
  go_wp2_with (first | ((with_reducible apply st_appendrb H); (first | ((focus (with_reducible exact dH)); rfl) | ((focus (with_reducible exact dT (dH))); rfl) | ((focus (with_reducible exact dT (dT (dH)))); rfl)); rfl; exact iF; kernel_rfl; rfl; rfl; (focus (first | omega | (simp; done) | (simp; omega))); clear H; intro vq wn H; obtain ⟨Aq, cq, hvq, _, _⟩ := (H.rows .here).slice; subst hvq; simp only [Act.put, yA, yB, yC, yD, yE, yF]) | ((first | ((with_reducible apply st_load1 H); decide +kernel; rfl; exact cF) | ((with_reducible apply st_loads H); decide +kernel; rfl; exact iF; exact zF; rfl) | ((with_reducible apply st_store H); rfl; exact eF; (focus (exact cells_agg _)); exact uF; kernel_rfl; (focus (exact Nat.le_of_ble_eq_true (by rfl))); (focus (first | rfl | simp))) | ((with_reducible apply st_storeown H); rfl; exact eF; (focus (exact (rfl : _ = [_]))); exact uF; (focus omega); kernel_rfl; rfl)); clear H; intro wn H; (try simp only [splice, yG, yH, yI, yJ, yK, yL, yM, yN, yO, yP, yQ, Nat.reduceAdd, yA, yB, yC] at H); simp only [Act.put, yA, yB, yC, yD, yE, yF]) | ((first | ((with_reducible apply st_box (dst := some 1) H); exact nF; intro b1) | ((with_reducible apply st_alloc (dst := some 2) H); exact nF; intro b2) | ((with_reducible apply st_loadat H); decide +kernel; rfl; exact aF; exact zF; rfl) | ((with_reducible apply st_storerow H); rfl; exact eF; (first | exact cells_agg _ | exact cellI | exact cellS | exact cellB | exact (rfl : _ = [_])); exact uF; kernel_rfl; exact Nat.succ_pos _; exact fitF; rfl)); clear H; intro wn H; simp only [Act.put, yA, yB, yC, yD, yE, yF]) | ((first | (go_at_call 48; refine gvF (c1 _ H.below) H ?_)); clear H; intro wn H) | ((with_reducible apply st_makerow (E := 167) (s := 3) H); rfl; rfl; decide +kernel; (focus omega); clear H; intro g zs wn hz0 hz1 H; simp only [Act.put, yA, yB, yC, yD, yE, yF]) | ((with_reducible apply st_makerow (E := 167) (s := 3) H); rfl; rfl; decide +kernel; (focus omega); clear H; intro g zs wn hz0 hz1 H; simp only [Act.put, yA, yB, yC, yD, yE, yF]) | fail)
  refine bp_cell H rfl rfl iF (by kernel_rfl) (by kernel_rfl) rfl (by first | exact .inl rfl | exact .inr rfl) ?_
  rw [zero_boxes hz1] at H
  (try rw [if_pos rfl])
  exact ret_boxes (H.sel (M := [Hl.row 167 3 (.slice (some ⟨g, 0, none⟩) m m) m (List.replicate m cellBo).flatten]) sF)
end Go.Proofs.YtjklmldchbakjaaGreat
