/-
  A word laid into a box, in the program and in the reference: the walks.
-/
import Derived.Test.YtengmmffommafaaGreatTj
set_option linter.unusedSimpArgs false
set_option linter.unusedVariables false
namespace Go.Proofs.YtengmmffommafaaGreat
open Go.RowKit M
namespace M
def layBo (b : Bo) (x : Int) : Bo := (b.1 ++ [x], b.2.1, b.2.2)
def layAt (pr : List Pr) (m : List Bo) (k : Nat) (x : Int) : MO := match m[k]? with
  | some b => match pr[k]? with
    | some r => if r.2.2 ≤ b.1.length then ([], 8) else (m.set k (layBo b x), 0)
    | none => ([], 6)
  | none => ([], 6)
def mailLay (c : Cfg) (m : List Bo) (p x : Int) : MO := if mailOk c m then (if 0 ≤ p ∧ p < m.length then layAt c.2.1 m p.toNat x else ([], 6)) else ([], 1)
theorem mail_rate {c : Cfg} {m : List Bo} (h : mailOk c m = true) {k : Nat} {b : Bo} {r : Pr} (hb : m[k]? = some b) (hr : c.2.1[k]? = some r) : (b.1.length : Int) ≤ r.2.2 ∧ r.2.2 ≤ 3 := by
  have hlt := (List.getElem?_eq_some_iff.1 hb).1
  have hf := mail_facts h
  unfold mailOk at h
  simp only [Bool.and_eq_true, decide_eq_true_eq] at h
  obtain ⟨h1, h2, h3⟩ := h
  unfold allFrom at h3
  rw [List.all_eq_true] at h3
  have h4 := h3 k (by rw [List.mem_range'_1]; omega)
  unfold boxIn at h4
  rw [hb] at h4
  simp only [hr] at h4
  unfold boxOk at h4
  simp only [Bool.and_eq_true, decide_eq_true_eq] at h4
  unfold cfgOk pairsOk allFrom at h1
  simp only [Bool.and_eq_true, List.all_eq_true] at h1
  have h5 := h1.2.2.2.1.1 k (by rw [List.mem_range'_1]; omega)
  unfold pairIn at h5
  rw [hr] at h5
  unfold isIn at h5
  simp only [Bool.and_eq_true, decide_eq_true_eq] at h5
  exact ⟨h4.1, h5.2.2.2.2.2⟩
end M
theorem own_num {v : Value} {n : Nat} {xs : List Value} {l : List Int} (hx : xs = flat encNum l) (hn : n = l.length) (h1 : v.oneCell' = true) : (Ty.sl 2 tyNum).own [v] l [Hl.row 2 1 v n xs] := by
  subst hx hn
  exact ⟨v, flat encNum l, [], rfl, ownL_flat l, rfl, h1⟩
set_option maxRecDepth 100000 in
set_option maxHeartbeats 4000000 in
theorem mailLay_i (c : Cfg) (cs : List Value) (v : Value) (l : List Bo) (p x : Int) (w : World) (hrc : tyCfg.rd w cs c) (hr : (Ty.sl 101 tyBo).rd w [v] l) :
    Rets Tryz.prog [] 30 #[.agg cs.toArray, .agg #[v], .int .i64 p, .int .i64 x] w (tAgg tyMO (mailLay c l p x)) := by
  have c1 := fun w1 hb => mailRight_i c cs v l w1 (Ty.below _ hrc hb) (Ty.below _ hr hb)
  have hmf := @mail_facts c l
  have hmt := @mail_fits c l
  have hmr := fun h k b r => @mail_rate c l h k b r
  obtain ⟨v1, v2, v3, rfl, h1, h2, h3⟩ := cfg_form hrc
  obtain ⟨nd, pr, qt, hf⟩ := c
  simp only at h1 h2 h3 hmf hmr
  replace c1 : ∀ w1, Below w.heap.size w w1 → Gives Tryz.prog 55 #[.agg #[v1, v2, v3, .int .i64 hf], .agg #[v]] w1 (.bool (mailOk (nd, pr, qt, hf) l)) := c1
  show Rets Tryz.prog [] _ #[.agg #[v1, v2, v3, .int .i64 hf], .agg #[v], .int .i64 p, .int .i64 x] w _
  obtain ⟨mo, hmo⟩ : ∃ mo, mo = mailLay (nd, pr, qt, hf) l p x := ⟨_, rfl⟩
  rw [← hmo]
  have hmo2 : mo = if mailOk (nd, pr, qt, hf) l then (if 0 ≤ p ∧ p < l.length then layAt pr l p.toNat x else ([], 6)) else ([], 1) := hmo
  clear hmo hrc h1 h3
  generalize mailOk (nd, pr, qt, hf) l = z at *
  obtain ⟨B, cb, rfl, hlb, hbm⟩ := sl_form h2
  obtain ⟨A0, ca0, rfl, hla, ham⟩ := sl_form hr
  obtain ⟨n, hn⟩ : ∃ n, n = l.length := ⟨_, rfl⟩
  obtain ⟨m, hm⟩ : ∃ m, m = pr.length := ⟨_, rfl⟩
  rw [← hn] at hr c1 hmf hmo2 ⊢
  rw [← hm] at h2 c1 hmf ⊢
  have HR := Lib.hid hr
  have HP := Lib.hid h2
  have HN := Lib.hid hn
  have HM := Lib.hid hm
  clear hr h2 hlb hbm hla ham hn hm
  have H := Hs.start noRow w
  refine Rets.of ?_
  cases z
  case false =>
    have HMO : Hid (mo = ([], 1)) := Lib.hid hmo2
    clear hmo2 hmf hmt hmr
    go_enter Tryz.func30, Tryz.ntmps30
    go_wp2_with (first | ((first | ((with_reducible apply st_load1 H); decide +kernel; rfl; exact cF) | ((with_reducible apply st_loads H); decide +kernel; rfl; exact iF; exact zF; rfl) | ((with_reducible apply st_store H); rfl; exact eF; (focus (exact cells_agg _)); exact uF; kernel_rfl; (focus (exact Nat.le_of_ble_eq_true (by rfl))); (focus (first | rfl | simp))) | ((with_reducible apply st_storeown H); rfl; exact eF; (focus (exact (rfl : _ = [_]))); exact uF; (focus omega); kernel_rfl; rfl)); clear H; intro wn H; (try simp only [splice, yG, yH, yI, yJ, yK, yL, yM, yN, yO, yP, yQ, Nat.reduceAdd, yA, yB, yC] at H); simp only [Act.put, yA, yB, yC, yD, yE, yF]) | ((first | ((with_reducible apply st_box (dst := some 4) H); exact nF; intro b4) | ((with_reducible apply st_box (dst := some 5) H); exact nF; intro b5) | ((with_reducible apply st_alloc (dst := some 8) H); exact nF; intro b8) | ((with_reducible apply st_alloc (dst := some 9) H); exact nF; intro b9) | ((with_reducible apply st_strsum H); rfl; rfl; exact szF; kernel_rfl) | ((with_reducible apply st_bslice H); exact nsF; intro nb)); clear H; intro wn H; simp only [Act.put, yA, yB, yC, yD, yE, yF]) | ((with_reducible apply st_appendb H); (first | ((focus (with_reducible exact dH)); rfl) | ((focus (with_reducible exact dT (dH))); rfl) | ((focus (with_reducible exact dT (dT (dH)))); rfl) | ((focus (with_reducible exact dT (dT (dT (dH))))); rfl) | ((focus (with_reducible exact dT (dT (dT (dT (dH)))))); rfl) | ((focus (with_reducible exact dT (dT (dT (dT (dT (dH))))))); rfl) | ((focus (with_reducible exact dT (dT (dT (dT (dT (dT (dH)))))))); rfl)); rfl; exact iF; kernel_rfl; rfl; rfl; (focus (first | omega | (simp; done) | (simp; omega))); clear H; intro vq wn H; (try simp only [yM, yN, yO] at H); simp only [Act.put, yA, yB, yC, yD, yE, yF]) | ((with_reducible apply st_appendrb H); (first | ((focus (with_reducible exact dH)); rfl) | ((focus (with_reducible exact dT (dH))); rfl) | ((focus (with_reducible exact dT (dT (dH)))); rfl) | ((focus (with_reducible exact dT (dT (dT (dH))))); rfl) | ((focus (with_reducible exact dT (dT (dT (dT (dH)))))); rfl) | ((focus (with_reducible exact dT (dT (dT (dT (dT (dH))))))); rfl) | ((focus (with_reducible exact dT (dT (dT (dT (dT (dT (dH)))))))); rfl)); rfl; exact iF; kernel_rfl; rfl; rfl; (focus (first | omega | (simp; done) | (simp; omega))); clear H; intro vq wn H; (try simp only [yM, yN, yO] at H); simp only [Act.put, yA, yB, yC, yD, yE, yF]) | ((with_reducible apply st_loadat H); decide +kernel; rfl; exact aF; exact zF; rfl; clear H; intro wn H; simp only [Act.put, yA, yB, yC, yD, yE, yF]) | ((with_reducible apply st_storerow H); rfl; exact eF; (first | exact cells_agg _ | exact cellI | exact cellS | exact cellB | exact (rfl : _ = [_])); exact uF; kernel_rfl; exact Nat.succ_pos _; exact fitF; rfl; clear H; intro wn H; simp only [Act.put, yA, yB, yC, yD, yE, yF]) | ((first | (go_at_call 55; refine gvF (c1 _ H.below) H ?_) | (go_at_call 68; refine gvF (c3 _) H ?_)); clear H; intro wn H) | ((with_reducible apply wp_region_hq (id := 5) H); kernel_rfl; kernel_rfl; (iterate 15 (all_goals ((with_reducible refine' hq_step ?_ ?_ ?_); rotate_left; rfl; (focus (intro w1 H1; first | (first | exact qF | exact qAF | exact qRF) | (exact qVF))); (try simp only [yG, yH, yJ, yK]); simp only [Act.put, yA, yB, yC, yD, yE, yF]))); all_goals (refine wpQuiet_nil ?_; clear H; intro wn H)) | fail)
    refine bp_cell H rfl rfl iF (by kernel_rfl) (by kernel_rfl) rfl (by first | exact .inl rfl | exact .inr rfl) ?_
    rw [HMO.out]
    exact ret_ill H 1
  rw [if_pos rfl] at hmo2
  have hnm := (hmf rfl).2.1
  have hm4 := (hmf rfl).2.2.1
  subst hnm
  have hfit := hmt rfl
  have hrate := hmr rfl
  clear hmf hmt hmr
  have c3 := fun w1 => within_i p 0 ((n : Int) - 1) w1
  by_cases hin : 0 ≤ p ∧ p < n
  case neg =>
    have HMO : Hid (mo = ([], 6)) := Lib.hid (by rw [hmo2, if_neg hin])
    have hzb : (decide (0 ≤ p) && decide (p ≤ (n : Int) - 1)) = false := by simp; omega
    rw [hzb] at c3
    clear hmo2 hfit hrate
    go_enter Tryz.func30, Tryz.ntmps30
    go_wp2_with (first | ((first | ((with_reducible apply st_load1 H); decide +kernel; rfl; exact cF) | ((with_reducible apply st_loads H); decide +kernel; rfl; exact iF; exact zF; rfl) | ((with_reducible apply st_store H); rfl; exact eF; (focus (exact cells_agg _)); exact uF; kernel_rfl; (focus (exact Nat.le_of_ble_eq_true (by rfl))); (focus (first | rfl | simp))) | ((with_reducible apply st_storeown H); rfl; exact eF; (focus (exact (rfl : _ = [_]))); exact uF; (focus omega); kernel_rfl; rfl)); clear H; intro wn H; (try simp only [splice, yG, yH, yI, yJ, yK, yL, yM, yN, yO, yP, yQ, Nat.reduceAdd, yA, yB, yC] at H); simp only [Act.put, yA, yB, yC, yD, yE, yF]) | ((first | ((with_reducible apply st_box (dst := some 4) H); exact nF; intro b4) | ((with_reducible apply st_box (dst := some 5) H); exact nF; intro b5) | ((with_reducible apply st_alloc (dst := some 8) H); exact nF; intro b8) | ((with_reducible apply st_alloc (dst := some 9) H); exact nF; intro b9) | ((with_reducible apply st_strsum H); rfl; rfl; exact szF; kernel_rfl) | ((with_reducible apply st_bslice H); exact nsF; intro nb)); clear H; intro wn H; simp only [Act.put, yA, yB, yC, yD, yE, yF]) | ((with_reducible apply st_appendb H); (first | ((focus (with_reducible exact dH)); rfl) | ((focus (with_reducible exact dT (dH))); rfl) | ((focus (with_reducible exact dT (dT (dH)))); rfl) | ((focus (with_reducible exact dT (dT (dT (dH))))); rfl) | ((focus (with_reducible exact dT (dT (dT (dT (dH)))))); rfl) | ((focus (with_reducible exact dT (dT (dT (dT (dT (dH))))))); rfl) | ((focus (with_reducible exact dT (dT (dT (dT (dT (dT (dH)))))))); rfl)); rfl; exact iF; kernel_rfl; rfl; rfl; (focus (first | omega | (simp; done) | (simp; omega))); clear H; intro vq wn H; (try simp only [yM, yN, yO] at H); simp only [Act.put, yA, yB, yC, yD, yE, yF]) | ((with_reducible apply st_appendrb H); (first | ((focus (with_reducible exact dH)); rfl) | ((focus (with_reducible exact dT (dH))); rfl) | ((focus (with_reducible exact dT (dT (dH)))); rfl) | ((focus (with_reducible exact dT (dT (dT (dH))))); rfl) | ((focus (with_reducible exact dT (dT (dT (dT (dH)))))); rfl) | ((focus (with_reducible exact dT (dT (dT (dT (dT (dH))))))); rfl) | ((focus (with_reducible exact dT (dT (dT (dT (dT (dT (dH)))))))); rfl)); rfl; exact iF; kernel_rfl; rfl; rfl; (focus (first | omega | (simp; done) | (simp; omega))); clear H; intro vq wn H; (try simp only [yM, yN, yO] at H); simp only [Act.put, yA, yB, yC, yD, yE, yF]) | ((with_reducible apply st_loadat H); decide +kernel; rfl; exact aF; exact zF; rfl; clear H; intro wn H; simp only [Act.put, yA, yB, yC, yD, yE, yF]) | ((with_reducible apply st_storerow H); rfl; exact eF; (first | exact cells_agg _ | exact cellI | exact cellS | exact cellB | exact (rfl : _ = [_])); exact uF; kernel_rfl; exact Nat.succ_pos _; exact fitF; rfl; clear H; intro wn H; simp only [Act.put, yA, yB, yC, yD, yE, yF]) | ((first | (go_at_call 55; refine gvF (c1 _ H.below) H ?_) | (go_at_call 68; refine gvF (c3 _) H ?_)); clear H; intro wn H) | ((with_reducible apply wp_region_hq (id := 5) H); kernel_rfl; kernel_rfl; (iterate 15 (all_goals ((with_reducible refine' hq_step ?_ ?_ ?_); rotate_left; rfl; (focus (intro w1 H1; first | (first | exact qF | exact qAF | exact qRF) | (exact qVF))); (try simp only [yG, yH, yJ, yK]); simp only [Act.put, yA, yB, yC, yD, yE, yF]))); all_goals (refine wpQuiet_nil ?_; clear H; intro wn H)) | fail)
    refine bp_cell H rfl rfl iF (by kernel_rfl) (by kernel_rfl) rfl (by first | exact .inl rfl | exact .inr rfl) ?_
    rw [HMO.out]
    exact ret_ill H 6
  have hzb : (decide (0 ≤ p) && decide (p ≤ (n : Int) - 1)) = true := by simp; omega
  rw [hzb] at c3
  rw [if_pos hin] at hmo2
  clear hzb
  obtain ⟨k, rfl⟩ : ∃ k : Nat, p = k := ⟨p.toNat, by omega⟩
  rw [Int.toNat_natCast] at hmo2
  have hk : k < n := by omega
  have hk1 : (k : Int) < n := by omega
  obtain ⟨b, hb⟩ : ∃ b, l[k]? = some b := ⟨l[k]'(by rw [← HN.out]; exact hk), List.getElem?_eq_getElem (by rw [← HN.out]; exact hk)⟩
  obtain ⟨r, hr⟩ : ∃ r, pr[k]? = some r := ⟨pr[k]'(by rw [← HM.out]; exact hk), List.getElem?_eq_getElem (by rw [← HM.out]; exact hk)⟩
  have hrt := hrate k b r hb hr
  unfold layAt at hmo2
  rw [hb] at hmo2
  simp only [hr] at hmo2
  have hs := sl_at (by have := HR.out; rw [HN.out] at this; exact this) hb
  rw [← HN.out] at hs
  obtain ⟨g6, off6, c6, cs6, hv, hcs, hA⟩ := hs
  injection hv with hv1 hv2 hv3
  subst hv1 hv3
  obtain ⟨u1, u2, u3, hu, g1, g2, g3⟩ := bo_form hcs
  subst hu
  have hs2 := sl_at (by have := HP.out; rw [HM.out] at this; exact this) hr
  rw [← HM.out] at hs2
  obtain ⟨d, dff, c2, cs2, hw, hcs2, hB⟩ := hs2
  injection hw with hw1 hw2 hw3
  subst hw1 hw3
  obtain rfl : cs2 = encPr r := hcs2
  obtain ⟨⟨p1, p2⟩, ⟨p3, p4⟩, rt⟩ := r
  simp only at hrt hmo2
  have h4 : w.cell? ⟨d, dff + k * 5 + 4, none⟩ = some (.int .i64 rt) := hB 4 _ rfl
  obtain ⟨D1, d1, rfl, _, _⟩ := sl_form g1
  have h5 : w.cell? ⟨g6, off6 + k * 3, none⟩ = some (.slice D1 b.1.length d1) := hA.head (u := .slice D1 b.1.length d1) rfl
  obtain ⟨n1, hn1⟩ : ∃ n1, n1 = b.1.length := ⟨_, rfl⟩
  rw [← hn1] at hmo2 hrt h5
  have HN1 := Lib.hid hn1
  clear hr hv2 hw2 hcs hB hA g1 g2 g3 hn1 hrate hin
  by_cases hfull : rt ≤ n1
  case pos =>
    have hfull2 : ((n1 : Int) == rt) = true := by simp; omega
    have HMO : Hid (mo = ([], 8)) := Lib.hid (by rw [hmo2, if_pos hfull])
    clear hmo2 hfit
    go_enter Tryz.func30, Tryz.ntmps30
    go_wp2_with (first | ((first | ((with_reducible apply st_load1 H); decide +kernel; rfl; exact cF) | ((with_reducible apply st_loads H); decide +kernel; rfl; exact iF; exact zF; rfl) | ((with_reducible apply st_store H); rfl; exact eF; (focus (exact cells_agg _)); exact uF; kernel_rfl; (focus (exact Nat.le_of_ble_eq_true (by rfl))); (focus (first | rfl | simp))) | ((with_reducible apply st_storeown H); rfl; exact eF; (focus (exact (rfl : _ = [_]))); exact uF; (focus omega); kernel_rfl; rfl)); clear H; intro wn H; (try simp only [splice, yG, yH, yI, yJ, yK, yL, yM, yN, yO, yP, yQ, Nat.reduceAdd, yA, yB, yC] at H); simp only [Act.put, yA, yB, yC, yD, yE, yF]) | ((first | ((with_reducible apply st_box (dst := some 4) H); exact nF; intro b4) | ((with_reducible apply st_box (dst := some 5) H); exact nF; intro b5) | ((with_reducible apply st_alloc (dst := some 8) H); exact nF; intro b8) | ((with_reducible apply st_alloc (dst := some 9) H); exact nF; intro b9) | ((with_reducible apply st_strsum H); rfl; rfl; exact szF; kernel_rfl) | ((with_reducible apply st_bslice H); exact nsF; intro nb)); clear H; intro wn H; simp only [Act.put, yA, yB, yC, yD, yE, yF]) | ((with_reducible apply st_appendb H); (first | ((focus (with_reducible exact dH)); rfl) | ((focus (with_reducible exact dT (dH))); rfl) | ((focus (with_reducible exact dT (dT (dH)))); rfl) | ((focus (with_reducible exact dT (dT (dT (dH))))); rfl) | ((focus (with_reducible exact dT (dT (dT (dT (dH)))))); rfl) | ((focus (with_reducible exact dT (dT (dT (dT (dT (dH))))))); rfl) | ((focus (with_reducible exact dT (dT (dT (dT (dT (dT (dH)))))))); rfl)); rfl; exact iF; kernel_rfl; rfl; rfl; (focus (first | omega | (simp; done) | (simp; omega))); clear H; intro vq wn H; (try simp only [yM, yN, yO] at H); simp only [Act.put, yA, yB, yC, yD, yE, yF]) | ((with_reducible apply st_appendrb H); (first | ((focus (with_reducible exact dH)); rfl) | ((focus (with_reducible exact dT (dH))); rfl) | ((focus (with_reducible exact dT (dT (dH)))); rfl) | ((focus (with_reducible exact dT (dT (dT (dH))))); rfl) | ((focus (with_reducible exact dT (dT (dT (dT (dH)))))); rfl) | ((focus (with_reducible exact dT (dT (dT (dT (dT (dH))))))); rfl) | ((focus (with_reducible exact dT (dT (dT (dT (dT (dT (dH)))))))); rfl)); rfl; exact iF; kernel_rfl; rfl; rfl; (focus (first | omega | (simp; done) | (simp; omega))); clear H; intro vq wn H; (try simp only [yM, yN, yO] at H); simp only [Act.put, yA, yB, yC, yD, yE, yF]) | ((with_reducible apply st_loadat H); decide +kernel; rfl; exact aF; exact zF; rfl; clear H; intro wn H; simp only [Act.put, yA, yB, yC, yD, yE, yF]) | ((with_reducible apply st_storerow H); rfl; exact eF; (first | exact cells_agg _ | exact cellI | exact cellS | exact cellB | exact (rfl : _ = [_])); exact uF; kernel_rfl; exact Nat.succ_pos _; exact fitF; rfl; clear H; intro wn H; simp only [Act.put, yA, yB, yC, yD, yE, yF]) | ((first | (go_at_call 55; refine gvF (c1 _ H.below) H ?_) | (go_at_call 68; refine gvF (c3 _) H ?_)); clear H; intro wn H) | ((with_reducible apply wp_region_hq (id := 5) H); kernel_rfl; kernel_rfl; (iterate 15 (all_goals ((with_reducible refine' hq_step ?_ ?_ ?_); rotate_left; rfl; (focus (intro w1 H1; first | (first | exact qF | exact qAF | exact qRF) | (exact qVF))); (try simp only [yG, yH, yJ, yK]); simp only [Act.put, yA, yB, yC, yD, yE, yF]))); all_goals (refine wpQuiet_nil ?_; clear H; intro wn H)) | fail)
    refine bp_cell H rfl rfl iF (by kernel_rfl) (by kernel_rfl) rfl (by first | exact .inl rfl | exact .inr rfl) ?_
    rw [HMO.out]
    exact ret_ill H 8
  have hless : ¬ (n1 : Int) = rt := by omega
  have hless2 : ((n1 : Int) == rt) = false := by simp; omega
  have HMO : Hid (mo = (l.set k (layBo b x), 0)) := Lib.hid (by rw [hmo2, if_neg hfull])
  have cc := fun w1 hb => copyMail_i _ l (by rw [← HN.out]; omega) hfit w1 (Ty.below _ (by have := HR.out; rw [HN.out] at this; exact this) hb)
  rw [← HN.out] at cc
  have hn13 : n1 ≤ 3 := by omega
  clear hmo2 hfit
  go_enter Tryz.func30, Tryz.ntmps30
  go_wp2_with (first | ((first | ((with_reducible apply st_load1 H); decide +kernel; rfl; exact cF) | ((with_reducible apply st_loads H); decide +kernel; rfl; exact iF; exact zF; rfl) | ((with_reducible apply st_store H); rfl; exact eF; (focus (exact cells_agg _)); exact uF; kernel_rfl; (focus (exact Nat.le_of_ble_eq_true (by rfl))); (focus (first | rfl | simp))) | ((with_reducible apply st_storeown H); rfl; exact eF; (focus (exact (rfl : _ = [_]))); exact uF; (focus omega); kernel_rfl; rfl)); clear H; intro wn H; (try simp only [splice, yG, yH, yI, yJ, yK, yL, yM, yN, yO, yP, yQ, Nat.reduceAdd, yA, yB, yC] at H); simp only [Act.put, yA, yB, yC, yD, yE, yF]) | ((first | ((with_reducible apply st_box (dst := some 4) H); exact nF; intro b4) | ((with_reducible apply st_box (dst := some 5) H); exact nF; intro b5) | ((with_reducible apply st_alloc (dst := some 8) H); exact nF; intro b8) | ((with_reducible apply st_alloc (dst := some 9) H); exact nF; intro b9) | ((with_reducible apply st_strsum H); rfl; rfl; exact szF; kernel_rfl) | ((with_reducible apply st_bslice H); exact nsF; intro nb)); clear H; intro wn H; simp only [Act.put, yA, yB, yC, yD, yE, yF]) | ((with_reducible apply st_appendb H); (first | ((focus (with_reducible exact dH)); rfl) | ((focus (with_reducible exact dT (dH))); rfl) | ((focus (with_reducible exact dT (dT (dH)))); rfl) | ((focus (with_reducible exact dT (dT (dT (dH))))); rfl) | ((focus (with_reducible exact dT (dT (dT (dT (dH)))))); rfl) | ((focus (with_reducible exact dT (dT (dT (dT (dT (dH))))))); rfl) | ((focus (with_reducible exact dT (dT (dT (dT (dT (dT (dH)))))))); rfl)); rfl; exact iF; kernel_rfl; rfl; rfl; (focus (first | omega | (simp; done) | (simp; omega))); clear H; intro vq wn H; (try simp only [yM, yN, yO] at H); simp only [Act.put, yA, yB, yC, yD, yE, yF]) | ((with_reducible apply st_appendrb H); (first | ((focus (with_reducible exact dH)); rfl) | ((focus (with_reducible exact dT (dH))); rfl) | ((focus (with_reducible exact dT (dT (dH)))); rfl) | ((focus (with_reducible exact dT (dT (dT (dH))))); rfl) | ((focus (with_reducible exact dT (dT (dT (dT (dH)))))); rfl) | ((focus (with_reducible exact dT (dT (dT (dT (dT (dH))))))); rfl) | ((focus (with_reducible exact dT (dT (dT (dT (dT (dT (dH)))))))); rfl)); rfl; exact iF; kernel_rfl; rfl; rfl; (focus (first | omega | (simp; done) | (simp; omega))); clear H; intro vq wn H; (try simp only [yM, yN, yO] at H); simp only [Act.put, yA, yB, yC, yD, yE, yF]) | ((with_reducible apply st_loadat H); decide +kernel; rfl; exact aF; exact zF; rfl; clear H; intro wn H; simp only [Act.put, yA, yB, yC, yD, yE, yF]) | ((with_reducible apply st_storerow H); rfl; exact eF; (first | exact cells_agg _ | exact cellI | exact cellS | exact cellB | exact (rfl : _ = [_])); exact uF; kernel_rfl; exact Nat.succ_pos _; exact fitF; rfl; clear H; intro wn H; simp only [Act.put, yA, yB, yC, yD, yE, yF]) | ((first | (go_at_call 55; refine gvF (c1 _ H.below) H ?_) | (go_at_call 68; refine gvF (c3 _) H ?_)); clear H; intro wn H) | ((with_reducible apply wp_region_hq (id := 5) H); kernel_rfl; kernel_rfl; (iterate 15 (all_goals ((with_reducible refine' hq_step ?_ ?_ ?_); rotate_left; rfl; (focus (intro w1 H1; first | (first | exact qF | exact qAF | exact qRF) | (exact qVF))); (try simp only [yG, yH, yJ, yK]); simp only [Act.put, yA, yB, yC, yD, yE, yF]))); all_goals (refine wpQuiet_nil ?_; clear H; intro wn H)) | fail)
  refine (Rets.use (cc _ H.below)).mono ?_; rintro e wn ⟨_, _, rfl, ⟨u, MM, rfl, hM, rfl⟩, hkk⟩; have Hn := H.moreK (by intro k hk; first | exact absurd hk List.not_mem_nil | (obtain rfl := List.mem_singleton.1 hk; exact In.mem iF)) hkk; clear hkk; clear H; have H := Hn; clear Hn; (try simp only [yT, yV] at H)
  have Hn := own_open hM H
  clear H
  obtain ⟨xs, M, A, ca, rfl, hO, hcm, H⟩ := Hn
  replace H : Hs noRow w (Hl.row 101 3 (.slice A l.length ca) l.length xs :: Hl.all M :: _) _ := H
  rw [← HN.out] at H hM ⊢
  obtain ⟨g9, c9, hv9, _⟩ := (H.rows .here).form (by omega)
  injection hv9 with hw1 hw2 hw3
  subst hw1 hw3
  clear hM hcm c1 cc hw2
  obtain ⟨x1, csb, x2, M1, Mi, M2, rfl, rfl, hx1, hO1, hOb, hO2⟩ := hO.at_ hb
  obtain ⟨a1, q1, J1, P1, rfl, rfl, j1, a2, a3, J2, J3, rfl, rfl, j2, j3⟩ := hOb
  obtain ⟨e1, he1⟩ : ∃ v, a1 = [v] := by obtain ⟨v, _, _, rfl, _⟩ := j1; exact ⟨v, rfl⟩
  obtain ⟨e2, he2⟩ : ∃ v, a2 = [v] := by obtain ⟨v, _, _, rfl, _⟩ := j2; exact ⟨v, rfl⟩
  obtain ⟨e3, he3⟩ : ∃ v, a3 = [v] := by obtain ⟨v, _, _, rfl, _⟩ := j3; exact ⟨v, rfl⟩
  subst he1 he2 he3
  have hx1' : x1.length = k * 3 := hx1
  have H2 := ((H.up1.part.up1.part).part3)
  clear H
  have Hn := own_open j1 H2
  clear H2
  obtain ⟨ys, K1, E1, f1, rfl, hK, _, H⟩ := Hn
  obtain rfl : K1 = [] := flat_noown hK
  obtain rfl : ys = flat encNum b.1 := ownL_flatE hK
  replace H : Hs noRow w (Hl.row 2 1 (.slice E1 b.1.length f1) b.1.length (flat encNum b.1) :: _) _ := H
  rw [← HN1.out] at H
  have hseg : Seg (x1 ++ (Value.slice E1 n1 f1 :: e2 :: e3 :: x2)) (k * 3) [Value.slice E1 n1 f1] := fun j u hu => by
    match j, hu with
    | 0, hu => exact seg_mid x1 [Value.slice E1 n1 f1, e2, e3] x2 hx1' 0 u hu
  have hfitr : k * 3 + 1 ≤ (x1 ++ (([Value.slice E1 n1 f1] ++ ([e2] ++ [e3])) ++ x2)).length := by rw [List.length_append, hx1']; simp
  have HO1 := Lib.hid hO1
  have HO2 := Lib.hid hO2
  have HJ2 := Lib.hid j2
  have HJ3 := Lib.hid j3
  have HB := Lib.hid hb
  clear hO1 hO2 j2 j3 hO hK j1 hx1 hb
  go_wp2_with (first | ((first | ((with_reducible apply st_load1 H); decide +kernel; rfl; exact cF) | ((with_reducible apply st_loads H); decide +kernel; rfl; exact iF; exact zF; rfl) | ((with_reducible apply st_store H); rfl; exact eF; (focus (exact cells_agg _)); exact uF; kernel_rfl; (focus (exact Nat.le_of_ble_eq_true (by rfl))); (focus (first | rfl | simp))) | ((with_reducible apply st_storeown H); rfl; exact eF; (focus (exact (rfl : _ = [_]))); exact uF; (focus omega); kernel_rfl; rfl)); clear H; intro wn H; (try simp only [splice, yG, yH, yI, yJ, yK, yL, yM, yN, yO, yP, yQ, Nat.reduceAdd, yA, yB, yC] at H); simp only [Act.put, yA, yB, yC, yD, yE, yF]) | ((first | ((with_reducible apply st_box (dst := some 4) H); exact nF; intro b4) | ((with_reducible apply st_box (dst := some 5) H); exact nF; intro b5) | ((with_reducible apply st_alloc (dst := some 8) H); exact nF; intro b8) | ((with_reducible apply st_alloc (dst := some 9) H); exact nF; intro b9) | ((with_reducible apply st_strsum H); rfl; rfl; exact szF; kernel_rfl) | ((with_reducible apply st_bslice H); exact nsF; intro nb)); clear H; intro wn H; simp only [Act.put, yA, yB, yC, yD, yE, yF]) | ((with_reducible apply st_appendb H); (first | ((focus (with_reducible exact dH)); rfl) | ((focus (with_reducible exact dT (dH))); rfl) | ((focus (with_reducible exact dT (dT (dH)))); rfl) | ((focus (with_reducible exact dT (dT (dT (dH))))); rfl) | ((focus (with_reducible exact dT (dT (dT (dT (dH)))))); rfl) | ((focus (with_reducible exact dT (dT (dT (dT (dT (dH))))))); rfl) | ((focus (with_reducible exact dT (dT (dT (dT (dT (dT (dH)))))))); rfl)); rfl; exact iF; kernel_rfl; rfl; rfl; (focus (first | omega | (simp; done) | (simp; omega))); clear H; intro vq wn H; (try simp only [yM, yN, yO] at H); simp only [Act.put, yA, yB, yC, yD, yE, yF]) | ((with_reducible apply st_appendrb H); (first | ((focus (with_reducible exact dH)); rfl) | ((focus (with_reducible exact dT (dH))); rfl) | ((focus (with_reducible exact dT (dT (dH)))); rfl) | ((focus (with_reducible exact dT (dT (dT (dH))))); rfl) | ((focus (with_reducible exact dT (dT (dT (dT (dH)))))); rfl) | ((focus (with_reducible exact dT (dT (dT (dT (dT (dH))))))); rfl) | ((focus (with_reducible exact dT (dT (dT (dT (dT (dT (dH)))))))); rfl)); rfl; exact iF; kernel_rfl; rfl; rfl; (focus (first | omega | (simp; done) | (simp; omega))); clear H; intro vq wn H; (try simp only [yM, yN, yO] at H); simp only [Act.put, yA, yB, yC, yD, yE, yF]) | ((with_reducible apply st_loadat H); decide +kernel; rfl; exact aF; exact zF; rfl; clear H; intro wn H; simp only [Act.put, yA, yB, yC, yD, yE, yF]) | ((with_reducible apply st_storerow H); rfl; exact eF; (first | exact cells_agg _ | exact cellI | exact cellS | exact cellB | exact (rfl : _ = [_])); exact uF; kernel_rfl; exact Nat.succ_pos _; exact fitF; rfl; clear H; intro wn H; simp only [Act.put, yA, yB, yC, yD, yE, yF]) | ((first | (go_at_call 55; refine gvF (c1 _ H.below) H ?_) | (go_at_call 68; refine gvF (c3 _) H ?_)); clear H; intro wn H) | ((with_reducible apply wp_region_hq (id := 5) H); kernel_rfl; kernel_rfl; (iterate 15 (all_goals ((with_reducible refine' hq_step ?_ ?_ ?_); rotate_left; rfl; (focus (intro w1 H1; first | (first | exact qF | exact qAF | exact qRF) | (exact qVF))); (try simp only [yG, yH, yJ, yK]); simp only [Act.put, yA, yB, yC, yD, yE, yF]))); all_goals (refine wpQuiet_nil ?_; clear H; intro wn H)) | fail)
  have Hn := H.tk (Tk.cons (k := (Hl.row 2 1 (.slice E1 n1 f1) n1 (flat encNum b.1))) dF (Tk.nil)); clear H; have H := Hn; clear Hn; apply wp_region_hs (K := []) (Spec.V _ :: Spec.V _ :: Spec.V _ :: Spec.V _ :: Spec.V _ :: Spec.V _ :: Spec.V _ :: Spec.V _ :: Spec.V _ :: Spec.V _ :: Spec.S _ _ _ :: Spec.W ((Hl.row 2 1 (.slice E1 n1 f1) n1 (flat encNum b.1))) _ :: []) 12 H rfl (by simp) (by kernel_rfl) (by kernel_rfl); intro vs Ls; (iterate 8 ((with_reducible apply wpH_V); (focus rfl); (focus rfl); (focus (intro w1 H1; exact oF)); simp only [Act.put, yA, yB, yC, yD, yE, yF]; (try simp only [yG, yH, yJ, yK]))); ((with_reducible apply wpH_V); (focus rfl); (focus rfl); (focus (intro w1 H1; (with_reducible apply ok_load1); (focus rfl); (focus decide +kernel); (focus exact (At.row H1 iF hseg).head rfl))); simp only [Act.put, yA, yB, yC, yD, yE, yF]); (iterate 1 ((with_reducible apply wpH_V); (focus rfl); (focus rfl); (focus (intro w1 H1; exact oF)); simp only [Act.put, yA, yB, yC, yD, yE, yF]; (try simp only [yG, yH, yJ, yK]))); (with_reducible apply wpH_S); (focus rfl); (focus rfl); (focus (intro hk w1 H1; unfold OpOk; go_simp; exact now_sl)); intro g10 hg10; simp only [Act.put, yA, yB, yC, yD, yE, yF]; (with_reducible apply (wpH_WD 10)); (focus rfl); (focus rfl); (focus decide +kernel); (focus decide); (focus (intro hok N w1 H1 H2; have hb : Blk w1 _ _ _ := H2.ok _ (List.mem_cons_of_mem _ (List.mem_append_left _ (List.mem_singleton.2 rfl))); rw [← hg10] at hb; exact app_W H1 rfl rfl (by kernel_rfl) (Rd.of_blk hb rfl (by unfold maxLen; omega)) (by rfl) (by omega))); simp only [Act.put, yA, yB, yC, yD, yE, yF]; refine wpH_0 ?_; intro hok wn Hn; (try simp only [yT, yU, yV, yW] at Hn); clear H; have H := Hn; clear Hn; (try simp only [← hg10]); clear hg10; have ht11 := okW (hok 11 (by decide)) rfl; clear hok; obtain ⟨A11, c11, e11, l11⟩ := ht11; simp only [e11, l11, yT, yU, yV] at H ⊢; clear e11 l11; (try simp only [cells_agg, cellI, cellS, cellB] at H); (try simp only [splice, yG, yH, yI, yJ, yK, yL, yM, yN, yO, yP, yQ, Nat.reduceAdd, yA, yB, yC] at H); rotate_left; (focus (refine locs ?_; intro vs1 vs2; (iterate 12 (refine all_lt_succ ?_ (by first | exact (fun _ => rfl) | exact (fun _ => ⟨rfl, rfl⟩) | (intro h; simp only [spec, Spec.same, yR, yS, Option.getD_some]; (try rw [h 10 (by decide +kernel)]); (try rw [h 11 (by decide +kernel)]); (first | done | exact ⟨rfl, rfl⟩ | exact ⟨trivial, rfl⟩ | exact ⟨rfl, trivial⟩))))); exact (fun k hk => absurd hk (Nat.not_lt_zero k))))
  go_wp2_with (first | ((first | ((with_reducible apply st_load1 H); decide +kernel; rfl; exact cF) | ((with_reducible apply st_loads H); decide +kernel; rfl; exact iF; exact zF; rfl) | ((with_reducible apply st_store H); rfl; exact eF; (focus (exact cells_agg _)); exact uF; kernel_rfl; (focus (exact Nat.le_of_ble_eq_true (by rfl))); (focus (first | rfl | simp))) | ((with_reducible apply st_storeown H); rfl; exact eF; (focus (exact (rfl : _ = [_]))); exact uF; (focus omega); kernel_rfl; rfl)); clear H; intro wn H; (try simp only [splice, yG, yH, yI, yJ, yK, yL, yM, yN, yO, yP, yQ, Nat.reduceAdd, yA, yB, yC] at H); simp only [Act.put, yA, yB, yC, yD, yE, yF]) | ((first | ((with_reducible apply st_box (dst := some 4) H); exact nF; intro b4) | ((with_reducible apply st_box (dst := some 5) H); exact nF; intro b5) | ((with_reducible apply st_alloc (dst := some 8) H); exact nF; intro b8) | ((with_reducible apply st_alloc (dst := some 9) H); exact nF; intro b9) | ((with_reducible apply st_strsum H); rfl; rfl; exact szF; kernel_rfl) | ((with_reducible apply st_bslice H); exact nsF; intro nb)); clear H; intro wn H; simp only [Act.put, yA, yB, yC, yD, yE, yF]) | ((with_reducible apply st_appendb H); (first | ((focus (with_reducible exact dH)); rfl) | ((focus (with_reducible exact dT (dH))); rfl) | ((focus (with_reducible exact dT (dT (dH)))); rfl) | ((focus (with_reducible exact dT (dT (dT (dH))))); rfl) | ((focus (with_reducible exact dT (dT (dT (dT (dH)))))); rfl) | ((focus (with_reducible exact dT (dT (dT (dT (dT (dH))))))); rfl) | ((focus (with_reducible exact dT (dT (dT (dT (dT (dT (dH)))))))); rfl)); rfl; exact iF; kernel_rfl; rfl; rfl; (focus (first | omega | (simp; done) | (simp; omega))); clear H; intro vq wn H; (try simp only [yM, yN, yO] at H); simp only [Act.put, yA, yB, yC, yD, yE, yF]) | ((with_reducible apply st_appendrb H); (first | ((focus (with_reducible exact dH)); rfl) | ((focus (with_reducible exact dT (dH))); rfl) | ((focus (with_reducible exact dT (dT (dH)))); rfl) | ((focus (with_reducible exact dT (dT (dT (dH))))); rfl) | ((focus (with_reducible exact dT (dT (dT (dT (dH)))))); rfl) | ((focus (with_reducible exact dT (dT (dT (dT (dT (dH))))))); rfl) | ((focus (with_reducible exact dT (dT (dT (dT (dT (dT (dH)))))))); rfl)); rfl; exact iF; kernel_rfl; rfl; rfl; (focus (first | omega | (simp; done) | (simp; omega))); clear H; intro vq wn H; (try simp only [yM, yN, yO] at H); simp only [Act.put, yA, yB, yC, yD, yE, yF]) | ((with_reducible apply st_loadat H); decide +kernel; rfl; exact aF; exact zF; rfl; clear H; intro wn H; simp only [Act.put, yA, yB, yC, yD, yE, yF]) | ((with_reducible apply st_storerow H); rfl; exact eF; (first | exact cells_agg _ | exact cellI | exact cellS | exact cellB | exact (rfl : _ = [_])); exact uF; kernel_rfl; exact Nat.succ_pos _; exact fitF; rfl; clear H; intro wn H; simp only [Act.put, yA, yB, yC, yD, yE, yF]) | ((first | (go_at_call 55; refine gvF (c1 _ H.below) H ?_) | (go_at_call 68; refine gvF (c3 _) H ?_)); clear H; intro wn H) | ((with_reducible apply wp_region_hq (id := 5) H); kernel_rfl; kernel_rfl; (iterate 15 (all_goals ((with_reducible refine' hq_step ?_ ?_ ?_); rotate_left; rfl; (focus (intro w1 H1; first | (first | exact qF | exact qAF | exact qRF) | (exact qVF))); (try simp only [yG, yH, yJ, yK]); simp only [Act.put, yA, yB, yC, yD, yE, yF]))); all_goals (refine wpQuiet_nil ?_; clear H; intro wn H)) | fail)
  refine bp_cell H rfl rfl iF (by kernel_rfl) (by kernel_rfl) rfl (by first | exact .inl rfl | exact .inr rfl) ?_
  rw [HMO.out]
  have hkl : k < l.length := by rw [← HN.out]; exact hk
  have hset : l.set k (layBo b x) = (l.take k ++ [layBo b x]) ++ l.drop (k + 1) := by rw [List.set_eq_take_append_cons_drop, if_pos hkl]; simp
  have hown : tyBo.own ([.slice A11 (n1 + 1) c11] ++ ([e2] ++ [e3])) (layBo b x) ([Hl.row 2 1 (.slice A11 (n1 + 1) c11) (n1 + 1) (flat encNum b.1 ++ [.int .i64 x])] ++ (J2 ++ J3)) :=
    ⟨[_], [_, _], _, _, rfl, rfl, own_num (by show _ = flat encNum (b.1 ++ [x]); rw [flat_append]; rfl) (by show _ = (b.1 ++ [x]).length; rw [List.length_append, ← HN1.out]; rfl) rfl, [_], [_], _, _, rfl, rfl, HJ2.out, HJ3.out⟩
  have hO3 := (HO1.out.snoc hown).append HO2.out
  rw [← hset] at hO3
  have hspl := spl_one x1 x2 (.bool false) [Value.slice E1 n1 f1, e2, e3] (.slice A11 (n1 + 1) c11) hx1' (j := 0) (by simp)
  have H0 := H.sel (M := [Hl.row 2 1 (.slice A11 (n1 + 1) c11) (n1 + 1) (flat encNum b.1 ++ [.int .i64 x]), Hl.all J2, Hl.all J3, Hl.all M1, Hl.all M2, Hl.row 101 3 (.slice (some ⟨g9, 0, none⟩) n ca) n _]) sF
  have H1 := (Hs.pack (M := [Hl.row 2 1 (.slice A11 (n1 + 1) c11) (n1 + 1) (flat encNum b.1 ++ [.int .i64 x])]) H0).join3.up1.join.join.up1
  rw [show spl (x1 ++ Value.slice E1 n1 f1 :: e2 :: e3 :: x2) (k * 3) [.slice A11 (n1 + 1) c11] = (x1 ++ ([.slice A11 (n1 + 1) c11] ++ ([e2] ++ [e3]))) ++ x2 from hspl.trans (by simp)] at H1
  exact ret_mail hO3 H1 (by rw [List.length_set]; exact HN.out) 0
set_option maxRecDepth 100000 in
set_option maxHeartbeats 4000000 in
theorem mailLay_s (c : Cfg) (cs : List Value) (v : Value) (l : List Bo) (p x : Int) (w : World) (hrc : tyCfg.rd w cs c) (hr : (Ty.sl 101 tyBo).rd w [v] l) :
    Rets Tryz.prog [] 29 #[.agg cs.toArray, .agg #[v], .int .i64 p, .int .i64 x] w (tAgg tyMO (mailLay c l p x)) := by
  have c1 := fun w1 hb => mailRight_s c cs v l w1 (Ty.below _ hrc hb) (Ty.below _ hr hb)
  have hmf := @mail_facts c l
  have hmt := @mail_fits c l
  have hmr := fun h k b r => @mail_rate c l h k b r
  obtain ⟨v1, v2, v3, rfl, h1, h2, h3⟩ := cfg_form hrc
  obtain ⟨nd, pr, qt, hf⟩ := c
  simp only at h1 h2 h3 hmf hmr
  replace c1 : ∀ w1, Below w.heap.size w w1 → Gives Tryz.prog 50 #[.agg #[v1, v2, v3, .int .i64 hf], .agg #[v]] w1 (.bool (mailOk (nd, pr, qt, hf) l)) := c1
  show Rets Tryz.prog [] _ #[.agg #[v1, v2, v3, .int .i64 hf], .agg #[v], .int .i64 p, .int .i64 x] w _
  obtain ⟨mo, hmo⟩ : ∃ mo, mo = mailLay (nd, pr, qt, hf) l p x := ⟨_, rfl⟩
  rw [← hmo]
  have hmo2 : mo = if mailOk (nd, pr, qt, hf) l then (if 0 ≤ p ∧ p < l.length then layAt pr l p.toNat x else ([], 6)) else ([], 1) := hmo
  clear hmo hrc h1 h3
  generalize mailOk (nd, pr, qt, hf) l = z at *
  obtain ⟨B, cb, rfl, hlb, hbm⟩ := sl_form h2
  obtain ⟨A0, ca0, rfl, hla, ham⟩ := sl_form hr
  obtain ⟨n, hn⟩ : ∃ n, n = l.length := ⟨_, rfl⟩
  obtain ⟨m, hm⟩ : ∃ m, m = pr.length := ⟨_, rfl⟩
  rw [← hn] at hr c1 hmf hmo2 ⊢
  rw [← hm] at h2 c1 hmf ⊢
  have HR := Lib.hid hr
  have HP := Lib.hid h2
  have HN := Lib.hid hn
  have HM := Lib.hid hm
  clear hr h2 hlb hbm hla ham hn hm
  have H := Hs.start noRow w
  refine Rets.of ?_
  cases z
  case false =>
    have HMO : Hid (mo = ([], 1)) := Lib.hid hmo2
    clear hmo2 hmf hmt hmr
    go_enter Tryz.func29, Tryz.ntmps29
    go_wp2_with (first | ((first | ((with_reducible refine st_gwT ?_ ?_); rfl) | ((with_reducible refine st_gwF ?_ ?_); rfl) | ((with_reducible refine st_gsT ?_ ?_); rfl) | ((with_reducible refine st_gsF ?_ ?_); rfl)); (try simp only [Act.put, yA, yB, yC, yD, yE, yF])) | ((with_reducible refine' st_guard ?_ ?_ ?_); rotate_left; rfl; (all_goals (intro hgd; cases hgd)); (try simp only [Act.put, yA, yB, yC, yD, yE, yF])) | ((with_reducible apply st_want); rfl) | ((with_reducible refine st_skip ?_ ?_); rfl; simp only [Act.put, yA, yB, yC, yD, yE, yF]) | ((first | ((with_reducible apply st_load1 H); decide +kernel; rfl; exact cF) | ((with_reducible apply st_loads H); decide +kernel; rfl; exact iF; exact zF; rfl) | ((with_reducible apply st_store H); rfl; exact eF; (focus (exact cells_agg _)); exact uF; kernel_rfl; (focus (exact Nat.le_of_ble_eq_true (by rfl))); (focus (first | rfl | simp))) | ((with_reducible apply st_storeown H); rfl; exact eF; (focus (exact (rfl : _ = [_]))); exact uF; (focus omega); kernel_rfl; rfl)); clear H; intro wn H; (try simp only [splice, yG, yH, yI, yJ, yK, yL, yM, yN, yO, yP, yQ, Nat.reduceAdd, yA, yB, yC] at H); simp only [Act.put, yA, yB, yC, yD, yE, yF]) | ((first | ((with_reducible apply st_box (dst := some 4) H); exact nF; intro b4) | ((with_reducible apply st_box (dst := some 5) H); exact nF; intro b5) | ((with_reducible apply st_alloc (dst := some 8) H); exact nF; intro b8) | ((with_reducible apply st_alloc (dst := some 9) H); exact nF; intro b9) | ((with_reducible apply st_strsum H); rfl; rfl; exact szF; kernel_rfl) | ((with_reducible apply st_bslice H); exact nsF; intro nb)); clear H; intro wn H; simp only [Act.put, yA, yB, yC, yD, yE, yF]) | ((with_reducible apply st_appendb H); (first | ((focus (with_reducible exact dH)); rfl) | ((focus (with_reducible exact dT (dH))); rfl) | ((focus (with_reducible exact dT (dT (dH)))); rfl) | ((focus (with_reducible exact dT (dT (dT (dH))))); rfl) | ((focus (with_reducible exact dT (dT (dT (dT (dH)))))); rfl) | ((focus (with_reducible exact dT (dT (dT (dT (dT (dH))))))); rfl) | ((focus (with_reducible exact dT (dT (dT (dT (dT (dT (dH)))))))); rfl)); rfl; exact iF; kernel_rfl; rfl; rfl; (focus (first | omega | (simp; done) | (simp; omega))); clear H; intro vq wn H; (try simp only [yM, yN, yO] at H); simp only [Act.put, yA, yB, yC, yD, yE, yF]) | ((with_reducible apply st_appendrb H); (first | ((focus (with_reducible exact dH)); rfl) | ((focus (with_reducible exact dT (dH))); rfl) | ((focus (with_reducible exact dT (dT (dH)))); rfl) | ((focus (with_reducible exact dT (dT (dT (dH))))); rfl) | ((focus (with_reducible exact dT (dT (dT (dT (dH)))))); rfl) | ((focus (with_reducible exact dT (dT (dT (dT (dT (dH))))))); rfl) | ((focus (with_reducible exact dT (dT (dT (dT (dT (dT (dH)))))))); rfl)); rfl; exact iF; kernel_rfl; rfl; rfl; (focus (first | omega | (simp; done) | (simp; omega))); clear H; intro vq wn H; (try simp only [yM, yN, yO] at H); simp only [Act.put, yA, yB, yC, yD, yE, yF]) | ((with_reducible apply st_loadat H); decide +kernel; rfl; exact aF; exact zF; rfl; clear H; intro wn H; simp only [Act.put, yA, yB, yC, yD, yE, yF]) | ((with_reducible apply st_storerow H); rfl; exact eF; (first | exact cells_agg _ | exact cellI | exact cellS | exact cellB | exact (rfl : _ = [_])); exact uF; kernel_rfl; exact Nat.succ_pos _; exact fitF; rfl; clear H; intro wn H; simp only [Act.put, yA, yB, yC, yD, yE, yF]) | ((first | (go_at_call 50; refine gvF (c1 _ H.below) H ?_) | (go_at_call 60; refine gvF (ill_s _ _) H ?_)); clear H; intro wn H) | ((with_reducible apply wp_region_hq (id := 5) H); kernel_rfl; kernel_rfl; (iterate 15 (all_goals ((with_reducible refine' hq_step ?_ ?_ ?_); rotate_left; rfl; (focus (intro w1 H1; first | (first | exact qF | exact qAF | exact qRF) | (exact qVF))); (try simp only [yG, yH, yJ, yK]); simp only [Act.put, yA, yB, yC, yD, yE, yF]))); all_goals (refine wpQuiet_nil ?_; clear H; intro wn H)) | fail)
    refine bp_cell H rfl rfl iF (by kernel_rfl) (by kernel_rfl) rfl (by first | exact .inl rfl | exact .inr rfl) ?_
    rw [HMO.out]
    exact ret_ill H 1
  rw [if_pos rfl] at hmo2
  have hnm := (hmf rfl).2.1
  have hm4 := (hmf rfl).2.2.1
  subst hnm
  have hfit := hmt rfl
  have hrate := hmr rfl
  clear hmf hmt hmr
  by_cases hin : 0 ≤ p ∧ p < n
  case neg =>
    have HMO : Hid (mo = ([], 6)) := Lib.hid (by rw [hmo2, if_neg hin])
    clear hmo2 hfit hrate
    by_cases hp0 : p < 0
    · go_enter Tryz.func29, Tryz.ntmps29
      go_wp2_with (first | ((first | ((with_reducible refine st_gwT ?_ ?_); rfl) | ((with_reducible refine st_gwF ?_ ?_); rfl) | ((with_reducible refine st_gsT ?_ ?_); rfl) | ((with_reducible refine st_gsF ?_ ?_); rfl)); (try simp only [Act.put, yA, yB, yC, yD, yE, yF])) | ((with_reducible refine' st_guard ?_ ?_ ?_); rotate_left; rfl; (all_goals (intro hgd; cases hgd)); (try simp only [Act.put, yA, yB, yC, yD, yE, yF])) | ((with_reducible apply st_want); rfl) | ((with_reducible refine st_skip ?_ ?_); rfl; simp only [Act.put, yA, yB, yC, yD, yE, yF]) | ((first | ((with_reducible apply st_load1 H); decide +kernel; rfl; exact cF) | ((with_reducible apply st_loads H); decide +kernel; rfl; exact iF; exact zF; rfl) | ((with_reducible apply st_store H); rfl; exact eF; (focus (exact cells_agg _)); exact uF; kernel_rfl; (focus (exact Nat.le_of_ble_eq_true (by rfl))); (focus (first | rfl | simp))) | ((with_reducible apply st_storeown H); rfl; exact eF; (focus (exact (rfl : _ = [_]))); exact uF; (focus omega); kernel_rfl; rfl)); clear H; intro wn H; (try simp only [splice, yG, yH, yI, yJ, yK, yL, yM, yN, yO, yP, yQ, Nat.reduceAdd, yA, yB, yC] at H); simp only [Act.put, yA, yB, yC, yD, yE, yF]) | ((first | ((with_reducible apply st_box (dst := some 4) H); exact nF; intro b4) | ((with_reducible apply st_box (dst := some 5) H); exact nF; intro b5) | ((with_reducible apply st_alloc (dst := some 8) H); exact nF; intro b8) | ((with_reducible apply st_alloc (dst := some 9) H); exact nF; intro b9) | ((with_reducible apply st_strsum H); rfl; rfl; exact szF; kernel_rfl) | ((with_reducible apply st_bslice H); exact nsF; intro nb)); clear H; intro wn H; simp only [Act.put, yA, yB, yC, yD, yE, yF]) | ((with_reducible apply st_appendb H); (first | ((focus (with_reducible exact dH)); rfl) | ((focus (with_reducible exact dT (dH))); rfl) | ((focus (with_reducible exact dT (dT (dH)))); rfl) | ((focus (with_reducible exact dT (dT (dT (dH))))); rfl) | ((focus (with_reducible exact dT (dT (dT (dT (dH)))))); rfl) | ((focus (with_reducible exact dT (dT (dT (dT (dT (dH))))))); rfl) | ((focus (with_reducible exact dT (dT (dT (dT (dT (dT (dH)))))))); rfl)); rfl; exact iF; kernel_rfl; rfl; rfl; (focus (first | omega | (simp; done) | (simp; omega))); clear H; intro vq wn H; (try simp only [yM, yN, yO] at H); simp only [Act.put, yA, yB, yC, yD, yE, yF]) | ((with_reducible apply st_appendrb H); (first | ((focus (with_reducible exact dH)); rfl) | ((focus (with_reducible exact dT (dH))); rfl) | ((focus (with_reducible exact dT (dT (dH)))); rfl) | ((focus (with_reducible exact dT (dT (dT (dH))))); rfl) | ((focus (with_reducible exact dT (dT (dT (dT (dH)))))); rfl) | ((focus (with_reducible exact dT (dT (dT (dT (dT (dH))))))); rfl) | ((focus (with_reducible exact dT (dT (dT (dT (dT (dT (dH)))))))); rfl)); rfl; exact iF; kernel_rfl; rfl; rfl; (focus (first | omega | (simp; done) | (simp; omega))); clear H; intro vq wn H; (try simp only [yM, yN, yO] at H); simp only [Act.put, yA, yB, yC, yD, yE, yF]) | ((with_reducible apply st_loadat H); decide +kernel; rfl; exact aF; exact zF; rfl; clear H; intro wn H; simp only [Act.put, yA, yB, yC, yD, yE, yF]) | ((with_reducible apply st_storerow H); rfl; exact eF; (first | exact cells_agg _ | exact cellI | exact cellS | exact cellB | exact (rfl : _ = [_])); exact uF; kernel_rfl; exact Nat.succ_pos _; exact fitF; rfl; clear H; intro wn H; simp only [Act.put, yA, yB, yC, yD, yE, yF]) | ((first | (go_at_call 50; refine gvF (c1 _ H.below) H ?_) | (go_at_call 60; refine gvF (ill_s _ _) H ?_)); clear H; intro wn H) | ((with_reducible apply wp_region_hq (id := 5) H); kernel_rfl; kernel_rfl; (iterate 15 (all_goals ((with_reducible refine' hq_step ?_ ?_ ?_); rotate_left; rfl; (focus (intro w1 H1; first | (first | exact qF | exact qAF | exact qRF) | (exact qVF))); (try simp only [yG, yH, yJ, yK]); simp only [Act.put, yA, yB, yC, yD, yE, yF]))); all_goals (refine wpQuiet_nil ?_; clear H; intro wn H)) | fail)
      refine bp_cell H rfl rfl iF (by kernel_rfl) (by kernel_rfl) rfl (by first | exact .inl rfl | exact .inr rfl) ?_
      rw [HMO.out]
      exact ret_ill H 6
    · have hp1 : (n : Int) ≤ p := by omega
      obtain ⟨k, rfl⟩ : ∃ k : Nat, p = k := ⟨p.toNat, by omega⟩
      go_enter Tryz.func29, Tryz.ntmps29
      go_wp2_with (first | ((first | ((with_reducible refine st_gwT ?_ ?_); rfl) | ((with_reducible refine st_gwF ?_ ?_); rfl) | ((with_reducible refine st_gsT ?_ ?_); rfl) | ((with_reducible refine st_gsF ?_ ?_); rfl)); (try simp only [Act.put, yA, yB, yC, yD, yE, yF])) | ((with_reducible refine' st_guard ?_ ?_ ?_); rotate_left; rfl; (all_goals (intro hgd; cases hgd)); (try simp only [Act.put, yA, yB, yC, yD, yE, yF])) | ((with_reducible apply st_want); rfl) | ((with_reducible refine st_skip ?_ ?_); rfl; simp only [Act.put, yA, yB, yC, yD, yE, yF]) | ((first | ((with_reducible apply st_load1 H); decide +kernel; rfl; exact cF) | ((with_reducible apply st_loads H); decide +kernel; rfl; exact iF; exact zF; rfl) | ((with_reducible apply st_store H); rfl; exact eF; (focus (exact cells_agg _)); exact uF; kernel_rfl; (focus (exact Nat.le_of_ble_eq_true (by rfl))); (focus (first | rfl | simp))) | ((with_reducible apply st_storeown H); rfl; exact eF; (focus (exact (rfl : _ = [_]))); exact uF; (focus omega); kernel_rfl; rfl)); clear H; intro wn H; (try simp only [splice, yG, yH, yI, yJ, yK, yL, yM, yN, yO, yP, yQ, Nat.reduceAdd, yA, yB, yC] at H); simp only [Act.put, yA, yB, yC, yD, yE, yF]) | ((first | ((with_reducible apply st_box (dst := some 4) H); exact nF; intro b4) | ((with_reducible apply st_box (dst := some 5) H); exact nF; intro b5) | ((with_reducible apply st_alloc (dst := some 8) H); exact nF; intro b8) | ((with_reducible apply st_alloc (dst := some 9) H); exact nF; intro b9) | ((with_reducible apply st_strsum H); rfl; rfl; exact szF; kernel_rfl) | ((with_reducible apply st_bslice H); exact nsF; intro nb)); clear H; intro wn H; simp only [Act.put, yA, yB, yC, yD, yE, yF]) | ((with_reducible apply st_appendb H); (first | ((focus (with_reducible exact dH)); rfl) | ((focus (with_reducible exact dT (dH))); rfl) | ((focus (with_reducible exact dT (dT (dH)))); rfl) | ((focus (with_reducible exact dT (dT (dT (dH))))); rfl) | ((focus (with_reducible exact dT (dT (dT (dT (dH)))))); rfl) | ((focus (with_reducible exact dT (dT (dT (dT (dT (dH))))))); rfl) | ((focus (with_reducible exact dT (dT (dT (dT (dT (dT (dH)))))))); rfl)); rfl; exact iF; kernel_rfl; rfl; rfl; (focus (first | omega | (simp; done) | (simp; omega))); clear H; intro vq wn H; (try simp only [yM, yN, yO] at H); simp only [Act.put, yA, yB, yC, yD, yE, yF]) | ((with_reducible apply st_appendrb H); (first | ((focus (with_reducible exact dH)); rfl) | ((focus (with_reducible exact dT (dH))); rfl) | ((focus (with_reducible exact dT (dT (dH)))); rfl) | ((focus (with_reducible exact dT (dT (dT (dH))))); rfl) | ((focus (with_reducible exact dT (dT (dT (dT (dH)))))); rfl) | ((focus (with_reducible exact dT (dT (dT (dT (dT (dH))))))); rfl) | ((focus (with_reducible exact dT (dT (dT (dT (dT (dT (dH)))))))); rfl)); rfl; exact iF; kernel_rfl; rfl; rfl; (focus (first | omega | (simp; done) | (simp; omega))); clear H; intro vq wn H; (try simp only [yM, yN, yO] at H); simp only [Act.put, yA, yB, yC, yD, yE, yF]) | ((with_reducible apply st_loadat H); decide +kernel; rfl; exact aF; exact zF; rfl; clear H; intro wn H; simp only [Act.put, yA, yB, yC, yD, yE, yF]) | ((with_reducible apply st_storerow H); rfl; exact eF; (first | exact cells_agg _ | exact cellI | exact cellS | exact cellB | exact (rfl : _ = [_])); exact uF; kernel_rfl; exact Nat.succ_pos _; exact fitF; rfl; clear H; intro wn H; simp only [Act.put, yA, yB, yC, yD, yE, yF]) | ((first | (go_at_call 50; refine gvF (c1 _ H.below) H ?_) | (go_at_call 60; refine gvF (ill_s _ _) H ?_)); clear H; intro wn H) | ((with_reducible apply wp_region_hq (id := 5) H); kernel_rfl; kernel_rfl; (iterate 15 (all_goals ((with_reducible refine' hq_step ?_ ?_ ?_); rotate_left; rfl; (focus (intro w1 H1; first | (first | exact qF | exact qAF | exact qRF) | (exact qVF))); (try simp only [yG, yH, yJ, yK]); simp only [Act.put, yA, yB, yC, yD, yE, yF]))); all_goals (refine wpQuiet_nil ?_; clear H; intro wn H)) | fail)
      refine bp_cell H rfl rfl iF (by kernel_rfl) (by kernel_rfl) rfl (by first | exact .inl rfl | exact .inr rfl) ?_
      rw [HMO.out]
      exact ret_ill H 6
  rw [if_pos hin] at hmo2
  obtain ⟨k, rfl⟩ : ∃ k : Nat, p = k := ⟨p.toNat, by omega⟩
  rw [Int.toNat_natCast] at hmo2
  have hk : k < n := by omega
  have hk1 : (k : Int) < n := by omega
  have hk2 : ¬ (k : Int) < 0 := by omega
  have hk3 : ¬ (n : Int) ≤ k := by omega
  obtain ⟨b, hb⟩ : ∃ b, l[k]? = some b := ⟨l[k]'(by rw [← HN.out]; exact hk), List.getElem?_eq_getElem (by rw [← HN.out]; exact hk)⟩
  obtain ⟨r, hr⟩ : ∃ r, pr[k]? = some r := ⟨pr[k]'(by rw [← HM.out]; exact hk), List.getElem?_eq_getElem (by rw [← HM.out]; exact hk)⟩
  have hrt := hrate k b r hb hr
  unfold layAt at hmo2
  rw [hb] at hmo2
  simp only [hr] at hmo2
  have hs := sl_at (by have := HR.out; rw [HN.out] at this; exact this) hb
  rw [← HN.out] at hs
  obtain ⟨g6, off6, c6, cs6, hv, hcs, hA⟩ := hs
  injection hv with hv1 hv2 hv3
  subst hv1 hv3
  obtain ⟨u1, u2, u3, hu, g1, g2, g3⟩ := bo_form hcs
  subst hu
  have hs2 := sl_at (by have := HP.out; rw [HM.out] at this; exact this) hr
  rw [← HM.out] at hs2
  obtain ⟨d, dff, c2, cs2, hw, hcs2, hB⟩ := hs2
  injection hw with hw1 hw2 hw3
  subst hw1 hw3
  obtain rfl : cs2 = encPr r := hcs2
  obtain ⟨⟨p1, p2⟩, ⟨p3, p4⟩, rt⟩ := r
  simp only at hrt hmo2
  have h4 : w.cell? ⟨d, dff + k * 5 + 4, none⟩ = some (.int .i64 rt) := hB 4 _ rfl
  obtain ⟨D1, d1, rfl, _, _⟩ := sl_form g1
  have h5 : w.cell? ⟨g6, off6 + k * 3, none⟩ = some (.slice D1 b.1.length d1) := hA.head (u := .slice D1 b.1.length d1) rfl
  obtain ⟨n1, hn1⟩ : ∃ n1, n1 = b.1.length := ⟨_, rfl⟩
  rw [← hn1] at hmo2 hrt h5
  have HN1 := Lib.hid hn1
  clear hr hv2 hw2 hcs hB hA g1 g2 g3 hn1 hrate hin
  by_cases hfull : rt ≤ n1
  case pos =>
    have hfull2 : rt ≤ (n1 : Int) := hfull
    have HMO : Hid (mo = ([], 8)) := Lib.hid (by rw [hmo2, if_pos hfull])
    clear hmo2 hfit
    go_enter Tryz.func29, Tryz.ntmps29
    go_wp2_with (first | ((first | ((with_reducible refine st_gwT ?_ ?_); rfl) | ((with_reducible refine st_gwF ?_ ?_); rfl) | ((with_reducible refine st_gsT ?_ ?_); rfl) | ((with_reducible refine st_gsF ?_ ?_); rfl)); (try simp only [Act.put, yA, yB, yC, yD, yE, yF])) | ((with_reducible refine' st_guard ?_ ?_ ?_); rotate_left; rfl; (all_goals (intro hgd; cases hgd)); (try simp only [Act.put, yA, yB, yC, yD, yE, yF])) | ((with_reducible apply st_want); rfl) | ((with_reducible refine st_skip ?_ ?_); rfl; simp only [Act.put, yA, yB, yC, yD, yE, yF]) | ((first | ((with_reducible apply st_load1 H); decide +kernel; rfl; exact cF) | ((with_reducible apply st_loads H); decide +kernel; rfl; exact iF; exact zF; rfl) | ((with_reducible apply st_store H); rfl; exact eF; (focus (exact cells_agg _)); exact uF; kernel_rfl; (focus (exact Nat.le_of_ble_eq_true (by rfl))); (focus (first | rfl | simp))) | ((with_reducible apply st_storeown H); rfl; exact eF; (focus (exact (rfl : _ = [_]))); exact uF; (focus omega); kernel_rfl; rfl)); clear H; intro wn H; (try simp only [splice, yG, yH, yI, yJ, yK, yL, yM, yN, yO, yP, yQ, Nat.reduceAdd, yA, yB, yC] at H); simp only [Act.put, yA, yB, yC, yD, yE, yF]) | ((first | ((with_reducible apply st_box (dst := some 4) H); exact nF; intro b4) | ((with_reducible apply st_box (dst := some 5) H); exact nF; intro b5) | ((with_reducible apply st_alloc (dst := some 8) H); exact nF; intro b8) | ((with_reducible apply st_alloc (dst := some 9) H); exact nF; intro b9) | ((with_reducible apply st_strsum H); rfl; rfl; exact szF; kernel_rfl) | ((with_reducible apply st_bslice H); exact nsF; intro nb)); clear H; intro wn H; simp only [Act.put, yA, yB, yC, yD, yE, yF]) | ((with_reducible apply st_appendb H); (first | ((focus (with_reducible exact dH)); rfl) | ((focus (with_reducible exact dT (dH))); rfl) | ((focus (with_reducible exact dT (dT (dH)))); rfl) | ((focus (with_reducible exact dT (dT (dT (dH))))); rfl) | ((focus (with_reducible exact dT (dT (dT (dT (dH)))))); rfl) | ((focus (with_reducible exact dT (dT (dT (dT (dT (dH))))))); rfl) | ((focus (with_reducible exact dT (dT (dT (dT (dT (dT (dH)))))))); rfl)); rfl; exact iF; kernel_rfl; rfl; rfl; (focus (first | omega | (simp; done) | (simp; omega))); clear H; intro vq wn H; (try simp only [yM, yN, yO] at H); simp only [Act.put, yA, yB, yC, yD, yE, yF]) | ((with_reducible apply st_appendrb H); (first | ((focus (with_reducible exact dH)); rfl) | ((focus (with_reducible exact dT (dH))); rfl) | ((focus (with_reducible exact dT (dT (dH)))); rfl) | ((focus (with_reducible exact dT (dT (dT (dH))))); rfl) | ((focus (with_reducible exact dT (dT (dT (dT (dH)))))); rfl) | ((focus (with_reducible exact dT (dT (dT (dT (dT (dH))))))); rfl) | ((focus (with_reducible exact dT (dT (dT (dT (dT (dT (dH)))))))); rfl)); rfl; exact iF; kernel_rfl; rfl; rfl; (focus (first | omega | (simp; done) | (simp; omega))); clear H; intro vq wn H; (try simp only [yM, yN, yO] at H); simp only [Act.put, yA, yB, yC, yD, yE, yF]) | ((with_reducible apply st_loadat H); decide +kernel; rfl; exact aF; exact zF; rfl; clear H; intro wn H; simp only [Act.put, yA, yB, yC, yD, yE, yF]) | ((with_reducible apply st_storerow H); rfl; exact eF; (first | exact cells_agg _ | exact cellI | exact cellS | exact cellB | exact (rfl : _ = [_])); exact uF; kernel_rfl; exact Nat.succ_pos _; exact fitF; rfl; clear H; intro wn H; simp only [Act.put, yA, yB, yC, yD, yE, yF]) | ((first | (go_at_call 50; refine gvF (c1 _ H.below) H ?_) | (go_at_call 60; refine gvF (ill_s _ _) H ?_)); clear H; intro wn H) | ((with_reducible apply wp_region_hq (id := 5) H); kernel_rfl; kernel_rfl; (iterate 15 (all_goals ((with_reducible refine' hq_step ?_ ?_ ?_); rotate_left; rfl; (focus (intro w1 H1; first | (first | exact qF | exact qAF | exact qRF) | (exact qVF))); (try simp only [yG, yH, yJ, yK]); simp only [Act.put, yA, yB, yC, yD, yE, yF]))); all_goals (refine wpQuiet_nil ?_; clear H; intro wn H)) | fail)
    refine bp_cell H rfl rfl iF (by kernel_rfl) (by kernel_rfl) rfl (by first | exact .inl rfl | exact .inr rfl) ?_
    rw [HMO.out]
    exact ret_ill H 8
  have hless : ¬ rt ≤ (n1 : Int) := hfull
  have HMO : Hid (mo = (l.set k (layBo b x), 0)) := Lib.hid (by rw [hmo2, if_neg hfull])
  have cc := fun w1 hb => copyMail_s _ l (by rw [← HN.out]; omega) hfit w1 (Ty.below _ (by have := HR.out; rw [HN.out] at this; exact this) hb)
  rw [← HN.out] at cc
  have hn13 : n1 ≤ 3 := by omega
  clear hmo2 hfit
  go_enter Tryz.func29, Tryz.ntmps29
  go_wp2_with (first | ((first | ((with_reducible refine st_gwT ?_ ?_); rfl) | ((with_reducible refine st_gwF ?_ ?_); rfl) | ((with_reducible refine st_gsT ?_ ?_); rfl) | ((with_reducible refine st_gsF ?_ ?_); rfl)); (try simp only [Act.put, yA, yB, yC, yD, yE, yF])) | ((with_reducible refine' st_guard ?_ ?_ ?_); rotate_left; rfl; (all_goals (intro hgd; cases hgd)); (try simp only [Act.put, yA, yB, yC, yD, yE, yF])) | ((with_reducible apply st_want); rfl) | ((with_reducible refine st_skip ?_ ?_); rfl; simp only [Act.put, yA, yB, yC, yD, yE, yF]) | ((first | ((with_reducible apply st_load1 H); decide +kernel; rfl; exact cF) | ((with_reducible apply st_loads H); decide +kernel; rfl; exact iF; exact zF; rfl) | ((with_reducible apply st_store H); rfl; exact eF; (focus (exact cells_agg _)); exact uF; kernel_rfl; (focus (exact Nat.le_of_ble_eq_true (by rfl))); (focus (first | rfl | simp))) | ((with_reducible apply st_storeown H); rfl; exact eF; (focus (exact (rfl : _ = [_]))); exact uF; (focus omega); kernel_rfl; rfl)); clear H; intro wn H; (try simp only [splice, yG, yH, yI, yJ, yK, yL, yM, yN, yO, yP, yQ, Nat.reduceAdd, yA, yB, yC] at H); simp only [Act.put, yA, yB, yC, yD, yE, yF]) | ((first | ((with_reducible apply st_box (dst := some 4) H); exact nF; intro b4) | ((with_reducible apply st_box (dst := some 5) H); exact nF; intro b5) | ((with_reducible apply st_alloc (dst := some 8) H); exact nF; intro b8) | ((with_reducible apply st_alloc (dst := some 9) H); exact nF; intro b9) | ((with_reducible apply st_strsum H); rfl; rfl; exact szF; kernel_rfl) | ((with_reducible apply st_bslice H); exact nsF; intro nb)); clear H; intro wn H; simp only [Act.put, yA, yB, yC, yD, yE, yF]) | ((with_reducible apply st_appendb H); (first | ((focus (with_reducible exact dH)); rfl) | ((focus (with_reducible exact dT (dH))); rfl) | ((focus (with_reducible exact dT (dT (dH)))); rfl) | ((focus (with_reducible exact dT (dT (dT (dH))))); rfl) | ((focus (with_reducible exact dT (dT (dT (dT (dH)))))); rfl) | ((focus (with_reducible exact dT (dT (dT (dT (dT (dH))))))); rfl) | ((focus (with_reducible exact dT (dT (dT (dT (dT (dT (dH)))))))); rfl)); rfl; exact iF; kernel_rfl; rfl; rfl; (focus (first | omega | (simp; done) | (simp; omega))); clear H; intro vq wn H; (try simp only [yM, yN, yO] at H); simp only [Act.put, yA, yB, yC, yD, yE, yF]) | ((with_reducible apply st_appendrb H); (first | ((focus (with_reducible exact dH)); rfl) | ((focus (with_reducible exact dT (dH))); rfl) | ((focus (with_reducible exact dT (dT (dH)))); rfl) | ((focus (with_reducible exact dT (dT (dT (dH))))); rfl) | ((focus (with_reducible exact dT (dT (dT (dT (dH)))))); rfl) | ((focus (with_reducible exact dT (dT (dT (dT (dT (dH))))))); rfl) | ((focus (with_reducible exact dT (dT (dT (dT (dT (dT (dH)))))))); rfl)); rfl; exact iF; kernel_rfl; rfl; rfl; (focus (first | omega | (simp; done) | (simp; omega))); clear H; intro vq wn H; (try simp only [yM, yN, yO] at H); simp only [Act.put, yA, yB, yC, yD, yE, yF]) | ((with_reducible apply st_loadat H); decide +kernel; rfl; exact aF; exact zF; rfl; clear H; intro wn H; simp only [Act.put, yA, yB, yC, yD, yE, yF]) | ((with_reducible apply st_storerow H); rfl; exact eF; (first | exact cells_agg _ | exact cellI | exact cellS | exact cellB | exact (rfl : _ = [_])); exact uF; kernel_rfl; exact Nat.succ_pos _; exact fitF; rfl; clear H; intro wn H; simp only [Act.put, yA, yB, yC, yD, yE, yF]) | ((first | (go_at_call 50; refine gvF (c1 _ H.below) H ?_) | (go_at_call 60; refine gvF (ill_s _ _) H ?_)); clear H; intro wn H) | ((with_reducible apply wp_region_hq (id := 5) H); kernel_rfl; kernel_rfl; (iterate 15 (all_goals ((with_reducible refine' hq_step ?_ ?_ ?_); rotate_left; rfl; (focus (intro w1 H1; first | (first | exact qF | exact qAF | exact qRF) | (exact qVF))); (try simp only [yG, yH, yJ, yK]); simp only [Act.put, yA, yB, yC, yD, yE, yF]))); all_goals (refine wpQuiet_nil ?_; clear H; intro wn H)) | fail)
  refine (Rets.use (cc _ H.below)).mono ?_; rintro e wn ⟨_, _, rfl, ⟨u, MM, rfl, hM, rfl⟩, hkk⟩; have Hn := H.moreK (by intro k hk; first | exact absurd hk List.not_mem_nil | (obtain rfl := List.mem_singleton.1 hk; exact In.mem iF)) hkk; clear hkk; clear H; have H := Hn; clear Hn; (try simp only [yT, yV] at H)
  have Hn := own_open hM H
  clear H
  obtain ⟨xs, M, A, ca, rfl, hO, hcm, H⟩ := Hn
  replace H : Hs noRow w (Hl.row 101 3 (.slice A l.length ca) l.length xs :: Hl.all M :: _) _ := H
  rw [← HN.out] at H hM ⊢
  obtain ⟨g9, c9, hv9, _⟩ := (H.rows .here).form (by omega)
  injection hv9 with hw1 hw2 hw3
  subst hw1 hw3
  clear hM hcm c1 cc hw2
  obtain ⟨x1, csb, x2, M1, Mi, M2, rfl, rfl, hx1, hO1, hOb, hO2⟩ := hO.at_ hb
  obtain ⟨a1, q1, J1, P1, rfl, rfl, j1, a2, a3, J2, J3, rfl, rfl, j2, j3⟩ := hOb
  obtain ⟨e1, he1⟩ : ∃ v, a1 = [v] := by obtain ⟨v, _, _, rfl, _⟩ := j1; exact ⟨v, rfl⟩
  obtain ⟨e2, he2⟩ : ∃ v, a2 = [v] := by obtain ⟨v, _, _, rfl, _⟩ := j2; exact ⟨v, rfl⟩
  obtain ⟨e3, he3⟩ : ∃ v, a3 = [v] := by obtain ⟨v, _, _, rfl, _⟩ := j3; exact ⟨v, rfl⟩
  subst he1 he2 he3
  have hx1' : x1.length = k * 3 := hx1
  have H2 := ((H.up1.part.up1.part).part3)
  clear H
  have Hn := own_open j1 H2
  clear H2
  obtain ⟨ys, K1, E1, f1, rfl, hK, _, H⟩ := Hn
  obtain rfl : K1 = [] := flat_noown hK
  obtain rfl : ys = flat encNum b.1 := ownL_flatE hK
  replace H : Hs noRow w (Hl.row 2 1 (.slice E1 b.1.length f1) b.1.length (flat encNum b.1) :: _) _ := H
  rw [← HN1.out] at H
  have hseg : Seg (x1 ++ (Value.slice E1 n1 f1 :: e2 :: e3 :: x2)) (k * 3) [Value.slice E1 n1 f1] := fun j u hu => by
    match j, hu with
    | 0, hu => exact seg_mid x1 [Value.slice E1 n1 f1, e2, e3] x2 hx1' 0 u hu
  have hfitr : k * 3 + 1 ≤ (x1 ++ (([Value.slice E1 n1 f1] ++ ([e2] ++ [e3])) ++ x2)).length := by rw [List.length_append, hx1']; simp
  have HO1 := Lib.hid hO1
  have HO2 := Lib.hid hO2
  have HJ2 := Lib.hid j2
  have HJ3 := Lib.hid j3
  have HB := Lib.hid hb
  clear hO1 hO2 j2 j3 hO hK j1 hx1 hb
  go_wp2_with (first | ((first | ((with_reducible refine st_gwT ?_ ?_); rfl) | ((with_reducible refine st_gwF ?_ ?_); rfl) | ((with_reducible refine st_gsT ?_ ?_); rfl) | ((with_reducible refine st_gsF ?_ ?_); rfl)); (try simp only [Act.put, yA, yB, yC, yD, yE, yF])) | ((with_reducible refine' st_guard ?_ ?_ ?_); rotate_left; rfl; (all_goals (intro hgd; cases hgd)); (try simp only [Act.put, yA, yB, yC, yD, yE, yF])) | ((with_reducible apply st_want); rfl) | ((with_reducible refine st_skip ?_ ?_); rfl; simp only [Act.put, yA, yB, yC, yD, yE, yF]) | ((first | ((with_reducible apply st_load1 H); decide +kernel; rfl; exact cF) | ((with_reducible apply st_loads H); decide +kernel; rfl; exact iF; exact zF; rfl) | ((with_reducible apply st_store H); rfl; exact eF; (focus (exact cells_agg _)); exact uF; kernel_rfl; (focus (exact Nat.le_of_ble_eq_true (by rfl))); (focus (first | rfl | simp))) | ((with_reducible apply st_storeown H); rfl; exact eF; (focus (exact (rfl : _ = [_]))); exact uF; (focus omega); kernel_rfl; rfl)); clear H; intro wn H; (try simp only [splice, yG, yH, yI, yJ, yK, yL, yM, yN, yO, yP, yQ, Nat.reduceAdd, yA, yB, yC] at H); simp only [Act.put, yA, yB, yC, yD, yE, yF]) | ((first | ((with_reducible apply st_box (dst := some 4) H); exact nF; intro b4) | ((with_reducible apply st_box (dst := some 5) H); exact nF; intro b5) | ((with_reducible apply st_alloc (dst := some 8) H); exact nF; intro b8) | ((with_reducible apply st_alloc (dst := some 9) H); exact nF; intro b9) | ((with_reducible apply st_strsum H); rfl; rfl; exact szF; kernel_rfl) | ((with_reducible apply st_bslice H); exact nsF; intro nb)); clear H; intro wn H; simp only [Act.put, yA, yB, yC, yD, yE, yF]) | ((with_reducible apply st_appendb H); (first | ((focus (with_reducible exact dH)); rfl) | ((focus (with_reducible exact dT (dH))); rfl) | ((focus (with_reducible exact dT (dT (dH)))); rfl) | ((focus (with_reducible exact dT (dT (dT (dH))))); rfl) | ((focus (with_reducible exact dT (dT (dT (dT (dH)))))); rfl) | ((focus (with_reducible exact dT (dT (dT (dT (dT (dH))))))); rfl) | ((focus (with_reducible exact dT (dT (dT (dT (dT (dT (dH)))))))); rfl)); rfl; exact iF; kernel_rfl; rfl; rfl; (focus (first | omega | (simp; done) | (simp; omega))); clear H; intro vq wn H; (try simp only [yM, yN, yO] at H); simp only [Act.put, yA, yB, yC, yD, yE, yF]) | ((with_reducible apply st_appendrb H); (first | ((focus (with_reducible exact dH)); rfl) | ((focus (with_reducible exact dT (dH))); rfl) | ((focus (with_reducible exact dT (dT (dH)))); rfl) | ((focus (with_reducible exact dT (dT (dT (dH))))); rfl) | ((focus (with_reducible exact dT (dT (dT (dT (dH)))))); rfl) | ((focus (with_reducible exact dT (dT (dT (dT (dT (dH))))))); rfl) | ((focus (with_reducible exact dT (dT (dT (dT (dT (dT (dH)))))))); rfl)); rfl; exact iF; kernel_rfl; rfl; rfl; (focus (first | omega | (simp; done) | (simp; omega))); clear H; intro vq wn H; (try simp only [yM, yN, yO] at H); simp only [Act.put, yA, yB, yC, yD, yE, yF]) | ((with_reducible apply st_loadat H); decide +kernel; rfl; exact aF; exact zF; rfl; clear H; intro wn H; simp only [Act.put, yA, yB, yC, yD, yE, yF]) | ((with_reducible apply st_storerow H); rfl; exact eF; (first | exact cells_agg _ | exact cellI | exact cellS | exact cellB | exact (rfl : _ = [_])); exact uF; kernel_rfl; exact Nat.succ_pos _; exact fitF; rfl; clear H; intro wn H; simp only [Act.put, yA, yB, yC, yD, yE, yF]) | ((first | (go_at_call 50; refine gvF (c1 _ H.below) H ?_) | (go_at_call 60; refine gvF (ill_s _ _) H ?_)); clear H; intro wn H) | ((with_reducible apply wp_region_hq (id := 5) H); kernel_rfl; kernel_rfl; (iterate 15 (all_goals ((with_reducible refine' hq_step ?_ ?_ ?_); rotate_left; rfl; (focus (intro w1 H1; first | (first | exact qF | exact qAF | exact qRF) | (exact qVF))); (try simp only [yG, yH, yJ, yK]); simp only [Act.put, yA, yB, yC, yD, yE, yF]))); all_goals (refine wpQuiet_nil ?_; clear H; intro wn H)) | fail)
  have Hn := H.tk (Tk.cons (k := (Hl.row 2 1 (.slice E1 n1 f1) n1 (flat encNum b.1))) dF (Tk.nil)); clear H; have H := Hn; clear Hn; apply wp_region_hs (K := []) (Spec.V _ :: Spec.V _ :: Spec.V _ :: Spec.V _ :: Spec.V _ :: Spec.V _ :: Spec.V _ :: Spec.V _ :: Spec.V _ :: Spec.V _ :: Spec.S _ _ _ :: Spec.W ((Hl.row 2 1 (.slice E1 n1 f1) n1 (flat encNum b.1))) _ :: []) 12 H rfl (by simp) (by kernel_rfl) (by kernel_rfl); intro vs Ls; (iterate 8 ((with_reducible apply wpH_V); (focus rfl); (focus rfl); (focus (intro w1 H1; exact oF)); simp only [Act.put, yA, yB, yC, yD, yE, yF]; (try simp only [yG, yH, yJ, yK]))); ((with_reducible apply wpH_V); (focus rfl); (focus rfl); (focus (intro w1 H1; (with_reducible apply ok_load1); (focus rfl); (focus decide +kernel); (focus exact (At.row H1 iF hseg).head rfl))); simp only [Act.put, yA, yB, yC, yD, yE, yF]); (iterate 1 ((with_reducible apply wpH_V); (focus rfl); (focus rfl); (focus (intro w1 H1; exact oF)); simp only [Act.put, yA, yB, yC, yD, yE, yF]; (try simp only [yG, yH, yJ, yK]))); (with_reducible apply wpH_S); (focus rfl); (focus rfl); (focus (intro hk w1 H1; unfold OpOk; go_simp; exact now_sl)); intro g10 hg10; simp only [Act.put, yA, yB, yC, yD, yE, yF]; (with_reducible apply (wpH_WD 10)); (focus rfl); (focus rfl); (focus decide +kernel); (focus decide); (focus (intro hok N w1 H1 H2; have hb : Blk w1 _ _ _ := H2.ok _ (List.mem_cons_of_mem _ (List.mem_append_left _ (List.mem_singleton.2 rfl))); rw [← hg10] at hb; exact app_W H1 rfl rfl (by kernel_rfl) (Rd.of_blk hb rfl (by unfold maxLen; omega)) (by rfl) (by omega))); simp only [Act.put, yA, yB, yC, yD, yE, yF]; refine wpH_0 ?_; intro hok wn Hn; (try simp only [yT, yU, yV, yW] at Hn); clear H; have H := Hn; clear Hn; (try simp only [← hg10]); clear hg10; have ht11 := okW (hok 11 (by decide)) rfl; clear hok; obtain ⟨A11, c11, e11, l11⟩ := ht11; simp only [e11, l11, yT, yU, yV] at H ⊢; clear e11 l11; (try simp only [cells_agg, cellI, cellS, cellB] at H); (try simp only [splice, yG, yH, yI, yJ, yK, yL, yM, yN, yO, yP, yQ, Nat.reduceAdd, yA, yB, yC] at H); rotate_left; (focus (refine locs ?_; intro vs1 vs2; (iterate 12 (refine all_lt_succ ?_ (by first | exact (fun _ => rfl) | exact (fun _ => ⟨rfl, rfl⟩) | (intro h; simp only [spec, Spec.same, yR, yS, Option.getD_some]; (try rw [h 10 (by decide +kernel)]); (try rw [h 11 (by decide +kernel)]); (first | done | exact ⟨rfl, rfl⟩ | exact ⟨trivial, rfl⟩ | exact ⟨rfl, trivial⟩))))); exact (fun k hk => absurd hk (Nat.not_lt_zero k))))
  go_wp2_with (first | ((first | ((with_reducible refine st_gwT ?_ ?_); rfl) | ((with_reducible refine st_gwF ?_ ?_); rfl) | ((with_reducible refine st_gsT ?_ ?_); rfl) | ((with_reducible refine st_gsF ?_ ?_); rfl)); (try simp only [Act.put, yA, yB, yC, yD, yE, yF])) | ((with_reducible refine' st_guard ?_ ?_ ?_); rotate_left; rfl; (all_goals (intro hgd; cases hgd)); (try simp only [Act.put, yA, yB, yC, yD, yE, yF])) | ((with_reducible apply st_want); rfl) | ((with_reducible refine st_skip ?_ ?_); rfl; simp only [Act.put, yA, yB, yC, yD, yE, yF]) | ((first | ((with_reducible apply st_load1 H); decide +kernel; rfl; exact cF) | ((with_reducible apply st_loads H); decide +kernel; rfl; exact iF; exact zF; rfl) | ((with_reducible apply st_store H); rfl; exact eF; (focus (exact cells_agg _)); exact uF; kernel_rfl; (focus (exact Nat.le_of_ble_eq_true (by rfl))); (focus (first | rfl | simp))) | ((with_reducible apply st_storeown H); rfl; exact eF; (focus (exact (rfl : _ = [_]))); exact uF; (focus omega); kernel_rfl; rfl)); clear H; intro wn H; (try simp only [splice, yG, yH, yI, yJ, yK, yL, yM, yN, yO, yP, yQ, Nat.reduceAdd, yA, yB, yC] at H); simp only [Act.put, yA, yB, yC, yD, yE, yF]) | ((first | ((with_reducible apply st_box (dst := some 4) H); exact nF; intro b4) | ((with_reducible apply st_box (dst := some 5) H); exact nF; intro b5) | ((with_reducible apply st_alloc (dst := some 8) H); exact nF; intro b8) | ((with_reducible apply st_alloc (dst := some 9) H); exact nF; intro b9) | ((with_reducible apply st_strsum H); rfl; rfl; exact szF; kernel_rfl) | ((with_reducible apply st_bslice H); exact nsF; intro nb)); clear H; intro wn H; simp only [Act.put, yA, yB, yC, yD, yE, yF]) | ((with_reducible apply st_appendb H); (first | ((focus (with_reducible exact dH)); rfl) | ((focus (with_reducible exact dT (dH))); rfl) | ((focus (with_reducible exact dT (dT (dH)))); rfl) | ((focus (with_reducible exact dT (dT (dT (dH))))); rfl) | ((focus (with_reducible exact dT (dT (dT (dT (dH)))))); rfl) | ((focus (with_reducible exact dT (dT (dT (dT (dT (dH))))))); rfl) | ((focus (with_reducible exact dT (dT (dT (dT (dT (dT (dH)))))))); rfl)); rfl; exact iF; kernel_rfl; rfl; rfl; (focus (first | omega | (simp; done) | (simp; omega))); clear H; intro vq wn H; (try simp only [yM, yN, yO] at H); simp only [Act.put, yA, yB, yC, yD, yE, yF]) | ((with_reducible apply st_appendrb H); (first | ((focus (with_reducible exact dH)); rfl) | ((focus (with_reducible exact dT (dH))); rfl) | ((focus (with_reducible exact dT (dT (dH)))); rfl) | ((focus (with_reducible exact dT (dT (dT (dH))))); rfl) | ((focus (with_reducible exact dT (dT (dT (dT (dH)))))); rfl) | ((focus (with_reducible exact dT (dT (dT (dT (dT (dH))))))); rfl) | ((focus (with_reducible exact dT (dT (dT (dT (dT (dT (dH)))))))); rfl)); rfl; exact iF; kernel_rfl; rfl; rfl; (focus (first | omega | (simp; done) | (simp; omega))); clear H; intro vq wn H; (try simp only [yM, yN, yO] at H); simp only [Act.put, yA, yB, yC, yD, yE, yF]) | ((with_reducible apply st_loadat H); decide +kernel; rfl; exact aF; exact zF; rfl; clear H; intro wn H; simp only [Act.put, yA, yB, yC, yD, yE, yF]) | ((with_reducible apply st_storerow H); rfl; exact eF; (first | exact cells_agg _ | exact cellI | exact cellS | exact cellB | exact (rfl : _ = [_])); exact uF; kernel_rfl; exact Nat.succ_pos _; exact fitF; rfl; clear H; intro wn H; simp only [Act.put, yA, yB, yC, yD, yE, yF]) | ((first | (go_at_call 50; refine gvF (c1 _ H.below) H ?_) | (go_at_call 60; refine gvF (ill_s _ _) H ?_)); clear H; intro wn H) | ((with_reducible apply wp_region_hq (id := 5) H); kernel_rfl; kernel_rfl; (iterate 15 (all_goals ((with_reducible refine' hq_step ?_ ?_ ?_); rotate_left; rfl; (focus (intro w1 H1; first | (first | exact qF | exact qAF | exact qRF) | (exact qVF))); (try simp only [yG, yH, yJ, yK]); simp only [Act.put, yA, yB, yC, yD, yE, yF]))); all_goals (refine wpQuiet_nil ?_; clear H; intro wn H)) | fail)
  refine bp_cell H rfl rfl iF (by kernel_rfl) (by kernel_rfl) rfl (by first | exact .inl rfl | exact .inr rfl) ?_
  rw [HMO.out]
  have hkl : k < l.length := by rw [← HN.out]; exact hk
  have hset : l.set k (layBo b x) = (l.take k ++ [layBo b x]) ++ l.drop (k + 1) := by rw [List.set_eq_take_append_cons_drop, if_pos hkl]; simp
  have hown : tyBo.own ([.slice A11 (n1 + 1) c11] ++ ([e2] ++ [e3])) (layBo b x) ([Hl.row 2 1 (.slice A11 (n1 + 1) c11) (n1 + 1) (flat encNum b.1 ++ [.int .i64 x])] ++ (J2 ++ J3)) :=
    ⟨[_], [_, _], _, _, rfl, rfl, own_num (by show _ = flat encNum (b.1 ++ [x]); rw [flat_append]; rfl) (by show _ = (b.1 ++ [x]).length; rw [List.length_append, ← HN1.out]; rfl) rfl, [_], [_], _, _, rfl, rfl, HJ2.out, HJ3.out⟩
  have hO3 := (HO1.out.snoc hown).append HO2.out
  rw [← hset] at hO3
  have hspl := spl_one x1 x2 (.bool false) [Value.slice E1 n1 f1, e2, e3] (.slice A11 (n1 + 1) c11) hx1' (j := 0) (by simp)
  have H0 := H.sel (M := [Hl.row 2 1 (.slice A11 (n1 + 1) c11) (n1 + 1) (flat encNum b.1 ++ [.int .i64 x]), Hl.all J2, Hl.all J3, Hl.all M1, Hl.all M2, Hl.row 101 3 (.slice (some ⟨g9, 0, none⟩) n ca) n _]) sF
  have H1 := (Hs.pack (M := [Hl.row 2 1 (.slice A11 (n1 + 1) c11) (n1 + 1) (flat encNum b.1 ++ [.int .i64 x])]) H0).join3.up1.join.join.up1
  rw [show spl (x1 ++ Value.slice E1 n1 f1 :: e2 :: e3 :: x2) (k * 3) [.slice A11 (n1 + 1) c11] = (x1 ++ ([.slice A11 (n1 + 1) c11] ++ ([e2] ++ [e3]))) ++ x2 from hspl.trans (by simp)] at H1
  exact ret_mail hO3 H1 (by rw [List.length_set]; exact HN.out) 0
end Go.Proofs.YtengmmffommafaaGreat
