/-
  A word sent into a box, in the program and in the reference: the walks. Printed by genSd.py.
-/
import Derived.Test.YteeafechjkilkaaGreatLa
import Derived.Test.YteeafechjkilkaaGreatCq
set_option linter.unusedSimpArgs false
set_option linter.unusedVariables false
namespace Go.Proofs.YteeafechjkilkaaGreat
open Go.RowKit M
namespace M
def lastAft (l : List Nt) (now : Int) : Bool := match l.getLast? with
  | some y => decide (now < y.1)
  | none => false
def sendBo (b : Bo) (x now : Int) : Bo := (b.1 ++ [x], b.2.1, b.2.2 ++ [(now, x)])
def sendAt (pr : List Pr) (m : List Bo) (k : Nat) (x now : Int) : MO := match m[k]? with
  | some b => match pr[k]? with
    | some r => if lastAft b.2.2 now then ([], 1) else if r.2.2 ≤ b.1.length then ([], 8) else if 12 ≤ b.2.2.length then ([], 9) else (m.set k (sendBo b x now), 0)
    | none => ([], 11)
  | none => ([], 11)
def mailSend (c : Cfg) (m : List Bo) (p q : Lab) (x now : Int) : MO := if mailOk c m && isIn now 0 999900 then (if idxF (prEq p q) 0 c.2.1 < 0 then ([], 11) else sendAt c.2.1 m (idxF (prEq p q) 0 c.2.1).toNat x now) else ([], 1)
theorem last_at {l : List Nt} {j : Nat} {y : Nt} (h : l[j]? = some y) (hl : l.length = j + 1) (t : Int) : lastAft l t = decide (t < y.1) := by
  unfold lastAft
  rw [List.getLast?_eq_getElem?, hl, Nat.add_sub_cancel, h]
end M
theorem own_nt {v : Value} {n : Nat} {xs : List Value} {l : List Nt} (hx : xs = flat encNt l) (hn : n = l.length) (h1 : v.oneCell' = true) : (Ty.sl 116 tyNt).own [v] l [Hl.row 116 2 v n xs] := by
  subst hx hn
  exact ⟨v, flat encNt l, [], rfl, ownL_flat l, rfl, h1⟩
set_option maxRecDepth 100000 in
set_option maxHeartbeats 8000000 in
theorem mailSend_i (c : Cfg) (cs : List Value) (v : Value) (l : List Bo) (p q : Lab) (x t : Int) (w : World) (hrc : tyCfg.rd w cs c) (hr : (Ty.sl 114 tyBo).rd w [v] l) :
    Rets Tryz.prog [] 15 #[.agg cs.toArray, .agg #[v], .agg #[.int .i64 p.1, .int .i64 p.2], .agg #[.int .i64 q.1, .int .i64 q.2], .int .i64 x, .int .i64 t] w (tAgg tyMO (mailSend c l p q x t)) := by
  have c1 := fun w1 hb => mailRight_i c cs v l w1 (Ty.below _ hrc hb) (Ty.below _ hr hb)
  have c2 : mailOk c l = true → ∀ w1, Below w.heap.size w w1 → Gives Tryz.prog 60 #[.agg cs.toArray, .agg #[.int .i64 p.1, .int .i64 p.2], .agg #[.int .i64 q.1, .int .i64 q.2]] w1 (.int .i64 (idxF (prEq p q) 0 c.2.1)) := fun h w1 hb => pairAt_i c cs p q w1 (Ty.below _ hrc hb)
  have hmf := @mail_facts c l
  have hmt := @mail_fits c l
  have hmr := fun h k b r => @mail_rate c l h k b r
  have hix := @idxF_lt _ (prEq p q) c.2.1 0
  obtain ⟨v1, v2, v3, rfl, h1, h2, h3⟩ := cfg_form hrc
  obtain ⟨nd, pr, qt, hf⟩ := c
  obtain ⟨p1, p2⟩ := p
  obtain ⟨q1, q2⟩ := q
  simp only at h1 h2 h3 hmf hmr hix
  replace c1 : ∀ w1, Below w.heap.size w w1 → Gives Tryz.prog 58 #[.agg #[v1, v2, v3, .int .i64 hf], .agg #[v]] w1 (.bool (mailOk (nd, pr, qt, hf) l)) := c1
  replace c2 : mailOk (nd, pr, qt, hf) l = true → ∀ w1, Below w.heap.size w w1 → Gives Tryz.prog 60 #[.agg #[v1, v2, v3, .int .i64 hf], .agg #[.int .i64 p1, .int .i64 p2], .agg #[.int .i64 q1, .int .i64 q2]] w1 (.int .i64 (idxF (prEq (p1, p2) (q1, q2)) 0 pr)) := c2
  show Rets Tryz.prog [] _ #[.agg #[v1, v2, v3, .int .i64 hf], .agg #[v], .agg #[.int .i64 p1, .int .i64 p2], .agg #[.int .i64 q1, .int .i64 q2], .int .i64 x, .int .i64 t] w _
  obtain ⟨mo, hmo⟩ : ∃ mo, mo = mailSend (nd, pr, qt, hf) l (p1, p2) (q1, q2) x t := ⟨_, rfl⟩
  rw [← hmo]
  have hmo2 : mo = if (mailOk (nd, pr, qt, hf) l && isIn t 0 999900) = true then (if idxF (prEq (p1, p2) (q1, q2)) 0 pr < 0 then ([], 11) else sendAt pr l (idxF (prEq (p1, p2) (q1, q2)) 0 pr).toNat x t) else ([], 1) := hmo
  clear hmo hrc h1 h3
  generalize mailOk (nd, pr, qt, hf) l = z at *
  generalize idxF (prEq (p1, p2) (q1, q2)) 0 pr = ix at *
  have c3 := fun w1 => isNow_i t w1
  generalize isIn t 0 999900 = zt at *
  obtain ⟨B, cb, rfl, hlb, hbm⟩ := sl_form h2
  obtain ⟨A0, ca0, rfl, hla, ham⟩ := sl_form hr
  obtain ⟨n, hn⟩ : ∃ n, n = l.length := ⟨_, rfl⟩
  obtain ⟨m, hm⟩ : ∃ m, m = pr.length := ⟨_, rfl⟩
  rw [← hn] at hr c1 hmf ⊢
  rw [← hm] at h2 c1 c2 hmf hix ⊢
  have HR := Lib.hid hr
  have HP := Lib.hid h2
  have HN := Lib.hid hn
  have HM := Lib.hid hm
  clear hr h2 hlb hbm hla ham hn hm
  have H := Hs.start noRow w
  refine Rets.of ?_
  have d1 : (z = false ∧ Hid (mo = ([], 1))) ∨ (z = true ∧ mo = if zt = true then (if ix < 0 then ([], 11) else sendAt pr l ix.toNat x t) else ([], 1)) := by
    cases z
    · exact .inl ⟨rfl, Lib.hid hmo2⟩
    · exact .inr ⟨rfl, by rw [hmo2]; cases zt <;> rfl⟩
  clear hmo2
  rcases d1 with ⟨rfl, HMO⟩ | ⟨rfl, hmo2⟩
  rotate_left
  have d2 : (zt = false ∧ Hid (mo = ([], 1))) ∨ (zt = true ∧ mo = if ix < 0 then ([], 11) else sendAt pr l ix.toNat x t) := by
    cases zt
    · exact .inl ⟨rfl, Lib.hid hmo2⟩
    · exact .inr ⟨rfl, hmo2⟩
  clear hmo2
  rcases d2 with ⟨rfl, HMO⟩ | ⟨rfl, hmo2⟩
  rotate_left
  have c4 := c2 rfl
  have hnm := (hmf rfl).2.1
  have hm4 := (hmf rfl).2.2.1
  subst hnm
  have hfit := hmt rfl
  have hrate := hmr rfl
  have h12 := (hmf rfl).2.2.2
  clear hmf hmt hmr c2
  have d3 : (ix < 0 ∧ Hid (mo = ([], 11))) ∨ (¬ ix < 0 ∧ mo = sendAt pr l ix.toNat x t) := by
    by_cases h : ix < 0
    · exact .inl ⟨h, Lib.hid (by rw [hmo2, if_pos h])⟩
    · exact .inr ⟨h, by rw [hmo2, if_neg h]⟩
  clear hmo2
  rcases d3 with ⟨hix0, HMO⟩ | ⟨hix0, hmo2⟩
  rotate_left
  obtain ⟨k, rfl⟩ : ∃ k : Nat, ix = k := ⟨ix.toNat, by omega⟩
  rw [Int.toNat_natCast] at hmo2
  have hk : k < n := by omega
  have hk1 : (k : Int) < n := by omega
  have hk2 : ¬ (k : Int) < 0 := by omega
  clear hix hix0
  obtain ⟨b, hb⟩ : ∃ b, l[k]? = some b := ⟨l[k]'(by rw [← HN.out]; exact hk), List.getElem?_eq_getElem (by rw [← HN.out]; exact hk)⟩
  obtain ⟨r, hr⟩ : ∃ r, pr[k]? = some r := ⟨pr[k]'(by rw [← HM.out]; exact hk), List.getElem?_eq_getElem (by rw [← HM.out]; exact hk)⟩
  have hrt := hrate k b r hb hr
  have hl12 := h12 k b hb
  unfold sendAt at hmo2
  rw [hb] at hmo2
  simp only [hr] at hmo2
  have hs := sl_at (by have := HR.out; rw [HN.out] at this; exact this) hb
  rw [← HN.out] at hs
  obtain ⟨g6, off6, c6, cs6, hv, hcs, hA⟩ := hs
  injection hv with hv1 hv2 hv3
  subst hv1 hv3
  obtain ⟨u1, u2, u3, hu, g1, g2, g3⟩ := bo_form hcs
  subst hu
  have hs2 := sl_at (by have := HP.out; rw [HM.out] at this; exact this) hr
  rw [← HM.out] at hs2
  obtain ⟨d, dff, c2, cs2, hw, hcs2, hB⟩ := hs2
  injection hw with hw1 hw2 hw3
  subst hw1 hw3
  obtain rfl : cs2 = encPr r := hcs2
  obtain ⟨⟨r1, r2⟩, ⟨r3, r4⟩, rt⟩ := r
  simp only at hrt hmo2
  have h4 : w.cell? ⟨d, dff + k * 5 + 4, none⟩ = some (.int .i64 rt) := hB 4 _ rfl
  obtain ⟨D1, d1, rfl, _, _⟩ := sl_form g1
  obtain ⟨D2, d2, rfl, _, _⟩ := sl_form g2
  obtain ⟨D3, d3, rfl, hld3, hdm3⟩ := sl_form g3
  replace hA : At w g6 (off6 + k * 3) [.slice D1 b.1.length d1, .slice D2 b.2.1.length d2, .slice D3 b.2.2.length d3] := hA
  obtain ⟨n2, hn2⟩ : ∃ n2, n2 = b.2.1.length := ⟨_, rfl⟩
  rw [← hn2] at hA
  obtain ⟨n1, hn1⟩ : ∃ n1, n1 = b.1.length := ⟨_, rfl⟩
  rw [← hn1] at hmo2 hrt hA
  have HN1 := Lib.hid hn1
  have key : (b.2.2.length = 0 ∧ mo = if rt ≤ n1 then ([], 8) else if 12 ≤ b.2.2.length then ([], 9) else (l.set k (sendBo b x t), 0)) ∨ (∃ (j : Nat) (y1 : Int) (G : Nat) (o : Nat), b.2.2.length = j + 1 ∧ D3 = some ⟨G, o, none⟩ ∧ w.cell? ⟨G, o + j * 2, none⟩ = some (.int .i64 y1) ∧ ¬ t < y1 ∧ mo = if rt ≤ n1 then ([], 8) else if 12 ≤ b.2.2.length then ([], 9) else (l.set k (sendBo b x t), 0)) ∨ (∃ (j : Nat) (y1 : Int) (G : Nat) (o : Nat), b.2.2.length = j + 1 ∧ D3 = some ⟨G, o, none⟩ ∧ w.cell? ⟨G, o + j * 2, none⟩ = some (.int .i64 y1) ∧ t < y1 ∧ Hid (mo = ([], 1))) := by
    cases e : b.2.2.length with
    | zero => exact .inl ⟨rfl, by rw [hmo2, show lastAft b.2.2 t = false by rw [List.eq_nil_of_length_eq_zero e]; rfl, e]; rfl⟩
    | succ j =>
      refine .inr ?_
      obtain ⟨y, hy⟩ : ∃ y, b.2.2[j]? = some y := ⟨b.2.2[j]'(by omega), List.getElem?_eq_getElem (by omega)⟩
      obtain ⟨G, o, c', cs', e', hcs', hA'⟩ := sl_at g3 hy
      injection e' with e1 e2 e3
      obtain rfl : cs' = encNt y := hcs'
      by_cases hl : t < y.1
      · exact .inr ⟨j, y.1, G, o, rfl, e1, hA'.head (u := .int .i64 y.1) rfl, hl, Lib.hid (by rw [hmo2, show lastAft b.2.2 t = true by rw [last_at hy e t]; simp [hl]]; rfl)⟩
      · exact .inl ⟨j, y.1, G, o, rfl, e1, hA'.head (u := .int .i64 y.1) rfl, hl, by rw [hmo2, show lastAft b.2.2 t = false by rw [last_at hy e t]; simp [hl], e]; rfl⟩
  clear hmo2
  obtain ⟨n3, hn3⟩ : ∃ n3, n3 = b.2.2.length := ⟨_, rfl⟩
  rw [← hn3] at hA key hl12
  have HN3 := Lib.hid hn3
  obtain ⟨N3, hN3⟩ : ∃ N3, N3 = n3 := ⟨_, rfl⟩
  rw [← hN3] at HN3 hl12
  clear hr hv2 hw2 hcs hB g1 g2 g3 hn1 hn2 hn3 hrate h12 hld3 hdm3
  rcases key with ⟨h30, hmo2⟩ | ⟨j, y1, G8, o8, h31, rfl, h8, hlate, hmo2⟩ | ⟨j, y1, G8, o8, h31, rfl, h8, hlate, HMO⟩
  iterate 2 (
    rw [← hN3] at hmo2
    first | subst h30 | subst h31
    (try have hpos : (0 : Int) < (j : Int) + 1 := by omega)
    (try have hlt2 : (j : Int) < (j + 1 : Nat) := by omega)
    (try have hlt3 : j < j + 1 := by omega)
    (try have hj12 : j ≤ 11 := by omega)
    have d5 : (rt ≤ n1 ∧ Hid (mo = ([], 8))) ∨ (¬ rt ≤ n1 ∧ mo = if 12 ≤ N3 then ([], 9) else (l.set k (sendBo b x t), 0)) := by
      by_cases h : rt ≤ n1
      · exact .inl ⟨h, Lib.hid (by rw [hmo2, if_pos h])⟩
      · exact .inr ⟨h, by rw [hmo2, if_neg h]⟩
    clear hmo2
    rcases d5 with ⟨hfull, HMO⟩ | ⟨hfull, hmo2⟩
    rotate_left
    have hless : ((n1 : Int) == rt) = false := (by simp; omega)
    have d6 : (12 ≤ N3 ∧ Hid (mo = ([], 9))) ∨ (¬ 12 ≤ N3 ∧ mo = (l.set k (sendBo b x t), 0)) := by
      by_cases h : 12 ≤ N3
      · exact .inl ⟨h, Lib.hid (by rw [hmo2, if_pos h])⟩
      · exact .inr ⟨h, by rw [hmo2, if_neg h]⟩
    clear hmo2
    rcases d6 with ⟨h12, HMO⟩ | ⟨h12, hmo2⟩
    rotate_left
    · skip
      (try have hq12 : ¬ (12 : Int) ≤ (j : Int) + 1 := by omega)
      (try have hq12b : (((j : Int) + 1) == 12) = false := by simp; omega)
      (try have hq12c : ¬ 12 ≤ j + 1 := by omega)
      have hN3b := Lib.hid hN3
      clear hN3
      have HMO : Hid (mo = (l.set k (sendBo b x t), 0)) := Lib.hid hmo2
      clear hmo2
      have cc := fun w1 hb => copyMail_i _ l (by rw [← HN.out]; omega) hfit w1 (Ty.below _ (by have := HR.out; rw [HN.out] at this; exact this) hb)
      rw [← HN.out] at cc
      have hn13 : n1 ≤ 3 := by omega
      clear hfit
      go_enter Tryz.func15, Tryz.ntmps15
      go_wp2_with (first | ((first | ((with_reducible refine st_gwT ?_ ?_); rfl) | ((with_reducible refine st_gwF ?_ ?_); rfl) | ((with_reducible refine st_gsT ?_ ?_); rfl) | ((with_reducible refine st_gsF ?_ ?_); rfl)); (try simp only [Act.put, yA, yB, yC, yD, yE, yF])) | ((with_reducible refine' st_guard ?_ ?_ ?_); rotate_left; rfl; (all_goals (intro hgd; cases hgd)); (try simp only [Act.put, yA, yB, yC, yD, yE, yF])) | ((with_reducible apply st_want); rfl) | ((with_reducible refine st_skip ?_ ?_); rfl; simp only [Act.put, yA, yB, yC, yD, yE, yF]) | ((first | ((with_reducible apply st_load1 H); decide +kernel; rfl; exact cF) | ((with_reducible apply st_loads H); decide +kernel; rfl; exact iF; exact zF; rfl) | ((with_reducible apply st_store H); rfl; exact eF; (focus (exact cells_agg _)); exact uF; kernel_rfl; (focus (exact Nat.le_of_ble_eq_true (by rfl))); (focus (first | rfl | simp))) | ((with_reducible apply st_storeown H); rfl; exact eF; (focus (exact (rfl : _ = [_]))); exact uF; (focus omega); kernel_rfl; rfl)); clear H; intro wn H; (try simp only [splice, yG, yH, yI, yJ, yK, yL, yM, yN, yO, yP, yQ, Nat.reduceAdd, yA, yB, yC] at H); simp only [Act.put, yA, yB, yC, yD, yE, yF]) | ((first | ((with_reducible apply st_box (dst := some 6) H); exact nF; intro b6) | ((with_reducible apply st_box (dst := some 7) H); exact nF; intro b7) | ((with_reducible apply st_box (dst := some 8) H); exact nF; intro b8) | ((with_reducible apply st_box (dst := some 9) H); exact nF; intro b9) | ((with_reducible apply st_alloc (dst := some 12) H); exact nF; intro b12) | ((with_reducible apply st_alloc (dst := some 14) H); exact nF; intro b14) | ((with_reducible apply st_alloc (dst := some 15) H); exact nF; intro b15) | ((with_reducible apply st_strsum H); rfl; rfl; exact szF; kernel_rfl) | ((with_reducible apply st_bslice H); exact nsF; intro nb) | ((with_reducible apply st_loadat H); decide +kernel; rfl; exact aF; exact zF; rfl) | ((with_reducible apply st_storerow H); rfl; exact eF; (first | exact cells_agg _ | exact cellI | exact cellS | exact cellB | exact (rfl : _ = [_])); exact uF; kernel_rfl; exact Nat.succ_pos _; exact fitF; rfl)); clear H; intro wn H; simp only [Act.put, yA, yB, yC, yD, yE, yF]) | ((with_reducible apply st_appendb H); (first | ((focus (with_reducible exact dH)); rfl) | ((focus (with_reducible exact dT (dH))); rfl) | ((focus (with_reducible exact dT (dT (dH)))); rfl) | ((focus (with_reducible exact dT (dT (dT (dH))))); rfl) | ((focus (with_reducible exact dT (dT (dT (dT (dH)))))); rfl) | ((focus (with_reducible exact dT (dT (dT (dT (dT (dH))))))); rfl) | ((focus (with_reducible exact dT (dT (dT (dT (dT (dT (dH)))))))); rfl)); rfl; exact iF; kernel_rfl; rfl; rfl; (focus (first | omega | (simp; done) | (simp; omega))); clear H; intro vq wn H; (try simp only [yM, yN, yO] at H); simp only [Act.put, yA, yB, yC, yD, yE, yF]) | ((with_reducible apply st_appendrb H); (first | ((focus (with_reducible exact dH)); rfl) | ((focus (with_reducible exact dT (dH))); rfl) | ((focus (with_reducible exact dT (dT (dH)))); rfl) | ((focus (with_reducible exact dT (dT (dT (dH))))); rfl) | ((focus (with_reducible exact dT (dT (dT (dT (dH)))))); rfl) | ((focus (with_reducible exact dT (dT (dT (dT (dT (dH))))))); rfl) | ((focus (with_reducible exact dT (dT (dT (dT (dT (dT (dH)))))))); rfl)); rfl; exact iF; kernel_rfl; rfl; rfl; (focus (first | omega | (simp; done) | (simp; omega))); clear H; intro vq wn H; (try simp only [yM, yN, yO] at H); simp only [Act.put, yA, yB, yC, yD, yE, yF]) | ((first | (go_at_call 58; refine gvF (c1 _ H.below) H ?_) | (go_at_call 59; refine gvF (c3 _) H ?_) | (go_at_call 60; refine gvF (c4 _ H.below) H ?_)); clear H; intro wn H) | ((with_reducible apply wp_region_hq (id := 9) H); kernel_rfl; kernel_rfl; (iterate 11 (all_goals ((with_reducible refine' hq_step ?_ ?_ ?_); rotate_left; rfl; (focus (intro w1 H1; first | (first | exact qF | exact qAF | exact qRF) | (exact qVF))); (try simp only [yG, yH, yJ, yK]); simp only [Act.put, yA, yB, yC, yD, yE, yF]))); all_goals (refine wpQuiet_nil ?_; clear H; intro wn H)) | fail)
      refine (Rets.use (cc _ H.below)).mono ?_; rintro e wn ⟨_, _, rfl, ⟨u, MM, rfl, hM, rfl⟩, hkk⟩; have Hn := H.moreK (by intro k hk; first | exact absurd hk List.not_mem_nil | (obtain rfl := List.mem_singleton.1 hk; exact In.mem iF)) hkk; clear hkk; clear H; have H := Hn; clear Hn; (try simp only [yT, yV] at H)
      have Hn := own_open hM H
      clear H
      obtain ⟨xs, M, A, ca, rfl, hO, hcm, H⟩ := Hn
      replace H : Hs noRow w (Hl.row 114 3 (.slice A l.length ca) l.length xs :: Hl.all M :: _) _ := H
      rw [← HN.out] at H hM ⊢
      obtain ⟨g9, c9, hv9, _⟩ := (H.rows .here).form (by omega)
      injection hv9 with hw1 hw2 hw3
      subst hw1 hw3
      clear hM hcm c1 c3 c4 cc hw2
      obtain ⟨x1, csb, x2, M1, Mi, M2, rfl, rfl, hx1, hO1, hOb, hO2⟩ := hO.at_ hb
      obtain ⟨a1, w1', J1, P1, rfl, rfl, j1, a2, a3, J2, J3, rfl, rfl, j2, j3⟩ := hOb
      obtain ⟨e1, he1⟩ : ∃ v, a1 = [v] := by obtain ⟨v, _, _, rfl, _⟩ := j1; exact ⟨v, rfl⟩
      obtain ⟨e2, he2⟩ : ∃ v, a2 = [v] := by obtain ⟨v, _, _, rfl, _⟩ := j2; exact ⟨v, rfl⟩
      obtain ⟨e3, he3⟩ : ∃ v, a3 = [v] := by obtain ⟨v, _, _, rfl, _⟩ := j3; exact ⟨v, rfl⟩
      subst he1 he2 he3
      have hx1' : x1.length = k * 3 := hx1
      have H2 := ((H.up1.part.up1.part).part3)
      clear H
      have Hn := own_open j1 H2
      clear H2
      obtain ⟨ys, K1, E1, f1, rfl, hK, _, H⟩ := Hn
      obtain rfl : K1 = [] := flat_noown hK
      obtain rfl : ys = flat encNum b.1 := ownL_flatE hK
      replace H : Hs noRow w (Hl.row 2 1 (.slice E1 b.1.length f1) b.1.length (flat encNum b.1) :: _) _ := H
      have Hn := own_open j3 (H.reperm (Del.perm (h := Hl.all J3) dF))
      clear H
      obtain ⟨zs, K3, E3, f3, rfl, hK3, hf3, H⟩ := Hn
      obtain rfl : K3 = [] := flat_noown hK3
      obtain rfl : zs = flat encNt b.2.2 := ownL_flatE hK3
      replace H : Hs noRow w (Hl.row 116 2 (.slice E3 b.2.2.length f3) b.2.2.length (flat encNt b.2.2) :: _) _ := H
      rw [← HN3.out] at H
      rw [← HN1.out] at H
      have hseg : Seg (x1 ++ (Value.slice E1 n1 f1 :: e2 :: Value.slice E3 N3 f3 :: x2)) (k * 3) [Value.slice E1 n1 f1] := fun j u hu => by
        match j, hu with
        | 0, hu => exact seg_mid x1 [Value.slice E1 n1 f1, e2, Value.slice E3 N3 f3] x2 hx1' 0 u hu
      have hfitr : k * 3 + 1 ≤ (x1 ++ (([Value.slice E1 n1 f1] ++ ([e2] ++ [Value.slice E3 N3 f3])) ++ x2)).length := by rw [List.length_append, hx1']; simp
      have HO1 := Lib.hid hO1
      have HO2 := Lib.hid hO2
      have HJ2 := Lib.hid j2
      have HB := Lib.hid hb
      clear hO1 hO2 j2 j3 hO hK hK3 j1 hx1 hb
      go_wp2_with (first | ((first | ((with_reducible refine st_gwT ?_ ?_); rfl) | ((with_reducible refine st_gwF ?_ ?_); rfl) | ((with_reducible refine st_gsT ?_ ?_); rfl) | ((with_reducible refine st_gsF ?_ ?_); rfl)); (try simp only [Act.put, yA, yB, yC, yD, yE, yF])) | ((with_reducible refine' st_guard ?_ ?_ ?_); rotate_left; rfl; (all_goals (intro hgd; cases hgd)); (try simp only [Act.put, yA, yB, yC, yD, yE, yF])) | ((with_reducible apply st_want); rfl) | ((with_reducible refine st_skip ?_ ?_); rfl; simp only [Act.put, yA, yB, yC, yD, yE, yF]) | ((first | ((with_reducible apply st_load1 H); decide +kernel; rfl; exact cF) | ((with_reducible apply st_loads H); decide +kernel; rfl; exact iF; exact zF; rfl) | ((with_reducible apply st_store H); rfl; exact eF; (focus (exact cells_agg _)); exact uF; kernel_rfl; (focus (exact Nat.le_of_ble_eq_true (by rfl))); (focus (first | rfl | simp))) | ((with_reducible apply st_storeown H); rfl; exact eF; (focus (exact (rfl : _ = [_]))); exact uF; (focus omega); kernel_rfl; rfl)); clear H; intro wn H; (try simp only [splice, yG, yH, yI, yJ, yK, yL, yM, yN, yO, yP, yQ, Nat.reduceAdd, yA, yB, yC] at H); simp only [Act.put, yA, yB, yC, yD, yE, yF]) | ((first | ((with_reducible apply st_box (dst := some 6) H); exact nF; intro b6) | ((with_reducible apply st_box (dst := some 7) H); exact nF; intro b7) | ((with_reducible apply st_box (dst := some 8) H); exact nF; intro b8) | ((with_reducible apply st_box (dst := some 9) H); exact nF; intro b9) | ((with_reducible apply st_alloc (dst := some 12) H); exact nF; intro b12) | ((with_reducible apply st_alloc (dst := some 14) H); exact nF; intro b14) | ((with_reducible apply st_alloc (dst := some 15) H); exact nF; intro b15) | ((with_reducible apply st_strsum H); rfl; rfl; exact szF; kernel_rfl) | ((with_reducible apply st_bslice H); exact nsF; intro nb) | ((with_reducible apply st_loadat H); decide +kernel; rfl; exact aF; exact zF; rfl) | ((with_reducible apply st_storerow H); rfl; exact eF; (first | exact cells_agg _ | exact cellI | exact cellS | exact cellB | exact (rfl : _ = [_])); exact uF; kernel_rfl; exact Nat.succ_pos _; exact fitF; rfl)); clear H; intro wn H; simp only [Act.put, yA, yB, yC, yD, yE, yF]) | ((with_reducible apply st_appendb H); (first | ((focus (with_reducible exact dH)); rfl) | ((focus (with_reducible exact dT (dH))); rfl) | ((focus (with_reducible exact dT (dT (dH)))); rfl) | ((focus (with_reducible exact dT (dT (dT (dH))))); rfl) | ((focus (with_reducible exact dT (dT (dT (dT (dH)))))); rfl) | ((focus (with_reducible exact dT (dT (dT (dT (dT (dH))))))); rfl) | ((focus (with_reducible exact dT (dT (dT (dT (dT (dT (dH)))))))); rfl)); rfl; exact iF; kernel_rfl; rfl; rfl; (focus (first | omega | (simp; done) | (simp; omega))); clear H; intro vq wn H; (try simp only [yM, yN, yO] at H); simp only [Act.put, yA, yB, yC, yD, yE, yF]) | ((with_reducible apply st_appendrb H); (first | ((focus (with_reducible exact dH)); rfl) | ((focus (with_reducible exact dT (dH))); rfl) | ((focus (with_reducible exact dT (dT (dH)))); rfl) | ((focus (with_reducible exact dT (dT (dT (dH))))); rfl) | ((focus (with_reducible exact dT (dT (dT (dT (dH)))))); rfl) | ((focus (with_reducible exact dT (dT (dT (dT (dT (dH))))))); rfl) | ((focus (with_reducible exact dT (dT (dT (dT (dT (dT (dH)))))))); rfl)); rfl; exact iF; kernel_rfl; rfl; rfl; (focus (first | omega | (simp; done) | (simp; omega))); clear H; intro vq wn H; (try simp only [yM, yN, yO] at H); simp only [Act.put, yA, yB, yC, yD, yE, yF]) | ((first | (go_at_call 58; refine gvF (c1 _ H.below) H ?_) | (go_at_call 59; refine gvF (c3 _) H ?_) | (go_at_call 60; refine gvF (c4 _ H.below) H ?_)); clear H; intro wn H) | ((with_reducible apply wp_region_hq (id := 9) H); kernel_rfl; kernel_rfl; (iterate 11 (all_goals ((with_reducible refine' hq_step ?_ ?_ ?_); rotate_left; rfl; (focus (intro w1 H1; first | (first | exact qF | exact qAF | exact qRF) | (exact qVF))); (try simp only [yG, yH, yJ, yK]); simp only [Act.put, yA, yB, yC, yD, yE, yF]))); all_goals (refine wpQuiet_nil ?_; clear H; intro wn H)) | fail)
      have Hn := H.tk (Tk.cons (k := (Hl.row 2 1 (.slice E1 n1 f1) n1 (flat encNum b.1))) dF (Tk.nil)); clear H; have H := Hn; clear Hn; apply wp_region_hs (K := []) (Spec.V _ :: Spec.V _ :: Spec.V _ :: Spec.V _ :: Spec.V _ :: Spec.V _ :: Spec.V _ :: Spec.V _ :: Spec.V _ :: Spec.V _ :: Spec.S _ _ _ :: Spec.W ((Hl.row 2 1 (.slice E1 n1 f1) n1 (flat encNum b.1))) _ :: []) 12 H rfl (by simp) (by kernel_rfl) (by kernel_rfl); intro vs Ls; (iterate 8 ((with_reducible apply wpH_V); (focus rfl); (focus rfl); (focus (intro w1 H1; exact oF)); simp only [Act.put, yA, yB, yC, yD, yE, yF]; (try simp only [yG, yH, yJ, yK]))); ((with_reducible apply wpH_V); (focus rfl); (focus rfl); (focus (intro w1 H1; (with_reducible apply ok_load1); (focus rfl); (focus decide +kernel); (focus exact (At.row H1 iF hseg).head rfl))); simp only [Act.put, yA, yB, yC, yD, yE, yF]); (iterate 1 ((with_reducible apply wpH_V); (focus rfl); (focus rfl); (focus (intro w1 H1; exact oF)); simp only [Act.put, yA, yB, yC, yD, yE, yF]; (try simp only [yG, yH, yJ, yK]))); (with_reducible apply wpH_S); (focus rfl); (focus rfl); (focus (intro hk w1 H1; unfold OpOk; go_simp; exact now_sl)); intro g10 hg10; simp only [Act.put, yA, yB, yC, yD, yE, yF]; (with_reducible apply (wpH_WD 10)); (focus rfl); (focus rfl); (focus decide +kernel); (focus decide); (focus (intro hok N w1 H1 H2; have hb : Blk w1 _ _ _ := H2.ok _ (List.mem_cons_of_mem _ (List.mem_append_left _ (List.mem_singleton.2 rfl))); rw [← hg10] at hb; exact app_W H1 rfl rfl (by kernel_rfl) (Rd.of_blk hb rfl (by unfold maxLen; omega)) (by rfl) (by omega))); simp only [Act.put, yA, yB, yC, yD, yE, yF]; refine wpH_0 ?_; intro hok wn Hn; (try simp only [yT, yU, yV, yW] at Hn); clear H; have H := Hn; clear Hn; (try simp only [← hg10]); clear hg10; have ht11 := okW (hok 11 (by decide)) rfl; clear hok; obtain ⟨A11, c11, e11, l11⟩ := ht11; simp only [e11, l11, yT, yU, yV] at H ⊢; clear e11 l11; (try simp only [cells_agg, cellI, cellS, cellB] at H); (try simp only [splice, yG, yH, yI, yJ, yK, yL, yM, yN, yO, yP, yQ, Nat.reduceAdd, yA, yB, yC] at H); rotate_left; (focus (refine locs ?_; intro vs1 vs2; (iterate 12 (refine all_lt_succ ?_ (by first | exact (fun _ => rfl) | exact (fun _ => ⟨rfl, rfl⟩) | (intro h; simp only [spec, Spec.same, yR, yS, Option.getD_some]; (try rw [h 10 (by decide +kernel)]); (try rw [h 11 (by decide +kernel)]); (first | done | exact ⟨rfl, rfl⟩ | exact ⟨trivial, rfl⟩ | exact ⟨rfl, trivial⟩))))); exact (fun k hk => absurd hk (Nat.not_lt_zero k))))
      go_wp2_with (first | ((first | ((with_reducible refine st_gwT ?_ ?_); rfl) | ((with_reducible refine st_gwF ?_ ?_); rfl) | ((with_reducible refine st_gsT ?_ ?_); rfl) | ((with_reducible refine st_gsF ?_ ?_); rfl)); (try simp only [Act.put, yA, yB, yC, yD, yE, yF])) | ((with_reducible refine' st_guard ?_ ?_ ?_); rotate_left; rfl; (all_goals (intro hgd; cases hgd)); (try simp only [Act.put, yA, yB, yC, yD, yE, yF])) | ((with_reducible apply st_want); rfl) | ((with_reducible refine st_skip ?_ ?_); rfl; simp only [Act.put, yA, yB, yC, yD, yE, yF]) | ((first | ((with_reducible apply st_load1 H); decide +kernel; rfl; exact cF) | ((with_reducible apply st_loads H); decide +kernel; rfl; exact iF; exact zF; rfl) | ((with_reducible apply st_store H); rfl; exact eF; (focus (exact cells_agg _)); exact uF; kernel_rfl; (focus (exact Nat.le_of_ble_eq_true (by rfl))); (focus (first | rfl | simp))) | ((with_reducible apply st_storeown H); rfl; exact eF; (focus (exact (rfl : _ = [_]))); exact uF; (focus omega); kernel_rfl; rfl)); clear H; intro wn H; (try simp only [splice, yG, yH, yI, yJ, yK, yL, yM, yN, yO, yP, yQ, Nat.reduceAdd, yA, yB, yC] at H); simp only [Act.put, yA, yB, yC, yD, yE, yF]) | ((first | ((with_reducible apply st_box (dst := some 6) H); exact nF; intro b6) | ((with_reducible apply st_box (dst := some 7) H); exact nF; intro b7) | ((with_reducible apply st_box (dst := some 8) H); exact nF; intro b8) | ((with_reducible apply st_box (dst := some 9) H); exact nF; intro b9) | ((with_reducible apply st_alloc (dst := some 12) H); exact nF; intro b12) | ((with_reducible apply st_alloc (dst := some 14) H); exact nF; intro b14) | ((with_reducible apply st_alloc (dst := some 15) H); exact nF; intro b15) | ((with_reducible apply st_strsum H); rfl; rfl; exact szF; kernel_rfl) | ((with_reducible apply st_bslice H); exact nsF; intro nb) | ((with_reducible apply st_loadat H); decide +kernel; rfl; exact aF; exact zF; rfl) | ((with_reducible apply st_storerow H); rfl; exact eF; (first | exact cells_agg _ | exact cellI | exact cellS | exact cellB | exact (rfl : _ = [_])); exact uF; kernel_rfl; exact Nat.succ_pos _; exact fitF; rfl)); clear H; intro wn H; simp only [Act.put, yA, yB, yC, yD, yE, yF]) | ((with_reducible apply st_appendb H); (first | ((focus (with_reducible exact dH)); rfl) | ((focus (with_reducible exact dT (dH))); rfl) | ((focus (with_reducible exact dT (dT (dH)))); rfl) | ((focus (with_reducible exact dT (dT (dT (dH))))); rfl) | ((focus (with_reducible exact dT (dT (dT (dT (dH)))))); rfl) | ((focus (with_reducible exact dT (dT (dT (dT (dT (dH))))))); rfl) | ((focus (with_reducible exact dT (dT (dT (dT (dT (dT (dH)))))))); rfl)); rfl; exact iF; kernel_rfl; rfl; rfl; (focus (first | omega | (simp; done) | (simp; omega))); clear H; intro vq wn H; (try simp only [yM, yN, yO] at H); simp only [Act.put, yA, yB, yC, yD, yE, yF]) | ((with_reducible apply st_appendrb H); (first | ((focus (with_reducible exact dH)); rfl) | ((focus (with_reducible exact dT (dH))); rfl) | ((focus (with_reducible exact dT (dT (dH)))); rfl) | ((focus (with_reducible exact dT (dT (dT (dH))))); rfl) | ((focus (with_reducible exact dT (dT (dT (dT (dH)))))); rfl) | ((focus (with_reducible exact dT (dT (dT (dT (dT (dH))))))); rfl) | ((focus (with_reducible exact dT (dT (dT (dT (dT (dT (dH)))))))); rfl)); rfl; exact iF; kernel_rfl; rfl; rfl; (focus (first | omega | (simp; done) | (simp; omega))); clear H; intro vq wn H; (try simp only [yM, yN, yO] at H); simp only [Act.put, yA, yB, yC, yD, yE, yF]) | ((first | (go_at_call 58; refine gvF (c1 _ H.below) H ?_) | (go_at_call 59; refine gvF (c3 _) H ?_) | (go_at_call 60; refine gvF (c4 _ H.below) H ?_)); clear H; intro wn H) | ((with_reducible apply wp_region_hq (id := 9) H); kernel_rfl; kernel_rfl; (iterate 11 (all_goals ((with_reducible refine' hq_step ?_ ?_ ?_); rotate_left; rfl; (focus (intro w1 H1; first | (first | exact qF | exact qAF | exact qRF) | (exact qVF))); (try simp only [yG, yH, yJ, yK]); simp only [Act.put, yA, yB, yC, yD, yE, yF]))); all_goals (refine wpQuiet_nil ?_; clear H; intro wn H)) | fail)
      have hspl := spl_one x1 x2 (.bool false) [Value.slice E1 n1 f1, e2, Value.slice E3 N3 f3] (.slice A11 (n1 + 1) c11) hx1' (j := 0) (by simp)
      rw [show spl (x1 ++ Value.slice E1 n1 f1 :: e2 :: Value.slice E3 N3 f3 :: x2) (k * 3) [.slice A11 (n1 + 1) c11] = x1 ++ ([.slice A11 (n1 + 1) c11, e2, Value.slice E3 N3 f3] ++ x2) from hspl.trans (by simp)] at H
      have hseg2 : Seg (x1 ++ ([.slice A11 (n1 + 1) c11, e2, Value.slice E3 N3 f3] ++ x2)) (k * 3 + 2) [Value.slice E3 N3 f3] := fun j u hu => by
        match j, hu with
        | 0, hu => exact seg_mid x1 [.slice A11 (n1 + 1) c11, e2, Value.slice E3 N3 f3] x2 hx1' 2 u hu
      have hfitr2 : k * 3 + 2 + 1 ≤ (x1 ++ ([.slice A11 (n1 + 1) c11, e2, Value.slice E3 N3 f3] ++ x2)).length := by rw [List.length_append, hx1']; simp; omega
      clear hseg hfitr hspl
      have Hn := H.tk (Tk.cons (k := (Hl.row 116 2 (.slice E3 N3 f3) N3 (flat encNt b.2.2))) dF (Tk.nil)); clear H; have H := Hn; clear Hn; apply wp_region_hs (K := []) (Spec.V _ :: Spec.V _ :: Spec.V _ :: Spec.V _ :: Spec.V _ :: Spec.V _ :: Spec.V _ :: Spec.V _ :: Spec.V _ :: Spec.V _ :: Spec.V _ :: Spec.V _ :: Spec.S _ _ _ :: Spec.W ((Hl.row 116 2 (.slice E3 N3 f3) N3 (flat encNt b.2.2))) _ :: []) 14 H rfl (by simp) (by kernel_rfl) (by kernel_rfl); intro vs Ls; (iterate 8 ((with_reducible apply wpH_V); (focus rfl); (focus rfl); (focus (intro w1 H1; exact oF)); simp only [Act.put, yA, yB, yC, yD, yE, yF]; (try simp only [yG, yH, yJ, yK]))); ((with_reducible apply wpH_V); (focus rfl); (focus rfl); (focus (intro w1 H1; (with_reducible apply ok_load1); (focus rfl); (focus decide +kernel); (focus exact (At.row H1 iF hseg2).head rfl))); simp only [Act.put, yA, yB, yC, yD, yE, yF]); (iterate 3 ((with_reducible apply wpH_V); (focus rfl); (focus rfl); (focus (intro w1 H1; exact oF)); simp only [Act.put, yA, yB, yC, yD, yE, yF]; (try simp only [yG, yH, yJ, yK]))); (with_reducible apply wpH_S); (focus rfl); (focus rfl); (focus (intro hk w1 H1; unfold OpOk; go_simp; exact now_sl)); intro g12 hg12; simp only [Act.put, yA, yB, yC, yD, yE, yF]; (with_reducible apply (wpH_WD 12)); (focus rfl); (focus rfl); (focus decide +kernel); (focus decide); (focus (intro hok N w1 H1 H2; have hb : Blk w1 _ _ _ := H2.ok _ (List.mem_cons_of_mem _ (List.mem_append_left _ (List.mem_singleton.2 rfl))); rw [← hg12] at hb; exact app_W H1 rfl rfl (by kernel_rfl) (Rd.of_blk hb rfl (by unfold maxLen; omega)) (by rfl) (by omega))); simp only [Act.put, yA, yB, yC, yD, yE, yF]; refine wpH_0 ?_; intro hok wn Hn; (try simp only [yT, yU, yV, yW] at Hn); clear H; have H := Hn; clear Hn; (try simp only [← hg12]); clear hg12; have ht13 := okW (hok 13 (by decide)) rfl; clear hok; obtain ⟨A13, c13, e13, l13⟩ := ht13; simp only [e13, l13, yT, yU, yV] at H ⊢; clear e13 l13; (try simp only [cells_agg, cellI, cellS, cellB] at H); (try simp only [splice, yG, yH, yI, yJ, yK, yL, yM, yN, yO, yP, yQ, Nat.reduceAdd, yA, yB, yC] at H); rotate_left; (focus (refine locs ?_; intro vs1 vs2; (iterate 14 (refine all_lt_succ ?_ (by first | exact (fun _ => rfl) | exact (fun _ => ⟨rfl, rfl⟩) | (intro h; simp only [spec, Spec.same, yR, yS, Option.getD_some]; (try rw [h 12 (by decide +kernel)]); (try rw [h 13 (by decide +kernel)]); (first | done | exact ⟨rfl, rfl⟩ | exact ⟨trivial, rfl⟩ | exact ⟨rfl, trivial⟩))))); exact (fun k hk => absurd hk (Nat.not_lt_zero k))))
      go_wp2_with (first | ((first | ((with_reducible refine st_gwT ?_ ?_); rfl) | ((with_reducible refine st_gwF ?_ ?_); rfl) | ((with_reducible refine st_gsT ?_ ?_); rfl) | ((with_reducible refine st_gsF ?_ ?_); rfl)); (try simp only [Act.put, yA, yB, yC, yD, yE, yF])) | ((with_reducible refine' st_guard ?_ ?_ ?_); rotate_left; rfl; (all_goals (intro hgd; cases hgd)); (try simp only [Act.put, yA, yB, yC, yD, yE, yF])) | ((with_reducible apply st_want); rfl) | ((with_reducible refine st_skip ?_ ?_); rfl; simp only [Act.put, yA, yB, yC, yD, yE, yF]) | ((first | ((with_reducible apply st_load1 H); decide +kernel; rfl; exact cF) | ((with_reducible apply st_loads H); decide +kernel; rfl; exact iF; exact zF; rfl) | ((with_reducible apply st_store H); rfl; exact eF; (focus (exact cells_agg _)); exact uF; kernel_rfl; (focus (exact Nat.le_of_ble_eq_true (by rfl))); (focus (first | rfl | simp))) | ((with_reducible apply st_storeown H); rfl; exact eF; (focus (exact (rfl : _ = [_]))); exact uF; (focus omega); kernel_rfl; rfl)); clear H; intro wn H; (try simp only [splice, yG, yH, yI, yJ, yK, yL, yM, yN, yO, yP, yQ, Nat.reduceAdd, yA, yB, yC] at H); simp only [Act.put, yA, yB, yC, yD, yE, yF]) | ((first | ((with_reducible apply st_box (dst := some 6) H); exact nF; intro b6) | ((with_reducible apply st_box (dst := some 7) H); exact nF; intro b7) | ((with_reducible apply st_box (dst := some 8) H); exact nF; intro b8) | ((with_reducible apply st_box (dst := some 9) H); exact nF; intro b9) | ((with_reducible apply st_alloc (dst := some 12) H); exact nF; intro b12) | ((with_reducible apply st_alloc (dst := some 14) H); exact nF; intro b14) | ((with_reducible apply st_alloc (dst := some 15) H); exact nF; intro b15) | ((with_reducible apply st_strsum H); rfl; rfl; exact szF; kernel_rfl) | ((with_reducible apply st_bslice H); exact nsF; intro nb) | ((with_reducible apply st_loadat H); decide +kernel; rfl; exact aF; exact zF; rfl) | ((with_reducible apply st_storerow H); rfl; exact eF; (first | exact cells_agg _ | exact cellI | exact cellS | exact cellB | exact (rfl : _ = [_])); exact uF; kernel_rfl; exact Nat.succ_pos _; exact fitF; rfl)); clear H; intro wn H; simp only [Act.put, yA, yB, yC, yD, yE, yF]) | ((with_reducible apply st_appendb H); (first | ((focus (with_reducible exact dH)); rfl) | ((focus (with_reducible exact dT (dH))); rfl) | ((focus (with_reducible exact dT (dT (dH)))); rfl) | ((focus (with_reducible exact dT (dT (dT (dH))))); rfl) | ((focus (with_reducible exact dT (dT (dT (dT (dH)))))); rfl) | ((focus (with_reducible exact dT (dT (dT (dT (dT (dH))))))); rfl) | ((focus (with_reducible exact dT (dT (dT (dT (dT (dT (dH)))))))); rfl)); rfl; exact iF; kernel_rfl; rfl; rfl; (focus (first | omega | (simp; done) | (simp; omega))); clear H; intro vq wn H; (try simp only [yM, yN, yO] at H); simp only [Act.put, yA, yB, yC, yD, yE, yF]) | ((with_reducible apply st_appendrb H); (first | ((focus (with_reducible exact dH)); rfl) | ((focus (with_reducible exact dT (dH))); rfl) | ((focus (with_reducible exact dT (dT (dH)))); rfl) | ((focus (with_reducible exact dT (dT (dT (dH))))); rfl) | ((focus (with_reducible exact dT (dT (dT (dT (dH)))))); rfl) | ((focus (with_reducible exact dT (dT (dT (dT (dT (dH))))))); rfl) | ((focus (with_reducible exact dT (dT (dT (dT (dT (dT (dH)))))))); rfl)); rfl; exact iF; kernel_rfl; rfl; rfl; (focus (first | omega | (simp; done) | (simp; omega))); clear H; intro vq wn H; (try simp only [yM, yN, yO] at H); simp only [Act.put, yA, yB, yC, yD, yE, yF]) | ((first | (go_at_call 58; refine gvF (c1 _ H.below) H ?_) | (go_at_call 59; refine gvF (c3 _) H ?_) | (go_at_call 60; refine gvF (c4 _ H.below) H ?_)); clear H; intro wn H) | ((with_reducible apply wp_region_hq (id := 9) H); kernel_rfl; kernel_rfl; (iterate 11 (all_goals ((with_reducible refine' hq_step ?_ ?_ ?_); rotate_left; rfl; (focus (intro w1 H1; first | (first | exact qF | exact qAF | exact qRF) | (exact qVF))); (try simp only [yG, yH, yJ, yK]); simp only [Act.put, yA, yB, yC, yD, yE, yF]))); all_goals (refine wpQuiet_nil ?_; clear H; intro wn H)) | fail)
      refine bp_cell H rfl rfl iF (by kernel_rfl) (by kernel_rfl) rfl (by first | exact .inl rfl | exact .inr rfl) ?_
      rw [HMO.out]
      have hkl : k < l.length := by rw [← HN.out]; exact hk
      have hset : l.set k (sendBo b x t) = (l.take k ++ [sendBo b x t]) ++ l.drop (k + 1) := by rw [List.set_eq_take_append_cons_drop, if_pos hkl]; simp
      have hown : tyBo.own ([.slice A11 (n1 + 1) c11] ++ ([e2] ++ [.slice A13 (N3 + 1) c13])) (sendBo b x t) ([Hl.row 2 1 (.slice A11 (n1 + 1) c11) (n1 + 1) (flat encNum b.1 ++ [.int .i64 x])] ++ (J2 ++ [Hl.row 116 2 (.slice A13 (N3 + 1) c13) (N3 + 1) (flat encNt b.2.2 ++ [.int .i64 t, .int .i64 x])])) :=
        ⟨[_], [_, _], _, _, rfl, rfl, own_num (by show _ = flat encNum (b.1 ++ [x]); rw [flat_append]; rfl) (by show _ = (b.1 ++ [x]).length; rw [List.length_append, ← HN1.out]; rfl) rfl, [_], [_], _, _, rfl, rfl, HJ2.out, own_nt (by show _ = flat encNt (b.2.2 ++ [(t, x)]); rw [flat_append]; rfl) (by show _ = (b.2.2 ++ [(t, x)]).length; rw [List.length_append, ← HN3.out]; rfl) rfl⟩
      have hO3 := (HO1.out.snoc hown).append HO2.out
      rw [← hset] at hO3
      have hspl := spl_one x1 x2 (.bool false) [Value.slice A11 (n1 + 1) c11, e2, Value.slice E3 N3 f3] (.slice A13 (N3 + 1) c13) hx1' (j := 2) (by simp)
      have H0 := H.sel (M := [Hl.row 2 1 (.slice A11 (n1 + 1) c11) (n1 + 1) (flat encNum b.1 ++ [.int .i64 x]), Hl.row 116 2 (.slice A13 (N3 + 1) c13) (N3 + 1) (flat encNt b.2.2 ++ [.int .i64 t, .int .i64 x]), Hl.all J2, Hl.all M1, Hl.all M2, Hl.row 114 3 (.slice (some ⟨g9, 0, none⟩) n ca) n _]) sF
      have H1 := (Hs.pack (M := [Hl.row 2 1 (.slice A11 (n1 + 1) c11) (n1 + 1) (flat encNum b.1 ++ [.int .i64 x])]) H0)
      have H3 := (Hs.pack (M := [Hl.row 116 2 (.slice A13 (N3 + 1) c13) (N3 + 1) (flat encNt b.2.2 ++ [.int .i64 t, .int .i64 x])]) H1.up1)
      have H4 := H3.up2.up2.join3.up1.join.join.up1
      rw [show spl (x1 ++ Value.slice A11 (n1 + 1) c11 :: e2 :: Value.slice E3 N3 f3 :: x2) (k * 3 + 2) [.slice A13 (N3 + 1) c13] = (x1 ++ ([.slice A11 (n1 + 1) c11] ++ ([e2] ++ [.slice A13 (N3 + 1) c13]))) ++ x2 from hspl.trans (by simp)] at H4
      exact ret_mail hO3 H4 (by rw [List.length_set]; exact HN.out) 0
  )
  all_goals (try (exfalso; omega))
  all_goals (
    (try first | subst h30 | subst h31)
    (try have hpos : (0 : Int) < (j : Int) + 1 := by omega)
    (try have hlt2 : (j : Int) < (j + 1 : Nat) := by omega)
    (try have hlt3 : j < j + 1 := by omega)
    (try have hj12 : j ≤ 11 := by omega)
    (try have hfull2 : ((n1 : Int) == rt) = true := (by simp; omega))
    (try have hless : ((n1 : Int) == rt) = false := (by simp; omega))
    (try have hq12 : (12 : Int) ≤ (j : Int) + 1 := by omega)
    (try have hq12b : (((j : Int) + 1) == 12) = true := by simp; omega)
    (try have hq12c : 12 ≤ j + 1 := by omega)
    (try clear hmf); (try clear hmt); (try clear hmr); (try clear hix); (try clear c2); (try clear hfit); (try clear hrate); (try clear hN3); (try clear HN3); (try clear hb)
    go_enter Tryz.func15, Tryz.ntmps15
    go_wp2_with (first | ((first | ((with_reducible refine st_gwT ?_ ?_); rfl) | ((with_reducible refine st_gwF ?_ ?_); rfl) | ((with_reducible refine st_gsT ?_ ?_); rfl) | ((with_reducible refine st_gsF ?_ ?_); rfl)); (try simp only [Act.put, yA, yB, yC, yD, yE, yF])) | ((with_reducible refine' st_guard ?_ ?_ ?_); rotate_left; rfl; (all_goals (intro hgd; cases hgd)); (try simp only [Act.put, yA, yB, yC, yD, yE, yF])) | ((with_reducible apply st_want); rfl) | ((with_reducible refine st_skip ?_ ?_); rfl; simp only [Act.put, yA, yB, yC, yD, yE, yF]) | ((first | ((with_reducible apply st_load1 H); decide +kernel; rfl; exact cF) | ((with_reducible apply st_loads H); decide +kernel; rfl; exact iF; exact zF; rfl) | ((with_reducible apply st_store H); rfl; exact eF; (focus (exact cells_agg _)); exact uF; kernel_rfl; (focus (exact Nat.le_of_ble_eq_true (by rfl))); (focus (first | rfl | simp))) | ((with_reducible apply st_storeown H); rfl; exact eF; (focus (exact (rfl : _ = [_]))); exact uF; (focus omega); kernel_rfl; rfl)); clear H; intro wn H; (try simp only [splice, yG, yH, yI, yJ, yK, yL, yM, yN, yO, yP, yQ, Nat.reduceAdd, yA, yB, yC] at H); simp only [Act.put, yA, yB, yC, yD, yE, yF]) | ((first | ((with_reducible apply st_box (dst := some 6) H); exact nF; intro b6) | ((with_reducible apply st_box (dst := some 7) H); exact nF; intro b7) | ((with_reducible apply st_box (dst := some 8) H); exact nF; intro b8) | ((with_reducible apply st_box (dst := some 9) H); exact nF; intro b9) | ((with_reducible apply st_alloc (dst := some 12) H); exact nF; intro b12) | ((with_reducible apply st_alloc (dst := some 14) H); exact nF; intro b14) | ((with_reducible apply st_alloc (dst := some 15) H); exact nF; intro b15) | ((with_reducible apply st_strsum H); rfl; rfl; exact szF; kernel_rfl) | ((with_reducible apply st_bslice H); exact nsF; intro nb) | ((with_reducible apply st_loadat H); decide +kernel; rfl; exact aF; exact zF; rfl) | ((with_reducible apply st_storerow H); rfl; exact eF; (first | exact cells_agg _ | exact cellI | exact cellS | exact cellB | exact (rfl : _ = [_])); exact uF; kernel_rfl; exact Nat.succ_pos _; exact fitF; rfl)); clear H; intro wn H; simp only [Act.put, yA, yB, yC, yD, yE, yF]) | ((with_reducible apply st_appendb H); (first | ((focus (with_reducible exact dH)); rfl) | ((focus (with_reducible exact dT (dH))); rfl) | ((focus (with_reducible exact dT (dT (dH)))); rfl) | ((focus (with_reducible exact dT (dT (dT (dH))))); rfl) | ((focus (with_reducible exact dT (dT (dT (dT (dH)))))); rfl) | ((focus (with_reducible exact dT (dT (dT (dT (dT (dH))))))); rfl) | ((focus (with_reducible exact dT (dT (dT (dT (dT (dT (dH)))))))); rfl)); rfl; exact iF; kernel_rfl; rfl; rfl; (focus (first | omega | (simp; done) | (simp; omega))); clear H; intro vq wn H; (try simp only [yM, yN, yO] at H); simp only [Act.put, yA, yB, yC, yD, yE, yF]) | ((with_reducible apply st_appendrb H); (first | ((focus (with_reducible exact dH)); rfl) | ((focus (with_reducible exact dT (dH))); rfl) | ((focus (with_reducible exact dT (dT (dH)))); rfl) | ((focus (with_reducible exact dT (dT (dT (dH))))); rfl) | ((focus (with_reducible exact dT (dT (dT (dT (dH)))))); rfl) | ((focus (with_reducible exact dT (dT (dT (dT (dT (dH))))))); rfl) | ((focus (with_reducible exact dT (dT (dT (dT (dT (dT (dH)))))))); rfl)); rfl; exact iF; kernel_rfl; rfl; rfl; (focus (first | omega | (simp; done) | (simp; omega))); clear H; intro vq wn H; (try simp only [yM, yN, yO] at H); simp only [Act.put, yA, yB, yC, yD, yE, yF]) | ((first | (go_at_call 58; refine gvF (c1 _ H.below) H ?_) | (go_at_call 59; refine gvF (c3 _) H ?_) | (go_at_call 60; refine gvF (c4 _ H.below) H ?_)); clear H; intro wn H) | ((with_reducible apply wp_region_hq (id := 9) H); kernel_rfl; kernel_rfl; (iterate 11 (all_goals ((with_reducible refine' hq_step ?_ ?_ ?_); rotate_left; rfl; (focus (intro w1 H1; first | (first | exact qF | exact qAF | exact qRF) | (exact qVF))); (try simp only [yG, yH, yJ, yK]); simp only [Act.put, yA, yB, yC, yD, yE, yF]))); all_goals (refine wpQuiet_nil ?_; clear H; intro wn H)) | fail)
    refine bp_cell H rfl rfl iF (by kernel_rfl) (by kernel_rfl) rfl (by first | exact .inl rfl | exact .inr rfl) ?_
    rw [HMO.out]
    exact ret_ill H _
  )
set_option maxRecDepth 100000 in
set_option maxHeartbeats 8000000 in
theorem mailSend_s (c : Cfg) (cs : List Value) (v : Value) (l : List Bo) (p q : Lab) (x t : Int) (w : World) (hrc : tyCfg.rd w cs c) (hr : (Ty.sl 114 tyBo).rd w [v] l) :
    Rets Tryz.prog [] 11 #[.agg cs.toArray, .agg #[v], .agg #[.int .i64 p.1, .int .i64 p.2], .agg #[.int .i64 q.1, .int .i64 q.2], .int .i64 x, .int .i64 t] w (tAgg tyMO (mailSend c l p q x t)) := by
  have c1 := fun w1 hb => mailRight_s c cs v l w1 (Ty.below _ hrc hb) (Ty.below _ hr hb)
  have c2 : mailOk c l = true → ∀ w1, Below w.heap.size w w1 → Gives Tryz.prog 52 #[.agg cs.toArray, .agg #[.int .i64 p.1, .int .i64 p.2], .agg #[.int .i64 q.1, .int .i64 q.2]] w1 (.int .i64 (idxF (prEq p q) 0 c.2.1)) := fun h w1 hb => by have := pairAt_s c cs p q w1 (Ty.below _ hrc hb); rw [if_pos (mail_facts h).1] at this; exact this
  have hmf := @mail_facts c l
  have hmt := @mail_fits c l
  have hmr := fun h k b r => @mail_rate c l h k b r
  have hix := @idxF_lt _ (prEq p q) c.2.1 0
  obtain ⟨v1, v2, v3, rfl, h1, h2, h3⟩ := cfg_form hrc
  obtain ⟨nd, pr, qt, hf⟩ := c
  obtain ⟨p1, p2⟩ := p
  obtain ⟨q1, q2⟩ := q
  simp only at h1 h2 h3 hmf hmr hix
  replace c1 : ∀ w1, Below w.heap.size w w1 → Gives Tryz.prog 49 #[.agg #[v1, v2, v3, .int .i64 hf], .agg #[v]] w1 (.bool (mailOk (nd, pr, qt, hf) l)) := c1
  replace c2 : mailOk (nd, pr, qt, hf) l = true → ∀ w1, Below w.heap.size w w1 → Gives Tryz.prog 52 #[.agg #[v1, v2, v3, .int .i64 hf], .agg #[.int .i64 p1, .int .i64 p2], .agg #[.int .i64 q1, .int .i64 q2]] w1 (.int .i64 (idxF (prEq (p1, p2) (q1, q2)) 0 pr)) := c2
  show Rets Tryz.prog [] _ #[.agg #[v1, v2, v3, .int .i64 hf], .agg #[v], .agg #[.int .i64 p1, .int .i64 p2], .agg #[.int .i64 q1, .int .i64 q2], .int .i64 x, .int .i64 t] w _
  obtain ⟨mo, hmo⟩ : ∃ mo, mo = mailSend (nd, pr, qt, hf) l (p1, p2) (q1, q2) x t := ⟨_, rfl⟩
  rw [← hmo]
  have hmo2 : mo = if (mailOk (nd, pr, qt, hf) l && isIn t 0 999900) = true then (if idxF (prEq (p1, p2) (q1, q2)) 0 pr < 0 then ([], 11) else sendAt pr l (idxF (prEq (p1, p2) (q1, q2)) 0 pr).toNat x t) else ([], 1) := hmo
  clear hmo hrc h1 h3
  generalize mailOk (nd, pr, qt, hf) l = z at *
  generalize idxF (prEq (p1, p2) (q1, q2)) 0 pr = ix at *
  have c3 := fun w1 => now_s t w1
  generalize isIn t 0 999900 = zt at *
  obtain ⟨B, cb, rfl, hlb, hbm⟩ := sl_form h2
  obtain ⟨A0, ca0, rfl, hla, ham⟩ := sl_form hr
  obtain ⟨n, hn⟩ : ∃ n, n = l.length := ⟨_, rfl⟩
  obtain ⟨m, hm⟩ : ∃ m, m = pr.length := ⟨_, rfl⟩
  rw [← hn] at hr c1 hmf ⊢
  rw [← hm] at h2 c1 c2 hmf hix ⊢
  have HR := Lib.hid hr
  have HP := Lib.hid h2
  have HN := Lib.hid hn
  have HM := Lib.hid hm
  clear hr h2 hlb hbm hla ham hn hm
  have H := Hs.start noRow w
  refine Rets.of ?_
  have d1 : (z = false ∧ Hid (mo = ([], 1))) ∨ (z = true ∧ mo = if zt = true then (if ix < 0 then ([], 11) else sendAt pr l ix.toNat x t) else ([], 1)) := by
    cases z
    · exact .inl ⟨rfl, Lib.hid hmo2⟩
    · exact .inr ⟨rfl, by rw [hmo2]; cases zt <;> rfl⟩
  clear hmo2
  rcases d1 with ⟨rfl, HMO⟩ | ⟨rfl, hmo2⟩
  rotate_left
  have d2 : (zt = false ∧ Hid (mo = ([], 1))) ∨ (zt = true ∧ mo = if ix < 0 then ([], 11) else sendAt pr l ix.toNat x t) := by
    cases zt
    · exact .inl ⟨rfl, Lib.hid hmo2⟩
    · exact .inr ⟨rfl, hmo2⟩
  clear hmo2
  rcases d2 with ⟨rfl, HMO⟩ | ⟨rfl, hmo2⟩
  rotate_left
  have c4 := c2 rfl
  have hnm := (hmf rfl).2.1
  have hm4 := (hmf rfl).2.2.1
  subst hnm
  have hfit := hmt rfl
  have hrate := hmr rfl
  have h12 := (hmf rfl).2.2.2
  clear hmf hmt hmr c2
  have d3 : (ix < 0 ∧ Hid (mo = ([], 11))) ∨ (¬ ix < 0 ∧ mo = sendAt pr l ix.toNat x t) := by
    by_cases h : ix < 0
    · exact .inl ⟨h, Lib.hid (by rw [hmo2, if_pos h])⟩
    · exact .inr ⟨h, by rw [hmo2, if_neg h]⟩
  clear hmo2
  rcases d3 with ⟨hix0, HMO⟩ | ⟨hix0, hmo2⟩
  rotate_left
  obtain ⟨k, rfl⟩ : ∃ k : Nat, ix = k := ⟨ix.toNat, by omega⟩
  rw [Int.toNat_natCast] at hmo2
  have hk : k < n := by omega
  have hk1 : (k : Int) < n := by omega
  have hk2 : ¬ (k : Int) < 0 := by omega
  clear hix hix0
  obtain ⟨b, hb⟩ : ∃ b, l[k]? = some b := ⟨l[k]'(by rw [← HN.out]; exact hk), List.getElem?_eq_getElem (by rw [← HN.out]; exact hk)⟩
  obtain ⟨r, hr⟩ : ∃ r, pr[k]? = some r := ⟨pr[k]'(by rw [← HM.out]; exact hk), List.getElem?_eq_getElem (by rw [← HM.out]; exact hk)⟩
  have hrt := hrate k b r hb hr
  have hl12 := h12 k b hb
  unfold sendAt at hmo2
  rw [hb] at hmo2
  simp only [hr] at hmo2
  have hs := sl_at (by have := HR.out; rw [HN.out] at this; exact this) hb
  rw [← HN.out] at hs
  obtain ⟨g6, off6, c6, cs6, hv, hcs, hA⟩ := hs
  injection hv with hv1 hv2 hv3
  subst hv1 hv3
  obtain ⟨u1, u2, u3, hu, g1, g2, g3⟩ := bo_form hcs
  subst hu
  have hs2 := sl_at (by have := HP.out; rw [HM.out] at this; exact this) hr
  rw [← HM.out] at hs2
  obtain ⟨d, dff, c2, cs2, hw, hcs2, hB⟩ := hs2
  injection hw with hw1 hw2 hw3
  subst hw1 hw3
  obtain rfl : cs2 = encPr r := hcs2
  obtain ⟨⟨r1, r2⟩, ⟨r3, r4⟩, rt⟩ := r
  simp only at hrt hmo2
  have h4 : w.cell? ⟨d, dff + k * 5 + 4, none⟩ = some (.int .i64 rt) := hB 4 _ rfl
  obtain ⟨D1, d1, rfl, _, _⟩ := sl_form g1
  obtain ⟨D2, d2, rfl, _, _⟩ := sl_form g2
  obtain ⟨D3, d3, rfl, hld3, hdm3⟩ := sl_form g3
  replace hA : At w g6 (off6 + k * 3) [.slice D1 b.1.length d1, .slice D2 b.2.1.length d2, .slice D3 b.2.2.length d3] := hA
  obtain ⟨n2, hn2⟩ : ∃ n2, n2 = b.2.1.length := ⟨_, rfl⟩
  rw [← hn2] at hA
  obtain ⟨n1, hn1⟩ : ∃ n1, n1 = b.1.length := ⟨_, rfl⟩
  rw [← hn1] at hmo2 hrt hA
  have HN1 := Lib.hid hn1
  have key : (b.2.2.length = 0 ∧ mo = if rt ≤ n1 then ([], 8) else if 12 ≤ b.2.2.length then ([], 9) else (l.set k (sendBo b x t), 0)) ∨ (∃ (j : Nat) (y1 : Int) (G : Nat) (o : Nat), b.2.2.length = j + 1 ∧ D3 = some ⟨G, o, none⟩ ∧ w.cell? ⟨G, o + j * 2, none⟩ = some (.int .i64 y1) ∧ ¬ t < y1 ∧ mo = if rt ≤ n1 then ([], 8) else if 12 ≤ b.2.2.length then ([], 9) else (l.set k (sendBo b x t), 0)) ∨ (∃ (j : Nat) (y1 : Int) (G : Nat) (o : Nat), b.2.2.length = j + 1 ∧ D3 = some ⟨G, o, none⟩ ∧ w.cell? ⟨G, o + j * 2, none⟩ = some (.int .i64 y1) ∧ t < y1 ∧ Hid (mo = ([], 1))) := by
    cases e : b.2.2.length with
    | zero => exact .inl ⟨rfl, by rw [hmo2, show lastAft b.2.2 t = false by rw [List.eq_nil_of_length_eq_zero e]; rfl, e]; rfl⟩
    | succ j =>
      refine .inr ?_
      obtain ⟨y, hy⟩ : ∃ y, b.2.2[j]? = some y := ⟨b.2.2[j]'(by omega), List.getElem?_eq_getElem (by omega)⟩
      obtain ⟨G, o, c', cs', e', hcs', hA'⟩ := sl_at g3 hy
      injection e' with e1 e2 e3
      obtain rfl : cs' = encNt y := hcs'
      by_cases hl : t < y.1
      · exact .inr ⟨j, y.1, G, o, rfl, e1, hA'.head (u := .int .i64 y.1) rfl, hl, Lib.hid (by rw [hmo2, show lastAft b.2.2 t = true by rw [last_at hy e t]; simp [hl]]; rfl)⟩
      · exact .inl ⟨j, y.1, G, o, rfl, e1, hA'.head (u := .int .i64 y.1) rfl, hl, by rw [hmo2, show lastAft b.2.2 t = false by rw [last_at hy e t]; simp [hl], e]; rfl⟩
  clear hmo2
  obtain ⟨n3, hn3⟩ : ∃ n3, n3 = b.2.2.length := ⟨_, rfl⟩
  rw [← hn3] at hA key hl12
  have HN3 := Lib.hid hn3
  obtain ⟨N3, hN3⟩ : ∃ N3, N3 = n3 := ⟨_, rfl⟩
  rw [← hN3] at HN3 hl12
  clear hr hv2 hw2 hcs hB g1 g2 g3 hn1 hn2 hn3 hrate h12 hld3 hdm3
  rcases key with ⟨h30, hmo2⟩ | ⟨j, y1, G8, o8, h31, rfl, h8, hlate, hmo2⟩ | ⟨j, y1, G8, o8, h31, rfl, h8, hlate, HMO⟩
  iterate 2 (
    rw [← hN3] at hmo2
    first | subst h30 | subst h31
    (try have hpos : (0 : Int) < (j : Int) + 1 := by omega)
    (try have hlt2 : (j : Int) < (j + 1 : Nat) := by omega)
    (try have hlt3 : j < j + 1 := by omega)
    (try have hj12 : j ≤ 11 := by omega)
    have d5 : (rt ≤ n1 ∧ Hid (mo = ([], 8))) ∨ (¬ rt ≤ n1 ∧ mo = if 12 ≤ N3 then ([], 9) else (l.set k (sendBo b x t), 0)) := by
      by_cases h : rt ≤ n1
      · exact .inl ⟨h, Lib.hid (by rw [hmo2, if_pos h])⟩
      · exact .inr ⟨h, by rw [hmo2, if_neg h]⟩
    clear hmo2
    rcases d5 with ⟨hfull, HMO⟩ | ⟨hfull, hmo2⟩
    rotate_left
    have hless : ¬ rt ≤ (n1 : Int) := hfull
    have d6 : (12 ≤ N3 ∧ Hid (mo = ([], 9))) ∨ (¬ 12 ≤ N3 ∧ mo = (l.set k (sendBo b x t), 0)) := by
      by_cases h : 12 ≤ N3
      · exact .inl ⟨h, Lib.hid (by rw [hmo2, if_pos h])⟩
      · exact .inr ⟨h, by rw [hmo2, if_neg h]⟩
    clear hmo2
    rcases d6 with ⟨h12, HMO⟩ | ⟨h12, hmo2⟩
    rotate_left
    · skip
      (try have hq12 : ¬ (12 : Int) ≤ (j : Int) + 1 := by omega)
      (try have hq12b : (((j : Int) + 1) == 12) = false := by simp; omega)
      (try have hq12c : ¬ 12 ≤ j + 1 := by omega)
      have hN3b := Lib.hid hN3
      clear hN3
      have HMO : Hid (mo = (l.set k (sendBo b x t), 0)) := Lib.hid hmo2
      clear hmo2
      have cc := fun w1 hb => copyMail_s _ l (by rw [← HN.out]; omega) hfit w1 (Ty.below _ (by have := HR.out; rw [HN.out] at this; exact this) hb)
      rw [← HN.out] at cc
      have hn13 : n1 ≤ 3 := by omega
      clear hfit
      go_enter Tryz.func11, Tryz.ntmps11
      go_wp2_with (first | ((first | ((with_reducible refine st_gwT ?_ ?_); rfl) | ((with_reducible refine st_gwF ?_ ?_); rfl) | ((with_reducible refine st_gsT ?_ ?_); rfl) | ((with_reducible refine st_gsF ?_ ?_); rfl)); (try simp only [Act.put, yA, yB, yC, yD, yE, yF])) | ((with_reducible refine' st_guard ?_ ?_ ?_); rotate_left; rfl; (all_goals (intro hgd; cases hgd)); (try simp only [Act.put, yA, yB, yC, yD, yE, yF])) | ((with_reducible apply st_want); rfl) | ((with_reducible refine st_skip ?_ ?_); rfl; simp only [Act.put, yA, yB, yC, yD, yE, yF]) | ((first | ((with_reducible apply st_load1 H); decide +kernel; rfl; exact cF) | ((with_reducible apply st_loads H); decide +kernel; rfl; exact iF; exact zF; rfl) | ((with_reducible apply st_store H); rfl; exact eF; (focus (exact cells_agg _)); exact uF; kernel_rfl; (focus (exact Nat.le_of_ble_eq_true (by rfl))); (focus (first | rfl | simp))) | ((with_reducible apply st_storeown H); rfl; exact eF; (focus (exact (rfl : _ = [_]))); exact uF; (focus omega); kernel_rfl; rfl)); clear H; intro wn H; (try simp only [splice, yG, yH, yI, yJ, yK, yL, yM, yN, yO, yP, yQ, Nat.reduceAdd, yA, yB, yC] at H); simp only [Act.put, yA, yB, yC, yD, yE, yF]) | ((first | ((with_reducible apply st_box (dst := some 6) H); exact nF; intro b6) | ((with_reducible apply st_box (dst := some 7) H); exact nF; intro b7) | ((with_reducible apply st_box (dst := some 8) H); exact nF; intro b8) | ((with_reducible apply st_box (dst := some 9) H); exact nF; intro b9) | ((with_reducible apply st_alloc (dst := some 12) H); exact nF; intro b12) | ((with_reducible apply st_alloc (dst := some 14) H); exact nF; intro b14) | ((with_reducible apply st_alloc (dst := some 15) H); exact nF; intro b15) | ((with_reducible apply st_strsum H); rfl; rfl; exact szF; kernel_rfl) | ((with_reducible apply st_bslice H); exact nsF; intro nb) | ((with_reducible apply st_loadat H); decide +kernel; rfl; exact aF; exact zF; rfl) | ((with_reducible apply st_storerow H); rfl; exact eF; (first | exact cells_agg _ | exact cellI | exact cellS | exact cellB | exact (rfl : _ = [_])); exact uF; kernel_rfl; exact Nat.succ_pos _; exact fitF; rfl)); clear H; intro wn H; simp only [Act.put, yA, yB, yC, yD, yE, yF]) | ((with_reducible apply st_appendb H); (first | ((focus (with_reducible exact dH)); rfl) | ((focus (with_reducible exact dT (dH))); rfl) | ((focus (with_reducible exact dT (dT (dH)))); rfl) | ((focus (with_reducible exact dT (dT (dT (dH))))); rfl) | ((focus (with_reducible exact dT (dT (dT (dT (dH)))))); rfl) | ((focus (with_reducible exact dT (dT (dT (dT (dT (dH))))))); rfl) | ((focus (with_reducible exact dT (dT (dT (dT (dT (dT (dH)))))))); rfl)); rfl; exact iF; kernel_rfl; rfl; rfl; (focus (first | omega | (simp; done) | (simp; omega))); clear H; intro vq wn H; (try simp only [yM, yN, yO] at H); simp only [Act.put, yA, yB, yC, yD, yE, yF]) | ((with_reducible apply st_appendrb H); (first | ((focus (with_reducible exact dH)); rfl) | ((focus (with_reducible exact dT (dH))); rfl) | ((focus (with_reducible exact dT (dT (dH)))); rfl) | ((focus (with_reducible exact dT (dT (dT (dH))))); rfl) | ((focus (with_reducible exact dT (dT (dT (dT (dH)))))); rfl) | ((focus (with_reducible exact dT (dT (dT (dT (dT (dH))))))); rfl) | ((focus (with_reducible exact dT (dT (dT (dT (dT (dT (dH)))))))); rfl)); rfl; exact iF; kernel_rfl; rfl; rfl; (focus (first | omega | (simp; done) | (simp; omega))); clear H; intro vq wn H; (try simp only [yM, yN, yO] at H); simp only [Act.put, yA, yB, yC, yD, yE, yF]) | ((first | (go_at_call 49; refine gvF (c1 _ H.below) H ?_) | (go_at_call 50; refine gvF (c3 _) H ?_) | (go_at_call 51; refine gvF (ill_s _ _) H ?_) | (go_at_call 52; refine gvF (c4 _ H.below) H ?_)); clear H; intro wn H) | ((with_reducible apply wp_region_hq (id := 9) H); kernel_rfl; kernel_rfl; (iterate 11 (all_goals ((with_reducible refine' hq_step ?_ ?_ ?_); rotate_left; rfl; (focus (intro w1 H1; first | (first | exact qF | exact qAF | exact qRF) | (exact qVF))); (try simp only [yG, yH, yJ, yK]); simp only [Act.put, yA, yB, yC, yD, yE, yF]))); all_goals (refine wpQuiet_nil ?_; clear H; intro wn H)) | fail)
      refine (Rets.use (cc _ H.below)).mono ?_; rintro e wn ⟨_, _, rfl, ⟨u, MM, rfl, hM, rfl⟩, hkk⟩; have Hn := H.moreK (by intro k hk; first | exact absurd hk List.not_mem_nil | (obtain rfl := List.mem_singleton.1 hk; exact In.mem iF)) hkk; clear hkk; clear H; have H := Hn; clear Hn; (try simp only [yT, yV] at H)
      have Hn := own_open hM H
      clear H
      obtain ⟨xs, M, A, ca, rfl, hO, hcm, H⟩ := Hn
      replace H : Hs noRow w (Hl.row 114 3 (.slice A l.length ca) l.length xs :: Hl.all M :: _) _ := H
      rw [← HN.out] at H hM ⊢
      obtain ⟨g9, c9, hv9, _⟩ := (H.rows .here).form (by omega)
      injection hv9 with hw1 hw2 hw3
      subst hw1 hw3
      clear hM hcm c1 c3 c4 cc hw2
      obtain ⟨x1, csb, x2, M1, Mi, M2, rfl, rfl, hx1, hO1, hOb, hO2⟩ := hO.at_ hb
      obtain ⟨a1, w1', J1, P1, rfl, rfl, j1, a2, a3, J2, J3, rfl, rfl, j2, j3⟩ := hOb
      obtain ⟨e1, he1⟩ : ∃ v, a1 = [v] := by obtain ⟨v, _, _, rfl, _⟩ := j1; exact ⟨v, rfl⟩
      obtain ⟨e2, he2⟩ : ∃ v, a2 = [v] := by obtain ⟨v, _, _, rfl, _⟩ := j2; exact ⟨v, rfl⟩
      obtain ⟨e3, he3⟩ : ∃ v, a3 = [v] := by obtain ⟨v, _, _, rfl, _⟩ := j3; exact ⟨v, rfl⟩
      subst he1 he2 he3
      have hx1' : x1.length = k * 3 := hx1
      have H2 := ((H.up1.part.up1.part).part3)
      clear H
      have Hn := own_open j1 H2
      clear H2
      obtain ⟨ys, K1, E1, f1, rfl, hK, _, H⟩ := Hn
      obtain rfl : K1 = [] := flat_noown hK
      obtain rfl : ys = flat encNum b.1 := ownL_flatE hK
      replace H : Hs noRow w (Hl.row 2 1 (.slice E1 b.1.length f1) b.1.length (flat encNum b.1) :: _) _ := H
      have Hn := own_open j3 (H.reperm (Del.perm (h := Hl.all J3) dF))
      clear H
      obtain ⟨zs, K3, E3, f3, rfl, hK3, hf3, H⟩ := Hn
      obtain rfl : K3 = [] := flat_noown hK3
      obtain rfl : zs = flat encNt b.2.2 := ownL_flatE hK3
      replace H : Hs noRow w (Hl.row 116 2 (.slice E3 b.2.2.length f3) b.2.2.length (flat encNt b.2.2) :: _) _ := H
      rw [← HN3.out] at H
      rw [← HN1.out] at H
      have hseg : Seg (x1 ++ (Value.slice E1 n1 f1 :: e2 :: Value.slice E3 N3 f3 :: x2)) (k * 3) [Value.slice E1 n1 f1] := fun j u hu => by
        match j, hu with
        | 0, hu => exact seg_mid x1 [Value.slice E1 n1 f1, e2, Value.slice E3 N3 f3] x2 hx1' 0 u hu
      have hfitr : k * 3 + 1 ≤ (x1 ++ (([Value.slice E1 n1 f1] ++ ([e2] ++ [Value.slice E3 N3 f3])) ++ x2)).length := by rw [List.length_append, hx1']; simp
      have HO1 := Lib.hid hO1
      have HO2 := Lib.hid hO2
      have HJ2 := Lib.hid j2
      have HB := Lib.hid hb
      clear hO1 hO2 j2 j3 hO hK hK3 j1 hx1 hb
      go_wp2_with (first | ((first | ((with_reducible refine st_gwT ?_ ?_); rfl) | ((with_reducible refine st_gwF ?_ ?_); rfl) | ((with_reducible refine st_gsT ?_ ?_); rfl) | ((with_reducible refine st_gsF ?_ ?_); rfl)); (try simp only [Act.put, yA, yB, yC, yD, yE, yF])) | ((with_reducible refine' st_guard ?_ ?_ ?_); rotate_left; rfl; (all_goals (intro hgd; cases hgd)); (try simp only [Act.put, yA, yB, yC, yD, yE, yF])) | ((with_reducible apply st_want); rfl) | ((with_reducible refine st_skip ?_ ?_); rfl; simp only [Act.put, yA, yB, yC, yD, yE, yF]) | ((first | ((with_reducible apply st_load1 H); decide +kernel; rfl; exact cF) | ((with_reducible apply st_loads H); decide +kernel; rfl; exact iF; exact zF; rfl) | ((with_reducible apply st_store H); rfl; exact eF; (focus (exact cells_agg _)); exact uF; kernel_rfl; (focus (exact Nat.le_of_ble_eq_true (by rfl))); (focus (first | rfl | simp))) | ((with_reducible apply st_storeown H); rfl; exact eF; (focus (exact (rfl : _ = [_]))); exact uF; (focus omega); kernel_rfl; rfl)); clear H; intro wn H; (try simp only [splice, yG, yH, yI, yJ, yK, yL, yM, yN, yO, yP, yQ, Nat.reduceAdd, yA, yB, yC] at H); simp only [Act.put, yA, yB, yC, yD, yE, yF]) | ((first | ((with_reducible apply st_box (dst := some 6) H); exact nF; intro b6) | ((with_reducible apply st_box (dst := some 7) H); exact nF; intro b7) | ((with_reducible apply st_box (dst := some 8) H); exact nF; intro b8) | ((with_reducible apply st_box (dst := some 9) H); exact nF; intro b9) | ((with_reducible apply st_alloc (dst := some 12) H); exact nF; intro b12) | ((with_reducible apply st_alloc (dst := some 14) H); exact nF; intro b14) | ((with_reducible apply st_alloc (dst := some 15) H); exact nF; intro b15) | ((with_reducible apply st_strsum H); rfl; rfl; exact szF; kernel_rfl) | ((with_reducible apply st_bslice H); exact nsF; intro nb) | ((with_reducible apply st_loadat H); decide +kernel; rfl; exact aF; exact zF; rfl) | ((with_reducible apply st_storerow H); rfl; exact eF; (first | exact cells_agg _ | exact cellI | exact cellS | exact cellB | exact (rfl : _ = [_])); exact uF; kernel_rfl; exact Nat.succ_pos _; exact fitF; rfl)); clear H; intro wn H; simp only [Act.put, yA, yB, yC, yD, yE, yF]) | ((with_reducible apply st_appendb H); (first | ((focus (with_reducible exact dH)); rfl) | ((focus (with_reducible exact dT (dH))); rfl) | ((focus (with_reducible exact dT (dT (dH)))); rfl) | ((focus (with_reducible exact dT (dT (dT (dH))))); rfl) | ((focus (with_reducible exact dT (dT (dT (dT (dH)))))); rfl) | ((focus (with_reducible exact dT (dT (dT (dT (dT (dH))))))); rfl) | ((focus (with_reducible exact dT (dT (dT (dT (dT (dT (dH)))))))); rfl)); rfl; exact iF; kernel_rfl; rfl; rfl; (focus (first | omega | (simp; done) | (simp; omega))); clear H; intro vq wn H; (try simp only [yM, yN, yO] at H); simp only [Act.put, yA, yB, yC, yD, yE, yF]) | ((with_reducible apply st_appendrb H); (first | ((focus (with_reducible exact dH)); rfl) | ((focus (with_reducible exact dT (dH))); rfl) | ((focus (with_reducible exact dT (dT (dH)))); rfl) | ((focus (with_reducible exact dT (dT (dT (dH))))); rfl) | ((focus (with_reducible exact dT (dT (dT (dT (dH)))))); rfl) | ((focus (with_reducible exact dT (dT (dT (dT (dT (dH))))))); rfl) | ((focus (with_reducible exact dT (dT (dT (dT (dT (dT (dH)))))))); rfl)); rfl; exact iF; kernel_rfl; rfl; rfl; (focus (first | omega | (simp; done) | (simp; omega))); clear H; intro vq wn H; (try simp only [yM, yN, yO] at H); simp only [Act.put, yA, yB, yC, yD, yE, yF]) | ((first | (go_at_call 49; refine gvF (c1 _ H.below) H ?_) | (go_at_call 50; refine gvF (c3 _) H ?_) | (go_at_call 51; refine gvF (ill_s _ _) H ?_) | (go_at_call 52; refine gvF (c4 _ H.below) H ?_)); clear H; intro wn H) | ((with_reducible apply wp_region_hq (id := 9) H); kernel_rfl; kernel_rfl; (iterate 11 (all_goals ((with_reducible refine' hq_step ?_ ?_ ?_); rotate_left; rfl; (focus (intro w1 H1; first | (first | exact qF | exact qAF | exact qRF) | (exact qVF))); (try simp only [yG, yH, yJ, yK]); simp only [Act.put, yA, yB, yC, yD, yE, yF]))); all_goals (refine wpQuiet_nil ?_; clear H; intro wn H)) | fail)
      have Hn := H.tk (Tk.cons (k := (Hl.row 2 1 (.slice E1 n1 f1) n1 (flat encNum b.1))) dF (Tk.nil)); clear H; have H := Hn; clear Hn; apply wp_region_hs (K := []) (Spec.V _ :: Spec.V _ :: Spec.V _ :: Spec.V _ :: Spec.V _ :: Spec.V _ :: Spec.V _ :: Spec.V _ :: Spec.V _ :: Spec.V _ :: Spec.S _ _ _ :: Spec.W ((Hl.row 2 1 (.slice E1 n1 f1) n1 (flat encNum b.1))) _ :: []) 12 H rfl (by simp) (by kernel_rfl) (by kernel_rfl); intro vs Ls; (iterate 8 ((with_reducible apply wpH_V); (focus rfl); (focus rfl); (focus (intro w1 H1; exact oF)); simp only [Act.put, yA, yB, yC, yD, yE, yF]; (try simp only [yG, yH, yJ, yK]))); ((with_reducible apply wpH_V); (focus rfl); (focus rfl); (focus (intro w1 H1; (with_reducible apply ok_load1); (focus rfl); (focus decide +kernel); (focus exact (At.row H1 iF hseg).head rfl))); simp only [Act.put, yA, yB, yC, yD, yE, yF]); (iterate 1 ((with_reducible apply wpH_V); (focus rfl); (focus rfl); (focus (intro w1 H1; exact oF)); simp only [Act.put, yA, yB, yC, yD, yE, yF]; (try simp only [yG, yH, yJ, yK]))); (with_reducible apply wpH_S); (focus rfl); (focus rfl); (focus (intro hk w1 H1; unfold OpOk; go_simp; exact now_sl)); intro g10 hg10; simp only [Act.put, yA, yB, yC, yD, yE, yF]; (with_reducible apply (wpH_WD 10)); (focus rfl); (focus rfl); (focus decide +kernel); (focus decide); (focus (intro hok N w1 H1 H2; have hb : Blk w1 _ _ _ := H2.ok _ (List.mem_cons_of_mem _ (List.mem_append_left _ (List.mem_singleton.2 rfl))); rw [← hg10] at hb; exact app_W H1 rfl rfl (by kernel_rfl) (Rd.of_blk hb rfl (by unfold maxLen; omega)) (by rfl) (by omega))); simp only [Act.put, yA, yB, yC, yD, yE, yF]; refine wpH_0 ?_; intro hok wn Hn; (try simp only [yT, yU, yV, yW] at Hn); clear H; have H := Hn; clear Hn; (try simp only [← hg10]); clear hg10; have ht11 := okW (hok 11 (by decide)) rfl; clear hok; obtain ⟨A11, c11, e11, l11⟩ := ht11; simp only [e11, l11, yT, yU, yV] at H ⊢; clear e11 l11; (try simp only [cells_agg, cellI, cellS, cellB] at H); (try simp only [splice, yG, yH, yI, yJ, yK, yL, yM, yN, yO, yP, yQ, Nat.reduceAdd, yA, yB, yC] at H); rotate_left; (focus (refine locs ?_; intro vs1 vs2; (iterate 12 (refine all_lt_succ ?_ (by first | exact (fun _ => rfl) | exact (fun _ => ⟨rfl, rfl⟩) | (intro h; simp only [spec, Spec.same, yR, yS, Option.getD_some]; (try rw [h 10 (by decide +kernel)]); (try rw [h 11 (by decide +kernel)]); (first | done | exact ⟨rfl, rfl⟩ | exact ⟨trivial, rfl⟩ | exact ⟨rfl, trivial⟩))))); exact (fun k hk => absurd hk (Nat.not_lt_zero k))))
      go_wp2_with (first | ((first | ((with_reducible refine st_gwT ?_ ?_); rfl) | ((with_reducible refine st_gwF ?_ ?_); rfl) | ((with_reducible refine st_gsT ?_ ?_); rfl) | ((with_reducible refine st_gsF ?_ ?_); rfl)); (try simp only [Act.put, yA, yB, yC, yD, yE, yF])) | ((with_reducible refine' st_guard ?_ ?_ ?_); rotate_left; rfl; (all_goals (intro hgd; cases hgd)); (try simp only [Act.put, yA, yB, yC, yD, yE, yF])) | ((with_reducible apply st_want); rfl) | ((with_reducible refine st_skip ?_ ?_); rfl; simp only [Act.put, yA, yB, yC, yD, yE, yF]) | ((first | ((with_reducible apply st_load1 H); decide +kernel; rfl; exact cF) | ((with_reducible apply st_loads H); decide +kernel; rfl; exact iF; exact zF; rfl) | ((with_reducible apply st_store H); rfl; exact eF; (focus (exact cells_agg _)); exact uF; kernel_rfl; (focus (exact Nat.le_of_ble_eq_true (by rfl))); (focus (first | rfl | simp))) | ((with_reducible apply st_storeown H); rfl; exact eF; (focus (exact (rfl : _ = [_]))); exact uF; (focus omega); kernel_rfl; rfl)); clear H; intro wn H; (try simp only [splice, yG, yH, yI, yJ, yK, yL, yM, yN, yO, yP, yQ, Nat.reduceAdd, yA, yB, yC] at H); simp only [Act.put, yA, yB, yC, yD, yE, yF]) | ((first | ((with_reducible apply st_box (dst := some 6) H); exact nF; intro b6) | ((with_reducible apply st_box (dst := some 7) H); exact nF; intro b7) | ((with_reducible apply st_box (dst := some 8) H); exact nF; intro b8) | ((with_reducible apply st_box (dst := some 9) H); exact nF; intro b9) | ((with_reducible apply st_alloc (dst := some 12) H); exact nF; intro b12) | ((with_reducible apply st_alloc (dst := some 14) H); exact nF; intro b14) | ((with_reducible apply st_alloc (dst := some 15) H); exact nF; intro b15) | ((with_reducible apply st_strsum H); rfl; rfl; exact szF; kernel_rfl) | ((with_reducible apply st_bslice H); exact nsF; intro nb) | ((with_reducible apply st_loadat H); decide +kernel; rfl; exact aF; exact zF; rfl) | ((with_reducible apply st_storerow H); rfl; exact eF; (first | exact cells_agg _ | exact cellI | exact cellS | exact cellB | exact (rfl : _ = [_])); exact uF; kernel_rfl; exact Nat.succ_pos _; exact fitF; rfl)); clear H; intro wn H; simp only [Act.put, yA, yB, yC, yD, yE, yF]) | ((with_reducible apply st_appendb H); (first | ((focus (with_reducible exact dH)); rfl) | ((focus (with_reducible exact dT (dH))); rfl) | ((focus (with_reducible exact dT (dT (dH)))); rfl) | ((focus (with_reducible exact dT (dT (dT (dH))))); rfl) | ((focus (with_reducible exact dT (dT (dT (dT (dH)))))); rfl) | ((focus (with_reducible exact dT (dT (dT (dT (dT (dH))))))); rfl) | ((focus (with_reducible exact dT (dT (dT (dT (dT (dT (dH)))))))); rfl)); rfl; exact iF; kernel_rfl; rfl; rfl; (focus (first | omega | (simp; done) | (simp; omega))); clear H; intro vq wn H; (try simp only [yM, yN, yO] at H); simp only [Act.put, yA, yB, yC, yD, yE, yF]) | ((with_reducible apply st_appendrb H); (first | ((focus (with_reducible exact dH)); rfl) | ((focus (with_reducible exact dT (dH))); rfl) | ((focus (with_reducible exact dT (dT (dH)))); rfl) | ((focus (with_reducible exact dT (dT (dT (dH))))); rfl) | ((focus (with_reducible exact dT (dT (dT (dT (dH)))))); rfl) | ((focus (with_reducible exact dT (dT (dT (dT (dT (dH))))))); rfl) | ((focus (with_reducible exact dT (dT (dT (dT (dT (dT (dH)))))))); rfl)); rfl; exact iF; kernel_rfl; rfl; rfl; (focus (first | omega | (simp; done) | (simp; omega))); clear H; intro vq wn H; (try simp only [yM, yN, yO] at H); simp only [Act.put, yA, yB, yC, yD, yE, yF]) | ((first | (go_at_call 49; refine gvF (c1 _ H.below) H ?_) | (go_at_call 50; refine gvF (c3 _) H ?_) | (go_at_call 51; refine gvF (ill_s _ _) H ?_) | (go_at_call 52; refine gvF (c4 _ H.below) H ?_)); clear H; intro wn H) | ((with_reducible apply wp_region_hq (id := 9) H); kernel_rfl; kernel_rfl; (iterate 11 (all_goals ((with_reducible refine' hq_step ?_ ?_ ?_); rotate_left; rfl; (focus (intro w1 H1; first | (first | exact qF | exact qAF | exact qRF) | (exact qVF))); (try simp only [yG, yH, yJ, yK]); simp only [Act.put, yA, yB, yC, yD, yE, yF]))); all_goals (refine wpQuiet_nil ?_; clear H; intro wn H)) | fail)
      have hspl := spl_one x1 x2 (.bool false) [Value.slice E1 n1 f1, e2, Value.slice E3 N3 f3] (.slice A11 (n1 + 1) c11) hx1' (j := 0) (by simp)
      rw [show spl (x1 ++ Value.slice E1 n1 f1 :: e2 :: Value.slice E3 N3 f3 :: x2) (k * 3) [.slice A11 (n1 + 1) c11] = x1 ++ ([.slice A11 (n1 + 1) c11, e2, Value.slice E3 N3 f3] ++ x2) from hspl.trans (by simp)] at H
      have hseg2 : Seg (x1 ++ ([.slice A11 (n1 + 1) c11, e2, Value.slice E3 N3 f3] ++ x2)) (k * 3 + 2) [Value.slice E3 N3 f3] := fun j u hu => by
        match j, hu with
        | 0, hu => exact seg_mid x1 [.slice A11 (n1 + 1) c11, e2, Value.slice E3 N3 f3] x2 hx1' 2 u hu
      have hfitr2 : k * 3 + 2 + 1 ≤ (x1 ++ ([.slice A11 (n1 + 1) c11, e2, Value.slice E3 N3 f3] ++ x2)).length := by rw [List.length_append, hx1']; simp; omega
      clear hseg hfitr hspl
      have Hn := H.tk (Tk.cons (k := (Hl.row 116 2 (.slice E3 N3 f3) N3 (flat encNt b.2.2))) dF (Tk.nil)); clear H; have H := Hn; clear Hn; apply wp_region_hs (K := []) (Spec.V _ :: Spec.V _ :: Spec.V _ :: Spec.V _ :: Spec.V _ :: Spec.V _ :: Spec.V _ :: Spec.V _ :: Spec.V _ :: Spec.V _ :: Spec.V _ :: Spec.V _ :: Spec.S _ _ _ :: Spec.W ((Hl.row 116 2 (.slice E3 N3 f3) N3 (flat encNt b.2.2))) _ :: []) 14 H rfl (by simp) (by kernel_rfl) (by kernel_rfl); intro vs Ls; (iterate 8 ((with_reducible apply wpH_V); (focus rfl); (focus rfl); (focus (intro w1 H1; exact oF)); simp only [Act.put, yA, yB, yC, yD, yE, yF]; (try simp only [yG, yH, yJ, yK]))); ((with_reducible apply wpH_V); (focus rfl); (focus rfl); (focus (intro w1 H1; (with_reducible apply ok_load1); (focus rfl); (focus decide +kernel); (focus exact (At.row H1 iF hseg2).head rfl))); simp only [Act.put, yA, yB, yC, yD, yE, yF]); (iterate 3 ((with_reducible apply wpH_V); (focus rfl); (focus rfl); (focus (intro w1 H1; exact oF)); simp only [Act.put, yA, yB, yC, yD, yE, yF]; (try simp only [yG, yH, yJ, yK]))); (with_reducible apply wpH_S); (focus rfl); (focus rfl); (focus (intro hk w1 H1; unfold OpOk; go_simp; exact now_sl)); intro g12 hg12; simp only [Act.put, yA, yB, yC, yD, yE, yF]; (with_reducible apply (wpH_WD 12)); (focus rfl); (focus rfl); (focus decide +kernel); (focus decide); (focus (intro hok N w1 H1 H2; have hb : Blk w1 _ _ _ := H2.ok _ (List.mem_cons_of_mem _ (List.mem_append_left _ (List.mem_singleton.2 rfl))); rw [← hg12] at hb; exact app_W H1 rfl rfl (by kernel_rfl) (Rd.of_blk hb rfl (by unfold maxLen; omega)) (by rfl) (by omega))); simp only [Act.put, yA, yB, yC, yD, yE, yF]; refine wpH_0 ?_; intro hok wn Hn; (try simp only [yT, yU, yV, yW] at Hn); clear H; have H := Hn; clear Hn; (try simp only [← hg12]); clear hg12; have ht13 := okW (hok 13 (by decide)) rfl; clear hok; obtain ⟨A13, c13, e13, l13⟩ := ht13; simp only [e13, l13, yT, yU, yV] at H ⊢; clear e13 l13; (try simp only [cells_agg, cellI, cellS, cellB] at H); (try simp only [splice, yG, yH, yI, yJ, yK, yL, yM, yN, yO, yP, yQ, Nat.reduceAdd, yA, yB, yC] at H); rotate_left; (focus (refine locs ?_; intro vs1 vs2; (iterate 14 (refine all_lt_succ ?_ (by first | exact (fun _ => rfl) | exact (fun _ => ⟨rfl, rfl⟩) | (intro h; simp only [spec, Spec.same, yR, yS, Option.getD_some]; (try rw [h 12 (by decide +kernel)]); (try rw [h 13 (by decide +kernel)]); (first | done | exact ⟨rfl, rfl⟩ | exact ⟨trivial, rfl⟩ | exact ⟨rfl, trivial⟩))))); exact (fun k hk => absurd hk (Nat.not_lt_zero k))))
      go_wp2_with (first | ((first | ((with_reducible refine st_gwT ?_ ?_); rfl) | ((with_reducible refine st_gwF ?_ ?_); rfl) | ((with_reducible refine st_gsT ?_ ?_); rfl) | ((with_reducible refine st_gsF ?_ ?_); rfl)); (try simp only [Act.put, yA, yB, yC, yD, yE, yF])) | ((with_reducible refine' st_guard ?_ ?_ ?_); rotate_left; rfl; (all_goals (intro hgd; cases hgd)); (try simp only [Act.put, yA, yB, yC, yD, yE, yF])) | ((with_reducible apply st_want); rfl) | ((with_reducible refine st_skip ?_ ?_); rfl; simp only [Act.put, yA, yB, yC, yD, yE, yF]) | ((first | ((with_reducible apply st_load1 H); decide +kernel; rfl; exact cF) | ((with_reducible apply st_loads H); decide +kernel; rfl; exact iF; exact zF; rfl) | ((with_reducible apply st_store H); rfl; exact eF; (focus (exact cells_agg _)); exact uF; kernel_rfl; (focus (exact Nat.le_of_ble_eq_true (by rfl))); (focus (first | rfl | simp))) | ((with_reducible apply st_storeown H); rfl; exact eF; (focus (exact (rfl : _ = [_]))); exact uF; (focus omega); kernel_rfl; rfl)); clear H; intro wn H; (try simp only [splice, yG, yH, yI, yJ, yK, yL, yM, yN, yO, yP, yQ, Nat.reduceAdd, yA, yB, yC] at H); simp only [Act.put, yA, yB, yC, yD, yE, yF]) | ((first | ((with_reducible apply st_box (dst := some 6) H); exact nF; intro b6) | ((with_reducible apply st_box (dst := some 7) H); exact nF; intro b7) | ((with_reducible apply st_box (dst := some 8) H); exact nF; intro b8) | ((with_reducible apply st_box (dst := some 9) H); exact nF; intro b9) | ((with_reducible apply st_alloc (dst := some 12) H); exact nF; intro b12) | ((with_reducible apply st_alloc (dst := some 14) H); exact nF; intro b14) | ((with_reducible apply st_alloc (dst := some 15) H); exact nF; intro b15) | ((with_reducible apply st_strsum H); rfl; rfl; exact szF; kernel_rfl) | ((with_reducible apply st_bslice H); exact nsF; intro nb) | ((with_reducible apply st_loadat H); decide +kernel; rfl; exact aF; exact zF; rfl) | ((with_reducible apply st_storerow H); rfl; exact eF; (first | exact cells_agg _ | exact cellI | exact cellS | exact cellB | exact (rfl : _ = [_])); exact uF; kernel_rfl; exact Nat.succ_pos _; exact fitF; rfl)); clear H; intro wn H; simp only [Act.put, yA, yB, yC, yD, yE, yF]) | ((with_reducible apply st_appendb H); (first | ((focus (with_reducible exact dH)); rfl) | ((focus (with_reducible exact dT (dH))); rfl) | ((focus (with_reducible exact dT (dT (dH)))); rfl) | ((focus (with_reducible exact dT (dT (dT (dH))))); rfl) | ((focus (with_reducible exact dT (dT (dT (dT (dH)))))); rfl) | ((focus (with_reducible exact dT (dT (dT (dT (dT (dH))))))); rfl) | ((focus (with_reducible exact dT (dT (dT (dT (dT (dT (dH)))))))); rfl)); rfl; exact iF; kernel_rfl; rfl; rfl; (focus (first | omega | (simp; done) | (simp; omega))); clear H; intro vq wn H; (try simp only [yM, yN, yO] at H); simp only [Act.put, yA, yB, yC, yD, yE, yF]) | ((with_reducible apply st_appendrb H); (first | ((focus (with_reducible exact dH)); rfl) | ((focus (with_reducible exact dT (dH))); rfl) | ((focus (with_reducible exact dT (dT (dH)))); rfl) | ((focus (with_reducible exact dT (dT (dT (dH))))); rfl) | ((focus (with_reducible exact dT (dT (dT (dT (dH)))))); rfl) | ((focus (with_reducible exact dT (dT (dT (dT (dT (dH))))))); rfl) | ((focus (with_reducible exact dT (dT (dT (dT (dT (dT (dH)))))))); rfl)); rfl; exact iF; kernel_rfl; rfl; rfl; (focus (first | omega | (simp; done) | (simp; omega))); clear H; intro vq wn H; (try simp only [yM, yN, yO] at H); simp only [Act.put, yA, yB, yC, yD, yE, yF]) | ((first | (go_at_call 49; refine gvF (c1 _ H.below) H ?_) | (go_at_call 50; refine gvF (c3 _) H ?_) | (go_at_call 51; refine gvF (ill_s _ _) H ?_) | (go_at_call 52; refine gvF (c4 _ H.below) H ?_)); clear H; intro wn H) | ((with_reducible apply wp_region_hq (id := 9) H); kernel_rfl; kernel_rfl; (iterate 11 (all_goals ((with_reducible refine' hq_step ?_ ?_ ?_); rotate_left; rfl; (focus (intro w1 H1; first | (first | exact qF | exact qAF | exact qRF) | (exact qVF))); (try simp only [yG, yH, yJ, yK]); simp only [Act.put, yA, yB, yC, yD, yE, yF]))); all_goals (refine wpQuiet_nil ?_; clear H; intro wn H)) | fail)
      refine bp_cell H rfl rfl iF (by kernel_rfl) (by kernel_rfl) rfl (by first | exact .inl rfl | exact .inr rfl) ?_
      rw [HMO.out]
      have hkl : k < l.length := by rw [← HN.out]; exact hk
      have hset : l.set k (sendBo b x t) = (l.take k ++ [sendBo b x t]) ++ l.drop (k + 1) := by rw [List.set_eq_take_append_cons_drop, if_pos hkl]; simp
      have hown : tyBo.own ([.slice A11 (n1 + 1) c11] ++ ([e2] ++ [.slice A13 (N3 + 1) c13])) (sendBo b x t) ([Hl.row 2 1 (.slice A11 (n1 + 1) c11) (n1 + 1) (flat encNum b.1 ++ [.int .i64 x])] ++ (J2 ++ [Hl.row 116 2 (.slice A13 (N3 + 1) c13) (N3 + 1) (flat encNt b.2.2 ++ [.int .i64 t, .int .i64 x])])) :=
        ⟨[_], [_, _], _, _, rfl, rfl, own_num (by show _ = flat encNum (b.1 ++ [x]); rw [flat_append]; rfl) (by show _ = (b.1 ++ [x]).length; rw [List.length_append, ← HN1.out]; rfl) rfl, [_], [_], _, _, rfl, rfl, HJ2.out, own_nt (by show _ = flat encNt (b.2.2 ++ [(t, x)]); rw [flat_append]; rfl) (by show _ = (b.2.2 ++ [(t, x)]).length; rw [List.length_append, ← HN3.out]; rfl) rfl⟩
      have hO3 := (HO1.out.snoc hown).append HO2.out
      rw [← hset] at hO3
      have hspl := spl_one x1 x2 (.bool false) [Value.slice A11 (n1 + 1) c11, e2, Value.slice E3 N3 f3] (.slice A13 (N3 + 1) c13) hx1' (j := 2) (by simp)
      have H0 := H.sel (M := [Hl.row 2 1 (.slice A11 (n1 + 1) c11) (n1 + 1) (flat encNum b.1 ++ [.int .i64 x]), Hl.row 116 2 (.slice A13 (N3 + 1) c13) (N3 + 1) (flat encNt b.2.2 ++ [.int .i64 t, .int .i64 x]), Hl.all J2, Hl.all M1, Hl.all M2, Hl.row 114 3 (.slice (some ⟨g9, 0, none⟩) n ca) n _]) sF
      have H1 := (Hs.pack (M := [Hl.row 2 1 (.slice A11 (n1 + 1) c11) (n1 + 1) (flat encNum b.1 ++ [.int .i64 x])]) H0)
      have H3 := (Hs.pack (M := [Hl.row 116 2 (.slice A13 (N3 + 1) c13) (N3 + 1) (flat encNt b.2.2 ++ [.int .i64 t, .int .i64 x])]) H1.up1)
      have H4 := H3.up2.up2.join3.up1.join.join.up1
      rw [show spl (x1 ++ Value.slice A11 (n1 + 1) c11 :: e2 :: Value.slice E3 N3 f3 :: x2) (k * 3 + 2) [.slice A13 (N3 + 1) c13] = (x1 ++ ([.slice A11 (n1 + 1) c11] ++ ([e2] ++ [.slice A13 (N3 + 1) c13]))) ++ x2 from hspl.trans (by simp)] at H4
      exact ret_mail hO3 H4 (by rw [List.length_set]; exact HN.out) 0
  )
  all_goals (try (exfalso; omega))
  all_goals (
    (try first | subst h30 | subst h31)
    (try have hpos : (0 : Int) < (j : Int) + 1 := by omega)
    (try have hlt2 : (j : Int) < (j + 1 : Nat) := by omega)
    (try have hlt3 : j < j + 1 := by omega)
    (try have hj12 : j ≤ 11 := by omega)
    (try have hfull2 : rt ≤ (n1 : Int) := hfull)
    (try have hless : ¬ rt ≤ (n1 : Int) := hfull)
    (try have hq12 : (12 : Int) ≤ (j : Int) + 1 := by omega)
    (try have hq12b : (((j : Int) + 1) == 12) = true := by simp; omega)
    (try have hq12c : 12 ≤ j + 1 := by omega)
    (try clear hmf); (try clear hmt); (try clear hmr); (try clear hix); (try clear c2); (try clear hfit); (try clear hrate); (try clear hN3); (try clear HN3); (try clear hb)
    go_enter Tryz.func11, Tryz.ntmps11
    go_wp2_with (first | ((first | ((with_reducible refine st_gwT ?_ ?_); rfl) | ((with_reducible refine st_gwF ?_ ?_); rfl) | ((with_reducible refine st_gsT ?_ ?_); rfl) | ((with_reducible refine st_gsF ?_ ?_); rfl)); (try simp only [Act.put, yA, yB, yC, yD, yE, yF])) | ((with_reducible refine' st_guard ?_ ?_ ?_); rotate_left; rfl; (all_goals (intro hgd; cases hgd)); (try simp only [Act.put, yA, yB, yC, yD, yE, yF])) | ((with_reducible apply st_want); rfl) | ((with_reducible refine st_skip ?_ ?_); rfl; simp only [Act.put, yA, yB, yC, yD, yE, yF]) | ((first | ((with_reducible apply st_load1 H); decide +kernel; rfl; exact cF) | ((with_reducible apply st_loads H); decide +kernel; rfl; exact iF; exact zF; rfl) | ((with_reducible apply st_store H); rfl; exact eF; (focus (exact cells_agg _)); exact uF; kernel_rfl; (focus (exact Nat.le_of_ble_eq_true (by rfl))); (focus (first | rfl | simp))) | ((with_reducible apply st_storeown H); rfl; exact eF; (focus (exact (rfl : _ = [_]))); exact uF; (focus omega); kernel_rfl; rfl)); clear H; intro wn H; (try simp only [splice, yG, yH, yI, yJ, yK, yL, yM, yN, yO, yP, yQ, Nat.reduceAdd, yA, yB, yC] at H); simp only [Act.put, yA, yB, yC, yD, yE, yF]) | ((first | ((with_reducible apply st_box (dst := some 6) H); exact nF; intro b6) | ((with_reducible apply st_box (dst := some 7) H); exact nF; intro b7) | ((with_reducible apply st_box (dst := some 8) H); exact nF; intro b8) | ((with_reducible apply st_box (dst := some 9) H); exact nF; intro b9) | ((with_reducible apply st_alloc (dst := some 12) H); exact nF; intro b12) | ((with_reducible apply st_alloc (dst := some 14) H); exact nF; intro b14) | ((with_reducible apply st_alloc (dst := some 15) H); exact nF; intro b15) | ((with_reducible apply st_strsum H); rfl; rfl; exact szF; kernel_rfl) | ((with_reducible apply st_bslice H); exact nsF; intro nb) | ((with_reducible apply st_loadat H); decide +kernel; rfl; exact aF; exact zF; rfl) | ((with_reducible apply st_storerow H); rfl; exact eF; (first | exact cells_agg _ | exact cellI | exact cellS | exact cellB | exact (rfl : _ = [_])); exact uF; kernel_rfl; exact Nat.succ_pos _; exact fitF; rfl)); clear H; intro wn H; simp only [Act.put, yA, yB, yC, yD, yE, yF]) | ((with_reducible apply st_appendb H); (first | ((focus (with_reducible exact dH)); rfl) | ((focus (with_reducible exact dT (dH))); rfl) | ((focus (with_reducible exact dT (dT (dH)))); rfl) | ((focus (with_reducible exact dT (dT (dT (dH))))); rfl) | ((focus (with_reducible exact dT (dT (dT (dT (dH)))))); rfl) | ((focus (with_reducible exact dT (dT (dT (dT (dT (dH))))))); rfl) | ((focus (with_reducible exact dT (dT (dT (dT (dT (dT (dH)))))))); rfl)); rfl; exact iF; kernel_rfl; rfl; rfl; (focus (first | omega | (simp; done) | (simp; omega))); clear H; intro vq wn H; (try simp only [yM, yN, yO] at H); simp only [Act.put, yA, yB, yC, yD, yE, yF]) | ((with_reducible apply st_appendrb H); (first | ((focus (with_reducible exact dH)); rfl) | ((focus (with_reducible exact dT (dH))); rfl) | ((focus (with_reducible exact dT (dT (dH)))); rfl) | ((focus (with_reducible exact dT (dT (dT (dH))))); rfl) | ((focus (with_reducible exact dT (dT (dT (dT (dH)))))); rfl) | ((focus (with_reducible exact dT (dT (dT (dT (dT (dH))))))); rfl) | ((focus (with_reducible exact dT (dT (dT (dT (dT (dT (dH)))))))); rfl)); rfl; exact iF; kernel_rfl; rfl; rfl; (focus (first | omega | (simp; done) | (simp; omega))); clear H; intro vq wn H; (try simp only [yM, yN, yO] at H); simp only [Act.put, yA, yB, yC, yD, yE, yF]) | ((first | (go_at_call 49; refine gvF (c1 _ H.below) H ?_) | (go_at_call 50; refine gvF (c3 _) H ?_) | (go_at_call 51; refine gvF (ill_s _ _) H ?_) | (go_at_call 52; refine gvF (c4 _ H.below) H ?_)); clear H; intro wn H) | ((with_reducible apply wp_region_hq (id := 9) H); kernel_rfl; kernel_rfl; (iterate 11 (all_goals ((with_reducible refine' hq_step ?_ ?_ ?_); rotate_left; rfl; (focus (intro w1 H1; first | (first | exact qF | exact qAF | exact qRF) | (exact qVF))); (try simp only [yG, yH, yJ, yK]); simp only [Act.put, yA, yB, yC, yD, yE, yF]))); all_goals (refine wpQuiet_nil ?_; clear H; intro wn H)) | fail)
    refine bp_cell H rfl rfl iF (by kernel_rfl) (by kernel_rfl) rfl (by first | exact .inl rfl | exact .inr rfl) ?_
    rw [HMO.out]
    exact ret_ill H _
  )
end Go.Proofs.YteeafechjkilkaaGreat
