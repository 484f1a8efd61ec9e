/-
  The quota of a label, in the program and in the reference: the walks.
-/
import Derived.Test.YtpfdhfchgnnpiaaGreatVo
set_option linter.unusedSimpArgs false
set_option linter.unusedVariables false
namespace Go.Proofs.YtpfdhfchgnnpiaaGreat
open Go.RowKit M
namespace M
theorem clear_has {nd : List (List Lab)} {a : Lab} (h : clearOk nd = true) : hasL (labelsOf nd) a = !decide ((clearL nd a).length = 0) := by
  rw [Bool.eq_iff_iff, hasL_iff]
  have e : (!decide ((clearL nd a).length = 0)) = true ↔ clearL nd a ≠ [] := by
    rw [Bool.not_eq_true', decide_eq_false_iff_not, List.length_eq_zero_iff]
  rw [e]
  unfold labelsOf
  rw [List.mem_filter, List.any_eq_true]
  unfold clearL clearTo
  constructor
  · rintro ⟨_, y, hy, hxy⟩ h0
    obtain ⟨i, hi, rfl⟩ := List.getElem_of_mem hy
    have h1 : ((i : Nat) : Int) ∈ (((List.range nd.length).filter (clearB nd a)).map fun (i : Nat) => (i : Int)) := List.mem_map.2 ⟨i, List.mem_filter.2 ⟨List.mem_range.2 hi, by unfold clearB; rw [List.getElem?_eq_getElem hi]; exact hxy⟩, rfl⟩
    rw [h0] at h1
    cases h1
  · intro h0
    obtain ⟨x, hx⟩ := List.exists_mem_of_ne_nil _ h0
    obtain ⟨i, hi, rfl⟩ := List.mem_map.1 hx
    have h1 := (List.mem_filter.1 hi).2
    unfold clearB at h1
    cases hg : nd[i]? with
    | none => rw [hg] at h1; cases h1
    | some y =>
      rw [hg] at h1
      have h2 : hasL y a = true := h1
      have hm := List.mem_of_getElem? hg
      exact ⟨labsAll_mem (clear_labs h a (List.mem_flatten.2 ⟨y, hm, hasL_iff.1 h2⟩)), y, hm, h2⟩
theorem cfg_clear {c : Cfg} (h : cfgOk c = true) : clearOk c.1 = true := by
  unfold cfgOk at h
  simp only [Bool.and_eq_true] at h
  exact h.1
end M
set_option maxRecDepth 100000 in
set_option maxHeartbeats 4000000 in
theorem quotaOf_i (c : Cfg) (cs : List Value) (a : Lab) (hok : cfgOk c = true) (w : World) (hr : tyCfg.rd w cs c) : Gives Tryz.prog 91 #[.agg cs.toArray, .agg #[.int .i64 a.1, .int .i64 a.2]] w (.int .i64 (quotaOf c a)) := by
  have c1 := fun w1 hb => configRight_i c cs w1 (Ty.below _ hr hb)
  have c2 := fun w1 hb => clearFor_i c cs a (cfg_nodes hok).2 w1 (Ty.below _ hr hb)
  rw [hok] at c1
  obtain ⟨v1, v2, v3, rfl, h1, h2, h3⟩ := cfg_form hr
  obtain ⟨nd, pr, qt, hf⟩ := c
  obtain ⟨a1, a2⟩ := a
  simp only at h1 h2 h3 c1 c2
  obtain ⟨A, k1, rfl, _, _⟩ := sl_form h1
  obtain ⟨B, k2, rfl, _, _⟩ := sl_form h2
  obtain ⟨D, k3, rfl, hl3, hm3⟩ := sl_form h3
  unfold maxLen at hm3
  have HR := Lib.hid h3
  obtain ⟨z, hz⟩ : ∃ z, z = quotaOf (nd, pr, qt, hf) (a1, a2) := ⟨_, rfl⟩
  rw [← hz]
  have HZ : Hid (z = if (clearL nd (a1, a2)).length = 0 then 0 else quotaL (a1, a2) (qt.drop 0)) := Lib.hid hz
  obtain ⟨n, hn⟩ : ∃ n, n = qt.length := ⟨_, rfl⟩
  have hnl : n ≤ 9223372036854775807 := by omega
  rw [← hn] at c1 c2 ⊢
  have HN := Lib.hid hn
  generalize nd.length = m1 at *
  generalize pr.length = m2 at *
  clear hr h1 h2 h3 hn hl3 hm3 hz hok
  generalize clearL nd (a1, a2) = cl at *
  replace c1 : ∀ w1, Below w.heap.size w w1 → Gives Tryz.prog 82 #[.agg #[.slice A m1 k1, .slice B m2 k2, .slice D n k3, .int .i64 hf]] w1 (.bool true) := c1
  have H := Hs.start noRow w
  unfold Gives
  show Calls _ _ #[.agg #[.slice A m1 k1, .slice B m2 k2, .slice D n k3, .int .i64 hf], .agg #[.int .i64 a1, .int .i64 a2]] _ _
  go_enter Tryz.func91, Tryz.ntmps91
  go_wp2_with (first | ((((with_reducible refine st_gwF ?_ ?_); rfl)); (try simp only [Act.put, yA, yB, yC, yD, yE, yF])) | ((((with_reducible apply st_loads H); decide +kernel; rfl; exact iF; exact zF; rfl)); clear H; intro wn H; (try simp only [splice, yG, yH, yI, yJ, yK, yL, yM, yN, yO, yP, yQ, Nat.reduceAdd, yA, yB, yC] at H); simp only [Act.put, yA, yB, yC, yD, yE, yF]) | ((first | ((with_reducible apply st_box (dst := some 2) H); exact nF; intro b2) | ((with_reducible apply st_box (dst := some 3) H); exact nF; intro b3)); clear H; intro wn H; simp only [Act.put, yA, yB, yC, yD, yE, yF]) | (((go_at_call 82; refine gvF (c1 _ H.below) H ?_)); clear H; intro wn H))
  refine (Rets.use (c2 _ H.below)).mono ?_; rintro e wn ⟨_, _, rfl, ⟨N, hN, rfl, hone⟩, hkk⟩; have Hn := H.moreK (by intro k hk; first | exact absurd hk List.not_mem_nil | (obtain rfl := List.mem_singleton.1 hk; exact In.mem iF)) hkk; clear hkk; clear H; have H := Hn; clear Hn; (try simp only [yT, yV] at H)
  have hN2 := own_single hN hone rfl
  clear hN hone c1 c2
  obtain ⟨E, ce, rfl, hlc, hcm⟩ := sl_form (own_rd H .here hN2)
  unfold maxLen at hcm
  have hcl : cl.length ≤ 9223372036854775807 := by omega
  clear hN2 hlc hcm
  generalize cl.length = kk at *
  by_cases h0 : kk = 0
  · subst h0
    have HE : Hid (z = 0) := Lib.hid (by rw [HZ.out, if_pos rfl])
    go_wp2_with (((((with_reducible refine st_gwF ?_ ?_); rfl)); (try simp only [Act.put, yA, yB, yC, yD, yE, yF])))
    go_ret
    exact ⟨congrArg (fun z : Int => Ending.returned (.int .i64 z)) HE.out.symm, H.below⟩
  · have h01 : ((kk : Int) == 0) = false := beq_eq_false_iff_ne.2 (by omega)
    have HI : Hid (z = quotaL (a1, a2) (qt.drop 0)) := Lib.hid (by rw [HZ.out, if_neg h0])
    clear HZ
    go_wp2_with (first | ((((with_reducible refine st_gwF ?_ ?_); rfl)); (try simp only [Act.put, yA, yB, yC, yD, yE, yF])) | ((((with_reducible apply st_load1 H); decide +kernel; rfl; exact cF)); clear H; intro wn H; (try simp only [splice, yG, yH, yI, yJ, yK, yL, yM, yN, yO, yP, yQ, Nat.reduceAdd, yA, yB, yC] at H); simp only [Act.put, yA, yB, yC, yD, yE, yF]))
    go_loopg [6, 20] n (fun m _ iv wr => ∃ (i : Nat), i + m = n ∧ iv = .int .i64 i ∧ Hid (z = quotaL (a1, a2) (qt.drop i)) ∧ Hs noRow w [Hl.blk b2 43 #[.slice A m1 k1, .slice B m2 k2, .slice D n k3, .int .i64 hf], Hl.blk b3 66 #[.int .i64 a1, .int .i64 a2]] wr)
    case atStart => exact ⟨0, by omega, rfl, HI, H.sel sF⟩
    case round =>
      clear H HI
      obtain ⟨i, hi, rfl, HI, H⟩ := hrel
      by_cases hlt : i < n
      · obtain ⟨x, hx⟩ : ∃ x, qt[i]? = some x := ⟨qt[i]'(by rw [← HN.out]; exact hlt), List.getElem?_eq_getElem (by rw [← HN.out]; exact hlt)⟩
        have hs := sl_at HR.out hx
        rw [← HN.out] at hs
        obtain ⟨b, off, c', cs, hv, hcs, hA⟩ := hs
        injection hv with hv1 hv2 hv3
        subst hv1 hv3
        obtain rfl : cs = encQt x := hcs
        have hstep := HI.out
        rw [quotaL_at hx] at hstep
        obtain ⟨⟨x1, x2⟩, x3⟩ := x
        have hA : At w b (off + i * 3) [.int .i64 x1, .int .i64 x2, .int .i64 x3] := hA
        have hlt1 : (i : Int) < n := by omega
        clear hx hv2 HI
        simp only at hstep
        cases hp : eqB (x1, x2) (a1, a2)
        · rw [hp] at hstep
          have HI2 : Hid (z = quotaL (a1, a2) (qt.drop (i + 1))) := Lib.hid hstep
          clear hstep
          go_wp2_with (first | ((first | ((with_reducible apply st_loads H); decide +kernel; rfl; exact iF; exact zF; rfl) | ((with_reducible apply st_store H); rfl; exact eF; (focus (exact cells_agg _)); exact uF; kernel_rfl; (focus (exact Nat.le_of_ble_eq_true (by rfl))); (focus (rfl)))); clear H; intro wn H; (try simp only [splice, yG, yH, yI, yJ, yK, yL, yM, yN, yO, yP, yQ, Nat.reduceAdd, yA, yB, yC] at H); simp only [Act.put, yA, yB, yC, yD, yE, yF]) | ((first | ((with_reducible apply st_alloc (dst := some 6) H); exact nF; intro b6) | ((((with_reducible apply st_eqLabz H); rfl; rfl; (focus assumption)))) | ((with_reducible apply st_loadat H); decide +kernel; rfl; exact aF; exact zF; rfl)); clear H; intro wn H; simp only [Act.put, yA, yB, yC, yD, yE, yF]))
          go_roundg (n - (i + 1))
          case measure => omega
          case rel => exact ⟨i + 1, by omega, by go_num, HI2, H.sel sF⟩
        · rw [hp] at hstep
          have HI2 : Hid (z = x3) := Lib.hid hstep
          clear hstep
          go_wp2_with (first | ((first | ((with_reducible apply st_load1 H); decide +kernel; rfl; exact cF) | ((with_reducible apply st_loads H); decide +kernel; rfl; exact iF; exact zF; rfl) | ((with_reducible apply st_store H); rfl; exact eF; (focus (exact cells_agg _)); exact uF; kernel_rfl; (focus (exact Nat.le_of_ble_eq_true (by rfl))); (focus (rfl)))); clear H; intro wn H; (try simp only [splice, yG, yH, yI, yJ, yK, yL, yM, yN, yO, yP, yQ, Nat.reduceAdd, yA, yB, yC] at H); simp only [Act.put, yA, yB, yC, yD, yE, yF]) | ((first | ((with_reducible apply st_alloc (dst := some 6) H); exact nF; intro b6) | ((((with_reducible apply st_eqLabz H); rfl; rfl; (focus assumption)))) | ((with_reducible apply st_loadat H); decide +kernel; rfl; exact aF; exact zF; rfl)); clear H; intro wn H; simp only [Act.put, yA, yB, yC, yD, yE, yF]))
          go_ret
          exact ⟨congrArg (fun z : Int => Ending.returned (.int .i64 z)) HI2.out.symm, H.below⟩
      · obtain rfl : i = n := by omega
        have hlt1 : ¬ (i : Int) < i := by omega
        have HI2 : Hid (z = 6) := Lib.hid (by rw [HI.out, List.drop_of_length_le (by rw [← HN.out]; exact Nat.le_refl _)]; rfl)
        clear HI
        go_wp2_with (fail)
        go_ret
        exact ⟨congrArg (fun z : Int => Ending.returned (.int .i64 z)) HI2.out.symm, H.below⟩
set_option maxRecDepth 100000 in
theorem labelsOf_s (c : Cfg) (cs : List Value) (hok : cfgOk c = true) (w : World) (hr : tyCfg.rd w cs c) : Rets Tryz.prog [] 129 #[.agg cs.toArray] w (tOwn (Ty.sl 66 tyLab) (labelsOf c.1)) := by
  have c0 := fun w1 hb => configRight_s c cs w1 (Ty.below _ hr hb)
  rw [hok] at c0
  obtain ⟨v1, v2, v3, rfl, h1, h2, h3⟩ := cfg_form hr
  have c1 := fun w1 hb => labels_s v1 c.1 w1 (Ty.below _ h1 hb)
  obtain ⟨nd, pr, qt, hf⟩ := c
  simp only at h1 h2 h3 c1
  obtain ⟨A, k1, rfl, _, _⟩ := sl_form h1
  obtain ⟨B, k2, rfl, _, _⟩ := sl_form h2
  obtain ⟨D, k3, rfl, _, _⟩ := sl_form h3
  generalize nd.length = m1 at *
  generalize pr.length = m2 at *
  generalize qt.length = m3 at *
  clear hr h1 h2 h3 hok
  replace c0 : ∀ w1, Below w.heap.size w w1 → Gives Tryz.prog 66 #[.agg #[.slice A m1 k1, .slice B m2 k2, .slice D m3 k3, .int .i64 hf]] w1 (.bool true) := c0
  have H := Hs.start noRow w
  refine Rets.of ?_
  show Calls _ _ #[.agg #[.slice A m1 k1, .slice B m2 k2, .slice D m3 k3, .int .i64 hf]] _ _
  go_enter Tryz.func129, Tryz.ntmps129
  go_wp2_with (first | ((first | ((with_reducible apply st_load1 H); decide +kernel; rfl; exact cF) | ((with_reducible apply st_loads H); decide +kernel; rfl; exact iF; exact zF; rfl)); clear H; intro wn H; (try simp only [splice, yG, yH, yI, yJ, yK, yL, yM, yN, yO, yP, yQ, Nat.reduceAdd, yA, yB, yC] at H); simp only [Act.put, yA, yB, yC, yD, yE, yF]) | ((((with_reducible apply st_box (dst := some 1) H); exact nF; intro b1)); clear H; intro wn H; simp only [Act.put, yA, yB, yC, yD, yE, yF]) | (((go_at_call 66; refine gvF (c0 _ H.below) H ?_)); clear H; intro wn H))
  refine (Rets.use (c1 _ H.below)).mono ?_; rintro e wn ⟨_, _, rfl, ⟨N, hN, rfl, hone⟩, hkk⟩; have Hn := H.moreK (by intro k hk; first | exact absurd hk List.not_mem_nil | (obtain rfl := List.mem_singleton.1 hk; exact In.mem iF)) hkk; clear hkk; clear H; have H := Hn; clear Hn; (try simp only [yT, yV] at H)
  go_wp2_with (fail)
  go_ret
  exact Hs.retd H (List.Sublist.cons_cons _ (List.nil_sublist _)) ⟨N, hN, rfl, hone⟩
def tSu {α : Type} (T : Ty α) (a : α) : Value → List Hl → Prop := fun v M => ∃ u N, v = u ∧ T.own [u] a N ∧ M = [Hl.all N]
theorem tSu_of {α : Type} {T : Ty α} (hs : T.s = 1) {a : α} (v : Value) (M : List Hl) (h : tOwn T a v M) : tSu T a v M := by
  obtain ⟨N, ho, rfl, h1⟩ := h
  exact ⟨v, N, rfl, own_single ho h1 hs, rfl⟩
set_option maxRecDepth 100000 in
set_option maxHeartbeats 4000000 in
theorem quotaOf_s (c : Cfg) (cs : List Value) (a : Lab) (hok : cfgOk c = true) (w : World) (hr : tyCfg.rd w cs c) : Gives Tryz.prog 72 #[.agg cs.toArray, .agg #[.int .i64 a.1, .int .i64 a.2]] w (.int .i64 (quotaOf c a)) := by
  have c1 := fun w1 hb => labelsOf_s c cs hok w1 (Ty.below _ hr hb)
  obtain ⟨v1, v2, v3, rfl, h1, h2, h3⟩ := cfg_form hr
  have ch := clear_has (a := a) (cfg_clear hok)
  obtain ⟨nd, pr, qt, hf⟩ := c
  obtain ⟨a1, a2⟩ := a
  simp only at h1 h2 h3 c1 ch
  obtain ⟨A, k1, rfl, _, _⟩ := sl_form h1
  obtain ⟨B, k2, rfl, _, _⟩ := sl_form h2
  obtain ⟨D, k3, rfl, hl3, hm3⟩ := sl_form h3
  unfold maxLen at hm3
  have HR := Lib.hid h3
  obtain ⟨z, hz⟩ : ∃ z, z = quotaOf (nd, pr, qt, hf) (a1, a2) := ⟨_, rfl⟩
  rw [← hz]
  have HZ : Hid (z = if hasL (labelsOf nd) (a1, a2) then quotaL (a1, a2) (qt.drop 0) else 0) := Lib.hid (by
    rw [ch, hz]
    show (if (clearL nd (a1, a2)).length = 0 then (0 : Int) else quotaL (a1, a2) qt) = _
    by_cases h : (clearL nd (a1, a2)).length = 0
    · rw [if_pos h, decide_eq_true h]; rfl
    · rw [if_neg h, decide_eq_false h]; rfl)
  obtain ⟨n, hn⟩ : ∃ n, n = qt.length := ⟨_, rfl⟩
  have hnl : n ≤ 9223372036854775807 := by omega
  rw [← hn] at c1 ⊢
  have HN := Lib.hid hn
  generalize nd.length = m1 at *
  generalize pr.length = m2 at *
  clear hr h1 h2 h3 hn hl3 hm3 hz hok ch
  have c2 := fun v w1 h => cleared_s v (labelsOf nd) (a1, a2) w1 h
  simp only at c2
  generalize hasL (labelsOf nd) (a1, a2) = hq at *
  generalize labelsOf nd = lb at *
  replace c1 : ∀ w1, Below w.heap.size w w1 → Rets Tryz.prog [] 129 #[.agg #[.slice A m1 k1, .slice B m2 k2, .slice D n k3, .int .i64 hf]] w1 (tSu (Ty.sl 66 tyLab) lb) := fun w1 hb => Rets.weak (c1 w1 hb) (tSu_of rfl)
  have H := Hs.start noRow w
  unfold Gives
  show Calls _ _ #[.agg #[.slice A m1 k1, .slice B m2 k2, .slice D n k3, .int .i64 hf], .agg #[.int .i64 a1, .int .i64 a2]] _ _
  go_enter Tryz.func72, Tryz.ntmps72
  go_wp2_with (((first | ((with_reducible apply st_box (dst := some 2) H); exact nF; intro b2) | ((with_reducible apply st_box (dst := some 3) H); exact nF; intro b3)); clear H; intro wn H; simp only [Act.put, yA, yB, yC, yD, yE, yF]))
  apply wp_region_hss (K := []) (Spec.V _ :: Spec.T _ :: Spec.V _ :: Spec.V _ :: Spec.V _ :: []) 5 rfl H rfl (by simp) (by kernel_rfl) (by kernel_rfl); intro vs Ls; (iterate 1 ((with_reducible apply wpH_V); (focus rfl); (focus rfl); (focus (intro w1 H1; exact oF)); simp only [Act.put, yA, yB, yC, yD, yE, yF]; (try simp only [yG, yH, yJ, yK]))); (with_reducible apply wpH_T); (focus rfl); (focus rfl); (focus (intro hk w1 H1; unfold OpOk; go_simp; exact now_call (c1 _ H1.below))); simp only [Act.put, yA, yB, yC, yD, yE, yF]; (iterate 1 ((with_reducible apply wpH_V); (focus rfl); (focus rfl); (focus (intro w1 H1; exact oF)); simp only [Act.put, yA, yB, yC, yD, yE, yF]; (try simp only [yG, yH, yJ, yK]))); (with_reducible apply (wpH_E 1)); (focus rfl); (focus rfl); (focus rfl); (focus decide +kernel); (focus decide); (focus (intro kk1 w1 H1; obtain ⟨a1', M1, e1, o1, l1⟩ := kk1; simp only [e1, l1, yT, yU, yV] at H1 ⊢; unfold OpOk; (try simp only [e1]); go_simp; exact now_call (Gives.rets (c2 _ _ (own_rd H1 iF o1))))); simp only [Act.put, yA, yB, yC, yD, yE, yF]; (iterate 1 ((with_reducible apply wpH_V); (focus rfl); (focus rfl); (focus (intro w1 H1; exact oF)); simp only [Act.put, yA, yB, yC, yD, yE, yF]; (try simp only [yG, yH, yJ, yK]))); refine wpH_0 ?_; intro hok wn Hn; (try simp only [yT, yU, yV, yW] at Hn); clear H; have H := Hn; clear Hn; have ht1 := okT (hok 1 (by decide)) rfl; clear hok; obtain ⟨a1', M1, e1, o1, l1⟩ := ht1; simp only [e1, l1, yT, yU, yV] at H ⊢; clear e1 l1; rotate_left; (focus (refine locs ?_; intro vs1 vs2; (iterate 5 (refine all_lt_succ ?_ (by first | exact (fun _ => rfl) | exact (fun _ => ⟨rfl, rfl⟩) | (intro h; simp only [spec, Spec.same, yR, yS, Option.getD_some]; (try rw [h 1 (by decide +kernel)]); (first | done | exact ⟨rfl, rfl⟩ | exact ⟨trivial, rfl⟩ | exact ⟨rfl, trivial⟩))))); exact (fun k hk => absurd hk (Nat.not_lt_zero k))))
  cases hq
  · have HE : Hid (z = 0) := Lib.hid (by rw [HZ.out]; rfl)
    go_wp2_with (fail)
    go_ret
    exact ⟨congrArg (fun z : Int => Ending.returned (.int .i64 z)) HE.out.symm, H.below⟩
  · have HI : Hid (z = quotaL (a1, a2) (qt.drop 0)) := Lib.hid (by rw [HZ.out]; rfl)
    clear HZ
    go_wp2_with (fail)
    go_loopg [5] n (fun m iv wr => ∃ (i : Nat), i + m = n ∧ iv = .int .i64 i ∧ Hid (z = quotaL (a1, a2) (qt.drop i)) ∧ Hs noRow w [Hl.blk b2 43 #[.slice A m1 k1, .slice B m2 k2, .slice D n k3, .int .i64 hf], Hl.blk b3 66 #[.int .i64 a1, .int .i64 a2]] wr)
    case atStart => exact ⟨0, by omega, rfl, HI, H.sel sF⟩
    case round =>
      clear H HI
      obtain ⟨i, hi, rfl, HI, H⟩ := hrel
      by_cases hlt : i < n
      · obtain ⟨x, hx⟩ : ∃ x, qt[i]? = some x := ⟨qt[i]'(by rw [← HN.out]; exact hlt), List.getElem?_eq_getElem (by rw [← HN.out]; exact hlt)⟩
        have hs := sl_at HR.out hx
        rw [← HN.out] at hs
        obtain ⟨b, off, c', cs, hv, hcs, hA⟩ := hs
        injection hv with hv1 hv2 hv3
        subst hv1 hv3
        obtain rfl : cs = encQt x := hcs
        have hstep := HI.out
        rw [quotaL_at hx] at hstep
        obtain ⟨⟨x1, x2⟩, x3⟩ := x
        have hA : At w b (off + i * 3) [.int .i64 x1, .int .i64 x2, .int .i64 x3] := hA
        have hA1 : At w b (off + i * 3) [.int .i64 x1, .int .i64 x2] := At.pre (us := [.int .i64 x3]) hA
        have h0 : w.cell? ⟨b, off + i * 3 + 2, none⟩ = some (.int .i64 x3) := hA 2 _ rfl
        have hlt1 : (i : Int) < n := by omega
        clear hx hv2 HI hA
        simp only at hstep
        cases hp : eqB (x1, x2) (a1, a2)
        · rw [hp] at hstep
          have HI2 : Hid (z = quotaL (a1, a2) (qt.drop (i + 1))) := Lib.hid hstep
          clear hstep
          go_wp2_with (first | ((((with_reducible apply st_load1 H); decide +kernel; rfl; exact cF)); clear H; intro wn H; (try simp only [splice, yG, yH, yI, yJ, yK, yL, yM, yN, yO, yP, yQ, Nat.reduceAdd, yA, yB, yC] at H); simp only [Act.put, yA, yB, yC, yD, yE, yF]) | ((with_reducible apply wp_region_hq (id := 6) H); kernel_rfl; kernel_rfl; (iterate 8 (all_goals ((with_reducible refine' hq_step ?_ ?_ ?_); rotate_left; rfl; (focus (intro w1 H1; first | (first | exact qF | exact qAF) | (exact qEF) | (exact qVF))); (try simp only [yG, yH, yJ, yK]); simp only [Act.put, yA, yB, yC, yD, yE, yF]))); all_goals (refine wpQuiet_nil ?_; clear H; intro wn H)))
          go_roundg (n - (i + 1))
          case measure => omega
          case rel => exact ⟨i + 1, by omega, by go_num, HI2, H.sel sF⟩
        · rw [hp] at hstep
          have HI2 : Hid (z = x3) := Lib.hid hstep
          clear hstep
          go_wp2_with (first | ((((with_reducible apply st_load1 H); decide +kernel; rfl; exact cF)); clear H; intro wn H; (try simp only [splice, yG, yH, yI, yJ, yK, yL, yM, yN, yO, yP, yQ, Nat.reduceAdd, yA, yB, yC] at H); simp only [Act.put, yA, yB, yC, yD, yE, yF]) | ((with_reducible apply wp_region_hq (id := 6) H); kernel_rfl; kernel_rfl; (iterate 8 (all_goals ((with_reducible refine' hq_step ?_ ?_ ?_); rotate_left; rfl; (focus (intro w1 H1; first | (first | exact qF | exact qAF) | (exact qEF) | (exact qVF))); (try simp only [yG, yH, yJ, yK]); simp only [Act.put, yA, yB, yC, yD, yE, yF]))); all_goals (refine wpQuiet_nil ?_; clear H; intro wn H)))
          go_ret
          exact ⟨congrArg (fun z : Int => Ending.returned (.int .i64 z)) HI2.out.symm, H.below⟩
      · obtain rfl : i = n := by omega
        have hlt1 : ¬ (i : Int) < i := by omega
        have HI2 : Hid (z = 6) := Lib.hid (by rw [HI.out, List.drop_of_length_le (by rw [← HN.out]; exact Nat.le_refl _)]; rfl)
        clear HI
        go_wp2_with (((((with_reducible apply st_load1 H); decide +kernel; rfl; exact cF)); clear H; intro wn H; (try simp only [splice, yG, yH, yI, yJ, yK, yL, yM, yN, yO, yP, yQ, Nat.reduceAdd, yA, yB, yC] at H); simp only [Act.put, yA, yB, yC, yD, yE, yF]))
        go_ret
        exact ⟨congrArg (fun z : Int => Ending.returned (.int .i64 z)) HI2.out.symm, H.below⟩
end Go.Proofs.YtpfdhfchgnnpiaaGreat
