/-
  Which nodes are clear for a label, how many tasks of a label live, quotas: the walks.
-/
import Derived.Test.YtpfdhfchgnnpiaaGreatVh
import Derived.Test.YtpfdhfchgnnpiaaGreatCm
set_option linter.unusedSimpArgs false
set_option linter.unusedVariables false
namespace Go.Proofs.YtpfdhfchgnnpiaaGreat
open Go.RowKit M
namespace M
def clearB (nd : List (List Lab)) (a : Lab) (i : Nat) : Bool := match nd[i]? with
  | some l => hasL l a
  | none => false
def clearTo (nd : List (List Lab)) (a : Lab) (k : Nat) : List Int := ((List.range k).filter (clearB nd a)).map fun (i : Nat) => (i : Int)
def clearL (nd : List (List Lab)) (a : Lab) : List Int := clearTo nd a nd.length
theorem clearTo_step {nd : List (List Lab)} {a : Lab} {k : Nat} {x : List Lab} (h : nd[k]? = some x) : clearTo nd a (k + 1) = clearTo nd a k ++ if hasL x a then [(k : Int)] else [] := by
  unfold clearTo
  have e : clearB nd a k = hasL x a := by unfold clearB; rw [h]
  rw [List.range_succ, List.filter_append, List.map_append]
  cases hb : hasL x a <;> simp [e, hb]
theorem clearTo_len (nd : List (List Lab)) (a : Lab) (k : Nat) : (clearTo nd a k).length ≤ k := by
  unfold clearTo
  rw [List.length_map]
  exact Nat.le_trans (List.length_filter_le _ _) (by simp)
theorem clearL_mem {nd : List (List Lab)} {a : Lab} {n : Int} : (clearL nd a).any (· == n) = (decide (0 ≤ n) && clearB nd a n.toNat) := by
  unfold clearL clearTo
  rw [Bool.eq_iff_iff, List.any_eq_true, Bool.and_eq_true, decide_eq_true_eq]
  constructor
  · rintro ⟨x, hx, he⟩
    obtain ⟨i, hi, rfl⟩ := List.mem_map.1 hx
    obtain rfl : (i : Int) = n := by simpa using he
    exact ⟨by omega, by simpa using (List.mem_filter.1 hi).2⟩
  · rintro ⟨h0, h1⟩
    have hlt : n.toNat < nd.length := by
      unfold clearB at h1
      cases h : nd[n.toNat]? with
      | none => rw [h] at h1; cases h1
      | some l => exact (List.getElem?_eq_some_iff.1 h).1
    exact ⟨n, List.mem_map.2 ⟨n.toNat, List.mem_filter.2 ⟨List.mem_range.2 hlt, h1⟩, by omega⟩, by simp⟩
def tkSt (x : Ta) : Int := x.1.2.2.2.2.2.2.2.2.2.1
def tkLive (a : Lab) (x : Ta) : Bool := eqB x.1.1 a && isIn (tkSt x) 1 3
def liveN (a : Lab) (l : List Ta) : Nat := l.countP (tkLive a)
theorem liveN_at {a : Lab} {l : List Ta} {i : Nat} {x : Ta} (h : l[i]? = some x) : liveN a (l.take (i + 1)) = liveN a (l.take i) + (if tkLive a x then 1 else 0) := by
  unfold liveN
  obtain ⟨hlt, rfl⟩ := List.getElem?_eq_some_iff.1 h
  rw [List.take_succ_eq_append_getElem hlt, List.countP_append]
  simp [List.countP_cons]
def quotaL (a : Lab) : List Qt → Int
  | [] => 6
  | q :: l => if eqB q.1 a then q.2 else quotaL a l
theorem quotaL_at {a : Lab} {l : List Qt} {i : Nat} {x : Qt} (h : l[i]? = some x) : quotaL a (l.drop i) = if eqB x.1 a then x.2 else quotaL a (l.drop (i + 1)) := by
  obtain ⟨hlt, rfl⟩ := List.getElem?_eq_some_iff.1 h
  rw [List.drop_eq_getElem_cons hlt]
  rfl
def quotaOf (c : Cfg) (a : Lab) : Int := if (clearL c.1 a).length = 0 then 0 else quotaL a c.2.2.1
theorem cfg_nodes {c : Cfg} (h : cfgOk c = true) : 1 ≤ c.1.length ∧ c.1.length ≤ 6 := by
  unfold cfgOk clearOk at h
  simp only [Bool.and_eq_true, decide_eq_true_eq] at h
  exact h.1.1
end M
set_option maxRecDepth 100000 in
set_option maxHeartbeats 4000000 in
theorem clearFor_i (c : Cfg) (cs : List Value) (a : Lab) (h6 : c.1.length ≤ 6) (w : World) (hr : tyCfg.rd w cs c) : Rets Tryz.prog [] 153 #[.agg cs.toArray, .agg #[.int .i64 a.1, .int .i64 a.2]] w (tOwn (Ty.sl 2 tyNum) (clearL c.1 a)) := by
  obtain ⟨v1, v2, v3, rfl, h1, h2, h3⟩ := cfg_form hr
  obtain ⟨nd, pr, qt, hf⟩ := c
  obtain ⟨a1, a2⟩ := a
  simp only at h1 h2 h3 h6 ⊢
  obtain ⟨A, c, rfl, hlc, hcm⟩ := sl_form h1
  obtain ⟨B2, c2, rfl, _, _⟩ := sl_form h2
  obtain ⟨B3, c3, rfl, _, _⟩ := sl_form h3
  have HR := Lib.hid h1
  have HE : Hid (clearL nd (a1, a2) = clearTo nd (a1, a2) nd.length) := Lib.hid rfl
  obtain ⟨n, hn⟩ : ∃ n, n = nd.length := ⟨_, rfl⟩
  rw [← hn] at HR HE h6 ⊢
  have HN := Lib.hid hn
  rw [HE.out]
  generalize pr.length = m2 at *
  generalize qt.length = m3 at *
  clear hr h1 h2 h3 hn hlc hcm HE
  have H := Hs.start noRow w
  refine Rets.of ?_
  show Calls _ _ #[.agg #[.slice A n c, .slice B2 m2 c2, .slice B3 m3 c3, .int .i64 hf], .agg #[.int .i64 a1, .int .i64 a2]] _ _
  go_enter Tryz.func153, Tryz.ntmps153
  go_wp2_with (first | ((((with_reducible apply st_load1 H); decide +kernel; rfl; exact cF)); clear H; intro wn H; (try simp only [splice, yG, yH, yI, yJ, yK, yL, yM, yN, yO, yP, yQ, Nat.reduceAdd, yA, yB, yC] at H); simp only [Act.put, yA, yB, yC, yD, yE, yF]) | ((first | ((with_reducible apply st_box (dst := some 2) H); exact nF; intro b2) | ((with_reducible apply st_box (dst := some 3) H); exact nF; intro b3) | ((with_reducible apply st_bslice H); exact nsF; intro nb)); clear H; intro wn H; simp only [Act.put, yA, yB, yC, yD, yE, yF]))
  have Hn := H.putRow 2 1 (some ⟨nb, 0, none⟩)
  clear H
  have H := Hn
  clear Hn
  go_loopg [5, 6, 7, 12] n (fun m ov _ _ kv wr => ∃ (k : Nat) (v : Value) (xs : List Value) (t : Nat), k + m = n ∧ t ≤ k ∧ kv = .int .i64 k ∧ v = ov ∧ Hid (xs = flat encNum (clearTo nd (a1, a2) k) ∧ t = (clearTo nd (a1, a2) k).length) ∧ Hs noRow w [Hl.row 2 1 v t xs, Hl.blk b2 43 #[.slice A n c, .slice B2 m2 c2, .slice B3 m3 c3, .int .i64 hf], Hl.blk b3 66 #[.int .i64 a1, .int .i64 a2]] wr)
  case atStart => exact ⟨0, _, [], 0, by omega, by omega, rfl, rfl, Lib.hid ⟨rfl, rfl⟩, H.sel sF⟩
  case round =>
    clear H
    obtain ⟨k, v, xs, t, hk, ht, rfl, rfl, HX, H⟩ := hrel
    by_cases hlt : k < n
    · have hk1 : (k : Int) < n := by omega
      obtain ⟨x, hx⟩ : ∃ x, nd[k]? = some x := ⟨nd[k]'(by rw [← HN.out]; omega), List.getElem?_eq_getElem (by rw [← HN.out]; omega)⟩
      have hs := sl_at (by have := HR.out; rw [HN.out] at this; exact this) hx
      rw [← HN.out] at hs
      obtain ⟨b, off, c', cs, hv, hcs, hA⟩ := hs
      injection hv with hv1 hv2 hv3
      subst hv1 hv3
      obtain ⟨u, hu⟩ : ∃ u, cs = [u] := by obtain ⟨u, _, rfl, _⟩ := hcs; exact ⟨u, rfl⟩
      subst hu
      have h0 : w.cell? ⟨b, off + k, none⟩ = some u := by have h := hA.head (u := u) rfl; rw [show k * Ty.s _ = k from Nat.mul_one k] at h; exact h
      have hC := fun w1 hb => contains_Lab u x (a1, a2) w1 (Ty.below _ hcs hb)
      have HS := Lib.hid (clearTo_step (a := (a1, a2)) hx)
      simp only at hC
      generalize hasL x (a1, a2) = q at *
      clear hx hv2 hA hcs
      cases q
      · go_wp2_with (first | ((first | ((with_reducible apply st_load1 H); decide +kernel; rfl; exact cF) | ((with_reducible apply st_loads H); decide +kernel; rfl; exact iF; exact zF; rfl)); clear H; intro wn H; (try simp only [splice, yG, yH, yI, yJ, yK, yL, yM, yN, yO, yP, yQ, Nat.reduceAdd, yA, yB, yC] at H); simp only [Act.put, yA, yB, yC, yD, yE, yF]) | (((go_at_call 94; refine gvF (hC _ H.below) H ?_)); clear H; intro wn H))
        go_roundg (n - (k + 1))
        case measure => omega
        case rel =>
          refine ⟨k + 1, _, xs, t, by omega, by omega, by go_num, rfl, Lib.hid ?_, H.sel sF⟩
          have h1 := HS.out
          rw [h1]
          simpa using HX.out
      · have ht9 : t ≤ 6 := by omega
        go_wp2_with (first | ((first | ((with_reducible apply st_load1 H); decide +kernel; rfl; exact cF) | ((with_reducible apply st_loads H); decide +kernel; rfl; exact iF; exact zF; rfl)); clear H; intro wn H; (try simp only [splice, yG, yH, yI, yJ, yK, yL, yM, yN, yO, yP, yQ, Nat.reduceAdd, yA, yB, yC] at H); simp only [Act.put, yA, yB, yC, yD, yE, yF]) | ((((with_reducible apply st_bslice H); exact nsF; intro nb)); clear H; intro wn H; simp only [Act.put, yA, yB, yC, yD, yE, yF]) | ((with_reducible apply st_appendrb H); (((focus (with_reducible exact dT (dH))); rfl)); rfl; exact iF; kernel_rfl; rfl; rfl; (focus (omega)); clear H; intro vq wn H; (try simp only [yM, yN, yO] at H); simp only [Act.put, yA, yB, yC, yD, yE, yF]) | (((go_at_call 94; refine gvF (hC _ H.below) H ?_)); clear H; intro wn H))
        go_roundg (n - (k + 1))
        case measure => omega
        case rel =>
          refine ⟨k + 1, _, _, t + 1, by omega, by omega, by go_num, rfl, Lib.hid ?_, H.sel sF⟩
          have h1 := HS.out
          rw [h1, HX.out.1, HX.out.2]
          exact ⟨by rw [if_pos trivial, flat_append]; rfl, by rw [if_pos trivial, List.length_append]; rfl⟩
    · obtain rfl : k = n := by omega
      have hk1 : ¬ (k : Int) < k := by omega
      go_wp2_with (fail)
      go_ret
      exact ret_flat H HX.out.1 HX.out.2
set_option maxRecDepth 100000 in
set_option maxHeartbeats 4000000 in
theorem clear13_s (c : Cfg) (cs : List Value) (a : Lab) (w : World) (hr : tyCfg.rd w cs c) : Gives Tryz.prog 126 #[.agg cs.toArray, .agg #[.int .i64 a.1, .int .i64 a.2]] w (.int .i64 (clearL c.1 a).length) := by
  obtain ⟨v1, v2, v3, rfl, h1, h2, h3⟩ := cfg_form hr
  obtain ⟨nd, pr, qt, hf⟩ := c
  obtain ⟨a1, a2⟩ := a
  simp only at h1 h2 h3 ⊢
  obtain ⟨A, c, rfl, hlc, hcm⟩ := sl_form h1
  obtain ⟨B2, c2, rfl, _, _⟩ := sl_form h2
  obtain ⟨B3, c3, rfl, _, _⟩ := sl_form h3
  have HR := Lib.hid h1
  obtain ⟨z, hz⟩ : ∃ z, z = (clearL nd (a1, a2)).length := ⟨_, rfl⟩
  rw [← hz]
  obtain ⟨n, hn⟩ : ∃ n, n = nd.length := ⟨_, rfl⟩
  have hnl : n ≤ 9223372036854775807 := by unfold maxLen at hcm; omega
  have HE : Hid (z = (clearTo nd (a1, a2) n).length) := Lib.hid (by rw [hz, hn]; rfl)
  rw [← hn] at HR ⊢
  have HN := Lib.hid hn
  generalize pr.length = m2 at *
  generalize qt.length = m3 at *
  clear hr h1 h2 h3 hn hlc hcm hz
  have H := Hs.start noRow w
  unfold Gives
  show Calls _ _ #[.agg #[.slice A n c, .slice B2 m2 c2, .slice B3 m3 c3, .int .i64 hf], .agg #[.int .i64 a1, .int .i64 a2]] _ _
  go_enter Tryz.func126, Tryz.ntmps126
  go_wp2_with (((first | ((with_reducible apply st_box (dst := some 2) H); exact nF; intro b2) | ((with_reducible apply st_box (dst := some 3) H); exact nF; intro b3)); clear H; intro wn H; simp only [Act.put, yA, yB, yC, yD, yE, yF]))
  go_loopg [5, 6] n (fun m tv kv wr => ∃ (k t : Nat), k + m = n ∧ t ≤ k ∧ kv = .int .i64 k ∧ tv = .int .i64 t ∧ Hid (t = (clearTo nd (a1, a2) k).length) ∧ Hs noRow w [Hl.blk b2 43 #[.slice A n c, .slice B2 m2 c2, .slice B3 m3 c3, .int .i64 hf], Hl.blk b3 66 #[.int .i64 a1, .int .i64 a2]] wr)
  case atStart => exact ⟨0, 0, by omega, by omega, rfl, rfl, Lib.hid rfl, H.sel sF⟩
  case round =>
    clear H
    obtain ⟨k, t, hk, ht, rfl, rfl, HX, H⟩ := hrel
    by_cases hlt : k < n
    · have hk1 : (k : Int) < n := by omega
      obtain ⟨x, hx⟩ : ∃ x, nd[k]? = some x := ⟨nd[k]'(by rw [← HN.out]; omega), List.getElem?_eq_getElem (by rw [← HN.out]; omega)⟩
      have hs := sl_at (by have := HR.out; rw [HN.out] at this; exact this) hx
      rw [← HN.out] at hs
      obtain ⟨b, off, c', cs, hv, hcs, hA⟩ := hs
      injection hv with hv1 hv2 hv3
      subst hv1 hv3
      obtain ⟨u, hu⟩ : ∃ u, cs = [u] := by obtain ⟨u, _, rfl, _⟩ := hcs; exact ⟨u, rfl⟩
      subst hu
      have h0 : w.cell? ⟨b, off + k, none⟩ = some u := by have h := hA.head (u := u) rfl; rw [show k * Ty.s _ = k from Nat.mul_one k] at h; exact h
      have hC := fun w1 hb => cleared_s u x (a1, a2) w1 (Ty.below _ hcs hb)
      have HS := Lib.hid (clearTo_step (a := (a1, a2)) hx)
      simp only at hC
      generalize hasL x (a1, a2) = q at *
      clear hx hv2 hA hcs
      cases q
      · go_wp2_with (first | ((((with_reducible apply st_load1 H); decide +kernel; rfl; exact cF)); clear H; intro wn H; (try simp only [splice, yG, yH, yI, yJ, yK, yL, yM, yN, yO, yP, yQ, Nat.reduceAdd, yA, yB, yC] at H); simp only [Act.put, yA, yB, yC, yD, yE, yF]) | ((with_reducible apply wp_region_hq (id := 5) H); kernel_rfl; kernel_rfl; (iterate 6 (all_goals ((with_reducible refine' hq_step ?_ ?_ ?_); rotate_left; rfl; (focus (intro w1 H1; first | (exact qF) | (exact qVF))); (try simp only [yG, yH, yJ, yK]); simp only [Act.put, yA, yB, yC, yD, yE, yF]))); (all_goals ((with_reducible refine' hq_step ?_ ?_ ?_); rotate_left; rfl; (focus (intro w1 H1; unfold QOk; go_simp; exact q_call (hC _ H1.below))); (try simp only [yG, yH, yJ, yK]); simp only [Act.put, yA, yB, yC, yD, yE, yF])); all_goals (refine wpQuiet_nil ?_; clear H; intro wn H)))
        go_roundg (n - (k + 1))
        case measure => omega
        case rel =>
          refine ⟨k + 1, t, by omega, by omega, by go_num, rfl, Lib.hid ?_, H.sel sF⟩
          rw [HS.out, HX.out]
          simp
      · go_wp2_with (first | ((((with_reducible apply st_load1 H); decide +kernel; rfl; exact cF)); clear H; intro wn H; (try simp only [splice, yG, yH, yI, yJ, yK, yL, yM, yN, yO, yP, yQ, Nat.reduceAdd, yA, yB, yC] at H); simp only [Act.put, yA, yB, yC, yD, yE, yF]) | ((with_reducible apply wp_region_hq (id := 5) H); kernel_rfl; kernel_rfl; (iterate 6 (all_goals ((with_reducible refine' hq_step ?_ ?_ ?_); rotate_left; rfl; (focus (intro w1 H1; first | (exact qF) | (exact qVF))); (try simp only [yG, yH, yJ, yK]); simp only [Act.put, yA, yB, yC, yD, yE, yF]))); (all_goals ((with_reducible refine' hq_step ?_ ?_ ?_); rotate_left; rfl; (focus (intro w1 H1; unfold QOk; go_simp; exact q_call (hC _ H1.below))); (try simp only [yG, yH, yJ, yK]); simp only [Act.put, yA, yB, yC, yD, yE, yF])); all_goals (refine wpQuiet_nil ?_; clear H; intro wn H)))
        go_roundg (n - (k + 1))
        case measure => omega
        case rel =>
          refine ⟨k + 1, t + 1, by omega, by omega, by go_num, by go_num, Lib.hid ?_, H.sel sF⟩
          rw [HS.out, HX.out]
          simp
    · obtain rfl : k = n := by omega
      have hk1 : ¬ (k : Int) < k := by omega
      have HZ2 : Hid (t = z) := Lib.hid (by rw [HX.out, HE.out])
      clear HX HE
      go_wp2_with (((((with_reducible apply st_load1 H); decide +kernel; rfl; exact cF)); clear H; intro wn H; (try simp only [splice, yG, yH, yI, yJ, yK, yL, yM, yN, yO, yP, yQ, Nat.reduceAdd, yA, yB, yC] at H); simp only [Act.put, yA, yB, yC, yD, yE, yF]))
      go_ret
      exact ⟨by rw [HZ2.out]; rfl, H.below⟩
set_option maxRecDepth 100000 in
theorem isLive_i (l1 l2 id : Int) (ow : ByteArray) (need long prio u1 u2 aft born st start : Int) (A : Option Addr) (n k : Nat) (w : World) :
    Gives Tryz.prog 160 #[.agg #[.int .i64 l1, .int .i64 l2, .int .i64 id, .string ow, .int .i64 need, .int .i64 long, .int .i64 prio, .int .i64 u1, .int .i64 u2, .int .i64 aft, .int .i64 born, .int .i64 st, .int .i64 start, .slice A n k]] w (.bool (isIn st 1 3)) := by
  have hC := fun w => within_i st 1 3 w
  have H := Hs.start noRow w
  unfold Gives isIn
  generalize (decide (1 ≤ st) && decide (st ≤ 3)) = z at *
  go_enter Tryz.func160, Tryz.ntmps160
  go_wp2_with (first | ((((with_reducible apply st_load1 H); decide +kernel; rfl; exact cF)); clear H; intro wn H; (try simp only [splice, yG, yH, yI, yJ, yK, yL, yM, yN, yO, yP, yQ, Nat.reduceAdd, yA, yB, yC] at H); simp only [Act.put, yA, yB, yC, yD, yE, yF]) | ((((with_reducible apply st_box (dst := some 1) H); exact nF; intro b1)); clear H; intro wn H; simp only [Act.put, yA, yB, yC, yD, yE, yF]) | (((go_at_call 20; refine gvF (hC _) H ?_)); clear H; intro wn H))
  go_ret
  exact ⟨rfl, H.below⟩
set_option maxRecDepth 100000 in
theorem live_s (st : Int) (w : World) : Gives Tryz.prog 128 #[.int .i64 st] w (.bool (isIn st 1 3)) := by
  have e : isIn st 1 3 = ((st == 1) || ((st == 2) || (st == 3))) := by
    unfold isIn
    by_cases h1 : st = 1
    · subst h1; rfl
    by_cases h2 : st = 2
    · subst h2; rfl
    by_cases h3 : st = 3
    · subst h3; rfl
    have e1 : (st == 1) = false := by simpa using h1
    have e2 : (st == 2) = false := by simpa using h2
    have e3 : (st == 3) = false := by simpa using h3
    rw [e1, e2, e3]
    simp
    omega
  rw [e]
  clear e
  have H := Hs.start noRow w
  unfold Gives
  obtain ⟨z1, h1⟩ : ∃ z, (st == 1) = z := ⟨_, rfl⟩
  obtain ⟨z2, h2⟩ : ∃ z, (st == 2) = z := ⟨_, rfl⟩
  rw [h1, h2]
  cases z1 <;> cases z2
  all_goals (
    go_enter Tryz.func128, Tryz.ntmps128
    go_wp2_with (((((with_reducible refine st_gwF ?_ ?_); rfl)); (try simp only [Act.put, yA, yB, yC, yD, yE, yF])))
    go_ret
    exact ⟨rfl, H.below⟩)
set_option maxRecDepth 100000 in
set_option maxHeartbeats 4000000 in
theorem liveOf_i (v : Value) (l : List Ta) (p : Lab) (w : World) (hr : (Ty.sl 97 tyTa).rd w [v] l) :
    Gives Tryz.prog 90 #[v, .agg #[.int .i64 p.1, .int .i64 p.2]] w (.int .i64 (liveN p l)) := by
  obtain ⟨p1, p2⟩ := p
  simp only
  obtain ⟨B, cb, rfl, hlb, hbm⟩ := sl_form hr
  unfold maxLen at *
  have HP := Lib.hid hr
  obtain ⟨n, hn⟩ : ∃ n, n = l.length := ⟨_, rfl⟩
  have hnl : n ≤ 9223372036854775807 := by omega
  rw [← hn] at HP ⊢
  have HN := Lib.hid hn
  have HW : Hid (liveN (p1, p2) (l.take n) = liveN (p1, p2) l) := Lib.hid (by rw [hn, List.take_length])
  clear hr hlb hbm hn
  obtain ⟨z, hz⟩ : ∃ z, z = liveN (p1, p2) l := ⟨_, rfl⟩
  rw [← hz]
  have HZ := Lib.hid hz
  clear hz
  have H := Hs.start noRow w
  unfold Gives
  go_enter Tryz.func90, Tryz.ntmps90
  go_wp2_with (((((with_reducible apply st_box (dst := some 3) H); exact nF; intro b3)); clear H; intro wn H; simp only [Act.put, yA, yB, yC, yD, yE, yF]))
  go_loopg [5, 10] n (fun m kv iv wr => ∃ (i k : Nat), i + m = n ∧ iv = .int .i64 i ∧ kv = .int .i64 k ∧ k ≤ i ∧ Hid (k = liveN (p1, p2) (l.take i)) ∧ Hs noRow w [Hl.blk b3 66 #[.int .i64 p1, .int .i64 p2]] wr)
  case atStart => exact ⟨0, 0, by omega, rfl, rfl, by omega, Lib.hid rfl, H.sel sF⟩
  case round =>
    clear H
    obtain ⟨i, k, hi, rfl, rfl, hki, HI, H⟩ := hrel
    by_cases hlt : i < n
    · obtain ⟨x, hx⟩ : ∃ x, l[i]? = some x := ⟨l[i]'(by rw [← HN.out]; exact hlt), List.getElem?_eq_getElem (by rw [← HN.out]; exact hlt)⟩
      have hs := sl_at (by have := HP.out; rw [HN.out] at this; exact this) hx
      rw [← HN.out] at hs
      obtain ⟨b, off, c', cs, hv, hcs, hB⟩ := hs
      injection hv with hv1 hv2 hv3
      subst hv1 hv3
      obtain ⟨A, m', j', rfl, _⟩ := Ta_form hcs
      have hstep := liveN_at (a := (p1, p2)) hx
      rw [← HI.out] at hstep
      obtain ⟨⟨⟨l1, l2⟩, id, ow, need, long, prio, ⟨u1, u2⟩, aft, born, st, start⟩, nodes⟩ := x
      unfold tkLive tkSt at hstep
      simp only at hB hstep
      have hlt1 : (i : Int) < n := by omega
      have c1 := fun w1 => isLive_i l1 l2 id ow need long prio u1 u2 aft born st start A m' j' w1
      generalize isIn st 1 3 = q at *
      clear hx hv2 HI hcs
      cases hp1 : eqB (l1, l2) (p1, p2)
      · have HI2 : Hid (k = liveN (p1, p2) (l.take (i + 1))) := Lib.hid (by rw [hstep, hp1]; rfl)
        clear hstep
        go_wp2_with (first | ((((with_reducible refine st_gsT ?_ ?_); rfl)); (try simp only [Act.put, yA, yB, yC, yD, yE, yF])) | ((first | ((with_reducible apply st_loads H); decide +kernel; rfl; exact iF; exact zF; rfl) | ((with_reducible apply st_store H); rfl; exact eF; (focus (exact cells_agg _)); exact uF; kernel_rfl; (focus (exact Nat.le_of_ble_eq_true (by rfl))); (focus (rfl)))); clear H; intro wn H; (try simp only [splice, yG, yH, yI, yJ, yK, yL, yM, yN, yO, yP, yQ, Nat.reduceAdd, yA, yB, yC] at H); simp only [Act.put, yA, yB, yC, yD, yE, yF]) | ((first | ((with_reducible apply st_alloc (dst := some 7) H); exact nF; intro b7) | ((((with_reducible apply st_eqLabz H); rfl; rfl; (focus assumption)))) | ((with_reducible apply st_loadat H); decide +kernel; rfl; exact aF; exact zF; rfl)); clear H; intro wn H; simp only [Act.put, yA, yB, yC, yD, yE, yF]))
        go_roundg (n - (i + 1))
        case measure => omega
        case rel => exact ⟨i + 1, k, by omega, by go_num, rfl, by omega, HI2, H.sel sF⟩
      cases q
      · have HI2 : Hid (k = liveN (p1, p2) (l.take (i + 1))) := Lib.hid (by rw [hstep, hp1]; rfl)
        clear hstep
        go_wp2_with (first | ((((with_reducible refine st_gwT ?_ ?_); rfl)); (try simp only [Act.put, yA, yB, yC, yD, yE, yF])) | ((first | ((with_reducible apply st_loads H); decide +kernel; rfl; exact iF; exact zF; rfl) | ((with_reducible apply st_store H); rfl; exact eF; (focus (exact cells_agg _)); exact uF; kernel_rfl; (focus (exact Nat.le_of_ble_eq_true (by rfl))); (focus (rfl)))); clear H; intro wn H; (try simp only [splice, yG, yH, yI, yJ, yK, yL, yM, yN, yO, yP, yQ, Nat.reduceAdd, yA, yB, yC] at H); simp only [Act.put, yA, yB, yC, yD, yE, yF]) | ((first | ((with_reducible apply st_alloc (dst := some 7) H); exact nF; intro b7) | ((((with_reducible apply st_eqLabz H); rfl; rfl; (focus assumption)))) | ((with_reducible apply st_loadat H); decide +kernel; rfl; exact aF; exact zF; rfl)); clear H; intro wn H; simp only [Act.put, yA, yB, yC, yD, yE, yF]) | (((go_at_call 160; refine gvF (c1 _) H ?_)); clear H; intro wn H))
        go_roundg (n - (i + 1))
        case measure => omega
        case rel => exact ⟨i + 1, k, by omega, by go_num, rfl, by omega, HI2, H.sel sF⟩
      · have HI2 : Hid (k + 1 = liveN (p1, p2) (l.take (i + 1))) := Lib.hid (by rw [hstep, hp1]; rfl)
        clear hstep
        go_wp2_with (first | ((((with_reducible refine st_gwT ?_ ?_); rfl)); (try simp only [Act.put, yA, yB, yC, yD, yE, yF])) | ((first | ((with_reducible apply st_loads H); decide +kernel; rfl; exact iF; exact zF; rfl) | ((with_reducible apply st_store H); rfl; exact eF; (focus (exact cells_agg _)); exact uF; kernel_rfl; (focus (exact Nat.le_of_ble_eq_true (by rfl))); (focus (rfl)))); clear H; intro wn H; (try simp only [splice, yG, yH, yI, yJ, yK, yL, yM, yN, yO, yP, yQ, Nat.reduceAdd, yA, yB, yC] at H); simp only [Act.put, yA, yB, yC, yD, yE, yF]) | ((first | ((with_reducible apply st_alloc (dst := some 7) H); exact nF; intro b7) | ((((with_reducible apply st_eqLabz H); rfl; rfl; (focus assumption)))) | ((with_reducible apply st_loadat H); decide +kernel; rfl; exact aF; exact zF; rfl)); clear H; intro wn H; simp only [Act.put, yA, yB, yC, yD, yE, yF]) | (((go_at_call 160; refine gvF (c1 _) H ?_)); clear H; intro wn H))
        go_roundg (n - (i + 1))
        case measure => omega
        case rel => exact ⟨i + 1, k + 1, by omega, by go_num, by go_num, by omega, HI2, H.sel sF⟩
    · obtain rfl : i = n := by omega
      have hlt1 : ¬ (i : Int) < i := by omega
      have HI2 : Hid (k = z) := Lib.hid (by rw [HI.out, HW.out, HZ.out])
      clear HI HZ
      go_wp2_with (fail)
      go_ret
      exact ⟨by rw [HI2.out]; rfl, H.below⟩
set_option maxRecDepth 100000 in
set_option maxHeartbeats 4000000 in
theorem liveOf_s (v : Value) (l : List Ta) (p : Lab) (hs : ∀ (i : Nat) (x : Ta), l[i]? = some x → x.1.2.2.1.size ≤ maxLen) (hok : tasksOkS l = true) (w : World) (hr : (Ty.sl 97 tyTa).rd w [v] l) :
    Gives Tryz.prog 71 #[v, .agg #[.int .i64 p.1, .int .i64 p.2]] w (.int .i64 (liveN p l)) := by
  have c0 := fun w1 hb => tasksRight_s v l hs w1 (Ty.below _ hr hb)
  rw [hok] at c0
  clear hs hok
  obtain ⟨p1, p2⟩ := p
  simp only
  obtain ⟨B, cb, rfl, hlb, hbm⟩ := sl_form hr
  unfold maxLen at *
  have HP := Lib.hid hr
  obtain ⟨n, hn⟩ : ∃ n, n = l.length := ⟨_, rfl⟩
  have hnl : n ≤ 9223372036854775807 := by omega
  rw [← hn] at HP c0 ⊢
  have HN := Lib.hid hn
  have HW : Hid (liveN (p1, p2) (l.take n) = liveN (p1, p2) l) := Lib.hid (by rw [hn, List.take_length])
  clear hr hlb hbm hn
  obtain ⟨z, hz⟩ : ∃ z, z = liveN (p1, p2) l := ⟨_, rfl⟩
  rw [← hz]
  have HZ := Lib.hid hz
  clear hz
  have H := Hs.start noRow w
  unfold Gives
  go_enter Tryz.func71, Tryz.ntmps71
  go_wp2_with (first | ((((with_reducible apply st_box (dst := some 3) H); exact nF; intro b3)); clear H; intro wn H; simp only [Act.put, yA, yB, yC, yD, yE, yF]) | (((go_at_call 68; refine gvF (c0 _ H.below) H ?_)); clear H; intro wn H))
  clear c0
  go_loopg [5, 6] n (fun m kv iv wr => ∃ (i k : Nat), i + m = n ∧ iv = .int .i64 i ∧ kv = .int .i64 k ∧ k ≤ i ∧ Hid (k = liveN (p1, p2) (l.take i)) ∧ Hs noRow w [Hl.blk b3 66 #[.int .i64 p1, .int .i64 p2]] wr)
  case atStart => exact ⟨0, 0, by omega, rfl, rfl, by omega, Lib.hid rfl, H.sel sF⟩
  case round =>
    clear H
    obtain ⟨i, k, hi, rfl, rfl, hki, HI, H⟩ := hrel
    by_cases hlt : i < n
    · obtain ⟨x, hx⟩ : ∃ x, l[i]? = some x := ⟨l[i]'(by rw [← HN.out]; exact hlt), List.getElem?_eq_getElem (by rw [← HN.out]; exact hlt)⟩
      have hs := sl_at (by have := HP.out; rw [HN.out] at this; exact this) hx
      rw [← HN.out] at hs
      obtain ⟨b, off, c', cs, hv, hcs, hB⟩ := hs
      injection hv with hv1 hv2 hv3
      subst hv1 hv3
      obtain ⟨A, m', j', rfl, _⟩ := Ta_form hcs
      have hstep := liveN_at (a := (p1, p2)) hx
      rw [← HI.out] at hstep
      obtain ⟨⟨⟨l1, l2⟩, id, ow, need, long, prio, ⟨u1, u2⟩, aft, born, st, start⟩, nodes⟩ := x
      unfold tkLive tkSt at hstep
      simp only at hB hstep
      have hlt1 : (i : Int) < n := by omega
      have hB1 : At w b (off + i * 14) [.int .i64 l1, .int .i64 l2] := At.pre hB
      have hB2 : w.cell? ⟨b, off + i * 14 + 2 + 1 + 1 + 1 + 1 + 1 + 2 + 1 + 1, none⟩ = some (.int .i64 st) := hB 11 _ rfl
      have c1 := fun w1 => live_s st w1
      generalize isIn st 1 3 = q at *
      clear hx hv2 HI hcs hB
      cases hp1 : eqB (l1, l2) (p1, p2)
      · have HI2 : Hid (k = liveN (p1, p2) (l.take (i + 1))) := Lib.hid (by rw [hstep, hp1]; rfl)
        clear hstep
        go_wp2_with (((with_reducible apply wp_region_hq (id := 7) H); kernel_rfl; kernel_rfl; (iterate 15 (all_goals ((first | ((with_reducible refine hq_gsT ?_ ?_); rfl) | ((with_reducible refine' hq_step ?_ ?_ ?_); rotate_left; rfl; (focus (intro w1 H1; first | first | exact qF | exact qAF | exact qEF | exact qVF)); (try simp only [yG, yH, yJ, yK]))); (try simp only [Act.put, yA, yB, yC, yD, yE, yF])))); all_goals (refine wpQuiet_nil ?_; clear H; intro wn H)))
        go_roundg (n - (i + 1))
        case measure => omega
        case rel => exact ⟨i + 1, k, by omega, by go_num, rfl, by omega, HI2, H.sel sF⟩
      cases q
      · have HI2 : Hid (k = liveN (p1, p2) (l.take (i + 1))) := Lib.hid (by rw [hstep, hp1]; rfl)
        clear hstep
        go_wp2_with (((with_reducible apply wp_region_hq (id := 7) H); kernel_rfl; kernel_rfl; (iterate 13 (all_goals ((first | ((with_reducible refine hq_gwT ?_ ?_); rfl; (with_reducible refine' hq_step ?_ ?_ ?_); rotate_left; rfl; (focus (intro w1 H1; first | exact qF | exact qVF)); (try simp only [yG, yH, yJ, yK])) | ((with_reducible refine' hq_step ?_ ?_ ?_); rotate_left; rfl; (focus (intro w1 H1; first | first | exact qF | exact qAF | exact qEF | exact qVF)); (try simp only [yG, yH, yJ, yK]))); (try simp only [Act.put, yA, yB, yC, yD, yE, yF])))); all_goals (((with_reducible refine hq_gwT ?_ ?_); rfl; ((with_reducible refine' hq_step ?_ ?_ ?_); rotate_left; rfl; (focus (intro w1 H1; unfold QOk; go_simp; exact q_call (c1 _))); (try simp only [yG, yH, yJ, yK]); simp only [Act.put, yA, yB, yC, yD, yE, yF]))); (iterate 1 (all_goals ((with_reducible refine' hq_step ?_ ?_ ?_); rotate_left; rfl; (focus (intro w1 H1; exact qVF)); (try simp only [yG, yH, yJ, yK]); (try simp only [Act.put, yA, yB, yC, yD, yE, yF])))); all_goals (refine wpQuiet_nil ?_; clear H; intro wn H)))
        go_roundg (n - (i + 1))
        case measure => omega
        case rel => exact ⟨i + 1, k, by omega, by go_num, rfl, by omega, HI2, H.sel sF⟩
      · have HI2 : Hid (k + 1 = liveN (p1, p2) (l.take (i + 1))) := Lib.hid (by rw [hstep, hp1]; rfl)
        clear hstep
        go_wp2_with (((with_reducible apply wp_region_hq (id := 7) H); kernel_rfl; kernel_rfl; (iterate 13 (all_goals ((first | ((with_reducible refine hq_gwT ?_ ?_); rfl; (with_reducible refine' hq_step ?_ ?_ ?_); rotate_left; rfl; (focus (intro w1 H1; first | exact qF | exact qVF)); (try simp only [yG, yH, yJ, yK])) | ((with_reducible refine' hq_step ?_ ?_ ?_); rotate_left; rfl; (focus (intro w1 H1; first | first | exact qF | exact qAF | exact qEF | exact qVF)); (try simp only [yG, yH, yJ, yK]))); (try simp only [Act.put, yA, yB, yC, yD, yE, yF])))); all_goals (((with_reducible refine hq_gwT ?_ ?_); rfl; ((with_reducible refine' hq_step ?_ ?_ ?_); rotate_left; rfl; (focus (intro w1 H1; unfold QOk; go_simp; exact q_call (c1 _))); (try simp only [yG, yH, yJ, yK]); simp only [Act.put, yA, yB, yC, yD, yE, yF]))); (iterate 1 (all_goals ((with_reducible refine' hq_step ?_ ?_ ?_); rotate_left; rfl; (focus (intro w1 H1; exact qVF)); (try simp only [yG, yH, yJ, yK]); (try simp only [Act.put, yA, yB, yC, yD, yE, yF])))); all_goals (refine wpQuiet_nil ?_; clear H; intro wn H)))
        go_roundg (n - (i + 1))
        case measure => omega
        case rel => exact ⟨i + 1, k + 1, by omega, by go_num, by go_num, by omega, HI2, H.sel sF⟩
    · obtain rfl : i = n := by omega
      have hlt1 : ¬ (i : Int) < i := by omega
      have HI2 : Hid (k = z) := Lib.hid (by rw [HI.out, HW.out, HZ.out])
      clear HI HZ
      go_wp2_with (fail)
      go_ret
      exact ⟨by rw [HI2.out]; rfl, H.below⟩
end Go.Proofs.YtpfdhfchgnnpiaaGreat
