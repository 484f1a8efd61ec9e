/-
  Configurations: the marks read: the walks. Printed by kgen.py.
-/
import Derived.Test.YtjklmldchbakjaaGreatHn
set_option linter.unusedSimpArgs false
set_option linter.unusedVariables false
namespace Go.Proofs.YtjklmldchbakjaaGreat
open Go.RowKit M
set_option maxRecDepth 100000 in
set_option maxHeartbeats 4000000 in
theorem heldLabelSS_l (v : Value) (l : List (List Lab)) (k : Nat) (hk : k + mkLab.list.cntl l < 9223372036854775807) (w : World) (hr : (Ty.sl 93 (Ty.sl 96 tyLab)).rd w [v] (mkLab.list.mkl k l)) : Gives Tryz.prog 128 #[v, .int .i64 k] w (.int .i64 (k + mkLab.list.cntl l : Nat)) := by
  obtain ⟨A, c, rfl, hlc, hcm⟩ := sl_form hr
  unfold maxLen at *
  have HR := Lib.hid hr
  have H := Hs.start noRow w
  have hml := mkLab.list.mkl_len k l
  rw [hml] at hlc HR ⊢
  obtain ⟨n, hn⟩ : ∃ n, n = l.length := ⟨_, rfl⟩
  have hnl : n ≤ 9223372036854775807 := by omega
  rw [← hn] at HR ⊢
  have HN := Lib.hid hn
  have HK := Lib.hid hk
  obtain ⟨tot, ht⟩ : ∃ t, t = k + mkLab.list.cntl l := ⟨_, rfl⟩
  rw [← ht]
  have HT := Lib.hid ht
  clear hr hn hlc hcm hk hml ht
  unfold Gives
  go_enter Tryz.func128, Tryz.ntmps128
  go_wp2_with (first | ((first | ((with_reducible apply st_load1 H); decide +kernel; rfl; exact cF) | ((with_reducible apply st_loads H); decide +kernel; rfl; exact iF; exact zF; rfl)); clear H; intro wn H; (try simp only [splice, yG, yH, yI, yJ, yK, yL, yM, yN, yO, yP, yQ, Nat.reduceAdd, yA, yB, yC] at H); simp only [Act.put, yA, yB, yC, yD, yE, yF]) | ((first | ((with_reducible apply st_strsum H); rfl; rfl; exact szF; kernel_rfl) | ((with_reducible apply st_loadat H); decide +kernel; rfl; exact aF; exact zF; rfl)); clear H; intro wn H; simp only [Act.put, yA, yB, yC, yD, yE, yF]) | ((first | (go_at_call 152; refine gvF (c1 _ H.below) H ?_)); clear H; intro wn H) | fail)
  go_loopg [1, 5] n (fun m kv iv wr => ∃ (i k' : Nat), i + m = n ∧ iv = .int .i64 i ∧ kv = .int .i64 k' ∧ Hid (k' = k + mkLab.list.cntl (l.take i)) ∧ Hs noRow w [] wr)
  case atStart => exact ⟨0, k, by omega, rfl, rfl, Lib.hid rfl, H⟩
  case round =>
    clear H
    obtain ⟨i, k', hi, rfl, rfl, HI, H⟩ := hrel
    by_cases hlt : i < n
    · obtain ⟨x, hx⟩ : ∃ x, l[i]? = some x := ⟨l[i]'(by rw [← HN.out]; exact hlt), List.getElem?_eq_getElem (by rw [← HN.out]; exact hlt)⟩
      have hs := sl_at (by have := HR.out; rw [HN.out, ← Mark.mkl_len mkLab.list k] at this; exact this) (mkLab.list.mkl_at (k := k) hx)
      rw [Mark.mkl_len, ← HN.out, ← HI.out] at hs
      obtain ⟨b, off, c', cs, hv, hcs, hA⟩ := hs
      injection hv with hv1 hv2 hv3
      subst hv1 hv3
      obtain ⟨u, hu⟩ : ∃ u, cs = [u] := by obtain ⟨u, _, rfl, _⟩ := hcs; exact ⟨u, rfl⟩
      subst hu
      obtain ⟨E1, e3, rfl, _, _⟩ := sl_form hcs
      have h0 : w.cell? ⟨b, off + i, none⟩ = some (.slice E1 (mkLab.list.mak k' x).length e3) := by have h := hA.head (u := .slice E1 (mkLab.list.mak k' x).length e3) rfl; rw [show i * Ty.s _ = i from Nat.mul_one i] at h; exact h
      have hk1 := mkLab.list.cnt_at_le hx
      have hk2 := HK.out
      have hk4 := HI.out
      have hcnt : mkLab.list.cnt x = mkLab.cntl x := rfl
      have hk3 : k' + mkLab.cntl x < 9223372036854775807 := by omega
      have HI2 : Hid (k' + mkLab.cntl x = k + mkLab.list.cntl (l.take (i + 1))) := Lib.hid (by rw [mkLab.list.cntl_step hx, HI.out, hcnt]; omega)
      have hlt1 : (i : Int) < n := by omega
      have c1 := fun w1 hb => heldLabelS_l _ x k' (by omega) w1 (Ty.below _ hcs hb)
      generalize (mkLab.list.mak k' x).length = e2 at *
      generalize k' + mkLab.cntl x = k5 at *
      have f3 : ¬ (k5 : Int) < 0 := by omega
      clear hx hv2 hk1 hk2 hk4 hcnt HI hA hcs
      go_wp2_with (first | ((first | ((with_reducible apply st_load1 H); decide +kernel; rfl; exact cF) | ((with_reducible apply st_loads H); decide +kernel; rfl; exact iF; exact zF; rfl)); clear H; intro wn H; (try simp only [splice, yG, yH, yI, yJ, yK, yL, yM, yN, yO, yP, yQ, Nat.reduceAdd, yA, yB, yC] at H); simp only [Act.put, yA, yB, yC, yD, yE, yF]) | ((first | ((with_reducible apply st_strsum H); rfl; rfl; exact szF; kernel_rfl) | ((with_reducible apply st_loadat H); decide +kernel; rfl; exact aF; exact zF; rfl)); clear H; intro wn H; simp only [Act.put, yA, yB, yC, yD, yE, yF]) | ((first | (go_at_call 152; refine gvF (c1 _ H.below) H ?_)); clear H; intro wn H) | fail)
      go_roundg (n - (i + 1))
      case measure => omega
      case rel => exact ⟨i + 1, k5, by omega, by go_num, by go_num, HI2, H⟩
    · obtain rfl : i = n := by omega
      have hlt1 : ¬ (i : Int) < i := by omega
      go_wp2_with (first | ((first | ((with_reducible apply st_load1 H); decide +kernel; rfl; exact cF) | ((with_reducible apply st_loads H); decide +kernel; rfl; exact iF; exact zF; rfl)); clear H; intro wn H; (try simp only [splice, yG, yH, yI, yJ, yK, yL, yM, yN, yO, yP, yQ, Nat.reduceAdd, yA, yB, yC] at H); simp only [Act.put, yA, yB, yC, yD, yE, yF]) | ((first | ((with_reducible apply st_strsum H); rfl; rfl; exact szF; kernel_rfl) | ((with_reducible apply st_loadat H); decide +kernel; rfl; exact aF; exact zF; rfl)); clear H; intro wn H; simp only [Act.put, yA, yB, yC, yD, yE, yF]) | ((first | (go_at_call 152; refine gvF (c1 _ H.below) H ?_)); clear H; intro wn H) | fail)
      go_ret
      have h1 := HI.out
      rw [List.take_of_length_le (by rw [← HN.out]; exact Nat.le_refl _)] at h1
      exact ⟨congrArg (fun z : Nat => Ending.returned (.int .i64 z)) (h1.trans HT.out.symm), H.below⟩
set_option maxRecDepth 100000 in
set_option maxHeartbeats 4000000 in
theorem heldConfig_l (a : Cfg) (cs : List Value) (k : Nat) (hk : k + mkCfg.cnt a < 9223372036854775807) (w : World) (hr : tyCfg.rd w cs (mkCfg.mak k a)) : Gives Tryz.prog 95 #[.agg cs.toArray, .int .i64 k] w (.int .i64 (k + mkCfg.cnt a : Nat)) := by
  obtain ⟨v1, v2, v3, rfl, h1, h2, h3⟩ := cfg_form hr
  obtain ⟨a1, a2, a3, a4⟩ := a
  have hk1 : k + mkLab.list.cntl a1 + mkPr.cntl a2 + mkQt.cntl a3 < 9223372036854775807 := by
    have : k + (mkLab.list.cntl a1 + (mkPr.cntl a2 + (mkQt.cntl a3 + 0))) < 9223372036854775807 := hk
    omega
  obtain ⟨A1, e1, rfl, _, _⟩ := sl_form h1
  obtain ⟨A2, e2, rfl, _, _⟩ := sl_form h2
  obtain ⟨A3, e3, rfl, _, _⟩ := sl_form h3
  show Gives Tryz.prog _ #[.agg #[.slice A1 _ e1, .slice A2 _ e2, .slice A3 _ e3, .int .i64 a4], _] w _
  have c1 := fun w1 hb => heldLabelSS_l _ a1 k (by omega) w1 (Ty.below _ h1 hb)
  have c2 := fun w1 hb => heldPairS_l _ a2 (k + mkLab.list.cntl a1) (by omega) w1 (Ty.below _ h2 hb)
  have c3 := fun w1 hb => heldQuotaS_l _ a3 (k + mkLab.list.cntl a1 + mkPr.cntl a2) (by omega) w1 (Ty.below _ h3 hb)
  have hr2 : (k + mkCfg.cnt (a1, a2, a3, a4) : Nat) = k + mkLab.list.cntl a1 + mkPr.cntl a2 + mkQt.cntl a3 := by
    show k + (mkLab.list.cntl a1 + (mkPr.cntl a2 + (mkQt.cntl a3 + 0))) = _
    omega
  rw [hr2]
  clear hk hk1 hr hr2 h1 h2 h3
  generalize List.length _ = q1 at *
  generalize List.length _ = q2 at *
  generalize List.length _ = q3 at *
  generalize k + mkLab.list.cntl a1 + mkPr.cntl a2 + mkQt.cntl a3 = kk3 at *
  generalize k + mkLab.list.cntl a1 + mkPr.cntl a2 = kk2 at *
  generalize k + mkLab.list.cntl a1 = kk1 at *
  have f1 : ¬ (kk1 : Int) < 0 := by omega
  have f2 : ¬ (kk2 : Int) < 0 := by omega
  have f3 : ¬ (kk3 : Int) < 0 := by omega
  have H := Hs.start noRow w
  unfold Gives
  go_enter Tryz.func95, Tryz.ntmps95
  go_wp2_with (first | ((first | ((with_reducible apply st_load1 H); decide +kernel; rfl; exact cF) | ((with_reducible apply st_loads H); decide +kernel; rfl; exact iF; exact zF; rfl)); clear H; intro wn H; (try simp only [splice, yG, yH, yI, yJ, yK, yL, yM, yN, yO, yP, yQ, Nat.reduceAdd, yA, yB, yC] at H); simp only [Act.put, yA, yB, yC, yD, yE, yF]) | ((first | ((with_reducible apply st_box (dst := some 2) H); exact nF; intro b2) | ((with_reducible apply st_strsum H); rfl; rfl; exact szF; kernel_rfl) | ((with_reducible apply st_loadat H); decide +kernel; rfl; exact aF; exact zF; rfl)); clear H; intro wn H; simp only [Act.put, yA, yB, yC, yD, yE, yF]) | ((first | (go_at_call 128; refine gvF (c1 _ H.below) H ?_) | (go_at_call 129; refine gvF (c2 _ H.below) H ?_) | (go_at_call 130; refine gvF (c3 _ H.below) H ?_)); clear H; intro wn H) | fail)
  go_ret
  exact ⟨rfl, H.below⟩
end Go.Proofs.YtjklmldchbakjaaGreat
