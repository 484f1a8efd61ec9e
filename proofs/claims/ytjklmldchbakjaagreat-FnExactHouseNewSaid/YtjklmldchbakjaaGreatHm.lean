/-
  Labels, pairs, quotas, notes, numbers: lists of them marked, and the marks read: the walks. Printed by hgen.py.
-/
import Derived.Test.YtjklmldchbakjaaGreatHa
set_option linter.unusedSimpArgs false
set_option linter.unusedVariables false
namespace Go.Proofs.YtjklmldchbakjaaGreat
open Go.RowKit M
set_option maxRecDepth 100000 in
set_option maxHeartbeats 4000000 in
theorem markLabelS_l (v : Value) (l : List Lab) (k : Nat) (hk : k + mkLab.cntl l < 9223372036854775807) : Turn Tryz.prog 63 (Ty.sl 96 tyLab) [v] l (mkLab.mkl k l) #[v, .int .i64 k] (.int .i64 (k + mkLab.cntl l : Nat)) := by
  intro R w0 L w N hO H
  obtain ⟨xs, M, A, c, rfl, hO, hcm, H⟩ := own_open hO H
  obtain rfl : M = [] := flat_noown hO
  unfold maxLen at *
  obtain ⟨n, hn⟩ : ∃ n, n = l.length := ⟨_, rfl⟩
  rw [← hn] at H ⊢
  have hn9 : n ≤ 9223372036854775807 := by obtain ⟨_, _, h1, h2, h3⟩ := (H.rows .here).slice; injection h1; unfold maxLen at h3; omega
  have HN := Lib.hid hn
  have HK := Lib.hid hk
  have HO := Lib.hid hO
  obtain ⟨tot, ht⟩ : ∃ t, t = k + mkLab.cntl l := ⟨_, rfl⟩
  rw [← ht]
  have HT := Lib.hid ht
  clear hn hk hO hcm ht
  go_enter Tryz.func63, Tryz.ntmps63
  go_wp2_with (first | ((first | ((with_reducible apply st_load1 H); decide +kernel; rfl; exact cF) | ((with_reducible apply st_loads H); decide +kernel; rfl; exact iF; exact zF; rfl) | ((with_reducible apply st_store H); rfl; exact eF; (focus (exact cells_agg _)); exact uF; kernel_rfl; (focus (exact Nat.le_of_ble_eq_true (by rfl))); (focus (first | rfl | simp))) | ((with_reducible apply st_storeown H); rfl; exact eF; (focus (exact (rfl : _ = [_]))); exact uF; (focus omega); kernel_rfl; rfl)); clear H; intro wn H; (try simp only [splice, yG, yH, yI, yJ, yK, yL, yM, yN, yO, yP, yQ, Nat.reduceAdd, yA, yB, yC] at H); simp only [Act.put, yA, yB, yC, yD, yE, yF]) | ((first | ((with_reducible apply st_strsum H); rfl; rfl; exact szF; kernel_rfl) | ((with_reducible apply st_storerow H); rfl; exact eF; (first | exact cells_agg _ | exact cellI | exact cellS | exact cellB | exact (rfl : _ = [_])); exact uF; kernel_rfl; exact Nat.succ_pos _; exact fitF; rfl)); clear H; intro wn H; simp only [Act.put, yA, yB, yC, yD, yE, yF]) | fail)
  go_loopg [1, 5] n (fun m kv iv wr => ∃ (i k' : Nat) (pre post : List Value), i + m = n ∧ iv = .int .i64 i ∧ kv = .int .i64 k' ∧ Hid (k' = k + mkLab.cntl (l.take i) ∧ OwnL tyLab pre (mkLab.mkl k (l.take i)) [] ∧ OwnL tyLab post (l.drop i) []) ∧ Hs R w0 (Hl.row 96 2 (.slice A n c) n (pre ++ post) :: Hl.all [] :: L) wr)
  case atStart => exact ⟨0, k, [], xs, by omega, rfl, rfl, Lib.hid ⟨rfl, .nil, HO.out⟩, H⟩
  case round =>
    clear H
    obtain ⟨i, k', pre, post, hi, rfl, rfl, HI, H⟩ := hrel
    by_cases hlt : i < n
    · obtain ⟨x, hx⟩ : ∃ x, l[i]? = some x := ⟨l[i]'(by rw [← HN.out]; exact hlt), List.getElem?_eq_getElem (by rw [← HN.out]; exact hlt)⟩
      obtain ⟨g, c2, hv, _⟩ := (H.rows .here).form (by omega)
      injection hv with hv1 hv2 hv3
      subst hv1 hv3
      have hk1 := mkLab.cnt_at_le hx
      have hk2 := HK.out
      obtain ⟨h1, h2, h3⟩ := HI.out
      obtain ⟨hlt', e⟩ := List.getElem?_eq_some_iff.1 hx
      rw [List.drop_eq_getElem_cons hlt', e] at h3
      obtain ⟨cs, ys, Mi, M3, rfl, hMM, ⟨rfl, rfl⟩, h4⟩ := h3.un
      rw [List.nil_append] at hMM
      subst hMM
      have hpl : pre.length = i * 2 := by rw [h2.len, Mark.mkl_len, List.length_take, Nat.min_eq_left (Nat.le_of_lt hlt')]; rfl
      have hcnt : mkLab.cnt x = 2 := rfl
      have hyl : ys.length + 2 + i * 2 = n * 2 := by
        have := (H.rows .here).len
        rw [List.length_append, List.length_append, hpl] at this
        have h5 : (encLab x).length = 2 := rfl
        omega
      have hk3 : k' + 2 < 9223372036854775807 := by omega
      have HI2 : Hid (k' + 2 = k + mkLab.cntl (l.take (i + 1)) ∧ OwnL tyLab (pre ++ encLab (mkLab.mak k' x)) (mkLab.mkl k (l.take (i + 1))) [] ∧ OwnL tyLab ys (l.drop (i + 1)) []) :=
        Lib.hid ⟨by rw [mkLab.cntl_step hx, h1, hcnt]; omega, by rw [mkLab.mkl_step hx, ← h1]; exact h2.snoc ⟨rfl, rfl⟩, h4⟩
      have HS : Hid (spl (spl (pre ++ (encLab x ++ ys)) (i * 2) [.int .i64 (k' : Nat)]) (i * 2 + 1) [.int .i64 (k' + 1 : Nat)] = pre ++ encLab (mkLab.mak k' x) ++ ys) := Lib.hid ((spl_2 pre _ ys hpl).trans (List.append_assoc ..).symm)
      have hfit : i * 2 + 2 ≤ (pre ++ (encLab x ++ ys)).length := by rw [List.length_append, List.length_append, hpl]; show i * 2 + 2 ≤ i * 2 + (2 + ys.length); omega

      have hlt1 : (i : Int) < n := by omega
      clear h1 h2 h3 h4 HI hx hk1 hk2 hcnt hyl hpl e hv2 hlt'
      unfold encLab at *
      go_wp2_with (first | ((first | ((with_reducible apply st_load1 H); decide +kernel; rfl; exact cF) | ((with_reducible apply st_loads H); decide +kernel; rfl; exact iF; exact zF; rfl) | ((with_reducible apply st_store H); rfl; exact eF; (focus (exact cells_agg _)); exact uF; kernel_rfl; (focus (exact Nat.le_of_ble_eq_true (by rfl))); (focus (first | rfl | simp))) | ((with_reducible apply st_storeown H); rfl; exact eF; (focus (exact (rfl : _ = [_]))); exact uF; (focus omega); kernel_rfl; rfl)); clear H; intro wn H; (try simp only [splice, yG, yH, yI, yJ, yK, yL, yM, yN, yO, yP, yQ, Nat.reduceAdd, yA, yB, yC] at H); simp only [Act.put, yA, yB, yC, yD, yE, yF]) | ((first | ((with_reducible apply st_strsum H); rfl; rfl; exact szF; kernel_rfl) | ((with_reducible apply st_storerow H); rfl; exact eF; (first | exact cells_agg _ | exact cellI | exact cellS | exact cellB | exact (rfl : _ = [_])); exact uF; kernel_rfl; exact Nat.succ_pos _; exact fitF; rfl)); clear H; intro wn H; simp only [Act.put, yA, yB, yC, yD, yE, yF]) | fail)
      go_roundg (n - (i + 1))
      case measure => omega
      case rel => exact ⟨i + 1, k' + 2, _, ys, by omega, by go_num, by go_num, HI2, by rw [← HS.out]; exact H⟩
    · obtain rfl : i = n := by omega
      have hlt1 : ¬ (i : Int) < i := by omega
      go_wp2_with (first | ((first | ((with_reducible apply st_load1 H); decide +kernel; rfl; exact cF) | ((with_reducible apply st_loads H); decide +kernel; rfl; exact iF; exact zF; rfl) | ((with_reducible apply st_store H); rfl; exact eF; (focus (exact cells_agg _)); exact uF; kernel_rfl; (focus (exact Nat.le_of_ble_eq_true (by rfl))); (focus (first | rfl | simp))) | ((with_reducible apply st_storeown H); rfl; exact eF; (focus (exact (rfl : _ = [_]))); exact uF; (focus omega); kernel_rfl; rfl)); clear H; intro wn H; (try simp only [splice, yG, yH, yI, yJ, yK, yL, yM, yN, yO, yP, yQ, Nat.reduceAdd, yA, yB, yC] at H); simp only [Act.put, yA, yB, yC, yD, yE, yF]) | ((first | ((with_reducible apply st_strsum H); rfl; rfl; exact szF; kernel_rfl) | ((with_reducible apply st_storerow H); rfl; exact eF; (first | exact cells_agg _ | exact cellI | exact cellS | exact cellB | exact (rfl : _ = [_])); exact uF; kernel_rfl; exact Nat.succ_pos _; exact fitF; rfl)); clear H; intro wn H; simp only [Act.put, yA, yB, yC, yD, yE, yF]) | fail)
      go_ret
      obtain ⟨h1, h2, h3⟩ := HI.out
      rw [List.take_of_length_le (by rw [← HN.out]; exact Nat.le_refl _)] at h1 h2
      rw [List.drop_of_length_le (by rw [← HN.out]; exact Nat.le_refl _)] at h3
      obtain ⟨rfl, _⟩ := h3.unNil
      rw [List.append_nil] at H
      exact ⟨congrArg (fun z : Nat => Ending.returned (.int .i64 z)) (h1.trans HT.out.symm), own_close h2 H (by rw [Mark.mkl_len]; exact HN.out)⟩
set_option maxRecDepth 100000 in
set_option maxHeartbeats 4000000 in
theorem heldLabelS_l (v : Value) (l : List Lab) (k : Nat) (hk : k + mkLab.cntl l < 9223372036854775807) (w : World) (hr : (Ty.sl 96 tyLab).rd w [v] (mkLab.mkl k l)) : Gives Tryz.prog 152 #[v, .int .i64 k] w (.int .i64 (k + mkLab.cntl l : Nat)) := by
  obtain ⟨A, c, rfl, hlc, hcm⟩ := sl_form hr
  unfold maxLen at *
  have HR := Lib.hid hr
  have H := Hs.start noRow w
  have hml := mkLab.mkl_len k l
  rw [hml] at hlc HR ⊢
  obtain ⟨n, hn⟩ : ∃ n, n = l.length := ⟨_, rfl⟩
  have hnl : n ≤ 9223372036854775807 := by omega
  rw [← hn] at HR ⊢
  have HN := Lib.hid hn
  have HK := Lib.hid hk
  obtain ⟨tot, ht⟩ : ∃ t, t = k + mkLab.cntl l := ⟨_, rfl⟩
  rw [← ht]
  have HT := Lib.hid ht
  clear hr hn hlc hcm hk hml ht
  unfold Gives
  go_enter Tryz.func152, Tryz.ntmps152
  go_wp2_with (first | ((first | ((with_reducible apply st_load1 H); decide +kernel; rfl; exact cF) | ((with_reducible apply st_loads H); decide +kernel; rfl; exact iF; exact zF; rfl)); clear H; intro wn H; (try simp only [splice, yG, yH, yI, yJ, yK, yL, yM, yN, yO, yP, yQ, Nat.reduceAdd, yA, yB, yC] at H); simp only [Act.put, yA, yB, yC, yD, yE, yF]) | ((first | ((with_reducible apply st_strsum H); rfl; rfl; exact szF; kernel_rfl) | ((with_reducible apply st_loadat H); decide +kernel; rfl; exact aF; exact zF; rfl)); clear H; intro wn H; simp only [Act.put, yA, yB, yC, yD, yE, yF]) | fail)
  go_loopg [1, 5] n (fun m kv iv wr => ∃ (i k' : Nat), i + m = n ∧ iv = .int .i64 i ∧ kv = .int .i64 k' ∧ Hid (k' = k + mkLab.cntl (l.take i)) ∧ Hs noRow w [] wr)
  case atStart => exact ⟨0, k, by omega, rfl, rfl, Lib.hid rfl, H⟩
  case round =>
    clear H
    obtain ⟨i, k', hi, rfl, rfl, HI, H⟩ := hrel
    by_cases hlt : i < n
    · obtain ⟨x, hx⟩ : ∃ x, l[i]? = some x := ⟨l[i]'(by rw [← HN.out]; exact hlt), List.getElem?_eq_getElem (by rw [← HN.out]; exact hlt)⟩
      have hs := sl_at (by have := HR.out; rw [HN.out, ← Mark.mkl_len mkLab k] at this; exact this) (mkLab.mkl_at (k := k) hx)
      rw [Mark.mkl_len, ← HN.out, ← HI.out] at hs
      obtain ⟨b, off, c', cs, hv, hcs, hA⟩ := hs
      injection hv with hv1 hv2 hv3
      subst hv1 hv3
      obtain rfl : cs = encLab (mkLab.mak k' x) := hcs
      have hk1 := mkLab.cnt_at_le hx
      have hk2 := HK.out
      have hk4 := HI.out
      have hcnt : mkLab.cnt x = 2 := rfl
      have hk3 : k' + 2 < 9223372036854775807 := by omega
      have HI2 : Hid (k' + 2 = k + mkLab.cntl (l.take (i + 1))) := Lib.hid (by rw [mkLab.cntl_step hx, HI.out, hcnt]; omega)
      have hlt1 : (i : Int) < n := by omega
      have h0 : w.cell? ⟨b, off + i * 2, none⟩ = some (.int .i64 (k' : Nat)) := hA.head (u := .int .i64 (k' : Nat)) rfl
      have h1 : w.cell? ⟨b, off + i * 2 + 1, none⟩ = some (.int .i64 (k' + 1 : Nat)) := hA 1 _ rfl
      clear hx hv2 hk1 hk2 hk4 hcnt HI hA
      go_wp2_with (first | ((first | ((with_reducible apply st_load1 H); decide +kernel; rfl; exact cF) | ((with_reducible apply st_loads H); decide +kernel; rfl; exact iF; exact zF; rfl)); clear H; intro wn H; (try simp only [splice, yG, yH, yI, yJ, yK, yL, yM, yN, yO, yP, yQ, Nat.reduceAdd, yA, yB, yC] at H); simp only [Act.put, yA, yB, yC, yD, yE, yF]) | ((first | ((with_reducible apply st_strsum H); rfl; rfl; exact szF; kernel_rfl) | ((with_reducible apply st_loadat H); decide +kernel; rfl; exact aF; exact zF; rfl)); clear H; intro wn H; simp only [Act.put, yA, yB, yC, yD, yE, yF]) | fail)
      go_roundg (n - (i + 1))
      case measure => omega
      case rel => exact ⟨i + 1, k' + 2, by omega, by go_num, by go_num, HI2, H⟩
    · obtain rfl : i = n := by omega
      have hlt1 : ¬ (i : Int) < i := by omega
      go_wp2_with (first | ((first | ((with_reducible apply st_load1 H); decide +kernel; rfl; exact cF) | ((with_reducible apply st_loads H); decide +kernel; rfl; exact iF; exact zF; rfl)); clear H; intro wn H; (try simp only [splice, yG, yH, yI, yJ, yK, yL, yM, yN, yO, yP, yQ, Nat.reduceAdd, yA, yB, yC] at H); simp only [Act.put, yA, yB, yC, yD, yE, yF]) | ((first | ((with_reducible apply st_strsum H); rfl; rfl; exact szF; kernel_rfl) | ((with_reducible apply st_loadat H); decide +kernel; rfl; exact aF; exact zF; rfl)); clear H; intro wn H; simp only [Act.put, yA, yB, yC, yD, yE, yF]) | fail)
      go_ret
      have h1 := HI.out
      rw [List.take_of_length_le (by rw [← HN.out]; exact Nat.le_refl _)] at h1
      exact ⟨congrArg (fun z : Nat => Ending.returned (.int .i64 z)) (h1.trans HT.out.symm), H.below⟩
set_option maxRecDepth 100000 in
set_option maxHeartbeats 4000000 in
theorem markPairS_l (v : Value) (l : List Pr) (k : Nat) (hk : k + mkPr.cntl l < 9223372036854775807) : Turn Tryz.prog 35 (Ty.sl 98 tyPr) [v] l (mkPr.mkl k l) #[v, .int .i64 k] (.int .i64 (k + mkPr.cntl l : Nat)) := by
  intro R w0 L w N hO H
  obtain ⟨xs, M, A, c, rfl, hO, hcm, H⟩ := own_open hO H
  obtain rfl : M = [] := flat_noown hO
  unfold maxLen at *
  obtain ⟨n, hn⟩ : ∃ n, n = l.length := ⟨_, rfl⟩
  rw [← hn] at H ⊢
  have hn9 : n ≤ 9223372036854775807 := by obtain ⟨_, _, h1, h2, h3⟩ := (H.rows .here).slice; injection h1; unfold maxLen at h3; omega
  have HN := Lib.hid hn
  have HK := Lib.hid hk
  have HO := Lib.hid hO
  obtain ⟨tot, ht⟩ : ∃ t, t = k + mkPr.cntl l := ⟨_, rfl⟩
  rw [← ht]
  have HT := Lib.hid ht
  clear hn hk hO hcm ht
  go_enter Tryz.func35, Tryz.ntmps35
  go_wp2_with (first | ((first | ((with_reducible apply st_load1 H); decide +kernel; rfl; exact cF) | ((with_reducible apply st_loads H); decide +kernel; rfl; exact iF; exact zF; rfl) | ((with_reducible apply st_store H); rfl; exact eF; (focus (exact cells_agg _)); exact uF; kernel_rfl; (focus (exact Nat.le_of_ble_eq_true (by rfl))); (focus (first | rfl | simp))) | ((with_reducible apply st_storeown H); rfl; exact eF; (focus (exact (rfl : _ = [_]))); exact uF; (focus omega); kernel_rfl; rfl)); clear H; intro wn H; (try simp only [splice, yG, yH, yI, yJ, yK, yL, yM, yN, yO, yP, yQ, Nat.reduceAdd, yA, yB, yC] at H); simp only [Act.put, yA, yB, yC, yD, yE, yF]) | ((first | ((with_reducible apply st_strsum H); rfl; rfl; exact szF; kernel_rfl) | ((with_reducible apply st_storerow H); rfl; exact eF; (first | exact cells_agg _ | exact cellI | exact cellS | exact cellB | exact (rfl : _ = [_])); exact uF; kernel_rfl; exact Nat.succ_pos _; exact fitF; rfl)); clear H; intro wn H; simp only [Act.put, yA, yB, yC, yD, yE, yF]) | fail)
  go_loopg [1, 5] n (fun m kv iv wr => ∃ (i k' : Nat) (pre post : List Value), i + m = n ∧ iv = .int .i64 i ∧ kv = .int .i64 k' ∧ Hid (k' = k + mkPr.cntl (l.take i) ∧ OwnL tyPr pre (mkPr.mkl k (l.take i)) [] ∧ OwnL tyPr post (l.drop i) []) ∧ Hs R w0 (Hl.row 98 5 (.slice A n c) n (pre ++ post) :: Hl.all [] :: L) wr)
  case atStart => exact ⟨0, k, [], xs, by omega, rfl, rfl, Lib.hid ⟨rfl, .nil, HO.out⟩, H⟩
  case round =>
    clear H
    obtain ⟨i, k', pre, post, hi, rfl, rfl, HI, H⟩ := hrel
    by_cases hlt : i < n
    · obtain ⟨x, hx⟩ : ∃ x, l[i]? = some x := ⟨l[i]'(by rw [← HN.out]; exact hlt), List.getElem?_eq_getElem (by rw [← HN.out]; exact hlt)⟩
      obtain ⟨g, c2, hv, _⟩ := (H.rows .here).form (by omega)
      injection hv with hv1 hv2 hv3
      subst hv1 hv3
      have hk1 := mkPr.cnt_at_le hx
      have hk2 := HK.out
      obtain ⟨h1, h2, h3⟩ := HI.out
      obtain ⟨hlt', e⟩ := List.getElem?_eq_some_iff.1 hx
      rw [List.drop_eq_getElem_cons hlt', e] at h3
      obtain ⟨cs, ys, Mi, M3, rfl, hMM, ⟨rfl, rfl⟩, h4⟩ := h3.un
      rw [List.nil_append] at hMM
      subst hMM
      have hpl : pre.length = i * 5 := by rw [h2.len, Mark.mkl_len, List.length_take, Nat.min_eq_left (Nat.le_of_lt hlt')]; rfl
      have hcnt : mkPr.cnt x = 5 := rfl
      have hyl : ys.length + 5 + i * 5 = n * 5 := by
        have := (H.rows .here).len
        rw [List.length_append, List.length_append, hpl] at this
        have h5 : (encPr x).length = 5 := rfl
        omega
      have hk3 : k' + 5 < 9223372036854775807 := by omega
      have HI2 : Hid (k' + 5 = k + mkPr.cntl (l.take (i + 1)) ∧ OwnL tyPr (pre ++ encPr (mkPr.mak k' x)) (mkPr.mkl k (l.take (i + 1))) [] ∧ OwnL tyPr ys (l.drop (i + 1)) []) :=
        Lib.hid ⟨by rw [mkPr.cntl_step hx, h1, hcnt]; omega, by rw [mkPr.mkl_step hx, ← h1]; exact h2.snoc ⟨rfl, rfl⟩, h4⟩
      have HS : Hid (spl (spl (spl (spl (spl (pre ++ (encPr x ++ ys)) (i * 5) [.int .i64 (k' : Nat)]) (i * 5 + 1) [.int .i64 (k' + 1 : Nat)]) (i * 5 + 2) [.int .i64 (k' + 2 : Nat)]) (i * 5 + 3) [.int .i64 (k' + 3 : Nat)]) (i * 5 + 4) [.int .i64 (k' + 4 : Nat)] = pre ++ encPr (mkPr.mak k' x) ++ ys) := Lib.hid ((spl_5 pre _ ys hpl).trans (List.append_assoc ..).symm)
      have hfit : i * 5 + 5 ≤ (pre ++ (encPr x ++ ys)).length := by rw [List.length_append, List.length_append, hpl]; show i * 5 + 5 ≤ i * 5 + (5 + ys.length); omega

      have hlt1 : (i : Int) < n := by omega
      clear h1 h2 h3 h4 HI hx hk1 hk2 hcnt hyl hpl e hv2 hlt'
      unfold encPr at *
      go_wp2_with (first | ((first | ((with_reducible apply st_load1 H); decide +kernel; rfl; exact cF) | ((with_reducible apply st_loads H); decide +kernel; rfl; exact iF; exact zF; rfl) | ((with_reducible apply st_store H); rfl; exact eF; (focus (exact cells_agg _)); exact uF; kernel_rfl; (focus (exact Nat.le_of_ble_eq_true (by rfl))); (focus (first | rfl | simp))) | ((with_reducible apply st_storeown H); rfl; exact eF; (focus (exact (rfl : _ = [_]))); exact uF; (focus omega); kernel_rfl; rfl)); clear H; intro wn H; (try simp only [splice, yG, yH, yI, yJ, yK, yL, yM, yN, yO, yP, yQ, Nat.reduceAdd, yA, yB, yC] at H); simp only [Act.put, yA, yB, yC, yD, yE, yF]) | ((first | ((with_reducible apply st_strsum H); rfl; rfl; exact szF; kernel_rfl) | ((with_reducible apply st_storerow H); rfl; exact eF; (first | exact cells_agg _ | exact cellI | exact cellS | exact cellB | exact (rfl : _ = [_])); exact uF; kernel_rfl; exact Nat.succ_pos _; exact fitF; rfl)); clear H; intro wn H; simp only [Act.put, yA, yB, yC, yD, yE, yF]) | fail)
      go_roundg (n - (i + 1))
      case measure => omega
      case rel => exact ⟨i + 1, k' + 5, _, ys, by omega, by go_num, by go_num, HI2, by rw [← HS.out]; exact H⟩
    · obtain rfl : i = n := by omega
      have hlt1 : ¬ (i : Int) < i := by omega
      go_wp2_with (first | ((first | ((with_reducible apply st_load1 H); decide +kernel; rfl; exact cF) | ((with_reducible apply st_loads H); decide +kernel; rfl; exact iF; exact zF; rfl) | ((with_reducible apply st_store H); rfl; exact eF; (focus (exact cells_agg _)); exact uF; kernel_rfl; (focus (exact Nat.le_of_ble_eq_true (by rfl))); (focus (first | rfl | simp))) | ((with_reducible apply st_storeown H); rfl; exact eF; (focus (exact (rfl : _ = [_]))); exact uF; (focus omega); kernel_rfl; rfl)); clear H; intro wn H; (try simp only [splice, yG, yH, yI, yJ, yK, yL, yM, yN, yO, yP, yQ, Nat.reduceAdd, yA, yB, yC] at H); simp only [Act.put, yA, yB, yC, yD, yE, yF]) | ((first | ((with_reducible apply st_strsum H); rfl; rfl; exact szF; kernel_rfl) | ((with_reducible apply st_storerow H); rfl; exact eF; (first | exact cells_agg _ | exact cellI | exact cellS | exact cellB | exact (rfl : _ = [_])); exact uF; kernel_rfl; exact Nat.succ_pos _; exact fitF; rfl)); clear H; intro wn H; simp only [Act.put, yA, yB, yC, yD, yE, yF]) | fail)
      go_ret
      obtain ⟨h1, h2, h3⟩ := HI.out
      rw [List.take_of_length_le (by rw [← HN.out]; exact Nat.le_refl _)] at h1 h2
      rw [List.drop_of_length_le (by rw [← HN.out]; exact Nat.le_refl _)] at h3
      obtain ⟨rfl, _⟩ := h3.unNil
      rw [List.append_nil] at H
      exact ⟨congrArg (fun z : Nat => Ending.returned (.int .i64 z)) (h1.trans HT.out.symm), own_close h2 H (by rw [Mark.mkl_len]; exact HN.out)⟩
set_option maxRecDepth 100000 in
set_option maxHeartbeats 4000000 in
theorem heldPairS_l (v : Value) (l : List Pr) (k : Nat) (hk : k + mkPr.cntl l < 9223372036854775807) (w : World) (hr : (Ty.sl 98 tyPr).rd w [v] (mkPr.mkl k l)) : Gives Tryz.prog 129 #[v, .int .i64 k] w (.int .i64 (k + mkPr.cntl l : Nat)) := by
  obtain ⟨A, c, rfl, hlc, hcm⟩ := sl_form hr
  unfold maxLen at *
  have HR := Lib.hid hr
  have H := Hs.start noRow w
  have hml := mkPr.mkl_len k l
  rw [hml] at hlc HR ⊢
  obtain ⟨n, hn⟩ : ∃ n, n = l.length := ⟨_, rfl⟩
  have hnl : n ≤ 9223372036854775807 := by omega
  rw [← hn] at HR ⊢
  have HN := Lib.hid hn
  have HK := Lib.hid hk
  obtain ⟨tot, ht⟩ : ∃ t, t = k + mkPr.cntl l := ⟨_, rfl⟩
  rw [← ht]
  have HT := Lib.hid ht
  clear hr hn hlc hcm hk hml ht
  unfold Gives
  go_enter Tryz.func129, Tryz.ntmps129
  go_wp2_with (first | ((first | ((with_reducible apply st_load1 H); decide +kernel; rfl; exact cF) | ((with_reducible apply st_loads H); decide +kernel; rfl; exact iF; exact zF; rfl)); clear H; intro wn H; (try simp only [splice, yG, yH, yI, yJ, yK, yL, yM, yN, yO, yP, yQ, Nat.reduceAdd, yA, yB, yC] at H); simp only [Act.put, yA, yB, yC, yD, yE, yF]) | ((first | ((with_reducible apply st_strsum H); rfl; rfl; exact szF; kernel_rfl) | ((with_reducible apply st_loadat H); decide +kernel; rfl; exact aF; exact zF; rfl)); clear H; intro wn H; simp only [Act.put, yA, yB, yC, yD, yE, yF]) | fail)
  go_loopg [1, 5] n (fun m kv iv wr => ∃ (i k' : Nat), i + m = n ∧ iv = .int .i64 i ∧ kv = .int .i64 k' ∧ Hid (k' = k + mkPr.cntl (l.take i)) ∧ Hs noRow w [] wr)
  case atStart => exact ⟨0, k, by omega, rfl, rfl, Lib.hid rfl, H⟩
  case round =>
    clear H
    obtain ⟨i, k', hi, rfl, rfl, HI, H⟩ := hrel
    by_cases hlt : i < n
    · obtain ⟨x, hx⟩ : ∃ x, l[i]? = some x := ⟨l[i]'(by rw [← HN.out]; exact hlt), List.getElem?_eq_getElem (by rw [← HN.out]; exact hlt)⟩
      have hs := sl_at (by have := HR.out; rw [HN.out, ← Mark.mkl_len mkPr k] at this; exact this) (mkPr.mkl_at (k := k) hx)
      rw [Mark.mkl_len, ← HN.out, ← HI.out] at hs
      obtain ⟨b, off, c', cs, hv, hcs, hA⟩ := hs
      injection hv with hv1 hv2 hv3
      subst hv1 hv3
      obtain rfl : cs = encPr (mkPr.mak k' x) := hcs
      have hk1 := mkPr.cnt_at_le hx
      have hk2 := HK.out
      have hk4 := HI.out
      have hcnt : mkPr.cnt x = 5 := rfl
      have hk3 : k' + 5 < 9223372036854775807 := by omega
      have HI2 : Hid (k' + 5 = k + mkPr.cntl (l.take (i + 1))) := Lib.hid (by rw [mkPr.cntl_step hx, HI.out, hcnt]; omega)
      have hlt1 : (i : Int) < n := by omega
      have h0 : w.cell? ⟨b, off + i * 5, none⟩ = some (.int .i64 (k' : Nat)) := hA.head (u := .int .i64 (k' : Nat)) rfl
      have h1 : w.cell? ⟨b, off + i * 5 + 1, none⟩ = some (.int .i64 (k' + 1 : Nat)) := hA 1 _ rfl
      have h2 : w.cell? ⟨b, off + i * 5 + 2, none⟩ = some (.int .i64 (k' + 2 : Nat)) := hA 2 _ rfl
      have h3 : w.cell? ⟨b, off + i * 5 + 3, none⟩ = some (.int .i64 (k' + 3 : Nat)) := hA 3 _ rfl
      have h4 : w.cell? ⟨b, off + i * 5 + 4, none⟩ = some (.int .i64 (k' + 4 : Nat)) := hA 4 _ rfl
      clear hx hv2 hk1 hk2 hk4 hcnt HI hA
      go_wp2_with (first | ((first | ((with_reducible apply st_load1 H); decide +kernel; rfl; exact cF) | ((with_reducible apply st_loads H); decide +kernel; rfl; exact iF; exact zF; rfl)); clear H; intro wn H; (try simp only [splice, yG, yH, yI, yJ, yK, yL, yM, yN, yO, yP, yQ, Nat.reduceAdd, yA, yB, yC] at H); simp only [Act.put, yA, yB, yC, yD, yE, yF]) | ((first | ((with_reducible apply st_strsum H); rfl; rfl; exact szF; kernel_rfl) | ((with_reducible apply st_loadat H); decide +kernel; rfl; exact aF; exact zF; rfl)); clear H; intro wn H; simp only [Act.put, yA, yB, yC, yD, yE, yF]) | fail)
      go_roundg (n - (i + 1))
      case measure => omega
      case rel => exact ⟨i + 1, k' + 5, by omega, by go_num, by go_num, HI2, H⟩
    · obtain rfl : i = n := by omega
      have hlt1 : ¬ (i : Int) < i := by omega
      go_wp2_with (first | ((first | ((with_reducible apply st_load1 H); decide +kernel; rfl; exact cF) | ((with_reducible apply st_loads H); decide +kernel; rfl; exact iF; exact zF; rfl)); clear H; intro wn H; (try simp only [splice, yG, yH, yI, yJ, yK, yL, yM, yN, yO, yP, yQ, Nat.reduceAdd, yA, yB, yC] at H); simp only [Act.put, yA, yB, yC, yD, yE, yF]) | ((first | ((with_reducible apply st_strsum H); rfl; rfl; exact szF; kernel_rfl) | ((with_reducible apply st_loadat H); decide +kernel; rfl; exact aF; exact zF; rfl)); clear H; intro wn H; simp only [Act.put, yA, yB, yC, yD, yE, yF]) | fail)
      go_ret
      have h1 := HI.out
      rw [List.take_of_length_le (by rw [← HN.out]; exact Nat.le_refl _)] at h1
      exact ⟨congrArg (fun z : Nat => Ending.returned (.int .i64 z)) (h1.trans HT.out.symm), H.below⟩
set_option maxRecDepth 100000 in
set_option maxHeartbeats 4000000 in
theorem markQuotaS_l (v : Value) (l : List Qt) (k : Nat) (hk : k + mkQt.cntl l < 9223372036854775807) : Turn Tryz.prog 36 (Ty.sl 104 tyQt) [v] l (mkQt.mkl k l) #[v, .int .i64 k] (.int .i64 (k + mkQt.cntl l : Nat)) := by
  intro R w0 L w N hO H
  obtain ⟨xs, M, A, c, rfl, hO, hcm, H⟩ := own_open hO H
  obtain rfl : M = [] := flat_noown hO
  unfold maxLen at *
  obtain ⟨n, hn⟩ : ∃ n, n = l.length := ⟨_, rfl⟩
  rw [← hn] at H ⊢
  have hn9 : n ≤ 9223372036854775807 := by obtain ⟨_, _, h1, h2, h3⟩ := (H.rows .here).slice; injection h1; unfold maxLen at h3; omega
  have HN := Lib.hid hn
  have HK := Lib.hid hk
  have HO := Lib.hid hO
  obtain ⟨tot, ht⟩ : ∃ t, t = k + mkQt.cntl l := ⟨_, rfl⟩
  rw [← ht]
  have HT := Lib.hid ht
  clear hn hk hO hcm ht
  go_enter Tryz.func36, Tryz.ntmps36
  go_wp2_with (first | ((first | ((with_reducible apply st_load1 H); decide +kernel; rfl; exact cF) | ((with_reducible apply st_loads H); decide +kernel; rfl; exact iF; exact zF; rfl) | ((with_reducible apply st_store H); rfl; exact eF; (focus (exact cells_agg _)); exact uF; kernel_rfl; (focus (exact Nat.le_of_ble_eq_true (by rfl))); (focus (first | rfl | simp))) | ((with_reducible apply st_storeown H); rfl; exact eF; (focus (exact (rfl : _ = [_]))); exact uF; (focus omega); kernel_rfl; rfl)); clear H; intro wn H; (try simp only [splice, yG, yH, yI, yJ, yK, yL, yM, yN, yO, yP, yQ, Nat.reduceAdd, yA, yB, yC] at H); simp only [Act.put, yA, yB, yC, yD, yE, yF]) | ((first | ((with_reducible apply st_strsum H); rfl; rfl; exact szF; kernel_rfl) | ((with_reducible apply st_storerow H); rfl; exact eF; (first | exact cells_agg _ | exact cellI | exact cellS | exact cellB | exact (rfl : _ = [_])); exact uF; kernel_rfl; exact Nat.succ_pos _; exact fitF; rfl)); clear H; intro wn H; simp only [Act.put, yA, yB, yC, yD, yE, yF]) | fail)
  go_loopg [1, 5] n (fun m kv iv wr => ∃ (i k' : Nat) (pre post : List Value), i + m = n ∧ iv = .int .i64 i ∧ kv = .int .i64 k' ∧ Hid (k' = k + mkQt.cntl (l.take i) ∧ OwnL tyQt pre (mkQt.mkl k (l.take i)) [] ∧ OwnL tyQt post (l.drop i) []) ∧ Hs R w0 (Hl.row 104 3 (.slice A n c) n (pre ++ post) :: Hl.all [] :: L) wr)
  case atStart => exact ⟨0, k, [], xs, by omega, rfl, rfl, Lib.hid ⟨rfl, .nil, HO.out⟩, H⟩
  case round =>
    clear H
    obtain ⟨i, k', pre, post, hi, rfl, rfl, HI, H⟩ := hrel
    by_cases hlt : i < n
    · obtain ⟨x, hx⟩ : ∃ x, l[i]? = some x := ⟨l[i]'(by rw [← HN.out]; exact hlt), List.getElem?_eq_getElem (by rw [← HN.out]; exact hlt)⟩
      obtain ⟨g, c2, hv, _⟩ := (H.rows .here).form (by omega)
      injection hv with hv1 hv2 hv3
      subst hv1 hv3
      have hk1 := mkQt.cnt_at_le hx
      have hk2 := HK.out
      obtain ⟨h1, h2, h3⟩ := HI.out
      obtain ⟨hlt', e⟩ := List.getElem?_eq_some_iff.1 hx
      rw [List.drop_eq_getElem_cons hlt', e] at h3
      obtain ⟨cs, ys, Mi, M3, rfl, hMM, ⟨rfl, rfl⟩, h4⟩ := h3.un
      rw [List.nil_append] at hMM
      subst hMM
      have hpl : pre.length = i * 3 := by rw [h2.len, Mark.mkl_len, List.length_take, Nat.min_eq_left (Nat.le_of_lt hlt')]; rfl
      have hcnt : mkQt.cnt x = 3 := rfl
      have hyl : ys.length + 3 + i * 3 = n * 3 := by
        have := (H.rows .here).len
        rw [List.length_append, List.length_append, hpl] at this
        have h5 : (encQt x).length = 3 := rfl
        omega
      have hk3 : k' + 3 < 9223372036854775807 := by omega
      have HI2 : Hid (k' + 3 = k + mkQt.cntl (l.take (i + 1)) ∧ OwnL tyQt (pre ++ encQt (mkQt.mak k' x)) (mkQt.mkl k (l.take (i + 1))) [] ∧ OwnL tyQt ys (l.drop (i + 1)) []) :=
        Lib.hid ⟨by rw [mkQt.cntl_step hx, h1, hcnt]; omega, by rw [mkQt.mkl_step hx, ← h1]; exact h2.snoc ⟨rfl, rfl⟩, h4⟩
      have HS : Hid (spl (spl (spl (pre ++ (encQt x ++ ys)) (i * 3) [.int .i64 (k' : Nat)]) (i * 3 + 1) [.int .i64 (k' + 1 : Nat)]) (i * 3 + 2) [.int .i64 (k' + 2 : Nat)] = pre ++ encQt (mkQt.mak k' x) ++ ys) := Lib.hid ((spl_3 pre _ ys hpl).trans (List.append_assoc ..).symm)
      have hfit : i * 3 + 3 ≤ (pre ++ (encQt x ++ ys)).length := by rw [List.length_append, List.length_append, hpl]; show i * 3 + 3 ≤ i * 3 + (3 + ys.length); omega

      have hlt1 : (i : Int) < n := by omega
      clear h1 h2 h3 h4 HI hx hk1 hk2 hcnt hyl hpl e hv2 hlt'
      unfold encQt at *
      go_wp2_with (first | ((first | ((with_reducible apply st_load1 H); decide +kernel; rfl; exact cF) | ((with_reducible apply st_loads H); decide +kernel; rfl; exact iF; exact zF; rfl) | ((with_reducible apply st_store H); rfl; exact eF; (focus (exact cells_agg _)); exact uF; kernel_rfl; (focus (exact Nat.le_of_ble_eq_true (by rfl))); (focus (first | rfl | simp))) | ((with_reducible apply st_storeown H); rfl; exact eF; (focus (exact (rfl : _ = [_]))); exact uF; (focus omega); kernel_rfl; rfl)); clear H; intro wn H; (try simp only [splice, yG, yH, yI, yJ, yK, yL, yM, yN, yO, yP, yQ, Nat.reduceAdd, yA, yB, yC] at H); simp only [Act.put, yA, yB, yC, yD, yE, yF]) | ((first | ((with_reducible apply st_strsum H); rfl; rfl; exact szF; kernel_rfl) | ((with_reducible apply st_storerow H); rfl; exact eF; (first | exact cells_agg _ | exact cellI | exact cellS | exact cellB | exact (rfl : _ = [_])); exact uF; kernel_rfl; exact Nat.succ_pos _; exact fitF; rfl)); clear H; intro wn H; simp only [Act.put, yA, yB, yC, yD, yE, yF]) | fail)
      go_roundg (n - (i + 1))
      case measure => omega
      case rel => exact ⟨i + 1, k' + 3, _, ys, by omega, by go_num, by go_num, HI2, by rw [← HS.out]; exact H⟩
    · obtain rfl : i = n := by omega
      have hlt1 : ¬ (i : Int) < i := by omega
      go_wp2_with (first | ((first | ((with_reducible apply st_load1 H); decide +kernel; rfl; exact cF) | ((with_reducible apply st_loads H); decide +kernel; rfl; exact iF; exact zF; rfl) | ((with_reducible apply st_store H); rfl; exact eF; (focus (exact cells_agg _)); exact uF; kernel_rfl; (focus (exact Nat.le_of_ble_eq_true (by rfl))); (focus (first | rfl | simp))) | ((with_reducible apply st_storeown H); rfl; exact eF; (focus (exact (rfl : _ = [_]))); exact uF; (focus omega); kernel_rfl; rfl)); clear H; intro wn H; (try simp only [splice, yG, yH, yI, yJ, yK, yL, yM, yN, yO, yP, yQ, Nat.reduceAdd, yA, yB, yC] at H); simp only [Act.put, yA, yB, yC, yD, yE, yF]) | ((first | ((with_reducible apply st_strsum H); rfl; rfl; exact szF; kernel_rfl) | ((with_reducible apply st_storerow H); rfl; exact eF; (first | exact cells_agg _ | exact cellI | exact cellS | exact cellB | exact (rfl : _ = [_])); exact uF; kernel_rfl; exact Nat.succ_pos _; exact fitF; rfl)); clear H; intro wn H; simp only [Act.put, yA, yB, yC, yD, yE, yF]) | fail)
      go_ret
      obtain ⟨h1, h2, h3⟩ := HI.out
      rw [List.take_of_length_le (by rw [← HN.out]; exact Nat.le_refl _)] at h1 h2
      rw [List.drop_of_length_le (by rw [← HN.out]; exact Nat.le_refl _)] at h3
      obtain ⟨rfl, _⟩ := h3.unNil
      rw [List.append_nil] at H
      exact ⟨congrArg (fun z : Nat => Ending.returned (.int .i64 z)) (h1.trans HT.out.symm), own_close h2 H (by rw [Mark.mkl_len]; exact HN.out)⟩
set_option maxRecDepth 100000 in
set_option maxHeartbeats 4000000 in
theorem heldQuotaS_l (v : Value) (l : List Qt) (k : Nat) (hk : k + mkQt.cntl l < 9223372036854775807) (w : World) (hr : (Ty.sl 104 tyQt).rd w [v] (mkQt.mkl k l)) : Gives Tryz.prog 130 #[v, .int .i64 k] w (.int .i64 (k + mkQt.cntl l : Nat)) := by
  obtain ⟨A, c, rfl, hlc, hcm⟩ := sl_form hr
  unfold maxLen at *
  have HR := Lib.hid hr
  have H := Hs.start noRow w
  have hml := mkQt.mkl_len k l
  rw [hml] at hlc HR ⊢
  obtain ⟨n, hn⟩ : ∃ n, n = l.length := ⟨_, rfl⟩
  have hnl : n ≤ 9223372036854775807 := by omega
  rw [← hn] at HR ⊢
  have HN := Lib.hid hn
  have HK := Lib.hid hk
  obtain ⟨tot, ht⟩ : ∃ t, t = k + mkQt.cntl l := ⟨_, rfl⟩
  rw [← ht]
  have HT := Lib.hid ht
  clear hr hn hlc hcm hk hml ht
  unfold Gives
  go_enter Tryz.func130, Tryz.ntmps130
  go_wp2_with (first | ((first | ((with_reducible apply st_load1 H); decide +kernel; rfl; exact cF) | ((with_reducible apply st_loads H); decide +kernel; rfl; exact iF; exact zF; rfl)); clear H; intro wn H; (try simp only [splice, yG, yH, yI, yJ, yK, yL, yM, yN, yO, yP, yQ, Nat.reduceAdd, yA, yB, yC] at H); simp only [Act.put, yA, yB, yC, yD, yE, yF]) | ((first | ((with_reducible apply st_strsum H); rfl; rfl; exact szF; kernel_rfl) | ((with_reducible apply st_loadat H); decide +kernel; rfl; exact aF; exact zF; rfl)); clear H; intro wn H; simp only [Act.put, yA, yB, yC, yD, yE, yF]) | fail)
  go_loopg [1, 5] n (fun m kv iv wr => ∃ (i k' : Nat), i + m = n ∧ iv = .int .i64 i ∧ kv = .int .i64 k' ∧ Hid (k' = k + mkQt.cntl (l.take i)) ∧ Hs noRow w [] wr)
  case atStart => exact ⟨0, k, by omega, rfl, rfl, Lib.hid rfl, H⟩
  case round =>
    clear H
    obtain ⟨i, k', hi, rfl, rfl, HI, H⟩ := hrel
    by_cases hlt : i < n
    · obtain ⟨x, hx⟩ : ∃ x, l[i]? = some x := ⟨l[i]'(by rw [← HN.out]; exact hlt), List.getElem?_eq_getElem (by rw [← HN.out]; exact hlt)⟩
      have hs := sl_at (by have := HR.out; rw [HN.out, ← Mark.mkl_len mkQt k] at this; exact this) (mkQt.mkl_at (k := k) hx)
      rw [Mark.mkl_len, ← HN.out, ← HI.out] at hs
      obtain ⟨b, off, c', cs, hv, hcs, hA⟩ := hs
      injection hv with hv1 hv2 hv3
      subst hv1 hv3
      obtain rfl : cs = encQt (mkQt.mak k' x) := hcs
      have hk1 := mkQt.cnt_at_le hx
      have hk2 := HK.out
      have hk4 := HI.out
      have hcnt : mkQt.cnt x = 3 := rfl
      have hk3 : k' + 3 < 9223372036854775807 := by omega
      have HI2 : Hid (k' + 3 = k + mkQt.cntl (l.take (i + 1))) := Lib.hid (by rw [mkQt.cntl_step hx, HI.out, hcnt]; omega)
      have hlt1 : (i : Int) < n := by omega
      have h0 : w.cell? ⟨b, off + i * 3, none⟩ = some (.int .i64 (k' : Nat)) := hA.head (u := .int .i64 (k' : Nat)) rfl
      have h1 : w.cell? ⟨b, off + i * 3 + 1, none⟩ = some (.int .i64 (k' + 1 : Nat)) := hA 1 _ rfl
      have h2 : w.cell? ⟨b, off + i * 3 + 2, none⟩ = some (.int .i64 (k' + 2 : Nat)) := hA 2 _ rfl
      clear hx hv2 hk1 hk2 hk4 hcnt HI hA
      go_wp2_with (first | ((first | ((with_reducible apply st_load1 H); decide +kernel; rfl; exact cF) | ((with_reducible apply st_loads H); decide +kernel; rfl; exact iF; exact zF; rfl)); clear H; intro wn H; (try simp only [splice, yG, yH, yI, yJ, yK, yL, yM, yN, yO, yP, yQ, Nat.reduceAdd, yA, yB, yC] at H); simp only [Act.put, yA, yB, yC, yD, yE, yF]) | ((first | ((with_reducible apply st_strsum H); rfl; rfl; exact szF; kernel_rfl) | ((with_reducible apply st_loadat H); decide +kernel; rfl; exact aF; exact zF; rfl)); clear H; intro wn H; simp only [Act.put, yA, yB, yC, yD, yE, yF]) | fail)
      go_roundg (n - (i + 1))
      case measure => omega
      case rel => exact ⟨i + 1, k' + 3, by omega, by go_num, by go_num, HI2, H⟩
    · obtain rfl : i = n := by omega
      have hlt1 : ¬ (i : Int) < i := by omega
      go_wp2_with (first | ((first | ((with_reducible apply st_load1 H); decide +kernel; rfl; exact cF) | ((with_reducible apply st_loads H); decide +kernel; rfl; exact iF; exact zF; rfl)); clear H; intro wn H; (try simp only [splice, yG, yH, yI, yJ, yK, yL, yM, yN, yO, yP, yQ, Nat.reduceAdd, yA, yB, yC] at H); simp only [Act.put, yA, yB, yC, yD, yE, yF]) | ((first | ((with_reducible apply st_strsum H); rfl; rfl; exact szF; kernel_rfl) | ((with_reducible apply st_loadat H); decide +kernel; rfl; exact aF; exact zF; rfl)); clear H; intro wn H; simp only [Act.put, yA, yB, yC, yD, yE, yF]) | fail)
      go_ret
      have h1 := HI.out
      rw [List.take_of_length_le (by rw [← HN.out]; exact Nat.le_refl _)] at h1
      exact ⟨congrArg (fun z : Nat => Ending.returned (.int .i64 z)) (h1.trans HT.out.symm), H.below⟩
set_option maxRecDepth 100000 in
set_option maxHeartbeats 4000000 in
theorem markNoteS_l (v : Value) (l : List Nt) (k : Nat) (hk : k + mkNt.cntl l < 9223372036854775807) : Turn Tryz.prog 127 (Ty.sl 198 tyNt) [v] l (mkNt.mkl k l) #[v, .int .i64 k] (.int .i64 (k + mkNt.cntl l : Nat)) := by
  intro R w0 L w N hO H
  obtain ⟨xs, M, A, c, rfl, hO, hcm, H⟩ := own_open hO H
  obtain rfl : M = [] := flat_noown hO
  unfold maxLen at *
  obtain ⟨n, hn⟩ : ∃ n, n = l.length := ⟨_, rfl⟩
  rw [← hn] at H ⊢
  have hn9 : n ≤ 9223372036854775807 := by obtain ⟨_, _, h1, h2, h3⟩ := (H.rows .here).slice; injection h1; unfold maxLen at h3; omega
  have HN := Lib.hid hn
  have HK := Lib.hid hk
  have HO := Lib.hid hO
  obtain ⟨tot, ht⟩ : ∃ t, t = k + mkNt.cntl l := ⟨_, rfl⟩
  rw [← ht]
  have HT := Lib.hid ht
  clear hn hk hO hcm ht
  go_enter Tryz.func127, Tryz.ntmps127
  go_wp2_with (first | ((first | ((with_reducible apply st_load1 H); decide +kernel; rfl; exact cF) | ((with_reducible apply st_loads H); decide +kernel; rfl; exact iF; exact zF; rfl) | ((with_reducible apply st_store H); rfl; exact eF; (focus (exact cells_agg _)); exact uF; kernel_rfl; (focus (exact Nat.le_of_ble_eq_true (by rfl))); (focus (first | rfl | simp))) | ((with_reducible apply st_storeown H); rfl; exact eF; (focus (exact (rfl : _ = [_]))); exact uF; (focus omega); kernel_rfl; rfl)); clear H; intro wn H; (try simp only [splice, yG, yH, yI, yJ, yK, yL, yM, yN, yO, yP, yQ, Nat.reduceAdd, yA, yB, yC] at H); simp only [Act.put, yA, yB, yC, yD, yE, yF]) | ((first | ((with_reducible apply st_strsum H); rfl; rfl; exact szF; kernel_rfl) | ((with_reducible apply st_storerow H); rfl; exact eF; (first | exact cells_agg _ | exact cellI | exact cellS | exact cellB | exact (rfl : _ = [_])); exact uF; kernel_rfl; exact Nat.succ_pos _; exact fitF; rfl)); clear H; intro wn H; simp only [Act.put, yA, yB, yC, yD, yE, yF]) | fail)
  go_loopg [1, 5] n (fun m kv iv wr => ∃ (i k' : Nat) (pre post : List Value), i + m = n ∧ iv = .int .i64 i ∧ kv = .int .i64 k' ∧ Hid (k' = k + mkNt.cntl (l.take i) ∧ OwnL tyNt pre (mkNt.mkl k (l.take i)) [] ∧ OwnL tyNt post (l.drop i) []) ∧ Hs R w0 (Hl.row 198 2 (.slice A n c) n (pre ++ post) :: Hl.all [] :: L) wr)
  case atStart => exact ⟨0, k, [], xs, by omega, rfl, rfl, Lib.hid ⟨rfl, .nil, HO.out⟩, H⟩
  case round =>
    clear H
    obtain ⟨i, k', pre, post, hi, rfl, rfl, HI, H⟩ := hrel
    by_cases hlt : i < n
    · obtain ⟨x, hx⟩ : ∃ x, l[i]? = some x := ⟨l[i]'(by rw [← HN.out]; exact hlt), List.getElem?_eq_getElem (by rw [← HN.out]; exact hlt)⟩
      obtain ⟨g, c2, hv, _⟩ := (H.rows .here).form (by omega)
      injection hv with hv1 hv2 hv3
      subst hv1 hv3
      have hk1 := mkNt.cnt_at_le hx
      have hk2 := HK.out
      obtain ⟨h1, h2, h3⟩ := HI.out
      obtain ⟨hlt', e⟩ := List.getElem?_eq_some_iff.1 hx
      rw [List.drop_eq_getElem_cons hlt', e] at h3
      obtain ⟨cs, ys, Mi, M3, rfl, hMM, ⟨rfl, rfl⟩, h4⟩ := h3.un
      rw [List.nil_append] at hMM
      subst hMM
      have hpl : pre.length = i * 2 := by rw [h2.len, Mark.mkl_len, List.length_take, Nat.min_eq_left (Nat.le_of_lt hlt')]; rfl
      have hcnt : mkNt.cnt x = 2 := rfl
      have hyl : ys.length + 2 + i * 2 = n * 2 := by
        have := (H.rows .here).len
        rw [List.length_append, List.length_append, hpl] at this
        have h5 : (encNt x).length = 2 := rfl
        omega
      have hk3 : k' + 2 < 9223372036854775807 := by omega
      have HI2 : Hid (k' + 2 = k + mkNt.cntl (l.take (i + 1)) ∧ OwnL tyNt (pre ++ encNt (mkNt.mak k' x)) (mkNt.mkl k (l.take (i + 1))) [] ∧ OwnL tyNt ys (l.drop (i + 1)) []) :=
        Lib.hid ⟨by rw [mkNt.cntl_step hx, h1, hcnt]; omega, by rw [mkNt.mkl_step hx, ← h1]; exact h2.snoc ⟨rfl, rfl⟩, h4⟩
      have HS : Hid (spl (spl (pre ++ (encNt x ++ ys)) (i * 2) [.int .i64 (k' : Nat)]) (i * 2 + 1) [.int .i64 (k' + 1 : Nat)] = pre ++ encNt (mkNt.mak k' x) ++ ys) := Lib.hid ((spl_2 pre _ ys hpl).trans (List.append_assoc ..).symm)
      have hfit : i * 2 + 2 ≤ (pre ++ (encNt x ++ ys)).length := by rw [List.length_append, List.length_append, hpl]; show i * 2 + 2 ≤ i * 2 + (2 + ys.length); omega

      have hlt1 : (i : Int) < n := by omega
      clear h1 h2 h3 h4 HI hx hk1 hk2 hcnt hyl hpl e hv2 hlt'
      unfold encNt at *
      go_wp2_with (first | ((first | ((with_reducible apply st_load1 H); decide +kernel; rfl; exact cF) | ((with_reducible apply st_loads H); decide +kernel; rfl; exact iF; exact zF; rfl) | ((with_reducible apply st_store H); rfl; exact eF; (focus (exact cells_agg _)); exact uF; kernel_rfl; (focus (exact Nat.le_of_ble_eq_true (by rfl))); (focus (first | rfl | simp))) | ((with_reducible apply st_storeown H); rfl; exact eF; (focus (exact (rfl : _ = [_]))); exact uF; (focus omega); kernel_rfl; rfl)); clear H; intro wn H; (try simp only [splice, yG, yH, yI, yJ, yK, yL, yM, yN, yO, yP, yQ, Nat.reduceAdd, yA, yB, yC] at H); simp only [Act.put, yA, yB, yC, yD, yE, yF]) | ((first | ((with_reducible apply st_strsum H); rfl; rfl; exact szF; kernel_rfl) | ((with_reducible apply st_storerow H); rfl; exact eF; (first | exact cells_agg _ | exact cellI | exact cellS | exact cellB | exact (rfl : _ = [_])); exact uF; kernel_rfl; exact Nat.succ_pos _; exact fitF; rfl)); clear H; intro wn H; simp only [Act.put, yA, yB, yC, yD, yE, yF]) | fail)
      go_roundg (n - (i + 1))
      case measure => omega
      case rel => exact ⟨i + 1, k' + 2, _, ys, by omega, by go_num, by go_num, HI2, by rw [← HS.out]; exact H⟩
    · obtain rfl : i = n := by omega
      have hlt1 : ¬ (i : Int) < i := by omega
      go_wp2_with (first | ((first | ((with_reducible apply st_load1 H); decide +kernel; rfl; exact cF) | ((with_reducible apply st_loads H); decide +kernel; rfl; exact iF; exact zF; rfl) | ((with_reducible apply st_store H); rfl; exact eF; (focus (exact cells_agg _)); exact uF; kernel_rfl; (focus (exact Nat.le_of_ble_eq_true (by rfl))); (focus (first | rfl | simp))) | ((with_reducible apply st_storeown H); rfl; exact eF; (focus (exact (rfl : _ = [_]))); exact uF; (focus omega); kernel_rfl; rfl)); clear H; intro wn H; (try simp only [splice, yG, yH, yI, yJ, yK, yL, yM, yN, yO, yP, yQ, Nat.reduceAdd, yA, yB, yC] at H); simp only [Act.put, yA, yB, yC, yD, yE, yF]) | ((first | ((with_reducible apply st_strsum H); rfl; rfl; exact szF; kernel_rfl) | ((with_reducible apply st_storerow H); rfl; exact eF; (first | exact cells_agg _ | exact cellI | exact cellS | exact cellB | exact (rfl : _ = [_])); exact uF; kernel_rfl; exact Nat.succ_pos _; exact fitF; rfl)); clear H; intro wn H; simp only [Act.put, yA, yB, yC, yD, yE, yF]) | fail)
      go_ret
      obtain ⟨h1, h2, h3⟩ := HI.out
      rw [List.take_of_length_le (by rw [← HN.out]; exact Nat.le_refl _)] at h1 h2
      rw [List.drop_of_length_le (by rw [← HN.out]; exact Nat.le_refl _)] at h3
      obtain ⟨rfl, _⟩ := h3.unNil
      rw [List.append_nil] at H
      exact ⟨congrArg (fun z : Nat => Ending.returned (.int .i64 z)) (h1.trans HT.out.symm), own_close h2 H (by rw [Mark.mkl_len]; exact HN.out)⟩
set_option maxRecDepth 100000 in
set_option maxHeartbeats 4000000 in
theorem heldNoteS_l (v : Value) (l : List Nt) (k : Nat) (hk : k + mkNt.cntl l < 9223372036854775807) (w : World) (hr : (Ty.sl 198 tyNt).rd w [v] (mkNt.mkl k l)) : Gives Tryz.prog 133 #[v, .int .i64 k] w (.int .i64 (k + mkNt.cntl l : Nat)) := by
  obtain ⟨A, c, rfl, hlc, hcm⟩ := sl_form hr
  unfold maxLen at *
  have HR := Lib.hid hr
  have H := Hs.start noRow w
  have hml := mkNt.mkl_len k l
  rw [hml] at hlc HR ⊢
  obtain ⟨n, hn⟩ : ∃ n, n = l.length := ⟨_, rfl⟩
  have hnl : n ≤ 9223372036854775807 := by omega
  rw [← hn] at HR ⊢
  have HN := Lib.hid hn
  have HK := Lib.hid hk
  obtain ⟨tot, ht⟩ : ∃ t, t = k + mkNt.cntl l := ⟨_, rfl⟩
  rw [← ht]
  have HT := Lib.hid ht
  clear hr hn hlc hcm hk hml ht
  unfold Gives
  go_enter Tryz.func133, Tryz.ntmps133
  go_wp2_with (first | ((first | ((with_reducible apply st_load1 H); decide +kernel; rfl; exact cF) | ((with_reducible apply st_loads H); decide +kernel; rfl; exact iF; exact zF; rfl)); clear H; intro wn H; (try simp only [splice, yG, yH, yI, yJ, yK, yL, yM, yN, yO, yP, yQ, Nat.reduceAdd, yA, yB, yC] at H); simp only [Act.put, yA, yB, yC, yD, yE, yF]) | ((first | ((with_reducible apply st_strsum H); rfl; rfl; exact szF; kernel_rfl) | ((with_reducible apply st_loadat H); decide +kernel; rfl; exact aF; exact zF; rfl)); clear H; intro wn H; simp only [Act.put, yA, yB, yC, yD, yE, yF]) | fail)
  go_loopg [1, 5] n (fun m kv iv wr => ∃ (i k' : Nat), i + m = n ∧ iv = .int .i64 i ∧ kv = .int .i64 k' ∧ Hid (k' = k + mkNt.cntl (l.take i)) ∧ Hs noRow w [] wr)
  case atStart => exact ⟨0, k, by omega, rfl, rfl, Lib.hid rfl, H⟩
  case round =>
    clear H
    obtain ⟨i, k', hi, rfl, rfl, HI, H⟩ := hrel
    by_cases hlt : i < n
    · obtain ⟨x, hx⟩ : ∃ x, l[i]? = some x := ⟨l[i]'(by rw [← HN.out]; exact hlt), List.getElem?_eq_getElem (by rw [← HN.out]; exact hlt)⟩
      have hs := sl_at (by have := HR.out; rw [HN.out, ← Mark.mkl_len mkNt k] at this; exact this) (mkNt.mkl_at (k := k) hx)
      rw [Mark.mkl_len, ← HN.out, ← HI.out] at hs
      obtain ⟨b, off, c', cs, hv, hcs, hA⟩ := hs
      injection hv with hv1 hv2 hv3
      subst hv1 hv3
      obtain rfl : cs = encNt (mkNt.mak k' x) := hcs
      have hk1 := mkNt.cnt_at_le hx
      have hk2 := HK.out
      have hk4 := HI.out
      have hcnt : mkNt.cnt x = 2 := rfl
      have hk3 : k' + 2 < 9223372036854775807 := by omega
      have HI2 : Hid (k' + 2 = k + mkNt.cntl (l.take (i + 1))) := Lib.hid (by rw [mkNt.cntl_step hx, HI.out, hcnt]; omega)
      have hlt1 : (i : Int) < n := by omega
      have h0 : w.cell? ⟨b, off + i * 2, none⟩ = some (.int .i64 (k' : Nat)) := hA.head (u := .int .i64 (k' : Nat)) rfl
      have h1 : w.cell? ⟨b, off + i * 2 + 1, none⟩ = some (.int .i64 (k' + 1 : Nat)) := hA 1 _ rfl
      clear hx hv2 hk1 hk2 hk4 hcnt HI hA
      go_wp2_with (first | ((first | ((with_reducible apply st_load1 H); decide +kernel; rfl; exact cF) | ((with_reducible apply st_loads H); decide +kernel; rfl; exact iF; exact zF; rfl)); clear H; intro wn H; (try simp only [splice, yG, yH, yI, yJ, yK, yL, yM, yN, yO, yP, yQ, Nat.reduceAdd, yA, yB, yC] at H); simp only [Act.put, yA, yB, yC, yD, yE, yF]) | ((first | ((with_reducible apply st_strsum H); rfl; rfl; exact szF; kernel_rfl) | ((with_reducible apply st_loadat H); decide +kernel; rfl; exact aF; exact zF; rfl)); clear H; intro wn H; simp only [Act.put, yA, yB, yC, yD, yE, yF]) | fail)
      go_roundg (n - (i + 1))
      case measure => omega
      case rel => exact ⟨i + 1, k' + 2, by omega, by go_num, by go_num, HI2, H⟩
    · obtain rfl : i = n := by omega
      have hlt1 : ¬ (i : Int) < i := by omega
      go_wp2_with (first | ((first | ((with_reducible apply st_load1 H); decide +kernel; rfl; exact cF) | ((with_reducible apply st_loads H); decide +kernel; rfl; exact iF; exact zF; rfl)); clear H; intro wn H; (try simp only [splice, yG, yH, yI, yJ, yK, yL, yM, yN, yO, yP, yQ, Nat.reduceAdd, yA, yB, yC] at H); simp only [Act.put, yA, yB, yC, yD, yE, yF]) | ((first | ((with_reducible apply st_strsum H); rfl; rfl; exact szF; kernel_rfl) | ((with_reducible apply st_loadat H); decide +kernel; rfl; exact aF; exact zF; rfl)); clear H; intro wn H; simp only [Act.put, yA, yB, yC, yD, yE, yF]) | fail)
      go_ret
      have h1 := HI.out
      rw [List.take_of_length_le (by rw [← HN.out]; exact Nat.le_refl _)] at h1
      exact ⟨congrArg (fun z : Nat => Ending.returned (.int .i64 z)) (h1.trans HT.out.symm), H.below⟩
set_option maxRecDepth 100000 in
set_option maxHeartbeats 4000000 in
theorem markInt64S_l (v : Value) (l : List Int) (k : Nat) (hk : k + mkNum.cntl l < 9223372036854775807) : Turn Tryz.prog 126 (Ty.sl 2 tyNum) [v] l (mkNum.mkl k l) #[v, .int .i64 k] (.int .i64 (k + mkNum.cntl l : Nat)) := by
  intro R w0 L w N hO H
  obtain ⟨xs, M, A, c, rfl, hO, hcm, H⟩ := own_open hO H
  obtain rfl : M = [] := flat_noown hO
  unfold maxLen at *
  obtain ⟨n, hn⟩ : ∃ n, n = l.length := ⟨_, rfl⟩
  rw [← hn] at H ⊢
  have hn9 : n ≤ 9223372036854775807 := by obtain ⟨_, _, h1, h2, h3⟩ := (H.rows .here).slice; injection h1; unfold maxLen at h3; omega
  have HN := Lib.hid hn
  have HK := Lib.hid hk
  have HO := Lib.hid hO
  obtain ⟨tot, ht⟩ : ∃ t, t = k + mkNum.cntl l := ⟨_, rfl⟩
  rw [← ht]
  have HT := Lib.hid ht
  clear hn hk hO hcm ht
  go_enter Tryz.func126, Tryz.ntmps126
  go_wp2_with (first | ((first | ((with_reducible apply st_load1 H); decide +kernel; rfl; exact cF) | ((with_reducible apply st_loads H); decide +kernel; rfl; exact iF; exact zF; rfl) | ((with_reducible apply st_store H); rfl; exact eF; (focus (exact cells_agg _)); exact uF; kernel_rfl; (focus (exact Nat.le_of_ble_eq_true (by rfl))); (focus (first | rfl | simp))) | ((with_reducible apply st_storeown H); rfl; exact eF; (focus (exact (rfl : _ = [_]))); exact uF; (focus omega); kernel_rfl; rfl)); clear H; intro wn H; (try simp only [splice, yG, yH, yI, yJ, yK, yL, yM, yN, yO, yP, yQ, Nat.reduceAdd, yA, yB, yC] at H); simp only [Act.put, yA, yB, yC, yD, yE, yF]) | ((first | ((with_reducible apply st_strsum H); rfl; rfl; exact szF; kernel_rfl) | ((with_reducible apply st_storerow H); rfl; exact eF; (first | exact cells_agg _ | exact cellI | exact cellS | exact cellB | exact (rfl : _ = [_])); exact uF; kernel_rfl; exact Nat.succ_pos _; exact fitF; rfl)); clear H; intro wn H; simp only [Act.put, yA, yB, yC, yD, yE, yF]) | fail)
  go_loopg [1, 5] n (fun m kv iv wr => ∃ (i k' : Nat) (pre post : List Value), i + m = n ∧ iv = .int .i64 i ∧ kv = .int .i64 k' ∧ Hid (k' = k + mkNum.cntl (l.take i) ∧ OwnL tyNum pre (mkNum.mkl k (l.take i)) [] ∧ OwnL tyNum post (l.drop i) []) ∧ Hs R w0 (Hl.row 2 1 (.slice A n c) n (pre ++ post) :: Hl.all [] :: L) wr)
  case atStart => exact ⟨0, k, [], xs, by omega, rfl, rfl, Lib.hid ⟨rfl, .nil, HO.out⟩, H⟩
  case round =>
    clear H
    obtain ⟨i, k', pre, post, hi, rfl, rfl, HI, H⟩ := hrel
    by_cases hlt : i < n
    · obtain ⟨x, hx⟩ : ∃ x, l[i]? = some x := ⟨l[i]'(by rw [← HN.out]; exact hlt), List.getElem?_eq_getElem (by rw [← HN.out]; exact hlt)⟩
      obtain ⟨g, c2, hv, _⟩ := (H.rows .here).form (by omega)
      injection hv with hv1 hv2 hv3
      subst hv1 hv3
      have hk1 := mkNum.cnt_at_le hx
      have hk2 := HK.out
      obtain ⟨h1, h2, h3⟩ := HI.out
      obtain ⟨hlt', e⟩ := List.getElem?_eq_some_iff.1 hx
      rw [List.drop_eq_getElem_cons hlt', e] at h3
      obtain ⟨cs, ys, Mi, M3, rfl, hMM, ⟨rfl, rfl⟩, h4⟩ := h3.un
      rw [List.nil_append] at hMM
      subst hMM
      have hpl : pre.length = i * 1 := by rw [h2.len, Mark.mkl_len, List.length_take, Nat.min_eq_left (Nat.le_of_lt hlt')]; rfl
      have hcnt : mkNum.cnt x = 1 := rfl
      have hyl : ys.length + 1 + i * 1 = n * 1 := by
        have := (H.rows .here).len
        rw [List.length_append, List.length_append, hpl] at this
        have h5 : (encNum x).length = 1 := rfl
        omega
      have hk3 : k' + 1 < 9223372036854775807 := by omega
      have HI2 : Hid (k' + 1 = k + mkNum.cntl (l.take (i + 1)) ∧ OwnL tyNum (pre ++ encNum (mkNum.mak k' x)) (mkNum.mkl k (l.take (i + 1))) [] ∧ OwnL tyNum ys (l.drop (i + 1)) []) :=
        Lib.hid ⟨by rw [mkNum.cntl_step hx, h1, hcnt]; omega, by rw [mkNum.mkl_step hx, ← h1]; exact h2.snoc ⟨rfl, rfl⟩, h4⟩
      have HS : Hid (spl (pre ++ (encNum x ++ ys)) (i) [.int .i64 (k' : Nat)] = pre ++ encNum (mkNum.mak k' x) ++ ys) := Lib.hid ((spl_1 pre _ ys (hpl.trans (Nat.mul_one i))).trans (List.append_assoc ..).symm)
      have hfit : i + 1 ≤ (pre ++ (encNum x ++ ys)).length := by rw [List.length_append, List.length_append, hpl]; show i + 1 ≤ i * 1 + (1 + ys.length); omega

      have hlt1 : (i : Int) < n := by omega
      clear h1 h2 h3 h4 HI hx hk1 hk2 hcnt hyl hpl e hv2 hlt'
      unfold encNum at *
      go_wp2_with (first | ((first | ((with_reducible apply st_load1 H); decide +kernel; rfl; exact cF) | ((with_reducible apply st_loads H); decide +kernel; rfl; exact iF; exact zF; rfl) | ((with_reducible apply st_store H); rfl; exact eF; (focus (exact cells_agg _)); exact uF; kernel_rfl; (focus (exact Nat.le_of_ble_eq_true (by rfl))); (focus (first | rfl | simp))) | ((with_reducible apply st_storeown H); rfl; exact eF; (focus (exact (rfl : _ = [_]))); exact uF; (focus omega); kernel_rfl; rfl)); clear H; intro wn H; (try simp only [splice, yG, yH, yI, yJ, yK, yL, yM, yN, yO, yP, yQ, Nat.reduceAdd, yA, yB, yC] at H); simp only [Act.put, yA, yB, yC, yD, yE, yF]) | ((first | ((with_reducible apply st_strsum H); rfl; rfl; exact szF; kernel_rfl) | ((with_reducible apply st_storerow H); rfl; exact eF; (first | exact cells_agg _ | exact cellI | exact cellS | exact cellB | exact (rfl : _ = [_])); exact uF; kernel_rfl; exact Nat.succ_pos _; exact fitF; rfl)); clear H; intro wn H; simp only [Act.put, yA, yB, yC, yD, yE, yF]) | fail)
      go_roundg (n - (i + 1))
      case measure => omega
      case rel => exact ⟨i + 1, k' + 1, _, ys, by omega, by go_num, by go_num, HI2, by rw [← HS.out]; exact H⟩
    · obtain rfl : i = n := by omega
      have hlt1 : ¬ (i : Int) < i := by omega
      go_wp2_with (first | ((first | ((with_reducible apply st_load1 H); decide +kernel; rfl; exact cF) | ((with_reducible apply st_loads H); decide +kernel; rfl; exact iF; exact zF; rfl) | ((with_reducible apply st_store H); rfl; exact eF; (focus (exact cells_agg _)); exact uF; kernel_rfl; (focus (exact Nat.le_of_ble_eq_true (by rfl))); (focus (first | rfl | simp))) | ((with_reducible apply st_storeown H); rfl; exact eF; (focus (exact (rfl : _ = [_]))); exact uF; (focus omega); kernel_rfl; rfl)); clear H; intro wn H; (try simp only [splice, yG, yH, yI, yJ, yK, yL, yM, yN, yO, yP, yQ, Nat.reduceAdd, yA, yB, yC] at H); simp only [Act.put, yA, yB, yC, yD, yE, yF]) | ((first | ((with_reducible apply st_strsum H); rfl; rfl; exact szF; kernel_rfl) | ((with_reducible apply st_storerow H); rfl; exact eF; (first | exact cells_agg _ | exact cellI | exact cellS | exact cellB | exact (rfl : _ = [_])); exact uF; kernel_rfl; exact Nat.succ_pos _; exact fitF; rfl)); clear H; intro wn H; simp only [Act.put, yA, yB, yC, yD, yE, yF]) | fail)
      go_ret
      obtain ⟨h1, h2, h3⟩ := HI.out
      rw [List.take_of_length_le (by rw [← HN.out]; exact Nat.le_refl _)] at h1 h2
      rw [List.drop_of_length_le (by rw [← HN.out]; exact Nat.le_refl _)] at h3
      obtain ⟨rfl, _⟩ := h3.unNil
      rw [List.append_nil] at H
      exact ⟨congrArg (fun z : Nat => Ending.returned (.int .i64 z)) (h1.trans HT.out.symm), own_close h2 H (by rw [Mark.mkl_len]; exact HN.out)⟩
set_option maxRecDepth 100000 in
set_option maxHeartbeats 4000000 in
theorem heldInt64S_l (v : Value) (l : List Int) (k : Nat) (hk : k + mkNum.cntl l < 9223372036854775807) (w : World) (hr : (Ty.sl 2 tyNum).rd w [v] (mkNum.mkl k l)) : Gives Tryz.prog 132 #[v, .int .i64 k] w (.int .i64 (k + mkNum.cntl l : Nat)) := by
  obtain ⟨A, c, rfl, hlc, hcm⟩ := sl_form hr
  unfold maxLen at *
  have HR := Lib.hid hr
  have H := Hs.start noRow w
  have hml := mkNum.mkl_len k l
  rw [hml] at hlc HR ⊢
  obtain ⟨n, hn⟩ : ∃ n, n = l.length := ⟨_, rfl⟩
  have hnl : n ≤ 9223372036854775807 := by omega
  rw [← hn] at HR ⊢
  have HN := Lib.hid hn
  have HK := Lib.hid hk
  obtain ⟨tot, ht⟩ : ∃ t, t = k + mkNum.cntl l := ⟨_, rfl⟩
  rw [← ht]
  have HT := Lib.hid ht
  clear hr hn hlc hcm hk hml ht
  unfold Gives
  go_enter Tryz.func132, Tryz.ntmps132
  go_wp2_with (first | ((first | ((with_reducible apply st_load1 H); decide +kernel; rfl; exact cF) | ((with_reducible apply st_loads H); decide +kernel; rfl; exact iF; exact zF; rfl)); clear H; intro wn H; (try simp only [splice, yG, yH, yI, yJ, yK, yL, yM, yN, yO, yP, yQ, Nat.reduceAdd, yA, yB, yC] at H); simp only [Act.put, yA, yB, yC, yD, yE, yF]) | ((first | ((with_reducible apply st_strsum H); rfl; rfl; exact szF; kernel_rfl) | ((with_reducible apply st_loadat H); decide +kernel; rfl; exact aF; exact zF; rfl)); clear H; intro wn H; simp only [Act.put, yA, yB, yC, yD, yE, yF]) | fail)
  go_loopg [1, 5] n (fun m kv iv wr => ∃ (i k' : Nat), i + m = n ∧ iv = .int .i64 i ∧ kv = .int .i64 k' ∧ Hid (k' = k + mkNum.cntl (l.take i)) ∧ Hs noRow w [] wr)
  case atStart => exact ⟨0, k, by omega, rfl, rfl, Lib.hid rfl, H⟩
  case round =>
    clear H
    obtain ⟨i, k', hi, rfl, rfl, HI, H⟩ := hrel
    by_cases hlt : i < n
    · obtain ⟨x, hx⟩ : ∃ x, l[i]? = some x := ⟨l[i]'(by rw [← HN.out]; exact hlt), List.getElem?_eq_getElem (by rw [← HN.out]; exact hlt)⟩
      have hs := sl_at (by have := HR.out; rw [HN.out, ← Mark.mkl_len mkNum k] at this; exact this) (mkNum.mkl_at (k := k) hx)
      rw [Mark.mkl_len, ← HN.out, ← HI.out] at hs
      obtain ⟨b, off, c', cs, hv, hcs, hA⟩ := hs
      injection hv with hv1 hv2 hv3
      subst hv1 hv3
      obtain rfl : cs = encNum (mkNum.mak k' x) := hcs
      have hk1 := mkNum.cnt_at_le hx
      have hk2 := HK.out
      have hk4 := HI.out
      have hcnt : mkNum.cnt x = 1 := rfl
      have hk3 : k' + 1 < 9223372036854775807 := by omega
      have HI2 : Hid (k' + 1 = k + mkNum.cntl (l.take (i + 1))) := Lib.hid (by rw [mkNum.cntl_step hx, HI.out, hcnt]; omega)
      have hlt1 : (i : Int) < n := by omega
      have h0 : w.cell? ⟨b, off + i, none⟩ = some (.int .i64 (k' : Nat)) := by have h := hA.head (u := .int .i64 (k' : Nat)) rfl; rw [show i * tyNum.s = i from Nat.mul_one i] at h; exact h
      clear hx hv2 hk1 hk2 hk4 hcnt HI hA
      go_wp2_with (first | ((first | ((with_reducible apply st_load1 H); decide +kernel; rfl; exact cF) | ((with_reducible apply st_loads H); decide +kernel; rfl; exact iF; exact zF; rfl)); clear H; intro wn H; (try simp only [splice, yG, yH, yI, yJ, yK, yL, yM, yN, yO, yP, yQ, Nat.reduceAdd, yA, yB, yC] at H); simp only [Act.put, yA, yB, yC, yD, yE, yF]) | ((first | ((with_reducible apply st_strsum H); rfl; rfl; exact szF; kernel_rfl) | ((with_reducible apply st_loadat H); decide +kernel; rfl; exact aF; exact zF; rfl)); clear H; intro wn H; simp only [Act.put, yA, yB, yC, yD, yE, yF]) | fail)
      go_roundg (n - (i + 1))
      case measure => omega
      case rel => exact ⟨i + 1, k' + 1, by omega, by go_num, by go_num, HI2, H⟩
    · obtain rfl : i = n := by omega
      have hlt1 : ¬ (i : Int) < i := by omega
      go_wp2_with (first | ((first | ((with_reducible apply st_load1 H); decide +kernel; rfl; exact cF) | ((with_reducible apply st_loads H); decide +kernel; rfl; exact iF; exact zF; rfl)); clear H; intro wn H; (try simp only [splice, yG, yH, yI, yJ, yK, yL, yM, yN, yO, yP, yQ, Nat.reduceAdd, yA, yB, yC] at H); simp only [Act.put, yA, yB, yC, yD, yE, yF]) | ((first | ((with_reducible apply st_strsum H); rfl; rfl; exact szF; kernel_rfl) | ((with_reducible apply st_loadat H); decide +kernel; rfl; exact aF; exact zF; rfl)); clear H; intro wn H; simp only [Act.put, yA, yB, yC, yD, yE, yF]) | fail)
      go_ret
      have h1 := HI.out
      rw [List.take_of_length_le (by rw [← HN.out]; exact Nat.le_refl _)] at h1
      exact ⟨congrArg (fun z : Nat => Ending.returned (.int .i64 z)) (h1.trans HT.out.symm), H.below⟩
end Go.Proofs.YtjklmldchbakjaaGreat
