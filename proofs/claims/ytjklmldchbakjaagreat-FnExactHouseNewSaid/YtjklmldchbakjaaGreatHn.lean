/-
  Rows of rows, configurations, boxes, mail: marked, and the marks read: the walks.
-/
import Derived.Test.YtjklmldchbakjaaGreatHm
import Derived.Test.YtjklmldchbakjaaGreatHf
set_option linter.unusedSimpArgs false
set_option linter.unusedVariables false
namespace Go.Proofs.YtjklmldchbakjaaGreat
open Go.RowKit M
set_option maxRecDepth 100000 in
set_option maxHeartbeats 4000000 in
theorem markLabelSS_l (v : Value) (l : List (List Lab)) (k : Nat) (hk : k + mkLab.list.cntl l < 9223372036854775807) : Turn Tryz.prog 34 (Ty.sl 93 (Ty.sl 96 tyLab)) [v] l (mkLab.list.mkl k l) #[v, .int .i64 k] (.int .i64 (k + mkLab.list.cntl l : Nat)) := by
  intro R w0 L w N hO H
  obtain ⟨xs, M, A, c, rfl, hO, hcm, H⟩ := own_open hO H
  unfold maxLen at *
  obtain ⟨n, hn⟩ : ∃ n, n = l.length := ⟨_, rfl⟩
  rw [← hn] at H ⊢
  have hn9 : n ≤ 9223372036854775807 := by obtain ⟨_, _, h1, h2, h3⟩ := (H.rows .here).slice; injection h1; unfold maxLen at h3; omega
  have HN := Lib.hid hn
  have HK := Lib.hid hk
  have HO := Lib.hid hO
  obtain ⟨tot, ht⟩ : ∃ t, t = k + mkLab.list.cntl l := ⟨_, rfl⟩
  rw [← ht]
  have HT := Lib.hid ht
  have H2 : Hs R w0 (Hl.row 93 1 (.slice A n c) n xs :: Hl.all [] :: Hl.all M :: L) w := H.allNil.reperm (List.Perm.swap ..)
  clear H
  have H := H2
  clear H2
  clear hn hk hO hcm ht
  go_enter Tryz.func34, Tryz.ntmps34
  go_wp2_with (first | ((first | ((with_reducible apply st_load1 H); decide +kernel; rfl; exact cF) | ((with_reducible apply st_loads H); decide +kernel; rfl; exact iF; exact zF; rfl)); clear H; intro wn H; (try simp only [splice, yG, yH, yI, yJ, yK, yL, yM, yN, yO, yP, yQ, Nat.reduceAdd, yA, yB, yC] at H); simp only [Act.put, yA, yB, yC, yD, yE, yF]) | ((first | ((with_reducible apply st_strsum H); rfl; rfl; exact szF; kernel_rfl) | ((with_reducible apply st_loadat H); decide +kernel; rfl; exact aF; exact zF; rfl)); clear H; intro wn H; simp only [Act.put, yA, yB, yC, yD, yE, yF]) | ((with_reducible apply st_load1 H); decide +kernel; rfl; (focus exact (At.row H iF (by assumption)).head rfl); clear H; intro wn H; simp only [Act.put, yA, yB, yC, yD, yE, yF]) | fail)
  go_loopg [1, 5] n (fun m kv iv wr => ∃ (i k' : Nat) (pre post : List Value) (N1 N2 : List Hl), i + m = n ∧ iv = .int .i64 i ∧ kv = .int .i64 k' ∧ Hid (k' = k + mkLab.list.cntl (l.take i) ∧ OwnL (Ty.sl 96 tyLab) pre (mkLab.list.mkl k (l.take i)) N1 ∧ OwnL (Ty.sl 96 tyLab) post (l.drop i) N2) ∧ Hs R w0 (Hl.row 93 1 (.slice A n c) n (pre ++ post) :: Hl.all N1 :: Hl.all N2 :: L) wr)
  case atStart => exact ⟨0, k, [], xs, [], M, by omega, rfl, rfl, Lib.hid ⟨rfl, .nil, HO.out⟩, H⟩
  case round =>
    clear H
    obtain ⟨i, k', pre, post, N1, N2, hi, rfl, rfl, HI, H⟩ := hrel
    by_cases hlt : i < n
    · obtain ⟨x, hx⟩ : ∃ x, l[i]? = some x := ⟨l[i]'(by rw [← HN.out]; exact hlt), List.getElem?_eq_getElem (by rw [← HN.out]; exact hlt)⟩
      obtain ⟨g, c2, hv, _⟩ := (H.rows .here).form (by omega)
      injection hv with hv1 hv2 hv3
      subst hv1 hv3
      have hk1 := mkLab.list.cnt_at_le hx
      have hk2 := HK.out
      obtain ⟨h1, h2, h3⟩ := HI.out
      obtain ⟨hlt', e⟩ := List.getElem?_eq_some_iff.1 hx
      rw [List.drop_eq_getElem_cons hlt', e] at h3
      obtain ⟨cs, ys, Mi, M3, rfl, rfl, hcs, h4⟩ := h3.un
      obtain ⟨u, hu⟩ : ∃ u, cs = [u] := by obtain ⟨u, _, _, rfl, _⟩ := hcs; exact ⟨u, rfl⟩
      subst hu
      have hpl : pre.length = i := by rw [h2.len, Mark.mkl_len, List.length_take, Nat.min_eq_left (Nat.le_of_lt hlt')]; exact Nat.mul_one i
      have hseg : Seg (pre ++ ([u] ++ ys)) i [u] := seg_mid pre [u] ys hpl
      have hk3 : k' + mkLab.cntl x < 9223372036854775807 := by have : mkLab.list.cnt x = mkLab.cntl x := rfl; omega
      have HI2 : Hid (k' + mkLab.cntl x = k + mkLab.list.cntl (l.take (i + 1))) := Lib.hid (by rw [mkLab.list.cntl_step hx, h1]; show _ = k + (_ + mkLab.cntl x); omega)
      have HI3 : Hid (∀ Mj, (Ty.sl 96 tyLab).own [u] (mkLab.mkl k' x) Mj → OwnL (Ty.sl 96 tyLab) (pre ++ [u]) (mkLab.list.mkl k (l.take (i + 1))) (N1 ++ Mj)) := Lib.hid (fun Mj hj => by rw [mkLab.list.mkl_step hx, ← h1]; exact h2.snoc hj)
      have HI4 := Lib.hid h4
      have HCS := Lib.hid hcs
      have hlt1 : (i : Int) < n := by omega
      clear h1 h2 h3 h4 HI hx hk1 hk2 hpl e hv2 hlt' hcs
      go_wp2_with (first | ((first | ((with_reducible apply st_load1 H); decide +kernel; rfl; exact cF) | ((with_reducible apply st_loads H); decide +kernel; rfl; exact iF; exact zF; rfl)); clear H; intro wn H; (try simp only [splice, yG, yH, yI, yJ, yK, yL, yM, yN, yO, yP, yQ, Nat.reduceAdd, yA, yB, yC] at H); simp only [Act.put, yA, yB, yC, yD, yE, yF]) | ((first | ((with_reducible apply st_strsum H); rfl; rfl; exact szF; kernel_rfl) | ((with_reducible apply st_loadat H); decide +kernel; rfl; exact aF; exact zF; rfl)); clear H; intro wn H; simp only [Act.put, yA, yB, yC, yD, yE, yF]) | ((with_reducible apply st_load1 H); decide +kernel; rfl; (focus exact (At.row H iF (by assumption)).head rfl); clear H; intro wn H; simp only [Act.put, yA, yB, yC, yD, yE, yF]) | fail)
      refine (markLabelS_l u x k' hk3 _ _ _ _ _ HCS.out H.take2).mono ?_
      rintro e wn ⟨rfl, Mj, hj, Hn⟩
      clear H
      have H := Hn.give2
      clear Hn
      have HI5 := Lib.hid (HI3.out Mj hj)
      clear hj
      go_wp2_with (first | ((first | ((with_reducible apply st_load1 H); decide +kernel; rfl; exact cF) | ((with_reducible apply st_loads H); decide +kernel; rfl; exact iF; exact zF; rfl)); clear H; intro wn H; (try simp only [splice, yG, yH, yI, yJ, yK, yL, yM, yN, yO, yP, yQ, Nat.reduceAdd, yA, yB, yC] at H); simp only [Act.put, yA, yB, yC, yD, yE, yF]) | ((first | ((with_reducible apply st_strsum H); rfl; rfl; exact szF; kernel_rfl) | ((with_reducible apply st_loadat H); decide +kernel; rfl; exact aF; exact zF; rfl)); clear H; intro wn H; simp only [Act.put, yA, yB, yC, yD, yE, yF]) | ((with_reducible apply st_load1 H); decide +kernel; rfl; (focus exact (At.row H iF (by assumption)).head rfl); clear H; intro wn H; simp only [Act.put, yA, yB, yC, yD, yE, yF]) | fail)
      go_roundg (n - (i + 1))
      case measure => omega
      case rel => exact ⟨i + 1, k' + mkLab.cntl x, pre ++ [u], ys, N1 ++ Mj, M3, by omega, by go_num, by go_num, Lib.hid ⟨HI2.out, HI5.out, HI4.out⟩, by rw [List.append_assoc]; exact H⟩
    · obtain rfl : i = n := by omega
      have hlt1 : ¬ (i : Int) < i := by omega
      go_wp2_with (first | ((first | ((with_reducible apply st_load1 H); decide +kernel; rfl; exact cF) | ((with_reducible apply st_loads H); decide +kernel; rfl; exact iF; exact zF; rfl)); clear H; intro wn H; (try simp only [splice, yG, yH, yI, yJ, yK, yL, yM, yN, yO, yP, yQ, Nat.reduceAdd, yA, yB, yC] at H); simp only [Act.put, yA, yB, yC, yD, yE, yF]) | ((first | ((with_reducible apply st_strsum H); rfl; rfl; exact szF; kernel_rfl) | ((with_reducible apply st_loadat H); decide +kernel; rfl; exact aF; exact zF; rfl)); clear H; intro wn H; simp only [Act.put, yA, yB, yC, yD, yE, yF]) | ((with_reducible apply st_load1 H); decide +kernel; rfl; (focus exact (At.row H iF (by assumption)).head rfl); clear H; intro wn H; simp only [Act.put, yA, yB, yC, yD, yE, yF]) | fail)
      go_ret
      obtain ⟨h1, h2, h3⟩ := HI.out
      rw [List.take_of_length_le (by rw [← HN.out]; exact Nat.le_refl _)] at h1 h2
      rw [List.drop_of_length_le (by rw [← HN.out]; exact Nat.le_refl _)] at h3
      obtain ⟨rfl, rfl⟩ := h3.unNil
      rw [List.append_nil] at H
      have H2 := own_close h2 H (by rw [Mark.mkl_len]; exact HN.out)
      obtain ⟨N, hN, H3⟩ := H2
      exact ⟨congrArg (fun z : Nat => Ending.returned (.int .i64 z)) (h1.trans HT.out.symm), N, hN, H3.sub (List.Sublist.cons_cons _ (List.sublist_cons_self _ _))⟩
set_option maxRecDepth 100000 in
set_option maxHeartbeats 4000000 in
theorem markConfig_l (c : Cfg) (cs : List Value) (k : Nat) (hk : k + mkCfg.cnt c < 9223372036854775807) : Turn Tryz.prog 11 tyCfg cs c (mkCfg.mak k c) #[.agg cs.toArray, .int .i64 k] (.int .i64 (k + mkCfg.cnt c : Nat)) := by
  intro R w0 L w N hO H
  obtain ⟨x1, y1, M1, N1, rfl, rfl, h1, x2, y2, M2, N2, rfl, rfl, h2, x3, y3, M3, N3, rfl, rfl, h3, h4, h5⟩ := hO
  obtain ⟨v1, hv1⟩ : ∃ v, x1 = [v] := by obtain ⟨v, _, _, rfl, _⟩ := h1; exact ⟨v, rfl⟩
  obtain ⟨v2, hv2⟩ : ∃ v, x2 = [v] := by obtain ⟨v, _, _, rfl, _⟩ := h2; exact ⟨v, rfl⟩
  obtain ⟨v3, hv3⟩ : ∃ v, x3 = [v] := by obtain ⟨v, _, _, rfl, _⟩ := h3; exact ⟨v, rfl⟩
  subst hv1 hv2 hv3 h4 h5
  obtain ⟨l, pr, qt, hf⟩ := c
  simp only at h1 h2 h3
  show Calls Tryz.prog _ #[.agg #[v1, v2, v3, .int .i64 hf], _] w _
  have hk1 : k + mkLab.list.cntl l + mkPr.cntl pr + mkQt.cntl qt < 9223372036854775807 := by
    have : k + (mkLab.list.cntl l + (mkPr.cntl pr + (mkQt.cntl qt + 0))) < 9223372036854775807 := hk
    omega
  have c1 := markLabelSS_l v1 l k (by omega)
  have c2 := markPairS_l v2 pr (k + mkLab.list.cntl l) (by omega)
  have c3 := markQuotaS_l v3 qt (k + mkLab.list.cntl l + mkPr.cntl pr) (by omega)
  have hr : (k + mkCfg.cnt (l, pr, qt, hf) : Nat) = k + mkLab.list.cntl l + mkPr.cntl pr + mkQt.cntl qt := by
    show k + (mkLab.list.cntl l + (mkPr.cntl pr + (mkQt.cntl qt + 0))) = _
    omega
  rw [hr]
  have hd : mkCfg.mak k (l, pr, qt, hf) = (mkLab.list.mkl k l, mkPr.mkl (k + mkLab.list.cntl l) pr, mkQt.mkl (k + mkLab.list.cntl l + mkPr.cntl pr) qt, hf) := rfl
  rw [hd]
  clear hk hr hd hk1
  generalize mkLab.list.mkl k l = l' at *
  generalize mkPr.mkl (k + mkLab.list.cntl l) pr = pr' at *
  generalize mkQt.mkl (k + mkLab.list.cntl l + mkPr.cntl pr) qt = qt' at *
  generalize k + mkLab.list.cntl l + mkPr.cntl pr + mkQt.cntl qt = k3 at *
  generalize k + mkLab.list.cntl l + mkPr.cntl pr = k2 at *
  generalize k + mkLab.list.cntl l = k1 at *
  have HH1 := Lib.hid h1
  have HH2 := Lib.hid h2
  have HH3 := Lib.hid h3
  clear h1 h2 h3
  have Hp := H.part3
  clear H
  have H := Hp
  clear Hp
  go_enter Tryz.func11, Tryz.ntmps11
  go_wp2_with (first | ((first | ((with_reducible apply st_load1 H); decide +kernel; rfl; exact cF) | ((with_reducible apply st_loads H); decide +kernel; rfl; exact iF; exact zF; rfl)); clear H; intro wn H; (try simp only [splice, yG, yH, yI, yJ, yK, yL, yM, yN, yO, yP, yQ, Nat.reduceAdd, yA, yB, yC] at H); simp only [Act.put, yA, yB, yC, yD, yE, yF]) | ((first | ((with_reducible apply st_box (dst := some 2) H); exact nF; intro b2) | ((with_reducible apply st_loadat H); decide +kernel; rfl; exact aF; exact zF; rfl)); clear H; intro wn H; simp only [Act.put, yA, yB, yC, yD, yE, yF]) | ((with_reducible apply st_load1 H); decide +kernel; rfl; (focus exact (At.row H iF (by assumption)).head rfl); clear H; intro wn H; simp only [Act.put, yA, yB, yC, yD, yE, yF]) | fail)
  refine (c1 _ _ _ _ _ HH1.out H.up1).mono ?_
  rintro e wn ⟨rfl, J1, j1, Hn⟩
  clear H
  have H := Hn
  clear Hn
  go_wp2_with (first | ((first | ((with_reducible apply st_load1 H); decide +kernel; rfl; exact cF) | ((with_reducible apply st_loads H); decide +kernel; rfl; exact iF; exact zF; rfl)); clear H; intro wn H; (try simp only [splice, yG, yH, yI, yJ, yK, yL, yM, yN, yO, yP, yQ, Nat.reduceAdd, yA, yB, yC] at H); simp only [Act.put, yA, yB, yC, yD, yE, yF]) | ((first | ((with_reducible apply st_box (dst := some 2) H); exact nF; intro b2) | ((with_reducible apply st_loadat H); decide +kernel; rfl; exact aF; exact zF; rfl)); clear H; intro wn H; simp only [Act.put, yA, yB, yC, yD, yE, yF]) | ((with_reducible apply st_load1 H); decide +kernel; rfl; (focus exact (At.row H iF (by assumption)).head rfl); clear H; intro wn H; simp only [Act.put, yA, yB, yC, yD, yE, yF]) | fail)
  refine (c2 _ _ _ _ _ HH2.out H.up2).mono ?_
  rintro e wn ⟨rfl, J2, j2, Hn⟩
  clear H
  have H := Hn
  clear Hn
  go_wp2_with (first | ((first | ((with_reducible apply st_load1 H); decide +kernel; rfl; exact cF) | ((with_reducible apply st_loads H); decide +kernel; rfl; exact iF; exact zF; rfl)); clear H; intro wn H; (try simp only [splice, yG, yH, yI, yJ, yK, yL, yM, yN, yO, yP, yQ, Nat.reduceAdd, yA, yB, yC] at H); simp only [Act.put, yA, yB, yC, yD, yE, yF]) | ((first | ((with_reducible apply st_box (dst := some 2) H); exact nF; intro b2) | ((with_reducible apply st_loadat H); decide +kernel; rfl; exact aF; exact zF; rfl)); clear H; intro wn H; simp only [Act.put, yA, yB, yC, yD, yE, yF]) | ((with_reducible apply st_load1 H); decide +kernel; rfl; (focus exact (At.row H iF (by assumption)).head rfl); clear H; intro wn H; simp only [Act.put, yA, yB, yC, yD, yE, yF]) | fail)
  refine (c3 _ _ _ _ _ HH3.out H.up3).mono ?_
  rintro e wn ⟨rfl, J3, j3, Hn⟩
  clear H
  have H := Hn
  clear Hn
  go_wp2_with (first | ((first | ((with_reducible apply st_load1 H); decide +kernel; rfl; exact cF) | ((with_reducible apply st_loads H); decide +kernel; rfl; exact iF; exact zF; rfl)); clear H; intro wn H; (try simp only [splice, yG, yH, yI, yJ, yK, yL, yM, yN, yO, yP, yQ, Nat.reduceAdd, yA, yB, yC] at H); simp only [Act.put, yA, yB, yC, yD, yE, yF]) | ((first | ((with_reducible apply st_box (dst := some 2) H); exact nF; intro b2) | ((with_reducible apply st_loadat H); decide +kernel; rfl; exact aF; exact zF; rfl)); clear H; intro wn H; simp only [Act.put, yA, yB, yC, yD, yE, yF]) | ((with_reducible apply st_load1 H); decide +kernel; rfl; (focus exact (At.row H iF (by assumption)).head rfl); clear H; intro wn H; simp only [Act.put, yA, yB, yC, yD, yE, yF]) | fail)
  go_ret
  have H2 := H.up2.up2.up1.up3.off1
  rw [← List.append_nil J3] at H2
  exact ⟨rfl, _, ⟨[v1], [v2, v3, .int .i64 hf], _, _, rfl, rfl, j1, [v2], [v3, .int .i64 hf], _, _, rfl, rfl, j2, [v3], [.int .i64 hf], _, _, rfl, rfl, j3, rfl, rfl⟩, H2.join3⟩
set_option maxRecDepth 100000 in
set_option maxHeartbeats 4000000 in
theorem markBoxS_l (v : Value) (l : List Bo) (k : Nat) (hk : k + mkBo.cntl l < 9223372036854775807) : Turn Tryz.prog 94 (Ty.sl 167 tyBo) [v] l (mkBo.mkl k l) #[v, .int .i64 k] (.int .i64 (k + mkBo.cntl l : Nat)) := by
  intro R w0 L w N hO H
  obtain ⟨xs, M, A, c, rfl, hO, hcm, H⟩ := own_open hO H
  unfold maxLen at *
  obtain ⟨n, hn⟩ : ∃ n, n = l.length := ⟨_, rfl⟩
  rw [← hn] at H ⊢
  have hn9 : n ≤ 9223372036854775807 := by obtain ⟨_, _, h1, h2, h3⟩ := (H.rows .here).slice; injection h1; unfold maxLen at h3; omega
  have HN := Lib.hid hn
  have HK := Lib.hid hk
  have HO := Lib.hid hO
  obtain ⟨tot, ht⟩ : ∃ t, t = k + mkBo.cntl l := ⟨_, rfl⟩
  rw [← ht]
  have HT := Lib.hid ht
  have H2 : Hs R w0 (Hl.row 167 3 (.slice A n c) n xs :: Hl.all [] :: Hl.all M :: L) w := H.allNil.reperm (List.Perm.swap ..)
  clear H
  have H := H2
  clear H2
  clear hn hk hO hcm ht
  go_enter Tryz.func94, Tryz.ntmps94
  go_wp2_with (first | ((first | ((with_reducible apply st_load1 H); decide +kernel; rfl; exact cF) | ((with_reducible apply st_loads H); decide +kernel; rfl; exact iF; exact zF; rfl)); clear H; intro wn H; (try simp only [splice, yG, yH, yI, yJ, yK, yL, yM, yN, yO, yP, yQ, Nat.reduceAdd, yA, yB, yC] at H); simp only [Act.put, yA, yB, yC, yD, yE, yF]) | ((first | ((with_reducible apply st_strsum H); rfl; rfl; exact szF; kernel_rfl) | ((with_reducible apply st_loadat H); decide +kernel; rfl; exact aF; exact zF; rfl)); clear H; intro wn H; simp only [Act.put, yA, yB, yC, yD, yE, yF]) | ((with_reducible apply st_load1 H); decide +kernel; rfl; (focus exact (At.row H iF (by assumption)).head rfl); clear H; intro wn H; simp only [Act.put, yA, yB, yC, yD, yE, yF]) | ((with_reducible apply st_load1 H); decide +kernel; rfl; (focus exact (At.row H iF (by assumption)).head rfl); clear H; intro wn H; simp only [Act.put, yA, yB, yC, yD, yE, yF]) | fail)
  go_loopg [1, 5] n (fun m kv iv wr => ∃ (i k' : Nat) (pre post : List Value) (N1 N2 : List Hl), i + m = n ∧ iv = .int .i64 i ∧ kv = .int .i64 k' ∧ Hid (k' = k + mkBo.cntl (l.take i) ∧ OwnL tyBo pre (mkBo.mkl k (l.take i)) N1 ∧ OwnL tyBo post (l.drop i) N2) ∧ Hs R w0 (Hl.row 167 3 (.slice A n c) n (pre ++ post) :: Hl.all N1 :: Hl.all N2 :: L) wr)
  case atStart => exact ⟨0, k, [], xs, [], M, by omega, rfl, rfl, Lib.hid ⟨rfl, .nil, HO.out⟩, H⟩
  case round =>
    clear H
    obtain ⟨i, k', pre, post, N1, N2, hi, rfl, rfl, HI, H⟩ := hrel
    by_cases hlt : i < n
    · obtain ⟨x, hx⟩ : ∃ x, l[i]? = some x := ⟨l[i]'(by rw [← HN.out]; exact hlt), List.getElem?_eq_getElem (by rw [← HN.out]; exact hlt)⟩
      obtain ⟨g, c2, hv, _⟩ := (H.rows .here).form (by omega)
      injection hv with hv1 hv2 hv3
      subst hv1 hv3
      have hk1 := mkBo.cnt_at_le hx
      have hk2 := HK.out
      obtain ⟨h1, h2, h3⟩ := HI.out
      obtain ⟨hlt', e⟩ := List.getElem?_eq_some_iff.1 hx
      rw [List.drop_eq_getElem_cons hlt', e] at h3
      obtain ⟨cs, ys, Mi, M3, rfl, rfl, hcs, h4⟩ := h3.un
      obtain ⟨a1, q1, M1, P1, rfl, rfl, g1, a2, a3, M2, M4, rfl, rfl, g2, g3⟩ := hcs
      obtain ⟨u1, hu1⟩ : ∃ v, a1 = [v] := by obtain ⟨v, _, _, rfl, _⟩ := g1; exact ⟨v, rfl⟩
      obtain ⟨u2, hu2⟩ : ∃ v, a2 = [v] := by obtain ⟨v, _, _, rfl, _⟩ := g2; exact ⟨v, rfl⟩
      obtain ⟨u3, hu3⟩ : ∃ v, a3 = [v] := by obtain ⟨v, _, _, rfl, _⟩ := g3; exact ⟨v, rfl⟩
      subst hu1 hu2 hu3
      have hpl : pre.length = i * 3 := by rw [h2.len, Mark.mkl_len, List.length_take, Nat.min_eq_left (Nat.le_of_lt hlt')]; rfl
      have hseg : Seg (pre ++ (([u1] ++ ([u2] ++ [u3])) ++ ys)) (i * 3) [u1, u2, u3] := seg_mid pre [u1, u2, u3] ys hpl
      have hs1 : Seg (pre ++ (([u1] ++ ([u2] ++ [u3])) ++ ys)) (i * 3) [u1] := fun j u hu => by match j, hu with | 0, hu => exact hseg 0 u hu
      have hs2 : Seg (pre ++ (([u1] ++ ([u2] ++ [u3])) ++ ys)) (i * 3 + 1) [u2] := fun j u hu => by match j, hu with | 0, hu => exact hseg 1 u hu
      have hs3 : Seg (pre ++ (([u1] ++ ([u2] ++ [u3])) ++ ys)) (i * 3 + 2) [u3] := fun j u hu => by match j, hu with | 0, hu => exact hseg 2 u hu
      have hk4 : k' + mkNum.cntl x.1 + mkNum.cntl x.2.1 + mkNt.cntl x.2.2 < 9223372036854775807 := by have : mkBo.cnt x = mkNum.cntl x.1 + (mkNum.cntl x.2.1 + mkNt.cntl x.2.2) := rfl; omega
      have HI2 : Hid (k' + mkNum.cntl x.1 + mkNum.cntl x.2.1 + mkNt.cntl x.2.2 = k + mkBo.cntl (l.take (i + 1))) := Lib.hid (by rw [mkBo.cntl_step hx, h1]; show _ = k + (_ + (mkNum.cntl x.1 + (mkNum.cntl x.2.1 + mkNt.cntl x.2.2))); omega)
      have HI3 : Hid (∀ J1 J2 J3, (Ty.sl 2 tyNum).own [u1] (mkNum.mkl k' x.1) J1 → (Ty.sl 2 tyNum).own [u2] (mkNum.mkl (k' + mkNum.cntl x.1) x.2.1) J2 → (Ty.sl 198 tyNt).own [u3] (mkNt.mkl (k' + mkNum.cntl x.1 + mkNum.cntl x.2.1) x.2.2) J3 → OwnL tyBo (pre ++ ([u1] ++ ([u2] ++ [u3]))) (mkBo.mkl k (l.take (i + 1))) (N1 ++ (J1 ++ (J2 ++ J3)))) := Lib.hid (fun J1 J2 J3 j1 j2 j3 => by
        rw [mkBo.mkl_step hx, ← h1]
        exact h2.snoc ⟨_, _, _, _, rfl, rfl, j1, _, _, _, _, rfl, rfl, j2, j3⟩)
      have HI4 := Lib.hid h4
      have HG1 := Lib.hid g1
      have HG2 := Lib.hid g2
      have HG3 := Lib.hid g3
      have c1 := markInt64S_l u1 x.1 k' (by omega)
      have c2 := markInt64S_l u2 x.2.1 (k' + mkNum.cntl x.1) (by omega)
      have c3 := markNoteS_l u3 x.2.2 (k' + mkNum.cntl x.1 + mkNum.cntl x.2.1) (by omega)
      have hlt1 : (i : Int) < n := by omega
      obtain ⟨x1, x2, x3⟩ := x
      simp only at HI2 HI3 HG1 HG2 HG3 c1 c2 c3
      generalize k' + mkNum.cntl x1 + mkNum.cntl x2 + mkNt.cntl x3 = k4 at *
      generalize k' + mkNum.cntl x1 + mkNum.cntl x2 = k3 at *
      generalize k' + mkNum.cntl x1 = k2 at *
      clear h1 h2 h3 h4 HI hx hk1 hk2 hpl e hv2 hlt' hseg hk4 g1 g2 g3
      have Hq := H.take2.part3
      clear H
      have H := Hq
      clear Hq
      go_wp2_with (first | ((first | ((with_reducible apply st_load1 H); decide +kernel; rfl; exact cF) | ((with_reducible apply st_loads H); decide +kernel; rfl; exact iF; exact zF; rfl)); clear H; intro wn H; (try simp only [splice, yG, yH, yI, yJ, yK, yL, yM, yN, yO, yP, yQ, Nat.reduceAdd, yA, yB, yC] at H); simp only [Act.put, yA, yB, yC, yD, yE, yF]) | ((first | ((with_reducible apply st_strsum H); rfl; rfl; exact szF; kernel_rfl) | ((with_reducible apply st_loadat H); decide +kernel; rfl; exact aF; exact zF; rfl)); clear H; intro wn H; simp only [Act.put, yA, yB, yC, yD, yE, yF]) | ((with_reducible apply st_load1 H); decide +kernel; rfl; (focus exact (At.row H iF (by assumption)).head rfl); clear H; intro wn H; simp only [Act.put, yA, yB, yC, yD, yE, yF]) | ((with_reducible apply st_load1 H); decide +kernel; rfl; (focus exact (At.row H iF (by assumption)).head rfl); clear H; intro wn H; simp only [Act.put, yA, yB, yC, yD, yE, yF]) | fail)
      refine (c1 _ _ _ _ _ HG1.out H).mono ?_
      rintro e wn ⟨rfl, J1, j1, Hn⟩
      clear H
      have H := Hn
      clear Hn
      go_wp2_with (first | ((first | ((with_reducible apply st_load1 H); decide +kernel; rfl; exact cF) | ((with_reducible apply st_loads H); decide +kernel; rfl; exact iF; exact zF; rfl)); clear H; intro wn H; (try simp only [splice, yG, yH, yI, yJ, yK, yL, yM, yN, yO, yP, yQ, Nat.reduceAdd, yA, yB, yC] at H); simp only [Act.put, yA, yB, yC, yD, yE, yF]) | ((first | ((with_reducible apply st_strsum H); rfl; rfl; exact szF; kernel_rfl) | ((with_reducible apply st_loadat H); decide +kernel; rfl; exact aF; exact zF; rfl)); clear H; intro wn H; simp only [Act.put, yA, yB, yC, yD, yE, yF]) | ((with_reducible apply st_load1 H); decide +kernel; rfl; (focus exact (At.row H iF (by assumption)).head rfl); clear H; intro wn H; simp only [Act.put, yA, yB, yC, yD, yE, yF]) | ((with_reducible apply st_load1 H); decide +kernel; rfl; (focus exact (At.row H iF (by assumption)).head rfl); clear H; intro wn H; simp only [Act.put, yA, yB, yC, yD, yE, yF]) | fail)
      refine (c2 _ _ _ _ _ HG2.out H.up1).mono ?_
      rintro e wn ⟨rfl, J2, j2, Hn⟩
      clear H
      have H := Hn
      clear Hn
      go_wp2_with (first | ((first | ((with_reducible apply st_load1 H); decide +kernel; rfl; exact cF) | ((with_reducible apply st_loads H); decide +kernel; rfl; exact iF; exact zF; rfl)); clear H; intro wn H; (try simp only [splice, yG, yH, yI, yJ, yK, yL, yM, yN, yO, yP, yQ, Nat.reduceAdd, yA, yB, yC] at H); simp only [Act.put, yA, yB, yC, yD, yE, yF]) | ((first | ((with_reducible apply st_strsum H); rfl; rfl; exact szF; kernel_rfl) | ((with_reducible apply st_loadat H); decide +kernel; rfl; exact aF; exact zF; rfl)); clear H; intro wn H; simp only [Act.put, yA, yB, yC, yD, yE, yF]) | ((with_reducible apply st_load1 H); decide +kernel; rfl; (focus exact (At.row H iF (by assumption)).head rfl); clear H; intro wn H; simp only [Act.put, yA, yB, yC, yD, yE, yF]) | ((with_reducible apply st_load1 H); decide +kernel; rfl; (focus exact (At.row H iF (by assumption)).head rfl); clear H; intro wn H; simp only [Act.put, yA, yB, yC, yD, yE, yF]) | fail)
      refine (c3 _ _ _ _ _ HG3.out H.up2).mono ?_
      rintro e wn ⟨rfl, J3, j3, Hn⟩
      clear H
      have H := Hn.up2.up2.up1.join3.give2
      clear Hn
      have HI5 := Lib.hid (HI3.out J1 J2 J3 j1 j2 j3)
      clear j1 j2 j3 c1 c2 c3 HI3
      go_wp2_with (first | ((first | ((with_reducible apply st_load1 H); decide +kernel; rfl; exact cF) | ((with_reducible apply st_loads H); decide +kernel; rfl; exact iF; exact zF; rfl)); clear H; intro wn H; (try simp only [splice, yG, yH, yI, yJ, yK, yL, yM, yN, yO, yP, yQ, Nat.reduceAdd, yA, yB, yC] at H); simp only [Act.put, yA, yB, yC, yD, yE, yF]) | ((first | ((with_reducible apply st_strsum H); rfl; rfl; exact szF; kernel_rfl) | ((with_reducible apply st_loadat H); decide +kernel; rfl; exact aF; exact zF; rfl)); clear H; intro wn H; simp only [Act.put, yA, yB, yC, yD, yE, yF]) | ((with_reducible apply st_load1 H); decide +kernel; rfl; (focus exact (At.row H iF (by assumption)).head rfl); clear H; intro wn H; simp only [Act.put, yA, yB, yC, yD, yE, yF]) | ((with_reducible apply st_load1 H); decide +kernel; rfl; (focus exact (At.row H iF (by assumption)).head rfl); clear H; intro wn H; simp only [Act.put, yA, yB, yC, yD, yE, yF]) | fail)
      go_roundg (n - (i + 1))
      case measure => omega
      case rel => exact ⟨i + 1, k4, _, ys, _, M3, by omega, by go_num, by go_num, Lib.hid ⟨HI2.out, HI5.out, HI4.out⟩, by rw [List.append_assoc]; exact H⟩
    · obtain rfl : i = n := by omega
      have hlt1 : ¬ (i : Int) < i := by omega
      go_wp2_with (first | ((first | ((with_reducible apply st_load1 H); decide +kernel; rfl; exact cF) | ((with_reducible apply st_loads H); decide +kernel; rfl; exact iF; exact zF; rfl)); clear H; intro wn H; (try simp only [splice, yG, yH, yI, yJ, yK, yL, yM, yN, yO, yP, yQ, Nat.reduceAdd, yA, yB, yC] at H); simp only [Act.put, yA, yB, yC, yD, yE, yF]) | ((first | ((with_reducible apply st_strsum H); rfl; rfl; exact szF; kernel_rfl) | ((with_reducible apply st_loadat H); decide +kernel; rfl; exact aF; exact zF; rfl)); clear H; intro wn H; simp only [Act.put, yA, yB, yC, yD, yE, yF]) | ((with_reducible apply st_load1 H); decide +kernel; rfl; (focus exact (At.row H iF (by assumption)).head rfl); clear H; intro wn H; simp only [Act.put, yA, yB, yC, yD, yE, yF]) | ((with_reducible apply st_load1 H); decide +kernel; rfl; (focus exact (At.row H iF (by assumption)).head rfl); clear H; intro wn H; simp only [Act.put, yA, yB, yC, yD, yE, yF]) | fail)
      go_ret
      obtain ⟨h1, h2, h3⟩ := HI.out
      rw [List.take_of_length_le (by rw [← HN.out]; exact Nat.le_refl _)] at h1 h2
      rw [List.drop_of_length_le (by rw [← HN.out]; exact Nat.le_refl _)] at h3
      obtain ⟨rfl, rfl⟩ := h3.unNil
      rw [List.append_nil] at H
      have H2 := own_close h2 H (by rw [Mark.mkl_len]; exact HN.out)
      obtain ⟨N, hN, H3⟩ := H2
      exact ⟨congrArg (fun z : Nat => Ending.returned (.int .i64 z)) (h1.trans HT.out.symm), N, hN, H3.sub (List.Sublist.cons_cons _ (List.sublist_cons_self _ _))⟩
set_option maxRecDepth 100000 in
set_option maxHeartbeats 4000000 in
theorem heldBoxS_l (v : Value) (l : List Bo) (k : Nat) (hk : k + mkBo.cntl l < 9223372036854775807) (w : World) (hr : (Ty.sl 167 tyBo).rd w [v] (mkBo.mkl k l)) : Gives Tryz.prog 99 #[v, .int .i64 k] w (.int .i64 (k + mkBo.cntl l : Nat)) := by
  obtain ⟨A, c, rfl, hlc, hcm⟩ := sl_form hr
  unfold maxLen at *
  have HR := Lib.hid hr
  have H := Hs.start noRow w
  have hml := mkBo.mkl_len k l
  rw [hml] at hlc HR ⊢
  obtain ⟨n, hn⟩ : ∃ n, n = l.length := ⟨_, rfl⟩
  have hnl : n ≤ 9223372036854775807 := by omega
  rw [← hn] at HR ⊢
  have HN := Lib.hid hn
  have HK := Lib.hid hk
  obtain ⟨tot, ht⟩ : ∃ t, t = k + mkBo.cntl l := ⟨_, rfl⟩
  rw [← ht]
  have HT := Lib.hid ht
  clear hr hn hlc hcm hk hml ht
  unfold Gives
  go_enter Tryz.func99, Tryz.ntmps99
  go_wp2_with (first | ((first | ((with_reducible apply st_load1 H); decide +kernel; rfl; exact cF) | ((with_reducible apply st_loads H); decide +kernel; rfl; exact iF; exact zF; rfl)); clear H; intro wn H; (try simp only [splice, yG, yH, yI, yJ, yK, yL, yM, yN, yO, yP, yQ, Nat.reduceAdd, yA, yB, yC] at H); simp only [Act.put, yA, yB, yC, yD, yE, yF]) | ((first | ((with_reducible apply st_strsum H); rfl; rfl; exact szF; kernel_rfl) | ((with_reducible apply st_loadat H); decide +kernel; rfl; exact aF; exact zF; rfl)); clear H; intro wn H; simp only [Act.put, yA, yB, yC, yD, yE, yF]) | ((first | (go_at_call 132; refine gvF (c1 _ H.below) H ?_; clear c1) | (go_at_call 132; refine gvF (c2 _ H.below) H ?_) | (go_at_call 133; refine gvF (c3 _ H.below) H ?_)); clear H; intro wn H) | ((with_reducible apply st_load1 H); decide +kernel; rfl; (focus exact (At.row H iF (by assumption)).head rfl); clear H; intro wn H; simp only [Act.put, yA, yB, yC, yD, yE, yF]) | ((with_reducible apply st_load1 H); decide +kernel; rfl; (focus exact (At.row H iF (by assumption)).head rfl); clear H; intro wn H; simp only [Act.put, yA, yB, yC, yD, yE, yF]) | fail)
  go_loopg [1, 5] n (fun m kv iv wr => ∃ (i k' : Nat), i + m = n ∧ iv = .int .i64 i ∧ kv = .int .i64 k' ∧ Hid (k' = k + mkBo.cntl (l.take i)) ∧ Hs noRow w [] wr)
  case atStart => exact ⟨0, k, by omega, rfl, rfl, Lib.hid rfl, H⟩
  case round =>
    clear H
    obtain ⟨i, k', hi, rfl, rfl, HI, H⟩ := hrel
    by_cases hlt : i < n
    · obtain ⟨x, hx⟩ : ∃ x, l[i]? = some x := ⟨l[i]'(by rw [← HN.out]; exact hlt), List.getElem?_eq_getElem (by rw [← HN.out]; exact hlt)⟩
      have hs := sl_at (by have := HR.out; rw [HN.out, ← Mark.mkl_len mkBo k] at this; exact this) (mkBo.mkl_at (k := k) hx)
      rw [Mark.mkl_len, ← HN.out, ← HI.out] at hs
      obtain ⟨b, off, c', cs, hv, hcs, hA⟩ := hs
      injection hv with hv1 hv2 hv3
      subst hv1 hv3
      obtain ⟨u1, u2, u3, hu, g1, g2, g3⟩ := bo_form hcs
      subst hu
      have hk1 := mkBo.cnt_at_le hx
      have hk2 := HK.out
      have hk4 := HI.out
      have hcnt : mkBo.cnt x = mkNum.cntl x.1 + (mkNum.cntl x.2.1 + mkNt.cntl x.2.2) := rfl
      have hk3 : k' + mkNum.cntl x.1 + mkNum.cntl x.2.1 + mkNt.cntl x.2.2 < 9223372036854775807 := by omega
      have HI2 : Hid (k' + mkNum.cntl x.1 + mkNum.cntl x.2.1 + mkNt.cntl x.2.2 = k + mkBo.cntl (l.take (i + 1))) := Lib.hid (by rw [mkBo.cntl_step hx, HI.out, hcnt]; omega)
      have hlt1 : (i : Int) < n := by omega
      have h0 : w.cell? ⟨b, off + i * 3, none⟩ = some u1 := hA.head (u := u1) rfl
      have h1 : w.cell? ⟨b, off + i * 3 + 1, none⟩ = some u2 := hA 1 _ rfl
      have h2 : w.cell? ⟨b, off + i * 3 + 2, none⟩ = some u3 := hA 2 _ rfl
      obtain ⟨x1, x2, x3⟩ := x
      have c1 := fun w1 hb => heldInt64S_l u1 x1 k' (by simp only at hk3; omega) w1 (Ty.below _ g1 hb)
      have c2 := fun w1 hb => heldInt64S_l u2 x2 (k' + mkNum.cntl x1) (by simp only at hk3; omega) w1 (Ty.below _ g2 hb)
      have c3 := fun w1 hb => heldNoteS_l u3 x3 (k' + mkNum.cntl x1 + mkNum.cntl x2) (by simp only at hk3; omega) w1 (Ty.below _ (by have h := g3; rw [show k' + mkNum.cntl x1 + mkNum.cntl x2 = k' + mkNum.list.cnt x1 + mkNum.list.cnt x2 from rfl]; exact h) hb)
      simp only at HI2 hk3
      generalize k' + mkNum.cntl x1 + mkNum.cntl x2 + mkNt.cntl x3 = k4 at *
      generalize k' + mkNum.cntl x1 + mkNum.cntl x2 = k5 at *
      generalize k' + mkNum.cntl x1 = k6 at *
      have f1 : ¬ (k6 : Int) < 0 := by omega
      have f2 : ¬ (k5 : Int) < 0 := by omega
      have f3 : ¬ (k4 : Int) < 0 := by omega
      clear hx hv2 hk1 hk2 hk4 hcnt HI hA hcs g1 g2 g3
      go_wp2_with (first | ((first | ((with_reducible apply st_load1 H); decide +kernel; rfl; exact cF) | ((with_reducible apply st_loads H); decide +kernel; rfl; exact iF; exact zF; rfl)); clear H; intro wn H; (try simp only [splice, yG, yH, yI, yJ, yK, yL, yM, yN, yO, yP, yQ, Nat.reduceAdd, yA, yB, yC] at H); simp only [Act.put, yA, yB, yC, yD, yE, yF]) | ((first | ((with_reducible apply st_strsum H); rfl; rfl; exact szF; kernel_rfl) | ((with_reducible apply st_loadat H); decide +kernel; rfl; exact aF; exact zF; rfl)); clear H; intro wn H; simp only [Act.put, yA, yB, yC, yD, yE, yF]) | ((first | (go_at_call 132; refine gvF (c1 _ H.below) H ?_; clear c1) | (go_at_call 132; refine gvF (c2 _ H.below) H ?_) | (go_at_call 133; refine gvF (c3 _ H.below) H ?_)); clear H; intro wn H) | ((with_reducible apply st_load1 H); decide +kernel; rfl; (focus exact (At.row H iF (by assumption)).head rfl); clear H; intro wn H; simp only [Act.put, yA, yB, yC, yD, yE, yF]) | ((with_reducible apply st_load1 H); decide +kernel; rfl; (focus exact (At.row H iF (by assumption)).head rfl); clear H; intro wn H; simp only [Act.put, yA, yB, yC, yD, yE, yF]) | fail)
      go_roundg (n - (i + 1))
      case measure => omega
      case rel => exact ⟨i + 1, k4, by omega, by go_num, by go_num, HI2, H⟩
    · obtain rfl : i = n := by omega
      have hlt1 : ¬ (i : Int) < i := by omega
      go_wp2_with (first | ((first | ((with_reducible apply st_load1 H); decide +kernel; rfl; exact cF) | ((with_reducible apply st_loads H); decide +kernel; rfl; exact iF; exact zF; rfl)); clear H; intro wn H; (try simp only [splice, yG, yH, yI, yJ, yK, yL, yM, yN, yO, yP, yQ, Nat.reduceAdd, yA, yB, yC] at H); simp only [Act.put, yA, yB, yC, yD, yE, yF]) | ((first | ((with_reducible apply st_strsum H); rfl; rfl; exact szF; kernel_rfl) | ((with_reducible apply st_loadat H); decide +kernel; rfl; exact aF; exact zF; rfl)); clear H; intro wn H; simp only [Act.put, yA, yB, yC, yD, yE, yF]) | ((first | (go_at_call 132; refine gvF (c1 _ H.below) H ?_; clear c1) | (go_at_call 132; refine gvF (c2 _ H.below) H ?_) | (go_at_call 133; refine gvF (c3 _ H.below) H ?_)); clear H; intro wn H) | ((with_reducible apply st_load1 H); decide +kernel; rfl; (focus exact (At.row H iF (by assumption)).head rfl); clear H; intro wn H; simp only [Act.put, yA, yB, yC, yD, yE, yF]) | ((with_reducible apply st_load1 H); decide +kernel; rfl; (focus exact (At.row H iF (by assumption)).head rfl); clear H; intro wn H; simp only [Act.put, yA, yB, yC, yD, yE, yF]) | fail)
      go_ret
      have h1 := HI.out
      rw [List.take_of_length_le (by rw [← HN.out]; exact Nat.le_refl _)] at h1
      exact ⟨congrArg (fun z : Nat => Ending.returned (.int .i64 z)) (h1.trans HT.out.symm), H.below⟩
set_option maxRecDepth 100000 in
set_option maxHeartbeats 4000000 in
theorem markMail_l (v : Value) (l : List Bo) (k : Nat) (hk : k + mkBo.cntl l < 9223372036854775807) : Turn Tryz.prog 65 (Ty.sl 167 tyBo) [v] l (mkBo.mkl k l) #[.agg #[v], .int .i64 k] (.int .i64 (k + mkBo.cntl l : Nat)) := by
  intro R w0 L w N hO H
  have c1 := markBoxS_l v l k hk
  have HO := Lib.hid hO
  clear hk hO
  generalize mkBo.mkl k l = l' at *
  generalize k + mkBo.cntl l = k2 at *
  go_enter Tryz.func65, Tryz.ntmps65
  go_wp2_with (first | ((first | ((with_reducible apply st_load1 H); decide +kernel; rfl; exact cF) | ((with_reducible apply st_loads H); decide +kernel; rfl; exact iF; exact zF; rfl)); clear H; intro wn H; (try simp only [splice, yG, yH, yI, yJ, yK, yL, yM, yN, yO, yP, yQ, Nat.reduceAdd, yA, yB, yC] at H); simp only [Act.put, yA, yB, yC, yD, yE, yF]) | ((first | ((with_reducible apply st_box (dst := some 2) H); exact nF; intro b2) | ((with_reducible apply st_loadat H); decide +kernel; rfl; exact aF; exact zF; rfl)); clear H; intro wn H; simp only [Act.put, yA, yB, yC, yD, yE, yF]) | ((with_reducible apply st_load1 H); decide +kernel; rfl; (focus exact (At.row H iF (by assumption)).head rfl); clear H; intro wn H; simp only [Act.put, yA, yB, yC, yD, yE, yF]) | ((with_reducible apply st_load1 H); decide +kernel; rfl; (focus exact (At.row H iF (by assumption)).head rfl); clear H; intro wn H; simp only [Act.put, yA, yB, yC, yD, yE, yF]) | fail)
  refine (c1 _ _ _ _ _ HO.out H.up1).mono ?_
  rintro e wn ⟨rfl, J1, j1, Hn⟩
  clear H
  have H := Hn
  clear Hn
  go_wp2_with (first | ((first | ((with_reducible apply st_load1 H); decide +kernel; rfl; exact cF) | ((with_reducible apply st_loads H); decide +kernel; rfl; exact iF; exact zF; rfl)); clear H; intro wn H; (try simp only [splice, yG, yH, yI, yJ, yK, yL, yM, yN, yO, yP, yQ, Nat.reduceAdd, yA, yB, yC] at H); simp only [Act.put, yA, yB, yC, yD, yE, yF]) | ((first | ((with_reducible apply st_box (dst := some 2) H); exact nF; intro b2) | ((with_reducible apply st_loadat H); decide +kernel; rfl; exact aF; exact zF; rfl)); clear H; intro wn H; simp only [Act.put, yA, yB, yC, yD, yE, yF]) | ((with_reducible apply st_load1 H); decide +kernel; rfl; (focus exact (At.row H iF (by assumption)).head rfl); clear H; intro wn H; simp only [Act.put, yA, yB, yC, yD, yE, yF]) | ((with_reducible apply st_load1 H); decide +kernel; rfl; (focus exact (At.row H iF (by assumption)).head rfl); clear H; intro wn H; simp only [Act.put, yA, yB, yC, yD, yE, yF]) | fail)
  go_ret
  exact ⟨rfl, _, j1, H.off⟩
set_option maxRecDepth 100000 in
set_option maxHeartbeats 4000000 in
theorem heldMail_l (v : Value) (l : List Bo) (k : Nat) (hk : k + mkBo.cntl l < 9223372036854775807) (w : World) (hr : (Ty.sl 167 tyBo).rd w [v] (mkBo.mkl k l)) : Gives Tryz.prog 67 #[.agg #[v], .int .i64 k] w (.int .i64 (k + mkBo.cntl l : Nat)) := by
  have c1 := fun w1 hb => heldBoxS_l v l k hk w1 (Ty.below _ hr hb)
  clear hr hk
  generalize k + mkBo.cntl l = k2 at *
  have f1 : ¬ (k2 : Int) < 0 := by omega
  have H := Hs.start noRow w
  unfold Gives
  go_enter Tryz.func67, Tryz.ntmps67
  go_wp2_with (first | ((first | ((with_reducible apply st_load1 H); decide +kernel; rfl; exact cF) | ((with_reducible apply st_loads H); decide +kernel; rfl; exact iF; exact zF; rfl)); clear H; intro wn H; (try simp only [splice, yG, yH, yI, yJ, yK, yL, yM, yN, yO, yP, yQ, Nat.reduceAdd, yA, yB, yC] at H); simp only [Act.put, yA, yB, yC, yD, yE, yF]) | ((first | ((with_reducible apply st_box (dst := some 2) H); exact nF; intro b2) | ((with_reducible apply st_strsum H); rfl; rfl; exact szF; kernel_rfl) | ((with_reducible apply st_loadat H); decide +kernel; rfl; exact aF; exact zF; rfl)); clear H; intro wn H; simp only [Act.put, yA, yB, yC, yD, yE, yF]) | ((first | (go_at_call 99; refine gvF (c1 _ H.below) H ?_)); clear H; intro wn H) | ((with_reducible apply st_load1 H); decide +kernel; rfl; (focus exact (At.row H iF (by assumption)).head rfl); clear H; intro wn H; simp only [Act.put, yA, yB, yC, yD, yE, yF]) | ((with_reducible apply st_load1 H); decide +kernel; rfl; (focus exact (At.row H iF (by assumption)).head rfl); clear H; intro wn H; simp only [Act.put, yA, yB, yC, yD, yE, yF]) | fail)
  go_ret
  exact ⟨rfl, H.below⟩
end Go.Proofs.YtjklmldchbakjaaGreat
