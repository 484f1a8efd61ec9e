/-
  Disks, houses: marked, and the marks read: the walks. Printed by kgen.py.
-/
import Derived.Test.YtjklmldchbakjaaGreatHz
import Derived.Test.YtjklmldchbakjaaGreatHy
set_option linter.unusedSimpArgs false
set_option linter.unusedVariables false
namespace Go.Proofs.YtjklmldchbakjaaGreat
open Go.RowKit M
namespace Dz
set_option maxRecDepth 100000 in
set_option maxHeartbeats 4000000 in
theorem markRegionS_l (v : Value) (l : List Rg) (k : Nat) (hk : k + mkRg.cntl l < 9223372036854775807) : Turn Tryz.prog 106 (Ty.sl 179 tyRg) [v] l (mkRg.mkl k l) #[v, .int .i64 k] (.int .i64 (k + mkRg.cntl l : Nat)) := by
  intro R w0 L w N hO H
  obtain ⟨xs, M, A, c, rfl, hO, hcm, H⟩ := own_open hO H
  obtain rfl : M = [] := flat_noown hO
  unfold maxLen at *
  obtain ⟨n, hn⟩ : ∃ n, n = l.length := ⟨_, rfl⟩
  rw [← hn] at H ⊢
  have hn9 : n ≤ 9223372036854775807 := by obtain ⟨_, _, h1, h2, h3⟩ := (H.rows .here).slice; injection h1; unfold maxLen at h3; omega
  have HN := Lib.hid hn
  have HK := Lib.hid hk
  have HO := Lib.hid hO
  obtain ⟨tot, ht⟩ : ∃ t, t = k + mkRg.cntl l := ⟨_, rfl⟩
  rw [← ht]
  have HT := Lib.hid ht
  clear hn hk hO hcm ht
  go_enter Tryz.func106, Tryz.ntmps106
  go_wp2_with (first | ((first | ((with_reducible apply st_load1 H); decide +kernel; rfl; exact cF) | ((with_reducible apply st_loads H); decide +kernel; rfl; exact iF; exact zF; rfl) | ((with_reducible apply st_store H); rfl; exact eF; (focus (exact cells_agg _)); exact uF; kernel_rfl; (focus (exact Nat.le_of_ble_eq_true (by rfl))); (focus (first | rfl | simp))) | ((with_reducible apply st_storeown H); rfl; exact eF; (focus (exact (rfl : _ = [_]))); exact uF; (focus omega); kernel_rfl; rfl)); clear H; intro wn H; (try simp only [splice, yG, yH, yI, yJ, yK, yL, yM, yN, yO, yP, yQ, Nat.reduceAdd, yA, yB, yC] at H); simp only [Act.put, yA, yB, yC, yD, yE, yF]) | ((first | ((with_reducible apply st_strsum H); rfl; rfl; exact szF; kernel_rfl) | ((with_reducible apply st_storerow H); rfl; exact eF; (first | exact cells_agg _ | exact cellI | exact cellS | exact cellB | exact (rfl : _ = [_])); exact uF; kernel_rfl; exact Nat.succ_pos _; exact fitF; rfl)); clear H; intro wn H; simp only [Act.put, yA, yB, yC, yD, yE, yF]) | ((first | (go_at_call 125; refine gvF (by first | exact markText_at _ (k') (by omega) (by omega) _ | exact markText_at _ (k' + 1) (by omega) (by omega) _ | exact markText_at _ (k' + 2) (by omega) (by omega) _) H ?_)); clear H; intro wn H) | fail)
  go_loopg [1, 5] n (fun m kv iv wr => ∃ (i k' : Nat) (pre post : List Value), i + m = n ∧ iv = .int .i64 i ∧ kv = .int .i64 k' ∧ Hid (k' = k + mkRg.cntl (l.take i) ∧ OwnL tyRg pre (mkRg.mkl k (l.take i)) [] ∧ OwnL tyRg post (l.drop i) []) ∧ Hs R w0 (Hl.row 179 3 (.slice A n c) n (pre ++ post) :: Hl.all [] :: L) wr)
  case atStart => exact ⟨0, k, [], xs, by omega, rfl, rfl, Lib.hid ⟨rfl, .nil, HO.out⟩, H⟩
  case round =>
    clear H
    obtain ⟨i, k', pre, post, hi, rfl, rfl, HI, H⟩ := hrel
    by_cases hlt : i < n
    · obtain ⟨x, hx⟩ : ∃ x, l[i]? = some x := ⟨l[i]'(by rw [← HN.out]; exact hlt), List.getElem?_eq_getElem (by rw [← HN.out]; exact hlt)⟩
      obtain ⟨g, c2, hv, _⟩ := (H.rows .here).form (by omega)
      injection hv with hv1 hv2 hv3
      subst hv1 hv3
      have hk1 := mkRg.cnt_at_le hx
      have hk2 := HK.out
      obtain ⟨h1, h2, h3⟩ := HI.out
      obtain ⟨hlt', e⟩ := List.getElem?_eq_some_iff.1 hx
      rw [List.drop_eq_getElem_cons hlt', e] at h3
      obtain ⟨cs, ys, Mi, M3, rfl, hMM, ⟨rfl, rfl⟩, h4⟩ := h3.un
      rw [List.nil_append] at hMM
      subst hMM
      have hpl : pre.length = i * 3 := by rw [h2.len, Mark.mkl_len, List.length_take, Nat.min_eq_left (Nat.le_of_lt hlt')]; rfl
      have hcnt : mkRg.cnt x = 3 := rfl
      have hyl : ys.length + 3 + i * 3 = n * 3 := by
        have := (H.rows .here).len
        rw [List.length_append, List.length_append, hpl] at this
        have h5 : (encRg x).length = 3 := rfl
        omega
      have hk3 : k' + 3 < 9223372036854775807 := by omega
      have HI2 : Hid (k' + 3 = k + mkRg.cntl (l.take (i + 1)) ∧ OwnL tyRg (pre ++ encRg (mkRg.mak k' x)) (mkRg.mkl k (l.take (i + 1))) [] ∧ OwnL tyRg ys (l.drop (i + 1)) []) :=
        Lib.hid ⟨by rw [mkRg.cntl_step hx, h1, hcnt]; omega, by rw [mkRg.mkl_step hx, ← h1]; exact h2.snoc ⟨rfl, rfl⟩, h4⟩
      have HS : Hid (spl (spl (spl (pre ++ (encRg x ++ ys)) (i * 3) [.string (bs (mtext (k')))]) (i * 3 + 1) [.string (bs (mtext (k' + 1)))]) (i * 3 + 2) [.string (bs (mtext (k' + 2)))] = pre ++ encRg (mkRg.mak k' x) ++ ys) := Lib.hid ((splS_at (vs := [.string (bs (mtext (k'))), .string (bs (mtext (k' + 1))), .string (bs (mtext (k' + 2)))]) (us := encRg x) hpl (Nat.le_refl 3)).trans (List.append_assoc ..).symm)
      have hfit : i * 3 + 3 ≤ (pre ++ (encRg x ++ ys)).length := by rw [List.length_append, List.length_append, hpl]; show i * 3 + 3 ≤ i * 3 + (3 + ys.length); omega
      have hlt1 : (i : Int) < n := by omega
      clear h1 h2 h3 h4 HI hx hk1 hk2 hcnt hyl hpl e hv2 hlt'
      unfold encRg at *
      go_wp2_with (first | ((first | ((with_reducible apply st_load1 H); decide +kernel; rfl; exact cF) | ((with_reducible apply st_loads H); decide +kernel; rfl; exact iF; exact zF; rfl) | ((with_reducible apply st_store H); rfl; exact eF; (focus (exact cells_agg _)); exact uF; kernel_rfl; (focus (exact Nat.le_of_ble_eq_true (by rfl))); (focus (first | rfl | simp))) | ((with_reducible apply st_storeown H); rfl; exact eF; (focus (exact (rfl : _ = [_]))); exact uF; (focus omega); kernel_rfl; rfl)); clear H; intro wn H; (try simp only [splice, yG, yH, yI, yJ, yK, yL, yM, yN, yO, yP, yQ, Nat.reduceAdd, yA, yB, yC] at H); simp only [Act.put, yA, yB, yC, yD, yE, yF]) | ((first | ((with_reducible apply st_strsum H); rfl; rfl; exact szF; kernel_rfl) | ((with_reducible apply st_storerow H); rfl; exact eF; (first | exact cells_agg _ | exact cellI | exact cellS | exact cellB | exact (rfl : _ = [_])); exact uF; kernel_rfl; exact Nat.succ_pos _; exact fitF; rfl)); clear H; intro wn H; simp only [Act.put, yA, yB, yC, yD, yE, yF]) | ((first | (go_at_call 125; refine gvF (by first | exact markText_at _ (k') (by omega) (by omega) _ | exact markText_at _ (k' + 1) (by omega) (by omega) _ | exact markText_at _ (k' + 2) (by omega) (by omega) _) H ?_)); clear H; intro wn H) | fail)
      go_roundg (n - (i + 1))
      case measure => omega
      case rel => exact ⟨i + 1, k' + 3, _, ys, by omega, by go_num, by go_num, HI2, by rw [← HS.out]; exact H⟩
    · obtain rfl : i = n := by omega
      have hlt1 : ¬ (i : Int) < i := by omega
      go_wp2_with (first | ((first | ((with_reducible apply st_load1 H); decide +kernel; rfl; exact cF) | ((with_reducible apply st_loads H); decide +kernel; rfl; exact iF; exact zF; rfl) | ((with_reducible apply st_store H); rfl; exact eF; (focus (exact cells_agg _)); exact uF; kernel_rfl; (focus (exact Nat.le_of_ble_eq_true (by rfl))); (focus (first | rfl | simp))) | ((with_reducible apply st_storeown H); rfl; exact eF; (focus (exact (rfl : _ = [_]))); exact uF; (focus omega); kernel_rfl; rfl)); clear H; intro wn H; (try simp only [splice, yG, yH, yI, yJ, yK, yL, yM, yN, yO, yP, yQ, Nat.reduceAdd, yA, yB, yC] at H); simp only [Act.put, yA, yB, yC, yD, yE, yF]) | ((first | ((with_reducible apply st_strsum H); rfl; rfl; exact szF; kernel_rfl) | ((with_reducible apply st_storerow H); rfl; exact eF; (first | exact cells_agg _ | exact cellI | exact cellS | exact cellB | exact (rfl : _ = [_])); exact uF; kernel_rfl; exact Nat.succ_pos _; exact fitF; rfl)); clear H; intro wn H; simp only [Act.put, yA, yB, yC, yD, yE, yF]) | ((first | (go_at_call 125; refine gvF (by first | exact markText_at _ (k') (by omega) (by omega) _ | exact markText_at _ (k' + 1) (by omega) (by omega) _ | exact markText_at _ (k' + 2) (by omega) (by omega) _) H ?_)); clear H; intro wn H) | fail)
      go_ret
      obtain ⟨h1, h2, h3⟩ := HI.out
      rw [List.take_of_length_le (by rw [← HN.out]; exact Nat.le_refl _)] at h1 h2
      rw [List.drop_of_length_le (by rw [← HN.out]; exact Nat.le_refl _)] at h3
      obtain ⟨rfl, _⟩ := h3.unNil
      rw [List.append_nil] at H
      exact ⟨congrArg (fun z : Nat => Ending.returned (.int .i64 z)) (h1.trans HT.out.symm), own_close h2 H (by rw [Mark.mkl_len]; exact HN.out)⟩
set_option maxRecDepth 100000 in
set_option maxHeartbeats 4000000 in
theorem heldRegionS_l (v : Value) (l : List Rg) (k : Nat) (hk : k + mkRg.cntl l < 9223372036854775807) (w : World) (hr : (Ty.sl 179 tyRg).rd w [v] (mkRg.mkl k l)) : Gives Tryz.prog 107 #[v, .int .i64 k] w (.int .i64 (k + mkRg.cntl l : Nat)) := by
  obtain ⟨A, c, rfl, hlc, hcm⟩ := sl_form hr
  unfold maxLen at *
  have HR := Lib.hid hr
  have H := Hs.start noRow w
  have hml := mkRg.mkl_len k l
  rw [hml] at hlc HR ⊢
  obtain ⟨n, hn⟩ : ∃ n, n = l.length := ⟨_, rfl⟩
  have hnl : n ≤ 9223372036854775807 := by omega
  rw [← hn] at HR ⊢
  have HN := Lib.hid hn
  have HK := Lib.hid hk
  obtain ⟨tot, ht⟩ : ∃ t, t = k + mkRg.cntl l := ⟨_, rfl⟩
  rw [← ht]
  have HT := Lib.hid ht
  clear hr hn hlc hcm hk hml ht
  unfold Gives
  go_enter Tryz.func107, Tryz.ntmps107
  go_wp2_with (first | ((first | ((with_reducible apply st_load1 H); decide +kernel; rfl; exact cF) | ((with_reducible apply st_loads H); decide +kernel; rfl; exact iF; exact zF; rfl)); clear H; intro wn H; (try simp only [splice, yG, yH, yI, yJ, yK, yL, yM, yN, yO, yP, yQ, Nat.reduceAdd, yA, yB, yC] at H); simp only [Act.put, yA, yB, yC, yD, yE, yF]) | ((first | ((with_reducible apply st_strsum H); rfl; rfl; exact szF; kernel_rfl) | ((with_reducible apply st_loadat H); decide +kernel; rfl; exact aF; exact zF; rfl)); clear H; intro wn H; simp only [Act.put, yA, yB, yC, yD, yE, yF]) | ((first | (go_at_call 125; refine gvF (by first | exact markText_at _ (k') (by omega) (by omega) _ | exact markText_at _ (k' + 1) (by omega) (by omega) _ | exact markText_at _ (k' + 2) (by omega) (by omega) _) H ?_)); clear H; intro wn H) | ((with_reducible apply wp_region_hq (id := 4) H); kernel_rfl; kernel_rfl; (iterate 8 (all_goals ((with_reducible refine' hq_step ?_ ?_ ?_); rotate_left; rfl; (focus (intro w1 H1; first | (first | exact qF | exact qAF | exact qRF) | (unfold QOk; go_simp; exact q_call (by first | exact markText_at _ (k') (by omega) (by omega) _ | exact markText_at _ (k' + 1) (by omega) (by omega) _ | exact markText_at _ (k' + 2) (by omega) (by omega) _)) | (exact qVF))); (try simp only [yG, yH, yJ, yK]); simp only [Act.put, yA, yB, yC, yD, yE, yF]))); all_goals (refine wpQuiet_nil ?_; clear H; intro wn H)) | ((with_reducible apply wp_region_hq (id := 7) H); kernel_rfl; kernel_rfl; (iterate 8 (all_goals ((with_reducible refine' hq_step ?_ ?_ ?_); rotate_left; rfl; (focus (intro w1 H1; first | (first | exact qF | exact qAF | exact qRF) | (unfold QOk; go_simp; exact q_call (by first | exact markText_at _ (k') (by omega) (by omega) _ | exact markText_at _ (k' + 1) (by omega) (by omega) _ | exact markText_at _ (k' + 2) (by omega) (by omega) _)) | (exact qVF))); (try simp only [yG, yH, yJ, yK]); simp only [Act.put, yA, yB, yC, yD, yE, yF]))); all_goals (refine wpQuiet_nil ?_; clear H; intro wn H)) | ((with_reducible apply wp_region_hq (id := 10) H); kernel_rfl; kernel_rfl; (iterate 8 (all_goals ((with_reducible refine' hq_step ?_ ?_ ?_); rotate_left; rfl; (focus (intro w1 H1; first | (first | exact qF | exact qAF | exact qRF) | (unfold QOk; go_simp; exact q_call (by first | exact markText_at _ (k') (by omega) (by omega) _ | exact markText_at _ (k' + 1) (by omega) (by omega) _ | exact markText_at _ (k' + 2) (by omega) (by omega) _)) | (exact qVF))); (try simp only [yG, yH, yJ, yK]); simp only [Act.put, yA, yB, yC, yD, yE, yF]))); all_goals (refine wpQuiet_nil ?_; clear H; intro wn H)) | fail)
  go_loopg [1, 5] n (fun m kv iv wr => ∃ (i k' : Nat), i + m = n ∧ iv = .int .i64 i ∧ kv = .int .i64 k' ∧ Hid (k' = k + mkRg.cntl (l.take i)) ∧ Hs noRow w [] wr)
  case atStart => exact ⟨0, k, by omega, rfl, rfl, Lib.hid rfl, H⟩
  case round =>
    clear H
    obtain ⟨i, k', hi, rfl, rfl, HI, H⟩ := hrel
    by_cases hlt : i < n
    · obtain ⟨x, hx⟩ : ∃ x, l[i]? = some x := ⟨l[i]'(by rw [← HN.out]; exact hlt), List.getElem?_eq_getElem (by rw [← HN.out]; exact hlt)⟩
      have hs := sl_at (by have := HR.out; rw [HN.out, ← Mark.mkl_len mkRg k] at this; exact this) (mkRg.mkl_at (k := k) hx)
      rw [Mark.mkl_len, ← HN.out, ← HI.out] at hs
      obtain ⟨b, off, c', cs, hv, hcs, hA⟩ := hs
      injection hv with hv1 hv2 hv3
      subst hv1 hv3
      obtain rfl : cs = encRg (mkRg.mak k' x) := hcs
      have hk1 := mkRg.cnt_at_le hx
      have hk2 := HK.out
      have hk4 := HI.out
      have hcnt : mkRg.cnt x = 3 := rfl
      have hk3 : k' + 3 < 9223372036854775807 := by omega
      have HI2 : Hid (k' + 3 = k + mkRg.cntl (l.take (i + 1))) := Lib.hid (by rw [mkRg.cntl_step hx, HI.out, hcnt]; omega)
      have hlt1 : (i : Int) < n := by omega
      have h0 : w.cell? ⟨b, off + i * 3, none⟩ = some (.string (bs (mtext (k')))) := hA.head (u := .string (bs (mtext (k')))) rfl
      have h1 : w.cell? ⟨b, off + i * 3 + 1, none⟩ = some (.string (bs (mtext (k' + 1)))) := hA 1 _ rfl
      have h2 : w.cell? ⟨b, off + i * 3 + 2, none⟩ = some (.string (bs (mtext (k' + 2)))) := hA 2 _ rfl
      clear hx hv2 hk1 hk2 hk4 hcnt HI hA
      go_wp2_with (first | ((first | ((with_reducible apply st_load1 H); decide +kernel; rfl; exact cF) | ((with_reducible apply st_loads H); decide +kernel; rfl; exact iF; exact zF; rfl)); clear H; intro wn H; (try simp only [splice, yG, yH, yI, yJ, yK, yL, yM, yN, yO, yP, yQ, Nat.reduceAdd, yA, yB, yC] at H); simp only [Act.put, yA, yB, yC, yD, yE, yF]) | ((first | ((with_reducible apply st_strsum H); rfl; rfl; exact szF; kernel_rfl) | ((with_reducible apply st_loadat H); decide +kernel; rfl; exact aF; exact zF; rfl)); clear H; intro wn H; simp only [Act.put, yA, yB, yC, yD, yE, yF]) | ((first | (go_at_call 125; refine gvF (by first | exact markText_at _ (k') (by omega) (by omega) _ | exact markText_at _ (k' + 1) (by omega) (by omega) _ | exact markText_at _ (k' + 2) (by omega) (by omega) _) H ?_)); clear H; intro wn H) | ((with_reducible apply wp_region_hq (id := 4) H); kernel_rfl; kernel_rfl; (iterate 8 (all_goals ((with_reducible refine' hq_step ?_ ?_ ?_); rotate_left; rfl; (focus (intro w1 H1; first | (first | exact qF | exact qAF | exact qRF) | (unfold QOk; go_simp; exact q_call (by first | exact markText_at _ (k') (by omega) (by omega) _ | exact markText_at _ (k' + 1) (by omega) (by omega) _ | exact markText_at _ (k' + 2) (by omega) (by omega) _)) | (exact qVF))); (try simp only [yG, yH, yJ, yK]); simp only [Act.put, yA, yB, yC, yD, yE, yF]))); all_goals (refine wpQuiet_nil ?_; clear H; intro wn H)) | ((with_reducible apply wp_region_hq (id := 7) H); kernel_rfl; kernel_rfl; (iterate 8 (all_goals ((with_reducible refine' hq_step ?_ ?_ ?_); rotate_left; rfl; (focus (intro w1 H1; first | (first | exact qF | exact qAF | exact qRF) | (unfold QOk; go_simp; exact q_call (by first | exact markText_at _ (k') (by omega) (by omega) _ | exact markText_at _ (k' + 1) (by omega) (by omega) _ | exact markText_at _ (k' + 2) (by omega) (by omega) _)) | (exact qVF))); (try simp only [yG, yH, yJ, yK]); simp only [Act.put, yA, yB, yC, yD, yE, yF]))); all_goals (refine wpQuiet_nil ?_; clear H; intro wn H)) | ((with_reducible apply wp_region_hq (id := 10) H); kernel_rfl; kernel_rfl; (iterate 8 (all_goals ((with_reducible refine' hq_step ?_ ?_ ?_); rotate_left; rfl; (focus (intro w1 H1; first | (first | exact qF | exact qAF | exact qRF) | (unfold QOk; go_simp; exact q_call (by first | exact markText_at _ (k') (by omega) (by omega) _ | exact markText_at _ (k' + 1) (by omega) (by omega) _ | exact markText_at _ (k' + 2) (by omega) (by omega) _)) | (exact qVF))); (try simp only [yG, yH, yJ, yK]); simp only [Act.put, yA, yB, yC, yD, yE, yF]))); all_goals (refine wpQuiet_nil ?_; clear H; intro wn H)) | fail)
      go_roundg (n - (i + 1))
      case measure => omega
      case rel => exact ⟨i + 1, k' + 3, by omega, by go_num, by go_num, HI2, H⟩
    · obtain rfl : i = n := by omega
      have hlt1 : ¬ (i : Int) < i := by omega
      go_wp2_with (first | ((first | ((with_reducible apply st_load1 H); decide +kernel; rfl; exact cF) | ((with_reducible apply st_loads H); decide +kernel; rfl; exact iF; exact zF; rfl)); clear H; intro wn H; (try simp only [splice, yG, yH, yI, yJ, yK, yL, yM, yN, yO, yP, yQ, Nat.reduceAdd, yA, yB, yC] at H); simp only [Act.put, yA, yB, yC, yD, yE, yF]) | ((first | ((with_reducible apply st_strsum H); rfl; rfl; exact szF; kernel_rfl) | ((with_reducible apply st_loadat H); decide +kernel; rfl; exact aF; exact zF; rfl)); clear H; intro wn H; simp only [Act.put, yA, yB, yC, yD, yE, yF]) | ((first | (go_at_call 125; refine gvF (by first | exact markText_at _ (k') (by omega) (by omega) _ | exact markText_at _ (k' + 1) (by omega) (by omega) _ | exact markText_at _ (k' + 2) (by omega) (by omega) _) H ?_)); clear H; intro wn H) | ((with_reducible apply wp_region_hq (id := 4) H); kernel_rfl; kernel_rfl; (iterate 8 (all_goals ((with_reducible refine' hq_step ?_ ?_ ?_); rotate_left; rfl; (focus (intro w1 H1; first | (first | exact qF | exact qAF | exact qRF) | (unfold QOk; go_simp; exact q_call (by first | exact markText_at _ (k') (by omega) (by omega) _ | exact markText_at _ (k' + 1) (by omega) (by omega) _ | exact markText_at _ (k' + 2) (by omega) (by omega) _)) | (exact qVF))); (try simp only [yG, yH, yJ, yK]); simp only [Act.put, yA, yB, yC, yD, yE, yF]))); all_goals (refine wpQuiet_nil ?_; clear H; intro wn H)) | ((with_reducible apply wp_region_hq (id := 7) H); kernel_rfl; kernel_rfl; (iterate 8 (all_goals ((with_reducible refine' hq_step ?_ ?_ ?_); rotate_left; rfl; (focus (intro w1 H1; first | (first | exact qF | exact qAF | exact qRF) | (unfold QOk; go_simp; exact q_call (by first | exact markText_at _ (k') (by omega) (by omega) _ | exact markText_at _ (k' + 1) (by omega) (by omega) _ | exact markText_at _ (k' + 2) (by omega) (by omega) _)) | (exact qVF))); (try simp only [yG, yH, yJ, yK]); simp only [Act.put, yA, yB, yC, yD, yE, yF]))); all_goals (refine wpQuiet_nil ?_; clear H; intro wn H)) | ((with_reducible apply wp_region_hq (id := 10) H); kernel_rfl; kernel_rfl; (iterate 8 (all_goals ((with_reducible refine' hq_step ?_ ?_ ?_); rotate_left; rfl; (focus (intro w1 H1; first | (first | exact qF | exact qAF | exact qRF) | (unfold QOk; go_simp; exact q_call (by first | exact markText_at _ (k') (by omega) (by omega) _ | exact markText_at _ (k' + 1) (by omega) (by omega) _ | exact markText_at _ (k' + 2) (by omega) (by omega) _)) | (exact qVF))); (try simp only [yG, yH, yJ, yK]); simp only [Act.put, yA, yB, yC, yD, yE, yF]))); all_goals (refine wpQuiet_nil ?_; clear H; intro wn H)) | fail)
      go_ret
      have h1 := HI.out
      rw [List.take_of_length_le (by rw [← HN.out]; exact Nat.le_refl _)] at h1
      exact ⟨congrArg (fun z : Nat => Ending.returned (.int .i64 z)) (h1.trans HT.out.symm), H.below⟩
set_option maxRecDepth 100000 in
set_option maxHeartbeats 4000000 in
theorem markDisk_l (a : Dk) (cs : List Value) (k : Nat) (hk : k + mkDk.cnt a < 9223372036854775807) : Turn Tryz.prog 73 tyDk cs a (mkDk.mak k a) #[.agg cs.toArray, .int .i64 k] (.int .i64 (k + mkDk.cnt a : Nat)) := by
  intro R w0 L w N hO H
  obtain ⟨x1, y1, M1, N1, rfl, rfl, h1, hf, hM⟩ := hO
  subst hf hM
  have Hp : Hs R w0 (Hl.all M1 :: L) w := Hs.partL [M1] H
  clear H
  have H := Hp
  clear Hp
  obtain ⟨v1, hv1⟩ : ∃ v, x1 = [v] := by obtain ⟨v, _, _, rfl, _⟩ := h1; exact ⟨v, rfl⟩
  subst hv1
  obtain ⟨A1, k1, rfl, _, _⟩ := sl_form (own_rd H iF h1)
  obtain ⟨a1, a2⟩ := a
  simp only at h1
  show Calls Tryz.prog _ #[.agg #[.slice A1 a1.length k1, .int .i64 a2], _] w _
  have hk1 : k + mkRg.cntl a1 < 9223372036854775807 := by
    have : k + (mkRg.cntl a1 + (0)) < 9223372036854775807 := hk
    omega
  have c1 := markRegionS_l (.slice A1 a1.length k1) a1 (k) (by omega)
  have hr : (k + mkDk.cnt (a1, a2) : Nat) = k + mkRg.cntl a1 := by
    show k + (mkRg.cntl a1 + (0)) = _
    omega
  rw [hr]
  have hd : mkDk.mak k (a1, a2) = (mkRg.mkl (k) a1, a2) := rfl
  rw [hd]
  clear hk hr hd hk1
  generalize hln1 : a1.length = ln1 at *
  generalize mkRg.mkl (k) a1 = b1' at *
  generalize k + mkRg.cntl a1 = kk1 at *
  have HH1 := Lib.hid h1
  clear h1
  go_enter Tryz.func73, Tryz.ntmps73
  go_wp2_with (first | ((first | ((with_reducible apply st_load1 H); decide +kernel; rfl; exact cF) | ((with_reducible apply st_loads H); decide +kernel; rfl; exact iF; exact zF; rfl)); clear H; intro wn H; (try simp only [splice, yG, yH, yI, yJ, yK, yL, yM, yN, yO, yP, yQ, Nat.reduceAdd, yA, yB, yC] at H); simp only [Act.put, yA, yB, yC, yD, yE, yF]) | ((first | ((with_reducible apply st_box (dst := some 2) H); exact nF; intro b2) | ((with_reducible apply st_loadat H); decide +kernel; rfl; exact aF; exact zF; rfl)); clear H; intro wn H; simp only [Act.put, yA, yB, yC, yD, yE, yF]) | fail)
  have Hn := H.reperm (Del.perm (h := Hl.all M1) dF)
  refine (c1 _ _ _ _ _ HH1.out Hn).mono ?_
  rintro e wn ⟨rfl, J1, j1, Hq⟩
  clear H Hn
  have H := Hq
  clear Hq
  go_wp2_with (first | ((first | ((with_reducible apply st_load1 H); decide +kernel; rfl; exact cF) | ((with_reducible apply st_loads H); decide +kernel; rfl; exact iF; exact zF; rfl)); clear H; intro wn H; (try simp only [splice, yG, yH, yI, yJ, yK, yL, yM, yN, yO, yP, yQ, Nat.reduceAdd, yA, yB, yC] at H); simp only [Act.put, yA, yB, yC, yD, yE, yF]) | ((first | ((with_reducible apply st_box (dst := some 2) H); exact nF; intro b2) | ((with_reducible apply st_loadat H); decide +kernel; rfl; exact aF; exact zF; rfl)); clear H; intro wn H; simp only [Act.put, yA, yB, yC, yD, yE, yF]) | fail)
  go_ret
  have G1 := H.reperm (Del.perm (h := Hl.all J1) dF)
  have HF := (Hs.joinL [J1] G1).off
  exact ⟨rfl, _, ⟨[_], [_], _, _, rfl, rfl, j1, ⟨rfl, rfl⟩⟩, HF⟩
set_option maxRecDepth 100000 in
set_option maxHeartbeats 4000000 in
theorem heldDisk_l (a : Dk) (cs : List Value) (k : Nat) (hk : k + mkDk.cnt a < 9223372036854775807) (w : World) (hr : tyDk.rd w cs (mkDk.mak k a)) : Gives Tryz.prog 74 #[.agg cs.toArray, .int .i64 k] w (.int .i64 (k + mkDk.cnt a : Nat)) := by
  obtain ⟨A1, n1, k1, rfl, h1⟩ := Dk_form hr
  obtain ⟨a1, a2⟩ := a
  have hk1 : k + mkRg.cntl a1 < 9223372036854775807 := by
    have : k + (mkRg.cntl a1 + (0)) < 9223372036854775807 := hk
    omega
  show Gives Tryz.prog _ #[.agg #[.slice A1 n1 k1, .int .i64 a2], _] w _
  have g1 : (Ty.sl 179 tyRg).rd w [.slice A1 n1 k1] (mkRg.mkl (k) a1) := h1
  have c1 := fun w1 hb => heldRegionS_l _ a1 (k) (by omega) w1 (Ty.below _ g1 hb)
  have hr2 : (k + mkDk.cnt (a1, a2) : Nat) = k + mkRg.cntl a1 := by
    show k + (mkRg.cntl a1 + (0)) = _
    omega
  rw [hr2]
  clear hk hk1 hr hr2 h1 g1
  generalize k + mkRg.cntl a1 = kk1 at *
  have f1 : ¬ (kk1 : Int) < 0 := by omega
  have H := Hs.start noRow w
  unfold Gives
  go_enter Tryz.func74, Tryz.ntmps74
  go_wp2_with (first | ((first | ((with_reducible apply st_load1 H); decide +kernel; rfl; exact cF) | ((with_reducible apply st_loads H); decide +kernel; rfl; exact iF; exact zF; rfl)); clear H; intro wn H; (try simp only [splice, yG, yH, yI, yJ, yK, yL, yM, yN, yO, yP, yQ, Nat.reduceAdd, yA, yB, yC] at H); simp only [Act.put, yA, yB, yC, yD, yE, yF]) | ((first | ((with_reducible apply st_box (dst := some 2) H); exact nF; intro b2) | ((with_reducible apply st_strsum H); rfl; rfl; exact szF; kernel_rfl) | ((with_reducible apply st_loadat H); decide +kernel; rfl; exact aF; exact zF; rfl)); clear H; intro wn H; simp only [Act.put, yA, yB, yC, yD, yE, yF]) | ((first | (go_at_call 107; refine gvF (c1 _ H.below) H ?_)); clear H; intro wn H) | fail)
  go_ret
  exact ⟨rfl, H.below⟩
set_option maxRecDepth 100000 in
set_option maxHeartbeats 4000000 in
theorem markHouse_l (a : Ho) (cs : List Value) (k : Nat) (hk : k + mkHo.cnt a < 9223372036854775807) : Turn Tryz.prog 45 tyHo cs a (mkHo.mak k a) #[.agg cs.toArray, .int .i64 k] (.int .i64 (k + mkHo.cnt a : Nat)) := by
  intro R w0 L w N hO H
  obtain ⟨x1, y1, M1, N1, rfl, rfl, h1, x2, y2, M2, N2, rfl, rfl, h2, hf, hM⟩ := hO
  subst hf hM
  have Hp : Hs R w0 (Hl.all M1 :: Hl.all M2 :: L) w := Hs.partL [M1, M2] H
  clear H
  have H := Hp
  clear Hp
  obtain ⟨A1, n1, k1, A2, n2, k2, A3, n3, k3, A4, n4, k4, A5, n5, k5, A6, n6, k6, A7, n7, k7, rfl⟩ := St_lit (own_rd H iF h1)
  obtain ⟨A8, n8, k8, rfl⟩ := Dk_lit (own_rd H iF h2)
  obtain ⟨a1, a2, a3⟩ := a
  simp only at h1 h2
  show Calls Tryz.prog _ #[.agg #[.slice A1 n1 k1, .slice A2 n2 k2, .slice A3 n3 k3, .int .i64 a1.1.1.2.2.2, .slice A4 n4 k4, .slice A5 n5 k5, .slice A6 n6 k6, .int .i64 a1.1.2.2.2.2, .slice A7 n7 k7, .slice A8 n8 k8, .int .i64 a2.2, .int .i64 a3], _] w _
  have hk1 : k + mkSt.cnt a1 + mkDk.cnt a2 < 9223372036854775807 := by
    have : k + (mkSt.cnt a1 + (mkDk.cnt a2 + (0))) < 9223372036854775807 := hk
    omega
  have c1 := markState_l a1 [.slice A1 n1 k1, .slice A2 n2 k2, .slice A3 n3 k3, .int .i64 a1.1.1.2.2.2, .slice A4 n4 k4, .slice A5 n5 k5, .slice A6 n6 k6, .int .i64 a1.1.2.2.2.2, .slice A7 n7 k7] (k) (by omega)
  have c2 := markDisk_l a2 [.slice A8 n8 k8, .int .i64 a2.2] (k + mkSt.cnt a1) (by omega)
  have hr : (k + mkHo.cnt (a1, a2, a3) : Nat) = k + mkSt.cnt a1 + mkDk.cnt a2 := by
    show k + (mkSt.cnt a1 + (mkDk.cnt a2 + (0))) = _
    omega
  rw [hr]
  have hd : mkHo.mak k (a1, a2, a3) = (mkSt.mak (k) a1, mkDk.mak (k + mkSt.cnt a1) a2, a3) := rfl
  rw [hd]
  clear hk hr hd hk1
  generalize mkSt.mak (k) a1 = b1' at *
  generalize mkDk.mak (k + mkSt.cnt a1) a2 = b2' at *
  generalize k + mkSt.cnt a1 + mkDk.cnt a2 = kk2 at *
  generalize k + mkSt.cnt a1 = kk1 at *
  have HH1 := Lib.hid h1
  have HH2 := Lib.hid h2
  clear h1 h2
  go_enter Tryz.func45, Tryz.ntmps45
  go_wp2_with (first | ((first | ((with_reducible apply st_load1 H); decide +kernel; rfl; exact cF) | ((with_reducible apply st_loads H); decide +kernel; rfl; exact iF; exact zF; rfl)); clear H; intro wn H; (try simp only [splice, yG, yH, yI, yJ, yK, yL, yM, yN, yO, yP, yQ, Nat.reduceAdd, yA, yB, yC] at H); simp only [Act.put, yA, yB, yC, yD, yE, yF]) | ((first | ((with_reducible apply st_box (dst := some 2) H); exact nF; intro b2) | ((with_reducible apply st_loadat H); decide +kernel; rfl; exact aF; exact zF; rfl)); clear H; intro wn H; simp only [Act.put, yA, yB, yC, yD, yE, yF]) | fail)
  have Hn := H.reperm (Del.perm (h := Hl.all M1) dF)
  refine (c1 _ _ _ _ _ HH1.out Hn).mono ?_
  rintro e wn ⟨rfl, J1, j1, Hq⟩
  clear H Hn
  have H := Hq
  clear Hq
  go_wp2_with (first | ((first | ((with_reducible apply st_load1 H); decide +kernel; rfl; exact cF) | ((with_reducible apply st_loads H); decide +kernel; rfl; exact iF; exact zF; rfl)); clear H; intro wn H; (try simp only [splice, yG, yH, yI, yJ, yK, yL, yM, yN, yO, yP, yQ, Nat.reduceAdd, yA, yB, yC] at H); simp only [Act.put, yA, yB, yC, yD, yE, yF]) | ((first | ((with_reducible apply st_box (dst := some 2) H); exact nF; intro b2) | ((with_reducible apply st_loadat H); decide +kernel; rfl; exact aF; exact zF; rfl)); clear H; intro wn H; simp only [Act.put, yA, yB, yC, yD, yE, yF]) | fail)
  have Hn := H.reperm (Del.perm (h := Hl.all M2) dF)
  refine (c2 _ _ _ _ _ HH2.out Hn).mono ?_
  rintro e wn ⟨rfl, J2, j2, Hq⟩
  clear H Hn
  have H := Hq
  clear Hq
  go_wp2_with (first | ((first | ((with_reducible apply st_load1 H); decide +kernel; rfl; exact cF) | ((with_reducible apply st_loads H); decide +kernel; rfl; exact iF; exact zF; rfl)); clear H; intro wn H; (try simp only [splice, yG, yH, yI, yJ, yK, yL, yM, yN, yO, yP, yQ, Nat.reduceAdd, yA, yB, yC] at H); simp only [Act.put, yA, yB, yC, yD, yE, yF]) | ((first | ((with_reducible apply st_box (dst := some 2) H); exact nF; intro b2) | ((with_reducible apply st_loadat H); decide +kernel; rfl; exact aF; exact zF; rfl)); clear H; intro wn H; simp only [Act.put, yA, yB, yC, yD, yE, yF]) | fail)
  go_ret
  have G2 := H.reperm (Del.perm (h := Hl.all J2) dF)
  have G1 := G2.reperm (Del.perm (h := Hl.all J1) dF)
  have HF := (Hs.joinL [J1, J2] G1).off
  exact ⟨rfl, _, ⟨[_, _, _, _, _, _, _, _, _], [_, _, _], _, _, rfl, rfl, j1, [_, _], [_], _, _, rfl, rfl, j2, ⟨rfl, rfl⟩⟩, HF⟩
set_option maxRecDepth 100000 in
set_option maxHeartbeats 4000000 in
theorem heldHouse_l (a : Ho) (cs : List Value) (k : Nat) (hk : k + mkHo.cnt a < 9223372036854775807) (w : World) (hr : tyHo.rd w cs (mkHo.mak k a)) : Gives Tryz.prog 46 #[.agg cs.toArray, .int .i64 k] w (.int .i64 (k + mkHo.cnt a : Nat)) := by
  obtain ⟨A1, n1, k1, A2, n2, k2, A3, n3, k3, A4, n4, k4, A5, n5, k5, A6, n6, k6, A7, n7, k7, A8, n8, k8, rfl, h1, h2⟩ := Ho_form hr
  obtain ⟨a1, a2, a3⟩ := a
  have hk1 : k + mkSt.cnt a1 + mkDk.cnt a2 < 9223372036854775807 := by
    have : k + (mkSt.cnt a1 + (mkDk.cnt a2 + (0))) < 9223372036854775807 := hk
    omega
  show Gives Tryz.prog _ #[.agg #[.slice A1 n1 k1, .slice A2 n2 k2, .slice A3 n3 k3, .int .i64 a1.1.1.2.2.2, .slice A4 n4 k4, .slice A5 n5 k5, .slice A6 n6 k6, .int .i64 a1.1.2.2.2.2, .slice A7 n7 k7, .slice A8 n8 k8, .int .i64 a2.2, .int .i64 a3], _] w _
  have g1 : tySt.rd w [.slice A1 n1 k1, .slice A2 n2 k2, .slice A3 n3 k3, .int .i64 a1.1.1.2.2.2, .slice A4 n4 k4, .slice A5 n5 k5, .slice A6 n6 k6, .int .i64 a1.1.2.2.2.2, .slice A7 n7 k7] (mkSt.mak (k) a1) := h1
  have g2 : tyDk.rd w [.slice A8 n8 k8, .int .i64 a2.2] (mkDk.mak (k + mkSt.cnt a1) a2) := h2
  have c1 := fun w1 hb => heldState_l a1 _ (k) (by omega) w1 (Ty.below _ g1 hb)
  have c2 := fun w1 hb => heldDisk_l a2 _ (k + mkSt.cnt a1) (by omega) w1 (Ty.below _ g2 hb)
  have hr2 : (k + mkHo.cnt (a1, a2, a3) : Nat) = k + mkSt.cnt a1 + mkDk.cnt a2 := by
    show k + (mkSt.cnt a1 + (mkDk.cnt a2 + (0))) = _
    omega
  rw [hr2]
  clear hk hk1 hr hr2 h1 h2 g1 g2
  generalize k + mkSt.cnt a1 + mkDk.cnt a2 = kk2 at *
  generalize k + mkSt.cnt a1 = kk1 at *
  have f1 : ¬ (kk1 : Int) < 0 := by omega
  have f2 : ¬ (kk2 : Int) < 0 := by omega
  have H := Hs.start noRow w
  unfold Gives
  go_enter Tryz.func46, Tryz.ntmps46
  go_wp2_with (first | ((first | ((with_reducible apply st_load1 H); decide +kernel; rfl; exact cF) | ((with_reducible apply st_loads H); decide +kernel; rfl; exact iF; exact zF; rfl)); clear H; intro wn H; (try simp only [splice, yG, yH, yI, yJ, yK, yL, yM, yN, yO, yP, yQ, Nat.reduceAdd, yA, yB, yC] at H); simp only [Act.put, yA, yB, yC, yD, yE, yF]) | ((first | ((with_reducible apply st_box (dst := some 2) H); exact nF; intro b2) | ((with_reducible apply st_strsum H); rfl; rfl; exact szF; kernel_rfl) | ((with_reducible apply st_loadat H); decide +kernel; rfl; exact aF; exact zF; rfl)); clear H; intro wn H; simp only [Act.put, yA, yB, yC, yD, yE, yF]) | ((first | (go_at_call 38; refine gvF (c1 _ H.below) H ?_) | (go_at_call 74; refine gvF (c2 _ H.below) H ?_)); clear H; intro wn H) | fail)
  go_ret
  exact ⟨rfl, H.below⟩
set_option maxRecDepth 100000 in
set_option maxHeartbeats 4000000 in
theorem markHouseOut_l (a : HO) (cs : List Value) (k : Nat) (hk : k + mkHO.cnt a < 9223372036854775807) : Turn Tryz.prog 17 tyHO cs a (mkHO.mak k a) #[.agg cs.toArray, .int .i64 k] (.int .i64 (k + mkHO.cnt a : Nat)) := by
  intro R w0 L w N hO H
  obtain ⟨x1, y1, M1, N1, rfl, rfl, h1, hf, hM⟩ := hO
  subst hf hM
  have Hp : Hs R w0 (Hl.all M1 :: L) w := Hs.partL [M1] H
  clear H
  have H := Hp
  clear Hp
  obtain ⟨A1, n1, k1, A2, n2, k2, A3, n3, k3, A4, n4, k4, A5, n5, k5, A6, n6, k6, A7, n7, k7, A8, n8, k8, rfl⟩ := Ho_lit (own_rd H iF h1)
  obtain ⟨a1, a2⟩ := a
  simp only at h1
  show Calls Tryz.prog _ #[.agg #[.slice A1 n1 k1, .slice A2 n2 k2, .slice A3 n3 k3, .int .i64 a1.1.1.1.2.2.2, .slice A4 n4 k4, .slice A5 n5 k5, .slice A6 n6 k6, .int .i64 a1.1.1.2.2.2.2, .slice A7 n7 k7, .slice A8 n8 k8, .int .i64 a1.2.1.2, .int .i64 a1.2.2, .string a2.1, .int .i64 a2.2], _] w _
  have hk1 : k + mkHo.cnt a1 < 9223372036854775807 := by
    have : k + (mkHo.cnt a1 + (0)) < 9223372036854775807 := hk
    omega
  have c1 := markHouse_l a1 [.slice A1 n1 k1, .slice A2 n2 k2, .slice A3 n3 k3, .int .i64 a1.1.1.1.2.2.2, .slice A4 n4 k4, .slice A5 n5 k5, .slice A6 n6 k6, .int .i64 a1.1.1.2.2.2.2, .slice A7 n7 k7, .slice A8 n8 k8, .int .i64 a1.2.1.2, .int .i64 a1.2.2] (k) (by omega)
  have hr : (k + mkHO.cnt (a1, a2) : Nat) = k + mkHo.cnt a1 := by
    show k + (mkHo.cnt a1 + (0)) = _
    omega
  rw [hr]
  have hd : mkHO.mak k (a1, a2) = (mkHo.mak (k) a1, a2) := rfl
  rw [hd]
  clear hk hr hd hk1
  generalize mkHo.mak (k) a1 = b1' at *
  generalize k + mkHo.cnt a1 = kk1 at *
  have HH1 := Lib.hid h1
  clear h1
  go_enter Tryz.func17, Tryz.ntmps17
  go_wp2_with (first | ((first | ((with_reducible apply st_load1 H); decide +kernel; rfl; exact cF) | ((with_reducible apply st_loads H); decide +kernel; rfl; exact iF; exact zF; rfl)); clear H; intro wn H; (try simp only [splice, yG, yH, yI, yJ, yK, yL, yM, yN, yO, yP, yQ, Nat.reduceAdd, yA, yB, yC] at H); simp only [Act.put, yA, yB, yC, yD, yE, yF]) | ((first | ((with_reducible apply st_box (dst := some 2) H); exact nF; intro b2) | ((with_reducible apply st_loadat H); decide +kernel; rfl; exact aF; exact zF; rfl)); clear H; intro wn H; simp only [Act.put, yA, yB, yC, yD, yE, yF]) | fail)
  have Hn := H.reperm (Del.perm (h := Hl.all M1) dF)
  refine (c1 _ _ _ _ _ HH1.out Hn).mono ?_
  rintro e wn ⟨rfl, J1, j1, Hq⟩
  clear H Hn
  have H := Hq
  clear Hq
  go_wp2_with (first | ((first | ((with_reducible apply st_load1 H); decide +kernel; rfl; exact cF) | ((with_reducible apply st_loads H); decide +kernel; rfl; exact iF; exact zF; rfl)); clear H; intro wn H; (try simp only [splice, yG, yH, yI, yJ, yK, yL, yM, yN, yO, yP, yQ, Nat.reduceAdd, yA, yB, yC] at H); simp only [Act.put, yA, yB, yC, yD, yE, yF]) | ((first | ((with_reducible apply st_box (dst := some 2) H); exact nF; intro b2) | ((with_reducible apply st_loadat H); decide +kernel; rfl; exact aF; exact zF; rfl)); clear H; intro wn H; simp only [Act.put, yA, yB, yC, yD, yE, yF]) | fail)
  go_ret
  have G1 := H.reperm (Del.perm (h := Hl.all J1) dF)
  have HF := (Hs.joinL [J1] G1).off
  exact ⟨rfl, _, ⟨[_, _, _, _, _, _, _, _, _, _, _, _], [_, _], _, _, rfl, rfl, j1, ⟨rfl, rfl⟩⟩, HF⟩
set_option maxRecDepth 100000 in
set_option maxHeartbeats 4000000 in
theorem heldHouseOut_l (a : HO) (cs : List Value) (k : Nat) (hk : k + mkHO.cnt a < 9223372036854775807) (w : World) (hr : tyHO.rd w cs (mkHO.mak k a)) : Gives Tryz.prog 18 #[.agg cs.toArray, .int .i64 k] w (.int .i64 (k + mkHO.cnt a : Nat)) := by
  obtain ⟨A1, n1, k1, A2, n2, k2, A3, n3, k3, A4, n4, k4, A5, n5, k5, A6, n6, k6, A7, n7, k7, A8, n8, k8, rfl, h1⟩ := HO_form hr
  obtain ⟨a1, a2⟩ := a
  have hk1 : k + mkHo.cnt a1 < 9223372036854775807 := by
    have : k + (mkHo.cnt a1 + (0)) < 9223372036854775807 := hk
    omega
  show Gives Tryz.prog _ #[.agg #[.slice A1 n1 k1, .slice A2 n2 k2, .slice A3 n3 k3, .int .i64 a1.1.1.1.2.2.2, .slice A4 n4 k4, .slice A5 n5 k5, .slice A6 n6 k6, .int .i64 a1.1.1.2.2.2.2, .slice A7 n7 k7, .slice A8 n8 k8, .int .i64 a1.2.1.2, .int .i64 a1.2.2, .string a2.1, .int .i64 a2.2], _] w _
  have g1 : tyHo.rd w [.slice A1 n1 k1, .slice A2 n2 k2, .slice A3 n3 k3, .int .i64 a1.1.1.1.2.2.2, .slice A4 n4 k4, .slice A5 n5 k5, .slice A6 n6 k6, .int .i64 a1.1.1.2.2.2.2, .slice A7 n7 k7, .slice A8 n8 k8, .int .i64 a1.2.1.2, .int .i64 a1.2.2] (mkHo.mak (k) a1) := h1
  have c1 := fun w1 hb => heldHouse_l a1 _ (k) (by omega) w1 (Ty.below _ g1 hb)
  have hr2 : (k + mkHO.cnt (a1, a2) : Nat) = k + mkHo.cnt a1 := by
    show k + (mkHo.cnt a1 + (0)) = _
    omega
  rw [hr2]
  clear hk hk1 hr hr2 h1 g1
  generalize k + mkHo.cnt a1 = kk1 at *
  have f1 : ¬ (kk1 : Int) < 0 := by omega
  have H := Hs.start noRow w
  unfold Gives
  go_enter Tryz.func18, Tryz.ntmps18
  go_wp2_with (first | ((first | ((with_reducible apply st_load1 H); decide +kernel; rfl; exact cF) | ((with_reducible apply st_loads H); decide +kernel; rfl; exact iF; exact zF; rfl)); clear H; intro wn H; (try simp only [splice, yG, yH, yI, yJ, yK, yL, yM, yN, yO, yP, yQ, Nat.reduceAdd, yA, yB, yC] at H); simp only [Act.put, yA, yB, yC, yD, yE, yF]) | ((first | ((with_reducible apply st_box (dst := some 2) H); exact nF; intro b2) | ((with_reducible apply st_strsum H); rfl; rfl; exact szF; kernel_rfl) | ((with_reducible apply st_loadat H); decide +kernel; rfl; exact aF; exact zF; rfl)); clear H; intro wn H; simp only [Act.put, yA, yB, yC, yD, yE, yF]) | ((first | (go_at_call 46; refine gvF (c1 _ H.below) H ?_)); clear H; intro wn H) | fail)
  go_ret
  exact ⟨rfl, H.below⟩
end Dz
end Go.Proofs.YtjklmldchbakjaaGreat
