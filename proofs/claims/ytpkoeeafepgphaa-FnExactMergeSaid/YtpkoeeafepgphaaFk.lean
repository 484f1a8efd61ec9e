/-
  Frames: lists of them marked, and the marks read: the walks. Printed by kgen.py.
-/
import Derived.Test.YtpkoeeafepgphaaFh
import Derived.Test.YtpkoeeafepgphaaHt
import Derived.Test.YtpkoeeafepgphaaHm
set_option linter.unusedSimpArgs false
set_option linter.unusedVariables false
namespace Go.Proofs.Ytpkoeeafepgphaa
open Go.RowKit M
namespace Fz
set_option maxRecDepth 100000 in
set_option maxHeartbeats 4000000 in
theorem markFrameS_l (v : Value) (l : List Fm) (k : Nat) (hk : k + mkFm.cntl l < 9223372036854775807) : Turn Try.prog 12 (Ty.sl 37 tyFm) [v] l (mkFm.mkl k l) #[v, .int .i64 k] (.int .i64 (k + mkFm.cntl l : Nat)) := by
  intro R w0 L w N hO H
  obtain ⟨xs, M, A, c, rfl, hO, hcm, H⟩ := own_open hO H
  obtain rfl : M = [] := flat_noown hO
  unfold maxLen at *
  obtain ⟨n, hn⟩ : ∃ n, n = l.length := ⟨_, rfl⟩
  rw [← hn] at H ⊢
  have hn9 : n ≤ 9223372036854775807 := by obtain ⟨_, _, h1, h2, h3⟩ := (H.rows .here).slice; injection h1; unfold maxLen at h3; omega
  have HN := Lib.hid hn
  have HK := Lib.hid hk
  have HO := Lib.hid hO
  obtain ⟨tot, ht⟩ : ∃ t, t = k + mkFm.cntl l := ⟨_, rfl⟩
  rw [← ht]
  have HT := Lib.hid ht
  clear hn hk hO hcm ht
  go_enter Try.func12, Try.ntmps12
  go_wp2_with (first | ((first | ((with_reducible apply st_load1 H); decide +kernel; rfl; exact cF) | ((with_reducible apply st_loads H); decide +kernel; rfl; exact iF; exact zF; rfl) | ((with_reducible apply st_store H); rfl; exact eF; (focus (exact cells_agg _)); exact uF; kernel_rfl; (focus (exact Nat.le_of_ble_eq_true (by rfl))); (focus (first | rfl | simp))) | ((with_reducible apply st_storeown H); rfl; exact eF; (focus (exact (rfl : _ = [_]))); exact uF; (focus omega); kernel_rfl; rfl)); clear H; intro wn H; (try simp only [splice, yG, yH, yI, yJ, yK, yL, yM, yN, yO, yP, yQ, Nat.reduceAdd, yA, yB, yC] at H); simp only [Act.put, yA, yB, yC, yD, yE, yF]) | ((first | ((with_reducible apply st_strsum H); rfl; rfl; exact szF; kernel_rfl) | ((with_reducible apply st_storerow H); rfl; exact eF; (first | exact cells_agg _ | exact cellI | exact cellS | exact cellB | exact (rfl : _ = [_])); exact uF; kernel_rfl; exact Nat.succ_pos _; exact fitF; rfl)); clear H; intro wn H; simp only [Act.put, yA, yB, yC, yD, yE, yF]) | ((first | (go_at_call 26; refine gvF (markText_at _ (k' + 1) (by omega) (by omega) _) H ?_)); clear H; intro wn H) | fail)
  go_loopg [1, 5] n (fun m kv iv wr => ∃ (i k' : Nat) (pre post : List Value), i + m = n ∧ iv = .int .i64 i ∧ kv = .int .i64 k' ∧ Hid (k' = k + mkFm.cntl (l.take i) ∧ OwnL tyFm pre (mkFm.mkl k (l.take i)) [] ∧ OwnL tyFm post (l.drop i) []) ∧ Hs R w0 (Hl.row 37 2 (.slice A n c) n (pre ++ post) :: Hl.all [] :: L) wr)
  case atStart => exact ⟨0, k, [], xs, by omega, rfl, rfl, Lib.hid ⟨rfl, .nil, HO.out⟩, H⟩
  case round =>
    clear H
    obtain ⟨i, k', pre, post, hi, rfl, rfl, HI, H⟩ := hrel
    by_cases hlt : i < n
    · obtain ⟨x, hx⟩ : ∃ x, l[i]? = some x := ⟨l[i]'(by rw [← HN.out]; exact hlt), List.getElem?_eq_getElem (by rw [← HN.out]; exact hlt)⟩
      obtain ⟨g, c2, hv, _⟩ := (H.rows .here).form (by omega)
      injection hv with hv1 hv2 hv3
      subst hv1 hv3
      have hk1 := mkFm.cnt_at_le hx
      have hk2 := HK.out
      obtain ⟨h1, h2, h3⟩ := HI.out
      obtain ⟨hlt', e⟩ := List.getElem?_eq_some_iff.1 hx
      rw [List.drop_eq_getElem_cons hlt', e] at h3
      obtain ⟨cs, ys, Mi, M3, rfl, hMM, ⟨rfl, rfl⟩, h4⟩ := h3.un
      rw [List.nil_append] at hMM
      subst hMM
      have hpl : pre.length = i * 2 := by rw [h2.len, Mark.mkl_len, List.length_take, Nat.min_eq_left (Nat.le_of_lt hlt')]; rfl
      have hcnt : mkFm.cnt x = 2 := rfl
      have hyl : ys.length + 2 + i * 2 = n * 2 := by
        have := (H.rows .here).len
        rw [List.length_append, List.length_append, hpl] at this
        have h5 : (encFm x).length = 2 := rfl
        omega
      have hk3 : k' + 2 < 9223372036854775807 := by omega
      have HI2 : Hid (k' + 2 = k + mkFm.cntl (l.take (i + 1)) ∧ OwnL tyFm (pre ++ encFm (mkFm.mak k' x)) (mkFm.mkl k (l.take (i + 1))) [] ∧ OwnL tyFm ys (l.drop (i + 1)) []) :=
        Lib.hid ⟨by rw [mkFm.cntl_step hx, h1, hcnt]; omega, by rw [mkFm.mkl_step hx, ← h1]; exact h2.snoc ⟨rfl, rfl⟩, h4⟩
      have HS : Hid (spl (spl (pre ++ (encFm x ++ ys)) (i * 2) [.int .i64 (k' : Nat)]) (i * 2 + 1) [.string (bs (mtext (k' + 1)))] = pre ++ encFm (mkFm.mak k' x) ++ ys) := Lib.hid ((splS_at (vs := [.int .i64 (k' : Nat), .string (bs (mtext (k' + 1)))]) (us := encFm x) hpl (Nat.le_refl 2)).trans (List.append_assoc ..).symm)
      have hfit : i * 2 + 2 ≤ (pre ++ (encFm x ++ ys)).length := by rw [List.length_append, List.length_append, hpl]; show i * 2 + 2 ≤ i * 2 + (2 + ys.length); omega
      have hlt1 : (i : Int) < n := by omega
      clear h1 h2 h3 h4 HI hx hk1 hk2 hcnt hyl hpl e hv2 hlt'
      unfold encFm at *
      go_wp2_with (first | ((first | ((with_reducible apply st_load1 H); decide +kernel; rfl; exact cF) | ((with_reducible apply st_loads H); decide +kernel; rfl; exact iF; exact zF; rfl) | ((with_reducible apply st_store H); rfl; exact eF; (focus (exact cells_agg _)); exact uF; kernel_rfl; (focus (exact Nat.le_of_ble_eq_true (by rfl))); (focus (first | rfl | simp))) | ((with_reducible apply st_storeown H); rfl; exact eF; (focus (exact (rfl : _ = [_]))); exact uF; (focus omega); kernel_rfl; rfl)); clear H; intro wn H; (try simp only [splice, yG, yH, yI, yJ, yK, yL, yM, yN, yO, yP, yQ, Nat.reduceAdd, yA, yB, yC] at H); simp only [Act.put, yA, yB, yC, yD, yE, yF]) | ((first | ((with_reducible apply st_strsum H); rfl; rfl; exact szF; kernel_rfl) | ((with_reducible apply st_storerow H); rfl; exact eF; (first | exact cells_agg _ | exact cellI | exact cellS | exact cellB | exact (rfl : _ = [_])); exact uF; kernel_rfl; exact Nat.succ_pos _; exact fitF; rfl)); clear H; intro wn H; simp only [Act.put, yA, yB, yC, yD, yE, yF]) | ((first | (go_at_call 26; refine gvF (markText_at _ (k' + 1) (by omega) (by omega) _) H ?_)); clear H; intro wn H) | fail)
      go_roundg (n - (i + 1))
      case measure => omega
      case rel => exact ⟨i + 1, k' + 2, _, ys, by omega, by go_num, by go_num, HI2, by rw [← HS.out]; exact H⟩
    · obtain rfl : i = n := by omega
      have hlt1 : ¬ (i : Int) < i := by omega
      go_wp2_with (first | ((first | ((with_reducible apply st_load1 H); decide +kernel; rfl; exact cF) | ((with_reducible apply st_loads H); decide +kernel; rfl; exact iF; exact zF; rfl) | ((with_reducible apply st_store H); rfl; exact eF; (focus (exact cells_agg _)); exact uF; kernel_rfl; (focus (exact Nat.le_of_ble_eq_true (by rfl))); (focus (first | rfl | simp))) | ((with_reducible apply st_storeown H); rfl; exact eF; (focus (exact (rfl : _ = [_]))); exact uF; (focus omega); kernel_rfl; rfl)); clear H; intro wn H; (try simp only [splice, yG, yH, yI, yJ, yK, yL, yM, yN, yO, yP, yQ, Nat.reduceAdd, yA, yB, yC] at H); simp only [Act.put, yA, yB, yC, yD, yE, yF]) | ((first | ((with_reducible apply st_strsum H); rfl; rfl; exact szF; kernel_rfl) | ((with_reducible apply st_storerow H); rfl; exact eF; (first | exact cells_agg _ | exact cellI | exact cellS | exact cellB | exact (rfl : _ = [_])); exact uF; kernel_rfl; exact Nat.succ_pos _; exact fitF; rfl)); clear H; intro wn H; simp only [Act.put, yA, yB, yC, yD, yE, yF]) | ((first | (go_at_call 26; refine gvF (markText_at _ (k' + 1) (by omega) (by omega) _) H ?_)); clear H; intro wn H) | fail)
      go_ret
      obtain ⟨h1, h2, h3⟩ := HI.out
      rw [List.take_of_length_le (by rw [← HN.out]; exact Nat.le_refl _)] at h1 h2
      rw [List.drop_of_length_le (by rw [← HN.out]; exact Nat.le_refl _)] at h3
      obtain ⟨rfl, _⟩ := h3.unNil
      rw [List.append_nil] at H
      exact ⟨congrArg (fun z : Nat => Ending.returned (.int .i64 z)) (h1.trans HT.out.symm), own_close h2 H (by rw [Mark.mkl_len]; exact HN.out)⟩
set_option maxRecDepth 100000 in
set_option maxHeartbeats 4000000 in
theorem heldFrameS_l (v : Value) (l : List Fm) (k : Nat) (hk : k + mkFm.cntl l < 9223372036854775807) (w : World) (hr : (Ty.sl 37 tyFm).rd w [v] (mkFm.mkl k l)) : Gives Try.prog 13 #[v, .int .i64 k] w (.int .i64 (k + mkFm.cntl l : Nat)) := by
  obtain ⟨A, c, rfl, hlc, hcm⟩ := sl_form hr
  unfold maxLen at *
  have HR := Lib.hid hr
  have H := Hs.start noRow w
  have hml := mkFm.mkl_len k l
  rw [hml] at hlc HR ⊢
  obtain ⟨n, hn⟩ : ∃ n, n = l.length := ⟨_, rfl⟩
  have hnl : n ≤ 9223372036854775807 := by omega
  rw [← hn] at HR ⊢
  have HN := Lib.hid hn
  have HK := Lib.hid hk
  obtain ⟨tot, ht⟩ : ∃ t, t = k + mkFm.cntl l := ⟨_, rfl⟩
  rw [← ht]
  have HT := Lib.hid ht
  clear hr hn hlc hcm hk hml ht
  unfold Gives
  go_enter Try.func13, Try.ntmps13
  go_wp2_with (first | ((first | ((with_reducible apply st_load1 H); decide +kernel; rfl; exact cF) | ((with_reducible apply st_loads H); decide +kernel; rfl; exact iF; exact zF; rfl)); clear H; intro wn H; (try simp only [splice, yG, yH, yI, yJ, yK, yL, yM, yN, yO, yP, yQ, Nat.reduceAdd, yA, yB, yC] at H); simp only [Act.put, yA, yB, yC, yD, yE, yF]) | ((first | ((with_reducible apply st_strsum H); rfl; rfl; exact szF; kernel_rfl) | ((with_reducible apply st_loadat H); decide +kernel; rfl; exact aF; exact zF; rfl)); clear H; intro wn H; simp only [Act.put, yA, yB, yC, yD, yE, yF]) | ((first | (go_at_call 26; refine gvF (markText_at _ (k' + 1) (by omega) (by omega) _) H ?_)); clear H; intro wn H) | ((with_reducible apply wp_region_hq (id := 7) H); kernel_rfl; kernel_rfl; (iterate 6 (all_goals ((with_reducible refine' hq_step ?_ ?_ ?_); rotate_left; rfl; (focus (intro w1 H1; first | (first | exact qF | exact qAF | exact qRF | exact qNF) | (exact qVF))); (try simp only [yG, yH, yJ, yK]); simp only [Act.put, yA, yB, yC, yD, yE, yF]))); (all_goals ((with_reducible refine' hq_step ?_ ?_ ?_); rotate_left; rfl; (focus (intro w1 H1; unfold QOk; go_simp; exact q_call (markText_at _ (k' + 1) (by omega) (by omega) _))); (try simp only [yG, yH, yJ, yK]); simp only [Act.put, yA, yB, yC, yD, yE, yF])); (iterate 1 (all_goals ((with_reducible refine' hq_step ?_ ?_ ?_); rotate_left; rfl; (focus (intro w1 H1; exact qVF)); (try simp only [yG, yH, yJ, yK]); simp only [Act.put, yA, yB, yC, yD, yE, yF]))); all_goals (refine wpQuiet_nil ?_; clear H; intro wn H)) | fail)
  go_loopg [1, 5] n (fun m kv iv wr => ∃ (i k' : Nat), i + m = n ∧ iv = .int .i64 i ∧ kv = .int .i64 k' ∧ Hid (k' = k + mkFm.cntl (l.take i)) ∧ Hs noRow w [] wr)
  case atStart => exact ⟨0, k, by omega, rfl, rfl, Lib.hid rfl, H⟩
  case round =>
    clear H
    obtain ⟨i, k', hi, rfl, rfl, HI, H⟩ := hrel
    by_cases hlt : i < n
    · obtain ⟨x, hx⟩ : ∃ x, l[i]? = some x := ⟨l[i]'(by rw [← HN.out]; exact hlt), List.getElem?_eq_getElem (by rw [← HN.out]; exact hlt)⟩
      have hs := sl_at (by have := HR.out; rw [HN.out, ← Mark.mkl_len mkFm k] at this; exact this) (mkFm.mkl_at (k := k) hx)
      rw [Mark.mkl_len, ← HN.out, ← HI.out] at hs
      obtain ⟨b, off, c', cs, hv, hcs, hA⟩ := hs
      injection hv with hv1 hv2 hv3
      subst hv1 hv3
      obtain rfl : cs = encFm (mkFm.mak k' x) := hcs
      have hk1 := mkFm.cnt_at_le hx
      have hk2 := HK.out
      have hk4 := HI.out
      have hcnt : mkFm.cnt x = 2 := rfl
      have hk3 : k' + 2 < 9223372036854775807 := by omega
      have HI2 : Hid (k' + 2 = k + mkFm.cntl (l.take (i + 1))) := Lib.hid (by rw [mkFm.cntl_step hx, HI.out, hcnt]; omega)
      have hlt1 : (i : Int) < n := by omega
      have h0 : w.cell? ⟨b, off + i * 2, none⟩ = some (.int .i64 (k' : Nat)) := hA.head (u := .int .i64 (k' : Nat)) rfl
      have h1 : w.cell? ⟨b, off + i * 2 + 1, none⟩ = some (.string (bs (mtext (k' + 1)))) := hA 1 _ rfl
      clear hx hv2 hk1 hk2 hk4 hcnt HI hA
      go_wp2_with (first | ((first | ((with_reducible apply st_load1 H); decide +kernel; rfl; exact cF) | ((with_reducible apply st_loads H); decide +kernel; rfl; exact iF; exact zF; rfl)); clear H; intro wn H; (try simp only [splice, yG, yH, yI, yJ, yK, yL, yM, yN, yO, yP, yQ, Nat.reduceAdd, yA, yB, yC] at H); simp only [Act.put, yA, yB, yC, yD, yE, yF]) | ((first | ((with_reducible apply st_strsum H); rfl; rfl; exact szF; kernel_rfl) | ((with_reducible apply st_loadat H); decide +kernel; rfl; exact aF; exact zF; rfl)); clear H; intro wn H; simp only [Act.put, yA, yB, yC, yD, yE, yF]) | ((first | (go_at_call 26; refine gvF (markText_at _ (k' + 1) (by omega) (by omega) _) H ?_)); clear H; intro wn H) | ((with_reducible apply wp_region_hq (id := 7) H); kernel_rfl; kernel_rfl; (iterate 6 (all_goals ((with_reducible refine' hq_step ?_ ?_ ?_); rotate_left; rfl; (focus (intro w1 H1; first | (first | exact qF | exact qAF | exact qRF | exact qNF) | (exact qVF))); (try simp only [yG, yH, yJ, yK]); simp only [Act.put, yA, yB, yC, yD, yE, yF]))); (all_goals ((with_reducible refine' hq_step ?_ ?_ ?_); rotate_left; rfl; (focus (intro w1 H1; unfold QOk; go_simp; exact q_call (markText_at _ (k' + 1) (by omega) (by omega) _))); (try simp only [yG, yH, yJ, yK]); simp only [Act.put, yA, yB, yC, yD, yE, yF])); (iterate 1 (all_goals ((with_reducible refine' hq_step ?_ ?_ ?_); rotate_left; rfl; (focus (intro w1 H1; exact qVF)); (try simp only [yG, yH, yJ, yK]); simp only [Act.put, yA, yB, yC, yD, yE, yF]))); all_goals (refine wpQuiet_nil ?_; clear H; intro wn H)) | fail)
      go_roundg (n - (i + 1))
      case measure => omega
      case rel => exact ⟨i + 1, k' + 2, by omega, by go_num, by go_num, HI2, H⟩
    · obtain rfl : i = n := by omega
      have hlt1 : ¬ (i : Int) < i := by omega
      go_wp2_with (first | ((first | ((with_reducible apply st_load1 H); decide +kernel; rfl; exact cF) | ((with_reducible apply st_loads H); decide +kernel; rfl; exact iF; exact zF; rfl)); clear H; intro wn H; (try simp only [splice, yG, yH, yI, yJ, yK, yL, yM, yN, yO, yP, yQ, Nat.reduceAdd, yA, yB, yC] at H); simp only [Act.put, yA, yB, yC, yD, yE, yF]) | ((first | ((with_reducible apply st_strsum H); rfl; rfl; exact szF; kernel_rfl) | ((with_reducible apply st_loadat H); decide +kernel; rfl; exact aF; exact zF; rfl)); clear H; intro wn H; simp only [Act.put, yA, yB, yC, yD, yE, yF]) | ((first | (go_at_call 26; refine gvF (markText_at _ (k' + 1) (by omega) (by omega) _) H ?_)); clear H; intro wn H) | ((with_reducible apply wp_region_hq (id := 7) H); kernel_rfl; kernel_rfl; (iterate 6 (all_goals ((with_reducible refine' hq_step ?_ ?_ ?_); rotate_left; rfl; (focus (intro w1 H1; first | (first | exact qF | exact qAF | exact qRF | exact qNF) | (exact qVF))); (try simp only [yG, yH, yJ, yK]); simp only [Act.put, yA, yB, yC, yD, yE, yF]))); (all_goals ((with_reducible refine' hq_step ?_ ?_ ?_); rotate_left; rfl; (focus (intro w1 H1; unfold QOk; go_simp; exact q_call (markText_at _ (k' + 1) (by omega) (by omega) _))); (try simp only [yG, yH, yJ, yK]); simp only [Act.put, yA, yB, yC, yD, yE, yF])); (iterate 1 (all_goals ((with_reducible refine' hq_step ?_ ?_ ?_); rotate_left; rfl; (focus (intro w1 H1; exact qVF)); (try simp only [yG, yH, yJ, yK]); simp only [Act.put, yA, yB, yC, yD, yE, yF]))); all_goals (refine wpQuiet_nil ?_; clear H; intro wn H)) | fail)
      go_ret
      have h1 := HI.out
      rw [List.take_of_length_le (by rw [← HN.out]; exact Nat.le_refl _)] at h1
      exact ⟨congrArg (fun z : Nat => Ending.returned (.int .i64 z)) (h1.trans HT.out.symm), H.below⟩
set_option maxRecDepth 100000 in
set_option maxHeartbeats 4000000 in
theorem markFrameSS_l (v : Value) (l : List (List Fm)) (k : Nat) (hk : k + mkFm.list.cntl l < 9223372036854775807) : Turn Try.prog 11 (Ty.sl 24 (Ty.sl 37 tyFm)) [v] l (mkFm.list.mkl k l) #[v, .int .i64 k] (.int .i64 (k + mkFm.list.cntl l : Nat)) := by
  intro R w0 L w N hO H
  obtain ⟨xs, M, A, c, rfl, hO, hcm, H⟩ := own_open hO H
  unfold maxLen at *
  obtain ⟨n, hn⟩ : ∃ n, n = l.length := ⟨_, rfl⟩
  rw [← hn] at H ⊢
  have hn9 : n ≤ 9223372036854775807 := by obtain ⟨_, _, h1, h2, h3⟩ := (H.rows .here).slice; injection h1; unfold maxLen at h3; omega
  have HN := Lib.hid hn
  have HK := Lib.hid hk
  have HO := Lib.hid hO
  obtain ⟨tot, ht⟩ : ∃ t, t = k + mkFm.list.cntl l := ⟨_, rfl⟩
  rw [← ht]
  have HT := Lib.hid ht
  have H2 : Hs R w0 (Hl.row 24 1 (.slice A n c) n xs :: Hl.all [] :: Hl.all M :: L) w := H.allNil.reperm (List.Perm.swap ..)
  clear H
  have H := H2
  clear H2
  clear hn hk hO hcm ht
  go_enter Try.func11, Try.ntmps11
  go_wp2_with (first | ((first | ((with_reducible apply st_load1 H); decide +kernel; rfl; exact cF) | ((with_reducible apply st_loads H); decide +kernel; rfl; exact iF; exact zF; rfl)); clear H; intro wn H; (try simp only [splice, yG, yH, yI, yJ, yK, yL, yM, yN, yO, yP, yQ, Nat.reduceAdd, yA, yB, yC] at H); simp only [Act.put, yA, yB, yC, yD, yE, yF]) | ((first | ((with_reducible apply st_strsum H); rfl; rfl; exact szF; kernel_rfl) | ((with_reducible apply st_loadat H); decide +kernel; rfl; exact aF; exact zF; rfl)); clear H; intro wn H; simp only [Act.put, yA, yB, yC, yD, yE, yF]) | ((with_reducible apply st_load1 H); decide +kernel; rfl; (focus exact (At.row H iF (by assumption)).head rfl); clear H; intro wn H; simp only [Act.put, yA, yB, yC, yD, yE, yF]) | fail)
  go_loopg [1, 5] n (fun m kv iv wr => ∃ (i k' : Nat) (pre post : List Value) (N1 N2 : List Hl), i + m = n ∧ iv = .int .i64 i ∧ kv = .int .i64 k' ∧ Hid (k' = k + mkFm.list.cntl (l.take i) ∧ OwnL (Ty.sl 37 tyFm) pre (mkFm.list.mkl k (l.take i)) N1 ∧ OwnL (Ty.sl 37 tyFm) post (l.drop i) N2) ∧ Hs R w0 (Hl.row 24 1 (.slice A n c) n (pre ++ post) :: Hl.all N1 :: Hl.all N2 :: L) wr)
  case atStart => exact ⟨0, k, [], xs, [], M, by omega, rfl, rfl, Lib.hid ⟨rfl, .nil, HO.out⟩, H⟩
  case round =>
    clear H
    obtain ⟨i, k', pre, post, N1, N2, hi, rfl, rfl, HI, H⟩ := hrel
    by_cases hlt : i < n
    · obtain ⟨x, hx⟩ : ∃ x, l[i]? = some x := ⟨l[i]'(by rw [← HN.out]; exact hlt), List.getElem?_eq_getElem (by rw [← HN.out]; exact hlt)⟩
      obtain ⟨g, c2, hv, _⟩ := (H.rows .here).form (by omega)
      injection hv with hv1 hv2 hv3
      subst hv1 hv3
      have hk1 := mkFm.list.cnt_at_le hx
      have hk2 := HK.out
      obtain ⟨h1, h2, h3⟩ := HI.out
      obtain ⟨hlt', e⟩ := List.getElem?_eq_some_iff.1 hx
      rw [List.drop_eq_getElem_cons hlt', e] at h3
      obtain ⟨cs, ys, Mi, M3, rfl, rfl, hcs, h4⟩ := h3.un
      obtain ⟨u, hu⟩ : ∃ u, cs = [u] := by obtain ⟨u, _, _, rfl, _⟩ := hcs; exact ⟨u, rfl⟩
      subst hu
      have hpl : pre.length = i := by rw [h2.len, Mark.mkl_len, List.length_take, Nat.min_eq_left (Nat.le_of_lt hlt')]; exact Nat.mul_one i
      have hseg : Seg (pre ++ ([u] ++ ys)) i [u] := seg_mid pre [u] ys hpl
      have hk3 : k' + mkFm.cntl x < 9223372036854775807 := by have : mkFm.list.cnt x = mkFm.cntl x := rfl; omega
      have HI2 : Hid (k' + mkFm.cntl x = k + mkFm.list.cntl (l.take (i + 1))) := Lib.hid (by rw [mkFm.list.cntl_step hx, h1]; show _ = k + (_ + mkFm.cntl x); omega)
      have HI3 : Hid (∀ Mj, (Ty.sl 37 tyFm).own [u] (mkFm.mkl k' x) Mj → OwnL (Ty.sl 37 tyFm) (pre ++ [u]) (mkFm.list.mkl k (l.take (i + 1))) (N1 ++ Mj)) := Lib.hid (fun Mj hj => by rw [mkFm.list.mkl_step hx, ← h1]; exact h2.snoc hj)
      have HI4 := Lib.hid h4
      have HCS := Lib.hid hcs
      have hlt1 : (i : Int) < n := by omega
      clear h1 h2 h3 h4 HI hx hk1 hk2 hpl e hv2 hlt' hcs
      go_wp2_with (first | ((first | ((with_reducible apply st_load1 H); decide +kernel; rfl; exact cF) | ((with_reducible apply st_loads H); decide +kernel; rfl; exact iF; exact zF; rfl)); clear H; intro wn H; (try simp only [splice, yG, yH, yI, yJ, yK, yL, yM, yN, yO, yP, yQ, Nat.reduceAdd, yA, yB, yC] at H); simp only [Act.put, yA, yB, yC, yD, yE, yF]) | ((first | ((with_reducible apply st_strsum H); rfl; rfl; exact szF; kernel_rfl) | ((with_reducible apply st_loadat H); decide +kernel; rfl; exact aF; exact zF; rfl)); clear H; intro wn H; simp only [Act.put, yA, yB, yC, yD, yE, yF]) | ((with_reducible apply st_load1 H); decide +kernel; rfl; (focus exact (At.row H iF (by assumption)).head rfl); clear H; intro wn H; simp only [Act.put, yA, yB, yC, yD, yE, yF]) | fail)
      refine (markFrameS_l u x k' hk3 _ _ _ _ _ HCS.out H.take2).mono ?_
      rintro e wn ⟨rfl, Mj, hj, Hn⟩
      clear H
      have H := Hn.give2
      clear Hn
      have HI5 := Lib.hid (HI3.out Mj hj)
      clear hj
      go_wp2_with (first | ((first | ((with_reducible apply st_load1 H); decide +kernel; rfl; exact cF) | ((with_reducible apply st_loads H); decide +kernel; rfl; exact iF; exact zF; rfl)); clear H; intro wn H; (try simp only [splice, yG, yH, yI, yJ, yK, yL, yM, yN, yO, yP, yQ, Nat.reduceAdd, yA, yB, yC] at H); simp only [Act.put, yA, yB, yC, yD, yE, yF]) | ((first | ((with_reducible apply st_strsum H); rfl; rfl; exact szF; kernel_rfl) | ((with_reducible apply st_loadat H); decide +kernel; rfl; exact aF; exact zF; rfl)); clear H; intro wn H; simp only [Act.put, yA, yB, yC, yD, yE, yF]) | ((with_reducible apply st_load1 H); decide +kernel; rfl; (focus exact (At.row H iF (by assumption)).head rfl); clear H; intro wn H; simp only [Act.put, yA, yB, yC, yD, yE, yF]) | fail)
      go_roundg (n - (i + 1))
      case measure => omega
      case rel => exact ⟨i + 1, k' + mkFm.cntl x, pre ++ [u], ys, N1 ++ Mj, M3, by omega, by go_num, by go_num, Lib.hid ⟨HI2.out, HI5.out, HI4.out⟩, by rw [List.append_assoc]; exact H⟩
    · obtain rfl : i = n := by omega
      have hlt1 : ¬ (i : Int) < i := by omega
      go_wp2_with (first | ((first | ((with_reducible apply st_load1 H); decide +kernel; rfl; exact cF) | ((with_reducible apply st_loads H); decide +kernel; rfl; exact iF; exact zF; rfl)); clear H; intro wn H; (try simp only [splice, yG, yH, yI, yJ, yK, yL, yM, yN, yO, yP, yQ, Nat.reduceAdd, yA, yB, yC] at H); simp only [Act.put, yA, yB, yC, yD, yE, yF]) | ((first | ((with_reducible apply st_strsum H); rfl; rfl; exact szF; kernel_rfl) | ((with_reducible apply st_loadat H); decide +kernel; rfl; exact aF; exact zF; rfl)); clear H; intro wn H; simp only [Act.put, yA, yB, yC, yD, yE, yF]) | ((with_reducible apply st_load1 H); decide +kernel; rfl; (focus exact (At.row H iF (by assumption)).head rfl); clear H; intro wn H; simp only [Act.put, yA, yB, yC, yD, yE, yF]) | fail)
      go_ret
      obtain ⟨h1, h2, h3⟩ := HI.out
      rw [List.take_of_length_le (by rw [← HN.out]; exact Nat.le_refl _)] at h1 h2
      rw [List.drop_of_length_le (by rw [← HN.out]; exact Nat.le_refl _)] at h3
      obtain ⟨rfl, rfl⟩ := h3.unNil
      rw [List.append_nil] at H
      have H2 := own_close h2 H (by rw [Mark.mkl_len]; exact HN.out)
      obtain ⟨N, hN, H3⟩ := H2
      exact ⟨congrArg (fun z : Nat => Ending.returned (.int .i64 z)) (h1.trans HT.out.symm), N, hN, H3.sub (List.Sublist.cons_cons _ (List.sublist_cons_self _ _))⟩
end Fz
end Go.Proofs.Ytpkoeeafepgphaa
