/-
  Spans, uses: lists of them marked, and the marks read: the walks. Printed by kgen.py.
-/
import Derived.Test.YtjklmldchbakjaaGreatHp
set_option linter.unusedSimpArgs false
set_option linter.unusedVariables false
namespace Go.Proofs.YtjklmldchbakjaaGreat
open Go.RowKit M
namespace M
/-- cells stored one after the other -/
def splS : List Value → Nat → List Value → List Value
  | xs, _, [] => xs
  | xs, off, v :: vs => splS (spl xs off [v]) (off + 1) vs
theorem splS_at : ∀ {vs us pre ys : List Value} {p : Nat}, pre.length = p → vs.length ≤ us.length → splS (pre ++ (us ++ ys)) p vs = pre ++ ((vs ++ us.drop vs.length) ++ ys)
  | [], us, pre, ys, p, _, _ => by simp [splS]
  | v :: vs, [], pre, ys, p, _, h => by simp at h
  | v :: vs, u :: us, pre, ys, p, hp, h => by
    have h1 := spl_one pre ys u (u :: us) v hp (j := 0) (by simp)
    rw [Nat.add_zero] at h1
    show splS (spl (pre ++ (u :: us ++ ys)) p [v]) (p + 1) vs = _
    rw [h1]
    have h2 := splS_at (vs := vs) (us := us) (pre := pre ++ [v]) (ys := ys) (p := p + 1) (by rw [List.length_append, hp]; rfl) (by simpa using h)
    have e : pre ++ ((u :: us).set 0 v ++ ys) = (pre ++ [v]) ++ (us ++ ys) := by simp
    rw [e, h2]
    simp
end M
theorem markText_at (n : Int) (k : Nat) (h : n = k) (hk : k < 9223372036854775807) (w : World) : Gives Tryz.prog 125 #[.int .i64 n] w (.string (bs (mtext k))) := by
  subst h
  exact markText_l k hk w
set_option maxRecDepth 100000 in
set_option maxHeartbeats 4000000 in
theorem markSpanS_l (v : Value) (l : List Sp) (k : Nat) (hk : k + mkSp.cntl l < 9223372036854775807) : Turn Tryz.prog 124 (Ty.sl 195 tySp) [v] l (mkSp.mkl k l) #[v, .int .i64 k] (.int .i64 (k + mkSp.cntl l : Nat)) := by
  intro R w0 L w N hO H
  obtain ⟨xs, M, A, c, rfl, hO, hcm, H⟩ := own_open hO H
  obtain rfl : M = [] := flat_noown hO
  unfold maxLen at *
  obtain ⟨n, hn⟩ : ∃ n, n = l.length := ⟨_, rfl⟩
  rw [← hn] at H ⊢
  have hn9 : n ≤ 9223372036854775807 := by obtain ⟨_, _, h1, h2, h3⟩ := (H.rows .here).slice; injection h1; unfold maxLen at h3; omega
  have HN := Lib.hid hn
  have HK := Lib.hid hk
  have HO := Lib.hid hO
  obtain ⟨tot, ht⟩ : ∃ t, t = k + mkSp.cntl l := ⟨_, rfl⟩
  rw [← ht]
  have HT := Lib.hid ht
  clear hn hk hO hcm ht
  go_enter Tryz.func124, Tryz.ntmps124
  go_wp2_with (first | ((first | ((with_reducible apply st_load1 H); decide +kernel; rfl; exact cF) | ((with_reducible apply st_loads H); decide +kernel; rfl; exact iF; exact zF; rfl) | ((with_reducible apply st_store H); rfl; exact eF; (focus (exact cells_agg _)); exact uF; kernel_rfl; (focus (exact Nat.le_of_ble_eq_true (by rfl))); (focus (first | rfl | simp))) | ((with_reducible apply st_storeown H); rfl; exact eF; (focus (exact (rfl : _ = [_]))); exact uF; (focus omega); kernel_rfl; rfl)); clear H; intro wn H; (try simp only [splice, yG, yH, yI, yJ, yK, yL, yM, yN, yO, yP, yQ, Nat.reduceAdd, yA, yB, yC] at H); simp only [Act.put, yA, yB, yC, yD, yE, yF]) | ((first | ((with_reducible apply st_strsum H); rfl; rfl; exact szF; kernel_rfl) | ((with_reducible apply st_storerow H); rfl; exact eF; (first | exact cells_agg _ | exact cellI | exact cellS | exact cellB | exact (rfl : _ = [_])); exact uF; kernel_rfl; exact Nat.succ_pos _; exact fitF; rfl)); clear H; intro wn H; simp only [Act.put, yA, yB, yC, yD, yE, yF]) | fail)
  go_loopg [1, 5] n (fun m kv iv wr => ∃ (i k' : Nat) (pre post : List Value), i + m = n ∧ iv = .int .i64 i ∧ kv = .int .i64 k' ∧ Hid (k' = k + mkSp.cntl (l.take i) ∧ OwnL tySp pre (mkSp.mkl k (l.take i)) [] ∧ OwnL tySp post (l.drop i) []) ∧ Hs R w0 (Hl.row 195 2 (.slice A n c) n (pre ++ post) :: Hl.all [] :: L) wr)
  case atStart => exact ⟨0, k, [], xs, by omega, rfl, rfl, Lib.hid ⟨rfl, .nil, HO.out⟩, H⟩
  case round =>
    clear H
    obtain ⟨i, k', pre, post, hi, rfl, rfl, HI, H⟩ := hrel
    by_cases hlt : i < n
    · obtain ⟨x, hx⟩ : ∃ x, l[i]? = some x := ⟨l[i]'(by rw [← HN.out]; exact hlt), List.getElem?_eq_getElem (by rw [← HN.out]; exact hlt)⟩
      obtain ⟨g, c2, hv, _⟩ := (H.rows .here).form (by omega)
      injection hv with hv1 hv2 hv3
      subst hv1 hv3
      have hk1 := mkSp.cnt_at_le hx
      have hk2 := HK.out
      obtain ⟨h1, h2, h3⟩ := HI.out
      obtain ⟨hlt', e⟩ := List.getElem?_eq_some_iff.1 hx
      rw [List.drop_eq_getElem_cons hlt', e] at h3
      obtain ⟨cs, ys, Mi, M3, rfl, hMM, ⟨rfl, rfl⟩, h4⟩ := h3.un
      rw [List.nil_append] at hMM
      subst hMM
      have hpl : pre.length = i * 2 := by rw [h2.len, Mark.mkl_len, List.length_take, Nat.min_eq_left (Nat.le_of_lt hlt')]; rfl
      have hcnt : mkSp.cnt x = 2 := rfl
      have hyl : ys.length + 2 + i * 2 = n * 2 := by
        have := (H.rows .here).len
        rw [List.length_append, List.length_append, hpl] at this
        have h5 : (encSp x).length = 2 := rfl
        omega
      have hk3 : k' + 2 < 9223372036854775807 := by omega
      have HI2 : Hid (k' + 2 = k + mkSp.cntl (l.take (i + 1)) ∧ OwnL tySp (pre ++ encSp (mkSp.mak k' x)) (mkSp.mkl k (l.take (i + 1))) [] ∧ OwnL tySp ys (l.drop (i + 1)) []) :=
        Lib.hid ⟨by rw [mkSp.cntl_step hx, h1, hcnt]; omega, by rw [mkSp.mkl_step hx, ← h1]; exact h2.snoc ⟨rfl, rfl⟩, h4⟩
      have HS : Hid (spl (spl (pre ++ (encSp x ++ ys)) (i * 2) [.int .i64 (k' : Nat)]) (i * 2 + 1) [.int .i64 (k' + 1 : Nat)] = pre ++ encSp (mkSp.mak k' x) ++ ys) := Lib.hid ((splS_at (vs := [.int .i64 (k' : Nat), .int .i64 (k' + 1 : Nat)]) (us := encSp x) hpl (Nat.le_refl 2)).trans (List.append_assoc ..).symm)
      have hfit : i * 2 + 2 ≤ (pre ++ (encSp x ++ ys)).length := by rw [List.length_append, List.length_append, hpl]; show i * 2 + 2 ≤ i * 2 + (2 + ys.length); omega
      have hlt1 : (i : Int) < n := by omega
      clear h1 h2 h3 h4 HI hx hk1 hk2 hcnt hyl hpl e hv2 hlt'
      unfold encSp at *
      go_wp2_with (first | ((first | ((with_reducible apply st_load1 H); decide +kernel; rfl; exact cF) | ((with_reducible apply st_loads H); decide +kernel; rfl; exact iF; exact zF; rfl) | ((with_reducible apply st_store H); rfl; exact eF; (focus (exact cells_agg _)); exact uF; kernel_rfl; (focus (exact Nat.le_of_ble_eq_true (by rfl))); (focus (first | rfl | simp))) | ((with_reducible apply st_storeown H); rfl; exact eF; (focus (exact (rfl : _ = [_]))); exact uF; (focus omega); kernel_rfl; rfl)); clear H; intro wn H; (try simp only [splice, yG, yH, yI, yJ, yK, yL, yM, yN, yO, yP, yQ, Nat.reduceAdd, yA, yB, yC] at H); simp only [Act.put, yA, yB, yC, yD, yE, yF]) | ((first | ((with_reducible apply st_strsum H); rfl; rfl; exact szF; kernel_rfl) | ((with_reducible apply st_storerow H); rfl; exact eF; (first | exact cells_agg _ | exact cellI | exact cellS | exact cellB | exact (rfl : _ = [_])); exact uF; kernel_rfl; exact Nat.succ_pos _; exact fitF; rfl)); clear H; intro wn H; simp only [Act.put, yA, yB, yC, yD, yE, yF]) | fail)
      go_roundg (n - (i + 1))
      case measure => omega
      case rel => exact ⟨i + 1, k' + 2, _, ys, by omega, by go_num, by go_num, HI2, by rw [← HS.out]; exact H⟩
    · obtain rfl : i = n := by omega
      have hlt1 : ¬ (i : Int) < i := by omega
      go_wp2_with (first | ((first | ((with_reducible apply st_load1 H); decide +kernel; rfl; exact cF) | ((with_reducible apply st_loads H); decide +kernel; rfl; exact iF; exact zF; rfl) | ((with_reducible apply st_store H); rfl; exact eF; (focus (exact cells_agg _)); exact uF; kernel_rfl; (focus (exact Nat.le_of_ble_eq_true (by rfl))); (focus (first | rfl | simp))) | ((with_reducible apply st_storeown H); rfl; exact eF; (focus (exact (rfl : _ = [_]))); exact uF; (focus omega); kernel_rfl; rfl)); clear H; intro wn H; (try simp only [splice, yG, yH, yI, yJ, yK, yL, yM, yN, yO, yP, yQ, Nat.reduceAdd, yA, yB, yC] at H); simp only [Act.put, yA, yB, yC, yD, yE, yF]) | ((first | ((with_reducible apply st_strsum H); rfl; rfl; exact szF; kernel_rfl) | ((with_reducible apply st_storerow H); rfl; exact eF; (first | exact cells_agg _ | exact cellI | exact cellS | exact cellB | exact (rfl : _ = [_])); exact uF; kernel_rfl; exact Nat.succ_pos _; exact fitF; rfl)); clear H; intro wn H; simp only [Act.put, yA, yB, yC, yD, yE, yF]) | fail)
      go_ret
      obtain ⟨h1, h2, h3⟩ := HI.out
      rw [List.take_of_length_le (by rw [← HN.out]; exact Nat.le_refl _)] at h1 h2
      rw [List.drop_of_length_le (by rw [← HN.out]; exact Nat.le_refl _)] at h3
      obtain ⟨rfl, _⟩ := h3.unNil
      rw [List.append_nil] at H
      exact ⟨congrArg (fun z : Nat => Ending.returned (.int .i64 z)) (h1.trans HT.out.symm), own_close h2 H (by rw [Mark.mkl_len]; exact HN.out)⟩
set_option maxRecDepth 100000 in
set_option maxHeartbeats 4000000 in
theorem heldSpanS_l (v : Value) (l : List Sp) (k : Nat) (hk : k + mkSp.cntl l < 9223372036854775807) (w : World) (hr : (Ty.sl 195 tySp).rd w [v] (mkSp.mkl k l)) : Gives Tryz.prog 131 #[v, .int .i64 k] w (.int .i64 (k + mkSp.cntl l : Nat)) := by
  obtain ⟨A, c, rfl, hlc, hcm⟩ := sl_form hr
  unfold maxLen at *
  have HR := Lib.hid hr
  have H := Hs.start noRow w
  have hml := mkSp.mkl_len k l
  rw [hml] at hlc HR ⊢
  obtain ⟨n, hn⟩ : ∃ n, n = l.length := ⟨_, rfl⟩
  have hnl : n ≤ 9223372036854775807 := by omega
  rw [← hn] at HR ⊢
  have HN := Lib.hid hn
  have HK := Lib.hid hk
  obtain ⟨tot, ht⟩ : ∃ t, t = k + mkSp.cntl l := ⟨_, rfl⟩
  rw [← ht]
  have HT := Lib.hid ht
  clear hr hn hlc hcm hk hml ht
  unfold Gives
  go_enter Tryz.func131, Tryz.ntmps131
  go_wp2_with (first | ((first | ((with_reducible apply st_load1 H); decide +kernel; rfl; exact cF) | ((with_reducible apply st_loads H); decide +kernel; rfl; exact iF; exact zF; rfl)); clear H; intro wn H; (try simp only [splice, yG, yH, yI, yJ, yK, yL, yM, yN, yO, yP, yQ, Nat.reduceAdd, yA, yB, yC] at H); simp only [Act.put, yA, yB, yC, yD, yE, yF]) | ((first | ((with_reducible apply st_strsum H); rfl; rfl; exact szF; kernel_rfl) | ((with_reducible apply st_loadat H); decide +kernel; rfl; exact aF; exact zF; rfl)); clear H; intro wn H; simp only [Act.put, yA, yB, yC, yD, yE, yF]) | fail)
  go_loopg [1, 5] n (fun m kv iv wr => ∃ (i k' : Nat), i + m = n ∧ iv = .int .i64 i ∧ kv = .int .i64 k' ∧ Hid (k' = k + mkSp.cntl (l.take i)) ∧ Hs noRow w [] wr)
  case atStart => exact ⟨0, k, by omega, rfl, rfl, Lib.hid rfl, H⟩
  case round =>
    clear H
    obtain ⟨i, k', hi, rfl, rfl, HI, H⟩ := hrel
    by_cases hlt : i < n
    · obtain ⟨x, hx⟩ : ∃ x, l[i]? = some x := ⟨l[i]'(by rw [← HN.out]; exact hlt), List.getElem?_eq_getElem (by rw [← HN.out]; exact hlt)⟩
      have hs := sl_at (by have := HR.out; rw [HN.out, ← Mark.mkl_len mkSp k] at this; exact this) (mkSp.mkl_at (k := k) hx)
      rw [Mark.mkl_len, ← HN.out, ← HI.out] at hs
      obtain ⟨b, off, c', cs, hv, hcs, hA⟩ := hs
      injection hv with hv1 hv2 hv3
      subst hv1 hv3
      obtain rfl : cs = encSp (mkSp.mak k' x) := hcs
      have hk1 := mkSp.cnt_at_le hx
      have hk2 := HK.out
      have hk4 := HI.out
      have hcnt : mkSp.cnt x = 2 := rfl
      have hk3 : k' + 2 < 9223372036854775807 := by omega
      have HI2 : Hid (k' + 2 = k + mkSp.cntl (l.take (i + 1))) := Lib.hid (by rw [mkSp.cntl_step hx, HI.out, hcnt]; omega)
      have hlt1 : (i : Int) < n := by omega
      have h0 : w.cell? ⟨b, off + i * 2, none⟩ = some (.int .i64 (k' : Nat)) := hA.head (u := .int .i64 (k' : Nat)) rfl
      have h1 : w.cell? ⟨b, off + i * 2 + 1, none⟩ = some (.int .i64 (k' + 1 : Nat)) := hA 1 _ rfl
      clear hx hv2 hk1 hk2 hk4 hcnt HI hA
      go_wp2_with (first | ((first | ((with_reducible apply st_load1 H); decide +kernel; rfl; exact cF) | ((with_reducible apply st_loads H); decide +kernel; rfl; exact iF; exact zF; rfl)); clear H; intro wn H; (try simp only [splice, yG, yH, yI, yJ, yK, yL, yM, yN, yO, yP, yQ, Nat.reduceAdd, yA, yB, yC] at H); simp only [Act.put, yA, yB, yC, yD, yE, yF]) | ((first | ((with_reducible apply st_strsum H); rfl; rfl; exact szF; kernel_rfl) | ((with_reducible apply st_loadat H); decide +kernel; rfl; exact aF; exact zF; rfl)); clear H; intro wn H; simp only [Act.put, yA, yB, yC, yD, yE, yF]) | fail)
      go_roundg (n - (i + 1))
      case measure => omega
      case rel => exact ⟨i + 1, k' + 2, by omega, by go_num, by go_num, HI2, H⟩
    · obtain rfl : i = n := by omega
      have hlt1 : ¬ (i : Int) < i := by omega
      go_wp2_with (first | ((first | ((with_reducible apply st_load1 H); decide +kernel; rfl; exact cF) | ((with_reducible apply st_loads H); decide +kernel; rfl; exact iF; exact zF; rfl)); clear H; intro wn H; (try simp only [splice, yG, yH, yI, yJ, yK, yL, yM, yN, yO, yP, yQ, Nat.reduceAdd, yA, yB, yC] at H); simp only [Act.put, yA, yB, yC, yD, yE, yF]) | ((first | ((with_reducible apply st_strsum H); rfl; rfl; exact szF; kernel_rfl) | ((with_reducible apply st_loadat H); decide +kernel; rfl; exact aF; exact zF; rfl)); clear H; intro wn H; simp only [Act.put, yA, yB, yC, yD, yE, yF]) | fail)
      go_ret
      have h1 := HI.out
      rw [List.take_of_length_le (by rw [← HN.out]; exact Nat.le_refl _)] at h1
      exact ⟨congrArg (fun z : Nat => Ending.returned (.int .i64 z)) (h1.trans HT.out.symm), H.below⟩
set_option maxRecDepth 100000 in
set_option maxHeartbeats 4000000 in
theorem markUseS_l (v : Value) (l : List Us) (k : Nat) (hk : k + mkUs.cntl l < 9223372036854775807) : Turn Tryz.prog 93 (Ty.sl 163 tyUs) [v] l (mkUs.mkl k l) #[v, .int .i64 k] (.int .i64 (k + mkUs.cntl l : Nat)) := by
  intro R w0 L w N hO H
  obtain ⟨xs, M, A, c, rfl, hO, hcm, H⟩ := own_open hO H
  obtain rfl : M = [] := flat_noown hO
  unfold maxLen at *
  obtain ⟨n, hn⟩ : ∃ n, n = l.length := ⟨_, rfl⟩
  rw [← hn] at H ⊢
  have hn9 : n ≤ 9223372036854775807 := by obtain ⟨_, _, h1, h2, h3⟩ := (H.rows .here).slice; injection h1; unfold maxLen at h3; omega
  have HN := Lib.hid hn
  have HK := Lib.hid hk
  have HO := Lib.hid hO
  obtain ⟨tot, ht⟩ : ∃ t, t = k + mkUs.cntl l := ⟨_, rfl⟩
  rw [← ht]
  have HT := Lib.hid ht
  clear hn hk hO hcm ht
  go_enter Tryz.func93, Tryz.ntmps93
  go_wp2_with (first | ((first | ((with_reducible apply st_load1 H); decide +kernel; rfl; exact cF) | ((with_reducible apply st_loads H); decide +kernel; rfl; exact iF; exact zF; rfl) | ((with_reducible apply st_store H); rfl; exact eF; (focus (exact cells_agg _)); exact uF; kernel_rfl; (focus (exact Nat.le_of_ble_eq_true (by rfl))); (focus (first | rfl | simp))) | ((with_reducible apply st_storeown H); rfl; exact eF; (focus (exact (rfl : _ = [_]))); exact uF; (focus omega); kernel_rfl; rfl)); clear H; intro wn H; (try simp only [splice, yG, yH, yI, yJ, yK, yL, yM, yN, yO, yP, yQ, Nat.reduceAdd, yA, yB, yC] at H); simp only [Act.put, yA, yB, yC, yD, yE, yF]) | ((first | ((with_reducible apply st_strsum H); rfl; rfl; exact szF; kernel_rfl) | ((with_reducible apply st_storerow H); rfl; exact eF; (first | exact cells_agg _ | exact cellI | exact cellS | exact cellB | exact (rfl : _ = [_])); exact uF; kernel_rfl; exact Nat.succ_pos _; exact fitF; rfl)); clear H; intro wn H; simp only [Act.put, yA, yB, yC, yD, yE, yF]) | ((first | (go_at_call 125; refine gvF (markText_at _ (k' + 2) (by omega) (by omega) _) H ?_)); clear H; intro wn H) | fail)
  go_loopg [1, 5] n (fun m kv iv wr => ∃ (i k' : Nat) (pre post : List Value), i + m = n ∧ iv = .int .i64 i ∧ kv = .int .i64 k' ∧ Hid (k' = k + mkUs.cntl (l.take i) ∧ OwnL tyUs pre (mkUs.mkl k (l.take i)) [] ∧ OwnL tyUs post (l.drop i) []) ∧ Hs R w0 (Hl.row 163 4 (.slice A n c) n (pre ++ post) :: Hl.all [] :: L) wr)
  case atStart => exact ⟨0, k, [], xs, by omega, rfl, rfl, Lib.hid ⟨rfl, .nil, HO.out⟩, H⟩
  case round =>
    clear H
    obtain ⟨i, k', pre, post, hi, rfl, rfl, HI, H⟩ := hrel
    by_cases hlt : i < n
    · obtain ⟨x, hx⟩ : ∃ x, l[i]? = some x := ⟨l[i]'(by rw [← HN.out]; exact hlt), List.getElem?_eq_getElem (by rw [← HN.out]; exact hlt)⟩
      obtain ⟨g, c2, hv, _⟩ := (H.rows .here).form (by omega)
      injection hv with hv1 hv2 hv3
      subst hv1 hv3
      have hk1 := mkUs.cnt_at_le hx
      have hk2 := HK.out
      obtain ⟨h1, h2, h3⟩ := HI.out
      obtain ⟨hlt', e⟩ := List.getElem?_eq_some_iff.1 hx
      rw [List.drop_eq_getElem_cons hlt', e] at h3
      obtain ⟨cs, ys, Mi, M3, rfl, hMM, ⟨rfl, rfl⟩, h4⟩ := h3.un
      rw [List.nil_append] at hMM
      subst hMM
      have hpl : pre.length = i * 4 := by rw [h2.len, Mark.mkl_len, List.length_take, Nat.min_eq_left (Nat.le_of_lt hlt')]; rfl
      have hcnt : mkUs.cnt x = 4 := rfl
      have hyl : ys.length + 4 + i * 4 = n * 4 := by
        have := (H.rows .here).len
        rw [List.length_append, List.length_append, hpl] at this
        have h5 : (encUs x).length = 4 := rfl
        omega
      have hk3 : k' + 4 < 9223372036854775807 := by omega
      have HI2 : Hid (k' + 4 = k + mkUs.cntl (l.take (i + 1)) ∧ OwnL tyUs (pre ++ encUs (mkUs.mak k' x)) (mkUs.mkl k (l.take (i + 1))) [] ∧ OwnL tyUs ys (l.drop (i + 1)) []) :=
        Lib.hid ⟨by rw [mkUs.cntl_step hx, h1, hcnt]; omega, by rw [mkUs.mkl_step hx, ← h1]; exact h2.snoc ⟨rfl, rfl⟩, h4⟩
      have HS : Hid (spl (spl (spl (spl (pre ++ (encUs x ++ ys)) (i * 4) [.int .i64 (k' : Nat)]) (i * 4 + 1) [.int .i64 (k' + 1 : Nat)]) (i * 4 + 2) [.string (bs (mtext (k' + 2)))]) (i * 4 + 3) [.int .i64 (k' + 3 : Nat)] = pre ++ encUs (mkUs.mak k' x) ++ ys) := Lib.hid ((splS_at (vs := [.int .i64 (k' : Nat), .int .i64 (k' + 1 : Nat), .string (bs (mtext (k' + 2))), .int .i64 (k' + 3 : Nat)]) (us := encUs x) hpl (Nat.le_refl 4)).trans (List.append_assoc ..).symm)
      have hfit : i * 4 + 4 ≤ (pre ++ (encUs x ++ ys)).length := by rw [List.length_append, List.length_append, hpl]; show i * 4 + 4 ≤ i * 4 + (4 + ys.length); omega
      have hlt1 : (i : Int) < n := by omega
      clear h1 h2 h3 h4 HI hx hk1 hk2 hcnt hyl hpl e hv2 hlt'
      unfold encUs at *
      go_wp2_with (first | ((first | ((with_reducible apply st_load1 H); decide +kernel; rfl; exact cF) | ((with_reducible apply st_loads H); decide +kernel; rfl; exact iF; exact zF; rfl) | ((with_reducible apply st_store H); rfl; exact eF; (focus (exact cells_agg _)); exact uF; kernel_rfl; (focus (exact Nat.le_of_ble_eq_true (by rfl))); (focus (first | rfl | simp))) | ((with_reducible apply st_storeown H); rfl; exact eF; (focus (exact (rfl : _ = [_]))); exact uF; (focus omega); kernel_rfl; rfl)); clear H; intro wn H; (try simp only [splice, yG, yH, yI, yJ, yK, yL, yM, yN, yO, yP, yQ, Nat.reduceAdd, yA, yB, yC] at H); simp only [Act.put, yA, yB, yC, yD, yE, yF]) | ((first | ((with_reducible apply st_strsum H); rfl; rfl; exact szF; kernel_rfl) | ((with_reducible apply st_storerow H); rfl; exact eF; (first | exact cells_agg _ | exact cellI | exact cellS | exact cellB | exact (rfl : _ = [_])); exact uF; kernel_rfl; exact Nat.succ_pos _; exact fitF; rfl)); clear H; intro wn H; simp only [Act.put, yA, yB, yC, yD, yE, yF]) | ((first | (go_at_call 125; refine gvF (markText_at _ (k' + 2) (by omega) (by omega) _) H ?_)); clear H; intro wn H) | fail)
      go_roundg (n - (i + 1))
      case measure => omega
      case rel => exact ⟨i + 1, k' + 4, _, ys, by omega, by go_num, by go_num, HI2, by rw [← HS.out]; exact H⟩
    · obtain rfl : i = n := by omega
      have hlt1 : ¬ (i : Int) < i := by omega
      go_wp2_with (first | ((first | ((with_reducible apply st_load1 H); decide +kernel; rfl; exact cF) | ((with_reducible apply st_loads H); decide +kernel; rfl; exact iF; exact zF; rfl) | ((with_reducible apply st_store H); rfl; exact eF; (focus (exact cells_agg _)); exact uF; kernel_rfl; (focus (exact Nat.le_of_ble_eq_true (by rfl))); (focus (first | rfl | simp))) | ((with_reducible apply st_storeown H); rfl; exact eF; (focus (exact (rfl : _ = [_]))); exact uF; (focus omega); kernel_rfl; rfl)); clear H; intro wn H; (try simp only [splice, yG, yH, yI, yJ, yK, yL, yM, yN, yO, yP, yQ, Nat.reduceAdd, yA, yB, yC] at H); simp only [Act.put, yA, yB, yC, yD, yE, yF]) | ((first | ((with_reducible apply st_strsum H); rfl; rfl; exact szF; kernel_rfl) | ((with_reducible apply st_storerow H); rfl; exact eF; (first | exact cells_agg _ | exact cellI | exact cellS | exact cellB | exact (rfl : _ = [_])); exact uF; kernel_rfl; exact Nat.succ_pos _; exact fitF; rfl)); clear H; intro wn H; simp only [Act.put, yA, yB, yC, yD, yE, yF]) | ((first | (go_at_call 125; refine gvF (markText_at _ (k' + 2) (by omega) (by omega) _) H ?_)); clear H; intro wn H) | fail)
      go_ret
      obtain ⟨h1, h2, h3⟩ := HI.out
      rw [List.take_of_length_le (by rw [← HN.out]; exact Nat.le_refl _)] at h1 h2
      rw [List.drop_of_length_le (by rw [← HN.out]; exact Nat.le_refl _)] at h3
      obtain ⟨rfl, _⟩ := h3.unNil
      rw [List.append_nil] at H
      exact ⟨congrArg (fun z : Nat => Ending.returned (.int .i64 z)) (h1.trans HT.out.symm), own_close h2 H (by rw [Mark.mkl_len]; exact HN.out)⟩
set_option maxRecDepth 100000 in
set_option maxHeartbeats 4000000 in
theorem heldUseS_l (v : Value) (l : List Us) (k : Nat) (hk : k + mkUs.cntl l < 9223372036854775807) (w : World) (hr : (Ty.sl 163 tyUs).rd w [v] (mkUs.mkl k l)) : Gives Tryz.prog 98 #[v, .int .i64 k] w (.int .i64 (k + mkUs.cntl l : Nat)) := by
  obtain ⟨A, c, rfl, hlc, hcm⟩ := sl_form hr
  unfold maxLen at *
  have HR := Lib.hid hr
  have H := Hs.start noRow w
  have hml := mkUs.mkl_len k l
  rw [hml] at hlc HR ⊢
  obtain ⟨n, hn⟩ : ∃ n, n = l.length := ⟨_, rfl⟩
  have hnl : n ≤ 9223372036854775807 := by omega
  rw [← hn] at HR ⊢
  have HN := Lib.hid hn
  have HK := Lib.hid hk
  obtain ⟨tot, ht⟩ : ∃ t, t = k + mkUs.cntl l := ⟨_, rfl⟩
  rw [← ht]
  have HT := Lib.hid ht
  clear hr hn hlc hcm hk hml ht
  unfold Gives
  go_enter Tryz.func98, Tryz.ntmps98
  go_wp2_with (first | ((first | ((with_reducible apply st_load1 H); decide +kernel; rfl; exact cF) | ((with_reducible apply st_loads H); decide +kernel; rfl; exact iF; exact zF; rfl)); clear H; intro wn H; (try simp only [splice, yG, yH, yI, yJ, yK, yL, yM, yN, yO, yP, yQ, Nat.reduceAdd, yA, yB, yC] at H); simp only [Act.put, yA, yB, yC, yD, yE, yF]) | ((first | ((with_reducible apply st_strsum H); rfl; rfl; exact szF; kernel_rfl) | ((with_reducible apply st_loadat H); decide +kernel; rfl; exact aF; exact zF; rfl)); clear H; intro wn H; simp only [Act.put, yA, yB, yC, yD, yE, yF]) | ((first | (go_at_call 125; refine gvF (markText_at _ (k' + 2) (by omega) (by omega) _) H ?_)); clear H; intro wn H) | ((with_reducible apply wp_region_hq (id := 10) H); kernel_rfl; kernel_rfl; (iterate 8 (all_goals ((with_reducible refine' hq_step ?_ ?_ ?_); rotate_left; rfl; (focus (intro w1 H1; first | (first | exact qF | exact qAF | exact qRF) | (unfold QOk; go_simp; exact q_call (markText_at _ (k' + 2) (by omega) (by omega) _)) | (exact qVF))); (try simp only [yG, yH, yJ, yK]); simp only [Act.put, yA, yB, yC, yD, yE, yF]))); all_goals (refine wpQuiet_nil ?_; clear H; intro wn H)) | fail)
  go_loopg [1, 5] n (fun m kv iv wr => ∃ (i k' : Nat), i + m = n ∧ iv = .int .i64 i ∧ kv = .int .i64 k' ∧ Hid (k' = k + mkUs.cntl (l.take i)) ∧ Hs noRow w [] wr)
  case atStart => exact ⟨0, k, by omega, rfl, rfl, Lib.hid rfl, H⟩
  case round =>
    clear H
    obtain ⟨i, k', hi, rfl, rfl, HI, H⟩ := hrel
    by_cases hlt : i < n
    · obtain ⟨x, hx⟩ : ∃ x, l[i]? = some x := ⟨l[i]'(by rw [← HN.out]; exact hlt), List.getElem?_eq_getElem (by rw [← HN.out]; exact hlt)⟩
      have hs := sl_at (by have := HR.out; rw [HN.out, ← Mark.mkl_len mkUs k] at this; exact this) (mkUs.mkl_at (k := k) hx)
      rw [Mark.mkl_len, ← HN.out, ← HI.out] at hs
      obtain ⟨b, off, c', cs, hv, hcs, hA⟩ := hs
      injection hv with hv1 hv2 hv3
      subst hv1 hv3
      obtain rfl : cs = encUs (mkUs.mak k' x) := hcs
      have hk1 := mkUs.cnt_at_le hx
      have hk2 := HK.out
      have hk4 := HI.out
      have hcnt : mkUs.cnt x = 4 := rfl
      have hk3 : k' + 4 < 9223372036854775807 := by omega
      have HI2 : Hid (k' + 4 = k + mkUs.cntl (l.take (i + 1))) := Lib.hid (by rw [mkUs.cntl_step hx, HI.out, hcnt]; omega)
      have hlt1 : (i : Int) < n := by omega
      have h0 : w.cell? ⟨b, off + i * 4, none⟩ = some (.int .i64 (k' : Nat)) := hA.head (u := .int .i64 (k' : Nat)) rfl
      have h1 : w.cell? ⟨b, off + i * 4 + 1, none⟩ = some (.int .i64 (k' + 1 : Nat)) := hA 1 _ rfl
      have h2 : w.cell? ⟨b, off + i * 4 + 2, none⟩ = some (.string (bs (mtext (k' + 2)))) := hA 2 _ rfl
      have h3 : w.cell? ⟨b, off + i * 4 + 3, none⟩ = some (.int .i64 (k' + 3 : Nat)) := hA 3 _ rfl
      clear hx hv2 hk1 hk2 hk4 hcnt HI hA
      go_wp2_with (first | ((first | ((with_reducible apply st_load1 H); decide +kernel; rfl; exact cF) | ((with_reducible apply st_loads H); decide +kernel; rfl; exact iF; exact zF; rfl)); clear H; intro wn H; (try simp only [splice, yG, yH, yI, yJ, yK, yL, yM, yN, yO, yP, yQ, Nat.reduceAdd, yA, yB, yC] at H); simp only [Act.put, yA, yB, yC, yD, yE, yF]) | ((first | ((with_reducible apply st_strsum H); rfl; rfl; exact szF; kernel_rfl) | ((with_reducible apply st_loadat H); decide +kernel; rfl; exact aF; exact zF; rfl)); clear H; intro wn H; simp only [Act.put, yA, yB, yC, yD, yE, yF]) | ((first | (go_at_call 125; refine gvF (markText_at _ (k' + 2) (by omega) (by omega) _) H ?_)); clear H; intro wn H) | ((with_reducible apply wp_region_hq (id := 10) H); kernel_rfl; kernel_rfl; (iterate 8 (all_goals ((with_reducible refine' hq_step ?_ ?_ ?_); rotate_left; rfl; (focus (intro w1 H1; first | (first | exact qF | exact qAF | exact qRF) | (unfold QOk; go_simp; exact q_call (markText_at _ (k' + 2) (by omega) (by omega) _)) | (exact qVF))); (try simp only [yG, yH, yJ, yK]); simp only [Act.put, yA, yB, yC, yD, yE, yF]))); all_goals (refine wpQuiet_nil ?_; clear H; intro wn H)) | fail)
      go_roundg (n - (i + 1))
      case measure => omega
      case rel => exact ⟨i + 1, k' + 4, by omega, by go_num, by go_num, HI2, H⟩
    · obtain rfl : i = n := by omega
      have hlt1 : ¬ (i : Int) < i := by omega
      go_wp2_with (first | ((first | ((with_reducible apply st_load1 H); decide +kernel; rfl; exact cF) | ((with_reducible apply st_loads H); decide +kernel; rfl; exact iF; exact zF; rfl)); clear H; intro wn H; (try simp only [splice, yG, yH, yI, yJ, yK, yL, yM, yN, yO, yP, yQ, Nat.reduceAdd, yA, yB, yC] at H); simp only [Act.put, yA, yB, yC, yD, yE, yF]) | ((first | ((with_reducible apply st_strsum H); rfl; rfl; exact szF; kernel_rfl) | ((with_reducible apply st_loadat H); decide +kernel; rfl; exact aF; exact zF; rfl)); clear H; intro wn H; simp only [Act.put, yA, yB, yC, yD, yE, yF]) | ((first | (go_at_call 125; refine gvF (markText_at _ (k' + 2) (by omega) (by omega) _) H ?_)); clear H; intro wn H) | ((with_reducible apply wp_region_hq (id := 10) H); kernel_rfl; kernel_rfl; (iterate 8 (all_goals ((with_reducible refine' hq_step ?_ ?_ ?_); rotate_left; rfl; (focus (intro w1 H1; first | (first | exact qF | exact qAF | exact qRF) | (unfold QOk; go_simp; exact q_call (markText_at _ (k' + 2) (by omega) (by omega) _)) | (exact qVF))); (try simp only [yG, yH, yJ, yK]); simp only [Act.put, yA, yB, yC, yD, yE, yF]))); all_goals (refine wpQuiet_nil ?_; clear H; intro wn H)) | fail)
      go_ret
      have h1 := HI.out
      rw [List.take_of_length_le (by rw [← HN.out]; exact Nat.le_refl _)] at h1
      exact ⟨congrArg (fun z : Nat => Ending.returned (.int .i64 z)) (h1.trans HT.out.symm), H.below⟩
end Go.Proofs.YtjklmldchbakjaaGreat
