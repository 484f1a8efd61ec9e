/-
  Nodes, tasks: lists of them marked, and the marks read: the walks. Printed by kgen.py.
-/
import Derived.Test.YtjklmldchbakjaaGreatHt
import Derived.Test.YtjklmldchbakjaaGreatHv
import Derived.Test.YtjklmldchbakjaaGreatHm
set_option linter.unusedSimpArgs false
set_option linter.unusedVariables false
namespace Go.Proofs.YtjklmldchbakjaaGreat
open Go.RowKit M
set_option maxRecDepth 100000 in
set_option maxHeartbeats 4000000 in
theorem markNodeS_l (v : Value) (l : List Nd) (k : Nat) (hk : k + mkNd.cntl l < 9223372036854775807) : Turn Tryz.prog 91 (Ty.sl 126 tyNd) [v] l (mkNd.mkl k l) #[v, .int .i64 k] (.int .i64 (k + mkNd.cntl l : Nat)) := by
  intro R w0 L w N hO H
  obtain ⟨xs, M, A, c, rfl, hO, hcm, H⟩ := own_open hO H
  unfold maxLen at *
  obtain ⟨n, hn⟩ : ∃ n, n = l.length := ⟨_, rfl⟩
  rw [← hn] at H ⊢
  have hn9 : n ≤ 9223372036854775807 := by obtain ⟨_, _, h1, h2, h3⟩ := (H.rows .here).slice; injection h1; unfold maxLen at h3; omega
  have HN := Lib.hid hn
  have HK := Lib.hid hk
  have HO := Lib.hid hO
  obtain ⟨tot, ht⟩ : ∃ t, t = k + mkNd.cntl l := ⟨_, rfl⟩
  rw [← ht]
  have HT := Lib.hid ht
  have H2 : Hs R w0 (Hl.row 126 2 (.slice A n c) n xs :: Hl.all [] :: Hl.all M :: L) w := H.allNil.reperm (List.Perm.swap ..)
  clear H
  have H := H2
  clear H2
  clear hn hk hO hcm ht
  go_enter Tryz.func91, Tryz.ntmps91
  go_wp2_with (first | ((with_reducible apply st_load1 H); decide +kernel; rfl; (focus exact (At.row H .here hseg).head rfl); clear H; intro wn H; simp only [Act.put, yA, yB, yC, yD, yE, yF]) | ((first | ((with_reducible apply st_load1 H); decide +kernel; rfl; exact cF) | ((with_reducible apply st_loads H); decide +kernel; rfl; exact iF; exact zF; rfl) | ((with_reducible apply st_store H); rfl; exact eF; (focus (exact cells_agg _)); exact uF; kernel_rfl; (focus (exact Nat.le_of_ble_eq_true (by rfl))); (focus (first | rfl | simp))) | ((with_reducible apply st_storeown H); rfl; exact eF; (focus (exact (rfl : _ = [_]))); exact uF; (focus omega); kernel_rfl; rfl)); clear H; intro wn H; (try simp only [splice, yG, yH, yI, yJ, yK, yL, yM, yN, yO, yP, yQ, Nat.reduceAdd, yA, yB, yC] at H); simp only [Act.put, yA, yB, yC, yD, yE, yF]) | ((first | ((with_reducible apply st_strsum H); rfl; rfl; exact szF; kernel_rfl) | ((with_reducible apply st_loadat H); decide +kernel; rfl; exact aF; exact zF; rfl) | ((with_reducible apply st_storerow H); rfl; exact eF; (first | exact cells_agg _ | exact cellI | exact cellS | exact cellB | exact (rfl : _ = [_])); exact uF; kernel_rfl; exact Nat.succ_pos _; exact fitF; rfl)); clear H; intro wn H; simp only [Act.put, yA, yB, yC, yD, yE, yF]) | fail)
  go_loopg [1, 5] n (fun m kv iv wr => ∃ (i k' : Nat) (pre post : List Value) (N1 N2 : List Hl), i + m = n ∧ iv = .int .i64 i ∧ kv = .int .i64 k' ∧ Hid (k' = k + mkNd.cntl (l.take i) ∧ OwnL tyNd pre (mkNd.mkl k (l.take i)) N1 ∧ OwnL tyNd post (l.drop i) N2) ∧ Hs R w0 (Hl.row 126 2 (.slice A n c) n (pre ++ post) :: Hl.all N1 :: Hl.all N2 :: L) wr)
  case atStart => exact ⟨0, k, [], xs, [], M, by omega, rfl, rfl, Lib.hid ⟨rfl, .nil, HO.out⟩, H⟩
  case round =>
    clear H
    obtain ⟨i, k', pre, post, N1, N2, hi, rfl, rfl, HI, H⟩ := hrel
    by_cases hlt : i < n
    · obtain ⟨x, hx⟩ : ∃ x, l[i]? = some x := ⟨l[i]'(by rw [← HN.out]; exact hlt), List.getElem?_eq_getElem (by rw [← HN.out]; exact hlt)⟩
      obtain ⟨g, c2, hv, _⟩ := (H.rows .here).form (by omega)
      injection hv with hv1 hv2 hv3
      subst hv1 hv3
      have hk1 := mkNd.cnt_at_le hx
      have hk2 := HK.out
      obtain ⟨h1, h2, h3⟩ := HI.out
      obtain ⟨hlt', e⟩ := List.getElem?_eq_some_iff.1 hx
      rw [List.drop_eq_getElem_cons hlt', e] at h3
      obtain ⟨cs, ys, Mi, M3, rfl, rfl, hcs, h4⟩ := h3.un
      obtain ⟨a1, q1, M1, P1, rfl, rfl, g1, g2⟩ := hcs
      obtain ⟨rfl, rfl⟩ := g1
      obtain ⟨u1, hu1⟩ : ∃ v, q1 = [v] := by obtain ⟨v, _, _, rfl, _⟩ := g2; exact ⟨v, rfl⟩
      subst hu1
      rw [List.nil_append] at H
      obtain ⟨E1, e2, e3, rfl⟩ : ∃ E1 e2 e3, u1 = .slice E1 e2 e3 := by
        have Hm := H.take2
        obtain ⟨A, c, e, _⟩ := sl_form (own_rd Hm .here g2)
        exact ⟨A, _, c, e⟩
      have hpl : pre.length = i * 2 := by rw [h2.len, Mark.mkl_len, List.length_take, Nat.min_eq_left (Nat.le_of_lt hlt')]; rfl
      have hcnt : mkNd.cnt x = 1 + mkSp.cntl x.2 := rfl
      have hyl : ys.length + 2 + i * 2 = n * 2 := by
        have := (H.rows .here).len
        rw [List.length_append, List.length_append, hpl] at this
        have h5 : (encNum x.1 ++ [Value.slice E1 e2 e3]).length = 2 := rfl
        omega
      have hk3 : k' + 1 + mkSp.cntl x.2 < 9223372036854775807 := by omega
      have hcast : ∀ m : Nat, (m : Int) + 1 = ((m + 1 : Nat) : Int) := fun _ => rfl
      have hspl : spl (pre ++ (([.int .i64 x.1, .slice E1 e2 e3] : List Value) ++ ys)) (i * 2) [.int .i64 ((k' : Int))] = pre ++ (([.int .i64 (k' : Nat)] ++ [.slice E1 e2 e3]) ++ ys) := by
        (try simp only [hcast])
        exact splS_at (vs := [.int .i64 (k' : Nat)]) (us := ([.int .i64 x.1, .slice E1 e2 e3] : List Value)) hpl (Nat.le_add_right 1 1)
      clear hcast
      have hseg : Seg (spl (pre ++ (([.int .i64 x.1, .slice E1 e2 e3] : List Value) ++ ys)) (i * 2) [.int .i64 ((k' : Int))]) (i * 2 + 1) [.slice E1 e2 e3] := by
        rw [hspl]
        exact fun j u hu => by match j, hu with | 0, hu => exact seg_mid pre [.int .i64 (k' : Nat), .slice E1 e2 e3] ys hpl 1 u hu
      have HI2 : Hid (k' + 1 + mkSp.cntl x.2 = k + mkNd.cntl (l.take (i + 1))) := Lib.hid (by rw [mkNd.cntl_step hx, h1]; omega)
      have HI3 : Hid (∀ J1, (Ty.sl 195 tySp).own [.slice E1 e2 e3] (mkSp.mkl (k' + 1) x.2) J1 → OwnL tyNd (pre ++ ([.int .i64 (k' : Nat)] ++ [.slice E1 e2 e3])) (mkNd.mkl k (l.take (i + 1))) (N1 ++ J1)) := Lib.hid (fun J1 j1 => by
        rw [mkNd.mkl_step hx, ← h1]
        exact h2.snoc ⟨_, _, [], _, rfl, rfl, ⟨rfl, rfl⟩, j1⟩)
      have HS := Lib.hid hspl
      have HI4 := Lib.hid h4
      have HG2 := Lib.hid g2
      have hfit : i * 2 + 2 ≤ (pre ++ (([.int .i64 x.1, .slice E1 e2 e3] : List Value) ++ ys)).length := by rw [List.length_append, List.length_append, hpl]; show i * 2 + 2 ≤ i * 2 + (2 + ys.length); omega
      have c1 := markSpanS_l (.slice E1 e2 e3) x.2 (k' + 1) (by omega)
      have hlt1 : (i : Int) < n := by omega
      clear h1 h2 h3 h4 HI hx hk1 hk2 hpl e hv2 hlt' g2 hcnt hyl hspl
      replace H : Hs R w0 (Hl.row 126 2 (.slice (some ⟨g, 0, none⟩) n c) n (pre ++ (([.int .i64 x.1, .slice E1 e2 e3] : List Value) ++ ys)) :: Hl.all N1 :: Hl.all (P1 ++ M3) :: L) _ := H
      have Hq := H.take2.up1
      clear H
      have H := Hq
      clear Hq
      go_wp2_with (first | ((with_reducible apply st_load1 H); decide +kernel; rfl; (focus exact (At.row H .here hseg).head rfl); clear H; intro wn H; simp only [Act.put, yA, yB, yC, yD, yE, yF]) | ((first | ((with_reducible apply st_load1 H); decide +kernel; rfl; exact cF) | ((with_reducible apply st_loads H); decide +kernel; rfl; exact iF; exact zF; rfl) | ((with_reducible apply st_store H); rfl; exact eF; (focus (exact cells_agg _)); exact uF; kernel_rfl; (focus (exact Nat.le_of_ble_eq_true (by rfl))); (focus (first | rfl | simp))) | ((with_reducible apply st_storeown H); rfl; exact eF; (focus (exact (rfl : _ = [_]))); exact uF; (focus omega); kernel_rfl; rfl)); clear H; intro wn H; (try simp only [splice, yG, yH, yI, yJ, yK, yL, yM, yN, yO, yP, yQ, Nat.reduceAdd, yA, yB, yC] at H); simp only [Act.put, yA, yB, yC, yD, yE, yF]) | ((first | ((with_reducible apply st_strsum H); rfl; rfl; exact szF; kernel_rfl) | ((with_reducible apply st_loadat H); decide +kernel; rfl; exact aF; exact zF; rfl) | ((with_reducible apply st_storerow H); rfl; exact eF; (first | exact cells_agg _ | exact cellI | exact cellS | exact cellB | exact (rfl : _ = [_])); exact uF; kernel_rfl; exact Nat.succ_pos _; exact fitF; rfl)); clear H; intro wn H; simp only [Act.put, yA, yB, yC, yD, yE, yF]) | fail)
      refine (c1 _ _ _ _ _ HG2.out H.up1).mono ?_
      rintro e wn ⟨rfl, J1, j1, Hn⟩
      clear H
      have H := Hn
      clear Hn
      rw [HS.out] at H
      have Hq := H.give2
      clear H
      have H := Hq
      clear Hq
      have HI5 := Lib.hid (HI3.out J1 j1)
      clear j1 c1 HI3 HS hseg hfit
      generalize k' + 1 + mkSp.cntl x.2 = k4 at *
      go_wp2_with (first | ((with_reducible apply st_load1 H); decide +kernel; rfl; (focus exact (At.row H .here hseg).head rfl); clear H; intro wn H; simp only [Act.put, yA, yB, yC, yD, yE, yF]) | ((first | ((with_reducible apply st_load1 H); decide +kernel; rfl; exact cF) | ((with_reducible apply st_loads H); decide +kernel; rfl; exact iF; exact zF; rfl) | ((with_reducible apply st_store H); rfl; exact eF; (focus (exact cells_agg _)); exact uF; kernel_rfl; (focus (exact Nat.le_of_ble_eq_true (by rfl))); (focus (first | rfl | simp))) | ((with_reducible apply st_storeown H); rfl; exact eF; (focus (exact (rfl : _ = [_]))); exact uF; (focus omega); kernel_rfl; rfl)); clear H; intro wn H; (try simp only [splice, yG, yH, yI, yJ, yK, yL, yM, yN, yO, yP, yQ, Nat.reduceAdd, yA, yB, yC] at H); simp only [Act.put, yA, yB, yC, yD, yE, yF]) | ((first | ((with_reducible apply st_strsum H); rfl; rfl; exact szF; kernel_rfl) | ((with_reducible apply st_loadat H); decide +kernel; rfl; exact aF; exact zF; rfl) | ((with_reducible apply st_storerow H); rfl; exact eF; (first | exact cells_agg _ | exact cellI | exact cellS | exact cellB | exact (rfl : _ = [_])); exact uF; kernel_rfl; exact Nat.succ_pos _; exact fitF; rfl)); clear H; intro wn H; simp only [Act.put, yA, yB, yC, yD, yE, yF]) | fail)
      go_roundg (n - (i + 1))
      case measure => omega
      case rel => exact ⟨i + 1, k4, _, ys, _, M3, by omega, by go_num, by go_num, Lib.hid ⟨HI2.out, HI5.out, HI4.out⟩, by rw [List.append_assoc]; exact H⟩
    · obtain rfl : i = n := by omega
      have hlt1 : ¬ (i : Int) < i := by omega
      go_wp2_with (first | ((with_reducible apply st_load1 H); decide +kernel; rfl; (focus exact (At.row H .here hseg).head rfl); clear H; intro wn H; simp only [Act.put, yA, yB, yC, yD, yE, yF]) | ((first | ((with_reducible apply st_load1 H); decide +kernel; rfl; exact cF) | ((with_reducible apply st_loads H); decide +kernel; rfl; exact iF; exact zF; rfl) | ((with_reducible apply st_store H); rfl; exact eF; (focus (exact cells_agg _)); exact uF; kernel_rfl; (focus (exact Nat.le_of_ble_eq_true (by rfl))); (focus (first | rfl | simp))) | ((with_reducible apply st_storeown H); rfl; exact eF; (focus (exact (rfl : _ = [_]))); exact uF; (focus omega); kernel_rfl; rfl)); clear H; intro wn H; (try simp only [splice, yG, yH, yI, yJ, yK, yL, yM, yN, yO, yP, yQ, Nat.reduceAdd, yA, yB, yC] at H); simp only [Act.put, yA, yB, yC, yD, yE, yF]) | ((first | ((with_reducible apply st_strsum H); rfl; rfl; exact szF; kernel_rfl) | ((with_reducible apply st_loadat H); decide +kernel; rfl; exact aF; exact zF; rfl) | ((with_reducible apply st_storerow H); rfl; exact eF; (first | exact cells_agg _ | exact cellI | exact cellS | exact cellB | exact (rfl : _ = [_])); exact uF; kernel_rfl; exact Nat.succ_pos _; exact fitF; rfl)); clear H; intro wn H; simp only [Act.put, yA, yB, yC, yD, yE, yF]) | fail)
      go_ret
      obtain ⟨h1, h2, h3⟩ := HI.out
      rw [List.take_of_length_le (by rw [← HN.out]; exact Nat.le_refl _)] at h1 h2
      rw [List.drop_of_length_le (by rw [← HN.out]; exact Nat.le_refl _)] at h3
      obtain ⟨rfl, rfl⟩ := h3.unNil
      rw [List.append_nil] at H
      have H2 := own_close h2 H (by rw [Mark.mkl_len]; exact HN.out)
      obtain ⟨N, hN, H3⟩ := H2
      exact ⟨congrArg (fun z : Nat => Ending.returned (.int .i64 z)) (h1.trans HT.out.symm), N, hN, H3.sub (List.Sublist.cons_cons _ (List.sublist_cons_self _ _))⟩
set_option maxRecDepth 100000 in
set_option maxHeartbeats 4000000 in
theorem heldNodeS_l (v : Value) (l : List Nd) (k : Nat) (hk : k + mkNd.cntl l < 9223372036854775807) (w : World) (hr : (Ty.sl 126 tyNd).rd w [v] (mkNd.mkl k l)) : Gives Tryz.prog 96 #[v, .int .i64 k] w (.int .i64 (k + mkNd.cntl l : Nat)) := by
  obtain ⟨A, c, rfl, hlc, hcm⟩ := sl_form hr
  unfold maxLen at *
  have HR := Lib.hid hr
  have H := Hs.start noRow w
  have hml := mkNd.mkl_len k l
  rw [hml] at hlc HR ⊢
  obtain ⟨n, hn⟩ : ∃ n, n = l.length := ⟨_, rfl⟩
  have hnl : n ≤ 9223372036854775807 := by omega
  rw [← hn] at HR ⊢
  have HN := Lib.hid hn
  have HK := Lib.hid hk
  obtain ⟨tot, ht⟩ : ∃ t, t = k + mkNd.cntl l := ⟨_, rfl⟩
  rw [← ht]
  have HT := Lib.hid ht
  clear hr hn hlc hcm hk hml ht
  unfold Gives
  go_enter Tryz.func96, Tryz.ntmps96
  go_wp2_with (first | ((with_reducible apply st_load1 H); decide +kernel; rfl; (focus exact (At.row H .here hseg).head rfl); clear H; intro wn H; simp only [Act.put, yA, yB, yC, yD, yE, yF]) | ((first | ((with_reducible apply st_load1 H); decide +kernel; rfl; exact cF) | ((with_reducible apply st_loads H); decide +kernel; rfl; exact iF; exact zF; rfl)); clear H; intro wn H; (try simp only [splice, yG, yH, yI, yJ, yK, yL, yM, yN, yO, yP, yQ, Nat.reduceAdd, yA, yB, yC] at H); simp only [Act.put, yA, yB, yC, yD, yE, yF]) | ((first | ((with_reducible apply st_strsum H); rfl; rfl; exact szF; kernel_rfl) | ((with_reducible apply st_loadat H); decide +kernel; rfl; exact aF; exact zF; rfl)); clear H; intro wn H; simp only [Act.put, yA, yB, yC, yD, yE, yF]) | ((first | (go_at_call 131; refine gvF (c1 _ H.below) H ?_)); clear H; intro wn H) | fail)
  go_loopg [1, 5] n (fun m kv iv wr => ∃ (i k' : Nat), i + m = n ∧ iv = .int .i64 i ∧ kv = .int .i64 k' ∧ Hid (k' = k + mkNd.cntl (l.take i)) ∧ Hs noRow w [] wr)
  case atStart => exact ⟨0, k, by omega, rfl, rfl, Lib.hid rfl, H⟩
  case round =>
    clear H
    obtain ⟨i, k', hi, rfl, rfl, HI, H⟩ := hrel
    by_cases hlt : i < n
    · obtain ⟨x, hx⟩ : ∃ x, l[i]? = some x := ⟨l[i]'(by rw [← HN.out]; exact hlt), List.getElem?_eq_getElem (by rw [← HN.out]; exact hlt)⟩
      have hs := sl_at (by have := HR.out; rw [HN.out, ← Mark.mkl_len mkNd k] at this; exact this) (mkNd.mkl_at (k := k) hx)
      rw [Mark.mkl_len, ← HN.out, ← HI.out] at hs
      obtain ⟨b, off, c', cs, hv, hcs, hA⟩ := hs
      injection hv with hv1 hv2 hv3
      subst hv1 hv3
      obtain ⟨E1, e2, e3, hu, g1⟩ := Nd_form hcs
      subst hu
      have hk1 := mkNd.cnt_at_le hx
      have hk2 := HK.out
      have hk4 := HI.out
      have hcnt : mkNd.cnt x = 1 + mkSp.cntl x.2 := rfl
      have hk3 : k' + 1 + mkSp.cntl x.2 < 9223372036854775807 := by omega
      have HI2 : Hid (k' + 1 + mkSp.cntl x.2 = k + mkNd.cntl (l.take (i + 1))) := Lib.hid (by rw [mkNd.cntl_step hx, HI.out, hcnt]; omega)
      have hlt1 : (i : Int) < n := by omega
      have h0 : w.cell? ⟨b, off + i * 2, none⟩ = some (.int .i64 (k' : Nat)) := hA.head (u := .int .i64 (k' : Nat)) rfl
      have h1 : w.cell? ⟨b, off + i * 2 + 1, none⟩ = some (.slice E1 e2 e3) := hA 1 _ rfl
      have g2 : (Ty.sl 195 tySp).rd w [.slice E1 e2 e3] (mkSp.mkl (k' + 1) x.2) := g1
      have hk6 : k' + 1 < 9223372036854775807 := by omega
      have c1 := fun w1 hb => heldSpanS_l _ x.2 (k' + 1) (by omega) w1 (Ty.below _ g2 hb)
      generalize k' + 1 + mkSp.cntl x.2 = k5 at *
      have f3 : ¬ (k5 : Int) < 0 := by omega
      clear hx hv2 hk1 hk2 hk4 hcnt HI hA hcs g1 g2
      go_wp2_with (first | ((with_reducible apply st_load1 H); decide +kernel; rfl; (focus exact (At.row H .here hseg).head rfl); clear H; intro wn H; simp only [Act.put, yA, yB, yC, yD, yE, yF]) | ((first | ((with_reducible apply st_load1 H); decide +kernel; rfl; exact cF) | ((with_reducible apply st_loads H); decide +kernel; rfl; exact iF; exact zF; rfl)); clear H; intro wn H; (try simp only [splice, yG, yH, yI, yJ, yK, yL, yM, yN, yO, yP, yQ, Nat.reduceAdd, yA, yB, yC] at H); simp only [Act.put, yA, yB, yC, yD, yE, yF]) | ((first | ((with_reducible apply st_strsum H); rfl; rfl; exact szF; kernel_rfl) | ((with_reducible apply st_loadat H); decide +kernel; rfl; exact aF; exact zF; rfl)); clear H; intro wn H; simp only [Act.put, yA, yB, yC, yD, yE, yF]) | ((first | (go_at_call 131; refine gvF (c1 _ H.below) H ?_)); clear H; intro wn H) | fail)
      go_roundg (n - (i + 1))
      case measure => omega
      case rel => exact ⟨i + 1, k5, by omega, by go_num, by go_num, HI2, H⟩
    · obtain rfl : i = n := by omega
      have hlt1 : ¬ (i : Int) < i := by omega
      go_wp2_with (first | ((with_reducible apply st_load1 H); decide +kernel; rfl; (focus exact (At.row H .here hseg).head rfl); clear H; intro wn H; simp only [Act.put, yA, yB, yC, yD, yE, yF]) | ((first | ((with_reducible apply st_load1 H); decide +kernel; rfl; exact cF) | ((with_reducible apply st_loads H); decide +kernel; rfl; exact iF; exact zF; rfl)); clear H; intro wn H; (try simp only [splice, yG, yH, yI, yJ, yK, yL, yM, yN, yO, yP, yQ, Nat.reduceAdd, yA, yB, yC] at H); simp only [Act.put, yA, yB, yC, yD, yE, yF]) | ((first | ((with_reducible apply st_strsum H); rfl; rfl; exact szF; kernel_rfl) | ((with_reducible apply st_loadat H); decide +kernel; rfl; exact aF; exact zF; rfl)); clear H; intro wn H; simp only [Act.put, yA, yB, yC, yD, yE, yF]) | ((first | (go_at_call 131; refine gvF (c1 _ H.below) H ?_)); clear H; intro wn H) | fail)
      go_ret
      have h1 := HI.out
      rw [List.take_of_length_le (by rw [← HN.out]; exact Nat.le_refl _)] at h1
      exact ⟨congrArg (fun z : Nat => Ending.returned (.int .i64 z)) (h1.trans HT.out.symm), H.below⟩
set_option maxRecDepth 100000 in
set_option maxHeartbeats 4000000 in
theorem markTaskS_l (v : Value) (l : List Ta) (k : Nat) (hk : k + mkTa.cntl l < 9223372036854775807) : Turn Tryz.prog 92 (Ty.sl 160 tyTa) [v] l (mkTa.mkl k l) #[v, .int .i64 k] (.int .i64 (k + mkTa.cntl l : Nat)) := by
  intro R w0 L w N hO H
  obtain ⟨xs, M, A, c, rfl, hO, hcm, H⟩ := own_open hO H
  unfold maxLen at *
  obtain ⟨n, hn⟩ : ∃ n, n = l.length := ⟨_, rfl⟩
  rw [← hn] at H ⊢
  have hn9 : n ≤ 9223372036854775807 := by obtain ⟨_, _, h1, h2, h3⟩ := (H.rows .here).slice; injection h1; unfold maxLen at h3; omega
  have HN := Lib.hid hn
  have HK := Lib.hid hk
  have HO := Lib.hid hO
  obtain ⟨tot, ht⟩ : ∃ t, t = k + mkTa.cntl l := ⟨_, rfl⟩
  rw [← ht]
  have HT := Lib.hid ht
  have H2 : Hs R w0 (Hl.row 160 14 (.slice A n c) n xs :: Hl.all [] :: Hl.all M :: L) w := H.allNil.reperm (List.Perm.swap ..)
  clear H
  have H := H2
  clear H2
  clear hn hk hO hcm ht
  go_enter Tryz.func92, Tryz.ntmps92
  go_wp2_with (first | ((with_reducible apply st_load1 H); decide +kernel; rfl; (focus exact (At.row H .here hseg).head rfl); clear H; intro wn H; simp only [Act.put, yA, yB, yC, yD, yE, yF]) | ((with_reducible apply st_load1 H); decide +kernel; rfl; (focus exact (At.row H .here hseg).head rfl); clear H; intro wn H; simp only [Act.put, yA, yB, yC, yD, yE, yF]) | ((first | ((with_reducible apply st_load1 H); decide +kernel; rfl; exact cF) | ((with_reducible apply st_loads H); decide +kernel; rfl; exact iF; exact zF; rfl) | ((with_reducible apply st_store H); rfl; exact eF; (focus (exact cells_agg _)); exact uF; kernel_rfl; (focus (exact Nat.le_of_ble_eq_true (by rfl))); (focus (first | rfl | simp))) | ((with_reducible apply st_storeown H); rfl; exact eF; (focus (exact (rfl : _ = [_]))); exact uF; (focus omega); kernel_rfl; rfl)); clear H; intro wn H; (try simp only [splice, yG, yH, yI, yJ, yK, yL, yM, yN, yO, yP, yQ, Nat.reduceAdd, yA, yB, yC] at H); simp only [Act.put, yA, yB, yC, yD, yE, yF]) | ((first | ((with_reducible apply st_strsum H); rfl; rfl; exact szF; kernel_rfl) | ((with_reducible apply st_loadat H); decide +kernel; rfl; exact aF; exact zF; rfl) | ((with_reducible apply st_storerow H); rfl; exact eF; (first | exact cells_agg _ | exact cellI | exact cellS | exact cellB | exact (rfl : _ = [_])); exact uF; kernel_rfl; exact Nat.succ_pos _; exact fitF; rfl)); clear H; intro wn H; simp only [Act.put, yA, yB, yC, yD, yE, yF]) | ((first | (go_at_call 125; refine gvF (markText_at _ (k' + 3) (by omega) (by omega) _) H ?_)); clear H; intro wn H) | fail)
  go_loopg [1, 5] n (fun m kv iv wr => ∃ (i k' : Nat) (pre post : List Value) (N1 N2 : List Hl), i + m = n ∧ iv = .int .i64 i ∧ kv = .int .i64 k' ∧ Hid (k' = k + mkTa.cntl (l.take i) ∧ OwnL tyTa pre (mkTa.mkl k (l.take i)) N1 ∧ OwnL tyTa post (l.drop i) N2) ∧ Hs R w0 (Hl.row 160 14 (.slice A n c) n (pre ++ post) :: Hl.all N1 :: Hl.all N2 :: L) wr)
  case atStart => exact ⟨0, k, [], xs, [], M, by omega, rfl, rfl, Lib.hid ⟨rfl, .nil, HO.out⟩, H⟩
  case round =>
    clear H
    obtain ⟨i, k', pre, post, N1, N2, hi, rfl, rfl, HI, H⟩ := hrel
    by_cases hlt : i < n
    · obtain ⟨x, hx⟩ : ∃ x, l[i]? = some x := ⟨l[i]'(by rw [← HN.out]; exact hlt), List.getElem?_eq_getElem (by rw [← HN.out]; exact hlt)⟩
      obtain ⟨g, c2, hv, _⟩ := (H.rows .here).form (by omega)
      injection hv with hv1 hv2 hv3
      subst hv1 hv3
      have hk1 := mkTa.cnt_at_le hx
      have hk2 := HK.out
      obtain ⟨h1, h2, h3⟩ := HI.out
      obtain ⟨hlt', e⟩ := List.getElem?_eq_some_iff.1 hx
      rw [List.drop_eq_getElem_cons hlt', e] at h3
      obtain ⟨cs, ys, Mi, M3, rfl, rfl, hcs, h4⟩ := h3.un
      obtain ⟨a1, q1, M1, P1, rfl, rfl, g1, g2⟩ := hcs
      obtain ⟨rfl, rfl⟩ := g1
      obtain ⟨u1, hu1⟩ : ∃ v, q1 = [v] := by obtain ⟨v, _, _, rfl, _⟩ := g2; exact ⟨v, rfl⟩
      subst hu1
      rw [List.nil_append] at H
      obtain ⟨E1, e2, e3, rfl⟩ : ∃ E1 e2 e3, u1 = .slice E1 e2 e3 := by
        have Hm := H.take2
        obtain ⟨A, c, e, _⟩ := sl_form (own_rd Hm .here g2)
        exact ⟨A, _, c, e⟩
      have hpl : pre.length = i * 14 := by rw [h2.len, Mark.mkl_len, List.length_take, Nat.min_eq_left (Nat.le_of_lt hlt')]; rfl
      have hcnt : mkTa.cnt x = 13 + mkNum.cntl x.2 := rfl
      have hyl : ys.length + 14 + i * 14 = n * 14 := by
        have := (H.rows .here).len
        rw [List.length_append, List.length_append, hpl] at this
        have h5 : (encTf x.1 ++ [Value.slice E1 e2 e3]).length = 14 := rfl
        omega
      have hk3 : k' + 13 + mkNum.cntl x.2 < 9223372036854775807 := by omega
      have hcast : ∀ m : Nat, (m : Int) + 1 = ((m + 1 : Nat) : Int) := fun _ => rfl
      have hspl : spl (spl (spl (spl (spl (spl (spl (spl (spl (spl (spl (spl (spl (pre ++ (([.int .i64 x.1.1.1, .int .i64 x.1.1.2, .int .i64 x.1.2.1, .string x.1.2.2.1, .int .i64 x.1.2.2.2.1, .int .i64 x.1.2.2.2.2.1, .int .i64 x.1.2.2.2.2.2.1, .int .i64 x.1.2.2.2.2.2.2.1.1, .int .i64 x.1.2.2.2.2.2.2.1.2, .int .i64 x.1.2.2.2.2.2.2.2.1, .int .i64 x.1.2.2.2.2.2.2.2.2.1, .int .i64 x.1.2.2.2.2.2.2.2.2.2.1, .int .i64 x.1.2.2.2.2.2.2.2.2.2.2, .slice E1 e2 e3] : List Value) ++ ys)) (i * 14) [.int .i64 ((k' : Int))]) (i * 14 + 1) [.int .i64 ((k' : Int) + 1)]) (i * 14 + 2) [.int .i64 ((k' : Int) + 1 + 1)]) (i * 14 + 3) [.string (bs (mtext (k' + 3)))]) (i * 14 + 4) [.int .i64 ((k' : Int) + 1 + 1 + 1 + 1)]) (i * 14 + 5) [.int .i64 ((k' : Int) + 1 + 1 + 1 + 1 + 1)]) (i * 14 + 6) [.int .i64 ((k' : Int) + 1 + 1 + 1 + 1 + 1 + 1)]) (i * 14 + 7) [.int .i64 ((k' : Int) + 1 + 1 + 1 + 1 + 1 + 1 + 1)]) (i * 14 + 7 + 1) [.int .i64 ((k' : Int) + 1 + 1 + 1 + 1 + 1 + 1 + 1 + 1)]) (i * 14 + 9) [.int .i64 ((k' : Int) + 1 + 1 + 1 + 1 + 1 + 1 + 1 + 1 + 1)]) (i * 14 + 10) [.int .i64 ((k' : Int) + 1 + 1 + 1 + 1 + 1 + 1 + 1 + 1 + 1 + 1)]) (i * 14 + 11) [.int .i64 ((k' : Int) + 1 + 1 + 1 + 1 + 1 + 1 + 1 + 1 + 1 + 1 + 1)]) (i * 14 + 12) [.int .i64 ((k' : Int) + 1 + 1 + 1 + 1 + 1 + 1 + 1 + 1 + 1 + 1 + 1 + 1)] = pre ++ (([.int .i64 (k' : Nat), .int .i64 (k' + 1 : Nat), .int .i64 (k' + 2 : Nat), .string (bs (mtext (k' + 3))), .int .i64 (k' + 4 : Nat), .int .i64 (k' + 5 : Nat), .int .i64 (k' + 6 : Nat), .int .i64 (k' + 7 : Nat), .int .i64 (k' + 8 : Nat), .int .i64 (k' + 9 : Nat), .int .i64 (k' + 10 : Nat), .int .i64 (k' + 11 : Nat), .int .i64 (k' + 12 : Nat)] ++ [.slice E1 e2 e3]) ++ ys) := by
        (try simp only [hcast])
        exact splS_at (vs := [.int .i64 (k' : Nat), .int .i64 (k' + 1 : Nat), .int .i64 (k' + 2 : Nat), .string (bs (mtext (k' + 3))), .int .i64 (k' + 4 : Nat), .int .i64 (k' + 5 : Nat), .int .i64 (k' + 6 : Nat), .int .i64 (k' + 7 : Nat), .int .i64 (k' + 8 : Nat), .int .i64 (k' + 9 : Nat), .int .i64 (k' + 10 : Nat), .int .i64 (k' + 11 : Nat), .int .i64 (k' + 12 : Nat)]) (us := ([.int .i64 x.1.1.1, .int .i64 x.1.1.2, .int .i64 x.1.2.1, .string x.1.2.2.1, .int .i64 x.1.2.2.2.1, .int .i64 x.1.2.2.2.2.1, .int .i64 x.1.2.2.2.2.2.1, .int .i64 x.1.2.2.2.2.2.2.1.1, .int .i64 x.1.2.2.2.2.2.2.1.2, .int .i64 x.1.2.2.2.2.2.2.2.1, .int .i64 x.1.2.2.2.2.2.2.2.2.1, .int .i64 x.1.2.2.2.2.2.2.2.2.2.1, .int .i64 x.1.2.2.2.2.2.2.2.2.2.2, .slice E1 e2 e3] : List Value)) hpl (Nat.le_add_right 13 1)
      clear hcast
      have hseg : Seg (spl (spl (spl (spl (spl (spl (spl (spl (spl (spl (spl (spl (spl (pre ++ (([.int .i64 x.1.1.1, .int .i64 x.1.1.2, .int .i64 x.1.2.1, .string x.1.2.2.1, .int .i64 x.1.2.2.2.1, .int .i64 x.1.2.2.2.2.1, .int .i64 x.1.2.2.2.2.2.1, .int .i64 x.1.2.2.2.2.2.2.1.1, .int .i64 x.1.2.2.2.2.2.2.1.2, .int .i64 x.1.2.2.2.2.2.2.2.1, .int .i64 x.1.2.2.2.2.2.2.2.2.1, .int .i64 x.1.2.2.2.2.2.2.2.2.2.1, .int .i64 x.1.2.2.2.2.2.2.2.2.2.2, .slice E1 e2 e3] : List Value) ++ ys)) (i * 14) [.int .i64 ((k' : Int))]) (i * 14 + 1) [.int .i64 ((k' : Int) + 1)]) (i * 14 + 2) [.int .i64 ((k' : Int) + 1 + 1)]) (i * 14 + 3) [.string (bs (mtext (k' + 3)))]) (i * 14 + 4) [.int .i64 ((k' : Int) + 1 + 1 + 1 + 1)]) (i * 14 + 5) [.int .i64 ((k' : Int) + 1 + 1 + 1 + 1 + 1)]) (i * 14 + 6) [.int .i64 ((k' : Int) + 1 + 1 + 1 + 1 + 1 + 1)]) (i * 14 + 7) [.int .i64 ((k' : Int) + 1 + 1 + 1 + 1 + 1 + 1 + 1)]) (i * 14 + 7 + 1) [.int .i64 ((k' : Int) + 1 + 1 + 1 + 1 + 1 + 1 + 1 + 1)]) (i * 14 + 9) [.int .i64 ((k' : Int) + 1 + 1 + 1 + 1 + 1 + 1 + 1 + 1 + 1)]) (i * 14 + 10) [.int .i64 ((k' : Int) + 1 + 1 + 1 + 1 + 1 + 1 + 1 + 1 + 1 + 1)]) (i * 14 + 11) [.int .i64 ((k' : Int) + 1 + 1 + 1 + 1 + 1 + 1 + 1 + 1 + 1 + 1 + 1)]) (i * 14 + 12) [.int .i64 ((k' : Int) + 1 + 1 + 1 + 1 + 1 + 1 + 1 + 1 + 1 + 1 + 1 + 1)]) (i * 14 + 13) [.slice E1 e2 e3] := by
        rw [hspl]
        exact fun j u hu => by match j, hu with | 0, hu => exact seg_mid pre [.int .i64 (k' : Nat), .int .i64 (k' + 1 : Nat), .int .i64 (k' + 2 : Nat), .string (bs (mtext (k' + 3))), .int .i64 (k' + 4 : Nat), .int .i64 (k' + 5 : Nat), .int .i64 (k' + 6 : Nat), .int .i64 (k' + 7 : Nat), .int .i64 (k' + 8 : Nat), .int .i64 (k' + 9 : Nat), .int .i64 (k' + 10 : Nat), .int .i64 (k' + 11 : Nat), .int .i64 (k' + 12 : Nat), .slice E1 e2 e3] ys hpl 13 u hu
      have HI2 : Hid (k' + 13 + mkNum.cntl x.2 = k + mkTa.cntl (l.take (i + 1))) := Lib.hid (by rw [mkTa.cntl_step hx, h1]; omega)
      have HI3 : Hid (∀ J1, (Ty.sl 2 tyNum).own [.slice E1 e2 e3] (mkNum.mkl (k' + 13) x.2) J1 → OwnL tyTa (pre ++ ([.int .i64 (k' : Nat), .int .i64 (k' + 1 : Nat), .int .i64 (k' + 2 : Nat), .string (bs (mtext (k' + 3))), .int .i64 (k' + 4 : Nat), .int .i64 (k' + 5 : Nat), .int .i64 (k' + 6 : Nat), .int .i64 (k' + 7 : Nat), .int .i64 (k' + 8 : Nat), .int .i64 (k' + 9 : Nat), .int .i64 (k' + 10 : Nat), .int .i64 (k' + 11 : Nat), .int .i64 (k' + 12 : Nat)] ++ [.slice E1 e2 e3])) (mkTa.mkl k (l.take (i + 1))) (N1 ++ J1)) := Lib.hid (fun J1 j1 => by
        rw [mkTa.mkl_step hx, ← h1]
        exact h2.snoc ⟨_, _, [], _, rfl, rfl, ⟨rfl, rfl⟩, j1⟩)
      have HS := Lib.hid hspl
      have HI4 := Lib.hid h4
      have HG2 := Lib.hid g2
      have hfit : i * 14 + 14 ≤ (pre ++ (([.int .i64 x.1.1.1, .int .i64 x.1.1.2, .int .i64 x.1.2.1, .string x.1.2.2.1, .int .i64 x.1.2.2.2.1, .int .i64 x.1.2.2.2.2.1, .int .i64 x.1.2.2.2.2.2.1, .int .i64 x.1.2.2.2.2.2.2.1.1, .int .i64 x.1.2.2.2.2.2.2.1.2, .int .i64 x.1.2.2.2.2.2.2.2.1, .int .i64 x.1.2.2.2.2.2.2.2.2.1, .int .i64 x.1.2.2.2.2.2.2.2.2.2.1, .int .i64 x.1.2.2.2.2.2.2.2.2.2.2, .slice E1 e2 e3] : List Value) ++ ys)).length := by rw [List.length_append, List.length_append, hpl]; show i * 14 + 14 ≤ i * 14 + (14 + ys.length); omega
      have c1 := markInt64S_l (.slice E1 e2 e3) x.2 (k' + 13) (by omega)
      have hlt1 : (i : Int) < n := by omega
      clear h1 h2 h3 h4 HI hx hk1 hk2 hpl e hv2 hlt' g2 hcnt hyl hspl
      replace H : Hs R w0 (Hl.row 160 14 (.slice (some ⟨g, 0, none⟩) n c) n (pre ++ (([.int .i64 x.1.1.1, .int .i64 x.1.1.2, .int .i64 x.1.2.1, .string x.1.2.2.1, .int .i64 x.1.2.2.2.1, .int .i64 x.1.2.2.2.2.1, .int .i64 x.1.2.2.2.2.2.1, .int .i64 x.1.2.2.2.2.2.2.1.1, .int .i64 x.1.2.2.2.2.2.2.1.2, .int .i64 x.1.2.2.2.2.2.2.2.1, .int .i64 x.1.2.2.2.2.2.2.2.2.1, .int .i64 x.1.2.2.2.2.2.2.2.2.2.1, .int .i64 x.1.2.2.2.2.2.2.2.2.2.2, .slice E1 e2 e3] : List Value) ++ ys)) :: Hl.all N1 :: Hl.all (P1 ++ M3) :: L) _ := H
      have Hq := H.take2.up1
      clear H
      have H := Hq
      clear Hq
      go_wp2_with (first | ((with_reducible apply st_load1 H); decide +kernel; rfl; (focus exact (At.row H .here hseg).head rfl); clear H; intro wn H; simp only [Act.put, yA, yB, yC, yD, yE, yF]) | ((with_reducible apply st_load1 H); decide +kernel; rfl; (focus exact (At.row H .here hseg).head rfl); clear H; intro wn H; simp only [Act.put, yA, yB, yC, yD, yE, yF]) | ((first | ((with_reducible apply st_load1 H); decide +kernel; rfl; exact cF) | ((with_reducible apply st_loads H); decide +kernel; rfl; exact iF; exact zF; rfl) | ((with_reducible apply st_store H); rfl; exact eF; (focus (exact cells_agg _)); exact uF; kernel_rfl; (focus (exact Nat.le_of_ble_eq_true (by rfl))); (focus (first | rfl | simp))) | ((with_reducible apply st_storeown H); rfl; exact eF; (focus (exact (rfl : _ = [_]))); exact uF; (focus omega); kernel_rfl; rfl)); clear H; intro wn H; (try simp only [splice, yG, yH, yI, yJ, yK, yL, yM, yN, yO, yP, yQ, Nat.reduceAdd, yA, yB, yC] at H); simp only [Act.put, yA, yB, yC, yD, yE, yF]) | ((first | ((with_reducible apply st_strsum H); rfl; rfl; exact szF; kernel_rfl) | ((with_reducible apply st_loadat H); decide +kernel; rfl; exact aF; exact zF; rfl) | ((with_reducible apply st_storerow H); rfl; exact eF; (first | exact cells_agg _ | exact cellI | exact cellS | exact cellB | exact (rfl : _ = [_])); exact uF; kernel_rfl; exact Nat.succ_pos _; exact fitF; rfl)); clear H; intro wn H; simp only [Act.put, yA, yB, yC, yD, yE, yF]) | ((first | (go_at_call 125; refine gvF (markText_at _ (k' + 3) (by omega) (by omega) _) H ?_)); clear H; intro wn H) | fail)
      refine (c1 _ _ _ _ _ HG2.out H.up1).mono ?_
      rintro e wn ⟨rfl, J1, j1, Hn⟩
      clear H
      have H := Hn
      clear Hn
      rw [HS.out] at H
      have Hq := H.give2
      clear H
      have H := Hq
      clear Hq
      have HI5 := Lib.hid (HI3.out J1 j1)
      clear j1 c1 HI3 HS hseg hfit
      generalize k' + 13 + mkNum.cntl x.2 = k4 at *
      go_wp2_with (first | ((with_reducible apply st_load1 H); decide +kernel; rfl; (focus exact (At.row H .here hseg).head rfl); clear H; intro wn H; simp only [Act.put, yA, yB, yC, yD, yE, yF]) | ((with_reducible apply st_load1 H); decide +kernel; rfl; (focus exact (At.row H .here hseg).head rfl); clear H; intro wn H; simp only [Act.put, yA, yB, yC, yD, yE, yF]) | ((first | ((with_reducible apply st_load1 H); decide +kernel; rfl; exact cF) | ((with_reducible apply st_loads H); decide +kernel; rfl; exact iF; exact zF; rfl) | ((with_reducible apply st_store H); rfl; exact eF; (focus (exact cells_agg _)); exact uF; kernel_rfl; (focus (exact Nat.le_of_ble_eq_true (by rfl))); (focus (first | rfl | simp))) | ((with_reducible apply st_storeown H); rfl; exact eF; (focus (exact (rfl : _ = [_]))); exact uF; (focus omega); kernel_rfl; rfl)); clear H; intro wn H; (try simp only [splice, yG, yH, yI, yJ, yK, yL, yM, yN, yO, yP, yQ, Nat.reduceAdd, yA, yB, yC] at H); simp only [Act.put, yA, yB, yC, yD, yE, yF]) | ((first | ((with_reducible apply st_strsum H); rfl; rfl; exact szF; kernel_rfl) | ((with_reducible apply st_loadat H); decide +kernel; rfl; exact aF; exact zF; rfl) | ((with_reducible apply st_storerow H); rfl; exact eF; (first | exact cells_agg _ | exact cellI | exact cellS | exact cellB | exact (rfl : _ = [_])); exact uF; kernel_rfl; exact Nat.succ_pos _; exact fitF; rfl)); clear H; intro wn H; simp only [Act.put, yA, yB, yC, yD, yE, yF]) | ((first | (go_at_call 125; refine gvF (markText_at _ (k' + 3) (by omega) (by omega) _) H ?_)); clear H; intro wn H) | fail)
      go_roundg (n - (i + 1))
      case measure => omega
      case rel => exact ⟨i + 1, k4, _, ys, _, M3, by omega, by go_num, by go_num, Lib.hid ⟨HI2.out, HI5.out, HI4.out⟩, by rw [List.append_assoc]; exact H⟩
    · obtain rfl : i = n := by omega
      have hlt1 : ¬ (i : Int) < i := by omega
      go_wp2_with (first | ((with_reducible apply st_load1 H); decide +kernel; rfl; (focus exact (At.row H .here hseg).head rfl); clear H; intro wn H; simp only [Act.put, yA, yB, yC, yD, yE, yF]) | ((with_reducible apply st_load1 H); decide +kernel; rfl; (focus exact (At.row H .here hseg).head rfl); clear H; intro wn H; simp only [Act.put, yA, yB, yC, yD, yE, yF]) | ((first | ((with_reducible apply st_load1 H); decide +kernel; rfl; exact cF) | ((with_reducible apply st_loads H); decide +kernel; rfl; exact iF; exact zF; rfl) | ((with_reducible apply st_store H); rfl; exact eF; (focus (exact cells_agg _)); exact uF; kernel_rfl; (focus (exact Nat.le_of_ble_eq_true (by rfl))); (focus (first | rfl | simp))) | ((with_reducible apply st_storeown H); rfl; exact eF; (focus (exact (rfl : _ = [_]))); exact uF; (focus omega); kernel_rfl; rfl)); clear H; intro wn H; (try simp only [splice, yG, yH, yI, yJ, yK, yL, yM, yN, yO, yP, yQ, Nat.reduceAdd, yA, yB, yC] at H); simp only [Act.put, yA, yB, yC, yD, yE, yF]) | ((first | ((with_reducible apply st_strsum H); rfl; rfl; exact szF; kernel_rfl) | ((with_reducible apply st_loadat H); decide +kernel; rfl; exact aF; exact zF; rfl) | ((with_reducible apply st_storerow H); rfl; exact eF; (first | exact cells_agg _ | exact cellI | exact cellS | exact cellB | exact (rfl : _ = [_])); exact uF; kernel_rfl; exact Nat.succ_pos _; exact fitF; rfl)); clear H; intro wn H; simp only [Act.put, yA, yB, yC, yD, yE, yF]) | ((first | (go_at_call 125; refine gvF (markText_at _ (k' + 3) (by omega) (by omega) _) H ?_)); clear H; intro wn H) | fail)
      go_ret
      obtain ⟨h1, h2, h3⟩ := HI.out
      rw [List.take_of_length_le (by rw [← HN.out]; exact Nat.le_refl _)] at h1 h2
      rw [List.drop_of_length_le (by rw [← HN.out]; exact Nat.le_refl _)] at h3
      obtain ⟨rfl, rfl⟩ := h3.unNil
      rw [List.append_nil] at H
      have H2 := own_close h2 H (by rw [Mark.mkl_len]; exact HN.out)
      obtain ⟨N, hN, H3⟩ := H2
      exact ⟨congrArg (fun z : Nat => Ending.returned (.int .i64 z)) (h1.trans HT.out.symm), N, hN, H3.sub (List.Sublist.cons_cons _ (List.sublist_cons_self _ _))⟩
set_option maxRecDepth 100000 in
set_option maxHeartbeats 4000000 in
theorem heldTaskS_l (v : Value) (l : List Ta) (k : Nat) (hk : k + mkTa.cntl l < 9223372036854775807) (w : World) (hr : (Ty.sl 160 tyTa).rd w [v] (mkTa.mkl k l)) : Gives Tryz.prog 97 #[v, .int .i64 k] w (.int .i64 (k + mkTa.cntl l : Nat)) := by
  obtain ⟨A, c, rfl, hlc, hcm⟩ := sl_form hr
  unfold maxLen at *
  have HR := Lib.hid hr
  have H := Hs.start noRow w
  have hml := mkTa.mkl_len k l
  rw [hml] at hlc HR ⊢
  obtain ⟨n, hn⟩ : ∃ n, n = l.length := ⟨_, rfl⟩
  have hnl : n ≤ 9223372036854775807 := by omega
  rw [← hn] at HR ⊢
  have HN := Lib.hid hn
  have HK := Lib.hid hk
  obtain ⟨tot, ht⟩ : ∃ t, t = k + mkTa.cntl l := ⟨_, rfl⟩
  rw [← ht]
  have HT := Lib.hid ht
  clear hr hn hlc hcm hk hml ht
  unfold Gives
  go_enter Tryz.func97, Tryz.ntmps97
  go_wp2_with (first | ((with_reducible apply st_load1 H); decide +kernel; rfl; (focus exact (At.row H .here hseg).head rfl); clear H; intro wn H; simp only [Act.put, yA, yB, yC, yD, yE, yF]) | ((with_reducible apply st_load1 H); decide +kernel; rfl; (focus exact (At.row H .here hseg).head rfl); clear H; intro wn H; simp only [Act.put, yA, yB, yC, yD, yE, yF]) | ((first | ((with_reducible apply st_load1 H); decide +kernel; rfl; exact cF) | ((with_reducible apply st_loads H); decide +kernel; rfl; exact iF; exact zF; rfl)); clear H; intro wn H; (try simp only [splice, yG, yH, yI, yJ, yK, yL, yM, yN, yO, yP, yQ, Nat.reduceAdd, yA, yB, yC] at H); simp only [Act.put, yA, yB, yC, yD, yE, yF]) | ((first | ((with_reducible apply st_strsum H); rfl; rfl; exact szF; kernel_rfl) | ((with_reducible apply st_loadat H); decide +kernel; rfl; exact aF; exact zF; rfl)); clear H; intro wn H; simp only [Act.put, yA, yB, yC, yD, yE, yF]) | ((first | (go_at_call 125; refine gvF (markText_at _ (k' + 3) (by omega) (by omega) _) H ?_) | (go_at_call 132; refine gvF (c1 _ H.below) H ?_)); clear H; intro wn H) | ((with_reducible apply wp_region_hq (id := 13) H); kernel_rfl; kernel_rfl; (iterate 8 (all_goals ((with_reducible refine' hq_step ?_ ?_ ?_); rotate_left; rfl; (focus (intro w1 H1; first | (first | exact qF | exact qAF | exact qRF) | (unfold QOk; go_simp; exact q_call (markText_at _ (k' + 3) (by omega) (by omega) _)) | (exact qVF))); (try simp only [yG, yH, yJ, yK]); simp only [Act.put, yA, yB, yC, yD, yE, yF]))); all_goals (refine wpQuiet_nil ?_; clear H; intro wn H)) | fail)
  go_loopg [1, 5] n (fun m kv iv wr => ∃ (i k' : Nat), i + m = n ∧ iv = .int .i64 i ∧ kv = .int .i64 k' ∧ Hid (k' = k + mkTa.cntl (l.take i)) ∧ Hs noRow w [] wr)
  case atStart => exact ⟨0, k, by omega, rfl, rfl, Lib.hid rfl, H⟩
  case round =>
    clear H
    obtain ⟨i, k', hi, rfl, rfl, HI, H⟩ := hrel
    by_cases hlt : i < n
    · obtain ⟨x, hx⟩ : ∃ x, l[i]? = some x := ⟨l[i]'(by rw [← HN.out]; exact hlt), List.getElem?_eq_getElem (by rw [← HN.out]; exact hlt)⟩
      have hs := sl_at (by have := HR.out; rw [HN.out, ← Mark.mkl_len mkTa k] at this; exact this) (mkTa.mkl_at (k := k) hx)
      rw [Mark.mkl_len, ← HN.out, ← HI.out] at hs
      obtain ⟨b, off, c', cs, hv, hcs, hA⟩ := hs
      injection hv with hv1 hv2 hv3
      subst hv1 hv3
      obtain ⟨E1, e2, e3, hu, g1⟩ := Ta_form hcs
      subst hu
      have hk1 := mkTa.cnt_at_le hx
      have hk2 := HK.out
      have hk4 := HI.out
      have hcnt : mkTa.cnt x = 13 + mkNum.cntl x.2 := rfl
      have hk3 : k' + 13 + mkNum.cntl x.2 < 9223372036854775807 := by omega
      have HI2 : Hid (k' + 13 + mkNum.cntl x.2 = k + mkTa.cntl (l.take (i + 1))) := Lib.hid (by rw [mkTa.cntl_step hx, HI.out, hcnt]; omega)
      have hlt1 : (i : Int) < n := by omega
      have h0 : w.cell? ⟨b, off + i * 14, none⟩ = some (.int .i64 (k' : Nat)) := hA.head (u := .int .i64 (k' : Nat)) rfl
      have h1 : w.cell? ⟨b, off + i * 14 + 1, none⟩ = some (.int .i64 (k' + 1 : Nat)) := hA 1 _ rfl
      have h2 : w.cell? ⟨b, off + i * 14 + 2, none⟩ = some (.int .i64 (k' + 2 : Nat)) := hA 2 _ rfl
      have h3 : w.cell? ⟨b, off + i * 14 + 3, none⟩ = some (.string (bs (mtext (k' + 3)))) := hA 3 _ rfl
      have h4 : w.cell? ⟨b, off + i * 14 + 4, none⟩ = some (.int .i64 (k' + 4 : Nat)) := hA 4 _ rfl
      have h5 : w.cell? ⟨b, off + i * 14 + 5, none⟩ = some (.int .i64 (k' + 5 : Nat)) := hA 5 _ rfl
      have h6 : w.cell? ⟨b, off + i * 14 + 6, none⟩ = some (.int .i64 (k' + 6 : Nat)) := hA 6 _ rfl
      have h7 : w.cell? ⟨b, off + i * 14 + 7, none⟩ = some (.int .i64 (k' + 7 : Nat)) := hA 7 _ rfl
      have h8 : w.cell? ⟨b, off + i * 14 + 8, none⟩ = some (.int .i64 (k' + 8 : Nat)) := hA 8 _ rfl
      have h9 : w.cell? ⟨b, off + i * 14 + 9, none⟩ = some (.int .i64 (k' + 9 : Nat)) := hA 9 _ rfl
      have h10 : w.cell? ⟨b, off + i * 14 + 10, none⟩ = some (.int .i64 (k' + 10 : Nat)) := hA 10 _ rfl
      have h11 : w.cell? ⟨b, off + i * 14 + 11, none⟩ = some (.int .i64 (k' + 11 : Nat)) := hA 11 _ rfl
      have h12 : w.cell? ⟨b, off + i * 14 + 12, none⟩ = some (.int .i64 (k' + 12 : Nat)) := hA 12 _ rfl
      have h13 : w.cell? ⟨b, off + i * 14 + 13, none⟩ = some (.slice E1 e2 e3) := hA 13 _ rfl
      have g2 : (Ty.sl 2 tyNum).rd w [.slice E1 e2 e3] (mkNum.mkl (k' + 13) x.2) := g1
      have hk6 : k' + 13 < 9223372036854775807 := by omega
      have c1 := fun w1 hb => heldInt64S_l _ x.2 (k' + 13) (by omega) w1 (Ty.below _ g2 hb)
      generalize k' + 13 + mkNum.cntl x.2 = k5 at *
      have f3 : ¬ (k5 : Int) < 0 := by omega
      clear hx hv2 hk1 hk2 hk4 hcnt HI hA hcs g1 g2
      go_wp2_with (first | ((with_reducible apply st_load1 H); decide +kernel; rfl; (focus exact (At.row H .here hseg).head rfl); clear H; intro wn H; simp only [Act.put, yA, yB, yC, yD, yE, yF]) | ((with_reducible apply st_load1 H); decide +kernel; rfl; (focus exact (At.row H .here hseg).head rfl); clear H; intro wn H; simp only [Act.put, yA, yB, yC, yD, yE, yF]) | ((first | ((with_reducible apply st_load1 H); decide +kernel; rfl; exact cF) | ((with_reducible apply st_loads H); decide +kernel; rfl; exact iF; exact zF; rfl)); clear H; intro wn H; (try simp only [splice, yG, yH, yI, yJ, yK, yL, yM, yN, yO, yP, yQ, Nat.reduceAdd, yA, yB, yC] at H); simp only [Act.put, yA, yB, yC, yD, yE, yF]) | ((first | ((with_reducible apply st_strsum H); rfl; rfl; exact szF; kernel_rfl) | ((with_reducible apply st_loadat H); decide +kernel; rfl; exact aF; exact zF; rfl)); clear H; intro wn H; simp only [Act.put, yA, yB, yC, yD, yE, yF]) | ((first | (go_at_call 125; refine gvF (markText_at _ (k' + 3) (by omega) (by omega) _) H ?_) | (go_at_call 132; refine gvF (c1 _ H.below) H ?_)); clear H; intro wn H) | ((with_reducible apply wp_region_hq (id := 13) H); kernel_rfl; kernel_rfl; (iterate 8 (all_goals ((with_reducible refine' hq_step ?_ ?_ ?_); rotate_left; rfl; (focus (intro w1 H1; first | (first | exact qF | exact qAF | exact qRF) | (unfold QOk; go_simp; exact q_call (markText_at _ (k' + 3) (by omega) (by omega) _)) | (exact qVF))); (try simp only [yG, yH, yJ, yK]); simp only [Act.put, yA, yB, yC, yD, yE, yF]))); all_goals (refine wpQuiet_nil ?_; clear H; intro wn H)) | fail)
      go_roundg (n - (i + 1))
      case measure => omega
      case rel => exact ⟨i + 1, k5, by omega, by go_num, by go_num, HI2, H⟩
    · obtain rfl : i = n := by omega
      have hlt1 : ¬ (i : Int) < i := by omega
      go_wp2_with (first | ((with_reducible apply st_load1 H); decide +kernel; rfl; (focus exact (At.row H .here hseg).head rfl); clear H; intro wn H; simp only [Act.put, yA, yB, yC, yD, yE, yF]) | ((with_reducible apply st_load1 H); decide +kernel; rfl; (focus exact (At.row H .here hseg).head rfl); clear H; intro wn H; simp only [Act.put, yA, yB, yC, yD, yE, yF]) | ((first | ((with_reducible apply st_load1 H); decide +kernel; rfl; exact cF) | ((with_reducible apply st_loads H); decide +kernel; rfl; exact iF; exact zF; rfl)); clear H; intro wn H; (try simp only [splice, yG, yH, yI, yJ, yK, yL, yM, yN, yO, yP, yQ, Nat.reduceAdd, yA, yB, yC] at H); simp only [Act.put, yA, yB, yC, yD, yE, yF]) | ((first | ((with_reducible apply st_strsum H); rfl; rfl; exact szF; kernel_rfl) | ((with_reducible apply st_loadat H); decide +kernel; rfl; exact aF; exact zF; rfl)); clear H; intro wn H; simp only [Act.put, yA, yB, yC, yD, yE, yF]) | ((first | (go_at_call 125; refine gvF (markText_at _ (k' + 3) (by omega) (by omega) _) H ?_) | (go_at_call 132; refine gvF (c1 _ H.below) H ?_)); clear H; intro wn H) | ((with_reducible apply wp_region_hq (id := 13) H); kernel_rfl; kernel_rfl; (iterate 8 (all_goals ((with_reducible refine' hq_step ?_ ?_ ?_); rotate_left; rfl; (focus (intro w1 H1; first | (first | exact qF | exact qAF | exact qRF) | (unfold QOk; go_simp; exact q_call (markText_at _ (k' + 3) (by omega) (by omega) _)) | (exact qVF))); (try simp only [yG, yH, yJ, yK]); simp only [Act.put, yA, yB, yC, yD, yE, yF]))); all_goals (refine wpQuiet_nil ?_; clear H; intro wn H)) | fail)
      go_ret
      have h1 := HI.out
      rw [List.take_of_length_le (by rw [← HN.out]; exact Nat.le_refl _)] at h1
      exact ⟨congrArg (fun z : Nat => Ending.returned (.int .i64 z)) (h1.trans HT.out.symm), H.below⟩
end Go.Proofs.YtjklmldchbakjaaGreat
