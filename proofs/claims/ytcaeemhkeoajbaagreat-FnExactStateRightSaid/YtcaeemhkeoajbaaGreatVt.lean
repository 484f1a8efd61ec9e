/-
  The law of StateRight: the walk.
-/
import Derived.Test.YtcaeemhkeoajbaaGreatGH
import Derived.Test.YtcaeemhkeoajbaaGreatG9
set_option linter.unusedSimpArgs false
set_option linter.unusedVariables false
namespace Go.Proofs.YtcaeemhkeoajbaaGreat
open Go.RowKit M
set_option maxRecDepth 100000 in
set_option maxHeartbeats 4000000 in
theorem law_StateRight (a : St) (cs : List Value) (hok0 : okSt a ∧ ∀ b ∈ a.2, bdBo b) (w : World) (hr : tySt.rd w cs a) :
    Gives Tryz.prog 3 #[.agg cs.toArray] w (.bool true) := by
  have hok := hok0.1
  clear hok0
  have c1 := fun w1 hb => szState_l a cs 1048576 (by omega) hok w1 (Ty.below _ hr hb)
  have c3 := fun hs w1 hb => toState_l a cs hs w1 (Ty.below _ hr hb)
  have c5 := fun ds w1 h => stateRight_s a ds hok w1 h
  have c6 := fun ds w1 h => stateRight_i a ds hok w1 h
  generalize stateOk a = z at *
  obtain ⟨A1, n1, k1, A2, n2, k2, A3, n3, k3, A4, n4, k4, A5, n5, k5, A6, n6, k6, A7, n7, k7, rfl⟩ := St_lit hr
  obtain ⟨hf, hhf⟩ : ∃ n, n = a.1.1.2.2.2 := ⟨_, rfl⟩
  obtain ⟨now, hnow⟩ : ∃ n, n = a.1.2.2.2.2 := ⟨_, rfl⟩
  rw [← hhf, ← hnow] at c1 c3 ⊢
  clear hr hhf hnow hok
  replace c1 : ∀ w1, Below w.heap.size w w1 → Gives Tryz.prog 6 #[.agg #[.slice A1 n1 k1, .slice A2 n2 k2, .slice A3 n3 k3, .int .i64 hf, .slice A4 n4 k4, .slice A5 n5 k5, .slice A6 n6 k6, .int .i64 now, .slice A7 n7 k7], .int .i64 1048576] w1 (.int .i64 (szC 1048576 (szSt a))) := c1
  replace c3 : szSt a ≤ 1048576 → ∀ w1, Below w.heap.size w w1 → Rets Tryz.prog [] 8 #[.agg #[.slice A1 n1 k1, .slice A2 n2 k2, .slice A3 n3 k3, .int .i64 hf, .slice A4 n4 k4, .slice A5 n5 k5, .slice A6 n6 k6, .int .i64 now, .slice A7 n7 k7]] w1 (tAgg tySt a) := c3
  show Gives Tryz.prog _ #[.agg #[.slice A1 n1 k1, .slice A2 n2 k2, .slice A3 n3 k3, .int .i64 hf, .slice A4 n4 k4, .slice A5 n5 k5, .slice A6 n6 k6, .int .i64 now, .slice A7 n7 k7]] w _
  have H := Hs.start noRow w
  unfold Gives
  by_cases hn1 : (1048576 : Int) - szSt a < 0
  · rw [szC_neg hn1] at c1
    go_enter Tryz.func3, Tryz.ntmps3
    go_wp2_with (first | ((((with_reducible apply st_loads H); decide +kernel; rfl; exact iF; exact zF; rfl)); clear H; intro wn H; (try simp only [splice, yG, yH, yI, yJ, yK, yL, yM, yN, yO, yP, yQ, Nat.reduceAdd, yA, yB, yC] at H); simp only [Act.put, yA, yB, yC, yD, yE, yF]) | ((((with_reducible apply st_box (dst := some 1) H); exact nF; intro b1)); clear H; intro wn H; simp only [Act.put, yA, yB, yC, yD, yE, yF]) | (((go_at_call 6; refine gvF (c1 _ H.below) H ?_)); clear H; intro wn H))
    go_ret
    exact ⟨rfl, H.below⟩
  rw [szC_pos hn1] at c1
  have c8 := c3 (by omega)
  clear c3
  generalize (1048576 : Int) - szSt a = s2 at *
  have hz : (z != z) = false := by simp
  go_enter Tryz.func3, Tryz.ntmps3
  go_wp2_with (first | ((((with_reducible apply st_loads H); decide +kernel; rfl; exact iF; exact zF; rfl)); clear H; intro wn H; (try simp only [splice, yG, yH, yI, yJ, yK, yL, yM, yN, yO, yP, yQ, Nat.reduceAdd, yA, yB, yC] at H); simp only [Act.put, yA, yB, yC, yD, yE, yF]) | ((((with_reducible apply st_box (dst := some 1) H); exact nF; intro b1)); clear H; intro wn H; simp only [Act.put, yA, yB, yC, yD, yE, yF]) | (((go_at_call 6; refine gvF (c1 _ H.below) H ?_)); clear H; intro wn H))
  refine (Rets.use (c8 _ H.below)).mono ?_; rintro e wn ⟨_, _, rfl, ⟨a1, M1, rfl, o1, rfl⟩, hkk⟩; have Hn := H.moreK (by intro k hk; first | exact absurd hk List.not_mem_nil | (obtain rfl := List.mem_singleton.1 hk; exact In.mem iF)) hkk; clear hkk; clear H; have H := Hn; clear Hn; (try simp only [yT, yV] at H)
  obtain ⟨B1, x1, d1, B2, x2, d2, B3, x3, d3, B4, x4, d4, B5, x5, d5, B6, x6, d6, B7, x7, d7, rfl⟩ := St_lit (own_rd H .here o1)
  go_wp2_with (fail)
  refine gvF (c5 _ _ (own_rd H iF o1)) H ?_; clear H; intro wn H
  go_wp2_with (((((with_reducible apply st_loads H); decide +kernel; rfl; exact iF; exact zF; rfl)); clear H; intro wn H; (try simp only [splice, yG, yH, yI, yJ, yK, yL, yM, yN, yO, yP, yQ, Nat.reduceAdd, yA, yB, yC] at H); simp only [Act.put, yA, yB, yC, yD, yE, yF]))
  refine (Rets.use (c8 _ H.below)).mono ?_; rintro e wn ⟨_, _, rfl, ⟨a2, M2, rfl, o2, rfl⟩, hkk⟩; have Hn := H.moreK (by intro k hk; first | exact absurd hk List.not_mem_nil | (obtain rfl := List.mem_singleton.1 hk; exact In.mem iF)) hkk; clear hkk; clear H; have H := Hn; clear Hn; (try simp only [yT, yV] at H)
  obtain ⟨E1, y1, f1, E2, y2, f2, E3, y3, f3, E4, y4, f4, E5, y5, f5, E6, y6, f6, E7, y7, f7, rfl⟩ := St_lit (own_rd H .here o2)
  go_wp2_with (first | ((first | ((with_reducible apply st_loads H); decide +kernel; rfl; exact iF; exact zF; rfl) | ((with_reducible apply st_store H); rfl; exact eF; (focus (exact cells_agg _)); exact uF; kernel_rfl; (focus (exact Nat.le_of_ble_eq_true (by rfl))); (focus (rfl)))); clear H; intro wn H; (try simp only [splice, yG, yH, yI, yJ, yK, yL, yM, yN, yO, yP, yQ, Nat.reduceAdd, yA, yB, yC] at H); simp only [Act.put, yA, yB, yC, yD, yE, yF]) | ((((with_reducible apply st_alloc (dst := some 5) H); exact nF; intro b5)); clear H; intro wn H; simp only [Act.put, yA, yB, yC, yD, yE, yF]) | (((go_at_call 9; refine gvF (c6 _ _ (own_rd H iF o2)) H ?_)); clear H; intro wn H))
  apply wp_region_hss (K := []) (Spec.V _ :: Spec.V _ :: Spec.T _ :: Spec.V _ :: Spec.V _ :: []) 5 rfl H rfl (by simp) (by kernel_rfl) (by kernel_rfl); intro vs Ls; (iterate 2 ((with_reducible apply wpH_V); (focus rfl); (focus rfl); (focus (intro w1 H1; exact oF)); simp only [Act.put, yA, yB, yC, yD, yE, yF]; (try simp only [yG, yH, yJ, yK]))); (with_reducible apply wpH_T); (focus rfl); (focus rfl); (focus (intro hk w1 H1; unfold OpOk; go_simp; exact now_call (c8 _ H1.below))); simp only [Act.put, yA, yB, yC, yD, yE, yF]; (with_reducible apply (wpH_E 2)); (focus rfl); (focus rfl); (focus rfl); (focus decide +kernel); (focus decide); (focus (intro kk2 w1 H1; obtain ⟨a7, M7, e2, o7, l2⟩ := kk2; simp only [e2, l2, yT, yU, yV] at H1 ⊢; unfold OpOk; (try simp only [e2]); go_simp; exact now_call (Gives.rets (eqState_l a _ _ _ (own_rd H1 iF o2) (own_rd H1 iF o7))))); simp only [Act.put, yA, yB, yC, yD, yE, yF]; (iterate 1 ((with_reducible apply wpH_V); (focus rfl); (focus rfl); (focus (intro w1 H1; exact oF)); simp only [Act.put, yA, yB, yC, yD, yE, yF]; (try simp only [yG, yH, yJ, yK]))); refine wpH_0 ?_; intro hok wn Hn; (try simp only [yT, yU, yV, yW] at Hn); clear H; have H := Hn; clear Hn; have ht2 := okT (hok 2 (by decide)) rfl; clear hok; obtain ⟨a7, M7, e2, o7, l2⟩ := ht2; simp only [e2, l2, yT, yU, yV] at H ⊢; clear e2 l2; rotate_left; (focus (refine locs ?_; intro vs1 vs2; (iterate 5 (refine all_lt_succ ?_ (by first | exact (fun _ => rfl) | exact (fun _ => ⟨rfl, rfl⟩) | (intro h; simp only [spec, Spec.same, yR, yS, Option.getD_some]; (try rw [h 2 (by decide +kernel)]); (first | done | exact ⟨rfl, rfl⟩ | exact ⟨trivial, rfl⟩ | exact ⟨rfl, trivial⟩))))); exact (fun k hk => absurd hk (Nat.not_lt_zero k))))
  go_wp2_with (fail)
  go_ret
  exact ⟨rfl, H.below⟩
end Go.Proofs.YtcaeemhkeoajbaaGreat
