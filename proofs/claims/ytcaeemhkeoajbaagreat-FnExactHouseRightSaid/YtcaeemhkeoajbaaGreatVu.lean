/-
  Houses that may be so: the walks, and the law of HouseRight.
-/
import Derived.Test.YtcaeemhkeoajbaaGreatGH
import Derived.Test.YtcaeemhkeoajbaaGreatGC
import Derived.Test.YtcaeemhkeoajbaaGreatDr
import Derived.Test.YtcaeemhkeoajbaaGreatOz
set_option linter.unusedSimpArgs false
set_option linter.unusedVariables false
namespace Go.Proofs.YtcaeemhkeoajbaaGreat
open Go.RowKit M
namespace M
def houseOk (a : Ho) : Bool := stateOk a.1 && (diskOk a.2.1.1 a.2.1.2 && (decide (a.2.1.1.length = regsOf a.1.1.1) && (a.2.1.2 == -1 && isIn a.2.2 0 1000000)))
end M
set_option maxRecDepth 100000 in
set_option maxHeartbeats 4000000 in
theorem houseRight_i (a : Ho) (cs : List Value) (hok : okHo a) (w : World) (hr : Dz.tyHo.rd w cs a) : Gives Tryz.prog 14 #[.agg cs.toArray] w (.bool (houseOk a)) := by
  obtain ⟨A1, n1, k1, A2, n2, k2, A3, n3, k3, A4, n4, k4, A5, n5, k5, A6, n6, k6, A7, n7, k7, A8, n8, k8, rfl, g1, g2⟩ := Dz.Ho_form hr
  have c1 := fun w1 hb => stateRight_i a.1 _ hok.1 w1 (Ty.below _ g1 hb)
  obtain ⟨_, _, _, _, _, _, _, _, _, _, _, _, _, _, _, _, _, _, _, _, _, es, gy, _⟩ := St_form g1
  injection es with s1 es; injection es with s2 es; injection es with s3 es; injection es with s4 es; injection es with s5 es; injection es with s6 es; injection es with s7 es
  rw [← s1, ← s2, ← s3, ← s5, ← s6, ← s7] at gy
  clear es s1 s2 s3 s4 s5 s6 s7
  obtain ⟨_, _, _, _, _, _, _, _, _, _, _, _, _, _, _, _, _, _, ey, gc, _, _, _⟩ := Yd_form gy
  injection ey with e1 ey; injection ey with e2 ey; injection ey with e3 ey
  rw [← e1, ← e2, ← e3] at gc
  clear ey e1 e2 e3 gy
  obtain ⟨_, _, _, ed, gd⟩ := Dz.Dk_form g2
  injection ed with e1 ed
  rw [← e1] at gd
  clear ed e1
  have gd2 : Rd w 3 (.slice A8 n8 k8) a.2.1.1.length (flat encReg a.2.1.1) := sl_rd gd
  have hn8 : n8 = a.2.1.1.length := by obtain ⟨_, _, e, h, h'⟩ := sl_form gd; injection e
  have c2 := fun w1 hb => diskRight_i a.2.1.1 (.slice A8 n8 k8) a.2.1.2 w1 (Rd.below gd2 (Nat.le_refl _) hb)
  have c3 := fun hc w1 hb => regs_i a.1.1.1 _ hc w1 (Ty.below _ gc hb)
  have c4 := fun w1 => tim_i a.2.2 w1
  obtain ⟨z, hz⟩ : ∃ z, z = houseOk a := ⟨_, rfl⟩
  rw [← hz]
  have hcfg : stateOk a.1 = true → cfgOk a.1.1.1 = true := state_cfg
  obtain ⟨z1, hz1⟩ : ∃ b, b = stateOk a.1 := ⟨_, rfl⟩
  obtain ⟨z2, hz2⟩ : ∃ b, b = diskOk a.2.1.1 a.2.1.2 := ⟨_, rfl⟩
  obtain ⟨z5, hz5⟩ : ∃ b, b = isIn a.2.2 0 1000000 := ⟨_, rfl⟩
  have HZ : Hid (z = (z1 && (z2 && (decide (n8 = regsOf a.1.1.1) && (a.2.1.2 == -1 && z5))))) := Lib.hid (by rw [hz, hz1, hz2, hz5, hn8]; rfl)
  rw [← hz1] at c1 hcfg
  rw [← hz2] at c2
  rw [← hz5] at c4
  obtain ⟨⟨⟨c, nds, tks, uss, now⟩, m⟩, ⟨rs, pw⟩, sq⟩ := a
  simp only at c1 c2 c3 c4 hcfg HZ
  replace c1 : ∀ w1, Below w.heap.size w w1 → Gives Tryz.prog 9 #[.agg #[.slice A1 n1 k1, .slice A2 n2 k2, .slice A3 n3 k3, .int .i64 c.2.2.2, .slice A4 n4 k4, .slice A5 n5 k5, .slice A6 n6 k6, .int .i64 now, .slice A7 n7 k7]] w1 (.bool z1) := c1
  replace c3 : cfgOk c = true → ∀ w1, Below w.heap.size w w1 → Gives Tryz.prog 38 #[.agg #[.slice A1 n1 k1, .slice A2 n2 k2, .slice A3 n3 k3, .int .i64 c.2.2.2]] w1 (.int .i64 (regsOf c)) := c3
  clear hr g1 g2 gc gd gd2 hz hz1 hz2 hz5 hok hn8
  generalize regsOf c = rg at *
  generalize hf0 : c.2.2.2 = hf at *
  clear hf0
  have H := Hs.start noRow w
  unfold Gives
  show Calls _ _ #[.agg #[.slice A1 n1 k1, .slice A2 n2 k2, .slice A3 n3 k3, .int .i64 hf, .slice A4 n4 k4, .slice A5 n5 k5, .slice A6 n6 k6, .int .i64 now, .slice A7 n7 k7, .slice A8 n8 k8, .int .i64 pw, .int .i64 sq]] _ _
  obtain ⟨zl, hzl⟩ : ∃ b, ((n8 : Int) == (rg : Int)) = b := ⟨_, rfl⟩
  obtain ⟨zp, hzp⟩ : ∃ b, (pw == -1) = b := ⟨_, rfl⟩
  have HZ2 : Hid (z = (z1 && (z2 && (zl && (zp && z5))))) := Lib.hid (by
    rw [HZ.out, ← hzl, ← hzp]
    congr 3
    by_cases h : n8 = rg
    · rw [decide_eq_true h, h]; simp
    · rw [decide_eq_false h, beq_eq_false_iff_ne.2 (by omega)])
  have c3x := fun h => c3 (hcfg h)
  clear HZ hcfg c3
  have hd : (z1 = false ∨ (z1 = true ∧ z2 = false) ∨ (z1 = true ∧ z2 = true ∧ zl = false) ∨ (z1 = true ∧ z2 = true ∧ zl = true ∧ zp = false)) ∨ (z1 = true ∧ z2 = true ∧ zl = true ∧ zp = true) := by cases z1 <;> cases z2 <;> cases zl <;> cases zp <;> simp
  rcases hd with (rfl | ⟨rfl, rfl⟩ | ⟨rfl, rfl, rfl⟩ | ⟨rfl, rfl, rfl, rfl⟩) | ⟨rfl, rfl, rfl, rfl⟩
  all_goals (
    try have c3' := c3x rfl
    clear c3x
    go_enter Tryz.func14, Tryz.ntmps14
    go_wp2_with (first | ((((with_reducible apply st_box (dst := some 1) H); exact nF; intro b1)); clear H; intro wn H; simp only [Act.put, yA, yB, yC, yD, yE, yF]) | ((with_reducible apply wp_region_hq (id := 1) H); kernel_rfl; kernel_rfl; (iterate 2 (all_goals ((with_reducible refine' hq_step ?_ ?_ ?_); rotate_left; rfl; (focus (intro w1 H1; first | (exact qF) | (exact qVF))); (try simp only [yG, yH, yJ, yK]); simp only [Act.put, yA, yB, yC, yD, yE, yF]))); (all_goals ((with_reducible refine' hq_step ?_ ?_ ?_); rotate_left; rfl; (focus (intro w1 H1; unfold QOk; go_simp; exact q_call (c1 _ H1.below))); (try simp only [yG, yH, yJ, yK]); simp only [Act.put, yA, yB, yC, yD, yE, yF])); (iterate 1 (all_goals ((with_reducible refine' hq_step ?_ ?_ ?_); rotate_left; rfl; (focus (intro w1 H1; exact qVF)); (try simp only [yG, yH, yJ, yK]); simp only [Act.put, yA, yB, yC, yD, yE, yF]))); (iterate 2 (all_goals (first | ((with_reducible refine hq_gwT ?_ ?_); rfl; ((with_reducible refine' hq_step ?_ ?_ ?_); rotate_left; rfl; (focus (intro w1 H1; first | (exact qF) | (exact qVF))); (try simp only [yG, yH, yJ, yK]); simp only [Act.put, yA, yB, yC, yD, yE, yF])) | ((with_reducible refine hq_gsT ?_ ?_); rfl; (try simp only [Act.put, yA, yB, yC, yD, yE, yF]))))); all_goals (first | ((with_reducible refine hq_gwT ?_ ?_); rfl; ((with_reducible refine' hq_step ?_ ?_ ?_); rotate_left; rfl; (focus (intro w1 H1; unfold QOk; go_simp; exact q_call (c2 _ H1.below))); (try simp only [yG, yH, yJ, yK]); simp only [Act.put, yA, yB, yC, yD, yE, yF])) | ((with_reducible refine hq_gsT ?_ ?_); rfl; (try simp only [Act.put, yA, yB, yC, yD, yE, yF]))); (iterate 2 (all_goals ((with_reducible refine' hq_step ?_ ?_ ?_); rotate_left; rfl; (focus (intro w1 H1; exact qVF)); (try simp only [yG, yH, yJ, yK]); simp only [Act.put, yA, yB, yC, yD, yE, yF]))); (iterate 8 (all_goals (first | ((with_reducible refine hq_gwT ?_ ?_); rfl; ((with_reducible refine' hq_step ?_ ?_ ?_); rotate_left; rfl; (focus (intro w1 H1; first | (exact qF) | (exact qVF))); (try simp only [yG, yH, yJ, yK]); simp only [Act.put, yA, yB, yC, yD, yE, yF])) | ((with_reducible refine hq_gsT ?_ ?_); rfl; (try simp only [Act.put, yA, yB, yC, yD, yE, yF]))))); all_goals (first | ((with_reducible refine hq_gwT ?_ ?_); rfl; ((with_reducible refine' hq_step ?_ ?_ ?_); rotate_left; rfl; (focus (intro w1 H1; unfold QOk; go_simp; exact q_call (c3' _ H1.below))); (try simp only [yG, yH, yJ, yK]); simp only [Act.put, yA, yB, yC, yD, yE, yF])) | ((with_reducible refine hq_gsT ?_ ?_); rfl; (try simp only [Act.put, yA, yB, yC, yD, yE, yF]))); all_goals (first | ((with_reducible refine hq_gwT ?_ ?_); rfl; ((with_reducible refine' hq_step ?_ ?_ ?_); rotate_left; rfl; (focus (intro w1 H1; exact qVF)); (try simp only [yG, yH, yJ, yK]); simp only [Act.put, yA, yB, yC, yD, yE, yF])) | ((with_reducible refine hq_gsT ?_ ?_); rfl; (try simp only [Act.put, yA, yB, yC, yD, yE, yF]))); (iterate 2 (all_goals ((with_reducible refine' hq_step ?_ ?_ ?_); rotate_left; rfl; (focus (intro w1 H1; exact qVF)); (try simp only [yG, yH, yJ, yK]); simp only [Act.put, yA, yB, yC, yD, yE, yF]))); (iterate 4 (all_goals (first | ((with_reducible refine hq_gwT ?_ ?_); rfl; ((with_reducible refine' hq_step ?_ ?_ ?_); rotate_left; rfl; (focus (intro w1 H1; first | (exact qF) | (exact qVF))); (try simp only [yG, yH, yJ, yK]); simp only [Act.put, yA, yB, yC, yD, yE, yF])) | ((with_reducible refine hq_gsT ?_ ?_); rfl; (try simp only [Act.put, yA, yB, yC, yD, yE, yF]))))); (iterate 2 (all_goals ((with_reducible refine' hq_step ?_ ?_ ?_); rotate_left; rfl; (focus (intro w1 H1; exact qVF)); (try simp only [yG, yH, yJ, yK]); simp only [Act.put, yA, yB, yC, yD, yE, yF]))); (iterate 2 (all_goals (first | ((with_reducible refine hq_gwT ?_ ?_); rfl; ((with_reducible refine' hq_step ?_ ?_ ?_); rotate_left; rfl; (focus (intro w1 H1; first | (exact qF) | (exact qVF))); (try simp only [yG, yH, yJ, yK]); simp only [Act.put, yA, yB, yC, yD, yE, yF])) | ((with_reducible refine hq_gsT ?_ ?_); rfl; (try simp only [Act.put, yA, yB, yC, yD, yE, yF]))))); all_goals (first | ((with_reducible refine hq_gwT ?_ ?_); rfl; ((with_reducible refine' hq_step ?_ ?_ ?_); rotate_left; rfl; (focus (intro w1 H1; unfold QOk; go_simp; exact q_call (c4 _))); (try simp only [yG, yH, yJ, yK]); simp only [Act.put, yA, yB, yC, yD, yE, yF])) | ((with_reducible refine hq_gsT ?_ ?_); rfl; (try simp only [Act.put, yA, yB, yC, yD, yE, yF]))); (iterate 2 (all_goals ((with_reducible refine' hq_step ?_ ?_ ?_); rotate_left; rfl; (focus (intro w1 H1; exact qVF)); (try simp only [yG, yH, yJ, yK]); simp only [Act.put, yA, yB, yC, yD, yE, yF]))); all_goals (refine wpQuiet_nil ?_; clear H; intro wn H)))
    go_ret
    exact ⟨by rw [HZ2.out] <;> rfl, H.below⟩)
set_option maxRecDepth 100000 in
set_option maxHeartbeats 4000000 in
theorem houseRight_s (a : Ho) (cs : List Value) (hok : okHo a) (w : World) (hr : Dz.tyHo.rd w cs a) : Gives Tryz.prog 12 #[.agg cs.toArray] w (.bool (houseOk a)) := by
  obtain ⟨A1, n1, k1, A2, n2, k2, A3, n3, k3, A4, n4, k4, A5, n5, k5, A6, n6, k6, A7, n7, k7, A8, n8, k8, rfl, g1, g2⟩ := Dz.Ho_form hr
  have c1 := fun w1 hb => stateRight_s a.1 _ hok.1 w1 (Ty.below _ g1 hb)
  obtain ⟨_, _, _, _, _, _, _, _, _, _, _, _, _, _, _, _, _, _, _, _, _, es, gy, _⟩ := St_form g1
  injection es with s1 es; injection es with s2 es; injection es with s3 es; injection es with s4 es; injection es with s5 es; injection es with s6 es; injection es with s7 es
  rw [← s1, ← s2, ← s3, ← s5, ← s6, ← s7] at gy
  clear es s1 s2 s3 s4 s5 s6 s7
  obtain ⟨_, _, _, _, _, _, _, _, _, _, _, _, _, _, _, _, _, _, ey, gc, _, _, _⟩ := Yd_form gy
  injection ey with e1 ey; injection ey with e2 ey; injection ey with e3 ey
  rw [← e1, ← e2, ← e3] at gc
  clear ey e1 e2 e3 gy
  obtain ⟨_, _, _, ed, gd⟩ := Dz.Dk_form g2
  injection ed with e1 ed
  rw [← e1] at gd
  clear ed e1
  have gd2 : Rd w 3 (.slice A8 n8 k8) a.2.1.1.length (flat encReg a.2.1.1) := sl_rd gd
  have hn8 : n8 = a.2.1.1.length := by obtain ⟨_, _, e, h, h'⟩ := sl_form gd; injection e
  have c2 := fun w1 hb => diskRight_s a.2.1.1 (.slice A8 n8 k8) a.2.1.2 w1 (Rd.below gd2 (Nat.le_refl _) hb)
  have c3 := fun hc w1 hb => regs_s a.1.1.1 _ hc w1 (Ty.below _ gc hb)
  have c4 := fun w1 => tim_s a.2.2 w1
  obtain ⟨z, hz⟩ : ∃ z, z = houseOk a := ⟨_, rfl⟩
  rw [← hz]
  have hcfg : stateOk a.1 = true → cfgOk a.1.1.1 = true := state_cfg
  obtain ⟨z1, hz1⟩ : ∃ b, b = stateOk a.1 := ⟨_, rfl⟩
  obtain ⟨z2, hz2⟩ : ∃ b, b = diskOk a.2.1.1 a.2.1.2 := ⟨_, rfl⟩
  obtain ⟨z5, hz5⟩ : ∃ b, b = isIn a.2.2 0 1000000 := ⟨_, rfl⟩
  have HZ : Hid (z = (z1 && (z2 && (decide (n8 = regsOf a.1.1.1) && (a.2.1.2 == -1 && z5))))) := Lib.hid (by rw [hz, hz1, hz2, hz5, hn8]; rfl)
  rw [← hz1] at c1 hcfg
  rw [← hz2] at c2
  rw [← hz5] at c4
  obtain ⟨⟨⟨c, nds, tks, uss, now⟩, m⟩, ⟨rs, pw⟩, sq⟩ := a
  simp only at c1 c2 c3 c4 hcfg HZ
  replace c1 : ∀ w1, Below w.heap.size w w1 → Gives Tryz.prog 7 #[.agg #[.slice A1 n1 k1, .slice A2 n2 k2, .slice A3 n3 k3, .int .i64 c.2.2.2, .slice A4 n4 k4, .slice A5 n5 k5, .slice A6 n6 k6, .int .i64 now, .slice A7 n7 k7]] w1 (.bool z1) := c1
  replace c3 : cfgOk c = true → ∀ w1, Below w.heap.size w w1 → Gives Tryz.prog 34 #[.agg #[.slice A1 n1 k1, .slice A2 n2 k2, .slice A3 n3 k3, .int .i64 c.2.2.2]] w1 (.int .i64 (regsOf c)) := c3
  clear hr g1 g2 gc gd gd2 hz hz1 hz2 hz5 hok hn8
  generalize regsOf c = rg at *
  generalize hf0 : c.2.2.2 = hf at *
  clear hf0
  have H := Hs.start noRow w
  unfold Gives
  show Calls _ _ #[.agg #[.slice A1 n1 k1, .slice A2 n2 k2, .slice A3 n3 k3, .int .i64 hf, .slice A4 n4 k4, .slice A5 n5 k5, .slice A6 n6 k6, .int .i64 now, .slice A7 n7 k7, .slice A8 n8 k8, .int .i64 pw, .int .i64 sq]] _ _
  obtain ⟨zl, hzl⟩ : ∃ b, ((n8 : Int) == (rg : Int)) = b := ⟨_, rfl⟩
  obtain ⟨zp, hzp⟩ : ∃ b, (pw == -1) = b := ⟨_, rfl⟩
  have HZ2 : Hid (z = (z1 && (z2 && (zl && (zp && z5))))) := Lib.hid (by
    rw [HZ.out, ← hzl, ← hzp]
    congr 3
    by_cases h : n8 = rg
    · rw [decide_eq_true h, h]; simp
    · rw [decide_eq_false h, beq_eq_false_iff_ne.2 (by omega)])
  have c3x := fun h => c3 (hcfg h)
  clear HZ hcfg c3
  have hd : (z1 = false ∨ (z1 = true ∧ z2 = false) ∨ (z1 = true ∧ z2 = true ∧ zl = false) ∨ (z1 = true ∧ z2 = true ∧ zl = true ∧ zp = false)) ∨ (z1 = true ∧ z2 = true ∧ zl = true ∧ zp = true) := by cases z1 <;> cases z2 <;> cases zl <;> cases zp <;> simp
  rcases hd with (rfl | ⟨rfl, rfl⟩ | ⟨rfl, rfl, rfl⟩ | ⟨rfl, rfl, rfl, rfl⟩) | ⟨rfl, rfl, rfl, rfl⟩
  all_goals (
    try have c3' := c3x rfl
    clear c3x
    go_enter Tryz.func12, Tryz.ntmps12
    go_wp2_with (first | ((((with_reducible apply st_box (dst := some 1) H); exact nF; intro b1)); clear H; intro wn H; simp only [Act.put, yA, yB, yC, yD, yE, yF]) | ((with_reducible apply wp_region_hq (id := 1) H); kernel_rfl; kernel_rfl; (iterate 2 (all_goals ((with_reducible refine' hq_step ?_ ?_ ?_); rotate_left; rfl; (focus (intro w1 H1; first | (exact qF) | (exact qVF))); (try simp only [yG, yH, yJ, yK]); simp only [Act.put, yA, yB, yC, yD, yE, yF]))); (all_goals ((with_reducible refine' hq_step ?_ ?_ ?_); rotate_left; rfl; (focus (intro w1 H1; unfold QOk; go_simp; exact q_call (c1 _ H1.below))); (try simp only [yG, yH, yJ, yK]); simp only [Act.put, yA, yB, yC, yD, yE, yF])); (iterate 1 (all_goals ((with_reducible refine' hq_step ?_ ?_ ?_); rotate_left; rfl; (focus (intro w1 H1; exact qVF)); (try simp only [yG, yH, yJ, yK]); simp only [Act.put, yA, yB, yC, yD, yE, yF]))); (iterate 2 (all_goals (first | ((with_reducible refine hq_gwT ?_ ?_); rfl; ((with_reducible refine' hq_step ?_ ?_ ?_); rotate_left; rfl; (focus (intro w1 H1; first | (exact qF) | (exact qVF))); (try simp only [yG, yH, yJ, yK]); simp only [Act.put, yA, yB, yC, yD, yE, yF])) | ((with_reducible refine hq_gsT ?_ ?_); rfl; (try simp only [Act.put, yA, yB, yC, yD, yE, yF]))))); all_goals (first | ((with_reducible refine hq_gwT ?_ ?_); rfl; ((with_reducible refine' hq_step ?_ ?_ ?_); rotate_left; rfl; (focus (intro w1 H1; unfold QOk; go_simp; exact q_call (c2 _ H1.below))); (try simp only [yG, yH, yJ, yK]); simp only [Act.put, yA, yB, yC, yD, yE, yF])) | ((with_reducible refine hq_gsT ?_ ?_); rfl; (try simp only [Act.put, yA, yB, yC, yD, yE, yF]))); (iterate 2 (all_goals ((with_reducible refine' hq_step ?_ ?_ ?_); rotate_left; rfl; (focus (intro w1 H1; exact qVF)); (try simp only [yG, yH, yJ, yK]); simp only [Act.put, yA, yB, yC, yD, yE, yF]))); (iterate 8 (all_goals (first | ((with_reducible refine hq_gwT ?_ ?_); rfl; ((with_reducible refine' hq_step ?_ ?_ ?_); rotate_left; rfl; (focus (intro w1 H1; first | (exact qF) | (exact qVF))); (try simp only [yG, yH, yJ, yK]); simp only [Act.put, yA, yB, yC, yD, yE, yF])) | ((with_reducible refine hq_gsT ?_ ?_); rfl; (try simp only [Act.put, yA, yB, yC, yD, yE, yF]))))); all_goals (first | ((with_reducible refine hq_gwT ?_ ?_); rfl; ((with_reducible refine' hq_step ?_ ?_ ?_); rotate_left; rfl; (focus (intro w1 H1; unfold QOk; go_simp; exact q_call (c3' _ H1.below))); (try simp only [yG, yH, yJ, yK]); simp only [Act.put, yA, yB, yC, yD, yE, yF])) | ((with_reducible refine hq_gsT ?_ ?_); rfl; (try simp only [Act.put, yA, yB, yC, yD, yE, yF]))); all_goals (first | ((with_reducible refine hq_gwT ?_ ?_); rfl; ((with_reducible refine' hq_step ?_ ?_ ?_); rotate_left; rfl; (focus (intro w1 H1; exact qVF)); (try simp only [yG, yH, yJ, yK]); simp only [Act.put, yA, yB, yC, yD, yE, yF])) | ((with_reducible refine hq_gsT ?_ ?_); rfl; (try simp only [Act.put, yA, yB, yC, yD, yE, yF]))); (iterate 2 (all_goals ((with_reducible refine' hq_step ?_ ?_ ?_); rotate_left; rfl; (focus (intro w1 H1; exact qVF)); (try simp only [yG, yH, yJ, yK]); simp only [Act.put, yA, yB, yC, yD, yE, yF]))); (iterate 4 (all_goals (first | ((with_reducible refine hq_gwT ?_ ?_); rfl; ((with_reducible refine' hq_step ?_ ?_ ?_); rotate_left; rfl; (focus (intro w1 H1; first | (exact qF) | (exact qVF))); (try simp only [yG, yH, yJ, yK]); simp only [Act.put, yA, yB, yC, yD, yE, yF])) | ((with_reducible refine hq_gsT ?_ ?_); rfl; (try simp only [Act.put, yA, yB, yC, yD, yE, yF]))))); (iterate 2 (all_goals ((with_reducible refine' hq_step ?_ ?_ ?_); rotate_left; rfl; (focus (intro w1 H1; exact qVF)); (try simp only [yG, yH, yJ, yK]); simp only [Act.put, yA, yB, yC, yD, yE, yF]))); (iterate 2 (all_goals (first | ((with_reducible refine hq_gwT ?_ ?_); rfl; ((with_reducible refine' hq_step ?_ ?_ ?_); rotate_left; rfl; (focus (intro w1 H1; first | (exact qF) | (exact qVF))); (try simp only [yG, yH, yJ, yK]); simp only [Act.put, yA, yB, yC, yD, yE, yF])) | ((with_reducible refine hq_gsT ?_ ?_); rfl; (try simp only [Act.put, yA, yB, yC, yD, yE, yF]))))); all_goals (first | ((with_reducible refine hq_gwT ?_ ?_); rfl; ((with_reducible refine' hq_step ?_ ?_ ?_); rotate_left; rfl; (focus (intro w1 H1; unfold QOk; go_simp; exact q_call (c4 _))); (try simp only [yG, yH, yJ, yK]); simp only [Act.put, yA, yB, yC, yD, yE, yF])) | ((with_reducible refine hq_gsT ?_ ?_); rfl; (try simp only [Act.put, yA, yB, yC, yD, yE, yF]))); (iterate 2 (all_goals ((with_reducible refine' hq_step ?_ ?_ ?_); rotate_left; rfl; (focus (intro w1 H1; exact qVF)); (try simp only [yG, yH, yJ, yK]); simp only [Act.put, yA, yB, yC, yD, yE, yF]))); all_goals (refine wpQuiet_nil ?_; clear H; intro wn H)))
    go_ret
    exact ⟨by rw [HZ2.out] <;> rfl, H.below⟩)
set_option maxRecDepth 100000 in
set_option maxHeartbeats 4000000 in
theorem law_HouseRight (a : Ho) (cs : List Value) (hok0 : okHo a ∧ ∀ b ∈ a.1.2, bdBo b) (w : World) (hr : Dz.tyHo.rd w cs a) :
    Gives Tryz.prog 4 #[.agg cs.toArray] w (.bool true) := by
  have hok := hok0.1
  clear hok0
  have c1 := fun w1 hb => Dz.szHouse_l a cs 1048576 (by omega) hok w1 (Ty.below _ hr hb)
  have c3 := fun hs w1 hb => Dz.toHouse_l a cs hs w1 (Ty.below _ hr hb)
  have c5 := fun ds w1 h => houseRight_s a ds hok w1 h
  have c6 := fun ds w1 h => houseRight_i a ds hok w1 h
  generalize houseOk a = z at *
  obtain ⟨A1, n1, k1, A2, n2, k2, A3, n3, k3, A4, n4, k4, A5, n5, k5, A6, n6, k6, A7, n7, k7, A8, n8, k8, rfl⟩ := Dz.Ho_lit hr
  obtain ⟨hf, hhf⟩ : ∃ n, n = a.1.1.1.2.2.2 := ⟨_, rfl⟩
  obtain ⟨now, hnow⟩ : ∃ n, n = a.1.1.2.2.2.2 := ⟨_, rfl⟩
  obtain ⟨pw, hpw⟩ : ∃ n, n = a.2.1.2 := ⟨_, rfl⟩
  obtain ⟨sq, hsq⟩ : ∃ n, n = a.2.2 := ⟨_, rfl⟩
  rw [← hhf, ← hnow, ← hpw, ← hsq] at c1 c3 ⊢
  clear hhf hnow hpw hsq
  clear hr hok
  replace c1 : ∀ w1, Below w.heap.size w w1 → Gives Tryz.prog 11 #[.agg #[.slice A1 n1 k1, .slice A2 n2 k2, .slice A3 n3 k3, .int .i64 hf, .slice A4 n4 k4, .slice A5 n5 k5, .slice A6 n6 k6, .int .i64 now, .slice A7 n7 k7, .slice A8 n8 k8, .int .i64 pw, .int .i64 sq], .int .i64 1048576] w1 (.int .i64 (szC 1048576 (szHo a))) := c1
  replace c3 : szHo a ≤ 1048576 → ∀ w1, Below w.heap.size w w1 → Rets Tryz.prog [] 13 #[.agg #[.slice A1 n1 k1, .slice A2 n2 k2, .slice A3 n3 k3, .int .i64 hf, .slice A4 n4 k4, .slice A5 n5 k5, .slice A6 n6 k6, .int .i64 now, .slice A7 n7 k7, .slice A8 n8 k8, .int .i64 pw, .int .i64 sq]] w1 (tAgg Dz.tyHo a) := c3
  show Gives Tryz.prog _ #[.agg #[.slice A1 n1 k1, .slice A2 n2 k2, .slice A3 n3 k3, .int .i64 hf, .slice A4 n4 k4, .slice A5 n5 k5, .slice A6 n6 k6, .int .i64 now, .slice A7 n7 k7, .slice A8 n8 k8, .int .i64 pw, .int .i64 sq]] w _
  have H := Hs.start noRow w
  unfold Gives
  by_cases hn1 : (1048576 : Int) - szHo a < 0
  · rw [szC_neg hn1] at c1
    go_enter Tryz.func4, Tryz.ntmps4
    go_wp2_with (first | ((((with_reducible apply st_loads H); decide +kernel; rfl; exact iF; exact zF; rfl)); clear H; intro wn H; (try simp only [splice, yG, yH, yI, yJ, yK, yL, yM, yN, yO, yP, yQ, Nat.reduceAdd, yA, yB, yC] at H); simp only [Act.put, yA, yB, yC, yD, yE, yF]) | ((((with_reducible apply st_box (dst := some 1) H); exact nF; intro b1)); clear H; intro wn H; simp only [Act.put, yA, yB, yC, yD, yE, yF]) | (((go_at_call 11; refine gvF (c1 _ H.below) H ?_)); clear H; intro wn H))
    go_ret
    exact ⟨rfl, H.below⟩
  rw [szC_pos hn1] at c1
  have c8 := c3 (by omega)
  clear c3
  generalize (1048576 : Int) - szHo a = s2 at *
  have hz : (z != z) = false := by simp
  go_enter Tryz.func4, Tryz.ntmps4
  go_wp2_with (first | ((((with_reducible apply st_loads H); decide +kernel; rfl; exact iF; exact zF; rfl)); clear H; intro wn H; (try simp only [splice, yG, yH, yI, yJ, yK, yL, yM, yN, yO, yP, yQ, Nat.reduceAdd, yA, yB, yC] at H); simp only [Act.put, yA, yB, yC, yD, yE, yF]) | ((((with_reducible apply st_box (dst := some 1) H); exact nF; intro b1)); clear H; intro wn H; simp only [Act.put, yA, yB, yC, yD, yE, yF]) | (((go_at_call 11; refine gvF (c1 _ H.below) H ?_)); clear H; intro wn H))
  refine (Rets.use (c8 _ H.below)).mono ?_; rintro e wn ⟨_, _, rfl, ⟨a1, M1, rfl, o1, rfl⟩, hkk⟩; have Hn := H.moreK (by intro k hk; first | exact absurd hk List.not_mem_nil | (obtain rfl := List.mem_singleton.1 hk; exact In.mem iF)) hkk; clear hkk; clear H; have H := Hn; clear Hn; (try simp only [yT, yV] at H)
  obtain ⟨PA1, Pn1, Pk1, PA2, Pn2, Pk2, PA3, Pn3, Pk3, PA4, Pn4, Pk4, PA5, Pn5, Pk5, PA6, Pn6, Pk6, PA7, Pn7, Pk7, PA8, Pn8, Pk8, rfl⟩ := Dz.Ho_lit (own_rd H .here o1)
  go_wp2_with (fail)
  refine gvF (c5 _ _ (own_rd H iF o1)) H ?_; clear H; intro wn H
  go_wp2_with (((((with_reducible apply st_loads H); decide +kernel; rfl; exact iF; exact zF; rfl)); clear H; intro wn H; (try simp only [splice, yG, yH, yI, yJ, yK, yL, yM, yN, yO, yP, yQ, Nat.reduceAdd, yA, yB, yC] at H); simp only [Act.put, yA, yB, yC, yD, yE, yF]))
  refine (Rets.use (c8 _ H.below)).mono ?_; rintro e wn ⟨_, _, rfl, ⟨a2, M2, rfl, o2, rfl⟩, hkk⟩; have Hn := H.moreK (by intro k hk; first | exact absurd hk List.not_mem_nil | (obtain rfl := List.mem_singleton.1 hk; exact In.mem iF)) hkk; clear hkk; clear H; have H := Hn; clear Hn; (try simp only [yT, yV] at H)
  obtain ⟨QA1, Qn1, Qk1, QA2, Qn2, Qk2, QA3, Qn3, Qk3, QA4, Qn4, Qk4, QA5, Qn5, Qk5, QA6, Qn6, Qk6, QA7, Qn7, Qk7, QA8, Qn8, Qk8, rfl⟩ := Dz.Ho_lit (own_rd H .here o2)
  go_wp2_with (first | ((first | ((with_reducible apply st_loads H); decide +kernel; rfl; exact iF; exact zF; rfl) | ((with_reducible apply st_store H); rfl; exact eF; (focus (exact cells_agg _)); exact uF; kernel_rfl; (focus (exact Nat.le_of_ble_eq_true (by rfl))); (focus (rfl)))); clear H; intro wn H; (try simp only [splice, yG, yH, yI, yJ, yK, yL, yM, yN, yO, yP, yQ, Nat.reduceAdd, yA, yB, yC] at H); simp only [Act.put, yA, yB, yC, yD, yE, yF]) | ((((with_reducible apply st_alloc (dst := some 5) H); exact nF; intro b5)); clear H; intro wn H; simp only [Act.put, yA, yB, yC, yD, yE, yF]) | (((go_at_call 14; refine gvF (c6 _ _ (own_rd H iF o2)) H ?_)); clear H; intro wn H))
  apply wp_region_hss (K := []) (Spec.V _ :: Spec.V _ :: Spec.T _ :: Spec.V _ :: Spec.V _ :: []) 5 rfl H rfl (by simp) (by kernel_rfl) (by kernel_rfl); intro vs Ls; (iterate 2 ((with_reducible apply wpH_V); (focus rfl); (focus rfl); (focus (intro w1 H1; exact oF)); simp only [Act.put, yA, yB, yC, yD, yE, yF]; (try simp only [yG, yH, yJ, yK]))); (with_reducible apply wpH_T); (focus rfl); (focus rfl); (focus (intro hk w1 H1; unfold OpOk; go_simp; exact now_call (c8 _ H1.below))); simp only [Act.put, yA, yB, yC, yD, yE, yF]; (with_reducible apply (wpH_E 2)); (focus rfl); (focus rfl); (focus rfl); (focus decide +kernel); (focus decide); (focus (intro kk2 w1 H1; obtain ⟨a7, M7, e2, o7, l2⟩ := kk2; simp only [e2, l2, yT, yU, yV] at H1 ⊢; unfold OpOk; (try simp only [e2]); go_simp; exact now_call (Gives.rets (Dz.eqHouse_l a _ _ _ (own_rd H1 iF o2) (own_rd H1 iF o7))))); simp only [Act.put, yA, yB, yC, yD, yE, yF]; (iterate 1 ((with_reducible apply wpH_V); (focus rfl); (focus rfl); (focus (intro w1 H1; exact oF)); simp only [Act.put, yA, yB, yC, yD, yE, yF]; (try simp only [yG, yH, yJ, yK]))); refine wpH_0 ?_; intro hok wn Hn; (try simp only [yT, yU, yV, yW] at Hn); clear H; have H := Hn; clear Hn; have ht2 := okT (hok 2 (by decide)) rfl; clear hok; obtain ⟨a7, M7, e2, o7, l2⟩ := ht2; simp only [e2, l2, yT, yU, yV] at H ⊢; clear e2 l2; rotate_left; (focus (refine locs ?_; intro vs1 vs2; (iterate 5 (refine all_lt_succ ?_ (by first | exact (fun _ => rfl) | exact (fun _ => ⟨rfl, rfl⟩) | (intro h; simp only [spec, Spec.same, yR, yS, Option.getD_some]; (try rw [h 2 (by decide +kernel)]); (first | done | exact ⟨rfl, rfl⟩ | exact ⟨trivial, rfl⟩ | exact ⟨rfl, trivial⟩))))); exact (fun k hk => absurd hk (Nat.not_lt_zero k))))
  go_wp2_with (fail)
  go_ret
  exact ⟨rfl, H.below⟩
end Go.Proofs.YtcaeemhkeoajbaaGreat
