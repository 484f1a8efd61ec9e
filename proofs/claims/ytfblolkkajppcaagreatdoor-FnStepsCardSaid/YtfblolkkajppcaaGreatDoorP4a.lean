/-
  OpText of the program, kind by kind (printed by a program).
-/
import Derived.Test.YtfblolkkajppcaaGreatDoorP3
set_option linter.unusedSimpArgs false
set_option linter.unusedVariables false
namespace Go.Proofs.YtfblolkkajppcaaGreatDoor
open Go.RowKit M
set_option maxRecDepth 100000 in
set_option maxHeartbeats 8000000 in
theorem opText_i1n (l1 l2 : Int) (ow : ByteArray) (a b c d m1 m2 af : Int) (hz : af = 0) (hR : ∀ w, Gives Tryz.prog 12 #[encOp false l1 l2 1 ow a b c d m1 m2 af] w (.bool true)) (F : OpFacts false l1 l2 1 ow a b c d m1 m2 af) (w : World) (ht : Tab w) :
    Gives Tryz.prog 6 #[encOp false l1 l2 1 ow a b c d m1 m2 af] w (.string (bs (joinSp (opWords false l1 l2 1 ow a b c d m1 m2 af)))) := by
  unfold Gives
  have H := Hs.start noRow w
  have HT := Lib.hid ht
  have haf : af = 0 := hz
  subst haf
  obtain ⟨a0, a1'⟩ := F.a0
  obtain ⟨b0, b1'⟩ := F.b0
  obtain ⟨c0, c1'⟩ := F.c0
  obtain ⟨d0, d1'⟩ := F.d0
  have how := F.o rfl
  have hM : ∀ w, Gives Tryz.prog 26 #[.int .i64 1] w (.int .i64 4) := fun w => numbersIn_i 1 w
  have hl1 := labelText_len l1 l2
  have hl2 := labelText_len m1 m2
  have hda := dec_len (n := a) ⟨by omega, by omega⟩
  have hdb := dec_len (n := b) ⟨by omega, by omega⟩
  have hdc := dec_len (n := c) ⟨by omega, by omega⟩
  have hdd := dec_len (n := d) ⟨by omega, by omega⟩
  have hE : Hid (opWords false l1 l2 1 ow a b c d m1 m2 0 = [labelText l1 l2, (wordOf 1).data.toList] ++ [ow.data.toList] ++ [dec a, dec b, dec c, dec d] ++ ([] : List Bs)) := Lib.hid (by simp [opWords, numWords, many])
  clear ht F
  unfold encOp at *
  go_enter Tryz.func6, Tryz.ntmps6
  go_wp2_with (first | ((((with_reducible apply st_loads H); decide +kernel; rfl; exact iF; exact zF; rfl)); clear H; intro wn H; (try simp only [splice, yG, yH, yI, yJ, yK, yL, yM, yN, yO, yP, yQ, Nat.reduceAdd, yA, yB, yC] at H); simp only [Act.put, yA, yB, yC, yD, yE, yF]) | ((((with_reducible apply st_box (dst := some 1) H); exact nF; intro b1)); clear H; intro wn H; simp only [Act.put, yA, yB, yC, yD, yE, yF]) | (((go_at_call 12; refine gvF (hR _) H ?_)); clear H; intro wn H))
  apply wp_region_hs (K := []) (Spec.S _ _ _ :: Spec.V _ :: Spec.V _ :: Spec.V _ :: Spec.V _ :: Spec.S _ _ _ :: []) 6 H rfl (by simp) (by kernel_rfl) (by kernel_rfl); intro vs Ls; (with_reducible apply wpH_S); (focus rfl); (focus rfl); (focus (intro hk w1 H1; unfold OpOk; go_simp; exact now_call (opWords_i _))); intro g0 hg0; simp only [Act.put, yA, yB, yC, yD, yE, yF]; (iterate 3 ((with_reducible apply wpH_V); (focus rfl); (focus rfl); (focus (intro w1 H1; exact oF)); simp only [Act.put, yA, yB, yC, yD, yE, yF]; (try simp only [yG, yH, yJ, yK]))); (with_reducible apply (wpH_D 0)); (focus rfl); (focus rfl); (focus decide +kernel); (focus decide); (focus (intro hk w1 H1; have hb : Blk w1 _ _ _ := H1.ok _ (List.mem_append_left _ (List.mem_singleton.2 rfl)); rw [← hg0] at hb; rw [hg0] at hb; exact ok_load1 (v := .string (wordOf 1)) rfl (by decide +kernel) (hb.at (i := 1) rfl))); simp only [Act.put, yA, yB, yC, yD, yE, yF]; (with_reducible apply wpH_S); (focus rfl); (focus rfl); (focus (intro hk w1 H1; unfold OpOk; go_simp; exact now_sl)); intro g5 hg5; simp only [Act.put, yA, yB, yC, yD, yE, yF]; refine wpH_0 ?_; intro hok wn Hn; (try simp only [yT, yU, yV, yW] at Hn); clear H; have H := Hn; clear Hn; (try simp only [← hg0, ← hg5]); clear hg0; clear hg5; clear hok; rotate_left; (focus (refine locs ?_; intro vs1 vs2; (iterate 6 (refine all_lt_succ ?_ (by first | exact (fun _ => rfl) | exact (fun _ => ⟨rfl, rfl⟩) | (intro h; simp only [spec, Spec.same, yR, yS, Option.getD_some]; (try rw [h 0 (by decide +kernel)]); (try rw [h 5 (by decide +kernel)]); (first | done | exact ⟨rfl, rfl⟩ | exact ⟨trivial, rfl⟩ | exact ⟨rfl, trivial⟩))))); exact (fun k hk => absurd hk (Nat.not_lt_zero k))))
  have Hn := H.toOwn (g := g5) (E := 9) 1 2 uF rfl (by decide); clear H; have H := Hn; clear Hn
  simp only [bsys] at H
  go_wp2_with (first | ((first | ((with_reducible apply st_load1 H); decide +kernel; rfl; exact cF) | ((with_reducible apply st_loads H); decide +kernel; rfl; exact iF; exact zF; rfl) | ((with_reducible apply st_storeown H); rfl; exact eF; (focus (exact (rfl : _ = [_]))); exact uF; (focus omega); kernel_rfl; rfl)); clear H; intro wn H; (try simp only [splice, yG, yH, yI, yJ, yK, yL, yM, yN, yO, yP, yQ, Nat.reduceAdd, yA, yB, yC] at H); simp only [Act.put, yA, yB, yC, yD, yE, yF]) | ((((with_reducible apply st_bslice H); exact nsF; intro nb)); clear H; intro wn H; simp only [Act.put, yA, yB, yC, yD, yE, yF]) | ((with_reducible apply st_appendb H); (((focus (with_reducible exact dT (dT (dH)))); rfl)); rfl; exact iF; kernel_rfl; rfl; rfl; (focus (omega)); clear H; intro vq wn H; (try simp only [yM, yN, yO] at H); simp only [Act.put, yA, yB, yC, yD, yE, yF]) | (((go_at_call 24; refine gvF (labelText_i _ _ _) H ?_)); clear H; intro wn H))
  apply wp_region_hss (K := []) (Spec.V _ :: Spec.S _ _ _ :: Spec.V _ :: Spec.V _ :: Spec.V _ :: Spec.V _ :: Spec.V _ :: Spec.V _ :: []) 8 rfl H rfl (by simp) (by kernel_rfl) (by kernel_rfl); intro vs Ls; (iterate 1 ((with_reducible apply wpH_V); (focus rfl); (focus rfl); (focus (intro w1 H1; exact oF)); simp only [Act.put, yA, yB, yC, yD, yE, yF]; (try simp only [yG, yH, yJ, yK]))); (with_reducible apply wpH_S); (focus rfl); (focus rfl); (focus (intro hk w1 H1; unfold OpOk; go_simp; exact now_call (numbers_w _ _ _ _ _ _ _ _ _ _ _ _ _))); intro g1 hg1; simp only [Act.put, yA, yB, yC, yD, yE, yF]; (iterate 2 ((with_reducible apply wpH_V); (focus rfl); (focus rfl); (focus (intro w1 H1; exact oF)); simp only [Act.put, yA, yB, yC, yD, yE, yF]; (try simp only [yG, yH, yJ, yK]))); (with_reducible apply wpH_VK); (focus rfl); (focus rfl); (focus (intro hk w1 H1; unfold OpOk; go_simp; exact now_call (Gives.rets (hM _)))); simp only [Act.put, yA, yB, yC, yD, yE, yF]; (iterate 3 ((with_reducible apply wpH_V); (focus rfl); (focus rfl); (focus (intro w1 H1; exact oF)); simp only [Act.put, yA, yB, yC, yD, yE, yF]; (try simp only [yG, yH, yJ, yK]))); refine wpH_0 ?_; intro hok wn Hn; (try simp only [yT, yU, yV, yW] at Hn); clear H; have H := Hn; clear Hn; (try simp only [← hg1]); clear hg1; clear hok; rotate_left; (focus (refine locs ?_; intro vs1 vs2; (iterate 8 (refine all_lt_succ ?_ (by first | exact (fun _ => rfl) | exact (fun _ => ⟨rfl, rfl⟩) | (intro h; simp only [spec, Spec.same, yR, yS, Option.getD_some]; (try rw [h 1 (by decide +kernel)]); (first | done | exact ⟨rfl, rfl⟩ | exact ⟨trivial, rfl⟩ | exact ⟨rfl, trivial⟩))))); exact (fun k hk => absurd hk (Nat.not_lt_zero k))))
  go_wp2_with (fail)
  go_loopg [3, 4, 5, 47] 4 (fun n wv _ _ iv wr => ∃ (j : Nat) (v : Value), j + n = 4 ∧ iv = .int .i64 j ∧ wv = v ∧ Hs noRow w [Hl.own 9 1 v (3 + j) (strs ([labelText l1 l2, (wordOf 1).data.toList] ++ [ow.data.toList] ++ List.take j [dec a, dec b, dec c, dec d])), Hl.blk b1 26 #[.bool false, .int .i64 l1, .int .i64 l2, .int .i64 1, .string ow, .int .i64 a, .int .i64 b, .int .i64 c, .int .i64 d, .int .i64 m1, .int .i64 m2, .int .i64 0], Hl.blk g1 2 #[.int .i64 a, .int .i64 b, .int .i64 c, .int .i64 d]] wr)
  case atStart => refine ⟨0, _, rfl, rfl, rfl, ?_⟩; (simp only [strs, List.take_succ_cons, List.take_zero, List.take_nil, List.map_cons, List.map_nil, List.cons_append, List.nil_append, List.append_nil, Nat.reduceAdd, Nat.add_zero, bs_data]); (try simp only [Nat.reduceAdd] at H); exact H.sel sF
  case round =>
    clear H
    obtain ⟨j, v, hj, rfl, rfl, H⟩ := hrel
    have hjj : j = 0 ∨ j = 1 ∨ j = 2 ∨ j = 3 ∨ j = 4 := by omega
    rcases hjj with rfl | rfl | rfl | rfl | rfl
    all_goals simp only [strs, List.take_succ_cons, List.take_zero, List.take_nil, List.map_cons, List.map_nil, List.cons_append, List.nil_append, List.append_nil, Nat.reduceAdd, Nat.add_zero, bs_data] at H
    all_goals (
      go_wp2_with (first | ((((with_reducible apply st_load1 H); decide +kernel; rfl; exact cF)); clear H; intro wn H; (try simp only [splice, yG, yH, yI, yJ, yK, yL, yM, yN, yO, yP, yQ, Nat.reduceAdd, yA, yB, yC] at H); simp only [Act.put, yA, yB, yC, yD, yE, yF]) | ((((with_reducible apply st_bslice H); exact nsF; intro nb)); clear H; intro wn H; simp only [Act.put, yA, yB, yC, yD, yE, yF]) | ((with_reducible apply st_appendb H); (((focus (with_reducible exact dT (dH))); rfl)); rfl; exact iF; kernel_rfl; rfl; rfl; (focus (omega)); clear H; intro vq wn H; (try simp only [yM, yN, yO] at H); simp only [Act.put, yA, yB, yC, yD, yE, yF]) | (((go_at_call 28; refine gvF (decimal_i _ (by omega) (by omega) _ (HT.out.later H.below)) H ?_)); clear H; intro wn H))
    )
    · skip
      go_roundg 3
      case measure => omega
      case rel => refine ⟨1, _, rfl, rfl, rfl, ?_⟩; (simp only [strs, List.take_succ_cons, List.take_zero, List.take_nil, List.map_cons, List.map_nil, List.cons_append, List.nil_append, List.append_nil, Nat.reduceAdd, Nat.add_zero, bs_data]); (try simp only [Nat.reduceAdd] at H); exact H.sel sF
    · skip
      go_roundg 2
      case measure => omega
      case rel => refine ⟨2, _, rfl, rfl, rfl, ?_⟩; (simp only [strs, List.take_succ_cons, List.take_zero, List.take_nil, List.map_cons, List.map_nil, List.cons_append, List.nil_append, List.append_nil, Nat.reduceAdd, Nat.add_zero, bs_data]); (try simp only [Nat.reduceAdd] at H); exact H.sel sF
    · skip
      go_roundg 1
      case measure => omega
      case rel => refine ⟨3, _, rfl, rfl, rfl, ?_⟩; (simp only [strs, List.take_succ_cons, List.take_zero, List.take_nil, List.map_cons, List.map_nil, List.cons_append, List.nil_append, List.append_nil, Nat.reduceAdd, Nat.add_zero, bs_data]); (try simp only [Nat.reduceAdd] at H); exact H.sel sF
    · skip
      go_roundg 0
      case measure => omega
      case rel => refine ⟨4, _, rfl, rfl, rfl, ?_⟩; (simp only [strs, List.take_succ_cons, List.take_zero, List.take_nil, List.map_cons, List.map_nil, List.cons_append, List.nil_append, List.append_nil, Nat.reduceAdd, Nat.add_zero, bs_data]); (try simp only [Nat.reduceAdd] at H); exact H.sel sF
    · skip
      obtain ⟨gj, cj, rfl, _, _⟩ := (H.owns iF).form (by omega)
      refine gvF (join_l (n := 7) (l := [labelText l1 l2, (wordOf 1).data.toList] ++ [ow.data.toList] ++ [dec a, dec b, dec c, dec d] ++ ([] : List Bs)) (by simp) rfl (by decide) (by have h := H.owns iF; simpa only [strs, List.take_succ_cons, List.take_zero, List.take_nil, List.map_cons, List.map_nil, List.cons_append, List.nil_append, List.append_nil, Nat.reduceAdd, Nat.add_zero, bs_data] using h) (joinSp_bound (B := 100) (And.intro (by simp) (by decide)) (by simp only [List.cons_append, List.nil_append, List.append_nil]; (repeat (first | exact (fun _ h => absurd h List.not_mem_nil) | (refine List.forall_mem_cons.2 ⟨?_, ?_⟩; (focus (first | omega | exact wordOf_len _ | exact stateWord_len _ | decide | (simp; done) | (rw [size_data]; omega))))))))) H ?_; clear H; intro wn H
      go_wp2_with (fail)
      go_ret
      exact ⟨by rw [hE.out]; rfl, H.below⟩
set_option maxRecDepth 100000 in
set_option maxHeartbeats 8000000 in
theorem opText_i1y (l1 l2 : Int) (ow : ByteArray) (a b c d m1 m2 af : Int) (hz : af ≠ 0) (hR : ∀ w, Gives Tryz.prog 12 #[encOp false l1 l2 1 ow a b c d m1 m2 af] w (.bool true)) (F : OpFacts false l1 l2 1 ow a b c d m1 m2 af) (w : World) (ht : Tab w) :
    Gives Tryz.prog 6 #[encOp false l1 l2 1 ow a b c d m1 m2 af] w (.string (bs (joinSp (opWords false l1 l2 1 ow a b c d m1 m2 af)))) := by
  unfold Gives
  have H := Hs.start noRow w
  have HT := Lib.hid ht
  have hzz : (af != 0) = true := by simpa using hz
  obtain ⟨f0, f1⟩ := F.af0
  obtain ⟨a0, a1'⟩ := F.a0
  obtain ⟨b0, b1'⟩ := F.b0
  obtain ⟨c0, c1'⟩ := F.c0
  obtain ⟨d0, d1'⟩ := F.d0
  have how := F.o rfl
  have hM : ∀ w, Gives Tryz.prog 26 #[.int .i64 1] w (.int .i64 4) := fun w => numbersIn_i 1 w
  have hl1 := labelText_len l1 l2
  have hl2 := labelText_len m1 m2
  have hda := dec_len (n := a) ⟨by omega, by omega⟩
  have hdb := dec_len (n := b) ⟨by omega, by omega⟩
  have hdc := dec_len (n := c) ⟨by omega, by omega⟩
  have hdd := dec_len (n := d) ⟨by omega, by omega⟩
  have hdaf := dec_len (n := af) ⟨by omega, by omega⟩
  have hE : Hid (opWords false l1 l2 1 ow a b c d m1 m2 af = [labelText l1 l2, (wordOf 1).data.toList] ++ [ow.data.toList] ++ [dec a, dec b, dec c, dec d] ++ [[97, 102, 116, 101, 114], labelText m1 m2, dec af]) := Lib.hid (by simp [opWords, numWords, many, hz])
  clear ht F
  unfold encOp at *
  go_enter Tryz.func6, Tryz.ntmps6
  go_wp2_with (first | ((((with_reducible apply st_loads H); decide +kernel; rfl; exact iF; exact zF; rfl)); clear H; intro wn H; (try simp only [splice, yG, yH, yI, yJ, yK, yL, yM, yN, yO, yP, yQ, Nat.reduceAdd, yA, yB, yC] at H); simp only [Act.put, yA, yB, yC, yD, yE, yF]) | ((((with_reducible apply st_box (dst := some 1) H); exact nF; intro b1)); clear H; intro wn H; simp only [Act.put, yA, yB, yC, yD, yE, yF]) | (((go_at_call 12; refine gvF (hR _) H ?_)); clear H; intro wn H))
  apply wp_region_hs (K := []) (Spec.S _ _ _ :: Spec.V _ :: Spec.V _ :: Spec.V _ :: Spec.V _ :: Spec.S _ _ _ :: []) 6 H rfl (by simp) (by kernel_rfl) (by kernel_rfl); intro vs Ls; (with_reducible apply wpH_S); (focus rfl); (focus rfl); (focus (intro hk w1 H1; unfold OpOk; go_simp; exact now_call (opWords_i _))); intro g0 hg0; simp only [Act.put, yA, yB, yC, yD, yE, yF]; (iterate 3 ((with_reducible apply wpH_V); (focus rfl); (focus rfl); (focus (intro w1 H1; exact oF)); simp only [Act.put, yA, yB, yC, yD, yE, yF]; (try simp only [yG, yH, yJ, yK]))); (with_reducible apply (wpH_D 0)); (focus rfl); (focus rfl); (focus decide +kernel); (focus decide); (focus (intro hk w1 H1; have hb : Blk w1 _ _ _ := H1.ok _ (List.mem_append_left _ (List.mem_singleton.2 rfl)); rw [← hg0] at hb; rw [hg0] at hb; exact ok_load1 (v := .string (wordOf 1)) rfl (by decide +kernel) (hb.at (i := 1) rfl))); simp only [Act.put, yA, yB, yC, yD, yE, yF]; (with_reducible apply wpH_S); (focus rfl); (focus rfl); (focus (intro hk w1 H1; unfold OpOk; go_simp; exact now_sl)); intro g5 hg5; simp only [Act.put, yA, yB, yC, yD, yE, yF]; refine wpH_0 ?_; intro hok wn Hn; (try simp only [yT, yU, yV, yW] at Hn); clear H; have H := Hn; clear Hn; (try simp only [← hg0, ← hg5]); clear hg0; clear hg5; clear hok; rotate_left; (focus (refine locs ?_; intro vs1 vs2; (iterate 6 (refine all_lt_succ ?_ (by first | exact (fun _ => rfl) | exact (fun _ => ⟨rfl, rfl⟩) | (intro h; simp only [spec, Spec.same, yR, yS, Option.getD_some]; (try rw [h 0 (by decide +kernel)]); (try rw [h 5 (by decide +kernel)]); (first | done | exact ⟨rfl, rfl⟩ | exact ⟨trivial, rfl⟩ | exact ⟨rfl, trivial⟩))))); exact (fun k hk => absurd hk (Nat.not_lt_zero k))))
  have Hn := H.toOwn (g := g5) (E := 9) 1 2 uF rfl (by decide); clear H; have H := Hn; clear Hn
  simp only [bsys] at H
  go_wp2_with (first | ((first | ((with_reducible apply st_load1 H); decide +kernel; rfl; exact cF) | ((with_reducible apply st_loads H); decide +kernel; rfl; exact iF; exact zF; rfl) | ((with_reducible apply st_storeown H); rfl; exact eF; (focus (exact (rfl : _ = [_]))); exact uF; (focus omega); kernel_rfl; rfl)); clear H; intro wn H; (try simp only [splice, yG, yH, yI, yJ, yK, yL, yM, yN, yO, yP, yQ, Nat.reduceAdd, yA, yB, yC] at H); simp only [Act.put, yA, yB, yC, yD, yE, yF]) | ((((with_reducible apply st_bslice H); exact nsF; intro nb)); clear H; intro wn H; simp only [Act.put, yA, yB, yC, yD, yE, yF]) | ((with_reducible apply st_appendb H); (((focus (with_reducible exact dT (dT (dH)))); rfl)); rfl; exact iF; kernel_rfl; rfl; rfl; (focus (omega)); clear H; intro vq wn H; (try simp only [yM, yN, yO] at H); simp only [Act.put, yA, yB, yC, yD, yE, yF]) | (((go_at_call 24; refine gvF (labelText_i _ _ _) H ?_)); clear H; intro wn H))
  apply wp_region_hss (K := []) (Spec.V _ :: Spec.S _ _ _ :: Spec.V _ :: Spec.V _ :: Spec.V _ :: Spec.V _ :: Spec.V _ :: Spec.V _ :: []) 8 rfl H rfl (by simp) (by kernel_rfl) (by kernel_rfl); intro vs Ls; (iterate 1 ((with_reducible apply wpH_V); (focus rfl); (focus rfl); (focus (intro w1 H1; exact oF)); simp only [Act.put, yA, yB, yC, yD, yE, yF]; (try simp only [yG, yH, yJ, yK]))); (with_reducible apply wpH_S); (focus rfl); (focus rfl); (focus (intro hk w1 H1; unfold OpOk; go_simp; exact now_call (numbers_w _ _ _ _ _ _ _ _ _ _ _ _ _))); intro g1 hg1; simp only [Act.put, yA, yB, yC, yD, yE, yF]; (iterate 2 ((with_reducible apply wpH_V); (focus rfl); (focus rfl); (focus (intro w1 H1; exact oF)); simp only [Act.put, yA, yB, yC, yD, yE, yF]; (try simp only [yG, yH, yJ, yK]))); (with_reducible apply wpH_VK); (focus rfl); (focus rfl); (focus (intro hk w1 H1; unfold OpOk; go_simp; exact now_call (Gives.rets (hM _)))); simp only [Act.put, yA, yB, yC, yD, yE, yF]; (iterate 3 ((with_reducible apply wpH_V); (focus rfl); (focus rfl); (focus (intro w1 H1; exact oF)); simp only [Act.put, yA, yB, yC, yD, yE, yF]; (try simp only [yG, yH, yJ, yK]))); refine wpH_0 ?_; intro hok wn Hn; (try simp only [yT, yU, yV, yW] at Hn); clear H; have H := Hn; clear Hn; (try simp only [← hg1]); clear hg1; clear hok; rotate_left; (focus (refine locs ?_; intro vs1 vs2; (iterate 8 (refine all_lt_succ ?_ (by first | exact (fun _ => rfl) | exact (fun _ => ⟨rfl, rfl⟩) | (intro h; simp only [spec, Spec.same, yR, yS, Option.getD_some]; (try rw [h 1 (by decide +kernel)]); (first | done | exact ⟨rfl, rfl⟩ | exact ⟨trivial, rfl⟩ | exact ⟨rfl, trivial⟩))))); exact (fun k hk => absurd hk (Nat.not_lt_zero k))))
  go_wp2_with (fail)
  go_loopg [3, 4, 5, 47] 4 (fun n wv _ _ iv wr => ∃ (j : Nat) (v : Value), j + n = 4 ∧ iv = .int .i64 j ∧ wv = v ∧ Hs noRow w [Hl.own 9 1 v (3 + j) (strs ([labelText l1 l2, (wordOf 1).data.toList] ++ [ow.data.toList] ++ List.take j [dec a, dec b, dec c, dec d])), Hl.blk b1 26 #[.bool false, .int .i64 l1, .int .i64 l2, .int .i64 1, .string ow, .int .i64 a, .int .i64 b, .int .i64 c, .int .i64 d, .int .i64 m1, .int .i64 m2, .int .i64 af], Hl.blk g1 2 #[.int .i64 a, .int .i64 b, .int .i64 c, .int .i64 d]] wr)
  case atStart => refine ⟨0, _, rfl, rfl, rfl, ?_⟩; (simp only [strs, List.take_succ_cons, List.take_zero, List.take_nil, List.map_cons, List.map_nil, List.cons_append, List.nil_append, List.append_nil, Nat.reduceAdd, Nat.add_zero, bs_data]); (try simp only [Nat.reduceAdd] at H); exact H.sel sF
  case round =>
    clear H
    obtain ⟨j, v, hj, rfl, rfl, H⟩ := hrel
    have hjj : j = 0 ∨ j = 1 ∨ j = 2 ∨ j = 3 ∨ j = 4 := by omega
    rcases hjj with rfl | rfl | rfl | rfl | rfl
    all_goals simp only [strs, List.take_succ_cons, List.take_zero, List.take_nil, List.map_cons, List.map_nil, List.cons_append, List.nil_append, List.append_nil, Nat.reduceAdd, Nat.add_zero, bs_data] at H
    all_goals (
      go_wp2_with (first | ((((with_reducible apply st_load1 H); decide +kernel; rfl; exact cF)); clear H; intro wn H; (try simp only [splice, yG, yH, yI, yJ, yK, yL, yM, yN, yO, yP, yQ, Nat.reduceAdd, yA, yB, yC] at H); simp only [Act.put, yA, yB, yC, yD, yE, yF]) | ((((with_reducible apply st_bslice H); exact nsF; intro nb)); clear H; intro wn H; simp only [Act.put, yA, yB, yC, yD, yE, yF]) | ((with_reducible apply st_appendb H); (((focus (with_reducible exact dT (dH))); rfl)); rfl; exact iF; kernel_rfl; rfl; rfl; (focus (omega)); clear H; intro vq wn H; (try simp only [yM, yN, yO] at H); simp only [Act.put, yA, yB, yC, yD, yE, yF]) | (((go_at_call 28; refine gvF (decimal_i _ (by omega) (by omega) _ (HT.out.later H.below)) H ?_)); clear H; intro wn H))
    )
    · skip
      go_roundg 3
      case measure => omega
      case rel => refine ⟨1, _, rfl, rfl, rfl, ?_⟩; (simp only [strs, List.take_succ_cons, List.take_zero, List.take_nil, List.map_cons, List.map_nil, List.cons_append, List.nil_append, List.append_nil, Nat.reduceAdd, Nat.add_zero, bs_data]); (try simp only [Nat.reduceAdd] at H); exact H.sel sF
    · skip
      go_roundg 2
      case measure => omega
      case rel => refine ⟨2, _, rfl, rfl, rfl, ?_⟩; (simp only [strs, List.take_succ_cons, List.take_zero, List.take_nil, List.map_cons, List.map_nil, List.cons_append, List.nil_append, List.append_nil, Nat.reduceAdd, Nat.add_zero, bs_data]); (try simp only [Nat.reduceAdd] at H); exact H.sel sF
    · skip
      go_roundg 1
      case measure => omega
      case rel => refine ⟨3, _, rfl, rfl, rfl, ?_⟩; (simp only [strs, List.take_succ_cons, List.take_zero, List.take_nil, List.map_cons, List.map_nil, List.cons_append, List.nil_append, List.append_nil, Nat.reduceAdd, Nat.add_zero, bs_data]); (try simp only [Nat.reduceAdd] at H); exact H.sel sF
    · skip
      go_roundg 0
      case measure => omega
      case rel => refine ⟨4, _, rfl, rfl, rfl, ?_⟩; (simp only [strs, List.take_succ_cons, List.take_zero, List.take_nil, List.map_cons, List.map_nil, List.cons_append, List.nil_append, List.append_nil, Nat.reduceAdd, Nat.add_zero, bs_data]); (try simp only [Nat.reduceAdd] at H); exact H.sel sF
    · skip
      apply wp_region_hs (K := []) (Spec.V _ :: Spec.V _ :: Spec.V _ :: Spec.V _ :: Spec.V _ :: Spec.V _ :: Spec.V _ :: Spec.S _ _ _ :: []) 8 H rfl (by simp) (by kernel_rfl) (by kernel_rfl); intro vs Ls; (iterate 3 ((with_reducible apply wpH_V); (focus rfl); (focus rfl); (focus (intro w1 H1; exact oF)); simp only [Act.put, yA, yB, yC, yD, yE, yF]; (try simp only [yG, yH, yJ, yK]))); (with_reducible apply wpH_VK); (focus rfl); (focus rfl); (focus (intro hk w1 H1; unfold OpOk; go_simp; exact now_call (Gives.rets (labelText_i _ _ _)))); simp only [Act.put, yA, yB, yC, yD, yE, yF]; (iterate 2 ((with_reducible apply wpH_V); (focus rfl); (focus rfl); (focus (intro w1 H1; exact oF)); simp only [Act.put, yA, yB, yC, yD, yE, yF]; (try simp only [yG, yH, yJ, yK]))); (with_reducible apply wpH_VK); (focus rfl); (focus rfl); (focus (intro hk w1 H1; unfold OpOk; go_simp; exact now_call (Gives.rets (decimal_i _ (by omega) (by omega) _ (HT.out.later H1.below))))); simp only [Act.put, yA, yB, yC, yD, yE, yF]; (with_reducible apply wpH_S); (focus rfl); (focus rfl); (focus (intro hk w1 H1; unfold OpOk; go_simp; exact now_sl)); intro g7 hg7; simp only [Act.put, yA, yB, yC, yD, yE, yF]; refine wpH_0 ?_; intro hok wn Hn; (try simp only [yT, yU, yV, yW] at Hn); clear H; have H := Hn; clear Hn; (try simp only [← hg7]); clear hg7; clear hok; rotate_left; (focus (refine locs ?_; intro vs1 vs2; (iterate 8 (refine all_lt_succ ?_ (by first | exact (fun _ => rfl) | exact (fun _ => ⟨rfl, rfl⟩) | (intro h; simp only [spec, Spec.same, yR, yS, Option.getD_some]; (try rw [h 7 (by decide +kernel)]); (first | done | exact ⟨rfl, rfl⟩ | exact ⟨trivial, rfl⟩ | exact ⟨rfl, trivial⟩))))); exact (fun k hk => absurd hk (Nat.not_lt_zero k))))
      go_wp2_with (((with_reducible apply st_appendb H); (((focus (with_reducible exact dT (dH))); rfl)); rfl; exact iF; kernel_rfl; rfl; rfl; (focus (omega)); clear H; intro vq wn H; (try simp only [yM, yN, yO] at H); simp only [Act.put, yA, yB, yC, yD, yE, yF]))
      simp only [baft, Nat.reduceAdd] at H
      obtain ⟨gj, cj, rfl, _, _⟩ := (H.owns iF).form (by omega)
      refine gvF (join_l (n := 10) (l := [labelText l1 l2, (wordOf 1).data.toList] ++ [ow.data.toList] ++ [dec a, dec b, dec c, dec d] ++ [[97, 102, 116, 101, 114], labelText m1 m2, dec af]) (by simp) rfl (by decide) (by have h := H.owns iF; simpa only [strs, List.take_succ_cons, List.take_zero, List.take_nil, List.map_cons, List.map_nil, List.cons_append, List.nil_append, List.append_nil, Nat.reduceAdd, Nat.add_zero, bs_data] using h) (joinSp_bound (B := 100) (And.intro (by simp) (by decide)) (by simp only [List.cons_append, List.nil_append, List.append_nil]; (repeat (first | exact (fun _ h => absurd h List.not_mem_nil) | (refine List.forall_mem_cons.2 ⟨?_, ?_⟩; (focus (first | omega | exact wordOf_len _ | exact stateWord_len _ | decide | (simp; done) | (rw [size_data]; omega))))))))) H ?_; clear H; intro wn H
      go_wp2_with (fail)
      go_ret
      exact ⟨by rw [hE.out]; rfl, H.below⟩
set_option maxRecDepth 100000 in
set_option maxHeartbeats 8000000 in
theorem opText_i2 (l1 l2 : Int) (ow : ByteArray) (a b c d m1 m2 af : Int) (hR : ∀ w, Gives Tryz.prog 12 #[encOp false l1 l2 2 ow a b c d m1 m2 af] w (.bool true)) (F : OpFacts false l1 l2 2 ow a b c d m1 m2 af) (w : World) (ht : Tab w) :
    Gives Tryz.prog 6 #[encOp false l1 l2 2 ow a b c d m1 m2 af] w (.string (bs (joinSp (opWords false l1 l2 2 ow a b c d m1 m2 af)))) := by
  unfold Gives
  have H := Hs.start noRow w
  have HT := Lib.hid ht
  have haf : af = 0 := F.u (by decide)
  subst haf
  obtain ⟨a0, a1'⟩ := F.a0
  obtain ⟨b0, b1'⟩ := F.b0
  obtain ⟨c0, c1'⟩ := F.c0
  obtain ⟨d0, d1'⟩ := F.d0
  have hM : ∀ w, Gives Tryz.prog 26 #[.int .i64 2] w (.int .i64 1) := fun w => numbersIn_i 2 w
  have hl1 := labelText_len l1 l2
  have hl2 := labelText_len m1 m2
  have hda := dec_len (n := a) ⟨by omega, by omega⟩
  have hE : Hid (opWords false l1 l2 2 ow a b c d m1 m2 0 = [labelText l1 l2, (wordOf 2).data.toList] ++ ([] : List Bs) ++ [dec a] ++ ([] : List Bs)) := Lib.hid (by simp [opWords, numWords, many])
  clear ht F
  unfold encOp at *
  go_enter Tryz.func6, Tryz.ntmps6
  go_wp2_with (first | ((((with_reducible apply st_loads H); decide +kernel; rfl; exact iF; exact zF; rfl)); clear H; intro wn H; (try simp only [splice, yG, yH, yI, yJ, yK, yL, yM, yN, yO, yP, yQ, Nat.reduceAdd, yA, yB, yC] at H); simp only [Act.put, yA, yB, yC, yD, yE, yF]) | ((((with_reducible apply st_box (dst := some 1) H); exact nF; intro b1)); clear H; intro wn H; simp only [Act.put, yA, yB, yC, yD, yE, yF]) | (((go_at_call 12; refine gvF (hR _) H ?_)); clear H; intro wn H))
  apply wp_region_hs (K := []) (Spec.S _ _ _ :: Spec.V _ :: Spec.V _ :: Spec.V _ :: Spec.V _ :: Spec.S _ _ _ :: []) 6 H rfl (by simp) (by kernel_rfl) (by kernel_rfl); intro vs Ls; (with_reducible apply wpH_S); (focus rfl); (focus rfl); (focus (intro hk w1 H1; unfold OpOk; go_simp; exact now_call (opWords_i _))); intro g0 hg0; simp only [Act.put, yA, yB, yC, yD, yE, yF]; (iterate 3 ((with_reducible apply wpH_V); (focus rfl); (focus rfl); (focus (intro w1 H1; exact oF)); simp only [Act.put, yA, yB, yC, yD, yE, yF]; (try simp only [yG, yH, yJ, yK]))); (with_reducible apply (wpH_D 0)); (focus rfl); (focus rfl); (focus decide +kernel); (focus decide); (focus (intro hk w1 H1; have hb : Blk w1 _ _ _ := H1.ok _ (List.mem_append_left _ (List.mem_singleton.2 rfl)); rw [← hg0] at hb; rw [hg0] at hb; exact ok_load1 (v := .string (wordOf 2)) rfl (by decide +kernel) (hb.at (i := 2) rfl))); simp only [Act.put, yA, yB, yC, yD, yE, yF]; (with_reducible apply wpH_S); (focus rfl); (focus rfl); (focus (intro hk w1 H1; unfold OpOk; go_simp; exact now_sl)); intro g5 hg5; simp only [Act.put, yA, yB, yC, yD, yE, yF]; refine wpH_0 ?_; intro hok wn Hn; (try simp only [yT, yU, yV, yW] at Hn); clear H; have H := Hn; clear Hn; (try simp only [← hg0, ← hg5]); clear hg0; clear hg5; clear hok; rotate_left; (focus (refine locs ?_; intro vs1 vs2; (iterate 6 (refine all_lt_succ ?_ (by first | exact (fun _ => rfl) | exact (fun _ => ⟨rfl, rfl⟩) | (intro h; simp only [spec, Spec.same, yR, yS, Option.getD_some]; (try rw [h 0 (by decide +kernel)]); (try rw [h 5 (by decide +kernel)]); (first | done | exact ⟨rfl, rfl⟩ | exact ⟨trivial, rfl⟩ | exact ⟨rfl, trivial⟩))))); exact (fun k hk => absurd hk (Nat.not_lt_zero k))))
  have Hn := H.toOwn (g := g5) (E := 9) 1 2 uF rfl (by decide); clear H; have H := Hn; clear Hn
  simp only [bsys] at H
  go_wp2_with (first | ((first | ((with_reducible apply st_load1 H); decide +kernel; rfl; exact cF) | ((with_reducible apply st_loads H); decide +kernel; rfl; exact iF; exact zF; rfl) | ((with_reducible apply st_storeown H); rfl; exact eF; (focus (exact (rfl : _ = [_]))); exact uF; (focus omega); kernel_rfl; rfl)); clear H; intro wn H; (try simp only [splice, yG, yH, yI, yJ, yK, yL, yM, yN, yO, yP, yQ, Nat.reduceAdd, yA, yB, yC] at H); simp only [Act.put, yA, yB, yC, yD, yE, yF]) | (((go_at_call 24; refine gvF (labelText_i _ _ _) H ?_)); clear H; intro wn H))
  apply wp_region_hss (K := []) (Spec.V _ :: Spec.S _ _ _ :: Spec.V _ :: Spec.V _ :: Spec.V _ :: Spec.V _ :: Spec.V _ :: Spec.V _ :: []) 8 rfl H rfl (by simp) (by kernel_rfl) (by kernel_rfl); intro vs Ls; (iterate 1 ((with_reducible apply wpH_V); (focus rfl); (focus rfl); (focus (intro w1 H1; exact oF)); simp only [Act.put, yA, yB, yC, yD, yE, yF]; (try simp only [yG, yH, yJ, yK]))); (with_reducible apply wpH_S); (focus rfl); (focus rfl); (focus (intro hk w1 H1; unfold OpOk; go_simp; exact now_call (numbers_w _ _ _ _ _ _ _ _ _ _ _ _ _))); intro g1 hg1; simp only [Act.put, yA, yB, yC, yD, yE, yF]; (iterate 2 ((with_reducible apply wpH_V); (focus rfl); (focus rfl); (focus (intro w1 H1; exact oF)); simp only [Act.put, yA, yB, yC, yD, yE, yF]; (try simp only [yG, yH, yJ, yK]))); (with_reducible apply wpH_VK); (focus rfl); (focus rfl); (focus (intro hk w1 H1; unfold OpOk; go_simp; exact now_call (Gives.rets (hM _)))); simp only [Act.put, yA, yB, yC, yD, yE, yF]; (iterate 3 ((with_reducible apply wpH_V); (focus rfl); (focus rfl); (focus (intro w1 H1; exact oF)); simp only [Act.put, yA, yB, yC, yD, yE, yF]; (try simp only [yG, yH, yJ, yK]))); refine wpH_0 ?_; intro hok wn Hn; (try simp only [yT, yU, yV, yW] at Hn); clear H; have H := Hn; clear Hn; (try simp only [← hg1]); clear hg1; clear hok; rotate_left; (focus (refine locs ?_; intro vs1 vs2; (iterate 8 (refine all_lt_succ ?_ (by first | exact (fun _ => rfl) | exact (fun _ => ⟨rfl, rfl⟩) | (intro h; simp only [spec, Spec.same, yR, yS, Option.getD_some]; (try rw [h 1 (by decide +kernel)]); (first | done | exact ⟨rfl, rfl⟩ | exact ⟨trivial, rfl⟩ | exact ⟨rfl, trivial⟩))))); exact (fun k hk => absurd hk (Nat.not_lt_zero k))))
  go_wp2_with (fail)
  go_loopg [3, 4, 5, 47] 1 (fun n wv _ _ iv wr => ∃ (j : Nat) (v : Value), j + n = 1 ∧ iv = .int .i64 j ∧ wv = v ∧ Hs noRow w [Hl.own 9 1 v (2 + j) (strs ([labelText l1 l2, (wordOf 2).data.toList] ++ ([] : List Bs) ++ List.take j [dec a])), Hl.blk b1 26 #[.bool false, .int .i64 l1, .int .i64 l2, .int .i64 2, .string ow, .int .i64 a, .int .i64 b, .int .i64 c, .int .i64 d, .int .i64 m1, .int .i64 m2, .int .i64 0], Hl.blk g1 2 #[.int .i64 a, .int .i64 b, .int .i64 c, .int .i64 d]] wr)
  case atStart => refine ⟨0, _, rfl, rfl, rfl, ?_⟩; (simp only [strs, List.take_succ_cons, List.take_zero, List.take_nil, List.map_cons, List.map_nil, List.cons_append, List.nil_append, List.append_nil, Nat.reduceAdd, Nat.add_zero, bs_data]); (try simp only [Nat.reduceAdd] at H); exact H.sel sF
  case round =>
    clear H
    obtain ⟨j, v, hj, rfl, rfl, H⟩ := hrel
    have hjj : j = 0 ∨ j = 1 := by omega
    rcases hjj with rfl | rfl
    all_goals simp only [strs, List.take_succ_cons, List.take_zero, List.take_nil, List.map_cons, List.map_nil, List.cons_append, List.nil_append, List.append_nil, Nat.reduceAdd, Nat.add_zero, bs_data] at H
    all_goals (
      go_wp2_with (first | ((((with_reducible apply st_load1 H); decide +kernel; rfl; exact cF)); clear H; intro wn H; (try simp only [splice, yG, yH, yI, yJ, yK, yL, yM, yN, yO, yP, yQ, Nat.reduceAdd, yA, yB, yC] at H); simp only [Act.put, yA, yB, yC, yD, yE, yF]) | ((((with_reducible apply st_bslice H); exact nsF; intro nb)); clear H; intro wn H; simp only [Act.put, yA, yB, yC, yD, yE, yF]) | ((with_reducible apply st_appendb H); (((focus (with_reducible exact dT (dH))); rfl)); rfl; exact iF; kernel_rfl; rfl; rfl; (focus (omega)); clear H; intro vq wn H; (try simp only [yM, yN, yO] at H); simp only [Act.put, yA, yB, yC, yD, yE, yF]) | (((go_at_call 28; refine gvF (decimal_i _ (by omega) (by omega) _ (HT.out.later H.below)) H ?_)); clear H; intro wn H))
    )
    · skip
      go_roundg 0
      case measure => omega
      case rel => refine ⟨1, _, rfl, rfl, rfl, ?_⟩; (simp only [strs, List.take_succ_cons, List.take_zero, List.take_nil, List.map_cons, List.map_nil, List.cons_append, List.nil_append, List.append_nil, Nat.reduceAdd, Nat.add_zero, bs_data]); (try simp only [Nat.reduceAdd] at H); exact H.sel sF
    · skip
      obtain ⟨gj, cj, rfl, _, _⟩ := (H.owns iF).form (by omega)
      refine gvF (join_l (n := 3) (l := [labelText l1 l2, (wordOf 2).data.toList] ++ ([] : List Bs) ++ [dec a] ++ ([] : List Bs)) (by simp) rfl (by decide) (by have h := H.owns iF; simpa only [strs, List.take_succ_cons, List.take_zero, List.take_nil, List.map_cons, List.map_nil, List.cons_append, List.nil_append, List.append_nil, Nat.reduceAdd, Nat.add_zero, bs_data] using h) (joinSp_bound (B := 100) (And.intro (by simp) (by decide)) (by simp only [List.cons_append, List.nil_append, List.append_nil]; (repeat (first | exact (fun _ h => absurd h List.not_mem_nil) | (refine List.forall_mem_cons.2 ⟨?_, ?_⟩; (focus (first | omega | exact wordOf_len _ | exact stateWord_len _ | decide | (simp; done) | (rw [size_data]; omega))))))))) H ?_; clear H; intro wn H
      go_wp2_with (fail)
      go_ret
      exact ⟨by rw [hE.out]; rfl, H.below⟩
set_option maxRecDepth 100000 in
set_option maxHeartbeats 8000000 in
theorem opText_i8 (l1 l2 : Int) (ow : ByteArray) (a b c d m1 m2 af : Int) (hR : ∀ w, Gives Tryz.prog 12 #[encOp false l1 l2 8 ow a b c d m1 m2 af] w (.bool true)) (F : OpFacts false l1 l2 8 ow a b c d m1 m2 af) (w : World) (ht : Tab w) :
    Gives Tryz.prog 6 #[encOp false l1 l2 8 ow a b c d m1 m2 af] w (.string (bs (joinSp (opWords false l1 l2 8 ow a b c d m1 m2 af)))) := by
  unfold Gives
  have H := Hs.start noRow w
  have HT := Lib.hid ht
  have haf : af = 0 := F.u (by decide)
  subst haf
  obtain ⟨a0, a1'⟩ := F.a0
  obtain ⟨b0, b1'⟩ := F.b0
  obtain ⟨c0, c1'⟩ := F.c0
  obtain ⟨d0, d1'⟩ := F.d0
  have hM : ∀ w, Gives Tryz.prog 26 #[.int .i64 8] w (.int .i64 0) := fun w => numbersIn_i 8 w
  have hl1 := labelText_len l1 l2
  have hl2 := labelText_len m1 m2
  have hE : Hid (opWords false l1 l2 8 ow a b c d m1 m2 0 = [labelText l1 l2, (wordOf 8).data.toList] ++ ([] : List Bs) ++ ([] : List Bs) ++ ([] : List Bs)) := Lib.hid (by simp [opWords, numWords, many])
  clear ht F
  unfold encOp at *
  go_enter Tryz.func6, Tryz.ntmps6
  go_wp2_with (first | ((((with_reducible apply st_loads H); decide +kernel; rfl; exact iF; exact zF; rfl)); clear H; intro wn H; (try simp only [splice, yG, yH, yI, yJ, yK, yL, yM, yN, yO, yP, yQ, Nat.reduceAdd, yA, yB, yC] at H); simp only [Act.put, yA, yB, yC, yD, yE, yF]) | ((((with_reducible apply st_box (dst := some 1) H); exact nF; intro b1)); clear H; intro wn H; simp only [Act.put, yA, yB, yC, yD, yE, yF]) | (((go_at_call 12; refine gvF (hR _) H ?_)); clear H; intro wn H))
  apply wp_region_hs (K := []) (Spec.S _ _ _ :: Spec.V _ :: Spec.V _ :: Spec.V _ :: Spec.V _ :: Spec.S _ _ _ :: []) 6 H rfl (by simp) (by kernel_rfl) (by kernel_rfl); intro vs Ls; (with_reducible apply wpH_S); (focus rfl); (focus rfl); (focus (intro hk w1 H1; unfold OpOk; go_simp; exact now_call (opWords_i _))); intro g0 hg0; simp only [Act.put, yA, yB, yC, yD, yE, yF]; (iterate 3 ((with_reducible apply wpH_V); (focus rfl); (focus rfl); (focus (intro w1 H1; exact oF)); simp only [Act.put, yA, yB, yC, yD, yE, yF]; (try simp only [yG, yH, yJ, yK]))); (with_reducible apply (wpH_D 0)); (focus rfl); (focus rfl); (focus decide +kernel); (focus decide); (focus (intro hk w1 H1; have hb : Blk w1 _ _ _ := H1.ok _ (List.mem_append_left _ (List.mem_singleton.2 rfl)); rw [← hg0] at hb; rw [hg0] at hb; exact ok_load1 (v := .string (wordOf 8)) rfl (by decide +kernel) (hb.at (i := 8) rfl))); simp only [Act.put, yA, yB, yC, yD, yE, yF]; (with_reducible apply wpH_S); (focus rfl); (focus rfl); (focus (intro hk w1 H1; unfold OpOk; go_simp; exact now_sl)); intro g5 hg5; simp only [Act.put, yA, yB, yC, yD, yE, yF]; refine wpH_0 ?_; intro hok wn Hn; (try simp only [yT, yU, yV, yW] at Hn); clear H; have H := Hn; clear Hn; (try simp only [← hg0, ← hg5]); clear hg0; clear hg5; clear hok; rotate_left; (focus (refine locs ?_; intro vs1 vs2; (iterate 6 (refine all_lt_succ ?_ (by first | exact (fun _ => rfl) | exact (fun _ => ⟨rfl, rfl⟩) | (intro h; simp only [spec, Spec.same, yR, yS, Option.getD_some]; (try rw [h 0 (by decide +kernel)]); (try rw [h 5 (by decide +kernel)]); (first | done | exact ⟨rfl, rfl⟩ | exact ⟨trivial, rfl⟩ | exact ⟨rfl, trivial⟩))))); exact (fun k hk => absurd hk (Nat.not_lt_zero k))))
  have Hn := H.toOwn (g := g5) (E := 9) 1 2 uF rfl (by decide); clear H; have H := Hn; clear Hn
  simp only [bsys] at H
  go_wp2_with (first | ((first | ((with_reducible apply st_load1 H); decide +kernel; rfl; exact cF) | ((with_reducible apply st_loads H); decide +kernel; rfl; exact iF; exact zF; rfl) | ((with_reducible apply st_storeown H); rfl; exact eF; (focus (exact (rfl : _ = [_]))); exact uF; (focus omega); kernel_rfl; rfl)); clear H; intro wn H; (try simp only [splice, yG, yH, yI, yJ, yK, yL, yM, yN, yO, yP, yQ, Nat.reduceAdd, yA, yB, yC] at H); simp only [Act.put, yA, yB, yC, yD, yE, yF]) | (((go_at_call 24; refine gvF (labelText_i _ _ _) H ?_)); clear H; intro wn H))
  apply wp_region_hss (K := []) (Spec.V _ :: Spec.S _ _ _ :: Spec.V _ :: Spec.V _ :: Spec.V _ :: Spec.V _ :: Spec.V _ :: Spec.V _ :: []) 8 rfl H rfl (by simp) (by kernel_rfl) (by kernel_rfl); intro vs Ls; (iterate 1 ((with_reducible apply wpH_V); (focus rfl); (focus rfl); (focus (intro w1 H1; exact oF)); simp only [Act.put, yA, yB, yC, yD, yE, yF]; (try simp only [yG, yH, yJ, yK]))); (with_reducible apply wpH_S); (focus rfl); (focus rfl); (focus (intro hk w1 H1; unfold OpOk; go_simp; exact now_call (numbers_w _ _ _ _ _ _ _ _ _ _ _ _ _))); intro g1 hg1; simp only [Act.put, yA, yB, yC, yD, yE, yF]; (iterate 2 ((with_reducible apply wpH_V); (focus rfl); (focus rfl); (focus (intro w1 H1; exact oF)); simp only [Act.put, yA, yB, yC, yD, yE, yF]; (try simp only [yG, yH, yJ, yK]))); (with_reducible apply wpH_VK); (focus rfl); (focus rfl); (focus (intro hk w1 H1; unfold OpOk; go_simp; exact now_call (Gives.rets (hM _)))); simp only [Act.put, yA, yB, yC, yD, yE, yF]; (iterate 3 ((with_reducible apply wpH_V); (focus rfl); (focus rfl); (focus (intro w1 H1; exact oF)); simp only [Act.put, yA, yB, yC, yD, yE, yF]; (try simp only [yG, yH, yJ, yK]))); refine wpH_0 ?_; intro hok wn Hn; (try simp only [yT, yU, yV, yW] at Hn); clear H; have H := Hn; clear Hn; (try simp only [← hg1]); clear hg1; clear hok; rotate_left; (focus (refine locs ?_; intro vs1 vs2; (iterate 8 (refine all_lt_succ ?_ (by first | exact (fun _ => rfl) | exact (fun _ => ⟨rfl, rfl⟩) | (intro h; simp only [spec, Spec.same, yR, yS, Option.getD_some]; (try rw [h 1 (by decide +kernel)]); (first | done | exact ⟨rfl, rfl⟩ | exact ⟨trivial, rfl⟩ | exact ⟨rfl, trivial⟩))))); exact (fun k hk => absurd hk (Nat.not_lt_zero k))))
  go_wp2_with (fail)
  go_loopg [3, 4, 5, 47] 0 (fun n wv _ _ iv wr => ∃ (j : Nat) (v : Value), j + n = 0 ∧ iv = .int .i64 j ∧ wv = v ∧ Hs noRow w [Hl.own 9 1 v (2 + j) (strs ([labelText l1 l2, (wordOf 8).data.toList] ++ ([] : List Bs) ++ List.take j ([] : List Bs))), Hl.blk b1 26 #[.bool false, .int .i64 l1, .int .i64 l2, .int .i64 8, .string ow, .int .i64 a, .int .i64 b, .int .i64 c, .int .i64 d, .int .i64 m1, .int .i64 m2, .int .i64 0], Hl.blk g1 2 #[.int .i64 a, .int .i64 b, .int .i64 c, .int .i64 d]] wr)
  case atStart => refine ⟨0, _, rfl, rfl, rfl, ?_⟩; (simp only [strs, List.take_succ_cons, List.take_zero, List.take_nil, List.map_cons, List.map_nil, List.cons_append, List.nil_append, List.append_nil, Nat.reduceAdd, Nat.add_zero, bs_data]); (try simp only [Nat.reduceAdd] at H); exact H.sel sF
  case round =>
    clear H
    obtain ⟨j, v, hj, rfl, rfl, H⟩ := hrel
    have hjj : j = 0 := by omega
    subst hjj
    all_goals simp only [strs, List.take_succ_cons, List.take_zero, List.take_nil, List.map_cons, List.map_nil, List.cons_append, List.nil_append, List.append_nil, Nat.reduceAdd, Nat.add_zero, bs_data] at H
    go_wp2_with (((((with_reducible apply st_load1 H); decide +kernel; rfl; exact cF)); clear H; intro wn H; (try simp only [splice, yG, yH, yI, yJ, yK, yL, yM, yN, yO, yP, yQ, Nat.reduceAdd, yA, yB, yC] at H); simp only [Act.put, yA, yB, yC, yD, yE, yF]))
    skip
    obtain ⟨gj, cj, rfl, _, _⟩ := (H.owns iF).form (by omega)
    refine gvF (join_l (n := 2) (l := [labelText l1 l2, (wordOf 8).data.toList] ++ ([] : List Bs) ++ ([] : List Bs) ++ ([] : List Bs)) (by simp) rfl (by decide) (by have h := H.owns iF; simpa only [strs, List.take_succ_cons, List.take_zero, List.take_nil, List.map_cons, List.map_nil, List.cons_append, List.nil_append, List.append_nil, Nat.reduceAdd, Nat.add_zero, bs_data] using h) (joinSp_bound (B := 100) (And.intro (by simp) (by decide)) (by simp only [List.cons_append, List.nil_append, List.append_nil]; (repeat (first | exact (fun _ h => absurd h List.not_mem_nil) | (refine List.forall_mem_cons.2 ⟨?_, ?_⟩; (focus (first | omega | exact wordOf_len _ | exact stateWord_len _ | decide | (simp; done) | (rw [size_data]; omega))))))))) H ?_; clear H; intro wn H
    go_wp2_with (fail)
    go_ret
    exact ⟨by rw [hE.out]; rfl, H.below⟩
set_option maxRecDepth 100000 in
set_option maxHeartbeats 8000000 in
theorem opText_i14 (l1 l2 : Int) (ow : ByteArray) (a b c d m1 m2 af : Int) (hR : ∀ w, Gives Tryz.prog 12 #[encOp true l1 l2 14 ow a b c d m1 m2 af] w (.bool true)) (F : OpFacts true l1 l2 14 ow a b c d m1 m2 af) (w : World) (ht : Tab w) :
    Gives Tryz.prog 6 #[encOp true l1 l2 14 ow a b c d m1 m2 af] w (.string (bs (joinSp (opWords true l1 l2 14 ow a b c d m1 m2 af)))) := by
  unfold Gives
  have H := Hs.start noRow w
  have HT := Lib.hid ht
  have haf : af = 0 := F.u (by decide)
  subst haf
  obtain ⟨a0, a1'⟩ := F.a0
  obtain ⟨b0, b1'⟩ := F.b0
  obtain ⟨c0, c1'⟩ := F.c0
  obtain ⟨d0, d1'⟩ := F.d0
  have hM : ∀ w, Gives Tryz.prog 26 #[.int .i64 14] w (.int .i64 3) := fun w => numbersIn_i 14 w
  have hl1 := labelText_len l1 l2
  have hl2 := labelText_len m1 m2
  have hda := dec_len (n := a) ⟨by omega, by omega⟩
  have hdb := dec_len (n := b) ⟨by omega, by omega⟩
  have hdc := dec_len (n := c) ⟨by omega, by omega⟩
  have hE : Hid (opWords true l1 l2 14 ow a b c d m1 m2 0 = [[115, 121, 115], (wordOf 14).data.toList] ++ ([] : List Bs) ++ [dec a, dec b, dec c] ++ ([] : List Bs)) := Lib.hid (by simp [opWords, numWords, many])
  clear ht F
  unfold encOp at *
  go_enter Tryz.func6, Tryz.ntmps6
  go_wp2_with (first | ((((with_reducible apply st_loads H); decide +kernel; rfl; exact iF; exact zF; rfl)); clear H; intro wn H; (try simp only [splice, yG, yH, yI, yJ, yK, yL, yM, yN, yO, yP, yQ, Nat.reduceAdd, yA, yB, yC] at H); simp only [Act.put, yA, yB, yC, yD, yE, yF]) | ((((with_reducible apply st_box (dst := some 1) H); exact nF; intro b1)); clear H; intro wn H; simp only [Act.put, yA, yB, yC, yD, yE, yF]) | (((go_at_call 12; refine gvF (hR _) H ?_)); clear H; intro wn H))
  apply wp_region_hs (K := []) (Spec.S _ _ _ :: Spec.V _ :: Spec.V _ :: Spec.V _ :: Spec.V _ :: Spec.S _ _ _ :: []) 6 H rfl (by simp) (by kernel_rfl) (by kernel_rfl); intro vs Ls; (with_reducible apply wpH_S); (focus rfl); (focus rfl); (focus (intro hk w1 H1; unfold OpOk; go_simp; exact now_call (opWords_i _))); intro g0 hg0; simp only [Act.put, yA, yB, yC, yD, yE, yF]; (iterate 3 ((with_reducible apply wpH_V); (focus rfl); (focus rfl); (focus (intro w1 H1; exact oF)); simp only [Act.put, yA, yB, yC, yD, yE, yF]; (try simp only [yG, yH, yJ, yK]))); (with_reducible apply (wpH_D 0)); (focus rfl); (focus rfl); (focus decide +kernel); (focus decide); (focus (intro hk w1 H1; have hb : Blk w1 _ _ _ := H1.ok _ (List.mem_append_left _ (List.mem_singleton.2 rfl)); rw [← hg0] at hb; rw [hg0] at hb; exact ok_load1 (v := .string (wordOf 14)) rfl (by decide +kernel) (hb.at (i := 14) rfl))); simp only [Act.put, yA, yB, yC, yD, yE, yF]; (with_reducible apply wpH_S); (focus rfl); (focus rfl); (focus (intro hk w1 H1; unfold OpOk; go_simp; exact now_sl)); intro g5 hg5; simp only [Act.put, yA, yB, yC, yD, yE, yF]; refine wpH_0 ?_; intro hok wn Hn; (try simp only [yT, yU, yV, yW] at Hn); clear H; have H := Hn; clear Hn; (try simp only [← hg0, ← hg5]); clear hg0; clear hg5; clear hok; rotate_left; (focus (refine locs ?_; intro vs1 vs2; (iterate 6 (refine all_lt_succ ?_ (by first | exact (fun _ => rfl) | exact (fun _ => ⟨rfl, rfl⟩) | (intro h; simp only [spec, Spec.same, yR, yS, Option.getD_some]; (try rw [h 0 (by decide +kernel)]); (try rw [h 5 (by decide +kernel)]); (first | done | exact ⟨rfl, rfl⟩ | exact ⟨trivial, rfl⟩ | exact ⟨rfl, trivial⟩))))); exact (fun k hk => absurd hk (Nat.not_lt_zero k))))
  have Hn := H.toOwn (g := g5) (E := 9) 1 2 uF rfl (by decide); clear H; have H := Hn; clear Hn
  simp only [bsys] at H
  go_wp2_with (((((with_reducible apply st_load1 H); decide +kernel; rfl; exact cF)); clear H; intro wn H; (try simp only [splice, yG, yH, yI, yJ, yK, yL, yM, yN, yO, yP, yQ, Nat.reduceAdd, yA, yB, yC] at H); simp only [Act.put, yA, yB, yC, yD, yE, yF]))
  apply wp_region_hss (K := []) (Spec.V _ :: Spec.S _ _ _ :: Spec.V _ :: Spec.V _ :: Spec.V _ :: Spec.V _ :: Spec.V _ :: Spec.V _ :: []) 8 rfl H rfl (by simp) (by kernel_rfl) (by kernel_rfl); intro vs Ls; (iterate 1 ((with_reducible apply wpH_V); (focus rfl); (focus rfl); (focus (intro w1 H1; exact oF)); simp only [Act.put, yA, yB, yC, yD, yE, yF]; (try simp only [yG, yH, yJ, yK]))); (with_reducible apply wpH_S); (focus rfl); (focus rfl); (focus (intro hk w1 H1; unfold OpOk; go_simp; exact now_call (numbers_w _ _ _ _ _ _ _ _ _ _ _ _ _))); intro g1 hg1; simp only [Act.put, yA, yB, yC, yD, yE, yF]; (iterate 2 ((with_reducible apply wpH_V); (focus rfl); (focus rfl); (focus (intro w1 H1; exact oF)); simp only [Act.put, yA, yB, yC, yD, yE, yF]; (try simp only [yG, yH, yJ, yK]))); (with_reducible apply wpH_VK); (focus rfl); (focus rfl); (focus (intro hk w1 H1; unfold OpOk; go_simp; exact now_call (Gives.rets (hM _)))); simp only [Act.put, yA, yB, yC, yD, yE, yF]; (iterate 3 ((with_reducible apply wpH_V); (focus rfl); (focus rfl); (focus (intro w1 H1; exact oF)); simp only [Act.put, yA, yB, yC, yD, yE, yF]; (try simp only [yG, yH, yJ, yK]))); refine wpH_0 ?_; intro hok wn Hn; (try simp only [yT, yU, yV, yW] at Hn); clear H; have H := Hn; clear Hn; (try simp only [← hg1]); clear hg1; clear hok; rotate_left; (focus (refine locs ?_; intro vs1 vs2; (iterate 8 (refine all_lt_succ ?_ (by first | exact (fun _ => rfl) | exact (fun _ => ⟨rfl, rfl⟩) | (intro h; simp only [spec, Spec.same, yR, yS, Option.getD_some]; (try rw [h 1 (by decide +kernel)]); (first | done | exact ⟨rfl, rfl⟩ | exact ⟨trivial, rfl⟩ | exact ⟨rfl, trivial⟩))))); exact (fun k hk => absurd hk (Nat.not_lt_zero k))))
  go_wp2_with (fail)
  go_loopg [3, 4, 5, 47] 3 (fun n wv _ _ iv wr => ∃ (j : Nat) (v : Value), j + n = 3 ∧ iv = .int .i64 j ∧ wv = v ∧ Hs noRow w [Hl.own 9 1 v (2 + j) (strs ([[115, 121, 115], (wordOf 14).data.toList] ++ ([] : List Bs) ++ List.take j [dec a, dec b, dec c])), Hl.blk b1 26 #[.bool true, .int .i64 l1, .int .i64 l2, .int .i64 14, .string ow, .int .i64 a, .int .i64 b, .int .i64 c, .int .i64 d, .int .i64 m1, .int .i64 m2, .int .i64 0], Hl.blk g1 2 #[.int .i64 a, .int .i64 b, .int .i64 c, .int .i64 d]] wr)
  case atStart => refine ⟨0, _, rfl, rfl, rfl, ?_⟩; (simp only [strs, List.take_succ_cons, List.take_zero, List.take_nil, List.map_cons, List.map_nil, List.cons_append, List.nil_append, List.append_nil, Nat.reduceAdd, Nat.add_zero, bs_data]); (try simp only [Nat.reduceAdd] at H); exact H.sel sF
  case round =>
    clear H
    obtain ⟨j, v, hj, rfl, rfl, H⟩ := hrel
    have hjj : j = 0 ∨ j = 1 ∨ j = 2 ∨ j = 3 := by omega
    rcases hjj with rfl | rfl | rfl | rfl
    all_goals simp only [strs, List.take_succ_cons, List.take_zero, List.take_nil, List.map_cons, List.map_nil, List.cons_append, List.nil_append, List.append_nil, Nat.reduceAdd, Nat.add_zero, bs_data] at H
    all_goals (
      go_wp2_with (first | ((((with_reducible apply st_load1 H); decide +kernel; rfl; exact cF)); clear H; intro wn H; (try simp only [splice, yG, yH, yI, yJ, yK, yL, yM, yN, yO, yP, yQ, Nat.reduceAdd, yA, yB, yC] at H); simp only [Act.put, yA, yB, yC, yD, yE, yF]) | ((((with_reducible apply st_bslice H); exact nsF; intro nb)); clear H; intro wn H; simp only [Act.put, yA, yB, yC, yD, yE, yF]) | ((with_reducible apply st_appendb H); (((focus (with_reducible exact dT (dH))); rfl)); rfl; exact iF; kernel_rfl; rfl; rfl; (focus (omega)); clear H; intro vq wn H; (try simp only [yM, yN, yO] at H); simp only [Act.put, yA, yB, yC, yD, yE, yF]) | (((go_at_call 28; refine gvF (decimal_i _ (by omega) (by omega) _ (HT.out.later H.below)) H ?_)); clear H; intro wn H))
    )
    · skip
      go_roundg 2
      case measure => omega
      case rel => refine ⟨1, _, rfl, rfl, rfl, ?_⟩; (simp only [strs, List.take_succ_cons, List.take_zero, List.take_nil, List.map_cons, List.map_nil, List.cons_append, List.nil_append, List.append_nil, Nat.reduceAdd, Nat.add_zero, bs_data]); (try simp only [Nat.reduceAdd] at H); exact H.sel sF
    · skip
      go_roundg 1
      case measure => omega
      case rel => refine ⟨2, _, rfl, rfl, rfl, ?_⟩; (simp only [strs, List.take_succ_cons, List.take_zero, List.take_nil, List.map_cons, List.map_nil, List.cons_append, List.nil_append, List.append_nil, Nat.reduceAdd, Nat.add_zero, bs_data]); (try simp only [Nat.reduceAdd] at H); exact H.sel sF
    · skip
      go_roundg 0
      case measure => omega
      case rel => refine ⟨3, _, rfl, rfl, rfl, ?_⟩; (simp only [strs, List.take_succ_cons, List.take_zero, List.take_nil, List.map_cons, List.map_nil, List.cons_append, List.nil_append, List.append_nil, Nat.reduceAdd, Nat.add_zero, bs_data]); (try simp only [Nat.reduceAdd] at H); exact H.sel sF
    · skip
      obtain ⟨gj, cj, rfl, _, _⟩ := (H.owns iF).form (by omega)
      refine gvF (join_l (n := 5) (l := [[115, 121, 115], (wordOf 14).data.toList] ++ ([] : List Bs) ++ [dec a, dec b, dec c] ++ ([] : List Bs)) (by simp) rfl (by decide) (by have h := H.owns iF; simpa only [strs, List.take_succ_cons, List.take_zero, List.take_nil, List.map_cons, List.map_nil, List.cons_append, List.nil_append, List.append_nil, Nat.reduceAdd, Nat.add_zero, bs_data] using h) (joinSp_bound (B := 100) (And.intro (by simp) (by decide)) (by simp only [List.cons_append, List.nil_append, List.append_nil]; (repeat (first | exact (fun _ h => absurd h List.not_mem_nil) | (refine List.forall_mem_cons.2 ⟨?_, ?_⟩; (focus (first | omega | exact wordOf_len _ | exact stateWord_len _ | decide | (simp; done) | (rw [size_data]; omega))))))))) H ?_; clear H; intro wn H
      go_wp2_with (fail)
      go_ret
      exact ⟨by rw [hE.out]; rfl, H.below⟩
end Go.Proofs.YtfblolkkajppcaaGreatDoor
