/-
  OpText of the reference, kind by kind (printed by a program).
-/
import Derived.Test.YtfblolkkajppcaaGreatDoorP3
set_option linter.unusedSimpArgs false
set_option linter.unusedVariables false
namespace Go.Proofs.YtfblolkkajppcaaGreatDoor
open Go.RowKit M
set_option maxRecDepth 100000 in
set_option maxHeartbeats 8000000 in
theorem l17Text_s7 (l1 l2 : Int) (ow : ByteArray) (a b c d m1 m2 af : Int) (F : OpFacts false l1 l2 7 ow a b c d m1 m2 af) (w : World) :
    Gives Tryz.prog 41 #[encOp false l1 l2 7 ow a b c d m1 m2 af] w (.string (bs (joinSp (opWords false l1 l2 7 ow a b c d m1 m2 af)))) := by
  unfold Gives
  have H := Hs.start noRow w
  have haf : af = 0 := F.u (by decide)
  subst haf
  obtain ⟨a0, a1'⟩ := F.a0
  obtain ⟨b0, b1'⟩ := F.b0
  obtain ⟨c0, c1'⟩ := F.c0
  obtain ⟨d0, d1'⟩ := F.d0
  have hM : ∀ w, Gives Tryz.prog 45 #[.int .i64 7] w (.int .i64 1) := fun w => l17Many_s 7 w
  have hl1 := labelText_len l1 l2
  have hl2 := labelText_len m1 m2
  have hwl : (wordOf 7).size ≤ 30 := by decide +kernel
  have hda := dec_len (n := a) ⟨by omega, by omega⟩
  have hE : Hid (opWords false l1 l2 7 ow a b c d m1 m2 0 = [labelText l1 l2, (wordOf 7).data.toList] ++ [labelText m1 m2] ++ [dec a] ++ ([] : List Bs)) := Lib.hid (by simp [opWords, numWords, many])
  clear F
  unfold encOp at *
  go_enter Tryz.func41, Tryz.ntmps41
  go_wp2_with (first | ((first | ((with_reducible apply st_load1 H); decide +kernel; rfl; exact cF) | ((with_reducible apply st_loads H); decide +kernel; rfl; exact iF; exact zF; rfl)); clear H; intro wn H; (try simp only [splice, yG, yH, yI, yJ, yK, yL, yM, yN, yO, yP, yQ, Nat.reduceAdd, yA, yB, yC] at H); simp only [Act.put, yA, yB, yC, yD, yE, yF]) | ((first | ((with_reducible apply st_box (dst := some 1) H); exact nF; intro b1) | ((with_reducible apply st_strsum H); rfl; rfl; exact szF; kernel_rfl) | ((with_reducible apply st_bslice H); exact nsF; intro nb)); clear H; intro wn H; simp only [Act.put, yA, yB, yC, yD, yE, yF]) | ((first | (go_at_call 73; refine gvF (labelText_s _ _ _) H ?_) | (go_at_call 44; refine gvF (l17Word_s _ _) H ?_)); clear H; intro wn H))
  go_loopg [3, 5] 1 (fun n tv iv wr => ∃ (j : Nat) (X : Bs), j + n = 1 ∧ iv = .int .i64 j ∧ tv = .string (bs X) ∧ Hid (X = joinSp ([labelText l1 l2, (wordOf 7).data.toList] ++ [labelText m1 m2] ++ List.take j [dec a])) ∧ X.length ≤ 2000 ∧ Hs noRow w [Hl.blk b1 26 #[.bool false, .int .i64 l1, .int .i64 l2, .int .i64 7, .string ow, .int .i64 a, .int .i64 b, .int .i64 c, .int .i64 d, .int .i64 m1, .int .i64 m2, .int .i64 0], Hl.blk nb 2 #[.int .i64 a, .int .i64 b, .int .i64 c, .int .i64 d]] wr)
  case atStart => exact ⟨0, _, rfl, rfl, congrArg Value.string (show bs (labelText l1 l2) ++ ⟨#[32]⟩ ++ wordOf 7 ++ ⟨#[32]⟩ ++ bs (labelText m1 m2) = _ from (congrArg (· ++ ⟨#[32]⟩ ++ bs (labelText m1 m2)) (sp2 _ _)).trans (spB (by simp) rfl)), Lib.hid rfl, (joinSp_le (B := 30) (by simp) (by (try simp only [List.take_succ_cons, List.take_zero, List.take_nil, List.cons_append, List.nil_append, List.append_nil]); (repeat (first | exact (fun _ h => absurd h List.not_mem_nil) | (refine List.forall_mem_cons.2 ⟨?_, ?_⟩; (focus (first | omega | exact wordOf_len2 _ | exact stateWord_len2 _ | decide | (simp; done) | (rw [size_data]; omega)))))))), H.sel sF⟩
  case round =>
    clear H
    obtain ⟨j, X, hj, rfl, rfl, HX, hXl, H⟩ := hrel
    have hjj : j = 0 ∨ j = 1 := by omega
    rcases hjj with rfl | rfl
    all_goals (
      go_wp2_with (first | ((((with_reducible apply st_load1 H); decide +kernel; rfl; exact cF)); clear H; intro wn H; (try simp only [splice, yG, yH, yI, yJ, yK, yL, yM, yN, yO, yP, yQ, Nat.reduceAdd, yA, yB, yC] at H); simp only [Act.put, yA, yB, yC, yD, yE, yF]) | ((((with_reducible apply st_strsum H); rfl; rfl; exact szF; kernel_rfl)); clear H; intro wn H; simp only [Act.put, yA, yB, yC, yD, yE, yF]) | ((first | (go_at_call 62; refine gvF (l01Dec_s _ (by omega) (by omega) _) H ?_) | (go_at_call 45; refine gvF (hM _) H ?_)); clear H; intro wn H))
    )
    · skip
      go_roundg 0
      case measure => omega
      case rel => exact ⟨1, _, rfl, rfl, congrArg Value.string ((congrArg (fun X => bs X ++ ⟨#[32]⟩ ++ bs (dec a)) HX.out).trans (spB (by simp) rfl)), Lib.hid rfl, (joinSp_le (B := 30) (by simp) (by (try simp only [List.take_succ_cons, List.take_zero, List.take_nil, List.cons_append, List.nil_append, List.append_nil]); (repeat (first | exact (fun _ h => absurd h List.not_mem_nil) | (refine List.forall_mem_cons.2 ⟨?_, ?_⟩; (focus (first | omega | exact wordOf_len2 _ | exact stateWord_len2 _ | decide | (simp; done) | (rw [size_data]; omega)))))))), H.sel sF⟩
    · skip
      go_ret
      exact ⟨by rw [hE.out, HX.out]; rfl, H.below⟩
set_option maxRecDepth 100000 in
set_option maxHeartbeats 8000000 in
theorem l17Text_s10 (l1 l2 : Int) (ow : ByteArray) (a b c d m1 m2 af : Int) (F : OpFacts false l1 l2 10 ow a b c d m1 m2 af) (w : World) :
    Gives Tryz.prog 41 #[encOp false l1 l2 10 ow a b c d m1 m2 af] w (.string (bs (joinSp (opWords false l1 l2 10 ow a b c d m1 m2 af)))) := by
  unfold Gives
  have H := Hs.start noRow w
  have haf : af = 0 := F.u (by decide)
  subst haf
  obtain ⟨a0, a1'⟩ := F.a0
  obtain ⟨b0, b1'⟩ := F.b0
  obtain ⟨c0, c1'⟩ := F.c0
  obtain ⟨d0, d1'⟩ := F.d0
  have hM : ∀ w, Gives Tryz.prog 45 #[.int .i64 10] w (.int .i64 0) := fun w => l17Many_s 10 w
  have hl1 := labelText_len l1 l2
  have hl2 := labelText_len m1 m2
  have hwl : (wordOf 10).size ≤ 30 := by decide +kernel
  have hE : Hid (opWords false l1 l2 10 ow a b c d m1 m2 0 = [labelText l1 l2, (wordOf 10).data.toList] ++ ([] : List Bs) ++ ([] : List Bs) ++ ([] : List Bs)) := Lib.hid (by simp [opWords, numWords, many])
  clear F
  unfold encOp at *
  go_enter Tryz.func41, Tryz.ntmps41
  go_wp2_with (first | ((first | ((with_reducible apply st_load1 H); decide +kernel; rfl; exact cF) | ((with_reducible apply st_loads H); decide +kernel; rfl; exact iF; exact zF; rfl)); clear H; intro wn H; (try simp only [splice, yG, yH, yI, yJ, yK, yL, yM, yN, yO, yP, yQ, Nat.reduceAdd, yA, yB, yC] at H); simp only [Act.put, yA, yB, yC, yD, yE, yF]) | ((first | ((with_reducible apply st_box (dst := some 1) H); exact nF; intro b1) | ((with_reducible apply st_strsum H); rfl; rfl; exact szF; kernel_rfl) | ((with_reducible apply st_bslice H); exact nsF; intro nb)); clear H; intro wn H; simp only [Act.put, yA, yB, yC, yD, yE, yF]) | ((first | (go_at_call 73; refine gvF (labelText_s _ _ _) H ?_) | (go_at_call 44; refine gvF (l17Word_s _ _) H ?_)); clear H; intro wn H))
  go_loopg [3, 5] 0 (fun n tv iv wr => ∃ (j : Nat) (X : Bs), j + n = 0 ∧ iv = .int .i64 j ∧ tv = .string (bs X) ∧ Hid (X = joinSp ([labelText l1 l2, (wordOf 10).data.toList] ++ ([] : List Bs) ++ List.take j ([] : List Bs))) ∧ X.length ≤ 2000 ∧ Hs noRow w [Hl.blk b1 26 #[.bool false, .int .i64 l1, .int .i64 l2, .int .i64 10, .string ow, .int .i64 a, .int .i64 b, .int .i64 c, .int .i64 d, .int .i64 m1, .int .i64 m2, .int .i64 0], Hl.blk nb 2 #[.int .i64 a, .int .i64 b, .int .i64 c, .int .i64 d]] wr)
  case atStart => exact ⟨0, _, rfl, rfl, congrArg Value.string (show bs (labelText l1 l2) ++ ⟨#[32]⟩ ++ wordOf 10 = _ from sp2 _ _), Lib.hid rfl, (joinSp_le (B := 30) (by simp) (by (try simp only [List.take_succ_cons, List.take_zero, List.take_nil, List.cons_append, List.nil_append, List.append_nil]); (repeat (first | exact (fun _ h => absurd h List.not_mem_nil) | (refine List.forall_mem_cons.2 ⟨?_, ?_⟩; (focus (first | omega | exact wordOf_len2 _ | exact stateWord_len2 _ | decide | (simp; done) | (rw [size_data]; omega)))))))), H.sel sF⟩
  case round =>
    clear H
    obtain ⟨j, X, hj, rfl, rfl, HX, hXl, H⟩ := hrel
    have hjj : j = 0 := by omega
    subst hjj
    go_wp2_with (first | ((((with_reducible apply st_load1 H); decide +kernel; rfl; exact cF)); clear H; intro wn H; (try simp only [splice, yG, yH, yI, yJ, yK, yL, yM, yN, yO, yP, yQ, Nat.reduceAdd, yA, yB, yC] at H); simp only [Act.put, yA, yB, yC, yD, yE, yF]) | (((go_at_call 45; refine gvF (hM _) H ?_)); clear H; intro wn H))
    skip
    go_ret
    exact ⟨by rw [hE.out, HX.out]; rfl, H.below⟩
set_option maxRecDepth 100000 in
set_option maxHeartbeats 8000000 in
theorem l17Text_s11 (l1 l2 : Int) (ow : ByteArray) (a b c d m1 m2 af : Int) (F : OpFacts false l1 l2 11 ow a b c d m1 m2 af) (w : World) :
    Gives Tryz.prog 41 #[encOp false l1 l2 11 ow a b c d m1 m2 af] w (.string (bs (joinSp (opWords false l1 l2 11 ow a b c d m1 m2 af)))) := by
  unfold Gives
  have H := Hs.start noRow w
  have haf : af = 0 := F.u (by decide)
  subst haf
  obtain ⟨a0, a1'⟩ := F.a0
  obtain ⟨b0, b1'⟩ := F.b0
  obtain ⟨c0, c1'⟩ := F.c0
  obtain ⟨d0, d1'⟩ := F.d0
  have hM : ∀ w, Gives Tryz.prog 45 #[.int .i64 11] w (.int .i64 0) := fun w => l17Many_s 11 w
  have hl1 := labelText_len l1 l2
  have hl2 := labelText_len m1 m2
  have hwl : (wordOf 11).size ≤ 30 := by decide +kernel
  have hE : Hid (opWords false l1 l2 11 ow a b c d m1 m2 0 = [labelText l1 l2, (wordOf 11).data.toList] ++ ([] : List Bs) ++ ([] : List Bs) ++ ([] : List Bs)) := Lib.hid (by simp [opWords, numWords, many])
  clear F
  unfold encOp at *
  go_enter Tryz.func41, Tryz.ntmps41
  go_wp2_with (first | ((first | ((with_reducible apply st_load1 H); decide +kernel; rfl; exact cF) | ((with_reducible apply st_loads H); decide +kernel; rfl; exact iF; exact zF; rfl)); clear H; intro wn H; (try simp only [splice, yG, yH, yI, yJ, yK, yL, yM, yN, yO, yP, yQ, Nat.reduceAdd, yA, yB, yC] at H); simp only [Act.put, yA, yB, yC, yD, yE, yF]) | ((first | ((with_reducible apply st_box (dst := some 1) H); exact nF; intro b1) | ((with_reducible apply st_strsum H); rfl; rfl; exact szF; kernel_rfl) | ((with_reducible apply st_bslice H); exact nsF; intro nb)); clear H; intro wn H; simp only [Act.put, yA, yB, yC, yD, yE, yF]) | ((first | (go_at_call 73; refine gvF (labelText_s _ _ _) H ?_) | (go_at_call 44; refine gvF (l17Word_s _ _) H ?_)); clear H; intro wn H))
  go_loopg [3, 5] 0 (fun n tv iv wr => ∃ (j : Nat) (X : Bs), j + n = 0 ∧ iv = .int .i64 j ∧ tv = .string (bs X) ∧ Hid (X = joinSp ([labelText l1 l2, (wordOf 11).data.toList] ++ ([] : List Bs) ++ List.take j ([] : List Bs))) ∧ X.length ≤ 2000 ∧ Hs noRow w [Hl.blk b1 26 #[.bool false, .int .i64 l1, .int .i64 l2, .int .i64 11, .string ow, .int .i64 a, .int .i64 b, .int .i64 c, .int .i64 d, .int .i64 m1, .int .i64 m2, .int .i64 0], Hl.blk nb 2 #[.int .i64 a, .int .i64 b, .int .i64 c, .int .i64 d]] wr)
  case atStart => exact ⟨0, _, rfl, rfl, congrArg Value.string (show bs (labelText l1 l2) ++ ⟨#[32]⟩ ++ wordOf 11 = _ from sp2 _ _), Lib.hid rfl, (joinSp_le (B := 30) (by simp) (by (try simp only [List.take_succ_cons, List.take_zero, List.take_nil, List.cons_append, List.nil_append, List.append_nil]); (repeat (first | exact (fun _ h => absurd h List.not_mem_nil) | (refine List.forall_mem_cons.2 ⟨?_, ?_⟩; (focus (first | omega | exact wordOf_len2 _ | exact stateWord_len2 _ | decide | (simp; done) | (rw [size_data]; omega)))))))), H.sel sF⟩
  case round =>
    clear H
    obtain ⟨j, X, hj, rfl, rfl, HX, hXl, H⟩ := hrel
    have hjj : j = 0 := by omega
    subst hjj
    go_wp2_with (first | ((((with_reducible apply st_load1 H); decide +kernel; rfl; exact cF)); clear H; intro wn H; (try simp only [splice, yG, yH, yI, yJ, yK, yL, yM, yN, yO, yP, yQ, Nat.reduceAdd, yA, yB, yC] at H); simp only [Act.put, yA, yB, yC, yD, yE, yF]) | (((go_at_call 45; refine gvF (hM _) H ?_)); clear H; intro wn H))
    skip
    go_ret
    exact ⟨by rw [hE.out, HX.out]; rfl, H.below⟩
set_option maxRecDepth 100000 in
set_option maxHeartbeats 8000000 in
theorem l17Text_s13 (l1 l2 : Int) (ow : ByteArray) (a b c d m1 m2 af : Int) (F : OpFacts true l1 l2 13 ow a b c d m1 m2 af) (w : World) :
    Gives Tryz.prog 41 #[encOp true l1 l2 13 ow a b c d m1 m2 af] w (.string (bs (joinSp (opWords true l1 l2 13 ow a b c d m1 m2 af)))) := by
  unfold Gives
  have H := Hs.start noRow w
  have haf : af = 0 := F.u (by decide)
  subst haf
  obtain ⟨a0, a1'⟩ := F.a0
  obtain ⟨b0, b1'⟩ := F.b0
  obtain ⟨c0, c1'⟩ := F.c0
  obtain ⟨d0, d1'⟩ := F.d0
  obtain ⟨s1, s2⟩ := F.n rfl
  have hM : ∀ w, Gives Tryz.prog 45 #[.int .i64 13] w (.int .i64 2) := fun w => l17Many_s 13 w
  have hl1 := labelText_len l1 l2
  have hl2 := labelText_len m1 m2
  have hwl : (wordOf 13).size ≤ 30 := by decide +kernel
  have hda := dec_len (n := a) ⟨by omega, by omega⟩
  have hE : Hid (opWords true l1 l2 13 ow a b c d m1 m2 0 = [[115, 121, 115], (wordOf 13).data.toList] ++ ([] : List Bs) ++ [dec a, stateWord b] ++ ([] : List Bs)) := Lib.hid (by simp [opWords, numWords, many])
  clear F
  unfold encOp at *
  go_enter Tryz.func41, Tryz.ntmps41
  go_wp2_with (first | ((first | ((with_reducible apply st_load1 H); decide +kernel; rfl; exact cF) | ((with_reducible apply st_loads H); decide +kernel; rfl; exact iF; exact zF; rfl)); clear H; intro wn H; (try simp only [splice, yG, yH, yI, yJ, yK, yL, yM, yN, yO, yP, yQ, Nat.reduceAdd, yA, yB, yC] at H); simp only [Act.put, yA, yB, yC, yD, yE, yF]) | ((first | ((with_reducible apply st_box (dst := some 1) H); exact nF; intro b1) | ((with_reducible apply st_strsum H); rfl; rfl; exact szF; kernel_rfl)); clear H; intro wn H; simp only [Act.put, yA, yB, yC, yD, yE, yF]) | ((first | (go_at_call 73; refine gvF (labelText_s _ _ _) H ?_) | (go_at_call 44; refine gvF (l17Word_s _ _) H ?_)); clear H; intro wn H))
  have hbb : b = 1 ∨ b = 2 ∨ b = 3 := by omega
  rcases hbb with rfl | rfl | rfl
  · apply wp_region_hs (K := []) (Spec.V _ :: Spec.V _ :: Spec.V _ :: Spec.V _ :: Spec.V _ :: Spec.V _ :: Spec.V _ :: Spec.S _ _ _ :: Spec.V _ :: Spec.V _ :: Spec.V _ :: Spec.V _ :: Spec.V _ :: []) 13 H rfl (by simp) (by kernel_rfl) (by kernel_rfl); intro vs Ls; (iterate 1 ((with_reducible apply wpH_V); (focus rfl); (focus rfl); (focus (intro w1 H1; exact oF)); simp only [Act.put, yA, yB, yC, yD, yE, yF]; (try simp only [yG, yH, yJ, yK]))); ((with_reducible apply wpH_V); (focus rfl); (focus rfl); (focus (intro w1 H1; (with_reducible apply ok_strsum); (focus rfl); (focus rfl); (focus (simp only [zsize_bs, zsize_mk, ByteArray.size_append, List.length_cons, List.length_nil]; omega)); (focus kernel_rfl))); simp only [Act.put, yA, yB, yC, yD, yE, yF]); (iterate 2 ((with_reducible apply wpH_V); (focus rfl); (focus rfl); (focus (intro w1 H1; exact oF)); simp only [Act.put, yA, yB, yC, yD, yE, yF]; (try simp only [yG, yH, yJ, yK]))); (with_reducible apply wpH_VK); (focus rfl); (focus rfl); (focus (intro hk w1 H1; unfold OpOk; go_simp; exact now_call (Gives.rets (l01Dec_s _ (by omega) (by omega) _)))); simp only [Act.put, yA, yB, yC, yD, yE, yF]; ((with_reducible apply wpH_V); (focus rfl); (focus rfl); (focus (intro w1 H1; (with_reducible apply ok_strsum); (focus rfl); (focus rfl); (focus (simp only [zsize_bs, zsize_mk, ByteArray.size_append, List.length_cons, List.length_nil]; omega)); (focus kernel_rfl))); simp only [Act.put, yA, yB, yC, yD, yE, yF]); ((with_reducible apply wpH_V); (focus rfl); (focus rfl); (focus (intro w1 H1; (with_reducible apply ok_strsum); (focus rfl); (focus rfl); (focus (simp only [zsize_bs, zsize_mk, ByteArray.size_append, List.length_cons, List.length_nil]; omega)); (focus kernel_rfl))); simp only [Act.put, yA, yB, yC, yD, yE, yF]); (with_reducible apply wpH_S); (focus rfl); (focus rfl); (focus (intro hk w1 H1; unfold OpOk; go_simp; exact now_sl)); intro g7 hg7; simp only [Act.put, yA, yB, yC, yD, yE, yF]; (iterate 3 ((with_reducible apply wpH_V); (focus rfl); (focus rfl); (focus (intro w1 H1; exact oF)); simp only [Act.put, yA, yB, yC, yD, yE, yF]; (try simp only [yG, yH, yJ, yK]))); (with_reducible apply (wpH_D 7)); (focus rfl); (focus rfl); (focus decide +kernel); (focus decide); (focus (intro hk w1 H1; have hb : Blk w1 _ _ _ := H1.ok _ (List.mem_append_left _ (List.mem_singleton.2 rfl)); rw [← hg7] at hb; rw [hg7] at hb; exact ok_load1 (v := .string ⟨#[117, 112]⟩) rfl (by decide +kernel) (hb.at (i := 1) rfl))); simp only [Act.put, yA, yB, yC, yD, yE, yF]; ((with_reducible apply wpH_V); (focus rfl); (focus rfl); (focus (intro w1 H1; (with_reducible apply ok_strsum); (focus rfl); (focus rfl); (focus (simp only [zsize_bs, zsize_mk, ByteArray.size_append, List.length_cons, List.length_nil]; omega)); (focus kernel_rfl))); simp only [Act.put, yA, yB, yC, yD, yE, yF]); refine wpH_0 ?_; intro hok wn Hn; (try simp only [yT, yU, yV, yW] at Hn); clear H; have H := Hn; clear Hn; (try simp only [← hg7]); clear hg7; clear hok; rotate_left; (focus (refine locs ?_; intro vs1 vs2; (iterate 13 (refine all_lt_succ ?_ (by first | exact (fun _ => rfl) | exact (fun _ => ⟨rfl, rfl⟩) | (intro h; simp only [spec, Spec.same, yR, yS, Option.getD_some]; (try rw [h 7 (by decide +kernel)]); (first | done | exact ⟨rfl, rfl⟩ | exact ⟨trivial, rfl⟩ | exact ⟨rfl, trivial⟩))))); exact (fun k hk => absurd hk (Nat.not_lt_zero k))))
    go_wp2_with (fail)
    go_ret
    refine ⟨congrArg Ending.returned (congrArg Value.string ?_), H.below⟩
    rw [hE.out]
    show bs [115, 121, 115] ++ ⟨#[32]⟩ ++ wordOf 13 ++ ⟨#[32]⟩ ++ bs (dec a) ++ ⟨#[32]⟩ ++ bs [117, 112] = bs (joinSp [[115, 121, 115], (wordOf 13).data.toList, dec a, [117, 112]])
    exact (congrArg (fun X => X ++ ⟨#[32]⟩ ++ bs (dec a) ++ ⟨#[32]⟩ ++ bs [117, 112]) (sp2 _ _)).trans ((congrArg (fun X => X ++ ⟨#[32]⟩ ++ bs [117, 112]) (spB (l' := [[115, 121, 115], (wordOf 13).data.toList, dec a]) (by simp) rfl)).trans (spB (by simp) rfl))
  · apply wp_region_hs (K := []) (Spec.V _ :: Spec.V _ :: Spec.V _ :: Spec.V _ :: Spec.V _ :: Spec.V _ :: Spec.V _ :: Spec.S _ _ _ :: Spec.V _ :: Spec.V _ :: Spec.V _ :: Spec.V _ :: Spec.V _ :: []) 13 H rfl (by simp) (by kernel_rfl) (by kernel_rfl); intro vs Ls; (iterate 1 ((with_reducible apply wpH_V); (focus rfl); (focus rfl); (focus (intro w1 H1; exact oF)); simp only [Act.put, yA, yB, yC, yD, yE, yF]; (try simp only [yG, yH, yJ, yK]))); ((with_reducible apply wpH_V); (focus rfl); (focus rfl); (focus (intro w1 H1; (with_reducible apply ok_strsum); (focus rfl); (focus rfl); (focus (simp only [zsize_bs, zsize_mk, ByteArray.size_append, List.length_cons, List.length_nil]; omega)); (focus kernel_rfl))); simp only [Act.put, yA, yB, yC, yD, yE, yF]); (iterate 2 ((with_reducible apply wpH_V); (focus rfl); (focus rfl); (focus (intro w1 H1; exact oF)); simp only [Act.put, yA, yB, yC, yD, yE, yF]; (try simp only [yG, yH, yJ, yK]))); (with_reducible apply wpH_VK); (focus rfl); (focus rfl); (focus (intro hk w1 H1; unfold OpOk; go_simp; exact now_call (Gives.rets (l01Dec_s _ (by omega) (by omega) _)))); simp only [Act.put, yA, yB, yC, yD, yE, yF]; ((with_reducible apply wpH_V); (focus rfl); (focus rfl); (focus (intro w1 H1; (with_reducible apply ok_strsum); (focus rfl); (focus rfl); (focus (simp only [zsize_bs, zsize_mk, ByteArray.size_append, List.length_cons, List.length_nil]; omega)); (focus kernel_rfl))); simp only [Act.put, yA, yB, yC, yD, yE, yF]); ((with_reducible apply wpH_V); (focus rfl); (focus rfl); (focus (intro w1 H1; (with_reducible apply ok_strsum); (focus rfl); (focus rfl); (focus (simp only [zsize_bs, zsize_mk, ByteArray.size_append, List.length_cons, List.length_nil]; omega)); (focus kernel_rfl))); simp only [Act.put, yA, yB, yC, yD, yE, yF]); (with_reducible apply wpH_S); (focus rfl); (focus rfl); (focus (intro hk w1 H1; unfold OpOk; go_simp; exact now_sl)); intro g7 hg7; simp only [Act.put, yA, yB, yC, yD, yE, yF]; (iterate 3 ((with_reducible apply wpH_V); (focus rfl); (focus rfl); (focus (intro w1 H1; exact oF)); simp only [Act.put, yA, yB, yC, yD, yE, yF]; (try simp only [yG, yH, yJ, yK]))); (with_reducible apply (wpH_D 7)); (focus rfl); (focus rfl); (focus decide +kernel); (focus decide); (focus (intro hk w1 H1; have hb : Blk w1 _ _ _ := H1.ok _ (List.mem_append_left _ (List.mem_singleton.2 rfl)); rw [← hg7] at hb; rw [hg7] at hb; exact ok_load1 (v := .string ⟨#[100, 114, 97, 105, 110]⟩) rfl (by decide +kernel) (hb.at (i := 2) rfl))); simp only [Act.put, yA, yB, yC, yD, yE, yF]; ((with_reducible apply wpH_V); (focus rfl); (focus rfl); (focus (intro w1 H1; (with_reducible apply ok_strsum); (focus rfl); (focus rfl); (focus (simp only [zsize_bs, zsize_mk, ByteArray.size_append, List.length_cons, List.length_nil]; omega)); (focus kernel_rfl))); simp only [Act.put, yA, yB, yC, yD, yE, yF]); refine wpH_0 ?_; intro hok wn Hn; (try simp only [yT, yU, yV, yW] at Hn); clear H; have H := Hn; clear Hn; (try simp only [← hg7]); clear hg7; clear hok; rotate_left; (focus (refine locs ?_; intro vs1 vs2; (iterate 13 (refine all_lt_succ ?_ (by first | exact (fun _ => rfl) | exact (fun _ => ⟨rfl, rfl⟩) | (intro h; simp only [spec, Spec.same, yR, yS, Option.getD_some]; (try rw [h 7 (by decide +kernel)]); (first | done | exact ⟨rfl, rfl⟩ | exact ⟨trivial, rfl⟩ | exact ⟨rfl, trivial⟩))))); exact (fun k hk => absurd hk (Nat.not_lt_zero k))))
    go_wp2_with (fail)
    go_ret
    refine ⟨congrArg Ending.returned (congrArg Value.string ?_), H.below⟩
    rw [hE.out]
    show bs [115, 121, 115] ++ ⟨#[32]⟩ ++ wordOf 13 ++ ⟨#[32]⟩ ++ bs (dec a) ++ ⟨#[32]⟩ ++ bs [100, 114, 97, 105, 110] = bs (joinSp [[115, 121, 115], (wordOf 13).data.toList, dec a, [100, 114, 97, 105, 110]])
    exact (congrArg (fun X => X ++ ⟨#[32]⟩ ++ bs (dec a) ++ ⟨#[32]⟩ ++ bs [100, 114, 97, 105, 110]) (sp2 _ _)).trans ((congrArg (fun X => X ++ ⟨#[32]⟩ ++ bs [100, 114, 97, 105, 110]) (spB (l' := [[115, 121, 115], (wordOf 13).data.toList, dec a]) (by simp) rfl)).trans (spB (by simp) rfl))
  · apply wp_region_hs (K := []) (Spec.V _ :: Spec.V _ :: Spec.V _ :: Spec.V _ :: Spec.V _ :: Spec.V _ :: Spec.V _ :: Spec.S _ _ _ :: Spec.V _ :: Spec.V _ :: Spec.V _ :: Spec.V _ :: Spec.V _ :: []) 13 H rfl (by simp) (by kernel_rfl) (by kernel_rfl); intro vs Ls; (iterate 1 ((with_reducible apply wpH_V); (focus rfl); (focus rfl); (focus (intro w1 H1; exact oF)); simp only [Act.put, yA, yB, yC, yD, yE, yF]; (try simp only [yG, yH, yJ, yK]))); ((with_reducible apply wpH_V); (focus rfl); (focus rfl); (focus (intro w1 H1; (with_reducible apply ok_strsum); (focus rfl); (focus rfl); (focus (simp only [zsize_bs, zsize_mk, ByteArray.size_append, List.length_cons, List.length_nil]; omega)); (focus kernel_rfl))); simp only [Act.put, yA, yB, yC, yD, yE, yF]); (iterate 2 ((with_reducible apply wpH_V); (focus rfl); (focus rfl); (focus (intro w1 H1; exact oF)); simp only [Act.put, yA, yB, yC, yD, yE, yF]; (try simp only [yG, yH, yJ, yK]))); (with_reducible apply wpH_VK); (focus rfl); (focus rfl); (focus (intro hk w1 H1; unfold OpOk; go_simp; exact now_call (Gives.rets (l01Dec_s _ (by omega) (by omega) _)))); simp only [Act.put, yA, yB, yC, yD, yE, yF]; ((with_reducible apply wpH_V); (focus rfl); (focus rfl); (focus (intro w1 H1; (with_reducible apply ok_strsum); (focus rfl); (focus rfl); (focus (simp only [zsize_bs, zsize_mk, ByteArray.size_append, List.length_cons, List.length_nil]; omega)); (focus kernel_rfl))); simp only [Act.put, yA, yB, yC, yD, yE, yF]); ((with_reducible apply wpH_V); (focus rfl); (focus rfl); (focus (intro w1 H1; (with_reducible apply ok_strsum); (focus rfl); (focus rfl); (focus (simp only [zsize_bs, zsize_mk, ByteArray.size_append, List.length_cons, List.length_nil]; omega)); (focus kernel_rfl))); simp only [Act.put, yA, yB, yC, yD, yE, yF]); (with_reducible apply wpH_S); (focus rfl); (focus rfl); (focus (intro hk w1 H1; unfold OpOk; go_simp; exact now_sl)); intro g7 hg7; simp only [Act.put, yA, yB, yC, yD, yE, yF]; (iterate 3 ((with_reducible apply wpH_V); (focus rfl); (focus rfl); (focus (intro w1 H1; exact oF)); simp only [Act.put, yA, yB, yC, yD, yE, yF]; (try simp only [yG, yH, yJ, yK]))); (with_reducible apply (wpH_D 7)); (focus rfl); (focus rfl); (focus decide +kernel); (focus decide); (focus (intro hk w1 H1; have hb : Blk w1 _ _ _ := H1.ok _ (List.mem_append_left _ (List.mem_singleton.2 rfl)); rw [← hg7] at hb; rw [hg7] at hb; exact ok_load1 (v := .string ⟨#[100, 111, 119, 110]⟩) rfl (by decide +kernel) (hb.at (i := 3) rfl))); simp only [Act.put, yA, yB, yC, yD, yE, yF]; ((with_reducible apply wpH_V); (focus rfl); (focus rfl); (focus (intro w1 H1; (with_reducible apply ok_strsum); (focus rfl); (focus rfl); (focus (simp only [zsize_bs, zsize_mk, ByteArray.size_append, List.length_cons, List.length_nil]; omega)); (focus kernel_rfl))); simp only [Act.put, yA, yB, yC, yD, yE, yF]); refine wpH_0 ?_; intro hok wn Hn; (try simp only [yT, yU, yV, yW] at Hn); clear H; have H := Hn; clear Hn; (try simp only [← hg7]); clear hg7; clear hok; rotate_left; (focus (refine locs ?_; intro vs1 vs2; (iterate 13 (refine all_lt_succ ?_ (by first | exact (fun _ => rfl) | exact (fun _ => ⟨rfl, rfl⟩) | (intro h; simp only [spec, Spec.same, yR, yS, Option.getD_some]; (try rw [h 7 (by decide +kernel)]); (first | done | exact ⟨rfl, rfl⟩ | exact ⟨trivial, rfl⟩ | exact ⟨rfl, trivial⟩))))); exact (fun k hk => absurd hk (Nat.not_lt_zero k))))
    go_wp2_with (fail)
    go_ret
    refine ⟨congrArg Ending.returned (congrArg Value.string ?_), H.below⟩
    rw [hE.out]
    show bs [115, 121, 115] ++ ⟨#[32]⟩ ++ wordOf 13 ++ ⟨#[32]⟩ ++ bs (dec a) ++ ⟨#[32]⟩ ++ bs [100, 111, 119, 110] = bs (joinSp [[115, 121, 115], (wordOf 13).data.toList, dec a, [100, 111, 119, 110]])
    exact (congrArg (fun X => X ++ ⟨#[32]⟩ ++ bs (dec a) ++ ⟨#[32]⟩ ++ bs [100, 111, 119, 110]) (sp2 _ _)).trans ((congrArg (fun X => X ++ ⟨#[32]⟩ ++ bs [100, 111, 119, 110]) (spB (l' := [[115, 121, 115], (wordOf 13).data.toList, dec a]) (by simp) rfl)).trans (spB (by simp) rfl))
set_option maxRecDepth 100000 in
set_option maxHeartbeats 8000000 in
theorem l17Text_s15 (l1 l2 : Int) (ow : ByteArray) (a b c d m1 m2 af : Int) (F : OpFacts true l1 l2 15 ow a b c d m1 m2 af) (w : World) :
    Gives Tryz.prog 41 #[encOp true l1 l2 15 ow a b c d m1 m2 af] w (.string (bs (joinSp (opWords true l1 l2 15 ow a b c d m1 m2 af)))) := by
  unfold Gives
  have H := Hs.start noRow w
  have haf : af = 0 := F.u (by decide)
  subst haf
  obtain ⟨a0, a1'⟩ := F.a0
  obtain ⟨b0, b1'⟩ := F.b0
  obtain ⟨c0, c1'⟩ := F.c0
  obtain ⟨d0, d1'⟩ := F.d0
  have hM : ∀ w, Gives Tryz.prog 45 #[.int .i64 15] w (.int .i64 2) := fun w => l17Many_s 15 w
  have hl1 := labelText_len l1 l2
  have hl2 := labelText_len m1 m2
  have hwl : (wordOf 15).size ≤ 30 := by decide +kernel
  have hda := dec_len (n := a) ⟨by omega, by omega⟩
  have hdb := dec_len (n := b) ⟨by omega, by omega⟩
  have hE : Hid (opWords true l1 l2 15 ow a b c d m1 m2 0 = [[115, 121, 115], (wordOf 15).data.toList] ++ ([] : List Bs) ++ [dec a, dec b] ++ ([] : List Bs)) := Lib.hid (by simp [opWords, numWords, many])
  clear F
  unfold encOp at *
  go_enter Tryz.func41, Tryz.ntmps41
  go_wp2_with (first | ((first | ((with_reducible apply st_load1 H); decide +kernel; rfl; exact cF) | ((with_reducible apply st_loads H); decide +kernel; rfl; exact iF; exact zF; rfl)); clear H; intro wn H; (try simp only [splice, yG, yH, yI, yJ, yK, yL, yM, yN, yO, yP, yQ, Nat.reduceAdd, yA, yB, yC] at H); simp only [Act.put, yA, yB, yC, yD, yE, yF]) | ((first | ((with_reducible apply st_box (dst := some 1) H); exact nF; intro b1) | ((with_reducible apply st_strsum H); rfl; rfl; exact szF; kernel_rfl) | ((with_reducible apply st_bslice H); exact nsF; intro nb)); clear H; intro wn H; simp only [Act.put, yA, yB, yC, yD, yE, yF]) | ((first | (go_at_call 73; refine gvF (labelText_s _ _ _) H ?_) | (go_at_call 44; refine gvF (l17Word_s _ _) H ?_)); clear H; intro wn H))
  go_loopg [3, 5] 2 (fun n tv iv wr => ∃ (j : Nat) (X : Bs), j + n = 2 ∧ iv = .int .i64 j ∧ tv = .string (bs X) ∧ Hid (X = joinSp ([[115, 121, 115], (wordOf 15).data.toList] ++ ([] : List Bs) ++ List.take j [dec a, dec b])) ∧ X.length ≤ 2000 ∧ Hs noRow w [Hl.blk b1 26 #[.bool true, .int .i64 l1, .int .i64 l2, .int .i64 15, .string ow, .int .i64 a, .int .i64 b, .int .i64 c, .int .i64 d, .int .i64 m1, .int .i64 m2, .int .i64 0], Hl.blk nb 2 #[.int .i64 a, .int .i64 b, .int .i64 c, .int .i64 d]] wr)
  case atStart => exact ⟨0, _, rfl, rfl, congrArg Value.string (show bs [115, 121, 115] ++ ⟨#[32]⟩ ++ wordOf 15 = _ from sp2 _ _), Lib.hid rfl, (joinSp_le (B := 30) (by simp) (by (try simp only [List.take_succ_cons, List.take_zero, List.take_nil, List.cons_append, List.nil_append, List.append_nil]); (repeat (first | exact (fun _ h => absurd h List.not_mem_nil) | (refine List.forall_mem_cons.2 ⟨?_, ?_⟩; (focus (first | omega | exact wordOf_len2 _ | exact stateWord_len2 _ | decide | (simp; done) | (rw [size_data]; omega)))))))), H.sel sF⟩
  case round =>
    clear H
    obtain ⟨j, X, hj, rfl, rfl, HX, hXl, H⟩ := hrel
    have hjj : j = 0 ∨ j = 1 ∨ j = 2 := by omega
    rcases hjj with rfl | rfl | rfl
    all_goals (
      go_wp2_with (first | ((((with_reducible apply st_load1 H); decide +kernel; rfl; exact cF)); clear H; intro wn H; (try simp only [splice, yG, yH, yI, yJ, yK, yL, yM, yN, yO, yP, yQ, Nat.reduceAdd, yA, yB, yC] at H); simp only [Act.put, yA, yB, yC, yD, yE, yF]) | ((((with_reducible apply st_strsum H); rfl; rfl; exact szF; kernel_rfl)); clear H; intro wn H; simp only [Act.put, yA, yB, yC, yD, yE, yF]) | ((first | (go_at_call 62; refine gvF (l01Dec_s _ (by omega) (by omega) _) H ?_) | (go_at_call 45; refine gvF (hM _) H ?_)); clear H; intro wn H))
    )
    · skip
      go_roundg 1
      case measure => omega
      case rel => exact ⟨1, _, rfl, rfl, congrArg Value.string ((congrArg (fun X => bs X ++ ⟨#[32]⟩ ++ bs (dec a)) HX.out).trans (spB (by simp) rfl)), Lib.hid rfl, (joinSp_le (B := 30) (by simp) (by (try simp only [List.take_succ_cons, List.take_zero, List.take_nil, List.cons_append, List.nil_append, List.append_nil]); (repeat (first | exact (fun _ h => absurd h List.not_mem_nil) | (refine List.forall_mem_cons.2 ⟨?_, ?_⟩; (focus (first | omega | exact wordOf_len2 _ | exact stateWord_len2 _ | decide | (simp; done) | (rw [size_data]; omega)))))))), H.sel sF⟩
    · skip
      go_roundg 0
      case measure => omega
      case rel => exact ⟨2, _, rfl, rfl, congrArg Value.string ((congrArg (fun X => bs X ++ ⟨#[32]⟩ ++ bs (dec b)) HX.out).trans (spB (by simp) rfl)), Lib.hid rfl, (joinSp_le (B := 30) (by simp) (by (try simp only [List.take_succ_cons, List.take_zero, List.take_nil, List.cons_append, List.nil_append, List.append_nil]); (repeat (first | exact (fun _ h => absurd h List.not_mem_nil) | (refine List.forall_mem_cons.2 ⟨?_, ?_⟩; (focus (first | omega | exact wordOf_len2 _ | exact stateWord_len2 _ | decide | (simp; done) | (rw [size_data]; omega)))))))), H.sel sF⟩
    · skip
      go_ret
      exact ⟨by rw [hE.out, HX.out]; rfl, H.below⟩
set_option maxRecDepth 100000 in
set_option maxHeartbeats 8000000 in
theorem l17Text_s16 (l1 l2 : Int) (ow : ByteArray) (a b c d m1 m2 af : Int) (F : OpFacts true l1 l2 16 ow a b c d m1 m2 af) (w : World) :
    Gives Tryz.prog 41 #[encOp true l1 l2 16 ow a b c d m1 m2 af] w (.string (bs (joinSp (opWords true l1 l2 16 ow a b c d m1 m2 af)))) := by
  unfold Gives
  have H := Hs.start noRow w
  have haf : af = 0 := F.u (by decide)
  subst haf
  obtain ⟨a0, a1'⟩ := F.a0
  obtain ⟨b0, b1'⟩ := F.b0
  obtain ⟨c0, c1'⟩ := F.c0
  obtain ⟨d0, d1'⟩ := F.d0
  have hM : ∀ w, Gives Tryz.prog 45 #[.int .i64 16] w (.int .i64 2) := fun w => l17Many_s 16 w
  have hl1 := labelText_len l1 l2
  have hl2 := labelText_len m1 m2
  have hwl : (wordOf 16).size ≤ 30 := by decide +kernel
  have hda := dec_len (n := a) ⟨by omega, by omega⟩
  have hdb := dec_len (n := b) ⟨by omega, by omega⟩
  have hE : Hid (opWords true l1 l2 16 ow a b c d m1 m2 0 = [[115, 121, 115], (wordOf 16).data.toList] ++ ([] : List Bs) ++ [dec a, dec b] ++ ([] : List Bs)) := Lib.hid (by simp [opWords, numWords, many])
  clear F
  unfold encOp at *
  go_enter Tryz.func41, Tryz.ntmps41
  go_wp2_with (first | ((first | ((with_reducible apply st_load1 H); decide +kernel; rfl; exact cF) | ((with_reducible apply st_loads H); decide +kernel; rfl; exact iF; exact zF; rfl)); clear H; intro wn H; (try simp only [splice, yG, yH, yI, yJ, yK, yL, yM, yN, yO, yP, yQ, Nat.reduceAdd, yA, yB, yC] at H); simp only [Act.put, yA, yB, yC, yD, yE, yF]) | ((first | ((with_reducible apply st_box (dst := some 1) H); exact nF; intro b1) | ((with_reducible apply st_strsum H); rfl; rfl; exact szF; kernel_rfl) | ((with_reducible apply st_bslice H); exact nsF; intro nb)); clear H; intro wn H; simp only [Act.put, yA, yB, yC, yD, yE, yF]) | ((first | (go_at_call 73; refine gvF (labelText_s _ _ _) H ?_) | (go_at_call 44; refine gvF (l17Word_s _ _) H ?_)); clear H; intro wn H))
  go_loopg [3, 5] 2 (fun n tv iv wr => ∃ (j : Nat) (X : Bs), j + n = 2 ∧ iv = .int .i64 j ∧ tv = .string (bs X) ∧ Hid (X = joinSp ([[115, 121, 115], (wordOf 16).data.toList] ++ ([] : List Bs) ++ List.take j [dec a, dec b])) ∧ X.length ≤ 2000 ∧ Hs noRow w [Hl.blk b1 26 #[.bool true, .int .i64 l1, .int .i64 l2, .int .i64 16, .string ow, .int .i64 a, .int .i64 b, .int .i64 c, .int .i64 d, .int .i64 m1, .int .i64 m2, .int .i64 0], Hl.blk nb 2 #[.int .i64 a, .int .i64 b, .int .i64 c, .int .i64 d]] wr)
  case atStart => exact ⟨0, _, rfl, rfl, congrArg Value.string (show bs [115, 121, 115] ++ ⟨#[32]⟩ ++ wordOf 16 = _ from sp2 _ _), Lib.hid rfl, (joinSp_le (B := 30) (by simp) (by (try simp only [List.take_succ_cons, List.take_zero, List.take_nil, List.cons_append, List.nil_append, List.append_nil]); (repeat (first | exact (fun _ h => absurd h List.not_mem_nil) | (refine List.forall_mem_cons.2 ⟨?_, ?_⟩; (focus (first | omega | exact wordOf_len2 _ | exact stateWord_len2 _ | decide | (simp; done) | (rw [size_data]; omega)))))))), H.sel sF⟩
  case round =>
    clear H
    obtain ⟨j, X, hj, rfl, rfl, HX, hXl, H⟩ := hrel
    have hjj : j = 0 ∨ j = 1 ∨ j = 2 := by omega
    rcases hjj with rfl | rfl | rfl
    all_goals (
      go_wp2_with (first | ((((with_reducible apply st_load1 H); decide +kernel; rfl; exact cF)); clear H; intro wn H; (try simp only [splice, yG, yH, yI, yJ, yK, yL, yM, yN, yO, yP, yQ, Nat.reduceAdd, yA, yB, yC] at H); simp only [Act.put, yA, yB, yC, yD, yE, yF]) | ((((with_reducible apply st_strsum H); rfl; rfl; exact szF; kernel_rfl)); clear H; intro wn H; simp only [Act.put, yA, yB, yC, yD, yE, yF]) | ((first | (go_at_call 62; refine gvF (l01Dec_s _ (by omega) (by omega) _) H ?_) | (go_at_call 45; refine gvF (hM _) H ?_)); clear H; intro wn H))
    )
    · skip
      go_roundg 1
      case measure => omega
      case rel => exact ⟨1, _, rfl, rfl, congrArg Value.string ((congrArg (fun X => bs X ++ ⟨#[32]⟩ ++ bs (dec a)) HX.out).trans (spB (by simp) rfl)), Lib.hid rfl, (joinSp_le (B := 30) (by simp) (by (try simp only [List.take_succ_cons, List.take_zero, List.take_nil, List.cons_append, List.nil_append, List.append_nil]); (repeat (first | exact (fun _ h => absurd h List.not_mem_nil) | (refine List.forall_mem_cons.2 ⟨?_, ?_⟩; (focus (first | omega | exact wordOf_len2 _ | exact stateWord_len2 _ | decide | (simp; done) | (rw [size_data]; omega)))))))), H.sel sF⟩
    · skip
      go_roundg 0
      case measure => omega
      case rel => exact ⟨2, _, rfl, rfl, congrArg Value.string ((congrArg (fun X => bs X ++ ⟨#[32]⟩ ++ bs (dec b)) HX.out).trans (spB (by simp) rfl)), Lib.hid rfl, (joinSp_le (B := 30) (by simp) (by (try simp only [List.take_succ_cons, List.take_zero, List.take_nil, List.cons_append, List.nil_append, List.append_nil]); (repeat (first | exact (fun _ h => absurd h List.not_mem_nil) | (refine List.forall_mem_cons.2 ⟨?_, ?_⟩; (focus (first | omega | exact wordOf_len2 _ | exact stateWord_len2 _ | decide | (simp; done) | (rw [size_data]; omega)))))))), H.sel sF⟩
    · skip
      go_ret
      exact ⟨by rw [hE.out, HX.out]; rfl, H.below⟩
set_option maxRecDepth 100000 in
set_option maxHeartbeats 8000000 in
theorem l17Text_s17 (l1 l2 : Int) (ow : ByteArray) (a b c d m1 m2 af : Int) (F : OpFacts true l1 l2 17 ow a b c d m1 m2 af) (w : World) :
    Gives Tryz.prog 41 #[encOp true l1 l2 17 ow a b c d m1 m2 af] w (.string (bs (joinSp (opWords true l1 l2 17 ow a b c d m1 m2 af)))) := by
  unfold Gives
  have H := Hs.start noRow w
  have haf : af = 0 := F.u (by decide)
  subst haf
  obtain ⟨a0, a1'⟩ := F.a0
  obtain ⟨b0, b1'⟩ := F.b0
  obtain ⟨c0, c1'⟩ := F.c0
  obtain ⟨d0, d1'⟩ := F.d0
  have hM : ∀ w, Gives Tryz.prog 45 #[.int .i64 17] w (.int .i64 0) := fun w => l17Many_s 17 w
  have hl1 := labelText_len l1 l2
  have hl2 := labelText_len m1 m2
  have hwl : (wordOf 17).size ≤ 30 := by decide +kernel
  have hE : Hid (opWords true l1 l2 17 ow a b c d m1 m2 0 = [[115, 121, 115], (wordOf 17).data.toList] ++ ([] : List Bs) ++ ([] : List Bs) ++ ([] : List Bs)) := Lib.hid (by simp [opWords, numWords, many])
  clear F
  unfold encOp at *
  go_enter Tryz.func41, Tryz.ntmps41
  go_wp2_with (first | ((first | ((with_reducible apply st_load1 H); decide +kernel; rfl; exact cF) | ((with_reducible apply st_loads H); decide +kernel; rfl; exact iF; exact zF; rfl)); clear H; intro wn H; (try simp only [splice, yG, yH, yI, yJ, yK, yL, yM, yN, yO, yP, yQ, Nat.reduceAdd, yA, yB, yC] at H); simp only [Act.put, yA, yB, yC, yD, yE, yF]) | ((first | ((with_reducible apply st_box (dst := some 1) H); exact nF; intro b1) | ((with_reducible apply st_strsum H); rfl; rfl; exact szF; kernel_rfl) | ((with_reducible apply st_bslice H); exact nsF; intro nb)); clear H; intro wn H; simp only [Act.put, yA, yB, yC, yD, yE, yF]) | ((first | (go_at_call 73; refine gvF (labelText_s _ _ _) H ?_) | (go_at_call 44; refine gvF (l17Word_s _ _) H ?_)); clear H; intro wn H))
  go_loopg [3, 5] 0 (fun n tv iv wr => ∃ (j : Nat) (X : Bs), j + n = 0 ∧ iv = .int .i64 j ∧ tv = .string (bs X) ∧ Hid (X = joinSp ([[115, 121, 115], (wordOf 17).data.toList] ++ ([] : List Bs) ++ List.take j ([] : List Bs))) ∧ X.length ≤ 2000 ∧ Hs noRow w [Hl.blk b1 26 #[.bool true, .int .i64 l1, .int .i64 l2, .int .i64 17, .string ow, .int .i64 a, .int .i64 b, .int .i64 c, .int .i64 d, .int .i64 m1, .int .i64 m2, .int .i64 0], Hl.blk nb 2 #[.int .i64 a, .int .i64 b, .int .i64 c, .int .i64 d]] wr)
  case atStart => exact ⟨0, _, rfl, rfl, congrArg Value.string (show bs [115, 121, 115] ++ ⟨#[32]⟩ ++ wordOf 17 = _ from sp2 _ _), Lib.hid rfl, (joinSp_le (B := 30) (by simp) (by (try simp only [List.take_succ_cons, List.take_zero, List.take_nil, List.cons_append, List.nil_append, List.append_nil]); (repeat (first | exact (fun _ h => absurd h List.not_mem_nil) | (refine List.forall_mem_cons.2 ⟨?_, ?_⟩; (focus (first | omega | exact wordOf_len2 _ | exact stateWord_len2 _ | decide | (simp; done) | (rw [size_data]; omega)))))))), H.sel sF⟩
  case round =>
    clear H
    obtain ⟨j, X, hj, rfl, rfl, HX, hXl, H⟩ := hrel
    have hjj : j = 0 := by omega
    subst hjj
    go_wp2_with (first | ((((with_reducible apply st_load1 H); decide +kernel; rfl; exact cF)); clear H; intro wn H; (try simp only [splice, yG, yH, yI, yJ, yK, yL, yM, yN, yO, yP, yQ, Nat.reduceAdd, yA, yB, yC] at H); simp only [Act.put, yA, yB, yC, yD, yE, yF]) | (((go_at_call 45; refine gvF (hM _) H ?_)); clear H; intro wn H))
    skip
    go_ret
    exact ⟨by rw [hE.out, HX.out]; rfl, H.below⟩
end Go.Proofs.YtfblolkkajppcaaGreatDoor
