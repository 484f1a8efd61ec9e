/-
  OpText of the reference, kind by kind (printed by a program).
-/
import Derived.Test.YtfblolkkajppcaaGreatDoorP3
set_option linter.unusedSimpArgs false
set_option linter.unusedVariables false
namespace Go.Proofs.YtfblolkkajppcaaGreatDoor
open Go.RowKit M
set_option maxRecDepth 100000 in
set_option maxHeartbeats 8000000 in
theorem l17Text_s1n (l1 l2 : Int) (ow : ByteArray) (a b c d m1 m2 af : Int) (hz : af = 0) (F : OpFacts false l1 l2 1 ow a b c d m1 m2 af) (w : World) :
    Gives Tryz.prog 41 #[encOp false l1 l2 1 ow a b c d m1 m2 af] w (.string (bs (joinSp (opWords false l1 l2 1 ow a b c d m1 m2 af)))) := by
  unfold Gives
  have H := Hs.start noRow w
  have haf : af = 0 := hz
  subst haf
  obtain ⟨a0, a1'⟩ := F.a0
  obtain ⟨b0, b1'⟩ := F.b0
  obtain ⟨c0, c1'⟩ := F.c0
  obtain ⟨d0, d1'⟩ := F.d0
  have how := F.o rfl
  have hM : ∀ w, Gives Tryz.prog 45 #[.int .i64 1] w (.int .i64 4) := fun w => l17Many_s 1 w
  have hl1 := labelText_len l1 l2
  have hl2 := labelText_len m1 m2
  have hwl : (wordOf 1).size ≤ 30 := by decide +kernel
  have hda := dec_len (n := a) ⟨by omega, by omega⟩
  have hdb := dec_len (n := b) ⟨by omega, by omega⟩
  have hdc := dec_len (n := c) ⟨by omega, by omega⟩
  have hdd := dec_len (n := d) ⟨by omega, by omega⟩
  have hE : Hid (opWords false l1 l2 1 ow a b c d m1 m2 0 = [labelText l1 l2, (wordOf 1).data.toList] ++ [ow.data.toList] ++ [dec a, dec b, dec c, dec d] ++ ([] : List Bs)) := Lib.hid (by simp [opWords, numWords, many])
  clear F
  unfold encOp at *
  go_enter Tryz.func41, Tryz.ntmps41
  go_wp2_with (first | ((first | ((with_reducible apply st_load1 H); decide +kernel; rfl; exact cF) | ((with_reducible apply st_loads H); decide +kernel; rfl; exact iF; exact zF; rfl)); clear H; intro wn H; (try simp only [splice, yG, yH, yI, yJ, yK, yL, yM, yN, yO, yP, yQ, Nat.reduceAdd, yA, yB, yC] at H); simp only [Act.put, yA, yB, yC, yD, yE, yF]) | ((first | ((with_reducible apply st_box (dst := some 1) H); exact nF; intro b1) | ((with_reducible apply st_strsum H); rfl; rfl; exact szF; kernel_rfl) | ((with_reducible apply st_bslice H); exact nsF; intro nb)); clear H; intro wn H; simp only [Act.put, yA, yB, yC, yD, yE, yF]) | ((first | (go_at_call 73; refine gvF (labelText_s _ _ _) H ?_) | (go_at_call 44; refine gvF (l17Word_s _ _) H ?_)); clear H; intro wn H))
  go_loopg [3, 5] 4 (fun n tv iv wr => ∃ (j : Nat) (X : Bs), j + n = 4 ∧ iv = .int .i64 j ∧ tv = .string (bs X) ∧ Hid (X = joinSp ([labelText l1 l2, (wordOf 1).data.toList] ++ [ow.data.toList] ++ List.take j [dec a, dec b, dec c, dec d])) ∧ X.length ≤ 2000 ∧ Hs noRow w [Hl.blk b1 26 #[.bool false, .int .i64 l1, .int .i64 l2, .int .i64 1, .string ow, .int .i64 a, .int .i64 b, .int .i64 c, .int .i64 d, .int .i64 m1, .int .i64 m2, .int .i64 0], Hl.blk nb 2 #[.int .i64 a, .int .i64 b, .int .i64 c, .int .i64 d]] wr)
  case atStart => exact ⟨0, _, rfl, rfl, congrArg Value.string (show bs (labelText l1 l2) ++ ⟨#[32]⟩ ++ wordOf 1 ++ ⟨#[32]⟩ ++ ow = _ from (congrArg (· ++ ⟨#[32]⟩ ++ ow) (sp2 _ _)).trans (spS (by simp) rfl)), Lib.hid rfl, (joinSp_le (B := 30) (by simp) (by (try simp only [List.take_succ_cons, List.take_zero, List.take_nil, List.cons_append, List.nil_append, List.append_nil]); (repeat (first | exact (fun _ h => absurd h List.not_mem_nil) | (refine List.forall_mem_cons.2 ⟨?_, ?_⟩; (focus (first | omega | exact wordOf_len2 _ | exact stateWord_len2 _ | decide | (simp; done) | (rw [size_data]; omega)))))))), H.sel sF⟩
  case round =>
    clear H
    obtain ⟨j, X, hj, rfl, rfl, HX, hXl, H⟩ := hrel
    have hjj : j = 0 ∨ j = 1 ∨ j = 2 ∨ j = 3 ∨ j = 4 := by omega
    rcases hjj with rfl | rfl | rfl | rfl | rfl
    all_goals (
      go_wp2_with (first | ((((with_reducible apply st_load1 H); decide +kernel; rfl; exact cF)); clear H; intro wn H; (try simp only [splice, yG, yH, yI, yJ, yK, yL, yM, yN, yO, yP, yQ, Nat.reduceAdd, yA, yB, yC] at H); simp only [Act.put, yA, yB, yC, yD, yE, yF]) | ((((with_reducible apply st_strsum H); rfl; rfl; exact szF; kernel_rfl)); clear H; intro wn H; simp only [Act.put, yA, yB, yC, yD, yE, yF]) | ((first | (go_at_call 62; refine gvF (l01Dec_s _ (by omega) (by omega) _) H ?_) | (go_at_call 45; refine gvF (hM _) H ?_)); clear H; intro wn H))
    )
    · skip
      go_roundg 3
      case measure => omega
      case rel => exact ⟨1, _, rfl, rfl, congrArg Value.string ((congrArg (fun X => bs X ++ ⟨#[32]⟩ ++ bs (dec a)) HX.out).trans (spB (by simp) rfl)), Lib.hid rfl, (joinSp_le (B := 30) (by simp) (by (try simp only [List.take_succ_cons, List.take_zero, List.take_nil, List.cons_append, List.nil_append, List.append_nil]); (repeat (first | exact (fun _ h => absurd h List.not_mem_nil) | (refine List.forall_mem_cons.2 ⟨?_, ?_⟩; (focus (first | omega | exact wordOf_len2 _ | exact stateWord_len2 _ | decide | (simp; done) | (rw [size_data]; omega)))))))), H.sel sF⟩
    · skip
      go_roundg 2
      case measure => omega
      case rel => exact ⟨2, _, rfl, rfl, congrArg Value.string ((congrArg (fun X => bs X ++ ⟨#[32]⟩ ++ bs (dec b)) HX.out).trans (spB (by simp) rfl)), Lib.hid rfl, (joinSp_le (B := 30) (by simp) (by (try simp only [List.take_succ_cons, List.take_zero, List.take_nil, List.cons_append, List.nil_append, List.append_nil]); (repeat (first | exact (fun _ h => absurd h List.not_mem_nil) | (refine List.forall_mem_cons.2 ⟨?_, ?_⟩; (focus (first | omega | exact wordOf_len2 _ | exact stateWord_len2 _ | decide | (simp; done) | (rw [size_data]; omega)))))))), H.sel sF⟩
    · skip
      go_roundg 1
      case measure => omega
      case rel => exact ⟨3, _, rfl, rfl, congrArg Value.string ((congrArg (fun X => bs X ++ ⟨#[32]⟩ ++ bs (dec c)) HX.out).trans (spB (by simp) rfl)), Lib.hid rfl, (joinSp_le (B := 30) (by simp) (by (try simp only [List.take_succ_cons, List.take_zero, List.take_nil, List.cons_append, List.nil_append, List.append_nil]); (repeat (first | exact (fun _ h => absurd h List.not_mem_nil) | (refine List.forall_mem_cons.2 ⟨?_, ?_⟩; (focus (first | omega | exact wordOf_len2 _ | exact stateWord_len2 _ | decide | (simp; done) | (rw [size_data]; omega)))))))), H.sel sF⟩
    · skip
      go_roundg 0
      case measure => omega
      case rel => exact ⟨4, _, rfl, rfl, congrArg Value.string ((congrArg (fun X => bs X ++ ⟨#[32]⟩ ++ bs (dec d)) HX.out).trans (spB (by simp) rfl)), Lib.hid rfl, (joinSp_le (B := 30) (by simp) (by (try simp only [List.take_succ_cons, List.take_zero, List.take_nil, List.cons_append, List.nil_append, List.append_nil]); (repeat (first | exact (fun _ h => absurd h List.not_mem_nil) | (refine List.forall_mem_cons.2 ⟨?_, ?_⟩; (focus (first | omega | exact wordOf_len2 _ | exact stateWord_len2 _ | decide | (simp; done) | (rw [size_data]; omega)))))))), H.sel sF⟩
    · skip
      go_ret
      exact ⟨by rw [hE.out, HX.out]; rfl, H.below⟩
set_option maxRecDepth 100000 in
set_option maxHeartbeats 8000000 in
theorem l17Text_s1y (l1 l2 : Int) (ow : ByteArray) (a b c d m1 m2 af : Int) (hz : af ≠ 0) (F : OpFacts false l1 l2 1 ow a b c d m1 m2 af) (w : World) :
    Gives Tryz.prog 41 #[encOp false l1 l2 1 ow a b c d m1 m2 af] w (.string (bs (joinSp (opWords false l1 l2 1 ow a b c d m1 m2 af)))) := by
  unfold Gives
  have H := Hs.start noRow w
  obtain ⟨f0, f1⟩ := F.af0
  have hzz : (0 : Int) < af := by omega
  obtain ⟨a0, a1'⟩ := F.a0
  obtain ⟨b0, b1'⟩ := F.b0
  obtain ⟨c0, c1'⟩ := F.c0
  obtain ⟨d0, d1'⟩ := F.d0
  have how := F.o rfl
  have hM : ∀ w, Gives Tryz.prog 45 #[.int .i64 1] w (.int .i64 4) := fun w => l17Many_s 1 w
  have hl1 := labelText_len l1 l2
  have hl2 := labelText_len m1 m2
  have hwl : (wordOf 1).size ≤ 30 := by decide +kernel
  have hda := dec_len (n := a) ⟨by omega, by omega⟩
  have hdb := dec_len (n := b) ⟨by omega, by omega⟩
  have hdc := dec_len (n := c) ⟨by omega, by omega⟩
  have hdd := dec_len (n := d) ⟨by omega, by omega⟩
  have hdaf := dec_len (n := af) ⟨by omega, by omega⟩
  have hE : Hid (opWords false l1 l2 1 ow a b c d m1 m2 af = [labelText l1 l2, (wordOf 1).data.toList] ++ [ow.data.toList] ++ [dec a, dec b, dec c, dec d] ++ [[97, 102, 116, 101, 114], labelText m1 m2, dec af]) := Lib.hid (by simp [opWords, numWords, many, hz])
  clear F
  unfold encOp at *
  go_enter Tryz.func41, Tryz.ntmps41
  go_wp2_with (first | ((first | ((with_reducible apply st_load1 H); decide +kernel; rfl; exact cF) | ((with_reducible apply st_loads H); decide +kernel; rfl; exact iF; exact zF; rfl)); clear H; intro wn H; (try simp only [splice, yG, yH, yI, yJ, yK, yL, yM, yN, yO, yP, yQ, Nat.reduceAdd, yA, yB, yC] at H); simp only [Act.put, yA, yB, yC, yD, yE, yF]) | ((first | ((with_reducible apply st_box (dst := some 1) H); exact nF; intro b1) | ((with_reducible apply st_strsum H); rfl; rfl; exact szF; kernel_rfl) | ((with_reducible apply st_bslice H); exact nsF; intro nb)); clear H; intro wn H; simp only [Act.put, yA, yB, yC, yD, yE, yF]) | ((first | (go_at_call 73; refine gvF (labelText_s _ _ _) H ?_) | (go_at_call 44; refine gvF (l17Word_s _ _) H ?_)); clear H; intro wn H))
  go_loopg [3, 5] 4 (fun n tv iv wr => ∃ (j : Nat) (X : Bs), j + n = 4 ∧ iv = .int .i64 j ∧ tv = .string (bs X) ∧ Hid (X = joinSp ([labelText l1 l2, (wordOf 1).data.toList] ++ [ow.data.toList] ++ List.take j [dec a, dec b, dec c, dec d])) ∧ X.length ≤ 2000 ∧ Hs noRow w [Hl.blk b1 26 #[.bool false, .int .i64 l1, .int .i64 l2, .int .i64 1, .string ow, .int .i64 a, .int .i64 b, .int .i64 c, .int .i64 d, .int .i64 m1, .int .i64 m2, .int .i64 af], Hl.blk nb 2 #[.int .i64 a, .int .i64 b, .int .i64 c, .int .i64 d]] wr)
  case atStart => exact ⟨0, _, rfl, rfl, congrArg Value.string (show bs (labelText l1 l2) ++ ⟨#[32]⟩ ++ wordOf 1 ++ ⟨#[32]⟩ ++ ow = _ from (congrArg (· ++ ⟨#[32]⟩ ++ ow) (sp2 _ _)).trans (spS (by simp) rfl)), Lib.hid rfl, (joinSp_le (B := 30) (by simp) (by (try simp only [List.take_succ_cons, List.take_zero, List.take_nil, List.cons_append, List.nil_append, List.append_nil]); (repeat (first | exact (fun _ h => absurd h List.not_mem_nil) | (refine List.forall_mem_cons.2 ⟨?_, ?_⟩; (focus (first | omega | exact wordOf_len2 _ | exact stateWord_len2 _ | decide | (simp; done) | (rw [size_data]; omega)))))))), H.sel sF⟩
  case round =>
    clear H
    obtain ⟨j, X, hj, rfl, rfl, HX, hXl, H⟩ := hrel
    have hjj : j = 0 ∨ j = 1 ∨ j = 2 ∨ j = 3 ∨ j = 4 := by omega
    rcases hjj with rfl | rfl | rfl | rfl | rfl
    all_goals (
      go_wp2_with (first | ((((with_reducible apply st_load1 H); decide +kernel; rfl; exact cF)); clear H; intro wn H; (try simp only [splice, yG, yH, yI, yJ, yK, yL, yM, yN, yO, yP, yQ, Nat.reduceAdd, yA, yB, yC] at H); simp only [Act.put, yA, yB, yC, yD, yE, yF]) | ((((with_reducible apply st_strsum H); rfl; rfl; exact szF; kernel_rfl)); clear H; intro wn H; simp only [Act.put, yA, yB, yC, yD, yE, yF]) | ((first | (go_at_call 62; refine gvF (l01Dec_s _ (by omega) (by omega) _) H ?_) | (go_at_call 45; refine gvF (hM _) H ?_)); clear H; intro wn H) | ((with_reducible apply wp_region_hq (id := 18) H); kernel_rfl; kernel_rfl; (iterate 1 (all_goals ((with_reducible refine' hq_step ?_ ?_ ?_); rotate_left; rfl; (focus (intro w1 H1; exact qVF)); (try simp only [yG, yH, yJ, yK]); simp only [Act.put, yA, yB, yC, yD, yE, yF]))); (all_goals ((with_reducible refine' hq_step ?_ ?_ ?_); rotate_left; rfl; (focus (intro w1 H1; exact qSF)); (try simp only [yG, yH, yJ, yK]); simp only [Act.put, yA, yB, yC, yD, yE, yF])); (iterate 2 (all_goals ((with_reducible refine' hq_step ?_ ?_ ?_); rotate_left; rfl; (focus (intro w1 H1; first | (exact qF) | (exact qVF))); (try simp only [yG, yH, yJ, yK]); simp only [Act.put, yA, yB, yC, yD, yE, yF]))); (all_goals ((with_reducible refine' hq_step ?_ ?_ ?_); rotate_left; rfl; (focus (intro w1 H1; unfold QOk; go_simp; exact q_call (labelText_s _ _ _))); (try simp only [yG, yH, yJ, yK]); simp only [Act.put, yA, yB, yC, yD, yE, yF])); (all_goals ((with_reducible refine' hq_step ?_ ?_ ?_); rotate_left; rfl; (focus (intro w1 H1; exact qSF)); (try simp only [yG, yH, yJ, yK]); simp only [Act.put, yA, yB, yC, yD, yE, yF])); (all_goals ((with_reducible refine' hq_step ?_ ?_ ?_); rotate_left; rfl; (focus (intro w1 H1; exact qSF)); (try simp only [yG, yH, yJ, yK]); simp only [Act.put, yA, yB, yC, yD, yE, yF])); (iterate 2 (all_goals ((with_reducible refine' hq_step ?_ ?_ ?_); rotate_left; rfl; (focus (intro w1 H1; first | (exact qF) | (exact qVF))); (try simp only [yG, yH, yJ, yK]); simp only [Act.put, yA, yB, yC, yD, yE, yF]))); (all_goals ((with_reducible refine' hq_step ?_ ?_ ?_); rotate_left; rfl; (focus (intro w1 H1; unfold QOk; go_simp; exact q_call (l01Dec_s _ (by omega) (by omega) _))); (try simp only [yG, yH, yJ, yK]); simp only [Act.put, yA, yB, yC, yD, yE, yF])); (all_goals ((with_reducible refine' hq_step ?_ ?_ ?_); rotate_left; rfl; (focus (intro w1 H1; exact qSF)); (try simp only [yG, yH, yJ, yK]); simp only [Act.put, yA, yB, yC, yD, yE, yF])); (iterate 1 (all_goals ((with_reducible refine' hq_step ?_ ?_ ?_); rotate_left; rfl; (focus (intro w1 H1; exact qVF)); (try simp only [yG, yH, yJ, yK]); simp only [Act.put, yA, yB, yC, yD, yE, yF]))); all_goals (refine wpQuiet_nil ?_; clear H; intro wn H)))
    )
    · skip
      go_roundg 3
      case measure => omega
      case rel => exact ⟨1, _, rfl, rfl, congrArg Value.string ((congrArg (fun X => bs X ++ ⟨#[32]⟩ ++ bs (dec a)) HX.out).trans (spB (by simp) rfl)), Lib.hid rfl, (joinSp_le (B := 30) (by simp) (by (try simp only [List.take_succ_cons, List.take_zero, List.take_nil, List.cons_append, List.nil_append, List.append_nil]); (repeat (first | exact (fun _ h => absurd h List.not_mem_nil) | (refine List.forall_mem_cons.2 ⟨?_, ?_⟩; (focus (first | omega | exact wordOf_len2 _ | exact stateWord_len2 _ | decide | (simp; done) | (rw [size_data]; omega)))))))), H.sel sF⟩
    · skip
      go_roundg 2
      case measure => omega
      case rel => exact ⟨2, _, rfl, rfl, congrArg Value.string ((congrArg (fun X => bs X ++ ⟨#[32]⟩ ++ bs (dec b)) HX.out).trans (spB (by simp) rfl)), Lib.hid rfl, (joinSp_le (B := 30) (by simp) (by (try simp only [List.take_succ_cons, List.take_zero, List.take_nil, List.cons_append, List.nil_append, List.append_nil]); (repeat (first | exact (fun _ h => absurd h List.not_mem_nil) | (refine List.forall_mem_cons.2 ⟨?_, ?_⟩; (focus (first | omega | exact wordOf_len2 _ | exact stateWord_len2 _ | decide | (simp; done) | (rw [size_data]; omega)))))))), H.sel sF⟩
    · skip
      go_roundg 1
      case measure => omega
      case rel => exact ⟨3, _, rfl, rfl, congrArg Value.string ((congrArg (fun X => bs X ++ ⟨#[32]⟩ ++ bs (dec c)) HX.out).trans (spB (by simp) rfl)), Lib.hid rfl, (joinSp_le (B := 30) (by simp) (by (try simp only [List.take_succ_cons, List.take_zero, List.take_nil, List.cons_append, List.nil_append, List.append_nil]); (repeat (first | exact (fun _ h => absurd h List.not_mem_nil) | (refine List.forall_mem_cons.2 ⟨?_, ?_⟩; (focus (first | omega | exact wordOf_len2 _ | exact stateWord_len2 _ | decide | (simp; done) | (rw [size_data]; omega)))))))), H.sel sF⟩
    · skip
      go_roundg 0
      case measure => omega
      case rel => exact ⟨4, _, rfl, rfl, congrArg Value.string ((congrArg (fun X => bs X ++ ⟨#[32]⟩ ++ bs (dec d)) HX.out).trans (spB (by simp) rfl)), Lib.hid rfl, (joinSp_le (B := 30) (by simp) (by (try simp only [List.take_succ_cons, List.take_zero, List.take_nil, List.cons_append, List.nil_append, List.append_nil]); (repeat (first | exact (fun _ h => absurd h List.not_mem_nil) | (refine List.forall_mem_cons.2 ⟨?_, ?_⟩; (focus (first | omega | exact wordOf_len2 _ | exact stateWord_len2 _ | decide | (simp; done) | (rw [size_data]; omega)))))))), H.sel sF⟩
    · skip
      go_ret
      refine ⟨congrArg Ending.returned (congrArg Value.string ?_), H.below⟩
      rw [hE.out]
      exact (congrArg (fun X => bs X ++ ⟨#[32, 97, 102, 116, 101, 114, 32]⟩ ++ bs (labelText m1 m2) ++ ⟨#[32]⟩ ++ bs (dec af)) HX.out).trans (spT (by simp) rfl)
set_option maxRecDepth 100000 in
set_option maxHeartbeats 8000000 in
theorem l17Text_s2 (l1 l2 : Int) (ow : ByteArray) (a b c d m1 m2 af : Int) (F : OpFacts false l1 l2 2 ow a b c d m1 m2 af) (w : World) :
    Gives Tryz.prog 41 #[encOp false l1 l2 2 ow a b c d m1 m2 af] w (.string (bs (joinSp (opWords false l1 l2 2 ow a b c d m1 m2 af)))) := by
  unfold Gives
  have H := Hs.start noRow w
  have haf : af = 0 := F.u (by decide)
  subst haf
  obtain ⟨a0, a1'⟩ := F.a0
  obtain ⟨b0, b1'⟩ := F.b0
  obtain ⟨c0, c1'⟩ := F.c0
  obtain ⟨d0, d1'⟩ := F.d0
  have hM : ∀ w, Gives Tryz.prog 45 #[.int .i64 2] w (.int .i64 1) := fun w => l17Many_s 2 w
  have hl1 := labelText_len l1 l2
  have hl2 := labelText_len m1 m2
  have hwl : (wordOf 2).size ≤ 30 := by decide +kernel
  have hda := dec_len (n := a) ⟨by omega, by omega⟩
  have hE : Hid (opWords false l1 l2 2 ow a b c d m1 m2 0 = [labelText l1 l2, (wordOf 2).data.toList] ++ ([] : List Bs) ++ [dec a] ++ ([] : List Bs)) := Lib.hid (by simp [opWords, numWords, many])
  clear F
  unfold encOp at *
  go_enter Tryz.func41, Tryz.ntmps41
  go_wp2_with (first | ((first | ((with_reducible apply st_load1 H); decide +kernel; rfl; exact cF) | ((with_reducible apply st_loads H); decide +kernel; rfl; exact iF; exact zF; rfl)); clear H; intro wn H; (try simp only [splice, yG, yH, yI, yJ, yK, yL, yM, yN, yO, yP, yQ, Nat.reduceAdd, yA, yB, yC] at H); simp only [Act.put, yA, yB, yC, yD, yE, yF]) | ((first | ((with_reducible apply st_box (dst := some 1) H); exact nF; intro b1) | ((with_reducible apply st_strsum H); rfl; rfl; exact szF; kernel_rfl) | ((with_reducible apply st_bslice H); exact nsF; intro nb)); clear H; intro wn H; simp only [Act.put, yA, yB, yC, yD, yE, yF]) | ((first | (go_at_call 73; refine gvF (labelText_s _ _ _) H ?_) | (go_at_call 44; refine gvF (l17Word_s _ _) H ?_)); clear H; intro wn H))
  go_loopg [3, 5] 1 (fun n tv iv wr => ∃ (j : Nat) (X : Bs), j + n = 1 ∧ iv = .int .i64 j ∧ tv = .string (bs X) ∧ Hid (X = joinSp ([labelText l1 l2, (wordOf 2).data.toList] ++ ([] : List Bs) ++ List.take j [dec a])) ∧ X.length ≤ 2000 ∧ Hs noRow w [Hl.blk b1 26 #[.bool false, .int .i64 l1, .int .i64 l2, .int .i64 2, .string ow, .int .i64 a, .int .i64 b, .int .i64 c, .int .i64 d, .int .i64 m1, .int .i64 m2, .int .i64 0], Hl.blk nb 2 #[.int .i64 a, .int .i64 b, .int .i64 c, .int .i64 d]] wr)
  case atStart => exact ⟨0, _, rfl, rfl, congrArg Value.string (show bs (labelText l1 l2) ++ ⟨#[32]⟩ ++ wordOf 2 = _ from sp2 _ _), Lib.hid rfl, (joinSp_le (B := 30) (by simp) (by (try simp only [List.take_succ_cons, List.take_zero, List.take_nil, List.cons_append, List.nil_append, List.append_nil]); (repeat (first | exact (fun _ h => absurd h List.not_mem_nil) | (refine List.forall_mem_cons.2 ⟨?_, ?_⟩; (focus (first | omega | exact wordOf_len2 _ | exact stateWord_len2 _ | decide | (simp; done) | (rw [size_data]; omega)))))))), H.sel sF⟩
  case round =>
    clear H
    obtain ⟨j, X, hj, rfl, rfl, HX, hXl, H⟩ := hrel
    have hjj : j = 0 ∨ j = 1 := by omega
    rcases hjj with rfl | rfl
    all_goals (
      go_wp2_with (first | ((((with_reducible apply st_load1 H); decide +kernel; rfl; exact cF)); clear H; intro wn H; (try simp only [splice, yG, yH, yI, yJ, yK, yL, yM, yN, yO, yP, yQ, Nat.reduceAdd, yA, yB, yC] at H); simp only [Act.put, yA, yB, yC, yD, yE, yF]) | ((((with_reducible apply st_strsum H); rfl; rfl; exact szF; kernel_rfl)); clear H; intro wn H; simp only [Act.put, yA, yB, yC, yD, yE, yF]) | ((first | (go_at_call 62; refine gvF (l01Dec_s _ (by omega) (by omega) _) H ?_) | (go_at_call 45; refine gvF (hM _) H ?_)); clear H; intro wn H))
    )
    · skip
      go_roundg 0
      case measure => omega
      case rel => exact ⟨1, _, rfl, rfl, congrArg Value.string ((congrArg (fun X => bs X ++ ⟨#[32]⟩ ++ bs (dec a)) HX.out).trans (spB (by simp) rfl)), Lib.hid rfl, (joinSp_le (B := 30) (by simp) (by (try simp only [List.take_succ_cons, List.take_zero, List.take_nil, List.cons_append, List.nil_append, List.append_nil]); (repeat (first | exact (fun _ h => absurd h List.not_mem_nil) | (refine List.forall_mem_cons.2 ⟨?_, ?_⟩; (focus (first | omega | exact wordOf_len2 _ | exact stateWord_len2 _ | decide | (simp; done) | (rw [size_data]; omega)))))))), H.sel sF⟩
    · skip
      go_ret
      exact ⟨by rw [hE.out, HX.out]; rfl, H.below⟩
set_option maxRecDepth 100000 in
set_option maxHeartbeats 8000000 in
theorem l17Text_s8 (l1 l2 : Int) (ow : ByteArray) (a b c d m1 m2 af : Int) (F : OpFacts false l1 l2 8 ow a b c d m1 m2 af) (w : World) :
    Gives Tryz.prog 41 #[encOp false l1 l2 8 ow a b c d m1 m2 af] w (.string (bs (joinSp (opWords false l1 l2 8 ow a b c d m1 m2 af)))) := by
  unfold Gives
  have H := Hs.start noRow w
  have haf : af = 0 := F.u (by decide)
  subst haf
  obtain ⟨a0, a1'⟩ := F.a0
  obtain ⟨b0, b1'⟩ := F.b0
  obtain ⟨c0, c1'⟩ := F.c0
  obtain ⟨d0, d1'⟩ := F.d0
  have hM : ∀ w, Gives Tryz.prog 45 #[.int .i64 8] w (.int .i64 0) := fun w => l17Many_s 8 w
  have hl1 := labelText_len l1 l2
  have hl2 := labelText_len m1 m2
  have hwl : (wordOf 8).size ≤ 30 := by decide +kernel
  have hE : Hid (opWords false l1 l2 8 ow a b c d m1 m2 0 = [labelText l1 l2, (wordOf 8).data.toList] ++ ([] : List Bs) ++ ([] : List Bs) ++ ([] : List Bs)) := Lib.hid (by simp [opWords, numWords, many])
  clear F
  unfold encOp at *
  go_enter Tryz.func41, Tryz.ntmps41
  go_wp2_with (first | ((first | ((with_reducible apply st_load1 H); decide +kernel; rfl; exact cF) | ((with_reducible apply st_loads H); decide +kernel; rfl; exact iF; exact zF; rfl)); clear H; intro wn H; (try simp only [splice, yG, yH, yI, yJ, yK, yL, yM, yN, yO, yP, yQ, Nat.reduceAdd, yA, yB, yC] at H); simp only [Act.put, yA, yB, yC, yD, yE, yF]) | ((first | ((with_reducible apply st_box (dst := some 1) H); exact nF; intro b1) | ((with_reducible apply st_strsum H); rfl; rfl; exact szF; kernel_rfl) | ((with_reducible apply st_bslice H); exact nsF; intro nb)); clear H; intro wn H; simp only [Act.put, yA, yB, yC, yD, yE, yF]) | ((first | (go_at_call 73; refine gvF (labelText_s _ _ _) H ?_) | (go_at_call 44; refine gvF (l17Word_s _ _) H ?_)); clear H; intro wn H))
  go_loopg [3, 5] 0 (fun n tv iv wr => ∃ (j : Nat) (X : Bs), j + n = 0 ∧ iv = .int .i64 j ∧ tv = .string (bs X) ∧ Hid (X = joinSp ([labelText l1 l2, (wordOf 8).data.toList] ++ ([] : List Bs) ++ List.take j ([] : List Bs))) ∧ X.length ≤ 2000 ∧ Hs noRow w [Hl.blk b1 26 #[.bool false, .int .i64 l1, .int .i64 l2, .int .i64 8, .string ow, .int .i64 a, .int .i64 b, .int .i64 c, .int .i64 d, .int .i64 m1, .int .i64 m2, .int .i64 0], Hl.blk nb 2 #[.int .i64 a, .int .i64 b, .int .i64 c, .int .i64 d]] wr)
  case atStart => exact ⟨0, _, rfl, rfl, congrArg Value.string (show bs (labelText l1 l2) ++ ⟨#[32]⟩ ++ wordOf 8 = _ from sp2 _ _), Lib.hid rfl, (joinSp_le (B := 30) (by simp) (by (try simp only [List.take_succ_cons, List.take_zero, List.take_nil, List.cons_append, List.nil_append, List.append_nil]); (repeat (first | exact (fun _ h => absurd h List.not_mem_nil) | (refine List.forall_mem_cons.2 ⟨?_, ?_⟩; (focus (first | omega | exact wordOf_len2 _ | exact stateWord_len2 _ | decide | (simp; done) | (rw [size_data]; omega)))))))), H.sel sF⟩
  case round =>
    clear H
    obtain ⟨j, X, hj, rfl, rfl, HX, hXl, H⟩ := hrel
    have hjj : j = 0 := by omega
    subst hjj
    go_wp2_with (first | ((((with_reducible apply st_load1 H); decide +kernel; rfl; exact cF)); clear H; intro wn H; (try simp only [splice, yG, yH, yI, yJ, yK, yL, yM, yN, yO, yP, yQ, Nat.reduceAdd, yA, yB, yC] at H); simp only [Act.put, yA, yB, yC, yD, yE, yF]) | (((go_at_call 45; refine gvF (hM _) H ?_)); clear H; intro wn H))
    skip
    go_ret
    exact ⟨by rw [hE.out, HX.out]; rfl, H.below⟩
set_option maxRecDepth 100000 in
set_option maxHeartbeats 8000000 in
theorem l17Text_s14 (l1 l2 : Int) (ow : ByteArray) (a b c d m1 m2 af : Int) (F : OpFacts true l1 l2 14 ow a b c d m1 m2 af) (w : World) :
    Gives Tryz.prog 41 #[encOp true l1 l2 14 ow a b c d m1 m2 af] w (.string (bs (joinSp (opWords true l1 l2 14 ow a b c d m1 m2 af)))) := by
  unfold Gives
  have H := Hs.start noRow w
  have haf : af = 0 := F.u (by decide)
  subst haf
  obtain ⟨a0, a1'⟩ := F.a0
  obtain ⟨b0, b1'⟩ := F.b0
  obtain ⟨c0, c1'⟩ := F.c0
  obtain ⟨d0, d1'⟩ := F.d0
  have hM : ∀ w, Gives Tryz.prog 45 #[.int .i64 14] w (.int .i64 3) := fun w => l17Many_s 14 w
  have hl1 := labelText_len l1 l2
  have hl2 := labelText_len m1 m2
  have hwl : (wordOf 14).size ≤ 30 := by decide +kernel
  have hda := dec_len (n := a) ⟨by omega, by omega⟩
  have hdb := dec_len (n := b) ⟨by omega, by omega⟩
  have hdc := dec_len (n := c) ⟨by omega, by omega⟩
  have hE : Hid (opWords true l1 l2 14 ow a b c d m1 m2 0 = [[115, 121, 115], (wordOf 14).data.toList] ++ ([] : List Bs) ++ [dec a, dec b, dec c] ++ ([] : List Bs)) := Lib.hid (by simp [opWords, numWords, many])
  clear F
  unfold encOp at *
  go_enter Tryz.func41, Tryz.ntmps41
  go_wp2_with (first | ((first | ((with_reducible apply st_load1 H); decide +kernel; rfl; exact cF) | ((with_reducible apply st_loads H); decide +kernel; rfl; exact iF; exact zF; rfl)); clear H; intro wn H; (try simp only [splice, yG, yH, yI, yJ, yK, yL, yM, yN, yO, yP, yQ, Nat.reduceAdd, yA, yB, yC] at H); simp only [Act.put, yA, yB, yC, yD, yE, yF]) | ((first | ((with_reducible apply st_box (dst := some 1) H); exact nF; intro b1) | ((with_reducible apply st_strsum H); rfl; rfl; exact szF; kernel_rfl) | ((with_reducible apply st_bslice H); exact nsF; intro nb)); clear H; intro wn H; simp only [Act.put, yA, yB, yC, yD, yE, yF]) | ((first | (go_at_call 73; refine gvF (labelText_s _ _ _) H ?_) | (go_at_call 44; refine gvF (l17Word_s _ _) H ?_)); clear H; intro wn H))
  go_loopg [3, 5] 3 (fun n tv iv wr => ∃ (j : Nat) (X : Bs), j + n = 3 ∧ iv = .int .i64 j ∧ tv = .string (bs X) ∧ Hid (X = joinSp ([[115, 121, 115], (wordOf 14).data.toList] ++ ([] : List Bs) ++ List.take j [dec a, dec b, dec c])) ∧ X.length ≤ 2000 ∧ Hs noRow w [Hl.blk b1 26 #[.bool true, .int .i64 l1, .int .i64 l2, .int .i64 14, .string ow, .int .i64 a, .int .i64 b, .int .i64 c, .int .i64 d, .int .i64 m1, .int .i64 m2, .int .i64 0], Hl.blk nb 2 #[.int .i64 a, .int .i64 b, .int .i64 c, .int .i64 d]] wr)
  case atStart => exact ⟨0, _, rfl, rfl, congrArg Value.string (show bs [115, 121, 115] ++ ⟨#[32]⟩ ++ wordOf 14 = _ from sp2 _ _), Lib.hid rfl, (joinSp_le (B := 30) (by simp) (by (try simp only [List.take_succ_cons, List.take_zero, List.take_nil, List.cons_append, List.nil_append, List.append_nil]); (repeat (first | exact (fun _ h => absurd h List.not_mem_nil) | (refine List.forall_mem_cons.2 ⟨?_, ?_⟩; (focus (first | omega | exact wordOf_len2 _ | exact stateWord_len2 _ | decide | (simp; done) | (rw [size_data]; omega)))))))), H.sel sF⟩
  case round =>
    clear H
    obtain ⟨j, X, hj, rfl, rfl, HX, hXl, H⟩ := hrel
    have hjj : j = 0 ∨ j = 1 ∨ j = 2 ∨ j = 3 := by omega
    rcases hjj with rfl | rfl | rfl | rfl
    all_goals (
      go_wp2_with (first | ((((with_reducible apply st_load1 H); decide +kernel; rfl; exact cF)); clear H; intro wn H; (try simp only [splice, yG, yH, yI, yJ, yK, yL, yM, yN, yO, yP, yQ, Nat.reduceAdd, yA, yB, yC] at H); simp only [Act.put, yA, yB, yC, yD, yE, yF]) | ((((with_reducible apply st_strsum H); rfl; rfl; exact szF; kernel_rfl)); clear H; intro wn H; simp only [Act.put, yA, yB, yC, yD, yE, yF]) | ((first | (go_at_call 62; refine gvF (l01Dec_s _ (by omega) (by omega) _) H ?_) | (go_at_call 45; refine gvF (hM _) H ?_)); clear H; intro wn H))
    )
    · skip
      go_roundg 2
      case measure => omega
      case rel => exact ⟨1, _, rfl, rfl, congrArg Value.string ((congrArg (fun X => bs X ++ ⟨#[32]⟩ ++ bs (dec a)) HX.out).trans (spB (by simp) rfl)), Lib.hid rfl, (joinSp_le (B := 30) (by simp) (by (try simp only [List.take_succ_cons, List.take_zero, List.take_nil, List.cons_append, List.nil_append, List.append_nil]); (repeat (first | exact (fun _ h => absurd h List.not_mem_nil) | (refine List.forall_mem_cons.2 ⟨?_, ?_⟩; (focus (first | omega | exact wordOf_len2 _ | exact stateWord_len2 _ | decide | (simp; done) | (rw [size_data]; omega)))))))), H.sel sF⟩
    · skip
      go_roundg 1
      case measure => omega
      case rel => exact ⟨2, _, rfl, rfl, congrArg Value.string ((congrArg (fun X => bs X ++ ⟨#[32]⟩ ++ bs (dec b)) HX.out).trans (spB (by simp) rfl)), Lib.hid rfl, (joinSp_le (B := 30) (by simp) (by (try simp only [List.take_succ_cons, List.take_zero, List.take_nil, List.cons_append, List.nil_append, List.append_nil]); (repeat (first | exact (fun _ h => absurd h List.not_mem_nil) | (refine List.forall_mem_cons.2 ⟨?_, ?_⟩; (focus (first | omega | exact wordOf_len2 _ | exact stateWord_len2 _ | decide | (simp; done) | (rw [size_data]; omega)))))))), H.sel sF⟩
    · skip
      go_roundg 0
      case measure => omega
      case rel => exact ⟨3, _, rfl, rfl, congrArg Value.string ((congrArg (fun X => bs X ++ ⟨#[32]⟩ ++ bs (dec c)) HX.out).trans (spB (by simp) rfl)), Lib.hid rfl, (joinSp_le (B := 30) (by simp) (by (try simp only [List.take_succ_cons, List.take_zero, List.take_nil, List.cons_append, List.nil_append, List.append_nil]); (repeat (first | exact (fun _ h => absurd h List.not_mem_nil) | (refine List.forall_mem_cons.2 ⟨?_, ?_⟩; (focus (first | omega | exact wordOf_len2 _ | exact stateWord_len2 _ | decide | (simp; done) | (rw [size_data]; omega)))))))), H.sel sF⟩
    · skip
      go_ret
      exact ⟨by rw [hE.out, HX.out]; rfl, H.below⟩
end Go.Proofs.YtfblolkkajppcaaGreatDoor
