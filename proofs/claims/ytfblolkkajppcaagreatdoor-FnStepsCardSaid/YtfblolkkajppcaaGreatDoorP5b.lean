/-
  OpText of the reference, kind by kind (printed by a program).
-/
import Derived.Test.YtfblolkkajppcaaGreatDoorP3
set_option linter.unusedSimpArgs false
set_option linter.unusedVariables false
namespace Go.Proofs.YtfblolkkajppcaaGreatDoor
open Go.RowKit M
set_option maxRecDepth 100000 in
set_option maxHeartbeats 8000000 in
theorem l17Text_s3 (l1 l2 : Int) (ow : ByteArray) (a b c d m1 m2 af : Int) (F : OpFacts false l1 l2 3 ow a b c d m1 m2 af) (w : World) :
    Gives Tryz.prog 41 #[encOp false l1 l2 3 ow a b c d m1 m2 af] w (.string (bs (joinSp (opWords false l1 l2 3 ow a b c d m1 m2 af)))) := by
  unfold Gives
  have H := Hs.start noRow w
  have haf : af = 0 := F.u (by decide)
  subst haf
  obtain ⟨a0, a1'⟩ := F.a0
  obtain ⟨b0, b1'⟩ := F.b0
  obtain ⟨c0, c1'⟩ := F.c0
  obtain ⟨d0, d1'⟩ := F.d0
  have hM : ∀ w, Gives Tryz.prog 45 #[.int .i64 3] w (.int .i64 1) := fun w => l17Many_s 3 w
  have hl1 := labelText_len l1 l2
  have hl2 := labelText_len m1 m2
  have hwl : (wordOf 3).size ≤ 30 := by decide +kernel
  have hda := dec_len (n := a) ⟨by omega, by omega⟩
  have hE : Hid (opWords false l1 l2 3 ow a b c d m1 m2 0 = [labelText l1 l2, (wordOf 3).data.toList] ++ ([] : List Bs) ++ [dec a] ++ ([] : List Bs)) := Lib.hid (by simp [opWords, numWords, many])
  clear F
  unfold encOp at *
  go_enter Tryz.func41, Tryz.ntmps41
  go_wp2_with (first | ((first | ((with_reducible apply st_load1 H); decide +kernel; rfl; exact cF) | ((with_reducible apply st_loads H); decide +kernel; rfl; exact iF; exact zF; rfl)); clear H; intro wn H; (try simp only [splice, yG, yH, yI, yJ, yK, yL, yM, yN, yO, yP, yQ, Nat.reduceAdd, yA, yB, yC] at H); simp only [Act.put, yA, yB, yC, yD, yE, yF]) | ((first | ((with_reducible apply st_box (dst := some 1) H); exact nF; intro b1) | ((with_reducible apply st_strsum H); rfl; rfl; exact szF; kernel_rfl) | ((with_reducible apply st_bslice H); exact nsF; intro nb)); clear H; intro wn H; simp only [Act.put, yA, yB, yC, yD, yE, yF]) | ((first | (go_at_call 73; refine gvF (labelText_s _ _ _) H ?_) | (go_at_call 44; refine gvF (l17Word_s _ _) H ?_)); clear H; intro wn H))
  go_loopg [3, 5] 1 (fun n tv iv wr => ∃ (j : Nat) (X : Bs), j + n = 1 ∧ iv = .int .i64 j ∧ tv = .string (bs X) ∧ Hid (X = joinSp ([labelText l1 l2, (wordOf 3).data.toList] ++ ([] : List Bs) ++ List.take j [dec a])) ∧ X.length ≤ 2000 ∧ Hs noRow w [Hl.blk b1 26 #[.bool false, .int .i64 l1, .int .i64 l2, .int .i64 3, .string ow, .int .i64 a, .int .i64 b, .int .i64 c, .int .i64 d, .int .i64 m1, .int .i64 m2, .int .i64 0], Hl.blk nb 2 #[.int .i64 a, .int .i64 b, .int .i64 c, .int .i64 d]] wr)
  case atStart => exact ⟨0, _, rfl, rfl, congrArg Value.string (show bs (labelText l1 l2) ++ ⟨#[32]⟩ ++ wordOf 3 = _ from sp2 _ _), Lib.hid rfl, (joinSp_le (B := 30) (by simp) (by (try simp only [List.take_succ_cons, List.take_zero, List.take_nil, List.cons_append, List.nil_append, List.append_nil]); (repeat (first | exact (fun _ h => absurd h List.not_mem_nil) | (refine List.forall_mem_cons.2 ⟨?_, ?_⟩; (focus (first | omega | exact wordOf_len2 _ | exact stateWord_len2 _ | decide | (simp; done) | (rw [size_data]; omega)))))))), H.sel sF⟩
  case round =>
    clear H
    obtain ⟨j, X, hj, rfl, rfl, HX, hXl, H⟩ := hrel
    have hjj : j = 0 ∨ j = 1 := by omega
    rcases hjj with rfl | rfl
    all_goals (
      go_wp2_with (first | ((((with_reducible apply st_load1 H); decide +kernel; rfl; exact cF)); clear H; intro wn H; (try simp only [splice, yG, yH, yI, yJ, yK, yL, yM, yN, yO, yP, yQ, Nat.reduceAdd, yA, yB, yC] at H); simp only [Act.put, yA, yB, yC, yD, yE, yF]) | ((((with_reducible apply st_strsum H); rfl; rfl; exact szF; kernel_rfl)); clear H; intro wn H; simp only [Act.put, yA, yB, yC, yD, yE, yF]) | ((first | (go_at_call 62; refine gvF (l01Dec_s _ (by omega) (by omega) _) H ?_) | (go_at_call 45; refine gvF (hM _) H ?_)); clear H; intro wn H))
    )
    · skip
      go_roundg 0
      case measure => omega
      case rel => exact ⟨1, _, rfl, rfl, congrArg Value.string ((congrArg (fun X => bs X ++ ⟨#[32]⟩ ++ bs (dec a)) HX.out).trans (spB (by simp) rfl)), Lib.hid rfl, (joinSp_le (B := 30) (by simp) (by (try simp only [List.take_succ_cons, List.take_zero, List.take_nil, List.cons_append, List.nil_append, List.append_nil]); (repeat (first | exact (fun _ h => absurd h List.not_mem_nil) | (refine List.forall_mem_cons.2 ⟨?_, ?_⟩; (focus (first | omega | exact wordOf_len2 _ | exact stateWord_len2 _ | decide | (simp; done) | (rw [size_data]; omega)))))))), H.sel sF⟩
    · skip
      go_ret
      exact ⟨by rw [hE.out, HX.out]; rfl, H.below⟩
set_option maxRecDepth 100000 in
set_option maxHeartbeats 8000000 in
theorem l17Text_s4 (l1 l2 : Int) (ow : ByteArray) (a b c d m1 m2 af : Int) (F : OpFacts false l1 l2 4 ow a b c d m1 m2 af) (w : World) :
    Gives Tryz.prog 41 #[encOp false l1 l2 4 ow a b c d m1 m2 af] w (.string (bs (joinSp (opWords false l1 l2 4 ow a b c d m1 m2 af)))) := by
  unfold Gives
  have H := Hs.start noRow w
  have haf : af = 0 := F.u (by decide)
  subst haf
  obtain ⟨a0, a1'⟩ := F.a0
  obtain ⟨b0, b1'⟩ := F.b0
  obtain ⟨c0, c1'⟩ := F.c0
  obtain ⟨d0, d1'⟩ := F.d0
  have hM : ∀ w, Gives Tryz.prog 45 #[.int .i64 4] w (.int .i64 1) := fun w => l17Many_s 4 w
  have hl1 := labelText_len l1 l2
  have hl2 := labelText_len m1 m2
  have hwl : (wordOf 4).size ≤ 30 := by decide +kernel
  have hda := dec_len (n := a) ⟨by omega, by omega⟩
  have hE : Hid (opWords false l1 l2 4 ow a b c d m1 m2 0 = [labelText l1 l2, (wordOf 4).data.toList] ++ ([] : List Bs) ++ [dec a] ++ ([] : List Bs)) := Lib.hid (by simp [opWords, numWords, many])
  clear F
  unfold encOp at *
  go_enter Tryz.func41, Tryz.ntmps41
  go_wp2_with (first | ((first | ((with_reducible apply st_load1 H); decide +kernel; rfl; exact cF) | ((with_reducible apply st_loads H); decide +kernel; rfl; exact iF; exact zF; rfl)); clear H; intro wn H; (try simp only [splice, yG, yH, yI, yJ, yK, yL, yM, yN, yO, yP, yQ, Nat.reduceAdd, yA, yB, yC] at H); simp only [Act.put, yA, yB, yC, yD, yE, yF]) | ((first | ((with_reducible apply st_box (dst := some 1) H); exact nF; intro b1) | ((with_reducible apply st_strsum H); rfl; rfl; exact szF; kernel_rfl) | ((with_reducible apply st_bslice H); exact nsF; intro nb)); clear H; intro wn H; simp only [Act.put, yA, yB, yC, yD, yE, yF]) | ((first | (go_at_call 73; refine gvF (labelText_s _ _ _) H ?_) | (go_at_call 44; refine gvF (l17Word_s _ _) H ?_)); clear H; intro wn H))
  go_loopg [3, 5] 1 (fun n tv iv wr => ∃ (j : Nat) (X : Bs), j + n = 1 ∧ iv = .int .i64 j ∧ tv = .string (bs X) ∧ Hid (X = joinSp ([labelText l1 l2, (wordOf 4).data.toList] ++ ([] : List Bs) ++ List.take j [dec a])) ∧ X.length ≤ 2000 ∧ Hs noRow w [Hl.blk b1 26 #[.bool false, .int .i64 l1, .int .i64 l2, .int .i64 4, .string ow, .int .i64 a, .int .i64 b, .int .i64 c, .int .i64 d, .int .i64 m1, .int .i64 m2, .int .i64 0], Hl.blk nb 2 #[.int .i64 a, .int .i64 b, .int .i64 c, .int .i64 d]] wr)
  case atStart => exact ⟨0, _, rfl, rfl, congrArg Value.string (show bs (labelText l1 l2) ++ ⟨#[32]⟩ ++ wordOf 4 = _ from sp2 _ _), Lib.hid rfl, (joinSp_le (B := 30) (by simp) (by (try simp only [List.take_succ_cons, List.take_zero, List.take_nil, List.cons_append, List.nil_append, List.append_nil]); (repeat (first | exact (fun _ h => absurd h List.not_mem_nil) | (refine List.forall_mem_cons.2 ⟨?_, ?_⟩; (focus (first | omega | exact wordOf_len2 _ | exact stateWord_len2 _ | decide | (simp; done) | (rw [size_data]; omega)))))))), H.sel sF⟩
  case round =>
    clear H
    obtain ⟨j, X, hj, rfl, rfl, HX, hXl, H⟩ := hrel
    have hjj : j = 0 ∨ j = 1 := by omega
    rcases hjj with rfl | rfl
    all_goals (
      go_wp2_with (first | ((((with_reducible apply st_load1 H); decide +kernel; rfl; exact cF)); clear H; intro wn H; (try simp only [splice, yG, yH, yI, yJ, yK, yL, yM, yN, yO, yP, yQ, Nat.reduceAdd, yA, yB, yC] at H); simp only [Act.put, yA, yB, yC, yD, yE, yF]) | ((((with_reducible apply st_strsum H); rfl; rfl; exact szF; kernel_rfl)); clear H; intro wn H; simp only [Act.put, yA, yB, yC, yD, yE, yF]) | ((first | (go_at_call 62; refine gvF (l01Dec_s _ (by omega) (by omega) _) H ?_) | (go_at_call 45; refine gvF (hM _) H ?_)); clear H; intro wn H))
    )
    · skip
      go_roundg 0
      case measure => omega
      case rel => exact ⟨1, _, rfl, rfl, congrArg Value.string ((congrArg (fun X => bs X ++ ⟨#[32]⟩ ++ bs (dec a)) HX.out).trans (spB (by simp) rfl)), Lib.hid rfl, (joinSp_le (B := 30) (by simp) (by (try simp only [List.take_succ_cons, List.take_zero, List.take_nil, List.cons_append, List.nil_append, List.append_nil]); (repeat (first | exact (fun _ h => absurd h List.not_mem_nil) | (refine List.forall_mem_cons.2 ⟨?_, ?_⟩; (focus (first | omega | exact wordOf_len2 _ | exact stateWord_len2 _ | decide | (simp; done) | (rw [size_data]; omega)))))))), H.sel sF⟩
    · skip
      go_ret
      exact ⟨by rw [hE.out, HX.out]; rfl, H.below⟩
set_option maxRecDepth 100000 in
set_option maxHeartbeats 8000000 in
theorem l17Text_s5 (l1 l2 : Int) (ow : ByteArray) (a b c d m1 m2 af : Int) (F : OpFacts false l1 l2 5 ow a b c d m1 m2 af) (w : World) :
    Gives Tryz.prog 41 #[encOp false l1 l2 5 ow a b c d m1 m2 af] w (.string (bs (joinSp (opWords false l1 l2 5 ow a b c d m1 m2 af)))) := by
  unfold Gives
  have H := Hs.start noRow w
  have haf : af = 0 := F.u (by decide)
  subst haf
  obtain ⟨a0, a1'⟩ := F.a0
  obtain ⟨b0, b1'⟩ := F.b0
  obtain ⟨c0, c1'⟩ := F.c0
  obtain ⟨d0, d1'⟩ := F.d0
  have hM : ∀ w, Gives Tryz.prog 45 #[.int .i64 5] w (.int .i64 1) := fun w => l17Many_s 5 w
  have hl1 := labelText_len l1 l2
  have hl2 := labelText_len m1 m2
  have hwl : (wordOf 5).size ≤ 30 := by decide +kernel
  have hda := dec_len (n := a) ⟨by omega, by omega⟩
  have hE : Hid (opWords false l1 l2 5 ow a b c d m1 m2 0 = [labelText l1 l2, (wordOf 5).data.toList] ++ ([] : List Bs) ++ [dec a] ++ ([] : List Bs)) := Lib.hid (by simp [opWords, numWords, many])
  clear F
  unfold encOp at *
  go_enter Tryz.func41, Tryz.ntmps41
  go_wp2_with (first | ((first | ((with_reducible apply st_load1 H); decide +kernel; rfl; exact cF) | ((with_reducible apply st_loads H); decide +kernel; rfl; exact iF; exact zF; rfl)); clear H; intro wn H; (try simp only [splice, yG, yH, yI, yJ, yK, yL, yM, yN, yO, yP, yQ, Nat.reduceAdd, yA, yB, yC] at H); simp only [Act.put, yA, yB, yC, yD, yE, yF]) | ((first | ((with_reducible apply st_box (dst := some 1) H); exact nF; intro b1) | ((with_reducible apply st_strsum H); rfl; rfl; exact szF; kernel_rfl) | ((with_reducible apply st_bslice H); exact nsF; intro nb)); clear H; intro wn H; simp only [Act.put, yA, yB, yC, yD, yE, yF]) | ((first | (go_at_call 73; refine gvF (labelText_s _ _ _) H ?_) | (go_at_call 44; refine gvF (l17Word_s _ _) H ?_)); clear H; intro wn H))
  go_loopg [3, 5] 1 (fun n tv iv wr => ∃ (j : Nat) (X : Bs), j + n = 1 ∧ iv = .int .i64 j ∧ tv = .string (bs X) ∧ Hid (X = joinSp ([labelText l1 l2, (wordOf 5).data.toList] ++ ([] : List Bs) ++ List.take j [dec a])) ∧ X.length ≤ 2000 ∧ Hs noRow w [Hl.blk b1 26 #[.bool false, .int .i64 l1, .int .i64 l2, .int .i64 5, .string ow, .int .i64 a, .int .i64 b, .int .i64 c, .int .i64 d, .int .i64 m1, .int .i64 m2, .int .i64 0], Hl.blk nb 2 #[.int .i64 a, .int .i64 b, .int .i64 c, .int .i64 d]] wr)
  case atStart => exact ⟨0, _, rfl, rfl, congrArg Value.string (show bs (labelText l1 l2) ++ ⟨#[32]⟩ ++ wordOf 5 = _ from sp2 _ _), Lib.hid rfl, (joinSp_le (B := 30) (by simp) (by (try simp only [List.take_succ_cons, List.take_zero, List.take_nil, List.cons_append, List.nil_append, List.append_nil]); (repeat (first | exact (fun _ h => absurd h List.not_mem_nil) | (refine List.forall_mem_cons.2 ⟨?_, ?_⟩; (focus (first | omega | exact wordOf_len2 _ | exact stateWord_len2 _ | decide | (simp; done) | (rw [size_data]; omega)))))))), H.sel sF⟩
  case round =>
    clear H
    obtain ⟨j, X, hj, rfl, rfl, HX, hXl, H⟩ := hrel
    have hjj : j = 0 ∨ j = 1 := by omega
    rcases hjj with rfl | rfl
    all_goals (
      go_wp2_with (first | ((((with_reducible apply st_load1 H); decide +kernel; rfl; exact cF)); clear H; intro wn H; (try simp only [splice, yG, yH, yI, yJ, yK, yL, yM, yN, yO, yP, yQ, Nat.reduceAdd, yA, yB, yC] at H); simp only [Act.put, yA, yB, yC, yD, yE, yF]) | ((((with_reducible apply st_strsum H); rfl; rfl; exact szF; kernel_rfl)); clear H; intro wn H; simp only [Act.put, yA, yB, yC, yD, yE, yF]) | ((first | (go_at_call 62; refine gvF (l01Dec_s _ (by omega) (by omega) _) H ?_) | (go_at_call 45; refine gvF (hM _) H ?_)); clear H; intro wn H))
    )
    · skip
      go_roundg 0
      case measure => omega
      case rel => exact ⟨1, _, rfl, rfl, congrArg Value.string ((congrArg (fun X => bs X ++ ⟨#[32]⟩ ++ bs (dec a)) HX.out).trans (spB (by simp) rfl)), Lib.hid rfl, (joinSp_le (B := 30) (by simp) (by (try simp only [List.take_succ_cons, List.take_zero, List.take_nil, List.cons_append, List.nil_append, List.append_nil]); (repeat (first | exact (fun _ h => absurd h List.not_mem_nil) | (refine List.forall_mem_cons.2 ⟨?_, ?_⟩; (focus (first | omega | exact wordOf_len2 _ | exact stateWord_len2 _ | decide | (simp; done) | (rw [size_data]; omega)))))))), H.sel sF⟩
    · skip
      go_ret
      exact ⟨by rw [hE.out, HX.out]; rfl, H.below⟩
set_option maxRecDepth 100000 in
set_option maxHeartbeats 8000000 in
theorem l17Text_s6 (l1 l2 : Int) (ow : ByteArray) (a b c d m1 m2 af : Int) (F : OpFacts false l1 l2 6 ow a b c d m1 m2 af) (w : World) :
    Gives Tryz.prog 41 #[encOp false l1 l2 6 ow a b c d m1 m2 af] w (.string (bs (joinSp (opWords false l1 l2 6 ow a b c d m1 m2 af)))) := by
  unfold Gives
  have H := Hs.start noRow w
  have haf : af = 0 := F.u (by decide)
  subst haf
  obtain ⟨a0, a1'⟩ := F.a0
  obtain ⟨b0, b1'⟩ := F.b0
  obtain ⟨c0, c1'⟩ := F.c0
  obtain ⟨d0, d1'⟩ := F.d0
  have hM : ∀ w, Gives Tryz.prog 45 #[.int .i64 6] w (.int .i64 4) := fun w => l17Many_s 6 w
  have hl1 := labelText_len l1 l2
  have hl2 := labelText_len m1 m2
  have hwl : (wordOf 6).size ≤ 30 := by decide +kernel
  have hda := dec_len (n := a) ⟨by omega, by omega⟩
  have hdb := dec_len (n := b) ⟨by omega, by omega⟩
  have hdc := dec_len (n := c) ⟨by omega, by omega⟩
  have hdd := dec_len (n := d) ⟨by omega, by omega⟩
  have hE : Hid (opWords false l1 l2 6 ow a b c d m1 m2 0 = [labelText l1 l2, (wordOf 6).data.toList] ++ ([] : List Bs) ++ [dec a, dec b, dec c, dec d] ++ ([] : List Bs)) := Lib.hid (by simp [opWords, numWords, many])
  clear F
  unfold encOp at *
  go_enter Tryz.func41, Tryz.ntmps41
  go_wp2_with (first | ((first | ((with_reducible apply st_load1 H); decide +kernel; rfl; exact cF) | ((with_reducible apply st_loads H); decide +kernel; rfl; exact iF; exact zF; rfl)); clear H; intro wn H; (try simp only [splice, yG, yH, yI, yJ, yK, yL, yM, yN, yO, yP, yQ, Nat.reduceAdd, yA, yB, yC] at H); simp only [Act.put, yA, yB, yC, yD, yE, yF]) | ((first | ((with_reducible apply st_box (dst := some 1) H); exact nF; intro b1) | ((with_reducible apply st_strsum H); rfl; rfl; exact szF; kernel_rfl) | ((with_reducible apply st_bslice H); exact nsF; intro nb)); clear H; intro wn H; simp only [Act.put, yA, yB, yC, yD, yE, yF]) | ((first | (go_at_call 73; refine gvF (labelText_s _ _ _) H ?_) | (go_at_call 44; refine gvF (l17Word_s _ _) H ?_)); clear H; intro wn H))
  go_loopg [3, 5] 4 (fun n tv iv wr => ∃ (j : Nat) (X : Bs), j + n = 4 ∧ iv = .int .i64 j ∧ tv = .string (bs X) ∧ Hid (X = joinSp ([labelText l1 l2, (wordOf 6).data.toList] ++ ([] : List Bs) ++ List.take j [dec a, dec b, dec c, dec d])) ∧ X.length ≤ 2000 ∧ Hs noRow w [Hl.blk b1 26 #[.bool false, .int .i64 l1, .int .i64 l2, .int .i64 6, .string ow, .int .i64 a, .int .i64 b, .int .i64 c, .int .i64 d, .int .i64 m1, .int .i64 m2, .int .i64 0], Hl.blk nb 2 #[.int .i64 a, .int .i64 b, .int .i64 c, .int .i64 d]] wr)
  case atStart => exact ⟨0, _, rfl, rfl, congrArg Value.string (show bs (labelText l1 l2) ++ ⟨#[32]⟩ ++ wordOf 6 = _ from sp2 _ _), Lib.hid rfl, (joinSp_le (B := 30) (by simp) (by (try simp only [List.take_succ_cons, List.take_zero, List.take_nil, List.cons_append, List.nil_append, List.append_nil]); (repeat (first | exact (fun _ h => absurd h List.not_mem_nil) | (refine List.forall_mem_cons.2 ⟨?_, ?_⟩; (focus (first | omega | exact wordOf_len2 _ | exact stateWord_len2 _ | decide | (simp; done) | (rw [size_data]; omega)))))))), H.sel sF⟩
  case round =>
    clear H
    obtain ⟨j, X, hj, rfl, rfl, HX, hXl, H⟩ := hrel
    have hjj : j = 0 ∨ j = 1 ∨ j = 2 ∨ j = 3 ∨ j = 4 := by omega
    rcases hjj with rfl | rfl | rfl | rfl | rfl
    all_goals (
      go_wp2_with (first | ((((with_reducible apply st_load1 H); decide +kernel; rfl; exact cF)); clear H; intro wn H; (try simp only [splice, yG, yH, yI, yJ, yK, yL, yM, yN, yO, yP, yQ, Nat.reduceAdd, yA, yB, yC] at H); simp only [Act.put, yA, yB, yC, yD, yE, yF]) | ((((with_reducible apply st_strsum H); rfl; rfl; exact szF; kernel_rfl)); clear H; intro wn H; simp only [Act.put, yA, yB, yC, yD, yE, yF]) | ((first | (go_at_call 62; refine gvF (l01Dec_s _ (by omega) (by omega) _) H ?_) | (go_at_call 45; refine gvF (hM _) H ?_)); clear H; intro wn H))
    )
    · skip
      go_roundg 3
      case measure => omega
      case rel => exact ⟨1, _, rfl, rfl, congrArg Value.string ((congrArg (fun X => bs X ++ ⟨#[32]⟩ ++ bs (dec a)) HX.out).trans (spB (by simp) rfl)), Lib.hid rfl, (joinSp_le (B := 30) (by simp) (by (try simp only [List.take_succ_cons, List.take_zero, List.take_nil, List.cons_append, List.nil_append, List.append_nil]); (repeat (first | exact (fun _ h => absurd h List.not_mem_nil) | (refine List.forall_mem_cons.2 ⟨?_, ?_⟩; (focus (first | omega | exact wordOf_len2 _ | exact stateWord_len2 _ | decide | (simp; done) | (rw [size_data]; omega)))))))), H.sel sF⟩
    · skip
      go_roundg 2
      case measure => omega
      case rel => exact ⟨2, _, rfl, rfl, congrArg Value.string ((congrArg (fun X => bs X ++ ⟨#[32]⟩ ++ bs (dec b)) HX.out).trans (spB (by simp) rfl)), Lib.hid rfl, (joinSp_le (B := 30) (by simp) (by (try simp only [List.take_succ_cons, List.take_zero, List.take_nil, List.cons_append, List.nil_append, List.append_nil]); (repeat (first | exact (fun _ h => absurd h List.not_mem_nil) | (refine List.forall_mem_cons.2 ⟨?_, ?_⟩; (focus (first | omega | exact wordOf_len2 _ | exact stateWord_len2 _ | decide | (simp; done) | (rw [size_data]; omega)))))))), H.sel sF⟩
    · skip
      go_roundg 1
      case measure => omega
      case rel => exact ⟨3, _, rfl, rfl, congrArg Value.string ((congrArg (fun X => bs X ++ ⟨#[32]⟩ ++ bs (dec c)) HX.out).trans (spB (by simp) rfl)), Lib.hid rfl, (joinSp_le (B := 30) (by simp) (by (try simp only [List.take_succ_cons, List.take_zero, List.take_nil, List.cons_append, List.nil_append, List.append_nil]); (repeat (first | exact (fun _ h => absurd h List.not_mem_nil) | (refine List.forall_mem_cons.2 ⟨?_, ?_⟩; (focus (first | omega | exact wordOf_len2 _ | exact stateWord_len2 _ | decide | (simp; done) | (rw [size_data]; omega)))))))), H.sel sF⟩
    · skip
      go_roundg 0
      case measure => omega
      case rel => exact ⟨4, _, rfl, rfl, congrArg Value.string ((congrArg (fun X => bs X ++ ⟨#[32]⟩ ++ bs (dec d)) HX.out).trans (spB (by simp) rfl)), Lib.hid rfl, (joinSp_le (B := 30) (by simp) (by (try simp only [List.take_succ_cons, List.take_zero, List.take_nil, List.cons_append, List.nil_append, List.append_nil]); (repeat (first | exact (fun _ h => absurd h List.not_mem_nil) | (refine List.forall_mem_cons.2 ⟨?_, ?_⟩; (focus (first | omega | exact wordOf_len2 _ | exact stateWord_len2 _ | decide | (simp; done) | (rw [size_data]; omega)))))))), H.sel sF⟩
    · skip
      go_ret
      exact ⟨by rw [hE.out, HX.out]; rfl, H.below⟩
set_option maxRecDepth 100000 in
set_option maxHeartbeats 8000000 in
theorem l17Text_s9 (l1 l2 : Int) (ow : ByteArray) (a b c d m1 m2 af : Int) (F : OpFacts false l1 l2 9 ow a b c d m1 m2 af) (w : World) :
    Gives Tryz.prog 41 #[encOp false l1 l2 9 ow a b c d m1 m2 af] w (.string (bs (joinSp (opWords false l1 l2 9 ow a b c d m1 m2 af)))) := by
  unfold Gives
  have H := Hs.start noRow w
  have haf : af = 0 := F.u (by decide)
  subst haf
  obtain ⟨a0, a1'⟩ := F.a0
  obtain ⟨b0, b1'⟩ := F.b0
  obtain ⟨c0, c1'⟩ := F.c0
  obtain ⟨d0, d1'⟩ := F.d0
  have hM : ∀ w, Gives Tryz.prog 45 #[.int .i64 9] w (.int .i64 0) := fun w => l17Many_s 9 w
  have hl1 := labelText_len l1 l2
  have hl2 := labelText_len m1 m2
  have hwl : (wordOf 9).size ≤ 30 := by decide +kernel
  have hE : Hid (opWords false l1 l2 9 ow a b c d m1 m2 0 = [labelText l1 l2, (wordOf 9).data.toList] ++ ([] : List Bs) ++ ([] : List Bs) ++ ([] : List Bs)) := Lib.hid (by simp [opWords, numWords, many])
  clear F
  unfold encOp at *
  go_enter Tryz.func41, Tryz.ntmps41
  go_wp2_with (first | ((first | ((with_reducible apply st_load1 H); decide +kernel; rfl; exact cF) | ((with_reducible apply st_loads H); decide +kernel; rfl; exact iF; exact zF; rfl)); clear H; intro wn H; (try simp only [splice, yG, yH, yI, yJ, yK, yL, yM, yN, yO, yP, yQ, Nat.reduceAdd, yA, yB, yC] at H); simp only [Act.put, yA, yB, yC, yD, yE, yF]) | ((first | ((with_reducible apply st_box (dst := some 1) H); exact nF; intro b1) | ((with_reducible apply st_strsum H); rfl; rfl; exact szF; kernel_rfl) | ((with_reducible apply st_bslice H); exact nsF; intro nb)); clear H; intro wn H; simp only [Act.put, yA, yB, yC, yD, yE, yF]) | ((first | (go_at_call 73; refine gvF (labelText_s _ _ _) H ?_) | (go_at_call 44; refine gvF (l17Word_s _ _) H ?_)); clear H; intro wn H))
  go_loopg [3, 5] 0 (fun n tv iv wr => ∃ (j : Nat) (X : Bs), j + n = 0 ∧ iv = .int .i64 j ∧ tv = .string (bs X) ∧ Hid (X = joinSp ([labelText l1 l2, (wordOf 9).data.toList] ++ ([] : List Bs) ++ List.take j ([] : List Bs))) ∧ X.length ≤ 2000 ∧ Hs noRow w [Hl.blk b1 26 #[.bool false, .int .i64 l1, .int .i64 l2, .int .i64 9, .string ow, .int .i64 a, .int .i64 b, .int .i64 c, .int .i64 d, .int .i64 m1, .int .i64 m2, .int .i64 0], Hl.blk nb 2 #[.int .i64 a, .int .i64 b, .int .i64 c, .int .i64 d]] wr)
  case atStart => exact ⟨0, _, rfl, rfl, congrArg Value.string (show bs (labelText l1 l2) ++ ⟨#[32]⟩ ++ wordOf 9 = _ from sp2 _ _), Lib.hid rfl, (joinSp_le (B := 30) (by simp) (by (try simp only [List.take_succ_cons, List.take_zero, List.take_nil, List.cons_append, List.nil_append, List.append_nil]); (repeat (first | exact (fun _ h => absurd h List.not_mem_nil) | (refine List.forall_mem_cons.2 ⟨?_, ?_⟩; (focus (first | omega | exact wordOf_len2 _ | exact stateWord_len2 _ | decide | (simp; done) | (rw [size_data]; omega)))))))), H.sel sF⟩
  case round =>
    clear H
    obtain ⟨j, X, hj, rfl, rfl, HX, hXl, H⟩ := hrel
    have hjj : j = 0 := by omega
    subst hjj
    go_wp2_with (first | ((((with_reducible apply st_load1 H); decide +kernel; rfl; exact cF)); clear H; intro wn H; (try simp only [splice, yG, yH, yI, yJ, yK, yL, yM, yN, yO, yP, yQ, Nat.reduceAdd, yA, yB, yC] at H); simp only [Act.put, yA, yB, yC, yD, yE, yF]) | (((go_at_call 45; refine gvF (hM _) H ?_)); clear H; intro wn H))
    skip
    go_ret
    exact ⟨by rw [hE.out, HX.out]; rfl, H.below⟩
set_option maxRecDepth 100000 in
set_option maxHeartbeats 8000000 in
theorem l17Text_s12 (l1 l2 : Int) (ow : ByteArray) (a b c d m1 m2 af : Int) (F : OpFacts true l1 l2 12 ow a b c d m1 m2 af) (w : World) :
    Gives Tryz.prog 41 #[encOp true l1 l2 12 ow a b c d m1 m2 af] w (.string (bs (joinSp (opWords true l1 l2 12 ow a b c d m1 m2 af)))) := by
  unfold Gives
  have H := Hs.start noRow w
  have haf : af = 0 := F.u (by decide)
  subst haf
  obtain ⟨a0, a1'⟩ := F.a0
  obtain ⟨b0, b1'⟩ := F.b0
  obtain ⟨c0, c1'⟩ := F.c0
  obtain ⟨d0, d1'⟩ := F.d0
  have hM : ∀ w, Gives Tryz.prog 45 #[.int .i64 12] w (.int .i64 0) := fun w => l17Many_s 12 w
  have hl1 := labelText_len l1 l2
  have hl2 := labelText_len m1 m2
  have hwl : (wordOf 12).size ≤ 30 := by decide +kernel
  have hE : Hid (opWords true l1 l2 12 ow a b c d m1 m2 0 = [[115, 121, 115], (wordOf 12).data.toList] ++ ([] : List Bs) ++ ([] : List Bs) ++ ([] : List Bs)) := Lib.hid (by simp [opWords, numWords, many])
  clear F
  unfold encOp at *
  go_enter Tryz.func41, Tryz.ntmps41
  go_wp2_with (first | ((first | ((with_reducible apply st_load1 H); decide +kernel; rfl; exact cF) | ((with_reducible apply st_loads H); decide +kernel; rfl; exact iF; exact zF; rfl)); clear H; intro wn H; (try simp only [splice, yG, yH, yI, yJ, yK, yL, yM, yN, yO, yP, yQ, Nat.reduceAdd, yA, yB, yC] at H); simp only [Act.put, yA, yB, yC, yD, yE, yF]) | ((first | ((with_reducible apply st_box (dst := some 1) H); exact nF; intro b1) | ((with_reducible apply st_strsum H); rfl; rfl; exact szF; kernel_rfl) | ((with_reducible apply st_bslice H); exact nsF; intro nb)); clear H; intro wn H; simp only [Act.put, yA, yB, yC, yD, yE, yF]) | ((first | (go_at_call 73; refine gvF (labelText_s _ _ _) H ?_) | (go_at_call 44; refine gvF (l17Word_s _ _) H ?_)); clear H; intro wn H))
  go_loopg [3, 5] 0 (fun n tv iv wr => ∃ (j : Nat) (X : Bs), j + n = 0 ∧ iv = .int .i64 j ∧ tv = .string (bs X) ∧ Hid (X = joinSp ([[115, 121, 115], (wordOf 12).data.toList] ++ ([] : List Bs) ++ List.take j ([] : List Bs))) ∧ X.length ≤ 2000 ∧ Hs noRow w [Hl.blk b1 26 #[.bool true, .int .i64 l1, .int .i64 l2, .int .i64 12, .string ow, .int .i64 a, .int .i64 b, .int .i64 c, .int .i64 d, .int .i64 m1, .int .i64 m2, .int .i64 0], Hl.blk nb 2 #[.int .i64 a, .int .i64 b, .int .i64 c, .int .i64 d]] wr)
  case atStart => exact ⟨0, _, rfl, rfl, congrArg Value.string (show bs [115, 121, 115] ++ ⟨#[32]⟩ ++ wordOf 12 = _ from sp2 _ _), Lib.hid rfl, (joinSp_le (B := 30) (by simp) (by (try simp only [List.take_succ_cons, List.take_zero, List.take_nil, List.cons_append, List.nil_append, List.append_nil]); (repeat (first | exact (fun _ h => absurd h List.not_mem_nil) | (refine List.forall_mem_cons.2 ⟨?_, ?_⟩; (focus (first | omega | exact wordOf_len2 _ | exact stateWord_len2 _ | decide | (simp; done) | (rw [size_data]; omega)))))))), H.sel sF⟩
  case round =>
    clear H
    obtain ⟨j, X, hj, rfl, rfl, HX, hXl, H⟩ := hrel
    have hjj : j = 0 := by omega
    subst hjj
    go_wp2_with (first | ((((with_reducible apply st_load1 H); decide +kernel; rfl; exact cF)); clear H; intro wn H; (try simp only [splice, yG, yH, yI, yJ, yK, yL, yM, yN, yO, yP, yQ, Nat.reduceAdd, yA, yB, yC] at H); simp only [Act.put, yA, yB, yC, yD, yE, yF]) | (((go_at_call 45; refine gvF (hM _) H ?_)); clear H; intro wn H))
    skip
    go_ret
    exact ⟨by rw [hE.out, HX.out]; rfl, H.below⟩
end Go.Proofs.YtfblolkkajppcaaGreatDoor
