/-
  StepText, whole; the law FnExactStepText.
-/
import Derived.Test.YtfblolkkajppcaaGreatDoorP6
import Derived.Test.YtfblolkkajppcaaGreatDoorO8
set_option linter.unusedSimpArgs false
set_option linter.unusedVariables false
namespace Go.Proofs.YtfblolkkajppcaaGreatDoor
open Go.RowKit M
namespace M
def powOk (p : Int) : Bool := isIn p (-1) 1000000
def stepText (sys : Bool) (l1 l2 k : Int) (ow : ByteArray) (a b c d m1 m2 af p : Int) : Bs :=
  if opOk sys l1 l2 k ow a b c d m1 m2 af && powOk p then (if p = -1 then opText sys l1 l2 k ow a b c d m1 m2 af else [33] ++ dec p ++ [32] ++ opText sys l1 l2 k ow a b c d m1 m2 af) else []
theorem stepText_bad {sys : Bool} {l1 l2 k : Int} {ow : ByteArray} {a b c d m1 m2 af p : Int} (h : (opOk sys l1 l2 k ow a b c d m1 m2 af && powOk p) = false) : stepText sys l1 l2 k ow a b c d m1 m2 af p = [] := by unfold stepText; rw [h]; rfl
theorem stepText_none {sys : Bool} {l1 l2 k : Int} {ow : ByteArray} {a b c d m1 m2 af : Int} (h : opOk sys l1 l2 k ow a b c d m1 m2 af = true) : stepText sys l1 l2 k ow a b c d m1 m2 af (-1) = opText sys l1 l2 k ow a b c d m1 m2 af := by unfold stepText; rw [h]; rfl
theorem stepText_pow {sys : Bool} {l1 l2 k : Int} {ow : ByteArray} {a b c d m1 m2 af p : Int} (h : opOk sys l1 l2 k ow a b c d m1 m2 af = true) (hp : powOk p = true) (hn : p ≠ -1) :
    stepText sys l1 l2 k ow a b c d m1 m2 af p = [33] ++ dec p ++ [32] ++ opText sys l1 l2 k ow a b c d m1 m2 af := by unfold stepText; rw [h, hp]; simp [hn]
set_option maxRecDepth 100000 in
theorem opText_len (sys : Bool) (l1 l2 k : Int) (ow : ByteArray) (a b c d m1 m2 af : Int) : (opText sys l1 l2 k ow a b c d m1 m2 af).length ≤ 2000 := by
  cases hok : opOk sys l1 l2 k ow a b c d m1 m2 af
  · rw [opText_bad hok]; simp
  · rw [opText_ok hok]
    have F := opFacts hok
    have da := dec_len F.a0
    have db := dec_len F.b0
    have dc := dec_len F.c0
    have dd := dec_len F.d0
    have df := dec_len F.af0
    have e1 : (if k = 1 then [ow.data.toList] else if k = 7 then [labelText m1 m2] else []).length ≤ 1 := by
      split
      · simp
      · split <;> simp
    have e2 : (if k = 13 then [dec a, stateWord b] else numWords k [a, b, c, d]).length ≤ 4 := by
      split
      · simp
      · unfold numWords; rw [List.length_map, List.length_take]; simp; omega
    have e3 : (if af = 0 then [] else [[97, 102, 116, 101, 114], labelText m1 m2, dec af]).length ≤ 3 := by split <;> simp
    refine joinSp_le (B := 30) ⟨?_, by decide⟩ ?_
    · rw [opWords]
      simp only [List.length_cons, List.length_append]
      omega
    · intro x hx
      unfold opWords at hx
      simp only [List.mem_cons, List.mem_append] at hx
      rcases hx with rfl | rfl | (hx | hx) | hx
      · split
        · decide
        · have := labelText_len l1 l2; omega
      · exact wordOf_len2 _
      · split at hx
        · rename_i hk
          obtain rfl := List.mem_singleton.1 hx
          rw [size_data]; have := F.o hk; omega
        · split at hx
          · obtain rfl := List.mem_singleton.1 hx
            have := labelText_len m1 m2; omega
          · simp at hx
      · split at hx
        · simp only [List.mem_cons, List.not_mem_nil, or_false] at hx
          rcases hx with rfl | rfl
          · omega
          · exact stateWord_len2 _
        · unfold numWords at hx
          obtain ⟨n, hn, rfl⟩ := List.mem_map.1 hx
          have hn := List.mem_of_mem_take hn
          simp only [List.mem_cons, List.not_mem_nil, or_false] at hn
          rcases hn with rfl | rfl | rfl | rfl <;> omega
      · split at hx
        · simp at hx
        · simp only [List.mem_cons, List.not_mem_nil, or_false] at hx
          rcases hx with rfl | rfl | rfl
          · decide
          · have := labelText_len m1 m2; omega
          · omega
end M
def encStep (sys : Bool) (l1 l2 k : Int) (ow : ByteArray) (a b c d m1 m2 af p : Int) : Value :=
  .agg #[.bool sys, .int .i64 l1, .int .i64 l2, .int .i64 k, .string ow, .int .i64 a, .int .i64 b, .int .i64 c, .int .i64 d, .int .i64 m1, .int .i64 m2, .int .i64 af, .int .i64 p]
set_option maxRecDepth 100000 in
theorem isPower_i (p : Int) (w : World) : Gives Tryz.prog 58 #[.int .i64 p] w (.bool (powOk p)) := by
  unfold Gives
  have H := Hs.start noRow w
  go_enter Tryz.func58, Tryz.ntmps58
  go_wp2_with ((((go_at_call 47; refine gvF (within_i _ _ _ _) H ?_)); clear H; intro wn H))
  go_ret
  exact ⟨rfl, H.below⟩
set_option maxRecDepth 100000 in
theorem l19Power_s (p : Int) (w : World) : Gives Tryz.prog 77 #[.int .i64 p] w (.bool (powOk p)) := by
  unfold Gives
  have H := Hs.start noRow w
  go_enter Tryz.func77, Tryz.ntmps77
  go_wp2_with ((((go_at_call 53; refine gvF (is_s _ _ _ _) H ?_)); clear H; intro wn H))
  go_ret
  exact ⟨rfl, H.below⟩
set_option maxRecDepth 100000 in
theorem l20Step_s (sys : Bool) (l1 l2 k : Int) (ow : ByteArray) (a b c d m1 m2 af p : Int) (how : ow.size ≤ maxLen) (w : World) :
    Gives Tryz.prog 61 #[encStep sys l1 l2 k ow a b c d m1 m2 af p] w (.bool (opOk sys l1 l2 k ow a b c d m1 m2 af && powOk p)) := by
  have hR := opRight_s sys l1 l2 k ow a b c d m1 m2 af how
  have hP := l19Power_s p
  generalize opOk sys l1 l2 k ow a b c d m1 m2 af = r at *
  generalize powOk p = q at *
  unfold Gives
  have H := Hs.start noRow w
  unfold encStep
  unfold encOp at hR
  cases r
  · go_enter Tryz.func61, Tryz.ntmps61
    go_wp2_with (first | ((with_reducible refine' st_guard ?_ ?_ ?_); rotate_left; rfl; (all_goals (intro hgd; cases hgd)); (try simp only [Act.put, yA, yB, yC, yD, yE, yF])) | ((((with_reducible apply st_loads H); decide +kernel; rfl; exact iF; exact zF; rfl)); clear H; intro wn H; (try simp only [splice, yG, yH, yI, yJ, yK, yL, yM, yN, yO, yP, yQ, Nat.reduceAdd, yA, yB, yC] at H); simp only [Act.put, yA, yB, yC, yD, yE, yF]) | ((((with_reducible apply st_box (dst := some 1) H); exact nF; intro b1)); clear H; intro wn H; simp only [Act.put, yA, yB, yC, yD, yE, yF]) | (((go_at_call 13; refine gvF (hR _) H ?_)); clear H; intro wn H))
    go_ret
    exact ⟨rfl, H.below⟩
  · go_enter Tryz.func61, Tryz.ntmps61
    go_wp2_with (first | ((with_reducible refine' st_guard ?_ ?_ ?_); rotate_left; rfl; (all_goals (intro hgd; cases hgd)); (try simp only [Act.put, yA, yB, yC, yD, yE, yF])) | ((first | ((with_reducible apply st_load1 H); decide +kernel; rfl; exact cF) | ((with_reducible apply st_loads H); decide +kernel; rfl; exact iF; exact zF; rfl)); clear H; intro wn H; (try simp only [splice, yG, yH, yI, yJ, yK, yL, yM, yN, yO, yP, yQ, Nat.reduceAdd, yA, yB, yC] at H); simp only [Act.put, yA, yB, yC, yD, yE, yF]) | ((((with_reducible apply st_box (dst := some 1) H); exact nF; intro b1)); clear H; intro wn H; simp only [Act.put, yA, yB, yC, yD, yE, yF]) | ((first | (go_at_call 13; refine gvF (hR _) H ?_) | (go_at_call 77; refine gvF (hP _) H ?_)); clear H; intro wn H))
    go_ret
    exact ⟨by simp, H.below⟩
set_option maxRecDepth 100000 in
set_option maxHeartbeats 4000000 in
theorem stepText_i (sys : Bool) (l1 l2 k : Int) (ow : ByteArray) (a b c d m1 m2 af p : Int) (how : ow.size ≤ maxLen) (w : World) (ht : Tab w) :
    Gives Tryz.prog 16 #[encStep sys l1 l2 k ow a b c d m1 m2 af p] w (.string (bs (stepText sys l1 l2 k ow a b c d m1 m2 af p))) := by
  have hR := opRight_i sys l1 l2 k ow a b c d m1 m2 af how
  have hT := opText_i sys l1 l2 k ow a b c d m1 m2 af how
  have hP := isPower_i p
  have hXl := opText_len sys l1 l2 k ow a b c d m1 m2 af
  have HT := Lib.hid ht
  have H := Hs.start noRow w
  clear ht
  unfold Gives
  unfold encStep
  unfold encOp at hR hT
  cases hok : opOk sys l1 l2 k ow a b c d m1 m2 af
  · have HE := Lib.hid (stepText_bad (p := p) (by rw [hok]; rfl))
    rw [hok] at hR
    clear hok
    go_enter Tryz.func16, Tryz.ntmps16
    go_wp2_with (first | ((with_reducible refine' st_guard ?_ ?_ ?_); rotate_left; rfl; (all_goals (intro hgd; cases hgd)); (try simp only [Act.put, yA, yB, yC, yD, yE, yF])) | ((((with_reducible apply st_loads H); decide +kernel; rfl; exact iF; exact zF; rfl)); clear H; intro wn H; (try simp only [splice, yG, yH, yI, yJ, yK, yL, yM, yN, yO, yP, yQ, Nat.reduceAdd, yA, yB, yC] at H); simp only [Act.put, yA, yB, yC, yD, yE, yF]) | ((((with_reducible apply st_box (dst := some 1) H); exact nF; intro b1)); clear H; intro wn H; simp only [Act.put, yA, yB, yC, yD, yE, yF]) | (((go_at_call 12; refine gvF (hR _) H ?_)); clear H; intro wn H))
    go_ret
    exact ⟨by rw [HE.out]; rfl, H.below⟩
  · cases hp : powOk p
    · have HE := Lib.hid (stepText_bad (p := p) (by rw [hok, hp]; rfl))
      rw [hok] at hR
      rw [hp] at hP
      clear hok hp
      go_enter Tryz.func16, Tryz.ntmps16
      go_wp2_with (first | ((with_reducible refine' st_guard ?_ ?_ ?_); rotate_left; rfl; (all_goals (intro hgd; cases hgd)); (try simp only [Act.put, yA, yB, yC, yD, yE, yF])) | ((first | ((with_reducible apply st_load1 H); decide +kernel; rfl; exact cF) | ((with_reducible apply st_loads H); decide +kernel; rfl; exact iF; exact zF; rfl)); clear H; intro wn H; (try simp only [splice, yG, yH, yI, yJ, yK, yL, yM, yN, yO, yP, yQ, Nat.reduceAdd, yA, yB, yC] at H); simp only [Act.put, yA, yB, yC, yD, yE, yF]) | ((((with_reducible apply st_box (dst := some 1) H); exact nF; intro b1)); clear H; intro wn H; simp only [Act.put, yA, yB, yC, yD, yE, yF]) | ((first | (go_at_call 12; refine gvF (hR _) H ?_) | (go_at_call 58; refine gvF (hP _) H ?_)); clear H; intro wn H))
      go_ret
      exact ⟨by rw [HE.out]; rfl, H.below⟩
    · rw [hok] at hR
      rw [hp] at hP
      have hpr : -1 ≤ p ∧ p ≤ 1000000 := isIn_spec hp
      by_cases hn : p = -1
      · subst hn
        have HE := Lib.hid (stepText_none hok)
        generalize opText sys l1 l2 k ow a b c d m1 m2 af = X at *
        clear hok hp
        go_enter Tryz.func16, Tryz.ntmps16
        go_wp2_with (first | ((with_reducible refine' st_guard ?_ ?_ ?_); rotate_left; rfl; (all_goals (intro hgd; cases hgd)); (try simp only [Act.put, yA, yB, yC, yD, yE, yF])) | ((first | ((with_reducible apply st_load1 H); decide +kernel; rfl; exact cF) | ((with_reducible apply st_loads H); decide +kernel; rfl; exact iF; exact zF; rfl)); clear H; intro wn H; (try simp only [splice, yG, yH, yI, yJ, yK, yL, yM, yN, yO, yP, yQ, Nat.reduceAdd, yA, yB, yC] at H); simp only [Act.put, yA, yB, yC, yD, yE, yF]) | ((((with_reducible apply st_box (dst := some 1) H); exact nF; intro b1)); clear H; intro wn H; simp only [Act.put, yA, yB, yC, yD, yE, yF]) | ((first | (go_at_call 12; refine gvF (hR _) H ?_) | (go_at_call 58; refine gvF (hP _) H ?_) | (go_at_call 6; refine gvF (hT _ (HT.out.later H.below)) H ?_)); clear H; intro wn H))
        go_ret
        exact ⟨by rw [HE.out]; rfl, H.below⟩
      · have hn1 : (p == -1) = false := by simpa using hn
        have hdp := dec_len (n := p) ⟨by omega, by omega⟩
        have HE := Lib.hid (stepText_pow hok hp hn)
        generalize opText sys l1 l2 k ow a b c d m1 m2 af = X at *
        clear hok hp
        go_enter Tryz.func16, Tryz.ntmps16
        go_wp2_with (first | ((with_reducible refine' st_guard ?_ ?_ ?_); rotate_left; rfl; (all_goals (intro hgd; cases hgd)); (try simp only [Act.put, yA, yB, yC, yD, yE, yF])) | ((first | ((with_reducible apply st_load1 H); decide +kernel; rfl; exact cF) | ((with_reducible apply st_loads H); decide +kernel; rfl; exact iF; exact zF; rfl)); clear H; intro wn H; (try simp only [splice, yG, yH, yI, yJ, yK, yL, yM, yN, yO, yP, yQ, Nat.reduceAdd, yA, yB, yC] at H); simp only [Act.put, yA, yB, yC, yD, yE, yF]) | ((((with_reducible apply st_box (dst := some 1) H); exact nF; intro b1)); clear H; intro wn H; simp only [Act.put, yA, yB, yC, yD, yE, yF]) | ((first | (go_at_call 12; refine gvF (hR _) H ?_) | (go_at_call 58; refine gvF (hP _) H ?_)); clear H; intro wn H) | ((with_reducible apply wp_region_hq (id := 5) H); kernel_rfl; kernel_rfl; (iterate 2 (all_goals ((with_reducible refine' hq_step ?_ ?_ ?_); rotate_left; rfl; (focus (intro w1 H1; first | (exact qF) | (exact qVF))); (try simp only [yG, yH, yJ, yK]); simp only [Act.put, yA, yB, yC, yD, yE, yF]))); (all_goals ((with_reducible refine' hq_step ?_ ?_ ?_); rotate_left; rfl; (focus (intro w1 H1; unfold QOk; go_simp; exact q_call (decimal_i _ (by omega) (by omega) _ (HT.out.later H1.below)))); (try simp only [yG, yH, yJ, yK]); simp only [Act.put, yA, yB, yC, yD, yE, yF])); (all_goals ((with_reducible refine' hq_step ?_ ?_ ?_); rotate_left; rfl; (focus (intro w1 H1; exact qSF)); (try simp only [yG, yH, yJ, yK]); simp only [Act.put, yA, yB, yC, yD, yE, yF])); (all_goals ((with_reducible refine' hq_step ?_ ?_ ?_); rotate_left; rfl; (focus (intro w1 H1; exact qSF)); (try simp only [yG, yH, yJ, yK]); simp only [Act.put, yA, yB, yC, yD, yE, yF])); (iterate 2 (all_goals ((with_reducible refine' hq_step ?_ ?_ ?_); rotate_left; rfl; (focus (intro w1 H1; first | (exact qF) | (exact qVF))); (try simp only [yG, yH, yJ, yK]); simp only [Act.put, yA, yB, yC, yD, yE, yF]))); (all_goals ((with_reducible refine' hq_step ?_ ?_ ?_); rotate_left; rfl; (focus (intro w1 H1; unfold QOk; go_simp; exact q_call (hT _ (HT.out.later H1.below)))); (try simp only [yG, yH, yJ, yK]); simp only [Act.put, yA, yB, yC, yD, yE, yF])); (all_goals ((with_reducible refine' hq_step ?_ ?_ ?_); rotate_left; rfl; (focus (intro w1 H1; exact qSF)); (try simp only [yG, yH, yJ, yK]); simp only [Act.put, yA, yB, yC, yD, yE, yF])); (iterate 1 (all_goals ((with_reducible refine' hq_step ?_ ?_ ?_); rotate_left; rfl; (focus (intro w1 H1; exact qVF)); (try simp only [yG, yH, yJ, yK]); simp only [Act.put, yA, yB, yC, yD, yE, yF]))); all_goals (refine wpQuiet_nil ?_; clear H; intro wn H)))
        go_ret
        exact ⟨by rw [HE.out, ← bs_append, ← bs_append, ← bs_append]; rfl, H.below⟩
set_option maxRecDepth 100000 in
set_option maxHeartbeats 4000000 in
theorem stepText_s (sys : Bool) (l1 l2 k : Int) (ow : ByteArray) (a b c d m1 m2 af p : Int) (how : ow.size ≤ maxLen) (w : World) :
    Gives Tryz.prog 19 #[encStep sys l1 l2 k ow a b c d m1 m2 af p] w (.string (bs (stepText sys l1 l2 k ow a b c d m1 m2 af p))) := by
  have hR := l20Step_s sys l1 l2 k ow a b c d m1 m2 af p how
  have hT := opText_s sys l1 l2 k ow a b c d m1 m2 af how
  have hXl := opText_len sys l1 l2 k ow a b c d m1 m2 af
  have H := Hs.start noRow w
  unfold Gives
  unfold encStep at *
  unfold encOp at hT
  cases hs : (opOk sys l1 l2 k ow a b c d m1 m2 af && powOk p)
  · have HE := Lib.hid (stepText_bad hs)
    rw [hs] at hR
    clear hs
    go_enter Tryz.func19, Tryz.ntmps19
    go_wp2_with (first | ((((with_reducible apply st_loads H); decide +kernel; rfl; exact iF; exact zF; rfl)); clear H; intro wn H; (try simp only [splice, yG, yH, yI, yJ, yK, yL, yM, yN, yO, yP, yQ, Nat.reduceAdd, yA, yB, yC] at H); simp only [Act.put, yA, yB, yC, yD, yE, yF]) | ((((with_reducible apply st_box (dst := some 1) H); exact nF; intro b1)); clear H; intro wn H; simp only [Act.put, yA, yB, yC, yD, yE, yF]) | (((go_at_call 61; refine gvF (hR _) H ?_)); clear H; intro wn H))
    go_ret
    exact ⟨by rw [HE.out]; rfl, H.below⟩
  · rw [hs] at hR
    obtain ⟨hok, hp⟩ := (Bool.and_eq_true _ _).mp hs
    have hpr : -1 ≤ p ∧ p ≤ 1000000 := isIn_spec hp
    by_cases hn : p = -1
    · subst hn
      have HE := Lib.hid (stepText_none hok)
      generalize opText sys l1 l2 k ow a b c d m1 m2 af = X at *
      clear hok hp hs
      go_enter Tryz.func19, Tryz.ntmps19
      go_wp2_with (first | ((first | ((with_reducible apply st_load1 H); decide +kernel; rfl; exact cF) | ((with_reducible apply st_loads H); decide +kernel; rfl; exact iF; exact zF; rfl)); clear H; intro wn H; (try simp only [splice, yG, yH, yI, yJ, yK, yL, yM, yN, yO, yP, yQ, Nat.reduceAdd, yA, yB, yC] at H); simp only [Act.put, yA, yB, yC, yD, yE, yF]) | ((((with_reducible apply st_box (dst := some 1) H); exact nF; intro b1)); clear H; intro wn H; simp only [Act.put, yA, yB, yC, yD, yE, yF]) | ((first | (go_at_call 61; refine gvF (hR _) H ?_) | (go_at_call 10; refine gvF (hT _) H ?_)); clear H; intro wn H))
      go_ret
      exact ⟨by rw [HE.out]; rfl, H.below⟩
    · have hn1 : (p == -1) = false := by simpa using hn
      have hdp := dec_len (n := p) ⟨by omega, by omega⟩
      have HE := Lib.hid (stepText_pow hok hp hn)
      generalize opText sys l1 l2 k ow a b c d m1 m2 af = X at *
      clear hok hp hs
      go_enter Tryz.func19, Tryz.ntmps19
      go_wp2_with (first | ((first | ((with_reducible apply st_load1 H); decide +kernel; rfl; exact cF) | ((with_reducible apply st_loads H); decide +kernel; rfl; exact iF; exact zF; rfl)); clear H; intro wn H; (try simp only [splice, yG, yH, yI, yJ, yK, yL, yM, yN, yO, yP, yQ, Nat.reduceAdd, yA, yB, yC] at H); simp only [Act.put, yA, yB, yC, yD, yE, yF]) | ((((with_reducible apply st_box (dst := some 1) H); exact nF; intro b1)); clear H; intro wn H; simp only [Act.put, yA, yB, yC, yD, yE, yF]) | (((go_at_call 61; refine gvF (hR _) H ?_)); clear H; intro wn H) | ((with_reducible apply wp_region_hq (id := 5) H); kernel_rfl; kernel_rfl; (iterate 2 (all_goals ((with_reducible refine' hq_step ?_ ?_ ?_); rotate_left; rfl; (focus (intro w1 H1; first | (exact qF) | (exact qVF))); (try simp only [yG, yH, yJ, yK]); simp only [Act.put, yA, yB, yC, yD, yE, yF]))); (all_goals ((with_reducible refine' hq_step ?_ ?_ ?_); rotate_left; rfl; (focus (intro w1 H1; unfold QOk; go_simp; exact q_call (l01Dec_s _ (by omega) (by omega) _))); (try simp only [yG, yH, yJ, yK]); simp only [Act.put, yA, yB, yC, yD, yE, yF])); (all_goals ((with_reducible refine' hq_step ?_ ?_ ?_); rotate_left; rfl; (focus (intro w1 H1; exact qSF)); (try simp only [yG, yH, yJ, yK]); simp only [Act.put, yA, yB, yC, yD, yE, yF])); (all_goals ((with_reducible refine' hq_step ?_ ?_ ?_); rotate_left; rfl; (focus (intro w1 H1; exact qSF)); (try simp only [yG, yH, yJ, yK]); simp only [Act.put, yA, yB, yC, yD, yE, yF])); (iterate 2 (all_goals ((with_reducible refine' hq_step ?_ ?_ ?_); rotate_left; rfl; (focus (intro w1 H1; first | (exact qF) | (exact qVF))); (try simp only [yG, yH, yJ, yK]); simp only [Act.put, yA, yB, yC, yD, yE, yF]))); (all_goals ((with_reducible refine' hq_step ?_ ?_ ?_); rotate_left; rfl; (focus (intro w1 H1; unfold QOk; go_simp; exact q_call (hT _))); (try simp only [yG, yH, yJ, yK]); simp only [Act.put, yA, yB, yC, yD, yE, yF])); (all_goals ((with_reducible refine' hq_step ?_ ?_ ?_); rotate_left; rfl; (focus (intro w1 H1; exact qSF)); (try simp only [yG, yH, yJ, yK]); simp only [Act.put, yA, yB, yC, yD, yE, yF])); (iterate 1 (all_goals ((with_reducible refine' hq_step ?_ ?_ ?_); rotate_left; rfl; (focus (intro w1 H1; exact qVF)); (try simp only [yG, yH, yJ, yK]); simp only [Act.put, yA, yB, yC, yD, yE, yF]))); all_goals (refine wpQuiet_nil ?_; clear H; intro wn H)))
      go_ret
      exact ⟨by rw [HE.out, ← bs_append, ← bs_append, ← bs_append]; rfl, H.below⟩
end Go.Proofs.YtfblolkkajppcaaGreatDoor
namespace Go.Proofs.YtfblolkkajppcaaGreatDoor
open Go.ChangeShapes Go.WideShapes Go.ChangeAt Go.RowKit Go.Joins Go.Deep M
open Go.ChangeMaps (open_string shut_string)
end Go.Proofs.YtfblolkkajppcaaGreatDoor
