/-
  Labels compared, and their order: the walks.
-/
import Derived.Test.YtjklmldchbakjaaGreatHa
import Derived.Test.YtjklmldchbakjaaGreatO0
import Derived.StillTail
import Derived.StillTailTactics
import Derived.Sort.Grow
set_option linter.unusedSimpArgs false
set_option linter.unusedVariables false
namespace Go.Proofs.YtjklmldchbakjaaGreat
open Go.RowKit M
namespace M
/-- the order of labels, as a number -/
def cmpL (a b : Lab) : Int := if a.1 < b.1 then -1 else if b.1 < a.1 then 1 else if a.2 < b.2 then -1 else if b.2 < a.2 then 1 else 0
def cmpI (a b : Int) : Int := if a < b then -1 else if b < a then 1 else 0
theorem cmpI_cases (a b : Int) : (a < b ∧ cmpI a b = -1) ∨ (b < a ∧ cmpI a b = 1) ∨ (a = b ∧ cmpI a b = 0) := by
  unfold cmpI
  by_cases h : a < b
  · exact .inl ⟨h, if_pos h⟩
  · by_cases h2 : b < a
    · exact .inr (.inl ⟨h2, by rw [if_neg h, if_pos h2]⟩)
    · exact .inr (.inr ⟨by omega, by rw [if_neg h, if_neg h2]⟩)
theorem cmpL_eq (a b : Lab) : cmpL a b = if cmpI a.1 b.1 ≠ 0 then cmpI a.1 b.1 else cmpI a.2 b.2 := by
  unfold cmpL cmpI
  by_cases h1 : a.1 < b.1
  · simp [h1]
  · by_cases h2 : b.1 < a.1
    · simp [h1, h2]
    · simp [h1, h2]
/-- one label lies below another -/
def setIn (a b : Int) : Bool := (a.toNat &&& b.toNat) == a.toNat
def belowB (a b : Lab) : Bool := decide (a.1 ≤ b.1) && setIn a.2 b.2
end M
theorem isNaN_l (n : Int) (w : World) : Calls Tryz.prog 163 #[.int .i64 n] w fun e w' => e = .returned (.bool false) ∧ w' = w := by
  have h : (n != n) = false := by simp
  go_enter Tryz.func163, Tryz.ntmps163
  go_wp2
  go_ret
  exact ⟨rfl, rfl⟩
theorem compare_l (a b : Int) (w : World) : Calls Tryz.prog 138 #[.int .i64 a, .int .i64 b] w fun e w' => e = .returned (.int .i64 (cmpI a b)) ∧ w' = w := by
  rcases cmpI_cases a b with ⟨h, h2⟩ | ⟨h, h2⟩ | ⟨h, h2⟩
  · rw [h2]
    clear h2
    go_enter Tryz.func138, Tryz.ntmps138
    go_wp2_with (go_at_call 163; refine (isNaN_l _ _).mono ?_; rintro e w' ⟨rfl, rfl⟩)
    go_ret
    exact ⟨rfl, rfl⟩
  · have h' : ¬ a < b := by omega
    rw [h2]
    clear h2
    go_enter Tryz.func138, Tryz.ntmps138
    go_wp2_with (go_at_call 163; refine (isNaN_l _ _).mono ?_; rintro e w' ⟨rfl, rfl⟩)
    go_ret
    exact ⟨rfl, rfl⟩
  · have h' : ¬ a < b := by omega
    have h3 : ¬ b < a := by omega
    rw [h2]
    clear h2 h
    go_enter Tryz.func138, Tryz.ntmps138
    go_wp2_with (go_at_call 163; refine (isNaN_l _ _).mono ?_; rintro e w' ⟨rfl, rfl⟩)
    go_ret
    exact ⟨rfl, rfl⟩
theorem or_l (a b : Int) (g : Nat) (w : World) (h0 : w.cell? ⟨g, 0, none⟩ = some (.int .i64 a)) (h1 : w.cell? ⟨g, 1, none⟩ = some (.int .i64 b)) : Calls Tryz.prog 137 #[.slice (some ⟨g, 0, none⟩) 2 2] w fun e w' => e = .returned (.int .i64 (if a ≠ 0 then a else b)) ∧ w' = w := by
  by_cases ha : a = 0
  · have e : (if a ≠ 0 then a else b) = b := if_neg (by simpa using ha)
    rw [e]
    subst ha
    by_cases hb : b = 0
    · subst hb
      clear e
      go_enter Tryz.func137, Tryz.ntmps137
      go_wp2
      refine wp_loop_rounds 3 ?_
      rw [rounds_succ]
      go_wp2
      rw [rounds_succ]
      go_wp2
      rw [rounds_succ]
      go_wp2
      go_ret
      exact ⟨rfl, rfl⟩
    · have hb1 : (b != 0) = true := by simpa using hb
      clear e
      go_enter Tryz.func137, Tryz.ntmps137
      go_wp2
      refine wp_loop_rounds 3 ?_
      rw [rounds_succ]
      go_wp2
      rw [rounds_succ]
      go_wp2
      go_ret
      exact ⟨rfl, rfl⟩
  · have e : (if a ≠ 0 then a else b) = a := if_pos ha
    rw [e]
    have ha1 : (a != 0) = true := by simpa using ha
    clear e ha
    go_enter Tryz.func137, Tryz.ntmps137
    go_wp2
    refine wp_loop_rounds 3 ?_
    rw [rounds_succ]
    go_wp2
    go_ret
    exact ⟨rfl, rfl⟩
theorem gr_end {W w1 w2 : World} {os : Array Obj} {o : Obj} (h2 : w2 = w1.drewN 1) (h1 : w1 = Sort.grow W os) : w2.alloc o = Sort.grow (W.drewN 1) (os ++ #[o]) := by
  rw [h2, h1]
  show (Sort.grow (W.drewN 1) os).alloc o = _
  rw [Sort.alloc_eq_grow, Sort.grow_grow]
/-- a call that gives a value, draws and makes blocks of its own -/
def GPost (W : World) (v : Value) : Ending → World → Prop := fun e w' => e = .returned v ∧ ∃ q os', w' = Sort.grow (W.drewN q) os'
set_option maxRecDepth 100000 in
set_option maxHeartbeats 4000000 in
/-- .. in whatever world: draws, blocks of its own -/
theorem compareLabels_grow (a b : Lab) (W : World) : Calls Tryz.prog 103 #[.agg #[.int .i64 a.1, .int .i64 a.2], .agg #[.int .i64 b.1, .int .i64 b.2]] W (GPost W (.int .i64 (cmpL a b))) := by
  rw [cmpL_eq]
  obtain ⟨a1, a2⟩ := a
  obtain ⟨b1, b2⟩ := b
  have h1 := compare_l a1 b1
  have h2 := compare_l a2 b2
  simp only
  generalize cmpI a1 b1 = x at *
  generalize cmpI a2 b2 = y at *
  have hO := fun g w h0 h1 => or_l x y g w h0 h1
  generalize (if x ≠ 0 then x else y) = z at hO ⊢
  go_enter Tryz.func103, Tryz.ntmps103
  go_wp2_with fail
  refine wp_world ?_
  intro w1 hw1
  have e1 : w1 = Sort.grow W #[.cells #[.int .i64 a1, .int .i64 a2] 96, .cells #[.int .i64 b1, .int .i64 b2] 96] := by
    rw [hw1, Sort.alloc_eq_grow, Sort.alloc_eq_grow, Sort.grow_grow]; rfl
  have c0 : ({ w1 with drawn := w1.drawn + 1 } : World).cell? ⟨W.heap.size, 0, none⟩ = some (.int .i64 a1) := by show w1.cell? _ = _; rw [hw1]; simp
  have c1 : ({ w1 with drawn := w1.drawn + 1 } : World).cell? ⟨W.heap.size, 1, none⟩ = some (.int .i64 a2) := by show w1.cell? _ = _; rw [hw1]; simp
  have d0 : ({ w1 with drawn := w1.drawn + 1 } : World).cell? ⟨W.heap.size + 1, 0, none⟩ = some (.int .i64 b1) := by show w1.cell? _ = _; rw [hw1]; simp
  have d1 : ({ w1 with drawn := w1.drawn + 1 } : World).cell? ⟨W.heap.size + 1, 1, none⟩ = some (.int .i64 b2) := by show w1.cell? _ = _; rw [hw1]; simp
  have E1 := Lib.hid e1
  clear hw1 e1
  refine wp_region_still_tail 10 (by kernel_rfl) (by kernel_rfl) ?_
  obtain ⟨w2, hw2⟩ : ∃ w2, w2 = ({ w1 with drawn := w1.drawn + 1 } : World) := ⟨_, rfl⟩
  rw [← hw2] at c0 c1 d0 d1 ⊢
  have E2 : Hid (w2 = w1.drewN 1) := Lib.hid hw2
  clear hw2
  simp only [List.take_succ_cons, List.take_zero, List.drop_succ_cons, List.drop_zero]
  iterate 4 still_step
  still_call (h1 _)
  iterate 4 still_step
  still_call (h2 _)
  refine wpStill_nil ?_
  clear h1 h2
  go_wp2_with fail
  refine (hO _ _ (by simp) (by simp)).mono ?_
  rintro e w' ⟨rfl, rfl⟩
  go_wp2
  go_ret
  exact ⟨rfl, 1, _, gr_end E2.out E1.out⟩
theorem gpost_gives {W : World} {v : Value} {P : Program} {f : FuncId} {args : Array Value} (h : Calls P f args W (GPost W v)) : Gives P f args W v :=
  h.mono fun _ _ ⟨he, q, os, hw⟩ => ⟨he, by
    subst hw
    exact ⟨rfl, rfl, rfl, by simp [Sort.grow, World.drewN], fun k hk => Sort.heap_grow_old (W.drewN q) os hk⟩⟩
theorem compareLabels_i (a b : Lab) (w : World) : Gives Tryz.prog 103 #[.agg #[.int .i64 a.1, .int .i64 a.2], .agg #[.int .i64 b.1, .int .i64 b.2]] w (.int .i64 (cmpL a b)) := gpost_gives (compareLabels_grow a b w)
theorem bits_sub : ∀ a b : Fin 8, (bits .andNot .i64 (a.val : Int) (b.val : Int) == 0) = setIn (a.val : Int) (b.val : Int) := by decide +kernel
theorem bits_meet : ∀ a b : Fin 8, (bits .and .i64 (a.val : Int) (b.val : Int) == (a.val : Int)) = setIn (a.val : Int) (b.val : Int) := by decide +kernel
theorem fin8 {a : Int} (h : 0 ≤ a ∧ a ≤ 7) : ∃ x : Fin 8, (x.val : Int) = a := ⟨⟨a.toNat, by omega⟩, by show ((a.toNat : Nat) : Int) = a; omega⟩
theorem lab_set {a : Lab} (h : labelOk a.1 a.2 = true) : (0 ≤ a.1 ∧ a.1 ≤ 3) ∧ (0 ≤ a.2 ∧ a.2 ≤ 7) := by
  unfold labelOk isIn at h
  simp at h
  exact h
theorem bits_i {a b : Int} (ha : 0 ≤ a ∧ a ≤ 7) (hb : 0 ≤ b ∧ b ≤ 7) : (bits .andNot .i64 a b == 0) = setIn a b := by
  obtain ⟨x, rfl⟩ := fin8 ha
  obtain ⟨y, rfl⟩ := fin8 hb
  exact bits_sub x y
theorem bits_s {a b : Int} (ha : 0 ≤ a ∧ a ≤ 7) (hb : 0 ≤ b ∧ b ≤ 7) : (bits .and .i64 a b == a) = setIn a b := by
  obtain ⟨x, rfl⟩ := fin8 ha
  obtain ⟨y, rfl⟩ := fin8 hb
  exact bits_meet x y
set_option maxRecDepth 100000 in
set_option maxHeartbeats 4000000 in
theorem below_i (a b : Lab) (ha : labelOk a.1 a.2 = true) (hb : labelOk b.1 b.2 = true) (w : World) : Gives Tryz.prog 117 #[.agg #[.int .i64 a.1, .int .i64 a.2], .agg #[.int .i64 b.1, .int .i64 b.2]] w (.bool (belowB a b)) := by
  have hq := bits_i (lab_set ha).2 (lab_set hb).2
  obtain ⟨a1, a2⟩ := a
  obtain ⟨b1, b2⟩ := b
  unfold Gives
  have H := Hs.start noRow w
  clear ha hb
  by_cases h : a1 ≤ b1
  · have HB : Hid (belowB (a1, a2) (b1, b2) = setIn a2 b2) := Lib.hid (by unfold belowB; simp [h])
    have HQ := Lib.hid hq
    clear hq
    rw [HB.out, ← HQ.out]
    go_enter Tryz.func117, Tryz.ntmps117
    go_wp2_with (first | ((first | ((with_reducible refine st_gwT ?_ ?_); rfl) | ((with_reducible refine st_gwF ?_ ?_); rfl) | ((with_reducible refine st_gsT ?_ ?_); rfl) | ((with_reducible refine st_gsF ?_ ?_); rfl)); (try simp only [Act.put, yA, yB, yC, yD, yE, yF])) | ((with_reducible refine' st_guard ?_ ?_ ?_); rotate_left; rfl; (all_goals (intro hgd; cases hgd)); (try simp only [Act.put, yA, yB, yC, yD, yE, yF])) | ((with_reducible apply st_want); rfl) | ((with_reducible refine st_skip ?_ ?_); rfl; simp only [Act.put, yA, yB, yC, yD, yE, yF]) | ((first | ((with_reducible apply st_load1 H); decide +kernel; rfl; exact cF) | ((with_reducible apply st_loads H); decide +kernel; rfl; exact iF; exact zF; rfl)); clear H; intro wn H; (try simp only [splice, yG, yH, yI, yJ, yK, yL, yM, yN, yO, yP, yQ, Nat.reduceAdd, yA, yB, yC] at H); simp only [Act.put, yA, yB, yC, yD, yE, yF]) | ((first | ((with_reducible apply st_box (dst := some 2) H); exact nF; intro b2) | ((with_reducible apply st_box (dst := some 3) H); exact nF; intro b3) | ((with_reducible apply st_strsum H); rfl; rfl; exact szF; kernel_rfl) | ((with_reducible apply st_loadat H); decide +kernel; rfl; exact aF; exact zF; rfl)); clear H; intro wn H; simp only [Act.put, yA, yB, yC, yD, yE, yF]) | fail)
    go_ret
    exact ⟨rfl, H.below⟩
  · have HB : Hid (belowB (a1, a2) (b1, b2) = false) := Lib.hid (by unfold belowB; simp [h])
    clear hq
    rw [HB.out]
    go_enter Tryz.func117, Tryz.ntmps117
    go_wp2_with (first | ((first | ((with_reducible refine st_gwT ?_ ?_); rfl) | ((with_reducible refine st_gwF ?_ ?_); rfl) | ((with_reducible refine st_gsT ?_ ?_); rfl) | ((with_reducible refine st_gsF ?_ ?_); rfl)); (try simp only [Act.put, yA, yB, yC, yD, yE, yF])) | ((with_reducible refine' st_guard ?_ ?_ ?_); rotate_left; rfl; (all_goals (intro hgd; cases hgd)); (try simp only [Act.put, yA, yB, yC, yD, yE, yF])) | ((with_reducible apply st_want); rfl) | ((with_reducible refine st_skip ?_ ?_); rfl; simp only [Act.put, yA, yB, yC, yD, yE, yF]) | ((first | ((with_reducible apply st_load1 H); decide +kernel; rfl; exact cF) | ((with_reducible apply st_loads H); decide +kernel; rfl; exact iF; exact zF; rfl)); clear H; intro wn H; (try simp only [splice, yG, yH, yI, yJ, yK, yL, yM, yN, yO, yP, yQ, Nat.reduceAdd, yA, yB, yC] at H); simp only [Act.put, yA, yB, yC, yD, yE, yF]) | ((first | ((with_reducible apply st_box (dst := some 2) H); exact nF; intro b2) | ((with_reducible apply st_box (dst := some 3) H); exact nF; intro b3) | ((with_reducible apply st_strsum H); rfl; rfl; exact szF; kernel_rfl) | ((with_reducible apply st_loadat H); decide +kernel; rfl; exact aF; exact zF; rfl)); clear H; intro wn H; simp only [Act.put, yA, yB, yC, yD, yE, yF]) | fail)
    go_ret
    exact ⟨rfl, H.below⟩
set_option maxRecDepth 100000 in
set_option maxHeartbeats 4000000 in
theorem below_s (a b : Lab) (ha : labelOk a.1 a.2 = true) (hb : labelOk b.1 b.2 = true) (w : World) : Gives Tryz.prog 109 #[.agg #[.int .i64 a.1, .int .i64 a.2], .agg #[.int .i64 b.1, .int .i64 b.2]] w (.bool (belowB a b)) := by
  have hq := bits_s (lab_set ha).2 (lab_set hb).2
  obtain ⟨a1, a2⟩ := a
  obtain ⟨b1, b2⟩ := b
  unfold Gives
  have H := Hs.start noRow w
  clear ha hb
  by_cases h : a1 ≤ b1
  · have HB : Hid (belowB (a1, a2) (b1, b2) = setIn a2 b2) := Lib.hid (by unfold belowB; simp [h])
    have HQ := Lib.hid hq
    clear hq
    rw [HB.out, ← HQ.out]
    go_enter Tryz.func109, Tryz.ntmps109
    go_wp2_with (first | ((first | ((with_reducible refine st_gwT ?_ ?_); rfl) | ((with_reducible refine st_gwF ?_ ?_); rfl) | ((with_reducible refine st_gsT ?_ ?_); rfl) | ((with_reducible refine st_gsF ?_ ?_); rfl)); (try simp only [Act.put, yA, yB, yC, yD, yE, yF])) | ((with_reducible refine' st_guard ?_ ?_ ?_); rotate_left; rfl; (all_goals (intro hgd; cases hgd)); (try simp only [Act.put, yA, yB, yC, yD, yE, yF])) | ((with_reducible apply st_want); rfl) | ((with_reducible refine st_skip ?_ ?_); rfl; simp only [Act.put, yA, yB, yC, yD, yE, yF]) | ((first | ((with_reducible apply st_load1 H); decide +kernel; rfl; exact cF) | ((with_reducible apply st_loads H); decide +kernel; rfl; exact iF; exact zF; rfl)); clear H; intro wn H; (try simp only [splice, yG, yH, yI, yJ, yK, yL, yM, yN, yO, yP, yQ, Nat.reduceAdd, yA, yB, yC] at H); simp only [Act.put, yA, yB, yC, yD, yE, yF]) | ((first | ((with_reducible apply st_box (dst := some 2) H); exact nF; intro b2) | ((with_reducible apply st_box (dst := some 3) H); exact nF; intro b3) | ((with_reducible apply st_strsum H); rfl; rfl; exact szF; kernel_rfl) | ((with_reducible apply st_loadat H); decide +kernel; rfl; exact aF; exact zF; rfl)); clear H; intro wn H; simp only [Act.put, yA, yB, yC, yD, yE, yF]) | fail)
    go_ret
    exact ⟨rfl, H.below⟩
  · have HB : Hid (belowB (a1, a2) (b1, b2) = false) := Lib.hid (by unfold belowB; simp [h])
    clear hq
    rw [HB.out]
    go_enter Tryz.func109, Tryz.ntmps109
    go_wp2_with (first | ((first | ((with_reducible refine st_gwT ?_ ?_); rfl) | ((with_reducible refine st_gwF ?_ ?_); rfl) | ((with_reducible refine st_gsT ?_ ?_); rfl) | ((with_reducible refine st_gsF ?_ ?_); rfl)); (try simp only [Act.put, yA, yB, yC, yD, yE, yF])) | ((with_reducible refine' st_guard ?_ ?_ ?_); rotate_left; rfl; (all_goals (intro hgd; cases hgd)); (try simp only [Act.put, yA, yB, yC, yD, yE, yF])) | ((with_reducible apply st_want); rfl) | ((with_reducible refine st_skip ?_ ?_); rfl; simp only [Act.put, yA, yB, yC, yD, yE, yF]) | ((first | ((with_reducible apply st_load1 H); decide +kernel; rfl; exact cF) | ((with_reducible apply st_loads H); decide +kernel; rfl; exact iF; exact zF; rfl)); clear H; intro wn H; (try simp only [splice, yG, yH, yI, yJ, yK, yL, yM, yN, yO, yP, yQ, Nat.reduceAdd, yA, yB, yC] at H); simp only [Act.put, yA, yB, yC, yD, yE, yF]) | ((first | ((with_reducible apply st_box (dst := some 2) H); exact nF; intro b2) | ((with_reducible apply st_box (dst := some 3) H); exact nF; intro b3) | ((with_reducible apply st_strsum H); rfl; rfl; exact szF; kernel_rfl) | ((with_reducible apply st_loadat H); decide +kernel; rfl; exact aF; exact zF; rfl)); clear H; intro wn H; simp only [Act.put, yA, yB, yC, yD, yE, yF]) | fail)
    go_ret
    exact ⟨rfl, H.below⟩
end Go.Proofs.YtjklmldchbakjaaGreat
