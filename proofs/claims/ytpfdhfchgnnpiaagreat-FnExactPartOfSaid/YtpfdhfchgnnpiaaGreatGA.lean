/-
  Labels compared, and their order: the walks.
-/
import Derived.Test.YtpfdhfchgnnpiaaGreatHa
import Derived.Test.YtpfdhfchgnnpiaaGreatO0
import Derived.StillTail
import Derived.StillTailTactics
import Derived.Sort.Grow
import Derived.Shelf.Abstract
set_option linter.unusedSimpArgs false
set_option linter.unusedVariables false
namespace Go.Proofs.YtpfdhfchgnnpiaaGreat
open Go.RowKit M
namespace M
/-- the order of labels, as a number -/
def cmpL (a b : Lab) : Int := if a.1 < b.1 then -1 else if b.1 < a.1 then 1 else if a.2 < b.2 then -1 else if b.2 < a.2 then 1 else 0
def cmpI (a b : Int) : Int := if a < b then -1 else if b < a then 1 else 0
theorem cmpI_cases (a b : Int) : (a < b ∧ cmpI a b = -1) ∨ (b < a ∧ cmpI a b = 1) ∨ (a = b ∧ cmpI a b = 0) := by
  unfold cmpI
  by_cases h : a < b
  · exact .inl ⟨h, if_pos h⟩
  · by_cases h2 : b < a
    · exact .inr (.inl ⟨h2, by rw [if_neg h, if_pos h2]⟩)
    · exact .inr (.inr ⟨by omega, by rw [if_neg h, if_neg h2]⟩)
theorem cmpL_eq (a b : Lab) : cmpL a b = if cmpI a.1 b.1 ≠ 0 then cmpI a.1 b.1 else cmpI a.2 b.2 := by
  unfold cmpL cmpI
  by_cases h1 : a.1 < b.1
  · simp [h1]
  · by_cases h2 : b.1 < a.1
    · simp [h1, h2]
    · simp [h1, h2]
/-- one label lies below another -/
def setIn (a b : Int) : Bool := (a.toNat &&& b.toNat) == a.toNat
def belowB (a b : Lab) : Bool := decide (a.1 ≤ b.1) && setIn a.2 b.2
end M
theorem isNaN_l (n : Int) (w : World) : Calls Tryz.prog 208 #[.int .i64 n] w fun e w' => e = .returned (.bool false) ∧ w' = w := by
  have h : (n != n) = false := by simp
  go_enter Tryz.func208, Tryz.ntmps208
  go_wp2
  go_ret
  exact ⟨rfl, rfl⟩
theorem compare_l (a b : Int) (w : World) : Calls Tryz.prog 167 #[.int .i64 a, .int .i64 b] w fun e w' => e = .returned (.int .i64 (cmpI a b)) ∧ w' = w := by
  rcases cmpI_cases a b with ⟨h, h2⟩ | ⟨h, h2⟩ | ⟨h, h2⟩
  · rw [h2]
    clear h2
    go_enter Tryz.func167, Tryz.ntmps167
    go_wp2_with (go_at_call 208; refine (isNaN_l _ _).mono ?_; rintro e w' ⟨rfl, rfl⟩)
    go_ret
    exact ⟨rfl, rfl⟩
  · have h' : ¬ a < b := by omega
    rw [h2]
    clear h2
    go_enter Tryz.func167, Tryz.ntmps167
    go_wp2_with (go_at_call 208; refine (isNaN_l _ _).mono ?_; rintro e w' ⟨rfl, rfl⟩)
    go_ret
    exact ⟨rfl, rfl⟩
  · have h' : ¬ a < b := by omega
    have h3 : ¬ b < a := by omega
    rw [h2]
    clear h2 h
    go_enter Tryz.func167, Tryz.ntmps167
    go_wp2_with (go_at_call 208; refine (isNaN_l _ _).mono ?_; rintro e w' ⟨rfl, rfl⟩)
    go_ret
    exact ⟨rfl, rfl⟩
theorem or_l (a b : Int) (g : Nat) (w : World) (h0 : w.cell? ⟨g, 0, none⟩ = some (.int .i64 a)) (h1 : w.cell? ⟨g, 1, none⟩ = some (.int .i64 b)) : Calls Tryz.prog 166 #[.slice (some ⟨g, 0, none⟩) 2 2] w fun e w' => e = .returned (.int .i64 (if a ≠ 0 then a else b)) ∧ w' = w := by
  by_cases ha : a = 0
  · have e : (if a ≠ 0 then a else b) = b := if_neg (by simpa using ha)
    rw [e]
    subst ha
    by_cases hb : b = 0
    · subst hb
      clear e
      go_enter Tryz.func166, Tryz.ntmps166
      go_wp2
      refine wp_loop_rounds 3 ?_
      rw [rounds_succ]
      go_wp2
      rw [rounds_succ]
      go_wp2
      rw [rounds_succ]
      go_wp2
      go_ret
      exact ⟨rfl, rfl⟩
    · have hb1 : (b != 0) = true := by simpa using hb
      clear e
      go_enter Tryz.func166, Tryz.ntmps166
      go_wp2
      refine wp_loop_rounds 3 ?_
      rw [rounds_succ]
      go_wp2
      rw [rounds_succ]
      go_wp2
      go_ret
      exact ⟨rfl, rfl⟩
  · have e : (if a ≠ 0 then a else b) = a := if_pos ha
    rw [e]
    have ha1 : (a != 0) = true := by simpa using ha
    clear e ha
    go_enter Tryz.func166, Tryz.ntmps166
    go_wp2
    refine wp_loop_rounds 3 ?_
    rw [rounds_succ]
    go_wp2
    go_ret
    exact ⟨rfl, rfl⟩
theorem gr_end {W w1 w2 : World} {os : Array Obj} {o : Obj} (h2 : w2 = w1.drewN 1) (h1 : w1 = Sort.grow W os) : w2.alloc o = Sort.grow (W.drewN 1) (os ++ #[o]) := by
  rw [h2, h1]
  show (Sort.grow (W.drewN 1) os).alloc o = _
  rw [Sort.alloc_eq_grow, Sort.grow_grow]
/-- a call that gives a value, draws and makes blocks of its own -/
def GPost (W : World) (v : Value) : Ending → World → Prop := fun e w' => e = .returned v ∧ ∃ q os', w' = Sort.grow (W.drewN q) os'
set_option maxRecDepth 100000 in
set_option maxHeartbeats 4000000 in
/-- .. in whatever world: draws, blocks of its own -/
theorem compareLabels_grow (a b : Lab) (W : World) : Calls Tryz.prog 100 #[.agg #[.int .i64 a.1, .int .i64 a.2], .agg #[.int .i64 b.1, .int .i64 b.2]] W (GPost W (.int .i64 (cmpL a b))) := by
  rw [cmpL_eq]
  obtain ⟨a1, a2⟩ := a
  obtain ⟨b1, b2⟩ := b
  have h1 := compare_l a1 b1
  have h2 := compare_l a2 b2
  simp only
  generalize cmpI a1 b1 = x at *
  generalize cmpI a2 b2 = y at *
  have hO := fun g w h0 h1 => or_l x y g w h0 h1
  generalize (if x ≠ 0 then x else y) = z at hO ⊢
  go_enter Tryz.func100, Tryz.ntmps100
  go_wp2_with fail
  refine wp_world ?_
  intro w1 hw1
  have e1 : w1 = Sort.grow W #[.cells #[.int .i64 a1, .int .i64 a2] 66, .cells #[.int .i64 b1, .int .i64 b2] 66] := by
    rw [hw1, Sort.alloc_eq_grow, Sort.alloc_eq_grow, Sort.grow_grow]; rfl
  have c0 : ({ w1 with drawn := w1.drawn + 1 } : World).cell? ⟨W.heap.size, 0, none⟩ = some (.int .i64 a1) := by show w1.cell? _ = _; rw [hw1]; simp
  have c1 : ({ w1 with drawn := w1.drawn + 1 } : World).cell? ⟨W.heap.size, 1, none⟩ = some (.int .i64 a2) := by show w1.cell? _ = _; rw [hw1]; simp
  have d0 : ({ w1 with drawn := w1.drawn + 1 } : World).cell? ⟨W.heap.size + 1, 0, none⟩ = some (.int .i64 b1) := by show w1.cell? _ = _; rw [hw1]; simp
  have d1 : ({ w1 with drawn := w1.drawn + 1 } : World).cell? ⟨W.heap.size + 1, 1, none⟩ = some (.int .i64 b2) := by show w1.cell? _ = _; rw [hw1]; simp
  have E1 := Lib.hid e1
  clear hw1 e1
  refine wp_region_still_tail 10 (by kernel_rfl) (by kernel_rfl) ?_
  obtain ⟨w2, hw2⟩ : ∃ w2, w2 = ({ w1 with drawn := w1.drawn + 1 } : World) := ⟨_, rfl⟩
  rw [← hw2] at c0 c1 d0 d1 ⊢
  have E2 : Hid (w2 = w1.drewN 1) := Lib.hid hw2
  clear hw2
  simp only [List.take_succ_cons, List.take_zero, List.drop_succ_cons, List.drop_zero]
  iterate 4 still_step
  still_call (h1 _)
  iterate 4 still_step
  still_call (h2 _)
  refine wpStill_nil ?_
  clear h1 h2
  go_wp2_with fail
  refine (hO _ _ (by simp) (by simp)).mono ?_
  rintro e w' ⟨rfl, rfl⟩
  go_wp2
  go_ret
  exact ⟨rfl, 1, _, gr_end E2.out E1.out⟩
theorem gpost_gives {W : World} {v : Value} {P : Program} {f : FuncId} {args : Array Value} (h : Calls P f args W (GPost W v)) : Gives P f args W v :=
  h.mono fun _ _ ⟨he, q, os, hw⟩ => ⟨he, by
    subst hw
    exact ⟨rfl, rfl, rfl, by simp [Sort.grow, World.drewN], fun k hk => Sort.heap_grow_old (W.drewN q) os hk⟩⟩
theorem compareLabels_i (a b : Lab) (w : World) : Gives Tryz.prog 100 #[.agg #[.int .i64 a.1, .int .i64 a.2], .agg #[.int .i64 b.1, .int .i64 b.2]] w (.int .i64 (cmpL a b)) := gpost_gives (compareLabels_grow a b w)
theorem bits_sub : ∀ a b : Fin 8, (bits .andNot .i64 (a.val : Int) (b.val : Int) == 0) = setIn (a.val : Int) (b.val : Int) := by decide +kernel
theorem bits_meet : ∀ a b : Fin 8, (bits .and .i64 (a.val : Int) (b.val : Int) == (a.val : Int)) = setIn (a.val : Int) (b.val : Int) := by decide +kernel
theorem fin8 {a : Int} (h : 0 ≤ a ∧ a ≤ 7) : ∃ x : Fin 8, (x.val : Int) = a := ⟨⟨a.toNat, by omega⟩, by show ((a.toNat : Nat) : Int) = a; omega⟩
theorem lab_set {a : Lab} (h : labelOk a.1 a.2 = true) : (0 ≤ a.1 ∧ a.1 ≤ 3) ∧ (0 ≤ a.2 ∧ a.2 ≤ 7) := by
  unfold labelOk isIn at h
  simp at h
  exact h
theorem bits_i {a b : Int} (ha : 0 ≤ a ∧ a ≤ 7) (hb : 0 ≤ b ∧ b ≤ 7) : (bits .andNot .i64 a b == 0) = setIn a b := by
  obtain ⟨x, rfl⟩ := fin8 ha
  obtain ⟨y, rfl⟩ := fin8 hb
  exact bits_sub x y
theorem bits_s {a b : Int} (ha : 0 ≤ a ∧ a ≤ 7) (hb : 0 ≤ b ∧ b ≤ 7) : (bits .and .i64 a b == a) = setIn a b := by
  obtain ⟨x, rfl⟩ := fin8 ha
  obtain ⟨y, rfl⟩ := fin8 hb
  exact bits_meet x y
set_option maxRecDepth 100000 in
set_option maxHeartbeats 4000000 in
theorem below_i (a b : Lab) (ha : labelOk a.1 a.2 = true) (hb : labelOk b.1 b.2 = true) (w : World) : Gives Tryz.prog 186 #[.agg #[.int .i64 a.1, .int .i64 a.2], .agg #[.int .i64 b.1, .int .i64 b.2]] w (.bool (belowB a b)) := by
  have hq := bits_i (lab_set ha).2 (lab_set hb).2
  obtain ⟨a1, a2⟩ := a
  obtain ⟨b1, b2⟩ := b
  unfold Gives
  have H := Hs.start noRow w
  clear ha hb
  by_cases h : a1 ≤ b1
  · have HB : Hid (belowB (a1, a2) (b1, b2) = setIn a2 b2) := Lib.hid (by unfold belowB; simp [h])
    have HQ := Lib.hid hq
    clear hq
    rw [HB.out, ← HQ.out]
    go_enter Tryz.func186, Tryz.ntmps186
    go_wp2_with (first | ((with_reducible refine' st_guard ?_ ?_ ?_); rotate_left; rfl; (all_goals (intro hgd; cases hgd)); (try simp only [Act.put, yA, yB, yC, yD, yE, yF])) | ((((with_reducible apply st_load1 H); decide +kernel; rfl; exact cF)); clear H; intro wn H; (try simp only [splice, yG, yH, yI, yJ, yK, yL, yM, yN, yO, yP, yQ, Nat.reduceAdd, yA, yB, yC] at H); simp only [Act.put, yA, yB, yC, yD, yE, yF]) | ((first | ((with_reducible apply st_box (dst := some 2) H); exact nF; intro b2) | ((with_reducible apply st_box (dst := some 3) H); exact nF; intro b3)); clear H; intro wn H; simp only [Act.put, yA, yB, yC, yD, yE, yF]))
    go_ret
    exact ⟨rfl, H.below⟩
  · have HB : Hid (belowB (a1, a2) (b1, b2) = false) := Lib.hid (by unfold belowB; simp [h])
    clear hq
    rw [HB.out]
    go_enter Tryz.func186, Tryz.ntmps186
    go_wp2_with (first | ((with_reducible refine' st_guard ?_ ?_ ?_); rotate_left; rfl; (all_goals (intro hgd; cases hgd)); (try simp only [Act.put, yA, yB, yC, yD, yE, yF])) | ((((with_reducible apply st_load1 H); decide +kernel; rfl; exact cF)); clear H; intro wn H; (try simp only [splice, yG, yH, yI, yJ, yK, yL, yM, yN, yO, yP, yQ, Nat.reduceAdd, yA, yB, yC] at H); simp only [Act.put, yA, yB, yC, yD, yE, yF]) | ((first | ((with_reducible apply st_box (dst := some 2) H); exact nF; intro b2) | ((with_reducible apply st_box (dst := some 3) H); exact nF; intro b3)); clear H; intro wn H; simp only [Act.put, yA, yB, yC, yD, yE, yF]))
    go_ret
    exact ⟨rfl, H.below⟩
set_option maxRecDepth 100000 in
set_option maxHeartbeats 4000000 in
theorem below_s (a b : Lab) (ha : labelOk a.1 a.2 = true) (hb : labelOk b.1 b.2 = true) (w : World) : Gives Tryz.prog 177 #[.agg #[.int .i64 a.1, .int .i64 a.2], .agg #[.int .i64 b.1, .int .i64 b.2]] w (.bool (belowB a b)) := by
  have hq := bits_s (lab_set ha).2 (lab_set hb).2
  obtain ⟨a1, a2⟩ := a
  obtain ⟨b1, b2⟩ := b
  unfold Gives
  have H := Hs.start noRow w
  clear ha hb
  by_cases h : a1 ≤ b1
  · have HB : Hid (belowB (a1, a2) (b1, b2) = setIn a2 b2) := Lib.hid (by unfold belowB; simp [h])
    have HQ := Lib.hid hq
    clear hq
    rw [HB.out, ← HQ.out]
    go_enter Tryz.func177, Tryz.ntmps177
    go_wp2_with (first | ((with_reducible refine' st_guard ?_ ?_ ?_); rotate_left; rfl; (all_goals (intro hgd; cases hgd)); (try simp only [Act.put, yA, yB, yC, yD, yE, yF])) | ((((with_reducible apply st_load1 H); decide +kernel; rfl; exact cF)); clear H; intro wn H; (try simp only [splice, yG, yH, yI, yJ, yK, yL, yM, yN, yO, yP, yQ, Nat.reduceAdd, yA, yB, yC] at H); simp only [Act.put, yA, yB, yC, yD, yE, yF]) | ((first | ((with_reducible apply st_box (dst := some 2) H); exact nF; intro b2) | ((with_reducible apply st_box (dst := some 3) H); exact nF; intro b3)); clear H; intro wn H; simp only [Act.put, yA, yB, yC, yD, yE, yF]))
    go_ret
    exact ⟨rfl, H.below⟩
  · have HB : Hid (belowB (a1, a2) (b1, b2) = false) := Lib.hid (by unfold belowB; simp [h])
    clear hq
    rw [HB.out]
    go_enter Tryz.func177, Tryz.ntmps177
    go_wp2_with (first | ((with_reducible refine' st_guard ?_ ?_ ?_); rotate_left; rfl; (all_goals (intro hgd; cases hgd)); (try simp only [Act.put, yA, yB, yC, yD, yE, yF])) | ((((with_reducible apply st_load1 H); decide +kernel; rfl; exact cF)); clear H; intro wn H; (try simp only [splice, yG, yH, yI, yJ, yK, yL, yM, yN, yO, yP, yQ, Nat.reduceAdd, yA, yB, yC] at H); simp only [Act.put, yA, yB, yC, yD, yE, yF]) | ((first | ((with_reducible apply st_box (dst := some 2) H); exact nF; intro b2) | ((with_reducible apply st_box (dst := some 3) H); exact nF; intro b3)); clear H; intro wn H; simp only [Act.put, yA, yB, yC, yD, yE, yF]))
    go_ret
    exact ⟨rfl, H.below⟩
end Go.Proofs.YtpfdhfchgnnpiaaGreat
namespace Go.Proofs.YtpfdhfchgnnpiaaGreat
open Go.RowKit M
namespace M
/-- the place of the first of which p holds; -1: there is none -/
def idxF {α : Type} (p : α → Bool) : Nat → List α → Int
  | _, [] => -1
  | k, a :: l => if p a then k else idxF p (k + 1) l
theorem idxF_ge {α : Type} (p : α → Bool) (l : List α) : ∀ k, decide ((0 : Int) ≤ idxF p k l) = l.any p := by
  induction l with
  | nil => intro k; rfl
  | cons a l ih =>
    intro k
    unfold idxF
    cases h : p a
    · simp only [Bool.false_eq_true, if_false, List.any_cons, h, Bool.false_or]; exact ih (k + 1)
    · simp [h]
theorem idxF_drop {α : Type} {p : α → Bool} {l : List α} {i : Nat} {a : α} (h : l[i]? = some a) : idxF p i (l.drop i) = if p a then (i : Int) else idxF p (i + 1) (l.drop (i + 1)) := by
  obtain ⟨hlt, rfl⟩ := List.getElem?_eq_some_iff.1 h
  rw [List.drop_eq_getElem_cons hlt]
  rfl
end M

set_option maxRecDepth 100000 in
set_option maxHeartbeats 4000000 in
theorem indexFunc_Lab (v : Value) (l : List (Lab)) (p : Lab → Bool) (g : Nat) (lb : Array Value) (w : World) (eg : ∀ args w, (callFunc g args).run Tryz.prog w = .ok (.enter g args) w) (hr : (Ty.sl 66 tyLab).rd w [v] l) (hp : ∀ w1, Below w.heap.size w w1 → ∀ (i : Nat) (x : Lab), l[i]? = some x → Gives Tryz.prog g (#[.agg (encLab x).toArray] ++ lb) w1 (.bool (p x))) :
    Gives Tryz.prog 159 #[v, .func (.func g) #[] lb] w (.int .i64 (idxF p 0 l)) := by
  obtain ⟨A, c, rfl, hlc, hcm⟩ := sl_form hr
  unfold maxLen at *
  have HR := Lib.hid hr
  have HP := Lib.hid hp
  have H := Hs.start noRow w
  obtain ⟨n, hn⟩ : ∃ n, n = l.length := ⟨_, rfl⟩
  have hnl : n ≤ 9223372036854775807 := by omega
  rw [← hn] at HR ⊢
  have HN := Lib.hid hn
  obtain ⟨z, hz⟩ : ∃ z, z = idxF p 0 l := ⟨_, rfl⟩
  rw [← hz]
  have HZ := Lib.hid hz
  clear hr hn hlc hcm hp hz
  unfold Gives
  go_enter Tryz.func159, Tryz.ntmps159
  go_wp2_with (fail)
  go_loopg [4, 5, 8] n (fun m _ _ iv wr => ∃ (i : Nat), i + m = n ∧ iv = .int .i64 i ∧ Hid (z = idxF p i (l.drop i)) ∧ Hs noRow w [] wr)
  case atStart => exact ⟨0, by omega, rfl, HZ, H⟩
  case round =>
    clear H
    obtain ⟨i, hi, rfl, HI, H⟩ := hrel
    by_cases hlt : i < n
    · obtain ⟨x, hx⟩ : ∃ x, l[i]? = some x := ⟨l[i]'(by rw [← HN.out]; exact hlt), List.getElem?_eq_getElem (by rw [← HN.out]; exact hlt)⟩
      have hs := sl_at (by have := HR.out; rw [HN.out] at this; exact this) hx
      rw [← HN.out] at hs
      obtain ⟨b, off, c', cs, hv, hcs, hA⟩ := hs
      injection hv with hv1 hv2 hv3
      subst hv1 hv3
      obtain rfl : cs = encLab x := hcs
      have hP := fun w1 hb => HP.out w1 hb i x hx
      have hstep := HI.out
      rw [idxF_drop hx] at hstep
      have hlt1 : (i : Int) < n := by omega
      clear hx hv2 HI
      cases hpx : p x
      · rw [hpx] at hP hstep
        have hP' := hP
        have HI := Lib.hid (show z = idxF p (i + 1) (l.drop (i + 1)) from hstep)
        clear hP hstep hpx
        unfold encLab at *
        go_wp2_with (first | ((((with_reducible apply st_loadat H); decide +kernel; rfl; exact aF; exact zF; rfl)); clear H; intro wn H; simp only [Act.put, yA, yB, yC, yD, yE, yF]) | (go_at_fn g; refine gvF (hP' _ H.below) H ?_; clear H; intro wn H))
        go_roundg (n - (i + 1))
        case measure => omega
        case rel => exact ⟨i + 1, by omega, by go_num, HI, H⟩
      · rw [hpx] at hP hstep
        have hP' := hP
        have HI := Lib.hid (show z = (i : Int) from hstep)
        clear hP hstep hpx
        unfold encLab at *
        go_wp2_with (first | ((((with_reducible apply st_loadat H); decide +kernel; rfl; exact aF; exact zF; rfl)); clear H; intro wn H; simp only [Act.put, yA, yB, yC, yD, yE, yF]) | (go_at_fn g; refine gvF (hP' _ H.below) H ?_; clear H; intro wn H))
        go_ret
        exact ⟨by rw [HI.out]; rfl, H.below⟩
    · obtain rfl : i = n := by omega
      have hlt1 : ¬ (i : Int) < i := by omega
      have hz : z = -1 := by rw [HI.out, List.drop_of_length_le (by rw [← HN.out]; exact Nat.le_refl _)]; rfl
      have HI2 := Lib.hid hz
      clear hz HI HZ
      go_wp2_with (fail)
      go_ret
      exact ⟨by rw [HI2.out]; rfl, H.below⟩
set_option maxRecDepth 100000 in
set_option maxHeartbeats 4000000 in
theorem containsFunc_Lab (v : Value) (l : List (Lab)) (p : Lab → Bool) (g : Nat) (lb : Array Value) (w : World) (eg : ∀ args w, (callFunc g args).run Tryz.prog w = .ok (.enter g args) w) (hr : (Ty.sl 66 tyLab).rd w [v] l) (hp : ∀ w1, Below w.heap.size w w1 → ∀ (i : Nat) (x : Lab), l[i]? = some x → Gives Tryz.prog g (#[.agg (encLab x).toArray] ++ lb) w1 (.bool (p x))) :
    Gives Tryz.prog 88 #[v, .func (.func g) #[] lb] w (.bool (l.any p)) := by
  have hI := fun w1 hb => indexFunc_Lab v l p g lb w1 eg (Ty.below _ hr hb) (fun w2 hb2 => hp w2 (hb.trans (hb2.mono hb.size)))
  have hz := idxF_ge p l 0
  obtain ⟨A, c, rfl, hlc, hcm⟩ := sl_form hr
  have H := Hs.start noRow w
  generalize idxF p 0 l = z at *
  generalize l.length = n at *
  rw [← hz]
  clear hr hp hz
  unfold Gives
  go_enter Tryz.func88, Tryz.ntmps88
  go_wp2_with ((((go_at_call 159; refine gvF (hI _ H.below) H ?_)); clear H; intro wn H))
  go_ret
  exact ⟨rfl, H.below⟩
set_option maxRecDepth 100000 in
set_option maxHeartbeats 4000000 in
theorem indexFunc_Pr (v : Value) (l : List (Pr)) (p : Pr → Bool) (g : Nat) (lb : Array Value) (w : World) (eg : ∀ args w, (callFunc g args).run Tryz.prog w = .ok (.enter g args) w) (hr : (Ty.sl 103 tyPr).rd w [v] l) (hp : ∀ w1, Below w.heap.size w w1 → ∀ (i : Nat) (x : Pr), l[i]? = some x → Gives Tryz.prog g (#[.agg (encPr x).toArray] ++ lb) w1 (.bool (p x))) :
    Gives Tryz.prog 213 #[v, .func (.func g) #[] lb] w (.int .i64 (idxF p 0 l)) := by
  obtain ⟨A, c, rfl, hlc, hcm⟩ := sl_form hr
  unfold maxLen at *
  have HR := Lib.hid hr
  have HP := Lib.hid hp
  have H := Hs.start noRow w
  obtain ⟨n, hn⟩ : ∃ n, n = l.length := ⟨_, rfl⟩
  have hnl : n ≤ 9223372036854775807 := by omega
  rw [← hn] at HR ⊢
  have HN := Lib.hid hn
  obtain ⟨z, hz⟩ : ∃ z, z = idxF p 0 l := ⟨_, rfl⟩
  rw [← hz]
  have HZ := Lib.hid hz
  clear hr hn hlc hcm hp hz
  unfold Gives
  go_enter Tryz.func213, Tryz.ntmps213
  go_wp2_with (fail)
  go_loopg [4, 5, 8] n (fun m _ _ iv wr => ∃ (i : Nat), i + m = n ∧ iv = .int .i64 i ∧ Hid (z = idxF p i (l.drop i)) ∧ Hs noRow w [] wr)
  case atStart => exact ⟨0, by omega, rfl, HZ, H⟩
  case round =>
    clear H
    obtain ⟨i, hi, rfl, HI, H⟩ := hrel
    by_cases hlt : i < n
    · obtain ⟨x, hx⟩ : ∃ x, l[i]? = some x := ⟨l[i]'(by rw [← HN.out]; exact hlt), List.getElem?_eq_getElem (by rw [← HN.out]; exact hlt)⟩
      have hs := sl_at (by have := HR.out; rw [HN.out] at this; exact this) hx
      rw [← HN.out] at hs
      obtain ⟨b, off, c', cs, hv, hcs, hA⟩ := hs
      injection hv with hv1 hv2 hv3
      subst hv1 hv3
      obtain rfl : cs = encPr x := hcs
      have hP := fun w1 hb => HP.out w1 hb i x hx
      have hstep := HI.out
      rw [idxF_drop hx] at hstep
      have hlt1 : (i : Int) < n := by omega
      clear hx hv2 HI
      cases hpx : p x
      · rw [hpx] at hP hstep
        have hP' := hP
        have HI := Lib.hid (show z = idxF p (i + 1) (l.drop (i + 1)) from hstep)
        clear hP hstep hpx
        unfold encPr at *
        go_wp2_with (first | ((((with_reducible apply st_loadat H); decide +kernel; rfl; exact aF; exact zF; rfl)); clear H; intro wn H; simp only [Act.put, yA, yB, yC, yD, yE, yF]) | (go_at_fn g; refine gvF (hP' _ H.below) H ?_; clear H; intro wn H))
        go_roundg (n - (i + 1))
        case measure => omega
        case rel => exact ⟨i + 1, by omega, by go_num, HI, H⟩
      · rw [hpx] at hP hstep
        have hP' := hP
        have HI := Lib.hid (show z = (i : Int) from hstep)
        clear hP hstep hpx
        unfold encPr at *
        go_wp2_with (first | ((((with_reducible apply st_loadat H); decide +kernel; rfl; exact aF; exact zF; rfl)); clear H; intro wn H; simp only [Act.put, yA, yB, yC, yD, yE, yF]) | (go_at_fn g; refine gvF (hP' _ H.below) H ?_; clear H; intro wn H))
        go_ret
        exact ⟨by rw [HI.out]; rfl, H.below⟩
    · obtain rfl : i = n := by omega
      have hlt1 : ¬ (i : Int) < i := by omega
      have hz : z = -1 := by rw [HI.out, List.drop_of_length_le (by rw [← HN.out]; exact Nat.le_refl _)]; rfl
      have HI2 := Lib.hid hz
      clear hz HI HZ
      go_wp2_with (fail)
      go_ret
      exact ⟨by rw [HI2.out]; rfl, H.below⟩
set_option maxRecDepth 100000 in
set_option maxHeartbeats 4000000 in
theorem containsFunc_Pr (v : Value) (l : List (Pr)) (p : Pr → Bool) (g : Nat) (lb : Array Value) (w : World) (eg : ∀ args w, (callFunc g args).run Tryz.prog w = .ok (.enter g args) w) (hr : (Ty.sl 103 tyPr).rd w [v] l) (hp : ∀ w1, Below w.heap.size w w1 → ∀ (i : Nat) (x : Pr), l[i]? = some x → Gives Tryz.prog g (#[.agg (encPr x).toArray] ++ lb) w1 (.bool (p x))) :
    Gives Tryz.prog 184 #[v, .func (.func g) #[] lb] w (.bool (l.any p)) := by
  have hI := fun w1 hb => indexFunc_Pr v l p g lb w1 eg (Ty.below _ hr hb) (fun w2 hb2 => hp w2 (hb.trans (hb2.mono hb.size)))
  have hz := idxF_ge p l 0
  obtain ⟨A, c, rfl, hlc, hcm⟩ := sl_form hr
  have H := Hs.start noRow w
  generalize idxF p 0 l = z at *
  generalize l.length = n at *
  rw [← hz]
  clear hr hp hz
  unfold Gives
  go_enter Tryz.func184, Tryz.ntmps184
  go_wp2_with ((((go_at_call 213; refine gvF (hI _ H.below) H ?_)); clear H; intro wn H))
  go_ret
  exact ⟨rfl, H.below⟩
set_option maxRecDepth 100000 in
set_option maxHeartbeats 4000000 in
theorem indexFunc_Labs (v : Value) (l : List (List Lab)) (p : List Lab → Bool) (g : Nat) (lb : Array Value) (w : World) (eg : ∀ args w, (callFunc g args).run Tryz.prog w = .ok (.enter g args) w) (hr : (Ty.sl 60 (Ty.sl 66 tyLab)).rd w [v] l) (hp : ∀ w1, Below w.heap.size w w1 → ∀ (i : Nat) (x : List Lab) (u : Value), l[i]? = some x → (Ty.sl 66 tyLab).rd w1 [u] x → Gives Tryz.prog g (#[u] ++ lb) w1 (.bool (p x))) :
    Gives Tryz.prog 211 #[v, .func (.func g) #[] lb] w (.int .i64 (idxF p 0 l)) := by
  obtain ⟨A, c, rfl, hlc, hcm⟩ := sl_form hr
  unfold maxLen at *
  have HR := Lib.hid hr
  have HP := Lib.hid hp
  have H := Hs.start noRow w
  obtain ⟨n, hn⟩ : ∃ n, n = l.length := ⟨_, rfl⟩
  have hnl : n ≤ 9223372036854775807 := by omega
  rw [← hn] at HR ⊢
  have HN := Lib.hid hn
  obtain ⟨z, hz⟩ : ∃ z, z = idxF p 0 l := ⟨_, rfl⟩
  rw [← hz]
  have HZ := Lib.hid hz
  clear hr hn hlc hcm hp hz
  unfold Gives
  go_enter Tryz.func211, Tryz.ntmps211
  go_wp2_with (fail)
  go_loopg [4, 5, 8] n (fun m _ _ iv wr => ∃ (i : Nat), i + m = n ∧ iv = .int .i64 i ∧ Hid (z = idxF p i (l.drop i)) ∧ Hs noRow w [] wr)
  case atStart => exact ⟨0, by omega, rfl, HZ, H⟩
  case round =>
    clear H
    obtain ⟨i, hi, rfl, HI, H⟩ := hrel
    by_cases hlt : i < n
    · obtain ⟨x, hx⟩ : ∃ x, l[i]? = some x := ⟨l[i]'(by rw [← HN.out]; exact hlt), List.getElem?_eq_getElem (by rw [← HN.out]; exact hlt)⟩
      have hs := sl_at (by have := HR.out; rw [HN.out] at this; exact this) hx
      rw [← HN.out] at hs
      obtain ⟨b, off, c', cs, hv, hcs, hA⟩ := hs
      injection hv with hv1 hv2 hv3
      subst hv1 hv3
      obtain ⟨u, hu⟩ : ∃ u, cs = [u] := by obtain ⟨u, _, rfl, _⟩ := hcs; exact ⟨u, rfl⟩
      subst hu
      have h0 : w.cell? ⟨b, off + i, none⟩ = some u := by have h := hA.head (u := u) rfl; rw [show i * Ty.s _ = i from Nat.mul_one i] at h; exact h
      have hP := fun w1 hb => HP.out w1 hb i x u hx (Ty.below _ hcs hb)
      have hstep := HI.out
      rw [idxF_drop hx] at hstep
      have hlt1 : (i : Int) < n := by omega
      clear hx hv2 HI
      cases hpx : p x
      · rw [hpx] at hP hstep
        have hP' := hP
        have HI := Lib.hid (show z = idxF p (i + 1) (l.drop (i + 1)) from hstep)
        clear hP hstep hpx
        go_wp2_with (first | ((((with_reducible apply st_load1 H); decide +kernel; rfl; exact cF)); clear H; intro wn H; (try simp only [splice, yG, yH, yI, yJ, yK, yL, yM, yN, yO, yP, yQ, Nat.reduceAdd, yA, yB, yC] at H); simp only [Act.put, yA, yB, yC, yD, yE, yF]) | (go_at_fn g; refine gvF (hP' _ H.below) H ?_; clear H; intro wn H))
        go_roundg (n - (i + 1))
        case measure => omega
        case rel => exact ⟨i + 1, by omega, by go_num, HI, H⟩
      · rw [hpx] at hP hstep
        have hP' := hP
        have HI := Lib.hid (show z = (i : Int) from hstep)
        clear hP hstep hpx
        go_wp2_with (first | ((((with_reducible apply st_load1 H); decide +kernel; rfl; exact cF)); clear H; intro wn H; (try simp only [splice, yG, yH, yI, yJ, yK, yL, yM, yN, yO, yP, yQ, Nat.reduceAdd, yA, yB, yC] at H); simp only [Act.put, yA, yB, yC, yD, yE, yF]) | (go_at_fn g; refine gvF (hP' _ H.below) H ?_; clear H; intro wn H))
        go_ret
        exact ⟨by rw [HI.out]; rfl, H.below⟩
    · obtain rfl : i = n := by omega
      have hlt1 : ¬ (i : Int) < i := by omega
      have hz : z = -1 := by rw [HI.out, List.drop_of_length_le (by rw [← HN.out]; exact Nat.le_refl _)]; rfl
      have HI2 := Lib.hid hz
      clear hz HI HZ
      go_wp2_with (fail)
      go_ret
      exact ⟨by rw [HI2.out]; rfl, H.below⟩
set_option maxRecDepth 100000 in
set_option maxHeartbeats 4000000 in
theorem containsFunc_Labs (v : Value) (l : List (List Lab)) (p : List Lab → Bool) (g : Nat) (lb : Array Value) (w : World) (eg : ∀ args w, (callFunc g args).run Tryz.prog w = .ok (.enter g args) w) (hr : (Ty.sl 60 (Ty.sl 66 tyLab)).rd w [v] l) (hp : ∀ w1, Below w.heap.size w w1 → ∀ (i : Nat) (x : List Lab) (u : Value), l[i]? = some x → (Ty.sl 66 tyLab).rd w1 [u] x → Gives Tryz.prog g (#[u] ++ lb) w1 (.bool (p x))) :
    Gives Tryz.prog 181 #[v, .func (.func g) #[] lb] w (.bool (l.any p)) := by
  have hI := fun w1 hb => indexFunc_Labs v l p g lb w1 eg (Ty.below _ hr hb) (fun w2 hb2 => hp w2 (hb.trans (hb2.mono hb.size)))
  have hz := idxF_ge p l 0
  obtain ⟨A, c, rfl, hlc, hcm⟩ := sl_form hr
  have H := Hs.start noRow w
  generalize idxF p 0 l = z at *
  generalize l.length = n at *
  rw [← hz]
  clear hr hp hz
  unfold Gives
  go_enter Tryz.func181, Tryz.ntmps181
  go_wp2_with ((((go_at_call 211; refine gvF (hI _ H.below) H ?_)); clear H; intro wn H))
  go_ret
  exact ⟨rfl, H.below⟩
end Go.Proofs.YtpfdhfchgnnpiaaGreat
