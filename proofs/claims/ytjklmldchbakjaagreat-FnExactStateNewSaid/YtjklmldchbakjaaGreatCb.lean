/-
  The library's searches in slices. Printed by igen.py.
-/
import Derived.Test.YtjklmldchbakjaaGreatCa
import Derived.Shelf.Abstract
set_option linter.unusedSimpArgs false
set_option linter.unusedVariables false
namespace Go.Proofs.YtjklmldchbakjaaGreat
open Go.RowKit M
namespace M
/-- the place of the first of which p holds; -1: there is none -/
def idxF {α : Type} (p : α → Bool) : Nat → List α → Int
  | _, [] => -1
  | k, a :: l => if p a then k else idxF p (k + 1) l
theorem idxF_ge {α : Type} (p : α → Bool) (l : List α) : ∀ k, decide ((0 : Int) ≤ idxF p k l) = l.any p := by
  induction l with
  | nil => intro k; rfl
  | cons a l ih =>
    intro k
    unfold idxF
    cases h : p a
    · simp only [Bool.false_eq_true, if_false, List.any_cons, h, Bool.false_or]; exact ih (k + 1)
    · simp [h]
theorem idxF_drop {α : Type} {p : α → Bool} {l : List α} {i : Nat} {a : α} (h : l[i]? = some a) : idxF p i (l.drop i) = if p a then (i : Int) else idxF p (i + 1) (l.drop (i + 1)) := by
  obtain ⟨hlt, rfl⟩ := List.getElem?_eq_some_iff.1 h
  rw [List.drop_eq_getElem_cons hlt]
  rfl
theorem idxF_lt {α : Type} {p : α → Bool} (l : List α) : ∀ k, idxF p k l < k + l.length := by
  induction l with
  | nil => intro k; simp [idxF]; omega
  | cons a l ih =>
    intro k
    unfold idxF
    have := ih (k + 1)
    simp only [List.length_cons]
    split <;> omega
end M

set_option maxRecDepth 100000 in
set_option maxHeartbeats 4000000 in
theorem indexFunc_Lab (v : Value) (l : List (Lab)) (p : Lab → Bool) (g : Nat) (lb : Array Value) (w : World) (eg : ∀ args w, (callFunc g args).run Tryz.prog w = .ok (.enter g args) w) (hr : (Ty.sl 96 tyLab).rd w [v] l) (hp : ∀ w1, Below w.heap.size w w1 → ∀ (i : Nat) (x : Lab), l[i]? = some x → Gives Tryz.prog g (#[.agg (encLab x).toArray] ++ lb) w1 (.bool (p x))) :
    Gives Tryz.prog 164 #[v, .func (.func g) #[] lb] w (.int .i64 (idxF p 0 l)) := by
  obtain ⟨A, c, rfl, hlc, hcm⟩ := sl_form hr
  unfold maxLen at *
  have HR := Lib.hid hr
  have HP := Lib.hid hp
  have H := Hs.start noRow w
  obtain ⟨n, hn⟩ : ∃ n, n = l.length := ⟨_, rfl⟩
  have hnl : n ≤ 9223372036854775807 := by omega
  rw [← hn] at HR ⊢
  have HN := Lib.hid hn
  obtain ⟨z, hz⟩ : ∃ z, z = idxF p 0 l := ⟨_, rfl⟩
  rw [← hz]
  have HZ := Lib.hid hz
  clear hr hn hlc hcm hp hz
  unfold Gives
  go_enter Tryz.func164, Tryz.ntmps164
  go_wp2_with (first | ((first | ((with_reducible apply st_load1 H); decide +kernel; rfl; exact cF) | ((with_reducible apply st_loads H); decide +kernel; rfl; exact iF; exact zF; rfl)); clear H; intro wn H; (try simp only [splice, yG, yH, yI, yJ, yK, yL, yM, yN, yO, yP, yQ, Nat.reduceAdd, yA, yB, yC] at H); simp only [Act.put, yA, yB, yC, yD, yE, yF]) | ((first | ((with_reducible apply st_strsum H); rfl; rfl; exact szF; kernel_rfl) | ((with_reducible apply st_loadat H); decide +kernel; rfl; exact aF; exact zF; rfl)); clear H; intro wn H; simp only [Act.put, yA, yB, yC, yD, yE, yF]) | (go_at_fn g; refine gvF (hP' _ H.below) H ?_; clear H; intro wn H) | fail)
  go_loopg [4, 5, 8] n (fun m _ _ iv wr => ∃ (i : Nat), i + m = n ∧ iv = .int .i64 i ∧ Hid (z = idxF p i (l.drop i)) ∧ Hs noRow w [] wr)
  case atStart => exact ⟨0, by omega, rfl, HZ, H⟩
  case round =>
    clear H
    obtain ⟨i, hi, rfl, HI, H⟩ := hrel
    by_cases hlt : i < n
    · obtain ⟨x, hx⟩ : ∃ x, l[i]? = some x := ⟨l[i]'(by rw [← HN.out]; exact hlt), List.getElem?_eq_getElem (by rw [← HN.out]; exact hlt)⟩
      have hs := sl_at (by have := HR.out; rw [HN.out] at this; exact this) hx
      rw [← HN.out] at hs
      obtain ⟨b, off, c', cs, hv, hcs, hA⟩ := hs
      injection hv with hv1 hv2 hv3
      subst hv1 hv3
      obtain rfl : cs = encLab x := hcs
      have hP := fun w1 hb => HP.out w1 hb i x hx
      have hstep := HI.out
      rw [idxF_drop hx] at hstep
      have hlt1 : (i : Int) < n := by omega
      clear hx hv2 HI
      cases hpx : p x
      · rw [hpx] at hP hstep
        have hP' := hP
        have HI := Lib.hid (show z = idxF p (i + 1) (l.drop (i + 1)) from hstep)
        clear hP hstep hpx
        unfold encLab at *
        go_wp2_with (first | ((first | ((with_reducible apply st_load1 H); decide +kernel; rfl; exact cF) | ((with_reducible apply st_loads H); decide +kernel; rfl; exact iF; exact zF; rfl)); clear H; intro wn H; (try simp only [splice, yG, yH, yI, yJ, yK, yL, yM, yN, yO, yP, yQ, Nat.reduceAdd, yA, yB, yC] at H); simp only [Act.put, yA, yB, yC, yD, yE, yF]) | ((first | ((with_reducible apply st_strsum H); rfl; rfl; exact szF; kernel_rfl) | ((with_reducible apply st_loadat H); decide +kernel; rfl; exact aF; exact zF; rfl)); clear H; intro wn H; simp only [Act.put, yA, yB, yC, yD, yE, yF]) | (go_at_fn g; refine gvF (hP' _ H.below) H ?_; clear H; intro wn H) | fail)
        go_roundg (n - (i + 1))
        case measure => omega
        case rel => exact ⟨i + 1, by omega, by go_num, HI, H⟩
      · rw [hpx] at hP hstep
        have hP' := hP
        have HI := Lib.hid (show z = (i : Int) from hstep)
        clear hP hstep hpx
        unfold encLab at *
        go_wp2_with (first | ((first | ((with_reducible apply st_load1 H); decide +kernel; rfl; exact cF) | ((with_reducible apply st_loads H); decide +kernel; rfl; exact iF; exact zF; rfl)); clear H; intro wn H; (try simp only [splice, yG, yH, yI, yJ, yK, yL, yM, yN, yO, yP, yQ, Nat.reduceAdd, yA, yB, yC] at H); simp only [Act.put, yA, yB, yC, yD, yE, yF]) | ((first | ((with_reducible apply st_strsum H); rfl; rfl; exact szF; kernel_rfl) | ((with_reducible apply st_loadat H); decide +kernel; rfl; exact aF; exact zF; rfl)); clear H; intro wn H; simp only [Act.put, yA, yB, yC, yD, yE, yF]) | (go_at_fn g; refine gvF (hP' _ H.below) H ?_; clear H; intro wn H) | fail)
        go_ret
        exact ⟨by rw [HI.out]; rfl, H.below⟩
    · obtain rfl : i = n := by omega
      have hlt1 : ¬ (i : Int) < i := by omega
      have hz : z = -1 := by rw [HI.out, List.drop_of_length_le (by rw [← HN.out]; exact Nat.le_refl _)]; rfl
      have HI2 := Lib.hid hz
      clear hz HI HZ
      go_wp2_with (first | ((first | ((with_reducible apply st_load1 H); decide +kernel; rfl; exact cF) | ((with_reducible apply st_loads H); decide +kernel; rfl; exact iF; exact zF; rfl)); clear H; intro wn H; (try simp only [splice, yG, yH, yI, yJ, yK, yL, yM, yN, yO, yP, yQ, Nat.reduceAdd, yA, yB, yC] at H); simp only [Act.put, yA, yB, yC, yD, yE, yF]) | ((first | ((with_reducible apply st_strsum H); rfl; rfl; exact szF; kernel_rfl) | ((with_reducible apply st_loadat H); decide +kernel; rfl; exact aF; exact zF; rfl)); clear H; intro wn H; simp only [Act.put, yA, yB, yC, yD, yE, yF]) | (go_at_fn g; refine gvF (hP' _ H.below) H ?_; clear H; intro wn H) | fail)
      go_ret
      exact ⟨by rw [HI2.out]; rfl, H.below⟩
set_option maxRecDepth 100000 in
set_option maxHeartbeats 4000000 in
theorem containsFunc_Lab (v : Value) (l : List (Lab)) (p : Lab → Bool) (g : Nat) (lb : Array Value) (w : World) (eg : ∀ args w, (callFunc g args).run Tryz.prog w = .ok (.enter g args) w) (hr : (Ty.sl 96 tyLab).rd w [v] l) (hp : ∀ w1, Below w.heap.size w w1 → ∀ (i : Nat) (x : Lab), l[i]? = some x → Gives Tryz.prog g (#[.agg (encLab x).toArray] ++ lb) w1 (.bool (p x))) :
    Gives Tryz.prog 142 #[v, .func (.func g) #[] lb] w (.bool (l.any p)) := by
  have hI := fun w1 hb => indexFunc_Lab v l p g lb w1 eg (Ty.below _ hr hb) (fun w2 hb2 => hp w2 (hb.trans (hb2.mono hb.size)))
  have hz := idxF_ge p l 0
  obtain ⟨A, c, rfl, hlc, hcm⟩ := sl_form hr
  have H := Hs.start noRow w
  generalize idxF p 0 l = z at *
  generalize l.length = n at *
  rw [← hz]
  clear hr hp hz
  unfold Gives
  go_enter Tryz.func142, Tryz.ntmps142
  go_wp2_with (first | ((first | ((with_reducible apply st_load1 H); decide +kernel; rfl; exact cF) | ((with_reducible apply st_loads H); decide +kernel; rfl; exact iF; exact zF; rfl)); clear H; intro wn H; (try simp only [splice, yG, yH, yI, yJ, yK, yL, yM, yN, yO, yP, yQ, Nat.reduceAdd, yA, yB, yC] at H); simp only [Act.put, yA, yB, yC, yD, yE, yF]) | ((first | ((with_reducible apply st_strsum H); rfl; rfl; exact szF; kernel_rfl)); clear H; intro wn H; simp only [Act.put, yA, yB, yC, yD, yE, yF]) | ((first | (go_at_call 164; refine gvF (hI _ H.below) H ?_)); clear H; intro wn H) | (go_at_fn g; refine gvF (hP' _ H.below) H ?_; clear H; intro wn H) | fail)
  go_ret
  exact ⟨rfl, H.below⟩
set_option maxRecDepth 100000 in
set_option maxHeartbeats 4000000 in
theorem indexFunc_Pr (v : Value) (l : List (Pr)) (p : Pr → Bool) (g : Nat) (lb : Array Value) (w : World) (eg : ∀ args w, (callFunc g args).run Tryz.prog w = .ok (.enter g args) w) (hr : (Ty.sl 98 tyPr).rd w [v] l) (hp : ∀ w1, Below w.heap.size w w1 → ∀ (i : Nat) (x : Pr), l[i]? = some x → Gives Tryz.prog g (#[.agg (encPr x).toArray] ++ lb) w1 (.bool (p x))) :
    Gives Tryz.prog 145 #[v, .func (.func g) #[] lb] w (.int .i64 (idxF p 0 l)) := by
  obtain ⟨A, c, rfl, hlc, hcm⟩ := sl_form hr
  unfold maxLen at *
  have HR := Lib.hid hr
  have HP := Lib.hid hp
  have H := Hs.start noRow w
  obtain ⟨n, hn⟩ : ∃ n, n = l.length := ⟨_, rfl⟩
  have hnl : n ≤ 9223372036854775807 := by omega
  rw [← hn] at HR ⊢
  have HN := Lib.hid hn
  obtain ⟨z, hz⟩ : ∃ z, z = idxF p 0 l := ⟨_, rfl⟩
  rw [← hz]
  have HZ := Lib.hid hz
  clear hr hn hlc hcm hp hz
  unfold Gives
  go_enter Tryz.func145, Tryz.ntmps145
  go_wp2_with (first | ((first | ((with_reducible apply st_load1 H); decide +kernel; rfl; exact cF) | ((with_reducible apply st_loads H); decide +kernel; rfl; exact iF; exact zF; rfl)); clear H; intro wn H; (try simp only [splice, yG, yH, yI, yJ, yK, yL, yM, yN, yO, yP, yQ, Nat.reduceAdd, yA, yB, yC] at H); simp only [Act.put, yA, yB, yC, yD, yE, yF]) | ((first | ((with_reducible apply st_strsum H); rfl; rfl; exact szF; kernel_rfl) | ((with_reducible apply st_loadat H); decide +kernel; rfl; exact aF; exact zF; rfl)); clear H; intro wn H; simp only [Act.put, yA, yB, yC, yD, yE, yF]) | (go_at_fn g; refine gvF (hP' _ H.below) H ?_; clear H; intro wn H) | fail)
  go_loopg [4, 5, 8] n (fun m _ _ iv wr => ∃ (i : Nat), i + m = n ∧ iv = .int .i64 i ∧ Hid (z = idxF p i (l.drop i)) ∧ Hs noRow w [] wr)
  case atStart => exact ⟨0, by omega, rfl, HZ, H⟩
  case round =>
    clear H
    obtain ⟨i, hi, rfl, HI, H⟩ := hrel
    by_cases hlt : i < n
    · obtain ⟨x, hx⟩ : ∃ x, l[i]? = some x := ⟨l[i]'(by rw [← HN.out]; exact hlt), List.getElem?_eq_getElem (by rw [← HN.out]; exact hlt)⟩
      have hs := sl_at (by have := HR.out; rw [HN.out] at this; exact this) hx
      rw [← HN.out] at hs
      obtain ⟨b, off, c', cs, hv, hcs, hA⟩ := hs
      injection hv with hv1 hv2 hv3
      subst hv1 hv3
      obtain rfl : cs = encPr x := hcs
      have hP := fun w1 hb => HP.out w1 hb i x hx
      have hstep := HI.out
      rw [idxF_drop hx] at hstep
      have hlt1 : (i : Int) < n := by omega
      clear hx hv2 HI
      cases hpx : p x
      · rw [hpx] at hP hstep
        have hP' := hP
        have HI := Lib.hid (show z = idxF p (i + 1) (l.drop (i + 1)) from hstep)
        clear hP hstep hpx
        unfold encPr at *
        go_wp2_with (first | ((first | ((with_reducible apply st_load1 H); decide +kernel; rfl; exact cF) | ((with_reducible apply st_loads H); decide +kernel; rfl; exact iF; exact zF; rfl)); clear H; intro wn H; (try simp only [splice, yG, yH, yI, yJ, yK, yL, yM, yN, yO, yP, yQ, Nat.reduceAdd, yA, yB, yC] at H); simp only [Act.put, yA, yB, yC, yD, yE, yF]) | ((first | ((with_reducible apply st_strsum H); rfl; rfl; exact szF; kernel_rfl) | ((with_reducible apply st_loadat H); decide +kernel; rfl; exact aF; exact zF; rfl)); clear H; intro wn H; simp only [Act.put, yA, yB, yC, yD, yE, yF]) | (go_at_fn g; refine gvF (hP' _ H.below) H ?_; clear H; intro wn H) | fail)
        go_roundg (n - (i + 1))
        case measure => omega
        case rel => exact ⟨i + 1, by omega, by go_num, HI, H⟩
      · rw [hpx] at hP hstep
        have hP' := hP
        have HI := Lib.hid (show z = (i : Int) from hstep)
        clear hP hstep hpx
        unfold encPr at *
        go_wp2_with (first | ((first | ((with_reducible apply st_load1 H); decide +kernel; rfl; exact cF) | ((with_reducible apply st_loads H); decide +kernel; rfl; exact iF; exact zF; rfl)); clear H; intro wn H; (try simp only [splice, yG, yH, yI, yJ, yK, yL, yM, yN, yO, yP, yQ, Nat.reduceAdd, yA, yB, yC] at H); simp only [Act.put, yA, yB, yC, yD, yE, yF]) | ((first | ((with_reducible apply st_strsum H); rfl; rfl; exact szF; kernel_rfl) | ((with_reducible apply st_loadat H); decide +kernel; rfl; exact aF; exact zF; rfl)); clear H; intro wn H; simp only [Act.put, yA, yB, yC, yD, yE, yF]) | (go_at_fn g; refine gvF (hP' _ H.below) H ?_; clear H; intro wn H) | fail)
        go_ret
        exact ⟨by rw [HI.out]; rfl, H.below⟩
    · obtain rfl : i = n := by omega
      have hlt1 : ¬ (i : Int) < i := by omega
      have hz : z = -1 := by rw [HI.out, List.drop_of_length_le (by rw [← HN.out]; exact Nat.le_refl _)]; rfl
      have HI2 := Lib.hid hz
      clear hz HI HZ
      go_wp2_with (first | ((first | ((with_reducible apply st_load1 H); decide +kernel; rfl; exact cF) | ((with_reducible apply st_loads H); decide +kernel; rfl; exact iF; exact zF; rfl)); clear H; intro wn H; (try simp only [splice, yG, yH, yI, yJ, yK, yL, yM, yN, yO, yP, yQ, Nat.reduceAdd, yA, yB, yC] at H); simp only [Act.put, yA, yB, yC, yD, yE, yF]) | ((first | ((with_reducible apply st_strsum H); rfl; rfl; exact szF; kernel_rfl) | ((with_reducible apply st_loadat H); decide +kernel; rfl; exact aF; exact zF; rfl)); clear H; intro wn H; simp only [Act.put, yA, yB, yC, yD, yE, yF]) | (go_at_fn g; refine gvF (hP' _ H.below) H ?_; clear H; intro wn H) | fail)
      go_ret
      exact ⟨by rw [HI2.out]; rfl, H.below⟩
set_option maxRecDepth 100000 in
set_option maxHeartbeats 4000000 in
theorem containsFunc_Pr (v : Value) (l : List (Pr)) (p : Pr → Bool) (g : Nat) (lb : Array Value) (w : World) (eg : ∀ args w, (callFunc g args).run Tryz.prog w = .ok (.enter g args) w) (hr : (Ty.sl 98 tyPr).rd w [v] l) (hp : ∀ w1, Below w.heap.size w w1 → ∀ (i : Nat) (x : Pr), l[i]? = some x → Gives Tryz.prog g (#[.agg (encPr x).toArray] ++ lb) w1 (.bool (p x))) :
    Gives Tryz.prog 114 #[v, .func (.func g) #[] lb] w (.bool (l.any p)) := by
  have hI := fun w1 hb => indexFunc_Pr v l p g lb w1 eg (Ty.below _ hr hb) (fun w2 hb2 => hp w2 (hb.trans (hb2.mono hb.size)))
  have hz := idxF_ge p l 0
  obtain ⟨A, c, rfl, hlc, hcm⟩ := sl_form hr
  have H := Hs.start noRow w
  generalize idxF p 0 l = z at *
  generalize l.length = n at *
  rw [← hz]
  clear hr hp hz
  unfold Gives
  go_enter Tryz.func114, Tryz.ntmps114
  go_wp2_with (first | ((first | ((with_reducible apply st_load1 H); decide +kernel; rfl; exact cF) | ((with_reducible apply st_loads H); decide +kernel; rfl; exact iF; exact zF; rfl)); clear H; intro wn H; (try simp only [splice, yG, yH, yI, yJ, yK, yL, yM, yN, yO, yP, yQ, Nat.reduceAdd, yA, yB, yC] at H); simp only [Act.put, yA, yB, yC, yD, yE, yF]) | ((first | ((with_reducible apply st_strsum H); rfl; rfl; exact szF; kernel_rfl)); clear H; intro wn H; simp only [Act.put, yA, yB, yC, yD, yE, yF]) | ((first | (go_at_call 145; refine gvF (hI _ H.below) H ?_)); clear H; intro wn H) | (go_at_fn g; refine gvF (hP' _ H.below) H ?_; clear H; intro wn H) | fail)
  go_ret
  exact ⟨rfl, H.below⟩
set_option maxRecDepth 100000 in
set_option maxHeartbeats 4000000 in
theorem indexFunc_Labs (v : Value) (l : List (List Lab)) (p : List Lab → Bool) (g : Nat) (lb : Array Value) (w : World) (eg : ∀ args w, (callFunc g args).run Tryz.prog w = .ok (.enter g args) w) (hr : (Ty.sl 93 (Ty.sl 96 tyLab)).rd w [v] l) (hp : ∀ w1, Below w.heap.size w w1 → ∀ (i : Nat) (x : List Lab) (u : Value), l[i]? = some x → (Ty.sl 96 tyLab).rd w1 [u] x → Gives Tryz.prog g (#[u] ++ lb) w1 (.bool (p x))) :
    Gives Tryz.prog 141 #[v, .func (.func g) #[] lb] w (.int .i64 (idxF p 0 l)) := by
  obtain ⟨A, c, rfl, hlc, hcm⟩ := sl_form hr
  unfold maxLen at *
  have HR := Lib.hid hr
  have HP := Lib.hid hp
  have H := Hs.start noRow w
  obtain ⟨n, hn⟩ : ∃ n, n = l.length := ⟨_, rfl⟩
  have hnl : n ≤ 9223372036854775807 := by omega
  rw [← hn] at HR ⊢
  have HN := Lib.hid hn
  obtain ⟨z, hz⟩ : ∃ z, z = idxF p 0 l := ⟨_, rfl⟩
  rw [← hz]
  have HZ := Lib.hid hz
  clear hr hn hlc hcm hp hz
  unfold Gives
  go_enter Tryz.func141, Tryz.ntmps141
  go_wp2_with (first | ((first | ((with_reducible apply st_load1 H); decide +kernel; rfl; exact cF) | ((with_reducible apply st_loads H); decide +kernel; rfl; exact iF; exact zF; rfl)); clear H; intro wn H; (try simp only [splice, yG, yH, yI, yJ, yK, yL, yM, yN, yO, yP, yQ, Nat.reduceAdd, yA, yB, yC] at H); simp only [Act.put, yA, yB, yC, yD, yE, yF]) | ((first | ((with_reducible apply st_strsum H); rfl; rfl; exact szF; kernel_rfl) | ((with_reducible apply st_loadat H); decide +kernel; rfl; exact aF; exact zF; rfl)); clear H; intro wn H; simp only [Act.put, yA, yB, yC, yD, yE, yF]) | (go_at_fn g; refine gvF (hP' _ H.below) H ?_; clear H; intro wn H) | fail)
  go_loopg [4, 5, 8] n (fun m _ _ iv wr => ∃ (i : Nat), i + m = n ∧ iv = .int .i64 i ∧ Hid (z = idxF p i (l.drop i)) ∧ Hs noRow w [] wr)
  case atStart => exact ⟨0, by omega, rfl, HZ, H⟩
  case round =>
    clear H
    obtain ⟨i, hi, rfl, HI, H⟩ := hrel
    by_cases hlt : i < n
    · obtain ⟨x, hx⟩ : ∃ x, l[i]? = some x := ⟨l[i]'(by rw [← HN.out]; exact hlt), List.getElem?_eq_getElem (by rw [← HN.out]; exact hlt)⟩
      have hs := sl_at (by have := HR.out; rw [HN.out] at this; exact this) hx
      rw [← HN.out] at hs
      obtain ⟨b, off, c', cs, hv, hcs, hA⟩ := hs
      injection hv with hv1 hv2 hv3
      subst hv1 hv3
      obtain ⟨u, hu⟩ : ∃ u, cs = [u] := by obtain ⟨u, _, rfl, _⟩ := hcs; exact ⟨u, rfl⟩
      subst hu
      have h0 : w.cell? ⟨b, off + i, none⟩ = some u := by have h := hA.head (u := u) rfl; rw [show i * Ty.s _ = i from Nat.mul_one i] at h; exact h
      have hP := fun w1 hb => HP.out w1 hb i x u hx (Ty.below _ hcs hb)
      have hstep := HI.out
      rw [idxF_drop hx] at hstep
      have hlt1 : (i : Int) < n := by omega
      clear hx hv2 HI
      cases hpx : p x
      · rw [hpx] at hP hstep
        have hP' := hP
        have HI := Lib.hid (show z = idxF p (i + 1) (l.drop (i + 1)) from hstep)
        clear hP hstep hpx
        go_wp2_with (first | ((first | ((with_reducible apply st_load1 H); decide +kernel; rfl; exact cF) | ((with_reducible apply st_loads H); decide +kernel; rfl; exact iF; exact zF; rfl)); clear H; intro wn H; (try simp only [splice, yG, yH, yI, yJ, yK, yL, yM, yN, yO, yP, yQ, Nat.reduceAdd, yA, yB, yC] at H); simp only [Act.put, yA, yB, yC, yD, yE, yF]) | ((first | ((with_reducible apply st_strsum H); rfl; rfl; exact szF; kernel_rfl) | ((with_reducible apply st_loadat H); decide +kernel; rfl; exact aF; exact zF; rfl)); clear H; intro wn H; simp only [Act.put, yA, yB, yC, yD, yE, yF]) | (go_at_fn g; refine gvF (hP' _ H.below) H ?_; clear H; intro wn H) | fail)
        go_roundg (n - (i + 1))
        case measure => omega
        case rel => exact ⟨i + 1, by omega, by go_num, HI, H⟩
      · rw [hpx] at hP hstep
        have hP' := hP
        have HI := Lib.hid (show z = (i : Int) from hstep)
        clear hP hstep hpx
        go_wp2_with (first | ((first | ((with_reducible apply st_load1 H); decide +kernel; rfl; exact cF) | ((with_reducible apply st_loads H); decide +kernel; rfl; exact iF; exact zF; rfl)); clear H; intro wn H; (try simp only [splice, yG, yH, yI, yJ, yK, yL, yM, yN, yO, yP, yQ, Nat.reduceAdd, yA, yB, yC] at H); simp only [Act.put, yA, yB, yC, yD, yE, yF]) | ((first | ((with_reducible apply st_strsum H); rfl; rfl; exact szF; kernel_rfl) | ((with_reducible apply st_loadat H); decide +kernel; rfl; exact aF; exact zF; rfl)); clear H; intro wn H; simp only [Act.put, yA, yB, yC, yD, yE, yF]) | (go_at_fn g; refine gvF (hP' _ H.below) H ?_; clear H; intro wn H) | fail)
        go_ret
        exact ⟨by rw [HI.out]; rfl, H.below⟩
    · obtain rfl : i = n := by omega
      have hlt1 : ¬ (i : Int) < i := by omega
      have hz : z = -1 := by rw [HI.out, List.drop_of_length_le (by rw [← HN.out]; exact Nat.le_refl _)]; rfl
      have HI2 := Lib.hid hz
      clear hz HI HZ
      go_wp2_with (first | ((first | ((with_reducible apply st_load1 H); decide +kernel; rfl; exact cF) | ((with_reducible apply st_loads H); decide +kernel; rfl; exact iF; exact zF; rfl)); clear H; intro wn H; (try simp only [splice, yG, yH, yI, yJ, yK, yL, yM, yN, yO, yP, yQ, Nat.reduceAdd, yA, yB, yC] at H); simp only [Act.put, yA, yB, yC, yD, yE, yF]) | ((first | ((with_reducible apply st_strsum H); rfl; rfl; exact szF; kernel_rfl) | ((with_reducible apply st_loadat H); decide +kernel; rfl; exact aF; exact zF; rfl)); clear H; intro wn H; simp only [Act.put, yA, yB, yC, yD, yE, yF]) | (go_at_fn g; refine gvF (hP' _ H.below) H ?_; clear H; intro wn H) | fail)
      go_ret
      exact ⟨by rw [HI2.out]; rfl, H.below⟩
set_option maxRecDepth 100000 in
set_option maxHeartbeats 4000000 in
theorem containsFunc_Labs (v : Value) (l : List (List Lab)) (p : List Lab → Bool) (g : Nat) (lb : Array Value) (w : World) (eg : ∀ args w, (callFunc g args).run Tryz.prog w = .ok (.enter g args) w) (hr : (Ty.sl 93 (Ty.sl 96 tyLab)).rd w [v] l) (hp : ∀ w1, Below w.heap.size w w1 → ∀ (i : Nat) (x : List Lab) (u : Value), l[i]? = some x → (Ty.sl 96 tyLab).rd w1 [u] x → Gives Tryz.prog g (#[u] ++ lb) w1 (.bool (p x))) :
    Gives Tryz.prog 111 #[v, .func (.func g) #[] lb] w (.bool (l.any p)) := by
  have hI := fun w1 hb => indexFunc_Labs v l p g lb w1 eg (Ty.below _ hr hb) (fun w2 hb2 => hp w2 (hb.trans (hb2.mono hb.size)))
  have hz := idxF_ge p l 0
  obtain ⟨A, c, rfl, hlc, hcm⟩ := sl_form hr
  have H := Hs.start noRow w
  generalize idxF p 0 l = z at *
  generalize l.length = n at *
  rw [← hz]
  clear hr hp hz
  unfold Gives
  go_enter Tryz.func111, Tryz.ntmps111
  go_wp2_with (first | ((first | ((with_reducible apply st_load1 H); decide +kernel; rfl; exact cF) | ((with_reducible apply st_loads H); decide +kernel; rfl; exact iF; exact zF; rfl)); clear H; intro wn H; (try simp only [splice, yG, yH, yI, yJ, yK, yL, yM, yN, yO, yP, yQ, Nat.reduceAdd, yA, yB, yC] at H); simp only [Act.put, yA, yB, yC, yD, yE, yF]) | ((first | ((with_reducible apply st_strsum H); rfl; rfl; exact szF; kernel_rfl)); clear H; intro wn H; simp only [Act.put, yA, yB, yC, yD, yE, yF]) | ((first | (go_at_call 141; refine gvF (hI _ H.below) H ?_)); clear H; intro wn H) | (go_at_fn g; refine gvF (hP' _ H.below) H ?_; clear H; intro wn H) | fail)
  go_ret
  exact ⟨rfl, H.below⟩
end Go.Proofs.YtjklmldchbakjaaGreat
