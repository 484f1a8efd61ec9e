/-
  A label's place in a list; chains of labels: the walks.
-/
import Derived.Test.YtpfdhfchgnnpiaaGreatCc
import Derived.IntWalk
set_option linter.unusedSimpArgs false
set_option linter.unusedVariables false
namespace Go.Proofs.YtpfdhfchgnnpiaaGreat
open Go.RowKit M
namespace M
def okL (a : Lab) : Bool := labelOk a.1 a.2
def adjB (a b : Lab) : Bool := !eqB a b && belowB a b
def chainAdj : List Lab → Bool
  | a :: b :: r => adjB a b && chainAdj (b :: r)
  | _ => true
def chainOk (l : List Lab) : Bool := decide (1 ≤ l.length) && decide (l.length ≤ 4) && (l.all okL && chainAdj l)
theorem chainAdj_step {l : List Lab} {i : Nat} {x y : Lab} (h1 : l[i]? = some x) (h2 : l[i + 1]? = some y) : chainAdj (l.drop i) = (adjB x y && chainAdj (l.drop (i + 1))) := by
  obtain ⟨k1, e1⟩ := List.getElem?_eq_some_iff.1 h1
  obtain ⟨k2, e2⟩ := List.getElem?_eq_some_iff.1 h2
  rw [List.drop_eq_getElem_cons k1, List.drop_eq_getElem_cons k2, e1, e2]
  rfl
theorem chainAdj_end {l : List Lab} {i : Nat} (h : l.length ≤ i + 1) : chainAdj (l.drop i) = true := by
  have : (l.drop i).length ≤ 1 := by rw [List.length_drop]; omega
  match l.drop i, this with
  | [], _ => rfl
  | [a], _ => rfl
theorem all_at {α : Type} {p : α → Bool} {l : List α} {i : Nat} {a : α} (h : l.all p = true) (hi : l[i]? = some a) : p a = true := List.all_eq_true.1 h a (List.mem_of_getElem? hi)
theorem all_drop {α : Type} {p : α → Bool} {l : List α} {i : Nat} {a : α} (h : l[i]? = some a) : (l.drop i).all p = (p a && (l.drop (i + 1)).all p) := by
  obtain ⟨hlt, rfl⟩ := List.getElem?_eq_some_iff.1 h
  rw [List.drop_eq_getElem_cons hlt]
  rfl
theorem any_not_all {α : Type} {p q : α → Bool} (h : ∀ a, q a = !p a) (l : List α) : l.any q = !l.all p := by
  induction l with
  | nil => rfl
  | cons a l ih => simp [h, ih]
end M
set_option maxRecDepth 100000 in
set_option maxHeartbeats 4000000 in
theorem index_Lab (v : Value) (l : List Lab) (a : Lab) (w : World) (hr : (Ty.sl 66 tyLab).rd w [v] l) : Gives Tryz.prog 162 #[v, .agg #[.int .i64 a.1, .int .i64 a.2]] w (.int .i64 (idxF (eqB a) 0 l)) := by
  obtain ⟨A, c, rfl, hlc, hcm⟩ := sl_form hr
  unfold maxLen at *
  have HR := Lib.hid hr
  have H := Hs.start noRow w
  obtain ⟨a1, a2⟩ := a
  obtain ⟨n, hn⟩ : ∃ n, n = l.length := ⟨_, rfl⟩
  have hnl : n ≤ 9223372036854775807 := by omega
  rw [← hn] at HR ⊢
  have HN := Lib.hid hn
  obtain ⟨z, hz⟩ : ∃ z, z = idxF (eqB (a1, a2)) 0 l := ⟨_, rfl⟩
  rw [← hz]
  have HZ := Lib.hid hz
  clear hr hn hlc hcm hz
  unfold Gives
  go_enter Tryz.func162, Tryz.ntmps162
  go_wp2_with (((((with_reducible apply st_box (dst := some 3) H); exact nF; intro b3)); clear H; intro wn H; simp only [Act.put, yA, yB, yC, yD, yE, yF]))
  go_loopg [4, 5, 8] n (fun m _ _ iv wr => ∃ (i : Nat), i + m = n ∧ iv = .int .i64 i ∧ Hid (z = idxF (eqB (a1, a2)) i (l.drop i)) ∧ Hs noRow w [Hl.blk b3 66 #[.int .i64 a1, .int .i64 a2]] wr)
  case atStart => exact ⟨0, by omega, rfl, HZ, H⟩
  case round =>
    clear H
    obtain ⟨i, hi, rfl, HI, H⟩ := hrel
    by_cases hlt : i < n
    · obtain ⟨x, hx⟩ : ∃ x, l[i]? = some x := ⟨l[i]'(by rw [← HN.out]; exact hlt), List.getElem?_eq_getElem (by rw [← HN.out]; exact hlt)⟩
      have hs := sl_at (by have := HR.out; rw [HN.out] at this; exact this) hx
      rw [← HN.out] at hs
      obtain ⟨b, off, c', cs, hv, hcs, hA⟩ := hs
      injection hv with hv1 hv2 hv3
      subst hv1 hv3
      obtain rfl : cs = encLab x := hcs
      have hstep := HI.out
      rw [idxF_drop hx] at hstep
      have hlt1 : (i : Int) < n := by omega
      obtain ⟨x1, x2⟩ := x
      clear hx hv2 HI
      cases hpx : eqB (a1, a2) (x1, x2)
      · rw [hpx] at hstep
        have HI := Lib.hid (show z = idxF (eqB (a1, a2)) (i + 1) (l.drop (i + 1)) from hstep)
        clear hstep
        unfold encLab at *
        go_wp2_with (((with_reducible apply wp_region_hq (id := 4) H); kernel_rfl; kernel_rfl; (iterate 6 (all_goals ((with_reducible refine' hq_step ?_ ?_ ?_); rotate_left; rfl; (focus (intro w1 H1; first | (first | exact qF | exact qAF) | (exact qEF) | (exact qVF))); (try simp only [yG, yH, yJ, yK]); simp only [Act.put, yA, yB, yC, yD, yE, yF]))); all_goals (refine wpQuiet_nil ?_; clear H; intro wn H)))
        go_roundg (n - (i + 1))
        case measure => omega
        case rel => exact ⟨i + 1, by omega, by go_num, HI, H⟩
      · rw [hpx] at hstep
        have HI := Lib.hid (show z = (i : Int) from hstep)
        clear hstep
        unfold encLab at *
        go_wp2_with (((with_reducible apply wp_region_hq (id := 4) H); kernel_rfl; kernel_rfl; (iterate 6 (all_goals ((with_reducible refine' hq_step ?_ ?_ ?_); rotate_left; rfl; (focus (intro w1 H1; first | (first | exact qF | exact qAF) | (exact qEF) | (exact qVF))); (try simp only [yG, yH, yJ, yK]); simp only [Act.put, yA, yB, yC, yD, yE, yF]))); all_goals (refine wpQuiet_nil ?_; clear H; intro wn H)))
        go_ret
        exact ⟨by rw [HI.out]; rfl, H.below⟩
    · obtain rfl : i = n := by omega
      have hlt1 : ¬ (i : Int) < i := by omega
      have hz : z = -1 := by rw [HI.out, List.drop_of_length_le (by rw [← HN.out]; exact Nat.le_refl _)]; rfl
      have HI2 := Lib.hid hz
      clear hz HI HZ
      go_wp2_with (fail)
      go_ret
      exact ⟨by rw [HI2.out]; rfl, H.below⟩
set_option maxRecDepth 100000 in
set_option maxHeartbeats 4000000 in
theorem contains_Lab (v : Value) (l : List Lab) (a : Lab) (w : World) (hr : (Ty.sl 66 tyLab).rd w [v] l) : Gives Tryz.prog 94 #[v, .agg #[.int .i64 a.1, .int .i64 a.2]] w (.bool (hasL l a)) := by
  have hI := fun w1 hb => index_Lab v l a w1 (Ty.below _ hr hb)
  have hz := idxF_ge (eqB a) l 0
  have e : hasL l a = l.any (eqB a) := by unfold hasL; congr 1; funext b; exact eqB_comm b a
  rw [e, ← hz]
  obtain ⟨A, c, rfl, hlc, hcm⟩ := sl_form hr
  have H := Hs.start noRow w
  generalize idxF (eqB a) 0 l = z at *
  generalize l.length = n at *
  obtain ⟨a1, a2⟩ := a
  clear hr hz e
  unfold Gives
  go_enter Tryz.func94, Tryz.ntmps94
  go_wp2_with (first | ((((with_reducible apply st_loads H); decide +kernel; rfl; exact iF; exact zF; rfl)); clear H; intro wn H; (try simp only [splice, yG, yH, yI, yJ, yK, yL, yM, yN, yO, yP, yQ, Nat.reduceAdd, yA, yB, yC] at H); simp only [Act.put, yA, yB, yC, yD, yE, yF]) | ((((with_reducible apply st_box (dst := some 3) H); exact nF; intro b3)); clear H; intro wn H; simp only [Act.put, yA, yB, yC, yD, yE, yF]) | (((go_at_call 162; refine gvF (hI _ H.below) H ?_)); clear H; intro wn H))
  go_ret
  exact ⟨rfl, H.below⟩
theorem chainC (a : Lab) (w : World) : Gives Tryz.prog 212 (#[.agg (encLab a).toArray] ++ #[]) w (.bool (!okL a)) := by
  have hL := fun w => labelRight_i a.1 a.2 w
  have e : okL a = labelOk a.1 a.2 := rfl
  rw [e]
  obtain ⟨a1, a2⟩ := a
  unfold encLab
  simp only at hL ⊢
  generalize labelOk a1 a2 = z at *
  have H := Hs.start noRow w
  unfold Gives
  show Calls _ _ #[.agg #[.int .i64 a1, .int .i64 a2]] _ _
  go_enter Tryz.func212, Tryz.ntmps212
  go_wp2_with (first | ((((with_reducible apply st_loads H); decide +kernel; rfl; exact iF; exact zF; rfl)); clear H; intro wn H; (try simp only [splice, yG, yH, yI, yJ, yK, yL, yM, yN, yO, yP, yQ, Nat.reduceAdd, yA, yB, yC] at H); simp only [Act.put, yA, yB, yC, yD, yE, yF]) | ((((with_reducible apply st_box (dst := some 1) H); exact nF; intro b1)); clear H; intro wn H; simp only [Act.put, yA, yB, yC, yD, yE, yF]) | (((go_at_call 149; refine gvF (hL _) H ?_)); clear H; intro wn H))
  go_ret
  exact ⟨rfl, H.below⟩
set_option maxRecDepth 100000 in
set_option maxHeartbeats 4000000 in
theorem chain_i (v : Value) (l : List Lab) (w : World) (hr : (Ty.sl 66 tyLab).rd w [v] l) : Gives Tryz.prog 183 #[v] w (.bool (chainOk l)) := by
  have eg : ∀ args w, (callFunc 212 args).run Tryz.prog w = .ok (.enter 212 args) w := enters_of Tryz.func212 (by kernel_rfl) rfl
  have hC := fun w1 hb => containsFunc_Lab v l (fun a => !okL a) 212 #[] w1 eg (Ty.below _ hr hb) (fun w2 _ i x _ => chainC x w2)
  rw [any_not_all (p := okL) (fun _ => rfl) l] at hC
  clear eg
  obtain ⟨A, c, rfl, hlc, hcm⟩ := sl_form hr
  unfold maxLen at *
  have H := Hs.start noRow w
  have HR := Lib.hid hr
  have HC := Lib.hid hC
  clear hr hC
  unfold Gives
  by_cases h1 : l.length < 1
  · have e : chainOk l = false := by unfold chainOk; simp; omega
    rw [e]
    clear e
    generalize l.length = n at *
    have h2 : n < 1 := h1
    go_enter Tryz.func183, Tryz.ntmps183
    go_wp2_with (fail)
    go_ret
    exact ⟨rfl, H.below⟩
  by_cases h2 : 4 < l.length
  · have e : chainOk l = false := by unfold chainOk; simp; omega
    rw [e]
    clear e
    generalize l.length = n at *
    go_enter Tryz.func183, Tryz.ntmps183
    go_wp2_with (fail)
    go_ret
    exact ⟨rfl, H.below⟩
  have e : chainOk l = (l.all okL && chainAdj l) := by unfold chainOk; rw [decide_eq_true (by omega), decide_eq_true (by omega)]; rfl
  rw [e]
  clear e
  cases hall : l.all okL
  · have hC := HC.out
    rw [hall] at hC
    rw [Bool.false_and]
    clear hall HC
    generalize l.length = n at *
    go_enter Tryz.func183, Tryz.ntmps183
    go_wp2_with ((((go_at_call 88; refine gvF (hC _ H.below) H ?_)); clear H; intro wn H))
    go_ret
    exact ⟨rfl, H.below⟩
  · have hC := HC.out
    rw [hall] at hC
    rw [Bool.true_and]
    have HALL := Lib.hid hall
    clear hall HC
    obtain ⟨n, hn⟩ : ∃ n, n = l.length := ⟨_, rfl⟩
    rw [← hn] at h1 h2 hlc HR hC ⊢
    have HN := Lib.hid hn
    obtain ⟨z, hz⟩ : ∃ z, z = chainAdj l := ⟨_, rfl⟩
    rw [← hz]
    have HZ := Lib.hid hz
    clear hz hn
    go_enter Tryz.func183, Tryz.ntmps183
    go_wp2_with ((((go_at_call 88; refine gvF (hC _ H.below) H ?_)); clear H; intro wn H))
    clear hC
    go_loopg [2, 3] (n - 1) (fun m _ iv wr => ∃ (i : Nat), i + 1 + m = n ∧ iv = .int .i64 (i + 1 : Nat) ∧ Hid (z = chainAdj (l.drop i)) ∧ Hs noRow w [] wr)
    case atStart => exact ⟨0, by omega, rfl, HZ, H⟩
    case round =>
      clear H
      obtain ⟨i, hi, rfl, HI, H⟩ := hrel
      by_cases hlt : i + 1 < n
      · obtain ⟨x, hx⟩ : ∃ x, l[i]? = some x := ⟨l[i]'(by rw [← HN.out]; omega), List.getElem?_eq_getElem (by rw [← HN.out]; omega)⟩
        obtain ⟨y, hy⟩ : ∃ y, l[i + 1]? = some y := ⟨l[i + 1]'(by rw [← HN.out]; omega), List.getElem?_eq_getElem (by rw [← HN.out]; omega)⟩
        have hs := sl_at (by have := HR.out; rw [HN.out] at this; exact this) hx
        have hs2 := sl_at (by have := HR.out; rw [HN.out] at this; exact this) hy
        rw [← HN.out] at hs hs2
        obtain ⟨b, off, c', cs, hv, hcs, hA⟩ := hs
        injection hv with hv1 hv2 hv3
        subst hv1 hv3
        obtain ⟨b2, off2, c2, cs2, hw, hcs2, hB⟩ := hs2
        injection hw with hw1 hw2 hw3
        injection hw1 with hw1
        injection hw1 with hw4 hw5
        subst hw3 hw4 hw5
        obtain rfl : cs = encLab x := hcs
        obtain rfl : cs2 = encLab y := hcs2
        have hstep := HI.out
        rw [chainAdj_step hx hy] at hstep
        have hbel := fun w => below_i x y (show okL x = true from all_at HALL.out hx) (show okL y = true from all_at HALL.out hy) w
        have hlt1 : (i : Int) + 1 < n := by omega
        have hlt2 : i < n := by omega
        obtain ⟨x1, x2⟩ := x
        obtain ⟨y1, y2⟩ := y
        unfold adjB at hstep
        clear hx hy hv2 hw2 HI
        simp only at hbel
        cases hpx : eqB (x1, x2) (y1, y2)
        · rw [hpx, Bool.not_false, Bool.true_and] at hstep
          generalize belowB (x1, x2) (y1, y2) = q at *
          cases q
          · rw [Bool.false_and] at hstep
            have HI := Lib.hid hstep
            clear hstep
            unfold encLab at *
            go_wp2_with (((with_reducible apply wp_region_hq (id := 6) H); kernel_rfl; kernel_rfl; (iterate 20 (all_goals ((first | ((with_reducible refine hq_gwF ?_ ?_); rfl; (with_reducible refine' hq_step ?_ ?_ ?_); rotate_left; rfl; (focus (intro w1 H1; first | exact qAF | exact qWF | exact qVF)); (try simp only [yG, yH, yJ, yK])) | ((with_reducible refine' hq_step ?_ ?_ ?_); rotate_left; rfl; (focus (intro w1 H1; first | exact qAF | exact qEF | exact qWF | exact qVF)); (try simp only [yG, yH, yJ, yK]))); (try simp only [Act.put, yA, yB, yC, yD, yE, yF])))); all_goals (((with_reducible refine hq_gwF ?_ ?_); rfl; ((with_reducible refine' hq_step ?_ ?_ ?_); rotate_left; rfl; (focus (intro w1 H1; unfold QOk; go_simp; exact q_call (hbel _))); (try simp only [yG, yH, yJ, yK]); simp only [Act.put, yA, yB, yC, yD, yE, yF]))); (iterate 2 (all_goals ((first | ((with_reducible refine hq_gwF ?_ ?_); rfl; (with_reducible refine' hq_step ?_ ?_ ?_); rotate_left; rfl; (focus (intro w1 H1; exact qVF)); (try simp only [yG, yH, yJ, yK])) | ((with_reducible refine' hq_step ?_ ?_ ?_); rotate_left; rfl; (focus (intro w1 H1; exact qVF)); (try simp only [yG, yH, yJ, yK]))); (try simp only [Act.put, yA, yB, yC, yD, yE, yF])))); all_goals (refine wpQuiet_nil ?_; clear H; intro wn H)))
            go_ret
            exact ⟨by rw [HI.out]; rfl, H.below⟩
          · rw [Bool.true_and] at hstep
            have HI := Lib.hid hstep
            clear hstep
            unfold encLab at *
            go_wp2_with (((with_reducible apply wp_region_hq (id := 6) H); kernel_rfl; kernel_rfl; (iterate 20 (all_goals ((first | ((with_reducible refine hq_gwF ?_ ?_); rfl; (with_reducible refine' hq_step ?_ ?_ ?_); rotate_left; rfl; (focus (intro w1 H1; first | exact qAF | exact qWF | exact qVF)); (try simp only [yG, yH, yJ, yK])) | ((with_reducible refine' hq_step ?_ ?_ ?_); rotate_left; rfl; (focus (intro w1 H1; first | exact qAF | exact qEF | exact qWF | exact qVF)); (try simp only [yG, yH, yJ, yK]))); (try simp only [Act.put, yA, yB, yC, yD, yE, yF])))); all_goals (((with_reducible refine hq_gwF ?_ ?_); rfl; ((with_reducible refine' hq_step ?_ ?_ ?_); rotate_left; rfl; (focus (intro w1 H1; unfold QOk; go_simp; exact q_call (hbel _))); (try simp only [yG, yH, yJ, yK]); simp only [Act.put, yA, yB, yC, yD, yE, yF]))); (iterate 2 (all_goals ((first | ((with_reducible refine hq_gwF ?_ ?_); rfl; (with_reducible refine' hq_step ?_ ?_ ?_); rotate_left; rfl; (focus (intro w1 H1; exact qVF)); (try simp only [yG, yH, yJ, yK])) | ((with_reducible refine' hq_step ?_ ?_ ?_); rotate_left; rfl; (focus (intro w1 H1; exact qVF)); (try simp only [yG, yH, yJ, yK]))); (try simp only [Act.put, yA, yB, yC, yD, yE, yF])))); all_goals (refine wpQuiet_nil ?_; clear H; intro wn H)))
            go_roundg (n - (i + 1 + 1))
            case measure => omega
            case rel => exact ⟨i + 1, by omega, by go_num, HI, H⟩
        · rw [hpx] at hstep
          have HI := Lib.hid (show z = false from hstep)
          clear hstep
          unfold encLab at *
          go_wp2_with (((with_reducible apply wp_region_hq (id := 6) H); kernel_rfl; kernel_rfl; (iterate 23 (all_goals ((first | ((with_reducible refine hq_gsF ?_ ?_); rfl) | ((with_reducible refine' hq_step ?_ ?_ ?_); rotate_left; rfl; (focus (intro w1 H1; first | exact qAF | exact qEF | exact qWF | exact qVF)); (try simp only [yG, yH, yJ, yK]))); (try simp only [Act.put, yA, yB, yC, yD, yE, yF])))); all_goals (refine wpQuiet_nil ?_; clear H; intro wn H)))
          go_ret
          exact ⟨by rw [HI.out]; rfl, H.below⟩
      · have hz : z = true := by rw [HI.out]; exact chainAdj_end (by rw [← HN.out]; omega)
        have hlt1 : ¬ (i : Int) + 1 < n := by omega
        have HI2 := Lib.hid hz
        clear hz HI HZ
        go_wp2_with (fail)
        go_ret
        exact ⟨by rw [HI2.out]; rfl, H.below⟩
end Go.Proofs.YtpfdhfchgnnpiaaGreat
