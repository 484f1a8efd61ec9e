/-
  Chains of labels in the reference; nodes: the walks.
-/
import Derived.Test.YtpfdhfchgnnpiaaGreatCd
set_option linter.unusedSimpArgs false
set_option linter.unusedVariables false
namespace Go.Proofs.YtpfdhfchgnnpiaaGreat
open Go.RowKit M
namespace M
def clearOk (l : List (List Lab)) : Bool := decide (1 ≤ l.length) && decide (l.length ≤ 6) && l.all chainOk
theorem take_step {α : Type} {p : α → Bool} {l : List α} {i : Nat} {a : α} (h : l[i]? = some a) (h1 : (l.take i).all p = true) (h2 : p a = true) : (l.take (i + 1)).all p = true := by
  obtain ⟨hlt, rfl⟩ := List.getElem?_eq_some_iff.1 h
  rw [List.take_succ_eq_append_getElem hlt, List.all_append, h1]
  simp [h2]
theorem take_at {α : Type} {p : α → Bool} {l : List α} {i j : Nat} {a : α} (h : l[j]? = some a) (hj : j < i) (h1 : (l.take i).all p = true) : p a = true :=
  all_at h1 (i := j) (by rw [List.getElem?_take, if_pos hj]; exact h)
end M
set_option maxRecDepth 100000 in
set_option maxHeartbeats 4000000 in
theorem chain_s (v : Value) (l : List Lab) (w : World) (hr : (Ty.sl 66 tyLab).rd w [v] l) : Gives Tryz.prog 176 #[v] w (.bool (chainOk l)) := by
  obtain ⟨A, c, rfl, hlc, hcm⟩ := sl_form hr
  unfold maxLen at *
  have H := Hs.start noRow w
  have HR := Lib.hid hr
  clear hr
  unfold Gives
  by_cases h1 : l.length < 1
  · have e : chainOk l = false := by unfold chainOk; simp; omega
    rw [e]
    clear e
    generalize l.length = n at *
    have h2 : n < 1 := h1
    go_enter Tryz.func176, Tryz.ntmps176
    go_wp2_with (fail)
    go_ret
    exact ⟨rfl, H.below⟩
  by_cases h2 : 4 < l.length
  · have e : chainOk l = false := by unfold chainOk; simp; omega
    rw [e]
    clear e
    generalize l.length = n at *
    go_enter Tryz.func176, Tryz.ntmps176
    go_wp2_with (fail)
    go_ret
    exact ⟨rfl, H.below⟩
  have e : chainOk l = (l.all okL && chainAdj l) := by unfold chainOk; rw [decide_eq_true (by omega), decide_eq_true (by omega)]; rfl
  rw [e]
  clear e
  obtain ⟨n, hn⟩ : ∃ n, n = l.length := ⟨_, rfl⟩
  rw [← hn] at h1 h2 hlc HR ⊢
  have HN := Lib.hid hn
  obtain ⟨z, hz⟩ : ∃ z, z = (l.all okL && chainAdj l) := ⟨_, rfl⟩
  rw [← hz]
  have HZ := Lib.hid hz
  clear hz hn
  go_enter Tryz.func176, Tryz.ntmps176
  go_wp2_with (fail)
  go_loopg [2, 3] n (fun m _ iv wr => ∃ (i : Nat), i + m = n ∧ iv = .int .i64 i ∧ Hid (z = ((l.drop i).all okL && chainAdj (l.drop (i - 1))) ∧ (l.take i).all okL = true) ∧ Hs noRow w [] wr)
  case atStart => exact ⟨0, by omega, rfl, Lib.hid ⟨HZ.out, rfl⟩, H⟩
  case round =>
    clear H
    obtain ⟨i, hi, rfl, HI, H⟩ := hrel
    by_cases hlt : i < n
    · obtain ⟨x, hx⟩ : ∃ x, l[i]? = some x := ⟨l[i]'(by rw [← HN.out]; omega), List.getElem?_eq_getElem (by rw [← HN.out]; omega)⟩
      have hs := sl_at (by have := HR.out; rw [HN.out] at this; exact this) hx
      rw [← HN.out] at hs
      obtain ⟨b, off, c', cs, hv, hcs, hA⟩ := hs
      injection hv with hv1 hv2 hv3
      subst hv1 hv3
      obtain rfl : cs = encLab x := hcs
      have hstep := HI.out.1
      have htake := HI.out.2
      rw [all_drop hx] at hstep
      have hL := fun w => labelRight_s x.1 x.2 w
      rw [show labelOk x.1 x.2 = okL x from rfl] at hL
      have hlt1 : (i : Int) < n := by omega
      cases hok : okL x
      · rw [hok] at hL hstep
        rw [Bool.false_and, Bool.false_and] at hstep
        have HI := Lib.hid hstep
        obtain ⟨x1, x2⟩ := x
        clear hstep htake hok hx hv2
        unfold encLab at *
        go_wp2_with (((with_reducible apply wp_region_hq (id := 6) H); kernel_rfl; kernel_rfl; (iterate 4 (all_goals ((with_reducible refine' hq_step ?_ ?_ ?_); rotate_left; rfl; (focus (intro w1 H1; first | exact qAF | exact qVF)); (try simp only [yG, yH, yJ, yK]); (try simp only [Act.put, yA, yB, yC, yD, yE, yF])))); (all_goals ((with_reducible refine' hq_step ?_ ?_ ?_); rotate_left; rfl; (focus (intro w1 H1; unfold QOk; go_simp; exact q_call (hL _))); (try simp only [yG, yH, yJ, yK]); simp only [Act.put, yA, yB, yC, yD, yE, yF])); (iterate 30 (all_goals ((first | ((with_reducible refine hq_gsF ?_ ?_); rfl) | ((with_reducible refine hq_skip ?_ ?_); rfl) | ((with_reducible refine' hq_step ?_ ?_ ?_); rotate_left; rfl; (focus (intro w1 H1; exact qVF)); (try simp only [yG, yH, yJ, yK]))); (try simp only [Act.put, yA, yB, yC, yD, yE, yF])))); all_goals (refine wpQuiet_nil ?_; clear H; intro wn H)))
        go_ret
        exact ⟨by rw [HI.out]; rfl, H.below⟩
      · have htake2 := take_step hx htake hok
        rw [hok, Bool.true_and] at hstep
        rw [hok] at hL
        cases i with
        | zero =>
          have HI := Lib.hid (And.intro hstep htake2)
          obtain ⟨x1, x2⟩ := x
          have hn0 : (0 : Nat) < n := hlt
          clear hstep htake htake2 hok hx hv2
          unfold encLab at *
          go_wp2_with (((with_reducible apply wp_region_hq (id := 6) H); kernel_rfl; kernel_rfl; (iterate 4 (all_goals ((with_reducible refine' hq_step ?_ ?_ ?_); rotate_left; rfl; (focus (intro w1 H1; first | exact qAF | exact qVF)); (try simp only [yG, yH, yJ, yK]); (try simp only [Act.put, yA, yB, yC, yD, yE, yF])))); (all_goals ((with_reducible refine' hq_step ?_ ?_ ?_); rotate_left; rfl; (focus (intro w1 H1; unfold QOk; go_simp; exact q_call (hL _))); (try simp only [yG, yH, yJ, yK]); simp only [Act.put, yA, yB, yC, yD, yE, yF])); (iterate 30 (all_goals ((first | ((with_reducible refine hq_gwF ?_ ?_); rfl; (with_reducible refine' hq_step ?_ ?_ ?_); rotate_left; rfl; (focus (intro w1 H1; exact qVF)); (try simp only [yG, yH, yJ, yK])) | ((with_reducible refine hq_gsT ?_ ?_); rfl) | ((with_reducible refine hq_skip ?_ ?_); rfl) | ((with_reducible refine' hq_step ?_ ?_ ?_); rotate_left; rfl; (focus (intro w1 H1; exact qVF)); (try simp only [yG, yH, yJ, yK]))); (try simp only [Act.put, yA, yB, yC, yD, yE, yF])))); all_goals (refine wpQuiet_nil ?_; clear H; intro wn H)))
          go_roundg (n - 1)
          case measure => omega
          case rel => exact ⟨1, by omega, by go_num, HI, H⟩
        | succ k =>
          obtain ⟨y, hy⟩ : ∃ y, l[k]? = some y := ⟨l[k]'(by rw [← HN.out]; omega), List.getElem?_eq_getElem (by rw [← HN.out]; omega)⟩
          have hs2 := sl_at (by have := HR.out; rw [HN.out] at this; exact this) hy
          rw [← HN.out] at hs2
          obtain ⟨b2, off2, c2, cs2, hw, hcs2, hB⟩ := hs2
          injection hw with hw1 hw2 hw3
          injection hw1 with hw1
          injection hw1 with hw4 hw5
          subst hw3 hw4 hw5
          obtain rfl : cs2 = encLab y := hcs2
          rw [Nat.add_sub_cancel, chainAdj_step hy hx] at hstep
          have hoy : okL y = true := take_at hy (by omega) htake
          have hbel := fun w => below_s y x (show okL y = true from hoy) (show okL x = true from hok) w
          obtain ⟨x1, x2⟩ := x
          obtain ⟨y1, y2⟩ := y
          unfold adjB at hstep
          have hlt2 : k < n := by omega
          have hk0 : (0 : Int) < (k : Int) + 1 := by omega
          have HT2 := Lib.hid htake2
          clear htake htake2 hok hx hy hv2 hw2 hoy HI
          simp only at hbel hL
          generalize belowB (y1, y2) (x1, x2) = q at *
          cases q
          · rw [Bool.and_false, Bool.false_and, Bool.and_false] at hstep
            have HI := Lib.hid hstep
            clear hstep
            unfold encLab at *
            go_wp2_with (((with_reducible apply wp_region_hq (id := 6) H); kernel_rfl; kernel_rfl; (iterate 4 (all_goals ((with_reducible refine' hq_step ?_ ?_ ?_); rotate_left; rfl; (focus (intro w1 H1; first | exact qAF | exact qVF)); (try simp only [yG, yH, yJ, yK]); (try simp only [Act.put, yA, yB, yC, yD, yE, yF])))); (all_goals ((with_reducible refine' hq_step ?_ ?_ ?_); rotate_left; rfl; (focus (intro w1 H1; unfold QOk; go_simp; exact q_call (hL _))); (try simp only [yG, yH, yJ, yK]); simp only [Act.put, yA, yB, yC, yD, yE, yF])); (iterate 14 (all_goals ((first | ((first | ((with_reducible refine hq_gwF ?_ ?_); rfl) | ((with_reducible refine hq_gwT ?_ ?_); rfl)); (with_reducible refine' hq_step ?_ ?_ ?_); rotate_left; rfl; (focus (intro w1 H1; first | exact qAF | exact qWF | exact qVF)); (try simp only [yG, yH, yJ, yK])) | ((with_reducible refine' hq_step ?_ ?_ ?_); rotate_left; rfl; (focus (intro w1 H1; exact qVF)); (try simp only [yG, yH, yJ, yK]))); (try simp only [Act.put, yA, yB, yC, yD, yE, yF])))); all_goals (((with_reducible refine hq_gwT ?_ ?_); rfl; ((with_reducible refine' hq_step ?_ ?_ ?_); rotate_left; rfl; (focus (intro w1 H1; unfold QOk; go_simp; exact q_call (hbel _))); (try simp only [yG, yH, yJ, yK]); simp only [Act.put, yA, yB, yC, yD, yE, yF]))); (iterate 15 (all_goals ((first | ((first | ((with_reducible refine hq_gwT ?_ ?_); rfl) | ((with_reducible refine hq_gwF ?_ ?_); rfl)); (with_reducible refine' hq_step ?_ ?_ ?_); rotate_left; rfl; (focus (intro w1 H1; exact qVF)); (try simp only [yG, yH, yJ, yK])) | ((with_reducible refine hq_gsF ?_ ?_); rfl) | ((with_reducible refine' hq_step ?_ ?_ ?_); rotate_left; rfl; (focus (intro w1 H1; exact qVF)); (try simp only [yG, yH, yJ, yK]))); (try simp only [Act.put, yA, yB, yC, yD, yE, yF])))); all_goals (refine wpQuiet_nil ?_; clear H; intro wn H)))
            go_ret
            exact ⟨by rw [HI.out]; rfl, H.below⟩
          · cases hpx : eqB (y1, y2) (x1, x2)
            · rw [hpx, Bool.not_false, Bool.true_and, Bool.true_and] at hstep
              have HI := Lib.hid (And.intro hstep HT2.out)
              clear hstep
              unfold encLab at *
              go_wp2_with (((with_reducible apply wp_region_hq (id := 6) H); kernel_rfl; kernel_rfl; (iterate 4 (all_goals ((with_reducible refine' hq_step ?_ ?_ ?_); rotate_left; rfl; (focus (intro w1 H1; first | exact qAF | exact qVF)); (try simp only [yG, yH, yJ, yK]); (try simp only [Act.put, yA, yB, yC, yD, yE, yF])))); (all_goals ((with_reducible refine' hq_step ?_ ?_ ?_); rotate_left; rfl; (focus (intro w1 H1; unfold QOk; go_simp; exact q_call (hL _))); (try simp only [yG, yH, yJ, yK]); simp only [Act.put, yA, yB, yC, yD, yE, yF])); (iterate 14 (all_goals ((first | ((first | ((with_reducible refine hq_gwF ?_ ?_); rfl) | ((with_reducible refine hq_gwT ?_ ?_); rfl)); (with_reducible refine' hq_step ?_ ?_ ?_); rotate_left; rfl; (focus (intro w1 H1; first | exact qAF | exact qWF | exact qVF)); (try simp only [yG, yH, yJ, yK])) | ((with_reducible refine' hq_step ?_ ?_ ?_); rotate_left; rfl; (focus (intro w1 H1; exact qVF)); (try simp only [yG, yH, yJ, yK]))); (try simp only [Act.put, yA, yB, yC, yD, yE, yF])))); all_goals (((with_reducible refine hq_gwT ?_ ?_); rfl; ((with_reducible refine' hq_step ?_ ?_ ?_); rotate_left; rfl; (focus (intro w1 H1; unfold QOk; go_simp; exact q_call (hbel _))); (try simp only [yG, yH, yJ, yK]); simp only [Act.put, yA, yB, yC, yD, yE, yF]))); (iterate 15 (all_goals ((first | ((first | ((with_reducible refine hq_gwT ?_ ?_); rfl) | ((with_reducible refine hq_gwF ?_ ?_); rfl)); (with_reducible refine' hq_step ?_ ?_ ?_); rotate_left; rfl; (focus (intro w1 H1; first | exact qAF | exact qEF | exact qWF | exact qVF)); (try simp only [yG, yH, yJ, yK])) | ((with_reducible refine' hq_step ?_ ?_ ?_); rotate_left; rfl; (focus (intro w1 H1; exact qVF)); (try simp only [yG, yH, yJ, yK]))); (try simp only [Act.put, yA, yB, yC, yD, yE, yF])))); all_goals (refine wpQuiet_nil ?_; clear H; intro wn H)))
              go_roundg (n - (k + 1 + 1))
              case measure => omega
              case rel => exact ⟨k + 1 + 1, by omega, by go_num, HI, H⟩
            · rw [hpx, Bool.not_true, Bool.false_and, Bool.false_and, Bool.and_false] at hstep
              have HI := Lib.hid hstep
              clear hstep
              unfold encLab at *
              go_wp2_with (((with_reducible apply wp_region_hq (id := 6) H); kernel_rfl; kernel_rfl; (iterate 4 (all_goals ((with_reducible refine' hq_step ?_ ?_ ?_); rotate_left; rfl; (focus (intro w1 H1; first | exact qAF | exact qVF)); (try simp only [yG, yH, yJ, yK]); (try simp only [Act.put, yA, yB, yC, yD, yE, yF])))); (all_goals ((with_reducible refine' hq_step ?_ ?_ ?_); rotate_left; rfl; (focus (intro w1 H1; unfold QOk; go_simp; exact q_call (hL _))); (try simp only [yG, yH, yJ, yK]); simp only [Act.put, yA, yB, yC, yD, yE, yF])); (iterate 14 (all_goals ((first | ((first | ((with_reducible refine hq_gwF ?_ ?_); rfl) | ((with_reducible refine hq_gwT ?_ ?_); rfl)); (with_reducible refine' hq_step ?_ ?_ ?_); rotate_left; rfl; (focus (intro w1 H1; first | exact qAF | exact qWF | exact qVF)); (try simp only [yG, yH, yJ, yK])) | ((with_reducible refine' hq_step ?_ ?_ ?_); rotate_left; rfl; (focus (intro w1 H1; exact qVF)); (try simp only [yG, yH, yJ, yK]))); (try simp only [Act.put, yA, yB, yC, yD, yE, yF])))); all_goals (((with_reducible refine hq_gwT ?_ ?_); rfl; ((with_reducible refine' hq_step ?_ ?_ ?_); rotate_left; rfl; (focus (intro w1 H1; unfold QOk; go_simp; exact q_call (hbel _))); (try simp only [yG, yH, yJ, yK]); simp only [Act.put, yA, yB, yC, yD, yE, yF]))); (iterate 15 (all_goals ((first | ((first | ((with_reducible refine hq_gwT ?_ ?_); rfl) | ((with_reducible refine hq_gwF ?_ ?_); rfl)); (with_reducible refine' hq_step ?_ ?_ ?_); rotate_left; rfl; (focus (intro w1 H1; first | exact qAF | exact qEF | exact qWF | exact qVF)); (try simp only [yG, yH, yJ, yK])) | ((with_reducible refine' hq_step ?_ ?_ ?_); rotate_left; rfl; (focus (intro w1 H1; exact qVF)); (try simp only [yG, yH, yJ, yK]))); (try simp only [Act.put, yA, yB, yC, yD, yE, yF])))); all_goals (refine wpQuiet_nil ?_; clear H; intro wn H)))
              go_ret
              exact ⟨by rw [HI.out]; rfl, H.below⟩
    · obtain rfl : i = n := by omega
      have hz : z = true := by
        rw [HI.out.1, List.drop_of_length_le (by rw [← HN.out]; exact Nat.le_refl _), chainAdj_end (by rw [← HN.out]; omega)]; rfl
      have hlt1 : ¬ (i : Int) < i := by omega
      have HI2 := Lib.hid hz
      clear hz HI HZ
      go_wp2_with (fail)
      go_ret
      exact ⟨by rw [HI2.out]; rfl, H.below⟩
theorem clearC (a : List Lab) (u : Value) (w : World) (hr : (Ty.sl 66 tyLab).rd w [u] a) : Gives Tryz.prog 182 (#[u] ++ #[]) w (.bool (!chainOk a)) := by
  have hL := fun w1 hb => chain_i u a w1 (Ty.below _ hr hb)
  obtain ⟨A, c, rfl, _⟩ := sl_form hr
  generalize chainOk a = z at *
  generalize a.length = n at *
  clear hr
  have H := Hs.start noRow w
  unfold Gives
  show Calls _ _ #[Value.slice A n c] _ _
  go_enter Tryz.func182, Tryz.ntmps182
  go_wp2_with ((((go_at_call 183; refine gvF (hL _ H.below) H ?_)); clear H; intro wn H))
  go_ret
  exact ⟨rfl, H.below⟩
set_option maxRecDepth 100000 in
set_option maxHeartbeats 4000000 in
theorem clearRight_i (v : Value) (l : List (List Lab)) (w : World) (hr : (Ty.sl 60 (Ty.sl 66 tyLab)).rd w [v] l) : Gives Tryz.prog 140 #[v] w (.bool (clearOk l)) := by
  have eg : ∀ args w, (callFunc 182 args).run Tryz.prog w = .ok (.enter 182 args) w := enters_of Tryz.func182 (by kernel_rfl) rfl
  have hC := fun w1 hb => containsFunc_Labs v l (fun a => !chainOk a) 182 #[] w1 eg (Ty.below _ hr hb) (fun w2 _ i x u _ hu => clearC x u w2 hu)
  rw [any_not_all (p := chainOk) (fun _ => rfl) l] at hC
  have hW := fun w => within_i l.length 1 6 w
  have e : clearOk l = (decide ((1 : Int) ≤ l.length) && decide ((l.length : Int) ≤ 6) && l.all chainOk) := by
    unfold clearOk
    congr 1
    congr 1
    · simp; omega
    · simp; omega
  rw [e]
  clear eg e
  obtain ⟨A, c, rfl, hlc, hcm⟩ := sl_form hr
  have H := Hs.start noRow w
  clear hr
  generalize l.all chainOk = q at *
  generalize l.length = n at *
  generalize (decide ((1 : Int) ≤ n) && decide ((n : Int) ≤ 6)) = p at *
  unfold Gives
  cases p <;> cases q
  all_goals
    go_enter Tryz.func140, Tryz.ntmps140
    go_wp2_with (first | ((((with_reducible refine st_gwT ?_ ?_); rfl)); (try simp only [Act.put, yA, yB, yC, yD, yE, yF])) | ((first | (go_at_call 20; refine gvF (hW _) H ?_) | (go_at_call 181; refine gvF (hC _ H.below) H ?_)); clear H; intro wn H))
    go_ret
    exact ⟨rfl, H.below⟩
end Go.Proofs.YtpfdhfchgnnpiaaGreat
