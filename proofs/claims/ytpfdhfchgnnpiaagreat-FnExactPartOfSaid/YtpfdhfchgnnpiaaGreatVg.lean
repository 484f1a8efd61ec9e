/-
  Tasks in their order that may be so, in the program: the walk. Printed by vggen.py.
-/
import Derived.Test.YtpfdhfchgnnpiaaGreatVf
import Derived.Test.YtpfdhfchgnnpiaaGreatVd
set_option linter.unusedSimpArgs false
set_option linter.unusedVariables false
namespace Go.Proofs.YtpfdhfchgnnpiaaGreat
open Go.RowKit M
namespace M
def taskNo (l : List Ta) (i : Nat) (x : Ta) : Bool := match i with
  | 0 => x.1.2.1 == 1
  | j + 1 => match l[j]? with
    | some y => decide (cmpL y.1.1 x.1.1 ≤ 0) && x.1.2.1 == (if cmpL y.1.1 x.1.1 = 0 then y.1.2.1 + 1 else 1)
    | none => true
def tkUnd (x : Ta) : Lab := x.1.2.2.2.2.2.2.1
def tkAft (x : Ta) : Int := x.1.2.2.2.2.2.2.2.1
def taskIn (l : List Ta) (i : Nat) : Bool := match l[i]? with
  | some x => taskOk x && (taskNo l i x && (!(tkAft x != 0) || !decide (idxF (tkEq (tkUnd x) (tkAft x)) 0 l < 0)))
  | none => true
def tasksOk (l : List Ta) : Bool := decide (l.length ≤ 96) && allFrom (taskIn l) l.length 0
theorem taskOk_id {x : Ta} (h : taskOk x = true) : 1 ≤ x.1.2.1 ∧ x.1.2.1 ≤ 12 := by
  obtain ⟨⟨⟨l1, l2⟩, id, ow, need, long, prio, ⟨u1, u2⟩, aft, born, st, start⟩, nodes⟩ := x
  unfold taskOk taskHead isIn at h
  simp only [Bool.and_eq_true, decide_eq_true_eq] at h
  exact h.1.2.1
end M
set_option maxRecDepth 100000 in
set_option maxHeartbeats 8000000 in
theorem tasksRight_i (v : Value) (l : List Ta) (hs : ∀ (i : Nat) (x : Ta), l[i]? = some x → x.1.2.2.1.size ≤ maxLen) (w : World) (hr : (Ty.sl 97 tyTa).rd w [v] l) : Gives Tryz.prog 84 #[v] w (.bool (tasksOk l)) := by
  have HR0 := Lib.hid hr
  obtain ⟨A, c, rfl, hlc, hcm⟩ := sl_form hr
  have HS := Lib.hid hs
  clear hs
  unfold maxLen at hcm
  have HR := Lib.hid hr
  obtain ⟨n, hn⟩ : ∃ n, n = l.length := ⟨_, rfl⟩
  have hnl : n ≤ 9223372036854775807 := by omega
  rw [← hn] at HR HR0 ⊢
  have HN := Lib.hid hn
  obtain ⟨z, hz⟩ : ∃ z, z = tasksOk l := ⟨_, rfl⟩
  rw [← hz]
  have hz' : z = (decide (n ≤ 96) && allFrom (taskIn l) n 0) := by rw [hz, hn]; rfl
  obtain ⟨f, hf'⟩ : ∃ f, f = taskIn l := ⟨_, rfl⟩
  rw [← hf'] at hz'
  have HF := Lib.hid hf'
  clear hr hn hlc hcm hz hf'
  have H := Hs.start noRow w
  unfold Gives
  by_cases hm : 96 < n
  · have HZ : Hid (z = false) := Lib.hid (by rw [hz']; simp; omega)
    have hm' : (96 : Int) < (n : Int) := by omega
    clear hz'
    go_enter Tryz.func84, Tryz.ntmps84
    go_wp2_with (fail)
    go_ret
    exact ⟨by rw [HZ.out]; rfl, H.below⟩
  have HZ : Hid (z = allFrom f n 0) := Lib.hid (by rw [hz']; simp; omega)
  have hm' : ¬ (96 : Int) < (n : Int) := by omega
  clear hz'
  go_enter Tryz.func84, Tryz.ntmps84
  go_wp2_with (fail)
  go_loopg [12] n (fun m iv wr => ∃ (i : Nat), i + m = n ∧ iv = .int .i64 i ∧ Hid (z = allFrom f n i) ∧ Hid (∀ j y, j < i → l[j]? = some y → taskOk y = true) ∧ Hs noRow w [] wr)
  case atStart => exact ⟨0, by omega, rfl, HZ, Lib.hid (fun j y h => by omega), H⟩
  case round =>
    clear H HZ
    obtain ⟨i, hi, rfl, HI, HT, H⟩ := hrel
    by_cases hlt : i < n
    · obtain ⟨x, hx⟩ : ∃ x, l[i]? = some x := ⟨l[i]'(by rw [← HN.out]; exact hlt), List.getElem?_eq_getElem (by rw [← HN.out]; exact hlt)⟩
      have hs := sl_at (by have := HR.out; rw [HN.out] at this; exact this) hx
      rw [← HN.out] at hs
      obtain ⟨b, off, c', cs, hv, hcs, hA⟩ := hs
      injection hv with hv1 hv2 hv3
      subst hv1 hv3
      have c1 := fun w1 hb => taskRight_i x cs (HS.out i x hx) w1 (Ty.below _ hcs hb)
      obtain ⟨A9, m9, j9, rfl, _⟩ := Ta_form hcs
      have hstep := HI.out
      have hfi : f i = (taskOk x && (taskNo l i x && (!(tkAft x != 0) || !decide (idxF (tkEq (tkUnd x) (tkAft x)) 0 l < 0)))) := by rw [HF.out]; unfold taskIn; rw [hx]
      rw [allFrom_step hlt, hfi] at hstep
      clear hfi
      have hlt1 : (i : Int) < n := by omega
      obtain ⟨z1, hz1⟩ : ∃ z1, taskOk x = z1 := ⟨_, rfl⟩
      rw [hz1] at hstep c1
      have HT2 : z1 = true → Hid (∀ j y, j < i + 1 → l[j]? = some y → taskOk y = true) := fun hzt => Lib.hid (fun j y hj hy => by
        by_cases h : j < i
        · exact HT.out j y h hy
        · obtain rfl : j = i := by omega
          rw [hx] at hy
          injection hy with hy
          subst hy
          rw [hz1, hzt])
      clear hz1
      have c2 := fun w1 hb => taskAt_i _ l (tkUnd x) (tkAft x) w1 (Ty.below _ HR0.out hb)
      obtain ⟨⟨⟨l1, l2⟩, id, ow, need, long, prio, ⟨u1, u2⟩, aft, born, st, start⟩, nodes⟩ := x
      unfold tkUnd tkAft at c2 hstep
      simp only at c1 c2 hA hstep
      generalize idxF (tkEq (u1, u2) aft) 0 l = q at *
      obtain ⟨m2, hm2⟩ : ∃ m, (aft != 0) = m := ⟨_, rfl⟩
      obtain ⟨m3, hm3⟩ : ∃ m, decide (q < 0) = m := ⟨_, rfl⟩
      rw [hm2, hm3] at hstep
      clear hx hv2 hcs
      cases z1
      case false =>
        have HI2 : Hid (z = false) := Lib.hid (by rw [hstep]; simp)
        clear hstep
        go_wp2_with (first | ((first | ((with_reducible apply st_loads H); decide +kernel; rfl; exact iF; exact zF; rfl) | ((with_reducible apply st_store H); rfl; exact eF; (focus (exact cells_agg _)); exact uF; kernel_rfl; (focus (exact Nat.le_of_ble_eq_true (by rfl))); (focus (rfl)))); clear H; intro wn H; (try simp only [splice, yG, yH, yI, yJ, yK, yL, yM, yN, yO, yP, yQ, Nat.reduceAdd, yA, yB, yC] at H); simp only [Act.put, yA, yB, yC, yD, yE, yF]) | ((first | ((with_reducible apply st_alloc (dst := some 4) H); exact nF; intro b4) | ((with_reducible apply st_loadat H); decide +kernel; rfl; exact aF; exact zF; rfl)); clear H; intro wn H; simp only [Act.put, yA, yB, yC, yD, yE, yF]) | (((go_at_call 147; refine gvF (c1 _ H.below) H ?_)); clear H; intro wn H))
        go_ret
        exact ⟨by rw [HI2.out]; rfl, H.below⟩
      have HT3 := HT2 rfl
      clear HT2 HT
      cases i with
      | zero =>
        have hno : taskNo l 0 (((l1, l2), id, ow, need, long, prio, (u1, u2), aft, born, st, start), nodes) = !(id != 1) := by unfold taskNo; show (id == 1) = !(!(id == 1)); rw [Bool.not_not]
        rw [hno] at hstep
        clear hno
        obtain ⟨m1, hm1⟩ : ∃ m, (id != 1) = m := ⟨_, rfl⟩
        rw [hm1] at hstep
        have hd : (m1 = true ∨ (m1 = false ∧ m2 = true ∧ m3 = true)) ∨ ((m1 = false ∧ m2 = false) ∨ (m1 = false ∧ m2 = true ∧ m3 = false)) := by cases m1 <;> cases m2 <;> cases m3 <;> simp
        rcases hd with hd | hd
        · rcases hd with rfl | ⟨rfl, rfl, rfl⟩
          all_goals (
            have HI2 : Hid (z = false) := Lib.hid (by rw [hstep]; simp)
            clear hstep
            go_wp2_with (first | ((first | ((with_reducible refine st_gwT ?_ ?_); rfl) | ((with_reducible refine st_gwF ?_ ?_); rfl) | ((with_reducible refine st_gsF ?_ ?_); rfl)); (try simp only [Act.put, yA, yB, yC, yD, yE, yF])) | ((first | ((with_reducible apply st_load1 H); decide +kernel; rfl; exact cF) | ((with_reducible apply st_loads H); decide +kernel; rfl; exact iF; exact zF; rfl) | ((with_reducible apply st_store H); rfl; exact eF; (focus (exact cells_agg _)); exact uF; kernel_rfl; (focus (exact Nat.le_of_ble_eq_true (by rfl))); (focus (rfl)))); clear H; intro wn H; (try simp only [splice, yG, yH, yI, yJ, yK, yL, yM, yN, yO, yP, yQ, Nat.reduceAdd, yA, yB, yC] at H); simp only [Act.put, yA, yB, yC, yD, yE, yF]) | ((first | ((with_reducible apply st_alloc (dst := some 4) H); exact nF; intro b4) | ((with_reducible apply st_loadat H); decide +kernel; rfl; exact aF; exact zF; rfl)); clear H; intro wn H; simp only [Act.put, yA, yB, yC, yD, yE, yF]) | ((first | (go_at_call 147; refine gvF (c1 _ H.below) H ?_) | (go_at_call 148; refine gvF (c2 _ H.below) H ?_)); clear H; intro wn H))
            go_ret
            exact ⟨by rw [HI2.out]; rfl, H.below⟩)
        · rcases hd with ⟨rfl, rfl⟩ | ⟨rfl, rfl, rfl⟩
          all_goals (
            have HI2 : Hid (z = allFrom f n (0 + 1)) := Lib.hid (by rw [hstep]; simp)
            clear hstep
            go_wp2_with (first | ((first | ((with_reducible refine st_gwT ?_ ?_); rfl) | ((with_reducible refine st_gwF ?_ ?_); rfl)); (try simp only [Act.put, yA, yB, yC, yD, yE, yF])) | ((first | ((with_reducible apply st_load1 H); decide +kernel; rfl; exact cF) | ((with_reducible apply st_loads H); decide +kernel; rfl; exact iF; exact zF; rfl) | ((with_reducible apply st_store H); rfl; exact eF; (focus (exact cells_agg _)); exact uF; kernel_rfl; (focus (exact Nat.le_of_ble_eq_true (by rfl))); (focus (rfl)))); clear H; intro wn H; (try simp only [splice, yG, yH, yI, yJ, yK, yL, yM, yN, yO, yP, yQ, Nat.reduceAdd, yA, yB, yC] at H); simp only [Act.put, yA, yB, yC, yD, yE, yF]) | ((first | ((with_reducible apply st_alloc (dst := some 4) H); exact nF; intro b4) | ((with_reducible apply st_loadat H); decide +kernel; rfl; exact aF; exact zF; rfl)); clear H; intro wn H; simp only [Act.put, yA, yB, yC, yD, yE, yF]) | ((first | (go_at_call 147; refine gvF (c1 _ H.below) H ?_) | (go_at_call 148; refine gvF (c2 _ H.below) H ?_)); clear H; intro wn H))
            go_roundg (n - (0 + 1))
            case measure => omega
            case rel => exact ⟨0 + 1, by omega, by go_num, HI2, HT3, H.sel sF⟩)
      | succ j =>
        obtain ⟨y, hy⟩ : ∃ y, l[j]? = some y := ⟨l[j]'(by rw [← HN.out]; omega), List.getElem?_eq_getElem (by rw [← HN.out]; omega)⟩
        have hs2 := sl_at (by have := HR.out; rw [HN.out] at this; exact this) hy
        rw [← HN.out] at hs2
        obtain ⟨b3, off3, c3, cs3, hw, hcs3, hB⟩ := hs2
        injection hw with hw1 hw2 hw3
        injection hw1 with hw1
        injection hw1 with hw4 hw5
        subst hw3 hw4 hw5
        obtain ⟨A8, m8, j8, rfl, _⟩ := Ta_form hcs3
        have hyo := taskOk_id (HT3.out j y (by omega) hy)
        unfold taskNo at hstep
        simp only [hy] at hstep
        obtain ⟨⟨⟨k1, k2⟩, yid, yr⟩, yn⟩ := y
        simp only at hyo hB hstep
        obtain ⟨hy1, hy2⟩ := hyo
        have hB1 : At w b (off + j * 14) [.int .i64 k1, .int .i64 k2] := At.pre hB
        have hB2 : w.cell? ⟨b, off + j * 14 + 2, none⟩ = some (.int .i64 yid) := hB 2 _ rfl
        have c5 := fun w1 => compareLabels_i (k1, k2) (l1, l2) w1
        simp only at c5
        generalize cmpL (k1, k2) (l1, l2) = g at *
        have hlt2 : (j : Int) < n := by omega
        have hlt3 : j < n := by omega
        have hpos : (0 : Int) < (j : Int) + 1 := by omega
        have hlt4 : (j : Int) + 1 < n := by omega
        clear hB hy hw2 hcs3
        by_cases hg : 0 < g
        · have HI2 : Hid (z = false) := Lib.hid (by rw [hstep]; simp; omega)
          clear hstep hm2 hm3
          go_wp2_with (first | ((first | ((with_reducible apply st_loads H); decide +kernel; rfl; exact iF; exact zF; rfl) | ((with_reducible apply st_store H); rfl; exact eF; (focus (exact cells_agg _)); exact uF; kernel_rfl; (focus (exact Nat.le_of_ble_eq_true (by rfl))); (focus (rfl)))); clear H; intro wn H; (try simp only [splice, yG, yH, yI, yJ, yK, yL, yM, yN, yO, yP, yQ, Nat.reduceAdd, yA, yB, yC] at H); simp only [Act.put, yA, yB, yC, yD, yE, yF]) | ((first | ((with_reducible apply st_alloc (dst := some 4) H); exact nF; intro b4) | ((with_reducible apply st_loadat H); decide +kernel; rfl; exact aF; exact zF; rfl)); clear H; intro wn H; simp only [Act.put, yA, yB, yC, yD, yE, yF]) | (((go_at_call 147; refine gvF (c1 _ H.below) H ?_)); clear H; intro wn H) | ((with_reducible apply wp_region_hq (id := 10) H); kernel_rfl; kernel_rfl; (iterate 8 (all_goals ((with_reducible refine' hq_step ?_ ?_ ?_); rotate_left; rfl; (focus (intro w1 H1; first | first | exact qF | exact qAF | exact qWF | exact qVF)); (try simp only [yG, yH, yJ, yK]); (try simp only [Act.put, yA, yB, yC, yD, yE, yF])))); (all_goals ((with_reducible refine' hq_step ?_ ?_ ?_); rotate_left; rfl; (focus (intro w1 H1; unfold QOk; go_simp; exact q_call (c5 _))); (try simp only [yG, yH, yJ, yK]); simp only [Act.put, yA, yB, yC, yD, yE, yF])); (iterate 1 (all_goals ((with_reducible refine' hq_step ?_ ?_ ?_); rotate_left; rfl; (focus (intro w1 H1; exact qVF)); (try simp only [yG, yH, yJ, yK]); (try simp only [Act.put, yA, yB, yC, yD, yE, yF])))); all_goals (refine wpQuiet_nil ?_; clear H; intro wn H)))
          go_ret
          exact ⟨by rw [HI2.out]; rfl, H.below⟩
        by_cases hg0 : g = 0
        · subst hg0
          have hno : (decide ((0 : Int) ≤ 0) && id == (if (0 : Int) = 0 then yid + 1 else 1)) = !(id != yid + 1) := by rw [if_pos rfl]; show (id == yid + 1) = !(!(id == yid + 1)); rw [Bool.not_not]
          rw [hno] at hstep
          clear hno
          obtain ⟨m1, hm1⟩ : ∃ m, (id != yid + 1) = m := ⟨_, rfl⟩
          rw [hm1] at hstep
          have hd : (m1 = true ∨ (m1 = false ∧ m2 = true ∧ m3 = true)) ∨ ((m1 = false ∧ m2 = false) ∨ (m1 = false ∧ m2 = true ∧ m3 = false)) := by cases m1 <;> cases m2 <;> cases m3 <;> simp
          rcases hd with hd | hd
          · rcases hd with rfl | ⟨rfl, rfl, rfl⟩
            all_goals (
              have HI2 : Hid (z = false) := Lib.hid (by rw [hstep]; simp)
              clear hstep
              go_wp2_with (first | ((first | ((with_reducible refine st_gwT ?_ ?_); rfl) | ((with_reducible refine st_gwF ?_ ?_); rfl) | ((with_reducible refine st_gsF ?_ ?_); rfl)); (try simp only [Act.put, yA, yB, yC, yD, yE, yF])) | ((first | ((with_reducible apply st_load1 H); decide +kernel; rfl; exact cF) | ((with_reducible apply st_loads H); decide +kernel; rfl; exact iF; exact zF; rfl) | ((with_reducible apply st_store H); rfl; exact eF; (focus (exact cells_agg _)); exact uF; kernel_rfl; (focus (exact Nat.le_of_ble_eq_true (by rfl))); (focus (rfl)))); clear H; intro wn H; (try simp only [splice, yG, yH, yI, yJ, yK, yL, yM, yN, yO, yP, yQ, Nat.reduceAdd, yA, yB, yC] at H); simp only [Act.put, yA, yB, yC, yD, yE, yF]) | ((first | ((with_reducible apply st_alloc (dst := some 4) H); exact nF; intro b4) | ((with_reducible apply st_loadat H); decide +kernel; rfl; exact aF; exact zF; rfl)); clear H; intro wn H; simp only [Act.put, yA, yB, yC, yD, yE, yF]) | ((first | (go_at_call 147; refine gvF (c1 _ H.below) H ?_) | (go_at_call 148; refine gvF (c2 _ H.below) H ?_)); clear H; intro wn H) | ((with_reducible apply wp_region_hq (id := 10) H); kernel_rfl; kernel_rfl; (iterate 8 (all_goals ((with_reducible refine' hq_step ?_ ?_ ?_); rotate_left; rfl; (focus (intro w1 H1; first | first | exact qF | exact qAF | exact qWF | exact qVF)); (try simp only [yG, yH, yJ, yK]); (try simp only [Act.put, yA, yB, yC, yD, yE, yF])))); (all_goals ((with_reducible refine' hq_step ?_ ?_ ?_); rotate_left; rfl; (focus (intro w1 H1; unfold QOk; go_simp; exact q_call (c5 _))); (try simp only [yG, yH, yJ, yK]); simp only [Act.put, yA, yB, yC, yD, yE, yF])); (iterate 1 (all_goals ((with_reducible refine' hq_step ?_ ?_ ?_); rotate_left; rfl; (focus (intro w1 H1; exact qVF)); (try simp only [yG, yH, yJ, yK]); (try simp only [Act.put, yA, yB, yC, yD, yE, yF])))); all_goals (refine wpQuiet_nil ?_; clear H; intro wn H)))
              go_ret
              exact ⟨by rw [HI2.out]; rfl, H.below⟩)
          · rcases hd with ⟨rfl, rfl⟩ | ⟨rfl, rfl, rfl⟩
            all_goals (
              have HI2 : Hid (z = allFrom f n (j + 1 + 1)) := Lib.hid (by rw [hstep]; simp)
              clear hstep
              go_wp2_with (first | ((first | ((with_reducible refine st_gwT ?_ ?_); rfl) | ((with_reducible refine st_gwF ?_ ?_); rfl)); (try simp only [Act.put, yA, yB, yC, yD, yE, yF])) | ((first | ((with_reducible apply st_load1 H); decide +kernel; rfl; exact cF) | ((with_reducible apply st_loads H); decide +kernel; rfl; exact iF; exact zF; rfl) | ((with_reducible apply st_store H); rfl; exact eF; (focus (exact cells_agg _)); exact uF; kernel_rfl; (focus (exact Nat.le_of_ble_eq_true (by rfl))); (focus (rfl)))); clear H; intro wn H; (try simp only [splice, yG, yH, yI, yJ, yK, yL, yM, yN, yO, yP, yQ, Nat.reduceAdd, yA, yB, yC] at H); simp only [Act.put, yA, yB, yC, yD, yE, yF]) | ((first | ((with_reducible apply st_alloc (dst := some 4) H); exact nF; intro b4) | ((with_reducible apply st_loadat H); decide +kernel; rfl; exact aF; exact zF; rfl)); clear H; intro wn H; simp only [Act.put, yA, yB, yC, yD, yE, yF]) | ((first | (go_at_call 147; refine gvF (c1 _ H.below) H ?_) | (go_at_call 148; refine gvF (c2 _ H.below) H ?_)); clear H; intro wn H) | ((with_reducible apply wp_region_hq (id := 10) H); kernel_rfl; kernel_rfl; (iterate 8 (all_goals ((with_reducible refine' hq_step ?_ ?_ ?_); rotate_left; rfl; (focus (intro w1 H1; first | first | exact qF | exact qAF | exact qWF | exact qVF)); (try simp only [yG, yH, yJ, yK]); (try simp only [Act.put, yA, yB, yC, yD, yE, yF])))); (all_goals ((with_reducible refine' hq_step ?_ ?_ ?_); rotate_left; rfl; (focus (intro w1 H1; unfold QOk; go_simp; exact q_call (c5 _))); (try simp only [yG, yH, yJ, yK]); simp only [Act.put, yA, yB, yC, yD, yE, yF])); (iterate 1 (all_goals ((with_reducible refine' hq_step ?_ ?_ ?_); rotate_left; rfl; (focus (intro w1 H1; exact qVF)); (try simp only [yG, yH, yJ, yK]); (try simp only [Act.put, yA, yB, yC, yD, yE, yF])))); all_goals (refine wpQuiet_nil ?_; clear H; intro wn H)))
              go_roundg (n - (j + 1 + 1))
              case measure => omega
              case rel => exact ⟨j + 1 + 1, by omega, by go_num, HI2, HT3, H.sel sF⟩)
        · have hg1 : (g == 0) = false := by simp [hg0]
          have hno : (decide (g ≤ 0) && id == (if g = 0 then yid + 1 else 1)) = !(id != 1) := by rw [if_neg hg0, decide_eq_true (by omega), Bool.true_and]; show (id == 1) = !(!(id == 1)); rw [Bool.not_not]
          rw [hno] at hstep
          clear hno
          obtain ⟨m1, hm1⟩ : ∃ m, (id != 1) = m := ⟨_, rfl⟩
          rw [hm1] at hstep
          have hd : (m1 = true ∨ (m1 = false ∧ m2 = true ∧ m3 = true)) ∨ ((m1 = false ∧ m2 = false) ∨ (m1 = false ∧ m2 = true ∧ m3 = false)) := by cases m1 <;> cases m2 <;> cases m3 <;> simp
          rcases hd with hd | hd
          · rcases hd with rfl | ⟨rfl, rfl, rfl⟩
            all_goals (
              have HI2 : Hid (z = false) := Lib.hid (by rw [hstep]; simp)
              clear hstep
              go_wp2_with (first | ((first | ((with_reducible refine st_gwT ?_ ?_); rfl) | ((with_reducible refine st_gwF ?_ ?_); rfl) | ((with_reducible refine st_gsF ?_ ?_); rfl)); (try simp only [Act.put, yA, yB, yC, yD, yE, yF])) | ((first | ((with_reducible apply st_load1 H); decide +kernel; rfl; exact cF) | ((with_reducible apply st_loads H); decide +kernel; rfl; exact iF; exact zF; rfl) | ((with_reducible apply st_store H); rfl; exact eF; (focus (exact cells_agg _)); exact uF; kernel_rfl; (focus (exact Nat.le_of_ble_eq_true (by rfl))); (focus (rfl)))); clear H; intro wn H; (try simp only [splice, yG, yH, yI, yJ, yK, yL, yM, yN, yO, yP, yQ, Nat.reduceAdd, yA, yB, yC] at H); simp only [Act.put, yA, yB, yC, yD, yE, yF]) | ((first | ((with_reducible apply st_alloc (dst := some 4) H); exact nF; intro b4) | ((with_reducible apply st_loadat H); decide +kernel; rfl; exact aF; exact zF; rfl)); clear H; intro wn H; simp only [Act.put, yA, yB, yC, yD, yE, yF]) | ((first | (go_at_call 147; refine gvF (c1 _ H.below) H ?_) | (go_at_call 148; refine gvF (c2 _ H.below) H ?_)); clear H; intro wn H) | ((with_reducible apply wp_region_hq (id := 10) H); kernel_rfl; kernel_rfl; (iterate 8 (all_goals ((with_reducible refine' hq_step ?_ ?_ ?_); rotate_left; rfl; (focus (intro w1 H1; first | first | exact qF | exact qAF | exact qWF | exact qVF)); (try simp only [yG, yH, yJ, yK]); (try simp only [Act.put, yA, yB, yC, yD, yE, yF])))); (all_goals ((with_reducible refine' hq_step ?_ ?_ ?_); rotate_left; rfl; (focus (intro w1 H1; unfold QOk; go_simp; exact q_call (c5 _))); (try simp only [yG, yH, yJ, yK]); simp only [Act.put, yA, yB, yC, yD, yE, yF])); (iterate 1 (all_goals ((with_reducible refine' hq_step ?_ ?_ ?_); rotate_left; rfl; (focus (intro w1 H1; exact qVF)); (try simp only [yG, yH, yJ, yK]); (try simp only [Act.put, yA, yB, yC, yD, yE, yF])))); all_goals (refine wpQuiet_nil ?_; clear H; intro wn H)))
              go_ret
              exact ⟨by rw [HI2.out]; rfl, H.below⟩)
          · rcases hd with ⟨rfl, rfl⟩ | ⟨rfl, rfl, rfl⟩
            all_goals (
              have HI2 : Hid (z = allFrom f n (j + 1 + 1)) := Lib.hid (by rw [hstep]; simp)
              clear hstep
              go_wp2_with (first | ((first | ((with_reducible refine st_gwT ?_ ?_); rfl) | ((with_reducible refine st_gwF ?_ ?_); rfl)); (try simp only [Act.put, yA, yB, yC, yD, yE, yF])) | ((first | ((with_reducible apply st_load1 H); decide +kernel; rfl; exact cF) | ((with_reducible apply st_loads H); decide +kernel; rfl; exact iF; exact zF; rfl) | ((with_reducible apply st_store H); rfl; exact eF; (focus (exact cells_agg _)); exact uF; kernel_rfl; (focus (exact Nat.le_of_ble_eq_true (by rfl))); (focus (rfl)))); clear H; intro wn H; (try simp only [splice, yG, yH, yI, yJ, yK, yL, yM, yN, yO, yP, yQ, Nat.reduceAdd, yA, yB, yC] at H); simp only [Act.put, yA, yB, yC, yD, yE, yF]) | ((first | ((with_reducible apply st_alloc (dst := some 4) H); exact nF; intro b4) | ((with_reducible apply st_loadat H); decide +kernel; rfl; exact aF; exact zF; rfl)); clear H; intro wn H; simp only [Act.put, yA, yB, yC, yD, yE, yF]) | ((first | (go_at_call 147; refine gvF (c1 _ H.below) H ?_) | (go_at_call 148; refine gvF (c2 _ H.below) H ?_)); clear H; intro wn H) | ((with_reducible apply wp_region_hq (id := 10) H); kernel_rfl; kernel_rfl; (iterate 8 (all_goals ((with_reducible refine' hq_step ?_ ?_ ?_); rotate_left; rfl; (focus (intro w1 H1; first | first | exact qF | exact qAF | exact qWF | exact qVF)); (try simp only [yG, yH, yJ, yK]); (try simp only [Act.put, yA, yB, yC, yD, yE, yF])))); (all_goals ((with_reducible refine' hq_step ?_ ?_ ?_); rotate_left; rfl; (focus (intro w1 H1; unfold QOk; go_simp; exact q_call (c5 _))); (try simp only [yG, yH, yJ, yK]); simp only [Act.put, yA, yB, yC, yD, yE, yF])); (iterate 1 (all_goals ((with_reducible refine' hq_step ?_ ?_ ?_); rotate_left; rfl; (focus (intro w1 H1; exact qVF)); (try simp only [yG, yH, yJ, yK]); (try simp only [Act.put, yA, yB, yC, yD, yE, yF])))); all_goals (refine wpQuiet_nil ?_; clear H; intro wn H)))
              go_roundg (n - (j + 1 + 1))
              case measure => omega
              case rel => exact ⟨j + 1 + 1, by omega, by go_num, HI2, HT3, H.sel sF⟩)
    · obtain rfl : i = n := by omega
      have hlt1 : ¬ (i : Int) < i := by omega
      have hz := HI.out
      rw [allFrom_end (Nat.le_refl _)] at hz
      have HI2 := Lib.hid hz
      clear hz HI
      go_wp2_with (fail)
      go_ret
      exact ⟨by rw [HI2.out]; rfl, H.below⟩
end Go.Proofs.YtpfdhfchgnnpiaaGreat
