/-
  Uses in their order that may be so, in the reference: the walk.
-/
import Derived.Test.YtpfdhfchgnnpiaaGreatGB
import Derived.Test.YtpfdhfchgnnpiaaGreatG7
set_option linter.unusedSimpArgs false
set_option linter.unusedVariables false
namespace Go.Proofs.YtpfdhfchgnnpiaaGreat
open Go.RowKit M
set_option maxRecDepth 100000 in
set_option maxHeartbeats 8000000 in
theorem usesRight_s (v : Value) (l : List Us) (hs : ∀ (i : Nat) (x : Us), l[i]? = some x → x.2.1.size ≤ maxLen) (w : World) (hr : (Ty.sl 100 tyUs).rd w [v] l) : Gives Tryz.prog 69 #[v] w (.bool (usesOkS l)) := by
  obtain ⟨A, c, rfl, hlc, hcm⟩ := sl_form hr
  have HS := Lib.hid hs
  clear hs
  unfold maxLen at hcm
  have HR := Lib.hid hr
  obtain ⟨n, hn⟩ : ∃ n, n = l.length := ⟨_, rfl⟩
  have hnl : n ≤ 9223372036854775807 := by omega
  have hnc : n ≤ c := by omega
  rw [← hn] at HR ⊢
  have HN := Lib.hid hn
  obtain ⟨f, hf'⟩ : ∃ f, f = useInS l := ⟨_, rfl⟩
  have HF := Lib.hid hf'
  obtain ⟨z, hz⟩ : ∃ z, z = usesOkS l := ⟨_, rfl⟩
  rw [← hz]
  have HZ : Hid (z = (decide (n ≤ 48) && allFrom f n 0)) := Lib.hid (by rw [hz, hf', hn]; rfl)
  clear hr hn hlc hcm hz hf'
  have H := Hs.start noRow w
  unfold Gives
  by_cases hm : 48 < n
  · have HZ2 : Hid (z = false) := Lib.hid (by rw [HZ.out]; simp; omega)
    have hm' : (48 : Int) < (n : Int) := by omega
    clear HZ
    go_enter Tryz.func69, Tryz.ntmps69
    go_wp2_with (fail)
    go_ret
    exact ⟨by rw [HZ2.out]; rfl, H.below⟩
  have HZ3 : Hid (z = allFrom f n 0) := Lib.hid (by rw [HZ.out]; simp; omega)
  have hm' : ¬ (48 : Int) < (n : Int) := by omega
  clear HZ
  have HZ := HZ3
  clear HZ3
  go_enter Tryz.func69, Tryz.ntmps69
  go_wp2_with (fail)
  go_loopg [3, 4] n (fun m sv iv wr => ∃ (i : Nat), i + m = n ∧ iv = .int .i64 i ∧ sv = .int .i64 (runU l i) ∧ Hid (z = allFrom f n i) ∧ Hid (∀ j x, j < i → l[j]? = some x → okL x.1 = true) ∧ Hs noRow w [] wr)
  case atStart => exact ⟨0, by omega, rfl, rfl, HZ, Lib.hid (fun j x h => by omega), H⟩
  case round =>
    clear H HZ
    obtain ⟨i, hi, rfl, rfl, HI, HO, H⟩ := hrel
    have hrn := runU_le l i
    by_cases hlt : i < n
    · obtain ⟨x, hx⟩ : ∃ x, l[i]? = some x := ⟨l[i]'(by rw [← HN.out]; exact hlt), List.getElem?_eq_getElem (by rw [← HN.out]; exact hlt)⟩
      have hs := sl_at (by have := HR.out; rw [HN.out] at this; exact this) hx
      rw [← HN.out] at hs
      obtain ⟨b, off, c', cs, hv, hcs, hA⟩ := hs
      injection hv with hv1 hv2 hv3
      subst hv1 hv3
      obtain rfl : cs = encUs x := hcs
      have hstep := HI.out
      have hfi : f i = (useForm x && (useAftS l i x && !decide (6 < runU l (i + 1)))) := by rw [HF.out]; unfold useInS; rw [hx]
      rw [allFrom_step hlt, hfi] at hstep
      clear hfi
      have hlt1 : (i : Int) < n := by omega
      have c2 := fun w1 => nameRight_s x.2.1 (HS.out i x hx) w1
      obtain ⟨⟨x1, x2⟩, ow, us⟩ := x
      unfold encUs at hA
      unfold useForm at hstep
      simp only at hA hstep c2
      have c1 := fun w1 => labelRight_s x1 x2 w1
      have c3 := fun w1 => is_s us 1 100000 w1
      have e1 : okL (x1, x2) = labelOk x1 x2 := rfl
      have e3 : isIn us 1 100000 = (decide ((1 : Int) ≤ us) && decide (us ≤ 100000)) := rfl
      rw [e1, e3] at hstep
      have HO2 : labelOk x1 x2 = true → Hid (∀ j x, j < i + 1 → l[j]? = some x → okL x.1 = true) := fun h => Lib.hid (fun j y hj hy => by
        by_cases h2 : j < i
        · exact HO.out j y h2 hy
        · obtain rfl : j = i := by omega
          rw [hx] at hy
          injection hy with hy
          subst hy
          exact h)
      have hok : labelOk x1 x2 = true → okL ((x1, x2) : Lab) = true := fun h => h
      have HX := Lib.hid hx
      have hB1 : AtN 2 w b (off + i * 4) [.int .i64 x1, .int .i64 x2] := ⟨At.pre hA, rfl⟩
      have hB2 : w.cell? ⟨b, off + i * 4 + 1 + 1, none⟩ = some (.string ow) := hA 2 _ rfl
      have hB3 : w.cell? ⟨b, off + i * 4 + 1 + 1 + 1, none⟩ = some (.int .i64 us) := hA 3 _ rfl
      have hB4 : AtN 4 w b (off + i * 4) [.int .i64 x1, .int .i64 x2, .string ow, .int .i64 us] := ⟨hA, rfl⟩
      clear hx hv2 HI e1 e3 hA
      generalize labelOk x1 x2 = zl at *
      generalize nameOk ow.data.toList = zn at *
      generalize (decide ((1 : Int) ≤ us) && decide (us ≤ 100000)) = zu at *
      have hd : (zl = false ∨ (zl = true ∧ zn = false) ∨ (zl = true ∧ zn = true ∧ zu = false)) ∨ (zl = true ∧ zn = true ∧ zu = true) := by cases zl <;> cases zn <;> cases zu <;> simp
      rcases hd with hd | ⟨rfl, rfl, rfl⟩
      · rcases hd with rfl | ⟨rfl, rfl⟩ | ⟨rfl, rfl, rfl⟩
        all_goals (
          have HI2 : Hid (z = false) := Lib.hid (by rw [hstep]; simp)
          clear hstep
          go_wp2_with (((with_reducible apply wp_region_hq (id := 7) H); kernel_rfl; kernel_rfl; (iterate 5 (all_goals ((with_reducible refine' hq_step ?_ ?_ ?_); rotate_left; rfl; (focus (intro w1 H1; first | exact qNF | exact qVF)); (try simp only [yG, yH, yJ, yK]); (try simp only [Act.put, yA, yB, yC, yD, yE, yF])))); (all_goals ((with_reducible refine' hq_step ?_ ?_ ?_); rotate_left; rfl; (focus (intro w1 H1; unfold QOk; go_simp; exact q_call (c1 _))); (try simp only [yG, yH, yJ, yK]); simp only [Act.put, yA, yB, yC, yD, yE, yF])); (iterate 7 (all_goals ((first | ((with_reducible refine hq_gwF ?_ ?_); rfl; (with_reducible refine' hq_step ?_ ?_ ?_); rotate_left; rfl; (focus (intro w1 H1; first | exact qF | exact qVF)); (try simp only [yG, yH, yJ, yK])) | ((with_reducible refine hq_gsF ?_ ?_); rfl) | ((with_reducible refine' hq_step ?_ ?_ ?_); rotate_left; rfl; (focus (intro w1 H1; exact qVF)); (try simp only [yG, yH, yJ, yK]))); (try simp only [Act.put, yA, yB, yC, yD, yE, yF])))); all_goals (first | ((with_reducible refine hq_gwF ?_ ?_); rfl; ((with_reducible refine' hq_step ?_ ?_ ?_); rotate_left; rfl; (focus (intro w1 H1; unfold QOk; go_simp; exact q_call (c2 _))); (try simp only [yG, yH, yJ, yK]); simp only [Act.put, yA, yB, yC, yD, yE, yF])) | ((with_reducible refine hq_gsF ?_ ?_); rfl; (try simp only [Act.put, yA, yB, yC, yD, yE, yF]))); (iterate 8 (all_goals ((first | ((with_reducible refine hq_gwF ?_ ?_); rfl; (with_reducible refine' hq_step ?_ ?_ ?_); rotate_left; rfl; (focus (intro w1 H1; first | exact qF | exact qVF)); (try simp only [yG, yH, yJ, yK])) | ((with_reducible refine hq_gsF ?_ ?_); rfl) | ((with_reducible refine' hq_step ?_ ?_ ?_); rotate_left; rfl; (focus (intro w1 H1; exact qVF)); (try simp only [yG, yH, yJ, yK]))); (try simp only [Act.put, yA, yB, yC, yD, yE, yF])))); all_goals (first | ((with_reducible refine hq_gwF ?_ ?_); rfl; ((with_reducible refine' hq_step ?_ ?_ ?_); rotate_left; rfl; (focus (intro w1 H1; unfold QOk; go_simp; exact q_call (c3 _))); (try simp only [yG, yH, yJ, yK]); simp only [Act.put, yA, yB, yC, yD, yE, yF])) | ((with_reducible refine hq_gsF ?_ ?_); rfl; (try simp only [Act.put, yA, yB, yC, yD, yE, yF]))); (iterate 19 (all_goals ((first | ((with_reducible refine hq_gwF ?_ ?_); rfl; (with_reducible refine' hq_step ?_ ?_ ?_); rotate_left; rfl; (focus (intro w1 H1; exact qVF)); (try simp only [yG, yH, yJ, yK])) | ((with_reducible refine hq_gsF ?_ ?_); rfl) | ((with_reducible refine hq_skip ?_ ?_); rfl) | ((with_reducible refine' hq_step ?_ ?_ ?_); rotate_left; rfl; (focus (intro w1 H1; exact qVF)); (try simp only [yG, yH, yJ, yK]))); (try simp only [Act.put, yA, yB, yC, yD, yE, yF])))); all_goals (refine wpQuiet_nil ?_; clear H; intro wn H)))
          go_ret
          exact ⟨by rw [HI2.out]; rfl, H.below⟩)
      have HO3 := HO2 rfl
      have hok2 := hok rfl
      clear HO2 HO hok
      cases i with
      | zero =>
        rw [show useAftS l 0 ((x1, x2), ow, us) = true from rfl, show runU l (0 + 1) = 1 from rfl] at hstep
        have HI2 : Hid (z = allFrom f n (0 + 1)) := Lib.hid (by rw [hstep]; simp)
        clear hstep HX hok2
        rw [show runU l 0 = 0 from rfl] at *
        go_wp2_with (first | ((with_reducible apply wp_region_hq (id := 7) H); kernel_rfl; kernel_rfl; (iterate 5 (all_goals ((with_reducible refine' hq_step ?_ ?_ ?_); rotate_left; rfl; (focus (intro w1 H1; first | exact qNF | exact qVF)); (try simp only [yG, yH, yJ, yK]); (try simp only [Act.put, yA, yB, yC, yD, yE, yF])))); (all_goals ((with_reducible refine' hq_step ?_ ?_ ?_); rotate_left; rfl; (focus (intro w1 H1; unfold QOk; go_simp; exact q_call (c1 _))); (try simp only [yG, yH, yJ, yK]); simp only [Act.put, yA, yB, yC, yD, yE, yF])); (iterate 7 (all_goals ((first | ((with_reducible refine hq_gwF ?_ ?_); rfl; (with_reducible refine' hq_step ?_ ?_ ?_); rotate_left; rfl; (focus (intro w1 H1; first | exact qF | exact qVF)); (try simp only [yG, yH, yJ, yK])) | ((with_reducible refine' hq_step ?_ ?_ ?_); rotate_left; rfl; (focus (intro w1 H1; exact qVF)); (try simp only [yG, yH, yJ, yK]))); (try simp only [Act.put, yA, yB, yC, yD, yE, yF])))); all_goals (((with_reducible refine hq_gwF ?_ ?_); rfl; ((with_reducible refine' hq_step ?_ ?_ ?_); rotate_left; rfl; (focus (intro w1 H1; unfold QOk; go_simp; exact q_call (c2 _))); (try simp only [yG, yH, yJ, yK]); simp only [Act.put, yA, yB, yC, yD, yE, yF]))); (iterate 8 (all_goals ((first | ((with_reducible refine hq_gwF ?_ ?_); rfl; (with_reducible refine' hq_step ?_ ?_ ?_); rotate_left; rfl; (focus (intro w1 H1; first | exact qF | exact qVF)); (try simp only [yG, yH, yJ, yK])) | ((with_reducible refine' hq_step ?_ ?_ ?_); rotate_left; rfl; (focus (intro w1 H1; exact qVF)); (try simp only [yG, yH, yJ, yK]))); (try simp only [Act.put, yA, yB, yC, yD, yE, yF])))); all_goals (((with_reducible refine hq_gwF ?_ ?_); rfl; ((with_reducible refine' hq_step ?_ ?_ ?_); rotate_left; rfl; (focus (intro w1 H1; unfold QOk; go_simp; exact q_call (c3 _))); (try simp only [yG, yH, yJ, yK]); simp only [Act.put, yA, yB, yC, yD, yE, yF]))); (iterate 19 (all_goals ((first | ((with_reducible refine hq_gwF ?_ ?_); rfl; (with_reducible refine' hq_step ?_ ?_ ?_); rotate_left; rfl; (focus (intro w1 H1; exact qVF)); (try simp only [yG, yH, yJ, yK])) | ((with_reducible refine hq_gsT ?_ ?_); rfl) | ((with_reducible refine' hq_step ?_ ?_ ?_); rotate_left; rfl; (focus (intro w1 H1; exact qVF)); (try simp only [yG, yH, yJ, yK]))); (try simp only [Act.put, yA, yB, yC, yD, yE, yF])))); all_goals (refine wpQuiet_nil ?_; clear H; intro wn H)) | ((with_reducible apply wp_region_hq (id := 9) H); kernel_rfl; kernel_rfl; (iterate 16 (all_goals ((first | ((with_reducible refine hq_gsT ?_ ?_); rfl) | ((with_reducible refine' hq_step ?_ ?_ ?_); rotate_left; rfl; (focus (intro w1 H1; exact qVF)); (try simp only [yG, yH, yJ, yK]))); (try simp only [Act.put, yA, yB, yC, yD, yE, yF])))); all_goals (refine wpQuiet_nil ?_; clear H; intro wn H)))
        go_roundg (n - (0 + 1))
        case measure => omega
        case rel => exact ⟨0 + 1, by omega, by go_num, rfl, HI2, HO3, H.sel sF⟩
      | succ j =>
        obtain ⟨y, hy⟩ : ∃ y, l[j]? = some y := ⟨l[j]'(by rw [← HN.out]; omega), List.getElem?_eq_getElem (by rw [← HN.out]; omega)⟩
        have hs2 := sl_at (by have := HR.out; rw [HN.out] at this; exact this) hy
        rw [← HN.out] at hs2
        obtain ⟨b3, off3, c3', cs3, hw, hcs3, hB⟩ := hs2
        injection hw with hw1 hw2 hw3
        injection hw1 with hw1
        injection hw1 with hw4 hw5
        subst hw3 hw4 hw5
        obtain rfl : cs3 = encUs y := hcs3
        have c5 := fun w1 => less_s y ((x1, x2), ow, us) (HO3.out j y (by omega) hy) hok2 w1
        unfold useAftS at hstep
        simp only [hy] at hstep
        have hrun : runU l (j + 1 + 1) = if eqB y.1 (x1, x2) then runU l (j + 1) + 1 else 1 := by
          show runU l (j + 2) = _
          rw [runU]
          simp only [hy, HX.out]
        rw [hrun] at hstep
        have HRU := Lib.hid hrun
        clear hrun hok2
        obtain ⟨⟨y1, y2⟩, yo, yu⟩ := y
        unfold encUs at hB
        simp only at hB hstep c5 HRU
        have hC1 : AtN 2 w b (off + j * 4) [.int .i64 y1, .int .i64 y2] := ⟨At.pre hB, rfl⟩
        have hC4 : AtN 4 w b (off + j * 4) [.int .i64 y1, .int .i64 y2, .string yo, .int .i64 yu] := ⟨hB, rfl⟩
        generalize lessU ((y1, y2), yo, yu) ((x1, x2), ow, us) = q at *
        obtain ⟨e, he⟩ : ∃ e, eqB (y1, y2) (x1, x2) = e := ⟨_, rfl⟩
        rw [he] at hstep HRU
        generalize runU l (j + 1) = rr at *
        have hlt2 : (j : Int) < n := by omega
        have hlt3 : j < n := by omega
        have hpos : (0 : Int) < (j : Int) + 1 := by omega
        have hlt4 : (j : Int) + 1 < n := by omega
        have hlt5 : j + 1 < n := by omega
        clear hy hw2 hB HX
        cases q
        · have HI2 : Hid (z = false) := Lib.hid (by rw [hstep]; simp)
          clear hstep HRU he
          go_wp2_with (((with_reducible apply wp_region_hq (id := 7) H); kernel_rfl; kernel_rfl; (iterate 5 (all_goals ((with_reducible refine' hq_step ?_ ?_ ?_); rotate_left; rfl; (focus (intro w1 H1; first | exact qNF | exact qVF)); (try simp only [yG, yH, yJ, yK]); (try simp only [Act.put, yA, yB, yC, yD, yE, yF])))); (all_goals ((with_reducible refine' hq_step ?_ ?_ ?_); rotate_left; rfl; (focus (intro w1 H1; unfold QOk; go_simp; exact q_call (c1 _))); (try simp only [yG, yH, yJ, yK]); simp only [Act.put, yA, yB, yC, yD, yE, yF])); (iterate 7 (all_goals ((first | ((with_reducible refine hq_gwF ?_ ?_); rfl; (with_reducible refine' hq_step ?_ ?_ ?_); rotate_left; rfl; (focus (intro w1 H1; first | exact qF | exact qVF)); (try simp only [yG, yH, yJ, yK])) | ((with_reducible refine' hq_step ?_ ?_ ?_); rotate_left; rfl; (focus (intro w1 H1; exact qVF)); (try simp only [yG, yH, yJ, yK]))); (try simp only [Act.put, yA, yB, yC, yD, yE, yF])))); all_goals (((with_reducible refine hq_gwF ?_ ?_); rfl; ((with_reducible refine' hq_step ?_ ?_ ?_); rotate_left; rfl; (focus (intro w1 H1; unfold QOk; go_simp; exact q_call (c2 _))); (try simp only [yG, yH, yJ, yK]); simp only [Act.put, yA, yB, yC, yD, yE, yF]))); (iterate 8 (all_goals ((first | ((with_reducible refine hq_gwF ?_ ?_); rfl; (with_reducible refine' hq_step ?_ ?_ ?_); rotate_left; rfl; (focus (intro w1 H1; first | exact qF | exact qVF)); (try simp only [yG, yH, yJ, yK])) | ((with_reducible refine' hq_step ?_ ?_ ?_); rotate_left; rfl; (focus (intro w1 H1; exact qVF)); (try simp only [yG, yH, yJ, yK]))); (try simp only [Act.put, yA, yB, yC, yD, yE, yF])))); all_goals (((with_reducible refine hq_gwF ?_ ?_); rfl; ((with_reducible refine' hq_step ?_ ?_ ?_); rotate_left; rfl; (focus (intro w1 H1; unfold QOk; go_simp; exact q_call (c3 _))); (try simp only [yG, yH, yJ, yK]); simp only [Act.put, yA, yB, yC, yD, yE, yF]))); (iterate 15 (all_goals ((first | ((first | ((with_reducible refine hq_gwF ?_ ?_); rfl) | ((with_reducible refine hq_gwT ?_ ?_); rfl)); (with_reducible refine' hq_step ?_ ?_ ?_); rotate_left; rfl; (focus (intro w1 H1; first | exact qNF | exact qWF | exact qVF)); (try simp only [yG, yH, yJ, yK])) | ((with_reducible refine' hq_step ?_ ?_ ?_); rotate_left; rfl; (focus (intro w1 H1; exact qVF)); (try simp only [yG, yH, yJ, yK]))); (try simp only [Act.put, yA, yB, yC, yD, yE, yF])))); all_goals (((with_reducible refine hq_gwT ?_ ?_); rfl; ((with_reducible refine' hq_step ?_ ?_ ?_); rotate_left; rfl; (focus (intro w1 H1; unfold QOk; go_simp; exact q_call (c5 _))); (try simp only [yG, yH, yJ, yK]); simp only [Act.put, yA, yB, yC, yD, yE, yF]))); (iterate 3 (all_goals ((first | ((first | ((with_reducible refine hq_gwT ?_ ?_); rfl) | ((with_reducible refine hq_gwF ?_ ?_); rfl)); (with_reducible refine' hq_step ?_ ?_ ?_); rotate_left; rfl; (focus (intro w1 H1; exact qVF)); (try simp only [yG, yH, yJ, yK])) | ((with_reducible refine' hq_step ?_ ?_ ?_); rotate_left; rfl; (focus (intro w1 H1; exact qVF)); (try simp only [yG, yH, yJ, yK]))); (try simp only [Act.put, yA, yB, yC, yD, yE, yF])))); all_goals (refine wpQuiet_nil ?_; clear H; intro wn H)))
          go_ret
          exact ⟨by rw [HI2.out]; rfl, H.below⟩
        cases e
        · have HI2 : Hid (z = allFrom f n (j + 1 + 1)) := Lib.hid (by rw [hstep]; simp)
          clear hstep
          go_wp2_with (first | ((with_reducible apply wp_region_hq (id := 7) H); kernel_rfl; kernel_rfl; (iterate 5 (all_goals ((with_reducible refine' hq_step ?_ ?_ ?_); rotate_left; rfl; (focus (intro w1 H1; first | exact qNF | exact qVF)); (try simp only [yG, yH, yJ, yK]); (try simp only [Act.put, yA, yB, yC, yD, yE, yF])))); (all_goals ((with_reducible refine' hq_step ?_ ?_ ?_); rotate_left; rfl; (focus (intro w1 H1; unfold QOk; go_simp; exact q_call (c1 _))); (try simp only [yG, yH, yJ, yK]); simp only [Act.put, yA, yB, yC, yD, yE, yF])); (iterate 7 (all_goals ((first | ((with_reducible refine hq_gwF ?_ ?_); rfl; (with_reducible refine' hq_step ?_ ?_ ?_); rotate_left; rfl; (focus (intro w1 H1; first | exact qF | exact qVF)); (try simp only [yG, yH, yJ, yK])) | ((with_reducible refine' hq_step ?_ ?_ ?_); rotate_left; rfl; (focus (intro w1 H1; exact qVF)); (try simp only [yG, yH, yJ, yK]))); (try simp only [Act.put, yA, yB, yC, yD, yE, yF])))); all_goals (((with_reducible refine hq_gwF ?_ ?_); rfl; ((with_reducible refine' hq_step ?_ ?_ ?_); rotate_left; rfl; (focus (intro w1 H1; unfold QOk; go_simp; exact q_call (c2 _))); (try simp only [yG, yH, yJ, yK]); simp only [Act.put, yA, yB, yC, yD, yE, yF]))); (iterate 8 (all_goals ((first | ((with_reducible refine hq_gwF ?_ ?_); rfl; (with_reducible refine' hq_step ?_ ?_ ?_); rotate_left; rfl; (focus (intro w1 H1; first | exact qF | exact qVF)); (try simp only [yG, yH, yJ, yK])) | ((with_reducible refine' hq_step ?_ ?_ ?_); rotate_left; rfl; (focus (intro w1 H1; exact qVF)); (try simp only [yG, yH, yJ, yK]))); (try simp only [Act.put, yA, yB, yC, yD, yE, yF])))); all_goals (((with_reducible refine hq_gwF ?_ ?_); rfl; ((with_reducible refine' hq_step ?_ ?_ ?_); rotate_left; rfl; (focus (intro w1 H1; unfold QOk; go_simp; exact q_call (c3 _))); (try simp only [yG, yH, yJ, yK]); simp only [Act.put, yA, yB, yC, yD, yE, yF]))); (iterate 15 (all_goals ((first | ((first | ((with_reducible refine hq_gwF ?_ ?_); rfl) | ((with_reducible refine hq_gwT ?_ ?_); rfl)); (with_reducible refine' hq_step ?_ ?_ ?_); rotate_left; rfl; (focus (intro w1 H1; first | exact qNF | exact qWF | exact qVF)); (try simp only [yG, yH, yJ, yK])) | ((with_reducible refine' hq_step ?_ ?_ ?_); rotate_left; rfl; (focus (intro w1 H1; exact qVF)); (try simp only [yG, yH, yJ, yK]))); (try simp only [Act.put, yA, yB, yC, yD, yE, yF])))); all_goals (((with_reducible refine hq_gwT ?_ ?_); rfl; ((with_reducible refine' hq_step ?_ ?_ ?_); rotate_left; rfl; (focus (intro w1 H1; unfold QOk; go_simp; exact q_call (c5 _))); (try simp only [yG, yH, yJ, yK]); simp only [Act.put, yA, yB, yC, yD, yE, yF]))); (iterate 3 (all_goals ((first | ((first | ((with_reducible refine hq_gwT ?_ ?_); rfl) | ((with_reducible refine hq_gwF ?_ ?_); rfl)); (with_reducible refine' hq_step ?_ ?_ ?_); rotate_left; rfl; (focus (intro w1 H1; exact qVF)); (try simp only [yG, yH, yJ, yK])) | ((with_reducible refine' hq_step ?_ ?_ ?_); rotate_left; rfl; (focus (intro w1 H1; exact qVF)); (try simp only [yG, yH, yJ, yK]))); (try simp only [Act.put, yA, yB, yC, yD, yE, yF])))); all_goals (refine wpQuiet_nil ?_; clear H; intro wn H)) | ((with_reducible apply wp_region_hq (id := 9) H); kernel_rfl; kernel_rfl; (iterate 16 (all_goals ((first | ((with_reducible refine hq_gwT ?_ ?_); rfl; (with_reducible refine' hq_step ?_ ?_ ?_); rotate_left; rfl; (focus (intro w1 H1; first | exact qNF | exact qEF | exact qWF | exact qVF)); (try simp only [yG, yH, yJ, yK])) | ((with_reducible refine' hq_step ?_ ?_ ?_); rotate_left; rfl; (focus (intro w1 H1; exact qVF)); (try simp only [yG, yH, yJ, yK]))); (try simp only [Act.put, yA, yB, yC, yD, yE, yF])))); all_goals (refine wpQuiet_nil ?_; clear H; intro wn H)))
          go_roundg (n - (j + 1 + 1))
          case measure => omega
          case rel => exact ⟨j + 1 + 1, by omega, by go_num, by rw [HRU.out]; rfl, HI2, HO3, H.sel sF⟩
        have HRU2 : Hid (runU l (j + 1 + 1) = rr + 1) := Lib.hid (by rw [HRU.out]; simp)
        clear HRU
        by_cases h6 : 6 < rr + 1
        · have HI2 : Hid (z = false) := Lib.hid (by rw [hstep, if_pos rfl, decide_eq_true h6]; simp)
          have h7 : (6 : Int) < (rr : Int) + 1 := by omega
          clear hstep HRU2 h6
          go_wp2_with (first | ((with_reducible apply wp_region_hq (id := 7) H); kernel_rfl; kernel_rfl; (iterate 5 (all_goals ((with_reducible refine' hq_step ?_ ?_ ?_); rotate_left; rfl; (focus (intro w1 H1; first | exact qNF | exact qVF)); (try simp only [yG, yH, yJ, yK]); (try simp only [Act.put, yA, yB, yC, yD, yE, yF])))); (all_goals ((with_reducible refine' hq_step ?_ ?_ ?_); rotate_left; rfl; (focus (intro w1 H1; unfold QOk; go_simp; exact q_call (c1 _))); (try simp only [yG, yH, yJ, yK]); simp only [Act.put, yA, yB, yC, yD, yE, yF])); (iterate 7 (all_goals ((first | ((with_reducible refine hq_gwF ?_ ?_); rfl; (with_reducible refine' hq_step ?_ ?_ ?_); rotate_left; rfl; (focus (intro w1 H1; first | exact qF | exact qVF)); (try simp only [yG, yH, yJ, yK])) | ((with_reducible refine' hq_step ?_ ?_ ?_); rotate_left; rfl; (focus (intro w1 H1; exact qVF)); (try simp only [yG, yH, yJ, yK]))); (try simp only [Act.put, yA, yB, yC, yD, yE, yF])))); all_goals (((with_reducible refine hq_gwF ?_ ?_); rfl; ((with_reducible refine' hq_step ?_ ?_ ?_); rotate_left; rfl; (focus (intro w1 H1; unfold QOk; go_simp; exact q_call (c2 _))); (try simp only [yG, yH, yJ, yK]); simp only [Act.put, yA, yB, yC, yD, yE, yF]))); (iterate 8 (all_goals ((first | ((with_reducible refine hq_gwF ?_ ?_); rfl; (with_reducible refine' hq_step ?_ ?_ ?_); rotate_left; rfl; (focus (intro w1 H1; first | exact qF | exact qVF)); (try simp only [yG, yH, yJ, yK])) | ((with_reducible refine' hq_step ?_ ?_ ?_); rotate_left; rfl; (focus (intro w1 H1; exact qVF)); (try simp only [yG, yH, yJ, yK]))); (try simp only [Act.put, yA, yB, yC, yD, yE, yF])))); all_goals (((with_reducible refine hq_gwF ?_ ?_); rfl; ((with_reducible refine' hq_step ?_ ?_ ?_); rotate_left; rfl; (focus (intro w1 H1; unfold QOk; go_simp; exact q_call (c3 _))); (try simp only [yG, yH, yJ, yK]); simp only [Act.put, yA, yB, yC, yD, yE, yF]))); (iterate 15 (all_goals ((first | ((first | ((with_reducible refine hq_gwF ?_ ?_); rfl) | ((with_reducible refine hq_gwT ?_ ?_); rfl)); (with_reducible refine' hq_step ?_ ?_ ?_); rotate_left; rfl; (focus (intro w1 H1; first | exact qNF | exact qWF | exact qVF)); (try simp only [yG, yH, yJ, yK])) | ((with_reducible refine' hq_step ?_ ?_ ?_); rotate_left; rfl; (focus (intro w1 H1; exact qVF)); (try simp only [yG, yH, yJ, yK]))); (try simp only [Act.put, yA, yB, yC, yD, yE, yF])))); all_goals (((with_reducible refine hq_gwT ?_ ?_); rfl; ((with_reducible refine' hq_step ?_ ?_ ?_); rotate_left; rfl; (focus (intro w1 H1; unfold QOk; go_simp; exact q_call (c5 _))); (try simp only [yG, yH, yJ, yK]); simp only [Act.put, yA, yB, yC, yD, yE, yF]))); (iterate 3 (all_goals ((first | ((first | ((with_reducible refine hq_gwT ?_ ?_); rfl) | ((with_reducible refine hq_gwF ?_ ?_); rfl)); (with_reducible refine' hq_step ?_ ?_ ?_); rotate_left; rfl; (focus (intro w1 H1; exact qVF)); (try simp only [yG, yH, yJ, yK])) | ((with_reducible refine' hq_step ?_ ?_ ?_); rotate_left; rfl; (focus (intro w1 H1; exact qVF)); (try simp only [yG, yH, yJ, yK]))); (try simp only [Act.put, yA, yB, yC, yD, yE, yF])))); all_goals (refine wpQuiet_nil ?_; clear H; intro wn H)) | ((with_reducible apply wp_region_hq (id := 9) H); kernel_rfl; kernel_rfl; (iterate 16 (all_goals ((first | ((with_reducible refine hq_gwT ?_ ?_); rfl; (with_reducible refine' hq_step ?_ ?_ ?_); rotate_left; rfl; (focus (intro w1 H1; first | exact qNF | exact qEF | exact qWF | exact qVF)); (try simp only [yG, yH, yJ, yK])) | ((with_reducible refine' hq_step ?_ ?_ ?_); rotate_left; rfl; (focus (intro w1 H1; exact qVF)); (try simp only [yG, yH, yJ, yK]))); (try simp only [Act.put, yA, yB, yC, yD, yE, yF])))); all_goals (refine wpQuiet_nil ?_; clear H; intro wn H)))
          go_ret
          exact ⟨by rw [HI2.out]; rfl, H.below⟩
        · have HI2 : Hid (z = allFrom f n (j + 1 + 1)) := Lib.hid (by rw [hstep, if_pos rfl, decide_eq_false h6]; simp)
          have h7 : ¬ (6 : Int) < (rr : Int) + 1 := by omega
          clear hstep h6
          go_wp2_with (first | ((with_reducible apply wp_region_hq (id := 7) H); kernel_rfl; kernel_rfl; (iterate 5 (all_goals ((with_reducible refine' hq_step ?_ ?_ ?_); rotate_left; rfl; (focus (intro w1 H1; first | exact qNF | exact qVF)); (try simp only [yG, yH, yJ, yK]); (try simp only [Act.put, yA, yB, yC, yD, yE, yF])))); (all_goals ((with_reducible refine' hq_step ?_ ?_ ?_); rotate_left; rfl; (focus (intro w1 H1; unfold QOk; go_simp; exact q_call (c1 _))); (try simp only [yG, yH, yJ, yK]); simp only [Act.put, yA, yB, yC, yD, yE, yF])); (iterate 7 (all_goals ((first | ((with_reducible refine hq_gwF ?_ ?_); rfl; (with_reducible refine' hq_step ?_ ?_ ?_); rotate_left; rfl; (focus (intro w1 H1; first | exact qF | exact qVF)); (try simp only [yG, yH, yJ, yK])) | ((with_reducible refine' hq_step ?_ ?_ ?_); rotate_left; rfl; (focus (intro w1 H1; exact qVF)); (try simp only [yG, yH, yJ, yK]))); (try simp only [Act.put, yA, yB, yC, yD, yE, yF])))); all_goals (((with_reducible refine hq_gwF ?_ ?_); rfl; ((with_reducible refine' hq_step ?_ ?_ ?_); rotate_left; rfl; (focus (intro w1 H1; unfold QOk; go_simp; exact q_call (c2 _))); (try simp only [yG, yH, yJ, yK]); simp only [Act.put, yA, yB, yC, yD, yE, yF]))); (iterate 8 (all_goals ((first | ((with_reducible refine hq_gwF ?_ ?_); rfl; (with_reducible refine' hq_step ?_ ?_ ?_); rotate_left; rfl; (focus (intro w1 H1; first | exact qF | exact qVF)); (try simp only [yG, yH, yJ, yK])) | ((with_reducible refine' hq_step ?_ ?_ ?_); rotate_left; rfl; (focus (intro w1 H1; exact qVF)); (try simp only [yG, yH, yJ, yK]))); (try simp only [Act.put, yA, yB, yC, yD, yE, yF])))); all_goals (((with_reducible refine hq_gwF ?_ ?_); rfl; ((with_reducible refine' hq_step ?_ ?_ ?_); rotate_left; rfl; (focus (intro w1 H1; unfold QOk; go_simp; exact q_call (c3 _))); (try simp only [yG, yH, yJ, yK]); simp only [Act.put, yA, yB, yC, yD, yE, yF]))); (iterate 15 (all_goals ((first | ((first | ((with_reducible refine hq_gwF ?_ ?_); rfl) | ((with_reducible refine hq_gwT ?_ ?_); rfl)); (with_reducible refine' hq_step ?_ ?_ ?_); rotate_left; rfl; (focus (intro w1 H1; first | exact qNF | exact qWF | exact qVF)); (try simp only [yG, yH, yJ, yK])) | ((with_reducible refine' hq_step ?_ ?_ ?_); rotate_left; rfl; (focus (intro w1 H1; exact qVF)); (try simp only [yG, yH, yJ, yK]))); (try simp only [Act.put, yA, yB, yC, yD, yE, yF])))); all_goals (((with_reducible refine hq_gwT ?_ ?_); rfl; ((with_reducible refine' hq_step ?_ ?_ ?_); rotate_left; rfl; (focus (intro w1 H1; unfold QOk; go_simp; exact q_call (c5 _))); (try simp only [yG, yH, yJ, yK]); simp only [Act.put, yA, yB, yC, yD, yE, yF]))); (iterate 3 (all_goals ((first | ((first | ((with_reducible refine hq_gwT ?_ ?_); rfl) | ((with_reducible refine hq_gwF ?_ ?_); rfl)); (with_reducible refine' hq_step ?_ ?_ ?_); rotate_left; rfl; (focus (intro w1 H1; exact qVF)); (try simp only [yG, yH, yJ, yK])) | ((with_reducible refine' hq_step ?_ ?_ ?_); rotate_left; rfl; (focus (intro w1 H1; exact qVF)); (try simp only [yG, yH, yJ, yK]))); (try simp only [Act.put, yA, yB, yC, yD, yE, yF])))); all_goals (refine wpQuiet_nil ?_; clear H; intro wn H)) | ((with_reducible apply wp_region_hq (id := 9) H); kernel_rfl; kernel_rfl; (iterate 16 (all_goals ((first | ((with_reducible refine hq_gwT ?_ ?_); rfl; (with_reducible refine' hq_step ?_ ?_ ?_); rotate_left; rfl; (focus (intro w1 H1; first | exact qNF | exact qEF | exact qWF | exact qVF)); (try simp only [yG, yH, yJ, yK])) | ((with_reducible refine' hq_step ?_ ?_ ?_); rotate_left; rfl; (focus (intro w1 H1; exact qVF)); (try simp only [yG, yH, yJ, yK]))); (try simp only [Act.put, yA, yB, yC, yD, yE, yF])))); all_goals (refine wpQuiet_nil ?_; clear H; intro wn H)))
          go_roundg (n - (j + 1 + 1))
          case measure => omega
          case rel => exact ⟨j + 1 + 1, by omega, by go_num, by rw [HRU2.out]; go_num, HI2, HO3, H.sel sF⟩
    · obtain rfl : i = n := by omega
      have hlt1 : ¬ (i : Int) < i := by omega
      have hz := HI.out
      rw [allFrom_end (Nat.le_refl _)] at hz
      have HI2 := Lib.hid hz
      clear hz HI
      go_wp2_with (fail)
      go_ret
      exact ⟨by rw [HI2.out]; rfl, H.below⟩
end Go.Proofs.YtpfdhfchgnnpiaaGreat
