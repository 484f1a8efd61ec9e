/-
  Spans, uses: what the statements do with lists of them: the walks. Printed by kgen.py.
-/
import Derived.Test.YtjklmldchbakjaaGreatHa
import Derived.Test.YtjklmldchbakjaaGreatC1
set_option linter.unusedSimpArgs false
set_option linter.unusedVariables false
namespace Go.Proofs.YtjklmldchbakjaaGreat
open Go.RowKit M
namespace M
abbrev Sp := Int × Int
def encSp (a : Sp) : List Value := [.int .i64 a.1, .int .i64 a.2]
def tySp : Ty Sp := Ty.flat 2 encSp (fun _ => rfl) (fun a u hu => by simp only [encSp, List.mem_cons, List.not_mem_nil, or_false] at hu; rcases hu with rfl | rfl <;> rfl)
def mkSp : Mark Sp := ⟨fun _ => 2, fun k _ => ((k : Int), ((k + 1 : Nat) : Int))⟩
abbrev Us := Lab × ByteArray × Int
def encUs (a : Us) : List Value := [.int .i64 a.1.1, .int .i64 a.1.2, .string a.2.1, .int .i64 a.2.2]
def tyUs : Ty Us := Ty.flat 4 encUs (fun _ => rfl) (fun a u hu => by simp only [encUs, List.mem_cons, List.not_mem_nil, or_false] at hu; rcases hu with rfl | rfl | rfl | rfl <;> rfl)
def mkUs : Mark Us := ⟨fun _ => 4, fun k _ => (((k : Int), ((k + 1 : Nat) : Int)), bs (mtext (k + 2)), ((k + 3 : Nat) : Int))⟩
def ssUs (a : Us) : Nat := a.2.1.size
def okUs (a : Us) : Prop := a.2.1.size ≤ 9223372036854775807
def mzUs : Mark Us := ⟨fun a => ssUs a, fun _ a => a⟩
def szUsl (l : List Us) : Nat := l.length + mzUs.cntl l
end M
set_option maxRecDepth 100000 in
set_option maxHeartbeats 4000000 in
theorem eqSpan_l (a : Sp) (w : World) : Gives Tryz.prog 165 #[.agg #[.int .i64 a.1, .int .i64 a.2], .agg #[.int .i64 a.1, .int .i64 a.2]] w (.bool true) := by
  obtain ⟨a1, a2⟩ := a
  unfold Gives
  have H := Hs.start noRow w
  go_enter Tryz.func165, Tryz.ntmps165
  go_wp2_with (first | ((first | ((with_reducible apply st_load1 H); decide +kernel; rfl; exact cF) | ((with_reducible apply st_loads H); decide +kernel; rfl; exact iF; exact zF; rfl)); clear H; intro wn H; (try simp only [splice, yG, yH, yI, yJ, yK, yL, yM, yN, yO, yP, yQ, Nat.reduceAdd, yA, yB, yC] at H); simp only [Act.put, yA, yB, yC, yD, yE, yF]) | ((first | ((with_reducible apply st_box (dst := some 2) H); exact nF; intro b2) | ((with_reducible apply st_box (dst := some 3) H); exact nF; intro b3) | ((with_reducible apply st_strsum H); rfl; rfl; exact szF; kernel_rfl) | ((with_reducible apply st_loadat H); decide +kernel; rfl; exact aF; exact zF; rfl)); clear H; intro wn H; simp only [Act.put, yA, yB, yC, yD, yE, yF]) | fail)
  go_ret
  exact ⟨rfl, H.below⟩
set_option maxRecDepth 100000 in
set_option maxHeartbeats 4000000 in
theorem eqSpanS_l (va vb : Value) (l : List Sp) (w : World) (ha : (Ty.sl 195 tySp).rd w [va] l) (hb : (Ty.sl 195 tySp).rd w [vb] l) : Gives Tryz.prog 149 #[va, vb] w (.bool true) := by
  obtain ⟨A, c, rfl, hlc, hcm⟩ := sl_form ha
  obtain ⟨B, d, rfl, _, _⟩ := sl_form hb
  unfold maxLen at *
  have HA := Lib.hid ha
  have HB := Lib.hid hb
  have H := Hs.start noRow w
  obtain ⟨n, hn⟩ : ∃ n, n = l.length := ⟨_, rfl⟩
  have hnl : n ≤ 9223372036854775807 := by omega
  rw [← hn] at HA HB ⊢
  have HN := Lib.hid hn
  clear ha hb hn hcm hlc
  unfold Gives
  go_enter Tryz.func149, Tryz.ntmps149
  go_wp2_with (first | ((first | ((with_reducible apply st_load1 H); decide +kernel; rfl; exact cF) | ((with_reducible apply st_loads H); decide +kernel; rfl; exact iF; exact zF; rfl)); clear H; intro wn H; (try simp only [splice, yG, yH, yI, yJ, yK, yL, yM, yN, yO, yP, yQ, Nat.reduceAdd, yA, yB, yC] at H); simp only [Act.put, yA, yB, yC, yD, yE, yF]) | ((first | ((with_reducible apply st_strsum H); rfl; rfl; exact szF; kernel_rfl) | ((with_reducible apply st_loadat H); decide +kernel; rfl; exact aF; exact zF; rfl)); clear H; intro wn H; simp only [Act.put, yA, yB, yC, yD, yE, yF]) | ((first | (go_at_call 165; refine gvF (eqSpan_l _ _) H ?_)); clear H; intro wn H) | ((with_reducible apply wp_region_hq (id := 6) H); kernel_rfl; kernel_rfl; (iterate 10 (all_goals ((with_reducible refine' hq_step ?_ ?_ ?_); rotate_left; rfl; (focus (intro w1 H1; first | (first | exact qF | exact qAF | exact qRF) | (unfold QOk; go_simp; exact q_call (eqSpan_l _ _)) | (exact qVF))); (try simp only [yG, yH, yJ, yK]); simp only [Act.put, yA, yB, yC, yD, yE, yF]))); all_goals (refine wpQuiet_nil ?_; clear H; intro wn H)) | fail)
  go_loopg [5] n (fun m iv wr => ∃ (i : Nat), i + m = n ∧ iv = .int .i64 i ∧ Hs noRow w [] wr)
  case atStart => exact ⟨0, by omega, rfl, H⟩
  case round =>
    clear H
    obtain ⟨i, hi, rfl, H⟩ := hrel
    by_cases hlt : i < n
    · obtain ⟨x, hx⟩ : ∃ x, l[i]? = some x := ⟨l[i]'(by rw [← HN.out]; exact hlt), List.getElem?_eq_getElem (by rw [← HN.out]; exact hlt)⟩
      have hs := sl_at (by have := HA.out; rw [HN.out] at this; exact this) hx
      have hs2 := sl_at (by have := HB.out; rw [HN.out] at this; exact this) hx
      rw [← HN.out] at hs hs2
      obtain ⟨b, off, c', cs, hv, hcs, hA⟩ := hs
      injection hv with hv1 hv2 hv3
      subst hv1 hv3
      obtain ⟨b2, off2, c2', cs2, hw, hcs2, hB⟩ := hs2
      injection hw with hw1 hw2 hw3
      subst hw1 hw3
      obtain rfl : cs = encSp x := hcs
      obtain rfl : cs2 = encSp x := hcs2
      have hlt1 : (i : Int) < n := by omega
      clear hx hv2 hw2
      unfold encSp at *
      go_wp2_with (first | ((first | ((with_reducible apply st_load1 H); decide +kernel; rfl; exact cF) | ((with_reducible apply st_loads H); decide +kernel; rfl; exact iF; exact zF; rfl)); clear H; intro wn H; (try simp only [splice, yG, yH, yI, yJ, yK, yL, yM, yN, yO, yP, yQ, Nat.reduceAdd, yA, yB, yC] at H); simp only [Act.put, yA, yB, yC, yD, yE, yF]) | ((first | ((with_reducible apply st_strsum H); rfl; rfl; exact szF; kernel_rfl) | ((with_reducible apply st_loadat H); decide +kernel; rfl; exact aF; exact zF; rfl)); clear H; intro wn H; simp only [Act.put, yA, yB, yC, yD, yE, yF]) | ((first | (go_at_call 165; refine gvF (eqSpan_l _ _) H ?_)); clear H; intro wn H) | ((with_reducible apply wp_region_hq (id := 6) H); kernel_rfl; kernel_rfl; (iterate 10 (all_goals ((with_reducible refine' hq_step ?_ ?_ ?_); rotate_left; rfl; (focus (intro w1 H1; first | (first | exact qF | exact qAF | exact qRF) | (unfold QOk; go_simp; exact q_call (eqSpan_l _ _)) | (exact qVF))); (try simp only [yG, yH, yJ, yK]); simp only [Act.put, yA, yB, yC, yD, yE, yF]))); all_goals (refine wpQuiet_nil ?_; clear H; intro wn H)) | fail)
      go_roundg (n - (i + 1))
      case measure => omega
      case rel => exact ⟨i + 1, by omega, by go_num, H⟩
    · obtain rfl : i = n := by omega
      have hlt1 : ¬ (i : Int) < i := by omega
      go_wp2_with (first | ((first | ((with_reducible apply st_load1 H); decide +kernel; rfl; exact cF) | ((with_reducible apply st_loads H); decide +kernel; rfl; exact iF; exact zF; rfl)); clear H; intro wn H; (try simp only [splice, yG, yH, yI, yJ, yK, yL, yM, yN, yO, yP, yQ, Nat.reduceAdd, yA, yB, yC] at H); simp only [Act.put, yA, yB, yC, yD, yE, yF]) | ((first | ((with_reducible apply st_strsum H); rfl; rfl; exact szF; kernel_rfl) | ((with_reducible apply st_loadat H); decide +kernel; rfl; exact aF; exact zF; rfl)); clear H; intro wn H; simp only [Act.put, yA, yB, yC, yD, yE, yF]) | ((first | (go_at_call 165; refine gvF (eqSpan_l _ _) H ?_)); clear H; intro wn H) | ((with_reducible apply wp_region_hq (id := 6) H); kernel_rfl; kernel_rfl; (iterate 10 (all_goals ((with_reducible refine' hq_step ?_ ?_ ?_); rotate_left; rfl; (focus (intro w1 H1; first | (first | exact qF | exact qAF | exact qRF) | (unfold QOk; go_simp; exact q_call (eqSpan_l _ _)) | (exact qVF))); (try simp only [yG, yH, yJ, yK]); simp only [Act.put, yA, yB, yC, yD, yE, yF]))); all_goals (refine wpQuiet_nil ?_; clear H; intro wn H)) | fail)
      go_ret
      exact ⟨rfl, H.below⟩
set_option maxRecDepth 100000 in
set_option maxHeartbeats 4000000 in
theorem eqUse_l (a : Us) (w : World) : Gives Tryz.prog 122 #[.agg #[.int .i64 a.1.1, .int .i64 a.1.2, .string a.2.1, .int .i64 a.2.2], .agg #[.int .i64 a.1.1, .int .i64 a.1.2, .string a.2.1, .int .i64 a.2.2]] w (.bool true) := by
  obtain ⟨⟨a1, a2⟩, a3, a4⟩ := a
  unfold Gives
  have H := Hs.start noRow w
  go_enter Tryz.func122, Tryz.ntmps122
  go_wp2_with (first | ((first | ((with_reducible apply st_load1 H); decide +kernel; rfl; exact cF) | ((with_reducible apply st_loads H); decide +kernel; rfl; exact iF; exact zF; rfl)); clear H; intro wn H; (try simp only [splice, yG, yH, yI, yJ, yK, yL, yM, yN, yO, yP, yQ, Nat.reduceAdd, yA, yB, yC] at H); simp only [Act.put, yA, yB, yC, yD, yE, yF]) | ((first | ((with_reducible apply st_box (dst := some 2) H); exact nF; intro b2) | ((with_reducible apply st_box (dst := some 3) H); exact nF; intro b3) | ((with_reducible apply st_strsum H); rfl; rfl; exact szF; kernel_rfl) | ((with_reducible apply st_loadat H); decide +kernel; rfl; exact aF; exact zF; rfl)); clear H; intro wn H; simp only [Act.put, yA, yB, yC, yD, yE, yF]) | ((first | (go_at_call 90; refine gvF (eqLabel_l (_, _) _) H ?_)); clear H; intro wn H) | fail)
  go_ret
  exact ⟨rfl, H.below⟩
set_option maxRecDepth 100000 in
set_option maxHeartbeats 4000000 in
theorem eqUseS_l (va vb : Value) (l : List Us) (w : World) (ha : (Ty.sl 163 tyUs).rd w [va] l) (hb : (Ty.sl 163 tyUs).rd w [vb] l) : Gives Tryz.prog 88 #[va, vb] w (.bool true) := by
  obtain ⟨A, c, rfl, hlc, hcm⟩ := sl_form ha
  obtain ⟨B, d, rfl, _, _⟩ := sl_form hb
  unfold maxLen at *
  have HA := Lib.hid ha
  have HB := Lib.hid hb
  have H := Hs.start noRow w
  obtain ⟨n, hn⟩ : ∃ n, n = l.length := ⟨_, rfl⟩
  have hnl : n ≤ 9223372036854775807 := by omega
  rw [← hn] at HA HB ⊢
  have HN := Lib.hid hn
  clear ha hb hn hcm hlc
  unfold Gives
  go_enter Tryz.func88, Tryz.ntmps88
  go_wp2_with (first | ((first | ((with_reducible apply st_load1 H); decide +kernel; rfl; exact cF) | ((with_reducible apply st_loads H); decide +kernel; rfl; exact iF; exact zF; rfl)); clear H; intro wn H; (try simp only [splice, yG, yH, yI, yJ, yK, yL, yM, yN, yO, yP, yQ, Nat.reduceAdd, yA, yB, yC] at H); simp only [Act.put, yA, yB, yC, yD, yE, yF]) | ((first | ((with_reducible apply st_strsum H); rfl; rfl; exact szF; kernel_rfl) | ((with_reducible apply st_loadat H); decide +kernel; rfl; exact aF; exact zF; rfl)); clear H; intro wn H; simp only [Act.put, yA, yB, yC, yD, yE, yF]) | ((first | (go_at_call 122; refine gvF (eqUse_l _ _) H ?_)); clear H; intro wn H) | ((with_reducible apply wp_region_hq (id := 6) H); kernel_rfl; kernel_rfl; (iterate 10 (all_goals ((with_reducible refine' hq_step ?_ ?_ ?_); rotate_left; rfl; (focus (intro w1 H1; first | (first | exact qF | exact qAF | exact qRF) | (unfold QOk; go_simp; exact q_call (eqUse_l _ _)) | (exact qVF))); (try simp only [yG, yH, yJ, yK]); simp only [Act.put, yA, yB, yC, yD, yE, yF]))); all_goals (refine wpQuiet_nil ?_; clear H; intro wn H)) | fail)
  go_loopg [5] n (fun m iv wr => ∃ (i : Nat), i + m = n ∧ iv = .int .i64 i ∧ Hs noRow w [] wr)
  case atStart => exact ⟨0, by omega, rfl, H⟩
  case round =>
    clear H
    obtain ⟨i, hi, rfl, H⟩ := hrel
    by_cases hlt : i < n
    · obtain ⟨x, hx⟩ : ∃ x, l[i]? = some x := ⟨l[i]'(by rw [← HN.out]; exact hlt), List.getElem?_eq_getElem (by rw [← HN.out]; exact hlt)⟩
      have hs := sl_at (by have := HA.out; rw [HN.out] at this; exact this) hx
      have hs2 := sl_at (by have := HB.out; rw [HN.out] at this; exact this) hx
      rw [← HN.out] at hs hs2
      obtain ⟨b, off, c', cs, hv, hcs, hA⟩ := hs
      injection hv with hv1 hv2 hv3
      subst hv1 hv3
      obtain ⟨b2, off2, c2', cs2, hw, hcs2, hB⟩ := hs2
      injection hw with hw1 hw2 hw3
      subst hw1 hw3
      obtain rfl : cs = encUs x := hcs
      obtain rfl : cs2 = encUs x := hcs2
      have hlt1 : (i : Int) < n := by omega
      clear hx hv2 hw2
      unfold encUs at *
      go_wp2_with (first | ((first | ((with_reducible apply st_load1 H); decide +kernel; rfl; exact cF) | ((with_reducible apply st_loads H); decide +kernel; rfl; exact iF; exact zF; rfl)); clear H; intro wn H; (try simp only [splice, yG, yH, yI, yJ, yK, yL, yM, yN, yO, yP, yQ, Nat.reduceAdd, yA, yB, yC] at H); simp only [Act.put, yA, yB, yC, yD, yE, yF]) | ((first | ((with_reducible apply st_strsum H); rfl; rfl; exact szF; kernel_rfl) | ((with_reducible apply st_loadat H); decide +kernel; rfl; exact aF; exact zF; rfl)); clear H; intro wn H; simp only [Act.put, yA, yB, yC, yD, yE, yF]) | ((first | (go_at_call 122; refine gvF (eqUse_l _ _) H ?_)); clear H; intro wn H) | ((with_reducible apply wp_region_hq (id := 6) H); kernel_rfl; kernel_rfl; (iterate 10 (all_goals ((with_reducible refine' hq_step ?_ ?_ ?_); rotate_left; rfl; (focus (intro w1 H1; first | (first | exact qF | exact qAF | exact qRF) | (unfold QOk; go_simp; exact q_call (eqUse_l _ _)) | (exact qVF))); (try simp only [yG, yH, yJ, yK]); simp only [Act.put, yA, yB, yC, yD, yE, yF]))); all_goals (refine wpQuiet_nil ?_; clear H; intro wn H)) | fail)
      go_roundg (n - (i + 1))
      case measure => omega
      case rel => exact ⟨i + 1, by omega, by go_num, H⟩
    · obtain rfl : i = n := by omega
      have hlt1 : ¬ (i : Int) < i := by omega
      go_wp2_with (first | ((first | ((with_reducible apply st_load1 H); decide +kernel; rfl; exact cF) | ((with_reducible apply st_loads H); decide +kernel; rfl; exact iF; exact zF; rfl)); clear H; intro wn H; (try simp only [splice, yG, yH, yI, yJ, yK, yL, yM, yN, yO, yP, yQ, Nat.reduceAdd, yA, yB, yC] at H); simp only [Act.put, yA, yB, yC, yD, yE, yF]) | ((first | ((with_reducible apply st_strsum H); rfl; rfl; exact szF; kernel_rfl) | ((with_reducible apply st_loadat H); decide +kernel; rfl; exact aF; exact zF; rfl)); clear H; intro wn H; simp only [Act.put, yA, yB, yC, yD, yE, yF]) | ((first | (go_at_call 122; refine gvF (eqUse_l _ _) H ?_)); clear H; intro wn H) | ((with_reducible apply wp_region_hq (id := 6) H); kernel_rfl; kernel_rfl; (iterate 10 (all_goals ((with_reducible refine' hq_step ?_ ?_ ?_); rotate_left; rfl; (focus (intro w1 H1; first | (first | exact qF | exact qAF | exact qRF) | (unfold QOk; go_simp; exact q_call (eqUse_l _ _)) | (exact qVF))); (try simp only [yG, yH, yJ, yK]); simp only [Act.put, yA, yB, yC, yD, yE, yF]))); all_goals (refine wpQuiet_nil ?_; clear H; intro wn H)) | fail)
      go_ret
      exact ⟨rfl, H.below⟩
end Go.Proofs.YtjklmldchbakjaaGreat
