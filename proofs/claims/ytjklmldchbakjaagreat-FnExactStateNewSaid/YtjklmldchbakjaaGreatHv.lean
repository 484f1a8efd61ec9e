/-
  Nodes, tasks: what the statements do with lists of them: the walks. Printed by kgen.py.
-/
import Derived.Test.YtjklmldchbakjaaGreatHp
import Derived.Test.YtjklmldchbakjaaGreatHb
set_option linter.unusedSimpArgs false
set_option linter.unusedVariables false
namespace Go.Proofs.YtjklmldchbakjaaGreat
open Go.RowKit M
namespace M
abbrev Tf := Lab × Int × ByteArray × Int × Int × Int × Lab × Int × Int × Int × Int
def encTf (a : Tf) : List Value := [.int .i64 a.1.1, .int .i64 a.1.2, .int .i64 a.2.1, .string a.2.2.1, .int .i64 a.2.2.2.1, .int .i64 a.2.2.2.2.1, .int .i64 a.2.2.2.2.2.1, .int .i64 a.2.2.2.2.2.2.1.1, .int .i64 a.2.2.2.2.2.2.1.2, .int .i64 a.2.2.2.2.2.2.2.1, .int .i64 a.2.2.2.2.2.2.2.2.1, .int .i64 a.2.2.2.2.2.2.2.2.2.1, .int .i64 a.2.2.2.2.2.2.2.2.2.2]
def tyTf : Ty Tf := Ty.flat 13 encTf (fun _ => rfl) (fun a u hu => by simp only [encTf, List.mem_cons, List.not_mem_nil, or_false] at hu; rcases hu with rfl | rfl | rfl | rfl | rfl | rfl | rfl | rfl | rfl | rfl | rfl | rfl | rfl <;> rfl)
def mkTf : Mark Tf := ⟨fun _ => 13, fun k _ => (((k : Int), ((k + 1 : Nat) : Int)), ((k + 2 : Nat) : Int), bs (mtext (k + 3)), ((k + 4 : Nat) : Int), ((k + 5 : Nat) : Int), ((k + 6 : Nat) : Int), (((k + 7 : Nat) : Int), ((k + 8 : Nat) : Int)), ((k + 9 : Nat) : Int), ((k + 10 : Nat) : Int), ((k + 11 : Nat) : Int), ((k + 12 : Nat) : Int))⟩
def ssTf (a : Tf) : Nat := a.2.2.1.size
def okTf (a : Tf) : Prop := a.2.2.1.size ≤ 9223372036854775807
def mzTf : Mark Tf := ⟨fun a => ssTf a, fun _ a => a⟩
def szTfl (l : List Tf) : Nat := l.length + mzTf.cntl l
abbrev Nd := Int × List Sp
def ssNd (a : Nd) : Nat := a.2.length
def mzNd : Mark Nd := ⟨ssNd, fun _ a => a⟩
def szNdl (l : List Nd) : Nat := l.length + mzNd.cntl l
def mkNd : Mark Nd := mkNum.pair mkSp.list
abbrev Ta := Tf × List Int
def ssTa (a : Ta) : Nat := ssTf a.1 + a.2.length
def mzTa : Mark Ta := ⟨ssTa, fun _ a => a⟩
def szTal (l : List Ta) : Nat := l.length + mzTa.cntl l
def mkTa : Mark Ta := mkTf.pair mkNum.list
def okTa (a : Ta) : Prop := okTf a.1
end M
def tyNd : Ty Nd := Ty.pair tyNum (Ty.sl 195 tySp)
theorem Nd_form {w : World} {cs : List Value} {a : Nd} (h : tyNd.rd w cs a) : ∃ A n k, cs = [.int .i64 a.1, .slice A n k] ∧ (Ty.sl 195 tySp).rd w [.slice A n k] a.2 := by
  obtain ⟨x1, y1, rfl, h1, h2⟩ := h
  obtain rfl : x1 = encNum a.1 := h1
  obtain ⟨v, hv⟩ : ∃ v, y1 = [v] := by obtain ⟨v, _, rfl, _⟩ := h2; exact ⟨v, rfl⟩
  subst hv
  obtain ⟨A, k, rfl, _, _⟩ := sl_form h2
  exact ⟨A, _, k, rfl, h2⟩
set_option maxRecDepth 100000 in
set_option maxHeartbeats 4000000 in
theorem eqNode_l (a : Nd) (cs ds : List Value) (w : World) (ha : tyNd.rd w cs a) (hb : tyNd.rd w ds a) : Gives Tryz.prog 120 #[.agg cs.toArray, .agg ds.toArray] w (.bool true) := by
  obtain ⟨A, n, k, rfl, h1⟩ := Nd_form ha
  obtain ⟨B, m, j, rfl, h2⟩ := Nd_form hb
  clear ha hb
  obtain ⟨a1, l⟩ := a
  simp only at h1 h2
  have c1 := fun w1 hb => eqSpanS_l _ _ l w1 (Ty.below _ h1 hb) (Ty.below _ h2 hb)
  clear h1 h2
  have H := Hs.start noRow w
  unfold Gives
  go_enter Tryz.func120, Tryz.ntmps120
  go_wp2_with (first | ((first | ((with_reducible apply st_load1 H); decide +kernel; rfl; exact cF) | ((with_reducible apply st_loads H); decide +kernel; rfl; exact iF; exact zF; rfl)); clear H; intro wn H; (try simp only [splice, yG, yH, yI, yJ, yK, yL, yM, yN, yO, yP, yQ, Nat.reduceAdd, yA, yB, yC] at H); simp only [Act.put, yA, yB, yC, yD, yE, yF]) | ((first | ((with_reducible apply st_box (dst := some 2) H); exact nF; intro b2) | ((with_reducible apply st_box (dst := some 3) H); exact nF; intro b3) | ((with_reducible apply st_strsum H); rfl; rfl; exact szF; kernel_rfl) | ((with_reducible apply st_loadat H); decide +kernel; rfl; exact aF; exact zF; rfl)); clear H; intro wn H; simp only [Act.put, yA, yB, yC, yD, yE, yF]) | ((first | (go_at_call 149; refine gvF (c1 _ H.below) H ?_)); clear H; intro wn H) | fail)
  go_ret
  exact ⟨rfl, H.below⟩
set_option maxRecDepth 100000 in
set_option maxHeartbeats 4000000 in
theorem eqNodeS_l (va vb : Value) (l : List Nd) (w : World) (ha : (Ty.sl 126 tyNd).rd w [va] l) (hb : (Ty.sl 126 tyNd).rd w [vb] l) : Gives Tryz.prog 86 #[va, vb] w (.bool true) := by
  obtain ⟨A, c, rfl, hlc, hcm⟩ := sl_form ha
  obtain ⟨B, d, rfl, _, _⟩ := sl_form hb
  unfold maxLen at *
  have HA := Lib.hid ha
  have HB := Lib.hid hb
  have H := Hs.start noRow w
  obtain ⟨n, hn⟩ : ∃ n, n = l.length := ⟨_, rfl⟩
  have hnl : n ≤ 9223372036854775807 := by omega
  rw [← hn] at HA HB ⊢
  have HN := Lib.hid hn
  clear ha hb hn hcm hlc
  unfold Gives
  go_enter Tryz.func86, Tryz.ntmps86
  go_wp2_with (first | ((first | ((with_reducible apply st_load1 H); decide +kernel; rfl; exact cF) | ((with_reducible apply st_loads H); decide +kernel; rfl; exact iF; exact zF; rfl)); clear H; intro wn H; (try simp only [splice, yG, yH, yI, yJ, yK, yL, yM, yN, yO, yP, yQ, Nat.reduceAdd, yA, yB, yC] at H); simp only [Act.put, yA, yB, yC, yD, yE, yF]) | ((first | ((with_reducible apply st_strsum H); rfl; rfl; exact szF; kernel_rfl) | ((with_reducible apply st_loadat H); decide +kernel; rfl; exact aF; exact zF; rfl)); clear H; intro wn H; simp only [Act.put, yA, yB, yC, yD, yE, yF]) | ((first | (go_at_call 120; refine gvF (c1 _ H.below) H ?_)); clear H; intro wn H) | ((with_reducible apply wp_region_hq (id := 6) H); kernel_rfl; kernel_rfl; (iterate 10 (all_goals ((with_reducible refine' hq_step ?_ ?_ ?_); rotate_left; rfl; (focus (intro w1 H1; first | (first | exact qF | exact qAF | exact qRF) | (unfold QOk; go_simp; exact q_call (c1 _ H1.below)) | (exact qVF))); (try simp only [yG, yH, yJ, yK]); simp only [Act.put, yA, yB, yC, yD, yE, yF]))); all_goals (refine wpQuiet_nil ?_; clear H; intro wn H)) | fail)
  go_loopg [5] n (fun m iv wr => ∃ (i : Nat), i + m = n ∧ iv = .int .i64 i ∧ Hs noRow w [] wr)
  case atStart => exact ⟨0, by omega, rfl, H⟩
  case round =>
    clear H
    obtain ⟨i, hi, rfl, H⟩ := hrel
    by_cases hlt : i < n
    · obtain ⟨x, hx⟩ : ∃ x, l[i]? = some x := ⟨l[i]'(by rw [← HN.out]; exact hlt), List.getElem?_eq_getElem (by rw [← HN.out]; exact hlt)⟩
      have hs := sl_at (by have := HA.out; rw [HN.out] at this; exact this) hx
      have hs2 := sl_at (by have := HB.out; rw [HN.out] at this; exact this) hx
      rw [← HN.out] at hs hs2
      obtain ⟨b, off, c', cs, hv, hcs, hA⟩ := hs
      injection hv with hv1 hv2 hv3
      subst hv1 hv3
      obtain ⟨b2, off2, c2', cs2, hw, hcs2, hB⟩ := hs2
      injection hw with hw1 hw2 hw3
      subst hw1 hw3
      have c1 := fun w1 hb => eqNode_l x _ _ w1 (Ty.below _ hcs hb) (Ty.below _ hcs2 hb)
      obtain ⟨r1, r2, r3, hu, _⟩ := Nd_form hcs
      obtain ⟨y1, y2, y3, hu2, _⟩ := Nd_form hcs2
      subst hu hu2
      have hlt1 : (i : Int) < n := by omega
      clear hx hv2 hw2 hcs hcs2
      go_wp2_with (first | ((first | ((with_reducible apply st_load1 H); decide +kernel; rfl; exact cF) | ((with_reducible apply st_loads H); decide +kernel; rfl; exact iF; exact zF; rfl)); clear H; intro wn H; (try simp only [splice, yG, yH, yI, yJ, yK, yL, yM, yN, yO, yP, yQ, Nat.reduceAdd, yA, yB, yC] at H); simp only [Act.put, yA, yB, yC, yD, yE, yF]) | ((first | ((with_reducible apply st_strsum H); rfl; rfl; exact szF; kernel_rfl) | ((with_reducible apply st_loadat H); decide +kernel; rfl; exact aF; exact zF; rfl)); clear H; intro wn H; simp only [Act.put, yA, yB, yC, yD, yE, yF]) | ((first | (go_at_call 120; refine gvF (c1 _ H.below) H ?_)); clear H; intro wn H) | ((with_reducible apply wp_region_hq (id := 6) H); kernel_rfl; kernel_rfl; (iterate 10 (all_goals ((with_reducible refine' hq_step ?_ ?_ ?_); rotate_left; rfl; (focus (intro w1 H1; first | (first | exact qF | exact qAF | exact qRF) | (unfold QOk; go_simp; exact q_call (c1 _ H1.below)) | (exact qVF))); (try simp only [yG, yH, yJ, yK]); simp only [Act.put, yA, yB, yC, yD, yE, yF]))); all_goals (refine wpQuiet_nil ?_; clear H; intro wn H)) | fail)
      go_roundg (n - (i + 1))
      case measure => omega
      case rel => exact ⟨i + 1, by omega, by go_num, H⟩
    · obtain rfl : i = n := by omega
      have hlt1 : ¬ (i : Int) < i := by omega
      go_wp2_with (first | ((first | ((with_reducible apply st_load1 H); decide +kernel; rfl; exact cF) | ((with_reducible apply st_loads H); decide +kernel; rfl; exact iF; exact zF; rfl)); clear H; intro wn H; (try simp only [splice, yG, yH, yI, yJ, yK, yL, yM, yN, yO, yP, yQ, Nat.reduceAdd, yA, yB, yC] at H); simp only [Act.put, yA, yB, yC, yD, yE, yF]) | ((first | ((with_reducible apply st_strsum H); rfl; rfl; exact szF; kernel_rfl) | ((with_reducible apply st_loadat H); decide +kernel; rfl; exact aF; exact zF; rfl)); clear H; intro wn H; simp only [Act.put, yA, yB, yC, yD, yE, yF]) | ((first | (go_at_call 120; refine gvF (c1 _ H.below) H ?_)); clear H; intro wn H) | ((with_reducible apply wp_region_hq (id := 6) H); kernel_rfl; kernel_rfl; (iterate 10 (all_goals ((with_reducible refine' hq_step ?_ ?_ ?_); rotate_left; rfl; (focus (intro w1 H1; first | (first | exact qF | exact qAF | exact qRF) | (unfold QOk; go_simp; exact q_call (c1 _ H1.below)) | (exact qVF))); (try simp only [yG, yH, yJ, yK]); simp only [Act.put, yA, yB, yC, yD, yE, yF]))); all_goals (refine wpQuiet_nil ?_; clear H; intro wn H)) | fail)
      go_ret
      exact ⟨rfl, H.below⟩
def tyTa : Ty Ta := Ty.pair tyTf (Ty.sl 2 tyNum)
theorem Ta_form {w : World} {cs : List Value} {a : Ta} (h : tyTa.rd w cs a) : ∃ A n k, cs = [.int .i64 a.1.1.1, .int .i64 a.1.1.2, .int .i64 a.1.2.1, .string a.1.2.2.1, .int .i64 a.1.2.2.2.1, .int .i64 a.1.2.2.2.2.1, .int .i64 a.1.2.2.2.2.2.1, .int .i64 a.1.2.2.2.2.2.2.1.1, .int .i64 a.1.2.2.2.2.2.2.1.2, .int .i64 a.1.2.2.2.2.2.2.2.1, .int .i64 a.1.2.2.2.2.2.2.2.2.1, .int .i64 a.1.2.2.2.2.2.2.2.2.2.1, .int .i64 a.1.2.2.2.2.2.2.2.2.2.2, .slice A n k] ∧ (Ty.sl 2 tyNum).rd w [.slice A n k] a.2 := by
  obtain ⟨x1, y1, rfl, h1, h2⟩ := h
  obtain rfl : x1 = encTf a.1 := h1
  obtain ⟨v, hv⟩ : ∃ v, y1 = [v] := by obtain ⟨v, _, rfl, _⟩ := h2; exact ⟨v, rfl⟩
  subst hv
  obtain ⟨A, k, rfl, _, _⟩ := sl_form h2
  exact ⟨A, _, k, rfl, h2⟩
set_option maxRecDepth 100000 in
set_option maxHeartbeats 4000000 in
theorem eqTask_l (a : Ta) (cs ds : List Value) (w : World) (ha : tyTa.rd w cs a) (hb : tyTa.rd w ds a) : Gives Tryz.prog 121 #[.agg cs.toArray, .agg ds.toArray] w (.bool true) := by
  obtain ⟨A, n, k, rfl, h1⟩ := Ta_form ha
  obtain ⟨B, m, j, rfl, h2⟩ := Ta_form hb
  clear ha hb
  obtain ⟨⟨⟨a1, a2⟩, a3, a4, a5, a6, a7, ⟨a8, a9⟩, a10, a11, a12, a13⟩, l⟩ := a
  simp only at h1 h2
  have c1 := fun w1 hb => eqInt64S_l _ _ l w1 (Ty.below _ h1 hb) (Ty.below _ h2 hb)
  clear h1 h2
  have H := Hs.start noRow w
  unfold Gives
  go_enter Tryz.func121, Tryz.ntmps121
  go_wp2_with (first | ((first | ((with_reducible apply st_load1 H); decide +kernel; rfl; exact cF) | ((with_reducible apply st_loads H); decide +kernel; rfl; exact iF; exact zF; rfl)); clear H; intro wn H; (try simp only [splice, yG, yH, yI, yJ, yK, yL, yM, yN, yO, yP, yQ, Nat.reduceAdd, yA, yB, yC] at H); simp only [Act.put, yA, yB, yC, yD, yE, yF]) | ((first | ((with_reducible apply st_box (dst := some 2) H); exact nF; intro b2) | ((with_reducible apply st_box (dst := some 3) H); exact nF; intro b3) | ((with_reducible apply st_strsum H); rfl; rfl; exact szF; kernel_rfl) | ((with_reducible apply st_loadat H); decide +kernel; rfl; exact aF; exact zF; rfl)); clear H; intro wn H; simp only [Act.put, yA, yB, yC, yD, yE, yF]) | ((first | (go_at_call 90; refine gvF (eqLabel_l (_, _) _) H ?_) | (go_at_call 150; refine gvF (c1 _ H.below) H ?_)); clear H; intro wn H) | fail)
  go_ret
  exact ⟨rfl, H.below⟩
set_option maxRecDepth 100000 in
set_option maxHeartbeats 4000000 in
theorem eqTaskS_l (va vb : Value) (l : List Ta) (w : World) (ha : (Ty.sl 160 tyTa).rd w [va] l) (hb : (Ty.sl 160 tyTa).rd w [vb] l) : Gives Tryz.prog 87 #[va, vb] w (.bool true) := by
  obtain ⟨A, c, rfl, hlc, hcm⟩ := sl_form ha
  obtain ⟨B, d, rfl, _, _⟩ := sl_form hb
  unfold maxLen at *
  have HA := Lib.hid ha
  have HB := Lib.hid hb
  have H := Hs.start noRow w
  obtain ⟨n, hn⟩ : ∃ n, n = l.length := ⟨_, rfl⟩
  have hnl : n ≤ 9223372036854775807 := by omega
  rw [← hn] at HA HB ⊢
  have HN := Lib.hid hn
  clear ha hb hn hcm hlc
  unfold Gives
  go_enter Tryz.func87, Tryz.ntmps87
  go_wp2_with (first | ((first | ((with_reducible apply st_load1 H); decide +kernel; rfl; exact cF) | ((with_reducible apply st_loads H); decide +kernel; rfl; exact iF; exact zF; rfl)); clear H; intro wn H; (try simp only [splice, yG, yH, yI, yJ, yK, yL, yM, yN, yO, yP, yQ, Nat.reduceAdd, yA, yB, yC] at H); simp only [Act.put, yA, yB, yC, yD, yE, yF]) | ((first | ((with_reducible apply st_strsum H); rfl; rfl; exact szF; kernel_rfl) | ((with_reducible apply st_loadat H); decide +kernel; rfl; exact aF; exact zF; rfl)); clear H; intro wn H; simp only [Act.put, yA, yB, yC, yD, yE, yF]) | ((first | (go_at_call 121; refine gvF (c1 _ H.below) H ?_)); clear H; intro wn H) | ((with_reducible apply wp_region_hq (id := 6) H); kernel_rfl; kernel_rfl; (iterate 10 (all_goals ((with_reducible refine' hq_step ?_ ?_ ?_); rotate_left; rfl; (focus (intro w1 H1; first | (first | exact qF | exact qAF | exact qRF) | (unfold QOk; go_simp; exact q_call (c1 _ H1.below)) | (exact qVF))); (try simp only [yG, yH, yJ, yK]); simp only [Act.put, yA, yB, yC, yD, yE, yF]))); all_goals (refine wpQuiet_nil ?_; clear H; intro wn H)) | fail)
  go_loopg [5] n (fun m iv wr => ∃ (i : Nat), i + m = n ∧ iv = .int .i64 i ∧ Hs noRow w [] wr)
  case atStart => exact ⟨0, by omega, rfl, H⟩
  case round =>
    clear H
    obtain ⟨i, hi, rfl, H⟩ := hrel
    by_cases hlt : i < n
    · obtain ⟨x, hx⟩ : ∃ x, l[i]? = some x := ⟨l[i]'(by rw [← HN.out]; exact hlt), List.getElem?_eq_getElem (by rw [← HN.out]; exact hlt)⟩
      have hs := sl_at (by have := HA.out; rw [HN.out] at this; exact this) hx
      have hs2 := sl_at (by have := HB.out; rw [HN.out] at this; exact this) hx
      rw [← HN.out] at hs hs2
      obtain ⟨b, off, c', cs, hv, hcs, hA⟩ := hs
      injection hv with hv1 hv2 hv3
      subst hv1 hv3
      obtain ⟨b2, off2, c2', cs2, hw, hcs2, hB⟩ := hs2
      injection hw with hw1 hw2 hw3
      subst hw1 hw3
      have c1 := fun w1 hb => eqTask_l x _ _ w1 (Ty.below _ hcs hb) (Ty.below _ hcs2 hb)
      obtain ⟨r1, r2, r3, hu, _⟩ := Ta_form hcs
      obtain ⟨y1, y2, y3, hu2, _⟩ := Ta_form hcs2
      subst hu hu2
      have hlt1 : (i : Int) < n := by omega
      clear hx hv2 hw2 hcs hcs2
      go_wp2_with (first | ((first | ((with_reducible apply st_load1 H); decide +kernel; rfl; exact cF) | ((with_reducible apply st_loads H); decide +kernel; rfl; exact iF; exact zF; rfl)); clear H; intro wn H; (try simp only [splice, yG, yH, yI, yJ, yK, yL, yM, yN, yO, yP, yQ, Nat.reduceAdd, yA, yB, yC] at H); simp only [Act.put, yA, yB, yC, yD, yE, yF]) | ((first | ((with_reducible apply st_strsum H); rfl; rfl; exact szF; kernel_rfl) | ((with_reducible apply st_loadat H); decide +kernel; rfl; exact aF; exact zF; rfl)); clear H; intro wn H; simp only [Act.put, yA, yB, yC, yD, yE, yF]) | ((first | (go_at_call 121; refine gvF (c1 _ H.below) H ?_)); clear H; intro wn H) | ((with_reducible apply wp_region_hq (id := 6) H); kernel_rfl; kernel_rfl; (iterate 10 (all_goals ((with_reducible refine' hq_step ?_ ?_ ?_); rotate_left; rfl; (focus (intro w1 H1; first | (first | exact qF | exact qAF | exact qRF) | (unfold QOk; go_simp; exact q_call (c1 _ H1.below)) | (exact qVF))); (try simp only [yG, yH, yJ, yK]); simp only [Act.put, yA, yB, yC, yD, yE, yF]))); all_goals (refine wpQuiet_nil ?_; clear H; intro wn H)) | fail)
      go_roundg (n - (i + 1))
      case measure => omega
      case rel => exact ⟨i + 1, by omega, by go_num, H⟩
    · obtain rfl : i = n := by omega
      have hlt1 : ¬ (i : Int) < i := by omega
      go_wp2_with (first | ((first | ((with_reducible apply st_load1 H); decide +kernel; rfl; exact cF) | ((with_reducible apply st_loads H); decide +kernel; rfl; exact iF; exact zF; rfl)); clear H; intro wn H; (try simp only [splice, yG, yH, yI, yJ, yK, yL, yM, yN, yO, yP, yQ, Nat.reduceAdd, yA, yB, yC] at H); simp only [Act.put, yA, yB, yC, yD, yE, yF]) | ((first | ((with_reducible apply st_strsum H); rfl; rfl; exact szF; kernel_rfl) | ((with_reducible apply st_loadat H); decide +kernel; rfl; exact aF; exact zF; rfl)); clear H; intro wn H; simp only [Act.put, yA, yB, yC, yD, yE, yF]) | ((first | (go_at_call 121; refine gvF (c1 _ H.below) H ?_)); clear H; intro wn H) | ((with_reducible apply wp_region_hq (id := 6) H); kernel_rfl; kernel_rfl; (iterate 10 (all_goals ((with_reducible refine' hq_step ?_ ?_ ?_); rotate_left; rfl; (focus (intro w1 H1; first | (first | exact qF | exact qAF | exact qRF) | (unfold QOk; go_simp; exact q_call (c1 _ H1.below)) | (exact qVF))); (try simp only [yG, yH, yJ, yK]); simp only [Act.put, yA, yB, yC, yD, yE, yF]))); all_goals (refine wpQuiet_nil ?_; clear H; intro wn H)) | fail)
      go_ret
      exact ⟨rfl, H.below⟩
end Go.Proofs.YtjklmldchbakjaaGreat
