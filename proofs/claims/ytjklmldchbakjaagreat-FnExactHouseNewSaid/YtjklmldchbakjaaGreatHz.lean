/-
  Disks, houses: what the statements do with them: the walks. Printed by kgen.py.
-/
import Derived.Test.YtjklmldchbakjaaGreatHx
set_option linter.unusedSimpArgs false
set_option linter.unusedVariables false
namespace Go.Proofs.YtjklmldchbakjaaGreat
open Go.RowKit M
namespace M
abbrev Rg := ByteArray × ByteArray × ByteArray
def encRg (a : Rg) : List Value := [.string a.1, .string a.2.1, .string a.2.2]
def tyRg : Ty Rg := Ty.flat 3 encRg (fun _ => rfl) (fun a u hu => by simp only [encRg, List.mem_cons, List.not_mem_nil, or_false] at hu; rcases hu with rfl | rfl | rfl <;> rfl)
def mkRg : Mark Rg := ⟨fun _ => 3, fun k _ => (bs (mtext (k)), bs (mtext (k + 1)), bs (mtext (k + 2)))⟩
def ssRg (a : Rg) : Nat := a.1.size + (a.2.1.size + (a.2.2.size))
def okRg (a : Rg) : Prop := a.1.size ≤ 9223372036854775807 ∧ a.2.1.size ≤ 9223372036854775807 ∧ a.2.2.size ≤ 9223372036854775807
def mzRg : Mark Rg := ⟨fun a => ssRg a, fun _ a => a⟩
def szRgl (l : List Rg) : Nat := l.length + mzRg.cntl l
abbrev Dk := List Rg × Int
def szDk (a : Dk) : Nat := szRgl a.1
def okDk (a : Dk) : Prop := (∀ x ∈ a.1, okRg x)
def mkDk : Mark Dk := mkRg.list.pair (mkFix)
abbrev Ho := St × Dk × Int
def szHo (a : Ho) : Nat := szSt a.1 + (szDk a.2.1)
def okHo (a : Ho) : Prop := (okSt a.1) ∧ (okDk a.2.1)
def mkHo : Mark Ho := mkSt.pair (mkDk.pair (mkFix))
abbrev HO := Ho × (ByteArray × Int)
def szHO (a : HO) : Nat := szHo a.1
def okHO (a : HO) : Prop := (okHo a.1)
def mkHO : Mark HO := mkHo.pair (mkFix)
end M
namespace Dz
set_option maxRecDepth 100000 in
set_option maxHeartbeats 4000000 in
theorem eqRegion_l (a : Rg) (w : World) : Gives Tryz.prog 139 #[.agg #[.string a.1, .string a.2.1, .string a.2.2], .agg #[.string a.1, .string a.2.1, .string a.2.2]] w (.bool true) := by
  obtain ⟨a1, a2, a3⟩ := a
  unfold Gives
  have H := Hs.start noRow w
  go_enter Tryz.func139, Tryz.ntmps139
  go_wp2_with (first | ((first | ((with_reducible apply st_load1 H); decide +kernel; rfl; exact cF) | ((with_reducible apply st_loads H); decide +kernel; rfl; exact iF; exact zF; rfl)); clear H; intro wn H; (try simp only [splice, yG, yH, yI, yJ, yK, yL, yM, yN, yO, yP, yQ, Nat.reduceAdd, yA, yB, yC] at H); simp only [Act.put, yA, yB, yC, yD, yE, yF]) | ((first | ((with_reducible apply st_box (dst := some 2) H); exact nF; intro b2) | ((with_reducible apply st_box (dst := some 3) H); exact nF; intro b3) | ((with_reducible apply st_strsum H); rfl; rfl; exact szF; kernel_rfl) | ((with_reducible apply st_loadat H); decide +kernel; rfl; exact aF; exact zF; rfl)); clear H; intro wn H; simp only [Act.put, yA, yB, yC, yD, yE, yF]) | fail)
  go_ret
  exact ⟨rfl, H.below⟩
set_option maxRecDepth 100000 in
set_option maxHeartbeats 4000000 in
theorem eqRegionS_l (va vb : Value) (l : List Rg) (w : World) (ha : (Ty.sl 179 tyRg).rd w [va] l) (hb : (Ty.sl 179 tyRg).rd w [vb] l) : Gives Tryz.prog 105 #[va, vb] w (.bool true) := by
  obtain ⟨A, c, rfl, hlc, hcm⟩ := sl_form ha
  obtain ⟨B, d, rfl, _, _⟩ := sl_form hb
  unfold maxLen at *
  have HA := Lib.hid ha
  have HB := Lib.hid hb
  have H := Hs.start noRow w
  obtain ⟨n, hn⟩ : ∃ n, n = l.length := ⟨_, rfl⟩
  have hnl : n ≤ 9223372036854775807 := by omega
  rw [← hn] at HA HB ⊢
  have HN := Lib.hid hn
  clear ha hb hn hcm hlc
  unfold Gives
  go_enter Tryz.func105, Tryz.ntmps105
  go_wp2_with (first | ((first | ((with_reducible apply st_load1 H); decide +kernel; rfl; exact cF) | ((with_reducible apply st_loads H); decide +kernel; rfl; exact iF; exact zF; rfl)); clear H; intro wn H; (try simp only [splice, yG, yH, yI, yJ, yK, yL, yM, yN, yO, yP, yQ, Nat.reduceAdd, yA, yB, yC] at H); simp only [Act.put, yA, yB, yC, yD, yE, yF]) | ((first | ((with_reducible apply st_strsum H); rfl; rfl; exact szF; kernel_rfl) | ((with_reducible apply st_loadat H); decide +kernel; rfl; exact aF; exact zF; rfl)); clear H; intro wn H; simp only [Act.put, yA, yB, yC, yD, yE, yF]) | ((first | (go_at_call 139; refine gvF (eqRegion_l _ _) H ?_)); clear H; intro wn H) | ((with_reducible apply wp_region_hq (id := 6) H); kernel_rfl; kernel_rfl; (iterate 10 (all_goals ((with_reducible refine' hq_step ?_ ?_ ?_); rotate_left; rfl; (focus (intro w1 H1; first | (first | exact qF | exact qAF | exact qRF) | (unfold QOk; go_simp; exact q_call (eqRegion_l _ _)) | (exact qVF))); (try simp only [yG, yH, yJ, yK]); simp only [Act.put, yA, yB, yC, yD, yE, yF]))); all_goals (refine wpQuiet_nil ?_; clear H; intro wn H)) | fail)
  go_loopg [5] n (fun m iv wr => ∃ (i : Nat), i + m = n ∧ iv = .int .i64 i ∧ Hs noRow w [] wr)
  case atStart => exact ⟨0, by omega, rfl, H⟩
  case round =>
    clear H
    obtain ⟨i, hi, rfl, H⟩ := hrel
    by_cases hlt : i < n
    · obtain ⟨x, hx⟩ : ∃ x, l[i]? = some x := ⟨l[i]'(by rw [← HN.out]; exact hlt), List.getElem?_eq_getElem (by rw [← HN.out]; exact hlt)⟩
      have hs := sl_at (by have := HA.out; rw [HN.out] at this; exact this) hx
      have hs2 := sl_at (by have := HB.out; rw [HN.out] at this; exact this) hx
      rw [← HN.out] at hs hs2
      obtain ⟨b, off, c', cs, hv, hcs, hA⟩ := hs
      injection hv with hv1 hv2 hv3
      subst hv1 hv3
      obtain ⟨b2, off2, c2', cs2, hw, hcs2, hB⟩ := hs2
      injection hw with hw1 hw2 hw3
      subst hw1 hw3
      obtain rfl : cs = encRg x := hcs
      obtain rfl : cs2 = encRg x := hcs2
      have hlt1 : (i : Int) < n := by omega
      clear hx hv2 hw2
      unfold encRg at *
      go_wp2_with (first | ((first | ((with_reducible apply st_load1 H); decide +kernel; rfl; exact cF) | ((with_reducible apply st_loads H); decide +kernel; rfl; exact iF; exact zF; rfl)); clear H; intro wn H; (try simp only [splice, yG, yH, yI, yJ, yK, yL, yM, yN, yO, yP, yQ, Nat.reduceAdd, yA, yB, yC] at H); simp only [Act.put, yA, yB, yC, yD, yE, yF]) | ((first | ((with_reducible apply st_strsum H); rfl; rfl; exact szF; kernel_rfl) | ((with_reducible apply st_loadat H); decide +kernel; rfl; exact aF; exact zF; rfl)); clear H; intro wn H; simp only [Act.put, yA, yB, yC, yD, yE, yF]) | ((first | (go_at_call 139; refine gvF (eqRegion_l _ _) H ?_)); clear H; intro wn H) | ((with_reducible apply wp_region_hq (id := 6) H); kernel_rfl; kernel_rfl; (iterate 10 (all_goals ((with_reducible refine' hq_step ?_ ?_ ?_); rotate_left; rfl; (focus (intro w1 H1; first | (first | exact qF | exact qAF | exact qRF) | (unfold QOk; go_simp; exact q_call (eqRegion_l _ _)) | (exact qVF))); (try simp only [yG, yH, yJ, yK]); simp only [Act.put, yA, yB, yC, yD, yE, yF]))); all_goals (refine wpQuiet_nil ?_; clear H; intro wn H)) | fail)
      go_roundg (n - (i + 1))
      case measure => omega
      case rel => exact ⟨i + 1, by omega, by go_num, H⟩
    · obtain rfl : i = n := by omega
      have hlt1 : ¬ (i : Int) < i := by omega
      go_wp2_with (first | ((first | ((with_reducible apply st_load1 H); decide +kernel; rfl; exact cF) | ((with_reducible apply st_loads H); decide +kernel; rfl; exact iF; exact zF; rfl)); clear H; intro wn H; (try simp only [splice, yG, yH, yI, yJ, yK, yL, yM, yN, yO, yP, yQ, Nat.reduceAdd, yA, yB, yC] at H); simp only [Act.put, yA, yB, yC, yD, yE, yF]) | ((first | ((with_reducible apply st_strsum H); rfl; rfl; exact szF; kernel_rfl) | ((with_reducible apply st_loadat H); decide +kernel; rfl; exact aF; exact zF; rfl)); clear H; intro wn H; simp only [Act.put, yA, yB, yC, yD, yE, yF]) | ((first | (go_at_call 139; refine gvF (eqRegion_l _ _) H ?_)); clear H; intro wn H) | ((with_reducible apply wp_region_hq (id := 6) H); kernel_rfl; kernel_rfl; (iterate 10 (all_goals ((with_reducible refine' hq_step ?_ ?_ ?_); rotate_left; rfl; (focus (intro w1 H1; first | (first | exact qF | exact qAF | exact qRF) | (unfold QOk; go_simp; exact q_call (eqRegion_l _ _)) | (exact qVF))); (try simp only [yG, yH, yJ, yK]); simp only [Act.put, yA, yB, yC, yD, yE, yF]))); all_goals (refine wpQuiet_nil ?_; clear H; intro wn H)) | fail)
      go_ret
      exact ⟨rfl, H.below⟩
def tyDk : Ty Dk := Ty.pair (Ty.sl 179 tyRg) (tyNum)
theorem Dk_form {w : World} {cs : List Value} {a : Dk} (h : tyDk.rd w cs a) : ∃ A1 n1 k1, cs = [.slice A1 n1 k1, .int .i64 a.2] ∧ (Ty.sl 179 tyRg).rd w [.slice A1 n1 k1] a.1 := by
  obtain ⟨x1, y1, rfl, h1, h2⟩ := h
  obtain ⟨v1, hv1⟩ : ∃ v, x1 = [v] := by obtain ⟨v, _, rfl, _⟩ := h1; exact ⟨v, rfl⟩
  subst hv1
  obtain ⟨A1, k1, rfl, _, _⟩ := sl_form h1
  obtain rfl : y1 = encNum a.2 := h2
  exact ⟨A1, _, k1, rfl, h1⟩
theorem Dk_lit {w : World} {cs : List Value} {a : Dk} (h : tyDk.rd w cs a) : ∃ A1 n1 k1, cs = [.slice A1 n1 k1, .int .i64 a.2] := by
  obtain ⟨A1, n1, k1, e, _⟩ := Dk_form h
  exact ⟨A1, n1, k1, e⟩
set_option maxRecDepth 100000 in
set_option maxHeartbeats 4000000 in
theorem eqDisk_l (a : Dk) (cs ds : List Value) (w : World) (ha : tyDk.rd w cs a) (hb : tyDk.rd w ds a) : Gives Tryz.prog 72 #[.agg cs.toArray, .agg ds.toArray] w (.bool true) := by
  obtain ⟨A1, n1, k1, rfl, h1⟩ := Dk_form ha
  obtain ⟨eA1, en1, ek1, rfl, g1⟩ := Dk_form hb
  clear ha hb
  obtain ⟨a1, a2⟩ := a
  simp only at h1 g1
  show Gives Tryz.prog _ #[.agg #[.slice A1 n1 k1, .int .i64 a2], .agg #[.slice eA1 en1 ek1, .int .i64 a2]] w _
  have c1 := fun w1 hb => eqRegionS_l _ _ a1 w1 (Ty.below _ h1 hb) (Ty.below _ g1 hb)
  clear h1 g1
  have H := Hs.start noRow w
  unfold Gives
  go_enter Tryz.func72, Tryz.ntmps72
  go_wp2_with (first | ((first | ((with_reducible apply st_load1 H); decide +kernel; rfl; exact cF) | ((with_reducible apply st_loads H); decide +kernel; rfl; exact iF; exact zF; rfl)); clear H; intro wn H; (try simp only [splice, yG, yH, yI, yJ, yK, yL, yM, yN, yO, yP, yQ, Nat.reduceAdd, yA, yB, yC] at H); simp only [Act.put, yA, yB, yC, yD, yE, yF]) | ((first | ((with_reducible apply st_box (dst := some 2) H); exact nF; intro b2) | ((with_reducible apply st_box (dst := some 3) H); exact nF; intro b3) | ((with_reducible apply st_strsum H); rfl; rfl; exact szF; kernel_rfl) | ((with_reducible apply st_loadat H); decide +kernel; rfl; exact aF; exact zF; rfl)); clear H; intro wn H; simp only [Act.put, yA, yB, yC, yD, yE, yF]) | ((first | (go_at_call 105; refine gvF (c1 _ H.below) H ?_)); clear H; intro wn H) | fail)
  go_ret
  exact ⟨rfl, H.below⟩
def tyHo : Ty Ho := Ty.pair tySt (Ty.pair tyDk (tyNum))
theorem Ho_form {w : World} {cs : List Value} {a : Ho} (h : tyHo.rd w cs a) : ∃ A1 n1 k1 A2 n2 k2 A3 n3 k3 A4 n4 k4 A5 n5 k5 A6 n6 k6 A7 n7 k7 A8 n8 k8, cs = [.slice A1 n1 k1, .slice A2 n2 k2, .slice A3 n3 k3, .int .i64 a.1.1.1.2.2.2, .slice A4 n4 k4, .slice A5 n5 k5, .slice A6 n6 k6, .int .i64 a.1.1.2.2.2.2, .slice A7 n7 k7, .slice A8 n8 k8, .int .i64 a.2.1.2, .int .i64 a.2.2] ∧ tySt.rd w [.slice A1 n1 k1, .slice A2 n2 k2, .slice A3 n3 k3, .int .i64 a.1.1.1.2.2.2, .slice A4 n4 k4, .slice A5 n5 k5, .slice A6 n6 k6, .int .i64 a.1.1.2.2.2.2, .slice A7 n7 k7] a.1 ∧ tyDk.rd w [.slice A8 n8 k8, .int .i64 a.2.1.2] a.2.1 := by
  obtain ⟨x1, y1, rfl, h1, x2, y2, rfl, h2, h3⟩ := h
  obtain ⟨A1, n1, k1, A2, n2, k2, A3, n3, k3, A4, n4, k4, A5, n5, k5, A6, n6, k6, A7, n7, k7, rfl⟩ := St_lit h1
  obtain ⟨A8, n8, k8, rfl⟩ := Dk_lit h2
  obtain rfl : y2 = encNum a.2.2 := h3
  exact ⟨A1, n1, k1, A2, n2, k2, A3, n3, k3, A4, n4, k4, A5, n5, k5, A6, n6, k6, A7, n7, k7, A8, n8, k8, rfl, h1, h2⟩
theorem Ho_lit {w : World} {cs : List Value} {a : Ho} (h : tyHo.rd w cs a) : ∃ A1 n1 k1 A2 n2 k2 A3 n3 k3 A4 n4 k4 A5 n5 k5 A6 n6 k6 A7 n7 k7 A8 n8 k8, cs = [.slice A1 n1 k1, .slice A2 n2 k2, .slice A3 n3 k3, .int .i64 a.1.1.1.2.2.2, .slice A4 n4 k4, .slice A5 n5 k5, .slice A6 n6 k6, .int .i64 a.1.1.2.2.2.2, .slice A7 n7 k7, .slice A8 n8 k8, .int .i64 a.2.1.2, .int .i64 a.2.2] := by
  obtain ⟨A1, n1, k1, A2, n2, k2, A3, n3, k3, A4, n4, k4, A5, n5, k5, A6, n6, k6, A7, n7, k7, A8, n8, k8, e, _⟩ := Ho_form h
  exact ⟨A1, n1, k1, A2, n2, k2, A3, n3, k3, A4, n4, k4, A5, n5, k5, A6, n6, k6, A7, n7, k7, A8, n8, k8, e⟩
set_option maxRecDepth 100000 in
set_option maxHeartbeats 4000000 in
theorem eqHouse_l (a : Ho) (cs ds : List Value) (w : World) (ha : tyHo.rd w cs a) (hb : tyHo.rd w ds a) : Gives Tryz.prog 44 #[.agg cs.toArray, .agg ds.toArray] w (.bool true) := by
  obtain ⟨A1, n1, k1, A2, n2, k2, A3, n3, k3, A4, n4, k4, A5, n5, k5, A6, n6, k6, A7, n7, k7, A8, n8, k8, rfl, h1, h2⟩ := Ho_form ha
  obtain ⟨eA1, en1, ek1, eA2, en2, ek2, eA3, en3, ek3, eA4, en4, ek4, eA5, en5, ek5, eA6, en6, ek6, eA7, en7, ek7, eA8, en8, ek8, rfl, g1, g2⟩ := Ho_form hb
  clear ha hb
  obtain ⟨a1, a2, a3⟩ := a
  simp only at h1 h2 g1 g2
  show Gives Tryz.prog _ #[.agg #[.slice A1 n1 k1, .slice A2 n2 k2, .slice A3 n3 k3, .int .i64 a1.1.1.2.2.2, .slice A4 n4 k4, .slice A5 n5 k5, .slice A6 n6 k6, .int .i64 a1.1.2.2.2.2, .slice A7 n7 k7, .slice A8 n8 k8, .int .i64 a2.2, .int .i64 a3], .agg #[.slice eA1 en1 ek1, .slice eA2 en2 ek2, .slice eA3 en3 ek3, .int .i64 a1.1.1.2.2.2, .slice eA4 en4 ek4, .slice eA5 en5 ek5, .slice eA6 en6 ek6, .int .i64 a1.1.2.2.2.2, .slice eA7 en7 ek7, .slice eA8 en8 ek8, .int .i64 a2.2, .int .i64 a3]] w _
  have c1 := fun w1 hb => eqState_l a1 _ _ w1 (Ty.below _ h1 hb) (Ty.below _ g1 hb)
  have c2 := fun w1 hb => eqDisk_l a2 _ _ w1 (Ty.below _ h2 hb) (Ty.below _ g2 hb)
  clear h1 h2 g1 g2
  have H := Hs.start noRow w
  unfold Gives
  go_enter Tryz.func44, Tryz.ntmps44
  go_wp2_with (first | ((first | ((with_reducible apply st_load1 H); decide +kernel; rfl; exact cF) | ((with_reducible apply st_loads H); decide +kernel; rfl; exact iF; exact zF; rfl)); clear H; intro wn H; (try simp only [splice, yG, yH, yI, yJ, yK, yL, yM, yN, yO, yP, yQ, Nat.reduceAdd, yA, yB, yC] at H); simp only [Act.put, yA, yB, yC, yD, yE, yF]) | ((first | ((with_reducible apply st_box (dst := some 2) H); exact nF; intro b2) | ((with_reducible apply st_box (dst := some 3) H); exact nF; intro b3) | ((with_reducible apply st_strsum H); rfl; rfl; exact szF; kernel_rfl) | ((with_reducible apply st_loadat H); decide +kernel; rfl; exact aF; exact zF; rfl)); clear H; intro wn H; simp only [Act.put, yA, yB, yC, yD, yE, yF]) | ((first | (go_at_call 30; refine gvF (c1 _ H.below) H ?_) | (go_at_call 72; refine gvF (c2 _ H.below) H ?_)); clear H; intro wn H) | fail)
  go_ret
  exact ⟨rfl, H.below⟩
def tyHO : Ty HO := Ty.pair tyHo (tySI)
theorem HO_form {w : World} {cs : List Value} {a : HO} (h : tyHO.rd w cs a) : ∃ A1 n1 k1 A2 n2 k2 A3 n3 k3 A4 n4 k4 A5 n5 k5 A6 n6 k6 A7 n7 k7 A8 n8 k8, cs = [.slice A1 n1 k1, .slice A2 n2 k2, .slice A3 n3 k3, .int .i64 a.1.1.1.1.2.2.2, .slice A4 n4 k4, .slice A5 n5 k5, .slice A6 n6 k6, .int .i64 a.1.1.1.2.2.2.2, .slice A7 n7 k7, .slice A8 n8 k8, .int .i64 a.1.2.1.2, .int .i64 a.1.2.2, .string a.2.1, .int .i64 a.2.2] ∧ tyHo.rd w [.slice A1 n1 k1, .slice A2 n2 k2, .slice A3 n3 k3, .int .i64 a.1.1.1.1.2.2.2, .slice A4 n4 k4, .slice A5 n5 k5, .slice A6 n6 k6, .int .i64 a.1.1.1.2.2.2.2, .slice A7 n7 k7, .slice A8 n8 k8, .int .i64 a.1.2.1.2, .int .i64 a.1.2.2] a.1 := by
  obtain ⟨x1, y1, rfl, h1, h2⟩ := h
  obtain ⟨A1, n1, k1, A2, n2, k2, A3, n3, k3, A4, n4, k4, A5, n5, k5, A6, n6, k6, A7, n7, k7, A8, n8, k8, rfl⟩ := Ho_lit h1
  obtain rfl : y1 = encSI a.2 := h2
  exact ⟨A1, n1, k1, A2, n2, k2, A3, n3, k3, A4, n4, k4, A5, n5, k5, A6, n6, k6, A7, n7, k7, A8, n8, k8, rfl, h1⟩
theorem HO_lit {w : World} {cs : List Value} {a : HO} (h : tyHO.rd w cs a) : ∃ A1 n1 k1 A2 n2 k2 A3 n3 k3 A4 n4 k4 A5 n5 k5 A6 n6 k6 A7 n7 k7 A8 n8 k8, cs = [.slice A1 n1 k1, .slice A2 n2 k2, .slice A3 n3 k3, .int .i64 a.1.1.1.1.2.2.2, .slice A4 n4 k4, .slice A5 n5 k5, .slice A6 n6 k6, .int .i64 a.1.1.1.2.2.2.2, .slice A7 n7 k7, .slice A8 n8 k8, .int .i64 a.1.2.1.2, .int .i64 a.1.2.2, .string a.2.1, .int .i64 a.2.2] := by
  obtain ⟨A1, n1, k1, A2, n2, k2, A3, n3, k3, A4, n4, k4, A5, n5, k5, A6, n6, k6, A7, n7, k7, A8, n8, k8, e, _⟩ := HO_form h
  exact ⟨A1, n1, k1, A2, n2, k2, A3, n3, k3, A4, n4, k4, A5, n5, k5, A6, n6, k6, A7, n7, k7, A8, n8, k8, e⟩
set_option maxRecDepth 100000 in
set_option maxHeartbeats 4000000 in
theorem eqHouseOut_l (a : HO) (cs ds : List Value) (w : World) (ha : tyHO.rd w cs a) (hb : tyHO.rd w ds a) : Gives Tryz.prog 16 #[.agg cs.toArray, .agg ds.toArray] w (.bool true) := by
  obtain ⟨A1, n1, k1, A2, n2, k2, A3, n3, k3, A4, n4, k4, A5, n5, k5, A6, n6, k6, A7, n7, k7, A8, n8, k8, rfl, h1⟩ := HO_form ha
  obtain ⟨eA1, en1, ek1, eA2, en2, ek2, eA3, en3, ek3, eA4, en4, ek4, eA5, en5, ek5, eA6, en6, ek6, eA7, en7, ek7, eA8, en8, ek8, rfl, g1⟩ := HO_form hb
  clear ha hb
  obtain ⟨a1, a2⟩ := a
  simp only at h1 g1
  show Gives Tryz.prog _ #[.agg #[.slice A1 n1 k1, .slice A2 n2 k2, .slice A3 n3 k3, .int .i64 a1.1.1.1.2.2.2, .slice A4 n4 k4, .slice A5 n5 k5, .slice A6 n6 k6, .int .i64 a1.1.1.2.2.2.2, .slice A7 n7 k7, .slice A8 n8 k8, .int .i64 a1.2.1.2, .int .i64 a1.2.2, .string a2.1, .int .i64 a2.2], .agg #[.slice eA1 en1 ek1, .slice eA2 en2 ek2, .slice eA3 en3 ek3, .int .i64 a1.1.1.1.2.2.2, .slice eA4 en4 ek4, .slice eA5 en5 ek5, .slice eA6 en6 ek6, .int .i64 a1.1.1.2.2.2.2, .slice eA7 en7 ek7, .slice eA8 en8 ek8, .int .i64 a1.2.1.2, .int .i64 a1.2.2, .string a2.1, .int .i64 a2.2]] w _
  have c1 := fun w1 hb => eqHouse_l a1 _ _ w1 (Ty.below _ h1 hb) (Ty.below _ g1 hb)
  clear h1 g1
  have H := Hs.start noRow w
  unfold Gives
  go_enter Tryz.func16, Tryz.ntmps16
  go_wp2_with (first | ((first | ((with_reducible apply st_load1 H); decide +kernel; rfl; exact cF) | ((with_reducible apply st_loads H); decide +kernel; rfl; exact iF; exact zF; rfl)); clear H; intro wn H; (try simp only [splice, yG, yH, yI, yJ, yK, yL, yM, yN, yO, yP, yQ, Nat.reduceAdd, yA, yB, yC] at H); simp only [Act.put, yA, yB, yC, yD, yE, yF]) | ((first | ((with_reducible apply st_box (dst := some 2) H); exact nF; intro b2) | ((with_reducible apply st_box (dst := some 3) H); exact nF; intro b3) | ((with_reducible apply st_strsum H); rfl; rfl; exact szF; kernel_rfl) | ((with_reducible apply st_loadat H); decide +kernel; rfl; exact aF; exact zF; rfl)); clear H; intro wn H; simp only [Act.put, yA, yB, yC, yD, yE, yF]) | ((first | (go_at_call 44; refine gvF (c1 _ H.below) H ?_)); clear H; intro wn H) | fail)
  go_ret
  exact ⟨rfl, H.below⟩
end Dz
end Go.Proofs.YtjklmldchbakjaaGreat
