/-
  Frames: what the statements do with lists of them: the walks. Printed by kgen.py.
-/
import Derived.Test.YtpkoeeafepgphaaHp
import Derived.Test.YtpkoeeafepgphaaHb
set_option linter.unusedSimpArgs false
set_option linter.unusedVariables false
namespace Go.Proofs.Ytpkoeeafepgphaa
open Go.RowKit M
namespace M
abbrev Fm := Int × ByteArray
def encFm (a : Fm) : List Value := [.int .i64 a.1, .string a.2]
def tyFm : Ty Fm := Ty.flat 2 encFm (fun _ => rfl) (fun a u hu => by simp only [encFm, List.mem_cons, List.not_mem_nil, or_false] at hu; rcases hu with rfl | rfl <;> rfl)
def mkFm : Mark Fm := ⟨fun _ => 2, fun k _ => ((k : Int), bs (mtext (k + 1)))⟩
def ssFm (a : Fm) : Nat := a.2.size
def okFm (a : Fm) : Prop := a.2.size ≤ 9223372036854775807
def mzFm : Mark Fm := ⟨fun a => ssFm a, fun _ a => a⟩
def szFml (l : List Fm) : Nat := l.length + mzFm.cntl l
def mzFmS : Mark (List Fm) := ⟨fun x => szFml x, fun _ x => x⟩
def szFmll (l : List (List Fm)) : Nat := l.length + mzFmS.cntl l
theorem encFm_len (a : Fm) : (encFm a).length = 2 := rfl
theorem encFm_one (a : Fm) : ∀ u ∈ encFm a, u.oneCell' = true := fun u hu => by simp only [encFm, List.mem_cons, List.not_mem_nil, or_false] at hu; rcases hu with rfl | rfl <;> rfl
end M
namespace Fz
set_option maxRecDepth 100000 in
set_option maxHeartbeats 4000000 in
theorem toFrame_l (a : Fm) (w : World) : Gives Try.prog 34 #[.agg #[.int .i64 a.1, .string a.2]] w (.agg #[.int .i64 a.1, .string a.2]) := by
  obtain ⟨a1, a2⟩ := a
  unfold Gives
  have H := Hs.start noRow w
  go_enter Try.func34, Try.ntmps34
  go_wp2_with (first | ((first | ((with_reducible apply st_load1 H); decide +kernel; rfl; exact cF) | ((with_reducible apply st_loads H); decide +kernel; rfl; exact iF; exact zF; rfl) | ((with_reducible apply st_store H); rfl; exact eF; (focus (exact cells_agg _)); exact uF; kernel_rfl; (focus (exact Nat.le_of_ble_eq_true (by rfl))); (focus (first | rfl | simp))) | ((with_reducible apply st_storeown H); rfl; exact eF; (focus (exact (rfl : _ = [_]))); exact uF; (focus omega); kernel_rfl; rfl)); clear H; intro wn H; (try simp only [splice, yG, yH, yI, yJ, yK, yL, yM, yN, yO, yP, yQ, Nat.reduceAdd, yA, yB, yC] at H); simp only [Act.put, yA, yB, yC, yD, yE, yF]) | ((first | ((with_reducible apply st_box (dst := some 1) H); exact nF; intro b1) | ((with_reducible apply st_alloc (dst := some 2) H); exact nF; intro b2) | ((with_reducible apply st_alloc (dst := some 3) H); exact nF; intro b3) | ((with_reducible apply st_loadat H); decide +kernel; rfl; exact aF; exact zF; rfl) | ((with_reducible apply st_storerow H); rfl; exact eF; (first | exact cells_agg _ | exact cellI | exact cellS | exact cellB | exact (rfl : _ = [_])); exact uF; kernel_rfl; exact Nat.succ_pos _; exact fitF; rfl)); clear H; intro wn H; simp only [Act.put, yA, yB, yC, yD, yE, yF]) | fail)
  refine bp_cell H rfl rfl iF (by kernel_rfl) (by kernel_rfl) rfl (by first | exact .inl rfl | exact .inr rfl) ?_
  exact ⟨rfl, H.below⟩
set_option maxRecDepth 100000 in
set_option maxHeartbeats 4000000 in
theorem eqFrame_l (a : Fm) (w : World) : Gives Try.prog 25 #[.agg #[.int .i64 a.1, .string a.2], .agg #[.int .i64 a.1, .string a.2]] w (.bool true) := by
  obtain ⟨a1, a2⟩ := a
  unfold Gives
  have H := Hs.start noRow w
  go_enter Try.func25, Try.ntmps25
  go_wp2_with (first | ((first | ((with_reducible apply st_load1 H); decide +kernel; rfl; exact cF) | ((with_reducible apply st_loads H); decide +kernel; rfl; exact iF; exact zF; rfl)); clear H; intro wn H; (try simp only [splice, yG, yH, yI, yJ, yK, yL, yM, yN, yO, yP, yQ, Nat.reduceAdd, yA, yB, yC] at H); simp only [Act.put, yA, yB, yC, yD, yE, yF]) | ((first | ((with_reducible apply st_box (dst := some 2) H); exact nF; intro b2) | ((with_reducible apply st_box (dst := some 3) H); exact nF; intro b3) | ((with_reducible apply st_strsum H); rfl; rfl; exact szF; kernel_rfl) | ((with_reducible apply st_loadat H); decide +kernel; rfl; exact aF; exact zF; rfl)); clear H; intro wn H; simp only [Act.put, yA, yB, yC, yD, yE, yF]) | fail)
  go_ret
  exact ⟨rfl, H.below⟩
set_option maxRecDepth 100000 in
set_option maxHeartbeats 4000000 in
theorem szFrame_l (a : Fm) (k : Int) (hk : 0 ≤ k ∧ k ≤ 1048576) (ho : okFm a) (w : World) : Gives Try.prog 33 #[.agg #[.int .i64 a.1, .string a.2], .int .i64 k] w (.int .i64 (szC k (ssFm a))) := by
  unfold ssFm
  have h1 : a.2.size ≤ 9223372036854775807 := ho
  clear ho
  obtain ⟨a1, a2⟩ := a
  simp only at h1 ⊢
  obtain ⟨n1, hn1⟩ : ∃ n, n = a2.size := ⟨_, rfl⟩
  have e1 : (a2.size : Int) = n1 := by rw [hn1]
  rw [← hn1] at h1 ⊢
  have H := Hs.start noRow w
  unfold Gives
  by_cases hl1 : k - n1 < 0
  · rw [szC_neg (by omega)]
    go_enter Try.func33, Try.ntmps33
    go_wp2_with (first | ((first | ((with_reducible apply st_load1 H); decide +kernel; rfl; exact cF) | ((with_reducible apply st_loads H); decide +kernel; rfl; exact iF; exact zF; rfl)); clear H; intro wn H; (try simp only [splice, yG, yH, yI, yJ, yK, yL, yM, yN, yO, yP, yQ, Nat.reduceAdd, yA, yB, yC] at H); simp only [Act.put, yA, yB, yC, yD, yE, yF]) | ((first | ((with_reducible apply st_box (dst := some 2) H); exact nF; intro b2) | ((with_reducible apply st_strsum H); rfl; rfl; exact szF; kernel_rfl) | ((with_reducible apply st_loadat H); decide +kernel; rfl; exact aF; exact zF; rfl)); clear H; intro wn H; simp only [Act.put, yA, yB, yC, yD, yE, yF]) | fail)
    go_ret
    exact ⟨rfl, H.below⟩
  rw [szC_pos (by omega), show k - ((n1 : Nat) : Int) = k - n1 by omega]
  go_enter Try.func33, Try.ntmps33
  go_wp2_with (first | ((first | ((with_reducible apply st_load1 H); decide +kernel; rfl; exact cF) | ((with_reducible apply st_loads H); decide +kernel; rfl; exact iF; exact zF; rfl)); clear H; intro wn H; (try simp only [splice, yG, yH, yI, yJ, yK, yL, yM, yN, yO, yP, yQ, Nat.reduceAdd, yA, yB, yC] at H); simp only [Act.put, yA, yB, yC, yD, yE, yF]) | ((first | ((with_reducible apply st_box (dst := some 2) H); exact nF; intro b2) | ((with_reducible apply st_strsum H); rfl; rfl; exact szF; kernel_rfl) | ((with_reducible apply st_loadat H); decide +kernel; rfl; exact aF; exact zF; rfl)); clear H; intro wn H; simp only [Act.put, yA, yB, yC, yD, yE, yF]) | fail)
  go_ret
  exact ⟨rfl, H.below⟩
set_option maxRecDepth 100000 in
set_option maxHeartbeats 4000000 in
theorem toFrameS_l (v : Value) (l : List Fm) (hl : l.length ≤ 1048576) (w : World) (hr : (Ty.sl 0 tyFm).rd w [v] l) : Rets Try.prog [] 18 #[v] w (tOwn (Ty.sl 37 tyFm) l) := by
  obtain ⟨A, c, rfl, hlc, hcm⟩ := sl_form hr
  have HR := Lib.hid hr
  have H := Hs.start noRow w
  obtain ⟨n, hn⟩ : ∃ n, n = l.length := ⟨_, rfl⟩
  have hnl : n ≤ 1048576 := by omega
  rw [← hn] at HR ⊢
  have HN := Lib.hid hn
  clear hr hn hl hcm hlc
  refine Rets.of ?_
  go_enter Try.func18, Try.ntmps18
  go_wp2_with (first | ((first | ((with_reducible apply st_load1 H); decide +kernel; rfl; exact cF) | ((with_reducible apply st_loads H); decide +kernel; rfl; exact iF; exact zF; rfl) | ((with_reducible apply st_store H); rfl; exact eF; (focus (exact cells_agg _)); exact uF; kernel_rfl; (focus (exact Nat.le_of_ble_eq_true (by rfl))); (focus (first | rfl | simp))) | ((with_reducible apply st_storeown H); rfl; exact eF; (focus (exact (rfl : _ = [_]))); exact uF; (focus omega); kernel_rfl; rfl)); clear H; intro wn H; (try simp only [splice, yG, yH, yI, yJ, yK, yL, yM, yN, yO, yP, yQ, Nat.reduceAdd, yA, yB, yC] at H); simp only [Act.put, yA, yB, yC, yD, yE, yF]) | ((first | ((with_reducible apply st_strsum H); rfl; rfl; exact szF; kernel_rfl) | ((with_reducible apply st_loadat H); decide +kernel; rfl; exact aF; exact zF; rfl) | ((with_reducible apply st_storerow H); rfl; exact eF; (first | exact cells_agg _ | exact cellI | exact cellS | exact cellB | exact (rfl : _ = [_])); exact uF; kernel_rfl; exact Nat.succ_pos _; exact fitF; rfl)); clear H; intro wn H; simp only [Act.put, yA, yB, yC, yD, yE, yF]) | ((first | (go_at_call 34; refine gvF (toFrame_l _ _) H ?_)); clear H; intro wn H) | ((with_reducible apply st_makerow (E := 37) (s := 2) H); rfl; rfl; decide +kernel; (focus omega); clear H; intro g zs wn hz0 hz1 H; simp only [Act.put, yA, yB, yC, yD, yE, yF]) | fail)
  go_loopg [4] n (fun m iv wr => ∃ (i : Nat) (pre zs : List Value) (N : List Hl), i + m = n ∧ iv = .int .i64 i ∧ Hid (OwnL tyFm pre (l.take i) N ∧ zs.length = (n - i) * 2) ∧ Hs noRow w [Hl.row 37 2 (.slice (some ⟨g, 0, none⟩) n n) n (pre ++ zs), Hl.all N] wr)
  case atStart => exact ⟨0, [], zs, [], by omega, rfl, Lib.hid ⟨.nil, hz0⟩, by rw [List.nil_append]; exact H.allNil.sel sF⟩
  case round =>
    clear H
    obtain ⟨i, pre, zs, N, hi, rfl, HO, H⟩ := hrel
    by_cases hlt : i < n
    · obtain ⟨x, hx⟩ : ∃ x, l[i]? = some x := ⟨l[i]'(by rw [← HN.out]; exact hlt), List.getElem?_eq_getElem (by rw [← HN.out]; exact hlt)⟩
      have hs := sl_at (by have := HR.out; rw [HN.out] at this; exact this) hx
      rw [← HN.out] at hs
      obtain ⟨b, off, c', cs, hv, hcs, hA⟩ := hs
      injection hv with hv1 hv2 hv3
      subst hv1 hv3
      obtain rfl : cs = encFm x := hcs
      obtain ⟨p', z', hp, hsp, hz'⟩ := own_step (m := n - (i + 1)) HO.out.1 hx (by rw [HO.out.2]; show (n - i) * 2 = (n - (i + 1) + 1) * 2; congr 1; omega) (show tyFm.own (encFm x) x [] from ⟨rfl, rfl⟩)
      have hfit : i * 2 + 2 ≤ (pre ++ zs).length := by
        have h1 := HO.out.1.len
        have h2 := HO.out.2
        rw [List.length_append, h1, h2, List.length_take, Nat.min_eq_left (by rw [← HN.out]; omega)]
        show i * 2 + 2 ≤ i * 2 + (n - i) * 2
        omega
      have HS : Hid (spl (pre ++ zs) (i * 2) (encFm x) = p' ++ z') := Lib.hid hsp
      have HO2 := Lib.hid (And.intro hp hz')
      have hlt1 : (i : Int) < n := by omega
      clear hsp hp hz' hx HO hv2
      unfold encFm at *
      go_wp2_with (first | ((first | ((with_reducible apply st_load1 H); decide +kernel; rfl; exact cF) | ((with_reducible apply st_loads H); decide +kernel; rfl; exact iF; exact zF; rfl) | ((with_reducible apply st_store H); rfl; exact eF; (focus (exact cells_agg _)); exact uF; kernel_rfl; (focus (exact Nat.le_of_ble_eq_true (by rfl))); (focus (first | rfl | simp))) | ((with_reducible apply st_storeown H); rfl; exact eF; (focus (exact (rfl : _ = [_]))); exact uF; (focus omega); kernel_rfl; rfl)); clear H; intro wn H; (try simp only [splice, yG, yH, yI, yJ, yK, yL, yM, yN, yO, yP, yQ, Nat.reduceAdd, yA, yB, yC] at H); simp only [Act.put, yA, yB, yC, yD, yE, yF]) | ((first | ((with_reducible apply st_strsum H); rfl; rfl; exact szF; kernel_rfl) | ((with_reducible apply st_loadat H); decide +kernel; rfl; exact aF; exact zF; rfl) | ((with_reducible apply st_storerow H); rfl; exact eF; (first | exact cells_agg _ | exact cellI | exact cellS | exact cellB | exact (rfl : _ = [_])); exact uF; kernel_rfl; exact Nat.succ_pos _; exact fitF; rfl)); clear H; intro wn H; simp only [Act.put, yA, yB, yC, yD, yE, yF]) | ((first | (go_at_call 34; refine gvF (toFrame_l _ _) H ?_)); clear H; intro wn H) | ((with_reducible apply st_makerow (E := 37) (s := 2) H); rfl; rfl; decide +kernel; (focus omega); clear H; intro g zs wn hz0 hz1 H; simp only [Act.put, yA, yB, yC, yD, yE, yF]) | fail)
      go_roundg (n - (i + 1))
      case measure => omega
      case rel => exact ⟨i + 1, p', z', _, by omega, by go_num, HO2, by rw [List.append_nil, ← HS.out]; exact H.sel sF⟩
    · obtain rfl : i = n := by omega
      have hlt1 : ¬ (i : Int) < i := by omega
      go_wp2_with (first | ((first | ((with_reducible apply st_load1 H); decide +kernel; rfl; exact cF) | ((with_reducible apply st_loads H); decide +kernel; rfl; exact iF; exact zF; rfl) | ((with_reducible apply st_store H); rfl; exact eF; (focus (exact cells_agg _)); exact uF; kernel_rfl; (focus (exact Nat.le_of_ble_eq_true (by rfl))); (focus (first | rfl | simp))) | ((with_reducible apply st_storeown H); rfl; exact eF; (focus (exact (rfl : _ = [_]))); exact uF; (focus omega); kernel_rfl; rfl)); clear H; intro wn H; (try simp only [splice, yG, yH, yI, yJ, yK, yL, yM, yN, yO, yP, yQ, Nat.reduceAdd, yA, yB, yC] at H); simp only [Act.put, yA, yB, yC, yD, yE, yF]) | ((first | ((with_reducible apply st_strsum H); rfl; rfl; exact szF; kernel_rfl) | ((with_reducible apply st_loadat H); decide +kernel; rfl; exact aF; exact zF; rfl) | ((with_reducible apply st_storerow H); rfl; exact eF; (first | exact cells_agg _ | exact cellI | exact cellS | exact cellB | exact (rfl : _ = [_])); exact uF; kernel_rfl; exact Nat.succ_pos _; exact fitF; rfl)); clear H; intro wn H; simp only [Act.put, yA, yB, yC, yD, yE, yF]) | ((first | (go_at_call 34; refine gvF (toFrame_l _ _) H ?_)); clear H; intro wn H) | ((with_reducible apply st_makerow (E := 37) (s := 2) H); rfl; rfl; decide +kernel; (focus omega); clear H; intro g zs wn hz0 hz1 H; simp only [Act.put, yA, yB, yC, yD, yE, yF]) | fail)
      go_ret
      exact ret_sl H HO.out.1 (List.take_of_length_le (by rw [← HN.out]; exact Nat.le_refl _)) (by rw [HO.out.2, Nat.sub_self, Nat.zero_mul]) HN.out
set_option maxRecDepth 100000 in
set_option maxHeartbeats 4000000 in
theorem eqFrameS_l (va vb : Value) (l : List Fm) (w : World) (ha : (Ty.sl 37 tyFm).rd w [va] l) (hb : (Ty.sl 37 tyFm).rd w [vb] l) : Gives Try.prog 9 #[va, vb] w (.bool true) := by
  obtain ⟨A, c, rfl, hlc, hcm⟩ := sl_form ha
  obtain ⟨B, d, rfl, _, _⟩ := sl_form hb
  unfold maxLen at *
  have HA := Lib.hid ha
  have HB := Lib.hid hb
  have H := Hs.start noRow w
  obtain ⟨n, hn⟩ : ∃ n, n = l.length := ⟨_, rfl⟩
  have hnl : n ≤ 9223372036854775807 := by omega
  rw [← hn] at HA HB ⊢
  have HN := Lib.hid hn
  clear ha hb hn hcm hlc
  unfold Gives
  go_enter Try.func9, Try.ntmps9
  go_wp2_with (first | ((first | ((with_reducible apply st_load1 H); decide +kernel; rfl; exact cF) | ((with_reducible apply st_loads H); decide +kernel; rfl; exact iF; exact zF; rfl)); clear H; intro wn H; (try simp only [splice, yG, yH, yI, yJ, yK, yL, yM, yN, yO, yP, yQ, Nat.reduceAdd, yA, yB, yC] at H); simp only [Act.put, yA, yB, yC, yD, yE, yF]) | ((first | ((with_reducible apply st_strsum H); rfl; rfl; exact szF; kernel_rfl) | ((with_reducible apply st_loadat H); decide +kernel; rfl; exact aF; exact zF; rfl)); clear H; intro wn H; simp only [Act.put, yA, yB, yC, yD, yE, yF]) | ((first | (go_at_call 25; refine gvF (eqFrame_l _ _) H ?_)); clear H; intro wn H) | ((with_reducible apply st_makerow (E := 37) (s := 2) H); rfl; rfl; decide +kernel; (focus omega); clear H; intro g zs wn hz0 hz1 H; simp only [Act.put, yA, yB, yC, yD, yE, yF]) | ((with_reducible apply wp_region_hq (id := 6) H); kernel_rfl; kernel_rfl; (iterate 8 (all_goals ((with_reducible refine' hq_step ?_ ?_ ?_); rotate_left; rfl; (focus (intro w1 H1; first | (first | exact qF | exact qAF | exact qRF | exact qNF) | (exact qVF))); (try simp only [yG, yH, yJ, yK]); simp only [Act.put, yA, yB, yC, yD, yE, yF]))); (all_goals ((with_reducible refine' hq_step ?_ ?_ ?_); rotate_left; rfl; (focus (intro w1 H1; unfold QOk; go_simp; exact q_call (eqFrame_l _ _))); (try simp only [yG, yH, yJ, yK]); simp only [Act.put, yA, yB, yC, yD, yE, yF])); (iterate 1 (all_goals ((with_reducible refine' hq_step ?_ ?_ ?_); rotate_left; rfl; (focus (intro w1 H1; exact qVF)); (try simp only [yG, yH, yJ, yK]); simp only [Act.put, yA, yB, yC, yD, yE, yF]))); all_goals (refine wpQuiet_nil ?_; clear H; intro wn H)) | fail)
  go_loopg [5] n (fun m iv wr => ∃ (i : Nat), i + m = n ∧ iv = .int .i64 i ∧ Hs noRow w [] wr)
  case atStart => exact ⟨0, by omega, rfl, H⟩
  case round =>
    clear H
    obtain ⟨i, hi, rfl, H⟩ := hrel
    by_cases hlt : i < n
    · obtain ⟨x, hx⟩ : ∃ x, l[i]? = some x := ⟨l[i]'(by rw [← HN.out]; exact hlt), List.getElem?_eq_getElem (by rw [← HN.out]; exact hlt)⟩
      have hs := sl_at (by have := HA.out; rw [HN.out] at this; exact this) hx
      have hs2 := sl_at (by have := HB.out; rw [HN.out] at this; exact this) hx
      rw [← HN.out] at hs hs2
      obtain ⟨b, off, c', cs, hv, hcs, hA⟩ := hs
      injection hv with hv1 hv2 hv3
      subst hv1 hv3
      obtain ⟨b2, off2, c2', cs2, hw, hcs2, hB⟩ := hs2
      injection hw with hw1 hw2 hw3
      subst hw1 hw3
      obtain rfl : cs = encFm x := hcs
      obtain rfl : cs2 = encFm x := hcs2
      have hlt1 : (i : Int) < n := by omega
      clear hx hv2 hw2
      unfold encFm at *
      go_wp2_with (first | ((first | ((with_reducible apply st_load1 H); decide +kernel; rfl; exact cF) | ((with_reducible apply st_loads H); decide +kernel; rfl; exact iF; exact zF; rfl)); clear H; intro wn H; (try simp only [splice, yG, yH, yI, yJ, yK, yL, yM, yN, yO, yP, yQ, Nat.reduceAdd, yA, yB, yC] at H); simp only [Act.put, yA, yB, yC, yD, yE, yF]) | ((first | ((with_reducible apply st_strsum H); rfl; rfl; exact szF; kernel_rfl) | ((with_reducible apply st_loadat H); decide +kernel; rfl; exact aF; exact zF; rfl)); clear H; intro wn H; simp only [Act.put, yA, yB, yC, yD, yE, yF]) | ((first | (go_at_call 25; refine gvF (eqFrame_l _ _) H ?_)); clear H; intro wn H) | ((with_reducible apply st_makerow (E := 37) (s := 2) H); rfl; rfl; decide +kernel; (focus omega); clear H; intro g zs wn hz0 hz1 H; simp only [Act.put, yA, yB, yC, yD, yE, yF]) | ((with_reducible apply wp_region_hq (id := 6) H); kernel_rfl; kernel_rfl; (iterate 8 (all_goals ((with_reducible refine' hq_step ?_ ?_ ?_); rotate_left; rfl; (focus (intro w1 H1; first | (first | exact qF | exact qAF | exact qRF | exact qNF) | (exact qVF))); (try simp only [yG, yH, yJ, yK]); simp only [Act.put, yA, yB, yC, yD, yE, yF]))); (all_goals ((with_reducible refine' hq_step ?_ ?_ ?_); rotate_left; rfl; (focus (intro w1 H1; unfold QOk; go_simp; exact q_call (eqFrame_l _ _))); (try simp only [yG, yH, yJ, yK]); simp only [Act.put, yA, yB, yC, yD, yE, yF])); (iterate 1 (all_goals ((with_reducible refine' hq_step ?_ ?_ ?_); rotate_left; rfl; (focus (intro w1 H1; exact qVF)); (try simp only [yG, yH, yJ, yK]); simp only [Act.put, yA, yB, yC, yD, yE, yF]))); all_goals (refine wpQuiet_nil ?_; clear H; intro wn H)) | fail)
      go_roundg (n - (i + 1))
      case measure => omega
      case rel => exact ⟨i + 1, by omega, by go_num, H⟩
    · obtain rfl : i = n := by omega
      have hlt1 : ¬ (i : Int) < i := by omega
      go_wp2_with (first | ((first | ((with_reducible apply st_load1 H); decide +kernel; rfl; exact cF) | ((with_reducible apply st_loads H); decide +kernel; rfl; exact iF; exact zF; rfl)); clear H; intro wn H; (try simp only [splice, yG, yH, yI, yJ, yK, yL, yM, yN, yO, yP, yQ, Nat.reduceAdd, yA, yB, yC] at H); simp only [Act.put, yA, yB, yC, yD, yE, yF]) | ((first | ((with_reducible apply st_strsum H); rfl; rfl; exact szF; kernel_rfl) | ((with_reducible apply st_loadat H); decide +kernel; rfl; exact aF; exact zF; rfl)); clear H; intro wn H; simp only [Act.put, yA, yB, yC, yD, yE, yF]) | ((first | (go_at_call 25; refine gvF (eqFrame_l _ _) H ?_)); clear H; intro wn H) | ((with_reducible apply st_makerow (E := 37) (s := 2) H); rfl; rfl; decide +kernel; (focus omega); clear H; intro g zs wn hz0 hz1 H; simp only [Act.put, yA, yB, yC, yD, yE, yF]) | ((with_reducible apply wp_region_hq (id := 6) H); kernel_rfl; kernel_rfl; (iterate 8 (all_goals ((with_reducible refine' hq_step ?_ ?_ ?_); rotate_left; rfl; (focus (intro w1 H1; first | (first | exact qF | exact qAF | exact qRF | exact qNF) | (exact qVF))); (try simp only [yG, yH, yJ, yK]); simp only [Act.put, yA, yB, yC, yD, yE, yF]))); (all_goals ((with_reducible refine' hq_step ?_ ?_ ?_); rotate_left; rfl; (focus (intro w1 H1; unfold QOk; go_simp; exact q_call (eqFrame_l _ _))); (try simp only [yG, yH, yJ, yK]); simp only [Act.put, yA, yB, yC, yD, yE, yF])); (iterate 1 (all_goals ((with_reducible refine' hq_step ?_ ?_ ?_); rotate_left; rfl; (focus (intro w1 H1; exact qVF)); (try simp only [yG, yH, yJ, yK]); simp only [Act.put, yA, yB, yC, yD, yE, yF]))); all_goals (refine wpQuiet_nil ?_; clear H; intro wn H)) | fail)
      go_ret
      exact ⟨rfl, H.below⟩
set_option maxRecDepth 100000 in
set_option maxHeartbeats 4000000 in
theorem szFrameS_l (v : Value) (l : List Fm) (k : Int) (hk : 0 ≤ k ∧ k ≤ 1048576) (ho : ∀ x ∈ l, okFm x) (w : World) (hr : (Ty.sl 0 tyFm).rd w [v] l) : Gives Try.prog 17 #[v, .int .i64 k] w (.int .i64 (szC k (szFml l))) := by
  obtain ⟨A, c, rfl, hlc, hcm⟩ := sl_form hr
  unfold maxLen at *
  have HR := Lib.hid hr
  have HOK := Lib.hid ho
  have H := Hs.start noRow w
  obtain ⟨n, hn⟩ : ∃ n, n = l.length := ⟨_, rfl⟩
  obtain ⟨t, ht⟩ : ∃ t, t = mzFm.cntl l := ⟨_, rfl⟩
  rw [show szFml l = n + t by rw [hn, ht]; rfl]
  rw [← hn] at HR ⊢
  have HN := Lib.hid hn
  have HT := Lib.hid ht
  have hnl : n ≤ 9223372036854775807 := by omega
  clear hr hn ht hcm hlc ho
  unfold Gives
  by_cases h : k - n < 0
  · rw [szC_neg (by omega)]
    go_enter Try.func17, Try.ntmps17
    go_wp2_with (first | ((first | ((with_reducible apply st_load1 H); decide +kernel; rfl; exact cF) | ((with_reducible apply st_loads H); decide +kernel; rfl; exact iF; exact zF; rfl)); clear H; intro wn H; (try simp only [splice, yG, yH, yI, yJ, yK, yL, yM, yN, yO, yP, yQ, Nat.reduceAdd, yA, yB, yC] at H); simp only [Act.put, yA, yB, yC, yD, yE, yF]) | ((first | ((with_reducible apply st_strsum H); rfl; rfl; exact szF; kernel_rfl) | ((with_reducible apply st_loadat H); decide +kernel; rfl; exact aF; exact zF; rfl)); clear H; intro wn H; simp only [Act.put, yA, yB, yC, yD, yE, yF]) | ((first | (go_at_call 33; refine gvF (c1 _) H ?_)); clear H; intro wn H) | ((with_reducible apply st_makerow (E := 37) (s := 2) H); rfl; rfl; decide +kernel; (focus omega); clear H; intro g zs wn hz0 hz1 H; simp only [Act.put, yA, yB, yC, yD, yE, yF]) | fail)
    go_ret
    exact ⟨rfl, H.below⟩
  obtain ⟨z, hz⟩ : ∃ z, z = szC k (n + t : Nat) := ⟨_, rfl⟩
  rw [← hz]
  have HZ := Lib.hid hz
  clear hz
  go_enter Try.func17, Try.ntmps17
  go_wp2_with (first | ((first | ((with_reducible apply st_load1 H); decide +kernel; rfl; exact cF) | ((with_reducible apply st_loads H); decide +kernel; rfl; exact iF; exact zF; rfl)); clear H; intro wn H; (try simp only [splice, yG, yH, yI, yJ, yK, yL, yM, yN, yO, yP, yQ, Nat.reduceAdd, yA, yB, yC] at H); simp only [Act.put, yA, yB, yC, yD, yE, yF]) | ((first | ((with_reducible apply st_strsum H); rfl; rfl; exact szF; kernel_rfl) | ((with_reducible apply st_loadat H); decide +kernel; rfl; exact aF; exact zF; rfl)); clear H; intro wn H; simp only [Act.put, yA, yB, yC, yD, yE, yF]) | ((first | (go_at_call 33; refine gvF (c1 _) H ?_)); clear H; intro wn H) | ((with_reducible apply st_makerow (E := 37) (s := 2) H); rfl; rfl; decide +kernel; (focus omega); clear H; intro g zs wn hz0 hz1 H; simp only [Act.put, yA, yB, yC, yD, yE, yF]) | fail)
  go_loopg [1, 5] n (fun m kv iv wr => ∃ (i s : Nat), i + m = n ∧ iv = .int .i64 i ∧ kv = .int .i64 (k - n - s) ∧ 0 ≤ k - n - s ∧ Hid (s = mzFm.cntl (l.take i)) ∧ Hs noRow w [] wr)
  case atStart => exact ⟨0, 0, by omega, rfl, by go_num, by omega, Lib.hid rfl, H⟩
  case round =>
    clear H
    obtain ⟨i, s, hi, rfl, rfl, hs0, HI, H⟩ := hrel
    by_cases hlt : i < n
    · obtain ⟨x, hx⟩ : ∃ x, l[i]? = some x := ⟨l[i]'(by rw [← HN.out]; exact hlt), List.getElem?_eq_getElem (by rw [← HN.out]; exact hlt)⟩
      have hs := sl_at (by have := HR.out; rw [HN.out] at this; exact this) hx
      rw [← HN.out] at hs
      obtain ⟨b, off, c', cs, hv, hcs, hA⟩ := hs
      injection hv with hv1 hv2 hv3
      subst hv1 hv3
      obtain rfl : cs = encFm x := hcs
      have c1 := fun w1 => szFrame_l x (k - n - s) ⟨hs0, by omega⟩ (HOK.out x (List.mem_of_getElem? hx)) w1
      have hle := mzFm.cnt_at_le hx
      have hxs : mzFm.cnt x = (ssFm x) := rfl
      rw [← HI.out, ← HT.out, hxs] at hle
      have HI2 : Hid (s + (ssFm x) = mzFm.cntl (l.take (i + 1))) := Lib.hid (by rw [mzFm.cntl_step hx, ← HI.out]; rfl)
      have hlt1 : (i : Int) < n := by omega
      unfold encFm at *
      clear hx hv2 hxs
      generalize (ssFm x) = xn at *
      by_cases hng : k - n - s - xn < 0
      · rw [szC_neg hng] at c1
        have HZ2 : Hid (z = -1) := Lib.hid (by rw [HZ.out, szC_neg (by omega)])
        go_wp2_with (first | ((first | ((with_reducible apply st_load1 H); decide +kernel; rfl; exact cF) | ((with_reducible apply st_loads H); decide +kernel; rfl; exact iF; exact zF; rfl)); clear H; intro wn H; (try simp only [splice, yG, yH, yI, yJ, yK, yL, yM, yN, yO, yP, yQ, Nat.reduceAdd, yA, yB, yC] at H); simp only [Act.put, yA, yB, yC, yD, yE, yF]) | ((first | ((with_reducible apply st_strsum H); rfl; rfl; exact szF; kernel_rfl) | ((with_reducible apply st_loadat H); decide +kernel; rfl; exact aF; exact zF; rfl)); clear H; intro wn H; simp only [Act.put, yA, yB, yC, yD, yE, yF]) | ((first | (go_at_call 33; refine gvF (c1 _) H ?_)); clear H; intro wn H) | ((with_reducible apply st_makerow (E := 37) (s := 2) H); rfl; rfl; decide +kernel; (focus omega); clear H; intro g zs wn hz0 hz1 H; simp only [Act.put, yA, yB, yC, yD, yE, yF]) | fail)
        go_ret
        exact ⟨by rw [HZ2.out]; rfl, H.below⟩
      · rw [szC_pos hng] at c1
        go_wp2_with (first | ((first | ((with_reducible apply st_load1 H); decide +kernel; rfl; exact cF) | ((with_reducible apply st_loads H); decide +kernel; rfl; exact iF; exact zF; rfl)); clear H; intro wn H; (try simp only [splice, yG, yH, yI, yJ, yK, yL, yM, yN, yO, yP, yQ, Nat.reduceAdd, yA, yB, yC] at H); simp only [Act.put, yA, yB, yC, yD, yE, yF]) | ((first | ((with_reducible apply st_strsum H); rfl; rfl; exact szF; kernel_rfl) | ((with_reducible apply st_loadat H); decide +kernel; rfl; exact aF; exact zF; rfl)); clear H; intro wn H; simp only [Act.put, yA, yB, yC, yD, yE, yF]) | ((first | (go_at_call 33; refine gvF (c1 _) H ?_)); clear H; intro wn H) | ((with_reducible apply st_makerow (E := 37) (s := 2) H); rfl; rfl; decide +kernel; (focus omega); clear H; intro g zs wn hz0 hz1 H; simp only [Act.put, yA, yB, yC, yD, yE, yF]) | fail)
        go_roundg (n - (i + 1))
        case measure => omega
        case rel => exact ⟨i + 1, s + xn, by omega, by go_num, by go_num, by omega, HI2, H⟩
    · obtain rfl : i = n := by omega
      have hlt1 : ¬ (i : Int) < i := by omega
      have hst : s = t := by rw [HI.out, HT.out, List.take_of_length_le (by rw [← HN.out]; exact Nat.le_refl _)]
      subst hst
      have HZ2 : Hid (z = k - i - s) := Lib.hid (by rw [HZ.out, szC_pos (by omega)]; omega)
      go_wp2_with (first | ((first | ((with_reducible apply st_load1 H); decide +kernel; rfl; exact cF) | ((with_reducible apply st_loads H); decide +kernel; rfl; exact iF; exact zF; rfl)); clear H; intro wn H; (try simp only [splice, yG, yH, yI, yJ, yK, yL, yM, yN, yO, yP, yQ, Nat.reduceAdd, yA, yB, yC] at H); simp only [Act.put, yA, yB, yC, yD, yE, yF]) | ((first | ((with_reducible apply st_strsum H); rfl; rfl; exact szF; kernel_rfl) | ((with_reducible apply st_loadat H); decide +kernel; rfl; exact aF; exact zF; rfl)); clear H; intro wn H; simp only [Act.put, yA, yB, yC, yD, yE, yF]) | ((first | (go_at_call 33; refine gvF (c1 _) H ?_)); clear H; intro wn H) | ((with_reducible apply st_makerow (E := 37) (s := 2) H); rfl; rfl; decide +kernel; (focus omega); clear H; intro g zs wn hz0 hz1 H; simp only [Act.put, yA, yB, yC, yD, yE, yF]) | fail)
      go_ret
      exact ⟨by rw [HZ2.out]; rfl, H.below⟩
set_option maxRecDepth 100000 in
set_option maxHeartbeats 4000000 in
theorem toFrameSS_l (v : Value) (l : List (List Fm)) (hl : szFmll l ≤ 1048576) (w : World) (hr : (Ty.sl 0 (Ty.sl 0 tyFm)).rd w [v] l) : Rets Try.prog [] 7 #[v] w (tOwn (Ty.sl 24 (Ty.sl 37 tyFm)) l) := by
  obtain ⟨A, c, rfl, hlc, hcm⟩ := sl_form hr
  have HR := Lib.hid hr
  have HL := Lib.hid hl
  have H := Hs.start noRow w
  obtain ⟨n, hn⟩ : ∃ n, n = l.length := ⟨_, rfl⟩
  have hnl : n ≤ 1048576 := by unfold szFmll at hl; omega
  rw [← hn] at HR ⊢
  have HN := Lib.hid hn
  clear hr hn hl hcm hlc
  refine Rets.of ?_
  go_enter Try.func7, Try.ntmps7
  go_wp2_with (first | ((first | ((with_reducible apply st_load1 H); decide +kernel; rfl; exact cF) | ((with_reducible apply st_loads H); decide +kernel; rfl; exact iF; exact zF; rfl) | ((with_reducible apply st_store H); rfl; exact eF; (focus (exact cells_agg _)); exact uF; kernel_rfl; (focus (exact Nat.le_of_ble_eq_true (by rfl))); (focus (first | rfl | simp))) | ((with_reducible apply st_storeown H); rfl; exact eF; (focus (exact (rfl : _ = [_]))); exact uF; (focus omega); kernel_rfl; rfl)); clear H; intro wn H; (try simp only [splice, yG, yH, yI, yJ, yK, yL, yM, yN, yO, yP, yQ, Nat.reduceAdd, yA, yB, yC] at H); simp only [Act.put, yA, yB, yC, yD, yE, yF]) | ((first | ((with_reducible apply st_strsum H); rfl; rfl; exact szF; kernel_rfl) | ((with_reducible apply st_loadat H); decide +kernel; rfl; exact aF; exact zF; rfl) | ((with_reducible apply st_storerow H); rfl; exact eF; (first | exact cells_agg _ | exact cellI | exact cellS | exact cellB | exact (rfl : _ = [_])); exact uF; kernel_rfl; exact Nat.succ_pos _; exact fitF; rfl)); clear H; intro wn H; simp only [Act.put, yA, yB, yC, yD, yE, yF]) | ((with_reducible apply st_makerow (E := 37) (s := 2) H); rfl; rfl; decide +kernel; (focus omega); clear H; intro g zs wn hz0 hz1 H; simp only [Act.put, yA, yB, yC, yD, yE, yF]) | ((with_reducible apply st_makerow (E := 24) (s := 1) H); rfl; rfl; decide +kernel; (focus omega); clear H; intro g zs wn hz0 hz1 H; simp only [Act.put, yA, yB, yC, yD, yE, yF]) | fail)
  go_loopg [4] n (fun m iv wr => ∃ (i : Nat) (pre zs : List Value) (N : List Hl), i + m = n ∧ iv = .int .i64 i ∧ Hid (OwnL (Ty.sl 37 tyFm) pre (l.take i) N ∧ zs.length = (n - i) * 1) ∧ Hs noRow w [Hl.row 24 1 (.slice (some ⟨g, 0, none⟩) n n) n (pre ++ zs), Hl.all N] wr)
  case atStart => exact ⟨0, [], zs, [], by omega, rfl, Lib.hid ⟨.nil, hz0⟩, by rw [List.nil_append]; exact H.allNil.sel sF⟩
  case round =>
    clear H
    obtain ⟨i, pre, zs, N, hi, rfl, HO, H⟩ := hrel
    by_cases hlt : i < n
    · obtain ⟨x, hx⟩ : ∃ x, l[i]? = some x := ⟨l[i]'(by rw [← HN.out]; exact hlt), List.getElem?_eq_getElem (by rw [← HN.out]; exact hlt)⟩
      have hs := sl_at (by have := HR.out; rw [HN.out] at this; exact this) hx
      rw [← HN.out] at hs
      obtain ⟨b, off, c', cs, hv, hcs, hA⟩ := hs
      injection hv with hv1 hv2 hv3
      subst hv1 hv3
      obtain ⟨u, hu⟩ : ∃ u, cs = [u] := by obtain ⟨u, _, rfl, _⟩ := hcs; exact ⟨u, rfl⟩
      subst hu
      have h0 : w.cell? ⟨b, off + i, none⟩ = some u := by have h := hA.head (u := u) rfl; rw [show i * Ty.s _ = i from Nat.mul_one i] at h; exact h
      have hxl : x.length ≤ 1048576 := by have h1 := mzFmS.cnt_at_le hx; have h2 := HL.out; unfold szFmll at h2; have h3 : mzFmS.cnt x = szFml x := rfl; unfold szFml at h3; omega
      have hC := fun w1 hb => toFrameS_l u x hxl w1 (Ty.below _ hcs hb)
      have hfit : i + 1 ≤ (pre ++ zs).length := by
        have h1 := HO.out.1.len
        have h2 := HO.out.2
        rw [List.length_append, h1, h2, List.length_take, Nat.min_eq_left (by rw [← HN.out]; omega)]
        show i + 1 ≤ i * 1 + (n - i) * 1
        omega
      have hlt1 : (i : Int) < n := by omega
      clear hv2 hA hcs
      go_wp2_with (first | ((first | ((with_reducible apply st_load1 H); decide +kernel; rfl; exact cF) | ((with_reducible apply st_loads H); decide +kernel; rfl; exact iF; exact zF; rfl) | ((with_reducible apply st_store H); rfl; exact eF; (focus (exact cells_agg _)); exact uF; kernel_rfl; (focus (exact Nat.le_of_ble_eq_true (by rfl))); (focus (first | rfl | simp))) | ((with_reducible apply st_storeown H); rfl; exact eF; (focus (exact (rfl : _ = [_]))); exact uF; (focus omega); kernel_rfl; rfl)); clear H; intro wn H; (try simp only [splice, yG, yH, yI, yJ, yK, yL, yM, yN, yO, yP, yQ, Nat.reduceAdd, yA, yB, yC] at H); simp only [Act.put, yA, yB, yC, yD, yE, yF]) | ((first | ((with_reducible apply st_strsum H); rfl; rfl; exact szF; kernel_rfl) | ((with_reducible apply st_loadat H); decide +kernel; rfl; exact aF; exact zF; rfl) | ((with_reducible apply st_storerow H); rfl; exact eF; (first | exact cells_agg _ | exact cellI | exact cellS | exact cellB | exact (rfl : _ = [_])); exact uF; kernel_rfl; exact Nat.succ_pos _; exact fitF; rfl)); clear H; intro wn H; simp only [Act.put, yA, yB, yC, yD, yE, yF]) | ((with_reducible apply st_makerow (E := 37) (s := 2) H); rfl; rfl; decide +kernel; (focus omega); clear H; intro g zs wn hz0 hz1 H; simp only [Act.put, yA, yB, yC, yD, yE, yF]) | ((with_reducible apply st_makerow (E := 24) (s := 1) H); rfl; rfl; decide +kernel; (focus omega); clear H; intro g zs wn hz0 hz1 H; simp only [Act.put, yA, yB, yC, yD, yE, yF]) | fail)
      refine (Rets.use (hC _ H.below)).mono ?_; rintro e wn ⟨_, _, rfl, ⟨N4, hN, rfl, hone⟩, hkk⟩; have Hn := H.moreK (by intro k hk; first | exact absurd hk List.not_mem_nil | (obtain rfl := List.mem_singleton.1 hk; exact In.mem iF)) hkk; clear hkk; clear H; have H := Hn; clear Hn; (try simp only [yT, yV] at H)
      have hN2 := own_single hN hone rfl
      obtain ⟨A4, c4, rfl, hl4, hc4⟩ := sl_form (own_rd H .here hN2)
      clear hN hone
      obtain ⟨p', z', hp, hsp, hz'⟩ := own_step (m := n - (i + 1)) HO.out.1 hx (by rw [HO.out.2]; show (n - i) * 1 = (n - (i + 1) + 1) * 1; congr 1; omega) hN2
      have HS : Hid (spl (pre ++ zs) (i) [.slice A4 x.length c4] = p' ++ z') := Lib.hid (by have h := hsp; rw [show i * Ty.s _ = i from Nat.mul_one i] at h; exact h)
      have HO2 := Lib.hid (And.intro hp hz')
      clear hsp hp hz' hx HO hN2
      go_wp2_with (first | ((first | ((with_reducible apply st_load1 H); decide +kernel; rfl; exact cF) | ((with_reducible apply st_loads H); decide +kernel; rfl; exact iF; exact zF; rfl) | ((with_reducible apply st_store H); rfl; exact eF; (focus (exact cells_agg _)); exact uF; kernel_rfl; (focus (exact Nat.le_of_ble_eq_true (by rfl))); (focus (first | rfl | simp))) | ((with_reducible apply st_storeown H); rfl; exact eF; (focus (exact (rfl : _ = [_]))); exact uF; (focus omega); kernel_rfl; rfl)); clear H; intro wn H; (try simp only [splice, yG, yH, yI, yJ, yK, yL, yM, yN, yO, yP, yQ, Nat.reduceAdd, yA, yB, yC] at H); simp only [Act.put, yA, yB, yC, yD, yE, yF]) | ((first | ((with_reducible apply st_strsum H); rfl; rfl; exact szF; kernel_rfl) | ((with_reducible apply st_loadat H); decide +kernel; rfl; exact aF; exact zF; rfl) | ((with_reducible apply st_storerow H); rfl; exact eF; (first | exact cells_agg _ | exact cellI | exact cellS | exact cellB | exact (rfl : _ = [_])); exact uF; kernel_rfl; exact Nat.succ_pos _; exact fitF; rfl)); clear H; intro wn H; simp only [Act.put, yA, yB, yC, yD, yE, yF]) | ((with_reducible apply st_makerow (E := 37) (s := 2) H); rfl; rfl; decide +kernel; (focus omega); clear H; intro g zs wn hz0 hz1 H; simp only [Act.put, yA, yB, yC, yD, yE, yF]) | ((with_reducible apply st_makerow (E := 24) (s := 1) H); rfl; rfl; decide +kernel; (focus omega); clear H; intro g zs wn hz0 hz1 H; simp only [Act.put, yA, yB, yC, yD, yE, yF]) | fail)
      go_roundg (n - (i + 1))
      case measure => omega
      case rel => exact ⟨i + 1, p', z', _, by omega, by go_num, HO2, by rw [← HS.out]; exact (Hs.join (H.sel (M := [Hl.all N, Hl.all N4, Hl.row 24 1 (.slice (some ⟨g, 0, none⟩) n n) n _]) sF)).reperm (List.Perm.swap ..)⟩
    · obtain rfl : i = n := by omega
      have hlt1 : ¬ (i : Int) < i := by omega
      go_wp2_with (first | ((first | ((with_reducible apply st_load1 H); decide +kernel; rfl; exact cF) | ((with_reducible apply st_loads H); decide +kernel; rfl; exact iF; exact zF; rfl) | ((with_reducible apply st_store H); rfl; exact eF; (focus (exact cells_agg _)); exact uF; kernel_rfl; (focus (exact Nat.le_of_ble_eq_true (by rfl))); (focus (first | rfl | simp))) | ((with_reducible apply st_storeown H); rfl; exact eF; (focus (exact (rfl : _ = [_]))); exact uF; (focus omega); kernel_rfl; rfl)); clear H; intro wn H; (try simp only [splice, yG, yH, yI, yJ, yK, yL, yM, yN, yO, yP, yQ, Nat.reduceAdd, yA, yB, yC] at H); simp only [Act.put, yA, yB, yC, yD, yE, yF]) | ((first | ((with_reducible apply st_strsum H); rfl; rfl; exact szF; kernel_rfl) | ((with_reducible apply st_loadat H); decide +kernel; rfl; exact aF; exact zF; rfl) | ((with_reducible apply st_storerow H); rfl; exact eF; (first | exact cells_agg _ | exact cellI | exact cellS | exact cellB | exact (rfl : _ = [_])); exact uF; kernel_rfl; exact Nat.succ_pos _; exact fitF; rfl)); clear H; intro wn H; simp only [Act.put, yA, yB, yC, yD, yE, yF]) | ((with_reducible apply st_makerow (E := 37) (s := 2) H); rfl; rfl; decide +kernel; (focus omega); clear H; intro g zs wn hz0 hz1 H; simp only [Act.put, yA, yB, yC, yD, yE, yF]) | ((with_reducible apply st_makerow (E := 24) (s := 1) H); rfl; rfl; decide +kernel; (focus omega); clear H; intro g zs wn hz0 hz1 H; simp only [Act.put, yA, yB, yC, yD, yE, yF]) | fail)
      go_ret
      exact ret_sl H HO.out.1 (List.take_of_length_le (by rw [← HN.out]; exact Nat.le_refl _)) (by rw [HO.out.2, Nat.sub_self, Nat.zero_mul]) HN.out
set_option maxRecDepth 100000 in
set_option maxHeartbeats 4000000 in
theorem eqFrameSS_l (va vb : Value) (l : List (List Fm)) (w : World) (ha : (Ty.sl 24 (Ty.sl 37 tyFm)).rd w [va] l) (hb : (Ty.sl 24 (Ty.sl 37 tyFm)).rd w [vb] l) : Gives Try.prog 10 #[va, vb] w (.bool true) := by
  obtain ⟨A, c, rfl, hlc, hcm⟩ := sl_form ha
  obtain ⟨B, d, rfl, _, _⟩ := sl_form hb
  unfold maxLen at *
  have HA := Lib.hid ha
  have HB := Lib.hid hb
  have H := Hs.start noRow w
  obtain ⟨n, hn⟩ : ∃ n, n = l.length := ⟨_, rfl⟩
  have hnl : n ≤ 9223372036854775807 := by omega
  rw [← hn] at HA HB ⊢
  have HN := Lib.hid hn
  clear ha hb hn hcm hlc
  unfold Gives
  go_enter Try.func10, Try.ntmps10
  go_wp2_with (first | ((first | ((with_reducible apply st_load1 H); decide +kernel; rfl; exact cF) | ((with_reducible apply st_loads H); decide +kernel; rfl; exact iF; exact zF; rfl)); clear H; intro wn H; (try simp only [splice, yG, yH, yI, yJ, yK, yL, yM, yN, yO, yP, yQ, Nat.reduceAdd, yA, yB, yC] at H); simp only [Act.put, yA, yB, yC, yD, yE, yF]) | ((first | ((with_reducible apply st_strsum H); rfl; rfl; exact szF; kernel_rfl) | ((with_reducible apply st_loadat H); decide +kernel; rfl; exact aF; exact zF; rfl)); clear H; intro wn H; simp only [Act.put, yA, yB, yC, yD, yE, yF]) | ((first | (go_at_call 9; refine gvF (c1 _ H.below) H ?_)); clear H; intro wn H) | ((with_reducible apply st_makerow (E := 37) (s := 2) H); rfl; rfl; decide +kernel; (focus omega); clear H; intro g zs wn hz0 hz1 H; simp only [Act.put, yA, yB, yC, yD, yE, yF]) | ((with_reducible apply st_makerow (E := 24) (s := 1) H); rfl; rfl; decide +kernel; (focus omega); clear H; intro g zs wn hz0 hz1 H; simp only [Act.put, yA, yB, yC, yD, yE, yF]) | ((with_reducible apply wp_region_hq (id := 6) H); kernel_rfl; kernel_rfl; (iterate 8 (all_goals ((with_reducible refine' hq_step ?_ ?_ ?_); rotate_left; rfl; (focus (intro w1 H1; first | (first | exact qF | exact qAF | exact qRF | exact qNF) | (exact qVF))); (try simp only [yG, yH, yJ, yK]); simp only [Act.put, yA, yB, yC, yD, yE, yF]))); (all_goals ((with_reducible refine' hq_step ?_ ?_ ?_); rotate_left; rfl; (focus (intro w1 H1; unfold QOk; go_simp; exact q_call (c1 _ H1.below))); (try simp only [yG, yH, yJ, yK]); simp only [Act.put, yA, yB, yC, yD, yE, yF])); (iterate 1 (all_goals ((with_reducible refine' hq_step ?_ ?_ ?_); rotate_left; rfl; (focus (intro w1 H1; exact qVF)); (try simp only [yG, yH, yJ, yK]); simp only [Act.put, yA, yB, yC, yD, yE, yF]))); all_goals (refine wpQuiet_nil ?_; clear H; intro wn H)) | fail)
  go_loopg [5] n (fun m iv wr => ∃ (i : Nat), i + m = n ∧ iv = .int .i64 i ∧ Hs noRow w [] wr)
  case atStart => exact ⟨0, by omega, rfl, H⟩
  case round =>
    clear H
    obtain ⟨i, hi, rfl, H⟩ := hrel
    by_cases hlt : i < n
    · obtain ⟨x, hx⟩ : ∃ x, l[i]? = some x := ⟨l[i]'(by rw [← HN.out]; exact hlt), List.getElem?_eq_getElem (by rw [← HN.out]; exact hlt)⟩
      have hs := sl_at (by have := HA.out; rw [HN.out] at this; exact this) hx
      have hs2 := sl_at (by have := HB.out; rw [HN.out] at this; exact this) hx
      rw [← HN.out] at hs hs2
      obtain ⟨b, off, c', cs, hv, hcs, hA⟩ := hs
      injection hv with hv1 hv2 hv3
      subst hv1 hv3
      obtain ⟨b2, off2, c2', cs2, hw, hcs2, hB⟩ := hs2
      injection hw with hw1 hw2 hw3
      subst hw1 hw3
      obtain ⟨u, hu⟩ : ∃ u, cs = [u] := by obtain ⟨u, _, rfl, _⟩ := hcs; exact ⟨u, rfl⟩
      obtain ⟨u2, hu2⟩ : ∃ u, cs2 = [u] := by obtain ⟨u, _, rfl, _⟩ := hcs2; exact ⟨u, rfl⟩
      subst hu hu2
      have h0 : w.cell? ⟨b, off + i, none⟩ = some u := by have h := hA.head (u := u) rfl; rw [show i * Ty.s _ = i from Nat.mul_one i] at h; exact h
      have h1 : w.cell? ⟨b2, off2 + i, none⟩ = some u2 := by have h := hB.head (u := u2) rfl; rw [show i * Ty.s _ = i from Nat.mul_one i] at h; exact h
      have c1 := fun w1 hb => eqFrameS_l u u2 x w1 (Ty.below _ hcs hb) (Ty.below _ hcs2 hb)
      have hlt1 : (i : Int) < n := by omega
      clear hx hv2 hw2 hA hB hcs hcs2
      go_wp2_with (first | ((first | ((with_reducible apply st_load1 H); decide +kernel; rfl; exact cF) | ((with_reducible apply st_loads H); decide +kernel; rfl; exact iF; exact zF; rfl)); clear H; intro wn H; (try simp only [splice, yG, yH, yI, yJ, yK, yL, yM, yN, yO, yP, yQ, Nat.reduceAdd, yA, yB, yC] at H); simp only [Act.put, yA, yB, yC, yD, yE, yF]) | ((first | ((with_reducible apply st_strsum H); rfl; rfl; exact szF; kernel_rfl) | ((with_reducible apply st_loadat H); decide +kernel; rfl; exact aF; exact zF; rfl)); clear H; intro wn H; simp only [Act.put, yA, yB, yC, yD, yE, yF]) | ((first | (go_at_call 9; refine gvF (c1 _ H.below) H ?_)); clear H; intro wn H) | ((with_reducible apply st_makerow (E := 37) (s := 2) H); rfl; rfl; decide +kernel; (focus omega); clear H; intro g zs wn hz0 hz1 H; simp only [Act.put, yA, yB, yC, yD, yE, yF]) | ((with_reducible apply st_makerow (E := 24) (s := 1) H); rfl; rfl; decide +kernel; (focus omega); clear H; intro g zs wn hz0 hz1 H; simp only [Act.put, yA, yB, yC, yD, yE, yF]) | ((with_reducible apply wp_region_hq (id := 6) H); kernel_rfl; kernel_rfl; (iterate 8 (all_goals ((with_reducible refine' hq_step ?_ ?_ ?_); rotate_left; rfl; (focus (intro w1 H1; first | (first | exact qF | exact qAF | exact qRF | exact qNF) | (exact qVF))); (try simp only [yG, yH, yJ, yK]); simp only [Act.put, yA, yB, yC, yD, yE, yF]))); (all_goals ((with_reducible refine' hq_step ?_ ?_ ?_); rotate_left; rfl; (focus (intro w1 H1; unfold QOk; go_simp; exact q_call (c1 _ H1.below))); (try simp only [yG, yH, yJ, yK]); simp only [Act.put, yA, yB, yC, yD, yE, yF])); (iterate 1 (all_goals ((with_reducible refine' hq_step ?_ ?_ ?_); rotate_left; rfl; (focus (intro w1 H1; exact qVF)); (try simp only [yG, yH, yJ, yK]); simp only [Act.put, yA, yB, yC, yD, yE, yF]))); all_goals (refine wpQuiet_nil ?_; clear H; intro wn H)) | fail)
      go_roundg (n - (i + 1))
      case measure => omega
      case rel => exact ⟨i + 1, by omega, by go_num, H⟩
    · obtain rfl : i = n := by omega
      have hlt1 : ¬ (i : Int) < i := by omega
      go_wp2_with (first | ((first | ((with_reducible apply st_load1 H); decide +kernel; rfl; exact cF) | ((with_reducible apply st_loads H); decide +kernel; rfl; exact iF; exact zF; rfl)); clear H; intro wn H; (try simp only [splice, yG, yH, yI, yJ, yK, yL, yM, yN, yO, yP, yQ, Nat.reduceAdd, yA, yB, yC] at H); simp only [Act.put, yA, yB, yC, yD, yE, yF]) | ((first | ((with_reducible apply st_strsum H); rfl; rfl; exact szF; kernel_rfl) | ((with_reducible apply st_loadat H); decide +kernel; rfl; exact aF; exact zF; rfl)); clear H; intro wn H; simp only [Act.put, yA, yB, yC, yD, yE, yF]) | ((first | (go_at_call 9; refine gvF (c1 _ H.below) H ?_)); clear H; intro wn H) | ((with_reducible apply st_makerow (E := 37) (s := 2) H); rfl; rfl; decide +kernel; (focus omega); clear H; intro g zs wn hz0 hz1 H; simp only [Act.put, yA, yB, yC, yD, yE, yF]) | ((with_reducible apply st_makerow (E := 24) (s := 1) H); rfl; rfl; decide +kernel; (focus omega); clear H; intro g zs wn hz0 hz1 H; simp only [Act.put, yA, yB, yC, yD, yE, yF]) | ((with_reducible apply wp_region_hq (id := 6) H); kernel_rfl; kernel_rfl; (iterate 8 (all_goals ((with_reducible refine' hq_step ?_ ?_ ?_); rotate_left; rfl; (focus (intro w1 H1; first | (first | exact qF | exact qAF | exact qRF | exact qNF) | (exact qVF))); (try simp only [yG, yH, yJ, yK]); simp only [Act.put, yA, yB, yC, yD, yE, yF]))); (all_goals ((with_reducible refine' hq_step ?_ ?_ ?_); rotate_left; rfl; (focus (intro w1 H1; unfold QOk; go_simp; exact q_call (c1 _ H1.below))); (try simp only [yG, yH, yJ, yK]); simp only [Act.put, yA, yB, yC, yD, yE, yF])); (iterate 1 (all_goals ((with_reducible refine' hq_step ?_ ?_ ?_); rotate_left; rfl; (focus (intro w1 H1; exact qVF)); (try simp only [yG, yH, yJ, yK]); simp only [Act.put, yA, yB, yC, yD, yE, yF]))); all_goals (refine wpQuiet_nil ?_; clear H; intro wn H)) | fail)
      go_ret
      exact ⟨rfl, H.below⟩
set_option maxRecDepth 100000 in
set_option maxHeartbeats 4000000 in
theorem szFrameSS_l (v : Value) (l : List (List Fm)) (k : Int) (hk : 0 ≤ k ∧ k ≤ 1048576) (ho : ∀ x ∈ l, ∀ y ∈ x, okFm y) (w : World) (hr : (Ty.sl 0 (Ty.sl 0 tyFm)).rd w [v] l) : Gives Try.prog 5 #[v, .int .i64 k] w (.int .i64 (szC k (szFmll l))) := by
  obtain ⟨A, c, rfl, hlc, hcm⟩ := sl_form hr
  unfold maxLen at *
  have HR := Lib.hid hr
  have HOK := Lib.hid ho
  have H := Hs.start noRow w
  obtain ⟨n, hn⟩ : ∃ n, n = l.length := ⟨_, rfl⟩
  obtain ⟨t, ht⟩ : ∃ t, t = mzFmS.cntl l := ⟨_, rfl⟩
  rw [show szFmll l = n + t by rw [hn, ht]; rfl]
  rw [← hn] at HR ⊢
  have HN := Lib.hid hn
  have HT := Lib.hid ht
  have hnl : n ≤ 9223372036854775807 := by omega
  clear hr hn ht hcm hlc ho
  unfold Gives
  by_cases h : k - n < 0
  · rw [szC_neg (by omega)]
    go_enter Try.func5, Try.ntmps5
    go_wp2_with (first | ((first | ((with_reducible apply st_load1 H); decide +kernel; rfl; exact cF) | ((with_reducible apply st_loads H); decide +kernel; rfl; exact iF; exact zF; rfl)); clear H; intro wn H; (try simp only [splice, yG, yH, yI, yJ, yK, yL, yM, yN, yO, yP, yQ, Nat.reduceAdd, yA, yB, yC] at H); simp only [Act.put, yA, yB, yC, yD, yE, yF]) | ((first | ((with_reducible apply st_strsum H); rfl; rfl; exact szF; kernel_rfl) | ((with_reducible apply st_loadat H); decide +kernel; rfl; exact aF; exact zF; rfl)); clear H; intro wn H; simp only [Act.put, yA, yB, yC, yD, yE, yF]) | ((first | (go_at_call 17; refine gvF (c1 _ H.below) H ?_)); clear H; intro wn H) | ((with_reducible apply st_makerow (E := 37) (s := 2) H); rfl; rfl; decide +kernel; (focus omega); clear H; intro g zs wn hz0 hz1 H; simp only [Act.put, yA, yB, yC, yD, yE, yF]) | ((with_reducible apply st_makerow (E := 24) (s := 1) H); rfl; rfl; decide +kernel; (focus omega); clear H; intro g zs wn hz0 hz1 H; simp only [Act.put, yA, yB, yC, yD, yE, yF]) | fail)
    go_ret
    exact ⟨rfl, H.below⟩
  obtain ⟨z, hz⟩ : ∃ z, z = szC k (n + t : Nat) := ⟨_, rfl⟩
  rw [← hz]
  have HZ := Lib.hid hz
  clear hz
  go_enter Try.func5, Try.ntmps5
  go_wp2_with (first | ((first | ((with_reducible apply st_load1 H); decide +kernel; rfl; exact cF) | ((with_reducible apply st_loads H); decide +kernel; rfl; exact iF; exact zF; rfl)); clear H; intro wn H; (try simp only [splice, yG, yH, yI, yJ, yK, yL, yM, yN, yO, yP, yQ, Nat.reduceAdd, yA, yB, yC] at H); simp only [Act.put, yA, yB, yC, yD, yE, yF]) | ((first | ((with_reducible apply st_strsum H); rfl; rfl; exact szF; kernel_rfl) | ((with_reducible apply st_loadat H); decide +kernel; rfl; exact aF; exact zF; rfl)); clear H; intro wn H; simp only [Act.put, yA, yB, yC, yD, yE, yF]) | ((first | (go_at_call 17; refine gvF (c1 _ H.below) H ?_)); clear H; intro wn H) | ((with_reducible apply st_makerow (E := 37) (s := 2) H); rfl; rfl; decide +kernel; (focus omega); clear H; intro g zs wn hz0 hz1 H; simp only [Act.put, yA, yB, yC, yD, yE, yF]) | ((with_reducible apply st_makerow (E := 24) (s := 1) H); rfl; rfl; decide +kernel; (focus omega); clear H; intro g zs wn hz0 hz1 H; simp only [Act.put, yA, yB, yC, yD, yE, yF]) | fail)
  go_loopg [1, 5] n (fun m kv iv wr => ∃ (i s : Nat), i + m = n ∧ iv = .int .i64 i ∧ kv = .int .i64 (k - n - s) ∧ 0 ≤ k - n - s ∧ Hid (s = mzFmS.cntl (l.take i)) ∧ Hs noRow w [] wr)
  case atStart => exact ⟨0, 0, by omega, rfl, by go_num, by omega, Lib.hid rfl, H⟩
  case round =>
    clear H
    obtain ⟨i, s, hi, rfl, rfl, hs0, HI, H⟩ := hrel
    by_cases hlt : i < n
    · obtain ⟨x, hx⟩ : ∃ x, l[i]? = some x := ⟨l[i]'(by rw [← HN.out]; exact hlt), List.getElem?_eq_getElem (by rw [← HN.out]; exact hlt)⟩
      have hs := sl_at (by have := HR.out; rw [HN.out] at this; exact this) hx
      rw [← HN.out] at hs
      obtain ⟨b, off, c', cs, hv, hcs, hA⟩ := hs
      injection hv with hv1 hv2 hv3
      subst hv1 hv3
      obtain ⟨u, hu⟩ : ∃ u, cs = [u] := by obtain ⟨u, _, rfl, _⟩ := hcs; exact ⟨u, rfl⟩
      subst hu
      have h0 : w.cell? ⟨b, off + i, none⟩ = some u := by have h := hA.head (u := u) rfl; rw [show i * Ty.s _ = i from Nat.mul_one i] at h; exact h
      have c1 := fun w1 hb => szFrameS_l u x (k - n - s) ⟨hs0, by omega⟩ (HOK.out x (List.mem_of_getElem? hx)) w1 (Ty.below _ hcs hb)
      have hle := mzFmS.cnt_at_le hx
      have hxs : mzFmS.cnt x = szFml x := rfl
      rw [← HI.out, ← HT.out, hxs] at hle
      have HI2 : Hid (s + szFml x = mzFmS.cntl (l.take (i + 1))) := Lib.hid (by rw [mzFmS.cntl_step hx, ← HI.out]; rfl)
      have hlt1 : (i : Int) < n := by omega
      clear hx hv2 hA hcs hxs
      generalize szFml x = xn at *
      by_cases hng : k - n - s - xn < 0
      · rw [szC_neg hng] at c1
        have HZ2 : Hid (z = -1) := Lib.hid (by rw [HZ.out, szC_neg (by omega)])
        go_wp2_with (first | ((first | ((with_reducible apply st_load1 H); decide +kernel; rfl; exact cF) | ((with_reducible apply st_loads H); decide +kernel; rfl; exact iF; exact zF; rfl)); clear H; intro wn H; (try simp only [splice, yG, yH, yI, yJ, yK, yL, yM, yN, yO, yP, yQ, Nat.reduceAdd, yA, yB, yC] at H); simp only [Act.put, yA, yB, yC, yD, yE, yF]) | ((first | ((with_reducible apply st_strsum H); rfl; rfl; exact szF; kernel_rfl) | ((with_reducible apply st_loadat H); decide +kernel; rfl; exact aF; exact zF; rfl)); clear H; intro wn H; simp only [Act.put, yA, yB, yC, yD, yE, yF]) | ((first | (go_at_call 17; refine gvF (c1 _ H.below) H ?_)); clear H; intro wn H) | ((with_reducible apply st_makerow (E := 37) (s := 2) H); rfl; rfl; decide +kernel; (focus omega); clear H; intro g zs wn hz0 hz1 H; simp only [Act.put, yA, yB, yC, yD, yE, yF]) | ((with_reducible apply st_makerow (E := 24) (s := 1) H); rfl; rfl; decide +kernel; (focus omega); clear H; intro g zs wn hz0 hz1 H; simp only [Act.put, yA, yB, yC, yD, yE, yF]) | fail)
        go_ret
        exact ⟨by rw [HZ2.out]; rfl, H.below⟩
      · rw [szC_pos hng] at c1
        go_wp2_with (first | ((first | ((with_reducible apply st_load1 H); decide +kernel; rfl; exact cF) | ((with_reducible apply st_loads H); decide +kernel; rfl; exact iF; exact zF; rfl)); clear H; intro wn H; (try simp only [splice, yG, yH, yI, yJ, yK, yL, yM, yN, yO, yP, yQ, Nat.reduceAdd, yA, yB, yC] at H); simp only [Act.put, yA, yB, yC, yD, yE, yF]) | ((first | ((with_reducible apply st_strsum H); rfl; rfl; exact szF; kernel_rfl) | ((with_reducible apply st_loadat H); decide +kernel; rfl; exact aF; exact zF; rfl)); clear H; intro wn H; simp only [Act.put, yA, yB, yC, yD, yE, yF]) | ((first | (go_at_call 17; refine gvF (c1 _ H.below) H ?_)); clear H; intro wn H) | ((with_reducible apply st_makerow (E := 37) (s := 2) H); rfl; rfl; decide +kernel; (focus omega); clear H; intro g zs wn hz0 hz1 H; simp only [Act.put, yA, yB, yC, yD, yE, yF]) | ((with_reducible apply st_makerow (E := 24) (s := 1) H); rfl; rfl; decide +kernel; (focus omega); clear H; intro g zs wn hz0 hz1 H; simp only [Act.put, yA, yB, yC, yD, yE, yF]) | fail)
        go_roundg (n - (i + 1))
        case measure => omega
        case rel => exact ⟨i + 1, s + xn, by omega, by go_num, by go_num, by omega, HI2, H⟩
    · obtain rfl : i = n := by omega
      have hlt1 : ¬ (i : Int) < i := by omega
      have hst : s = t := by rw [HI.out, HT.out, List.take_of_length_le (by rw [← HN.out]; exact Nat.le_refl _)]
      subst hst
      have HZ2 : Hid (z = k - i - s) := Lib.hid (by rw [HZ.out, szC_pos (by omega)]; omega)
      go_wp2_with (first | ((first | ((with_reducible apply st_load1 H); decide +kernel; rfl; exact cF) | ((with_reducible apply st_loads H); decide +kernel; rfl; exact iF; exact zF; rfl)); clear H; intro wn H; (try simp only [splice, yG, yH, yI, yJ, yK, yL, yM, yN, yO, yP, yQ, Nat.reduceAdd, yA, yB, yC] at H); simp only [Act.put, yA, yB, yC, yD, yE, yF]) | ((first | ((with_reducible apply st_strsum H); rfl; rfl; exact szF; kernel_rfl) | ((with_reducible apply st_loadat H); decide +kernel; rfl; exact aF; exact zF; rfl)); clear H; intro wn H; simp only [Act.put, yA, yB, yC, yD, yE, yF]) | ((first | (go_at_call 17; refine gvF (c1 _ H.below) H ?_)); clear H; intro wn H) | ((with_reducible apply st_makerow (E := 37) (s := 2) H); rfl; rfl; decide +kernel; (focus omega); clear H; intro g zs wn hz0 hz1 H; simp only [Act.put, yA, yB, yC, yD, yE, yF]) | ((with_reducible apply st_makerow (E := 24) (s := 1) H); rfl; rfl; decide +kernel; (focus omega); clear H; intro g zs wn hz0 hz1 H; simp only [Act.put, yA, yB, yC, yD, yE, yF]) | fail)
      go_ret
      exact ⟨by rw [HZ2.out]; rfl, H.below⟩
end Fz
end Go.Proofs.Ytpkoeeafepgphaa
