/-
  Spans, uses: what the statements do with lists of them: the walks. Printed by kgen.py.
-/
import Derived.Test.YtpfdhfchgnnpiaaGreatHa
import Derived.Test.YtpfdhfchgnnpiaaGreatC1
set_option linter.unusedSimpArgs false
set_option linter.unusedVariables false
namespace Go.Proofs.YtpfdhfchgnnpiaaGreat
open Go.RowKit M
namespace M
abbrev Sp := Int × Int
def encSp (a : Sp) : List Value := [.int .i64 a.1, .int .i64 a.2]
def tySp : Ty Sp := Ty.flat 2 encSp (fun _ => rfl) (fun a u hu => by simp only [encSp, List.mem_cons, List.not_mem_nil, or_false] at hu; rcases hu with rfl | rfl <;> rfl)
abbrev Us := Lab × ByteArray × Int
def encUs (a : Us) : List Value := [.int .i64 a.1.1, .int .i64 a.1.2, .string a.2.1, .int .i64 a.2.2]
def tyUs : Ty Us := Ty.flat 4 encUs (fun _ => rfl) (fun a u hu => by simp only [encUs, List.mem_cons, List.not_mem_nil, or_false] at hu; rcases hu with rfl | rfl | rfl | rfl <;> rfl)
def ssUs (a : Us) : Nat := a.2.1.size
def okUs (a : Us) : Prop := a.2.1.size ≤ 9223372036854775807
def mzUs : Mark Us := ⟨fun a => ssUs a, fun _ a => a⟩
def szUsl (l : List Us) : Nat := l.length + mzUs.cntl l
end M
set_option maxRecDepth 100000 in
set_option maxHeartbeats 4000000 in
theorem toSpan_l (a : Sp) (w : World) : Gives Tryz.prog 179 #[.agg #[.int .i64 a.1, .int .i64 a.2]] w (.agg #[.int .i64 a.1, .int .i64 a.2]) := by
  obtain ⟨a1, a2⟩ := a
  unfold Gives
  have H := Hs.start noRow w
  go_enter Tryz.func179, Tryz.ntmps179
  go_wp2_with (first | ((first | ((with_reducible apply st_load1 H); decide +kernel; rfl; exact cF) | ((with_reducible apply st_loads H); decide +kernel; rfl; exact iF; exact zF; rfl) | ((with_reducible apply st_store H); rfl; exact eF; (focus (exact cells_agg _)); exact uF; kernel_rfl; (focus (exact Nat.le_of_ble_eq_true (by rfl))); (focus (rfl)))); clear H; intro wn H; (try simp only [splice, yG, yH, yI, yJ, yK, yL, yM, yN, yO, yP, yQ, Nat.reduceAdd, yA, yB, yC] at H); simp only [Act.put, yA, yB, yC, yD, yE, yF]) | ((first | ((with_reducible apply st_box (dst := some 1) H); exact nF; intro b1) | ((with_reducible apply st_alloc (dst := some 2) H); exact nF; intro b2) | ((with_reducible apply st_alloc (dst := some 3) H); exact nF; intro b3)); clear H; intro wn H; simp only [Act.put, yA, yB, yC, yD, yE, yF]))
  refine bp_cell H rfl rfl iF (by kernel_rfl) (by kernel_rfl) rfl (by first | exact .inl rfl | exact .inr rfl) ?_
  exact ⟨rfl, H.below⟩
set_option maxRecDepth 100000 in
set_option maxHeartbeats 4000000 in
theorem eqSpan_l (a : Sp) (w : World) : Gives Tryz.prog 209 #[.agg #[.int .i64 a.1, .int .i64 a.2], .agg #[.int .i64 a.1, .int .i64 a.2]] w (.bool true) := by
  obtain ⟨a1, a2⟩ := a
  unfold Gives
  have H := Hs.start noRow w
  go_enter Tryz.func209, Tryz.ntmps209
  go_wp2_with (first | ((((with_reducible apply st_load1 H); decide +kernel; rfl; exact cF)); clear H; intro wn H; (try simp only [splice, yG, yH, yI, yJ, yK, yL, yM, yN, yO, yP, yQ, Nat.reduceAdd, yA, yB, yC] at H); simp only [Act.put, yA, yB, yC, yD, yE, yF]) | ((first | ((with_reducible apply st_box (dst := some 2) H); exact nF; intro b2) | ((with_reducible apply st_box (dst := some 3) H); exact nF; intro b3)); clear H; intro wn H; simp only [Act.put, yA, yB, yC, yD, yE, yF]))
  go_ret
  exact ⟨rfl, H.below⟩
set_option maxRecDepth 100000 in
set_option maxHeartbeats 4000000 in
theorem toSpanS_l (v : Value) (l : List Sp) (hl : l.length ≤ 1048576) (w : World) (hr : (Ty.sl 0 tySp).rd w [v] l) : Rets Tryz.prog [] 136 #[v] w (tOwn (Ty.sl 94 tySp) l) := by
  obtain ⟨A, c, rfl, hlc, hcm⟩ := sl_form hr
  have HR := Lib.hid hr
  have H := Hs.start noRow w
  obtain ⟨n, hn⟩ : ∃ n, n = l.length := ⟨_, rfl⟩
  have hnl : n ≤ 1048576 := by omega
  rw [← hn] at HR ⊢
  have HN := Lib.hid hn
  clear hr hn hl hcm hlc
  refine Rets.of ?_
  go_enter Tryz.func136, Tryz.ntmps136
  go_wp2_with (((with_reducible apply st_makerow (E := 94) (s := 2) H); rfl; rfl; decide +kernel; (focus omega); clear H; intro g zs wn hz0 hz1 H; simp only [Act.put, yA, yB, yC, yD, yE, yF]))
  go_loopg [4] n (fun m iv wr => ∃ (i : Nat) (pre zs : List Value) (N : List Hl), i + m = n ∧ iv = .int .i64 i ∧ Hid (OwnL tySp pre (l.take i) N ∧ zs.length = (n - i) * 2) ∧ Hs noRow w [Hl.row 94 2 (.slice (some ⟨g, 0, none⟩) n n) n (pre ++ zs), Hl.all N] wr)
  case atStart => exact ⟨0, [], zs, [], by omega, rfl, Lib.hid ⟨.nil, hz0⟩, by rw [List.nil_append]; exact H.allNil.sel sF⟩
  case round =>
    clear H
    obtain ⟨i, pre, zs, N, hi, rfl, HO, H⟩ := hrel
    by_cases hlt : i < n
    · obtain ⟨x, hx⟩ : ∃ x, l[i]? = some x := ⟨l[i]'(by rw [← HN.out]; exact hlt), List.getElem?_eq_getElem (by rw [← HN.out]; exact hlt)⟩
      have hs := sl_at (by have := HR.out; rw [HN.out] at this; exact this) hx
      rw [← HN.out] at hs
      obtain ⟨b, off, c', cs, hv, hcs, hA⟩ := hs
      injection hv with hv1 hv2 hv3
      subst hv1 hv3
      obtain rfl : cs = encSp x := hcs
      obtain ⟨p', z', hp, hsp, hz'⟩ := own_step (m := n - (i + 1)) HO.out.1 hx (by rw [HO.out.2]; show (n - i) * 2 = (n - (i + 1) + 1) * 2; congr 1; omega) (show tySp.own (encSp x) x [] from ⟨rfl, rfl⟩)
      have hfit : i * 2 + 2 ≤ (pre ++ zs).length := by
        have h1 := HO.out.1.len
        have h2 := HO.out.2
        rw [List.length_append, h1, h2, List.length_take, Nat.min_eq_left (by rw [← HN.out]; omega)]
        show i * 2 + 2 ≤ i * 2 + (n - i) * 2
        omega
      have HS : Hid (spl (pre ++ zs) (i * 2) (encSp x) = p' ++ z') := Lib.hid hsp
      have HO2 := Lib.hid (And.intro hp hz')
      have hlt1 : (i : Int) < n := by omega
      clear hsp hp hz' hx HO hv2
      unfold encSp at *
      go_wp2_with (first | ((first | ((with_reducible apply st_loadat H); decide +kernel; rfl; exact aF; exact zF; rfl) | ((with_reducible apply st_storerow H); rfl; exact eF; (exact cells_agg _); exact uF; kernel_rfl; exact Nat.succ_pos _; exact fitF; rfl)); clear H; intro wn H; simp only [Act.put, yA, yB, yC, yD, yE, yF]) | (((go_at_call 179; refine gvF (toSpan_l _ _) H ?_)); clear H; intro wn H))
      go_roundg (n - (i + 1))
      case measure => omega
      case rel => exact ⟨i + 1, p', z', _, by omega, by go_num, HO2, by rw [List.append_nil, ← HS.out]; exact H.sel sF⟩
    · obtain rfl : i = n := by omega
      have hlt1 : ¬ (i : Int) < i := by omega
      go_wp2_with (fail)
      go_ret
      exact ret_sl H HO.out.1 (List.take_of_length_le (by rw [← HN.out]; exact Nat.le_refl _)) (by rw [HO.out.2, Nat.sub_self, Nat.zero_mul]) HN.out
set_option maxRecDepth 100000 in
set_option maxHeartbeats 4000000 in
theorem eqSpanS_l (va vb : Value) (l : List Sp) (w : World) (ha : (Ty.sl 94 tySp).rd w [va] l) (hb : (Ty.sl 94 tySp).rd w [vb] l) : Gives Tryz.prog 172 #[va, vb] w (.bool true) := by
  obtain ⟨A, c, rfl, hlc, hcm⟩ := sl_form ha
  obtain ⟨B, d, rfl, _, _⟩ := sl_form hb
  unfold maxLen at *
  have HA := Lib.hid ha
  have HB := Lib.hid hb
  have H := Hs.start noRow w
  obtain ⟨n, hn⟩ : ∃ n, n = l.length := ⟨_, rfl⟩
  have hnl : n ≤ 9223372036854775807 := by omega
  rw [← hn] at HA HB ⊢
  have HN := Lib.hid hn
  clear ha hb hn hcm hlc
  unfold Gives
  go_enter Tryz.func172, Tryz.ntmps172
  go_wp2_with (fail)
  go_loopg [5] n (fun m iv wr => ∃ (i : Nat), i + m = n ∧ iv = .int .i64 i ∧ Hs noRow w [] wr)
  case atStart => exact ⟨0, by omega, rfl, H⟩
  case round =>
    clear H
    obtain ⟨i, hi, rfl, H⟩ := hrel
    by_cases hlt : i < n
    · obtain ⟨x, hx⟩ : ∃ x, l[i]? = some x := ⟨l[i]'(by rw [← HN.out]; exact hlt), List.getElem?_eq_getElem (by rw [← HN.out]; exact hlt)⟩
      have hs := sl_at (by have := HA.out; rw [HN.out] at this; exact this) hx
      have hs2 := sl_at (by have := HB.out; rw [HN.out] at this; exact this) hx
      rw [← HN.out] at hs hs2
      obtain ⟨b, off, c', cs, hv, hcs, hA⟩ := hs
      injection hv with hv1 hv2 hv3
      subst hv1 hv3
      obtain ⟨b2, off2, c2', cs2, hw, hcs2, hB⟩ := hs2
      injection hw with hw1 hw2 hw3
      subst hw1 hw3
      obtain rfl : cs = encSp x := hcs
      obtain rfl : cs2 = encSp x := hcs2
      have hlt1 : (i : Int) < n := by omega
      clear hx hv2 hw2
      unfold encSp at *
      go_wp2_with (((with_reducible apply wp_region_hq (id := 6) H); kernel_rfl; kernel_rfl; (iterate 8 (all_goals ((with_reducible refine' hq_step ?_ ?_ ?_); rotate_left; rfl; (focus (intro w1 H1; first | (exact qAF) | (exact qVF))); (try simp only [yG, yH, yJ, yK]); simp only [Act.put, yA, yB, yC, yD, yE, yF]))); (all_goals ((with_reducible refine' hq_step ?_ ?_ ?_); rotate_left; rfl; (focus (intro w1 H1; unfold QOk; go_simp; exact q_call (eqSpan_l _ _))); (try simp only [yG, yH, yJ, yK]); simp only [Act.put, yA, yB, yC, yD, yE, yF])); (iterate 1 (all_goals ((with_reducible refine' hq_step ?_ ?_ ?_); rotate_left; rfl; (focus (intro w1 H1; exact qVF)); (try simp only [yG, yH, yJ, yK]); simp only [Act.put, yA, yB, yC, yD, yE, yF]))); all_goals (refine wpQuiet_nil ?_; clear H; intro wn H)))
      go_roundg (n - (i + 1))
      case measure => omega
      case rel => exact ⟨i + 1, by omega, by go_num, H⟩
    · obtain rfl : i = n := by omega
      have hlt1 : ¬ (i : Int) < i := by omega
      go_wp2_with (fail)
      go_ret
      exact ⟨rfl, H.below⟩
set_option maxRecDepth 100000 in
set_option maxHeartbeats 4000000 in
theorem szSpanS_l (v : Value) (l : List Sp) (k : Int) (hk : 0 ≤ k ∧ k ≤ 1048576) (w : World) (hr : (Ty.sl 0 tySp).rd w [v] l) : Gives Tryz.prog 112 #[v, .int .i64 k] w (.int .i64 (szC k l.length)) := by
  obtain ⟨A, c, rfl, hlc, hcm⟩ := sl_form hr
  unfold maxLen at *
  generalize l.length = n at *
  clear hr
  have H := Hs.start noRow w
  unfold Gives
  by_cases h : k - n < 0
  · rw [szC_neg h]
    go_enter Tryz.func112, Tryz.ntmps112
    go_wp2_with (fail)
    go_ret
    exact ⟨rfl, H.below⟩
  · rw [szC_pos h]
    go_enter Tryz.func112, Tryz.ntmps112
    go_wp2_with (fail)
    go_ret
    exact ⟨rfl, H.below⟩
set_option maxRecDepth 100000 in
set_option maxHeartbeats 4000000 in
theorem toUse_l (a : Us) (w : World) : Gives Tryz.prog 80 #[.agg #[.int .i64 a.1.1, .int .i64 a.1.2, .string a.2.1, .int .i64 a.2.2]] w (.agg #[.int .i64 a.1.1, .int .i64 a.1.2, .string a.2.1, .int .i64 a.2.2]) := by
  obtain ⟨⟨a1, a2⟩, a3, a4⟩ := a
  unfold Gives
  have H := Hs.start noRow w
  go_enter Tryz.func80, Tryz.ntmps80
  go_wp2_with (first | ((first | ((with_reducible apply st_load1 H); decide +kernel; rfl; exact cF) | ((with_reducible apply st_loads H); decide +kernel; rfl; exact iF; exact zF; rfl) | ((with_reducible apply st_store H); rfl; exact eF; (focus (exact cells_agg _)); exact uF; kernel_rfl; (focus (exact Nat.le_of_ble_eq_true (by rfl))); (focus (rfl)))); clear H; intro wn H; (try simp only [splice, yG, yH, yI, yJ, yK, yL, yM, yN, yO, yP, yQ, Nat.reduceAdd, yA, yB, yC] at H); simp only [Act.put, yA, yB, yC, yD, yE, yF]) | ((first | ((with_reducible apply st_box (dst := some 1) H); exact nF; intro b1) | ((with_reducible apply st_alloc (dst := some 2) H); exact nF; intro b2) | ((with_reducible apply st_alloc (dst := some 3) H); exact nF; intro b3)); clear H; intro wn H; simp only [Act.put, yA, yB, yC, yD, yE, yF]) | (((go_at_call 137; refine gvF (toLabel_l (_, _) _) H ?_)); clear H; intro wn H))
  refine bp_cell H rfl rfl iF (by kernel_rfl) (by kernel_rfl) rfl (by first | exact .inl rfl | exact .inr rfl) ?_
  exact ⟨rfl, H.below⟩
set_option maxRecDepth 100000 in
set_option maxHeartbeats 4000000 in
theorem eqUse_l (a : Us) (w : World) : Gives Tryz.prog 109 #[.agg #[.int .i64 a.1.1, .int .i64 a.1.2, .string a.2.1, .int .i64 a.2.2], .agg #[.int .i64 a.1.1, .int .i64 a.1.2, .string a.2.1, .int .i64 a.2.2]] w (.bool true) := by
  obtain ⟨⟨a1, a2⟩, a3, a4⟩ := a
  unfold Gives
  have H := Hs.start noRow w
  go_enter Tryz.func109, Tryz.ntmps109
  go_wp2_with (first | ((first | ((with_reducible apply st_load1 H); decide +kernel; rfl; exact cF) | ((with_reducible apply st_loads H); decide +kernel; rfl; exact iF; exact zF; rfl)); clear H; intro wn H; (try simp only [splice, yG, yH, yI, yJ, yK, yL, yM, yN, yO, yP, yQ, Nat.reduceAdd, yA, yB, yC] at H); simp only [Act.put, yA, yB, yC, yD, yE, yF]) | ((first | ((with_reducible apply st_box (dst := some 2) H); exact nF; intro b2) | ((with_reducible apply st_box (dst := some 3) H); exact nF; intro b3)); clear H; intro wn H; simp only [Act.put, yA, yB, yC, yD, yE, yF]) | (((go_at_call 173; refine gvF (eqLabel_l (_, _) _) H ?_)); clear H; intro wn H))
  go_ret
  exact ⟨rfl, H.below⟩
set_option maxRecDepth 100000 in
set_option maxHeartbeats 4000000 in
theorem szUse_l (a : Us) (k : Int) (hk : 0 ≤ k ∧ k ≤ 1048576) (ho : okUs a) (w : World) : Gives Tryz.prog 63 #[.agg #[.int .i64 a.1.1, .int .i64 a.1.2, .string a.2.1, .int .i64 a.2.2], .int .i64 k] w (.int .i64 (szC k (ssUs a))) := by
  unfold ssUs
  have h1 : a.2.1.size ≤ 9223372036854775807 := ho
  clear ho
  obtain ⟨⟨a1, a2⟩, a3, a4⟩ := a
  simp only at h1 ⊢
  obtain ⟨n1, hn1⟩ : ∃ n, n = a3.size := ⟨_, rfl⟩
  have e1 : (a3.size : Int) = n1 := by rw [hn1]
  rw [← hn1] at h1 ⊢
  have H := Hs.start noRow w
  unfold Gives
  by_cases hl1 : k - n1 < 0
  · rw [szC_neg (by omega)]
    go_enter Tryz.func63, Tryz.ntmps63
    go_wp2_with (first | ((((with_reducible apply st_load1 H); decide +kernel; rfl; exact cF)); clear H; intro wn H; (try simp only [splice, yG, yH, yI, yJ, yK, yL, yM, yN, yO, yP, yQ, Nat.reduceAdd, yA, yB, yC] at H); simp only [Act.put, yA, yB, yC, yD, yE, yF]) | ((((with_reducible apply st_box (dst := some 2) H); exact nF; intro b2)); clear H; intro wn H; simp only [Act.put, yA, yB, yC, yD, yE, yF]))
    go_ret
    exact ⟨rfl, H.below⟩
  rw [szC_pos (by omega), show k - ((n1 : Nat) : Int) = k - n1 by omega]
  go_enter Tryz.func63, Tryz.ntmps63
  go_wp2_with (first | ((((with_reducible apply st_load1 H); decide +kernel; rfl; exact cF)); clear H; intro wn H; (try simp only [splice, yG, yH, yI, yJ, yK, yL, yM, yN, yO, yP, yQ, Nat.reduceAdd, yA, yB, yC] at H); simp only [Act.put, yA, yB, yC, yD, yE, yF]) | ((((with_reducible apply st_box (dst := some 2) H); exact nF; intro b2)); clear H; intro wn H; simp only [Act.put, yA, yB, yC, yD, yE, yF]))
  go_ret
  exact ⟨rfl, H.below⟩
set_option maxRecDepth 100000 in
set_option maxHeartbeats 4000000 in
theorem toUseS_l (v : Value) (l : List Us) (hl : l.length ≤ 1048576) (w : World) (hr : (Ty.sl 0 tyUs).rd w [v] l) : Rets Tryz.prog [] 40 #[v] w (tOwn (Ty.sl 100 tyUs) l) := by
  obtain ⟨A, c, rfl, hlc, hcm⟩ := sl_form hr
  have HR := Lib.hid hr
  have H := Hs.start noRow w
  obtain ⟨n, hn⟩ : ∃ n, n = l.length := ⟨_, rfl⟩
  have hnl : n ≤ 1048576 := by omega
  rw [← hn] at HR ⊢
  have HN := Lib.hid hn
  clear hr hn hl hcm hlc
  refine Rets.of ?_
  go_enter Tryz.func40, Tryz.ntmps40
  go_wp2_with (((with_reducible apply st_makerow (E := 100) (s := 4) H); rfl; rfl; decide +kernel; (focus omega); clear H; intro g zs wn hz0 hz1 H; simp only [Act.put, yA, yB, yC, yD, yE, yF]))
  go_loopg [4] n (fun m iv wr => ∃ (i : Nat) (pre zs : List Value) (N : List Hl), i + m = n ∧ iv = .int .i64 i ∧ Hid (OwnL tyUs pre (l.take i) N ∧ zs.length = (n - i) * 4) ∧ Hs noRow w [Hl.row 100 4 (.slice (some ⟨g, 0, none⟩) n n) n (pre ++ zs), Hl.all N] wr)
  case atStart => exact ⟨0, [], zs, [], by omega, rfl, Lib.hid ⟨.nil, hz0⟩, by rw [List.nil_append]; exact H.allNil.sel sF⟩
  case round =>
    clear H
    obtain ⟨i, pre, zs, N, hi, rfl, HO, H⟩ := hrel
    by_cases hlt : i < n
    · obtain ⟨x, hx⟩ : ∃ x, l[i]? = some x := ⟨l[i]'(by rw [← HN.out]; exact hlt), List.getElem?_eq_getElem (by rw [← HN.out]; exact hlt)⟩
      have hs := sl_at (by have := HR.out; rw [HN.out] at this; exact this) hx
      rw [← HN.out] at hs
      obtain ⟨b, off, c', cs, hv, hcs, hA⟩ := hs
      injection hv with hv1 hv2 hv3
      subst hv1 hv3
      obtain rfl : cs = encUs x := hcs
      obtain ⟨p', z', hp, hsp, hz'⟩ := own_step (m := n - (i + 1)) HO.out.1 hx (by rw [HO.out.2]; show (n - i) * 4 = (n - (i + 1) + 1) * 4; congr 1; omega) (show tyUs.own (encUs x) x [] from ⟨rfl, rfl⟩)
      have hfit : i * 4 + 4 ≤ (pre ++ zs).length := by
        have h1 := HO.out.1.len
        have h2 := HO.out.2
        rw [List.length_append, h1, h2, List.length_take, Nat.min_eq_left (by rw [← HN.out]; omega)]
        show i * 4 + 4 ≤ i * 4 + (n - i) * 4
        omega
      have HS : Hid (spl (pre ++ zs) (i * 4) (encUs x) = p' ++ z') := Lib.hid hsp
      have HO2 := Lib.hid (And.intro hp hz')
      have hlt1 : (i : Int) < n := by omega
      clear hsp hp hz' hx HO hv2
      unfold encUs at *
      go_wp2_with (first | ((first | ((with_reducible apply st_loadat H); decide +kernel; rfl; exact aF; exact zF; rfl) | ((with_reducible apply st_storerow H); rfl; exact eF; (exact cells_agg _); exact uF; kernel_rfl; exact Nat.succ_pos _; exact fitF; rfl)); clear H; intro wn H; simp only [Act.put, yA, yB, yC, yD, yE, yF]) | (((go_at_call 80; refine gvF (toUse_l _ _) H ?_)); clear H; intro wn H))
      go_roundg (n - (i + 1))
      case measure => omega
      case rel => exact ⟨i + 1, p', z', _, by omega, by go_num, HO2, by rw [List.append_nil, ← HS.out]; exact H.sel sF⟩
    · obtain rfl : i = n := by omega
      have hlt1 : ¬ (i : Int) < i := by omega
      go_wp2_with (fail)
      go_ret
      exact ret_sl H HO.out.1 (List.take_of_length_le (by rw [← HN.out]; exact Nat.le_refl _)) (by rw [HO.out.2, Nat.sub_self, Nat.zero_mul]) HN.out
set_option maxRecDepth 100000 in
set_option maxHeartbeats 4000000 in
theorem eqUseS_l (va vb : Value) (l : List Us) (w : World) (ha : (Ty.sl 100 tyUs).rd w [va] l) (hb : (Ty.sl 100 tyUs).rd w [vb] l) : Gives Tryz.prog 56 #[va, vb] w (.bool true) := by
  obtain ⟨A, c, rfl, hlc, hcm⟩ := sl_form ha
  obtain ⟨B, d, rfl, _, _⟩ := sl_form hb
  unfold maxLen at *
  have HA := Lib.hid ha
  have HB := Lib.hid hb
  have H := Hs.start noRow w
  obtain ⟨n, hn⟩ : ∃ n, n = l.length := ⟨_, rfl⟩
  have hnl : n ≤ 9223372036854775807 := by omega
  rw [← hn] at HA HB ⊢
  have HN := Lib.hid hn
  clear ha hb hn hcm hlc
  unfold Gives
  go_enter Tryz.func56, Tryz.ntmps56
  go_wp2_with (fail)
  go_loopg [5] n (fun m iv wr => ∃ (i : Nat), i + m = n ∧ iv = .int .i64 i ∧ Hs noRow w [] wr)
  case atStart => exact ⟨0, by omega, rfl, H⟩
  case round =>
    clear H
    obtain ⟨i, hi, rfl, H⟩ := hrel
    by_cases hlt : i < n
    · obtain ⟨x, hx⟩ : ∃ x, l[i]? = some x := ⟨l[i]'(by rw [← HN.out]; exact hlt), List.getElem?_eq_getElem (by rw [← HN.out]; exact hlt)⟩
      have hs := sl_at (by have := HA.out; rw [HN.out] at this; exact this) hx
      have hs2 := sl_at (by have := HB.out; rw [HN.out] at this; exact this) hx
      rw [← HN.out] at hs hs2
      obtain ⟨b, off, c', cs, hv, hcs, hA⟩ := hs
      injection hv with hv1 hv2 hv3
      subst hv1 hv3
      obtain ⟨b2, off2, c2', cs2, hw, hcs2, hB⟩ := hs2
      injection hw with hw1 hw2 hw3
      subst hw1 hw3
      obtain rfl : cs = encUs x := hcs
      obtain rfl : cs2 = encUs x := hcs2
      have hlt1 : (i : Int) < n := by omega
      clear hx hv2 hw2
      unfold encUs at *
      go_wp2_with (((with_reducible apply wp_region_hq (id := 6) H); kernel_rfl; kernel_rfl; (iterate 8 (all_goals ((with_reducible refine' hq_step ?_ ?_ ?_); rotate_left; rfl; (focus (intro w1 H1; first | (exact qAF) | (exact qVF))); (try simp only [yG, yH, yJ, yK]); simp only [Act.put, yA, yB, yC, yD, yE, yF]))); (all_goals ((with_reducible refine' hq_step ?_ ?_ ?_); rotate_left; rfl; (focus (intro w1 H1; unfold QOk; go_simp; exact q_call (eqUse_l _ _))); (try simp only [yG, yH, yJ, yK]); simp only [Act.put, yA, yB, yC, yD, yE, yF])); (iterate 1 (all_goals ((with_reducible refine' hq_step ?_ ?_ ?_); rotate_left; rfl; (focus (intro w1 H1; exact qVF)); (try simp only [yG, yH, yJ, yK]); simp only [Act.put, yA, yB, yC, yD, yE, yF]))); all_goals (refine wpQuiet_nil ?_; clear H; intro wn H)))
      go_roundg (n - (i + 1))
      case measure => omega
      case rel => exact ⟨i + 1, by omega, by go_num, H⟩
    · obtain rfl : i = n := by omega
      have hlt1 : ¬ (i : Int) < i := by omega
      go_wp2_with (fail)
      go_ret
      exact ⟨rfl, H.below⟩
set_option maxRecDepth 100000 in
set_option maxHeartbeats 4000000 in
theorem szUseS_l (v : Value) (l : List Us) (k : Int) (hk : 0 ≤ k ∧ k ≤ 1048576) (ho : ∀ x ∈ l, okUs x) (w : World) (hr : (Ty.sl 0 tyUs).rd w [v] l) : Gives Tryz.prog 28 #[v, .int .i64 k] w (.int .i64 (szC k (szUsl l))) := by
  obtain ⟨A, c, rfl, hlc, hcm⟩ := sl_form hr
  unfold maxLen at *
  have HR := Lib.hid hr
  have HOK := Lib.hid ho
  have H := Hs.start noRow w
  obtain ⟨n, hn⟩ : ∃ n, n = l.length := ⟨_, rfl⟩
  obtain ⟨t, ht⟩ : ∃ t, t = mzUs.cntl l := ⟨_, rfl⟩
  rw [show szUsl l = n + t by rw [hn, ht]; rfl]
  rw [← hn] at HR ⊢
  have HN := Lib.hid hn
  have HT := Lib.hid ht
  have hnl : n ≤ 9223372036854775807 := by omega
  clear hr hn ht hcm hlc ho
  unfold Gives
  by_cases h : k - n < 0
  · rw [szC_neg (by omega)]
    go_enter Tryz.func28, Tryz.ntmps28
    go_wp2_with (fail)
    go_ret
    exact ⟨rfl, H.below⟩
  obtain ⟨z, hz⟩ : ∃ z, z = szC k (n + t : Nat) := ⟨_, rfl⟩
  rw [← hz]
  have HZ := Lib.hid hz
  clear hz
  go_enter Tryz.func28, Tryz.ntmps28
  go_wp2_with (fail)
  go_loopg [1, 5] n (fun m kv iv wr => ∃ (i s : Nat), i + m = n ∧ iv = .int .i64 i ∧ kv = .int .i64 (k - n - s) ∧ 0 ≤ k - n - s ∧ Hid (s = mzUs.cntl (l.take i)) ∧ Hs noRow w [] wr)
  case atStart => exact ⟨0, 0, by omega, rfl, by go_num, by omega, Lib.hid rfl, H⟩
  case round =>
    clear H
    obtain ⟨i, s, hi, rfl, rfl, hs0, HI, H⟩ := hrel
    by_cases hlt : i < n
    · obtain ⟨x, hx⟩ : ∃ x, l[i]? = some x := ⟨l[i]'(by rw [← HN.out]; exact hlt), List.getElem?_eq_getElem (by rw [← HN.out]; exact hlt)⟩
      have hs := sl_at (by have := HR.out; rw [HN.out] at this; exact this) hx
      rw [← HN.out] at hs
      obtain ⟨b, off, c', cs, hv, hcs, hA⟩ := hs
      injection hv with hv1 hv2 hv3
      subst hv1 hv3
      obtain rfl : cs = encUs x := hcs
      have c1 := fun w1 => szUse_l x (k - n - s) ⟨hs0, by omega⟩ (HOK.out x (List.mem_of_getElem? hx)) w1
      have hle := mzUs.cnt_at_le hx
      have hxs : mzUs.cnt x = (ssUs x) := rfl
      rw [← HI.out, ← HT.out, hxs] at hle
      have HI2 : Hid (s + (ssUs x) = mzUs.cntl (l.take (i + 1))) := Lib.hid (by rw [mzUs.cntl_step hx, ← HI.out]; rfl)
      have hlt1 : (i : Int) < n := by omega
      unfold encUs at *
      clear hx hv2 hxs
      generalize (ssUs x) = xn at *
      by_cases hng : k - n - s - xn < 0
      · rw [szC_neg hng] at c1
        have HZ2 : Hid (z = -1) := Lib.hid (by rw [HZ.out, szC_neg (by omega)])
        go_wp2_with (first | ((((with_reducible apply st_loadat H); decide +kernel; rfl; exact aF; exact zF; rfl)); clear H; intro wn H; simp only [Act.put, yA, yB, yC, yD, yE, yF]) | (((go_at_call 63; refine gvF (c1 _) H ?_)); clear H; intro wn H))
        go_ret
        exact ⟨by rw [HZ2.out]; rfl, H.below⟩
      · rw [szC_pos hng] at c1
        go_wp2_with (first | ((((with_reducible apply st_loadat H); decide +kernel; rfl; exact aF; exact zF; rfl)); clear H; intro wn H; simp only [Act.put, yA, yB, yC, yD, yE, yF]) | (((go_at_call 63; refine gvF (c1 _) H ?_)); clear H; intro wn H))
        go_roundg (n - (i + 1))
        case measure => omega
        case rel => exact ⟨i + 1, s + xn, by omega, by go_num, by go_num, by omega, HI2, H⟩
    · obtain rfl : i = n := by omega
      have hlt1 : ¬ (i : Int) < i := by omega
      have hst : s = t := by rw [HI.out, HT.out, List.take_of_length_le (by rw [← HN.out]; exact Nat.le_refl _)]
      subst hst
      have HZ2 : Hid (z = k - i - s) := Lib.hid (by rw [HZ.out, szC_pos (by omega)]; omega)
      go_wp2_with (fail)
      go_ret
      exact ⟨by rw [HZ2.out]; rfl, H.below⟩
end Go.Proofs.YtpfdhfchgnnpiaaGreat
