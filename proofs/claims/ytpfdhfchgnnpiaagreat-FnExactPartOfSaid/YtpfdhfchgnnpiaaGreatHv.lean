/-
  Nodes, tasks: what the statements do with lists of them: the walks. Printed by kgen.py.
-/
import Derived.Test.YtpfdhfchgnnpiaaGreatHp
import Derived.Test.YtpfdhfchgnnpiaaGreatHb
set_option linter.unusedSimpArgs false
set_option linter.unusedVariables false
namespace Go.Proofs.YtpfdhfchgnnpiaaGreat
open Go.RowKit M
namespace M
abbrev Tf := Lab × Int × ByteArray × Int × Int × Int × Lab × Int × Int × Int × Int
def encTf (a : Tf) : List Value := [.int .i64 a.1.1, .int .i64 a.1.2, .int .i64 a.2.1, .string a.2.2.1, .int .i64 a.2.2.2.1, .int .i64 a.2.2.2.2.1, .int .i64 a.2.2.2.2.2.1, .int .i64 a.2.2.2.2.2.2.1.1, .int .i64 a.2.2.2.2.2.2.1.2, .int .i64 a.2.2.2.2.2.2.2.1, .int .i64 a.2.2.2.2.2.2.2.2.1, .int .i64 a.2.2.2.2.2.2.2.2.2.1, .int .i64 a.2.2.2.2.2.2.2.2.2.2]
def tyTf : Ty Tf := Ty.flat 13 encTf (fun _ => rfl) (fun a u hu => by simp only [encTf, List.mem_cons, List.not_mem_nil, or_false] at hu; rcases hu with rfl | rfl | rfl | rfl | rfl | rfl | rfl | rfl | rfl | rfl | rfl | rfl | rfl <;> rfl)
def ssTf (a : Tf) : Nat := a.2.2.1.size
def okTf (a : Tf) : Prop := a.2.2.1.size ≤ 9223372036854775807
abbrev Nd := Int × List Sp
def ssNd (a : Nd) : Nat := a.2.length
def mzNd : Mark Nd := ⟨ssNd, fun _ a => a⟩
def szNdl (l : List Nd) : Nat := l.length + mzNd.cntl l
abbrev Ta := Tf × List Int
def ssTa (a : Ta) : Nat := ssTf a.1 + a.2.length
def mzTa : Mark Ta := ⟨ssTa, fun _ a => a⟩
def szTal (l : List Ta) : Nat := l.length + mzTa.cntl l
def okTa (a : Ta) : Prop := okTf a.1
end M
def tyNd : Ty Nd := Ty.pair tyNum (Ty.sl 94 tySp)
theorem Nd_form {w : World} {cs : List Value} {a : Nd} (h : tyNd.rd w cs a) : ∃ A n k, cs = [.int .i64 a.1, .slice A n k] ∧ (Ty.sl 94 tySp).rd w [.slice A n k] a.2 := by
  obtain ⟨x1, y1, rfl, h1, h2⟩ := h
  obtain rfl : x1 = encNum a.1 := h1
  obtain ⟨v, hv⟩ : ∃ v, y1 = [v] := by obtain ⟨v, _, rfl, _⟩ := h2; exact ⟨v, rfl⟩
  subst hv
  obtain ⟨A, k, rfl, _, _⟩ := sl_form h2
  exact ⟨A, _, k, rfl, h2⟩
set_option maxRecDepth 100000 in
set_option maxHeartbeats 4000000 in
theorem toNode_l (a : Nd) (cs : List Value) (hl : a.2.length ≤ 1048576) (w : World) (hr : tyNd.rd w cs a) : Rets Tryz.prog [] 78 #[.agg cs.toArray] w (tAgg tyNd a) := by
  obtain ⟨A, n, k, rfl, h1⟩ := Nd_form hr
  clear hr
  obtain ⟨a1, l⟩ := a
  simp only at hl h1
  have c1 := fun w1 hb => toSpanS_l _ l hl w1 (Ty.below _ h1 hb)
  clear hl h1
  have H := Hs.start noRow w
  refine Rets.of ?_
  go_enter Tryz.func78, Tryz.ntmps78
  go_wp2_with (first | ((first | ((with_reducible apply st_load1 H); decide +kernel; rfl; exact cF) | ((with_reducible apply st_store H); rfl; exact eF; (focus (exact cells_agg _)); exact uF; kernel_rfl; (focus (exact Nat.le_of_ble_eq_true (by rfl))); (focus (rfl)))); clear H; intro wn H; (try simp only [splice, yG, yH, yI, yJ, yK, yL, yM, yN, yO, yP, yQ, Nat.reduceAdd, yA, yB, yC] at H); simp only [Act.put, yA, yB, yC, yD, yE, yF]) | ((first | ((with_reducible apply st_box (dst := some 1) H); exact nF; intro b1) | ((with_reducible apply st_alloc (dst := some 2) H); exact nF; intro b2) | ((with_reducible apply st_alloc (dst := some 3) H); exact nF; intro b3)); clear H; intro wn H; simp only [Act.put, yA, yB, yC, yD, yE, yF]))
  refine (Rets.use (c1 _ H.below)).mono ?_; rintro e wn ⟨_, _, rfl, ⟨N1, hN1, rfl, o1⟩, hkk⟩; have Hn := H.moreK (by intro k hk; first | exact absurd hk List.not_mem_nil | (obtain rfl := List.mem_singleton.1 hk; exact In.mem iF)) hkk; clear hkk; clear H; have H := Hn; clear Hn; (try simp only [yT, yV] at H)
  have hA1 := own_single hN1 o1 rfl
  clear hN1 o1
  obtain ⟨A1, k1, rfl, _, _⟩ := sl_form (own_rd H .here hA1)
  have HA1 := Lib.hid hA1
  clear c1 hA1
  go_wp2_with (((first | ((with_reducible apply st_loads H); decide +kernel; rfl; exact iF; exact zF; rfl) | ((with_reducible apply st_store H); rfl; exact eF; (focus (exact cells_agg _)); exact uF; kernel_rfl; (focus (exact Nat.le_of_ble_eq_true (by rfl))); (focus (rfl)))); clear H; intro wn H; (try simp only [splice, yG, yH, yI, yJ, yK, yL, yM, yN, yO, yP, yQ, Nat.reduceAdd, yA, yB, yC] at H); simp only [Act.put, yA, yB, yC, yD, yE, yF]))
  refine bp_cell H rfl rfl iF (by kernel_rfl) (by kernel_rfl) rfl (by first | exact .inl rfl | exact .inr rfl) ?_
  have H2 : Hs noRow w [Hl.all N1] _ := H.sel sF
  exact Hs.retd H2 (List.Sublist.refl _) ⟨[_, _], _, rfl, ⟨[_], [_], [], _, rfl, rfl, ⟨rfl, rfl⟩, HA1.out⟩, rfl⟩
set_option maxRecDepth 100000 in
set_option maxHeartbeats 4000000 in
theorem eqNode_l (a : Nd) (cs ds : List Value) (w : World) (ha : tyNd.rd w cs a) (hb : tyNd.rd w ds a) : Gives Tryz.prog 107 #[.agg cs.toArray, .agg ds.toArray] w (.bool true) := by
  obtain ⟨A, n, k, rfl, h1⟩ := Nd_form ha
  obtain ⟨B, m, j, rfl, h2⟩ := Nd_form hb
  clear ha hb
  obtain ⟨a1, l⟩ := a
  simp only at h1 h2
  have c1 := fun w1 hb => eqSpanS_l _ _ l w1 (Ty.below _ h1 hb) (Ty.below _ h2 hb)
  clear h1 h2
  have H := Hs.start noRow w
  unfold Gives
  go_enter Tryz.func107, Tryz.ntmps107
  go_wp2_with (first | ((((with_reducible apply st_load1 H); decide +kernel; rfl; exact cF)); clear H; intro wn H; (try simp only [splice, yG, yH, yI, yJ, yK, yL, yM, yN, yO, yP, yQ, Nat.reduceAdd, yA, yB, yC] at H); simp only [Act.put, yA, yB, yC, yD, yE, yF]) | ((first | ((with_reducible apply st_box (dst := some 2) H); exact nF; intro b2) | ((with_reducible apply st_box (dst := some 3) H); exact nF; intro b3)); clear H; intro wn H; simp only [Act.put, yA, yB, yC, yD, yE, yF]) | (((go_at_call 172; refine gvF (c1 _ H.below) H ?_)); clear H; intro wn H))
  go_ret
  exact ⟨rfl, H.below⟩
set_option maxRecDepth 100000 in
set_option maxHeartbeats 4000000 in
theorem szNode_l (a : Nd) (cs : List Value) (k : Int) (hk : 0 ≤ k ∧ k ≤ 1048576) (w : World) (ha : tyNd.rd w cs a) : Gives Tryz.prog 61 #[.agg cs.toArray, .int .i64 k] w (.int .i64 (szC k (ssNd a))) := by
  obtain ⟨A, n, j, rfl, h1⟩ := Nd_form ha
  clear ha
  unfold ssNd
  obtain ⟨a1, l⟩ := a
  simp only at h1 ⊢
  have c2 := fun k hk w1 hb => szSpanS_l _ l k hk w1 (Ty.below _ h1 hb)
  clear h1
  have H := Hs.start noRow w
  unfold Gives
  generalize l.length = m at *
  have c3 := c2 k hk
  clear c2
  by_cases hl2 : k - m < 0
  · rw [szC_neg hl2] at c3 ⊢
    go_enter Tryz.func61, Tryz.ntmps61
    go_wp2_with (first | ((((with_reducible apply st_load1 H); decide +kernel; rfl; exact cF)); clear H; intro wn H; (try simp only [splice, yG, yH, yI, yJ, yK, yL, yM, yN, yO, yP, yQ, Nat.reduceAdd, yA, yB, yC] at H); simp only [Act.put, yA, yB, yC, yD, yE, yF]) | ((((with_reducible apply st_box (dst := some 2) H); exact nF; intro b2)); clear H; intro wn H; simp only [Act.put, yA, yB, yC, yD, yE, yF]) | (((go_at_call 112; refine gvF (c3 _ H.below) H ?_)); clear H; intro wn H))
    go_ret
    exact ⟨rfl, H.below⟩
  rw [szC_pos hl2] at c3 ⊢
  go_enter Tryz.func61, Tryz.ntmps61
  go_wp2_with (first | ((((with_reducible apply st_load1 H); decide +kernel; rfl; exact cF)); clear H; intro wn H; (try simp only [splice, yG, yH, yI, yJ, yK, yL, yM, yN, yO, yP, yQ, Nat.reduceAdd, yA, yB, yC] at H); simp only [Act.put, yA, yB, yC, yD, yE, yF]) | ((((with_reducible apply st_box (dst := some 2) H); exact nF; intro b2)); clear H; intro wn H; simp only [Act.put, yA, yB, yC, yD, yE, yF]) | (((go_at_call 112; refine gvF (c3 _ H.below) H ?_)); clear H; intro wn H))
  go_ret
  exact ⟨rfl, H.below⟩
set_option maxRecDepth 100000 in
set_option maxHeartbeats 4000000 in
theorem toNodeS_l (v : Value) (l : List Nd) (hl : szNdl l ≤ 1048576) (w : World) (hr : (Ty.sl 0 tyNd).rd w [v] l) : Rets Tryz.prog [] 38 #[v] w (tOwn (Ty.sl 92 tyNd) l) := by
  obtain ⟨A, c, rfl, hlc, hcm⟩ := sl_form hr
  have HR := Lib.hid hr
  have HL := Lib.hid hl
  have H := Hs.start noRow w
  obtain ⟨n, hn⟩ : ∃ n, n = l.length := ⟨_, rfl⟩
  have hnl : n ≤ 1048576 := by unfold szNdl at hl; omega
  rw [← hn] at HR ⊢
  have HN := Lib.hid hn
  clear hr hn hl hcm hlc
  refine Rets.of ?_
  go_enter Tryz.func38, Tryz.ntmps38
  go_wp2_with (((with_reducible apply st_makerow (E := 92) (s := 2) H); rfl; rfl; decide +kernel; (focus omega); clear H; intro g zs wn hz0 hz1 H; simp only [Act.put, yA, yB, yC, yD, yE, yF]))
  go_loopg [4] n (fun m iv wr => ∃ (i : Nat) (pre zs : List Value) (N : List Hl), i + m = n ∧ iv = .int .i64 i ∧ Hid (OwnL tyNd pre (l.take i) N ∧ zs.length = (n - i) * 2) ∧ Hs noRow w [Hl.row 92 2 (.slice (some ⟨g, 0, none⟩) n n) n (pre ++ zs), Hl.all N] wr)
  case atStart => exact ⟨0, [], zs, [], by omega, rfl, Lib.hid ⟨.nil, hz0⟩, by rw [List.nil_append]; exact H.allNil.sel sF⟩
  case round =>
    clear H
    obtain ⟨i, pre, zs, N, hi, rfl, HO, H⟩ := hrel
    by_cases hlt : i < n
    · obtain ⟨x, hx⟩ : ∃ x, l[i]? = some x := ⟨l[i]'(by rw [← HN.out]; exact hlt), List.getElem?_eq_getElem (by rw [← HN.out]; exact hlt)⟩
      have hs := sl_at (by have := HR.out; rw [HN.out] at this; exact this) hx
      rw [← HN.out] at hs
      obtain ⟨b, off, c', cs, hv, hcs, hA⟩ := hs
      injection hv with hv1 hv2 hv3
      subst hv1 hv3
      have hxl : x.2.length ≤ 1048576 := by have h1 := mzNd.cnt_at_le hx; have h2 := HL.out; unfold szNdl at h2; have h3 : mzNd.cnt x = ssNd x := rfl; unfold ssNd at h3; omega
      have hC := fun w1 hb => toNode_l x _ hxl w1 (Ty.below _ hcs hb)
      obtain ⟨E1, e2, e3, hu, _⟩ := Nd_form hcs
      subst hu
      have hfit : i * 2 + 2 ≤ (pre ++ zs).length := by
        have h1 := HO.out.1.len
        have h2 := HO.out.2
        rw [List.length_append, h1, h2, List.length_take, Nat.min_eq_left (by rw [← HN.out]; omega)]
        show i * 2 + 2 ≤ i * 2 + (n - i) * 2
        omega
      have hlt1 : (i : Int) < n := by omega
      clear hv2 hcs
      go_wp2_with (((((with_reducible apply st_loadat H); decide +kernel; rfl; exact aF; exact zF; rfl)); clear H; intro wn H; simp only [Act.put, yA, yB, yC, yD, yE, yF]))
      refine (Rets.use (hC _ H.below)).mono ?_; rintro e wn ⟨_, _, rfl, ⟨c4, N4, rfl, hN2, rfl⟩, hkk⟩; have Hn := H.moreK (by intro k hk; first | exact absurd hk List.not_mem_nil | (obtain rfl := List.mem_singleton.1 hk; exact In.mem iF)) hkk; clear hkk; clear H; have H := Hn; clear Hn; (try simp only [yT, yV] at H)
      obtain ⟨A1, d1, d2, hc4, _⟩ := Nd_form (own_rd H .here hN2)
      subst hc4
      obtain ⟨p', z', hp, hsp, hz'⟩ := own_step (m := n - (i + 1)) HO.out.1 hx (by rw [HO.out.2]; show (n - i) * 2 = (n - (i + 1) + 1) * 2; congr 1; omega) hN2
      have HS : Hid (spl (pre ++ zs) (i * 2) _ = p' ++ z') := Lib.hid hsp
      have HO2 := Lib.hid (And.intro hp hz')
      clear hsp hp hz' hx HO hN2
      go_wp2_with (((((with_reducible apply st_storerow H); rfl; exact eF; (exact cells_agg _); exact uF; kernel_rfl; exact Nat.succ_pos _; exact fitF; rfl)); clear H; intro wn H; simp only [Act.put, yA, yB, yC, yD, yE, yF]))
      go_roundg (n - (i + 1))
      case measure => omega
      case rel => exact ⟨i + 1, p', z', _, by omega, by go_num, HO2, by rw [← HS.out]; exact (Hs.join (H.sel (M := [Hl.all N, Hl.all N4, Hl.row 92 2 (.slice (some ⟨g, 0, none⟩) n n) n _]) sF)).reperm (List.Perm.swap ..)⟩
    · obtain rfl : i = n := by omega
      have hlt1 : ¬ (i : Int) < i := by omega
      go_wp2_with (fail)
      go_ret
      exact ret_sl H HO.out.1 (List.take_of_length_le (by rw [← HN.out]; exact Nat.le_refl _)) (by rw [HO.out.2, Nat.sub_self, Nat.zero_mul]) HN.out
set_option maxRecDepth 100000 in
set_option maxHeartbeats 4000000 in
theorem eqNodeS_l (va vb : Value) (l : List Nd) (w : World) (ha : (Ty.sl 92 tyNd).rd w [va] l) (hb : (Ty.sl 92 tyNd).rd w [vb] l) : Gives Tryz.prog 54 #[va, vb] w (.bool true) := by
  obtain ⟨A, c, rfl, hlc, hcm⟩ := sl_form ha
  obtain ⟨B, d, rfl, _, _⟩ := sl_form hb
  unfold maxLen at *
  have HA := Lib.hid ha
  have HB := Lib.hid hb
  have H := Hs.start noRow w
  obtain ⟨n, hn⟩ : ∃ n, n = l.length := ⟨_, rfl⟩
  have hnl : n ≤ 9223372036854775807 := by omega
  rw [← hn] at HA HB ⊢
  have HN := Lib.hid hn
  clear ha hb hn hcm hlc
  unfold Gives
  go_enter Tryz.func54, Tryz.ntmps54
  go_wp2_with (fail)
  go_loopg [5] n (fun m iv wr => ∃ (i : Nat), i + m = n ∧ iv = .int .i64 i ∧ Hs noRow w [] wr)
  case atStart => exact ⟨0, by omega, rfl, H⟩
  case round =>
    clear H
    obtain ⟨i, hi, rfl, H⟩ := hrel
    by_cases hlt : i < n
    · obtain ⟨x, hx⟩ : ∃ x, l[i]? = some x := ⟨l[i]'(by rw [← HN.out]; exact hlt), List.getElem?_eq_getElem (by rw [← HN.out]; exact hlt)⟩
      have hs := sl_at (by have := HA.out; rw [HN.out] at this; exact this) hx
      have hs2 := sl_at (by have := HB.out; rw [HN.out] at this; exact this) hx
      rw [← HN.out] at hs hs2
      obtain ⟨b, off, c', cs, hv, hcs, hA⟩ := hs
      injection hv with hv1 hv2 hv3
      subst hv1 hv3
      obtain ⟨b2, off2, c2', cs2, hw, hcs2, hB⟩ := hs2
      injection hw with hw1 hw2 hw3
      subst hw1 hw3
      have c1 := fun w1 hb => eqNode_l x _ _ w1 (Ty.below _ hcs hb) (Ty.below _ hcs2 hb)
      obtain ⟨r1, r2, r3, hu, _⟩ := Nd_form hcs
      obtain ⟨y1, y2, y3, hu2, _⟩ := Nd_form hcs2
      subst hu hu2
      have hlt1 : (i : Int) < n := by omega
      clear hx hv2 hw2 hcs hcs2
      go_wp2_with (((with_reducible apply wp_region_hq (id := 6) H); kernel_rfl; kernel_rfl; (iterate 8 (all_goals ((with_reducible refine' hq_step ?_ ?_ ?_); rotate_left; rfl; (focus (intro w1 H1; first | (exact qAF) | (exact qVF))); (try simp only [yG, yH, yJ, yK]); simp only [Act.put, yA, yB, yC, yD, yE, yF]))); (all_goals ((with_reducible refine' hq_step ?_ ?_ ?_); rotate_left; rfl; (focus (intro w1 H1; unfold QOk; go_simp; exact q_call (c1 _ H1.below))); (try simp only [yG, yH, yJ, yK]); simp only [Act.put, yA, yB, yC, yD, yE, yF])); (iterate 1 (all_goals ((with_reducible refine' hq_step ?_ ?_ ?_); rotate_left; rfl; (focus (intro w1 H1; exact qVF)); (try simp only [yG, yH, yJ, yK]); simp only [Act.put, yA, yB, yC, yD, yE, yF]))); all_goals (refine wpQuiet_nil ?_; clear H; intro wn H)))
      go_roundg (n - (i + 1))
      case measure => omega
      case rel => exact ⟨i + 1, by omega, by go_num, H⟩
    · obtain rfl : i = n := by omega
      have hlt1 : ¬ (i : Int) < i := by omega
      go_wp2_with (fail)
      go_ret
      exact ⟨rfl, H.below⟩
set_option maxRecDepth 100000 in
set_option maxHeartbeats 4000000 in
theorem szNodeS_l (v : Value) (l : List Nd) (k : Int) (hk : 0 ≤ k ∧ k ≤ 1048576) (w : World) (hr : (Ty.sl 0 tyNd).rd w [v] l) : Gives Tryz.prog 26 #[v, .int .i64 k] w (.int .i64 (szC k (szNdl l))) := by
  obtain ⟨A, c, rfl, hlc, hcm⟩ := sl_form hr
  unfold maxLen at *
  have HR := Lib.hid hr
  have H := Hs.start noRow w
  obtain ⟨n, hn⟩ : ∃ n, n = l.length := ⟨_, rfl⟩
  obtain ⟨t, ht⟩ : ∃ t, t = mzNd.cntl l := ⟨_, rfl⟩
  rw [show szNdl l = n + t by rw [hn, ht]; rfl]
  rw [← hn] at HR ⊢
  have HN := Lib.hid hn
  have HT := Lib.hid ht
  have hnl : n ≤ 9223372036854775807 := by omega
  clear hr hn ht hcm hlc
  unfold Gives
  by_cases h : k - n < 0
  · rw [szC_neg (by omega)]
    go_enter Tryz.func26, Tryz.ntmps26
    go_wp2_with (fail)
    go_ret
    exact ⟨rfl, H.below⟩
  obtain ⟨z, hz⟩ : ∃ z, z = szC k (n + t : Nat) := ⟨_, rfl⟩
  rw [← hz]
  have HZ := Lib.hid hz
  clear hz
  go_enter Tryz.func26, Tryz.ntmps26
  go_wp2_with (fail)
  go_loopg [1, 5] n (fun m kv iv wr => ∃ (i s : Nat), i + m = n ∧ iv = .int .i64 i ∧ kv = .int .i64 (k - n - s) ∧ 0 ≤ k - n - s ∧ Hid (s = mzNd.cntl (l.take i)) ∧ Hs noRow w [] wr)
  case atStart => exact ⟨0, 0, by omega, rfl, by go_num, by omega, Lib.hid rfl, H⟩
  case round =>
    clear H
    obtain ⟨i, s, hi, rfl, rfl, hs0, HI, H⟩ := hrel
    by_cases hlt : i < n
    · obtain ⟨x, hx⟩ : ∃ x, l[i]? = some x := ⟨l[i]'(by rw [← HN.out]; exact hlt), List.getElem?_eq_getElem (by rw [← HN.out]; exact hlt)⟩
      have hs := sl_at (by have := HR.out; rw [HN.out] at this; exact this) hx
      rw [← HN.out] at hs
      obtain ⟨b, off, c', cs, hv, hcs, hA⟩ := hs
      injection hv with hv1 hv2 hv3
      subst hv1 hv3
      have c1 := fun w1 hb => szNode_l x _ (k - n - s) ⟨hs0, by omega⟩ w1 (Ty.below _ hcs hb)
      have hle := mzNd.cnt_at_le hx
      have hxs : mzNd.cnt x = (ssNd x) := rfl
      rw [← HI.out, ← HT.out, hxs] at hle
      have HI2 : Hid (s + (ssNd x) = mzNd.cntl (l.take (i + 1))) := Lib.hid (by rw [mzNd.cntl_step hx, ← HI.out]; rfl)
      have hlt1 : (i : Int) < n := by omega
      obtain ⟨r1, r2, r3, hu, _⟩ := Nd_form hcs
      subst hu
      clear hx hv2 hcs hxs
      generalize (ssNd x) = xn at *
      by_cases hng : k - n - s - xn < 0
      · rw [szC_neg hng] at c1
        have HZ2 : Hid (z = -1) := Lib.hid (by rw [HZ.out, szC_neg (by omega)])
        go_wp2_with (first | ((((with_reducible apply st_loadat H); decide +kernel; rfl; exact aF; exact zF; rfl)); clear H; intro wn H; simp only [Act.put, yA, yB, yC, yD, yE, yF]) | (((go_at_call 61; refine gvF (c1 _ H.below) H ?_)); clear H; intro wn H))
        go_ret
        exact ⟨by rw [HZ2.out]; rfl, H.below⟩
      · rw [szC_pos hng] at c1
        go_wp2_with (first | ((((with_reducible apply st_loadat H); decide +kernel; rfl; exact aF; exact zF; rfl)); clear H; intro wn H; simp only [Act.put, yA, yB, yC, yD, yE, yF]) | (((go_at_call 61; refine gvF (c1 _ H.below) H ?_)); clear H; intro wn H))
        go_roundg (n - (i + 1))
        case measure => omega
        case rel => exact ⟨i + 1, s + xn, by omega, by go_num, by go_num, by omega, HI2, H⟩
    · obtain rfl : i = n := by omega
      have hlt1 : ¬ (i : Int) < i := by omega
      have hst : s = t := by rw [HI.out, HT.out, List.take_of_length_le (by rw [← HN.out]; exact Nat.le_refl _)]
      subst hst
      have HZ2 : Hid (z = k - i - s) := Lib.hid (by rw [HZ.out, szC_pos (by omega)]; omega)
      go_wp2_with (fail)
      go_ret
      exact ⟨by rw [HZ2.out]; rfl, H.below⟩
def tyTa : Ty Ta := Ty.pair tyTf (Ty.sl 2 tyNum)
theorem Ta_form {w : World} {cs : List Value} {a : Ta} (h : tyTa.rd w cs a) : ∃ A n k, cs = [.int .i64 a.1.1.1, .int .i64 a.1.1.2, .int .i64 a.1.2.1, .string a.1.2.2.1, .int .i64 a.1.2.2.2.1, .int .i64 a.1.2.2.2.2.1, .int .i64 a.1.2.2.2.2.2.1, .int .i64 a.1.2.2.2.2.2.2.1.1, .int .i64 a.1.2.2.2.2.2.2.1.2, .int .i64 a.1.2.2.2.2.2.2.2.1, .int .i64 a.1.2.2.2.2.2.2.2.2.1, .int .i64 a.1.2.2.2.2.2.2.2.2.2.1, .int .i64 a.1.2.2.2.2.2.2.2.2.2.2, .slice A n k] ∧ (Ty.sl 2 tyNum).rd w [.slice A n k] a.2 := by
  obtain ⟨x1, y1, rfl, h1, h2⟩ := h
  obtain rfl : x1 = encTf a.1 := h1
  obtain ⟨v, hv⟩ : ∃ v, y1 = [v] := by obtain ⟨v, _, rfl, _⟩ := h2; exact ⟨v, rfl⟩
  subst hv
  obtain ⟨A, k, rfl, _, _⟩ := sl_form h2
  exact ⟨A, _, k, rfl, h2⟩
set_option maxRecDepth 100000 in
set_option maxHeartbeats 4000000 in
theorem toTask_l (a : Ta) (cs : List Value) (hl : a.2.length ≤ 1048576) (w : World) (hr : tyTa.rd w cs a) : Rets Tryz.prog [] 79 #[.agg cs.toArray] w (tAgg tyTa a) := by
  obtain ⟨A, n, k, rfl, h1⟩ := Ta_form hr
  clear hr
  obtain ⟨⟨⟨a1, a2⟩, a3, a4, a5, a6, a7, ⟨a8, a9⟩, a10, a11, a12, a13⟩, l⟩ := a
  simp only at hl h1
  have c1 := fun w1 hb => toInt64S_l _ l hl w1 (Ty.below _ h1 hb)
  clear hl h1
  have H := Hs.start noRow w
  refine Rets.of ?_
  go_enter Tryz.func79, Tryz.ntmps79
  go_wp2_with (first | ((first | ((with_reducible apply st_load1 H); decide +kernel; rfl; exact cF) | ((with_reducible apply st_loads H); decide +kernel; rfl; exact iF; exact zF; rfl) | ((with_reducible apply st_store H); rfl; exact eF; (focus (exact cells_agg _)); exact uF; kernel_rfl; (focus (exact Nat.le_of_ble_eq_true (by rfl))); (focus (rfl)))); clear H; intro wn H; (try simp only [splice, yG, yH, yI, yJ, yK, yL, yM, yN, yO, yP, yQ, Nat.reduceAdd, yA, yB, yC] at H); simp only [Act.put, yA, yB, yC, yD, yE, yF]) | ((first | ((with_reducible apply st_box (dst := some 1) H); exact nF; intro b1) | ((with_reducible apply st_alloc (dst := some 2) H); exact nF; intro b2) | ((with_reducible apply st_alloc (dst := some 3) H); exact nF; intro b3)); clear H; intro wn H; simp only [Act.put, yA, yB, yC, yD, yE, yF]) | (((go_at_call 137; refine gvF (toLabel_l (_, _) _) H ?_)); clear H; intro wn H))
  refine (Rets.use (c1 _ H.below)).mono ?_; rintro e wn ⟨_, _, rfl, ⟨N1, hN1, rfl, o1⟩, hkk⟩; have Hn := H.moreK (by intro k hk; first | exact absurd hk List.not_mem_nil | (obtain rfl := List.mem_singleton.1 hk; exact In.mem iF)) hkk; clear hkk; clear H; have H := Hn; clear Hn; (try simp only [yT, yV] at H)
  have hA1 := own_single hN1 o1 rfl
  clear hN1 o1
  obtain ⟨A1, k1, rfl, _, _⟩ := sl_form (own_rd H .here hA1)
  have HA1 := Lib.hid hA1
  clear c1 hA1
  go_wp2_with (((first | ((with_reducible apply st_loads H); decide +kernel; rfl; exact iF; exact zF; rfl) | ((with_reducible apply st_store H); rfl; exact eF; (focus (exact cells_agg _)); exact uF; kernel_rfl; (focus (exact Nat.le_of_ble_eq_true (by rfl))); (focus (rfl)))); clear H; intro wn H; (try simp only [splice, yG, yH, yI, yJ, yK, yL, yM, yN, yO, yP, yQ, Nat.reduceAdd, yA, yB, yC] at H); simp only [Act.put, yA, yB, yC, yD, yE, yF]))
  refine bp_cell H rfl rfl iF (by kernel_rfl) (by kernel_rfl) rfl (by first | exact .inl rfl | exact .inr rfl) ?_
  have H2 : Hs noRow w [Hl.all N1] _ := H.sel sF
  exact Hs.retd H2 (List.Sublist.refl _) ⟨[_, _, _, _, _, _, _, _, _, _, _, _, _, _], _, rfl, ⟨[_, _, _, _, _, _, _, _, _, _, _, _, _], [_], [], _, rfl, rfl, ⟨rfl, rfl⟩, HA1.out⟩, rfl⟩
set_option maxRecDepth 100000 in
set_option maxHeartbeats 4000000 in
theorem eqTask_l (a : Ta) (cs ds : List Value) (w : World) (ha : tyTa.rd w cs a) (hb : tyTa.rd w ds a) : Gives Tryz.prog 108 #[.agg cs.toArray, .agg ds.toArray] w (.bool true) := by
  obtain ⟨A, n, k, rfl, h1⟩ := Ta_form ha
  obtain ⟨B, m, j, rfl, h2⟩ := Ta_form hb
  clear ha hb
  obtain ⟨⟨⟨a1, a2⟩, a3, a4, a5, a6, a7, ⟨a8, a9⟩, a10, a11, a12, a13⟩, l⟩ := a
  simp only at h1 h2
  have c1 := fun w1 hb => eqInt64S_l _ _ l w1 (Ty.below _ h1 hb) (Ty.below _ h2 hb)
  clear h1 h2
  have H := Hs.start noRow w
  unfold Gives
  go_enter Tryz.func108, Tryz.ntmps108
  go_wp2_with (first | ((first | ((with_reducible apply st_load1 H); decide +kernel; rfl; exact cF) | ((with_reducible apply st_loads H); decide +kernel; rfl; exact iF; exact zF; rfl)); clear H; intro wn H; (try simp only [splice, yG, yH, yI, yJ, yK, yL, yM, yN, yO, yP, yQ, Nat.reduceAdd, yA, yB, yC] at H); simp only [Act.put, yA, yB, yC, yD, yE, yF]) | ((first | ((with_reducible apply st_box (dst := some 2) H); exact nF; intro b2) | ((with_reducible apply st_box (dst := some 3) H); exact nF; intro b3)); clear H; intro wn H; simp only [Act.put, yA, yB, yC, yD, yE, yF]) | ((first | (go_at_call 173; refine gvF (eqLabel_l (_, _) _) H ?_) | (go_at_call 174; refine gvF (c1 _ H.below) H ?_)); clear H; intro wn H))
  go_ret
  exact ⟨rfl, H.below⟩
set_option maxRecDepth 100000 in
set_option maxHeartbeats 4000000 in
theorem szTask_l (a : Ta) (cs : List Value) (k : Int) (hk : 0 ≤ k ∧ k ≤ 1048576) (ho : okTa a) (w : World) (ha : tyTa.rd w cs a) : Gives Tryz.prog 62 #[.agg cs.toArray, .int .i64 k] w (.int .i64 (szC k (ssTa a))) := by
  obtain ⟨A, n, j, rfl, h1⟩ := Ta_form ha
  clear ha
  unfold ssTa ssTf
  have ho : a.1.2.2.1.size ≤ 9223372036854775807 := ho
  obtain ⟨⟨⟨a1, a2⟩, a3, a4, a5, a6, a7, ⟨a8, a9⟩, a10, a11, a12, a13⟩, l⟩ := a
  simp only at h1 ho ⊢
  have c2 := fun k hk w1 hb => szInt64S_l _ l k hk w1 (Ty.below _ h1 hb)
  clear h1
  have H := Hs.start noRow w
  unfold Gives
  generalize l.length = m at *
  obtain ⟨n1, hn1⟩ : ∃ n, n = a4.size := ⟨_, rfl⟩
  have e1 : (a4.size : Int) = n1 := by rw [hn1]
  rw [← hn1] at ho ⊢
  by_cases hl1 : k - n1 < 0
  · rw [szC_neg (by omega)]
    go_enter Tryz.func62, Tryz.ntmps62
    go_wp2_with (first | ((((with_reducible apply st_load1 H); decide +kernel; rfl; exact cF)); clear H; intro wn H; (try simp only [splice, yG, yH, yI, yJ, yK, yL, yM, yN, yO, yP, yQ, Nat.reduceAdd, yA, yB, yC] at H); simp only [Act.put, yA, yB, yC, yD, yE, yF]) | ((((with_reducible apply st_box (dst := some 2) H); exact nF; intro b2)); clear H; intro wn H; simp only [Act.put, yA, yB, yC, yD, yE, yF]))
    go_ret
    exact ⟨rfl, H.below⟩
  have c3 := c2 (k - n1) ⟨by omega, by omega⟩
  clear c2
  by_cases hl2 : k - n1 - m < 0
  · rw [szC_neg hl2] at c3
    rw [szC_neg (by omega)]
    go_enter Tryz.func62, Tryz.ntmps62
    go_wp2_with (first | ((((with_reducible apply st_load1 H); decide +kernel; rfl; exact cF)); clear H; intro wn H; (try simp only [splice, yG, yH, yI, yJ, yK, yL, yM, yN, yO, yP, yQ, Nat.reduceAdd, yA, yB, yC] at H); simp only [Act.put, yA, yB, yC, yD, yE, yF]) | ((((with_reducible apply st_box (dst := some 2) H); exact nF; intro b2)); clear H; intro wn H; simp only [Act.put, yA, yB, yC, yD, yE, yF]) | (((go_at_call 113; refine gvF (c3 _ H.below) H ?_)); clear H; intro wn H))
    go_ret
    exact ⟨rfl, H.below⟩
  rw [szC_pos hl2] at c3
  rw [szC_pos (by omega), show k - ((n1 + m : Nat) : Int) = k - n1 - m by omega]
  go_enter Tryz.func62, Tryz.ntmps62
  go_wp2_with (first | ((((with_reducible apply st_load1 H); decide +kernel; rfl; exact cF)); clear H; intro wn H; (try simp only [splice, yG, yH, yI, yJ, yK, yL, yM, yN, yO, yP, yQ, Nat.reduceAdd, yA, yB, yC] at H); simp only [Act.put, yA, yB, yC, yD, yE, yF]) | ((((with_reducible apply st_box (dst := some 2) H); exact nF; intro b2)); clear H; intro wn H; simp only [Act.put, yA, yB, yC, yD, yE, yF]) | (((go_at_call 113; refine gvF (c3 _ H.below) H ?_)); clear H; intro wn H))
  go_ret
  exact ⟨rfl, H.below⟩
set_option maxRecDepth 100000 in
set_option maxHeartbeats 4000000 in
theorem toTaskS_l (v : Value) (l : List Ta) (hl : szTal l ≤ 1048576) (w : World) (hr : (Ty.sl 0 tyTa).rd w [v] l) : Rets Tryz.prog [] 39 #[v] w (tOwn (Ty.sl 97 tyTa) l) := by
  obtain ⟨A, c, rfl, hlc, hcm⟩ := sl_form hr
  have HR := Lib.hid hr
  have HL := Lib.hid hl
  have H := Hs.start noRow w
  obtain ⟨n, hn⟩ : ∃ n, n = l.length := ⟨_, rfl⟩
  have hnl : n ≤ 1048576 := by unfold szTal at hl; omega
  rw [← hn] at HR ⊢
  have HN := Lib.hid hn
  clear hr hn hl hcm hlc
  refine Rets.of ?_
  go_enter Tryz.func39, Tryz.ntmps39
  go_wp2_with (((with_reducible apply st_makerow (E := 97) (s := 14) H); rfl; rfl; decide +kernel; (focus omega); clear H; intro g zs wn hz0 hz1 H; simp only [Act.put, yA, yB, yC, yD, yE, yF]))
  go_loopg [4] n (fun m iv wr => ∃ (i : Nat) (pre zs : List Value) (N : List Hl), i + m = n ∧ iv = .int .i64 i ∧ Hid (OwnL tyTa pre (l.take i) N ∧ zs.length = (n - i) * 14) ∧ Hs noRow w [Hl.row 97 14 (.slice (some ⟨g, 0, none⟩) n n) n (pre ++ zs), Hl.all N] wr)
  case atStart => exact ⟨0, [], zs, [], by omega, rfl, Lib.hid ⟨.nil, hz0⟩, by rw [List.nil_append]; exact H.allNil.sel sF⟩
  case round =>
    clear H
    obtain ⟨i, pre, zs, N, hi, rfl, HO, H⟩ := hrel
    by_cases hlt : i < n
    · obtain ⟨x, hx⟩ : ∃ x, l[i]? = some x := ⟨l[i]'(by rw [← HN.out]; exact hlt), List.getElem?_eq_getElem (by rw [← HN.out]; exact hlt)⟩
      have hs := sl_at (by have := HR.out; rw [HN.out] at this; exact this) hx
      rw [← HN.out] at hs
      obtain ⟨b, off, c', cs, hv, hcs, hA⟩ := hs
      injection hv with hv1 hv2 hv3
      subst hv1 hv3
      have hxl : x.2.length ≤ 1048576 := by have h1 := mzTa.cnt_at_le hx; have h2 := HL.out; unfold szTal at h2; have h3 : mzTa.cnt x = ssTa x := rfl; unfold ssTa at h3; omega
      have hC := fun w1 hb => toTask_l x _ hxl w1 (Ty.below _ hcs hb)
      obtain ⟨E1, e2, e3, hu, _⟩ := Ta_form hcs
      subst hu
      have hfit : i * 14 + 14 ≤ (pre ++ zs).length := by
        have h1 := HO.out.1.len
        have h2 := HO.out.2
        rw [List.length_append, h1, h2, List.length_take, Nat.min_eq_left (by rw [← HN.out]; omega)]
        show i * 14 + 14 ≤ i * 14 + (n - i) * 14
        omega
      have hlt1 : (i : Int) < n := by omega
      clear hv2 hcs
      go_wp2_with (((((with_reducible apply st_loadat H); decide +kernel; rfl; exact aF; exact zF; rfl)); clear H; intro wn H; simp only [Act.put, yA, yB, yC, yD, yE, yF]))
      refine (Rets.use (hC _ H.below)).mono ?_; rintro e wn ⟨_, _, rfl, ⟨c4, N4, rfl, hN2, rfl⟩, hkk⟩; have Hn := H.moreK (by intro k hk; first | exact absurd hk List.not_mem_nil | (obtain rfl := List.mem_singleton.1 hk; exact In.mem iF)) hkk; clear hkk; clear H; have H := Hn; clear Hn; (try simp only [yT, yV] at H)
      obtain ⟨A1, d1, d2, hc4, _⟩ := Ta_form (own_rd H .here hN2)
      subst hc4
      obtain ⟨p', z', hp, hsp, hz'⟩ := own_step (m := n - (i + 1)) HO.out.1 hx (by rw [HO.out.2]; show (n - i) * 14 = (n - (i + 1) + 1) * 14; congr 1; omega) hN2
      have HS : Hid (spl (pre ++ zs) (i * 14) _ = p' ++ z') := Lib.hid hsp
      have HO2 := Lib.hid (And.intro hp hz')
      clear hsp hp hz' hx HO hN2
      go_wp2_with (((((with_reducible apply st_storerow H); rfl; exact eF; (exact cells_agg _); exact uF; kernel_rfl; exact Nat.succ_pos _; exact fitF; rfl)); clear H; intro wn H; simp only [Act.put, yA, yB, yC, yD, yE, yF]))
      go_roundg (n - (i + 1))
      case measure => omega
      case rel => exact ⟨i + 1, p', z', _, by omega, by go_num, HO2, by rw [← HS.out]; exact (Hs.join (H.sel (M := [Hl.all N, Hl.all N4, Hl.row 97 14 (.slice (some ⟨g, 0, none⟩) n n) n _]) sF)).reperm (List.Perm.swap ..)⟩
    · obtain rfl : i = n := by omega
      have hlt1 : ¬ (i : Int) < i := by omega
      go_wp2_with (fail)
      go_ret
      exact ret_sl H HO.out.1 (List.take_of_length_le (by rw [← HN.out]; exact Nat.le_refl _)) (by rw [HO.out.2, Nat.sub_self, Nat.zero_mul]) HN.out
set_option maxRecDepth 100000 in
set_option maxHeartbeats 4000000 in
theorem eqTaskS_l (va vb : Value) (l : List Ta) (w : World) (ha : (Ty.sl 97 tyTa).rd w [va] l) (hb : (Ty.sl 97 tyTa).rd w [vb] l) : Gives Tryz.prog 55 #[va, vb] w (.bool true) := by
  obtain ⟨A, c, rfl, hlc, hcm⟩ := sl_form ha
  obtain ⟨B, d, rfl, _, _⟩ := sl_form hb
  unfold maxLen at *
  have HA := Lib.hid ha
  have HB := Lib.hid hb
  have H := Hs.start noRow w
  obtain ⟨n, hn⟩ : ∃ n, n = l.length := ⟨_, rfl⟩
  have hnl : n ≤ 9223372036854775807 := by omega
  rw [← hn] at HA HB ⊢
  have HN := Lib.hid hn
  clear ha hb hn hcm hlc
  unfold Gives
  go_enter Tryz.func55, Tryz.ntmps55
  go_wp2_with (fail)
  go_loopg [5] n (fun m iv wr => ∃ (i : Nat), i + m = n ∧ iv = .int .i64 i ∧ Hs noRow w [] wr)
  case atStart => exact ⟨0, by omega, rfl, H⟩
  case round =>
    clear H
    obtain ⟨i, hi, rfl, H⟩ := hrel
    by_cases hlt : i < n
    · obtain ⟨x, hx⟩ : ∃ x, l[i]? = some x := ⟨l[i]'(by rw [← HN.out]; exact hlt), List.getElem?_eq_getElem (by rw [← HN.out]; exact hlt)⟩
      have hs := sl_at (by have := HA.out; rw [HN.out] at this; exact this) hx
      have hs2 := sl_at (by have := HB.out; rw [HN.out] at this; exact this) hx
      rw [← HN.out] at hs hs2
      obtain ⟨b, off, c', cs, hv, hcs, hA⟩ := hs
      injection hv with hv1 hv2 hv3
      subst hv1 hv3
      obtain ⟨b2, off2, c2', cs2, hw, hcs2, hB⟩ := hs2
      injection hw with hw1 hw2 hw3
      subst hw1 hw3
      have c1 := fun w1 hb => eqTask_l x _ _ w1 (Ty.below _ hcs hb) (Ty.below _ hcs2 hb)
      obtain ⟨r1, r2, r3, hu, _⟩ := Ta_form hcs
      obtain ⟨y1, y2, y3, hu2, _⟩ := Ta_form hcs2
      subst hu hu2
      have hlt1 : (i : Int) < n := by omega
      clear hx hv2 hw2 hcs hcs2
      go_wp2_with (((with_reducible apply wp_region_hq (id := 6) H); kernel_rfl; kernel_rfl; (iterate 8 (all_goals ((with_reducible refine' hq_step ?_ ?_ ?_); rotate_left; rfl; (focus (intro w1 H1; first | (exact qAF) | (exact qVF))); (try simp only [yG, yH, yJ, yK]); simp only [Act.put, yA, yB, yC, yD, yE, yF]))); (all_goals ((with_reducible refine' hq_step ?_ ?_ ?_); rotate_left; rfl; (focus (intro w1 H1; unfold QOk; go_simp; exact q_call (c1 _ H1.below))); (try simp only [yG, yH, yJ, yK]); simp only [Act.put, yA, yB, yC, yD, yE, yF])); (iterate 1 (all_goals ((with_reducible refine' hq_step ?_ ?_ ?_); rotate_left; rfl; (focus (intro w1 H1; exact qVF)); (try simp only [yG, yH, yJ, yK]); simp only [Act.put, yA, yB, yC, yD, yE, yF]))); all_goals (refine wpQuiet_nil ?_; clear H; intro wn H)))
      go_roundg (n - (i + 1))
      case measure => omega
      case rel => exact ⟨i + 1, by omega, by go_num, H⟩
    · obtain rfl : i = n := by omega
      have hlt1 : ¬ (i : Int) < i := by omega
      go_wp2_with (fail)
      go_ret
      exact ⟨rfl, H.below⟩
set_option maxRecDepth 100000 in
set_option maxHeartbeats 4000000 in
theorem szTaskS_l (v : Value) (l : List Ta) (k : Int) (hk : 0 ≤ k ∧ k ≤ 1048576) (ho : ∀ x ∈ l, okTa x) (w : World) (hr : (Ty.sl 0 tyTa).rd w [v] l) : Gives Tryz.prog 27 #[v, .int .i64 k] w (.int .i64 (szC k (szTal l))) := by
  obtain ⟨A, c, rfl, hlc, hcm⟩ := sl_form hr
  unfold maxLen at *
  have HR := Lib.hid hr
  have HOK := Lib.hid ho
  have H := Hs.start noRow w
  obtain ⟨n, hn⟩ : ∃ n, n = l.length := ⟨_, rfl⟩
  obtain ⟨t, ht⟩ : ∃ t, t = mzTa.cntl l := ⟨_, rfl⟩
  rw [show szTal l = n + t by rw [hn, ht]; rfl]
  rw [← hn] at HR ⊢
  have HN := Lib.hid hn
  have HT := Lib.hid ht
  have hnl : n ≤ 9223372036854775807 := by omega
  clear hr hn ht hcm hlc ho
  unfold Gives
  by_cases h : k - n < 0
  · rw [szC_neg (by omega)]
    go_enter Tryz.func27, Tryz.ntmps27
    go_wp2_with (fail)
    go_ret
    exact ⟨rfl, H.below⟩
  obtain ⟨z, hz⟩ : ∃ z, z = szC k (n + t : Nat) := ⟨_, rfl⟩
  rw [← hz]
  have HZ := Lib.hid hz
  clear hz
  go_enter Tryz.func27, Tryz.ntmps27
  go_wp2_with (fail)
  go_loopg [1, 5] n (fun m kv iv wr => ∃ (i s : Nat), i + m = n ∧ iv = .int .i64 i ∧ kv = .int .i64 (k - n - s) ∧ 0 ≤ k - n - s ∧ Hid (s = mzTa.cntl (l.take i)) ∧ Hs noRow w [] wr)
  case atStart => exact ⟨0, 0, by omega, rfl, by go_num, by omega, Lib.hid rfl, H⟩
  case round =>
    clear H
    obtain ⟨i, s, hi, rfl, rfl, hs0, HI, H⟩ := hrel
    by_cases hlt : i < n
    · obtain ⟨x, hx⟩ : ∃ x, l[i]? = some x := ⟨l[i]'(by rw [← HN.out]; exact hlt), List.getElem?_eq_getElem (by rw [← HN.out]; exact hlt)⟩
      have hs := sl_at (by have := HR.out; rw [HN.out] at this; exact this) hx
      rw [← HN.out] at hs
      obtain ⟨b, off, c', cs, hv, hcs, hA⟩ := hs
      injection hv with hv1 hv2 hv3
      subst hv1 hv3
      have c1 := fun w1 hb => szTask_l x _ (k - n - s) ⟨hs0, by omega⟩ (HOK.out x (List.mem_of_getElem? hx)) w1 (Ty.below _ hcs hb)
      have hle := mzTa.cnt_at_le hx
      have hxs : mzTa.cnt x = (ssTa x) := rfl
      rw [← HI.out, ← HT.out, hxs] at hle
      have HI2 : Hid (s + (ssTa x) = mzTa.cntl (l.take (i + 1))) := Lib.hid (by rw [mzTa.cntl_step hx, ← HI.out]; rfl)
      have hlt1 : (i : Int) < n := by omega
      obtain ⟨r1, r2, r3, hu, _⟩ := Ta_form hcs
      subst hu
      clear hx hv2 hcs hxs
      generalize (ssTa x) = xn at *
      by_cases hng : k - n - s - xn < 0
      · rw [szC_neg hng] at c1
        have HZ2 : Hid (z = -1) := Lib.hid (by rw [HZ.out, szC_neg (by omega)])
        go_wp2_with (first | ((((with_reducible apply st_loadat H); decide +kernel; rfl; exact aF; exact zF; rfl)); clear H; intro wn H; simp only [Act.put, yA, yB, yC, yD, yE, yF]) | (((go_at_call 62; refine gvF (c1 _ H.below) H ?_)); clear H; intro wn H))
        go_ret
        exact ⟨by rw [HZ2.out]; rfl, H.below⟩
      · rw [szC_pos hng] at c1
        go_wp2_with (first | ((((with_reducible apply st_loadat H); decide +kernel; rfl; exact aF; exact zF; rfl)); clear H; intro wn H; simp only [Act.put, yA, yB, yC, yD, yE, yF]) | (((go_at_call 62; refine gvF (c1 _ H.below) H ?_)); clear H; intro wn H))
        go_roundg (n - (i + 1))
        case measure => omega
        case rel => exact ⟨i + 1, s + xn, by omega, by go_num, by go_num, by omega, HI2, H⟩
    · obtain rfl : i = n := by omega
      have hlt1 : ¬ (i : Int) < i := by omega
      have hst : s = t := by rw [HI.out, HT.out, List.take_of_length_le (by rw [← HN.out]; exact Nat.le_refl _)]
      subst hst
      have HZ2 : Hid (z = k - i - s) := Lib.hid (by rw [HZ.out, szC_pos (by omega)]; omega)
      go_wp2_with (fail)
      go_ret
      exact ⟨by rw [HZ2.out]; rfl, H.below⟩
end Go.Proofs.YtpfdhfchgnnpiaaGreat
