/-
  Disks, houses: what the statements do with them: the walks. Printed by kgen.py.
-/
import Derived.Test.YtcaeemhkeoajbaaGreatHx
set_option linter.unusedSimpArgs false
set_option linter.unusedVariables false
namespace Go.Proofs.YtcaeemhkeoajbaaGreat
open Go.RowKit M
namespace M
abbrev Rg := ByteArray × ByteArray × ByteArray
def encRg (a : Rg) : List Value := [.string a.1, .string a.2.1, .string a.2.2]
def tyRg : Ty Rg := Ty.flat 3 encRg (fun _ => rfl) (fun a u hu => by simp only [encRg, List.mem_cons, List.not_mem_nil, or_false] at hu; rcases hu with rfl | rfl | rfl <;> rfl)
def mkRg : Mark Rg := ⟨fun _ => 3, fun k _ => (bs (mtext (k)), bs (mtext (k + 1)), bs (mtext (k + 2)))⟩
def ssRg (a : Rg) : Nat := a.1.size + (a.2.1.size + (a.2.2.size))
def okRg (a : Rg) : Prop := a.1.size ≤ 9223372036854775807 ∧ a.2.1.size ≤ 9223372036854775807 ∧ a.2.2.size ≤ 9223372036854775807
def mzRg : Mark Rg := ⟨fun a => ssRg a, fun _ a => a⟩
def szRgl (l : List Rg) : Nat := l.length + mzRg.cntl l
abbrev Dk := List Rg × Int
def szDk (a : Dk) : Nat := szRgl a.1
def okDk (a : Dk) : Prop := (∀ x ∈ a.1, okRg x)
def mkDk : Mark Dk := mkRg.list.pair (mkFix)
abbrev Ho := St × Dk × Int
def szHo (a : Ho) : Nat := szSt a.1 + (szDk a.2.1)
def okHo (a : Ho) : Prop := (okSt a.1) ∧ (okDk a.2.1)
def mkHo : Mark Ho := mkSt.pair (mkDk.pair (mkFix))
abbrev HO := Ho × (ByteArray × Int)
def szHO (a : HO) : Nat := szHo a.1
def okHO (a : HO) : Prop := (okHo a.1)
def mkHO : Mark HO := mkHo.pair (mkFix)
end M
namespace Dz
set_option maxRecDepth 100000 in
set_option maxHeartbeats 4000000 in
theorem toRegion_l (a : Rg) (w : World) : Gives Tryz.prog 166 #[.agg #[.string a.1, .string a.2.1, .string a.2.2]] w (.agg #[.string a.1, .string a.2.1, .string a.2.2]) := by
  obtain ⟨a1, a2, a3⟩ := a
  unfold Gives
  have H := Hs.start noRow w
  go_enter Tryz.func166, Tryz.ntmps166
  go_wp2_with (first | ((first | ((with_reducible apply st_load1 H); decide +kernel; rfl; exact cF) | ((with_reducible apply st_loads H); decide +kernel; rfl; exact iF; exact zF; rfl) | ((with_reducible apply st_store H); rfl; exact eF; (focus (exact cells_agg _)); exact uF; kernel_rfl; (focus (exact Nat.le_of_ble_eq_true (by rfl))); (focus (rfl)))); clear H; intro wn H; (try simp only [splice, yG, yH, yI, yJ, yK, yL, yM, yN, yO, yP, yQ, Nat.reduceAdd, yA, yB, yC] at H); simp only [Act.put, yA, yB, yC, yD, yE, yF]) | ((first | ((with_reducible apply st_box (dst := some 1) H); exact nF; intro b1) | ((with_reducible apply st_alloc (dst := some 2) H); exact nF; intro b2) | ((with_reducible apply st_alloc (dst := some 3) H); exact nF; intro b3)); clear H; intro wn H; simp only [Act.put, yA, yB, yC, yD, yE, yF]))
  refine bp_cell H rfl rfl iF (by kernel_rfl) (by kernel_rfl) rfl (by first | exact .inl rfl | exact .inr rfl) ?_
  exact ⟨rfl, H.below⟩
set_option maxRecDepth 100000 in
set_option maxHeartbeats 4000000 in
theorem eqRegion_l (a : Rg) (w : World) : Gives Tryz.prog 168 #[.agg #[.string a.1, .string a.2.1, .string a.2.2], .agg #[.string a.1, .string a.2.1, .string a.2.2]] w (.bool true) := by
  obtain ⟨a1, a2, a3⟩ := a
  unfold Gives
  have H := Hs.start noRow w
  go_enter Tryz.func168, Tryz.ntmps168
  go_wp2_with (first | ((((with_reducible apply st_load1 H); decide +kernel; rfl; exact cF)); clear H; intro wn H; (try simp only [splice, yG, yH, yI, yJ, yK, yL, yM, yN, yO, yP, yQ, Nat.reduceAdd, yA, yB, yC] at H); simp only [Act.put, yA, yB, yC, yD, yE, yF]) | ((first | ((with_reducible apply st_box (dst := some 2) H); exact nF; intro b2) | ((with_reducible apply st_box (dst := some 3) H); exact nF; intro b3)); clear H; intro wn H; simp only [Act.put, yA, yB, yC, yD, yE, yF]))
  go_ret
  exact ⟨rfl, H.below⟩
set_option maxRecDepth 100000 in
set_option maxHeartbeats 4000000 in
theorem szRegion_l (a : Rg) (k : Int) (hk : 0 ≤ k ∧ k ≤ 1048576) (ho : okRg a) (w : World) : Gives Tryz.prog 165 #[.agg #[.string a.1, .string a.2.1, .string a.2.2], .int .i64 k] w (.int .i64 (szC k (ssRg a))) := by
  unfold ssRg
  have h1 : a.1.size ≤ 9223372036854775807 := ho.1
  have h2 : a.2.1.size ≤ 9223372036854775807 := ho.2.1
  have h3 : a.2.2.size ≤ 9223372036854775807 := ho.2.2
  clear ho
  obtain ⟨a1, a2, a3⟩ := a
  simp only at h1 h2 h3 ⊢
  obtain ⟨n1, hn1⟩ : ∃ n, n = a1.size := ⟨_, rfl⟩
  obtain ⟨n2, hn2⟩ : ∃ n, n = a2.size := ⟨_, rfl⟩
  obtain ⟨n3, hn3⟩ : ∃ n, n = a3.size := ⟨_, rfl⟩
  have e1 : (a1.size : Int) = n1 := by rw [hn1]
  rw [← hn1] at h1 ⊢
  have e2 : (a2.size : Int) = n2 := by rw [hn2]
  rw [← hn2] at h2 ⊢
  have e3 : (a3.size : Int) = n3 := by rw [hn3]
  rw [← hn3] at h3 ⊢
  have H := Hs.start noRow w
  unfold Gives
  by_cases hl1 : k - n1 < 0
  · rw [szC_neg (by omega)]
    go_enter Tryz.func165, Tryz.ntmps165
    go_wp2_with (first | ((((with_reducible apply st_load1 H); decide +kernel; rfl; exact cF)); clear H; intro wn H; (try simp only [splice, yG, yH, yI, yJ, yK, yL, yM, yN, yO, yP, yQ, Nat.reduceAdd, yA, yB, yC] at H); simp only [Act.put, yA, yB, yC, yD, yE, yF]) | ((((with_reducible apply st_box (dst := some 2) H); exact nF; intro b2)); clear H; intro wn H; simp only [Act.put, yA, yB, yC, yD, yE, yF]))
    go_ret
    exact ⟨rfl, H.below⟩
  by_cases hl2 : k - n1 - n2 < 0
  · rw [szC_neg (by omega)]
    go_enter Tryz.func165, Tryz.ntmps165
    go_wp2_with (first | ((((with_reducible apply st_load1 H); decide +kernel; rfl; exact cF)); clear H; intro wn H; (try simp only [splice, yG, yH, yI, yJ, yK, yL, yM, yN, yO, yP, yQ, Nat.reduceAdd, yA, yB, yC] at H); simp only [Act.put, yA, yB, yC, yD, yE, yF]) | ((((with_reducible apply st_box (dst := some 2) H); exact nF; intro b2)); clear H; intro wn H; simp only [Act.put, yA, yB, yC, yD, yE, yF]))
    go_ret
    exact ⟨rfl, H.below⟩
  by_cases hl3 : k - n1 - n2 - n3 < 0
  · rw [szC_neg (by omega)]
    go_enter Tryz.func165, Tryz.ntmps165
    go_wp2_with (first | ((((with_reducible apply st_load1 H); decide +kernel; rfl; exact cF)); clear H; intro wn H; (try simp only [splice, yG, yH, yI, yJ, yK, yL, yM, yN, yO, yP, yQ, Nat.reduceAdd, yA, yB, yC] at H); simp only [Act.put, yA, yB, yC, yD, yE, yF]) | ((((with_reducible apply st_box (dst := some 2) H); exact nF; intro b2)); clear H; intro wn H; simp only [Act.put, yA, yB, yC, yD, yE, yF]))
    go_ret
    exact ⟨rfl, H.below⟩
  rw [szC_pos (by omega), show k - ((n1 + (n2 + (n3)) : Nat) : Int) = k - n1 - n2 - n3 by omega]
  go_enter Tryz.func165, Tryz.ntmps165
  go_wp2_with (first | ((((with_reducible apply st_load1 H); decide +kernel; rfl; exact cF)); clear H; intro wn H; (try simp only [splice, yG, yH, yI, yJ, yK, yL, yM, yN, yO, yP, yQ, Nat.reduceAdd, yA, yB, yC] at H); simp only [Act.put, yA, yB, yC, yD, yE, yF]) | ((((with_reducible apply st_box (dst := some 2) H); exact nF; intro b2)); clear H; intro wn H; simp only [Act.put, yA, yB, yC, yD, yE, yF]))
  go_ret
  exact ⟨rfl, H.below⟩
set_option maxRecDepth 100000 in
set_option maxHeartbeats 4000000 in
theorem toRegionS_l (v : Value) (l : List Rg) (hl : l.length ≤ 1048576) (w : World) (hr : (Ty.sl 0 tyRg).rd w [v] l) : Rets Tryz.prog [] 90 #[v] w (tOwn (Ty.sl 150 tyRg) l) := by
  obtain ⟨A, c, rfl, hlc, hcm⟩ := sl_form hr
  have HR := Lib.hid hr
  have H := Hs.start noRow w
  obtain ⟨n, hn⟩ : ∃ n, n = l.length := ⟨_, rfl⟩
  have hnl : n ≤ 1048576 := by omega
  rw [← hn] at HR ⊢
  have HN := Lib.hid hn
  clear hr hn hl hcm hlc
  refine Rets.of ?_
  go_enter Tryz.func90, Tryz.ntmps90
  go_wp2_with (((with_reducible apply st_makerow (E := 150) (s := 3) H); rfl; rfl; decide +kernel; (focus omega); clear H; intro g zs wn hz0 hz1 H; simp only [Act.put, yA, yB, yC, yD, yE, yF]))
  go_loopg [4] n (fun m iv wr => ∃ (i : Nat) (pre zs : List Value) (N : List Hl), i + m = n ∧ iv = .int .i64 i ∧ Hid (OwnL tyRg pre (l.take i) N ∧ zs.length = (n - i) * 3) ∧ Hs noRow w [Hl.row 150 3 (.slice (some ⟨g, 0, none⟩) n n) n (pre ++ zs), Hl.all N] wr)
  case atStart => exact ⟨0, [], zs, [], by omega, rfl, Lib.hid ⟨.nil, hz0⟩, by rw [List.nil_append]; exact H.allNil.sel sF⟩
  case round =>
    clear H
    obtain ⟨i, pre, zs, N, hi, rfl, HO, H⟩ := hrel
    by_cases hlt : i < n
    · obtain ⟨x, hx⟩ : ∃ x, l[i]? = some x := ⟨l[i]'(by rw [← HN.out]; exact hlt), List.getElem?_eq_getElem (by rw [← HN.out]; exact hlt)⟩
      have hs := sl_at (by have := HR.out; rw [HN.out] at this; exact this) hx
      rw [← HN.out] at hs
      obtain ⟨b, off, c', cs, hv, hcs, hA⟩ := hs
      injection hv with hv1 hv2 hv3
      subst hv1 hv3
      obtain rfl : cs = encRg x := hcs
      obtain ⟨p', z', hp, hsp, hz'⟩ := own_step (m := n - (i + 1)) HO.out.1 hx (by rw [HO.out.2]; show (n - i) * 3 = (n - (i + 1) + 1) * 3; congr 1; omega) (show tyRg.own (encRg x) x [] from ⟨rfl, rfl⟩)
      have hfit : i * 3 + 3 ≤ (pre ++ zs).length := by
        have h1 := HO.out.1.len
        have h2 := HO.out.2
        rw [List.length_append, h1, h2, List.length_take, Nat.min_eq_left (by rw [← HN.out]; omega)]
        show i * 3 + 3 ≤ i * 3 + (n - i) * 3
        omega
      have HS : Hid (spl (pre ++ zs) (i * 3) (encRg x) = p' ++ z') := Lib.hid hsp
      have HO2 := Lib.hid (And.intro hp hz')
      have hlt1 : (i : Int) < n := by omega
      clear hsp hp hz' hx HO hv2
      unfold encRg at *
      go_wp2_with (first | ((first | ((with_reducible apply st_loadat H); decide +kernel; rfl; exact aF; exact zF; rfl) | ((with_reducible apply st_storerow H); rfl; exact eF; (exact cells_agg _); exact uF; kernel_rfl; exact Nat.succ_pos _; exact fitF; rfl)); clear H; intro wn H; simp only [Act.put, yA, yB, yC, yD, yE, yF]) | (((go_at_call 166; refine gvF (toRegion_l _ _) H ?_)); clear H; intro wn H))
      go_roundg (n - (i + 1))
      case measure => omega
      case rel => exact ⟨i + 1, p', z', _, by omega, by go_num, HO2, by rw [List.append_nil, ← HS.out]; exact H.sel sF⟩
    · obtain rfl : i = n := by omega
      have hlt1 : ¬ (i : Int) < i := by omega
      go_wp2_with (fail)
      go_ret
      exact ret_sl H HO.out.1 (List.take_of_length_le (by rw [← HN.out]; exact Nat.le_refl _)) (by rw [HO.out.2, Nat.sub_self, Nat.zero_mul]) HN.out
set_option maxRecDepth 100000 in
set_option maxHeartbeats 4000000 in
theorem eqRegionS_l (va vb : Value) (l : List Rg) (w : World) (ha : (Ty.sl 150 tyRg).rd w [va] l) (hb : (Ty.sl 150 tyRg).rd w [vb] l) : Gives Tryz.prog 93 #[va, vb] w (.bool true) := by
  obtain ⟨A, c, rfl, hlc, hcm⟩ := sl_form ha
  obtain ⟨B, d, rfl, _, _⟩ := sl_form hb
  unfold maxLen at *
  have HA := Lib.hid ha
  have HB := Lib.hid hb
  have H := Hs.start noRow w
  obtain ⟨n, hn⟩ : ∃ n, n = l.length := ⟨_, rfl⟩
  have hnl : n ≤ 9223372036854775807 := by omega
  rw [← hn] at HA HB ⊢
  have HN := Lib.hid hn
  clear ha hb hn hcm hlc
  unfold Gives
  go_enter Tryz.func93, Tryz.ntmps93
  go_wp2_with (fail)
  go_loopg [5] n (fun m iv wr => ∃ (i : Nat), i + m = n ∧ iv = .int .i64 i ∧ Hs noRow w [] wr)
  case atStart => exact ⟨0, by omega, rfl, H⟩
  case round =>
    clear H
    obtain ⟨i, hi, rfl, H⟩ := hrel
    by_cases hlt : i < n
    · obtain ⟨x, hx⟩ : ∃ x, l[i]? = some x := ⟨l[i]'(by rw [← HN.out]; exact hlt), List.getElem?_eq_getElem (by rw [← HN.out]; exact hlt)⟩
      have hs := sl_at (by have := HA.out; rw [HN.out] at this; exact this) hx
      have hs2 := sl_at (by have := HB.out; rw [HN.out] at this; exact this) hx
      rw [← HN.out] at hs hs2
      obtain ⟨b, off, c', cs, hv, hcs, hA⟩ := hs
      injection hv with hv1 hv2 hv3
      subst hv1 hv3
      obtain ⟨b2, off2, c2', cs2, hw, hcs2, hB⟩ := hs2
      injection hw with hw1 hw2 hw3
      subst hw1 hw3
      obtain rfl : cs = encRg x := hcs
      obtain rfl : cs2 = encRg x := hcs2
      have hlt1 : (i : Int) < n := by omega
      clear hx hv2 hw2
      unfold encRg at *
      go_wp2_with (((with_reducible apply wp_region_hq (id := 6) H); kernel_rfl; kernel_rfl; (iterate 8 (all_goals ((with_reducible refine' hq_step ?_ ?_ ?_); rotate_left; rfl; (focus (intro w1 H1; first | (exact qAF) | (exact qVF))); (try simp only [yG, yH, yJ, yK]); simp only [Act.put, yA, yB, yC, yD, yE, yF]))); (all_goals ((with_reducible refine' hq_step ?_ ?_ ?_); rotate_left; rfl; (focus (intro w1 H1; unfold QOk; go_simp; exact q_call (eqRegion_l _ _))); (try simp only [yG, yH, yJ, yK]); simp only [Act.put, yA, yB, yC, yD, yE, yF])); (iterate 1 (all_goals ((with_reducible refine' hq_step ?_ ?_ ?_); rotate_left; rfl; (focus (intro w1 H1; exact qVF)); (try simp only [yG, yH, yJ, yK]); simp only [Act.put, yA, yB, yC, yD, yE, yF]))); all_goals (refine wpQuiet_nil ?_; clear H; intro wn H)))
      go_roundg (n - (i + 1))
      case measure => omega
      case rel => exact ⟨i + 1, by omega, by go_num, H⟩
    · obtain rfl : i = n := by omega
      have hlt1 : ¬ (i : Int) < i := by omega
      go_wp2_with (fail)
      go_ret
      exact ⟨rfl, H.below⟩
set_option maxRecDepth 100000 in
set_option maxHeartbeats 4000000 in
theorem szRegionS_l (v : Value) (l : List Rg) (k : Int) (hk : 0 ≤ k ∧ k ≤ 1048576) (ho : ∀ x ∈ l, okRg x) (w : World) (hr : (Ty.sl 0 tyRg).rd w [v] l) : Gives Tryz.prog 88 #[v, .int .i64 k] w (.int .i64 (szC k (szRgl l))) := by
  obtain ⟨A, c, rfl, hlc, hcm⟩ := sl_form hr
  unfold maxLen at *
  have HR := Lib.hid hr
  have HOK := Lib.hid ho
  have H := Hs.start noRow w
  obtain ⟨n, hn⟩ : ∃ n, n = l.length := ⟨_, rfl⟩
  obtain ⟨t, ht⟩ : ∃ t, t = mzRg.cntl l := ⟨_, rfl⟩
  rw [show szRgl l = n + t by rw [hn, ht]; rfl]
  rw [← hn] at HR ⊢
  have HN := Lib.hid hn
  have HT := Lib.hid ht
  have hnl : n ≤ 9223372036854775807 := by omega
  clear hr hn ht hcm hlc ho
  unfold Gives
  by_cases h : k - n < 0
  · rw [szC_neg (by omega)]
    go_enter Tryz.func88, Tryz.ntmps88
    go_wp2_with (fail)
    go_ret
    exact ⟨rfl, H.below⟩
  obtain ⟨z, hz⟩ : ∃ z, z = szC k (n + t : Nat) := ⟨_, rfl⟩
  rw [← hz]
  have HZ := Lib.hid hz
  clear hz
  go_enter Tryz.func88, Tryz.ntmps88
  go_wp2_with (fail)
  go_loopg [1, 5] n (fun m kv iv wr => ∃ (i s : Nat), i + m = n ∧ iv = .int .i64 i ∧ kv = .int .i64 (k - n - s) ∧ 0 ≤ k - n - s ∧ Hid (s = mzRg.cntl (l.take i)) ∧ Hs noRow w [] wr)
  case atStart => exact ⟨0, 0, by omega, rfl, by go_num, by omega, Lib.hid rfl, H⟩
  case round =>
    clear H
    obtain ⟨i, s, hi, rfl, rfl, hs0, HI, H⟩ := hrel
    by_cases hlt : i < n
    · obtain ⟨x, hx⟩ : ∃ x, l[i]? = some x := ⟨l[i]'(by rw [← HN.out]; exact hlt), List.getElem?_eq_getElem (by rw [← HN.out]; exact hlt)⟩
      have hs := sl_at (by have := HR.out; rw [HN.out] at this; exact this) hx
      rw [← HN.out] at hs
      obtain ⟨b, off, c', cs, hv, hcs, hA⟩ := hs
      injection hv with hv1 hv2 hv3
      subst hv1 hv3
      obtain rfl : cs = encRg x := hcs
      have c1 := fun w1 => szRegion_l x (k - n - s) ⟨hs0, by omega⟩ (HOK.out x (List.mem_of_getElem? hx)) w1
      have hle := mzRg.cnt_at_le hx
      have hxs : mzRg.cnt x = (ssRg x) := rfl
      rw [← HI.out, ← HT.out, hxs] at hle
      have HI2 : Hid (s + (ssRg x) = mzRg.cntl (l.take (i + 1))) := Lib.hid (by rw [mzRg.cntl_step hx, ← HI.out]; rfl)
      have hlt1 : (i : Int) < n := by omega
      unfold encRg at *
      clear hx hv2 hxs
      generalize (ssRg x) = xn at *
      by_cases hng : k - n - s - xn < 0
      · rw [szC_neg hng] at c1
        have HZ2 : Hid (z = -1) := Lib.hid (by rw [HZ.out, szC_neg (by omega)])
        go_wp2_with (first | ((((with_reducible apply st_loadat H); decide +kernel; rfl; exact aF; exact zF; rfl)); clear H; intro wn H; simp only [Act.put, yA, yB, yC, yD, yE, yF]) | (((go_at_call 165; refine gvF (c1 _) H ?_)); clear H; intro wn H))
        go_ret
        exact ⟨by rw [HZ2.out]; rfl, H.below⟩
      · rw [szC_pos hng] at c1
        go_wp2_with (first | ((((with_reducible apply st_loadat H); decide +kernel; rfl; exact aF; exact zF; rfl)); clear H; intro wn H; simp only [Act.put, yA, yB, yC, yD, yE, yF]) | (((go_at_call 165; refine gvF (c1 _) H ?_)); clear H; intro wn H))
        go_roundg (n - (i + 1))
        case measure => omega
        case rel => exact ⟨i + 1, s + xn, by omega, by go_num, by go_num, by omega, HI2, H⟩
    · obtain rfl : i = n := by omega
      have hlt1 : ¬ (i : Int) < i := by omega
      have hst : s = t := by rw [HI.out, HT.out, List.take_of_length_le (by rw [← HN.out]; exact Nat.le_refl _)]
      subst hst
      have HZ2 : Hid (z = k - i - s) := Lib.hid (by rw [HZ.out, szC_pos (by omega)]; omega)
      go_wp2_with (fail)
      go_ret
      exact ⟨by rw [HZ2.out]; rfl, H.below⟩
def tyDk : Ty Dk := Ty.pair (Ty.sl 150 tyRg) (tyNum)
theorem Dk_form {w : World} {cs : List Value} {a : Dk} (h : tyDk.rd w cs a) : ∃ A1 n1 k1, cs = [.slice A1 n1 k1, .int .i64 a.2] ∧ (Ty.sl 150 tyRg).rd w [.slice A1 n1 k1] a.1 := by
  obtain ⟨x1, y1, rfl, h1, h2⟩ := h
  obtain ⟨v1, hv1⟩ : ∃ v, x1 = [v] := by obtain ⟨v, _, rfl, _⟩ := h1; exact ⟨v, rfl⟩
  subst hv1
  obtain ⟨A1, k1, rfl, _, _⟩ := sl_form h1
  obtain rfl : y1 = encNum a.2 := h2
  exact ⟨A1, _, k1, rfl, h1⟩
theorem Dk_lit {w : World} {cs : List Value} {a : Dk} (h : tyDk.rd w cs a) : ∃ A1 n1 k1, cs = [.slice A1 n1 k1, .int .i64 a.2] := by
  obtain ⟨A1, n1, k1, e, _⟩ := Dk_form h
  exact ⟨A1, n1, k1, e⟩
set_option maxRecDepth 100000 in
set_option maxHeartbeats 4000000 in
theorem toDisk_l (a : Dk) (cs : List Value) (hl : szDk a ≤ 1048576) (w : World) (hr : tyDk.rd w cs a) : Rets Tryz.prog [] 36 #[.agg cs.toArray] w (tAgg tyDk a) := by
  obtain ⟨A1, n1, k1, rfl, h1⟩ := Dk_form hr
  clear hr
  obtain ⟨a1, a2⟩ := a
  simp only at h1
  have hl0 : szRgl a1 ≤ 1048576 := hl
  have hl1 : szRgl a1 ≤ 1048576 := by omega
  show Rets Tryz.prog [] _ #[.agg #[.slice A1 n1 k1, .int .i64 a2]] w _
  have c1 := fun w1 hb => toRegionS_l _ a1 (by unfold szRgl at hl1; omega) w1 (Ty.below _ h1 hb)
  clear hl hl0 hl1 h1
  have H := Hs.start noRow w
  refine Rets.of ?_
  go_enter Tryz.func36, Tryz.ntmps36
  go_wp2_with (first | ((((with_reducible apply st_load1 H); decide +kernel; rfl; exact cF)); clear H; intro wn H; (try simp only [splice, yG, yH, yI, yJ, yK, yL, yM, yN, yO, yP, yQ, Nat.reduceAdd, yA, yB, yC] at H); simp only [Act.put, yA, yB, yC, yD, yE, yF]) | ((first | ((with_reducible apply st_box (dst := some 1) H); exact nF; intro b1) | ((with_reducible apply st_alloc (dst := some 2) H); exact nF; intro b2) | ((with_reducible apply st_alloc (dst := some 3) H); exact nF; intro b3)); clear H; intro wn H; simp only [Act.put, yA, yB, yC, yD, yE, yF]))
  refine (Rets.use (c1 _ H.below)).mono ?_; rintro e wn ⟨_, _, rfl, ⟨N1, hN1, rfl, o1⟩, hkk⟩; have Hn := H.moreK (by intro k hk; first | exact absurd hk List.not_mem_nil | (obtain rfl := List.mem_singleton.1 hk; exact In.mem iF)) hkk; clear hkk; clear H; have H := Hn; clear Hn; (try simp only [yT, yV] at H)
  have hA1 := own_single hN1 o1 rfl
  clear hN1 o1
  obtain ⟨B1, j1, rfl, _, _⟩ := sl_form (own_rd H .here hA1)
  have HA1 := Lib.hid hA1
  clear hA1 c1
  go_wp2_with (((first | ((with_reducible apply st_load1 H); decide +kernel; rfl; exact cF) | ((with_reducible apply st_loads H); decide +kernel; rfl; exact iF; exact zF; rfl) | ((with_reducible apply st_store H); rfl; exact eF; (focus (exact cells_agg _)); exact uF; kernel_rfl; (focus (exact Nat.le_of_ble_eq_true (by rfl))); (focus (rfl)))); clear H; intro wn H; (try simp only [splice, yG, yH, yI, yJ, yK, yL, yM, yN, yO, yP, yQ, Nat.reduceAdd, yA, yB, yC] at H); simp only [Act.put, yA, yB, yC, yD, yE, yF]))
  refine bp_cell H rfl rfl iF (by kernel_rfl) (by kernel_rfl) rfl (by first | exact .inl rfl | exact .inr rfl) ?_
  have H2 : Hs noRow w ([N1].map Hl.all ++ []) _ := H.sel (M := [Hl.all N1]) sF
  have H3 := Hs.joinL _ H2
  exact Hs.retd H3 (List.Sublist.refl _) ⟨[_, _], _, rfl, ⟨[_], [_], _, _, rfl, rfl, HA1.out, ⟨rfl, rfl⟩⟩, rfl⟩
set_option maxRecDepth 100000 in
set_option maxHeartbeats 4000000 in
theorem eqDisk_l (a : Dk) (cs ds : List Value) (w : World) (ha : tyDk.rd w cs a) (hb : tyDk.rd w ds a) : Gives Tryz.prog 40 #[.agg cs.toArray, .agg ds.toArray] w (.bool true) := by
  obtain ⟨A1, n1, k1, rfl, h1⟩ := Dk_form ha
  obtain ⟨eA1, en1, ek1, rfl, g1⟩ := Dk_form hb
  clear ha hb
  obtain ⟨a1, a2⟩ := a
  simp only at h1 g1
  show Gives Tryz.prog _ #[.agg #[.slice A1 n1 k1, .int .i64 a2], .agg #[.slice eA1 en1 ek1, .int .i64 a2]] w _
  have c1 := fun w1 hb => eqRegionS_l _ _ a1 w1 (Ty.below _ h1 hb) (Ty.below _ g1 hb)
  clear h1 g1
  have H := Hs.start noRow w
  unfold Gives
  go_enter Tryz.func40, Tryz.ntmps40
  go_wp2_with (first | ((((with_reducible apply st_load1 H); decide +kernel; rfl; exact cF)); clear H; intro wn H; (try simp only [splice, yG, yH, yI, yJ, yK, yL, yM, yN, yO, yP, yQ, Nat.reduceAdd, yA, yB, yC] at H); simp only [Act.put, yA, yB, yC, yD, yE, yF]) | ((first | ((with_reducible apply st_box (dst := some 2) H); exact nF; intro b2) | ((with_reducible apply st_box (dst := some 3) H); exact nF; intro b3)); clear H; intro wn H; simp only [Act.put, yA, yB, yC, yD, yE, yF]) | (((go_at_call 93; refine gvF (c1 _ H.below) H ?_)); clear H; intro wn H))
  go_ret
  exact ⟨rfl, H.below⟩
set_option maxRecDepth 100000 in
set_option maxHeartbeats 4000000 in
theorem szDisk_l (a : Dk) (cs : List Value) (k : Int) (hk : 0 ≤ k ∧ k ≤ 1048576) (ho : okDk a) (w : World) (ha : tyDk.rd w cs a) : Gives Tryz.prog 32 #[.agg cs.toArray, .int .i64 k] w (.int .i64 (szC k (szDk a))) := by
  obtain ⟨A1, n1, k1, rfl, h1⟩ := Dk_form ha
  clear ha
  unfold okDk at ho
  obtain ⟨a1, a2⟩ := a
  simp only at h1 ho
  show Gives Tryz.prog _ #[.agg #[.slice A1 n1 k1, .int .i64 a2], _] w (.int .i64 (szC k (szRgl a1)))
  have d1 := fun k hk w1 hb => szRegionS_l _ a1 k hk (ho) w1 (Ty.below _ h1 hb)
  clear h1 ho
  generalize szRgl a1 = m1 at *
  have H := Hs.start noRow w
  unfold Gives
  have c1 := d1 (k) ⟨by omega, by omega⟩
  clear d1
  by_cases hn1 : k - m1 < 0
  · rw [szC_neg hn1] at c1
    rw [szC_neg (by omega)]
    go_enter Tryz.func32, Tryz.ntmps32
    go_wp2_with (first | ((((with_reducible apply st_load1 H); decide +kernel; rfl; exact cF)); clear H; intro wn H; (try simp only [splice, yG, yH, yI, yJ, yK, yL, yM, yN, yO, yP, yQ, Nat.reduceAdd, yA, yB, yC] at H); simp only [Act.put, yA, yB, yC, yD, yE, yF]) | ((((with_reducible apply st_box (dst := some 2) H); exact nF; intro b2)); clear H; intro wn H; simp only [Act.put, yA, yB, yC, yD, yE, yF]) | (((go_at_call 88; refine gvF (c1 _ H.below) H ?_)); clear H; intro wn H))
    go_ret
    exact ⟨rfl, H.below⟩
  rw [szC_pos hn1] at c1
  rw [szC_pos (by omega), show k - ((m1 : Nat) : Int) = k - m1 by omega]
  go_enter Tryz.func32, Tryz.ntmps32
  go_wp2_with (first | ((((with_reducible apply st_load1 H); decide +kernel; rfl; exact cF)); clear H; intro wn H; (try simp only [splice, yG, yH, yI, yJ, yK, yL, yM, yN, yO, yP, yQ, Nat.reduceAdd, yA, yB, yC] at H); simp only [Act.put, yA, yB, yC, yD, yE, yF]) | ((((with_reducible apply st_box (dst := some 2) H); exact nF; intro b2)); clear H; intro wn H; simp only [Act.put, yA, yB, yC, yD, yE, yF]) | (((go_at_call 88; refine gvF (c1 _ H.below) H ?_)); clear H; intro wn H))
  go_ret
  exact ⟨rfl, H.below⟩
def tyHo : Ty Ho := Ty.pair tySt (Ty.pair tyDk (tyNum))
theorem Ho_form {w : World} {cs : List Value} {a : Ho} (h : tyHo.rd w cs a) : ∃ A1 n1 k1 A2 n2 k2 A3 n3 k3 A4 n4 k4 A5 n5 k5 A6 n6 k6 A7 n7 k7 A8 n8 k8, cs = [.slice A1 n1 k1, .slice A2 n2 k2, .slice A3 n3 k3, .int .i64 a.1.1.1.2.2.2, .slice A4 n4 k4, .slice A5 n5 k5, .slice A6 n6 k6, .int .i64 a.1.1.2.2.2.2, .slice A7 n7 k7, .slice A8 n8 k8, .int .i64 a.2.1.2, .int .i64 a.2.2] ∧ tySt.rd w [.slice A1 n1 k1, .slice A2 n2 k2, .slice A3 n3 k3, .int .i64 a.1.1.1.2.2.2, .slice A4 n4 k4, .slice A5 n5 k5, .slice A6 n6 k6, .int .i64 a.1.1.2.2.2.2, .slice A7 n7 k7] a.1 ∧ tyDk.rd w [.slice A8 n8 k8, .int .i64 a.2.1.2] a.2.1 := by
  obtain ⟨x1, y1, rfl, h1, x2, y2, rfl, h2, h3⟩ := h
  obtain ⟨A1, n1, k1, A2, n2, k2, A3, n3, k3, A4, n4, k4, A5, n5, k5, A6, n6, k6, A7, n7, k7, rfl⟩ := St_lit h1
  obtain ⟨A8, n8, k8, rfl⟩ := Dk_lit h2
  obtain rfl : y2 = encNum a.2.2 := h3
  exact ⟨A1, n1, k1, A2, n2, k2, A3, n3, k3, A4, n4, k4, A5, n5, k5, A6, n6, k6, A7, n7, k7, A8, n8, k8, rfl, h1, h2⟩
theorem Ho_lit {w : World} {cs : List Value} {a : Ho} (h : tyHo.rd w cs a) : ∃ A1 n1 k1 A2 n2 k2 A3 n3 k3 A4 n4 k4 A5 n5 k5 A6 n6 k6 A7 n7 k7 A8 n8 k8, cs = [.slice A1 n1 k1, .slice A2 n2 k2, .slice A3 n3 k3, .int .i64 a.1.1.1.2.2.2, .slice A4 n4 k4, .slice A5 n5 k5, .slice A6 n6 k6, .int .i64 a.1.1.2.2.2.2, .slice A7 n7 k7, .slice A8 n8 k8, .int .i64 a.2.1.2, .int .i64 a.2.2] := by
  obtain ⟨A1, n1, k1, A2, n2, k2, A3, n3, k3, A4, n4, k4, A5, n5, k5, A6, n6, k6, A7, n7, k7, A8, n8, k8, e, _⟩ := Ho_form h
  exact ⟨A1, n1, k1, A2, n2, k2, A3, n3, k3, A4, n4, k4, A5, n5, k5, A6, n6, k6, A7, n7, k7, A8, n8, k8, e⟩
set_option maxRecDepth 100000 in
set_option maxHeartbeats 4000000 in
theorem toHouse_l (a : Ho) (cs : List Value) (hl : szHo a ≤ 1048576) (w : World) (hr : tyHo.rd w cs a) : Rets Tryz.prog [] 13 #[.agg cs.toArray] w (tAgg tyHo a) := by
  obtain ⟨A1, n1, k1, A2, n2, k2, A3, n3, k3, A4, n4, k4, A5, n5, k5, A6, n6, k6, A7, n7, k7, A8, n8, k8, rfl, h1, h2⟩ := Ho_form hr
  clear hr
  obtain ⟨a1, a2, a3⟩ := a
  simp only at h1 h2
  have hl0 : szSt a1 + (szDk a2) ≤ 1048576 := hl
  have hl1 : szSt a1 ≤ 1048576 := by omega
  have hl2 : szDk a2 ≤ 1048576 := by omega
  show Rets Tryz.prog [] _ #[.agg #[.slice A1 n1 k1, .slice A2 n2 k2, .slice A3 n3 k3, .int .i64 a1.1.1.2.2.2, .slice A4 n4 k4, .slice A5 n5 k5, .slice A6 n6 k6, .int .i64 a1.1.2.2.2.2, .slice A7 n7 k7, .slice A8 n8 k8, .int .i64 a2.2, .int .i64 a3]] w _
  have c1 := fun w1 hb => toState_l a1 _ hl1 w1 (Ty.below _ h1 hb)
  have c2 := fun w1 hb => toDisk_l a2 _ hl2 w1 (Ty.below _ h2 hb)
  clear hl hl0 hl1 hl2 h1 h2
  have H := Hs.start noRow w
  refine Rets.of ?_
  go_enter Tryz.func13, Tryz.ntmps13
  go_wp2_with (first | ((((with_reducible apply st_loads H); decide +kernel; rfl; exact iF; exact zF; rfl)); clear H; intro wn H; (try simp only [splice, yG, yH, yI, yJ, yK, yL, yM, yN, yO, yP, yQ, Nat.reduceAdd, yA, yB, yC] at H); simp only [Act.put, yA, yB, yC, yD, yE, yF]) | ((first | ((with_reducible apply st_box (dst := some 1) H); exact nF; intro b1) | ((with_reducible apply st_alloc (dst := some 2) H); exact nF; intro b2) | ((with_reducible apply st_alloc (dst := some 3) H); exact nF; intro b3)); clear H; intro wn H; simp only [Act.put, yA, yB, yC, yD, yE, yF]))
  refine (Rets.use (c1 _ H.below)).mono ?_; rintro e wn ⟨_, _, rfl, ⟨d1, N1, rfl, hA1, rfl⟩, hkk⟩; have Hn := H.moreK (by intro k hk; first | exact absurd hk List.not_mem_nil | (obtain rfl := List.mem_singleton.1 hk; exact In.mem iF)) hkk; clear hkk; clear H; have H := Hn; clear Hn; (try simp only [yT, yV] at H)
  obtain ⟨B1_1, m1_1, j1_1, B1_2, m1_2, j1_2, B1_3, m1_3, j1_3, B1_4, m1_4, j1_4, B1_5, m1_5, j1_5, B1_6, m1_6, j1_6, B1_7, m1_7, j1_7, rfl⟩ := St_lit (own_rd H .here hA1)
  have HA1 := Lib.hid hA1
  clear hA1 c1
  go_wp2_with (((first | ((with_reducible apply st_loads H); decide +kernel; rfl; exact iF; exact zF; rfl) | ((with_reducible apply st_store H); rfl; exact eF; (focus (exact cells_agg _)); exact uF; kernel_rfl; (focus (exact Nat.le_of_ble_eq_true (by rfl))); (focus (rfl)))); clear H; intro wn H; (try simp only [splice, yG, yH, yI, yJ, yK, yL, yM, yN, yO, yP, yQ, Nat.reduceAdd, yA, yB, yC] at H); simp only [Act.put, yA, yB, yC, yD, yE, yF]))
  refine (Rets.use (c2 _ H.below)).mono ?_; rintro e wn ⟨_, _, rfl, ⟨d2, N2, rfl, hA2, rfl⟩, hkk⟩; have Hn := H.moreK (by intro k hk; first | exact absurd hk List.not_mem_nil | (obtain rfl := List.mem_singleton.1 hk; exact In.mem iF)) hkk; clear hkk; clear H; have H := Hn; clear Hn; (try simp only [yT, yV] at H)
  obtain ⟨B2_8, m2_8, j2_8, rfl⟩ := Dk_lit (own_rd H .here hA2)
  have HA2 := Lib.hid hA2
  clear hA2 c2
  go_wp2_with (((first | ((with_reducible apply st_load1 H); decide +kernel; rfl; exact cF) | ((with_reducible apply st_loads H); decide +kernel; rfl; exact iF; exact zF; rfl) | ((with_reducible apply st_store H); rfl; exact eF; (focus (exact cells_agg _)); exact uF; kernel_rfl; (focus (exact Nat.le_of_ble_eq_true (by rfl))); (focus (rfl)))); clear H; intro wn H; (try simp only [splice, yG, yH, yI, yJ, yK, yL, yM, yN, yO, yP, yQ, Nat.reduceAdd, yA, yB, yC] at H); simp only [Act.put, yA, yB, yC, yD, yE, yF]))
  refine bp_cell H rfl rfl iF (by kernel_rfl) (by kernel_rfl) rfl (by first | exact .inl rfl | exact .inr rfl) ?_
  have H2 : Hs noRow w ([N1, N2].map Hl.all ++ []) _ := H.sel (M := [Hl.all N1, Hl.all N2]) sF
  have H3 := Hs.joinL _ H2
  exact Hs.retd H3 (List.Sublist.refl _) ⟨[_, _, _, _, _, _, _, _, _, _, _, _], _, rfl, ⟨[_, _, _, _, _, _, _, _, _], [_, _, _], _, _, rfl, rfl, HA1.out, [_, _], [_], _, _, rfl, rfl, HA2.out, ⟨rfl, rfl⟩⟩, rfl⟩
set_option maxRecDepth 100000 in
set_option maxHeartbeats 4000000 in
theorem eqHouse_l (a : Ho) (cs ds : List Value) (w : World) (ha : tyHo.rd w cs a) (hb : tyHo.rd w ds a) : Gives Tryz.prog 15 #[.agg cs.toArray, .agg ds.toArray] w (.bool true) := by
  obtain ⟨A1, n1, k1, A2, n2, k2, A3, n3, k3, A4, n4, k4, A5, n5, k5, A6, n6, k6, A7, n7, k7, A8, n8, k8, rfl, h1, h2⟩ := Ho_form ha
  obtain ⟨eA1, en1, ek1, eA2, en2, ek2, eA3, en3, ek3, eA4, en4, ek4, eA5, en5, ek5, eA6, en6, ek6, eA7, en7, ek7, eA8, en8, ek8, rfl, g1, g2⟩ := Ho_form hb
  clear ha hb
  obtain ⟨a1, a2, a3⟩ := a
  simp only at h1 h2 g1 g2
  show Gives Tryz.prog _ #[.agg #[.slice A1 n1 k1, .slice A2 n2 k2, .slice A3 n3 k3, .int .i64 a1.1.1.2.2.2, .slice A4 n4 k4, .slice A5 n5 k5, .slice A6 n6 k6, .int .i64 a1.1.2.2.2.2, .slice A7 n7 k7, .slice A8 n8 k8, .int .i64 a2.2, .int .i64 a3], .agg #[.slice eA1 en1 ek1, .slice eA2 en2 ek2, .slice eA3 en3 ek3, .int .i64 a1.1.1.2.2.2, .slice eA4 en4 ek4, .slice eA5 en5 ek5, .slice eA6 en6 ek6, .int .i64 a1.1.2.2.2.2, .slice eA7 en7 ek7, .slice eA8 en8 ek8, .int .i64 a2.2, .int .i64 a3]] w _
  have c1 := fun w1 hb => eqState_l a1 _ _ w1 (Ty.below _ h1 hb) (Ty.below _ g1 hb)
  have c2 := fun w1 hb => eqDisk_l a2 _ _ w1 (Ty.below _ h2 hb) (Ty.below _ g2 hb)
  clear h1 h2 g1 g2
  have H := Hs.start noRow w
  unfold Gives
  go_enter Tryz.func15, Tryz.ntmps15
  go_wp2_with (first | ((first | ((with_reducible apply st_load1 H); decide +kernel; rfl; exact cF) | ((with_reducible apply st_loads H); decide +kernel; rfl; exact iF; exact zF; rfl)); clear H; intro wn H; (try simp only [splice, yG, yH, yI, yJ, yK, yL, yM, yN, yO, yP, yQ, Nat.reduceAdd, yA, yB, yC] at H); simp only [Act.put, yA, yB, yC, yD, yE, yF]) | ((first | ((with_reducible apply st_box (dst := some 2) H); exact nF; intro b2) | ((with_reducible apply st_box (dst := some 3) H); exact nF; intro b3)); clear H; intro wn H; simp only [Act.put, yA, yB, yC, yD, yE, yF]) | ((first | (go_at_call 10; refine gvF (c1 _ H.below) H ?_) | (go_at_call 40; refine gvF (c2 _ H.below) H ?_)); clear H; intro wn H))
  go_ret
  exact ⟨rfl, H.below⟩
set_option maxRecDepth 100000 in
set_option maxHeartbeats 4000000 in
theorem szHouse_l (a : Ho) (cs : List Value) (k : Int) (hk : 0 ≤ k ∧ k ≤ 1048576) (ho : okHo a) (w : World) (ha : tyHo.rd w cs a) : Gives Tryz.prog 11 #[.agg cs.toArray, .int .i64 k] w (.int .i64 (szC k (szHo a))) := by
  obtain ⟨A1, n1, k1, A2, n2, k2, A3, n3, k3, A4, n4, k4, A5, n5, k5, A6, n6, k6, A7, n7, k7, A8, n8, k8, rfl, h1, h2⟩ := Ho_form ha
  clear ha
  unfold okHo at ho
  obtain ⟨a1, a2, a3⟩ := a
  simp only at h1 h2 ho
  show Gives Tryz.prog _ #[.agg #[.slice A1 n1 k1, .slice A2 n2 k2, .slice A3 n3 k3, .int .i64 a1.1.1.2.2.2, .slice A4 n4 k4, .slice A5 n5 k5, .slice A6 n6 k6, .int .i64 a1.1.2.2.2.2, .slice A7 n7 k7, .slice A8 n8 k8, .int .i64 a2.2, .int .i64 a3], _] w (.int .i64 (szC k (szSt a1 + (szDk a2))))
  have d1 := fun k hk w1 hb => szState_l a1 _ k hk (ho.1) w1 (Ty.below _ h1 hb)
  have d2 := fun k hk w1 hb => szDisk_l a2 _ k hk (ho.2) w1 (Ty.below _ h2 hb)
  clear h1 h2 ho
  generalize szSt a1 = m1 at *
  generalize szDk a2 = m2 at *
  have H := Hs.start noRow w
  unfold Gives
  have c1 := d1 (k) ⟨by omega, by omega⟩
  clear d1
  by_cases hn1 : k - m1 < 0
  · rw [szC_neg hn1] at c1
    rw [szC_neg (by omega)]
    go_enter Tryz.func11, Tryz.ntmps11
    go_wp2_with (first | ((((with_reducible apply st_loads H); decide +kernel; rfl; exact iF; exact zF; rfl)); clear H; intro wn H; (try simp only [splice, yG, yH, yI, yJ, yK, yL, yM, yN, yO, yP, yQ, Nat.reduceAdd, yA, yB, yC] at H); simp only [Act.put, yA, yB, yC, yD, yE, yF]) | ((((with_reducible apply st_box (dst := some 2) H); exact nF; intro b2)); clear H; intro wn H; simp only [Act.put, yA, yB, yC, yD, yE, yF]) | (((go_at_call 6; refine gvF (c1 _ H.below) H ?_)); clear H; intro wn H))
    go_ret
    exact ⟨rfl, H.below⟩
  rw [szC_pos hn1] at c1
  have c2 := d2 (k - m1) ⟨by omega, by omega⟩
  clear d2
  by_cases hn2 : k - m1 - m2 < 0
  · rw [szC_neg hn2] at c2
    rw [szC_neg (by omega)]
    go_enter Tryz.func11, Tryz.ntmps11
    go_wp2_with (first | ((((with_reducible apply st_loads H); decide +kernel; rfl; exact iF; exact zF; rfl)); clear H; intro wn H; (try simp only [splice, yG, yH, yI, yJ, yK, yL, yM, yN, yO, yP, yQ, Nat.reduceAdd, yA, yB, yC] at H); simp only [Act.put, yA, yB, yC, yD, yE, yF]) | ((((with_reducible apply st_box (dst := some 2) H); exact nF; intro b2)); clear H; intro wn H; simp only [Act.put, yA, yB, yC, yD, yE, yF]) | ((first | (go_at_call 6; refine gvF (c1 _ H.below) H ?_) | (go_at_call 32; refine gvF (c2 _ H.below) H ?_)); clear H; intro wn H))
    go_ret
    exact ⟨rfl, H.below⟩
  rw [szC_pos hn2] at c2
  rw [szC_pos (by omega), show k - ((m1 + (m2) : Nat) : Int) = k - m1 - m2 by omega]
  go_enter Tryz.func11, Tryz.ntmps11
  go_wp2_with (first | ((((with_reducible apply st_loads H); decide +kernel; rfl; exact iF; exact zF; rfl)); clear H; intro wn H; (try simp only [splice, yG, yH, yI, yJ, yK, yL, yM, yN, yO, yP, yQ, Nat.reduceAdd, yA, yB, yC] at H); simp only [Act.put, yA, yB, yC, yD, yE, yF]) | ((((with_reducible apply st_box (dst := some 2) H); exact nF; intro b2)); clear H; intro wn H; simp only [Act.put, yA, yB, yC, yD, yE, yF]) | ((first | (go_at_call 6; refine gvF (c1 _ H.below) H ?_) | (go_at_call 32; refine gvF (c2 _ H.below) H ?_)); clear H; intro wn H))
  go_ret
  exact ⟨rfl, H.below⟩
def tyHO : Ty HO := Ty.pair tyHo (tySI)
theorem HO_form {w : World} {cs : List Value} {a : HO} (h : tyHO.rd w cs a) : ∃ A1 n1 k1 A2 n2 k2 A3 n3 k3 A4 n4 k4 A5 n5 k5 A6 n6 k6 A7 n7 k7 A8 n8 k8, cs = [.slice A1 n1 k1, .slice A2 n2 k2, .slice A3 n3 k3, .int .i64 a.1.1.1.1.2.2.2, .slice A4 n4 k4, .slice A5 n5 k5, .slice A6 n6 k6, .int .i64 a.1.1.1.2.2.2.2, .slice A7 n7 k7, .slice A8 n8 k8, .int .i64 a.1.2.1.2, .int .i64 a.1.2.2, .string a.2.1, .int .i64 a.2.2] ∧ tyHo.rd w [.slice A1 n1 k1, .slice A2 n2 k2, .slice A3 n3 k3, .int .i64 a.1.1.1.1.2.2.2, .slice A4 n4 k4, .slice A5 n5 k5, .slice A6 n6 k6, .int .i64 a.1.1.1.2.2.2.2, .slice A7 n7 k7, .slice A8 n8 k8, .int .i64 a.1.2.1.2, .int .i64 a.1.2.2] a.1 := by
  obtain ⟨x1, y1, rfl, h1, h2⟩ := h
  obtain ⟨A1, n1, k1, A2, n2, k2, A3, n3, k3, A4, n4, k4, A5, n5, k5, A6, n6, k6, A7, n7, k7, A8, n8, k8, rfl⟩ := Ho_lit h1
  obtain rfl : y1 = encSI a.2 := h2
  exact ⟨A1, n1, k1, A2, n2, k2, A3, n3, k3, A4, n4, k4, A5, n5, k5, A6, n6, k6, A7, n7, k7, A8, n8, k8, rfl, h1⟩
theorem HO_lit {w : World} {cs : List Value} {a : HO} (h : tyHO.rd w cs a) : ∃ A1 n1 k1 A2 n2 k2 A3 n3 k3 A4 n4 k4 A5 n5 k5 A6 n6 k6 A7 n7 k7 A8 n8 k8, cs = [.slice A1 n1 k1, .slice A2 n2 k2, .slice A3 n3 k3, .int .i64 a.1.1.1.1.2.2.2, .slice A4 n4 k4, .slice A5 n5 k5, .slice A6 n6 k6, .int .i64 a.1.1.1.2.2.2.2, .slice A7 n7 k7, .slice A8 n8 k8, .int .i64 a.1.2.1.2, .int .i64 a.1.2.2, .string a.2.1, .int .i64 a.2.2] := by
  obtain ⟨A1, n1, k1, A2, n2, k2, A3, n3, k3, A4, n4, k4, A5, n5, k5, A6, n6, k6, A7, n7, k7, A8, n8, k8, e, _⟩ := HO_form h
  exact ⟨A1, n1, k1, A2, n2, k2, A3, n3, k3, A4, n4, k4, A5, n5, k5, A6, n6, k6, A7, n7, k7, A8, n8, k8, e⟩
end Dz
end Go.Proofs.YtcaeemhkeoajbaaGreat
