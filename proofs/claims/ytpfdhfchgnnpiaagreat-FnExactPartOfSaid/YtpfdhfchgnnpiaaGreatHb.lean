/-
  Rows of rows of labels, configurations: what the statements do with them: the walks.
-/
import Derived.Test.YtpfdhfchgnnpiaaGreatCg
set_option linter.unusedSimpArgs false
set_option linter.unusedVariables false
namespace Go.Proofs.YtpfdhfchgnnpiaaGreat
open Go.RowKit M
namespace M
/-- how many elements in all -/
def total {α : Type} (l : List (List α)) : Nat := l.length + l.flatten.length
theorem total_at {α : Type} {l : List (List α)} {i : Nat} {x : List α} (h : l[i]? = some x) : (l.take i).flatten.length + x.length ≤ l.flatten.length := by
  have h1 := flatten_take_le l (i + 1)
  rw [flatten_take h, List.length_append] at h1
  exact h1
end M
section
variable {R : Nat → Prop} {w0 w : World} {L A B C : List Hl}
theorem Hs.off {a b : Hl} (H : Hs R w0 (a :: b :: L) w) : Hs R w0 (a :: L) w := H.sub (List.Sublist.cons_cons _ (List.sublist_cons_self _ _))
theorem Hs.join3 (H : Hs R w0 (Hl.all A :: Hl.all B :: Hl.all C :: L) w) : Hs R w0 (Hl.all (A ++ (B ++ C)) :: L) w := by
  have h1 : Hs R w0 (Hl.all B :: Hl.all C :: Hl.all A :: L) w := H.reperm ((List.Perm.swap ..).trans (List.Perm.cons _ (List.Perm.swap ..)))
  exact (h1.join.reperm (List.Perm.swap ..)).join
/-- a struct's result: data in memory of their own -/
def tAgg {α : Type} (T : Ty α) (a : α) : Value → List Hl → Prop := fun v M => ∃ cs N, v = .agg cs.toArray ∧ T.own cs a N ∧ M = [Hl.all N]
end
theorem RdL.cast {α : Type} {T U : Ty α} {w : World} (h : ∀ cs a, T.rd w cs a → U.rd w cs a) {xs : List Value} {l : List α} (hl : RdL T w xs l) : RdL U w xs l := by
  induction hl with
  | nil => exact .nil
  | cons h1 _ ih => exact .cons (h _ _ h1) ih
theorem sl_cast {α : Type} {T U : Ty α} {E F : TypeId} {w : World} {cs : List Value} {l : List α} (hs : T.s = U.s) (h : ∀ cs a, T.rd w cs a → U.rd w cs a) (hr : (Ty.sl E T).rd w cs l) : (Ty.sl F U).rd w cs l := by
  obtain ⟨v, xs, e, h1, h2⟩ := hr
  exact ⟨v, xs, e, by rw [← hs]; exact h1, h2.cast h⟩
set_option maxRecDepth 100000 in
set_option maxHeartbeats 4000000 in
theorem toLabelSS_l (v : Value) (l : List (List Lab)) (hl : total l ≤ 1048576) (w : World) (hr : (Ty.sl 0 (Ty.sl 0 tyLab)).rd w [v] l) : Rets Tryz.prog [] 75 #[v] w (tOwn (Ty.sl 60 (Ty.sl 66 tyLab)) l) := by
  obtain ⟨A, c, rfl, hlc, hcm⟩ := sl_form hr
  have HR := Lib.hid hr
  have HL := Lib.hid hl
  have H := Hs.start noRow w
  obtain ⟨n, hn⟩ : ∃ n, n = l.length := ⟨_, rfl⟩
  have hnl : n ≤ 1048576 := by unfold total at hl; omega
  rw [← hn] at HR ⊢
  have HN := Lib.hid hn
  clear hr hn hl hcm hlc
  refine Rets.of ?_
  go_enter Tryz.func75, Tryz.ntmps75
  go_wp2_with (((with_reducible apply st_makerow (E := 60) (s := 1) H); rfl; rfl; decide +kernel; (focus omega); clear H; intro g zs wn hz0 hz1 H; simp only [Act.put, yA, yB, yC, yD, yE, yF]))
  go_loopg [4] n (fun m iv wr => ∃ (i : Nat) (pre zs : List Value) (N : List Hl), i + m = n ∧ iv = .int .i64 i ∧ Hid (OwnL (Ty.sl 66 tyLab) pre (l.take i) N ∧ zs.length = (n - i) * 1) ∧ Hs noRow w [Hl.row 60 1 (.slice (some ⟨g, 0, none⟩) n n) n (pre ++ zs), Hl.all N] wr)
  case atStart => exact ⟨0, [], zs, [], by omega, rfl, Lib.hid ⟨.nil, hz0⟩, by rw [List.nil_append]; exact H.allNil.sel sF⟩
  case round =>
    clear H
    obtain ⟨i, pre, zs, N, hi, rfl, HO, H⟩ := hrel
    by_cases hlt : i < n
    · obtain ⟨x, hx⟩ : ∃ x, l[i]? = some x := ⟨l[i]'(by rw [← HN.out]; exact hlt), List.getElem?_eq_getElem (by rw [← HN.out]; exact hlt)⟩
      have hs := sl_at (by have := HR.out; rw [HN.out] at this; exact this) hx
      rw [← HN.out] at hs
      obtain ⟨b, off, c', cs, hv, hcs, hA⟩ := hs
      injection hv with hv1 hv2 hv3
      subst hv1 hv3
      obtain ⟨u, hu⟩ : ∃ u, cs = [u] := by obtain ⟨u, _, rfl, _⟩ := hcs; exact ⟨u, rfl⟩
      subst hu
      have h0 : w.cell? ⟨b, off + i, none⟩ = some u := by have h := hA.head (u := u) rfl; rw [show i * Ty.s _ = i from Nat.mul_one i] at h; exact h
      have hxl : x.length ≤ 1048576 := by have h1 := total_at hx; have h2 := HL.out; unfold total at h2; omega
      have hC := fun w1 hb => toLabelS_l u x hxl w1 (Ty.below _ hcs hb)
      have hfit : i + 1 ≤ (pre ++ zs).length := by
        have h1 := HO.out.1.len
        have h2 := HO.out.2
        rw [List.length_append, h1, h2, List.length_take, Nat.min_eq_left (by rw [← HN.out]; omega)]
        show i + 1 ≤ i * 1 + (n - i) * 1
        omega
      have hlt1 : (i : Int) < n := by omega
      clear hv2 hA hcs
      go_wp2_with (((((with_reducible apply st_load1 H); decide +kernel; rfl; exact cF)); clear H; intro wn H; (try simp only [splice, yG, yH, yI, yJ, yK, yL, yM, yN, yO, yP, yQ, Nat.reduceAdd, yA, yB, yC] at H); simp only [Act.put, yA, yB, yC, yD, yE, yF]))
      refine (Rets.use (hC _ H.below)).mono ?_; rintro e wn ⟨_, _, rfl, ⟨N4, hN, rfl, hone⟩, hkk⟩; have Hn := H.moreK (by intro k hk; first | exact absurd hk List.not_mem_nil | (obtain rfl := List.mem_singleton.1 hk; exact In.mem iF)) hkk; clear hkk; clear H; have H := Hn; clear Hn; (try simp only [yT, yV] at H)
      have hN2 := own_single hN hone rfl
      obtain ⟨A4, c4, rfl, hl4, hc4⟩ := sl_form (own_rd H .here hN2)
      clear hN hone
      obtain ⟨p', z', hp, hsp, hz'⟩ := own_step (m := n - (i + 1)) HO.out.1 hx (by rw [HO.out.2]; show (n - i) * 1 = (n - (i + 1) + 1) * 1; congr 1; omega) hN2
      have HS : Hid (spl (pre ++ zs) (i) [.slice A4 x.length c4] = p' ++ z') := Lib.hid (by have h := hsp; rw [show i * Ty.s _ = i from Nat.mul_one i] at h; exact h)
      have HO2 := Lib.hid (And.intro hp hz')
      clear hsp hp hz' hx HO hN2
      go_wp2_with (((((with_reducible apply st_storerow H); rfl; exact eF; (exact cells_agg _); exact uF; kernel_rfl; exact Nat.succ_pos _; exact fitF; rfl)); clear H; intro wn H; simp only [Act.put, yA, yB, yC, yD, yE, yF]))
      go_roundg (n - (i + 1))
      case measure => omega
      case rel => exact ⟨i + 1, p', z', _, by omega, by go_num, HO2, by rw [← HS.out]; exact (Hs.join (H.sel (M := [Hl.all N, Hl.all N4, Hl.row 60 1 (.slice (some ⟨g, 0, none⟩) n n) n _]) sF)).reperm (List.Perm.swap ..)⟩
    · obtain rfl : i = n := by omega
      have hlt1 : ¬ (i : Int) < i := by omega
      go_wp2_with (fail)
      go_ret
      exact ret_sl H HO.out.1 (List.take_of_length_le (by rw [← HN.out]; exact Nat.le_refl _)) (by rw [HO.out.2, Nat.sub_self, Nat.zero_mul]) HN.out
set_option maxRecDepth 100000 in
set_option maxHeartbeats 4000000 in
theorem eqLabelSS_l (va vb : Value) (l : List (List Lab)) (w : World) (ha : (Ty.sl 60 (Ty.sl 66 tyLab)).rd w [va] l) (hb : (Ty.sl 60 (Ty.sl 66 tyLab)).rd w [vb] l) : Gives Tryz.prog 104 #[va, vb] w (.bool true) := by
  obtain ⟨A, c, rfl, hlc, hcm⟩ := sl_form ha
  obtain ⟨B, d, rfl, _, _⟩ := sl_form hb
  unfold maxLen at *
  have HA := Lib.hid ha
  have HB := Lib.hid hb
  have H := Hs.start noRow w
  obtain ⟨n, hn⟩ : ∃ n, n = l.length := ⟨_, rfl⟩
  have hnl : n ≤ 9223372036854775807 := by omega
  rw [← hn] at HA HB ⊢
  have HN := Lib.hid hn
  clear ha hb hn hcm hlc
  unfold Gives
  go_enter Tryz.func104, Tryz.ntmps104
  go_wp2_with (fail)
  go_loopg [5] n (fun m iv wr => ∃ (i : Nat), i + m = n ∧ iv = .int .i64 i ∧ Hs noRow w [] wr)
  case atStart => exact ⟨0, by omega, rfl, H⟩
  case round =>
    clear H
    obtain ⟨i, hi, rfl, H⟩ := hrel
    by_cases hlt : i < n
    · obtain ⟨x, hx⟩ : ∃ x, l[i]? = some x := ⟨l[i]'(by rw [← HN.out]; exact hlt), List.getElem?_eq_getElem (by rw [← HN.out]; exact hlt)⟩
      have hs := sl_at (by have := HA.out; rw [HN.out] at this; exact this) hx
      have hs2 := sl_at (by have := HB.out; rw [HN.out] at this; exact this) hx
      rw [← HN.out] at hs hs2
      obtain ⟨b, off, c', cs, hv, hcs, hA⟩ := hs
      injection hv with hv1 hv2 hv3
      subst hv1 hv3
      obtain ⟨b2, off2, c2', cs2, hw, hcs2, hB⟩ := hs2
      injection hw with hw1 hw2 hw3
      subst hw1 hw3
      obtain ⟨u, hu⟩ : ∃ u, cs = [u] := by obtain ⟨u, _, rfl, _⟩ := hcs; exact ⟨u, rfl⟩
      obtain ⟨u2, hu2⟩ : ∃ u, cs2 = [u] := by obtain ⟨u, _, rfl, _⟩ := hcs2; exact ⟨u, rfl⟩
      subst hu hu2
      have h0 : w.cell? ⟨b, off + i, none⟩ = some u := by have h := hA.head (u := u) rfl; rw [show i * Ty.s _ = i from Nat.mul_one i] at h; exact h
      have h1 : w.cell? ⟨b2, off2 + i, none⟩ = some u2 := by have h := hB.head (u := u2) rfl; rw [show i * Ty.s _ = i from Nat.mul_one i] at h; exact h
      have c1 := fun w1 hb => eqLabelS_l u u2 x w1 (Ty.below _ hcs hb) (Ty.below _ hcs2 hb)
      have hlt1 : (i : Int) < n := by omega
      clear hx hv2 hw2 hA hB hcs hcs2
      go_wp2_with (((with_reducible apply wp_region_hq (id := 6) H); kernel_rfl; kernel_rfl; (iterate 8 (all_goals ((with_reducible refine' hq_step ?_ ?_ ?_); rotate_left; rfl; (focus (intro w1 H1; first | (exact qF) | (exact qVF))); (try simp only [yG, yH, yJ, yK]); simp only [Act.put, yA, yB, yC, yD, yE, yF]))); (all_goals ((with_reducible refine' hq_step ?_ ?_ ?_); rotate_left; rfl; (focus (intro w1 H1; unfold QOk; go_simp; exact q_call (c1 _ H1.below))); (try simp only [yG, yH, yJ, yK]); simp only [Act.put, yA, yB, yC, yD, yE, yF])); (iterate 1 (all_goals ((with_reducible refine' hq_step ?_ ?_ ?_); rotate_left; rfl; (focus (intro w1 H1; exact qVF)); (try simp only [yG, yH, yJ, yK]); simp only [Act.put, yA, yB, yC, yD, yE, yF]))); all_goals (refine wpQuiet_nil ?_; clear H; intro wn H)))
      go_roundg (n - (i + 1))
      case measure => omega
      case rel => exact ⟨i + 1, by omega, by go_num, H⟩
    · obtain rfl : i = n := by omega
      have hlt1 : ¬ (i : Int) < i := by omega
      go_wp2_with (fail)
      go_ret
      exact ⟨rfl, H.below⟩
set_option maxRecDepth 100000 in
set_option maxHeartbeats 4000000 in
theorem szLabelSS_l (v : Value) (l : List (List Lab)) (k : Int) (hk : 0 ≤ k ∧ k ≤ 1048576) (w : World) (hr : (Ty.sl 0 (Ty.sl 0 tyLab)).rd w [v] l) : Gives Tryz.prog 58 #[v, .int .i64 k] w (.int .i64 (szC k (total l))) := by
  obtain ⟨A, c, rfl, hlc, hcm⟩ := sl_form hr
  unfold maxLen at *
  have HR := Lib.hid hr
  have H := Hs.start noRow w
  obtain ⟨n, hn⟩ : ∃ n, n = l.length := ⟨_, rfl⟩
  obtain ⟨t, ht⟩ : ∃ t, t = l.flatten.length := ⟨_, rfl⟩
  rw [show total l = n + t by rw [hn, ht]; rfl]
  rw [← hn] at HR ⊢
  have HN := Lib.hid hn
  have HT := Lib.hid ht
  have hnl : n ≤ 9223372036854775807 := by omega
  clear hr hn ht hcm hlc
  unfold Gives
  by_cases h : k - n < 0
  · rw [szC_neg (by omega)]
    go_enter Tryz.func58, Tryz.ntmps58
    go_wp2_with (fail)
    go_ret
    exact ⟨rfl, H.below⟩
  obtain ⟨z, hz⟩ : ∃ z, z = szC k (n + t : Nat) := ⟨_, rfl⟩
  rw [← hz]
  have HZ := Lib.hid hz
  clear hz
  go_enter Tryz.func58, Tryz.ntmps58
  go_wp2_with (fail)
  go_loopg [1, 5] n (fun m kv iv wr => ∃ (i s : Nat), i + m = n ∧ iv = .int .i64 i ∧ kv = .int .i64 (k - n - s) ∧ 0 ≤ k - n - s ∧ Hid (s = (l.take i).flatten.length) ∧ Hs noRow w [] wr)
  case atStart => exact ⟨0, 0, by omega, rfl, by go_num, by omega, Lib.hid rfl, H⟩
  case round =>
    clear H
    obtain ⟨i, s, hi, rfl, rfl, hs0, HI, H⟩ := hrel
    by_cases hlt : i < n
    · obtain ⟨x, hx⟩ : ∃ x, l[i]? = some x := ⟨l[i]'(by rw [← HN.out]; exact hlt), List.getElem?_eq_getElem (by rw [← HN.out]; exact hlt)⟩
      have hs := sl_at (by have := HR.out; rw [HN.out] at this; exact this) hx
      rw [← HN.out] at hs
      obtain ⟨b, off, c', cs, hv, hcs, hA⟩ := hs
      injection hv with hv1 hv2 hv3
      subst hv1 hv3
      obtain ⟨u, hu⟩ : ∃ u, cs = [u] := by obtain ⟨u, _, rfl, _⟩ := hcs; exact ⟨u, rfl⟩
      subst hu
      have h0 : w.cell? ⟨b, off + i, none⟩ = some u := by have h := hA.head (u := u) rfl; rw [show i * Ty.s _ = i from Nat.mul_one i] at h; exact h
      have c1 := fun w1 hb => szLabelS_l u x (k - n - s) ⟨hs0, by omega⟩ w1 (Ty.below _ hcs hb)
      have hle := total_at hx
      rw [← HI.out, ← HT.out] at hle
      have HI2 : Hid (s + x.length = (l.take (i + 1)).flatten.length) := Lib.hid (by rw [flatten_take hx, List.length_append, ← HI.out])
      have hlt1 : (i : Int) < n := by omega
      clear hx hv2 hA hcs
      generalize x.length = xn at *
      by_cases hng : k - n - s - xn < 0
      · rw [szC_neg hng] at c1
        have HZ2 : Hid (z = -1) := Lib.hid (by rw [HZ.out, szC_neg (by omega)])
        go_wp2_with (first | ((((with_reducible apply st_load1 H); decide +kernel; rfl; exact cF)); clear H; intro wn H; (try simp only [splice, yG, yH, yI, yJ, yK, yL, yM, yN, yO, yP, yQ, Nat.reduceAdd, yA, yB, yC] at H); simp only [Act.put, yA, yB, yC, yD, yE, yF]) | (((go_at_call 111; refine gvF (c1 _ H.below) H ?_)); clear H; intro wn H))
        go_ret
        exact ⟨by rw [HZ2.out]; rfl, H.below⟩
      · rw [szC_pos hng] at c1
        go_wp2_with (first | ((((with_reducible apply st_load1 H); decide +kernel; rfl; exact cF)); clear H; intro wn H; (try simp only [splice, yG, yH, yI, yJ, yK, yL, yM, yN, yO, yP, yQ, Nat.reduceAdd, yA, yB, yC] at H); simp only [Act.put, yA, yB, yC, yD, yE, yF]) | (((go_at_call 111; refine gvF (c1 _ H.below) H ?_)); clear H; intro wn H))
        go_roundg (n - (i + 1))
        case measure => omega
        case rel => exact ⟨i + 1, s + xn, by omega, by go_num, by go_num, by omega, HI2, H⟩
    · obtain rfl : i = n := by omega
      have hlt1 : ¬ (i : Int) < i := by omega
      have hst : s = t := by rw [HI.out, HT.out, List.take_of_length_le (by rw [← HN.out]; exact Nat.le_refl _)]
      subst hst
      have HZ2 : Hid (z = k - i - s) := Lib.hid (by rw [HZ.out, szC_pos (by omega)]; omega)
      go_wp2_with (fail)
      go_ret
      exact ⟨by rw [HZ2.out]; rfl, H.below⟩
end Go.Proofs.YtpfdhfchgnnpiaaGreat
