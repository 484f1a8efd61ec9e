/-
  The number of uses with a label, in the program: the walk.
-/
import Derived.Test.YtpfdhfchgnnpiaaGreatVb
import Derived.Test.YtpfdhfchgnnpiaaGreatCq
set_option linter.unusedSimpArgs false
set_option linter.unusedVariables false
namespace Go.Proofs.YtpfdhfchgnnpiaaGreat
open Go.RowKit M
namespace M
def ownN (a : Lab) (l : List Us) : Nat := l.countP fun u => eqB u.1 a
theorem ownN_at {a : Lab} {l : List Us} {i : Nat} {x : Us} (h : l[i]? = some x) : ownN a (l.take (i + 1)) = ownN a (l.take i) + (if eqB x.1 a then 1 else 0) := by
  unfold ownN
  obtain ⟨hlt, rfl⟩ := List.getElem?_eq_some_iff.1 h
  rw [List.take_succ_eq_append_getElem hlt, List.countP_append]
  simp [List.countP_cons]
theorem ownN_le (a : Lab) (l : List Us) : ownN a l ≤ l.length := List.countP_le_length
end M
set_option maxRecDepth 100000 in
set_option maxHeartbeats 4000000 in
theorem ownersOf_i (v : Value) (l : List Us) (p : Lab) (w : World) (hr : (Ty.sl 100 tyUs).rd w [v] l) :
    Gives Tryz.prog 152 #[v, .agg #[.int .i64 p.1, .int .i64 p.2]] w (.int .i64 (ownN p l)) := by
  obtain ⟨p1, p2⟩ := p
  simp only
  obtain ⟨B, cb, rfl, hlb, hbm⟩ := sl_form hr
  unfold maxLen at *
  have HP := Lib.hid hr
  obtain ⟨n, hn⟩ : ∃ n, n = l.length := ⟨_, rfl⟩
  have hnl : n ≤ 9223372036854775807 := by omega
  rw [← hn] at HP ⊢
  have HN := Lib.hid hn
  have HW : Hid (ownN (p1, p2) (l.take n) = ownN (p1, p2) l) := Lib.hid (by rw [hn, List.take_length])
  clear hr hlb hbm hn
  obtain ⟨z, hz⟩ : ∃ z, z = ownN (p1, p2) l := ⟨_, rfl⟩
  rw [← hz]
  have HZ := Lib.hid hz
  clear hz
  have H := Hs.start noRow w
  unfold Gives
  go_enter Tryz.func152, Tryz.ntmps152
  go_wp2_with (((((with_reducible apply st_box (dst := some 3) H); exact nF; intro b3)); clear H; intro wn H; simp only [Act.put, yA, yB, yC, yD, yE, yF]))
  go_loopg [10, 5] n (fun m iv kv wr => ∃ (i k : Nat), i + m = n ∧ iv = .int .i64 i ∧ kv = .int .i64 k ∧ k ≤ i ∧ Hid (k = ownN (p1, p2) (l.take i)) ∧ Hs noRow w [Hl.blk b3 66 #[.int .i64 p1, .int .i64 p2]] wr)
  case atStart => exact ⟨0, 0, by omega, rfl, rfl, by omega, Lib.hid rfl, H.sel sF⟩
  case round =>
    clear H
    obtain ⟨i, k, hi, rfl, rfl, hki, HI, H⟩ := hrel
    by_cases hlt : i < n
    · obtain ⟨x, hx⟩ : ∃ x, l[i]? = some x := ⟨l[i]'(by rw [← HN.out]; exact hlt), List.getElem?_eq_getElem (by rw [← HN.out]; exact hlt)⟩
      have hs := sl_at (by have := HP.out; rw [HN.out] at this; exact this) hx
      rw [← HN.out] at hs
      obtain ⟨b, off, c', cs, hv, hcs, hB⟩ := hs
      injection hv with hv1 hv2 hv3
      subst hv1 hv3
      obtain rfl : cs = encUs x := hcs
      have hstep := ownN_at (a := (p1, p2)) hx
      rw [← HI.out] at hstep
      obtain ⟨⟨l1, l2⟩, ow, us⟩ := x
      unfold encUs at hB
      simp only at hB hstep
      have hlt1 : (i : Int) < n := by omega
      clear hx hv2 HI
      cases hp1 : eqB (l1, l2) (p1, p2)
      · have HI2 : Hid (k = ownN (p1, p2) (l.take (i + 1))) := Lib.hid (by rw [hstep, hp1]; rfl)
        clear hstep
        go_wp2_with (first | ((first | ((with_reducible apply st_loads H); decide +kernel; rfl; exact iF; exact zF; rfl) | ((with_reducible apply st_store H); rfl; exact eF; (focus (exact cells_agg _)); exact uF; kernel_rfl; (focus (exact Nat.le_of_ble_eq_true (by rfl))); (focus (rfl)))); clear H; intro wn H; (try simp only [splice, yG, yH, yI, yJ, yK, yL, yM, yN, yO, yP, yQ, Nat.reduceAdd, yA, yB, yC] at H); simp only [Act.put, yA, yB, yC, yD, yE, yF]) | ((first | ((with_reducible apply st_alloc (dst := some 7) H); exact nF; intro b7) | ((((with_reducible apply st_eqLabz H); rfl; rfl; (focus assumption)))) | ((with_reducible apply st_loadat H); decide +kernel; rfl; exact aF; exact zF; rfl)); clear H; intro wn H; simp only [Act.put, yA, yB, yC, yD, yE, yF]))
        go_roundg (n - (i + 1))
        case measure => omega
        case rel => exact ⟨i + 1, k, by omega, by go_num, rfl, by omega, HI2, H.sel sF⟩
      · have HI2 : Hid (k + 1 = ownN (p1, p2) (l.take (i + 1))) := Lib.hid (by rw [hstep, hp1]; rfl)
        clear hstep
        go_wp2_with (first | ((first | ((with_reducible apply st_loads H); decide +kernel; rfl; exact iF; exact zF; rfl) | ((with_reducible apply st_store H); rfl; exact eF; (focus (exact cells_agg _)); exact uF; kernel_rfl; (focus (exact Nat.le_of_ble_eq_true (by rfl))); (focus (rfl)))); clear H; intro wn H; (try simp only [splice, yG, yH, yI, yJ, yK, yL, yM, yN, yO, yP, yQ, Nat.reduceAdd, yA, yB, yC] at H); simp only [Act.put, yA, yB, yC, yD, yE, yF]) | ((first | ((with_reducible apply st_alloc (dst := some 7) H); exact nF; intro b7) | ((((with_reducible apply st_eqLabz H); rfl; rfl; (focus assumption)))) | ((with_reducible apply st_loadat H); decide +kernel; rfl; exact aF; exact zF; rfl)); clear H; intro wn H; simp only [Act.put, yA, yB, yC, yD, yE, yF]))
        go_roundg (n - (i + 1))
        case measure => omega
        case rel => exact ⟨i + 1, k + 1, by omega, by go_num, by go_num, by omega, HI2, H.sel sF⟩
    · obtain rfl : i = n := by omega
      have hlt1 : ¬ (i : Int) < i := by omega
      have HI2 : Hid (k = z) := Lib.hid (by rw [HI.out, HW.out, HZ.out])
      clear HI HZ
      go_wp2_with (fail)
      go_ret
      exact ⟨by rw [HI2.out]; rfl, H.below⟩
end Go.Proofs.YtpfdhfchgnnpiaaGreat
