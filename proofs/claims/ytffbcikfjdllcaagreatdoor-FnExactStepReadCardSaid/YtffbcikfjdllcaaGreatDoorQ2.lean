/-
  The reference's small functions of OpRead: numbers, the words cut: the walks.
-/
import Derived.Test.YtffbcikfjdllcaaGreatDoorQ1
set_option linter.unusedSimpArgs false
set_option linter.unusedVariables false
namespace Go.Proofs.YtffbcikfjdllcaaGreatDoor
open Go.RowKit M

namespace M
theorem foldS_bad {c : UInt8} {r : Bs} {n : Int} (h : ¬ (48 ≤ c.toNat ∧ c.toNat ≤ 57)) : foldS n (c :: r) = -1 := by rw [foldS, if_neg h]
theorem foldS_good {c : UInt8} {r : Bs} {n : Int} (h : 48 ≤ c.toNat ∧ c.toNat ≤ 57) : foldS n (c :: r) = foldS (10 * n + ((c.toNat : Int) - 48)) r := by rw [foldS, if_pos h]
def seg (T : Bs) (f i : Nat) : Bs := (T.drop f).take (i - f)
theorem seg_nil (T : Bs) (i : Nat) : seg T i i = [] := by unfold seg; rw [Nat.sub_self, List.take_zero]
theorem seg_snoc {T : Bs} {f i : Nat} {c : UInt8} (hf : f ≤ i) (h : T[i]? = some c) : seg T f (i + 1) = seg T f i ++ [c] := by
  unfold seg
  rw [show i + 1 - f = (i - f) + 1 by omega, List.take_add_one, List.getElem?_drop, show f + (i - f) = i by omega, h]; rfl
theorem seg_end {T : Bs} {f i : Nat} (hi : T.length ≤ i) : seg T f i = T.drop f := by
  unfold seg
  rw [List.take_of_length_le (by rw [List.length_drop]; omega)]
end M
theorem Hs.retX {T : Value → List Hl → Prop} {r : Value} {w0 w : World} {L M : List Hl} (H : Hs noRow w0 L w) (hs : M.Sublist L) (hT : T r M) : ∃ v', Ending.returned r = .returned v' ∧ ∃ M', T v' M' ∧ Hk [] w0 M' w := ⟨r, rfl, M, hT, (H.sub hs).hk⟩
/-- a row of texts of one's own -/
def tRow (ws : List Bs) (v : Value) (M : List Hl) : Prop := ∃ g c, v = .slice (some ⟨g, 0, none⟩) ws.length c ∧ M = [Hl.own 9 1 v ws.length (strs ws)]
set_option maxRecDepth 100000 in
set_option maxHeartbeats 4000000 in
theorem l08Num_s (s : ByteArray) (hs : s.size ≤ 8000) (w : World) : Gives Tryz.prog 24 #[.string s] w (.int .i64 (num9 s.data.toList)) := by
  unfold Gives
  have H := Hs.start noRow w
  have hsz := size_data s
  by_cases h1 : s.size < 1
  · have HE : Hid (num9 s.data.toList = -1) := Lib.hid (by unfold num9; rw [if_pos (by omega)])
    have g1 : (s.size : Int) < 1 := by omega
    clear h1
    go_enter Tryz.func24, Tryz.ntmps24
    go_wp2_with (first | ((with_reducible apply st_want); rfl) | ((with_reducible apply st_skip); rfl; simp only [Act.put, yA, yB, yC, yD, yE, yF]) | ((first | ((with_reducible apply st_load1 H); decide +kernel; rfl; exact cF) | ((with_reducible apply st_loads H); decide +kernel; rfl; exact iF; exact zF; rfl) | ((with_reducible apply st_store H); rfl; exact eF; (focus (exact cells_agg _)); exact uF; kernel_rfl; (focus (exact Nat.le_of_ble_eq_true (by rfl))); (focus (first | rfl | simp))) | ((with_reducible apply st_storeown H); rfl; exact eF; (focus (exact (rfl : _ = [_]))); exact uF; (focus omega); kernel_rfl; rfl)); clear H; intro wn H; (try simp only [splice, yG, yH, yI, yJ, yK, yL, yM, yN, yO, yP, yQ, Nat.reduceAdd, yA, yB, yC] at H); simp only [Act.put, yA, yB, yC, yD, yE, yF]) | ((first | ((with_reducible apply st_strsum H); rfl; rfl; exact szF; kernel_rfl) | ((with_reducible apply st_conv1 H); rfl; exact iF; (focus omega); (focus omega); kernel_rfl; kernel_rfl; kernel_rfl)); clear H; intro wn H; simp only [Act.put, yA, yB, yC, yD, yE, yF]) | fail)
    go_ret
    exact ⟨by rw [HE.out]; rfl, H.below⟩
  have g1 : ¬ (s.size : Int) < 1 := by omega
  by_cases h9 : 9 < s.size
  · have HE : Hid (num9 s.data.toList = -1) := Lib.hid (by unfold num9; rw [if_pos (by omega)])
    have g9 : (9 : Int) < s.size := by omega
    clear h9 h1
    go_enter Tryz.func24, Tryz.ntmps24
    go_wp2_with (first | ((with_reducible apply st_want); rfl) | ((with_reducible apply st_skip); rfl; simp only [Act.put, yA, yB, yC, yD, yE, yF]) | ((first | ((with_reducible apply st_load1 H); decide +kernel; rfl; exact cF) | ((with_reducible apply st_loads H); decide +kernel; rfl; exact iF; exact zF; rfl) | ((with_reducible apply st_store H); rfl; exact eF; (focus (exact cells_agg _)); exact uF; kernel_rfl; (focus (exact Nat.le_of_ble_eq_true (by rfl))); (focus (first | rfl | simp))) | ((with_reducible apply st_storeown H); rfl; exact eF; (focus (exact (rfl : _ = [_]))); exact uF; (focus omega); kernel_rfl; rfl)); clear H; intro wn H; (try simp only [splice, yG, yH, yI, yJ, yK, yL, yM, yN, yO, yP, yQ, Nat.reduceAdd, yA, yB, yC] at H); simp only [Act.put, yA, yB, yC, yD, yE, yF]) | ((first | ((with_reducible apply st_strsum H); rfl; rfl; exact szF; kernel_rfl) | ((with_reducible apply st_conv1 H); rfl; exact iF; (focus omega); (focus omega); kernel_rfl; kernel_rfl; kernel_rfl)); clear H; intro wn H; simp only [Act.put, yA, yB, yC, yD, yE, yF]) | fail)
    go_ret
    exact ⟨by rw [HE.out]; rfl, H.below⟩
  have g9 : ¬ (9 : Int) < s.size := by omega
  have p0 : 0 < s.size := by omega
  have b0 : s.data.toList[0]? = some s[0] := List.getElem?_eq_getElem (by omega)
  have q0 : s.data.toList.head? = some s[0] := by rw [List.head?_eq_getElem?, b0]
  by_cases hz : 1 < s.size ∧ s[0].toNat = 48
  · have HE : Hid (num9 s.data.toList = -1) := Lib.hid (by
      unfold num9
      rw [if_pos (.inr (.inr ⟨by omega, by rw [q0]; congr 1; exact UInt8.toNat_inj.1 hz.2⟩))])
    have g2 : (1 : Int) < s.size := by omega
    have g3 : ((s[0].toNat : Int) == 48) = true := by rw [hz.2]; rfl
    have i0 : (0 : Int) < s.size := by omega
    clear hz b0 q0 h1 h9
    go_enter Tryz.func24, Tryz.ntmps24
    go_wp2_with (first | ((with_reducible apply st_want); rfl) | ((with_reducible apply st_skip); rfl; simp only [Act.put, yA, yB, yC, yD, yE, yF]) | ((first | ((with_reducible apply st_load1 H); decide +kernel; rfl; exact cF) | ((with_reducible apply st_loads H); decide +kernel; rfl; exact iF; exact zF; rfl) | ((with_reducible apply st_store H); rfl; exact eF; (focus (exact cells_agg _)); exact uF; kernel_rfl; (focus (exact Nat.le_of_ble_eq_true (by rfl))); (focus (first | rfl | simp))) | ((with_reducible apply st_storeown H); rfl; exact eF; (focus (exact (rfl : _ = [_]))); exact uF; (focus omega); kernel_rfl; rfl)); clear H; intro wn H; (try simp only [splice, yG, yH, yI, yJ, yK, yL, yM, yN, yO, yP, yQ, Nat.reduceAdd, yA, yB, yC] at H); simp only [Act.put, yA, yB, yC, yD, yE, yF]) | ((first | ((with_reducible apply st_strsum H); rfl; rfl; exact szF; kernel_rfl) | ((with_reducible apply st_conv1 H); rfl; exact iF; (focus omega); (focus omega); kernel_rfl; kernel_rfl; kernel_rfl)); clear H; intro wn H; simp only [Act.put, yA, yB, yC, yD, yE, yF]) | fail)
    go_ret
    exact ⟨by rw [HE.out]; rfl, H.below⟩
  have HE : Hid (num9 s.data.toList = foldS 0 s.data.toList) := Lib.hid (by
    unfold num9
    rw [if_neg]
    rintro (h | h | ⟨h, h'⟩)
    · omega
    · omega
    · rw [q0] at h'
      exact hz ⟨by omega, by rw [Option.some.inj h']; rfl⟩)
  have hloop : ∀ (R : Int), R = foldS 0 s.data.toList → num9 s.data.toList = R := fun R h => by rw [HE.out, h]
  have HL := Lib.hid hloop
  have HSZ := Lib.hid hsz
  have i0 : (0 : Int) < s.size := by omega
  have hcase : ¬ (1 : Int) < s.size ∨ ((1 : Int) < s.size ∧ ((s[0].toNat : Int) == 48) = false) := by
    by_cases h : 1 < s.size
    · exact .inr ⟨by omega, by have : ¬ s[0].toNat = 48 := fun e => hz ⟨h, e⟩
                               simp; omega⟩
    · exact .inl (by omega)
  clear hz b0 q0 h1 h9 HE hloop hsz
  rcases hcase with g2 | ⟨g2, g3⟩
  all_goals
    go_enter Tryz.func24, Tryz.ntmps24
    go_wp2_with (first | ((with_reducible apply st_want); rfl) | ((with_reducible apply st_skip); rfl; simp only [Act.put, yA, yB, yC, yD, yE, yF]) | ((first | ((with_reducible apply st_load1 H); decide +kernel; rfl; exact cF) | ((with_reducible apply st_loads H); decide +kernel; rfl; exact iF; exact zF; rfl) | ((with_reducible apply st_store H); rfl; exact eF; (focus (exact cells_agg _)); exact uF; kernel_rfl; (focus (exact Nat.le_of_ble_eq_true (by rfl))); (focus (first | rfl | simp))) | ((with_reducible apply st_storeown H); rfl; exact eF; (focus (exact (rfl : _ = [_]))); exact uF; (focus omega); kernel_rfl; rfl)); clear H; intro wn H; (try simp only [splice, yG, yH, yI, yJ, yK, yL, yM, yN, yO, yP, yQ, Nat.reduceAdd, yA, yB, yC] at H); simp only [Act.put, yA, yB, yC, yD, yE, yF]) | ((first | ((with_reducible apply st_strsum H); rfl; rfl; exact szF; kernel_rfl) | ((with_reducible apply st_conv1 H); rfl; exact iF; (focus omega); (focus omega); kernel_rfl; kernel_rfl; kernel_rfl)); clear H; intro wn H; simp only [Act.put, yA, yB, yC, yD, yE, yF]) | fail)
  all_goals clear g2
  all_goals try clear g3
  all_goals
    go_loopg [3, 4] s.size (fun m nv iv wr => ∃ (k : Nat) (a : Int), k + m = s.size ∧ nv = .int .i64 a ∧ iv = .int .i64 k ∧ 0 ≤ a ∧ Hid (a < 10 ^ k) ∧ Hid (foldS a (s.data.toList.drop k) = foldS 0 s.data.toList) ∧ Hs noRow w [] wr)
  all_goals try (case atStart => exact ⟨0, 0, by omega, rfl, rfl, by omega, Lib.hid (by decide), Lib.hid (by rw [List.drop_zero]), H⟩)
  all_goals
    case round =>
      clear H
      obtain ⟨k, a, hk, rfl, rfl, ha, HA, HI, H⟩ := hrel
      have hk9 : k ≤ 9 := by omega
      by_cases hlt : k < s.size
      · have l1 : (k : Int) < s.size := by omega
        have hb : s.data.toList[k]? = some s[k] := List.getElem?_eq_getElem (by rw [HSZ.out]; exact hlt)
        have hd : s.data.toList.drop k = s[k] :: s.data.toList.drop (k + 1) := by
          obtain ⟨e1, e2⟩ := List.getElem?_eq_some_iff.1 hb
          rw [← e2]; exact List.drop_eq_getElem_cons e1
        have HJ := HI.out
        rw [hd] at HJ
        have hp : 10 * a + 9 ≤ 999999999 := by
          have h1 := HA.out
          have h2 : (10 : Int) ^ k ≤ 10 ^ 8 := by
            have : (10 : Nat) ^ k ≤ 10 ^ 8 := Nat.pow_le_pow_right (by omega) (by omega)
            exact_mod_cast this
          have h3 : (10 : Int) ^ 8 = 100000000 := by decide
          omega
        have HP : Hid (∀ d : Int, d ≤ 9 → 10 * a + d < 10 ^ (k + 1)) := Lib.hid (fun d hd => by
          have h1 := HA.out
          have h2 : (10 : Int) ^ (k + 1) = 10 ^ k * 10 := Int.pow_succ ..
          omega)
        clear hb hd HI HA
        generalize hc : s[k] = c at *
        by_cases hdg : 48 ≤ c.toNat ∧ c.toNat ≤ 57
        · rw [foldS_good hdg] at HJ
          have HK := Lib.hid HJ
          have c1 : ¬ (c.toNat : Int) < 48 := by omega
          have c2 : ¬ (57 : Int) < c.toNat := by omega
          have c3 : 48 ≤ c.toNat := hdg.1
          have c4 : c.toNat ≤ 57 := hdg.2
          clear HJ hdg
          go_wp2_with (first | ((with_reducible apply st_want); rfl) | ((with_reducible apply st_skip); rfl; simp only [Act.put, yA, yB, yC, yD, yE, yF]) | ((first | ((with_reducible apply st_load1 H); decide +kernel; rfl; exact cF) | ((with_reducible apply st_loads H); decide +kernel; rfl; exact iF; exact zF; rfl) | ((with_reducible apply st_store H); rfl; exact eF; (focus (exact cells_agg _)); exact uF; kernel_rfl; (focus (exact Nat.le_of_ble_eq_true (by rfl))); (focus (first | rfl | simp))) | ((with_reducible apply st_storeown H); rfl; exact eF; (focus (exact (rfl : _ = [_]))); exact uF; (focus omega); kernel_rfl; rfl)); clear H; intro wn H; (try simp only [splice, yG, yH, yI, yJ, yK, yL, yM, yN, yO, yP, yQ, Nat.reduceAdd, yA, yB, yC] at H); simp only [Act.put, yA, yB, yC, yD, yE, yF]) | ((first | ((with_reducible apply st_strsum H); rfl; rfl; exact szF; kernel_rfl) | ((with_reducible apply st_conv1 H); rfl; exact iF; (focus omega); (focus omega); kernel_rfl; kernel_rfl; kernel_rfl)); clear H; intro wn H; simp only [Act.put, yA, yB, yC, yD, yE, yF]) | fail)
          go_roundg (s.size - (k + 1))
          case measure => omega
          case rel => exact ⟨k + 1, 10 * a + ((c.toNat : Int) - 48), by omega, by first | rfl | (congr 1; omega), by first | rfl | (congr 1; omega), by omega, Lib.hid (HP.out _ (by omega)), HK, H⟩
        · rw [foldS_bad hdg] at HJ
          have HK := Lib.hid HJ
          have hcc : (c.toNat : Int) < 48 ∨ (¬ (c.toNat : Int) < 48 ∧ (57 : Int) < c.toNat) := by omega
          clear HJ hdg HP
          rcases hcc with c1 | ⟨c1, c2⟩
          all_goals (
            go_wp2_with (first | ((with_reducible apply st_want); rfl) | ((with_reducible apply st_skip); rfl; simp only [Act.put, yA, yB, yC, yD, yE, yF]) | ((first | ((with_reducible apply st_load1 H); decide +kernel; rfl; exact cF) | ((with_reducible apply st_loads H); decide +kernel; rfl; exact iF; exact zF; rfl) | ((with_reducible apply st_store H); rfl; exact eF; (focus (exact cells_agg _)); exact uF; kernel_rfl; (focus (exact Nat.le_of_ble_eq_true (by rfl))); (focus (first | rfl | simp))) | ((with_reducible apply st_storeown H); rfl; exact eF; (focus (exact (rfl : _ = [_]))); exact uF; (focus omega); kernel_rfl; rfl)); clear H; intro wn H; (try simp only [splice, yG, yH, yI, yJ, yK, yL, yM, yN, yO, yP, yQ, Nat.reduceAdd, yA, yB, yC] at H); simp only [Act.put, yA, yB, yC, yD, yE, yF]) | ((first | ((with_reducible apply st_strsum H); rfl; rfl; exact szF; kernel_rfl) | ((with_reducible apply st_conv1 H); rfl; exact iF; (focus omega); (focus omega); kernel_rfl; kernel_rfl; kernel_rfl)); clear H; intro wn H; simp only [Act.put, yA, yB, yC, yD, yE, yF]) | fail)
            go_ret
            exact ⟨by rw [HL.out _ HK.out]; rfl, H.below⟩
          )
      · have l1 : ¬ (k : Int) < s.size := by omega
        have HK : Hid (foldS 0 s.data.toList = a) := Lib.hid (by rw [← HI.out, List.drop_of_length_le (by rw [HSZ.out]; omega)]; rfl)
        clear HI HA
        go_wp2_with (first | ((with_reducible apply st_want); rfl) | ((with_reducible apply st_skip); rfl; simp only [Act.put, yA, yB, yC, yD, yE, yF]) | ((first | ((with_reducible apply st_load1 H); decide +kernel; rfl; exact cF) | ((with_reducible apply st_loads H); decide +kernel; rfl; exact iF; exact zF; rfl) | ((with_reducible apply st_store H); rfl; exact eF; (focus (exact cells_agg _)); exact uF; kernel_rfl; (focus (exact Nat.le_of_ble_eq_true (by rfl))); (focus (first | rfl | simp))) | ((with_reducible apply st_storeown H); rfl; exact eF; (focus (exact (rfl : _ = [_]))); exact uF; (focus omega); kernel_rfl; rfl)); clear H; intro wn H; (try simp only [splice, yG, yH, yI, yJ, yK, yL, yM, yN, yO, yP, yQ, Nat.reduceAdd, yA, yB, yC] at H); simp only [Act.put, yA, yB, yC, yD, yE, yF]) | ((first | ((with_reducible apply st_strsum H); rfl; rfl; exact szF; kernel_rfl) | ((with_reducible apply st_conv1 H); rfl; exact iF; (focus omega); (focus omega); kernel_rfl; kernel_rfl; kernel_rfl)); clear H; intro wn H; simp only [Act.put, yA, yB, yC, yD, yE, yF]) | fail)
        go_ret
        exact ⟨by rw [HL.out _ HK.out.symm]; rfl, H.below⟩
theorem l17Num_s (l : Bs) (hl : l.length ≤ 8000) (w : World) : Gives Tryz.prog 52 #[.string (bs l)] w (.int .i64 (num7 l)) := by
  have h9 := l08Num_s (bs l) hl
  have e : (bs l).data.toList = l := rfl
  rw [e] at h9
  unfold num7
  generalize num9 l = n at *
  unfold Gives
  have H := Hs.start noRow w
  by_cases h : 9999999 < n
  · rw [if_pos h]
    go_enter Tryz.func52, Tryz.ntmps52
    go_wp2_with (first | ((with_reducible apply st_want); rfl) | ((with_reducible apply st_skip); rfl; simp only [Act.put, yA, yB, yC, yD, yE, yF]) | ((first | ((with_reducible apply st_load1 H); decide +kernel; rfl; exact cF) | ((with_reducible apply st_loads H); decide +kernel; rfl; exact iF; exact zF; rfl) | ((with_reducible apply st_store H); rfl; exact eF; (focus (exact cells_agg _)); exact uF; kernel_rfl; (focus (exact Nat.le_of_ble_eq_true (by rfl))); (focus (first | rfl | simp))) | ((with_reducible apply st_storeown H); rfl; exact eF; (focus (exact (rfl : _ = [_]))); exact uF; (focus omega); kernel_rfl; rfl)); clear H; intro wn H; (try simp only [splice, yG, yH, yI, yJ, yK, yL, yM, yN, yO, yP, yQ, Nat.reduceAdd, yA, yB, yC] at H); simp only [Act.put, yA, yB, yC, yD, yE, yF]) | ((first | ((with_reducible apply st_strsum H); rfl; rfl; exact szF; kernel_rfl)); clear H; intro wn H; simp only [Act.put, yA, yB, yC, yD, yE, yF]) | ((first | (go_at_call 24; refine gvF (h9 _) H ?_)); clear H; intro wn H) | fail)
    go_ret
    exact ⟨rfl, H.below⟩
  · rw [if_neg h]
    go_enter Tryz.func52, Tryz.ntmps52
    go_wp2_with (first | ((with_reducible apply st_want); rfl) | ((with_reducible apply st_skip); rfl; simp only [Act.put, yA, yB, yC, yD, yE, yF]) | ((first | ((with_reducible apply st_load1 H); decide +kernel; rfl; exact cF) | ((with_reducible apply st_loads H); decide +kernel; rfl; exact iF; exact zF; rfl) | ((with_reducible apply st_store H); rfl; exact eF; (focus (exact cells_agg _)); exact uF; kernel_rfl; (focus (exact Nat.le_of_ble_eq_true (by rfl))); (focus (first | rfl | simp))) | ((with_reducible apply st_storeown H); rfl; exact eF; (focus (exact (rfl : _ = [_]))); exact uF; (focus omega); kernel_rfl; rfl)); clear H; intro wn H; (try simp only [splice, yG, yH, yI, yJ, yK, yL, yM, yN, yO, yP, yQ, Nat.reduceAdd, yA, yB, yC] at H); simp only [Act.put, yA, yB, yC, yD, yE, yF]) | ((first | ((with_reducible apply st_strsum H); rfl; rfl; exact szF; kernel_rfl)); clear H; intro wn H; simp only [Act.put, yA, yB, yC, yD, yE, yF]) | ((first | (go_at_call 24; refine gvF (h9 _) H ?_)); clear H; intro wn H) | fail)
    go_ret
    exact ⟨rfl, H.below⟩
set_option maxRecDepth 100000 in
set_option maxHeartbeats 4000000 in
theorem l01Split_s (t : ByteArray) (ht : t.size ≤ 8000) (w : World) :
    Rets Tryz.prog [] 23 #[.string t, .int .u8 32] w (tRow (cut [] t.data.toList)) := by
  have H := Hs.start noRow w
  have hsz := size_data t
  have HSZ := Lib.hid hsz
  clear hsz
  go_enter Tryz.func23, Tryz.ntmps23
  go_wp2_with (first | ((with_reducible apply st_want); rfl) | ((with_reducible apply st_skip); rfl; simp only [Act.put, yA, yB, yC, yD, yE, yF]) | ((first | ((with_reducible apply st_load1 H); decide +kernel; rfl; exact cF) | ((with_reducible apply st_loads H); decide +kernel; rfl; exact iF; exact zF; rfl) | ((with_reducible apply st_store H); rfl; exact eF; (focus (exact cells_agg _)); exact uF; kernel_rfl; (focus (exact Nat.le_of_ble_eq_true (by rfl))); (focus (first | rfl | simp))) | ((with_reducible apply st_storeown H); rfl; exact eF; (focus (exact (rfl : _ = [_]))); exact uF; (focus omega); kernel_rfl; rfl)); clear H; intro wn H; (try simp only [splice, yG, yH, yI, yJ, yK, yL, yM, yN, yO, yP, yQ, Nat.reduceAdd, yA, yB, yC] at H); simp only [Act.put, yA, yB, yC, yD, yE, yF]) | ((first | ((with_reducible apply st_strsum H); rfl; rfl; exact szF; kernel_rfl) | ((with_reducible apply st_bslice H); exact nsF; intro nb)); clear H; intro wn H; simp only [Act.put, yA, yB, yC, yD, yE, yF]) | ((with_reducible apply st_appendb H); (first | ((focus (with_reducible exact dH)); rfl) | ((focus (with_reducible exact dT (dH))); rfl) | ((focus (with_reducible exact dT (dT (dH)))); rfl) | ((focus (with_reducible exact dT (dT (dT (dH))))); rfl) | ((focus (with_reducible exact dT (dT (dT (dT (dH)))))); rfl) | ((focus (with_reducible exact dT (dT (dT (dT (dT (dH))))))); rfl) | ((focus (with_reducible exact dT (dT (dT (dT (dT (dT (dH)))))))); rfl)); rfl; exact iF; kernel_rfl; rfl; rfl; (focus (first | omega | (simp; done) | (simp; omega))); clear H; intro vq wn H; (try simp only [yM, yN, yO] at H); simp only [Act.put, yA, yB, yC, yD, yE, yF]) | fail)
  have Hn := H.toOwn (g := nb) (E := 9) 1 0 uF rfl (by decide); clear H; have H := Hn; clear Hn
  go_loopg [5, 6, 7] t.size (fun m ov fv iv wr => ∃ (i f : Nat) (v : Value) (xs : List Bs), i + m = t.size ∧ f ≤ i ∧ iv = .int .i64 i ∧ fv = .int .i64 f ∧ ov = v ∧ xs.length ≤ i ∧ Hid (xs ++ cut (seg t.data.toList f i) (t.data.toList.drop i) = cut [] t.data.toList) ∧ Hs noRow w [Hl.own 9 1 v xs.length (strs xs)] wr)
  case atStart => exact ⟨0, 0, _, [], by omega, by omega, rfl, rfl, rfl, by simp, Lib.hid (by rw [seg_nil]; rfl), H⟩
  case round =>
    clear H
    obtain ⟨i, f, v, xs, hi, hf, rfl, rfl, rfl, hx, HI, H⟩ := hrel
    by_cases hlt : i < t.size
    · have l1 : (i : Int) < t.size := by omega
      have hb : t.data.toList[i]? = some t[i] := List.getElem?_eq_getElem (by rw [HSZ.out]; exact hlt)
      have hd : t.data.toList.drop i = t[i] :: t.data.toList.drop (i + 1) := by
        obtain ⟨e1, e2⟩ := List.getElem?_eq_some_iff.1 hb
        rw [← e2]; exact List.drop_eq_getElem_cons e1
      have hsg := seg_snoc hf hb
      have HJ := HI.out
      rw [hd, cut] at HJ
      have HX : Hid (t.extract f i = bs (seg t.data.toList f i)) := Lib.hid (extract_bs t f i)
      clear hb hd HI
      generalize hc : t[i] = c at *
      have f1 : (f : Int) ≤ i := by omega
      have f2 : (i : Int) ≤ t.size := by omega
      by_cases h32 : c = 32
      · rw [if_pos h32] at HJ
        have HK : Hid ((xs ++ [seg t.data.toList f i]) ++ cut (seg t.data.toList (i + 1) (i + 1)) (t.data.toList.drop (i + 1)) = cut [] t.data.toList) := Lib.hid (by rw [seg_nil, ← HJ]; simp)
        have g1 : ((c.toNat : Int) == 32) = true := by rw [h32]; rfl
        have HS : Hid (strs xs ++ [Value.string (t.extract f i)] = strs (xs ++ [seg t.data.toList f i])) := Lib.hid (by rw [HX.out]; simp [strs])
        have HLn : Hid (xs.length + 1 = (xs ++ [seg t.data.toList f i]).length) := Lib.hid (by simp)
        have hx1 : xs.length + 1 ≤ i + 1 := by omega
        clear HJ hsg h32 HX
        go_wp2_with (first | ((with_reducible apply st_want); rfl) | ((with_reducible apply st_skip); rfl; simp only [Act.put, yA, yB, yC, yD, yE, yF]) | ((first | ((with_reducible apply st_load1 H); decide +kernel; rfl; exact cF) | ((with_reducible apply st_loads H); decide +kernel; rfl; exact iF; exact zF; rfl) | ((with_reducible apply st_store H); rfl; exact eF; (focus (exact cells_agg _)); exact uF; kernel_rfl; (focus (exact Nat.le_of_ble_eq_true (by rfl))); (focus (first | rfl | simp))) | ((with_reducible apply st_storeown H); rfl; exact eF; (focus (exact (rfl : _ = [_]))); exact uF; (focus omega); kernel_rfl; rfl)); clear H; intro wn H; (try simp only [splice, yG, yH, yI, yJ, yK, yL, yM, yN, yO, yP, yQ, Nat.reduceAdd, yA, yB, yC] at H); simp only [Act.put, yA, yB, yC, yD, yE, yF]) | ((first | ((with_reducible apply st_strsum H); rfl; rfl; exact szF; kernel_rfl) | ((with_reducible apply st_bslice H); exact nsF; intro nb)); clear H; intro wn H; simp only [Act.put, yA, yB, yC, yD, yE, yF]) | ((with_reducible apply st_appendb H); (first | ((focus (with_reducible exact dH)); rfl) | ((focus (with_reducible exact dT (dH))); rfl) | ((focus (with_reducible exact dT (dT (dH)))); rfl) | ((focus (with_reducible exact dT (dT (dT (dH))))); rfl) | ((focus (with_reducible exact dT (dT (dT (dT (dH)))))); rfl) | ((focus (with_reducible exact dT (dT (dT (dT (dT (dH))))))); rfl) | ((focus (with_reducible exact dT (dT (dT (dT (dT (dT (dH)))))))); rfl)); rfl; exact iF; kernel_rfl; rfl; rfl; (focus (first | omega | (simp; done) | (simp; omega))); clear H; intro vq wn H; (try simp only [yM, yN, yO] at H); simp only [Act.put, yA, yB, yC, yD, yE, yF]) | fail)
        go_roundg (t.size - (i + 1))
        case measure => omega
        case rel => exact ⟨i + 1, i + 1, _, xs ++ [seg t.data.toList f i], by omega, by omega, rfl, rfl, rfl, by rw [← HLn.out]; exact hx1, HK, by rw [← HLn.out, ← HS.out]; exact H.sel sF⟩
      · rw [if_neg h32, ← hsg] at HJ
        have HK := Lib.hid HJ
        have g1 : ((c.toNat : Int) == 32) = false := by
          have : ¬ c.toNat = 32 := fun e => h32 (UInt8.toNat_inj.1 e)
          simp; omega
        clear HJ hsg h32 HX
        go_wp2_with (first | ((with_reducible apply st_want); rfl) | ((with_reducible apply st_skip); rfl; simp only [Act.put, yA, yB, yC, yD, yE, yF]) | ((first | ((with_reducible apply st_load1 H); decide +kernel; rfl; exact cF) | ((with_reducible apply st_loads H); decide +kernel; rfl; exact iF; exact zF; rfl) | ((with_reducible apply st_store H); rfl; exact eF; (focus (exact cells_agg _)); exact uF; kernel_rfl; (focus (exact Nat.le_of_ble_eq_true (by rfl))); (focus (first | rfl | simp))) | ((with_reducible apply st_storeown H); rfl; exact eF; (focus (exact (rfl : _ = [_]))); exact uF; (focus omega); kernel_rfl; rfl)); clear H; intro wn H; (try simp only [splice, yG, yH, yI, yJ, yK, yL, yM, yN, yO, yP, yQ, Nat.reduceAdd, yA, yB, yC] at H); simp only [Act.put, yA, yB, yC, yD, yE, yF]) | ((first | ((with_reducible apply st_strsum H); rfl; rfl; exact szF; kernel_rfl) | ((with_reducible apply st_bslice H); exact nsF; intro nb)); clear H; intro wn H; simp only [Act.put, yA, yB, yC, yD, yE, yF]) | ((with_reducible apply st_appendb H); (first | ((focus (with_reducible exact dH)); rfl) | ((focus (with_reducible exact dT (dH))); rfl) | ((focus (with_reducible exact dT (dT (dH)))); rfl) | ((focus (with_reducible exact dT (dT (dT (dH))))); rfl) | ((focus (with_reducible exact dT (dT (dT (dT (dH)))))); rfl) | ((focus (with_reducible exact dT (dT (dT (dT (dT (dH))))))); rfl) | ((focus (with_reducible exact dT (dT (dT (dT (dT (dT (dH)))))))); rfl)); rfl; exact iF; kernel_rfl; rfl; rfl; (focus (first | omega | (simp; done) | (simp; omega))); clear H; intro vq wn H; (try simp only [yM, yN, yO] at H); simp only [Act.put, yA, yB, yC, yD, yE, yF]) | fail)
        go_roundg (t.size - (i + 1))
        case measure => omega
        case rel => exact ⟨i + 1, f, _, xs, by omega, by omega, rfl, rfl, rfl, by omega, HK, H.sel sF⟩
    · obtain rfl : i = t.size := by omega
      have l1 : ¬ (t.size : Int) < t.size := by omega
      have hw : xs ++ [seg t.data.toList f t.size] = cut [] t.data.toList := by
        have := HI.out
        rw [List.drop_of_length_le (by rw [HSZ.out]; exact Nat.le_refl _)] at this
        exact this
      have HX : Hid (t.extract f t.size = bs (seg t.data.toList f t.size)) := Lib.hid (extract_bs t f t.size)
      have HS : Hid (strs xs ++ [Value.string (t.extract f t.size)] = strs (cut [] t.data.toList)) := Lib.hid (by rw [HX.out, ← hw]; simp [strs])
      have HLn : Hid (xs.length + 1 = (cut [] t.data.toList).length) := Lib.hid (by rw [← hw]; simp)
      have f1 : (f : Int) ≤ t.size := by omega
      clear hw HI HX
      go_wp2_with (first | ((with_reducible apply st_want); rfl) | ((with_reducible apply st_skip); rfl; simp only [Act.put, yA, yB, yC, yD, yE, yF]) | ((first | ((with_reducible apply st_load1 H); decide +kernel; rfl; exact cF) | ((with_reducible apply st_loads H); decide +kernel; rfl; exact iF; exact zF; rfl) | ((with_reducible apply st_store H); rfl; exact eF; (focus (exact cells_agg _)); exact uF; kernel_rfl; (focus (exact Nat.le_of_ble_eq_true (by rfl))); (focus (first | rfl | simp))) | ((with_reducible apply st_storeown H); rfl; exact eF; (focus (exact (rfl : _ = [_]))); exact uF; (focus omega); kernel_rfl; rfl)); clear H; intro wn H; (try simp only [splice, yG, yH, yI, yJ, yK, yL, yM, yN, yO, yP, yQ, Nat.reduceAdd, yA, yB, yC] at H); simp only [Act.put, yA, yB, yC, yD, yE, yF]) | ((first | ((with_reducible apply st_strsum H); rfl; rfl; exact szF; kernel_rfl) | ((with_reducible apply st_bslice H); exact nsF; intro nb)); clear H; intro wn H; simp only [Act.put, yA, yB, yC, yD, yE, yF]) | ((with_reducible apply st_appendb H); (first | ((focus (with_reducible exact dH)); rfl) | ((focus (with_reducible exact dT (dH))); rfl) | ((focus (with_reducible exact dT (dT (dH)))); rfl) | ((focus (with_reducible exact dT (dT (dT (dH))))); rfl) | ((focus (with_reducible exact dT (dT (dT (dT (dH)))))); rfl) | ((focus (with_reducible exact dT (dT (dT (dT (dT (dH))))))); rfl) | ((focus (with_reducible exact dT (dT (dT (dT (dT (dT (dH)))))))); rfl)); rfl; exact iF; kernel_rfl; rfl; rfl; (focus (first | omega | (simp; done) | (simp; omega))); clear H; intro vq wn H; (try simp only [yM, yN, yO] at H); simp only [Act.put, yA, yB, yC, yD, yE, yF]) | fail)
      rw [HS.out, HLn.out] at H
      have hpos : 0 < (cut [] t.data.toList).length := by rw [← HLn.out]; omega
      obtain ⟨gj, cj, rfl, _, _⟩ := (H.owns iF).form hpos
      go_ret
      exact Hs.retX (T := tRow (cut [] t.data.toList)) (M := [Hl.own 9 1 (.slice (some ⟨gj, 0, none⟩) (cut [] t.data.toList).length cj) (cut [] t.data.toList).length (strs (cut [] t.data.toList))]) H lF ⟨gj, cj, rfl, rfl⟩
end Go.Proofs.YtffbcikfjdllcaaGreatDoor
