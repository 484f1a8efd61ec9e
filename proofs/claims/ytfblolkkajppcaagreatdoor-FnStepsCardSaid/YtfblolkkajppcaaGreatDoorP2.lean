/-
  Labels as texts; decimal numerals of the program: the walks.
-/
import Derived.Test.YtfblolkkajppcaaGreatDoorP1
set_option linter.unusedSimpArgs false
set_option linter.unusedVariables false
namespace Go.Proofs.YtfblolkkajppcaaGreatDoor
open Go.RowKit M

/-- the library's table of powers reads as it was laid -/
def Tab (w : World) : Prop := Lib.TabIs Tryz.prog w "internal/strconv.uint64pow10" .u64 Lib.pow10Tab
theorem Tab.later {w w' : World} (h : Tab w) (hb : Below w.heap.size w w') : Tab w' := Lib.tabBelow_of_tabIs h w' hb
theorem bs_mk (l : Bs) : (⟨l.toArray⟩ : ByteArray) = bs l := rfl
theorem fmt_l (n : Int) (h0 : -9223372036854775808 ≤ n) (h1 : n ≤ 9223372036854775807) (w : World) (ht : Tab w) : Gives Tryz.prog 66 #[.int .i64 n, .int .i64 10] w (.string (bs (dec n))) :=
  Gives.ofDrewN (Tryz.strconv_FormatInt_10 n h0 h1 w ht)
theorem fmtSmall_l (n : Int) (h0 : 0 ≤ n) (h1 : n < 100) (w : World) : Gives Tryz.prog 66 #[.int .i64 n, .int .i64 10] w (.string (bs (dec n))) := by
  obtain ⟨k, rfl⟩ := Int.eq_ofNat_of_zero_le h0
  have h := Tryz.strconv_FormatInt_10_small k (by omega) w
  rw [dec_nat]
  exact h.mono fun _ _ ⟨he, hw⟩ => ⟨he, hw ▸ Below.refl _ _⟩
theorem decimal_i (n : Int) (h0 : -9223372036854775808 ≤ n) (h1 : n ≤ 9223372036854775807) (w : World) (ht : Tab w) : Gives Tryz.prog 28 #[.int .i64 n] w (.string (bs (dec n))) := by
  unfold Gives
  have HT := Lib.hid ht
  have H := Hs.start noRow w
  clear ht
  go_enter Tryz.func28, Tryz.ntmps28
  go_wp2_with ((((go_at_call 66; refine gvF (fmt_l _ h0 h1 _ (HT.out.later H.below)) H ?_)); clear H; intro wn H))
  go_ret
  exact ⟨rfl, H.below⟩
theorem letters_len (b : Int) : ∀ i, (letters b i).length ≤ i
  | 0 => Nat.le_refl _
  | i + 1 => by
    have := letters_len b i
    have h1 : (lett b i).length ≤ 1 := by unfold lett; split <;> simp
    rw [letters, List.length_append]; omega
/-- one letter more -/
theorem letstep {L : Bs} (A : Bs) (b : Int) (i : Nat) (x : ByteArray) (hL : L = A ++ [58] ++ letters b i) (h : x = bs (lett b i)) : bs L ++ x = bs (A ++ [58] ++ letters b (i + 1)) := by
  subst h hL
  rw [bs_append]
  congr 1
  simp [letters]
theorem letstep0 {L : Bs} (A : Bs) (b : Int) (i : Nat) (hL : L = A ++ [58] ++ letters b i) (h : lett b i = []) : bs L = bs (A ++ [58] ++ letters b (i + 1)) := by
  subst hL
  congr 1
  simp [letters, h]
theorem bitsN : ∀ n : Fin 8, (bits .and .i64 (n.val : Int) 1 == 1) = (n.val % 2 == 1) := by decide
set_option maxRecDepth 100000 in
set_option maxHeartbeats 8000000 in
theorem labelText_i (a b : Int) (w : World) : Gives Tryz.prog 24 #[.agg #[.int .i64 a, .int .i64 b]] w (.string (bs (labelText a b))) := by
  unfold Gives
  have hL := labelRight_i a b
  have H := Hs.start noRow w
  cases hok : labelOk a b
  · rw [hok] at hL
    have HT := Lib.hid (labelText_bad hok)
    clear hok
    go_enter Tryz.func24, Tryz.ntmps24
    go_wp2_with (first | ((((with_reducible apply st_loads H); decide +kernel; rfl; exact iF; exact zF; rfl)); clear H; intro wn H; (try simp only [splice, yG, yH, yI, yJ, yK, yL, yM, yN, yO, yP, yQ, Nat.reduceAdd, yA, yB, yC] at H); simp only [Act.put, yA, yB, yC, yD, yE, yF]) | ((((with_reducible apply st_box (dst := some 1) H); exact nF; intro b1)); clear H; intro wn H; simp only [Act.put, yA, yB, yC, yD, yE, yF]) | (((go_at_call 48; refine gvF (hL _) H ?_)); clear H; intro wn H))
    go_ret
    exact ⟨by rw [HT.out]; rfl, H.below⟩
  · rw [hok] at hL
    obtain ⟨⟨a0, a3⟩, b0, b7⟩ := labelOk_spec hok
    have HT := Lib.hid (labelText_ok hok)
    have hF := fmtSmall_l a a0 (by omega)
    have hdl := dec_len (n := a) ⟨a0, by omega⟩
    generalize dec a = A at *
    generalize labelText a b = T at *
    clear hok
    have hb : b = 0 ∨ b = 1 ∨ b = 2 ∨ b = 3 ∨ b = 4 ∨ b = 5 ∨ b = 6 ∨ b = 7 := by omega
    clear b0 b7
    have k0 : (bits .and .i64 0 1 == 1) = false := by decide
    have k1 : (bits .and .i64 1 1 == 1) = true := by decide
    have k2 : (bits .and .i64 2 1 == 1) = false := by decide
    have k3 : (bits .and .i64 3 1 == 1) = true := by decide
    have k4 : (bits .and .i64 4 1 == 1) = false := by decide
    have k5 : (bits .and .i64 5 1 == 1) = true := by decide
    have k6 : (bits .and .i64 6 1 == 1) = false := by decide
    have k7 : (bits .and .i64 7 1 == 1) = true := by decide
    have e97 : (Utf8.encode 97).size = 1 := by decide +kernel
    have e98 : (Utf8.encode 98).size = 1 := by decide +kernel
    have e99 : (Utf8.encode 99).size = 1 := by decide +kernel
    rcases hb with rfl | rfl | rfl | rfl | rfl | rfl | rfl | rfl
    · go_enter Tryz.func24, Tryz.ntmps24
      go_wp2_with (first | ((first | ((with_reducible apply st_load1 H); decide +kernel; rfl; exact cF) | ((with_reducible apply st_loads H); decide +kernel; rfl; exact iF; exact zF; rfl)); clear H; intro wn H; (try simp only [splice, yG, yH, yI, yJ, yK, yL, yM, yN, yO, yP, yQ, Nat.reduceAdd, yA, yB, yC] at H); simp only [Act.put, yA, yB, yC, yD, yE, yF]) | ((first | ((with_reducible apply st_box (dst := some 1) H); exact nF; intro b1) | ((with_reducible apply st_strsum H); rfl; rfl; exact szF; kernel_rfl) | ((with_reducible apply st_range H); rfl; kernel_rfl; intro bi)); clear H; intro wn H; simp only [Act.put, yA, yB, yC, yD, yE, yF]) | ((first | (go_at_call 48; refine gvF (hL _) H ?_) | (go_at_call 66; refine gvF (hF _) H ?_)); clear H; intro wn H))
      go_loopg [3, 4, 5] 3 (fun n t _ _ wr => ∃ i : Nat, i + n = 3 ∧ t = .string (bs (A ++ [58] ++ letters 0 i)) ∧ Hs noRow w [Hl.iter bi ⟨#[97, 98, 99]⟩ i, Hl.blk b1 24 #[.int .i64 a, .int .i64 0]] wr)
      case atStart => exact ⟨0, rfl, congrArg Value.string (show bs A ++ bs [58] = _ by rw [bs_append]; congr 1; simp [letters]), H⟩
      case round =>
        clear H
        obtain ⟨i, hi, rfl, H⟩ := hrel
        have hii : i = 0 ∨ i = 1 ∨ i = 2 ∨ i = 3 := by omega
        have hll : ∀ i, (letters 0 i).length ≤ i := fun i => letters_len 0 i
        have hl0 := hll 0
        have hl1 := hll 1
        have hl2 := hll 2
        have hl3 := hll 3
        clear hll
        rcases hii with rfl | rfl | rfl | rfl
        · go_wp2_with (first | ((((with_reducible apply st_load1 H); decide +kernel; rfl; exact cF)); clear H; intro wn H; (try simp only [splice, yG, yH, yI, yJ, yK, yL, yM, yN, yO, yP, yQ, Nat.reduceAdd, yA, yB, yC] at H); simp only [Act.put, yA, yB, yC, yD, yE, yF]) | ((((with_reducible apply st_next H); rfl; exact uF; (focus (rfl)); (focus (decide)))); clear H; intro wn H; simp only [Act.put, yA, yB, yC, yD, yE, yF]))
          go_roundg 2
          case measure => omega
          case rel => exact ⟨1, rfl, congrArg Value.string (by first | exact letstep A 0 0 (Utf8.encode 97) (by simp) (by decide +kernel) | exact letstep0 A 0 0 (by simp) (by decide +kernel)), H.sel sF⟩
        · go_wp2_with (first | ((((with_reducible apply st_load1 H); decide +kernel; rfl; exact cF)); clear H; intro wn H; (try simp only [splice, yG, yH, yI, yJ, yK, yL, yM, yN, yO, yP, yQ, Nat.reduceAdd, yA, yB, yC] at H); simp only [Act.put, yA, yB, yC, yD, yE, yF]) | ((((with_reducible apply st_next H); rfl; exact uF; (focus (rfl)); (focus (decide)))); clear H; intro wn H; simp only [Act.put, yA, yB, yC, yD, yE, yF]))
          go_roundg 1
          case measure => omega
          case rel => exact ⟨2, rfl, congrArg Value.string (by first | exact letstep A 0 1 (Utf8.encode 98) (by simp) (by decide +kernel) | exact letstep0 A 0 1 (by simp) (by decide +kernel)), H.sel sF⟩
        · go_wp2_with (first | ((((with_reducible apply st_load1 H); decide +kernel; rfl; exact cF)); clear H; intro wn H; (try simp only [splice, yG, yH, yI, yJ, yK, yL, yM, yN, yO, yP, yQ, Nat.reduceAdd, yA, yB, yC] at H); simp only [Act.put, yA, yB, yC, yD, yE, yF]) | ((((with_reducible apply st_next H); rfl; exact uF; (focus (rfl)); (focus (decide)))); clear H; intro wn H; simp only [Act.put, yA, yB, yC, yD, yE, yF]))
          go_roundg 0
          case measure => omega
          case rel => exact ⟨3, rfl, congrArg Value.string (by first | exact letstep A 0 2 (Utf8.encode 99) (by simp) (by decide +kernel) | exact letstep0 A 0 2 (by simp) (by decide +kernel)), H.sel sF⟩
        · go_wp2_with (((((with_reducible apply st_nextend H); rfl; exact iF; (focus (decide)))); clear H; intro wn H; simp only [Act.put, yA, yB, yC, yD, yE, yF]))
          go_ret
          exact ⟨by rw [HT.out]; simp, H.below⟩
    · go_enter Tryz.func24, Tryz.ntmps24
      go_wp2_with (first | ((first | ((with_reducible apply st_load1 H); decide +kernel; rfl; exact cF) | ((with_reducible apply st_loads H); decide +kernel; rfl; exact iF; exact zF; rfl)); clear H; intro wn H; (try simp only [splice, yG, yH, yI, yJ, yK, yL, yM, yN, yO, yP, yQ, Nat.reduceAdd, yA, yB, yC] at H); simp only [Act.put, yA, yB, yC, yD, yE, yF]) | ((first | ((with_reducible apply st_box (dst := some 1) H); exact nF; intro b1) | ((with_reducible apply st_strsum H); rfl; rfl; exact szF; kernel_rfl) | ((with_reducible apply st_range H); rfl; kernel_rfl; intro bi)); clear H; intro wn H; simp only [Act.put, yA, yB, yC, yD, yE, yF]) | ((first | (go_at_call 48; refine gvF (hL _) H ?_) | (go_at_call 66; refine gvF (hF _) H ?_)); clear H; intro wn H))
      go_loopg [3, 4, 5] 3 (fun n t _ _ wr => ∃ i : Nat, i + n = 3 ∧ t = .string (bs (A ++ [58] ++ letters 1 i)) ∧ Hs noRow w [Hl.iter bi ⟨#[97, 98, 99]⟩ i, Hl.blk b1 24 #[.int .i64 a, .int .i64 1]] wr)
      case atStart => exact ⟨0, rfl, congrArg Value.string (show bs A ++ bs [58] = _ by rw [bs_append]; congr 1; simp [letters]), H⟩
      case round =>
        clear H
        obtain ⟨i, hi, rfl, H⟩ := hrel
        have hii : i = 0 ∨ i = 1 ∨ i = 2 ∨ i = 3 := by omega
        have hll : ∀ i, (letters 1 i).length ≤ i := fun i => letters_len 1 i
        have hl0 := hll 0
        have hl1 := hll 1
        have hl2 := hll 2
        have hl3 := hll 3
        clear hll
        rcases hii with rfl | rfl | rfl | rfl
        · go_wp2_with (first | ((((with_reducible apply st_load1 H); decide +kernel; rfl; exact cF)); clear H; intro wn H; (try simp only [splice, yG, yH, yI, yJ, yK, yL, yM, yN, yO, yP, yQ, Nat.reduceAdd, yA, yB, yC] at H); simp only [Act.put, yA, yB, yC, yD, yE, yF]) | ((first | ((with_reducible apply st_strsum H); rfl; rfl; exact szF; kernel_rfl) | ((with_reducible apply st_next H); rfl; exact uF; (focus (rfl)); (focus (decide)))); clear H; intro wn H; simp only [Act.put, yA, yB, yC, yD, yE, yF]))
          go_roundg 2
          case measure => omega
          case rel => exact ⟨1, rfl, congrArg Value.string (by first | exact letstep A 1 0 (Utf8.encode 97) (by simp) (by decide +kernel) | exact letstep0 A 1 0 (by simp) (by decide +kernel)), H.sel sF⟩
        · go_wp2_with (first | ((((with_reducible apply st_load1 H); decide +kernel; rfl; exact cF)); clear H; intro wn H; (try simp only [splice, yG, yH, yI, yJ, yK, yL, yM, yN, yO, yP, yQ, Nat.reduceAdd, yA, yB, yC] at H); simp only [Act.put, yA, yB, yC, yD, yE, yF]) | ((((with_reducible apply st_next H); rfl; exact uF; (focus (rfl)); (focus (decide)))); clear H; intro wn H; simp only [Act.put, yA, yB, yC, yD, yE, yF]))
          go_roundg 1
          case measure => omega
          case rel => exact ⟨2, rfl, congrArg Value.string (by first | exact letstep A 1 1 (Utf8.encode 98) (by simp) (by decide +kernel) | exact letstep0 A 1 1 (by simp) (by decide +kernel)), H.sel sF⟩
        · go_wp2_with (first | ((((with_reducible apply st_load1 H); decide +kernel; rfl; exact cF)); clear H; intro wn H; (try simp only [splice, yG, yH, yI, yJ, yK, yL, yM, yN, yO, yP, yQ, Nat.reduceAdd, yA, yB, yC] at H); simp only [Act.put, yA, yB, yC, yD, yE, yF]) | ((((with_reducible apply st_next H); rfl; exact uF; (focus (rfl)); (focus (decide)))); clear H; intro wn H; simp only [Act.put, yA, yB, yC, yD, yE, yF]))
          go_roundg 0
          case measure => omega
          case rel => exact ⟨3, rfl, congrArg Value.string (by first | exact letstep A 1 2 (Utf8.encode 99) (by simp) (by decide +kernel) | exact letstep0 A 1 2 (by simp) (by decide +kernel)), H.sel sF⟩
        · go_wp2_with (((((with_reducible apply st_nextend H); rfl; exact iF; (focus (decide)))); clear H; intro wn H; simp only [Act.put, yA, yB, yC, yD, yE, yF]))
          go_ret
          exact ⟨by rw [HT.out]; simp, H.below⟩
    · go_enter Tryz.func24, Tryz.ntmps24
      go_wp2_with (first | ((first | ((with_reducible apply st_load1 H); decide +kernel; rfl; exact cF) | ((with_reducible apply st_loads H); decide +kernel; rfl; exact iF; exact zF; rfl)); clear H; intro wn H; (try simp only [splice, yG, yH, yI, yJ, yK, yL, yM, yN, yO, yP, yQ, Nat.reduceAdd, yA, yB, yC] at H); simp only [Act.put, yA, yB, yC, yD, yE, yF]) | ((first | ((with_reducible apply st_box (dst := some 1) H); exact nF; intro b1) | ((with_reducible apply st_strsum H); rfl; rfl; exact szF; kernel_rfl) | ((with_reducible apply st_range H); rfl; kernel_rfl; intro bi)); clear H; intro wn H; simp only [Act.put, yA, yB, yC, yD, yE, yF]) | ((first | (go_at_call 48; refine gvF (hL _) H ?_) | (go_at_call 66; refine gvF (hF _) H ?_)); clear H; intro wn H))
      go_loopg [3, 4, 5] 3 (fun n t _ _ wr => ∃ i : Nat, i + n = 3 ∧ t = .string (bs (A ++ [58] ++ letters 2 i)) ∧ Hs noRow w [Hl.iter bi ⟨#[97, 98, 99]⟩ i, Hl.blk b1 24 #[.int .i64 a, .int .i64 2]] wr)
      case atStart => exact ⟨0, rfl, congrArg Value.string (show bs A ++ bs [58] = _ by rw [bs_append]; congr 1; simp [letters]), H⟩
      case round =>
        clear H
        obtain ⟨i, hi, rfl, H⟩ := hrel
        have hii : i = 0 ∨ i = 1 ∨ i = 2 ∨ i = 3 := by omega
        have hll : ∀ i, (letters 2 i).length ≤ i := fun i => letters_len 2 i
        have hl0 := hll 0
        have hl1 := hll 1
        have hl2 := hll 2
        have hl3 := hll 3
        clear hll
        rcases hii with rfl | rfl | rfl | rfl
        · go_wp2_with (first | ((((with_reducible apply st_load1 H); decide +kernel; rfl; exact cF)); clear H; intro wn H; (try simp only [splice, yG, yH, yI, yJ, yK, yL, yM, yN, yO, yP, yQ, Nat.reduceAdd, yA, yB, yC] at H); simp only [Act.put, yA, yB, yC, yD, yE, yF]) | ((((with_reducible apply st_next H); rfl; exact uF; (focus (rfl)); (focus (decide)))); clear H; intro wn H; simp only [Act.put, yA, yB, yC, yD, yE, yF]))
          go_roundg 2
          case measure => omega
          case rel => exact ⟨1, rfl, congrArg Value.string (by first | exact letstep A 2 0 (Utf8.encode 97) (by simp) (by decide +kernel) | exact letstep0 A 2 0 (by simp) (by decide +kernel)), H.sel sF⟩
        · go_wp2_with (first | ((((with_reducible apply st_load1 H); decide +kernel; rfl; exact cF)); clear H; intro wn H; (try simp only [splice, yG, yH, yI, yJ, yK, yL, yM, yN, yO, yP, yQ, Nat.reduceAdd, yA, yB, yC] at H); simp only [Act.put, yA, yB, yC, yD, yE, yF]) | ((first | ((with_reducible apply st_strsum H); rfl; rfl; exact szF; kernel_rfl) | ((with_reducible apply st_next H); rfl; exact uF; (focus (rfl)); (focus (decide)))); clear H; intro wn H; simp only [Act.put, yA, yB, yC, yD, yE, yF]))
          go_roundg 1
          case measure => omega
          case rel => exact ⟨2, rfl, congrArg Value.string (by first | exact letstep A 2 1 (Utf8.encode 98) (by simp) (by decide +kernel) | exact letstep0 A 2 1 (by simp) (by decide +kernel)), H.sel sF⟩
        · go_wp2_with (first | ((((with_reducible apply st_load1 H); decide +kernel; rfl; exact cF)); clear H; intro wn H; (try simp only [splice, yG, yH, yI, yJ, yK, yL, yM, yN, yO, yP, yQ, Nat.reduceAdd, yA, yB, yC] at H); simp only [Act.put, yA, yB, yC, yD, yE, yF]) | ((((with_reducible apply st_next H); rfl; exact uF; (focus (rfl)); (focus (decide)))); clear H; intro wn H; simp only [Act.put, yA, yB, yC, yD, yE, yF]))
          go_roundg 0
          case measure => omega
          case rel => exact ⟨3, rfl, congrArg Value.string (by first | exact letstep A 2 2 (Utf8.encode 99) (by simp) (by decide +kernel) | exact letstep0 A 2 2 (by simp) (by decide +kernel)), H.sel sF⟩
        · go_wp2_with (((((with_reducible apply st_nextend H); rfl; exact iF; (focus (decide)))); clear H; intro wn H; simp only [Act.put, yA, yB, yC, yD, yE, yF]))
          go_ret
          exact ⟨by rw [HT.out]; simp, H.below⟩
    · go_enter Tryz.func24, Tryz.ntmps24
      go_wp2_with (first | ((first | ((with_reducible apply st_load1 H); decide +kernel; rfl; exact cF) | ((with_reducible apply st_loads H); decide +kernel; rfl; exact iF; exact zF; rfl)); clear H; intro wn H; (try simp only [splice, yG, yH, yI, yJ, yK, yL, yM, yN, yO, yP, yQ, Nat.reduceAdd, yA, yB, yC] at H); simp only [Act.put, yA, yB, yC, yD, yE, yF]) | ((first | ((with_reducible apply st_box (dst := some 1) H); exact nF; intro b1) | ((with_reducible apply st_strsum H); rfl; rfl; exact szF; kernel_rfl) | ((with_reducible apply st_range H); rfl; kernel_rfl; intro bi)); clear H; intro wn H; simp only [Act.put, yA, yB, yC, yD, yE, yF]) | ((first | (go_at_call 48; refine gvF (hL _) H ?_) | (go_at_call 66; refine gvF (hF _) H ?_)); clear H; intro wn H))
      go_loopg [3, 4, 5] 3 (fun n t _ _ wr => ∃ i : Nat, i + n = 3 ∧ t = .string (bs (A ++ [58] ++ letters 3 i)) ∧ Hs noRow w [Hl.iter bi ⟨#[97, 98, 99]⟩ i, Hl.blk b1 24 #[.int .i64 a, .int .i64 3]] wr)
      case atStart => exact ⟨0, rfl, congrArg Value.string (show bs A ++ bs [58] = _ by rw [bs_append]; congr 1; simp [letters]), H⟩
      case round =>
        clear H
        obtain ⟨i, hi, rfl, H⟩ := hrel
        have hii : i = 0 ∨ i = 1 ∨ i = 2 ∨ i = 3 := by omega
        have hll : ∀ i, (letters 3 i).length ≤ i := fun i => letters_len 3 i
        have hl0 := hll 0
        have hl1 := hll 1
        have hl2 := hll 2
        have hl3 := hll 3
        clear hll
        rcases hii with rfl | rfl | rfl | rfl
        · go_wp2_with (first | ((((with_reducible apply st_load1 H); decide +kernel; rfl; exact cF)); clear H; intro wn H; (try simp only [splice, yG, yH, yI, yJ, yK, yL, yM, yN, yO, yP, yQ, Nat.reduceAdd, yA, yB, yC] at H); simp only [Act.put, yA, yB, yC, yD, yE, yF]) | ((first | ((with_reducible apply st_strsum H); rfl; rfl; exact szF; kernel_rfl) | ((with_reducible apply st_next H); rfl; exact uF; (focus (rfl)); (focus (decide)))); clear H; intro wn H; simp only [Act.put, yA, yB, yC, yD, yE, yF]))
          go_roundg 2
          case measure => omega
          case rel => exact ⟨1, rfl, congrArg Value.string (by first | exact letstep A 3 0 (Utf8.encode 97) (by simp) (by decide +kernel) | exact letstep0 A 3 0 (by simp) (by decide +kernel)), H.sel sF⟩
        · go_wp2_with (first | ((((with_reducible apply st_load1 H); decide +kernel; rfl; exact cF)); clear H; intro wn H; (try simp only [splice, yG, yH, yI, yJ, yK, yL, yM, yN, yO, yP, yQ, Nat.reduceAdd, yA, yB, yC] at H); simp only [Act.put, yA, yB, yC, yD, yE, yF]) | ((first | ((with_reducible apply st_strsum H); rfl; rfl; exact szF; kernel_rfl) | ((with_reducible apply st_next H); rfl; exact uF; (focus (rfl)); (focus (decide)))); clear H; intro wn H; simp only [Act.put, yA, yB, yC, yD, yE, yF]))
          go_roundg 1
          case measure => omega
          case rel => exact ⟨2, rfl, congrArg Value.string (by first | exact letstep A 3 1 (Utf8.encode 98) (by simp) (by decide +kernel) | exact letstep0 A 3 1 (by simp) (by decide +kernel)), H.sel sF⟩
        · go_wp2_with (first | ((((with_reducible apply st_load1 H); decide +kernel; rfl; exact cF)); clear H; intro wn H; (try simp only [splice, yG, yH, yI, yJ, yK, yL, yM, yN, yO, yP, yQ, Nat.reduceAdd, yA, yB, yC] at H); simp only [Act.put, yA, yB, yC, yD, yE, yF]) | ((((with_reducible apply st_next H); rfl; exact uF; (focus (rfl)); (focus (decide)))); clear H; intro wn H; simp only [Act.put, yA, yB, yC, yD, yE, yF]))
          go_roundg 0
          case measure => omega
          case rel => exact ⟨3, rfl, congrArg Value.string (by first | exact letstep A 3 2 (Utf8.encode 99) (by simp) (by decide +kernel) | exact letstep0 A 3 2 (by simp) (by decide +kernel)), H.sel sF⟩
        · go_wp2_with (((((with_reducible apply st_nextend H); rfl; exact iF; (focus (decide)))); clear H; intro wn H; simp only [Act.put, yA, yB, yC, yD, yE, yF]))
          go_ret
          exact ⟨by rw [HT.out]; simp, H.below⟩
    · go_enter Tryz.func24, Tryz.ntmps24
      go_wp2_with (first | ((first | ((with_reducible apply st_load1 H); decide +kernel; rfl; exact cF) | ((with_reducible apply st_loads H); decide +kernel; rfl; exact iF; exact zF; rfl)); clear H; intro wn H; (try simp only [splice, yG, yH, yI, yJ, yK, yL, yM, yN, yO, yP, yQ, Nat.reduceAdd, yA, yB, yC] at H); simp only [Act.put, yA, yB, yC, yD, yE, yF]) | ((first | ((with_reducible apply st_box (dst := some 1) H); exact nF; intro b1) | ((with_reducible apply st_strsum H); rfl; rfl; exact szF; kernel_rfl) | ((with_reducible apply st_range H); rfl; kernel_rfl; intro bi)); clear H; intro wn H; simp only [Act.put, yA, yB, yC, yD, yE, yF]) | ((first | (go_at_call 48; refine gvF (hL _) H ?_) | (go_at_call 66; refine gvF (hF _) H ?_)); clear H; intro wn H))
      go_loopg [3, 4, 5] 3 (fun n t _ _ wr => ∃ i : Nat, i + n = 3 ∧ t = .string (bs (A ++ [58] ++ letters 4 i)) ∧ Hs noRow w [Hl.iter bi ⟨#[97, 98, 99]⟩ i, Hl.blk b1 24 #[.int .i64 a, .int .i64 4]] wr)
      case atStart => exact ⟨0, rfl, congrArg Value.string (show bs A ++ bs [58] = _ by rw [bs_append]; congr 1; simp [letters]), H⟩
      case round =>
        clear H
        obtain ⟨i, hi, rfl, H⟩ := hrel
        have hii : i = 0 ∨ i = 1 ∨ i = 2 ∨ i = 3 := by omega
        have hll : ∀ i, (letters 4 i).length ≤ i := fun i => letters_len 4 i
        have hl0 := hll 0
        have hl1 := hll 1
        have hl2 := hll 2
        have hl3 := hll 3
        clear hll
        rcases hii with rfl | rfl | rfl | rfl
        · go_wp2_with (first | ((((with_reducible apply st_load1 H); decide +kernel; rfl; exact cF)); clear H; intro wn H; (try simp only [splice, yG, yH, yI, yJ, yK, yL, yM, yN, yO, yP, yQ, Nat.reduceAdd, yA, yB, yC] at H); simp only [Act.put, yA, yB, yC, yD, yE, yF]) | ((((with_reducible apply st_next H); rfl; exact uF; (focus (rfl)); (focus (decide)))); clear H; intro wn H; simp only [Act.put, yA, yB, yC, yD, yE, yF]))
          go_roundg 2
          case measure => omega
          case rel => exact ⟨1, rfl, congrArg Value.string (by first | exact letstep A 4 0 (Utf8.encode 97) (by simp) (by decide +kernel) | exact letstep0 A 4 0 (by simp) (by decide +kernel)), H.sel sF⟩
        · go_wp2_with (first | ((((with_reducible apply st_load1 H); decide +kernel; rfl; exact cF)); clear H; intro wn H; (try simp only [splice, yG, yH, yI, yJ, yK, yL, yM, yN, yO, yP, yQ, Nat.reduceAdd, yA, yB, yC] at H); simp only [Act.put, yA, yB, yC, yD, yE, yF]) | ((((with_reducible apply st_next H); rfl; exact uF; (focus (rfl)); (focus (decide)))); clear H; intro wn H; simp only [Act.put, yA, yB, yC, yD, yE, yF]))
          go_roundg 1
          case measure => omega
          case rel => exact ⟨2, rfl, congrArg Value.string (by first | exact letstep A 4 1 (Utf8.encode 98) (by simp) (by decide +kernel) | exact letstep0 A 4 1 (by simp) (by decide +kernel)), H.sel sF⟩
        · go_wp2_with (first | ((((with_reducible apply st_load1 H); decide +kernel; rfl; exact cF)); clear H; intro wn H; (try simp only [splice, yG, yH, yI, yJ, yK, yL, yM, yN, yO, yP, yQ, Nat.reduceAdd, yA, yB, yC] at H); simp only [Act.put, yA, yB, yC, yD, yE, yF]) | ((first | ((with_reducible apply st_strsum H); rfl; rfl; exact szF; kernel_rfl) | ((with_reducible apply st_next H); rfl; exact uF; (focus (rfl)); (focus (decide)))); clear H; intro wn H; simp only [Act.put, yA, yB, yC, yD, yE, yF]))
          go_roundg 0
          case measure => omega
          case rel => exact ⟨3, rfl, congrArg Value.string (by first | exact letstep A 4 2 (Utf8.encode 99) (by simp) (by decide +kernel) | exact letstep0 A 4 2 (by simp) (by decide +kernel)), H.sel sF⟩
        · go_wp2_with (((((with_reducible apply st_nextend H); rfl; exact iF; (focus (decide)))); clear H; intro wn H; simp only [Act.put, yA, yB, yC, yD, yE, yF]))
          go_ret
          exact ⟨by rw [HT.out]; simp, H.below⟩
    · go_enter Tryz.func24, Tryz.ntmps24
      go_wp2_with (first | ((first | ((with_reducible apply st_load1 H); decide +kernel; rfl; exact cF) | ((with_reducible apply st_loads H); decide +kernel; rfl; exact iF; exact zF; rfl)); clear H; intro wn H; (try simp only [splice, yG, yH, yI, yJ, yK, yL, yM, yN, yO, yP, yQ, Nat.reduceAdd, yA, yB, yC] at H); simp only [Act.put, yA, yB, yC, yD, yE, yF]) | ((first | ((with_reducible apply st_box (dst := some 1) H); exact nF; intro b1) | ((with_reducible apply st_strsum H); rfl; rfl; exact szF; kernel_rfl) | ((with_reducible apply st_range H); rfl; kernel_rfl; intro bi)); clear H; intro wn H; simp only [Act.put, yA, yB, yC, yD, yE, yF]) | ((first | (go_at_call 48; refine gvF (hL _) H ?_) | (go_at_call 66; refine gvF (hF _) H ?_)); clear H; intro wn H))
      go_loopg [3, 4, 5] 3 (fun n t _ _ wr => ∃ i : Nat, i + n = 3 ∧ t = .string (bs (A ++ [58] ++ letters 5 i)) ∧ Hs noRow w [Hl.iter bi ⟨#[97, 98, 99]⟩ i, Hl.blk b1 24 #[.int .i64 a, .int .i64 5]] wr)
      case atStart => exact ⟨0, rfl, congrArg Value.string (show bs A ++ bs [58] = _ by rw [bs_append]; congr 1; simp [letters]), H⟩
      case round =>
        clear H
        obtain ⟨i, hi, rfl, H⟩ := hrel
        have hii : i = 0 ∨ i = 1 ∨ i = 2 ∨ i = 3 := by omega
        have hll : ∀ i, (letters 5 i).length ≤ i := fun i => letters_len 5 i
        have hl0 := hll 0
        have hl1 := hll 1
        have hl2 := hll 2
        have hl3 := hll 3
        clear hll
        rcases hii with rfl | rfl | rfl | rfl
        · go_wp2_with (first | ((((with_reducible apply st_load1 H); decide +kernel; rfl; exact cF)); clear H; intro wn H; (try simp only [splice, yG, yH, yI, yJ, yK, yL, yM, yN, yO, yP, yQ, Nat.reduceAdd, yA, yB, yC] at H); simp only [Act.put, yA, yB, yC, yD, yE, yF]) | ((first | ((with_reducible apply st_strsum H); rfl; rfl; exact szF; kernel_rfl) | ((with_reducible apply st_next H); rfl; exact uF; (focus (rfl)); (focus (decide)))); clear H; intro wn H; simp only [Act.put, yA, yB, yC, yD, yE, yF]))
          go_roundg 2
          case measure => omega
          case rel => exact ⟨1, rfl, congrArg Value.string (by first | exact letstep A 5 0 (Utf8.encode 97) (by simp) (by decide +kernel) | exact letstep0 A 5 0 (by simp) (by decide +kernel)), H.sel sF⟩
        · go_wp2_with (first | ((((with_reducible apply st_load1 H); decide +kernel; rfl; exact cF)); clear H; intro wn H; (try simp only [splice, yG, yH, yI, yJ, yK, yL, yM, yN, yO, yP, yQ, Nat.reduceAdd, yA, yB, yC] at H); simp only [Act.put, yA, yB, yC, yD, yE, yF]) | ((((with_reducible apply st_next H); rfl; exact uF; (focus (rfl)); (focus (decide)))); clear H; intro wn H; simp only [Act.put, yA, yB, yC, yD, yE, yF]))
          go_roundg 1
          case measure => omega
          case rel => exact ⟨2, rfl, congrArg Value.string (by first | exact letstep A 5 1 (Utf8.encode 98) (by simp) (by decide +kernel) | exact letstep0 A 5 1 (by simp) (by decide +kernel)), H.sel sF⟩
        · go_wp2_with (first | ((((with_reducible apply st_load1 H); decide +kernel; rfl; exact cF)); clear H; intro wn H; (try simp only [splice, yG, yH, yI, yJ, yK, yL, yM, yN, yO, yP, yQ, Nat.reduceAdd, yA, yB, yC] at H); simp only [Act.put, yA, yB, yC, yD, yE, yF]) | ((first | ((with_reducible apply st_strsum H); rfl; rfl; exact szF; kernel_rfl) | ((with_reducible apply st_next H); rfl; exact uF; (focus (rfl)); (focus (decide)))); clear H; intro wn H; simp only [Act.put, yA, yB, yC, yD, yE, yF]))
          go_roundg 0
          case measure => omega
          case rel => exact ⟨3, rfl, congrArg Value.string (by first | exact letstep A 5 2 (Utf8.encode 99) (by simp) (by decide +kernel) | exact letstep0 A 5 2 (by simp) (by decide +kernel)), H.sel sF⟩
        · go_wp2_with (((((with_reducible apply st_nextend H); rfl; exact iF; (focus (decide)))); clear H; intro wn H; simp only [Act.put, yA, yB, yC, yD, yE, yF]))
          go_ret
          exact ⟨by rw [HT.out]; simp, H.below⟩
    · go_enter Tryz.func24, Tryz.ntmps24
      go_wp2_with (first | ((first | ((with_reducible apply st_load1 H); decide +kernel; rfl; exact cF) | ((with_reducible apply st_loads H); decide +kernel; rfl; exact iF; exact zF; rfl)); clear H; intro wn H; (try simp only [splice, yG, yH, yI, yJ, yK, yL, yM, yN, yO, yP, yQ, Nat.reduceAdd, yA, yB, yC] at H); simp only [Act.put, yA, yB, yC, yD, yE, yF]) | ((first | ((with_reducible apply st_box (dst := some 1) H); exact nF; intro b1) | ((with_reducible apply st_strsum H); rfl; rfl; exact szF; kernel_rfl) | ((with_reducible apply st_range H); rfl; kernel_rfl; intro bi)); clear H; intro wn H; simp only [Act.put, yA, yB, yC, yD, yE, yF]) | ((first | (go_at_call 48; refine gvF (hL _) H ?_) | (go_at_call 66; refine gvF (hF _) H ?_)); clear H; intro wn H))
      go_loopg [3, 4, 5] 3 (fun n t _ _ wr => ∃ i : Nat, i + n = 3 ∧ t = .string (bs (A ++ [58] ++ letters 6 i)) ∧ Hs noRow w [Hl.iter bi ⟨#[97, 98, 99]⟩ i, Hl.blk b1 24 #[.int .i64 a, .int .i64 6]] wr)
      case atStart => exact ⟨0, rfl, congrArg Value.string (show bs A ++ bs [58] = _ by rw [bs_append]; congr 1; simp [letters]), H⟩
      case round =>
        clear H
        obtain ⟨i, hi, rfl, H⟩ := hrel
        have hii : i = 0 ∨ i = 1 ∨ i = 2 ∨ i = 3 := by omega
        have hll : ∀ i, (letters 6 i).length ≤ i := fun i => letters_len 6 i
        have hl0 := hll 0
        have hl1 := hll 1
        have hl2 := hll 2
        have hl3 := hll 3
        clear hll
        rcases hii with rfl | rfl | rfl | rfl
        · go_wp2_with (first | ((((with_reducible apply st_load1 H); decide +kernel; rfl; exact cF)); clear H; intro wn H; (try simp only [splice, yG, yH, yI, yJ, yK, yL, yM, yN, yO, yP, yQ, Nat.reduceAdd, yA, yB, yC] at H); simp only [Act.put, yA, yB, yC, yD, yE, yF]) | ((((with_reducible apply st_next H); rfl; exact uF; (focus (rfl)); (focus (decide)))); clear H; intro wn H; simp only [Act.put, yA, yB, yC, yD, yE, yF]))
          go_roundg 2
          case measure => omega
          case rel => exact ⟨1, rfl, congrArg Value.string (by first | exact letstep A 6 0 (Utf8.encode 97) (by simp) (by decide +kernel) | exact letstep0 A 6 0 (by simp) (by decide +kernel)), H.sel sF⟩
        · go_wp2_with (first | ((((with_reducible apply st_load1 H); decide +kernel; rfl; exact cF)); clear H; intro wn H; (try simp only [splice, yG, yH, yI, yJ, yK, yL, yM, yN, yO, yP, yQ, Nat.reduceAdd, yA, yB, yC] at H); simp only [Act.put, yA, yB, yC, yD, yE, yF]) | ((first | ((with_reducible apply st_strsum H); rfl; rfl; exact szF; kernel_rfl) | ((with_reducible apply st_next H); rfl; exact uF; (focus (rfl)); (focus (decide)))); clear H; intro wn H; simp only [Act.put, yA, yB, yC, yD, yE, yF]))
          go_roundg 1
          case measure => omega
          case rel => exact ⟨2, rfl, congrArg Value.string (by first | exact letstep A 6 1 (Utf8.encode 98) (by simp) (by decide +kernel) | exact letstep0 A 6 1 (by simp) (by decide +kernel)), H.sel sF⟩
        · go_wp2_with (first | ((((with_reducible apply st_load1 H); decide +kernel; rfl; exact cF)); clear H; intro wn H; (try simp only [splice, yG, yH, yI, yJ, yK, yL, yM, yN, yO, yP, yQ, Nat.reduceAdd, yA, yB, yC] at H); simp only [Act.put, yA, yB, yC, yD, yE, yF]) | ((first | ((with_reducible apply st_strsum H); rfl; rfl; exact szF; kernel_rfl) | ((with_reducible apply st_next H); rfl; exact uF; (focus (rfl)); (focus (decide)))); clear H; intro wn H; simp only [Act.put, yA, yB, yC, yD, yE, yF]))
          go_roundg 0
          case measure => omega
          case rel => exact ⟨3, rfl, congrArg Value.string (by first | exact letstep A 6 2 (Utf8.encode 99) (by simp) (by decide +kernel) | exact letstep0 A 6 2 (by simp) (by decide +kernel)), H.sel sF⟩
        · go_wp2_with (((((with_reducible apply st_nextend H); rfl; exact iF; (focus (decide)))); clear H; intro wn H; simp only [Act.put, yA, yB, yC, yD, yE, yF]))
          go_ret
          exact ⟨by rw [HT.out]; simp, H.below⟩
    · go_enter Tryz.func24, Tryz.ntmps24
      go_wp2_with (first | ((first | ((with_reducible apply st_load1 H); decide +kernel; rfl; exact cF) | ((with_reducible apply st_loads H); decide +kernel; rfl; exact iF; exact zF; rfl)); clear H; intro wn H; (try simp only [splice, yG, yH, yI, yJ, yK, yL, yM, yN, yO, yP, yQ, Nat.reduceAdd, yA, yB, yC] at H); simp only [Act.put, yA, yB, yC, yD, yE, yF]) | ((first | ((with_reducible apply st_box (dst := some 1) H); exact nF; intro b1) | ((with_reducible apply st_strsum H); rfl; rfl; exact szF; kernel_rfl) | ((with_reducible apply st_range H); rfl; kernel_rfl; intro bi)); clear H; intro wn H; simp only [Act.put, yA, yB, yC, yD, yE, yF]) | ((first | (go_at_call 48; refine gvF (hL _) H ?_) | (go_at_call 66; refine gvF (hF _) H ?_)); clear H; intro wn H))
      go_loopg [3, 4, 5] 3 (fun n t _ _ wr => ∃ i : Nat, i + n = 3 ∧ t = .string (bs (A ++ [58] ++ letters 7 i)) ∧ Hs noRow w [Hl.iter bi ⟨#[97, 98, 99]⟩ i, Hl.blk b1 24 #[.int .i64 a, .int .i64 7]] wr)
      case atStart => exact ⟨0, rfl, congrArg Value.string (show bs A ++ bs [58] = _ by rw [bs_append]; congr 1; simp [letters]), H⟩
      case round =>
        clear H
        obtain ⟨i, hi, rfl, H⟩ := hrel
        have hii : i = 0 ∨ i = 1 ∨ i = 2 ∨ i = 3 := by omega
        have hll : ∀ i, (letters 7 i).length ≤ i := fun i => letters_len 7 i
        have hl0 := hll 0
        have hl1 := hll 1
        have hl2 := hll 2
        have hl3 := hll 3
        clear hll
        rcases hii with rfl | rfl | rfl | rfl
        · go_wp2_with (first | ((((with_reducible apply st_load1 H); decide +kernel; rfl; exact cF)); clear H; intro wn H; (try simp only [splice, yG, yH, yI, yJ, yK, yL, yM, yN, yO, yP, yQ, Nat.reduceAdd, yA, yB, yC] at H); simp only [Act.put, yA, yB, yC, yD, yE, yF]) | ((first | ((with_reducible apply st_strsum H); rfl; rfl; exact szF; kernel_rfl) | ((with_reducible apply st_next H); rfl; exact uF; (focus (rfl)); (focus (decide)))); clear H; intro wn H; simp only [Act.put, yA, yB, yC, yD, yE, yF]))
          go_roundg 2
          case measure => omega
          case rel => exact ⟨1, rfl, congrArg Value.string (by first | exact letstep A 7 0 (Utf8.encode 97) (by simp) (by decide +kernel) | exact letstep0 A 7 0 (by simp) (by decide +kernel)), H.sel sF⟩
        · go_wp2_with (first | ((((with_reducible apply st_load1 H); decide +kernel; rfl; exact cF)); clear H; intro wn H; (try simp only [splice, yG, yH, yI, yJ, yK, yL, yM, yN, yO, yP, yQ, Nat.reduceAdd, yA, yB, yC] at H); simp only [Act.put, yA, yB, yC, yD, yE, yF]) | ((first | ((with_reducible apply st_strsum H); rfl; rfl; exact szF; kernel_rfl) | ((with_reducible apply st_next H); rfl; exact uF; (focus (rfl)); (focus (decide)))); clear H; intro wn H; simp only [Act.put, yA, yB, yC, yD, yE, yF]))
          go_roundg 1
          case measure => omega
          case rel => exact ⟨2, rfl, congrArg Value.string (by first | exact letstep A 7 1 (Utf8.encode 98) (by simp) (by decide +kernel) | exact letstep0 A 7 1 (by simp) (by decide +kernel)), H.sel sF⟩
        · go_wp2_with (first | ((((with_reducible apply st_load1 H); decide +kernel; rfl; exact cF)); clear H; intro wn H; (try simp only [splice, yG, yH, yI, yJ, yK, yL, yM, yN, yO, yP, yQ, Nat.reduceAdd, yA, yB, yC] at H); simp only [Act.put, yA, yB, yC, yD, yE, yF]) | ((first | ((with_reducible apply st_strsum H); rfl; rfl; exact szF; kernel_rfl) | ((with_reducible apply st_next H); rfl; exact uF; (focus (rfl)); (focus (decide)))); clear H; intro wn H; simp only [Act.put, yA, yB, yC, yD, yE, yF]))
          go_roundg 0
          case measure => omega
          case rel => exact ⟨3, rfl, congrArg Value.string (by first | exact letstep A 7 2 (Utf8.encode 99) (by simp) (by decide +kernel) | exact letstep0 A 7 2 (by simp) (by decide +kernel)), H.sel sF⟩
        · go_wp2_with (((((with_reducible apply st_nextend H); rfl; exact iF; (focus (decide)))); clear H; intro wn H; simp only [Act.put, yA, yB, yC, yD, yE, yF]))
          go_ret
          exact ⟨by rw [HT.out]; simp, H.below⟩
end Go.Proofs.YtfblolkkajppcaaGreatDoor
