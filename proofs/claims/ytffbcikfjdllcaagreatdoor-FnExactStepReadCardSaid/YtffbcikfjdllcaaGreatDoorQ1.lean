/-
  The small functions of OpRead: the words cut, a word by its number, numbers, the place of a word: the walks.
-/
import Derived.Test.YtffbcikfjdllcaaGreatDoorQ0
import Derived.Test.YtffbcikfjdllcaaGreatDoorSh
set_option linter.unusedSimpArgs false
set_option linter.unusedVariables false
namespace Go.Proofs.YtffbcikfjdllcaaGreatDoor
open Go.RowKit M

/-- what a walk asks of the library's variables -/
structure Env (w : World) : Prop where
  tab : Tab w
  e1 : ∃ ev, w.cell? ⟨1, 0, none⟩ = some ev ∧ (ev = .nilIface ∨ ∃ te pe, ev = .iface te pe)
  e2 : ∃ ev, w.cell? ⟨2, 0, none⟩ = some ev ∧ (ev = .nilIface ∨ ∃ te pe, ev = .iface te pe)
  mx : ∃ m, w.cell? ⟨0, 0, none⟩ = some (.int .i64 m)
theorem cell_later {w w' : World} {a : Addr} {v : Value} (h : w.cell? a = some v) (hb : Below w.heap.size w w') : w'.cell? a = some v :=
  (hb.cell (World.block_lt_of_cell? w a h)).trans h
theorem Env.later {w w' : World} (h : Env w) (hb : Below w.heap.size w w') : Env w' where
  tab := h.tab.later hb
  e1 := let ⟨ev, h1, h2⟩ := h.e1; ⟨ev, cell_later h1 hb, h2⟩
  e2 := let ⟨ev, h1, h2⟩ := h.e2; ⟨ev, cell_later h1 hb, h2⟩
  mx := let ⟨m, h1⟩ := h.mx; ⟨m, cell_later h1 hb⟩
/-- strings.Split at a space: the words in a new block -/
theorem split_l (t : ByteArray) (ht : t.size ≤ 8000) (w : World) (hE : Env w) :
    Rets Tryz.prog [] 42 #[.string t, .string ⟨#[32]⟩] w (tSl 9 (cut [] t.data.toList).length (strs (cut [] t.data.toList)).toArray) := by
  obtain ⟨m, hm⟩ := hE.mx
  have h := Any.strings_Split { Tryz.laysM146 with } Tryz.laysM146.i9 t ⟨#[32]⟩ m w (by omega) hm (by decide)
  rw [count_cut, split_cut] at h
  exact h.mono fun e w' ⟨he, hw⟩ => ⟨_, _, he, ⟨w.heap.size, rfl, rfl⟩, by subst hw; exact (Hs.newblk w _ _).hk⟩
theorem parse_ok (l : Bs) (hl : l.length ≤ 8000) (w : World) (hE : Env w) :
    Calls Tryz.prog 69 #[.string (bs l), .int .i64 10, .int .i64 64] w fun e w' => ∃ ev, e = .returned (.tuple #[.int .i64 (numI l), ev]) ∧ Below w.heap.size w w' := by
  obtain ⟨e1, h1, h1'⟩ := hE.e1
  obtain ⟨e2, h2, h2'⟩ := hE.e2
  have hz : (bs l).size = l.length := rfl
  unfold numI
  cases hp : Lib.parseIntB 64 l with
  | ok v =>
    exact (Any.strconv_ParseInt_10_at64_ok Tryz.laysC174 (bs l) (by omega) v hp w).mono fun e w' ⟨he, hw⟩ => ⟨_, he, by
      rcases hw with rfl | ⟨t, rfl⟩
      · exact Below.refl _ _
      · exact Lib.bytesWorld_below _ _ _⟩
  | «syntax» =>
    exact (Any.strconv_ParseInt_10_at64_syntax Tryz.laysC174 (bs l) (by omega) hp e1 w h1 h1').mono fun e w' ⟨N, he, _, _, hw⟩ => ⟨_, he, hw⟩
  | range =>
    exact (Any.strconv_ParseInt_10_at64_range Tryz.laysC174 (bs l) (by omega) hp e2 w h2 h2').mono fun e w' ⟨N, he, _, _, hw⟩ => ⟨_, he, hw⟩
theorem number_i (l : Bs) (hl : l.length ≤ 8000) (w : World) (hE : Env w) : Gives Tryz.prog 28 #[.string (bs l)] w (.int .i64 (numI l)) := by
  unfold Gives
  have H := Hs.start noRow w
  have hP := parse_ok l hl w hE
  generalize numI l = n at *
  clear hE
  go_enter Tryz.func28, Tryz.ntmps28
  go_wp2_with (go_at_call 69; refine hP.mono ?_; rintro e w1 ⟨ev, rfl, hb⟩)
  go_wp2
  go_ret
  exact ⟨rfl, hb⟩
theorem word_i (ws : List Bs) (k : Nat) (hk : k ≤ 1000) (b g : Nat) (w : World) (hb : w.cell? ⟨b, 0, none⟩ = some (.slice (some ⟨g, 0, none⟩) ws.length ws.length)) (hw : ∀ x, ws[k]? = some x → w.cell? ⟨g, k, none⟩ = some (.string (bs x))) :
    Gives Tryz.prog 43 #[.int .i64 k, .pointer (some ⟨b, 0, none⟩)] w (.string (bs (getW ws k))) := by
  unfold Gives
  have H := Hs.start noRow w
  by_cases hl : k < ws.length
  · obtain ⟨x, hx⟩ : ∃ x, ws[k]? = some x := ⟨ws[k], List.getElem?_eq_getElem hl⟩
    have hc := hw x hx
    have hg : getW ws k = x := by unfold getW; rw [List.getD_eq_getElem?_getD, hx]; rfl
    rw [hg]
    have hl1 : (k : Int) < ws.length := by omega
    clear hw hx hg
    generalize ws.length = n at *
    go_enter Tryz.func43, Tryz.ntmps43
    go_wp2_with (first | ((with_reducible apply st_want); rfl) | ((with_reducible apply st_skip); rfl; simp only [Act.put, yA, yB, yC, yD, yE, yF]) | ((first | ((with_reducible apply st_load1 H); decide +kernel; rfl; exact cF) | ((with_reducible apply st_loads H); decide +kernel; rfl; exact iF; exact zF; rfl) | ((with_reducible apply st_store H); rfl; exact eF; (focus (exact cells_agg _)); exact uF; kernel_rfl; (focus (exact Nat.le_of_ble_eq_true (by rfl))); (focus (first | rfl | simp))) | ((with_reducible apply st_storeown H); rfl; exact eF; (focus (exact (rfl : _ = [_]))); exact uF; (focus omega); kernel_rfl; rfl)); clear H; intro wn H; (try simp only [splice, yG, yH, yI, yJ, yK, yL, yM, yN, yO, yP, yQ, Nat.reduceAdd, yA, yB, yC] at H); simp only [Act.put, yA, yB, yC, yD, yE, yF]) | ((first | ((with_reducible apply st_strsum H); rfl; rfl; exact szF; kernel_rfl)); clear H; intro wn H; simp only [Act.put, yA, yB, yC, yD, yE, yF]) | fail)
    go_ret
    exact ⟨rfl, H.below⟩
  · have hg : getW ws k = [] := by unfold getW; rw [List.getD_eq_getElem?_getD, List.getElem?_eq_none (by omega)]; rfl
    rw [hg]
    have hl1 : ¬ (k : Int) < ws.length := by omega
    clear hw hg
    generalize ws.length = n at *
    go_enter Tryz.func43, Tryz.ntmps43
    go_wp2_with (first | ((with_reducible apply st_want); rfl) | ((with_reducible apply st_skip); rfl; simp only [Act.put, yA, yB, yC, yD, yE, yF]) | ((first | ((with_reducible apply st_load1 H); decide +kernel; rfl; exact cF) | ((with_reducible apply st_loads H); decide +kernel; rfl; exact iF; exact zF; rfl) | ((with_reducible apply st_store H); rfl; exact eF; (focus (exact cells_agg _)); exact uF; kernel_rfl; (focus (exact Nat.le_of_ble_eq_true (by rfl))); (focus (first | rfl | simp))) | ((with_reducible apply st_storeown H); rfl; exact eF; (focus (exact (rfl : _ = [_]))); exact uF; (focus omega); kernel_rfl; rfl)); clear H; intro wn H; (try simp only [splice, yG, yH, yI, yJ, yK, yL, yM, yN, yO, yP, yQ, Nat.reduceAdd, yA, yB, yC] at H); simp only [Act.put, yA, yB, yC, yD, yE, yF]) | ((first | ((with_reducible apply st_strsum H); rfl; rfl; exact szF; kernel_rfl)); clear H; intro wn H; simp only [Act.put, yA, yB, yC, yD, yE, yF]) | fail)
    go_ret
    exact ⟨rfl, H.below⟩
theorem idx_i (l : List ByteArray) (wd : Bs) (g : Nat) (w : World) (hl : l.length ≤ 100) (hc : ∀ k x, l[k]? = some x → w.cell? ⟨g, k, none⟩ = some (.string x)) :
    Gives Tryz.prog 45 #[.slice (some ⟨g, 0, none⟩) l.length l.length, .string (bs wd)] w (.int .i64 (idxIn l wd)) := by
  unfold Gives
  have H := Hs.start noRow w
  have HC := Lib.hid hc
  obtain ⟨n, hn⟩ : ∃ n, n = l.length := ⟨_, rfl⟩
  rw [← hn]
  have hN := Lib.hid hn
  have hn1 : n ≤ 100 := by rw [hn]; exact hl
  clear hc hn hl
  go_enter Tryz.func45, Tryz.ntmps45
  go_wp2_with (first | ((with_reducible apply st_want); rfl) | ((with_reducible apply st_skip); rfl; simp only [Act.put, yA, yB, yC, yD, yE, yF]) | ((first | ((with_reducible apply st_load1 H); decide +kernel; rfl; exact cF) | ((with_reducible apply st_loads H); decide +kernel; rfl; exact iF; exact zF; rfl) | ((with_reducible apply st_store H); rfl; exact eF; (focus (exact cells_agg _)); exact uF; kernel_rfl; (focus (exact Nat.le_of_ble_eq_true (by rfl))); (focus (first | rfl | simp))) | ((with_reducible apply st_storeown H); rfl; exact eF; (focus (exact (rfl : _ = [_]))); exact uF; (focus omega); kernel_rfl; rfl)); clear H; intro wn H; (try simp only [splice, yG, yH, yI, yJ, yK, yL, yM, yN, yO, yP, yQ, Nat.reduceAdd, yA, yB, yC] at H); simp only [Act.put, yA, yB, yC, yD, yE, yF]) | ((first | ((with_reducible apply st_strsum H); rfl; rfl; exact szF; kernel_rfl)); clear H; intro wn H; simp only [Act.put, yA, yB, yC, yD, yE, yF]) | fail)
  go_loopg [5, 6, 9] n (fun m _ _ iv wr => ∃ j : Nat, j + m = n ∧ iv = .int .i64 j ∧ Hid (idxIn.go wd j (l.drop j) = idxIn l wd) ∧ Hs noRow w [] wr)
  case atStart => exact ⟨0, by omega, rfl, Lib.hid rfl, H⟩
  case round =>
    clear H
    obtain ⟨j, hj, rfl, HI, H⟩ := hrel
    by_cases hlt : j < n
    · have hlt1 : (j : Int) < n := by omega
      obtain ⟨x, hx⟩ : ∃ x, l[j]? = some x := ⟨l[j]'(by rw [← hN.out]; exact hlt), List.getElem?_eq_getElem (by rw [← hN.out]; exact hlt)⟩
      have hcj := HC.out j x hx
      have hd : l.drop j = x :: l.drop (j + 1) := by
        obtain ⟨h1, h2⟩ := List.getElem?_eq_some_iff.1 hx
        rw [← h2]; exact List.drop_eq_getElem_cons h1
      have HJ := HI.out
      rw [hd, idxIn.go] at HJ
      clear HI hx hd
      by_cases hxe : x = bs wd
      · rw [if_pos hxe] at HJ
        have HR := Lib.hid HJ
        have hq : (x.toList == (bs wd).toList) = true := by rw [str_beq, hxe]; simp
        clear hxe HJ
        go_wp2_with (first | ((with_reducible apply st_want); rfl) | ((with_reducible apply st_skip); rfl; simp only [Act.put, yA, yB, yC, yD, yE, yF]) | ((first | ((with_reducible apply st_load1 H); decide +kernel; rfl; exact cF) | ((with_reducible apply st_loads H); decide +kernel; rfl; exact iF; exact zF; rfl) | ((with_reducible apply st_store H); rfl; exact eF; (focus (exact cells_agg _)); exact uF; kernel_rfl; (focus (exact Nat.le_of_ble_eq_true (by rfl))); (focus (first | rfl | simp))) | ((with_reducible apply st_storeown H); rfl; exact eF; (focus (exact (rfl : _ = [_]))); exact uF; (focus omega); kernel_rfl; rfl)); clear H; intro wn H; (try simp only [splice, yG, yH, yI, yJ, yK, yL, yM, yN, yO, yP, yQ, Nat.reduceAdd, yA, yB, yC] at H); simp only [Act.put, yA, yB, yC, yD, yE, yF]) | ((first | ((with_reducible apply st_strsum H); rfl; rfl; exact szF; kernel_rfl)); clear H; intro wn H; simp only [Act.put, yA, yB, yC, yD, yE, yF]) | fail)
        go_ret
        exact ⟨by rw [HR.out]; rfl, H.below⟩
      · rw [if_neg hxe] at HJ
        have HR := Lib.hid HJ
        have hq : (x.toList == (bs wd).toList) = false := by rw [str_beq]; simpa using hxe
        clear hxe HJ
        go_wp2_with (first | ((with_reducible apply st_want); rfl) | ((with_reducible apply st_skip); rfl; simp only [Act.put, yA, yB, yC, yD, yE, yF]) | ((first | ((with_reducible apply st_load1 H); decide +kernel; rfl; exact cF) | ((with_reducible apply st_loads H); decide +kernel; rfl; exact iF; exact zF; rfl) | ((with_reducible apply st_store H); rfl; exact eF; (focus (exact cells_agg _)); exact uF; kernel_rfl; (focus (exact Nat.le_of_ble_eq_true (by rfl))); (focus (first | rfl | simp))) | ((with_reducible apply st_storeown H); rfl; exact eF; (focus (exact (rfl : _ = [_]))); exact uF; (focus omega); kernel_rfl; rfl)); clear H; intro wn H; (try simp only [splice, yG, yH, yI, yJ, yK, yL, yM, yN, yO, yP, yQ, Nat.reduceAdd, yA, yB, yC] at H); simp only [Act.put, yA, yB, yC, yD, yE, yF]) | ((first | ((with_reducible apply st_strsum H); rfl; rfl; exact szF; kernel_rfl)); clear H; intro wn H; simp only [Act.put, yA, yB, yC, yD, yE, yF]) | fail)
        go_roundg (n - (j + 1))
        case measure => omega
        case rel => exact ⟨j + 1, by omega, by go_num, HR, H⟩
    · obtain rfl : j = n := by omega
      have hlt1 : ¬ (j : Int) < j := by omega
      have HR : Hid (idxIn l wd = 0) := Lib.hid (by rw [← HI.out, List.drop_of_length_le (by rw [← hN.out]; exact Nat.le_refl _)]; rfl)
      go_wp2_with (first | ((with_reducible apply st_want); rfl) | ((with_reducible apply st_skip); rfl; simp only [Act.put, yA, yB, yC, yD, yE, yF]) | ((first | ((with_reducible apply st_load1 H); decide +kernel; rfl; exact cF) | ((with_reducible apply st_loads H); decide +kernel; rfl; exact iF; exact zF; rfl) | ((with_reducible apply st_store H); rfl; exact eF; (focus (exact cells_agg _)); exact uF; kernel_rfl; (focus (exact Nat.le_of_ble_eq_true (by rfl))); (focus (first | rfl | simp))) | ((with_reducible apply st_storeown H); rfl; exact eF; (focus (exact (rfl : _ = [_]))); exact uF; (focus omega); kernel_rfl; rfl)); clear H; intro wn H; (try simp only [splice, yG, yH, yI, yJ, yK, yL, yM, yN, yO, yP, yQ, Nat.reduceAdd, yA, yB, yC] at H); simp only [Act.put, yA, yB, yC, yD, yE, yF]) | ((first | ((with_reducible apply st_strsum H); rfl; rfl; exact szF; kernel_rfl)); clear H; intro wn H; simp only [Act.put, yA, yB, yC, yD, yE, yF]) | fail)
      go_ret
      exact ⟨by rw [HR.out]; rfl, H.below⟩
end Go.Proofs.YtffbcikfjdllcaaGreatDoor
