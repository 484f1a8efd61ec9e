/-
  Labels read from texts; operations compared: the walks.
-/
import Derived.Test.YtffbcikfjdllcaaGreatDoorQ2
set_option linter.unusedSimpArgs false
set_option linter.unusedVariables false
namespace Go.Proofs.YtffbcikfjdllcaaGreatDoor
open Go.RowKit M

namespace M
def labCells (n : Nat) : List Value := (labs.take n).flatMap fun p => [.int .i64 p.1, .int .i64 p.2]
theorem labCells_step {i j : Nat} (hi : i < 4) (hj : j < 8) : labCells (8 * i + j) ++ [.int .i64 i, .int .i64 j] = labCells (8 * i + (j + 1)) := by
  have hi : i = 0 ∨ i = 1 ∨ i = 2 ∨ i = 3 := by omega
  have hj : j = 0 ∨ j = 1 ∨ j = 2 ∨ j = 3 ∨ j = 4 ∨ j = 5 ∨ j = 6 ∨ j = 7 := by omega
  rcases hi with rfl | rfl | rfl | rfl <;> rcases hj with rfl | rfl | rfl | rfl | rfl | rfl | rfl | rfl <;> rfl
theorem labs_at : ∀ k : Nat, k < 32 → ∃ a b : Nat, a < 4 ∧ b < 8 ∧ k = 8 * a + b ∧ labs[k]? = some ((a : Int), (b : Int)) ∧ (labCells 32)[k * 2]? = some (.int .i64 a) ∧ (labCells 32)[k * 2 + 1]? = some (.int .i64 b) := by
  intro k hk
  refine ⟨k / 8, k % 8, by omega, by omega, by omega, ?_⟩
  have hk : k = 0 ∨ k = 1 ∨ k = 2 ∨ k = 3 ∨ k = 4 ∨ k = 5 ∨ k = 6 ∨ k = 7 ∨ k = 8 ∨ k = 9 ∨ k = 10 ∨ k = 11 ∨ k = 12 ∨ k = 13 ∨ k = 14 ∨ k = 15 ∨ k = 16 ∨ k = 17 ∨ k = 18 ∨ k = 19 ∨ k = 20 ∨ k = 21 ∨ k = 22 ∨ k = 23 ∨ k = 24 ∨ k = 25 ∨ k = 26 ∨ k = 27 ∨ k = 28 ∨ k = 29 ∨ k = 30 ∨ k = 31 := by omega
  rcases hk with rfl | rfl | rfl | rfl | rfl | rfl | rfl | rfl | rfl | rfl | rfl | rfl | rfl | rfl | rfl | rfl | rfl | rfl | rfl | rfl | rfl | rfl | rfl | rfl | rfl | rfl | rfl | rfl | rfl | rfl | rfl | rfl <;> exact ⟨rfl, rfl, rfl⟩
def labCode (t : Bs) : Int := if labFind t = none then 3 else 0
/-- the search goes on behind k labels -/
def labFrom (t : Bs) (k : Nat) : Option (Int × Int) := (labs.drop k).find? fun p => labelText p.1 p.2 == t
theorem labFrom_step {t : Bs} {k : Nat} {a b : Int} (h : labs[k]? = some (a, b)) : labFrom t k = if labelText a b == t then some (a, b) else labFrom t (k + 1) := by
  unfold labFrom
  obtain ⟨h1, h2⟩ := List.getElem?_eq_some_iff.1 h
  rw [List.drop_eq_getElem_cons h1, List.find?_cons, h2]
  cases labelText a b == t <;> rfl
theorem labFrom_end (t : Bs) : labFrom t 32 = none := rfl
theorem lab_some {t : Bs} {a b : Int} (h : labFind t = some (a, b)) : lab t = (a, b) ∧ labCode t = 0 := by unfold lab labCode; rw [h]; exact ⟨rfl, rfl⟩
theorem lab_none {t : Bs} (h : labFind t = none) : lab t = (0, 0) ∧ labCode t = 3 := by unfold lab labCode; rw [h]; exact ⟨rfl, rfl⟩
end M
theorem bs_beq (x y : Bs) : ((bs x).toList == (bs y).toList) = (x == y) := by
  rw [str_beq]
  by_cases h : x = y
  · subst h; simp
  · have : bs x ≠ bs y := fun e => h (bs_inj.1 e)
    simp [this, h]
/-- the row of all labels -/
def tLabs (v : Value) (M : List Hl) : Prop := ∃ g c, v = .slice (some ⟨g, 0, none⟩) 32 c ∧ M = [Hl.own 23 2 v 32 (labCells 32)]
set_option maxRecDepth 100000 in
set_option maxHeartbeats 4000000 in
theorem allLabels_i (w : World) : Rets Tryz.prog [] 78 #[] w tLabs := by
  have H := Hs.start noRow w
  go_enter Tryz.func78, Tryz.ntmps78
  go_wp2_with (first | ((with_reducible apply st_want); rfl) | ((with_reducible apply st_skip); rfl; simp only [Act.put, yA, yB, yC, yD, yE, yF]) | ((first | ((with_reducible apply st_load1 H); decide +kernel; rfl; exact cF) | ((with_reducible apply st_loads H); decide +kernel; rfl; exact iF; exact zF; rfl) | ((with_reducible apply st_store H); rfl; exact eF; (focus (exact cells_agg _)); exact uF; kernel_rfl; (focus (exact Nat.le_of_ble_eq_true (by rfl))); (focus (first | rfl | simp))) | ((with_reducible apply st_storeown H); rfl; exact eF; (focus (exact (rfl : _ = [_]))); exact uF; (focus omega); kernel_rfl; rfl)); clear H; intro wn H; (try simp only [splice, yG, yH, yI, yJ, yK, yL, yM, yN, yO, yP, yQ, Nat.reduceAdd, yA, yB, yC] at H); simp only [Act.put, yA, yB, yC, yD, yE, yF]) | ((first | ((with_reducible apply st_strsum H); rfl; rfl; exact szF; kernel_rfl) | ((with_reducible apply st_bslice H); exact nsF; intro nb)); clear H; intro wn H; simp only [Act.put, yA, yB, yC, yD, yE, yF]) | ((with_reducible apply st_appendb H); (first | ((focus (with_reducible exact dH)); rfl) | ((focus (with_reducible exact dT (dH))); rfl) | ((focus (with_reducible exact dT (dT (dH)))); rfl) | ((focus (with_reducible exact dT (dT (dT (dH))))); rfl) | ((focus (with_reducible exact dT (dT (dT (dT (dH)))))); rfl) | ((focus (with_reducible exact dT (dT (dT (dT (dT (dH))))))); rfl) | ((focus (with_reducible exact dT (dT (dT (dT (dT (dT (dH)))))))); rfl)); rfl; exact iF; kernel_rfl; rfl; rfl; (focus (first | omega | (simp; done) | (simp; omega))); clear H; intro vq wn H; (try simp only [yM, yN, yO] at H); simp only [Act.put, yA, yB, yC, yD, yE, yF]) | fail)
  have Hn := H.toOwn (g := nb) (E := 23) 2 0 uF rfl (by decide); clear H; have H := Hn; clear Hn
  go_loopg [1, 2, 3, 5] 4 (fun m ov _ _ iv wr => ∃ (i : Nat) (v : Value), i + m = 4 ∧ iv = .int .i64 i ∧ ov = v ∧ Hs noRow w [Hl.own 23 2 v (8 * i + 0) (labCells (8 * i + 0))] wr)
  case atStart => exact ⟨0, _, by omega, rfl, rfl, H⟩
  case round =>
    clear H
    obtain ⟨i, v, hi, rfl, rfl, H⟩ := hrel
    by_cases hlt : i < 4
    · have l1 : (i : Int) < 4 := by omega
      go_wp2_with (first | ((with_reducible apply st_want); rfl) | ((with_reducible apply st_skip); rfl; simp only [Act.put, yA, yB, yC, yD, yE, yF]) | ((first | ((with_reducible apply st_load1 H); decide +kernel; rfl; exact cF) | ((with_reducible apply st_loads H); decide +kernel; rfl; exact iF; exact zF; rfl) | ((with_reducible apply st_store H); rfl; exact eF; (focus (exact cells_agg _)); exact uF; kernel_rfl; (focus (exact Nat.le_of_ble_eq_true (by rfl))); (focus (first | rfl | simp))) | ((with_reducible apply st_storeown H); rfl; exact eF; (focus (exact (rfl : _ = [_]))); exact uF; (focus omega); kernel_rfl; rfl)); clear H; intro wn H; (try simp only [splice, yG, yH, yI, yJ, yK, yL, yM, yN, yO, yP, yQ, Nat.reduceAdd, yA, yB, yC] at H); simp only [Act.put, yA, yB, yC, yD, yE, yF]) | ((first | ((with_reducible apply st_strsum H); rfl; rfl; exact szF; kernel_rfl) | ((with_reducible apply st_bslice H); exact nsF; intro nb)); clear H; intro wn H; simp only [Act.put, yA, yB, yC, yD, yE, yF]) | ((with_reducible apply st_appendb H); (first | ((focus (with_reducible exact dH)); rfl) | ((focus (with_reducible exact dT (dH))); rfl) | ((focus (with_reducible exact dT (dT (dH)))); rfl) | ((focus (with_reducible exact dT (dT (dT (dH))))); rfl) | ((focus (with_reducible exact dT (dT (dT (dT (dH)))))); rfl) | ((focus (with_reducible exact dT (dT (dT (dT (dT (dH))))))); rfl) | ((focus (with_reducible exact dT (dT (dT (dT (dT (dT (dH)))))))); rfl)); rfl; exact iF; kernel_rfl; rfl; rfl; (focus (first | omega | (simp; done) | (simp; omega))); clear H; intro vq wn H; (try simp only [yM, yN, yO] at H); simp only [Act.put, yA, yB, yC, yD, yE, yF]) | fail)
      go_loopg [1, 3, 8] 8 (fun m ov _ jv wr => ∃ (j : Nat) (v : Value), j + m = 8 ∧ jv = .int .i64 j ∧ ov = v ∧ Hs noRow w [Hl.own 23 2 v (8 * i + j) (labCells (8 * i + j))] wr)
      case atStart => exact ⟨0, _, by omega, rfl, rfl, H⟩
      case round =>
        clear H
        obtain ⟨j, v, hj, rfl, rfl, H⟩ := hrel
        by_cases hlj : j < 8
        · have l2 : (j : Int) < 8 := by omega
          have HK := Lib.hid (labCells_step hlt hlj)
          go_wp2_with (first | ((with_reducible apply st_want); rfl) | ((with_reducible apply st_skip); rfl; simp only [Act.put, yA, yB, yC, yD, yE, yF]) | ((first | ((with_reducible apply st_load1 H); decide +kernel; rfl; exact cF) | ((with_reducible apply st_loads H); decide +kernel; rfl; exact iF; exact zF; rfl) | ((with_reducible apply st_store H); rfl; exact eF; (focus (exact cells_agg _)); exact uF; kernel_rfl; (focus (exact Nat.le_of_ble_eq_true (by rfl))); (focus (first | rfl | simp))) | ((with_reducible apply st_storeown H); rfl; exact eF; (focus (exact (rfl : _ = [_]))); exact uF; (focus omega); kernel_rfl; rfl)); clear H; intro wn H; (try simp only [splice, yG, yH, yI, yJ, yK, yL, yM, yN, yO, yP, yQ, Nat.reduceAdd, yA, yB, yC] at H); simp only [Act.put, yA, yB, yC, yD, yE, yF]) | ((first | ((with_reducible apply st_strsum H); rfl; rfl; exact szF; kernel_rfl) | ((with_reducible apply st_bslice H); exact nsF; intro nb)); clear H; intro wn H; simp only [Act.put, yA, yB, yC, yD, yE, yF]) | ((with_reducible apply st_appendb H); (first | ((focus (with_reducible exact dH)); rfl) | ((focus (with_reducible exact dT (dH))); rfl) | ((focus (with_reducible exact dT (dT (dH)))); rfl) | ((focus (with_reducible exact dT (dT (dT (dH))))); rfl) | ((focus (with_reducible exact dT (dT (dT (dT (dH)))))); rfl) | ((focus (with_reducible exact dT (dT (dT (dT (dT (dH))))))); rfl) | ((focus (with_reducible exact dT (dT (dT (dT (dT (dT (dH)))))))); rfl)); rfl; exact iF; kernel_rfl; rfl; rfl; (focus (first | omega | (simp; done) | (simp; omega))); clear H; intro vq wn H; (try simp only [yM, yN, yO] at H); simp only [Act.put, yA, yB, yC, yD, yE, yF]) | fail)
          go_roundg (8 - (j + 1))
          case measure => omega
          case rel => exact ⟨j + 1, _, by omega, by go_num, rfl, by rw [← HK.out, show 8 * i + (j + 1) = 8 * i + j + 1 from rfl]; exact H.sel sF⟩
        · obtain rfl : j = 8 := by omega
          go_wp2_with (first | ((with_reducible apply st_want); rfl) | ((with_reducible apply st_skip); rfl; simp only [Act.put, yA, yB, yC, yD, yE, yF]) | ((first | ((with_reducible apply st_load1 H); decide +kernel; rfl; exact cF) | ((with_reducible apply st_loads H); decide +kernel; rfl; exact iF; exact zF; rfl) | ((with_reducible apply st_store H); rfl; exact eF; (focus (exact cells_agg _)); exact uF; kernel_rfl; (focus (exact Nat.le_of_ble_eq_true (by rfl))); (focus (first | rfl | simp))) | ((with_reducible apply st_storeown H); rfl; exact eF; (focus (exact (rfl : _ = [_]))); exact uF; (focus omega); kernel_rfl; rfl)); clear H; intro wn H; (try simp only [splice, yG, yH, yI, yJ, yK, yL, yM, yN, yO, yP, yQ, Nat.reduceAdd, yA, yB, yC] at H); simp only [Act.put, yA, yB, yC, yD, yE, yF]) | ((first | ((with_reducible apply st_strsum H); rfl; rfl; exact szF; kernel_rfl) | ((with_reducible apply st_bslice H); exact nsF; intro nb)); clear H; intro wn H; simp only [Act.put, yA, yB, yC, yD, yE, yF]) | ((with_reducible apply st_appendb H); (first | ((focus (with_reducible exact dH)); rfl) | ((focus (with_reducible exact dT (dH))); rfl) | ((focus (with_reducible exact dT (dT (dH)))); rfl) | ((focus (with_reducible exact dT (dT (dT (dH))))); rfl) | ((focus (with_reducible exact dT (dT (dT (dT (dH)))))); rfl) | ((focus (with_reducible exact dT (dT (dT (dT (dT (dH))))))); rfl) | ((focus (with_reducible exact dT (dT (dT (dT (dT (dT (dH)))))))); rfl)); rfl; exact iF; kernel_rfl; rfl; rfl; (focus (first | omega | (simp; done) | (simp; omega))); clear H; intro vq wn H; (try simp only [yM, yN, yO] at H); simp only [Act.put, yA, yB, yC, yD, yE, yF]) | fail)
          go_roundg (4 - (i + 1))
          case measure => omega
          case rel => exact ⟨i + 1, _, by omega, by go_num, rfl, by rw [show 8 * (i + 1) + 0 = 8 * i + 8 by omega]; exact H.sel sF⟩
    · obtain rfl : i = 4 := by omega
      go_wp2_with (first | ((with_reducible apply st_want); rfl) | ((with_reducible apply st_skip); rfl; simp only [Act.put, yA, yB, yC, yD, yE, yF]) | ((first | ((with_reducible apply st_load1 H); decide +kernel; rfl; exact cF) | ((with_reducible apply st_loads H); decide +kernel; rfl; exact iF; exact zF; rfl) | ((with_reducible apply st_store H); rfl; exact eF; (focus (exact cells_agg _)); exact uF; kernel_rfl; (focus (exact Nat.le_of_ble_eq_true (by rfl))); (focus (first | rfl | simp))) | ((with_reducible apply st_storeown H); rfl; exact eF; (focus (exact (rfl : _ = [_]))); exact uF; (focus omega); kernel_rfl; rfl)); clear H; intro wn H; (try simp only [splice, yG, yH, yI, yJ, yK, yL, yM, yN, yO, yP, yQ, Nat.reduceAdd, yA, yB, yC] at H); simp only [Act.put, yA, yB, yC, yD, yE, yF]) | ((first | ((with_reducible apply st_strsum H); rfl; rfl; exact szF; kernel_rfl) | ((with_reducible apply st_bslice H); exact nsF; intro nb)); clear H; intro wn H; simp only [Act.put, yA, yB, yC, yD, yE, yF]) | ((with_reducible apply st_appendb H); (first | ((focus (with_reducible exact dH)); rfl) | ((focus (with_reducible exact dT (dH))); rfl) | ((focus (with_reducible exact dT (dT (dH)))); rfl) | ((focus (with_reducible exact dT (dT (dT (dH))))); rfl) | ((focus (with_reducible exact dT (dT (dT (dT (dH)))))); rfl) | ((focus (with_reducible exact dT (dT (dT (dT (dT (dH))))))); rfl) | ((focus (with_reducible exact dT (dT (dT (dT (dT (dT (dH)))))))); rfl)); rfl; exact iF; kernel_rfl; rfl; rfl; (focus (first | omega | (simp; done) | (simp; omega))); clear H; intro vq wn H; (try simp only [yM, yN, yO] at H); simp only [Act.put, yA, yB, yC, yD, yE, yF]) | fail)
      obtain ⟨gj, cj, rfl, _, _⟩ := (H.owns iF).form (by decide)
      go_ret
      exact Hs.retN (T := tLabs) (M := [Hl.own 23 2 (.slice (some ⟨gj, 0, none⟩) 32 cj) 32 (labCells 32)]) H lF ⟨gj, cj, rfl, rfl⟩
set_option maxRecDepth 100000 in
set_option maxHeartbeats 4000000 in
theorem labelRead_s (l : Bs) (hl : l.length ≤ 8000) (w : World) : Gives Tryz.prog 49 #[.string (bs l)] w (.agg #[.int .i64 (lab l).1, .int .i64 (lab l).2, .int .i64 (labCode l)]) := by
  unfold Gives
  have H := Hs.start noRow w
  have hsz : (bs l).size = l.length := rfl
  have hl1 : ¬ (8000 : Int) < (bs l).size := by omega
  clear hsz
  go_enter Tryz.func49, Tryz.ntmps49
  go_wp2_with (first | ((with_reducible apply st_want); rfl) | ((with_reducible apply st_skip); rfl; simp only [Act.put, yA, yB, yC, yD, yE, yF]) | ((first | ((with_reducible apply st_load1 H); decide +kernel; rfl; exact cF) | ((with_reducible apply st_loads H); decide +kernel; rfl; exact iF; exact zF; rfl) | ((with_reducible apply st_store H); rfl; exact eF; (focus (exact cells_agg _)); exact uF; kernel_rfl; (focus (exact Nat.le_of_ble_eq_true (by rfl))); (focus (first | rfl | simp))) | ((with_reducible apply st_storeown H); rfl; exact eF; (focus (exact (rfl : _ = [_]))); exact uF; (focus omega); kernel_rfl; rfl)); clear H; intro wn H; (try simp only [splice, yG, yH, yI, yJ, yK, yL, yM, yN, yO, yP, yQ, Nat.reduceAdd, yA, yB, yC] at H); simp only [Act.put, yA, yB, yC, yD, yE, yF]) | ((first | ((with_reducible apply st_alloc (dst := some 2) H); exact nF; intro b2) | ((with_reducible apply st_alloc (dst := some 5) H); exact nF; intro b5) | ((with_reducible apply st_strsum H); rfl; rfl; exact szF; kernel_rfl)); clear H; intro wn H; simp only [Act.put, yA, yB, yC, yD, yE, yF]) | ((first | (go_at_call 79; refine gvF (labelText_s _ _ _) H ?_)); clear H; intro wn H) | fail)
  go_loopg [3, 4, 5] 4 (fun m av _ _ wr => ∃ (i : Nat), i + m = 4 ∧ av = .int .i64 i ∧ Hid (labFrom l (8 * i) = labFind l) ∧ Hs noRow w [Hl.blk b2 67 #[.int .i64 0, .int .i64 0, .int .i64 0]] wr)
  case atStart => exact ⟨0, by omega, rfl, Lib.hid rfl, H.sel sF⟩
  case round =>
    clear H
    obtain ⟨i, hi, rfl, HI, H⟩ := hrel
    by_cases hlt : i < 4
    · have l1 : (i : Int) ≤ 3 := by omega
      go_wp2_with (first | ((with_reducible apply st_want); rfl) | ((with_reducible apply st_skip); rfl; simp only [Act.put, yA, yB, yC, yD, yE, yF]) | ((first | ((with_reducible apply st_load1 H); decide +kernel; rfl; exact cF) | ((with_reducible apply st_loads H); decide +kernel; rfl; exact iF; exact zF; rfl) | ((with_reducible apply st_store H); rfl; exact eF; (focus (exact cells_agg _)); exact uF; kernel_rfl; (focus (exact Nat.le_of_ble_eq_true (by rfl))); (focus (first | rfl | simp))) | ((with_reducible apply st_storeown H); rfl; exact eF; (focus (exact (rfl : _ = [_]))); exact uF; (focus omega); kernel_rfl; rfl)); clear H; intro wn H; (try simp only [splice, yG, yH, yI, yJ, yK, yL, yM, yN, yO, yP, yQ, Nat.reduceAdd, yA, yB, yC] at H); simp only [Act.put, yA, yB, yC, yD, yE, yF]) | ((first | ((with_reducible apply st_alloc (dst := some 2) H); exact nF; intro b2) | ((with_reducible apply st_alloc (dst := some 5) H); exact nF; intro b5) | ((with_reducible apply st_strsum H); rfl; rfl; exact szF; kernel_rfl)); clear H; intro wn H; simp only [Act.put, yA, yB, yC, yD, yE, yF]) | ((first | (go_at_call 79; refine gvF (labelText_s _ _ _) H ?_)); clear H; intro wn H) | fail)
      go_loopg [4, 5] 8 (fun m bv _ wr => ∃ (j : Nat), j + m = 8 ∧ bv = .int .i64 j ∧ Hid (labFrom l (8 * i + j) = labFind l) ∧ Hs noRow w [Hl.blk b2 67 #[.int .i64 0, .int .i64 0, .int .i64 0]] wr)
      case atStart => exact ⟨0, by omega, rfl, Lib.hid HI.out, H.sel sF⟩
      case round =>
        clear H HI
        obtain ⟨j, hj, rfl, HI, H⟩ := hrel
        by_cases hlj : j < 8
        · have l2 : (j : Int) < 8 := by omega
          obtain ⟨a, b, ha, hb, hab, hla, _, _⟩ := labs_at (8 * i + j) (by omega)
          obtain rfl : a = i := by omega
          obtain rfl : b = j := by omega
          have HS := labFrom_step (t := l) hla
          rw [HI.out] at HS
          clear hla hab HI ha hb
          cases hq : labelText (a : Int) (b : Int) == l
          · rw [hq] at HS
            have hB : ((bs (labelText (a : Int) (b : Int))).toList == (bs l).toList) = false := by rw [bs_beq]; exact hq
            have HK : Hid (labFrom l (8 * a + (b + 1)) = labFind l) := Lib.hid HS.symm
            clear hq HS
            go_wp2_with (first | ((with_reducible apply st_want); rfl) | ((with_reducible apply st_skip); rfl; simp only [Act.put, yA, yB, yC, yD, yE, yF]) | ((first | ((with_reducible apply st_load1 H); decide +kernel; rfl; exact cF) | ((with_reducible apply st_loads H); decide +kernel; rfl; exact iF; exact zF; rfl) | ((with_reducible apply st_store H); rfl; exact eF; (focus (exact cells_agg _)); exact uF; kernel_rfl; (focus (exact Nat.le_of_ble_eq_true (by rfl))); (focus (first | rfl | simp))) | ((with_reducible apply st_storeown H); rfl; exact eF; (focus (exact (rfl : _ = [_]))); exact uF; (focus omega); kernel_rfl; rfl)); clear H; intro wn H; (try simp only [splice, yG, yH, yI, yJ, yK, yL, yM, yN, yO, yP, yQ, Nat.reduceAdd, yA, yB, yC] at H); simp only [Act.put, yA, yB, yC, yD, yE, yF]) | ((first | ((with_reducible apply st_alloc (dst := some 2) H); exact nF; intro b2) | ((with_reducible apply st_alloc (dst := some 5) H); exact nF; intro b5) | ((with_reducible apply st_strsum H); rfl; rfl; exact szF; kernel_rfl)); clear H; intro wn H; simp only [Act.put, yA, yB, yC, yD, yE, yF]) | ((first | (go_at_call 79; refine gvF (labelText_s _ _ _) H ?_)); clear H; intro wn H) | fail)
            go_roundg (8 - (b + 1))
            case measure => omega
            case rel => exact ⟨b + 1, by omega, by go_num, HK, H.sel sF⟩
          · rw [hq] at HS
            have hB : ((bs (labelText (a : Int) (b : Int))).toList == (bs l).toList) = true := by rw [bs_beq]; exact hq
            have HK := Lib.hid (lab_some HS)
            clear hq HS
            go_wp2_with (first | ((with_reducible apply st_want); rfl) | ((with_reducible apply st_skip); rfl; simp only [Act.put, yA, yB, yC, yD, yE, yF]) | ((first | ((with_reducible apply st_load1 H); decide +kernel; rfl; exact cF) | ((with_reducible apply st_loads H); decide +kernel; rfl; exact iF; exact zF; rfl) | ((with_reducible apply st_store H); rfl; exact eF; (focus (exact cells_agg _)); exact uF; kernel_rfl; (focus (exact Nat.le_of_ble_eq_true (by rfl))); (focus (first | rfl | simp))) | ((with_reducible apply st_storeown H); rfl; exact eF; (focus (exact (rfl : _ = [_]))); exact uF; (focus omega); kernel_rfl; rfl)); clear H; intro wn H; (try simp only [splice, yG, yH, yI, yJ, yK, yL, yM, yN, yO, yP, yQ, Nat.reduceAdd, yA, yB, yC] at H); simp only [Act.put, yA, yB, yC, yD, yE, yF]) | ((first | ((with_reducible apply st_alloc (dst := some 2) H); exact nF; intro b2) | ((with_reducible apply st_alloc (dst := some 5) H); exact nF; intro b5) | ((with_reducible apply st_strsum H); rfl; rfl; exact szF; kernel_rfl)); clear H; intro wn H; simp only [Act.put, yA, yB, yC, yD, yE, yF]) | ((first | (go_at_call 79; refine gvF (labelText_s _ _ _) H ?_)); clear H; intro wn H) | fail)
            refine bp_cell H rfl rfl iF (by kernel_rfl) (by kernel_rfl) rfl (by first | exact .inl rfl | exact .inr rfl) ?_
            rw [HK.out.1, HK.out.2]
            exact ⟨rfl, H.below⟩
        · obtain rfl : j = 8 := by omega
          go_wp2_with (first | ((with_reducible apply st_want); rfl) | ((with_reducible apply st_skip); rfl; simp only [Act.put, yA, yB, yC, yD, yE, yF]) | ((first | ((with_reducible apply st_load1 H); decide +kernel; rfl; exact cF) | ((with_reducible apply st_loads H); decide +kernel; rfl; exact iF; exact zF; rfl) | ((with_reducible apply st_store H); rfl; exact eF; (focus (exact cells_agg _)); exact uF; kernel_rfl; (focus (exact Nat.le_of_ble_eq_true (by rfl))); (focus (first | rfl | simp))) | ((with_reducible apply st_storeown H); rfl; exact eF; (focus (exact (rfl : _ = [_]))); exact uF; (focus omega); kernel_rfl; rfl)); clear H; intro wn H; (try simp only [splice, yG, yH, yI, yJ, yK, yL, yM, yN, yO, yP, yQ, Nat.reduceAdd, yA, yB, yC] at H); simp only [Act.put, yA, yB, yC, yD, yE, yF]) | ((first | ((with_reducible apply st_alloc (dst := some 2) H); exact nF; intro b2) | ((with_reducible apply st_alloc (dst := some 5) H); exact nF; intro b5) | ((with_reducible apply st_strsum H); rfl; rfl; exact szF; kernel_rfl)); clear H; intro wn H; simp only [Act.put, yA, yB, yC, yD, yE, yF]) | ((first | (go_at_call 79; refine gvF (labelText_s _ _ _) H ?_)); clear H; intro wn H) | fail)
          go_roundg (4 - (i + 1))
          case measure => omega
          case rel => exact ⟨i + 1, by omega, by go_num, HI, H.sel sF⟩
    · obtain rfl : i = 4 := by omega
      have HK := Lib.hid (lab_none (t := l) HI.out.symm)
      go_wp2_with (first | ((with_reducible apply st_want); rfl) | ((with_reducible apply st_skip); rfl; simp only [Act.put, yA, yB, yC, yD, yE, yF]) | ((first | ((with_reducible apply st_load1 H); decide +kernel; rfl; exact cF) | ((with_reducible apply st_loads H); decide +kernel; rfl; exact iF; exact zF; rfl) | ((with_reducible apply st_store H); rfl; exact eF; (focus (exact cells_agg _)); exact uF; kernel_rfl; (focus (exact Nat.le_of_ble_eq_true (by rfl))); (focus (first | rfl | simp))) | ((with_reducible apply st_storeown H); rfl; exact eF; (focus (exact (rfl : _ = [_]))); exact uF; (focus omega); kernel_rfl; rfl)); clear H; intro wn H; (try simp only [splice, yG, yH, yI, yJ, yK, yL, yM, yN, yO, yP, yQ, Nat.reduceAdd, yA, yB, yC] at H); simp only [Act.put, yA, yB, yC, yD, yE, yF]) | ((first | ((with_reducible apply st_alloc (dst := some 2) H); exact nF; intro b2) | ((with_reducible apply st_alloc (dst := some 5) H); exact nF; intro b5) | ((with_reducible apply st_strsum H); rfl; rfl; exact szF; kernel_rfl)); clear H; intro wn H; simp only [Act.put, yA, yB, yC, yD, yE, yF]) | ((first | (go_at_call 79; refine gvF (labelText_s _ _ _) H ?_)); clear H; intro wn H) | fail)
      refine bp_cell H rfl rfl iF (by kernel_rfl) (by kernel_rfl) rfl (by first | exact .inl rfl | exact .inr rfl) ?_
      rw [HK.out.1, HK.out.2]
      exact ⟨rfl, H.below⟩
set_option maxRecDepth 100000 in
set_option maxHeartbeats 4000000 in
theorem labelRead_i (l : Bs) (hl : l.length ≤ 8000) (w : World) : Gives Tryz.prog 44 #[.string (bs l)] w (.agg #[.int .i64 (lab l).1, .int .i64 (lab l).2, .int .i64 (labCode l)]) := by
  unfold Gives
  have H := Hs.start noRow w
  have hsz : (bs l).size = l.length := rfl
  have hL : ∀ w, Gives Tryz.prog 25 #[.string (bs l)] w (.bool false) := fun w => by
    have := isLong_i (bs l) w
    rwa [decide_eq_false (by omega)] at this
  clear hsz
  go_enter Tryz.func44, Tryz.ntmps44
  go_wp2_with (first | ((with_reducible apply st_want); rfl) | ((with_reducible apply st_skip); rfl; simp only [Act.put, yA, yB, yC, yD, yE, yF]) | ((first | ((with_reducible apply st_load1 H); decide +kernel; rfl; exact cF) | ((with_reducible apply st_loads H); decide +kernel; rfl; exact iF; exact zF; rfl) | ((with_reducible apply st_store H); rfl; exact eF; (focus (exact cells_agg _)); exact uF; kernel_rfl; (focus (exact Nat.le_of_ble_eq_true (by rfl))); (focus (first | rfl | simp))) | ((with_reducible apply st_storeown H); rfl; exact eF; (focus (exact (rfl : _ = [_]))); exact uF; (focus omega); kernel_rfl; rfl)); clear H; intro wn H; (try simp only [splice, yG, yH, yI, yJ, yK, yL, yM, yN, yO, yP, yQ, Nat.reduceAdd, yA, yB, yC] at H); simp only [Act.put, yA, yB, yC, yD, yE, yF]) | ((first | ((with_reducible apply st_alloc (dst := some 2) H); exact nF; intro b2) | ((with_reducible apply st_alloc (dst := some 4) H); exact nF; intro b4) | ((with_reducible apply st_strsum H); rfl; rfl; exact szF; kernel_rfl)); clear H; intro wn H; simp only [Act.put, yA, yB, yC, yD, yE, yF]) | ((first | (go_at_call 25; refine gvF (hL _) H ?_) | (go_at_call 33; refine gvF (labelText_i _ _ _) H ?_)); clear H; intro wn H) | fail)
  refine (Rets.use (allLabels_i _)).mono ?_; rintro e wn ⟨_, _, rfl, ⟨g, c, rfl, rfl⟩, hkk⟩; have Hn := H.moreK (by intro k hk; first | exact absurd hk List.not_mem_nil | (obtain rfl := List.mem_singleton.1 hk; exact In.mem iF)) hkk; clear hkk; clear H; have H := Hn; clear Hn; (try simp only [yT, yV] at H)
  go_wp2_with (first | ((with_reducible apply st_want); rfl) | ((with_reducible apply st_skip); rfl; simp only [Act.put, yA, yB, yC, yD, yE, yF]) | ((first | ((with_reducible apply st_load1 H); decide +kernel; rfl; exact cF) | ((with_reducible apply st_loads H); decide +kernel; rfl; exact iF; exact zF; rfl) | ((with_reducible apply st_store H); rfl; exact eF; (focus (exact cells_agg _)); exact uF; kernel_rfl; (focus (exact Nat.le_of_ble_eq_true (by rfl))); (focus (first | rfl | simp))) | ((with_reducible apply st_storeown H); rfl; exact eF; (focus (exact (rfl : _ = [_]))); exact uF; (focus omega); kernel_rfl; rfl)); clear H; intro wn H; (try simp only [splice, yG, yH, yI, yJ, yK, yL, yM, yN, yO, yP, yQ, Nat.reduceAdd, yA, yB, yC] at H); simp only [Act.put, yA, yB, yC, yD, yE, yF]) | ((first | ((with_reducible apply st_alloc (dst := some 2) H); exact nF; intro b2) | ((with_reducible apply st_alloc (dst := some 4) H); exact nF; intro b4) | ((with_reducible apply st_strsum H); rfl; rfl; exact szF; kernel_rfl)); clear H; intro wn H; simp only [Act.put, yA, yB, yC, yD, yE, yF]) | ((first | (go_at_call 25; refine gvF (hL _) H ?_) | (go_at_call 33; refine gvF (labelText_i _ _ _) H ?_)); clear H; intro wn H) | fail)
  go_loopg [4, 10] 32 (fun m _ kv wr => ∃ (k : Nat), k + m = 32 ∧ kv = .int .i64 k ∧ Hid (labFrom l k = labFind l) ∧ Hs noRow w [Hl.own 23 2 (.slice (some ⟨g, 0, none⟩) 32 c) 32 (labCells 32), Hl.blk b2 67 #[.int .i64 0, .int .i64 0, .int .i64 0]] wr)
  case atStart => exact ⟨0, by omega, rfl, Lib.hid rfl, H.sel sF⟩
  case round =>
    clear H
    obtain ⟨k, hk, rfl, HI, H⟩ := hrel
    by_cases hlt : k < 32
    · have l1 : (k : Int) < 32 := by omega
      obtain ⟨a, b, ha, hb, hab, hla, hc1, hc2⟩ := labs_at k hlt
      have HS := labFrom_step (t := l) hla
      rw [HI.out] at HS
      clear hla hab HI ha hb
      have hd1 : wr.cell? ⟨g, k * 2, none⟩ = some (.int .i64 a) := H.ownCell iF hc1
      have hd2 : wr.cell? ⟨g, k * 2 + 1, none⟩ = some (.int .i64 b) := H.ownCell iF hc2
      clear hc1 hc2
      cases hq : labelText (a : Int) (b : Int) == l
      · rw [hq] at HS
        have hB : ((bs (labelText (a : Int) (b : Int))).toList == (bs l).toList) = false := by rw [bs_beq]; exact hq
        have HK : Hid (labFrom l (k + 1) = labFind l) := Lib.hid HS.symm
        clear hq HS
        go_wp2_with (first | ((with_reducible apply st_want); rfl) | ((with_reducible apply st_skip); rfl; simp only [Act.put, yA, yB, yC, yD, yE, yF]) | ((first | ((with_reducible apply st_load1 H); decide +kernel; rfl; exact cF) | ((with_reducible apply st_loads H); decide +kernel; rfl; exact iF; exact zF; rfl) | ((with_reducible apply st_store H); rfl; exact eF; (focus (exact cells_agg _)); exact uF; kernel_rfl; (focus (exact Nat.le_of_ble_eq_true (by rfl))); (focus (first | rfl | simp))) | ((with_reducible apply st_storeown H); rfl; exact eF; (focus (exact (rfl : _ = [_]))); exact uF; (focus omega); kernel_rfl; rfl)); clear H; intro wn H; (try simp only [splice, yG, yH, yI, yJ, yK, yL, yM, yN, yO, yP, yQ, Nat.reduceAdd, yA, yB, yC] at H); simp only [Act.put, yA, yB, yC, yD, yE, yF]) | ((first | ((with_reducible apply st_alloc (dst := some 2) H); exact nF; intro b2) | ((with_reducible apply st_alloc (dst := some 4) H); exact nF; intro b4) | ((with_reducible apply st_strsum H); rfl; rfl; exact szF; kernel_rfl)); clear H; intro wn H; simp only [Act.put, yA, yB, yC, yD, yE, yF]) | ((first | (go_at_call 25; refine gvF (hL _) H ?_) | (go_at_call 33; refine gvF (labelText_i _ _ _) H ?_)); clear H; intro wn H) | fail)
        go_roundg (32 - (k + 1))
        case measure => omega
        case rel => exact ⟨k + 1, by omega, by go_num, HK, H.sel sF⟩
      · rw [hq] at HS
        have hB : ((bs (labelText (a : Int) (b : Int))).toList == (bs l).toList) = true := by rw [bs_beq]; exact hq
        have HK := Lib.hid (lab_some HS)
        clear hq HS
        go_wp2_with (first | ((with_reducible apply st_want); rfl) | ((with_reducible apply st_skip); rfl; simp only [Act.put, yA, yB, yC, yD, yE, yF]) | ((first | ((with_reducible apply st_load1 H); decide +kernel; rfl; exact cF) | ((with_reducible apply st_loads H); decide +kernel; rfl; exact iF; exact zF; rfl) | ((with_reducible apply st_store H); rfl; exact eF; (focus (exact cells_agg _)); exact uF; kernel_rfl; (focus (exact Nat.le_of_ble_eq_true (by rfl))); (focus (first | rfl | simp))) | ((with_reducible apply st_storeown H); rfl; exact eF; (focus (exact (rfl : _ = [_]))); exact uF; (focus omega); kernel_rfl; rfl)); clear H; intro wn H; (try simp only [splice, yG, yH, yI, yJ, yK, yL, yM, yN, yO, yP, yQ, Nat.reduceAdd, yA, yB, yC] at H); simp only [Act.put, yA, yB, yC, yD, yE, yF]) | ((first | ((with_reducible apply st_alloc (dst := some 2) H); exact nF; intro b2) | ((with_reducible apply st_alloc (dst := some 4) H); exact nF; intro b4) | ((with_reducible apply st_strsum H); rfl; rfl; exact szF; kernel_rfl)); clear H; intro wn H; simp only [Act.put, yA, yB, yC, yD, yE, yF]) | ((first | (go_at_call 25; refine gvF (hL _) H ?_) | (go_at_call 33; refine gvF (labelText_i _ _ _) H ?_)); clear H; intro wn H) | fail)
        refine bp_cell H rfl rfl iF (by kernel_rfl) (by kernel_rfl) rfl (by first | exact .inl rfl | exact .inr rfl) ?_
        rw [HK.out.1, HK.out.2]
        exact ⟨rfl, H.below⟩
    · obtain rfl : k = 32 := by omega
      have HK := Lib.hid (lab_none (t := l) (HI.out.symm.trans (labFrom_end l)))
      go_wp2_with (first | ((with_reducible apply st_want); rfl) | ((with_reducible apply st_skip); rfl; simp only [Act.put, yA, yB, yC, yD, yE, yF]) | ((first | ((with_reducible apply st_load1 H); decide +kernel; rfl; exact cF) | ((with_reducible apply st_loads H); decide +kernel; rfl; exact iF; exact zF; rfl) | ((with_reducible apply st_store H); rfl; exact eF; (focus (exact cells_agg _)); exact uF; kernel_rfl; (focus (exact Nat.le_of_ble_eq_true (by rfl))); (focus (first | rfl | simp))) | ((with_reducible apply st_storeown H); rfl; exact eF; (focus (exact (rfl : _ = [_]))); exact uF; (focus omega); kernel_rfl; rfl)); clear H; intro wn H; (try simp only [splice, yG, yH, yI, yJ, yK, yL, yM, yN, yO, yP, yQ, Nat.reduceAdd, yA, yB, yC] at H); simp only [Act.put, yA, yB, yC, yD, yE, yF]) | ((first | ((with_reducible apply st_alloc (dst := some 2) H); exact nF; intro b2) | ((with_reducible apply st_alloc (dst := some 4) H); exact nF; intro b4) | ((with_reducible apply st_strsum H); rfl; rfl; exact szF; kernel_rfl)); clear H; intro wn H; simp only [Act.put, yA, yB, yC, yD, yE, yF]) | ((first | (go_at_call 25; refine gvF (hL _) H ?_) | (go_at_call 33; refine gvF (labelText_i _ _ _) H ?_)); clear H; intro wn H) | fail)
      refine bp_cell H rfl rfl iF (by kernel_rfl) (by kernel_rfl) rfl (by first | exact .inl rfl | exact .inr rfl) ?_
      rw [HK.out.1, HK.out.2]
      exact ⟨rfl, H.below⟩
end Go.Proofs.YtffbcikfjdllcaaGreatDoor
