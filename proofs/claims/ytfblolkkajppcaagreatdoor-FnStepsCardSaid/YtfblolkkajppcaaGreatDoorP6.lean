/-
  OpText and StepText, whole; the laws FnExactOpText, FnExactStepText.
-/
import Derived.Test.YtfblolkkajppcaaGreatDoorP4a
import Derived.Test.YtfblolkkajppcaaGreatDoorP4b
import Derived.Test.YtfblolkkajppcaaGreatDoorP4c
import Derived.Test.YtfblolkkajppcaaGreatDoorP4d
import Derived.Test.YtfblolkkajppcaaGreatDoorP5a
import Derived.Test.YtfblolkkajppcaaGreatDoorP5b
import Derived.Test.YtfblolkkajppcaaGreatDoorP5c
set_option linter.unusedSimpArgs false
set_option linter.unusedVariables false
namespace Go.Proofs.YtfblolkkajppcaaGreatDoor
open Go.RowKit M
theorem kinds_own {k : Int} (h1 : 1 ≤ k) (h : k < 12) : k = 1 ∨ k = 2 ∨ k = 3 ∨ k = 4 ∨ k = 5 ∨ k = 6 ∨ k = 7 ∨ k = 8 ∨ k = 9 ∨ k = 10 ∨ k = 11 := by omega
theorem kinds_sys {k : Int} (h1 : 12 ≤ k) (h : k ≤ 17) : k = 12 ∨ k = 13 ∨ k = 14 ∨ k = 15 ∨ k = 16 ∨ k = 17 := by omega
set_option maxRecDepth 100000 in
set_option maxHeartbeats 4000000 in
theorem opText_i (sys : Bool) (l1 l2 k : Int) (ow : ByteArray) (a b c d m1 m2 af : Int) (how : ow.size ≤ maxLen) (w : World) (ht : Tab w) :
    Gives Tryz.prog 6 #[encOp sys l1 l2 k ow a b c d m1 m2 af] w (.string (bs (opText sys l1 l2 k ow a b c d m1 m2 af))) := by
  have hR := opRight_i sys l1 l2 k ow a b c d m1 m2 af how
  cases hok : opOk sys l1 l2 k ow a b c d m1 m2 af
  · rw [hok] at hR
    have HE := Lib.hid (opText_bad hok)
    clear hok
    unfold Gives
    have H := Hs.start noRow w
    unfold encOp at *
    go_enter Tryz.func6, Tryz.ntmps6
    go_wp2_with (first | ((first | ((with_reducible refine st_gwT ?_ ?_); rfl) | ((with_reducible refine st_gwF ?_ ?_); rfl) | ((with_reducible refine st_gsT ?_ ?_); rfl) | ((with_reducible refine st_gsF ?_ ?_); rfl)); (try simp only [Act.put, yA, yB, yC, yD, yE, yF])) | ((with_reducible refine' st_guard ?_ ?_ ?_); rotate_left; rfl; (all_goals (intro hgd; cases hgd)); (try simp only [Act.put, yA, yB, yC, yD, yE, yF])) | ((with_reducible apply st_want); rfl) | ((with_reducible refine st_skip ?_ ?_); rfl; simp only [Act.put, yA, yB, yC, yD, yE, yF]) | ((first | ((with_reducible apply st_load1 H); decide +kernel; rfl; exact cF) | ((with_reducible apply st_loads H); decide +kernel; rfl; exact iF; exact zF; rfl) | ((with_reducible apply st_store H); rfl; exact eF; (focus (exact cells_agg _)); exact uF; kernel_rfl; (focus (exact Nat.le_of_ble_eq_true (by rfl))); (focus (first | rfl | simp))) | ((with_reducible apply st_storeown H); rfl; exact eF; (focus (exact (rfl : _ = [_]))); exact uF; (focus omega); kernel_rfl; rfl)); clear H; intro wn H; (try simp only [splice, yG, yH, yI, yJ, yK, yL, yM, yN, yO, yP, yQ, Nat.reduceAdd, yA, yB, yC] at H); simp only [Act.put, yA, yB, yC, yD, yE, yF]) | ((first | ((with_reducible apply st_box (dst := some 1) H); exact nF; intro b1) | ((with_reducible apply st_strsum H); rfl; rfl; exact szF; kernel_rfl) | ((with_reducible apply st_bslice H); exact nsF; intro nb) | ((with_reducible apply st_loadat H); decide +kernel; rfl; exact aF; exact zF; rfl) | ((with_reducible apply st_storerow H); rfl; exact eF; (first | exact cells_agg _ | exact cellI | exact cellS | exact cellB | exact (rfl : _ = [_])); exact uF; kernel_rfl; exact Nat.succ_pos _; exact fitF; rfl)); clear H; intro wn H; simp only [Act.put, yA, yB, yC, yD, yE, yF]) | ((with_reducible apply st_appendb H); (first | ((focus (with_reducible exact dH)); rfl) | ((focus (with_reducible exact dT (dH))); rfl) | ((focus (with_reducible exact dT (dT (dH)))); rfl) | ((focus (with_reducible exact dT (dT (dT (dH))))); rfl) | ((focus (with_reducible exact dT (dT (dT (dT (dH)))))); rfl) | ((focus (with_reducible exact dT (dT (dT (dT (dT (dH))))))); rfl) | ((focus (with_reducible exact dT (dT (dT (dT (dT (dT (dH)))))))); rfl)); rfl; exact iF; kernel_rfl; rfl; rfl; (focus (first | omega | (simp; done) | (simp; omega))); clear H; intro vq wn H; (try simp only [yM, yN, yO] at H); simp only [Act.put, yA, yB, yC, yD, yE, yF]) | ((with_reducible apply st_appendrb H); (first | ((focus (with_reducible exact dH)); rfl) | ((focus (with_reducible exact dT (dH))); rfl) | ((focus (with_reducible exact dT (dT (dH)))); rfl) | ((focus (with_reducible exact dT (dT (dT (dH))))); rfl) | ((focus (with_reducible exact dT (dT (dT (dT (dH)))))); rfl) | ((focus (with_reducible exact dT (dT (dT (dT (dT (dH))))))); rfl) | ((focus (with_reducible exact dT (dT (dT (dT (dT (dT (dH)))))))); rfl)); rfl; exact iF; kernel_rfl; rfl; rfl; (focus (first | omega | (simp; done) | (simp; omega))); clear H; intro vq wn H; (try simp only [yM, yN, yO] at H); simp only [Act.put, yA, yB, yC, yD, yE, yF]) | ((first | (go_at_call 12; refine gvF (hR _) H ?_)); clear H; intro wn H) | fail)
    go_ret
    exact ⟨by rw [HE.out]; rfl, H.below⟩
  · rw [hok] at hR
    have F := opFacts hok
    rw [opText_ok hok]
    rcases F.s with ⟨rfl, h12, rfl, rfl⟩ | ⟨rfl, h12⟩
    · rcases kinds_sys h12 F.k17 with rfl | rfl | rfl | rfl | rfl | rfl
      · exact opText_i12 0 0 ow a b c d m1 m2 af hR F w ht
      · exact opText_i13 0 0 ow a b c d m1 m2 af hR F w ht
      · exact opText_i14 0 0 ow a b c d m1 m2 af hR F w ht
      · exact opText_i15 0 0 ow a b c d m1 m2 af hR F w ht
      · exact opText_i16 0 0 ow a b c d m1 m2 af hR F w ht
      · exact opText_i17 0 0 ow a b c d m1 m2 af hR F w ht
    · rcases kinds_own F.k1 h12 with rfl | rfl | rfl | rfl | rfl | rfl | rfl | rfl | rfl | rfl | rfl
      · by_cases hz : af = 0
        · exact opText_i1n l1 l2 ow a b c d m1 m2 af hz hR F w ht
        · exact opText_i1y l1 l2 ow a b c d m1 m2 af hz hR F w ht
      · exact opText_i2 l1 l2 ow a b c d m1 m2 af hR F w ht
      · exact opText_i3 l1 l2 ow a b c d m1 m2 af hR F w ht
      · exact opText_i4 l1 l2 ow a b c d m1 m2 af hR F w ht
      · exact opText_i5 l1 l2 ow a b c d m1 m2 af hR F w ht
      · exact opText_i6 l1 l2 ow a b c d m1 m2 af hR F w ht
      · exact opText_i7 l1 l2 ow a b c d m1 m2 af hR F w ht
      · exact opText_i8 l1 l2 ow a b c d m1 m2 af hR F w ht
      · exact opText_i9 l1 l2 ow a b c d m1 m2 af hR F w ht
      · exact opText_i10 l1 l2 ow a b c d m1 m2 af hR F w ht
      · exact opText_i11 l1 l2 ow a b c d m1 m2 af hR F w ht
set_option maxRecDepth 100000 in
set_option maxHeartbeats 4000000 in
theorem opText_s (sys : Bool) (l1 l2 k : Int) (ow : ByteArray) (a b c d m1 m2 af : Int) (how : ow.size ≤ maxLen) (w : World) :
    Gives Tryz.prog 10 #[encOp sys l1 l2 k ow a b c d m1 m2 af] w (.string (bs (opText sys l1 l2 k ow a b c d m1 m2 af))) := by
  have hR := opRight_s sys l1 l2 k ow a b c d m1 m2 af how
  cases hok : opOk sys l1 l2 k ow a b c d m1 m2 af
  · rw [hok] at hR
    have HE := Lib.hid (opText_bad hok)
    clear hok
    unfold Gives
    have H := Hs.start noRow w
    unfold encOp at *
    go_enter Tryz.func10, Tryz.ntmps10
    go_wp2_with (first | ((first | ((with_reducible apply st_load1 H); decide +kernel; rfl; exact cF) | ((with_reducible apply st_loads H); decide +kernel; rfl; exact iF; exact zF; rfl)); clear H; intro wn H; (try simp only [splice, yG, yH, yI, yJ, yK, yL, yM, yN, yO, yP, yQ, Nat.reduceAdd, yA, yB, yC] at H); simp only [Act.put, yA, yB, yC, yD, yE, yF]) | ((first | ((with_reducible apply st_box (dst := some 1) H); exact nF; intro b1) | ((with_reducible apply st_loadat H); decide +kernel; rfl; exact aF; exact zF; rfl)); clear H; intro wn H; simp only [Act.put, yA, yB, yC, yD, yE, yF]) | ((first | (go_at_call 13; refine gvF (hR _) H ?_)); clear H; intro wn H) | fail)
    go_ret
    exact ⟨by rw [HE.out]; rfl, H.below⟩
  · rw [hok] at hR
    have F := opFacts hok
    rw [opText_ok hok]
    have hT : ∀ w, Gives Tryz.prog 41 #[encOp sys l1 l2 k ow a b c d m1 m2 af] w (.string (bs (joinSp (opWords sys l1 l2 k ow a b c d m1 m2 af)))) := by
      intro w
      rcases F.s with ⟨rfl, h12, rfl, rfl⟩ | ⟨rfl, h12⟩
      · rcases kinds_sys h12 F.k17 with rfl | rfl | rfl | rfl | rfl | rfl
        · exact l17Text_s12 0 0 ow a b c d m1 m2 af F w
        · exact l17Text_s13 0 0 ow a b c d m1 m2 af F w
        · exact l17Text_s14 0 0 ow a b c d m1 m2 af F w
        · exact l17Text_s15 0 0 ow a b c d m1 m2 af F w
        · exact l17Text_s16 0 0 ow a b c d m1 m2 af F w
        · exact l17Text_s17 0 0 ow a b c d m1 m2 af F w
      · rcases kinds_own F.k1 h12 with rfl | rfl | rfl | rfl | rfl | rfl | rfl | rfl | rfl | rfl | rfl
        · by_cases hz : af = 0
          · exact l17Text_s1n l1 l2 ow a b c d m1 m2 af hz F w
          · exact l17Text_s1y l1 l2 ow a b c d m1 m2 af hz F w
        · exact l17Text_s2 l1 l2 ow a b c d m1 m2 af F w
        · exact l17Text_s3 l1 l2 ow a b c d m1 m2 af F w
        · exact l17Text_s4 l1 l2 ow a b c d m1 m2 af F w
        · exact l17Text_s5 l1 l2 ow a b c d m1 m2 af F w
        · exact l17Text_s6 l1 l2 ow a b c d m1 m2 af F w
        · exact l17Text_s7 l1 l2 ow a b c d m1 m2 af F w
        · exact l17Text_s8 l1 l2 ow a b c d m1 m2 af F w
        · exact l17Text_s9 l1 l2 ow a b c d m1 m2 af F w
        · exact l17Text_s10 l1 l2 ow a b c d m1 m2 af F w
        · exact l17Text_s11 l1 l2 ow a b c d m1 m2 af F w
    generalize joinSp (opWords sys l1 l2 k ow a b c d m1 m2 af) = X at *
    clear hok F
    unfold Gives
    have H := Hs.start noRow w
    unfold encOp at *
    go_enter Tryz.func10, Tryz.ntmps10
    go_wp2_with (first | ((first | ((with_reducible apply st_load1 H); decide +kernel; rfl; exact cF) | ((with_reducible apply st_loads H); decide +kernel; rfl; exact iF; exact zF; rfl)); clear H; intro wn H; (try simp only [splice, yG, yH, yI, yJ, yK, yL, yM, yN, yO, yP, yQ, Nat.reduceAdd, yA, yB, yC] at H); simp only [Act.put, yA, yB, yC, yD, yE, yF]) | ((first | ((with_reducible apply st_box (dst := some 1) H); exact nF; intro b1) | ((with_reducible apply st_loadat H); decide +kernel; rfl; exact aF; exact zF; rfl)); clear H; intro wn H; simp only [Act.put, yA, yB, yC, yD, yE, yF]) | ((first | (go_at_call 13; refine gvF (hR _) H ?_) | (go_at_call 41; refine gvF (hT _) H ?_)); clear H; intro wn H) | fail)
    go_ret
    exact ⟨rfl, H.below⟩
end Go.Proofs.YtfblolkkajppcaaGreatDoor
