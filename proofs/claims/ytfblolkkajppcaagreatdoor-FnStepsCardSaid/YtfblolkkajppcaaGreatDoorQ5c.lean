/-
  OpRead of the program, kind by kind (printed by a program).
-/
import Derived.Test.YtfblolkkajppcaaGreatDoorG2
set_option linter.unusedSimpArgs false
set_option linter.unusedVariables false
namespace Go.Proofs.YtfblolkkajppcaaGreatDoor
open Go.RowKit M
set_option maxRecDepth 100000 in
set_option maxHeartbeats 8000000 in
theorem opRead_i7 (t : ByteArray) (ht : t.size ≤ 8000) (ws : List Bs) (hws : ws = cut [] t.data.toList) (hk : kindOf (getW ws 1) = 7) (w : World) (hE : Env w) :
    Gives Tryz.prog 8 #[.string t] w (encOut (readI t.data.toList).1 (readI t.data.toList).2) := by
  unfold Gives
  have H := Hs.start noRow w
  have hsz := size_data t
  have hL : ∀ w, Gives Tryz.prog 33 #[.string t] w (.bool false) := fun w => by
    have := isLong_i t w
    rwa [decide_eq_false (by omega)] at this
  have HE := Lib.hid hE
  have hS : ∀ w, Env w → Rets Tryz.prog [] 34 #[.string t, .string ⟨#[32]⟩] w (tSl 9 ws.length (strs ws).toArray) := fun w hE => by rw [hws]; exact split_l t (by omega) w hE
  have HW : ∀ k, (getW ws k).length ≤ 8000 := getW_len (n := 8000) (by rw [hws]; intro x hx; have := cut_len _ _ x hx; simp at this; omega)
  have hn1 : 0 < ws.length := by rw [hws]; exact List.length_pos_iff.2 (cut_ne _ _)
  have hn2 : ws.length ≤ 8001 := by rw [hws]; have := cut_count [] t.data.toList; omega
  have hw0 : (strs ws).toArray[0]? = some (.string (bs (getW ws 0))) := by simpa using strs_at (getW_at hn1)
  have HRD : Hid (readI t.data.toList = if (candI ws).ok && (candI ws).text == t.data.toList then (candI ws, 0) else (zeroO, 3)) := Lib.hid (by unfold readI; rw [if_neg (by omega), hws])
  obtain ⟨sy, hsy⟩ : ∃ sy, sy = (getW ws 0 == sysW) := ⟨_, rfl⟩
  have hsq : ((bs (getW ws 0)).toList == [115, 121, 115]) = sy := by rw [hsy, ← bs_beq (getW ws 0) sysW, sys_list]
  obtain ⟨a1, ha1⟩ : ∃ a, a = (lab (getW ws 0)).1 := ⟨_, rfl⟩
  obtain ⟨a2, ha2⟩ : ∃ a, a = (lab (getW ws 0)).2 := ⟨_, rfl⟩
  have hL0 : ∀ w, Gives Tryz.prog 36 #[.string (bs (getW ws 0))] w (.agg #[.int .i64 a1, .int .i64 a2, .int .i64 (labCode (getW ws 0))]) := fun w => by rw [ha1, ha2]; exact labelRead_i _ (HW 0) w
  have hI : ∀ g w, (∀ (k : Nat) x, words[k]? = some x → w.cell? ⟨g, k, none⟩ = some (.string x)) → Gives Tryz.prog 37 #[.slice (some ⟨g, 0, none⟩) 18 18, .string (bs (getW ws 1))] w (.int .i64 7) := fun g w h => by rw [← hk]; exact idx_i words _ g w (by decide) h
  obtain ⟨M, hM, hM4⟩ : ∃ M : Nat, many 7 = M ∧ M ≤ 4 := ⟨(many 7).toNat, by rw [Int.toNat_of_nonneg]; unfold many; split <;> first | omega | (split <;> first | omega | (split <;> first | omega | (split <;> omega))), by unfold many; split <;> first | omega | (split <;> first | omega | (split <;> first | omega | (split <;> omega)))⟩
  have hMn : ∀ w, Gives Tryz.prog 26 #[.int .i64 7] w (.int .i64 M) := fun w => by rw [← hM]; exact numbersIn_i _ w
  have HC : Hid (candI ws = ⟨sy, a1, a2, 7, ⟨#[]⟩, fN ws 3 M 0, (fN ws 3 M 1), fN ws 3 M 2, fN ws 3 M 3, (lab (getW ws 2)).1, (lab (getW ws 2)).2, 0⟩) := Lib.hid (by
    unfold candI
    simp only [hk, ← hsy, ← ha1, ← ha2]
    simp [nI_fN hM, bs_nil, atK]
  )
  have hz : (Tryz.prog.types[24]'(by decide +kernel)).size = 2 := by kernel_rfl
  have hi0 : (0 : Int) < ws.length := by omega
  clear hws hE hsz ht hk hsy ha1 ha2 hM
  go_enter Tryz.func8, Tryz.ntmps8
  go_wp2_with (first | ((((with_reducible apply st_alloc (dst := some 2) H); exact nF; intro b2)); clear H; intro wn H; simp only [Act.put, yA, yB, yC, yD, yE, yF]) | (((go_at_call 33; refine gvF (hL _) H ?_)); clear H; intro wn H))
  refine (Rets.use (hS _ (HE.out.later H.below))).mono ?_; rintro e wn ⟨_, _, rfl, ⟨g, rfl, rfl⟩, hkk⟩; have Hn := H.moreK (by intro k hk; first | exact absurd hk List.not_mem_nil | (obtain rfl := List.mem_singleton.1 hk; exact In.mem iF)) hkk; clear hkk; clear H; have H := Hn; clear Hn; (try simp only [yT, yV] at H)
  go_wp2_with (first | ((((with_reducible apply st_store H); rfl; exact eF; (focus (exact cells_agg _)); exact uF; kernel_rfl; (focus (exact Nat.le_of_ble_eq_true (by rfl))); (focus (rfl)))); clear H; intro wn H; (try simp only [splice, yG, yH, yI, yJ, yK, yL, yM, yN, yO, yP, yQ, Nat.reduceAdd, yA, yB, yC] at H); simp only [Act.put, yA, yB, yC, yD, yE, yF]) | ((((with_reducible apply st_alloc (dst := some 3) H); exact nF; intro b3)); clear H; intro wn H; simp only [Act.put, yA, yB, yC, yD, yE, yF]))
  apply wp_region_hs (K := []) (Spec.V _ :: Spec.V _ :: Spec.V _ :: Spec.V _ :: Spec.V _ :: Spec.V _ :: Spec.V _ :: Spec.V _ :: Spec.V _ :: Spec.S _ _ _ :: Spec.V _ :: Spec.V _ :: Spec.V _ :: Spec.V _ :: Spec.N _ _ :: []) 15 H rfl (by simp) (by kernel_rfl) (by kernel_rfl); intro vs Ls; (iterate 2 ((with_reducible apply wpH_V); (focus rfl); (focus rfl); (focus (intro w1 H1; exact oF)); simp only [Act.put, yA, yB, yC, yD, yE, yF]; (try simp only [yG, yH, yJ, yK]))); (with_reducible apply wpH_VK); (focus rfl); (focus rfl); (focus (intro hk w1 H1; exact ok_load1 rfl (by decide +kernel) (H1.cell iF hw0))); simp only [Act.put, yA, yB, yC, yD, yE, yF]; (iterate 3 ((with_reducible apply wpH_V); (focus rfl); (focus rfl); (focus (intro w1 H1; exact oF)); simp only [Act.put, yA, yB, yC, yD, yE, yF]; (try simp only [yG, yH, yJ, yK]))); (with_reducible apply wpH_VK); (focus rfl); (focus rfl); (focus (intro hk w1 H1; exact ok_load1 rfl (by decide +kernel) (H1.cell iF hw0))); simp only [Act.put, yA, yB, yC, yD, yE, yF]; (with_reducible apply wpH_VK); (focus rfl); (focus rfl); (focus (intro hk w1 H1; unfold OpOk; go_simp; exact now_call (Gives.rets (hL0 _)))); simp only [Act.put, yA, yB, yC, yD, yE, yF]; (iterate 1 ((with_reducible apply wpH_V); (focus rfl); (focus rfl); (focus (intro w1 H1; exact oF)); simp only [Act.put, yA, yB, yC, yD, yE, yF]; (try simp only [yG, yH, yJ, yK]))); (with_reducible apply wpH_S); (focus rfl); (focus rfl); (focus (intro hk w1 H1; unfold OpOk; go_simp; exact now_call (opWords_i _))); intro g9 hg9; simp only [Act.put, yA, yB, yC, yD, yE, yF]; (iterate 1 ((with_reducible apply wpH_V); (focus rfl); (focus rfl); (focus (intro w1 H1; exact oF)); simp only [Act.put, yA, yB, yC, yD, yE, yF]; (try simp only [yG, yH, yJ, yK]))); (with_reducible apply wpH_VK); (focus rfl); (focus rfl); (focus (intro hk w1 H1; unfold OpOk; go_simp; exact now_call (Gives.rets (word_n ws 1 1 rfl (by decide) b3 g _ (H1.cell iF rfl) (fun x hx => H1.cell iF (strs_at2 hx)))))); simp only [Act.put, yA, yB, yC, yD, yE, yF]; (with_reducible apply (wpH_D 9)); (focus rfl); (focus rfl); (focus decide +kernel); (focus decide); (focus (intro hk w1 H1; have hb : Blk w1 _ _ _ := H1.ok _ (List.mem_append_left _ (List.mem_singleton.2 rfl)); rw [← hg9] at hb; rw [hg9] at hb; unfold OpOk; go_simp; exact now_call (Gives.rets (hI _ _ (fun k x hx => hb.at (i := k) (words_at hx)))))); simp only [Act.put, yA, yB, yC, yD, yE, yF]; (iterate 1 ((with_reducible apply wpH_V); (focus rfl); (focus rfl); (focus (intro w1 H1; exact oF)); simp only [Act.put, yA, yB, yC, yD, yE, yF]; (try simp only [yG, yH, yJ, yK]))); (with_reducible apply wpH_N); (focus rfl); (focus rfl); (focus (intro w1 H1; exact nF)); intro g14 hg14; simp only [Act.put, yA, yB, yC, yD, yE, yF]; refine wpH_0 ?_; intro hok wn Hn; (try simp only [yT, yU, yV, yW] at Hn); clear H; have H := Hn; clear Hn; (try simp only [← hg9, ← hg14]); clear hg9; clear hg14; clear hok; rotate_left; (focus (refine locs ?_; intro vs1 vs2; (iterate 15 (refine all_lt_succ ?_ (by first | exact (fun _ => rfl) | exact (fun _ => ⟨rfl, rfl⟩) | (intro h; simp only [spec, Spec.same, yR, yS, Option.getD_some]; (try rw [h 9 (by decide +kernel)]); (try rw [h 14 (by decide +kernel)]); (first | done | exact ⟨rfl, rfl⟩ | exact ⟨trivial, rfl⟩ | exact ⟨rfl, trivial⟩))))); exact (fun k hk => absurd hk (Nat.not_lt_zero k))))
  go_wp2_with (first | ((first | ((with_reducible apply st_load1 H); decide +kernel; rfl; exact cF) | ((with_reducible apply st_store H); rfl; exact eF; (focus (exact cells_agg _)); exact uF; kernel_rfl; (focus (exact Nat.le_of_ble_eq_true (by rfl))); (focus (rfl)))); clear H; intro wn H; (try simp only [splice, yG, yH, yI, yJ, yK, yL, yM, yN, yO, yP, yQ, Nat.reduceAdd, yA, yB, yC] at H); simp only [Act.put, yA, yB, yC, yD, yE, yF]) | ((((with_reducible apply st_bslice H); exact nsF; intro nb)); clear H; intro wn H; simp only [Act.put, yA, yB, yC, yD, yE, yF]) | ((first | (go_at_call 35; refine gvF (wF) H ?_) | (go_at_call 36; refine gvF (labelRead_i (getW ws _) (HW _) _) H ?_) | (go_at_call 26; refine gvF (hMn _) H ?_)); clear H; intro wn H) | ((with_reducible apply st_field H); exact fF; clear H; intro wn H; simp only [Act.put, yA, yB, yC, yD, yE, yF]))
  go_loopg [7, 8, 65] M (fun m _ _ jv wr => ∃ j : Nat, j + m = M ∧ jv = .int .i64 j ∧ Hs noRow w [Hl.blk nb 65 #[.pointer (some ⟨g14, 5, none⟩), .pointer (some ⟨g14, 6, none⟩), .pointer (some ⟨g14, 7, none⟩), .pointer (some ⟨g14, 8, none⟩)], Hl.blk g14 26 #[.bool sy, .int .i64 a1, .int .i64 a2, .int .i64 7, .string ⟨#[]⟩, .int .i64 (fN ws 3 j 0), .int .i64 (fN ws 3 j 1), .int .i64 (fN ws 3 j 2), .int .i64 (fN ws 3 j 3), .int .i64 ((lab (getW ws 2)).1), .int .i64 ((lab (getW ws 2)).2), .int .i64 0], Hl.blk b3 45 #[.slice (some ⟨g, 0, none⟩) ws.length ws.length], Hl.blk g 9 (strs ws).toArray, Hl.blk b2 31 #[.bool false, .int .i64 0, .int .i64 0, .int .i64 0, .string ⟨#[]⟩, .int .i64 0, .int .i64 0, .int .i64 0, .int .i64 0, .int .i64 0, .int .i64 0, .int .i64 0, .int .i64 0]] wr)
  case atStart =>
    refine ⟨0, by omega, rfl, ?_⟩
    have h : Hs noRow w [Hl.blk nb 65 #[.pointer (some ⟨g14, 5, none⟩), .pointer (some ⟨g14, 6, none⟩), .pointer (some ⟨g14, 7, none⟩), .pointer (some ⟨g14, 8, none⟩)], Hl.blk g14 26 #[.bool sy, .int .i64 a1, .int .i64 a2, .int .i64 7, .string ⟨#[]⟩, .int .i64 0, .int .i64 0, .int .i64 0, .int .i64 0, .int .i64 ((lab (getW ws 2)).1), .int .i64 ((lab (getW ws 2)).2), .int .i64 0], Hl.blk b3 45 #[.slice (some ⟨g, 0, none⟩) ws.length ws.length], Hl.blk g 9 (strs ws).toArray, Hl.blk b2 31 #[.bool false, .int .i64 0, .int .i64 0, .int .i64 0, .string ⟨#[]⟩, .int .i64 0, .int .i64 0, .int .i64 0, .int .i64 0, .int .i64 0, .int .i64 0, .int .i64 0, .int .i64 0]] _ := H.sel sF
    exact h
  case round =>
    clear H
    obtain ⟨j, hj, rfl, H⟩ := hrel
    by_cases hlt : j < M
    · have l1 : (j : Int) < M := by omega
      have hj4 : j = 0 ∨ j = 1 ∨ j = 2 ∨ j = 3 := by omega
      rcases hj4 with rfl | rfl | rfl | rfl
      all_goals (
        go_wp2_with (first | ((first | ((with_reducible apply st_load1 H); decide +kernel; rfl; exact cF) | ((with_reducible apply st_store H); rfl; exact eF; (focus (exact cells_agg _)); exact uF; kernel_rfl; (focus (exact Nat.le_of_ble_eq_true (by rfl))); (focus (rfl)))); clear H; intro wn H; (try simp only [splice, yG, yH, yI, yJ, yK, yL, yM, yN, yO, yP, yQ, Nat.reduceAdd, yA, yB, yC] at H); simp only [Act.put, yA, yB, yC, yD, yE, yF]) | ((first | (go_at_call 35; refine gvF (wF) H ?_) | (go_at_call 38; refine gvF (number_i (getW ws _) (HW _) _ (HE.out.later H.below)) H ?_)); clear H; intro wn H))
      )
      · go_roundg (M - 1)
        case measure => omega
        case rel => exact ⟨1, by omega, rfl, H⟩
      · go_roundg (M - 2)
        case measure => omega
        case rel => exact ⟨2, by omega, rfl, H⟩
      · go_roundg (M - 3)
        case measure => omega
        case rel => exact ⟨3, by omega, rfl, H⟩
      · go_roundg (M - 4)
        case measure => omega
        case rel => exact ⟨4, by omega, rfl, H⟩
    · obtain rfl : j = M := by omega
      have l1 : ¬ (j : Int) < j := by omega
      generalize fN ws 3 j 0 = A at *
      generalize fN ws 3 j 1 = B at *
      generalize fN ws 3 j 2 = C at *
      generalize fN ws 3 j 3 = D at *
      have hR := opRight_i sy a1 a2 7 ⟨#[]⟩ A B C D ((lab (getW ws 2)).1) ((lab (getW ws 2)).2) 0 (by decide)
      have hT := opText_i sy a1 a2 7 ⟨#[]⟩ A B C D ((lab (getW ws 2)).1) ((lab (getW ws 2)).2) 0 (by decide)
      have HO : Hid ((candI ws).ok = opOk sy a1 a2 7 ⟨#[]⟩ A B C D ((lab (getW ws 2)).1) ((lab (getW ws 2)).2) 0) := Lib.hid (by rw [HC.out]; rfl)
      have HX : Hid ((candI ws).text = opText sy a1 a2 7 ⟨#[]⟩ A B C D ((lab (getW ws 2)).1) ((lab (getW ws 2)).2) 0) := Lib.hid (by rw [HC.out]; rfl)
      generalize opText sy a1 a2 7 ⟨#[]⟩ A B C D ((lab (getW ws 2)).1) ((lab (getW ws 2)).2) 0 = X at *
      unfold encOp at hR hT
      cases hok : opOk sy a1 a2 7 ⟨#[]⟩ A B C D ((lab (getW ws 2)).1) ((lab (getW ws 2)).2) 0
      · rw [hok] at hR HO
        have HF : Hid (readI t.data.toList = (zeroO, 3)) := Lib.hid (by rw [HRD.out, HO.out]; rfl)
        clear hok HRD HO HX HC
        go_wp2_with (first | ((with_reducible refine' st_guard ?_ ?_ ?_); rotate_left; rfl; (all_goals (intro hgd; cases hgd)); (try simp only [Act.put, yA, yB, yC, yD, yE, yF])) | ((first | ((with_reducible apply st_load1 H); decide +kernel; rfl; exact cF) | ((with_reducible apply st_loads H); decide +kernel; rfl; exact iF; exact zF; rfl) | ((with_reducible apply st_store H); rfl; exact eF; (focus (exact cells_agg _)); exact uF; kernel_rfl; (focus (exact Nat.le_of_ble_eq_true (by rfl))); (focus (rfl)))); clear H; intro wn H; (try simp only [splice, yG, yH, yI, yJ, yK, yL, yM, yN, yO, yP, yQ, Nat.reduceAdd, yA, yB, yC] at H); simp only [Act.put, yA, yB, yC, yD, yE, yF]) | (((go_at_call 12; refine gvF (hR _) H ?_)); clear H; intro wn H))
        refine bp_cell H rfl rfl iF (by kernel_rfl) (by kernel_rfl) rfl (by first | exact .inl rfl | exact .inr rfl) ?_
        rw [HF.out]
        exact ⟨rfl, H.below⟩
      · rw [hok] at hR HO
        by_cases hx : X = t.data.toList
        · have HF : Hid (readI t.data.toList = (⟨sy, a1, a2, 7, ⟨#[]⟩, A, B, C, D, (lab (getW ws 2)).1, (lab (getW ws 2)).2, 0⟩, 0)) := Lib.hid (by rw [HRD.out, HO.out, HX.out, hx, ← HC.out]; simp)
          have hB : ((bs X).toList == t.toList) = true := by rw [str_beq, hx, bs_data]; simp
          have hB2 : ((bs X).toList != t.toList) = false := by rw [bne, hB]; rfl
          clear hok HRD HO HX HC hx
          go_wp2_with (first | ((with_reducible refine' st_guard ?_ ?_ ?_); rotate_left; rfl; (all_goals (intro hgd; cases hgd)); (try simp only [Act.put, yA, yB, yC, yD, yE, yF])) | ((first | ((with_reducible apply st_load1 H); decide +kernel; rfl; exact cF) | ((with_reducible apply st_loads H); decide +kernel; rfl; exact iF; exact zF; rfl) | ((with_reducible apply st_store H); rfl; exact eF; (focus (exact cells_agg _)); exact uF; kernel_rfl; (focus (exact Nat.le_of_ble_eq_true (by rfl))); (focus (rfl)))); clear H; intro wn H; (try simp only [splice, yG, yH, yI, yJ, yK, yL, yM, yN, yO, yP, yQ, Nat.reduceAdd, yA, yB, yC] at H); simp only [Act.put, yA, yB, yC, yD, yE, yF]) | ((first | (go_at_call 12; refine gvF (hR _) H ?_) | (go_at_call 6; refine gvF (hT _ (HE.out.later H.below).tab) H ?_)); clear H; intro wn H))
          refine bp_cell H rfl rfl iF (by kernel_rfl) (by kernel_rfl) rfl (by first | exact .inl rfl | exact .inr rfl) ?_
          rw [HF.out]
          exact ⟨rfl, H.below⟩
        · have HF : Hid (readI t.data.toList = (zeroO, 3)) := Lib.hid (by rw [HRD.out, HO.out, HX.out, beq_eq_false_iff_ne.2 hx]; rfl)
          have hB : ((bs X).toList == t.toList) = false := by
            rw [str_beq]
            exact decide_eq_false fun e => hx (by rw [← e]; rfl)
          have hB2 : ((bs X).toList != t.toList) = true := by rw [bne, hB]; rfl
          clear hok HRD HO HX HC hx
          go_wp2_with (first | ((with_reducible refine' st_guard ?_ ?_ ?_); rotate_left; rfl; (all_goals (intro hgd; cases hgd)); (try simp only [Act.put, yA, yB, yC, yD, yE, yF])) | ((first | ((with_reducible apply st_load1 H); decide +kernel; rfl; exact cF) | ((with_reducible apply st_loads H); decide +kernel; rfl; exact iF; exact zF; rfl) | ((with_reducible apply st_store H); rfl; exact eF; (focus (exact cells_agg _)); exact uF; kernel_rfl; (focus (exact Nat.le_of_ble_eq_true (by rfl))); (focus (rfl)))); clear H; intro wn H; (try simp only [splice, yG, yH, yI, yJ, yK, yL, yM, yN, yO, yP, yQ, Nat.reduceAdd, yA, yB, yC] at H); simp only [Act.put, yA, yB, yC, yD, yE, yF]) | ((first | (go_at_call 12; refine gvF (hR _) H ?_) | (go_at_call 6; refine gvF (hT _ (HE.out.later H.below).tab) H ?_)); clear H; intro wn H))
          refine bp_cell H rfl rfl iF (by kernel_rfl) (by kernel_rfl) rfl (by first | exact .inl rfl | exact .inr rfl) ?_
          rw [HF.out]
          exact ⟨rfl, H.below⟩
set_option maxRecDepth 100000 in
set_option maxHeartbeats 8000000 in
theorem opRead_i13 (t : ByteArray) (ht : t.size ≤ 8000) (ws : List Bs) (hws : ws = cut [] t.data.toList) (hk : kindOf (getW ws 1) = 13) (w : World) (hE : Env w) :
    Gives Tryz.prog 8 #[.string t] w (encOut (readI t.data.toList).1 (readI t.data.toList).2) := by
  unfold Gives
  have H := Hs.start noRow w
  have hsz := size_data t
  have hL : ∀ w, Gives Tryz.prog 33 #[.string t] w (.bool false) := fun w => by
    have := isLong_i t w
    rwa [decide_eq_false (by omega)] at this
  have HE := Lib.hid hE
  have hS : ∀ w, Env w → Rets Tryz.prog [] 34 #[.string t, .string ⟨#[32]⟩] w (tSl 9 ws.length (strs ws).toArray) := fun w hE => by rw [hws]; exact split_l t (by omega) w hE
  have HW : ∀ k, (getW ws k).length ≤ 8000 := getW_len (n := 8000) (by rw [hws]; intro x hx; have := cut_len _ _ x hx; simp at this; omega)
  have hn1 : 0 < ws.length := by rw [hws]; exact List.length_pos_iff.2 (cut_ne _ _)
  have hn2 : ws.length ≤ 8001 := by rw [hws]; have := cut_count [] t.data.toList; omega
  have hw0 : (strs ws).toArray[0]? = some (.string (bs (getW ws 0))) := by simpa using strs_at (getW_at hn1)
  have HRD : Hid (readI t.data.toList = if (candI ws).ok && (candI ws).text == t.data.toList then (candI ws, 0) else (zeroO, 3)) := Lib.hid (by unfold readI; rw [if_neg (by omega), hws])
  obtain ⟨sy, hsy⟩ : ∃ sy, sy = (getW ws 0 == sysW) := ⟨_, rfl⟩
  have hsq : ((bs (getW ws 0)).toList == [115, 121, 115]) = sy := by rw [hsy, ← bs_beq (getW ws 0) sysW, sys_list]
  obtain ⟨a1, ha1⟩ : ∃ a, a = (lab (getW ws 0)).1 := ⟨_, rfl⟩
  obtain ⟨a2, ha2⟩ : ∃ a, a = (lab (getW ws 0)).2 := ⟨_, rfl⟩
  have hL0 : ∀ w, Gives Tryz.prog 36 #[.string (bs (getW ws 0))] w (.agg #[.int .i64 a1, .int .i64 a2, .int .i64 (labCode (getW ws 0))]) := fun w => by rw [ha1, ha2]; exact labelRead_i _ (HW 0) w
  have hI : ∀ g w, (∀ (k : Nat) x, words[k]? = some x → w.cell? ⟨g, k, none⟩ = some (.string x)) → Gives Tryz.prog 37 #[.slice (some ⟨g, 0, none⟩) 18 18, .string (bs (getW ws 1))] w (.int .i64 13) := fun g w h => by rw [← hk]; exact idx_i words _ g w (by decide) h
  obtain ⟨M, hM, hM4⟩ : ∃ M : Nat, many 13 = M ∧ M ≤ 4 := ⟨(many 13).toNat, by rw [Int.toNat_of_nonneg]; unfold many; split <;> first | omega | (split <;> first | omega | (split <;> first | omega | (split <;> omega))), by unfold many; split <;> first | omega | (split <;> first | omega | (split <;> first | omega | (split <;> omega)))⟩
  have hMn : ∀ w, Gives Tryz.prog 26 #[.int .i64 13] w (.int .i64 M) := fun w => by rw [← hM]; exact numbersIn_i _ w
  have HC : Hid (candI ws = ⟨sy, a1, a2, 13, ⟨#[]⟩, fN ws 2 M 0, (stateOf (getW ws 3)), fN ws 2 M 2, fN ws 2 M 3, 0, 0, 0⟩) := Lib.hid (by
    unfold candI
    simp only [hk, ← hsy, ← ha1, ← ha2]
    simp [nI_fN hM, bs_nil, atK]
  )
  have hz : (Tryz.prog.types[24]'(by decide +kernel)).size = 2 := by kernel_rfl
  have hi0 : (0 : Int) < ws.length := by omega
  clear hws hE hsz ht hk hsy ha1 ha2 hM
  go_enter Tryz.func8, Tryz.ntmps8
  go_wp2_with (first | ((((with_reducible apply st_alloc (dst := some 2) H); exact nF; intro b2)); clear H; intro wn H; simp only [Act.put, yA, yB, yC, yD, yE, yF]) | (((go_at_call 33; refine gvF (hL _) H ?_)); clear H; intro wn H))
  refine (Rets.use (hS _ (HE.out.later H.below))).mono ?_; rintro e wn ⟨_, _, rfl, ⟨g, rfl, rfl⟩, hkk⟩; have Hn := H.moreK (by intro k hk; first | exact absurd hk List.not_mem_nil | (obtain rfl := List.mem_singleton.1 hk; exact In.mem iF)) hkk; clear hkk; clear H; have H := Hn; clear Hn; (try simp only [yT, yV] at H)
  go_wp2_with (first | ((((with_reducible apply st_store H); rfl; exact eF; (focus (exact cells_agg _)); exact uF; kernel_rfl; (focus (exact Nat.le_of_ble_eq_true (by rfl))); (focus (rfl)))); clear H; intro wn H; (try simp only [splice, yG, yH, yI, yJ, yK, yL, yM, yN, yO, yP, yQ, Nat.reduceAdd, yA, yB, yC] at H); simp only [Act.put, yA, yB, yC, yD, yE, yF]) | ((((with_reducible apply st_alloc (dst := some 3) H); exact nF; intro b3)); clear H; intro wn H; simp only [Act.put, yA, yB, yC, yD, yE, yF]))
  apply wp_region_hs (K := []) (Spec.V _ :: Spec.V _ :: Spec.V _ :: Spec.V _ :: Spec.V _ :: Spec.V _ :: Spec.V _ :: Spec.V _ :: Spec.V _ :: Spec.S _ _ _ :: Spec.V _ :: Spec.V _ :: Spec.V _ :: Spec.V _ :: Spec.N _ _ :: []) 15 H rfl (by simp) (by kernel_rfl) (by kernel_rfl); intro vs Ls; (iterate 2 ((with_reducible apply wpH_V); (focus rfl); (focus rfl); (focus (intro w1 H1; exact oF)); simp only [Act.put, yA, yB, yC, yD, yE, yF]; (try simp only [yG, yH, yJ, yK]))); (with_reducible apply wpH_VK); (focus rfl); (focus rfl); (focus (intro hk w1 H1; exact ok_load1 rfl (by decide +kernel) (H1.cell iF hw0))); simp only [Act.put, yA, yB, yC, yD, yE, yF]; (iterate 3 ((with_reducible apply wpH_V); (focus rfl); (focus rfl); (focus (intro w1 H1; exact oF)); simp only [Act.put, yA, yB, yC, yD, yE, yF]; (try simp only [yG, yH, yJ, yK]))); (with_reducible apply wpH_VK); (focus rfl); (focus rfl); (focus (intro hk w1 H1; exact ok_load1 rfl (by decide +kernel) (H1.cell iF hw0))); simp only [Act.put, yA, yB, yC, yD, yE, yF]; (with_reducible apply wpH_VK); (focus rfl); (focus rfl); (focus (intro hk w1 H1; unfold OpOk; go_simp; exact now_call (Gives.rets (hL0 _)))); simp only [Act.put, yA, yB, yC, yD, yE, yF]; (iterate 1 ((with_reducible apply wpH_V); (focus rfl); (focus rfl); (focus (intro w1 H1; exact oF)); simp only [Act.put, yA, yB, yC, yD, yE, yF]; (try simp only [yG, yH, yJ, yK]))); (with_reducible apply wpH_S); (focus rfl); (focus rfl); (focus (intro hk w1 H1; unfold OpOk; go_simp; exact now_call (opWords_i _))); intro g9 hg9; simp only [Act.put, yA, yB, yC, yD, yE, yF]; (iterate 1 ((with_reducible apply wpH_V); (focus rfl); (focus rfl); (focus (intro w1 H1; exact oF)); simp only [Act.put, yA, yB, yC, yD, yE, yF]; (try simp only [yG, yH, yJ, yK]))); (with_reducible apply wpH_VK); (focus rfl); (focus rfl); (focus (intro hk w1 H1; unfold OpOk; go_simp; exact now_call (Gives.rets (word_n ws 1 1 rfl (by decide) b3 g _ (H1.cell iF rfl) (fun x hx => H1.cell iF (strs_at2 hx)))))); simp only [Act.put, yA, yB, yC, yD, yE, yF]; (with_reducible apply (wpH_D 9)); (focus rfl); (focus rfl); (focus decide +kernel); (focus decide); (focus (intro hk w1 H1; have hb : Blk w1 _ _ _ := H1.ok _ (List.mem_append_left _ (List.mem_singleton.2 rfl)); rw [← hg9] at hb; rw [hg9] at hb; unfold OpOk; go_simp; exact now_call (Gives.rets (hI _ _ (fun k x hx => hb.at (i := k) (words_at hx)))))); simp only [Act.put, yA, yB, yC, yD, yE, yF]; (iterate 1 ((with_reducible apply wpH_V); (focus rfl); (focus rfl); (focus (intro w1 H1; exact oF)); simp only [Act.put, yA, yB, yC, yD, yE, yF]; (try simp only [yG, yH, yJ, yK]))); (with_reducible apply wpH_N); (focus rfl); (focus rfl); (focus (intro w1 H1; exact nF)); intro g14 hg14; simp only [Act.put, yA, yB, yC, yD, yE, yF]; refine wpH_0 ?_; intro hok wn Hn; (try simp only [yT, yU, yV, yW] at Hn); clear H; have H := Hn; clear Hn; (try simp only [← hg9, ← hg14]); clear hg9; clear hg14; clear hok; rotate_left; (focus (refine locs ?_; intro vs1 vs2; (iterate 15 (refine all_lt_succ ?_ (by first | exact (fun _ => rfl) | exact (fun _ => ⟨rfl, rfl⟩) | (intro h; simp only [spec, Spec.same, yR, yS, Option.getD_some]; (try rw [h 9 (by decide +kernel)]); (try rw [h 14 (by decide +kernel)]); (first | done | exact ⟨rfl, rfl⟩ | exact ⟨trivial, rfl⟩ | exact ⟨rfl, trivial⟩))))); exact (fun k hk => absurd hk (Nat.not_lt_zero k))))
  go_wp2_with (first | ((first | ((with_reducible apply st_load1 H); decide +kernel; rfl; exact cF) | ((with_reducible apply st_store H); rfl; exact eF; (focus (exact cells_agg _)); exact uF; kernel_rfl; (focus (exact Nat.le_of_ble_eq_true (by rfl))); (focus (rfl)))); clear H; intro wn H; (try simp only [splice, yG, yH, yI, yJ, yK, yL, yM, yN, yO, yP, yQ, Nat.reduceAdd, yA, yB, yC] at H); simp only [Act.put, yA, yB, yC, yD, yE, yF]) | ((((with_reducible apply st_bslice H); exact nsF; intro nb)); clear H; intro wn H; simp only [Act.put, yA, yB, yC, yD, yE, yF]) | (((go_at_call 26; refine gvF (hMn _) H ?_)); clear H; intro wn H))
  go_loopg [7, 8, 65] M (fun m _ _ jv wr => ∃ j : Nat, j + m = M ∧ jv = .int .i64 j ∧ Hs noRow w [Hl.blk nb 65 #[.pointer (some ⟨g14, 5, none⟩), .pointer (some ⟨g14, 6, none⟩), .pointer (some ⟨g14, 7, none⟩), .pointer (some ⟨g14, 8, none⟩)], Hl.blk g14 26 #[.bool sy, .int .i64 a1, .int .i64 a2, .int .i64 13, .string ⟨#[]⟩, .int .i64 (fN ws 2 j 0), .int .i64 (fN ws 2 j 1), .int .i64 (fN ws 2 j 2), .int .i64 (fN ws 2 j 3), .int .i64 0, .int .i64 0, .int .i64 0], Hl.blk b3 45 #[.slice (some ⟨g, 0, none⟩) ws.length ws.length], Hl.blk g 9 (strs ws).toArray, Hl.blk b2 31 #[.bool false, .int .i64 0, .int .i64 0, .int .i64 0, .string ⟨#[]⟩, .int .i64 0, .int .i64 0, .int .i64 0, .int .i64 0, .int .i64 0, .int .i64 0, .int .i64 0, .int .i64 0]] wr)
  case atStart =>
    refine ⟨0, by omega, rfl, ?_⟩
    have h : Hs noRow w [Hl.blk nb 65 #[.pointer (some ⟨g14, 5, none⟩), .pointer (some ⟨g14, 6, none⟩), .pointer (some ⟨g14, 7, none⟩), .pointer (some ⟨g14, 8, none⟩)], Hl.blk g14 26 #[.bool sy, .int .i64 a1, .int .i64 a2, .int .i64 13, .string ⟨#[]⟩, .int .i64 0, .int .i64 0, .int .i64 0, .int .i64 0, .int .i64 0, .int .i64 0, .int .i64 0], Hl.blk b3 45 #[.slice (some ⟨g, 0, none⟩) ws.length ws.length], Hl.blk g 9 (strs ws).toArray, Hl.blk b2 31 #[.bool false, .int .i64 0, .int .i64 0, .int .i64 0, .string ⟨#[]⟩, .int .i64 0, .int .i64 0, .int .i64 0, .int .i64 0, .int .i64 0, .int .i64 0, .int .i64 0, .int .i64 0]] _ := H.sel sF
    exact h
  case round =>
    clear H
    obtain ⟨j, hj, rfl, H⟩ := hrel
    by_cases hlt : j < M
    · have l1 : (j : Int) < M := by omega
      have hj4 : j = 0 ∨ j = 1 ∨ j = 2 ∨ j = 3 := by omega
      rcases hj4 with rfl | rfl | rfl | rfl
      all_goals (
        go_wp2_with (first | ((first | ((with_reducible apply st_load1 H); decide +kernel; rfl; exact cF) | ((with_reducible apply st_store H); rfl; exact eF; (focus (exact cells_agg _)); exact uF; kernel_rfl; (focus (exact Nat.le_of_ble_eq_true (by rfl))); (focus (rfl)))); clear H; intro wn H; (try simp only [splice, yG, yH, yI, yJ, yK, yL, yM, yN, yO, yP, yQ, Nat.reduceAdd, yA, yB, yC] at H); simp only [Act.put, yA, yB, yC, yD, yE, yF]) | ((first | (go_at_call 35; refine gvF (wF) H ?_) | (go_at_call 38; refine gvF (number_i (getW ws _) (HW _) _ (HE.out.later H.below)) H ?_)); clear H; intro wn H))
      )
      · go_roundg (M - 1)
        case measure => omega
        case rel => exact ⟨1, by omega, rfl, H⟩
      · go_roundg (M - 2)
        case measure => omega
        case rel => exact ⟨2, by omega, rfl, H⟩
      · go_roundg (M - 3)
        case measure => omega
        case rel => exact ⟨3, by omega, rfl, H⟩
      · go_roundg (M - 4)
        case measure => omega
        case rel => exact ⟨4, by omega, rfl, H⟩
    · obtain rfl : j = M := by omega
      have l1 : ¬ (j : Int) < j := by omega
      generalize fN ws 2 j 0 = A at *
      generalize fN ws 2 j 1 = B at *
      generalize fN ws 2 j 2 = C at *
      generalize fN ws 2 j 3 = D at *
      have hI3 : ∀ g w, (∀ (k : Nat) x, states[k]? = some x → w.cell? ⟨g, k, none⟩ = some (.string x)) → Gives Tryz.prog 37 #[.slice (some ⟨g, 0, none⟩) 4 4, .string (bs (getW ws 3))] w (.int .i64 (stateOf (getW ws 3))) := fun g w h => idx_i states _ g w (by decide) h
      go_wp2_with (((((with_reducible apply st_load1 H); decide +kernel; rfl; exact cF)); clear H; intro wn H; (try simp only [splice, yG, yH, yI, yJ, yK, yL, yM, yN, yO, yP, yQ, Nat.reduceAdd, yA, yB, yC] at H); simp only [Act.put, yA, yB, yC, yD, yE, yF]))
      refine (Rets.use (stateWords_i _)).mono ?_; rintro e wn ⟨_, _, rfl, ⟨gs, rfl, rfl⟩, hkk⟩; have Hn := H.moreK (by intro k hk; first | exact absurd hk List.not_mem_nil | (obtain rfl := List.mem_singleton.1 hk; exact In.mem iF)) hkk; clear hkk; clear H; have H := Hn; clear Hn; (try simp only [yT, yV] at H)
      have hR := opRight_i sy a1 a2 13 ⟨#[]⟩ A (stateOf (getW ws 3)) C D 0 0 0 (by decide)
      have hT := opText_i sy a1 a2 13 ⟨#[]⟩ A (stateOf (getW ws 3)) C D 0 0 0 (by decide)
      have HO : Hid ((candI ws).ok = opOk sy a1 a2 13 ⟨#[]⟩ A (stateOf (getW ws 3)) C D 0 0 0) := Lib.hid (by rw [HC.out]; rfl)
      have HX : Hid ((candI ws).text = opText sy a1 a2 13 ⟨#[]⟩ A (stateOf (getW ws 3)) C D 0 0 0) := Lib.hid (by rw [HC.out]; rfl)
      generalize opText sy a1 a2 13 ⟨#[]⟩ A (stateOf (getW ws 3)) C D 0 0 0 = X at *
      unfold encOp at hR hT
      cases hok : opOk sy a1 a2 13 ⟨#[]⟩ A (stateOf (getW ws 3)) C D 0 0 0
      · rw [hok] at hR HO
        have HF : Hid (readI t.data.toList = (zeroO, 3)) := Lib.hid (by rw [HRD.out, HO.out]; rfl)
        clear hok HRD HO HX HC
        go_wp2_with (first | ((with_reducible refine' st_guard ?_ ?_ ?_); rotate_left; rfl; (all_goals (intro hgd; cases hgd)); (try simp only [Act.put, yA, yB, yC, yD, yE, yF])) | ((first | ((with_reducible apply st_loads H); decide +kernel; rfl; exact iF; exact zF; rfl) | ((with_reducible apply st_store H); rfl; exact eF; (focus (exact cells_agg _)); exact uF; kernel_rfl; (focus (exact Nat.le_of_ble_eq_true (by rfl))); (focus (rfl)))); clear H; intro wn H; (try simp only [splice, yG, yH, yI, yJ, yK, yL, yM, yN, yO, yP, yQ, Nat.reduceAdd, yA, yB, yC] at H); simp only [Act.put, yA, yB, yC, yD, yE, yF]) | ((first | (go_at_call 35; refine gvF (wF) H ?_) | (go_at_call 37; refine gvF (hI3 _ _ (fun k x hx => H.cell iF (states_at hx))) H ?_) | (go_at_call 12; refine gvF (hR _) H ?_)); clear H; intro wn H))
        refine bp_cell H rfl rfl iF (by kernel_rfl) (by kernel_rfl) rfl (by first | exact .inl rfl | exact .inr rfl) ?_
        rw [HF.out]
        exact ⟨rfl, H.below⟩
      · rw [hok] at hR HO
        by_cases hx : X = t.data.toList
        · have HF : Hid (readI t.data.toList = (⟨sy, a1, a2, 13, ⟨#[]⟩, A, (stateOf (getW ws 3)), C, D, 0, 0, 0⟩, 0)) := Lib.hid (by rw [HRD.out, HO.out, HX.out, hx, ← HC.out]; simp)
          have hB : ((bs X).toList == t.toList) = true := by rw [str_beq, hx, bs_data]; simp
          have hB2 : ((bs X).toList != t.toList) = false := by rw [bne, hB]; rfl
          clear hok HRD HO HX HC hx
          go_wp2_with (first | ((with_reducible refine' st_guard ?_ ?_ ?_); rotate_left; rfl; (all_goals (intro hgd; cases hgd)); (try simp only [Act.put, yA, yB, yC, yD, yE, yF])) | ((first | ((with_reducible apply st_loads H); decide +kernel; rfl; exact iF; exact zF; rfl) | ((with_reducible apply st_store H); rfl; exact eF; (focus (exact cells_agg _)); exact uF; kernel_rfl; (focus (exact Nat.le_of_ble_eq_true (by rfl))); (focus (rfl)))); clear H; intro wn H; (try simp only [splice, yG, yH, yI, yJ, yK, yL, yM, yN, yO, yP, yQ, Nat.reduceAdd, yA, yB, yC] at H); simp only [Act.put, yA, yB, yC, yD, yE, yF]) | ((first | (go_at_call 35; refine gvF (wF) H ?_) | (go_at_call 37; refine gvF (hI3 _ _ (fun k x hx => H.cell iF (states_at hx))) H ?_) | (go_at_call 12; refine gvF (hR _) H ?_) | (go_at_call 6; refine gvF (hT _ (HE.out.later H.below).tab) H ?_)); clear H; intro wn H))
          refine bp_cell H rfl rfl iF (by kernel_rfl) (by kernel_rfl) rfl (by first | exact .inl rfl | exact .inr rfl) ?_
          rw [HF.out]
          exact ⟨rfl, H.below⟩
        · have HF : Hid (readI t.data.toList = (zeroO, 3)) := Lib.hid (by rw [HRD.out, HO.out, HX.out, beq_eq_false_iff_ne.2 hx]; rfl)
          have hB : ((bs X).toList == t.toList) = false := by
            rw [str_beq]
            exact decide_eq_false fun e => hx (by rw [← e]; rfl)
          have hB2 : ((bs X).toList != t.toList) = true := by rw [bne, hB]; rfl
          clear hok HRD HO HX HC hx
          go_wp2_with (first | ((with_reducible refine' st_guard ?_ ?_ ?_); rotate_left; rfl; (all_goals (intro hgd; cases hgd)); (try simp only [Act.put, yA, yB, yC, yD, yE, yF])) | ((first | ((with_reducible apply st_loads H); decide +kernel; rfl; exact iF; exact zF; rfl) | ((with_reducible apply st_store H); rfl; exact eF; (focus (exact cells_agg _)); exact uF; kernel_rfl; (focus (exact Nat.le_of_ble_eq_true (by rfl))); (focus (rfl)))); clear H; intro wn H; (try simp only [splice, yG, yH, yI, yJ, yK, yL, yM, yN, yO, yP, yQ, Nat.reduceAdd, yA, yB, yC] at H); simp only [Act.put, yA, yB, yC, yD, yE, yF]) | ((first | (go_at_call 35; refine gvF (wF) H ?_) | (go_at_call 37; refine gvF (hI3 _ _ (fun k x hx => H.cell iF (states_at hx))) H ?_) | (go_at_call 12; refine gvF (hR _) H ?_) | (go_at_call 6; refine gvF (hT _ (HE.out.later H.below).tab) H ?_)); clear H; intro wn H))
          refine bp_cell H rfl rfl iF (by kernel_rfl) (by kernel_rfl) rfl (by first | exact .inl rfl | exact .inr rfl) ?_
          rw [HF.out]
          exact ⟨rfl, H.below⟩
end Go.Proofs.YtfblolkkajppcaaGreatDoor
