/-
  StepRead of the program and of the reference: the walks (printed by a program).
-/
import Derived.Test.YtfblolkkajppcaaGreatDoorQS
import Derived.Test.YtfblolkkajppcaaGreatDoorQ5d
import Derived.Test.YtfblolkkajppcaaGreatDoorQ6
set_option linter.unusedSimpArgs false
set_option linter.unusedVariables false
namespace Go.Proofs.YtfblolkkajppcaaGreatDoor
open Go.RowKit M
namespace M
theorem hasPre (T : Bs) : Lib.hasPrefix T [33] = decide (T.head? = some 33) := by
  unfold Lib.hasPrefix
  cases T with
  | nil => rfl
  | cons c r =>
    by_cases h : c = 33
    · subst h; simp [List.isPrefixOf]
    · simp [List.isPrefixOf, h, Ne.symm h]
theorem cutB_none : ∀ {x : Bs}, (∀ c ∈ x, c ≠ 32) → cutB x = x ∧ cutA x = []
  | [], _ => ⟨rfl, rfl⟩
  | c :: x, h => by
    have hc : c ≠ 32 := h c (List.mem_cons_self ..)
    obtain ⟨h1, h2⟩ := cutB_none (x := x) fun d hd => h d (List.mem_cons_of_mem _ hd)
    rw [cutB, if_neg hc, cutA, if_neg hc, h1, h2]
    exact ⟨rfl, rfl⟩
theorem cut_lib (s : Bs) : (Lib.cut s [32]).1 = cutB s ∧ (Lib.cut s [32]).2.1 = cutA s := by
  rcases first_space s with h | ⟨x, r, rfl, h⟩
  · obtain ⟨h1, h2⟩ := cutB_none h
    unfold Lib.cut
    rw [index_miss h, if_neg (by decide), h1, h2]
    exact ⟨rfl, rfl⟩
  · obtain ⟨h1, h2⟩ := cutB_app h r
    unfold Lib.cut
    rw [index_hit h, if_pos (by omega), h1, h2]
    refine ⟨?_, ?_⟩
    · simp
    · show (x ++ 32 :: r).drop ((x.length : Int).toNat + 1) = r
      rw [Int.toNat_natCast, ← List.drop_drop, List.drop_left' rfl]; rfl
theorem cutB_len (s : Bs) : (cutB s).length ≤ s.length := by
  induction s with
  | nil => exact Nat.le_refl _
  | cons c r ih => rw [cutB]; split <;> simp; omega
theorem words_two {s : Bs} (h : 2 ≤ (cut [] s).length) : (getW (cut [] s) 0).length + 1 ≤ s.length := by
  rcases first_space s with h1 | ⟨x, r, rfl, h1⟩
  · rw [cut_none h1] at h; simp at h
  · rw [cut_app h1, List.nil_append, cut, if_pos rfl]
    show x.length + 1 ≤ _
    simp
theorem readI_ow (t : Bs) (h : t.length ≤ 8000) : (readI t).1.ow.size ≤ maxLen := by
  unfold readI
  rw [if_neg (by omega)]
  split
  · show (candI (cut [] t)).ow.size ≤ maxLen
    unfold candI
    simp only
    split
    · have := getW_len (ws := cut [] t) (n := 8000) (by intro x hx; have := cut_len _ _ x hx; simp at this; omega) 2
      show (getW (cut [] t) 2).length ≤ maxLen
      unfold maxLen; omega
    · decide
  · decide
end M
theorem ext_drop (t : ByteArray) (n : Nat) : t.extract n t.size = bs (t.data.toList.drop n) := by
  rw [extract_bs, List.take_of_length_le]
  have := size_data t
  rw [List.length_drop]; omega
theorem pre_l (t : ByteArray) (w : World) : Gives Tryz.prog 59 #[.string t, .string ⟨#[33]⟩] w (.bool (decide (t.data.toList.head? = some 33))) := by
  rw [← hasPre]
  exact (Tryz.strings_HasPrefix t ⟨#[33]⟩ w).mono fun _ _ ⟨he, hw⟩ => ⟨he, by subst hw; exact Below.refl _ _⟩
theorem cut_l (l : Bs) (hl : l.length ≤ 8000) (w : World) (hE : Env w) : ∃ b, Gives Tryz.prog 60 #[.string (bs l), .string ⟨#[32]⟩] w (.tuple #[.string (bs (cutB l)), .string (bs (cutA l)), .bool b]) := by
  obtain ⟨m, hm⟩ := hE.mx
  have h := Any.strings_Cut { Tryz.laysM145 with } (bs l) ⟨#[32]⟩ m w (by show l.length < _; omega) hm
  obtain ⟨e1, e2⟩ := cut_lib l
  refine ⟨(Lib.cut l [32]).2.2, Gives.ofDrewN (h.mono fun e w' ⟨he, n, hw⟩ => ⟨?_, n, #[], hw⟩)⟩
  rw [he]
  have a1 : (⟨(Lib.cut (bs l).data.toList (⟨#[32]⟩ : ByteArray).data.toList).1.toArray⟩ : ByteArray) = bs (cutB l) := by rw [← e1]; rfl
  have a2 : (⟨(Lib.cut (bs l).data.toList (⟨#[32]⟩ : ByteArray).data.toList).2.1.toArray⟩ : ByteArray) = bs (cutA l) := by rw [← e2]; rfl
  rw [a1, a2]; rfl
theorem field_oo (v0 v1 v2 v3 v4 v5 v6 v7 v8 v9 v10 v11 v12 : Value) (w : World) : (Instr.field 31 (.agg #[v0, v1, v2, v3, v4, v5, v6, v7, v8, v9, v10, v11, v12]) 0).run Tryz.prog w = .ok (.agg #[v0, v1, v2, v3, v4, v5, v6, v7, v8, v9, v10, v11]) w := by kernel_rfl
theorem fF2 {P : Prop} (h : P := by unfold OpOk; go_simp; (try simp only [field_oo, Result.andThen_ok]); exact now_v) : P := h
set_option maxRecDepth 100000 in
theorem st_build14 {R : Nat → Prop} {w0 w : World} {L : List Hl} {a : Act} {ops : Array Oper} {Q : Exit → Act → World → Prop} {rest : List Oper} {dst : Option Tmp} {ty : TypeId} {x : Operand} {pos : String} {aft : Array Edge} {v0 v1 v2 v3 v4 v5 v6 v7 v8 v9 v10 v11 v12 : Value} (H : Hs R w0 L w)
    (hx : a.eval x = .agg #[v0, v1, v2, v3, v4, v5, v6, v7, v8, v9, v10, v11, v12]) (k : ∀ w', Hs R w0 L w' → wpList Tryz.prog ops Q rest (a.put dst (.agg #[v0, v1, v2, v3, v4, v5, v6, v7, v8, v9, v10, v11, v12, .int .i64 0])) w') :
    wpList Tryz.prog ops Q (⟨dst, .build 40 #[(0, x)], ty, pos, aft, none⟩ :: rest) a w :=
  st_v H rfl (by
    unfold OpOk
    generalize a.eval = r at hx ⊢
    go_simp
    exact now_v) k
def encSOut (s : Stp) (e : Int) : Value :=
  .agg #[.bool s.1.sys, .int .i64 s.1.l1, .int .i64 s.1.l2, .int .i64 s.1.k, .string s.1.ow, .int .i64 s.1.a, .int .i64 s.1.b, .int .i64 s.1.c, .int .i64 s.1.d, .int .i64 s.1.m1, .int .i64 s.1.m2, .int .i64 s.1.af, .int .i64 s.2, .int .i64 e]
set_option maxRecDepth 100000 in
set_option maxHeartbeats 8000000 in
theorem stepRead_i (t : ByteArray) (w : World) (hE : Env w) : Gives Tryz.prog 18 #[.string t] w (encSOut (readStepI t.data.toList).1 (readStepI t.data.toList).2) := by
  unfold Gives
  have H := Hs.start noRow w
  have hsz := size_data t
  have hL := isLong_i t
  by_cases hl : 8000 < t.size
  · rw [decide_eq_true hl] at hL
    have HR : Hid (readStepI t.data.toList = (zeroS, 2)) := Lib.hid (by unfold readStepI; rw [if_pos (by omega)])
    clear hl hsz hE
    go_enter Tryz.func18, Tryz.ntmps18
    go_wp2_with (first | ((first | ((with_reducible refine st_gwT ?_ ?_); rfl) | ((with_reducible refine st_gwF ?_ ?_); rfl) | ((with_reducible refine st_gsT ?_ ?_); rfl) | ((with_reducible refine st_gsF ?_ ?_); rfl)); (try simp only [Act.put, yA, yB, yC, yD, yE, yF])) | ((with_reducible refine' st_guard ?_ ?_ ?_); rotate_left; rfl; (all_goals (intro hgd; cases hgd)); (try simp only [Act.put, yA, yB, yC, yD, yE, yF])) | ((with_reducible apply st_want); rfl) | ((with_reducible refine st_skip ?_ ?_); rfl; simp only [Act.put, yA, yB, yC, yD, yE, yF]) | ((first | ((with_reducible apply st_load1 H); decide +kernel; rfl; exact cF) | ((with_reducible apply st_loads H); decide +kernel; rfl; exact iF; exact zF; rfl) | ((with_reducible apply st_store H); rfl; exact eF; (focus (exact cells_agg _)); exact uF; kernel_rfl; (focus (exact Nat.le_of_ble_eq_true (by rfl))); (focus (first | rfl | simp))) | ((with_reducible apply st_storeown H); rfl; exact eF; (focus (exact (rfl : _ = [_]))); exact uF; (focus omega); kernel_rfl; rfl)); clear H; intro wn H; (try simp only [splice, yG, yH, yI, yJ, yK, yL, yM, yN, yO, yP, yQ, Nat.reduceAdd, yA, yB, yC] at H); simp only [Act.put, yA, yB, yC, yD, yE, yF]) | ((first | ((with_reducible apply st_alloc (dst := some 2) H); exact nF; intro b2) | ((with_reducible apply st_alloc (dst := some 3) H); exact nF; intro b3) | ((with_reducible apply st_strsum H); rfl; rfl; exact szF; kernel_rfl) | ((with_reducible apply st_loadat H); decide +kernel; rfl; exact aF; exact zF; rfl) | ((with_reducible apply st_storerow H); rfl; exact eF; (first | exact cells_agg _ | exact cellI | exact cellS | exact cellB | exact (rfl : _ = [_])); exact uF; kernel_rfl; exact Nat.succ_pos _; exact fitF; rfl)); clear H; intro wn H; simp only [Act.put, yA, yB, yC, yD, yE, yF]) | ((first | (go_at_call 33; refine gvF (hL _) H ?_)); clear H; intro wn H) | ((with_reducible apply st_build14 H); rfl; clear H; intro wn H; simp only [Act.put, yA, yB, yC, yD, yE, yF]) | ((with_reducible apply st_field H); exact fF2; clear H; intro wn H; simp only [Act.put, yA, yB, yC, yD, yE, yF]) | fail)
    refine bp_cell H rfl rfl iF (by kernel_rfl) (by kernel_rfl) rfl (by first | exact .inl rfl | exact .inr rfl) ?_
    rw [HR.out]
    exact ⟨rfl, H.below⟩
  rw [decide_eq_false hl] at hL
  have HE := Lib.hid hE
  have hP := pre_l t
  obtain ⟨R, hR⟩ : ∃ R : ByteArray, R = if t.data.toList.head? = some 33 then bs (cutA (t.data.toList.drop 1)) else t := ⟨_, rfl⟩
  obtain ⟨p, hp⟩ : ∃ p : Int, p = if t.data.toList.head? = some 33 then numI (cutB (t.data.toList.drop 1)) else -1 := ⟨_, rfl⟩
  have hsi : stepI t.data.toList = ((readI R.data.toList).1, p) := by
    unfold stepI
    rw [hR, hp]
    split <;> rfl
  have hRl : R.data.toList.length ≤ 8000 := by
    rw [hR]
    split
    · show (cutA _).length ≤ _
      have : ∀ s : Bs, (cutA s).length ≤ s.length := fun s => by
        induction s with
        | nil => exact Nat.le_refl _
        | cons c r ih => rw [cutA]; split <;> simp; omega
      have := this (t.data.toList.drop 1)
      rw [List.length_drop] at this; omega
    · omega
  have how := readI_ow _ hRl
  have hO : ∀ w, Env w → Gives Tryz.prog 8 #[.string R] w (encOut (readI R.data.toList).1 (readI R.data.toList).2) := fun w h => opRead_i R w h
  have hrd : readStepI t.data.toList = if (stepI t.data.toList).text == [] || (stepI t.data.toList).text != t.data.toList then (zeroS, 3) else (stepI t.data.toList, 0) := by unfold readStepI; rw [if_neg (by omega)]
  generalize (readI R.data.toList).1 = o at *
  generalize (readI R.data.toList).2 = e at *
  obtain ⟨sy, l1, l2, k, ow, a, b, c, d, m1, m2, af⟩ := o
  have hT := stepText_i sy l1 l2 k ow a b c d m1 m2 af p how
  have hx : (stepI t.data.toList).text = stepText sy l1 l2 k ow a b c d m1 m2 af p := by rw [hsi]; rfl
  generalize stepText sy l1 l2 k ow a b c d m1 m2 af p = X at *
  have HRD := Lib.hid hrd
  have HX := Lib.hid hx
  have HSI := Lib.hid hsi
  have hcl : (cutB (t.data.toList.drop 1)).length ≤ 8000 := by
    have := cutB_len (t.data.toList.drop 1)
    rw [List.length_drop] at this; omega
  have hC : ∀ w, Env w → ∃ b, Gives Tryz.prog 60 #[.string (t.extract 1 t.size), .string ⟨#[32]⟩] w (.tuple #[.string (bs (cutB (t.data.toList.drop 1))), .string (bs (cutA (t.data.toList.drop 1))), .bool b]) := fun w h => by
    rw [ext_drop]
    exact cut_l _ (by rw [List.length_drop]; omega) w h
  unfold encOut at hO
  unfold encStep at hT
  by_cases hh : t.data.toList.head? = some 33
  · rw [if_pos hh] at hR hp
    rw [decide_eq_true hh] at hP
    have h1 : (1 : Int) ≤ t.size := by
      have : t.data.toList ≠ [] := fun e => by rw [e] at hh; cases hh
      have := List.length_pos_iff.2 this
      omega
    have hN : ∀ w, Env w → Gives Tryz.prog 38 #[.string (bs (cutB (t.data.toList.drop 1)))] w (.int .i64 p) := fun w h => by rw [hp]; exact number_i _ hcl w h
    generalize cutB (t.data.toList.drop 1) = CB at *
    rw [← hR] at hC
    clear hE hsz hl hrd hx hsi hRl how hR hp hh hcl
    go_enter Tryz.func18, Tryz.ntmps18
    go_wp2_with (first | ((first | ((with_reducible refine st_gwT ?_ ?_); rfl) | ((with_reducible refine st_gwF ?_ ?_); rfl) | ((with_reducible refine st_gsT ?_ ?_); rfl) | ((with_reducible refine st_gsF ?_ ?_); rfl)); (try simp only [Act.put, yA, yB, yC, yD, yE, yF])) | ((with_reducible refine' st_guard ?_ ?_ ?_); rotate_left; rfl; (all_goals (intro hgd; cases hgd)); (try simp only [Act.put, yA, yB, yC, yD, yE, yF])) | ((with_reducible apply st_want); rfl) | ((with_reducible refine st_skip ?_ ?_); rfl; simp only [Act.put, yA, yB, yC, yD, yE, yF]) | ((first | ((with_reducible apply st_load1 H); decide +kernel; rfl; exact cF) | ((with_reducible apply st_loads H); decide +kernel; rfl; exact iF; exact zF; rfl) | ((with_reducible apply st_store H); rfl; exact eF; (focus (exact cells_agg _)); exact uF; kernel_rfl; (focus (exact Nat.le_of_ble_eq_true (by rfl))); (focus (first | rfl | simp))) | ((with_reducible apply st_storeown H); rfl; exact eF; (focus (exact (rfl : _ = [_]))); exact uF; (focus omega); kernel_rfl; rfl)); clear H; intro wn H; (try simp only [splice, yG, yH, yI, yJ, yK, yL, yM, yN, yO, yP, yQ, Nat.reduceAdd, yA, yB, yC] at H); simp only [Act.put, yA, yB, yC, yD, yE, yF]) | ((first | ((with_reducible apply st_alloc (dst := some 2) H); exact nF; intro b2) | ((with_reducible apply st_alloc (dst := some 3) H); exact nF; intro b3) | ((with_reducible apply st_strsum H); rfl; rfl; exact szF; kernel_rfl) | ((with_reducible apply st_loadat H); decide +kernel; rfl; exact aF; exact zF; rfl) | ((with_reducible apply st_storerow H); rfl; exact eF; (first | exact cells_agg _ | exact cellI | exact cellS | exact cellB | exact (rfl : _ = [_])); exact uF; kernel_rfl; exact Nat.succ_pos _; exact fitF; rfl)); clear H; intro wn H; simp only [Act.put, yA, yB, yC, yD, yE, yF]) | ((first | (go_at_call 33; refine gvF (hL _) H ?_) | (go_at_call 59; refine gvF (hP _) H ?_) | (go_at_call 38; refine gvF (hN _ (HE.out.later H.below)) H ?_) | (go_at_call 8; refine gvF (hO _ (HE.out.later H.below)) H ?_) | (go_at_call 16; refine gvF (hT _ (HE.out.later H.below).tab) H ?_)); clear H; intro wn H) | ((with_reducible apply st_build14 H); rfl; clear H; intro wn H; simp only [Act.put, yA, yB, yC, yD, yE, yF]) | ((with_reducible apply st_field H); exact fF2; clear H; intro wn H; simp only [Act.put, yA, yB, yC, yD, yE, yF]) | fail)
    obtain ⟨fb, hC⟩ := hC _ (HE.out.later H.below)
    refine gvF (hC) H ?_; clear H; intro wn H
    by_cases hx0 : X = []
    · have HF : Hid (readStepI t.data.toList = (zeroS, 3)) := Lib.hid (by rw [HRD.out, HX.out, hx0]; rfl)
      have hE1 : ((bs X).toList == []) = true := by rw [hx0, Lib.toList_data]; rfl
      have hE3 : (bs X).toList.isEmpty = true := by rw [hx0, Lib.toList_data]; rfl
      clear HRD HX hx0
      go_wp2_with (first | ((first | ((with_reducible refine st_gwT ?_ ?_); rfl) | ((with_reducible refine st_gwF ?_ ?_); rfl) | ((with_reducible refine st_gsT ?_ ?_); rfl) | ((with_reducible refine st_gsF ?_ ?_); rfl)); (try simp only [Act.put, yA, yB, yC, yD, yE, yF])) | ((with_reducible refine' st_guard ?_ ?_ ?_); rotate_left; rfl; (all_goals (intro hgd; cases hgd)); (try simp only [Act.put, yA, yB, yC, yD, yE, yF])) | ((with_reducible apply st_want); rfl) | ((with_reducible refine st_skip ?_ ?_); rfl; simp only [Act.put, yA, yB, yC, yD, yE, yF]) | ((first | ((with_reducible apply st_load1 H); decide +kernel; rfl; exact cF) | ((with_reducible apply st_loads H); decide +kernel; rfl; exact iF; exact zF; rfl) | ((with_reducible apply st_store H); rfl; exact eF; (focus (exact cells_agg _)); exact uF; kernel_rfl; (focus (exact Nat.le_of_ble_eq_true (by rfl))); (focus (first | rfl | simp))) | ((with_reducible apply st_storeown H); rfl; exact eF; (focus (exact (rfl : _ = [_]))); exact uF; (focus omega); kernel_rfl; rfl)); clear H; intro wn H; (try simp only [splice, yG, yH, yI, yJ, yK, yL, yM, yN, yO, yP, yQ, Nat.reduceAdd, yA, yB, yC] at H); simp only [Act.put, yA, yB, yC, yD, yE, yF]) | ((first | ((with_reducible apply st_alloc (dst := some 2) H); exact nF; intro b2) | ((with_reducible apply st_alloc (dst := some 3) H); exact nF; intro b3) | ((with_reducible apply st_strsum H); rfl; rfl; exact szF; kernel_rfl) | ((with_reducible apply st_loadat H); decide +kernel; rfl; exact aF; exact zF; rfl) | ((with_reducible apply st_storerow H); rfl; exact eF; (first | exact cells_agg _ | exact cellI | exact cellS | exact cellB | exact (rfl : _ = [_])); exact uF; kernel_rfl; exact Nat.succ_pos _; exact fitF; rfl)); clear H; intro wn H; simp only [Act.put, yA, yB, yC, yD, yE, yF]) | ((first | (go_at_call 33; refine gvF (hL _) H ?_) | (go_at_call 59; refine gvF (hP _) H ?_) | (go_at_call 38; refine gvF (hN _ (HE.out.later H.below)) H ?_) | (go_at_call 8; refine gvF (hO _ (HE.out.later H.below)) H ?_) | (go_at_call 16; refine gvF (hT _ (HE.out.later H.below).tab) H ?_)); clear H; intro wn H) | ((with_reducible apply st_build14 H); rfl; clear H; intro wn H; simp only [Act.put, yA, yB, yC, yD, yE, yF]) | ((with_reducible apply st_field H); exact fF2; clear H; intro wn H; simp only [Act.put, yA, yB, yC, yD, yE, yF]) | fail)
      refine bp_cell H rfl rfl iF (by kernel_rfl) (by kernel_rfl) rfl (by first | exact .inl rfl | exact .inr rfl) ?_
      rw [HF.out]
      exact ⟨rfl, H.below⟩
    · have hE1 : ((bs X).toList == []) = false := by rw [Lib.toList_data]; exact beq_eq_false_iff_ne.2 hx0
      have hE3 : (bs X).toList.isEmpty = false := by rw [Lib.toList_data]; show X.isEmpty = false; simpa using hx0
      by_cases hx : X = t.data.toList
      · have HF : Hid (readStepI t.data.toList = ((⟨sy, l1, l2, k, ow, a, b, c, d, m1, m2, af⟩, p), 0)) := Lib.hid (by rw [HRD.out, HX.out, beq_eq_false_iff_ne.2 hx0, hx, HSI.out]; simp)
        have hB : ((bs X).toList == t.toList) = true := by rw [str_beq, hx, bs_data]; simp
        have hB2 : ((bs X).toList != t.toList) = false := by rw [bne, hB]; rfl
        clear HRD HX hx hx0
        go_wp2_with (first | ((first | ((with_reducible refine st_gwT ?_ ?_); rfl) | ((with_reducible refine st_gwF ?_ ?_); rfl) | ((with_reducible refine st_gsT ?_ ?_); rfl) | ((with_reducible refine st_gsF ?_ ?_); rfl)); (try simp only [Act.put, yA, yB, yC, yD, yE, yF])) | ((with_reducible refine' st_guard ?_ ?_ ?_); rotate_left; rfl; (all_goals (intro hgd; cases hgd)); (try simp only [Act.put, yA, yB, yC, yD, yE, yF])) | ((with_reducible apply st_want); rfl) | ((with_reducible refine st_skip ?_ ?_); rfl; simp only [Act.put, yA, yB, yC, yD, yE, yF]) | ((first | ((with_reducible apply st_load1 H); decide +kernel; rfl; exact cF) | ((with_reducible apply st_loads H); decide +kernel; rfl; exact iF; exact zF; rfl) | ((with_reducible apply st_store H); rfl; exact eF; (focus (exact cells_agg _)); exact uF; kernel_rfl; (focus (exact Nat.le_of_ble_eq_true (by rfl))); (focus (first | rfl | simp))) | ((with_reducible apply st_storeown H); rfl; exact eF; (focus (exact (rfl : _ = [_]))); exact uF; (focus omega); kernel_rfl; rfl)); clear H; intro wn H; (try simp only [splice, yG, yH, yI, yJ, yK, yL, yM, yN, yO, yP, yQ, Nat.reduceAdd, yA, yB, yC] at H); simp only [Act.put, yA, yB, yC, yD, yE, yF]) | ((first | ((with_reducible apply st_alloc (dst := some 2) H); exact nF; intro b2) | ((with_reducible apply st_alloc (dst := some 3) H); exact nF; intro b3) | ((with_reducible apply st_strsum H); rfl; rfl; exact szF; kernel_rfl) | ((with_reducible apply st_loadat H); decide +kernel; rfl; exact aF; exact zF; rfl) | ((with_reducible apply st_storerow H); rfl; exact eF; (first | exact cells_agg _ | exact cellI | exact cellS | exact cellB | exact (rfl : _ = [_])); exact uF; kernel_rfl; exact Nat.succ_pos _; exact fitF; rfl)); clear H; intro wn H; simp only [Act.put, yA, yB, yC, yD, yE, yF]) | ((first | (go_at_call 33; refine gvF (hL _) H ?_) | (go_at_call 59; refine gvF (hP _) H ?_) | (go_at_call 38; refine gvF (hN _ (HE.out.later H.below)) H ?_) | (go_at_call 8; refine gvF (hO _ (HE.out.later H.below)) H ?_) | (go_at_call 16; refine gvF (hT _ (HE.out.later H.below).tab) H ?_)); clear H; intro wn H) | ((with_reducible apply st_build14 H); rfl; clear H; intro wn H; simp only [Act.put, yA, yB, yC, yD, yE, yF]) | ((with_reducible apply st_field H); exact fF2; clear H; intro wn H; simp only [Act.put, yA, yB, yC, yD, yE, yF]) | fail)
        refine bp_cell H rfl rfl iF (by kernel_rfl) (by kernel_rfl) rfl (by first | exact .inl rfl | exact .inr rfl) ?_
        rw [HF.out]
        exact ⟨rfl, H.below⟩
      · have HF : Hid (readStepI t.data.toList = (zeroS, 3)) := Lib.hid (by rw [HRD.out, HX.out, bne_iff_ne.2 hx]; simp)
        have hB : ((bs X).toList == t.toList) = false := by
          rw [str_beq]
          exact decide_eq_false fun e => hx (by rw [← e]; rfl)
        have hB2 : ((bs X).toList != t.toList) = true := by rw [bne, hB]; rfl
        clear HRD HX hx hx0
        go_wp2_with (first | ((first | ((with_reducible refine st_gwT ?_ ?_); rfl) | ((with_reducible refine st_gwF ?_ ?_); rfl) | ((with_reducible refine st_gsT ?_ ?_); rfl) | ((with_reducible refine st_gsF ?_ ?_); rfl)); (try simp only [Act.put, yA, yB, yC, yD, yE, yF])) | ((with_reducible refine' st_guard ?_ ?_ ?_); rotate_left; rfl; (all_goals (intro hgd; cases hgd)); (try simp only [Act.put, yA, yB, yC, yD, yE, yF])) | ((with_reducible apply st_want); rfl) | ((with_reducible refine st_skip ?_ ?_); rfl; simp only [Act.put, yA, yB, yC, yD, yE, yF]) | ((first | ((with_reducible apply st_load1 H); decide +kernel; rfl; exact cF) | ((with_reducible apply st_loads H); decide +kernel; rfl; exact iF; exact zF; rfl) | ((with_reducible apply st_store H); rfl; exact eF; (focus (exact cells_agg _)); exact uF; kernel_rfl; (focus (exact Nat.le_of_ble_eq_true (by rfl))); (focus (first | rfl | simp))) | ((with_reducible apply st_storeown H); rfl; exact eF; (focus (exact (rfl : _ = [_]))); exact uF; (focus omega); kernel_rfl; rfl)); clear H; intro wn H; (try simp only [splice, yG, yH, yI, yJ, yK, yL, yM, yN, yO, yP, yQ, Nat.reduceAdd, yA, yB, yC] at H); simp only [Act.put, yA, yB, yC, yD, yE, yF]) | ((first | ((with_reducible apply st_alloc (dst := some 2) H); exact nF; intro b2) | ((with_reducible apply st_alloc (dst := some 3) H); exact nF; intro b3) | ((with_reducible apply st_strsum H); rfl; rfl; exact szF; kernel_rfl) | ((with_reducible apply st_loadat H); decide +kernel; rfl; exact aF; exact zF; rfl) | ((with_reducible apply st_storerow H); rfl; exact eF; (first | exact cells_agg _ | exact cellI | exact cellS | exact cellB | exact (rfl : _ = [_])); exact uF; kernel_rfl; exact Nat.succ_pos _; exact fitF; rfl)); clear H; intro wn H; simp only [Act.put, yA, yB, yC, yD, yE, yF]) | ((first | (go_at_call 33; refine gvF (hL _) H ?_) | (go_at_call 59; refine gvF (hP _) H ?_) | (go_at_call 38; refine gvF (hN _ (HE.out.later H.below)) H ?_) | (go_at_call 8; refine gvF (hO _ (HE.out.later H.below)) H ?_) | (go_at_call 16; refine gvF (hT _ (HE.out.later H.below).tab) H ?_)); clear H; intro wn H) | ((with_reducible apply st_build14 H); rfl; clear H; intro wn H; simp only [Act.put, yA, yB, yC, yD, yE, yF]) | ((with_reducible apply st_field H); exact fF2; clear H; intro wn H; simp only [Act.put, yA, yB, yC, yD, yE, yF]) | fail)
        refine bp_cell H rfl rfl iF (by kernel_rfl) (by kernel_rfl) rfl (by first | exact .inl rfl | exact .inr rfl) ?_
        rw [HF.out]
        exact ⟨rfl, H.below⟩
  · rw [if_neg hh] at hR hp
    rw [decide_eq_false hh] at hP
    have hR' := hR.symm
    subst hR' hp
    clear hE hsz hl hrd hx hsi hRl how hh hcl hC
    go_enter Tryz.func18, Tryz.ntmps18
    by_cases hx0 : X = []
    · have HF : Hid (readStepI t.data.toList = (zeroS, 3)) := Lib.hid (by rw [HRD.out, HX.out, hx0]; rfl)
      have hE1 : ((bs X).toList == []) = true := by rw [hx0, Lib.toList_data]; rfl
      have hE3 : (bs X).toList.isEmpty = true := by rw [hx0, Lib.toList_data]; rfl
      clear HRD HX hx0
      go_wp2_with (first | ((first | ((with_reducible refine st_gwT ?_ ?_); rfl) | ((with_reducible refine st_gwF ?_ ?_); rfl) | ((with_reducible refine st_gsT ?_ ?_); rfl) | ((with_reducible refine st_gsF ?_ ?_); rfl)); (try simp only [Act.put, yA, yB, yC, yD, yE, yF])) | ((with_reducible refine' st_guard ?_ ?_ ?_); rotate_left; rfl; (all_goals (intro hgd; cases hgd)); (try simp only [Act.put, yA, yB, yC, yD, yE, yF])) | ((with_reducible apply st_want); rfl) | ((with_reducible refine st_skip ?_ ?_); rfl; simp only [Act.put, yA, yB, yC, yD, yE, yF]) | ((first | ((with_reducible apply st_load1 H); decide +kernel; rfl; exact cF) | ((with_reducible apply st_loads H); decide +kernel; rfl; exact iF; exact zF; rfl) | ((with_reducible apply st_store H); rfl; exact eF; (focus (exact cells_agg _)); exact uF; kernel_rfl; (focus (exact Nat.le_of_ble_eq_true (by rfl))); (focus (first | rfl | simp))) | ((with_reducible apply st_storeown H); rfl; exact eF; (focus (exact (rfl : _ = [_]))); exact uF; (focus omega); kernel_rfl; rfl)); clear H; intro wn H; (try simp only [splice, yG, yH, yI, yJ, yK, yL, yM, yN, yO, yP, yQ, Nat.reduceAdd, yA, yB, yC] at H); simp only [Act.put, yA, yB, yC, yD, yE, yF]) | ((first | ((with_reducible apply st_alloc (dst := some 2) H); exact nF; intro b2) | ((with_reducible apply st_alloc (dst := some 3) H); exact nF; intro b3) | ((with_reducible apply st_strsum H); rfl; rfl; exact szF; kernel_rfl) | ((with_reducible apply st_loadat H); decide +kernel; rfl; exact aF; exact zF; rfl) | ((with_reducible apply st_storerow H); rfl; exact eF; (first | exact cells_agg _ | exact cellI | exact cellS | exact cellB | exact (rfl : _ = [_])); exact uF; kernel_rfl; exact Nat.succ_pos _; exact fitF; rfl)); clear H; intro wn H; simp only [Act.put, yA, yB, yC, yD, yE, yF]) | ((first | (go_at_call 33; refine gvF (hL _) H ?_) | (go_at_call 59; refine gvF (hP _) H ?_) | (go_at_call 38; refine gvF (hN _ (HE.out.later H.below)) H ?_) | (go_at_call 8; refine gvF (hO _ (HE.out.later H.below)) H ?_) | (go_at_call 16; refine gvF (hT _ (HE.out.later H.below).tab) H ?_)); clear H; intro wn H) | ((with_reducible apply st_build14 H); rfl; clear H; intro wn H; simp only [Act.put, yA, yB, yC, yD, yE, yF]) | ((with_reducible apply st_field H); exact fF2; clear H; intro wn H; simp only [Act.put, yA, yB, yC, yD, yE, yF]) | fail)
      refine bp_cell H rfl rfl iF (by kernel_rfl) (by kernel_rfl) rfl (by first | exact .inl rfl | exact .inr rfl) ?_
      rw [HF.out]
      exact ⟨rfl, H.below⟩
    · have hE1 : ((bs X).toList == []) = false := by rw [Lib.toList_data]; exact beq_eq_false_iff_ne.2 hx0
      have hE3 : (bs X).toList.isEmpty = false := by rw [Lib.toList_data]; show X.isEmpty = false; simpa using hx0
      by_cases hx : X = t.data.toList
      · have HF : Hid (readStepI t.data.toList = ((⟨sy, l1, l2, k, ow, a, b, c, d, m1, m2, af⟩, -1), 0)) := Lib.hid (by rw [HRD.out, HX.out, beq_eq_false_iff_ne.2 hx0, hx, HSI.out]; simp)
        have hB : ((bs X).toList == t.toList) = true := by rw [str_beq, hx, bs_data]; simp
        have hB2 : ((bs X).toList != t.toList) = false := by rw [bne, hB]; rfl
        clear HRD HX hx hx0
        go_wp2_with (first | ((first | ((with_reducible refine st_gwT ?_ ?_); rfl) | ((with_reducible refine st_gwF ?_ ?_); rfl) | ((with_reducible refine st_gsT ?_ ?_); rfl) | ((with_reducible refine st_gsF ?_ ?_); rfl)); (try simp only [Act.put, yA, yB, yC, yD, yE, yF])) | ((with_reducible refine' st_guard ?_ ?_ ?_); rotate_left; rfl; (all_goals (intro hgd; cases hgd)); (try simp only [Act.put, yA, yB, yC, yD, yE, yF])) | ((with_reducible apply st_want); rfl) | ((with_reducible refine st_skip ?_ ?_); rfl; simp only [Act.put, yA, yB, yC, yD, yE, yF]) | ((first | ((with_reducible apply st_load1 H); decide +kernel; rfl; exact cF) | ((with_reducible apply st_loads H); decide +kernel; rfl; exact iF; exact zF; rfl) | ((with_reducible apply st_store H); rfl; exact eF; (focus (exact cells_agg _)); exact uF; kernel_rfl; (focus (exact Nat.le_of_ble_eq_true (by rfl))); (focus (first | rfl | simp))) | ((with_reducible apply st_storeown H); rfl; exact eF; (focus (exact (rfl : _ = [_]))); exact uF; (focus omega); kernel_rfl; rfl)); clear H; intro wn H; (try simp only [splice, yG, yH, yI, yJ, yK, yL, yM, yN, yO, yP, yQ, Nat.reduceAdd, yA, yB, yC] at H); simp only [Act.put, yA, yB, yC, yD, yE, yF]) | ((first | ((with_reducible apply st_alloc (dst := some 2) H); exact nF; intro b2) | ((with_reducible apply st_alloc (dst := some 3) H); exact nF; intro b3) | ((with_reducible apply st_strsum H); rfl; rfl; exact szF; kernel_rfl) | ((with_reducible apply st_loadat H); decide +kernel; rfl; exact aF; exact zF; rfl) | ((with_reducible apply st_storerow H); rfl; exact eF; (first | exact cells_agg _ | exact cellI | exact cellS | exact cellB | exact (rfl : _ = [_])); exact uF; kernel_rfl; exact Nat.succ_pos _; exact fitF; rfl)); clear H; intro wn H; simp only [Act.put, yA, yB, yC, yD, yE, yF]) | ((first | (go_at_call 33; refine gvF (hL _) H ?_) | (go_at_call 59; refine gvF (hP _) H ?_) | (go_at_call 38; refine gvF (hN _ (HE.out.later H.below)) H ?_) | (go_at_call 8; refine gvF (hO _ (HE.out.later H.below)) H ?_) | (go_at_call 16; refine gvF (hT _ (HE.out.later H.below).tab) H ?_)); clear H; intro wn H) | ((with_reducible apply st_build14 H); rfl; clear H; intro wn H; simp only [Act.put, yA, yB, yC, yD, yE, yF]) | ((with_reducible apply st_field H); exact fF2; clear H; intro wn H; simp only [Act.put, yA, yB, yC, yD, yE, yF]) | fail)
        refine bp_cell H rfl rfl iF (by kernel_rfl) (by kernel_rfl) rfl (by first | exact .inl rfl | exact .inr rfl) ?_
        rw [HF.out]
        exact ⟨rfl, H.below⟩
      · have HF : Hid (readStepI t.data.toList = (zeroS, 3)) := Lib.hid (by rw [HRD.out, HX.out, bne_iff_ne.2 hx]; simp)
        have hB : ((bs X).toList == t.toList) = false := by
          rw [str_beq]
          exact decide_eq_false fun e => hx (by rw [← e]; rfl)
        have hB2 : ((bs X).toList != t.toList) = true := by rw [bne, hB]; rfl
        clear HRD HX hx hx0
        go_wp2_with (first | ((first | ((with_reducible refine st_gwT ?_ ?_); rfl) | ((with_reducible refine st_gwF ?_ ?_); rfl) | ((with_reducible refine st_gsT ?_ ?_); rfl) | ((with_reducible refine st_gsF ?_ ?_); rfl)); (try simp only [Act.put, yA, yB, yC, yD, yE, yF])) | ((with_reducible refine' st_guard ?_ ?_ ?_); rotate_left; rfl; (all_goals (intro hgd; cases hgd)); (try simp only [Act.put, yA, yB, yC, yD, yE, yF])) | ((with_reducible apply st_want); rfl) | ((with_reducible refine st_skip ?_ ?_); rfl; simp only [Act.put, yA, yB, yC, yD, yE, yF]) | ((first | ((with_reducible apply st_load1 H); decide +kernel; rfl; exact cF) | ((with_reducible apply st_loads H); decide +kernel; rfl; exact iF; exact zF; rfl) | ((with_reducible apply st_store H); rfl; exact eF; (focus (exact cells_agg _)); exact uF; kernel_rfl; (focus (exact Nat.le_of_ble_eq_true (by rfl))); (focus (first | rfl | simp))) | ((with_reducible apply st_storeown H); rfl; exact eF; (focus (exact (rfl : _ = [_]))); exact uF; (focus omega); kernel_rfl; rfl)); clear H; intro wn H; (try simp only [splice, yG, yH, yI, yJ, yK, yL, yM, yN, yO, yP, yQ, Nat.reduceAdd, yA, yB, yC] at H); simp only [Act.put, yA, yB, yC, yD, yE, yF]) | ((first | ((with_reducible apply st_alloc (dst := some 2) H); exact nF; intro b2) | ((with_reducible apply st_alloc (dst := some 3) H); exact nF; intro b3) | ((with_reducible apply st_strsum H); rfl; rfl; exact szF; kernel_rfl) | ((with_reducible apply st_loadat H); decide +kernel; rfl; exact aF; exact zF; rfl) | ((with_reducible apply st_storerow H); rfl; exact eF; (first | exact cells_agg _ | exact cellI | exact cellS | exact cellB | exact (rfl : _ = [_])); exact uF; kernel_rfl; exact Nat.succ_pos _; exact fitF; rfl)); clear H; intro wn H; simp only [Act.put, yA, yB, yC, yD, yE, yF]) | ((first | (go_at_call 33; refine gvF (hL _) H ?_) | (go_at_call 59; refine gvF (hP _) H ?_) | (go_at_call 38; refine gvF (hN _ (HE.out.later H.below)) H ?_) | (go_at_call 8; refine gvF (hO _ (HE.out.later H.below)) H ?_) | (go_at_call 16; refine gvF (hT _ (HE.out.later H.below).tab) H ?_)); clear H; intro wn H) | ((with_reducible apply st_build14 H); rfl; clear H; intro wn H; simp only [Act.put, yA, yB, yC, yD, yE, yF]) | ((with_reducible apply st_field H); exact fF2; clear H; intro wn H; simp only [Act.put, yA, yB, yC, yD, yE, yF]) | fail)
        refine bp_cell H rfl rfl iF (by kernel_rfl) (by kernel_rfl) rfl (by first | exact .inl rfl | exact .inr rfl) ?_
        rw [HF.out]
        exact ⟨rfl, H.below⟩
set_option maxRecDepth 100000 in
set_option maxHeartbeats 8000000 in
theorem stepRead_s (t : ByteArray) (w : World) : Gives Tryz.prog 20 #[.string t] w (encSOut (readStepS t.data.toList).1 (readStepS t.data.toList).2) := by
  unfold Gives
  have H := Hs.start noRow w
  have hsz := size_data t
  by_cases hl : 8000 < t.size
  · have HR : Hid (readStepS t.data.toList = (zeroS, 2)) := Lib.hid (by unfold readStepS; rw [if_pos (by omega)])
    have hl1 : (8000 : Int) < t.size := by omega
    clear hl hsz
    go_enter Tryz.func20, Tryz.ntmps20
    go_wp2_with (first | ((first | ((with_reducible refine st_gwT ?_ ?_); rfl) | ((with_reducible refine st_gwF ?_ ?_); rfl) | ((with_reducible refine st_gsT ?_ ?_); rfl) | ((with_reducible refine st_gsF ?_ ?_); rfl)); (try simp only [Act.put, yA, yB, yC, yD, yE, yF])) | ((with_reducible refine' st_guard ?_ ?_ ?_); rotate_left; rfl; (all_goals (intro hgd; cases hgd)); (try simp only [Act.put, yA, yB, yC, yD, yE, yF])) | ((with_reducible apply st_want); rfl) | ((with_reducible refine st_skip ?_ ?_); rfl; simp only [Act.put, yA, yB, yC, yD, yE, yF]) | ((first | ((with_reducible apply st_load1 H); decide +kernel; rfl; exact cF) | ((with_reducible apply st_loads H); decide +kernel; rfl; exact iF; exact zF; rfl) | ((with_reducible apply st_store H); rfl; exact eF; (focus (exact cells_agg _)); exact uF; kernel_rfl; (focus (exact Nat.le_of_ble_eq_true (by rfl))); (focus (first | rfl | simp))) | ((with_reducible apply st_storeown H); rfl; exact eF; (focus (exact (rfl : _ = [_]))); exact uF; (focus omega); kernel_rfl; rfl)); clear H; intro wn H; (try simp only [splice, yG, yH, yI, yJ, yK, yL, yM, yN, yO, yP, yQ, Nat.reduceAdd, yA, yB, yC] at H); simp only [Act.put, yA, yB, yC, yD, yE, yF]) | ((first | ((with_reducible apply st_alloc (dst := some 2) H); exact nF; intro b2) | ((with_reducible apply st_alloc (dst := some 3) H); exact nF; intro b3) | ((with_reducible apply st_strsum H); rfl; rfl; exact szF; kernel_rfl) | ((with_reducible apply st_loadat H); decide +kernel; rfl; exact aF; exact zF; rfl) | ((with_reducible apply st_storerow H); rfl; exact eF; (first | exact cells_agg _ | exact cellI | exact cellS | exact cellB | exact (rfl : _ = [_])); exact uF; kernel_rfl; exact Nat.succ_pos _; exact fitF; rfl)); clear H; intro wn H; simp only [Act.put, yA, yB, yC, yD, yE, yF]) | ((with_reducible apply st_build14 H); rfl; clear H; intro wn H; simp only [Act.put, yA, yB, yC, yD, yE, yF]) | ((with_reducible apply st_field H); exact fF2; clear H; intro wn H; simp only [Act.put, yA, yB, yC, yD, yE, yF]) | fail)
    refine bp_cell H rfl rfl iF (by kernel_rfl) (by kernel_rfl) rfl (by first | exact .inl rfl | exact .inr rfl) ?_
    rw [HR.out]
    exact ⟨rfl, H.below⟩
  have hl1 : ¬ (8000 : Int) < t.size := by omega
  have hrd : readStepS t.data.toList = if badS t.data.toList then (zeroS, 3) else if t.data.toList == [] || (stepS t.data.toList).text != t.data.toList then (zeroS, 3) else (stepS t.data.toList, 0) := by unfold readStepS; rw [if_neg (by omega)]
  by_cases hh : t.data.toList.head? = some 33
  · have hne : ¬ t.data.toList = [] := fun e => by rw [e] at hh; cases hh
    have hpos : 0 < t.size := by have := List.length_pos_iff.2 hne; omega
    have hp1 : (0 : Int) < t.size := by omega
    have h1 : (1 : Int) ≤ t.size := by omega
    have b0 : t.data.toList[0]? = some t[0] := List.getElem?_eq_getElem (by omega)
    have q0 : ((t[0].toNat : Int) == 33) = true := by
      rw [List.head?_eq_getElem?, b0] at hh
      rw [Option.some.inj hh]; rfl
    obtain ⟨ws, hws⟩ : ∃ ws, ws = wordsS t.data.toList := ⟨_, rfl⟩
    have hS : ∀ w, Rets Tryz.prog [] 42 #[.string (t.extract 1 t.size), .int .u8 32] w (tRowQ ws) := fun w => by
      rw [hws, ext_drop]
      exact l01Split_s (bs (t.data.toList.drop 1)) (by show (t.data.toList.drop 1).length ≤ _; rw [List.length_drop]; omega) w
    have hn1 : 0 < ws.length := by rw [hws]; exact List.length_pos_iff.2 (cut_ne _ _)
    have hn2 : ws.length ≤ 8001 := by rw [hws]; have := cut_count [] (t.data.toList.drop 1); rw [List.length_drop] at this; unfold wordsS; omega
    have hw0 := st_at hn1
    have hi0 : (0 : Int) < ws.length := by omega
    have HW : (getW ws 0).length ≤ 8000 := getW_len (n := 8000) (by rw [hws]; intro x hx; have := cut_len _ _ x hx; rw [List.length_drop] at this; simp at this; omega) 0
    obtain ⟨p, hp⟩ : ∃ p, p = powS t.data.toList := ⟨_, rfl⟩
    have hN9 : ∀ w, Gives Tryz.prog 63 #[.string (bs (getW ws 0))] w (.int .i64 p) := fun w => by
      rw [hp, powS, ← hws]
      exact l08Num_s (bs (getW ws 0)) HW w
    have hbad : badS t.data.toList = (decide (p < 0) || decide (ws.length < 2)) := by unfold badS; rw [decide_eq_true hh, ← hp, ← hws]; rfl
    by_cases c1 : p < 0
    · have HF : Hid (readStepS t.data.toList = (zeroS, 3)) := Lib.hid (by rw [hrd, hbad, decide_eq_true c1]; rfl)
      clear hrd hbad hws hp hsz hl hh hne b0
      go_enter Tryz.func20, Tryz.ntmps20
      go_wp2_with (first | ((first | ((with_reducible refine st_gwT ?_ ?_); rfl) | ((with_reducible refine st_gwF ?_ ?_); rfl) | ((with_reducible refine st_gsT ?_ ?_); rfl) | ((with_reducible refine st_gsF ?_ ?_); rfl)); (try simp only [Act.put, yA, yB, yC, yD, yE, yF])) | ((with_reducible refine' st_guard ?_ ?_ ?_); rotate_left; rfl; (all_goals (intro hgd; cases hgd)); (try simp only [Act.put, yA, yB, yC, yD, yE, yF])) | ((with_reducible apply st_want); rfl) | ((with_reducible refine st_skip ?_ ?_); rfl; simp only [Act.put, yA, yB, yC, yD, yE, yF]) | ((first | ((with_reducible apply st_load1 H); decide +kernel; rfl; exact cF) | ((with_reducible apply st_loads H); decide +kernel; rfl; exact iF; exact zF; rfl) | ((with_reducible apply st_store H); rfl; exact eF; (focus (exact cells_agg _)); exact uF; kernel_rfl; (focus (exact Nat.le_of_ble_eq_true (by rfl))); (focus (first | rfl | simp))) | ((with_reducible apply st_storeown H); rfl; exact eF; (focus (exact (rfl : _ = [_]))); exact uF; (focus omega); kernel_rfl; rfl)); clear H; intro wn H; (try simp only [splice, yG, yH, yI, yJ, yK, yL, yM, yN, yO, yP, yQ, Nat.reduceAdd, yA, yB, yC] at H); simp only [Act.put, yA, yB, yC, yD, yE, yF]) | ((first | ((with_reducible apply st_alloc (dst := some 2) H); exact nF; intro b2) | ((with_reducible apply st_alloc (dst := some 3) H); exact nF; intro b3) | ((with_reducible apply st_strsum H); rfl; rfl; exact szF; kernel_rfl) | ((with_reducible apply st_loadat H); decide +kernel; rfl; exact aF; exact zF; rfl) | ((with_reducible apply st_storerow H); rfl; exact eF; (first | exact cells_agg _ | exact cellI | exact cellS | exact cellB | exact (rfl : _ = [_])); exact uF; kernel_rfl; exact Nat.succ_pos _; exact fitF; rfl)); clear H; intro wn H; simp only [Act.put, yA, yB, yC, yD, yE, yF]) | ((first | (go_at_call 63; refine gvF (hN9 _) H ?_)); clear H; intro wn H) | ((with_reducible apply st_build14 H); rfl; clear H; intro wn H; simp only [Act.put, yA, yB, yC, yD, yE, yF]) | ((with_reducible apply st_field H); exact fF2; clear H; intro wn H; simp only [Act.put, yA, yB, yC, yD, yE, yF]) | fail)
      refine (Rets.use (hS _)).mono ?_; rintro e wn ⟨_, _, rfl, ⟨g, c, rfl, rfl⟩, hkk⟩; have Hn := H.moreK (by intro k hk; first | exact absurd hk List.not_mem_nil | (obtain rfl := List.mem_singleton.1 hk; exact In.mem iF)) hkk; clear hkk; clear H; have H := Hn; clear Hn; (try simp only [yT, yV] at H)
      go_wp2_with (first | ((first | ((with_reducible refine st_gwT ?_ ?_); rfl) | ((with_reducible refine st_gwF ?_ ?_); rfl) | ((with_reducible refine st_gsT ?_ ?_); rfl) | ((with_reducible refine st_gsF ?_ ?_); rfl)); (try simp only [Act.put, yA, yB, yC, yD, yE, yF])) | ((with_reducible refine' st_guard ?_ ?_ ?_); rotate_left; rfl; (all_goals (intro hgd; cases hgd)); (try simp only [Act.put, yA, yB, yC, yD, yE, yF])) | ((with_reducible apply st_want); rfl) | ((with_reducible refine st_skip ?_ ?_); rfl; simp only [Act.put, yA, yB, yC, yD, yE, yF]) | ((first | ((with_reducible apply st_load1 H); decide +kernel; rfl; exact cF) | ((with_reducible apply st_loads H); decide +kernel; rfl; exact iF; exact zF; rfl) | ((with_reducible apply st_store H); rfl; exact eF; (focus (exact cells_agg _)); exact uF; kernel_rfl; (focus (exact Nat.le_of_ble_eq_true (by rfl))); (focus (first | rfl | simp))) | ((with_reducible apply st_storeown H); rfl; exact eF; (focus (exact (rfl : _ = [_]))); exact uF; (focus omega); kernel_rfl; rfl)); clear H; intro wn H; (try simp only [splice, yG, yH, yI, yJ, yK, yL, yM, yN, yO, yP, yQ, Nat.reduceAdd, yA, yB, yC] at H); simp only [Act.put, yA, yB, yC, yD, yE, yF]) | ((first | ((with_reducible apply st_alloc (dst := some 2) H); exact nF; intro b2) | ((with_reducible apply st_alloc (dst := some 3) H); exact nF; intro b3) | ((with_reducible apply st_strsum H); rfl; rfl; exact szF; kernel_rfl) | ((with_reducible apply st_loadat H); decide +kernel; rfl; exact aF; exact zF; rfl) | ((with_reducible apply st_storerow H); rfl; exact eF; (first | exact cells_agg _ | exact cellI | exact cellS | exact cellB | exact (rfl : _ = [_])); exact uF; kernel_rfl; exact Nat.succ_pos _; exact fitF; rfl)); clear H; intro wn H; simp only [Act.put, yA, yB, yC, yD, yE, yF]) | ((first | (go_at_call 63; refine gvF (hN9 _) H ?_)); clear H; intro wn H) | ((with_reducible apply st_build14 H); rfl; clear H; intro wn H; simp only [Act.put, yA, yB, yC, yD, yE, yF]) | ((with_reducible apply st_field H); exact fF2; clear H; intro wn H; simp only [Act.put, yA, yB, yC, yD, yE, yF]) | fail)
      refine bp_cell H rfl rfl iF (by kernel_rfl) (by kernel_rfl) rfl (by first | exact .inl rfl | exact .inr rfl) ?_
      rw [HF.out]
      exact ⟨rfl, H.below⟩
    by_cases c2 : ws.length < 2
    · have HF : Hid (readStepS t.data.toList = (zeroS, 3)) := Lib.hid (by rw [hrd, hbad, decide_eq_true c2, Bool.or_true]; rfl)
      have c2' : (ws.length : Int) < 2 := by omega
      clear hrd hbad hws hp hsz hl hh hne b0 c2
      go_enter Tryz.func20, Tryz.ntmps20
      go_wp2_with (first | ((first | ((with_reducible refine st_gwT ?_ ?_); rfl) | ((with_reducible refine st_gwF ?_ ?_); rfl) | ((with_reducible refine st_gsT ?_ ?_); rfl) | ((with_reducible refine st_gsF ?_ ?_); rfl)); (try simp only [Act.put, yA, yB, yC, yD, yE, yF])) | ((with_reducible refine' st_guard ?_ ?_ ?_); rotate_left; rfl; (all_goals (intro hgd; cases hgd)); (try simp only [Act.put, yA, yB, yC, yD, yE, yF])) | ((with_reducible apply st_want); rfl) | ((with_reducible refine st_skip ?_ ?_); rfl; simp only [Act.put, yA, yB, yC, yD, yE, yF]) | ((first | ((with_reducible apply st_load1 H); decide +kernel; rfl; exact cF) | ((with_reducible apply st_loads H); decide +kernel; rfl; exact iF; exact zF; rfl) | ((with_reducible apply st_store H); rfl; exact eF; (focus (exact cells_agg _)); exact uF; kernel_rfl; (focus (exact Nat.le_of_ble_eq_true (by rfl))); (focus (first | rfl | simp))) | ((with_reducible apply st_storeown H); rfl; exact eF; (focus (exact (rfl : _ = [_]))); exact uF; (focus omega); kernel_rfl; rfl)); clear H; intro wn H; (try simp only [splice, yG, yH, yI, yJ, yK, yL, yM, yN, yO, yP, yQ, Nat.reduceAdd, yA, yB, yC] at H); simp only [Act.put, yA, yB, yC, yD, yE, yF]) | ((first | ((with_reducible apply st_alloc (dst := some 2) H); exact nF; intro b2) | ((with_reducible apply st_alloc (dst := some 3) H); exact nF; intro b3) | ((with_reducible apply st_strsum H); rfl; rfl; exact szF; kernel_rfl) | ((with_reducible apply st_loadat H); decide +kernel; rfl; exact aF; exact zF; rfl) | ((with_reducible apply st_storerow H); rfl; exact eF; (first | exact cells_agg _ | exact cellI | exact cellS | exact cellB | exact (rfl : _ = [_])); exact uF; kernel_rfl; exact Nat.succ_pos _; exact fitF; rfl)); clear H; intro wn H; simp only [Act.put, yA, yB, yC, yD, yE, yF]) | ((first | (go_at_call 63; refine gvF (hN9 _) H ?_)); clear H; intro wn H) | ((with_reducible apply st_build14 H); rfl; clear H; intro wn H; simp only [Act.put, yA, yB, yC, yD, yE, yF]) | ((with_reducible apply st_field H); exact fF2; clear H; intro wn H; simp only [Act.put, yA, yB, yC, yD, yE, yF]) | fail)
      refine (Rets.use (hS _)).mono ?_; rintro e wn ⟨_, _, rfl, ⟨g, c, rfl, rfl⟩, hkk⟩; have Hn := H.moreK (by intro k hk; first | exact absurd hk List.not_mem_nil | (obtain rfl := List.mem_singleton.1 hk; exact In.mem iF)) hkk; clear hkk; clear H; have H := Hn; clear Hn; (try simp only [yT, yV] at H)
      go_wp2_with (first | ((first | ((with_reducible refine st_gwT ?_ ?_); rfl) | ((with_reducible refine st_gwF ?_ ?_); rfl) | ((with_reducible refine st_gsT ?_ ?_); rfl) | ((with_reducible refine st_gsF ?_ ?_); rfl)); (try simp only [Act.put, yA, yB, yC, yD, yE, yF])) | ((with_reducible refine' st_guard ?_ ?_ ?_); rotate_left; rfl; (all_goals (intro hgd; cases hgd)); (try simp only [Act.put, yA, yB, yC, yD, yE, yF])) | ((with_reducible apply st_want); rfl) | ((with_reducible refine st_skip ?_ ?_); rfl; simp only [Act.put, yA, yB, yC, yD, yE, yF]) | ((first | ((with_reducible apply st_load1 H); decide +kernel; rfl; exact cF) | ((with_reducible apply st_loads H); decide +kernel; rfl; exact iF; exact zF; rfl) | ((with_reducible apply st_store H); rfl; exact eF; (focus (exact cells_agg _)); exact uF; kernel_rfl; (focus (exact Nat.le_of_ble_eq_true (by rfl))); (focus (first | rfl | simp))) | ((with_reducible apply st_storeown H); rfl; exact eF; (focus (exact (rfl : _ = [_]))); exact uF; (focus omega); kernel_rfl; rfl)); clear H; intro wn H; (try simp only [splice, yG, yH, yI, yJ, yK, yL, yM, yN, yO, yP, yQ, Nat.reduceAdd, yA, yB, yC] at H); simp only [Act.put, yA, yB, yC, yD, yE, yF]) | ((first | ((with_reducible apply st_alloc (dst := some 2) H); exact nF; intro b2) | ((with_reducible apply st_alloc (dst := some 3) H); exact nF; intro b3) | ((with_reducible apply st_strsum H); rfl; rfl; exact szF; kernel_rfl) | ((with_reducible apply st_loadat H); decide +kernel; rfl; exact aF; exact zF; rfl) | ((with_reducible apply st_storerow H); rfl; exact eF; (first | exact cells_agg _ | exact cellI | exact cellS | exact cellB | exact (rfl : _ = [_])); exact uF; kernel_rfl; exact Nat.succ_pos _; exact fitF; rfl)); clear H; intro wn H; simp only [Act.put, yA, yB, yC, yD, yE, yF]) | ((first | (go_at_call 63; refine gvF (hN9 _) H ?_)); clear H; intro wn H) | ((with_reducible apply st_build14 H); rfl; clear H; intro wn H; simp only [Act.put, yA, yB, yC, yD, yE, yF]) | ((with_reducible apply st_field H); exact fF2; clear H; intro wn H; simp only [Act.put, yA, yB, yC, yD, yE, yF]) | fail)
      refine bp_cell H rfl rfl iF (by kernel_rfl) (by kernel_rfl) rfl (by first | exact .inl rfl | exact .inr rfl) ?_
      rw [HF.out]
      exact ⟨rfl, H.below⟩
    have c2' : ¬ (ws.length : Int) < 2 := by omega
    obtain ⟨n, hn⟩ : ∃ n, n = (getW ws 0).length := ⟨_, rfl⟩
    have hnl : n + 2 ≤ t.size := by
      have := words_two (s := t.data.toList.drop 1) (by rw [hws] at c2; unfold wordsS at c2; omega)
      rw [List.length_drop] at this
      rw [hn, hws]; unfold wordsS; omega
    have hR : t.extract (n + 2) t.size = bs (t.data.toList.drop (n + 2)) := ext_drop t _
    have hnz : (bs (getW ws 0)).size = n := hn.symm
    have hsi : stepS t.data.toList = ((readI (t.data.toList.drop (n + 2))).1, p) := by
      unfold stepS; rw [if_pos hh, ← hws, ← hn, ← hp, read_same]
    have hrd2 : readStepS t.data.toList = if t.data.toList == [] || (stepS t.data.toList).text != t.data.toList then (zeroS, 3) else (stepS t.data.toList, 0) := by
      rw [hrd, hbad, decide_eq_false c1, decide_eq_false c2]; rfl
    have how := readI_ow (t.data.toList.drop (n + 2)) (by rw [List.length_drop]; omega)
    have hO : ∀ w, Gives Tryz.prog 11 #[.string (t.extract (n + 2) t.size)] w (encOut (readI (t.data.toList.drop (n + 2))).1 (readI (t.data.toList.drop (n + 2))).2) := fun w => by
      rw [hR, read_same]
      exact opRead_s _ w
    generalize (readI (t.data.toList.drop (n + 2))).1 = o at *
    generalize (readI (t.data.toList.drop (n + 2))).2 = e at *
    obtain ⟨sy, l1, l2, k, ow, a, b, c, d, m1, m2, af⟩ := o
    have hT := stepText_s sy l1 l2 k ow a b c d m1 m2 af p how
    have hx : (stepS t.data.toList).text = stepText sy l1 l2 k ow a b c d m1 m2 af p := by rw [hsi]; rfl
    generalize stepText sy l1 l2 k ow a b c d m1 m2 af p = X at *
    have HRD := Lib.hid hrd2
    have HX := Lib.hid hx
    have HSI := Lib.hid hsi
    have HNE := Lib.hid hne
    have hn3 : (n : Int) + 2 ≤ t.size := by omega
    have hn4 : n ≤ 8000 := by omega
    unfold encOut at hO
    unfold encStep at hT
    clear hrd hrd2 hbad hws hp hsz hl hh hne b0 c2 hR how hx hsi hn HW
    go_enter Tryz.func20, Tryz.ntmps20
    go_wp2_with (first | ((first | ((with_reducible refine st_gwT ?_ ?_); rfl) | ((with_reducible refine st_gwF ?_ ?_); rfl) | ((with_reducible refine st_gsT ?_ ?_); rfl) | ((with_reducible refine st_gsF ?_ ?_); rfl)); (try simp only [Act.put, yA, yB, yC, yD, yE, yF])) | ((with_reducible refine' st_guard ?_ ?_ ?_); rotate_left; rfl; (all_goals (intro hgd; cases hgd)); (try simp only [Act.put, yA, yB, yC, yD, yE, yF])) | ((with_reducible apply st_want); rfl) | ((with_reducible refine st_skip ?_ ?_); rfl; simp only [Act.put, yA, yB, yC, yD, yE, yF]) | ((first | ((with_reducible apply st_load1 H); decide +kernel; rfl; exact cF) | ((with_reducible apply st_loads H); decide +kernel; rfl; exact iF; exact zF; rfl) | ((with_reducible apply st_store H); rfl; exact eF; (focus (exact cells_agg _)); exact uF; kernel_rfl; (focus (exact Nat.le_of_ble_eq_true (by rfl))); (focus (first | rfl | simp))) | ((with_reducible apply st_storeown H); rfl; exact eF; (focus (exact (rfl : _ = [_]))); exact uF; (focus omega); kernel_rfl; rfl)); clear H; intro wn H; (try simp only [splice, yG, yH, yI, yJ, yK, yL, yM, yN, yO, yP, yQ, Nat.reduceAdd, yA, yB, yC] at H); simp only [Act.put, yA, yB, yC, yD, yE, yF]) | ((first | ((with_reducible apply st_alloc (dst := some 2) H); exact nF; intro b2) | ((with_reducible apply st_alloc (dst := some 3) H); exact nF; intro b3) | ((with_reducible apply st_strsum H); rfl; rfl; exact szF; kernel_rfl) | ((with_reducible apply st_loadat H); decide +kernel; rfl; exact aF; exact zF; rfl) | ((with_reducible apply st_storerow H); rfl; exact eF; (first | exact cells_agg _ | exact cellI | exact cellS | exact cellB | exact (rfl : _ = [_])); exact uF; kernel_rfl; exact Nat.succ_pos _; exact fitF; rfl)); clear H; intro wn H; simp only [Act.put, yA, yB, yC, yD, yE, yF]) | ((first | (go_at_call 63; refine gvF (hN9 _) H ?_) | (go_at_call 11; refine gvF (hO _) H ?_) | (go_at_call 19; refine gvF (hT _) H ?_)); clear H; intro wn H) | ((with_reducible apply st_build14 H); rfl; clear H; intro wn H; simp only [Act.put, yA, yB, yC, yD, yE, yF]) | ((with_reducible apply st_field H); exact fF2; clear H; intro wn H; simp only [Act.put, yA, yB, yC, yD, yE, yF]) | fail)
    refine (Rets.use (hS _)).mono ?_; rintro e wn ⟨_, _, rfl, ⟨g, cc, rfl, rfl⟩, hkk⟩; have Hn := H.moreK (by intro k hk; first | exact absurd hk List.not_mem_nil | (obtain rfl := List.mem_singleton.1 hk; exact In.mem iF)) hkk; clear hkk; clear H; have H := Hn; clear Hn; (try simp only [yT, yV] at H)
    have hne := HNE.out
    have hE1 : (t.toList == []) = false := by rw [Lib.toList_data]; exact beq_eq_false_iff_ne.2 hne
    have hE3 : t.toList.isEmpty = false := by rw [Lib.toList_data]; simpa using hne
    by_cases hx : X = t.data.toList
    · have HF : Hid (readStepS t.data.toList = ((⟨sy, l1, l2, k, ow, a, b, c, d, m1, m2, af⟩, p), 0)) := Lib.hid (by rw [HRD.out, HX.out, beq_eq_false_iff_ne.2 hne, hx, HSI.out]; simp)
      have hB : ((bs X).toList == t.toList) = true := by rw [str_beq, hx, bs_data]; simp
      have hB2 : ((bs X).toList != t.toList) = false := by rw [bne, hB]; rfl
      clear HRD HX hx hne
      go_wp2_with (first | ((first | ((with_reducible refine st_gwT ?_ ?_); rfl) | ((with_reducible refine st_gwF ?_ ?_); rfl) | ((with_reducible refine st_gsT ?_ ?_); rfl) | ((with_reducible refine st_gsF ?_ ?_); rfl)); (try simp only [Act.put, yA, yB, yC, yD, yE, yF])) | ((with_reducible refine' st_guard ?_ ?_ ?_); rotate_left; rfl; (all_goals (intro hgd; cases hgd)); (try simp only [Act.put, yA, yB, yC, yD, yE, yF])) | ((with_reducible apply st_want); rfl) | ((with_reducible refine st_skip ?_ ?_); rfl; simp only [Act.put, yA, yB, yC, yD, yE, yF]) | ((first | ((with_reducible apply st_load1 H); decide +kernel; rfl; exact cF) | ((with_reducible apply st_loads H); decide +kernel; rfl; exact iF; exact zF; rfl) | ((with_reducible apply st_store H); rfl; exact eF; (focus (exact cells_agg _)); exact uF; kernel_rfl; (focus (exact Nat.le_of_ble_eq_true (by rfl))); (focus (first | rfl | simp))) | ((with_reducible apply st_storeown H); rfl; exact eF; (focus (exact (rfl : _ = [_]))); exact uF; (focus omega); kernel_rfl; rfl)); clear H; intro wn H; (try simp only [splice, yG, yH, yI, yJ, yK, yL, yM, yN, yO, yP, yQ, Nat.reduceAdd, yA, yB, yC] at H); simp only [Act.put, yA, yB, yC, yD, yE, yF]) | ((first | ((with_reducible apply st_alloc (dst := some 2) H); exact nF; intro b2) | ((with_reducible apply st_alloc (dst := some 3) H); exact nF; intro b3) | ((with_reducible apply st_strsum H); rfl; rfl; exact szF; kernel_rfl) | ((with_reducible apply st_loadat H); decide +kernel; rfl; exact aF; exact zF; rfl) | ((with_reducible apply st_storerow H); rfl; exact eF; (first | exact cells_agg _ | exact cellI | exact cellS | exact cellB | exact (rfl : _ = [_])); exact uF; kernel_rfl; exact Nat.succ_pos _; exact fitF; rfl)); clear H; intro wn H; simp only [Act.put, yA, yB, yC, yD, yE, yF]) | ((first | (go_at_call 63; refine gvF (hN9 _) H ?_) | (go_at_call 11; refine gvF (hO _) H ?_) | (go_at_call 19; refine gvF (hT _) H ?_)); clear H; intro wn H) | ((with_reducible apply st_build14 H); rfl; clear H; intro wn H; simp only [Act.put, yA, yB, yC, yD, yE, yF]) | ((with_reducible apply st_field H); exact fF2; clear H; intro wn H; simp only [Act.put, yA, yB, yC, yD, yE, yF]) | fail)
      refine bp_cell H rfl rfl iF (by kernel_rfl) (by kernel_rfl) rfl (by first | exact .inl rfl | exact .inr rfl) ?_
      rw [HF.out]
      exact ⟨rfl, H.below⟩
    · have HF : Hid (readStepS t.data.toList = (zeroS, 3)) := Lib.hid (by rw [HRD.out, HX.out, bne_iff_ne.2 hx]; simp)
      have hB : ((bs X).toList == t.toList) = false := by
        rw [str_beq]
        exact decide_eq_false fun e => hx (by rw [← e]; rfl)
      have hB2 : ((bs X).toList != t.toList) = true := by rw [bne, hB]; rfl
      clear HRD HX hx hne
      go_wp2_with (first | ((first | ((with_reducible refine st_gwT ?_ ?_); rfl) | ((with_reducible refine st_gwF ?_ ?_); rfl) | ((with_reducible refine st_gsT ?_ ?_); rfl) | ((with_reducible refine st_gsF ?_ ?_); rfl)); (try simp only [Act.put, yA, yB, yC, yD, yE, yF])) | ((with_reducible refine' st_guard ?_ ?_ ?_); rotate_left; rfl; (all_goals (intro hgd; cases hgd)); (try simp only [Act.put, yA, yB, yC, yD, yE, yF])) | ((with_reducible apply st_want); rfl) | ((with_reducible refine st_skip ?_ ?_); rfl; simp only [Act.put, yA, yB, yC, yD, yE, yF]) | ((first | ((with_reducible apply st_load1 H); decide +kernel; rfl; exact cF) | ((with_reducible apply st_loads H); decide +kernel; rfl; exact iF; exact zF; rfl) | ((with_reducible apply st_store H); rfl; exact eF; (focus (exact cells_agg _)); exact uF; kernel_rfl; (focus (exact Nat.le_of_ble_eq_true (by rfl))); (focus (first | rfl | simp))) | ((with_reducible apply st_storeown H); rfl; exact eF; (focus (exact (rfl : _ = [_]))); exact uF; (focus omega); kernel_rfl; rfl)); clear H; intro wn H; (try simp only [splice, yG, yH, yI, yJ, yK, yL, yM, yN, yO, yP, yQ, Nat.reduceAdd, yA, yB, yC] at H); simp only [Act.put, yA, yB, yC, yD, yE, yF]) | ((first | ((with_reducible apply st_alloc (dst := some 2) H); exact nF; intro b2) | ((with_reducible apply st_alloc (dst := some 3) H); exact nF; intro b3) | ((with_reducible apply st_strsum H); rfl; rfl; exact szF; kernel_rfl) | ((with_reducible apply st_loadat H); decide +kernel; rfl; exact aF; exact zF; rfl) | ((with_reducible apply st_storerow H); rfl; exact eF; (first | exact cells_agg _ | exact cellI | exact cellS | exact cellB | exact (rfl : _ = [_])); exact uF; kernel_rfl; exact Nat.succ_pos _; exact fitF; rfl)); clear H; intro wn H; simp only [Act.put, yA, yB, yC, yD, yE, yF]) | ((first | (go_at_call 63; refine gvF (hN9 _) H ?_) | (go_at_call 11; refine gvF (hO _) H ?_) | (go_at_call 19; refine gvF (hT _) H ?_)); clear H; intro wn H) | ((with_reducible apply st_build14 H); rfl; clear H; intro wn H; simp only [Act.put, yA, yB, yC, yD, yE, yF]) | ((with_reducible apply st_field H); exact fF2; clear H; intro wn H; simp only [Act.put, yA, yB, yC, yD, yE, yF]) | fail)
      refine bp_cell H rfl rfl iF (by kernel_rfl) (by kernel_rfl) rfl (by first | exact .inl rfl | exact .inr rfl) ?_
      rw [HF.out]
      exact ⟨rfl, H.below⟩
  · have hbad : badS t.data.toList = false := by unfold badS; rw [decide_eq_false hh]; rfl
    have hsi : stepS t.data.toList = ((readI t.data.toList).1, -1) := by unfold stepS; rw [if_neg hh, read_same]
    have how := readI_ow t.data.toList (by omega)
    have hO : ∀ w, Gives Tryz.prog 11 #[.string t] w (encOut (readI t.data.toList).1 (readI t.data.toList).2) := fun w => by rw [read_same]; exact opRead_s t w
    rw [hbad, if_neg (by decide)] at hrd
    generalize (readI t.data.toList).1 = o at *
    generalize (readI t.data.toList).2 = e at *
    obtain ⟨sy, l1, l2, k, ow, a, b, c, d, m1, m2, af⟩ := o
    obtain ⟨p, hp⟩ : ∃ p : Int, p = -1 := ⟨_, rfl⟩
    rw [← hp] at hsi
    have hT := stepText_s sy l1 l2 k ow a b c d m1 m2 af p how
    have hx : (stepS t.data.toList).text = stepText sy l1 l2 k ow a b c d m1 m2 af p := by rw [hsi]; rfl
    generalize stepText sy l1 l2 k ow a b c d m1 m2 af p = X at *
    subst hp
    have HRD := Lib.hid hrd
    have HX := Lib.hid hx
    have HSI := Lib.hid hsi
    have hcase : ¬ (0 : Int) < t.size ∨ ∃ h : 0 < t.size, (0 : Int) < t.size ∧ ((t[0].toNat : Int) == 33) = false := by
      by_cases hpos : 0 < t.size
      · refine .inr ⟨hpos, by omega, ?_⟩
        have b0 : t.data.toList[0]? = some t[0] := List.getElem?_eq_getElem (by omega)
        rw [List.head?_eq_getElem?, b0] at hh
        have : ¬ t[0].toNat = 33 := fun e => hh (by rw [UInt8.toNat_inj.1 (show t[0].toNat = (33 : UInt8).toNat from e)])
        simp; omega
      · exact .inl (by omega)
    unfold encOut at hO
    unfold encStep at hT
    clear hrd hbad hsz hl hh how hx hsi
    rcases hcase with hp1 | ⟨hpos, hp1, q0⟩
    · go_enter Tryz.func20, Tryz.ntmps20
      by_cases hne : t.data.toList = []
      · have HF : Hid (readStepS t.data.toList = (zeroS, 3)) := Lib.hid (by rw [HRD.out, hne]; rfl)
        have hE1 : (t.toList == []) = true := by rw [Lib.toList_data, hne]; rfl
        have hE3 : t.toList.isEmpty = true := by rw [Lib.toList_data, hne]; rfl
        clear HRD HX hne
        go_wp2_with (first | ((first | ((with_reducible refine st_gwT ?_ ?_); rfl) | ((with_reducible refine st_gwF ?_ ?_); rfl) | ((with_reducible refine st_gsT ?_ ?_); rfl) | ((with_reducible refine st_gsF ?_ ?_); rfl)); (try simp only [Act.put, yA, yB, yC, yD, yE, yF])) | ((with_reducible refine' st_guard ?_ ?_ ?_); rotate_left; rfl; (all_goals (intro hgd; cases hgd)); (try simp only [Act.put, yA, yB, yC, yD, yE, yF])) | ((with_reducible apply st_want); rfl) | ((with_reducible refine st_skip ?_ ?_); rfl; simp only [Act.put, yA, yB, yC, yD, yE, yF]) | ((first | ((with_reducible apply st_load1 H); decide +kernel; rfl; exact cF) | ((with_reducible apply st_loads H); decide +kernel; rfl; exact iF; exact zF; rfl) | ((with_reducible apply st_store H); rfl; exact eF; (focus (exact cells_agg _)); exact uF; kernel_rfl; (focus (exact Nat.le_of_ble_eq_true (by rfl))); (focus (first | rfl | simp))) | ((with_reducible apply st_storeown H); rfl; exact eF; (focus (exact (rfl : _ = [_]))); exact uF; (focus omega); kernel_rfl; rfl)); clear H; intro wn H; (try simp only [splice, yG, yH, yI, yJ, yK, yL, yM, yN, yO, yP, yQ, Nat.reduceAdd, yA, yB, yC] at H); simp only [Act.put, yA, yB, yC, yD, yE, yF]) | ((first | ((with_reducible apply st_alloc (dst := some 2) H); exact nF; intro b2) | ((with_reducible apply st_alloc (dst := some 3) H); exact nF; intro b3) | ((with_reducible apply st_strsum H); rfl; rfl; exact szF; kernel_rfl) | ((with_reducible apply st_loadat H); decide +kernel; rfl; exact aF; exact zF; rfl) | ((with_reducible apply st_storerow H); rfl; exact eF; (first | exact cells_agg _ | exact cellI | exact cellS | exact cellB | exact (rfl : _ = [_])); exact uF; kernel_rfl; exact Nat.succ_pos _; exact fitF; rfl)); clear H; intro wn H; simp only [Act.put, yA, yB, yC, yD, yE, yF]) | ((first | (go_at_call 63; refine gvF (hN9 _) H ?_) | (go_at_call 11; refine gvF (hO _) H ?_) | (go_at_call 19; refine gvF (hT _) H ?_)); clear H; intro wn H) | ((with_reducible apply st_build14 H); rfl; clear H; intro wn H; simp only [Act.put, yA, yB, yC, yD, yE, yF]) | ((with_reducible apply st_field H); exact fF2; clear H; intro wn H; simp only [Act.put, yA, yB, yC, yD, yE, yF]) | fail)
        refine bp_cell H rfl rfl iF (by kernel_rfl) (by kernel_rfl) rfl (by first | exact .inl rfl | exact .inr rfl) ?_
        rw [HF.out]
        exact ⟨rfl, H.below⟩
      · have hE1 : (t.toList == []) = false := by rw [Lib.toList_data]; exact beq_eq_false_iff_ne.2 hne
        have hE3 : t.toList.isEmpty = false := by rw [Lib.toList_data]; simpa using hne
        by_cases hx : X = t.data.toList
        · have HF : Hid (readStepS t.data.toList = ((⟨sy, l1, l2, k, ow, a, b, c, d, m1, m2, af⟩, -1), 0)) := Lib.hid (by rw [HRD.out, HX.out, beq_eq_false_iff_ne.2 hne, hx, HSI.out]; simp)
          have hB : ((bs X).toList == t.toList) = true := by rw [str_beq, hx, bs_data]; simp
          have hB2 : ((bs X).toList != t.toList) = false := by rw [bne, hB]; rfl
          clear HRD HX hx hne
          go_wp2_with (first | ((first | ((with_reducible refine st_gwT ?_ ?_); rfl) | ((with_reducible refine st_gwF ?_ ?_); rfl) | ((with_reducible refine st_gsT ?_ ?_); rfl) | ((with_reducible refine st_gsF ?_ ?_); rfl)); (try simp only [Act.put, yA, yB, yC, yD, yE, yF])) | ((with_reducible refine' st_guard ?_ ?_ ?_); rotate_left; rfl; (all_goals (intro hgd; cases hgd)); (try simp only [Act.put, yA, yB, yC, yD, yE, yF])) | ((with_reducible apply st_want); rfl) | ((with_reducible refine st_skip ?_ ?_); rfl; simp only [Act.put, yA, yB, yC, yD, yE, yF]) | ((first | ((with_reducible apply st_load1 H); decide +kernel; rfl; exact cF) | ((with_reducible apply st_loads H); decide +kernel; rfl; exact iF; exact zF; rfl) | ((with_reducible apply st_store H); rfl; exact eF; (focus (exact cells_agg _)); exact uF; kernel_rfl; (focus (exact Nat.le_of_ble_eq_true (by rfl))); (focus (first | rfl | simp))) | ((with_reducible apply st_storeown H); rfl; exact eF; (focus (exact (rfl : _ = [_]))); exact uF; (focus omega); kernel_rfl; rfl)); clear H; intro wn H; (try simp only [splice, yG, yH, yI, yJ, yK, yL, yM, yN, yO, yP, yQ, Nat.reduceAdd, yA, yB, yC] at H); simp only [Act.put, yA, yB, yC, yD, yE, yF]) | ((first | ((with_reducible apply st_alloc (dst := some 2) H); exact nF; intro b2) | ((with_reducible apply st_alloc (dst := some 3) H); exact nF; intro b3) | ((with_reducible apply st_strsum H); rfl; rfl; exact szF; kernel_rfl) | ((with_reducible apply st_loadat H); decide +kernel; rfl; exact aF; exact zF; rfl) | ((with_reducible apply st_storerow H); rfl; exact eF; (first | exact cells_agg _ | exact cellI | exact cellS | exact cellB | exact (rfl : _ = [_])); exact uF; kernel_rfl; exact Nat.succ_pos _; exact fitF; rfl)); clear H; intro wn H; simp only [Act.put, yA, yB, yC, yD, yE, yF]) | ((first | (go_at_call 63; refine gvF (hN9 _) H ?_) | (go_at_call 11; refine gvF (hO _) H ?_) | (go_at_call 19; refine gvF (hT _) H ?_)); clear H; intro wn H) | ((with_reducible apply st_build14 H); rfl; clear H; intro wn H; simp only [Act.put, yA, yB, yC, yD, yE, yF]) | ((with_reducible apply st_field H); exact fF2; clear H; intro wn H; simp only [Act.put, yA, yB, yC, yD, yE, yF]) | fail)
          refine bp_cell H rfl rfl iF (by kernel_rfl) (by kernel_rfl) rfl (by first | exact .inl rfl | exact .inr rfl) ?_
          rw [HF.out]
          exact ⟨rfl, H.below⟩
        · have HF : Hid (readStepS t.data.toList = (zeroS, 3)) := Lib.hid (by rw [HRD.out, HX.out, bne_iff_ne.2 hx]; simp)
          have hB : ((bs X).toList == t.toList) = false := by
            rw [str_beq]
            exact decide_eq_false fun e => hx (by rw [← e]; rfl)
          have hB2 : ((bs X).toList != t.toList) = true := by rw [bne, hB]; rfl
          clear HRD HX hx hne
          go_wp2_with (first | ((first | ((with_reducible refine st_gwT ?_ ?_); rfl) | ((with_reducible refine st_gwF ?_ ?_); rfl) | ((with_reducible refine st_gsT ?_ ?_); rfl) | ((with_reducible refine st_gsF ?_ ?_); rfl)); (try simp only [Act.put, yA, yB, yC, yD, yE, yF])) | ((with_reducible refine' st_guard ?_ ?_ ?_); rotate_left; rfl; (all_goals (intro hgd; cases hgd)); (try simp only [Act.put, yA, yB, yC, yD, yE, yF])) | ((with_reducible apply st_want); rfl) | ((with_reducible refine st_skip ?_ ?_); rfl; simp only [Act.put, yA, yB, yC, yD, yE, yF]) | ((first | ((with_reducible apply st_load1 H); decide +kernel; rfl; exact cF) | ((with_reducible apply st_loads H); decide +kernel; rfl; exact iF; exact zF; rfl) | ((with_reducible apply st_store H); rfl; exact eF; (focus (exact cells_agg _)); exact uF; kernel_rfl; (focus (exact Nat.le_of_ble_eq_true (by rfl))); (focus (first | rfl | simp))) | ((with_reducible apply st_storeown H); rfl; exact eF; (focus (exact (rfl : _ = [_]))); exact uF; (focus omega); kernel_rfl; rfl)); clear H; intro wn H; (try simp only [splice, yG, yH, yI, yJ, yK, yL, yM, yN, yO, yP, yQ, Nat.reduceAdd, yA, yB, yC] at H); simp only [Act.put, yA, yB, yC, yD, yE, yF]) | ((first | ((with_reducible apply st_alloc (dst := some 2) H); exact nF; intro b2) | ((with_reducible apply st_alloc (dst := some 3) H); exact nF; intro b3) | ((with_reducible apply st_strsum H); rfl; rfl; exact szF; kernel_rfl) | ((with_reducible apply st_loadat H); decide +kernel; rfl; exact aF; exact zF; rfl) | ((with_reducible apply st_storerow H); rfl; exact eF; (first | exact cells_agg _ | exact cellI | exact cellS | exact cellB | exact (rfl : _ = [_])); exact uF; kernel_rfl; exact Nat.succ_pos _; exact fitF; rfl)); clear H; intro wn H; simp only [Act.put, yA, yB, yC, yD, yE, yF]) | ((first | (go_at_call 63; refine gvF (hN9 _) H ?_) | (go_at_call 11; refine gvF (hO _) H ?_) | (go_at_call 19; refine gvF (hT _) H ?_)); clear H; intro wn H) | ((with_reducible apply st_build14 H); rfl; clear H; intro wn H; simp only [Act.put, yA, yB, yC, yD, yE, yF]) | ((with_reducible apply st_field H); exact fF2; clear H; intro wn H; simp only [Act.put, yA, yB, yC, yD, yE, yF]) | fail)
          refine bp_cell H rfl rfl iF (by kernel_rfl) (by kernel_rfl) rfl (by first | exact .inl rfl | exact .inr rfl) ?_
          rw [HF.out]
          exact ⟨rfl, H.below⟩
    · go_enter Tryz.func20, Tryz.ntmps20
      by_cases hne : t.data.toList = []
      · have HF : Hid (readStepS t.data.toList = (zeroS, 3)) := Lib.hid (by rw [HRD.out, hne]; rfl)
        have hE1 : (t.toList == []) = true := by rw [Lib.toList_data, hne]; rfl
        have hE3 : t.toList.isEmpty = true := by rw [Lib.toList_data, hne]; rfl
        clear HRD HX hne
        go_wp2_with (first | ((first | ((with_reducible refine st_gwT ?_ ?_); rfl) | ((with_reducible refine st_gwF ?_ ?_); rfl) | ((with_reducible refine st_gsT ?_ ?_); rfl) | ((with_reducible refine st_gsF ?_ ?_); rfl)); (try simp only [Act.put, yA, yB, yC, yD, yE, yF])) | ((with_reducible refine' st_guard ?_ ?_ ?_); rotate_left; rfl; (all_goals (intro hgd; cases hgd)); (try simp only [Act.put, yA, yB, yC, yD, yE, yF])) | ((with_reducible apply st_want); rfl) | ((with_reducible refine st_skip ?_ ?_); rfl; simp only [Act.put, yA, yB, yC, yD, yE, yF]) | ((first | ((with_reducible apply st_load1 H); decide +kernel; rfl; exact cF) | ((with_reducible apply st_loads H); decide +kernel; rfl; exact iF; exact zF; rfl) | ((with_reducible apply st_store H); rfl; exact eF; (focus (exact cells_agg _)); exact uF; kernel_rfl; (focus (exact Nat.le_of_ble_eq_true (by rfl))); (focus (first | rfl | simp))) | ((with_reducible apply st_storeown H); rfl; exact eF; (focus (exact (rfl : _ = [_]))); exact uF; (focus omega); kernel_rfl; rfl)); clear H; intro wn H; (try simp only [splice, yG, yH, yI, yJ, yK, yL, yM, yN, yO, yP, yQ, Nat.reduceAdd, yA, yB, yC] at H); simp only [Act.put, yA, yB, yC, yD, yE, yF]) | ((first | ((with_reducible apply st_alloc (dst := some 2) H); exact nF; intro b2) | ((with_reducible apply st_alloc (dst := some 3) H); exact nF; intro b3) | ((with_reducible apply st_strsum H); rfl; rfl; exact szF; kernel_rfl) | ((with_reducible apply st_loadat H); decide +kernel; rfl; exact aF; exact zF; rfl) | ((with_reducible apply st_storerow H); rfl; exact eF; (first | exact cells_agg _ | exact cellI | exact cellS | exact cellB | exact (rfl : _ = [_])); exact uF; kernel_rfl; exact Nat.succ_pos _; exact fitF; rfl)); clear H; intro wn H; simp only [Act.put, yA, yB, yC, yD, yE, yF]) | ((first | (go_at_call 63; refine gvF (hN9 _) H ?_) | (go_at_call 11; refine gvF (hO _) H ?_) | (go_at_call 19; refine gvF (hT _) H ?_)); clear H; intro wn H) | ((with_reducible apply st_build14 H); rfl; clear H; intro wn H; simp only [Act.put, yA, yB, yC, yD, yE, yF]) | ((with_reducible apply st_field H); exact fF2; clear H; intro wn H; simp only [Act.put, yA, yB, yC, yD, yE, yF]) | fail)
        refine bp_cell H rfl rfl iF (by kernel_rfl) (by kernel_rfl) rfl (by first | exact .inl rfl | exact .inr rfl) ?_
        rw [HF.out]
        exact ⟨rfl, H.below⟩
      · have hE1 : (t.toList == []) = false := by rw [Lib.toList_data]; exact beq_eq_false_iff_ne.2 hne
        have hE3 : t.toList.isEmpty = false := by rw [Lib.toList_data]; simpa using hne
        by_cases hx : X = t.data.toList
        · have HF : Hid (readStepS t.data.toList = ((⟨sy, l1, l2, k, ow, a, b, c, d, m1, m2, af⟩, -1), 0)) := Lib.hid (by rw [HRD.out, HX.out, beq_eq_false_iff_ne.2 hne, hx, HSI.out]; simp)
          have hB : ((bs X).toList == t.toList) = true := by rw [str_beq, hx, bs_data]; simp
          have hB2 : ((bs X).toList != t.toList) = false := by rw [bne, hB]; rfl
          clear HRD HX hx hne
          go_wp2_with (first | ((first | ((with_reducible refine st_gwT ?_ ?_); rfl) | ((with_reducible refine st_gwF ?_ ?_); rfl) | ((with_reducible refine st_gsT ?_ ?_); rfl) | ((with_reducible refine st_gsF ?_ ?_); rfl)); (try simp only [Act.put, yA, yB, yC, yD, yE, yF])) | ((with_reducible refine' st_guard ?_ ?_ ?_); rotate_left; rfl; (all_goals (intro hgd; cases hgd)); (try simp only [Act.put, yA, yB, yC, yD, yE, yF])) | ((with_reducible apply st_want); rfl) | ((with_reducible refine st_skip ?_ ?_); rfl; simp only [Act.put, yA, yB, yC, yD, yE, yF]) | ((first | ((with_reducible apply st_load1 H); decide +kernel; rfl; exact cF) | ((with_reducible apply st_loads H); decide +kernel; rfl; exact iF; exact zF; rfl) | ((with_reducible apply st_store H); rfl; exact eF; (focus (exact cells_agg _)); exact uF; kernel_rfl; (focus (exact Nat.le_of_ble_eq_true (by rfl))); (focus (first | rfl | simp))) | ((with_reducible apply st_storeown H); rfl; exact eF; (focus (exact (rfl : _ = [_]))); exact uF; (focus omega); kernel_rfl; rfl)); clear H; intro wn H; (try simp only [splice, yG, yH, yI, yJ, yK, yL, yM, yN, yO, yP, yQ, Nat.reduceAdd, yA, yB, yC] at H); simp only [Act.put, yA, yB, yC, yD, yE, yF]) | ((first | ((with_reducible apply st_alloc (dst := some 2) H); exact nF; intro b2) | ((with_reducible apply st_alloc (dst := some 3) H); exact nF; intro b3) | ((with_reducible apply st_strsum H); rfl; rfl; exact szF; kernel_rfl) | ((with_reducible apply st_loadat H); decide +kernel; rfl; exact aF; exact zF; rfl) | ((with_reducible apply st_storerow H); rfl; exact eF; (first | exact cells_agg _ | exact cellI | exact cellS | exact cellB | exact (rfl : _ = [_])); exact uF; kernel_rfl; exact Nat.succ_pos _; exact fitF; rfl)); clear H; intro wn H; simp only [Act.put, yA, yB, yC, yD, yE, yF]) | ((first | (go_at_call 63; refine gvF (hN9 _) H ?_) | (go_at_call 11; refine gvF (hO _) H ?_) | (go_at_call 19; refine gvF (hT _) H ?_)); clear H; intro wn H) | ((with_reducible apply st_build14 H); rfl; clear H; intro wn H; simp only [Act.put, yA, yB, yC, yD, yE, yF]) | ((with_reducible apply st_field H); exact fF2; clear H; intro wn H; simp only [Act.put, yA, yB, yC, yD, yE, yF]) | fail)
          refine bp_cell H rfl rfl iF (by kernel_rfl) (by kernel_rfl) rfl (by first | exact .inl rfl | exact .inr rfl) ?_
          rw [HF.out]
          exact ⟨rfl, H.below⟩
        · have HF : Hid (readStepS t.data.toList = (zeroS, 3)) := Lib.hid (by rw [HRD.out, HX.out, bne_iff_ne.2 hx]; simp)
          have hB : ((bs X).toList == t.toList) = false := by
            rw [str_beq]
            exact decide_eq_false fun e => hx (by rw [← e]; rfl)
          have hB2 : ((bs X).toList != t.toList) = true := by rw [bne, hB]; rfl
          clear HRD HX hx hne
          go_wp2_with (first | ((first | ((with_reducible refine st_gwT ?_ ?_); rfl) | ((with_reducible refine st_gwF ?_ ?_); rfl) | ((with_reducible refine st_gsT ?_ ?_); rfl) | ((with_reducible refine st_gsF ?_ ?_); rfl)); (try simp only [Act.put, yA, yB, yC, yD, yE, yF])) | ((with_reducible refine' st_guard ?_ ?_ ?_); rotate_left; rfl; (all_goals (intro hgd; cases hgd)); (try simp only [Act.put, yA, yB, yC, yD, yE, yF])) | ((with_reducible apply st_want); rfl) | ((with_reducible refine st_skip ?_ ?_); rfl; simp only [Act.put, yA, yB, yC, yD, yE, yF]) | ((first | ((with_reducible apply st_load1 H); decide +kernel; rfl; exact cF) | ((with_reducible apply st_loads H); decide +kernel; rfl; exact iF; exact zF; rfl) | ((with_reducible apply st_store H); rfl; exact eF; (focus (exact cells_agg _)); exact uF; kernel_rfl; (focus (exact Nat.le_of_ble_eq_true (by rfl))); (focus (first | rfl | simp))) | ((with_reducible apply st_storeown H); rfl; exact eF; (focus (exact (rfl : _ = [_]))); exact uF; (focus omega); kernel_rfl; rfl)); clear H; intro wn H; (try simp only [splice, yG, yH, yI, yJ, yK, yL, yM, yN, yO, yP, yQ, Nat.reduceAdd, yA, yB, yC] at H); simp only [Act.put, yA, yB, yC, yD, yE, yF]) | ((first | ((with_reducible apply st_alloc (dst := some 2) H); exact nF; intro b2) | ((with_reducible apply st_alloc (dst := some 3) H); exact nF; intro b3) | ((with_reducible apply st_strsum H); rfl; rfl; exact szF; kernel_rfl) | ((with_reducible apply st_loadat H); decide +kernel; rfl; exact aF; exact zF; rfl) | ((with_reducible apply st_storerow H); rfl; exact eF; (first | exact cells_agg _ | exact cellI | exact cellS | exact cellB | exact (rfl : _ = [_])); exact uF; kernel_rfl; exact Nat.succ_pos _; exact fitF; rfl)); clear H; intro wn H; simp only [Act.put, yA, yB, yC, yD, yE, yF]) | ((first | (go_at_call 63; refine gvF (hN9 _) H ?_) | (go_at_call 11; refine gvF (hO _) H ?_) | (go_at_call 19; refine gvF (hT _) H ?_)); clear H; intro wn H) | ((with_reducible apply st_build14 H); rfl; clear H; intro wn H; simp only [Act.put, yA, yB, yC, yD, yE, yF]) | ((with_reducible apply st_field H); exact fF2; clear H; intro wn H; simp only [Act.put, yA, yB, yC, yD, yE, yF]) | fail)
          refine bp_cell H rfl rfl iF (by kernel_rfl) (by kernel_rfl) rfl (by first | exact .inl rfl | exact .inr rfl) ?_
          rw [HF.out]
          exact ⟨rfl, H.below⟩
end Go.Proofs.YtfblolkkajppcaaGreatDoor
