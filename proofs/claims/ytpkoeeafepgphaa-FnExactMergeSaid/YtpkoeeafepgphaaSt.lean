/-
  The library's stable sort at slices of structs: it leaves in the row what the plain functions say: the walks. Printed by stgen.py.
-/
import Derived.Test.YtpkoeeafepgphaaSs
import Derived.Test.YtpkoeeafepgphaaCg
import Derived.Test.YtpkoeeafepgphaaSw
import Derived.Test.YtpkoeeafepgphaaFh
set_option linter.unusedSimpArgs false
set_option linter.unusedVariables false
namespace Go.Proofs.Ytpkoeeafepgphaa
open Go.RowKit M
theorem qLR {P : Prop} (h : P := by (with_reducible apply q_loadat); (focus rfl); (focus decide +kernel); (focus exact (At.row H1 In.here (by assumption))); (focus exact zF); (focus (first | rfl | assumption))) : P := h
theorem stR {P : Prop} (h : P := by (with_reducible apply now_storerow H1); (focus rfl); (focus exact eF); (focus exact cells_agg _); (focus exact uF); (focus kernel_rfl); (focus exact Nat.succ_pos _); (focus exact fitF); (focus rfl)) : P := h
theorem qAR {P : Prop} (h : P := by unfold QOk; go_simp; rw [wrap_id (by omega) (by omega)]; (first | rw [hpA] | rw [hpB] | skip); exact q_v) : P := h
theorem qCR {P : Prop} (h : P := by unfold QOk; go_simp; (try rw [eg]); exact q_call (hcc _)) : P := h
namespace M
theorem flat_setG {α : Type} {enc : α → List Value} {s : Nat} (hs : ∀ a, (enc a).length = s) {l : List α} {k : Nat} {y : α} (h : k < l.length) : spl (flat enc l) (k * s) (enc y) = flat enc (l.set k y) := by
  have e : l = l.take k ++ (l[k] :: l.drop (k + 1)) := by rw [← List.drop_eq_getElem_cons h, List.take_append_drop]
  have e2 : l.set k y = l.take k ++ (y :: l.drop (k + 1)) := List.set_eq_take_append_cons_drop.trans (by rw [if_pos h])
  rw [e2, flat_append, flat_cons]
  conv => lhs; rw [e, flat_append, flat_cons]
  exact spl_mid _ _ _ _ (by rw [flat_length (enc := enc) (s := s) hs, List.length_take, Nat.min_eq_left (Nat.le_of_lt h)]) (by rw [hs, hs])
theorem flat_segG {α : Type} {enc : α → List Value} {s : Nat} (hs : ∀ a, (enc a).length = s) {l : List α} {k : Nat} {y : α} (h : l[k]? = some y) : Seg (flat enc l) (k * s) (enc y) := by
  obtain ⟨hlt, rfl⟩ := List.getElem?_eq_some_iff.1 h
  have e : l = l.take k ++ (l[k] :: l.drop (k + 1)) := by rw [← List.drop_eq_getElem_cons hlt, List.take_append_drop]
  have h2 := seg_mid (flat enc (l.take k)) (enc l[k]) (flat enc (l.drop (k + 1))) (off := k * s) (by rw [flat_length (enc := enc) (s := s) hs, List.length_take, Nat.min_eq_left (Nat.le_of_lt hlt)])
  rw [← flat_cons, ← flat_append, ← e] at h2
  exact h2
theorem sw_len {α : Type} (l : List α) (i j : Nat) : (Stb.sw l i j).length = l.length := by
  unfold Stb.sw
  split <;> simp
/-- two stores: a swap -/
theorem flat_sw {α : Type} {enc : α → List Value} {s : Nat} (hs : ∀ a, (enc a).length = s) {l : List α} {i j : Nat} {x y : α} (hi : l[i]? = some x) (hj : l[j]? = some y) : spl (spl (flat enc l) (i * s) (enc y)) (j * s) (enc x) = flat enc (Stb.sw l i j) := by
  rw [flat_setG hs (List.getElem?_eq_some_iff.1 hi).1, flat_setG hs (by rw [List.length_set]; exact (List.getElem?_eq_some_iff.1 hj).1), Stb.sw_at x y hi hj]
theorem insDown_len {α : Type} (lt : α → α → Bool) (a : Nat) : ∀ (j : Nat) (l : List α), (Stb.insDown lt a j l).length = l.length
  | 0, l => rfl
  | j + 1, l => by
    unfold Stb.insDown
    split
    · split
      · rw [insDown_len lt a j, sw_len]
      · rfl
    · rfl
theorem insUp_len {α : Type} (lt : α → α → Bool) (a : Nat) : ∀ (m i : Nat) (l : List α), (Stb.insUp lt a i m l).length = l.length
  | 0, i, l => rfl
  | m + 1, i, l => by unfold Stb.insUp; rw [insUp_len lt a m, insDown_len]
theorem rise_len {α : Type} : ∀ (m k : Nat) (l : List α), (Stb.rise k m l).length = l.length
  | 0, k, l => rfl
  | m + 1, k, l => by unfold Stb.rise; rw [rise_len m, sw_len]
theorem fall_len {α : Type} : ∀ (m k : Nat) (l : List α), (Stb.fall k m l).length = l.length
  | 0, k, l => rfl
  | m + 1, k, l => by unfold Stb.fall; rw [fall_len m, sw_len]
theorem swR_len {α : Type} : ∀ (m a b : Nat) (l : List α), (Stb.swR a b m l).length = l.length
  | 0, a, b, l => rfl
  | m + 1, a, b, l => by unfold Stb.swR; rw [swR_len m, sw_len]
theorem rot_len {α : Type} (m : Nat) : ∀ (n i j : Nat) (l : List α), i + j ≤ n → (Stb.rot m i j l).length = l.length
  | n, i, j, l, h => by
    rw [Stb.rot]
    by_cases h1 : i = j ∨ i = 0 ∨ j = 0
    · rw [if_pos h1, swR_len]
    rw [if_neg h1]
    cases n with
    | zero => omega
    | succ n =>
      by_cases h2 : j < i
      · rw [if_pos h2, rot_len m n _ _ _ (by omega), swR_len]
      · rw [if_neg h2, rot_len m n _ _ _ (by omega), swR_len]
theorem symm_len {α : Type} (lt : α → α → Bool) : ∀ (f a m b : Nat) (l : List α), (Stb.symm lt f a m b l).length = l.length
  | 0, a, m, b, l => rfl
  | f + 1, a, m, b, l => by
    unfold Stb.symm
    split
    · rw [rise_len]
    split
    · rw [fall_len]
    simp only
    generalize Stb.bs _ _ _ = s
    have h1 : ∀ e, (if s < m ∧ m < e then Stb.rot m (m - s) (e - m) l else l).length = l.length := fun e => by
      by_cases h : s < m ∧ m < e
      · rw [if_pos h]; exact rot_len m _ _ _ l (Nat.le_refl _)
      · rw [if_neg h]
    have h1' := h1 ((a + b) / 2 + m - s)
    generalize (if s < m ∧ m < (a + b) / 2 + m - s then Stb.rot m (m - s) ((a + b) / 2 + m - s - m) l else l) = l1 at *
    have h2 : (if a < s ∧ s < (a + b) / 2 then Stb.symm lt f a s ((a + b) / 2) l1 else l1).length = l.length := by
      by_cases h : a < s ∧ s < (a + b) / 2
      · rw [if_pos h, symm_len lt f, h1']
      · rw [if_neg h, h1']
    generalize (if a < s ∧ s < (a + b) / 2 then Stb.symm lt f a s ((a + b) / 2) l1 else l1) = l2 at *
    by_cases h : (a + b) / 2 < (a + b) / 2 + m - s ∧ (a + b) / 2 + m - s < b
    · rw [if_pos h, symm_len lt f, h2]
    · rw [if_neg h, h2]
end M

def SPostFm (g n c : Nat) (l : List Fm) (R : Nat → Prop) (w0 : World) (L : List Hl) : Ending → World → Prop := fun e w' => e = .returned (.tuple #[]) ∧ Hs R w0 (Hl.row 37 2 (.slice (some ⟨g, 0, none⟩) n c) n (flat encFm l) :: L) w'
set_option maxRecDepth 100000 in
set_option maxHeartbeats 4000000 in
theorem swapRange_Fm (g n c : Nat) (l : List Fm) (hn : n = l.length) (hn9 : n ≤ 1000000000) (cmp : Value) (a b m : Nat) (ha : a + m ≤ n) (hb : b + m ≤ n) (R : Nat → Prop) (w0 : World) (L : List Hl) (w : World) (H : Hs R w0 (Hl.row 37 2 (.slice (some ⟨g, 0, none⟩) n c) n (flat encFm l) :: L) w) :
    Calls Try.prog 57 #[.slice (some ⟨g, 0, none⟩) n c, .int .i64 a, .int .i64 b, .int .i64 m, cmp] w (SPostFm g n c (Stb.swR a b m l) R w0 L) := by
  obtain ⟨z, hz⟩ : ∃ z, z = Stb.swR a b m l := ⟨_, rfl⟩
  rw [← hz]
  have HZ := Lib.hid hz
  have HN := Lib.hid hn
  clear hz hn
  go_enter Try.func57, Try.ntmps57
  go_wp2_with (first | ((first | ((with_reducible apply st_load1 H); decide +kernel; rfl; exact cF) | ((with_reducible apply st_loads H); decide +kernel; rfl; exact iF; exact zF; rfl) | ((with_reducible apply st_store H); rfl; exact eF; (focus (exact cells_agg _)); exact uF; kernel_rfl; (focus (exact Nat.le_of_ble_eq_true (by rfl))); (focus (first | rfl | simp))) | ((with_reducible apply st_storeown H); rfl; exact eF; (focus (exact (rfl : _ = [_]))); exact uF; (focus omega); kernel_rfl; rfl)); clear H; intro wn H; (try simp only [splice, yG, yH, yI, yJ, yK, yL, yM, yN, yO, yP, yQ, Nat.reduceAdd, yA, yB, yC] at H); simp only [Act.put, yA, yB, yC, yD, yE, yF]) | ((first | ((with_reducible apply st_strsum H); rfl; rfl; exact szF; kernel_rfl) | ((with_reducible apply st_loadat H); decide +kernel; rfl; exact aF; exact zF; rfl) | ((with_reducible apply st_storerow H); rfl; exact eF; (first | exact cells_agg _ | exact cellI | exact cellS | exact cellB | exact (rfl : _ = [_])); exact uF; kernel_rfl; exact Nat.succ_pos _; exact fitF; rfl)); clear H; intro wn H; simp only [Act.put, yA, yB, yC, yD, yE, yF]) | fail)
  go_loopg [10] m (fun k iv wr => ∃ (i : Nat) (l' : List Fm), i + k = m ∧ iv = .int .i64 i ∧ Hid (z = Stb.swR (a + i) (b + i) (m - i) l') ∧ Hid (l'.length = n) ∧ Hs R w0 (Hl.row 37 2 (.slice (some ⟨g, 0, none⟩) n c) n (flat encFm l') :: L) wr)
  case atStart => exact ⟨0, l, by omega, rfl, Lib.hid (by rw [HZ.out]; rfl), Lib.hid HN.out.symm, H⟩
  case round =>
    clear H
    obtain ⟨i, l', hi, rfl, HI, HL, H⟩ := hrel
    by_cases hlt : i < m
    · have hlt1 : (i : Int) < m := by omega
      obtain ⟨p, hp⟩ : ∃ p, p = a + i := ⟨_, rfl⟩
      obtain ⟨q, hq⟩ : ∃ q, q = b + i := ⟨_, rfl⟩
      obtain ⟨x, hx⟩ : ∃ x, l'[p]? = some x := ⟨l'[p]'(by rw [HL.out]; omega), List.getElem?_eq_getElem (by rw [HL.out]; omega)⟩
      obtain ⟨y, hy⟩ : ∃ x, l'[q]? = some x := ⟨l'[q]'(by rw [HL.out]; omega), List.getElem?_eq_getElem (by rw [HL.out]; omega)⟩
      have HI2 : Hid (z = Stb.swR (a + (i + 1)) (b + (i + 1)) (m - (i + 1)) (Stb.sw l' p q)) := Lib.hid (by rw [HI.out, hp, hq, show m - i = (m - (i + 1)) + 1 by omega]; rfl)
      have HL2 : Hid ((Stb.sw l' p q).length = n) := Lib.hid ((sw_len _ _ _).trans HL.out)
      have hsw := flat_sw (enc := encFm) (s := 2) (fun _ => rfl) hx hy
      obtain ⟨x1, x2⟩ := x
      obtain ⟨y1, y2⟩ := y
      have s1 : Seg (flat encFm l') (p * 2) [.int .i64 x1, .string x2] := flat_segG (enc := encFm) (s := 2) (fun _ => rfl) hx
      have s2 : Seg (flat encFm l') (q * 2) [.int .i64 y1, .string y2] := flat_segG (enc := encFm) (s := 2) (fun _ => rfl) hy
      have HSW : Hid (spl (spl (flat encFm l') (p * 2) [.int .i64 y1, .string y2]) (q * 2) [.int .i64 x1, .string x2] = flat encFm (Stb.sw l' p q)) := Lib.hid hsw
      have hfl : (flat encFm l').length = n * 2 := by rw [flat_length (enc := encFm) (s := 2) (fun _ => rfl), HL.out]
      have hf1 : p * 2 + 2 ≤ (flat encFm l').length := by omega
      have hf2 : q * 2 + 2 ≤ (flat encFm l').length := by omega
      clear hx hy hsw hfl
      have hp1 : p < n := by omega
      have hp2 : q < n := by omega
      have hp3 : (p : Int) < n := by omega
      have hp4 : (q : Int) < n := by omega
      have hpA : (a : Int) + (i : Int) = (p : Int) := by omega
      have hpB : (b : Int) + (i : Int) = (q : Int) := by omega
      clear HI HL hp hq
      go_wp2_with (first | ((first | ((with_reducible apply st_load1 H); decide +kernel; rfl; exact cF) | ((with_reducible apply st_loads H); decide +kernel; rfl; exact iF; exact zF; rfl) | ((with_reducible apply st_store H); rfl; exact eF; (focus (exact cells_agg _)); exact uF; kernel_rfl; (focus (exact Nat.le_of_ble_eq_true (by rfl))); (focus (first | rfl | simp))) | ((with_reducible apply st_storeown H); rfl; exact eF; (focus (exact (rfl : _ = [_]))); exact uF; (focus omega); kernel_rfl; rfl)); clear H; intro wn H; (try simp only [splice, yG, yH, yI, yJ, yK, yL, yM, yN, yO, yP, yQ, Nat.reduceAdd, yA, yB, yC] at H); simp only [Act.put, yA, yB, yC, yD, yE, yF]) | ((first | ((with_reducible apply st_strsum H); rfl; rfl; exact szF; kernel_rfl) | ((with_reducible apply st_loadat H); decide +kernel; rfl; exact aF; exact zF; rfl) | ((with_reducible apply st_storerow H); rfl; exact eF; (first | exact cells_agg _ | exact cellI | exact cellS | exact cellB | exact (rfl : _ = [_])); exact uF; kernel_rfl; exact Nat.succ_pos _; exact fitF; rfl)); clear H; intro wn H; simp only [Act.put, yA, yB, yC, yD, yE, yF]) | fail)
      apply wp_region_sw (C0 := fun w => Hs R w0 (Hl.row 37 2 (.slice (some ⟨g, 0, none⟩) n c) n (flat encFm l') :: L) w) (C1 := fun w => Hs R w0 (Hl.row 37 2 (.slice (some ⟨g, 0, none⟩) n c) n (spl (flat encFm l') (p * 2) [.int .i64 y1, .string y2]) :: L) w) (C2 := fun w => Hs R w0 (Hl.row 37 2 (.slice (some ⟨g, 0, none⟩) n c) n (spl (spl (flat encFm l') (p * 2) [.int .i64 y1, .string y2]) (q * 2) [.int .i64 x1, .string x2]) :: L) w) 21 23 [_, _, _, _, _, _, _, _, _, _, _, _, _, _, _, _, _, _, _, _, _, _, _, _] (by kernel_rfl) (by kernel_rfl) (by kernel_rfl) (by kernel_rfl) (by decide) H.drew (fun _ _ h hb => h.later hb) (fun _ _ h hb => h.later hb) (fun _ _ h hb => h.later hb)
      (refine sw_v rfl rfl rfl (fun w1 => by exact qVF) ?_; simp only [Act.put, yA, yB, yC, yD, yE, yF])
      (refine sw_v rfl rfl rfl (fun w1 => by exact qVF) ?_; simp only [Act.put, yA, yB, yC, yD, yE, yF])
      (refine sw_v rfl rfl rfl (fun w1 => by exact qVF) ?_; simp only [Act.put, yA, yB, yC, yD, yE, yF])
      (refine sw_v rfl rfl rfl (fun w1 => by exact qAR) ?_; simp only [Act.put, yA, yB, yC, yD, yE, yF])
      (refine sw_v rfl rfl rfl (fun w1 => by exact qVF) ?_; simp only [Act.put, yA, yB, yC, yD, yE, yF])
      (refine sw_v rfl rfl rfl (fun w1 => by exact qVF) ?_; simp only [Act.put, yA, yB, yC, yD, yE, yF])
      (refine sw_v rfl rfl rfl (fun w1 => by exact qVF) ?_; simp only [Act.put, yA, yB, yC, yD, yE, yF])
      (refine sw_v rfl rfl rfl (fun w1 => by exact qAR) ?_; simp only [Act.put, yA, yB, yC, yD, yE, yF])
      (refine sw_v rfl rfl rfl (fun w1 => by exact qVF) ?_; simp only [Act.put, yA, yB, yC, yD, yE, yF])
      (refine sw_v rfl rfl rfl (fun w1 => by exact qVF) ?_; simp only [Act.put, yA, yB, yC, yD, yE, yF])
      (refine sw_v rfl rfl rfl (fun w1 => by exact qVF) ?_; simp only [Act.put, yA, yB, yC, yD, yE, yF])
      (refine sw_v rfl rfl rfl (fun w1 => by exact qAR) ?_; simp only [Act.put, yA, yB, yC, yD, yE, yF])
      (refine sw_v rfl rfl rfl (fun w1 => by exact qVF) ?_; simp only [Act.put, yA, yB, yC, yD, yE, yF])
      (refine sw_r rfl rfl rfl (by kernel_rfl) (fun w1 H1 => by exact qLR) ?_; simp only [Act.put, yA, yB, yC, yD, yE, yF])
      (refine sw_v rfl rfl rfl (fun w1 => by exact qVF) ?_; simp only [Act.put, yA, yB, yC, yD, yE, yF])
      (refine sw_v rfl rfl rfl (fun w1 => by exact qVF) ?_; simp only [Act.put, yA, yB, yC, yD, yE, yF])
      (refine sw_v rfl rfl rfl (fun w1 => by exact qVF) ?_; simp only [Act.put, yA, yB, yC, yD, yE, yF])
      (refine sw_v rfl rfl rfl (fun w1 => by exact qAR) ?_; simp only [Act.put, yA, yB, yC, yD, yE, yF])
      (refine sw_v rfl rfl rfl (fun w1 => by exact qVF) ?_; simp only [Act.put, yA, yB, yC, yD, yE, yF])
      (refine sw_r rfl rfl rfl (by kernel_rfl) (fun w1 H1 => by exact qLR) ?_; simp only [Act.put, yA, yB, yC, yD, yE, yF])
      (refine sw_v rfl rfl rfl (fun w1 => by exact qVF) ?_; simp only [Act.put, yA, yB, yC, yD, yE, yF])
      (refine sw_1 rfl rfl (fun w1 H1 => by exact stR) ?_; simp only [Act.put, yA, yB, yC, yD, yE, yF])
      (refine sw_v rfl rfl rfl (fun w1 => by exact qVF) ?_; simp only [Act.put, yA, yB, yC, yD, yE, yF])
      (refine sw_2 rfl rfl rfl (fun w1 H1 => by exact stR) ?_; simp only [Act.put, yA, yB, yC, yD, yE, yF])
      clear H; intro wn H
      rw [HSW.out] at H
      go_wp2_with (first | ((first | ((with_reducible apply st_load1 H); decide +kernel; rfl; exact cF) | ((with_reducible apply st_loads H); decide +kernel; rfl; exact iF; exact zF; rfl) | ((with_reducible apply st_store H); rfl; exact eF; (focus (exact cells_agg _)); exact uF; kernel_rfl; (focus (exact Nat.le_of_ble_eq_true (by rfl))); (focus (first | rfl | simp))) | ((with_reducible apply st_storeown H); rfl; exact eF; (focus (exact (rfl : _ = [_]))); exact uF; (focus omega); kernel_rfl; rfl)); clear H; intro wn H; (try simp only [splice, yG, yH, yI, yJ, yK, yL, yM, yN, yO, yP, yQ, Nat.reduceAdd, yA, yB, yC] at H); simp only [Act.put, yA, yB, yC, yD, yE, yF]) | ((first | ((with_reducible apply st_strsum H); rfl; rfl; exact szF; kernel_rfl) | ((with_reducible apply st_loadat H); decide +kernel; rfl; exact aF; exact zF; rfl) | ((with_reducible apply st_storerow H); rfl; exact eF; (first | exact cells_agg _ | exact cellI | exact cellS | exact cellB | exact (rfl : _ = [_])); exact uF; kernel_rfl; exact Nat.succ_pos _; exact fitF; rfl)); clear H; intro wn H; simp only [Act.put, yA, yB, yC, yD, yE, yF]) | fail)
      go_roundg (m - (i + 1))
      case measure => omega
      case rel => exact ⟨i + 1, _, by omega, by go_num, HI2, HL2, H⟩
    · have hlt1 : ¬ (i : Int) < m := by omega
      have HE : Hid (l' = z) := Lib.hid (by rw [HI.out, show m - i = 0 by omega]; rfl)
      go_wp2_with (first | ((first | ((with_reducible apply st_load1 H); decide +kernel; rfl; exact cF) | ((with_reducible apply st_loads H); decide +kernel; rfl; exact iF; exact zF; rfl) | ((with_reducible apply st_store H); rfl; exact eF; (focus (exact cells_agg _)); exact uF; kernel_rfl; (focus (exact Nat.le_of_ble_eq_true (by rfl))); (focus (first | rfl | simp))) | ((with_reducible apply st_storeown H); rfl; exact eF; (focus (exact (rfl : _ = [_]))); exact uF; (focus omega); kernel_rfl; rfl)); clear H; intro wn H; (try simp only [splice, yG, yH, yI, yJ, yK, yL, yM, yN, yO, yP, yQ, Nat.reduceAdd, yA, yB, yC] at H); simp only [Act.put, yA, yB, yC, yD, yE, yF]) | ((first | ((with_reducible apply st_strsum H); rfl; rfl; exact szF; kernel_rfl) | ((with_reducible apply st_loadat H); decide +kernel; rfl; exact aF; exact zF; rfl) | ((with_reducible apply st_storerow H); rfl; exact eF; (first | exact cells_agg _ | exact cellI | exact cellS | exact cellB | exact (rfl : _ = [_])); exact uF; kernel_rfl; exact Nat.succ_pos _; exact fitF; rfl)); clear H; intro wn H; simp only [Act.put, yA, yB, yC, yD, yE, yF]) | fail)
      go_end0
      exact ⟨rfl, by rw [← HE.out]; exact H⟩
end Go.Proofs.Ytpkoeeafepgphaa
