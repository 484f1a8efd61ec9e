/-
  Insertion, as the library's sorts do it: the walk. Printed by stgen.py.
-/
import Derived.Test.YtpkoeeafepgphaaSt
import Derived.Deep.DeepCutAuto
set_option linter.unusedSimpArgs false
set_option linter.unusedVariables false
namespace Go.Proofs.Ytpkoeeafepgphaa
open Go.RowKit M
set_option maxRecDepth 100000 in
set_option maxHeartbeats 4000000 in
theorem insertion_Fm (g n c : Nat) (l : List Fm) (hn : n = l.length) (hn9 : n ≤ 1000000000) (gc : Nat) (lb : Array Value) (cf : Fm → Fm → Int) (eg : ∀ args w, (callFunc gc args).run Try.prog w = .ok (.enter gc args) w) (hc : ∀ w x y, Gives Try.prog gc (#[.agg (encFm x).toArray, .agg (encFm y).toArray] ++ lb) w (.int .i64 (cf x y))) (a b : Nat) (ha : a ≤ n) (hb : b ≤ n) (R : Nat → Prop) (w0 : World) (L : List Hl) (w : World) (H : Hs R w0 (Hl.row 37 2 (.slice (some ⟨g, 0, none⟩) n c) n (flat encFm l) :: L) w) :
    Calls Try.prog 44 #[.slice (some ⟨g, 0, none⟩) n c, .int .i64 a, .int .i64 b, .func (.func gc) #[] lb] w (SPostFm g n c (Stb.insUp (fun x y => decide (cf x y < 0)) a (a + 1) (b - (a + 1)) l) R w0 L) := by
  obtain ⟨lt, hlt0⟩ : ∃ lt : Fm → Fm → Bool, lt = (fun x y => decide (cf x y < 0)) := ⟨_, rfl⟩
  rw [← hlt0]
  have HLT := Lib.hid hlt0
  obtain ⟨z, hz⟩ : ∃ z, z = Stb.insUp lt a (a + 1) (b - (a + 1)) l := ⟨_, rfl⟩
  rw [← hz]
  have HZ := Lib.hid hz
  have HN := Lib.hid hn
  have HC := Lib.hid hc
  clear hz hn hc hlt0
  go_enter Try.func44, Try.ntmps44
  go_wp2_with (first | ((first | ((with_reducible apply st_load1 H); decide +kernel; rfl; exact cF) | ((with_reducible apply st_loads H); decide +kernel; rfl; exact iF; exact zF; rfl) | ((with_reducible apply st_store H); rfl; exact eF; (focus (exact cells_agg _)); exact uF; kernel_rfl; (focus (exact Nat.le_of_ble_eq_true (by rfl))); (focus (first | rfl | simp))) | ((with_reducible apply st_storeown H); rfl; exact eF; (focus (exact (rfl : _ = [_]))); exact uF; (focus omega); kernel_rfl; rfl)); clear H; intro wn H; (try simp only [splice, yG, yH, yI, yJ, yK, yL, yM, yN, yO, yP, yQ, Nat.reduceAdd, yA, yB, yC] at H); simp only [Act.put, yA, yB, yC, yD, yE, yF]) | ((first | ((with_reducible apply st_strsum H); rfl; rfl; exact szF; kernel_rfl) | ((with_reducible apply st_loadat H); decide +kernel; rfl; exact aF; exact zF; rfl) | ((with_reducible apply st_storerow H); rfl; exact eF; (first | exact cells_agg _ | exact cellI | exact cellS | exact cellB | exact (rfl : _ = [_])); exact uF; kernel_rfl; exact Nat.succ_pos _; exact fitF; rfl)); clear H; intro wn H; simp only [Act.put, yA, yB, yC, yD, yE, yF]) | fail)
  go_loopg [8, 9] (b - (a + 1)) (fun k iv _ wr => ∃ (i : Nat) (l' : List Fm), a < i ∧ k = b - i ∧ iv = .int .i64 i ∧ Hid (z = Stb.insUp lt a i (b - i) l') ∧ Hid (l'.length = n) ∧ Hs R w0 (Hl.row 37 2 (.slice (some ⟨g, 0, none⟩) n c) n (flat encFm l') :: L) wr)
  case atStart => exact ⟨a + 1, l, by omega, rfl, by go_num, HZ, Lib.hid HN.out.symm, H⟩
  case round =>
    clear H
    obtain ⟨i, l1, hai, hk, rfl, HI, HL, H⟩ := hrel
    by_cases hlt : i < b
    · have hlt1 : (i : Int) < b := by omega
      have HI2 : Hid (z = Stb.insUp lt a (i + 1) (b - (i + 1)) (Stb.insDown lt a i l1)) := Lib.hid (by rw [HI.out, show b - i = (b - (i + 1)) + 1 by omega]; rfl)
      clear HI
      obtain ⟨r, hr⟩ : ∃ r, r = Stb.insDown lt a i l1 := ⟨_, rfl⟩
      rw [← hr] at HI2
      have HR := Lib.hid hr
      have HRL : Hid (r.length = n) := Lib.hid (by rw [hr, insDown_len, HL.out])
      clear hr
      go_wp2_with (first | ((first | ((with_reducible apply st_load1 H); decide +kernel; rfl; exact cF) | ((with_reducible apply st_loads H); decide +kernel; rfl; exact iF; exact zF; rfl) | ((with_reducible apply st_store H); rfl; exact eF; (focus (exact cells_agg _)); exact uF; kernel_rfl; (focus (exact Nat.le_of_ble_eq_true (by rfl))); (focus (first | rfl | simp))) | ((with_reducible apply st_storeown H); rfl; exact eF; (focus (exact (rfl : _ = [_]))); exact uF; (focus omega); kernel_rfl; rfl)); clear H; intro wn H; (try simp only [splice, yG, yH, yI, yJ, yK, yL, yM, yN, yO, yP, yQ, Nat.reduceAdd, yA, yB, yC] at H); simp only [Act.put, yA, yB, yC, yD, yE, yF]) | ((first | ((with_reducible apply st_strsum H); rfl; rfl; exact szF; kernel_rfl) | ((with_reducible apply st_loadat H); decide +kernel; rfl; exact aF; exact zF; rfl) | ((with_reducible apply st_storerow H); rfl; exact eF; (first | exact cells_agg _ | exact cellI | exact cellS | exact cellB | exact (rfl : _ = [_])); exact uF; kernel_rfl; exact Nat.succ_pos _; exact fitF; rfl)); clear H; intro wn H; simp only [Act.put, yA, yB, yC, yD, yE, yF]) | fail)
      go_loopg [9] (i - a) (fun k jv wr => ∃ (j : Nat) (l' : List Fm), a ≤ j ∧ j ≤ i ∧ k = j - a ∧ jv = .int .i64 j ∧ Hid (r = Stb.insDown lt a j l') ∧ Hid (l'.length = n) ∧ Hs R w0 (Hl.row 37 2 (.slice (some ⟨g, 0, none⟩) n c) n (flat encFm l') :: L) wr)
      case atStart => exact ⟨i, l1, by omega, by omega, rfl, rfl, HR, HL, H⟩
      case round =>
        clear H HR HL
        obtain ⟨j, l', haj, hji, hkj, rfl, HJ, HL, H⟩ := hrel
        by_cases hja : a < j
        · obtain ⟨q, rfl⟩ : ∃ q, j = q + 1 := ⟨j - 1, by omega⟩
          have hja1 : (a : Int) < (q : Int) + 1 := by omega
          obtain ⟨x, hx⟩ : ∃ x, l'[(q + 1)]? = some x := ⟨l'[(q + 1)]'(by rw [HL.out]; omega), List.getElem?_eq_getElem (by rw [HL.out]; omega)⟩
          obtain ⟨y, hy⟩ : ∃ x, l'[q]? = some x := ⟨l'[q]'(by rw [HL.out]; omega), List.getElem?_eq_getElem (by rw [HL.out]; omega)⟩
          have hstep := HJ.out
          unfold Stb.insDown at hstep
          rw [if_pos (by omega), Stb.ltAt_at x y lt hx hy] at hstep
          have hp : q + 1 < n := by omega
          have hq : q < n := by omega
          have hp3 : (q : Int) + 1 < n := by omega
          have hq3 : (q : Int) < n := by omega
          have hcc := fun w1 => HC.out w1 x y
          have hqx : lt x y = decide (cf x y < 0) := by rw [HLT.out]
          rw [hqx] at hstep
          generalize cf x y = v at *
          clear hqx HJ
          have HL2 : Hid ((Stb.sw l' (q + 1) q).length = n) := Lib.hid ((sw_len _ _ _).trans HL.out)
          have hsw := flat_sw (enc := encFm) (s := 2) (fun _ => rfl) hx hy
          obtain ⟨x1, x2⟩ := x
          obtain ⟨y1, y2⟩ := y
          have s1 : Seg (flat encFm l') ((q + 1) * 2) [.int .i64 x1, .string x2] := flat_segG (enc := encFm) (s := 2) (fun _ => rfl) hx
          have s2 : Seg (flat encFm l') (q * 2) [.int .i64 y1, .string y2] := flat_segG (enc := encFm) (s := 2) (fun _ => rfl) hy
          have HSW : Hid (spl (spl (flat encFm l') ((q + 1) * 2) [.int .i64 y1, .string y2]) (q * 2) [.int .i64 x1, .string x2] = flat encFm (Stb.sw l' (q + 1) q)) := Lib.hid hsw
          have hfl : (flat encFm l').length = n * 2 := by rw [flat_length (enc := encFm) (s := 2) (fun _ => rfl), HL.out]
          have hf1 : (q + 1) * 2 + 2 ≤ (flat encFm l').length := by omega
          have hf2 : q * 2 + 2 ≤ (flat encFm l').length := by omega
          clear hx hy hsw hfl
          unfold encFm at hcc
          simp only at hcc
          by_cases hv : v < 0
          · rw [if_pos (by simpa using hv)] at hstep
            have HJ2 := Lib.hid hstep
            clear hstep
            go_wp2_with (first | ((first | ((with_reducible apply st_load1 H); decide +kernel; rfl; exact cF) | ((with_reducible apply st_loads H); decide +kernel; rfl; exact iF; exact zF; rfl) | ((with_reducible apply st_store H); rfl; exact eF; (focus (exact cells_agg _)); exact uF; kernel_rfl; (focus (exact Nat.le_of_ble_eq_true (by rfl))); (focus (first | rfl | simp))) | ((with_reducible apply st_storeown H); rfl; exact eF; (focus (exact (rfl : _ = [_]))); exact uF; (focus omega); kernel_rfl; rfl)); clear H; intro wn H; (try simp only [splice, yG, yH, yI, yJ, yK, yL, yM, yN, yO, yP, yQ, Nat.reduceAdd, yA, yB, yC] at H); simp only [Act.put, yA, yB, yC, yD, yE, yF]) | ((first | ((with_reducible apply st_strsum H); rfl; rfl; exact szF; kernel_rfl) | ((with_reducible apply st_loadat H); decide +kernel; rfl; exact aF; exact zF; rfl) | ((with_reducible apply st_storerow H); rfl; exact eF; (first | exact cells_agg _ | exact cellI | exact cellS | exact cellB | exact (rfl : _ = [_])); exact uF; kernel_rfl; exact Nat.succ_pos _; exact fitF; rfl)); clear H; intro wn H; simp only [Act.put, yA, yB, yC, yD, yE, yF]) | fail)
            apply wp_region_hq H (by kernel_rfl) (by kernel_rfl); (iterate 8 ((with_reducible refine' hq_step ?_ ?_ ?_); rotate_left; (focus rfl); (focus (intro w1 H1; exact qLF)); simp only [Act.put, yA, yB, yC, yD, yE, yF]; (try simp only [yG, yH, yJ, yK]))); (with_reducible refine' hq_step ?_ ?_ ?_); rotate_left; (focus rfl); (focus (intro w1 H1; exact qLR)); simp only [Act.put, yA, yB, yC, yD, yE, yF]; (iterate 2 ((with_reducible refine' hq_step ?_ ?_ ?_); rotate_left; (focus rfl); (focus (intro w1 H1; exact qLF)); simp only [Act.put, yA, yB, yC, yD, yE, yF]; (try simp only [yG, yH, yJ, yK]))); (with_reducible refine' hq_step ?_ ?_ ?_); rotate_left; (focus rfl); (focus (intro w1 H1; exact qAR)); simp only [Act.put, yA, yB, yC, yD, yE, yF]; (iterate 1 ((with_reducible refine' hq_step ?_ ?_ ?_); rotate_left; (focus rfl); (focus (intro w1 H1; exact qLF)); simp only [Act.put, yA, yB, yC, yD, yE, yF]; (try simp only [yG, yH, yJ, yK]))); (with_reducible refine' hq_step ?_ ?_ ?_); rotate_left; (focus rfl); (focus (intro w1 H1; exact qLR)); simp only [Act.put, yA, yB, yC, yD, yE, yF]; (with_reducible refine' hq_step ?_ ?_ ?_); rotate_left; (focus rfl); (focus (intro w1 H1; exact qCR)); simp only [Act.put, yA, yB, yC, yD, yE, yF]; (iterate 2 ((with_reducible refine' hq_step ?_ ?_ ?_); rotate_left; (focus rfl); (focus (intro w1 H1; exact qLF)); simp only [Act.put, yA, yB, yC, yD, yE, yF]; (try simp only [yG, yH, yJ, yK]))); refine wpQuiet_nil ?_; clear H; intro wn H
            clear hcc
            go_wp2_with (first | ((first | ((with_reducible apply st_load1 H); decide +kernel; rfl; exact cF) | ((with_reducible apply st_loads H); decide +kernel; rfl; exact iF; exact zF; rfl) | ((with_reducible apply st_store H); rfl; exact eF; (focus (exact cells_agg _)); exact uF; kernel_rfl; (focus (exact Nat.le_of_ble_eq_true (by rfl))); (focus (first | rfl | simp))) | ((with_reducible apply st_storeown H); rfl; exact eF; (focus (exact (rfl : _ = [_]))); exact uF; (focus omega); kernel_rfl; rfl)); clear H; intro wn H; (try simp only [splice, yG, yH, yI, yJ, yK, yL, yM, yN, yO, yP, yQ, Nat.reduceAdd, yA, yB, yC] at H); simp only [Act.put, yA, yB, yC, yD, yE, yF]) | ((first | ((with_reducible apply st_strsum H); rfl; rfl; exact szF; kernel_rfl) | ((with_reducible apply st_loadat H); decide +kernel; rfl; exact aF; exact zF; rfl) | ((with_reducible apply st_storerow H); rfl; exact eF; (first | exact cells_agg _ | exact cellI | exact cellS | exact cellB | exact (rfl : _ = [_])); exact uF; kernel_rfl; exact Nat.succ_pos _; exact fitF; rfl)); clear H; intro wn H; simp only [Act.put, yA, yB, yC, yD, yE, yF]) | fail)
            apply wp_region_sw (C0 := fun w => Hs R w0 (Hl.row 37 2 (.slice (some ⟨g, 0, none⟩) n c) n (flat encFm l') :: L) w) (C1 := fun w => Hs R w0 (Hl.row 37 2 (.slice (some ⟨g, 0, none⟩) n c) n (spl (flat encFm l') ((q + 1) * 2) [.int .i64 y1, .string y2]) :: L) w) (C2 := fun w => Hs R w0 (Hl.row 37 2 (.slice (some ⟨g, 0, none⟩) n c) n (spl (spl (flat encFm l') ((q + 1) * 2) [.int .i64 y1, .string y2]) (q * 2) [.int .i64 x1, .string x2]) :: L) w) 15 17 [_, _, _, _, _, _, _, _, _, _, _, _, _, _, _, _, _, _] (by kernel_rfl) (by kernel_rfl) (by kernel_rfl) (by kernel_rfl) (by decide) H.drew (fun _ _ h hb => h.later hb) (fun _ _ h hb => h.later hb) (fun _ _ h hb => h.later hb)
            (refine sw_v rfl rfl rfl (fun w1 => by exact qVF) ?_; simp only [Act.put, yA, yB, yC, yD, yE, yF])
            (refine sw_v rfl rfl rfl (fun w1 => by exact qVF) ?_; simp only [Act.put, yA, yB, yC, yD, yE, yF])
            (refine sw_v rfl rfl rfl (fun w1 => by exact qVF) ?_; simp only [Act.put, yA, yB, yC, yD, yE, yF])
            (refine sw_v rfl rfl rfl (fun w1 => by exact qVF) ?_; simp only [Act.put, yA, yB, yC, yD, yE, yF])
            (refine sw_v rfl rfl rfl (fun w1 => by exact qAR) ?_; simp only [Act.put, yA, yB, yC, yD, yE, yF])
            (refine sw_v rfl rfl rfl (fun w1 => by exact qVF) ?_; simp only [Act.put, yA, yB, yC, yD, yE, yF])
            (refine sw_v rfl rfl rfl (fun w1 => by exact qVF) ?_; simp only [Act.put, yA, yB, yC, yD, yE, yF])
            (refine sw_v rfl rfl rfl (fun w1 => by exact qAR) ?_; simp only [Act.put, yA, yB, yC, yD, yE, yF])
            (refine sw_v rfl rfl rfl (fun w1 => by exact qVF) ?_; simp only [Act.put, yA, yB, yC, yD, yE, yF])
            (refine sw_r rfl rfl rfl (by kernel_rfl) (fun w1 H1 => by exact qLR) ?_; simp only [Act.put, yA, yB, yC, yD, yE, yF])
            (refine sw_v rfl rfl rfl (fun w1 => by exact qVF) ?_; simp only [Act.put, yA, yB, yC, yD, yE, yF])
            (refine sw_v rfl rfl rfl (fun w1 => by exact qVF) ?_; simp only [Act.put, yA, yB, yC, yD, yE, yF])
            (refine sw_v rfl rfl rfl (fun w1 => by exact qVF) ?_; simp only [Act.put, yA, yB, yC, yD, yE, yF])
            (refine sw_r rfl rfl rfl (by kernel_rfl) (fun w1 H1 => by exact qLR) ?_; simp only [Act.put, yA, yB, yC, yD, yE, yF])
            (refine sw_v rfl rfl rfl (fun w1 => by exact qVF) ?_; simp only [Act.put, yA, yB, yC, yD, yE, yF])
            (refine sw_1 rfl rfl (fun w1 H1 => by exact stR) ?_; simp only [Act.put, yA, yB, yC, yD, yE, yF])
            (refine sw_v rfl rfl rfl (fun w1 => by exact qVF) ?_; simp only [Act.put, yA, yB, yC, yD, yE, yF])
            (refine sw_2 rfl rfl rfl (fun w1 H1 => by exact stR) ?_; simp only [Act.put, yA, yB, yC, yD, yE, yF])
            clear H; intro wn H
            rw [HSW.out] at H
            go_wp2_with (first | ((first | ((with_reducible apply st_load1 H); decide +kernel; rfl; exact cF) | ((with_reducible apply st_loads H); decide +kernel; rfl; exact iF; exact zF; rfl) | ((with_reducible apply st_store H); rfl; exact eF; (focus (exact cells_agg _)); exact uF; kernel_rfl; (focus (exact Nat.le_of_ble_eq_true (by rfl))); (focus (first | rfl | simp))) | ((with_reducible apply st_storeown H); rfl; exact eF; (focus (exact (rfl : _ = [_]))); exact uF; (focus omega); kernel_rfl; rfl)); clear H; intro wn H; (try simp only [splice, yG, yH, yI, yJ, yK, yL, yM, yN, yO, yP, yQ, Nat.reduceAdd, yA, yB, yC] at H); simp only [Act.put, yA, yB, yC, yD, yE, yF]) | ((first | ((with_reducible apply st_strsum H); rfl; rfl; exact szF; kernel_rfl) | ((with_reducible apply st_loadat H); decide +kernel; rfl; exact aF; exact zF; rfl) | ((with_reducible apply st_storerow H); rfl; exact eF; (first | exact cells_agg _ | exact cellI | exact cellS | exact cellB | exact (rfl : _ = [_])); exact uF; kernel_rfl; exact Nat.succ_pos _; exact fitF; rfl)); clear H; intro wn H; simp only [Act.put, yA, yB, yC, yD, yE, yF]) | fail)
            go_roundg (q - a)
            case measure => omega
            case rel => exact ⟨q, _, by omega, by omega, rfl, by go_num, HJ2, HL2, H⟩
          · rw [if_neg (by simpa using hv)] at hstep
            have HE : Hid (r = l') := Lib.hid hstep
            clear hstep
            go_wp2_with (first | ((first | ((with_reducible apply st_load1 H); decide +kernel; rfl; exact cF) | ((with_reducible apply st_loads H); decide +kernel; rfl; exact iF; exact zF; rfl) | ((with_reducible apply st_store H); rfl; exact eF; (focus (exact cells_agg _)); exact uF; kernel_rfl; (focus (exact Nat.le_of_ble_eq_true (by rfl))); (focus (first | rfl | simp))) | ((with_reducible apply st_storeown H); rfl; exact eF; (focus (exact (rfl : _ = [_]))); exact uF; (focus omega); kernel_rfl; rfl)); clear H; intro wn H; (try simp only [splice, yG, yH, yI, yJ, yK, yL, yM, yN, yO, yP, yQ, Nat.reduceAdd, yA, yB, yC] at H); simp only [Act.put, yA, yB, yC, yD, yE, yF]) | ((first | ((with_reducible apply st_strsum H); rfl; rfl; exact szF; kernel_rfl) | ((with_reducible apply st_loadat H); decide +kernel; rfl; exact aF; exact zF; rfl) | ((with_reducible apply st_storerow H); rfl; exact eF; (first | exact cells_agg _ | exact cellI | exact cellS | exact cellB | exact (rfl : _ = [_])); exact uF; kernel_rfl; exact Nat.succ_pos _; exact fitF; rfl)); clear H; intro wn H; simp only [Act.put, yA, yB, yC, yD, yE, yF]) | fail)
            apply wp_region_hq H (by kernel_rfl) (by kernel_rfl); (iterate 8 ((with_reducible refine' hq_step ?_ ?_ ?_); rotate_left; (focus rfl); (focus (intro w1 H1; exact qLF)); simp only [Act.put, yA, yB, yC, yD, yE, yF]; (try simp only [yG, yH, yJ, yK]))); (with_reducible refine' hq_step ?_ ?_ ?_); rotate_left; (focus rfl); (focus (intro w1 H1; exact qLR)); simp only [Act.put, yA, yB, yC, yD, yE, yF]; (iterate 2 ((with_reducible refine' hq_step ?_ ?_ ?_); rotate_left; (focus rfl); (focus (intro w1 H1; exact qLF)); simp only [Act.put, yA, yB, yC, yD, yE, yF]; (try simp only [yG, yH, yJ, yK]))); (with_reducible refine' hq_step ?_ ?_ ?_); rotate_left; (focus rfl); (focus (intro w1 H1; exact qAR)); simp only [Act.put, yA, yB, yC, yD, yE, yF]; (iterate 1 ((with_reducible refine' hq_step ?_ ?_ ?_); rotate_left; (focus rfl); (focus (intro w1 H1; exact qLF)); simp only [Act.put, yA, yB, yC, yD, yE, yF]; (try simp only [yG, yH, yJ, yK]))); (with_reducible refine' hq_step ?_ ?_ ?_); rotate_left; (focus rfl); (focus (intro w1 H1; exact qLR)); simp only [Act.put, yA, yB, yC, yD, yE, yF]; (with_reducible refine' hq_step ?_ ?_ ?_); rotate_left; (focus rfl); (focus (intro w1 H1; exact qCR)); simp only [Act.put, yA, yB, yC, yD, yE, yF]; (iterate 2 ((with_reducible refine' hq_step ?_ ?_ ?_); rotate_left; (focus rfl); (focus (intro w1 H1; exact qLF)); simp only [Act.put, yA, yB, yC, yD, yE, yF]; (try simp only [yG, yH, yJ, yK]))); refine wpQuiet_nil ?_; clear H; intro wn H
            clear hcc
            go_wp2_with (first | ((first | ((with_reducible apply st_load1 H); decide +kernel; rfl; exact cF) | ((with_reducible apply st_loads H); decide +kernel; rfl; exact iF; exact zF; rfl) | ((with_reducible apply st_store H); rfl; exact eF; (focus (exact cells_agg _)); exact uF; kernel_rfl; (focus (exact Nat.le_of_ble_eq_true (by rfl))); (focus (first | rfl | simp))) | ((with_reducible apply st_storeown H); rfl; exact eF; (focus (exact (rfl : _ = [_]))); exact uF; (focus omega); kernel_rfl; rfl)); clear H; intro wn H; (try simp only [splice, yG, yH, yI, yJ, yK, yL, yM, yN, yO, yP, yQ, Nat.reduceAdd, yA, yB, yC] at H); simp only [Act.put, yA, yB, yC, yD, yE, yF]) | ((first | ((with_reducible apply st_strsum H); rfl; rfl; exact szF; kernel_rfl) | ((with_reducible apply st_loadat H); decide +kernel; rfl; exact aF; exact zF; rfl) | ((with_reducible apply st_storerow H); rfl; exact eF; (first | exact cells_agg _ | exact cellI | exact cellS | exact cellB | exact (rfl : _ = [_])); exact uF; kernel_rfl; exact Nat.succ_pos _; exact fitF; rfl)); clear H; intro wn H; simp only [Act.put, yA, yB, yC, yD, yE, yF]) | fail)
            go_roundg (b - (i + 1))
            case measure => omega
            case rel => exact ⟨i + 1, r, by omega, rfl, by go_num, HI2, HRL, by rw [HE.out]; exact H⟩
        · have hja1 : ¬ (a : Int) < (j : Int) := by omega
          have hstep := HJ.out
          have HE : Hid (r = l') := Lib.hid (by
            rw [hstep]
            cases j with
            | zero => rfl
            | succ j => unfold Stb.insDown; rw [if_neg (by omega)])
          clear hstep HJ
          go_wp2_with (first | ((first | ((with_reducible apply st_load1 H); decide +kernel; rfl; exact cF) | ((with_reducible apply st_loads H); decide +kernel; rfl; exact iF; exact zF; rfl) | ((with_reducible apply st_store H); rfl; exact eF; (focus (exact cells_agg _)); exact uF; kernel_rfl; (focus (exact Nat.le_of_ble_eq_true (by rfl))); (focus (first | rfl | simp))) | ((with_reducible apply st_storeown H); rfl; exact eF; (focus (exact (rfl : _ = [_]))); exact uF; (focus omega); kernel_rfl; rfl)); clear H; intro wn H; (try simp only [splice, yG, yH, yI, yJ, yK, yL, yM, yN, yO, yP, yQ, Nat.reduceAdd, yA, yB, yC] at H); simp only [Act.put, yA, yB, yC, yD, yE, yF]) | ((first | ((with_reducible apply st_strsum H); rfl; rfl; exact szF; kernel_rfl) | ((with_reducible apply st_loadat H); decide +kernel; rfl; exact aF; exact zF; rfl) | ((with_reducible apply st_storerow H); rfl; exact eF; (first | exact cells_agg _ | exact cellI | exact cellS | exact cellB | exact (rfl : _ = [_])); exact uF; kernel_rfl; exact Nat.succ_pos _; exact fitF; rfl)); clear H; intro wn H; simp only [Act.put, yA, yB, yC, yD, yE, yF]) | fail)
          apply wp_region_hq H (by kernel_rfl) (by kernel_rfl); (iterate 4 ((with_reducible refine' hq_step ?_ ?_ ?_); rotate_left; (focus rfl); (focus (intro w1 H1; exact qLF)); simp only [Act.put, yA, yB, yC, yD, yE, yF]; (try simp only [yG, yH, yJ, yK]))); (iterate 12 ((first | (with_reducible refine hq_gsT ?_ ?_) | (with_reducible refine hq_gsF ?_ ?_) | (with_reducible refine hq_skip ?_ ?_)); (focus rfl); (try simp only [Act.put, yA, yB, yC, yD, yE, yF]))); (iterate 1 ((with_reducible refine' hq_step ?_ ?_ ?_); rotate_left; (focus rfl); (focus (intro w1 H1; exact qLF)); simp only [Act.put, yA, yB, yC, yD, yE, yF]; (try simp only [yG, yH, yJ, yK]))); refine wpQuiet_nil ?_; clear H; intro wn H
          go_wp2_with (first | ((first | ((with_reducible apply st_load1 H); decide +kernel; rfl; exact cF) | ((with_reducible apply st_loads H); decide +kernel; rfl; exact iF; exact zF; rfl) | ((with_reducible apply st_store H); rfl; exact eF; (focus (exact cells_agg _)); exact uF; kernel_rfl; (focus (exact Nat.le_of_ble_eq_true (by rfl))); (focus (first | rfl | simp))) | ((with_reducible apply st_storeown H); rfl; exact eF; (focus (exact (rfl : _ = [_]))); exact uF; (focus omega); kernel_rfl; rfl)); clear H; intro wn H; (try simp only [splice, yG, yH, yI, yJ, yK, yL, yM, yN, yO, yP, yQ, Nat.reduceAdd, yA, yB, yC] at H); simp only [Act.put, yA, yB, yC, yD, yE, yF]) | ((first | ((with_reducible apply st_strsum H); rfl; rfl; exact szF; kernel_rfl) | ((with_reducible apply st_loadat H); decide +kernel; rfl; exact aF; exact zF; rfl) | ((with_reducible apply st_storerow H); rfl; exact eF; (first | exact cells_agg _ | exact cellI | exact cellS | exact cellB | exact (rfl : _ = [_])); exact uF; kernel_rfl; exact Nat.succ_pos _; exact fitF; rfl)); clear H; intro wn H; simp only [Act.put, yA, yB, yC, yD, yE, yF]) | fail)
          go_roundg (b - (i + 1))
          case measure => omega
          case rel => exact ⟨i + 1, r, by omega, rfl, by go_num, HI2, HRL, by rw [HE.out]; exact H⟩
    · have hlt1 : ¬ (i : Int) < b := by omega
      have HE : Hid (l1 = z) := Lib.hid (by rw [HI.out, show b - i = 0 by omega]; rfl)
      go_wp2_with (first | ((first | ((with_reducible apply st_load1 H); decide +kernel; rfl; exact cF) | ((with_reducible apply st_loads H); decide +kernel; rfl; exact iF; exact zF; rfl) | ((with_reducible apply st_store H); rfl; exact eF; (focus (exact cells_agg _)); exact uF; kernel_rfl; (focus (exact Nat.le_of_ble_eq_true (by rfl))); (focus (first | rfl | simp))) | ((with_reducible apply st_storeown H); rfl; exact eF; (focus (exact (rfl : _ = [_]))); exact uF; (focus omega); kernel_rfl; rfl)); clear H; intro wn H; (try simp only [splice, yG, yH, yI, yJ, yK, yL, yM, yN, yO, yP, yQ, Nat.reduceAdd, yA, yB, yC] at H); simp only [Act.put, yA, yB, yC, yD, yE, yF]) | ((first | ((with_reducible apply st_strsum H); rfl; rfl; exact szF; kernel_rfl) | ((with_reducible apply st_loadat H); decide +kernel; rfl; exact aF; exact zF; rfl) | ((with_reducible apply st_storerow H); rfl; exact eF; (first | exact cells_agg _ | exact cellI | exact cellS | exact cellB | exact (rfl : _ = [_])); exact uF; kernel_rfl; exact Nat.succ_pos _; exact fitF; rfl)); clear H; intro wn H; simp only [Act.put, yA, yB, yC, yD, yE, yF]) | fail)
      go_end0
      exact ⟨rfl, by rw [← HE.out]; exact H⟩
end Go.Proofs.Ytpkoeeafepgphaa
