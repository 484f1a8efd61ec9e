/-
  The library's stable sort: the walks. Printed by stgen.py.
-/
import Derived.Test.YthkebpgkhblcjaaK7
import Derived.Test.YthkebpgkhblcjaaSx
import Derived.Deep.DeepCutAuto
set_option linter.unusedSimpArgs false
set_option linter.unusedVariables false
namespace Go.Proofs.Ythkebpgkhblcjaa
open Go.RowKit M
set_option maxRecDepth 100000 in
set_option maxHeartbeats 4000000 in
theorem stable_Fm (g n c : Nat) (l : List Fm) (hn : n = l.length) (hn9 : n ≤ 1000000000) (gc : Nat) (lb : Array Value) (cf : Fm → Fm → Int) (eg : ∀ args w, (callFunc gc args).run Try.prog w = .ok (.enter gc args) w) (hc : ∀ w x y, Gives Try.prog gc (#[.agg (encFm x).toArray, .agg (encFm y).toArray] ++ lb) w (.int .i64 (cf x y))) (R : Nat → Prop) (w0 : World) (L : List Hl) (w : World) (H : Hs R w0 (Hl.row 30 2 (.slice (some ⟨g, 0, none⟩) n c) n (flat encFm l) :: L) w) :
    Calls Try.prog 28 #[.slice (some ⟨g, 0, none⟩) n c, .int .i64 n, .func (.func gc) #[] lb] w (SPostFm g n c (Stb.stab (fun x y => decide (cf x y < 0)) l) R w0 L) := by
  obtain ⟨lt, hlt0⟩ : ∃ lt : Fm → Fm → Bool, lt = (fun x y => decide (cf x y < 0)) := ⟨_, rfl⟩
  rw [← hlt0]
  have HLT := Lib.hid hlt0
  obtain ⟨z1, hz1⟩ : ∃ z1, z1 = Stb.blk1 lt n (n + 1) 0 l := ⟨_, rfl⟩
  obtain ⟨z, hz⟩ : ∃ z, z = Stb.stab2 lt n (n + 1) 20 z1 := ⟨_, rfl⟩
  have hst : Stb.stab lt l = z := by unfold Stb.stab; rw [hz, hz1, ← hn]
  rw [hst]
  have HZ := Lib.hid hz
  have HZ1 := Lib.hid hz1
  have HN := Lib.hid hn.symm
  have HC := Lib.hid hc
  clear hz hz1 hn hc hlt0 hst
  go_enter Try.func28, Try.ntmps28
  go_wp2_with (first | ((first | ((with_reducible apply st_load1 H); decide +kernel; rfl; exact cF) | ((with_reducible apply st_loads H); decide +kernel; rfl; exact iF; exact zF; rfl)); clear H; intro wn H; (try simp only [splice, yG, yH, yI, yJ, yK, yL, yM, yN, yO, yP, yQ, Nat.reduceAdd, yA, yB, yC] at H); simp only [Act.put, yA, yB, yC, yD, yE, yF]) | ((first | ((with_reducible apply st_strsum H); rfl; rfl; exact szF; kernel_rfl)); clear H; intro wn H; simp only [Act.put, yA, yB, yC, yD, yE, yF]) | fail)
  go_loopg [7, 8] n (fun gk av bv wr => ∃ (a b f : Nat) (l' : List Fm), (gk = n - a ∧ a ≤ n ∧ n < a + 20 * f) ∧ Hid (b = a + 20) ∧ av = .int .i64 a ∧ bv = .int .i64 b ∧ Hid (z1 = Stb.blk1 lt n f a l') ∧ Hid (l'.length = n) ∧ Hs R w0 (Hl.row 30 2 (.slice (some ⟨g, 0, none⟩) n c) n (flat encFm l') :: L) wr)
  case atStart => exact ⟨0, 20, n + 1, l, ⟨rfl, by omega, by omega⟩, rfl, rfl, rfl, HZ1, HN, H⟩
  case round =>
    clear H HZ1
    obtain ⟨a, b, f, l', ⟨hk, k1, k2⟩, hb, rfl, rfl, HI, HL, H⟩ := hrel
    have HB := Lib.hid hb.out
    clear hb
    obtain ⟨f', rfl⟩ : ∃ f', f = f' + 1 := ⟨f - 1, by omega⟩
    have hstep := HI.out
    unfold Stb.blk1 at hstep
    rw [← HB.out] at hstep
    by_cases hbn : b ≤ n
    · rw [if_pos hbn] at hstep
      have HI2 : Hid (z1 = Stb.blk1 lt n f' b (Stb.insUp lt a (a + 1) (b - (a + 1)) l')) := Lib.hid (by rw [hstep]; congr 2; have := HB.out; omega)
      have hb1 : (b : Int) ≤ n := by omega
      obtain ⟨b2, hb2⟩ : ∃ b2, b2 = b + 20 := ⟨_, rfl⟩
      have hpA : (b : Int) + 20 = (b2 : Int) := by omega
      have HB2 := Lib.hid hb2
      have hm : n - b < n - a := by have := HB.out; omega
      have hf : n < b + 20 * f' := by have := HB.out; omega
      have hHB2 : b2 ≤ 2000000000 := by omega
      clear hstep HI hb2
      go_wp2_with (first | ((first | ((with_reducible apply st_load1 H); decide +kernel; rfl; exact cF) | ((with_reducible apply st_loads H); decide +kernel; rfl; exact iF; exact zF; rfl)); clear H; intro wn H; (try simp only [splice, yG, yH, yI, yJ, yK, yL, yM, yN, yO, yP, yQ, Nat.reduceAdd, yA, yB, yC] at H); simp only [Act.put, yA, yB, yC, yD, yE, yF]) | ((first | ((with_reducible apply st_strsum H); rfl; rfl; exact szF; kernel_rfl)); clear H; intro wn H; simp only [Act.put, yA, yB, yC, yD, yE, yF]) | fail)
      refine (insertion_Fm g n c l' HL.out.symm hn9 gc lb cf eg HC.out a b k1 hbn R w0 L _ H).mono ?_
      rintro e wn ⟨rfl, Hn⟩
      clear H
      have H := Hn
      clear Hn
      rw [← HLT.out] at H
      go_wp2_with (first | ((first | ((with_reducible apply st_load1 H); decide +kernel; rfl; exact cF) | ((with_reducible apply st_loads H); decide +kernel; rfl; exact iF; exact zF; rfl)); clear H; intro wn H; (try simp only [splice, yG, yH, yI, yJ, yK, yL, yM, yN, yO, yP, yQ, Nat.reduceAdd, yA, yB, yC] at H); simp only [Act.put, yA, yB, yC, yD, yE, yF]) | ((first | ((with_reducible apply st_strsum H); rfl; rfl; exact szF; kernel_rfl)); clear H; intro wn H; simp only [Act.put, yA, yB, yC, yD, yE, yF]) | fail)
      go_roundg (n - b)
      case measure => omega
      case rel => exact ⟨b, b2, f', _, ⟨rfl, hbn, hf⟩, HB2, rfl, by go_num, HI2, Lib.hid ((insUp_len _ _ _ _ _).trans HL.out), H⟩
    · rw [if_neg hbn] at hstep
      have HE := Lib.hid hstep
      have hb1 : ¬ (b : Int) ≤ n := by omega
      clear hstep HI
      go_wp2_with (first | ((first | ((with_reducible apply st_load1 H); decide +kernel; rfl; exact cF) | ((with_reducible apply st_loads H); decide +kernel; rfl; exact iF; exact zF; rfl)); clear H; intro wn H; (try simp only [splice, yG, yH, yI, yJ, yK, yL, yM, yN, yO, yP, yQ, Nat.reduceAdd, yA, yB, yC] at H); simp only [Act.put, yA, yB, yC, yD, yE, yF]) | ((first | ((with_reducible apply st_strsum H); rfl; rfl; exact szF; kernel_rfl)); clear H; intro wn H; simp only [Act.put, yA, yB, yC, yD, yE, yF]) | fail)
      refine (insertion_Fm g n c l' HL.out.symm hn9 gc lb cf eg HC.out a n k1 (Nat.le_refl _) R w0 L _ H).mono ?_
      rintro e wn ⟨rfl, Hn⟩
      clear H
      have H := Hn
      clear Hn
      rw [← HLT.out] at H
      rw [← HE.out] at H
      have HL1 : Hid (z1.length = n) := Lib.hid (by rw [HE.out, insUp_len, HL.out])
      clear HE HL hb1 hbn HB hk k1 k2
      go_wp2_with (first | ((first | ((with_reducible apply st_load1 H); decide +kernel; rfl; exact cF) | ((with_reducible apply st_loads H); decide +kernel; rfl; exact iF; exact zF; rfl)); clear H; intro wn H; (try simp only [splice, yG, yH, yI, yJ, yK, yL, yM, yN, yO, yP, yQ, Nat.reduceAdd, yA, yB, yC] at H); simp only [Act.put, yA, yB, yC, yD, yE, yF]) | ((first | ((with_reducible apply st_strsum H); rfl; rfl; exact szF; kernel_rfl)); clear H; intro wn H; simp only [Act.put, yA, yB, yC, yD, yE, yF]) | fail)
      go_loopg [6, 7, 8, 9] (n - 20) (fun gk sv _ _ _ wr => ∃ (k f : Nat) (l' : List Fm), (gk = n - k ∧ 0 < k ∧ n ≤ k + f) ∧ sv = .int .i64 k ∧ Hid (z = Stb.stab2 lt n f k l') ∧ Hid (l'.length = n) ∧ Hs R w0 (Hl.row 30 2 (.slice (some ⟨g, 0, none⟩) n c) n (flat encFm l') :: L) wr)
      case atStart => exact ⟨20, n + 1, z1, ⟨by omega, by omega, by omega⟩, rfl, HZ, HL1, H⟩
      case round =>
        clear H HZ HL1
        obtain ⟨k, f, l', ⟨hk, k1, k2⟩, rfl, HI, HL, H⟩ := hrel
        by_cases hkn : k < n
        · have hkn1 : (k : Int) < n := by omega
          obtain ⟨f', rfl⟩ : ∃ f', f = f' + 1 := ⟨f - 1, by omega⟩
          have hstep := HI.out
          unfold Stb.stab2 at hstep
          rw [if_pos hkn] at hstep
          obtain ⟨k9, hk9⟩ : ∃ k9, k9 = 2 * k := ⟨_, rfl⟩
          have hpK : 2 * (k : Int) = (k9 : Int) := by omega
          have hpL : (k : Int) * 2 = (k9 : Int) := by omega
          have HK9 := Lib.hid hk9
          rw [← hk9] at hstep
          obtain ⟨z2, hz2⟩ : ∃ z2, z2 = Stb.pass lt n k (n + 1) 0 l' := ⟨_, rfl⟩
          rw [← hz2] at hstep
          have HSTEP := Lib.hid hstep
          have HZ2 := Lib.hid hz2
          have hk99 : k9 ≤ 2000000000 := by omega
          clear hstep hz2 hk9 HI
          go_wp2_with (first | ((first | ((with_reducible apply st_load1 H); decide +kernel; rfl; exact cF) | ((with_reducible apply st_loads H); decide +kernel; rfl; exact iF; exact zF; rfl)); clear H; intro wn H; (try simp only [splice, yG, yH, yI, yJ, yK, yL, yM, yN, yO, yP, yQ, Nat.reduceAdd, yA, yB, yC] at H); simp only [Act.put, yA, yB, yC, yD, yE, yF]) | ((first | ((with_reducible apply st_strsum H); rfl; rfl; exact szF; kernel_rfl)); clear H; intro wn H; simp only [Act.put, yA, yB, yC, yD, yE, yF]) | fail)
          go_loopg [7, 8] n (fun gk av bv wr => ∃ (a b f : Nat) (l' : List Fm), (gk = n - a ∧ a ≤ n ∧ n < a + f) ∧ Hid (b = a + k9) ∧ b ≤ 4000000000 ∧ av = .int .i64 a ∧ bv = .int .i64 b ∧ Hid (z2 = Stb.pass lt n k f a l') ∧ Hid (l'.length = n) ∧ Hs R w0 (Hl.row 30 2 (.slice (some ⟨g, 0, none⟩) n c) n (flat encFm l') :: L) wr)
          case atStart => exact ⟨0, k9, n + 1, l', ⟨rfl, by omega, by omega⟩, Lib.hid (by omega), by omega, rfl, rfl, HZ2, HL, H⟩
          case round =>
            clear H HZ2 HL
            obtain ⟨a, b, f, l', ⟨hg, g1, g2⟩, hb, hb9, rfl, rfl, HI, HL, H⟩ := hrel
            obtain ⟨f, rfl⟩ : ∃ f', f = f' + 1 := ⟨f - 1, by omega⟩
            have hstep := HI.out
            unfold Stb.pass at hstep
            rw [← HK9.out, ← hb.out] at hstep
            have HB := Lib.hid hb.out
            clear hb
            obtain ⟨m, hm⟩ : ∃ m, m = a + k := ⟨_, rfl⟩
            rw [← hm] at hstep
            have hpA : (a : Int) + (k : Int) = (m : Int) := by omega
            by_cases hbn : b ≤ n
            · rw [if_pos hbn] at hstep
              have HI2 := Lib.hid hstep
              have hbn1 : (b : Int) ≤ n := by omega
              obtain ⟨b2, hb2⟩ : ∃ b2, b2 = b + k9 := ⟨_, rfl⟩
              have hpB : (b : Int) + (k9 : Int) = (b2 : Int) := by omega
              have HB2 := Lib.hid hb2
              have c1 : a < m := by omega
              have c2 : m < b := by have := HB.out; have := HK9.out; omega
              have c3 : b - a ≤ k9 := by have := HB.out; omega
              have c4 : n - b < n - a := by omega
              have c5 : n < b + f := by omega
              have c6 : b2 ≤ 4000000000 := by omega
              clear hstep HI hb2 hm
              go_wp2_with (first | ((first | ((with_reducible apply st_load1 H); decide +kernel; rfl; exact cF) | ((with_reducible apply st_loads H); decide +kernel; rfl; exact iF; exact zF; rfl)); clear H; intro wn H; (try simp only [splice, yG, yH, yI, yJ, yK, yL, yM, yN, yO, yP, yQ, Nat.reduceAdd, yA, yB, yC] at H); simp only [Act.put, yA, yB, yC, yD, yE, yF]) | ((first | ((with_reducible apply st_strsum H); rfl; rfl; exact szF; kernel_rfl)); clear H; intro wn H; simp only [Act.put, yA, yB, yC, yD, yE, yF]) | fail)
              refine (symMerge_Fm g n c hn9 gc lb cf eg HC.out R w0 L k9 l' a m b _ HL.out.symm c1 c2 hbn c3 H).mono ?_
              rintro e wn ⟨rfl, Hn⟩
              clear H
              have H := Hn
              clear Hn
              rw [← HLT.out] at H
              go_wp2_with (first | ((first | ((with_reducible apply st_load1 H); decide +kernel; rfl; exact cF) | ((with_reducible apply st_loads H); decide +kernel; rfl; exact iF; exact zF; rfl)); clear H; intro wn H; (try simp only [splice, yG, yH, yI, yJ, yK, yL, yM, yN, yO, yP, yQ, Nat.reduceAdd, yA, yB, yC] at H); simp only [Act.put, yA, yB, yC, yD, yE, yF]) | ((first | ((with_reducible apply st_strsum H); rfl; rfl; exact szF; kernel_rfl)); clear H; intro wn H; simp only [Act.put, yA, yB, yC, yD, yE, yF]) | fail)
              go_roundg (n - b)
              case measure => omega
              case rel => exact ⟨b, b2, f, _, ⟨rfl, hbn, c5⟩, HB2, c6, rfl, by go_num, HI2, Lib.hid ((symm_len _ _ _ _ _ _).trans HL.out), H⟩
            · rw [if_neg hbn] at hstep
              have hbn1 : ¬ (b : Int) ≤ n := by omega
              have c6 : n - k9 < n - k := by have := HK9.out; omega
              have c7 : 0 < k9 := by have := HK9.out; omega
              have c8 : n ≤ k9 + f' := by have := HK9.out; omega
              by_cases hmn : m < n
              · rw [if_pos hmn] at hstep
                have HE := Lib.hid hstep
                have hmn1 : (m : Int) < n := by omega
                have c1 : a < m := by omega
                clear hstep HI hm
                go_wp2_with (first | ((first | ((with_reducible apply st_load1 H); decide +kernel; rfl; exact cF) | ((with_reducible apply st_loads H); decide +kernel; rfl; exact iF; exact zF; rfl)); clear H; intro wn H; (try simp only [splice, yG, yH, yI, yJ, yK, yL, yM, yN, yO, yP, yQ, Nat.reduceAdd, yA, yB, yC] at H); simp only [Act.put, yA, yB, yC, yD, yE, yF]) | ((first | ((with_reducible apply st_strsum H); rfl; rfl; exact szF; kernel_rfl)); clear H; intro wn H; simp only [Act.put, yA, yB, yC, yD, yE, yF]) | fail)
                refine (symMerge_Fm g n c hn9 gc lb cf eg HC.out R w0 L (n - a) l' a m n _ HL.out.symm c1 hmn (Nat.le_refl _) (Nat.le_refl _) H).mono ?_
                rintro e wn ⟨rfl, Hn⟩
                clear H
                have H := Hn
                clear Hn
                rw [← HLT.out] at H
                rw [← HE.out] at H
                have HL2 : Hid (z2.length = n) := Lib.hid (by rw [HE.out, symm_len, HL.out])
                clear HE HL
                go_wp2_with (first | ((first | ((with_reducible apply st_load1 H); decide +kernel; rfl; exact cF) | ((with_reducible apply st_loads H); decide +kernel; rfl; exact iF; exact zF; rfl)); clear H; intro wn H; (try simp only [splice, yG, yH, yI, yJ, yK, yL, yM, yN, yO, yP, yQ, Nat.reduceAdd, yA, yB, yC] at H); simp only [Act.put, yA, yB, yC, yD, yE, yF]) | ((first | ((with_reducible apply st_strsum H); rfl; rfl; exact szF; kernel_rfl)); clear H; intro wn H; simp only [Act.put, yA, yB, yC, yD, yE, yF]) | fail)
                go_roundg (n - k9)
                case measure => omega
                case rel => exact ⟨k9, f', z2, ⟨rfl, c7, c8⟩, by go_num, HSTEP, HL2, H⟩
              · rw [if_neg hmn] at hstep
                have HE := Lib.hid hstep
                have hmn1 : ¬ (m : Int) < n := by omega
                have hm9 : m ≤ 4000000000 := by omega
                clear hstep HI hm
                rw [← HE.out] at H HL
                go_wp2_with (first | ((first | ((with_reducible apply st_load1 H); decide +kernel; rfl; exact cF) | ((with_reducible apply st_loads H); decide +kernel; rfl; exact iF; exact zF; rfl)); clear H; intro wn H; (try simp only [splice, yG, yH, yI, yJ, yK, yL, yM, yN, yO, yP, yQ, Nat.reduceAdd, yA, yB, yC] at H); simp only [Act.put, yA, yB, yC, yD, yE, yF]) | ((first | ((with_reducible apply st_strsum H); rfl; rfl; exact szF; kernel_rfl)); clear H; intro wn H; simp only [Act.put, yA, yB, yC, yD, yE, yF]) | fail)
                go_roundg (n - k9)
                case measure => omega
                case rel => exact ⟨k9, f', z2, ⟨rfl, c7, c8⟩, by go_num, HSTEP, HL, H⟩
        · have hkn1 : ¬ (k : Int) < n := by omega
          have HE : Hid (z = l') := Lib.hid (by
            rw [HI.out]
            cases f with
            | zero => rfl
            | succ f => unfold Stb.stab2; rw [if_neg hkn])
          go_wp2_with (first | ((first | ((with_reducible apply st_load1 H); decide +kernel; rfl; exact cF) | ((with_reducible apply st_loads H); decide +kernel; rfl; exact iF; exact zF; rfl)); clear H; intro wn H; (try simp only [splice, yG, yH, yI, yJ, yK, yL, yM, yN, yO, yP, yQ, Nat.reduceAdd, yA, yB, yC] at H); simp only [Act.put, yA, yB, yC, yD, yE, yF]) | ((first | ((with_reducible apply st_strsum H); rfl; rfl; exact szF; kernel_rfl)); clear H; intro wn H; simp only [Act.put, yA, yB, yC, yD, yE, yF]) | fail)
          go_end0
          exact ⟨rfl, by rw [HE.out]; exact H⟩
set_option maxRecDepth 100000 in
set_option maxHeartbeats 4000000 in
theorem sortStable_Fm (g n c : Nat) (l : List Fm) (hn : n = l.length) (hn9 : n ≤ 1000000000) (gc : Nat) (lb : Array Value) (cf : Fm → Fm → Int) (eg : ∀ args w, (callFunc gc args).run Try.prog w = .ok (.enter gc args) w) (hc : ∀ w x y, Gives Try.prog gc (#[.agg (encFm x).toArray, .agg (encFm y).toArray] ++ lb) w (.int .i64 (cf x y))) (R : Nat → Prop) (w0 : World) (L : List Hl) (w : World) (H : Hs R w0 (Hl.row 30 2 (.slice (some ⟨g, 0, none⟩) n c) n (flat encFm l) :: L) w) :
    Calls Try.prog 18 #[.slice (some ⟨g, 0, none⟩) n c, .func (.func gc) #[] lb] w (SPostFm g n c (Stb.stab (fun x y => decide (cf x y < 0)) l) R w0 L) := by
  obtain ⟨z, hz⟩ : ∃ z, z = Stb.stab (fun x y => decide (cf x y < 0)) l := ⟨_, rfl⟩
  have hcon : ∀ w1, Hs R w0 (Hl.row 30 2 (.slice (some ⟨g, 0, none⟩) n c) n (flat encFm l) :: L) w1 → Calls Try.prog 28 #[.slice (some ⟨g, 0, none⟩) n c, .int .i64 n, .func (.func gc) #[] lb] w1 (SPostFm g n c z R w0 L) := fun w1 H1 => by rw [hz]; exact stable_Fm g n c l hn hn9 gc lb cf eg hc R w0 L w1 H1
  rw [← hz]
  clear hc eg hz hn
  go_enter Try.func18, Try.ntmps18
  go_wp2_with (first | ((first | ((with_reducible apply st_load1 H); decide +kernel; rfl; exact cF) | ((with_reducible apply st_loads H); decide +kernel; rfl; exact iF; exact zF; rfl)); clear H; intro wn H; (try simp only [splice, yG, yH, yI, yJ, yK, yL, yM, yN, yO, yP, yQ, Nat.reduceAdd, yA, yB, yC] at H); simp only [Act.put, yA, yB, yC, yD, yE, yF]) | fail)
  refine (hcon _ H).mono ?_
  rintro e wn ⟨rfl, Hn⟩
  clear H
  have H := Hn
  clear Hn
  go_wp2_with (first | ((first | ((with_reducible apply st_load1 H); decide +kernel; rfl; exact cF) | ((with_reducible apply st_loads H); decide +kernel; rfl; exact iF; exact zF; rfl)); clear H; intro wn H; (try simp only [splice, yG, yH, yI, yJ, yK, yL, yM, yN, yO, yP, yQ, Nat.reduceAdd, yA, yB, yC] at H); simp only [Act.put, yA, yB, yC, yD, yE, yF]) | fail)
  go_end0
  exact ⟨rfl, H⟩
set_option maxRecDepth 100000 in
set_option maxHeartbeats 4000000 in
theorem insertion_nil_Fm (v cmp : Value) (R : Nat → Prop) (w0 : World) (L : List Hl) (w : World) (H : Hs R w0 L w) : Calls Try.prog 36 #[v, .int .i64 0, .int .i64 0, cmp] w (fun e w' => e = .returned (.tuple #[]) ∧ Hs R w0 L w') := by
  go_enter Try.func36, Try.ntmps36
  go_wp2_with (first | ((first | ((with_reducible apply st_load1 H); decide +kernel; rfl; exact cF) | ((with_reducible apply st_loads H); decide +kernel; rfl; exact iF; exact zF; rfl) | ((with_reducible apply st_store H); rfl; exact eF; (focus (exact cells_agg _)); exact uF; kernel_rfl; (focus (exact Nat.le_of_ble_eq_true (by rfl))); (focus (first | rfl | simp))) | ((with_reducible apply st_storeown H); rfl; exact eF; (focus (exact (rfl : _ = [_]))); exact uF; (focus omega); kernel_rfl; rfl)); clear H; intro wn H; (try simp only [splice, yG, yH, yI, yJ, yK, yL, yM, yN, yO, yP, yQ, Nat.reduceAdd, yA, yB, yC] at H); simp only [Act.put, yA, yB, yC, yD, yE, yF]) | ((first | ((with_reducible apply st_strsum H); rfl; rfl; exact szF; kernel_rfl) | ((with_reducible apply st_loadat H); decide +kernel; rfl; exact aF; exact zF; rfl) | ((with_reducible apply st_storerow H); rfl; exact eF; (first | exact cells_agg _ | exact cellI | exact cellS | exact cellB | exact (rfl : _ = [_])); exact uF; kernel_rfl; exact Nat.succ_pos _; exact fitF; rfl)); clear H; intro wn H; simp only [Act.put, yA, yB, yC, yD, yE, yF]) | fail)
  refine wp_loop_rounds 1 ?_
  rw [rounds_succ]
  go_wp2_with (first | ((first | ((with_reducible apply st_load1 H); decide +kernel; rfl; exact cF) | ((with_reducible apply st_loads H); decide +kernel; rfl; exact iF; exact zF; rfl) | ((with_reducible apply st_store H); rfl; exact eF; (focus (exact cells_agg _)); exact uF; kernel_rfl; (focus (exact Nat.le_of_ble_eq_true (by rfl))); (focus (first | rfl | simp))) | ((with_reducible apply st_storeown H); rfl; exact eF; (focus (exact (rfl : _ = [_]))); exact uF; (focus omega); kernel_rfl; rfl)); clear H; intro wn H; (try simp only [splice, yG, yH, yI, yJ, yK, yL, yM, yN, yO, yP, yQ, Nat.reduceAdd, yA, yB, yC] at H); simp only [Act.put, yA, yB, yC, yD, yE, yF]) | ((first | ((with_reducible apply st_strsum H); rfl; rfl; exact szF; kernel_rfl) | ((with_reducible apply st_loadat H); decide +kernel; rfl; exact aF; exact zF; rfl) | ((with_reducible apply st_storerow H); rfl; exact eF; (first | exact cells_agg _ | exact cellI | exact cellS | exact cellB | exact (rfl : _ = [_])); exact uF; kernel_rfl; exact Nat.succ_pos _; exact fitF; rfl)); clear H; intro wn H; simp only [Act.put, yA, yB, yC, yD, yE, yF]) | fail)
  go_end0
  exact ⟨rfl, H⟩
set_option maxRecDepth 100000 in
set_option maxHeartbeats 4000000 in
theorem stable_nil_Fm (v cmp : Value) (R : Nat → Prop) (w0 : World) (L : List Hl) (w : World) (H : Hs R w0 L w) : Calls Try.prog 28 #[v, .int .i64 0, cmp] w (fun e w' => e = .returned (.tuple #[]) ∧ Hs R w0 L w') := by
  go_enter Try.func28, Try.ntmps28
  go_wp2_with (first | ((first | ((with_reducible apply st_load1 H); decide +kernel; rfl; exact cF) | ((with_reducible apply st_loads H); decide +kernel; rfl; exact iF; exact zF; rfl)); clear H; intro wn H; (try simp only [splice, yG, yH, yI, yJ, yK, yL, yM, yN, yO, yP, yQ, Nat.reduceAdd, yA, yB, yC] at H); simp only [Act.put, yA, yB, yC, yD, yE, yF]) | ((first | ((with_reducible apply st_strsum H); rfl; rfl; exact szF; kernel_rfl)); clear H; intro wn H; simp only [Act.put, yA, yB, yC, yD, yE, yF]) | fail)
  refine wp_loop_rounds 1 ?_
  rw [rounds_succ]
  go_wp2_with (first | ((first | ((with_reducible apply st_load1 H); decide +kernel; rfl; exact cF) | ((with_reducible apply st_loads H); decide +kernel; rfl; exact iF; exact zF; rfl)); clear H; intro wn H; (try simp only [splice, yG, yH, yI, yJ, yK, yL, yM, yN, yO, yP, yQ, Nat.reduceAdd, yA, yB, yC] at H); simp only [Act.put, yA, yB, yC, yD, yE, yF]) | ((first | ((with_reducible apply st_strsum H); rfl; rfl; exact szF; kernel_rfl)); clear H; intro wn H; simp only [Act.put, yA, yB, yC, yD, yE, yF]) | fail)
  refine (insertion_nil_Fm v cmp R w0 L _ H).mono ?_
  rintro e wn ⟨rfl, Hn⟩
  clear H
  have H := Hn
  clear Hn
  go_wp2_with (first | ((first | ((with_reducible apply st_load1 H); decide +kernel; rfl; exact cF) | ((with_reducible apply st_loads H); decide +kernel; rfl; exact iF; exact zF; rfl)); clear H; intro wn H; (try simp only [splice, yG, yH, yI, yJ, yK, yL, yM, yN, yO, yP, yQ, Nat.reduceAdd, yA, yB, yC] at H); simp only [Act.put, yA, yB, yC, yD, yE, yF]) | ((first | ((with_reducible apply st_strsum H); rfl; rfl; exact szF; kernel_rfl)); clear H; intro wn H; simp only [Act.put, yA, yB, yC, yD, yE, yF]) | fail)
  refine wp_loop_rounds 1 ?_
  rw [rounds_succ]
  go_wp2_with (first | ((first | ((with_reducible apply st_load1 H); decide +kernel; rfl; exact cF) | ((with_reducible apply st_loads H); decide +kernel; rfl; exact iF; exact zF; rfl)); clear H; intro wn H; (try simp only [splice, yG, yH, yI, yJ, yK, yL, yM, yN, yO, yP, yQ, Nat.reduceAdd, yA, yB, yC] at H); simp only [Act.put, yA, yB, yC, yD, yE, yF]) | ((first | ((with_reducible apply st_strsum H); rfl; rfl; exact szF; kernel_rfl)); clear H; intro wn H; simp only [Act.put, yA, yB, yC, yD, yE, yF]) | fail)
  go_end0
  exact ⟨rfl, H⟩
set_option maxRecDepth 100000 in
set_option maxHeartbeats 4000000 in
theorem sortStable_nil_Fm (A : Option Addr) (c : Nat) (cmp : Value) (R : Nat → Prop) (w0 : World) (L : List Hl) (w : World) (H : Hs R w0 L w) : Calls Try.prog 18 #[.slice A 0 c, cmp] w (fun e w' => e = .returned (.tuple #[]) ∧ Hs R w0 L w') := by
  go_enter Try.func18, Try.ntmps18
  go_wp2_with (first | ((first | ((with_reducible apply st_load1 H); decide +kernel; rfl; exact cF) | ((with_reducible apply st_loads H); decide +kernel; rfl; exact iF; exact zF; rfl)); clear H; intro wn H; (try simp only [splice, yG, yH, yI, yJ, yK, yL, yM, yN, yO, yP, yQ, Nat.reduceAdd, yA, yB, yC] at H); simp only [Act.put, yA, yB, yC, yD, yE, yF]) | fail)
  refine (stable_nil_Fm _ cmp R w0 L _ H).mono ?_
  rintro e wn ⟨rfl, Hn⟩
  clear H
  have H := Hn
  clear Hn
  go_wp2_with (first | ((first | ((with_reducible apply st_load1 H); decide +kernel; rfl; exact cF) | ((with_reducible apply st_loads H); decide +kernel; rfl; exact iF; exact zF; rfl)); clear H; intro wn H; (try simp only [splice, yG, yH, yI, yJ, yK, yL, yM, yN, yO, yP, yQ, Nat.reduceAdd, yA, yB, yC] at H); simp only [Act.put, yA, yB, yC, yD, yE, yF]) | fail)
  go_end0
  exact ⟨rfl, H⟩
end Go.Proofs.Ythkebpgkhblcjaa
