/-
  Two parts of a row change places: the walk. Printed by stgen.py.
-/
import Derived.Test.YtpkoeeafepgphaaSt
import Derived.Deep.DeepCutAuto
set_option linter.unusedSimpArgs false
set_option linter.unusedVariables false
namespace Go.Proofs.Ytpkoeeafepgphaa
open Go.RowKit M
set_option maxRecDepth 100000 in
set_option maxHeartbeats 4000000 in
theorem rotate_Fm (g n c : Nat) (l : List Fm) (hn : n = l.length) (hn9 : n ≤ 1000000000) (cmp : Value) (a m b : Nat) (h1 : a < m) (h2 : m < b) (h3 : b ≤ n) (R : Nat → Prop) (w0 : World) (L : List Hl) (w : World) (H : Hs R w0 (Hl.row 37 2 (.slice (some ⟨g, 0, none⟩) n c) n (flat encFm l) :: L) w) :
    Calls Try.prog 52 #[.slice (some ⟨g, 0, none⟩) n c, .int .i64 a, .int .i64 m, .int .i64 b, cmp] w (SPostFm g n c (Stb.rot m (m - a) (b - m) l) R w0 L) := by
  obtain ⟨i0, hi0⟩ : ∃ i0, i0 = m - a := ⟨_, rfl⟩
  obtain ⟨j0, hj0⟩ : ∃ j0, j0 = b - m := ⟨_, rfl⟩
  rw [← hi0, ← hj0]
  have hpA : (m : Int) - (a : Int) = (i0 : Int) := by omega
  have hpB : (b : Int) - (m : Int) = (j0 : Int) := by omega
  have k1 : 0 < i0 := by omega
  have k2 : 0 < j0 := by omega
  have k3 : i0 ≤ m := by omega
  have k4 : m + j0 ≤ n := by omega
  obtain ⟨z, hz⟩ : ∃ z, z = Stb.rot m i0 j0 l := ⟨_, rfl⟩
  rw [← hz]
  have HZ := Lib.hid hz
  have HN := Lib.hid hn
  clear hz hn hi0 hj0
  go_enter Try.func52, Try.ntmps52
  go_wp2_with (first | ((first | ((with_reducible apply st_load1 H); decide +kernel; rfl; exact cF) | ((with_reducible apply st_loads H); decide +kernel; rfl; exact iF; exact zF; rfl)); clear H; intro wn H; (try simp only [splice, yG, yH, yI, yJ, yK, yL, yM, yN, yO, yP, yQ, Nat.reduceAdd, yA, yB, yC] at H); simp only [Act.put, yA, yB, yC, yD, yE, yF]) | ((first | ((with_reducible apply st_strsum H); rfl; rfl; exact szF; kernel_rfl)); clear H; intro wn H; simp only [Act.put, yA, yB, yC, yD, yE, yF]) | fail)
  clear hpA hpB h1 h2 h3
  go_loopg [10, 11] (i0 + j0) (fun k iv jv wr => ∃ (i j : Nat) (l' : List Fm), k = i + j ∧ (0 < i ∧ 0 < j ∧ i ≤ m ∧ m + j ≤ n) ∧ iv = .int .i64 i ∧ jv = .int .i64 j ∧ Hid (z = Stb.rot m i j l') ∧ Hid (l'.length = n) ∧ Hs R w0 (Hl.row 37 2 (.slice (some ⟨g, 0, none⟩) n c) n (flat encFm l') :: L) wr)
  case atStart => exact ⟨i0, j0, l, rfl, ⟨k1, k2, k3, k4⟩, rfl, rfl, HZ, Lib.hid HN.out.symm, H⟩
  case round =>
    clear H k1 k2 k3 k4 HZ
    obtain ⟨i, j, l', hk, ⟨k1, k2, k3, k4⟩, rfl, rfl, HI, HL, H⟩ := hrel
    obtain ⟨d, hd⟩ : ∃ d, d = m - i := ⟨_, rfl⟩
    have hpA : (m : Int) - (i : Int) = (d : Int) := by omega
    have hstep := HI.out
    rw [Stb.rot, ← hd] at hstep
    by_cases hij : i = j
    · subst hij
      rw [if_pos (.inl rfl)] at hstep
      have HE := Lib.hid hstep
      have hne : ((i : Int) != (i : Int)) = false := by simp
      have kd : d + i ≤ n := by omega
      clear hstep HI hd
      go_wp2_with (first | ((first | ((with_reducible apply st_load1 H); decide +kernel; rfl; exact cF) | ((with_reducible apply st_loads H); decide +kernel; rfl; exact iF; exact zF; rfl)); clear H; intro wn H; (try simp only [splice, yG, yH, yI, yJ, yK, yL, yM, yN, yO, yP, yQ, Nat.reduceAdd, yA, yB, yC] at H); simp only [Act.put, yA, yB, yC, yD, yE, yF]) | ((first | ((with_reducible apply st_strsum H); rfl; rfl; exact szF; kernel_rfl)); clear H; intro wn H; simp only [Act.put, yA, yB, yC, yD, yE, yF]) | fail)
      refine (swapRange_Fm g n c l' HL.out.symm hn9 cmp d m i kd k4 R w0 L _ H).mono ?_
      rintro e wn ⟨rfl, Hn⟩
      clear H
      have H := Hn
      clear Hn
      go_wp2_with (first | ((first | ((with_reducible apply st_load1 H); decide +kernel; rfl; exact cF) | ((with_reducible apply st_loads H); decide +kernel; rfl; exact iF; exact zF; rfl)); clear H; intro wn H; (try simp only [splice, yG, yH, yI, yJ, yK, yL, yM, yN, yO, yP, yQ, Nat.reduceAdd, yA, yB, yC] at H); simp only [Act.put, yA, yB, yC, yD, yE, yF]) | ((first | ((with_reducible apply st_strsum H); rfl; rfl; exact szF; kernel_rfl)); clear H; intro wn H; simp only [Act.put, yA, yB, yC, yD, yE, yF]) | fail)
      go_end0
      exact ⟨rfl, by rw [HE.out]; exact H⟩
    rw [if_neg (by omega)] at hstep
    have hne : ((i : Int) != (j : Int)) = true := by simp; omega
    by_cases hlt : j < i
    · rw [if_pos hlt] at hstep
      obtain ⟨e, he⟩ : ∃ e, e = i - j := ⟨_, rfl⟩
      rw [← he] at hstep
      have HE := Lib.hid hstep
      have hgt : (j : Int) < (i : Int) := by omega
      have hpB : (i : Int) - (j : Int) = (e : Int) := by omega
      have ke : 0 < e := by omega
      have ke2 : e ≤ m := by omega
      have ke3 : e + j < i + j := by omega
      have kd : d + j ≤ n := by omega
      clear hstep HI hd he
      go_wp2_with (first | ((first | ((with_reducible apply st_load1 H); decide +kernel; rfl; exact cF) | ((with_reducible apply st_loads H); decide +kernel; rfl; exact iF; exact zF; rfl)); clear H; intro wn H; (try simp only [splice, yG, yH, yI, yJ, yK, yL, yM, yN, yO, yP, yQ, Nat.reduceAdd, yA, yB, yC] at H); simp only [Act.put, yA, yB, yC, yD, yE, yF]) | ((first | ((with_reducible apply st_strsum H); rfl; rfl; exact szF; kernel_rfl)); clear H; intro wn H; simp only [Act.put, yA, yB, yC, yD, yE, yF]) | fail)
      refine (swapRange_Fm g n c l' HL.out.symm hn9 cmp d m j kd k4 R w0 L _ H).mono ?_
      rintro e wn ⟨rfl, Hn⟩
      clear H
      have H := Hn
      clear Hn
      go_wp2_with (first | ((first | ((with_reducible apply st_load1 H); decide +kernel; rfl; exact cF) | ((with_reducible apply st_loads H); decide +kernel; rfl; exact iF; exact zF; rfl)); clear H; intro wn H; (try simp only [splice, yG, yH, yI, yJ, yK, yL, yM, yN, yO, yP, yQ, Nat.reduceAdd, yA, yB, yC] at H); simp only [Act.put, yA, yB, yC, yD, yE, yF]) | ((first | ((with_reducible apply st_strsum H); rfl; rfl; exact szF; kernel_rfl)); clear H; intro wn H; simp only [Act.put, yA, yB, yC, yD, yE, yF]) | fail)
      go_roundg (e + j)
      case measure => omega
      case rel => exact ⟨e, j, _, rfl, ⟨ke, k2, ke2, k4⟩, by go_num, rfl, HE, Lib.hid ((swR_len _ _ _ _).trans HL.out), H⟩
    · rw [if_neg hlt] at hstep
      obtain ⟨e, he⟩ : ∃ e, e = j - i := ⟨_, rfl⟩
      obtain ⟨f, hf⟩ : ∃ f, f = m + j - i := ⟨_, rfl⟩
      rw [← he, ← hf] at hstep
      have HE := Lib.hid hstep
      have hgt : ¬ (j : Int) < (i : Int) := by omega
      have hpB : (j : Int) - (i : Int) = (e : Int) := by omega
      have hpC : (m : Int) + (j : Int) - (i : Int) = (f : Int) := by omega
      have ke : 0 < e := by omega
      have ke2 : m + e ≤ n := by omega
      have ke3 : i + e < i + j := by omega
      have kd : d + i ≤ n := by omega
      have kf : f + i ≤ n := by omega
      clear hstep HI hd he hf
      go_wp2_with (first | ((first | ((with_reducible apply st_load1 H); decide +kernel; rfl; exact cF) | ((with_reducible apply st_loads H); decide +kernel; rfl; exact iF; exact zF; rfl)); clear H; intro wn H; (try simp only [splice, yG, yH, yI, yJ, yK, yL, yM, yN, yO, yP, yQ, Nat.reduceAdd, yA, yB, yC] at H); simp only [Act.put, yA, yB, yC, yD, yE, yF]) | ((first | ((with_reducible apply st_strsum H); rfl; rfl; exact szF; kernel_rfl)); clear H; intro wn H; simp only [Act.put, yA, yB, yC, yD, yE, yF]) | fail)
      refine (swapRange_Fm g n c l' HL.out.symm hn9 cmp d f i kd kf R w0 L _ H).mono ?_
      rintro e wn ⟨rfl, Hn⟩
      clear H
      have H := Hn
      clear Hn
      go_wp2_with (first | ((first | ((with_reducible apply st_load1 H); decide +kernel; rfl; exact cF) | ((with_reducible apply st_loads H); decide +kernel; rfl; exact iF; exact zF; rfl)); clear H; intro wn H; (try simp only [splice, yG, yH, yI, yJ, yK, yL, yM, yN, yO, yP, yQ, Nat.reduceAdd, yA, yB, yC] at H); simp only [Act.put, yA, yB, yC, yD, yE, yF]) | ((first | ((with_reducible apply st_strsum H); rfl; rfl; exact szF; kernel_rfl)); clear H; intro wn H; simp only [Act.put, yA, yB, yC, yD, yE, yF]) | fail)
      go_roundg (i + e)
      case measure => omega
      case rel => exact ⟨i, e, _, rfl, ⟨k1, ke, k3, ke2⟩, rfl, by go_num, HE, Lib.hid ((swR_len _ _ _ _).trans HL.out), H⟩
end Go.Proofs.Ytpkoeeafepgphaa
