/-
  Decimal numerals and labels as texts: the walks.
-/
import Derived.Test.YtfblolkkajppcaaGreatDoorP0
import Derived.Test.YtfblolkkajppcaaGreatDoorEng
import Derived.Test.YtfblolkkajppcaaGreatDoorSh
import Derived.Lib.AppendIntMem
import Derived.Lib.ItoaLen
set_option linter.unusedSimpArgs false
set_option linter.unusedVariables false
namespace Go.Proofs.YtfblolkkajppcaaGreatDoor
open Go.RowKit M

theorem Gives.ofDrewN {P : Program} {f : FuncId} {args : Array Value} {w : World} {v : Value} (h : Calls P f args w fun e w' => e = .returned v ∧ ∃ k os, w' = Go.Sort.grow (w.drewN k) os) : Gives P f args w v :=
  h.mono fun _ _ ⟨he, k, os, hw⟩ => ⟨he, by subst hw; exact Lib.below_grow _ _ (Nat.le_refl _) _ _⟩
set_option maxRecDepth 100000 in
set_option maxHeartbeats 4000000 in
theorem l01Dec_s (n : Int) (h0 : 0 ≤ n) (h1 : n ≤ 1000000000) (w : World) : Gives Tryz.prog 62 #[.int .i64 n] w (.string (bs (dec n))) := by
  unfold Gives
  obtain ⟨m, rfl⟩ := Int.eq_ofNat_of_zero_le h0
  have H := Hs.start noRow w
  by_cases hz : m = 0
  · subst hz
    go_enter Tryz.func62, Tryz.ntmps62
    go_wp2_with (first | ((first | ((with_reducible apply st_load1 H); decide +kernel; rfl; exact cF) | ((with_reducible apply st_loads H); decide +kernel; rfl; exact iF; exact zF; rfl)); clear H; intro wn H; (try simp only [splice, yG, yH, yI, yJ, yK, yL, yM, yN, yO, yP, yQ, Nat.reduceAdd, yA, yB, yC] at H); simp only [Act.put, yA, yB, yC, yD, yE, yF]) | ((first | ((with_reducible apply st_strsum H); rfl; rfl; exact szF; kernel_rfl) | ((with_reducible apply st_conv1 H); rfl; exact iF; (focus omega); (focus omega); kernel_rfl; kernel_rfl; kernel_rfl) | ((with_reducible apply st_bslice H); exact nsF; intro nb)); clear H; intro wn H; simp only [Act.put, yA, yB, yC, yD, yE, yF]) | fail)
    go_ret
    exact ⟨congrArg Ending.returned (congrArg Value.string (show (⟨#[48]⟩ : ByteArray) = bs (dec (0 : Nat)) by decide +kernel)), H.below⟩
  · have hz1 : ((m : Int) == 0) = false := by simpa using hz
    have HD := Lib.hid (dec_nat m)
    have hneg : decide ((m : Int) < 0) = false := by simp
    generalize hD : Lib.decDigits m = D at *
    have HD2 := Lib.hid hD
    clear hD
    go_enter Tryz.func62, Tryz.ntmps62
    go_wp2_with (first | ((first | ((with_reducible apply st_load1 H); decide +kernel; rfl; exact cF) | ((with_reducible apply st_loads H); decide +kernel; rfl; exact iF; exact zF; rfl)); clear H; intro wn H; (try simp only [splice, yG, yH, yI, yJ, yK, yL, yM, yN, yO, yP, yQ, Nat.reduceAdd, yA, yB, yC] at H); simp only [Act.put, yA, yB, yC, yD, yE, yF]) | ((first | ((with_reducible apply st_strsum H); rfl; rfl; exact szF; kernel_rfl) | ((with_reducible apply st_conv1 H); rfl; exact iF; (focus omega); (focus omega); kernel_rfl; kernel_rfl; kernel_rfl) | ((with_reducible apply st_bslice H); exact nsF; intro nb)); clear H; intro wn H; simp only [Act.put, yA, yB, yC, yD, yE, yF]) | fail)
    go_loopw [0, 4, 5] (fun n out d wr => ∃ (k : Nat) (o : Bs), n = .int .i64 k ∧ out = .string (bs o) ∧ Hid ((k ≠ 0 → Lib.decDigits k ++ o = D) ∧ (k = 0 → o = D)) ∧ k ≤ m ∧ o.length ≤ 100 ∧ Hs noRow w [] wr) (fun n _ _ _ => (intOf n).toNat)
    case atStart => exact ⟨m, [], rfl, rfl, Lib.hid ⟨fun _ => by rw [HD2.out, List.append_nil], fun h => absurd h hz⟩, Nat.le_refl _, Nat.zero_le _, H⟩
    case round =>
      clear H
      obtain ⟨k, o, rfl, rfl, HI, hk, hol, H⟩ := hrel
      by_cases hk0 : k = 0
      · subst hk0
        have ho := HI.out.2 rfl
        go_wp2_with (first | ((first | ((with_reducible apply st_load1 H); decide +kernel; rfl; exact cF) | ((with_reducible apply st_loads H); decide +kernel; rfl; exact iF; exact zF; rfl)); clear H; intro wn H; (try simp only [splice, yG, yH, yI, yJ, yK, yL, yM, yN, yO, yP, yQ, Nat.reduceAdd, yA, yB, yC] at H); simp only [Act.put, yA, yB, yC, yD, yE, yF]) | ((first | ((with_reducible apply st_strsum H); rfl; rfl; exact szF; kernel_rfl) | ((with_reducible apply st_conv1 H); rfl; exact iF; (focus omega); (focus omega); kernel_rfl; kernel_rfl; kernel_rfl) | ((with_reducible apply st_bslice H); exact nsF; intro nb)); clear H; intro wn H; simp only [Act.put, yA, yB, yC, yD, yE, yF]) | fail)
        go_ret
        exact ⟨by rw [HD.out]; rfl, H.below⟩
      · have hk1 : ((k : Int) != 0) = true := by simpa using hk0
        have hk2 : decide ((k : Int) % 10 < 0) = false := by simp; omega
        obtain ⟨s1, s2⟩ := digits_step hk0 (HI.out.1 hk0)
        have HS := Lib.hid (And.intro s1 s2)
        have HB : Hid ((⟨#[UInt8.ofNat (48 + (k : Int) % 10).toNat]⟩ : ByteArray) ++ bs o = bs ([UInt8.ofNat (48 + k % 10)] ++ o)) := Lib.hid (by rw [show (48 + (k : Int) % 10).toNat = 48 + k % 10 by omega, ← bs_append]; rfl)
        have hol2 : ([UInt8.ofNat (48 + k % 10)] ++ o).length ≤ 100 := by
          have hD1 : D.length ≤ 20 := by rw [← HD2.out, Lib.decDigits_length]; exact Lib.nDigits_le20 _ (by omega)
          by_cases h10 : k / 10 = 0
          · rw [s2 h10]; omega
          · have := congrArg List.length (s1 h10)
            rw [List.length_append] at this
            omega
        clear s1 s2 HI
        go_wp2_with (first | ((first | ((with_reducible apply st_load1 H); decide +kernel; rfl; exact cF) | ((with_reducible apply st_loads H); decide +kernel; rfl; exact iF; exact zF; rfl)); clear H; intro wn H; (try simp only [splice, yG, yH, yI, yJ, yK, yL, yM, yN, yO, yP, yQ, Nat.reduceAdd, yA, yB, yC] at H); simp only [Act.put, yA, yB, yC, yD, yE, yF]) | ((first | ((with_reducible apply st_strsum H); rfl; rfl; exact szF; kernel_rfl) | ((with_reducible apply st_conv1 H); rfl; exact iF; (focus omega); (focus omega); kernel_rfl; kernel_rfl; kernel_rfl) | ((with_reducible apply st_bslice H); exact nsF; intro nb)); clear H; intro wn H; simp only [Act.put, yA, yB, yC, yD, yE, yF]) | fail)
        rw [HB.out]
        go_roundw
        case rel => exact ⟨k / 10, _, by simp, rfl, HS, by omega, hol2, H.nil⟩
        case measure => simp [intOf]; omega
end Go.Proofs.YtfblolkkajppcaaGreatDoor
