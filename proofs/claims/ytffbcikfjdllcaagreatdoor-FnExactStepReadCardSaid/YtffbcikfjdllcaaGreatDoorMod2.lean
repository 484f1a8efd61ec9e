/-
  What is read: numbers, texts, frames, in plain words.
-/
import Derived.Test.YtffbcikfjdllcaaGreatDoorB5
set_option linter.unusedSimpArgs false
set_option linter.unusedVariables false
namespace Go.Proofs.YtffbcikfjdllcaaGreatDoor.M
theorem unzig_range {y : Nat} (h : y < 18446744073709551616) : -9223372036854775808 ≤ unzig y ∧ unzig y ≤ 9223372036854775807 := by
  unfold unzig; split <;> omega
theorem gnum_range : ∀ (f : Nat) (l : Bs) (k u : Nat), k + f = 10 → u < 2 ^ (7 * k) →
    (gnum f l k u).2.2 ≠ 0 ∧ 3 ≤ (gnum f l k u).2.2 ∧ (gnum f l k u).2.2 ≤ 4 ∨
    (gnum f l k u).2.2 = 0 ∧ k + 1 ≤ (gnum f l k u).2.1 ∧ (gnum f l k u).2.1 ≤ k + l.length ∧ -9223372036854775808 ≤ (gnum f l k u).1 ∧ (gnum f l k u).1 ≤ 9223372036854775807
  | 0, _, _, _, _, _ => by left; simp [gnum]
  | f + 1, [], _, _, _, _ => by left; simp [gnum]
  | f + 1, b :: l, k, u, hk, hu => by
    unfold gnum
    by_cases h1 : k = 9 ∧ 1 < b.toNat
    · rw [if_pos h1]; left; simp
    · rw [if_neg h1]
      by_cases h2 : 128 ≤ b.toNat
      · rw [if_pos h2]
        have := gnum_range f l (k + 1) (u + b.toNat % 128 * 2 ^ (7 * k)) (by omega) (pow7 hu (by omega))
        rcases this with h | ⟨h, h3, h4, h5⟩
        · left; exact h
        · right; refine ⟨h, by omega, ?_, h5⟩; simp only [List.length_cons]; omega
      · rw [if_neg h2]
        by_cases h3 : b.toNat = 0 ∧ 0 < k
        · rw [if_pos h3]; left; simp
        · rw [if_neg h3]
          right
          refine ⟨rfl, Nat.le_refl _, by simp, ?_⟩
          refine unzig_range ?_
          by_cases h9 : k = 9
          · subst h9
            have : b.toNat % 128 * 2 ^ (7 * 9) ≤ 1 * 2 ^ (7 * 9) := Nat.mul_le_mul_right _ (by omega)
            have h3 : (2 : Nat) ^ (7 * 9) = 9223372036854775808 := by decide
            omega
          · have h := pow7 (b := b.toNat % 128) hu (by omega)
            have h2 := Nat.pow_le_pow_right (n := 2) (by omega) (show 7 * (k + 1) ≤ 63 by omega)
            have h3 : (2 : Nat) ^ 63 = 9223372036854775808 := by decide
            omega
theorem numAt_range (t : Bs) (a : Nat) :
    (numAt t a).1 = 0 ∧ (numAt t a).2.1 = 0 ∧ (3 ≤ (numAt t a).2.2 ∧ (numAt t a).2.2 ≤ 4) ∨
    (numAt t a).2.2 = 0 ∧ (a : Int) + 1 ≤ (numAt t a).2.1 ∧ (numAt t a).2.1 ≤ t.length ∧ -9223372036854775808 ≤ (numAt t a).1 ∧ (numAt t a).1 ≤ 9223372036854775807 := by
  have h := gnum_range 10 (t.drop a) 0 0 (by omega) (by omega)
  unfold numAt
  rcases h with ⟨h, h3⟩ | ⟨h, h3, h4, h5⟩
  · rw [if_neg h]; left; exact ⟨rfl, rfl, h3⟩
  · rw [if_pos h]; right
    rw [List.length_drop] at h4
    refine ⟨rfl, ?_, ?_, h5⟩
    · show (a : Int) + 1 ≤ ((a + _ : Nat) : Int)
      omega
    · show ((a + _ : Nat) : Int) ≤ _
      omega
theorem getNum_range (t : Bs) (a : Int) :
    (getNum t a).1 = 0 ∧ (getNum t a).2.1 = 0 ∧ (1 ≤ (getNum t a).2.2 ∧ (getNum t a).2.2 ≤ 4) ∨
    (getNum t a).2.2 = 0 ∧ t.length ≤ 8000 ∧ 0 ≤ a ∧ a + 1 ≤ (getNum t a).2.1 ∧ (getNum t a).2.1 ≤ t.length ∧ -9223372036854775808 ≤ (getNum t a).1 ∧ (getNum t a).1 ≤ 9223372036854775807 := by
  unfold getNum
  by_cases h1 : 8000 < t.length
  · rw [if_pos h1]; left; simp
  · rw [if_neg h1]
    by_cases h2 : a < 0
    · rw [if_pos h2]; left; simp
    · rw [if_neg h2]
      rcases numAt_range t a.toNat with ⟨h3, h4, h5⟩ | ⟨h3, h4, h5⟩
      · left; exact ⟨h3, h4, by omega⟩
      · right; exact ⟨h3, by omega, by omega, by omega, h5⟩

/-! ### texts read -/
/-- text, place behind it, code -/
abbrev TextOut := Bs × Int × Int
def getText (t : Bs) (a : Int) : TextOut :=
  if (getNum t a).2.2 ≠ 0 then ([], 0, (getNum t a).2.2)
  else if (getNum t a).1 < 0 ∨ 8000 < (getNum t a).1 then ([], 0, 3)
  else if (t.length : Int) < (getNum t a).2.1 + (getNum t a).1 then ([], 0, 4)
  else ((t.drop (getNum t a).2.1.toNat).take (getNum t a).1.toNat, (getNum t a).2.1 + (getNum t a).1, 0)
def unseal_ (t : Bs) : TextOut :=
  if 8000 < t.length then ([], 0, 2) else if t.length < 4 then ([], 0, 4)
  else if crcFour (t.take (t.length - 4)) = t.drop (t.length - 4) then (t.take (t.length - 4), 0, 0) else ([], 0, 5)
def four4 (a b c d : Nat) : Int := ((a + b * 256 + c * 65536 + d * 16777216 : Nat) : Int)
/-- the number that the first four bytes tell -/
def ofFour (t : Bs) : Int := four4 (t[0]?.getD 0).toNat (t[1]?.getD 0).toNat (t[2]?.getD 0).toNat (t[3]?.getD 0).toNat
/-- number, text, place behind, code -/
abbrev FrameOut := Int × Bs × Int × Int
def frameRead (t : Bs) (a : Int) : FrameOut :=
  if (getText t a).2.2 ≠ 0 then (0, [], 0, (getText t a).2.2)
  else if (unseal_ (getText t a).1).2.2 ≠ 0 then (0, [], 0, (unseal_ (getText t a).1).2.2)
  else if (unseal_ (getText t a).1).1.length < 4 then (0, [], 0, 3)
  else if frameOk (ofFour (unseal_ (getText t a).1).1) ((unseal_ (getText t a).1).1.drop 4) then (ofFour (unseal_ (getText t a).1).1, (unseal_ (getText t a).1).1.drop 4, (getText t a).2.1, 0)
  else (0, [], 0, 3)
theorem extract_bs (s : ByteArray) (a b : Nat) : s.extract a b = bs ((s.data.toList.drop a).take (b - a)) := by
  apply ByteArray.ext
  simp [bs, ByteArray.data_extract]
  rw [← Array.toList_inj]
  simp [Array.toList_extract, List.extract]
end Go.Proofs.YtffbcikfjdllcaaGreatDoor.M
