/-
  Labels compared, and their order: the walks.
-/
import Derived.Test.YtpkoeeafepgphaaHa
import Derived.Test.YtpkoeeafepgphaaO0
import Derived.StillTail
import Derived.StillTailTactics
import Derived.Sort.Grow
set_option linter.unusedSimpArgs false
set_option linter.unusedVariables false
namespace Go.Proofs.Ytpkoeeafepgphaa
open Go.RowKit M
namespace M
/-- the order of labels, as a number -/
def cmpL (a b : Lab) : Int := if a.1 < b.1 then -1 else if b.1 < a.1 then 1 else if a.2 < b.2 then -1 else if b.2 < a.2 then 1 else 0
def cmpI (a b : Int) : Int := if a < b then -1 else if b < a then 1 else 0
theorem cmpI_cases (a b : Int) : (a < b ∧ cmpI a b = -1) ∨ (b < a ∧ cmpI a b = 1) ∨ (a = b ∧ cmpI a b = 0) := by
  unfold cmpI
  by_cases h : a < b
  · exact .inl ⟨h, if_pos h⟩
  · by_cases h2 : b < a
    · exact .inr (.inl ⟨h2, by rw [if_neg h, if_pos h2]⟩)
    · exact .inr (.inr ⟨by omega, by rw [if_neg h, if_neg h2]⟩)
theorem cmpL_eq (a b : Lab) : cmpL a b = if cmpI a.1 b.1 ≠ 0 then cmpI a.1 b.1 else cmpI a.2 b.2 := by
  unfold cmpL cmpI
  by_cases h1 : a.1 < b.1
  · simp [h1]
  · by_cases h2 : b.1 < a.1
    · simp [h1, h2]
    · simp [h1, h2]
/-- one label lies below another -/
def setIn (a b : Int) : Bool := (a.toNat &&& b.toNat) == a.toNat
def belowB (a b : Lab) : Bool := decide (a.1 ≤ b.1) && setIn a.2 b.2
end M
theorem bits_sub : ∀ a b : Fin 8, (bits .andNot .i64 (a.val : Int) (b.val : Int) == 0) = setIn (a.val : Int) (b.val : Int) := by decide +kernel
theorem bits_meet : ∀ a b : Fin 8, (bits .and .i64 (a.val : Int) (b.val : Int) == (a.val : Int)) = setIn (a.val : Int) (b.val : Int) := by decide +kernel
theorem fin8 {a : Int} (h : 0 ≤ a ∧ a ≤ 7) : ∃ x : Fin 8, (x.val : Int) = a := ⟨⟨a.toNat, by omega⟩, by show ((a.toNat : Nat) : Int) = a; omega⟩
theorem lab_set {a : Lab} (h : labelOk a.1 a.2 = true) : (0 ≤ a.1 ∧ a.1 ≤ 3) ∧ (0 ≤ a.2 ∧ a.2 ≤ 7) := by
  unfold labelOk isIn at h
  simp at h
  exact h
theorem bits_i {a b : Int} (ha : 0 ≤ a ∧ a ≤ 7) (hb : 0 ≤ b ∧ b ≤ 7) : (bits .andNot .i64 a b == 0) = setIn a b := by
  obtain ⟨x, rfl⟩ := fin8 ha
  obtain ⟨y, rfl⟩ := fin8 hb
  exact bits_sub x y
theorem bits_s {a b : Int} (ha : 0 ≤ a ∧ a ≤ 7) (hb : 0 ≤ b ∧ b ≤ 7) : (bits .and .i64 a b == a) = setIn a b := by
  obtain ⟨x, rfl⟩ := fin8 ha
  obtain ⟨y, rfl⟩ := fin8 hb
  exact bits_meet x y
end Go.Proofs.Ytpkoeeafepgphaa
