/-
  The place of a pair, in the reference and in the program: the walks.
-/
import Derived.Test.YtcaeemhkeoajbaaGreatG8
set_option linter.unusedSimpArgs false
set_option linter.unusedVariables false
namespace Go.Proofs.YtcaeemhkeoajbaaGreat
open Go.RowKit M
namespace M
def prEq (a b : Lab) (x : Pr) : Bool := eqB x.1 a && eqB x.2.1 b
theorem idxF_at {α : Type} {p : α → Bool} {l : List α} {i : Nat} {a : α} (h : l[i]? = some a) : idxF p i (l.drop i) = if p a then (i : Int) else idxF p (i + 1) (l.drop (i + 1)) := by
  obtain ⟨hlt, rfl⟩ := List.getElem?_eq_some_iff.1 h
  rw [List.drop_eq_getElem_cons hlt]
  rfl
theorem idxF_end {α : Type} {p : α → Bool} {l : List α} {i : Nat} (h : l.length ≤ i) : idxF p i (l.drop i) = -1 := by
  rw [List.drop_of_length_le h]; rfl
theorem idxF_bd {α : Type} {p : α → Bool} : ∀ (l : List α) (k : Nat), -1 ≤ idxF p k l ∧ idxF p k l < k + l.length ∧ (idxF p k l < 0 → idxF p k l = -1) := by
  intro l
  induction l with
  | nil => intro k; unfold idxF; simp; omega
  | cons a l ih =>
    intro k
    unfold idxF
    by_cases h : p a
    · simp only [h, if_true, List.length_cons]; omega
    · simp only [h, if_false, List.length_cons, Bool.false_eq_true]
      have := ih (k + 1)
      omega
end M
end Go.Proofs.YtcaeemhkeoajbaaGreat
