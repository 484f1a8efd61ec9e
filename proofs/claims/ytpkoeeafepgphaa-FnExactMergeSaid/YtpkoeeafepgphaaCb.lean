/-
  The library's searches in slices. Printed by igen.py.
-/
import Derived.Test.YtpkoeeafepgphaaCa
import Derived.Shelf.Abstract
set_option linter.unusedSimpArgs false
set_option linter.unusedVariables false
namespace Go.Proofs.Ytpkoeeafepgphaa
open Go.RowKit M
namespace M
/-- the place of the first of which p holds; -1: there is none -/
def idxF {α : Type} (p : α → Bool) : Nat → List α → Int
  | _, [] => -1
  | k, a :: l => if p a then k else idxF p (k + 1) l
theorem idxF_ge {α : Type} (p : α → Bool) (l : List α) : ∀ k, decide ((0 : Int) ≤ idxF p k l) = l.any p := by
  induction l with
  | nil => intro k; rfl
  | cons a l ih =>
    intro k
    unfold idxF
    cases h : p a
    · simp only [Bool.false_eq_true, if_false, List.any_cons, h, Bool.false_or]; exact ih (k + 1)
    · simp [h]
theorem idxF_drop {α : Type} {p : α → Bool} {l : List α} {i : Nat} {a : α} (h : l[i]? = some a) : idxF p i (l.drop i) = if p a then (i : Int) else idxF p (i + 1) (l.drop (i + 1)) := by
  obtain ⟨hlt, rfl⟩ := List.getElem?_eq_some_iff.1 h
  rw [List.drop_eq_getElem_cons hlt]
  rfl
theorem idxF_lt {α : Type} {p : α → Bool} (l : List α) : ∀ k, idxF p k l < k + l.length := by
  induction l with
  | nil => intro k; simp [idxF]; omega
  | cons a l ih =>
    intro k
    unfold idxF
    have := ih (k + 1)
    simp only [List.length_cons]
    split <;> omega
end M

end Go.Proofs.Ytpkoeeafepgphaa
