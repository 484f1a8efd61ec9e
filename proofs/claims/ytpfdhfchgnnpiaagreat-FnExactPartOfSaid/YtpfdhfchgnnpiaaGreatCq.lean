/-
  The place of a pair, in the reference and in the program: the walks.
-/
import Derived.Test.YtpfdhfchgnnpiaaGreatG8
set_option linter.unusedSimpArgs false
set_option linter.unusedVariables false
namespace Go.Proofs.YtpfdhfchgnnpiaaGreat
open Go.RowKit M
namespace M
theorem idxF_at {α : Type} {p : α → Bool} {l : List α} {i : Nat} {a : α} (h : l[i]? = some a) : idxF p i (l.drop i) = if p a then (i : Int) else idxF p (i + 1) (l.drop (i + 1)) := by
  obtain ⟨hlt, rfl⟩ := List.getElem?_eq_some_iff.1 h
  rw [List.drop_eq_getElem_cons hlt]
  rfl
theorem idxF_end {α : Type} {p : α → Bool} {l : List α} {i : Nat} (h : l.length ≤ i) : idxF p i (l.drop i) = -1 := by
  rw [List.drop_of_length_le h]; rfl
end M
end Go.Proofs.YtpfdhfchgnnpiaaGreat
