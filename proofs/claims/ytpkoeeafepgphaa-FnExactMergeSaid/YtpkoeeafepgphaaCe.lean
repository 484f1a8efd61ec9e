/-
  Chains of labels in the reference; nodes: the walks.
-/
import Derived.Test.YtpkoeeafepgphaaCd
set_option linter.unusedSimpArgs false
set_option linter.unusedVariables false
namespace Go.Proofs.Ytpkoeeafepgphaa
open Go.RowKit M
namespace M
def clearOk (l : List (List Lab)) : Bool := decide (1 ≤ l.length) && decide (l.length ≤ 6) && l.all chainOk
theorem take_step {α : Type} {p : α → Bool} {l : List α} {i : Nat} {a : α} (h : l[i]? = some a) (h1 : (l.take i).all p = true) (h2 : p a = true) : (l.take (i + 1)).all p = true := by
  obtain ⟨hlt, rfl⟩ := List.getElem?_eq_some_iff.1 h
  rw [List.take_succ_eq_append_getElem hlt, List.all_append, h1]
  simp [h2]
theorem take_at {α : Type} {p : α → Bool} {l : List α} {i j : Nat} {a : α} (h : l[j]? = some a) (hj : j < i) (h1 : (l.take i).all p = true) : p a = true :=
  all_at h1 (i := j) (by rw [List.getElem?_take, if_pos hj]; exact h)
end M
end Go.Proofs.Ytpkoeeafepgphaa
