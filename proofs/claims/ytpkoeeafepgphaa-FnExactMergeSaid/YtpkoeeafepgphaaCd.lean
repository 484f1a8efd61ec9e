/-
  A label's place in a list; chains of labels: the walks.
-/
import Derived.Test.YtpkoeeafepgphaaCc
import Derived.IntWalk
set_option linter.unusedSimpArgs false
set_option linter.unusedVariables false
namespace Go.Proofs.Ytpkoeeafepgphaa
open Go.RowKit M
namespace M
def okL (a : Lab) : Bool := labelOk a.1 a.2
def adjB (a b : Lab) : Bool := !eqB a b && belowB a b
def chainAdj : List Lab → Bool
  | a :: b :: r => adjB a b && chainAdj (b :: r)
  | _ => true
def chainOk (l : List Lab) : Bool := decide (1 ≤ l.length) && decide (l.length ≤ 4) && (l.all okL && chainAdj l)
theorem chainAdj_step {l : List Lab} {i : Nat} {x y : Lab} (h1 : l[i]? = some x) (h2 : l[i + 1]? = some y) : chainAdj (l.drop i) = (adjB x y && chainAdj (l.drop (i + 1))) := by
  obtain ⟨k1, e1⟩ := List.getElem?_eq_some_iff.1 h1
  obtain ⟨k2, e2⟩ := List.getElem?_eq_some_iff.1 h2
  rw [List.drop_eq_getElem_cons k1, List.drop_eq_getElem_cons k2, e1, e2]
  rfl
theorem chainAdj_end {l : List Lab} {i : Nat} (h : l.length ≤ i + 1) : chainAdj (l.drop i) = true := by
  have : (l.drop i).length ≤ 1 := by rw [List.length_drop]; omega
  match l.drop i, this with
  | [], _ => rfl
  | [a], _ => rfl
theorem all_at {α : Type} {p : α → Bool} {l : List α} {i : Nat} {a : α} (h : l.all p = true) (hi : l[i]? = some a) : p a = true := List.all_eq_true.1 h a (List.mem_of_getElem? hi)
theorem all_drop {α : Type} {p : α → Bool} {l : List α} {i : Nat} {a : α} (h : l[i]? = some a) : (l.drop i).all p = (p a && (l.drop (i + 1)).all p) := by
  obtain ⟨hlt, rfl⟩ := List.getElem?_eq_some_iff.1 h
  rw [List.drop_eq_getElem_cons hlt]
  rfl
theorem any_not_all {α : Type} {p q : α → Bool} (h : ∀ a, q a = !p a) (l : List α) : l.any q = !l.all p := by
  induction l with
  | nil => rfl
  | cons a l ih => simp [h, ih]
end M
end Go.Proofs.Ytpkoeeafepgphaa
