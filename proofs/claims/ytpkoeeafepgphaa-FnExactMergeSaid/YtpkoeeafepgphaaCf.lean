/-
  Nodes and the labels of a configuration in the reference: the walks.
-/
import Derived.Test.YtpkoeeafepgphaaCe
set_option linter.unusedSimpArgs false
set_option linter.unusedVariables false
namespace Go.Proofs.Ytpkoeeafepgphaa
open Go.RowKit M
namespace M
def labsAll : List Lab := [(0, 0), (0, 1), (0, 2), (0, 3), (0, 4), (0, 5), (0, 6), (0, 7), (1, 0), (1, 1), (1, 2), (1, 3), (1, 4), (1, 5), (1, 6), (1, 7), (2, 0), (2, 1), (2, 2), (2, 3), (2, 4), (2, 5), (2, 6), (2, 7), (3, 0), (3, 1), (3, 2), (3, 3), (3, 4), (3, 5), (3, 6), (3, 7)]
/-- the labels of nodes, each once, in order -/
def labelsOf (nodes : List (List Lab)) : List Lab := labsAll.filter fun a => nodes.any fun l => hasL l a
theorem labsAll_at : ∀ k : Nat, k < 32 → labsAll[k]? = some (((k / 8 : Nat) : Int), ((k % 8 : Nat) : Int)) := by decide +kernel
theorem filter_take {α : Type} {p : α → Bool} {l : List α} {i : Nat} {a : α} (h : l[i]? = some a) : (l.take (i + 1)).filter p = (l.take i).filter p ++ if p a then [a] else [] := by
  obtain ⟨hlt, rfl⟩ := List.getElem?_eq_some_iff.1 h
  rw [List.take_succ_eq_append_getElem hlt, List.filter_append]
  congr 1
  cases h : p l[i] <;> simp [h]
end M
theorem ownL_flat {α : Type} {s : Nat} {enc : α → List Value} {hl : ∀ a, (enc a).length = s} {h1 : ∀ a, ∀ u ∈ enc a, u.oneCell' = true} : ∀ l : List α, OwnL (Ty.flat s enc hl h1) (flat enc l) l []
  | [] => .nil
  | a :: l => OwnL.cons (M := []) (N := []) ⟨rfl, rfl⟩ (ownL_flat l)
/-- a walk's end: a row of structs that hold no memory -/
theorem ret_flat {α : Type} {s s' n : Nat} {enc : α → List Value} {hl : ∀ a, (enc a).length = s} {h1 : ∀ a, ∀ u ∈ enc a, u.oneCell' = true} {E : TypeId} {w w' : World} {v : Value} {xs : List Value} {l : List α} {L : List Hl} (H : Hs noRow w (Hl.row E s' v n xs :: L) w') (hx : xs = flat enc l) (hn : n = l.length) (hs : s' = s := by rfl) :
    RPost [] w (tOwn (Ty.sl E (Ty.flat s enc hl h1)) l) (.returned v) w' := by
  subst hx hs
  have H2 : Hs noRow w (Hl.row E s' v n (flat enc l ++ []) :: Hl.all [] :: L) w' := by
    rw [List.append_nil]
    exact H.allNil.reperm (List.Perm.swap ..)
  exact ret_sl H2 (ownL_flat l) rfl rfl hn
end Go.Proofs.Ytpkoeeafepgphaa
