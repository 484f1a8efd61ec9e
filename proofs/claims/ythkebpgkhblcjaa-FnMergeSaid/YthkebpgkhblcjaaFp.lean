/-
  Insertion of each element behind all that are not greater, from the left: the merge sort of the library. Plain theorems; nothing of the program is named.
-/
import Derived.Test.YthkebpgkhblcjaaK7
set_option linter.unusedSimpArgs false
set_option linter.unusedVariables false
namespace Go.Proofs.Ythkebpgkhblcjaa
namespace Stb
variable {α β : Type}
def insAll (lt : α → α → Bool) (l : List α) : List α := insUp lt 0 0 l.length l
theorem insAll_map (g : α → β) (lt : β → β → Bool) (l : List α) : insAll lt (l.map g) = (insAll (fun x y => lt (g x) (g y)) l).map g := by
  unfold insAll
  rw [List.length_map, insUp_map]
theorem insAll_eq {R : α → α → Prop} {lt : α → α → Bool} (htr : ∀ x y z, R x y → R y z → R x z) (l : List α) (hp : l.Pairwise (fun x y => Ag R lt x y)) : (insAll lt l).Pairwise R ∧ (insAll lt l).Perm l := by
  obtain ⟨S, h1, h2, h3⟩ := insUp_eq htr [] [] l [] List.Pairwise.nil (fun x _ y hy => by cases hy) hp
  simp only [List.length_nil, Nat.add_zero, List.nil_append, List.append_nil] at h1 h2
  unfold insAll
  rw [h1]
  exact ⟨h3, h2⟩
/-- insertion from the left is the merge sort of the library, for a total order -/
theorem ins_sort {le : β → β → Bool} (h1 : ∀ a b c, le a b = true → le b c = true → le a c = true) (h2 : ∀ a b, (le a b || le b a) = true) (l : List β) : insAll (fun x y => !le y x) l = l.mergeSort le := by
  rw [← List.mergeSort_zipIdx]
  have e : l = l.zipIdx.map (·.1) := by simp
  have := insAll_map (fun p : β × Nat => p.1) (fun x y => !le y x) l.zipIdx
  rw [← e] at this
  rw [this]
  congr 1
  let R : β × Nat → β × Nat → Prop := fun a b => le a.1 b.1 = true ∧ (le b.1 a.1 = true → a.2 < b.2)
  have htr : ∀ x y z, R x y → R y z → R x z := fun x y z ⟨a1, a2⟩ ⟨b1, b2⟩ => ⟨h1 _ _ _ a1 b1, fun h => by
    have := a2 (h1 _ _ _ b1 h)
    have := b2 (h1 _ _ _ h a1)
    omega⟩
  have hag : l.zipIdx.Pairwise (fun x y => Ag R (fun x y : β × Nat => !le y.1 x.1) x y) := by
    refine List.pairwise_iff_getElem.2 fun i j hi hj hij => ?_
    simp only [List.getElem_zipIdx]
    have hi' : i < l.length := by simpa using hi
    have hj' : j < l.length := by simpa using hj
    refine ⟨fun h => ?_, fun h => ?_⟩
    · have h' : le l[i] l[j] = false := by simpa using h
      have := h2 l[i] l[j]
      rw [h'] at this
      exact ⟨by simpa using this, fun hh => by rw [h'] at hh; cases hh⟩
    · have h' : le l[i] l[j] = true := by simpa using h
      exact ⟨h', fun _ => by simpa using hij⟩
  obtain ⟨p1, p2⟩ := insAll_eq htr l.zipIdx hag
  refine List.Perm.eq_of_pairwise (le := fun a b => List.zipIdxLE le a b = true) ?_ ?_ ?_ (p2.trans (List.mergeSort_perm _ _).symm)
  · intro a b ha hb hab hba
    have ha' := p2.mem_iff.1 ha
    have hb' := (List.mergeSort_perm _ _).mem_iff.1 hb
    unfold List.zipIdxLE at hab hba
    have e2 : a.2 = b.2 := by
      by_cases c1 : le a.1 b.1 = true <;> by_cases c2 : le b.1 a.1 = true <;> simp [c1, c2] at hab hba
      omega
    rw [List.mem_iff_getElem?] at ha' hb'
    obtain ⟨i, hi⟩ := ha'
    obtain ⟨j, hj⟩ := hb'
    rw [List.getElem?_zipIdx] at hi hj
    cases hl : l[i]? with
    | none => rw [hl] at hi; cases hi
    | some u =>
      cases hl2 : l[j]? with
      | none => rw [hl2] at hj; cases hj
      | some v =>
        rw [hl] at hi; rw [hl2] at hj
        simp at hi hj
        subst hi hj
        simp at e2
        subst e2
        rw [hl] at hl2
        injection hl2 with h
        rw [h]
  · refine p1.imp ?_
    rintro a b ⟨h3, h4⟩
    unfold List.zipIdxLE
    rw [if_pos h3]
    by_cases h5 : le b.1 a.1 = true
    · rw [if_pos h5]; simpa using Nat.le_of_lt (h4 h5)
    · rw [if_neg h5]
  · refine List.pairwise_mergeSort ?_ ?_ _
    · intro a b c hab hbc
      unfold List.zipIdxLE at *
      by_cases c1 : le a.1 b.1 = true <;> simp [c1] at hab
      by_cases c2 : le b.1 c.1 = true <;> simp [c2] at hbc
      rw [if_pos (h1 _ _ _ c1 c2)]
      by_cases c3 : le c.1 a.1 = true
      · rw [if_pos c3]
        have u1 := h1 _ _ _ c2 c3
        have u2 := h1 _ _ _ c3 c1
        rw [u1] at hab
        rw [u2] at hbc
        simp at hab hbc ⊢; omega
      · rw [if_neg c3]
    · intro a b
      unfold List.zipIdxLE
      have := h2 a.1 b.1
      by_cases c1 : le a.1 b.1 = true <;> by_cases c2 : le b.1 a.1 = true <;> simp [c1, c2] at this ⊢
      omega
/-- where the insertion puts x: behind the last of the first k that is not greater -/
def place (lt : α → α → Bool) (l : List α) (x : α) : Nat → Nat
  | 0 => 0
  | k + 1 => match l[k]? with
    | some y => if lt x y then place lt l x k else k + 1
    | none => k + 1
def insAt (lt : α → α → Bool) (l : List α) (x : α) : List α := l.take (place lt l x l.length) ++ x :: l.drop (place lt l x l.length)
theorem place_le (lt : α → α → Bool) (l : List α) (x : α) : ∀ k, place lt l x k ≤ k
  | 0 => Nat.le_refl _
  | k + 1 => by
    have := place_le lt l x k
    unfold place
    split
    · split <;> omega
    · omega
theorem insDown_place (lt : α → α → Bool) (B l : List α) (x : α) : ∀ k, k ≤ l.length → insDown lt 0 k (l.take k ++ x :: (l.drop k ++ B)) = l.take (place lt l x k) ++ x :: (l.drop (place lt l x k) ++ B)
  | 0, _ => rfl
  | k + 1, h => by
    have hy : l[k]? = some l[k] := List.getElem?_eq_getElem (by omega)
    have e1 : l.take (k + 1) = l.take k ++ [l[k]] := List.take_succ_eq_append_getElem (by omega)
    have hl : (l.take k).length = k := by rw [List.length_take]; omega
    have e0 : l.take (k + 1) ++ x :: (l.drop (k + 1) ++ B) = l.take k ++ l[k] :: x :: (l.drop (k + 1) ++ B) := by rw [e1, List.append_assoc]; rfl
    unfold insDown place
    rw [if_pos (Nat.zero_le _), hy, e0]
    have hlt : ltAt lt (l.take k ++ l[k] :: x :: (l.drop (k + 1) ++ B)) (k + 1) k = lt x l[k] :=
      ltAt_at x l[k] lt (by rw [List.getElem?_append_right (by omega), hl]; simp) (by rw [List.getElem?_append_right (by omega), hl]; simp)
    rw [hlt]
    cases hc : lt x l[k] with
    | false =>
      simp only [hc, Bool.false_eq_true, if_false]
      rw [e0]
    | true =>
      simp only [hc, if_true]
      have hs := sw_dn (l.take k) (l.drop (k + 1) ++ B) l[k] x
      rw [hl] at hs
      rw [hs]
      have ih := insDown_place lt B l x k (by omega)
      rw [List.drop_eq_getElem_cons (show k < l.length by omega)] at ih
      exact ih
theorem insUp_fold (lt : α → α → Bool) : ∀ (X S : List α), insUp lt 0 S.length X.length (S ++ X) = X.foldl (insAt lt) S
  | [], S => by simp [insUp]
  | x :: X, S => by
    show insUp lt 0 (S.length + 1) X.length (insDown lt 0 S.length (S ++ x :: X)) = _
    have h := insDown_place lt X S x S.length (Nat.le_refl _)
    rw [List.take_length, List.drop_length, List.nil_append] at h
    rw [h]
    have e : S.take (place lt S x S.length) ++ x :: (S.drop (place lt S x S.length) ++ X) = insAt lt S x ++ X := by unfold insAt; simp
    have hl : (insAt lt S x).length = S.length + 1 := by
      have := place_le lt S x S.length
      unfold insAt
      rw [List.length_append, List.length_cons, List.length_take, List.length_drop]; omega
    rw [e, ← hl, insUp_fold lt X (insAt lt S x)]
    rfl
/-- the fold of insertions is the merge sort -/
theorem fold_sort {le : β → β → Bool} (h1 : ∀ a b c, le a b = true → le b c = true → le a c = true) (h2 : ∀ a b, (le a b || le b a) = true) (l : List β) : l.foldl (insAt (fun x y => !le y x)) [] = l.mergeSort le := by
  rw [← ins_sort h1 h2, ← insUp_fold]
  rfl
end Stb
end Go.Proofs.Ythkebpgkhblcjaa
