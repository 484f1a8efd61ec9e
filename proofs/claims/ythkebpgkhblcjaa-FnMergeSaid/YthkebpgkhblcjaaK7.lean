/-
  Go's stable sort (blocks of twenty by insertion, then merges in place), written as plain functions on lists, is the merge sort of the library, for a total order. Plain theorems; nothing of the program is named.
-/
import Derived.Test.YthkebpgkhblcjaaEng
import Derived.Test.YthkebpgkhblcjaaJ1
import Derived.Test.YthkebpgkhblcjaaJ2
import Derived.Test.YthkebpgkhblcjaaFh
import Derived.Deep.DeepCutAuto
set_option linter.unusedSimpArgs false
set_option linter.unusedVariables false
namespace Go.Proofs.Ythkebpgkhblcjaa
namespace Stb
variable {α β : Type}
/-! models -/
def sw (l : List α) (i j : Nat) : List α := match l[i]?, l[j]? with
  | some x, some y => (l.set i y).set j x
  | _, _ => l
def ltAt (lt : α → α → Bool) (l : List α) (i j : Nat) : Bool := match l[i]?, l[j]? with
  | some x, some y => lt x y
  | _, _ => false
/-- data[j] goes down to its place -/
def insDown (lt : α → α → Bool) (a : Nat) : Nat → List α → List α
  | 0, l => l
  | j + 1, l => if a ≤ j then (if ltAt lt l (j + 1) j then insDown lt a j (sw l (j + 1) j) else l) else l
def insUp (lt : α → α → Bool) (a : Nat) : Nat → Nat → List α → List α
  | _, 0, l => l
  | i, m + 1, l => insUp lt a (i + 1) m (insDown lt a i l)
def bs (P : Nat → Bool) (i j : Nat) : Nat :=
  if h : i < j then (if P ((i + j) / 2) then bs P ((i + j) / 2 + 1) j else bs P i ((i + j) / 2)) else i
termination_by j - i
def rise : Nat → Nat → List α → List α
  | _, 0, l => l
  | k, m + 1, l => rise (k + 1) m (sw l k (k + 1))
def fall : Nat → Nat → List α → List α
  | _, 0, l => l
  | k, m + 1, l => fall (k - 1) m (sw l k (k - 1))
def swR (a b : Nat) : Nat → List α → List α
  | 0, l => l
  | m + 1, l => swR (a + 1) (b + 1) m (sw l a b)
def rot (m i j : Nat) (l : List α) : List α :=
  if i = j ∨ i = 0 ∨ j = 0 then swR (m - i) m i l
  else if j < i then rot m (i - j) j (swR (m - i) m j l)
  else rot m i (j - i) (swR (m - i) (m + j - i) i l)
termination_by i + j
def symm (lt : α → α → Bool) : Nat → Nat → Nat → Nat → List α → List α
  | 0, _, _, _, l => l
  | f + 1, a, m, b, l =>
    if m - a = 1 then rise a (bs (fun h => ltAt lt l h a) m b - 1 - a) l
    else if b - m = 1 then fall m (m - bs (fun h => !ltAt lt l m h) a m) l
    else
      let mid := (a + b) / 2
      let s := bs (fun c => !ltAt lt l (mid + m - 1 - c) c) (if mid < m then mid + m - b else a) (if mid < m then mid else m)
      let e := mid + m - s
      let l1 := if s < m ∧ m < e then rot m (m - s) (e - m) l else l
      let l2 := if a < s ∧ s < mid then symm lt f a s mid l1 else l1
      if mid < e ∧ e < b then symm lt f mid e b l2 else l2
def blk1 (lt : α → α → Bool) (n : Nat) : Nat → Nat → List α → List α
  | 0, _, l => l
  | f + 1, a, l => if a + 20 ≤ n then blk1 lt n f (a + 20) (insUp lt a (a + 1) 19 l) else insUp lt a (a + 1) (n - (a + 1)) l
def pass (lt : α → α → Bool) (n k : Nat) : Nat → Nat → List α → List α
  | 0, _, l => l
  | f + 1, a, l => if a + 2 * k ≤ n then pass lt n k f (a + 2 * k) (symm lt (2 * k) a (a + k) (a + 2 * k) l) else if a + k < n then symm lt (n - a) a (a + k) n l else l
def stab2 (lt : α → α → Bool) (n : Nat) : Nat → Nat → List α → List α
  | 0, _, l => l
  | f + 1, k, l => if k < n then stab2 lt n f (2 * k) (pass lt n k (n + 1) 0 l) else l
def stab (lt : α → α → Bool) (l : List α) : List α := stab2 lt l.length (l.length + 1) 20 (blk1 lt l.length (l.length + 1) 0 l)

/-! ### what they do -/
section
variable (A B M X Y : List α) (x y : α)
theorem sw_at {l : List α} {i j : Nat} (h1 : l[i]? = some x) (h2 : l[j]? = some y) : sw l i j = (l.set i y).set j x := by unfold sw; rw [h1, h2]
theorem sw_dn : sw (A ++ x :: y :: B) (A.length + 1) A.length = A ++ y :: x :: B := by
  unfold sw
  rw [List.getElem?_append_right (by omega), List.getElem?_append_right (by omega)]
  simp
theorem sw_up : sw (A ++ x :: y :: B) A.length (A.length + 1) = A ++ y :: x :: B := by
  unfold sw
  rw [List.getElem?_append_right (by omega), List.getElem?_append_right (by omega)]
  simp
theorem sw_far : sw (A ++ x :: (M ++ y :: B)) A.length (A.length + 1 + M.length) = A ++ y :: (M ++ x :: B) := by
  unfold sw
  rw [List.getElem?_append_right (by omega), List.getElem?_append_right (by omega)]
  rw [show A.length + 1 + M.length - A.length = M.length + 1 by omega]
  simp only [Nat.sub_self, List.getElem?_cons_zero, List.getElem?_cons_succ, List.getElem?_append_right (Nat.le_refl M.length)]
  rw [List.set_append_right _ _ (Nat.le_refl _), List.set_append_right _ _ (by omega), show A.length + 1 + M.length - A.length = M.length + 1 by omega]
  simp
theorem ltAt_at (lt : α → α → Bool) {l : List α} {i j : Nat} (h1 : l[i]? = some x) (h2 : l[j]? = some y) : ltAt lt l i j = lt x y := by unfold ltAt; rw [h1, h2]
theorem at_mid : (A ++ x :: B)[A.length]? = some x := by simp
end
/-- x moves up behind X -/
theorem rise_eq (x : α) : ∀ (X A B : List α), rise A.length X.length (A ++ x :: (X ++ B)) = A ++ (X ++ x :: B)
  | [], A, B => rfl
  | y :: X, A, B => by
    show rise (A.length + 1) X.length (sw (A ++ x :: y :: (X ++ B)) A.length (A.length + 1)) = _
    rw [sw_up]
    have := rise_eq x X (A ++ [y]) B
    simpa using this
theorem fall_eq (x : α) : ∀ (n : Nat) (X A B : List α), X.length = n → fall (A.length + n) n (A ++ (X ++ x :: B)) = A ++ x :: (X ++ B)
  | 0, X, A, B, h => by
    obtain rfl := List.length_eq_zero_iff.1 h
    rfl
  | n + 1, X, A, B, h => by
    obtain ⟨X', y, rfl⟩ : ∃ X' y, X = X' ++ [y] := ⟨X.dropLast, X.getLast (by intro e; subst e; simp at h), (List.dropLast_concat_getLast _).symm⟩
    have hl : X'.length = n := by simpa using h
    show fall (A.length + (n + 1) - 1) n (sw (A ++ (X' ++ [y] ++ x :: B)) (A.length + (n + 1)) (A.length + (n + 1) - 1)) = _
    have e : A ++ (X' ++ [y] ++ x :: B) = (A ++ X') ++ y :: x :: B := by simp
    have e1 : A.length + (n + 1) = (A ++ X').length + 1 := by simp; omega
    rw [e, e1, Nat.add_sub_cancel, sw_dn, show (A ++ X').length = A.length + n by simp [hl]]
    have := fall_eq x n X' A (y :: B) hl
    simpa using this
theorem swR_eq : ∀ (X Y A M B : List α), X.length = Y.length → swR A.length (A.length + X.length + M.length) X.length (A ++ (X ++ (M ++ (Y ++ B)))) = A ++ (Y ++ (M ++ (X ++ B)))
  | [], [], A, M, B, _ => rfl
  | x :: X, y :: Y, A, M, B, h => by
    have hl : X.length = Y.length := by simpa using h
    have e1 : sw (A ++ (x :: X ++ (M ++ (y :: Y ++ B)))) A.length (A.length + (x :: X).length + M.length) = A ++ y :: ((X ++ M) ++ x :: (Y ++ B)) := by
      have := sw_far A (Y ++ B) (X ++ M) x y
      rw [show A.length + 1 + (X ++ M).length = A.length + (x :: X).length + M.length by simp; omega] at this
      simpa using this
    show swR (A.length + 1) (A.length + (x :: X).length + M.length + 1) X.length (sw _ _ _) = _
    rw [e1]
    have := swR_eq X Y (A ++ [y]) (M ++ [x]) B hl
    rw [show (A ++ [y]).length + X.length + (M ++ [x]).length = A.length + (x :: X).length + M.length + 1 by simp; omega] at this
    simpa using this
  | [], _ :: _, _, _, _, h => by simp at h
  | _ :: _, [], _, _, _, h => by simp at h
theorem rot_eq : ∀ (n : Nat) (X Y A B : List α), X.length + Y.length ≤ n → 0 < X.length → 0 < Y.length → rot (A.length + X.length) X.length Y.length (A ++ (X ++ (Y ++ B))) = A ++ (Y ++ (X ++ B))
  | 0, X, Y, A, B, h, h1, _ => by omega
  | n + 1, X, Y, A, B, h, h1, h2 => by
    rw [rot]
    by_cases he : X.length = Y.length
    · rw [if_pos (.inl he)]
      have := swR_eq X Y A [] B he
      simpa using this
    rw [if_neg (by omega)]
    by_cases hlt : Y.length < X.length
    · rw [if_pos hlt]
      -- X = X1 ++ X2 with X1 as long as Y
      obtain ⟨X1, X2, rfl, hX1⟩ : ∃ X1 X2, X = X1 ++ X2 ∧ X1.length = Y.length := ⟨X.take Y.length, X.drop Y.length, (List.take_append_drop ..).symm, by simp; omega⟩
      have e := swR_eq X1 Y A X2 B hX1
      rw [List.length_append] at h hlt ⊢
      have e0 : A ++ (X1 ++ X2 ++ (Y ++ B)) = A ++ (X1 ++ (X2 ++ (Y ++ B))) := by simp
      rw [e0, show A.length + (X1.length + X2.length) - (X1.length + X2.length) = A.length by omega, ← hX1, show A.length + (X1.length + X2.length) = A.length + X1.length + X2.length by omega, e]
      have := rot_eq n X2 X1 (A ++ Y) B (by omega) (by omega) (by omega)
      rw [show (A ++ Y).length + X2.length = A.length + X1.length + X2.length by simp; omega] at this
      rw [show X1.length + X2.length - X1.length = X2.length by omega]
      simpa using this
    · rw [if_neg hlt]
      obtain ⟨Y1, Y2, rfl, hY2⟩ : ∃ Y1 Y2, Y = Y1 ++ Y2 ∧ Y2.length = X.length := ⟨Y.take (Y.length - X.length), Y.drop (Y.length - X.length), (List.take_append_drop ..).symm, by simp; omega⟩
      have e := swR_eq X Y2 A Y1 B hY2.symm
      rw [List.length_append] at h hlt he ⊢
      have e0 : A ++ (X ++ (Y1 ++ Y2 ++ B)) = A ++ (X ++ (Y1 ++ (Y2 ++ B))) := by simp
      rw [e0, show A.length + X.length - X.length = A.length by omega, show A.length + X.length + (Y1.length + Y2.length) - X.length = A.length + X.length + Y1.length by omega, e]
      have := rot_eq n Y2 Y1 A (X ++ B) (by omega) (by omega) (by omega)
      rw [hY2] at this
      rw [show Y1.length + Y2.length - X.length = Y1.length by omega]
      simpa using this
theorem bs_spec (P : Nat → Bool) : ∀ (n i j : Nat), j - i ≤ n → i ≤ j → i ≤ bs P i j ∧ bs P i j ≤ j ∧ (bs P i j = i ∨ P (bs P i j - 1) = true) ∧ (bs P i j = j ∨ P (bs P i j) = false) := by
  intro n
  induction n with
  | zero =>
    intro i j h1 h2
    rw [bs, dif_neg (by omega)]
    exact ⟨by omega, by omega, .inl rfl, .inl (by omega)⟩
  | succ n ih =>
    intro i j h1 h2
    rw [bs]
    by_cases hlt : i < j
    · rw [dif_pos hlt]
      cases hP : P ((i + j) / 2) with
      | true =>
        rw [if_pos rfl]
        have := ih ((i + j) / 2 + 1) j (by omega) (by omega)
        refine ⟨by omega, this.2.1, ?_, this.2.2.2⟩
        rcases this.2.2.1 with h | h
        · refine .inr ?_
          rw [h]
          simpa using hP
        · exact .inr h
      | false =>
        rw [if_neg (by simp)]
        have := ih i ((i + j) / 2) (by omega) (by omega)
        refine ⟨this.1, by omega, this.2.2.1, ?_⟩
        rcases this.2.2.2 with h | h
        · exact .inr (by rw [h]; exact hP)
        · exact .inr h
    · rw [dif_neg hlt]
      exact ⟨by omega, by omega, .inl rfl, .inl (by omega)⟩

/-! ### order -/
section
variable {R : α → α → Prop} {lt : α → α → Bool}
/-- the test says of y behind x which of the two comes first -/
def Ag (R : α → α → Prop) (lt : α → α → Bool) (x y : α) : Prop := (lt y x = true → R y x) ∧ (lt y x = false → R x y)
theorem insDown_eq (htr : ∀ x y z, R x y → R y z → R x z) (x : α) (A B : List α) : ∀ (n : Nat) (S : List α), S.length = n → S.Pairwise R → (∀ y ∈ S, Ag R lt y x) →
    ∃ S', insDown lt A.length (A.length + n) (A ++ (S ++ x :: B)) = A ++ (S' ++ B) ∧ S'.Perm (x :: S) ∧ S'.Pairwise R := by
  intro n
  induction n generalizing B with
  | zero =>
    intro S hS _ _
    obtain rfl := List.length_eq_zero_iff.1 hS
    refine ⟨[x], ?_, List.Perm.refl _, List.pairwise_singleton _ _⟩
    cases hA : A.length with
    | zero => rfl
    | succ k =>
      show (if k + 1 ≤ k then _ else _) = _
      rw [if_neg (by omega)]
      rfl
  | succ n ih =>
    intro S hS hp ha
    obtain ⟨S0, y, rfl⟩ : ∃ X' y, S = X' ++ [y] := ⟨S.dropLast, S.getLast (by intro e; subst e; simp at hS), (List.dropLast_concat_getLast _).symm⟩
    have hl : S0.length = n := by simpa using hS
    have hp1 := List.pairwise_append.1 hp
    show ∃ S', (if A.length ≤ A.length + n then (if ltAt lt (A ++ (S0 ++ [y] ++ x :: B)) (A.length + n + 1) (A.length + n) then insDown lt A.length (A.length + n) (sw (A ++ (S0 ++ [y] ++ x :: B)) (A.length + n + 1) (A.length + n)) else (A ++ (S0 ++ [y] ++ x :: B))) else (A ++ (S0 ++ [y] ++ x :: B))) = _ ∧ _
    rw [if_pos (by omega)]
    have e : A ++ (S0 ++ [y] ++ x :: B) = (A ++ S0) ++ y :: x :: B := by simp
    have e1 : A.length + n = (A ++ S0).length := by simp [hl]
    have hlt : ltAt lt (A ++ (S0 ++ [y] ++ x :: B)) (A.length + n + 1) (A.length + n) = lt x y := by
      rw [e, e1]
      exact ltAt_at _ _ lt (by rw [List.getElem?_append_right (by omega)]; simp) (at_mid _ _ _)
    rw [hlt]
    obtain ⟨a1, a2⟩ := ha y (by simp)
    cases hxy : lt x y with
    | true =>
      rw [if_pos rfl, e, e1, sw_dn, ← e1]
      obtain ⟨S', h1, h2, h3⟩ := ih (y :: B) S0 hl hp1.1 (fun z hz => ha z (by simp [hz]))
      refine ⟨S' ++ [y], ?_, ?_, ?_⟩
      · rw [show (A ++ S0) ++ x :: y :: B = A ++ (S0 ++ x :: y :: B) by simp, h1]; simp
      · exact (h2.append_right [y]).trans (by simp)
      · refine List.pairwise_append.2 ⟨h3, List.pairwise_singleton _ _, ?_⟩
        intro u hu v hv
        obtain rfl := List.mem_singleton.1 hv
        rcases List.mem_cons.1 (h2.mem_iff.1 hu) with rfl | hu
        · exact a1 hxy
        · exact hp1.2.2 u hu _ (by simp)
    | false =>
      rw [if_neg (by simp)]
      refine ⟨S0 ++ [y] ++ [x], by simp, ?_, ?_⟩
      · exact List.perm_append_comm
      · refine List.pairwise_append.2 ⟨hp, List.pairwise_singleton _ _, ?_⟩
        intro u hu v hv
        obtain rfl := List.mem_singleton.1 hv
        rcases List.mem_append.1 hu with hu | hu
        · exact htr _ _ _ (hp1.2.2 u hu y (by simp)) (a2 hxy)
        · obtain rfl := List.mem_singleton.1 hu
          exact a2 hxy
theorem insUp_eq (htr : ∀ x y z, R x y → R y z → R x z) (A B : List α) : ∀ (X S : List α), S.Pairwise R → (∀ x ∈ X, ∀ y ∈ S, Ag R lt y x) → X.Pairwise (fun y x => Ag R lt y x) →
    ∃ S', insUp lt A.length (A.length + S.length) X.length (A ++ (S ++ (X ++ B))) = A ++ (S' ++ B) ∧ S'.Perm (S ++ X) ∧ S'.Pairwise R
  | [], S, hp, _, _ => ⟨S, by simp [insUp], by simp, hp⟩
  | x :: X, S, hp, ha, hx => by
    obtain ⟨S1, h1, h2, h3⟩ := insDown_eq htr x A (X ++ B) S.length S rfl hp (fun y hy => ha x (List.mem_cons_self ..) y hy)
    have hc := List.pairwise_cons.1 hx
    obtain ⟨S2, h4, h5, h6⟩ := insUp_eq htr A B X S1 h3 (fun z hz y hy => by
      rcases List.mem_cons.1 (h2.mem_iff.1 hy) with rfl | hy
      · exact hc.1 z hz
      · exact ha z (List.mem_cons_of_mem _ hz) y hy) hc.2
    refine ⟨S2, ?_, ?_, h6⟩
    · show insUp lt A.length (A.length + S.length + 1) X.length (insDown lt A.length (A.length + S.length) _) = _
      rw [show A ++ (S ++ (x :: X ++ B)) = A ++ (S ++ x :: (X ++ B)) by simp, h1]
      have e : S1.length = S.length + 1 := by simpa using h2.length_eq
      rw [e] at h4
      rw [show A.length + S.length + 1 = A.length + (S.length + 1) by omega]
      exact h4
    · refine h5.trans ?_
      refine (h2.append_right X).trans ?_
      rw [List.cons_append]
      exact List.perm_middle.symm

theorem getP {L : List α} (h : L.Pairwise R) {i j : Nat} {x y : α} (hi : L[i]? = some x) (hj : L[j]? = some y) (hij : i < j) : R x y := by
  obtain ⟨h1, rfl⟩ := List.getElem?_eq_some_iff.1 hi
  obtain ⟨h2, rfl⟩ := List.getElem?_eq_some_iff.1 hj
  exact List.pairwise_iff_getElem.1 h i j h1 h2 hij
theorem mem_at {L : List α} {x : α} (h : x ∈ L) : ∃ i, i < L.length ∧ L[i]? = some x := by
  obtain ⟨i, hi, rfl⟩ := List.getElem_of_mem h
  exact ⟨i, hi, List.getElem?_eq_getElem hi⟩
/-- two sorted parts made one -/
theorem symm_eq (htr : ∀ x y z, R x y → R y z → R x z) : ∀ (f : Nat) (L Rt A B : List α), L.length + Rt.length ≤ f → 0 < L.length → 0 < Rt.length → L.Pairwise R → Rt.Pairwise R → (∀ x ∈ L, ∀ y ∈ Rt, Ag R lt x y) →
    ∃ S, symm lt f A.length (A.length + L.length) (A.length + L.length + Rt.length) (A ++ (L ++ (Rt ++ B))) = A ++ (S ++ B) ∧ S.Perm (L ++ Rt) ∧ S.Pairwise R := by
  intro f
  induction f with
  | zero => intro L Rt A B h; omega
  | succ f ih =>
    intro L Rt A B hf hL hR hpL hpR hag
    have atL : ∀ i x, L[i]? = some x → (A ++ (L ++ (Rt ++ B)))[A.length + i]? = some x := fun i x h => by
      rw [List.getElem?_append_right (by omega), Nat.add_sub_cancel_left, List.getElem?_append_left (List.getElem?_eq_some_iff.1 h).1]; exact h
    have atR : ∀ i y, Rt[i]? = some y → (A ++ (L ++ (Rt ++ B)))[A.length + L.length + i]? = some y := fun i y h => by
      rw [List.getElem?_append_right (by omega), List.getElem?_append_right (by omega), show A.length + L.length + i - A.length - L.length = i by omega, List.getElem?_append_left (List.getElem?_eq_some_iff.1 h).1]; exact h
    have isL : ∀ i, i < L.length → ∃ x, L[i]? = some x ∧ x ∈ L := fun i h => ⟨L[i], List.getElem?_eq_getElem h, List.getElem_mem h⟩
    have isR : ∀ i, i < Rt.length → ∃ x, Rt[i]? = some x ∧ x ∈ Rt := fun i h => ⟨Rt[i], List.getElem?_eq_getElem h, List.getElem_mem h⟩
    unfold symm
    by_cases h1 : L.length = 1
    · rw [if_pos (by omega)]
      obtain ⟨x, rfl⟩ := List.length_eq_one_iff.1 h1
      obtain ⟨b1, b2, b3, b4⟩ := bs_spec (fun h => ltAt lt (A ++ ([x] ++ (Rt ++ B))) h A.length) Rt.length (A.length + 1) (A.length + 1 + Rt.length) (by omega) (by omega)
      rw [List.length_singleton] at *
      generalize bs (fun h => ltAt lt (A ++ ([x] ++ (Rt ++ B))) h A.length) (A.length + 1) (A.length + 1 + Rt.length) = i at *
      have hx : (A ++ ([x] ++ (Rt ++ B)))[A.length]? = some x := by simp
      obtain ⟨q, rfl⟩ : ∃ q, i = A.length + 1 + q := ⟨i - (A.length + 1), by omega⟩
      have hq : q ≤ Rt.length := by omega
      have e : A.length + 1 + q - 1 - A.length = (Rt.take q).length := by rw [List.length_take]; omega
      rw [e]
      refine ⟨Rt.take q ++ x :: Rt.drop q, ?_, ?_, ?_⟩
      · have := rise_eq x (Rt.take q) A (Rt.drop q ++ B)
        rw [show A ++ x :: (Rt.take q ++ (Rt.drop q ++ B)) = A ++ ([x] ++ (Rt ++ B)) by rw [← List.append_assoc (Rt.take q), List.take_append_drop]; rfl] at this
        rw [this]; simp
      · refine List.perm_middle.trans ?_
        rw [List.take_append_drop]; rfl
      · refine List.pairwise_append.2 ⟨hpR.sublist (List.take_sublist ..), List.pairwise_cons.2 ⟨?_, hpR.sublist (List.drop_sublist ..)⟩, ?_⟩
        · intro y hy
          obtain ⟨k, hk, hky⟩ := mem_at hy
          rw [List.length_drop] at hk
          rw [List.getElem?_drop] at hky
          rcases b4 with b4 | b4
          · omega
          · obtain ⟨z, hz, hzm⟩ := isR q (by omega)
            have hltz : lt z x = false := by
              have := ltAt_at _ _ lt (atR q z hz) hx
              rw [← this]; exact b4
            have hxz := (hag x (by simp) z hzm).2 hltz
            rcases Nat.eq_zero_or_pos k with rfl | hk0
            · rw [Nat.add_zero] at hky
              rw [hky] at hz
              obtain rfl := Option.some.inj hz
              exact hxz
            · exact htr _ _ _ hxz (getP hpR hz hky (by omega))
        · intro y hy z hz
          have hyx : R y x := by
            obtain ⟨k, hk, hky⟩ := mem_at hy
            rw [List.length_take] at hk
            rw [List.getElem?_take, if_pos (by omega)] at hky
            rcases b3 with b3 | b3
            · omega
            · obtain ⟨u, hu, hum⟩ := isR (q - 1) (by omega)
              have hlt : lt u x = true := by
                have := ltAt_at _ _ lt (atR (q - 1) u hu) hx
                rw [← this, show A.length + 1 + (q - 1) = A.length + 1 + q - 1 by omega]; exact b3
              have hux := (hag x (by simp) u hum).1 hlt
              rcases Nat.lt_or_ge k (q - 1) with h | h
              · exact htr _ _ _ (getP hpR hky hu h) hux
              · obtain rfl : k = q - 1 := by omega
                rw [hky] at hu
                obtain rfl := Option.some.inj hu
                exact hux
          rcases List.mem_cons.1 hz with rfl | hz
          · exact hyx
          · have := hpR
            rw [← List.take_append_drop q Rt] at this
            exact (List.pairwise_append.1 this).2.2 y hy z hz
    rw [if_neg (by omega)]
    by_cases h2 : Rt.length = 1
    · rw [if_pos (by omega)]
      obtain ⟨y, rfl⟩ := List.length_eq_one_iff.1 h2
      obtain ⟨b1, b2, b3, b4⟩ := bs_spec (fun h => !ltAt lt (A ++ (L ++ ([y] ++ B))) (A.length + L.length) h) L.length A.length (A.length + L.length) (by omega) (by omega)
      generalize bs (fun h => !ltAt lt (A ++ (L ++ ([y] ++ B))) (A.length + L.length) h) A.length (A.length + L.length) = i at *
      have hy : (A ++ (L ++ ([y] ++ B)))[A.length + L.length]? = some y := atR 0 y rfl
      obtain ⟨q, rfl⟩ : ∃ q, i = A.length + q := ⟨i - A.length, by omega⟩
      have hq : q ≤ L.length := by omega
      have hd : (L.drop q).length = L.length - q := List.length_drop
      rw [show A.length + L.length - (A.length + q) = L.length - q by omega]
      refine ⟨L.take q ++ y :: L.drop q, ?_, ?_, ?_⟩
      · have := fall_eq y (L.length - q) (L.drop q) (A ++ L.take q) B hd
        rw [show (A ++ L.take q).length + (L.length - q) = A.length + L.length by simp; omega, show A ++ L.take q ++ (L.drop q ++ y :: B) = A ++ (L ++ ([y] ++ B)) by rw [List.append_assoc, ← List.append_assoc (L.take q), List.take_append_drop]; rfl] at this
        rw [this]; simp
      · refine List.perm_middle.trans ?_
        rw [List.take_append_drop]
        exact (List.perm_append_comm (l₁ := [y]) (l₂ := L))
      · refine List.pairwise_append.2 ⟨hpL.sublist (List.take_sublist ..), List.pairwise_cons.2 ⟨?_, hpL.sublist (List.drop_sublist ..)⟩, ?_⟩
        · intro x hx
          obtain ⟨k, hk, hkx⟩ := mem_at hx
          rw [List.length_drop] at hk
          rw [List.getElem?_drop] at hkx
          rcases b4 with b4 | b4
          · omega
          · obtain ⟨z, hz, hzm⟩ := isL q (by omega)
            have hlt : lt y z = true := by
              have := ltAt_at _ _ lt hy (atL q z hz)
              rw [← this]
              simpa using b4
            have hyz := (hag z hzm y (by simp)).1 hlt
            rcases Nat.eq_zero_or_pos k with rfl | hk0
            · rw [Nat.add_zero] at hkx
              rw [hkx] at hz
              obtain rfl := Option.some.inj hz
              exact hyz
            · exact htr _ _ _ hyz (getP hpL hz hkx (by omega))
        · intro x hx z hz
          have hxy : R x y := by
            obtain ⟨k, hk, hkx⟩ := mem_at hx
            rw [List.length_take] at hk
            rw [List.getElem?_take, if_pos (by omega)] at hkx
            rcases b3 with b3 | b3
            · omega
            · obtain ⟨u, hu, hum⟩ := isL (q - 1) (by omega)
              have hlt : lt y u = false := by
                have := ltAt_at _ _ lt hy (atL (q - 1) u hu)
                rw [← this, show A.length + (q - 1) = A.length + q - 1 by omega]
                simpa using b3
              have huy := (hag u hum y (by simp)).2 hlt
              rcases Nat.lt_or_ge k (q - 1) with h | h
              · exact htr _ _ _ (getP hpL hkx hu h) huy
              · obtain rfl : k = q - 1 := by omega
                rw [hkx] at hu
                obtain rfl := Option.some.inj hu
                exact huy
          rcases List.mem_cons.1 hz with rfl | hz
          · exact hxy
          · have := hpL
            rw [← List.take_append_drop q L] at this
            exact (List.pairwise_append.1 this).2.2 x hx z hz
    rw [if_neg (by omega)]
    obtain ⟨mid, hmid⟩ : ∃ mid, mid = (A.length + (A.length + L.length + Rt.length)) / 2 := ⟨_, rfl⟩
    rw [← hmid]
    obtain ⟨i0, hi0⟩ : ∃ i0, i0 = (if mid < A.length + L.length then mid + (A.length + L.length) - (A.length + L.length + Rt.length) else A.length) := ⟨_, rfl⟩
    obtain ⟨j0, hj0⟩ : ∃ j0, j0 = (if mid < A.length + L.length then mid else A.length + L.length) := ⟨_, rfl⟩
    simp only
    rw [← hi0, ← hj0]
    have hij : i0 ≤ j0 := by rw [hi0, hj0]; split <;> omega
    obtain ⟨b1, b2, b3, b4⟩ := bs_spec (fun c => !ltAt lt (A ++ (L ++ (Rt ++ B))) (mid + (A.length + L.length) - 1 - c) c) (j0 - i0) i0 j0 (by omega) hij
    generalize bs (fun c => !ltAt lt (A ++ (L ++ (Rt ++ B))) (mid + (A.length + L.length) - 1 - c) c) i0 j0 = s at *
    have hb : A.length ≤ s ∧ s ≤ A.length + L.length ∧ s ≤ mid ∧ mid - s ≤ Rt.length := by
      rw [hi0] at b1
      rw [hj0] at b2
      by_cases h : mid < A.length + L.length
      · rw [if_pos h] at b1 b2; omega
      · rw [if_neg h] at b1 b2; omega
    obtain ⟨s1, s2, s3, s4⟩ := hb
    obtain ⟨c, rfl⟩ : ∃ c, s = A.length + c := ⟨s - A.length, by omega⟩
    obtain ⟨d, hd⟩ : ∃ d, mid = A.length + c + d := ⟨mid - (A.length + c), by omega⟩
    have low1 : ∀ x ∈ L.take c, ∀ y ∈ Rt.drop d, R x y := by
      intro x hx y hy
      obtain ⟨k, hk, hkx⟩ := mem_at hx
      rw [List.length_take] at hk
      rw [List.getElem?_take, if_pos (by omega)] at hkx
      obtain ⟨k', hk', hky⟩ := mem_at hy
      rw [List.length_drop] at hk'
      rw [List.getElem?_drop] at hky
      have hc : ltAt lt (A ++ (L ++ (Rt ++ B))) (A.length + L.length + d) (A.length + (c - 1)) = false := by
        rcases b3 with b3 | b3
        · exfalso
          rw [hi0] at b3
          by_cases h : mid < A.length + L.length
          · rw [if_pos h] at b3; omega
          · rw [if_neg h] at b3; omega
        · rw [show mid + (A.length + L.length) - 1 - (A.length + c - 1) = A.length + L.length + d by omega, show A.length + c - 1 = A.length + (c - 1) by omega] at b3
          simpa using b3
      obtain ⟨u, hu, hum⟩ := isL (c - 1) (by omega)
      obtain ⟨v, hv, hvm⟩ := isR d (by omega)
      rw [ltAt_at _ _ lt (atR d v hv) (atL (c - 1) u hu)] at hc
      have huv := (hag u hum v hvm).2 hc
      have hxu : R x v := by
        rcases Nat.lt_or_ge k (c - 1) with h | h
        · exact htr _ _ _ (getP hpL hkx hu h) huv
        · obtain rfl : k = c - 1 := by omega
          rw [hkx] at hu
          obtain rfl := Option.some.inj hu
          exact huv
      rcases Nat.eq_zero_or_pos k' with rfl | h0
      · rw [Nat.add_zero, hv] at hky
        obtain rfl := Option.some.inj hky
        exact hxu
      · exact htr _ _ _ hxu (getP hpR hv hky (by omega))
    have low2 : ∀ y ∈ Rt.take d, ∀ x ∈ L.drop c, R y x := by
      intro y hy x hx
      obtain ⟨k, hk, hky⟩ := mem_at hy
      rw [List.length_take] at hk
      rw [List.getElem?_take, if_pos (by omega)] at hky
      obtain ⟨k', hk', hkx⟩ := mem_at hx
      rw [List.length_drop] at hk'
      rw [List.getElem?_drop] at hkx
      have hc : ltAt lt (A ++ (L ++ (Rt ++ B))) (A.length + L.length + (d - 1)) (A.length + c) = true := by
        rcases b4 with b4 | b4
        · exfalso
          rw [hj0] at b4
          by_cases h : mid < A.length + L.length
          · rw [if_pos h] at b4; omega
          · rw [if_neg h] at b4; omega
        · rw [show mid + (A.length + L.length) - 1 - (A.length + c) = A.length + L.length + (d - 1) by omega] at b4
          simpa using b4
      obtain ⟨u, hu, hum⟩ := isL c (by omega)
      obtain ⟨v, hv, hvm⟩ := isR (d - 1) (by omega)
      rw [ltAt_at _ _ lt (atR (d - 1) v hv) (atL c u hu)] at hc
      have hvu := (hag u hum v hvm).1 hc
      have hyu : R y u := by
        rcases Nat.lt_or_ge k (d - 1) with h | h
        · exact htr _ _ _ (getP hpR hky hv h) hvu
        · obtain rfl : k = d - 1 := by omega
          rw [hky] at hv
          obtain rfl := Option.some.inj hv
          exact hvu
      rcases Nat.eq_zero_or_pos k' with rfl | h0
      · rw [Nat.add_zero, hu] at hkx
        obtain rfl := Option.some.inj hkx
        exact hyu
      · exact htr _ _ _ hyu (getP hpL hu hkx (by omega))
    clear b1 b2 b3 b4 hi0 hj0 hij atL atR isL isR i0 j0
    have hagL : ∀ x ∈ L.take c, ∀ y ∈ Rt.take d, Ag R lt x y := fun x hx y hy => hag x (List.mem_of_mem_take hx) y (List.mem_of_mem_take hy)
    have hagR : ∀ x ∈ L.drop c, ∀ y ∈ Rt.drop d, Ag R lt x y := fun x hx y hy => hag x (List.mem_of_mem_drop hx) y (List.mem_of_mem_drop hy)
    have eL := List.take_append_drop c L
    have eR := List.take_append_drop d Rt
    have l1 : (L.take c).length = c := by rw [List.length_take]; omega
    have l2 : (L.drop c).length = L.length - c := List.length_drop
    have l3 : (Rt.take d).length = d := by rw [List.length_take]; omega
    have l4 : (Rt.drop d).length = Rt.length - d := List.length_drop
    have pL : (L.take c ++ L.drop c).Pairwise R := by rw [eL]; exact hpL
    have pR : (Rt.take d ++ Rt.drop d).Pairwise R := by rw [eR]; exact hpR
    have e0 : A ++ (L ++ (Rt ++ B)) = A ++ ((L.take c ++ L.drop c) ++ ((Rt.take d ++ Rt.drop d) ++ B)) := by rw [eL, eR]
    have e9 : (L ++ Rt) = (L.take c ++ L.drop c) ++ (Rt.take d ++ Rt.drop d) := by rw [eL, eR]
    rw [e0, e9]
    have hLl : L.length = c + (L.drop c).length := by omega
    have hRl : Rt.length = d + (Rt.drop d).length := by omega
    clear e0 e9 eL eR
    obtain ⟨p1, p2, p3⟩ := List.pairwise_append.1 pL
    obtain ⟨q1, q2, q3⟩ := List.pairwise_append.1 pR
    clear pL pR
    generalize hL1 : L.take c = L1 at *
    generalize hL2 : L.drop c = L2 at *
    generalize hR1 : Rt.take d = R1 at *
    generalize hR2 : Rt.drop d = R2 at *
    subst l1 l3
    have hro : (if A.length + L1.length < A.length + L.length ∧ A.length + L.length < mid + (A.length + L.length) - (A.length + L1.length) then rot (A.length + L.length) (A.length + L.length - (A.length + L1.length)) (mid + (A.length + L.length) - (A.length + L1.length) - (A.length + L.length)) (A ++ ((L1 ++ L2) ++ ((R1 ++ R2) ++ B))) else A ++ ((L1 ++ L2) ++ ((R1 ++ R2) ++ B))) = A ++ (L1 ++ (R1 ++ (L2 ++ (R2 ++ B)))) := by
      by_cases h : A.length + L1.length < A.length + L.length ∧ A.length + L.length < mid + (A.length + L.length) - (A.length + L1.length)
      · rw [if_pos h]
        have := rot_eq (L2.length + R1.length) L2 R1 (A ++ L1) (R2 ++ B) (by omega) (by omega) (by omega)
        rw [show (A ++ L1).length + L2.length = A.length + L.length by simp; omega] at this
        rw [show A.length + L.length - (A.length + L1.length) = L2.length by omega, show mid + (A.length + L.length) - (A.length + L1.length) - (A.length + L.length) = R1.length by omega]
        simpa using this
      · rw [if_neg h]
        by_cases h3 : L2.length = 0
        · obtain rfl := List.length_eq_zero_iff.1 h3
          simp
        · obtain rfl := List.length_eq_zero_iff.1 (show R1.length = 0 by omega)
          simp
    rw [hro]
    have hlo : ∃ S1, (if A.length < A.length + L1.length ∧ A.length + L1.length < mid then symm lt f A.length (A.length + L1.length) mid (A ++ (L1 ++ (R1 ++ (L2 ++ (R2 ++ B))))) else A ++ (L1 ++ (R1 ++ (L2 ++ (R2 ++ B))))) = A ++ (S1 ++ (L2 ++ (R2 ++ B))) ∧ S1.Perm (L1 ++ R1) ∧ S1.Pairwise R := by
      by_cases h : A.length < A.length + L1.length ∧ A.length + L1.length < mid
      · rw [if_pos h, hd]
        exact ih L1 R1 A (L2 ++ (R2 ++ B)) (by omega) (by omega) (by omega) p1 q1 hagL
      · rw [if_neg h]
        refine ⟨L1 ++ R1, by simp, List.Perm.refl _, ?_⟩
        by_cases h3 : L1.length = 0
        · obtain rfl := List.length_eq_zero_iff.1 h3
          simpa using q1
        · obtain rfl := List.length_eq_zero_iff.1 (show R1.length = 0 by omega)
          simpa using p1
    obtain ⟨S1, f1, f2, f3⟩ := hlo
    rw [f1]
    have hS1 : S1.length = L1.length + R1.length := by rw [f2.length_eq, List.length_append]
    have hhi : ∃ S2, (if mid < mid + (A.length + L.length) - (A.length + L1.length) ∧ mid + (A.length + L.length) - (A.length + L1.length) < A.length + L.length + Rt.length then symm lt f mid (mid + (A.length + L.length) - (A.length + L1.length)) (A.length + L.length + Rt.length) (A ++ (S1 ++ (L2 ++ (R2 ++ B)))) else A ++ (S1 ++ (L2 ++ (R2 ++ B)))) = A ++ (S1 ++ (S2 ++ B)) ∧ S2.Perm (L2 ++ R2) ∧ S2.Pairwise R := by
      by_cases h : mid < mid + (A.length + L.length) - (A.length + L1.length) ∧ mid + (A.length + L.length) - (A.length + L1.length) < A.length + L.length + Rt.length
      · rw [if_pos h]
        obtain ⟨S2, g1, g2, g3⟩ := ih L2 R2 (A ++ S1) B (by omega) (by omega) (by omega) p2 q2 hagR
        refine ⟨S2, ?_, g2, g3⟩
        have e1 : (A ++ S1).length = mid := by rw [List.length_append]; omega
        have e2 : mid + L2.length = mid + (A.length + L.length) - (A.length + L1.length) := by omega
        have e3 : mid + L2.length + R2.length = A.length + L.length + Rt.length := by omega
        rw [e1, e3, e2] at g1
        simpa using g1
      · rw [if_neg h]
        refine ⟨L2 ++ R2, by simp, List.Perm.refl _, ?_⟩
        by_cases h3 : L2.length = 0
        · obtain rfl := List.length_eq_zero_iff.1 h3
          simpa using q2
        · obtain rfl := List.length_eq_zero_iff.1 (show R2.length = 0 by omega)
          simpa using p2
    obtain ⟨S2, g1, g2, g3⟩ := hhi
    refine ⟨S1 ++ S2, by rw [g1]; simp, ?_, List.pairwise_append.2 ⟨f3, g3, ?_⟩⟩
    · refine (f2.append g2).trans ?_
      rw [List.append_assoc, List.append_assoc]
      refine List.Perm.append_left _ ?_
      rw [← List.append_assoc, ← List.append_assoc]
      exact List.perm_append_comm.append_right _
    · intro x hx y hy
      rcases List.mem_append.1 (f2.mem_iff.1 hx) with hx | hx <;> rcases List.mem_append.1 (g2.mem_iff.1 hy) with hy | hy
      · exact p3 x hx y hy
      · exact low1 x hx y hy
      · exact low2 x hx y hy
      · exact q3 x hx y hy

/-- sorted parts of k elements each, the last one not longer; l0: what lay there at first -/
inductive Chunks (R : α → α → Prop) (k : Nat) : List α → List α → Prop
  | last {l l0 : List α} : l.length ≤ k → l.Pairwise R → l.Perm l0 → Chunks R k l l0
  | cons {C C0 l l0 : List α} : C.length = k → C.Pairwise R → C.Perm C0 → Chunks R k l l0 → Chunks R k (C ++ l) (C0 ++ l0)
theorem Chunks.perm {k : Nat} {l l0 : List α} (h : Chunks R k l l0) : l.Perm l0 := by
  induction h with
  | last _ _ h => exact h
  | cons _ _ h _ ih => exact h.append ih
theorem blk1_eq (htr : ∀ x y z, R x y → R y z → R x z) : ∀ (f : Nat) (l A : List α), l.length < f → l.Pairwise (fun x y => Ag R lt x y) →
    ∃ l', blk1 lt (A.length + l.length) f A.length (A ++ l) = A ++ l' ∧ Chunks R 20 l' l := by
  intro f
  induction f with
  | zero => intro l A h; omega
  | succ f ih =>
    intro l A hf hp
    unfold blk1
    by_cases h : A.length + 20 ≤ A.length + l.length
    · rw [if_pos h]
      obtain ⟨C, l1, rfl, hC⟩ : ∃ C l1, l = C ++ l1 ∧ C.length = 20 := ⟨l.take 20, l.drop 20, (List.take_append_drop ..).symm, by rw [List.length_take]; omega⟩
      obtain ⟨x, X, rfl⟩ : ∃ x X, C = x :: X := by cases C with | nil => simp at hC | cons x X => exact ⟨x, X, rfl⟩
      obtain ⟨p1, p2, p3⟩ := List.pairwise_append.1 hp
      have p1' := List.pairwise_cons.1 p1
      obtain ⟨S, h1, h2, h3⟩ := insUp_eq htr A l1 X [x] (List.pairwise_singleton _ _) (fun z hz y hy => by obtain rfl := List.mem_singleton.1 hy; exact p1'.1 z hz) p1'.2
      have hX : X.length = 19 := by simpa using hC
      rw [hX, List.length_singleton] at h1
      rw [show A ++ (x :: X ++ l1) = A ++ ([x] ++ (X ++ l1)) by simp, h1]
      have hS : S.length = 20 := by rw [h2.length_eq]; simp [hX]
      obtain ⟨l', g1, g2⟩ := ih l1 (A ++ S) (by rw [List.length_append] at hf; omega) p2
      refine ⟨S ++ l', ?_, .cons hS h3 h2 g2⟩
      rw [show (A ++ S).length + l1.length = A.length + (x :: X ++ l1).length by simp [hS, hX]; omega, show (A ++ S).length = A.length + 20 by simp [hS]] at g1
      rw [← List.append_assoc, g1]; simp
    · rw [if_neg h]
      cases l with
      | nil => exact ⟨[], by simp [insUp], .last (by simp) List.Pairwise.nil (List.Perm.refl _)⟩
      | cons x X =>
        have p1' := List.pairwise_cons.1 hp
        obtain ⟨S, h1, h2, h3⟩ := insUp_eq htr A [] X [x] (List.pairwise_singleton _ _) (fun z hz y hy => by obtain rfl := List.mem_singleton.1 hy; exact p1'.1 z hz) p1'.2
        refine ⟨S, ?_, .last ?_ h3 h2⟩
        · rw [show A.length + (x :: X).length - (A.length + 1) = X.length by simp only [List.length_cons]; omega]
          simpa using h1
        · rw [h2.length_eq]; simp at h ⊢; omega
theorem pass_eq (htr : ∀ x y z, R x y → R y z → R x z) {k : Nat} (hk : 0 < k) : ∀ (f : Nat) (l l0 A : List α), l.length < f → l0.Pairwise (fun x y => Ag R lt x y) → Chunks R k l l0 →
    ∃ l', pass lt (A.length + l.length) k f A.length (A ++ l) = A ++ l' ∧ Chunks R (2 * k) l' l0 := by
  intro f
  induction f with
  | zero => intro l l0 A h; omega
  | succ f ih =>
    intro l l0 A hf hp hc
    unfold pass
    cases hc with
    | last h1 h2 h3 =>
      rw [if_neg (by omega), if_neg (by omega)]
      exact ⟨l, rfl, .last (by omega) h2 h3⟩
    | @cons C C0 l1 l2 h1 h2 h3 h4 =>
      obtain ⟨q1, q2, q3⟩ := List.pairwise_append.1 hp
      cases h4 with
      | last g1 g2 g3 =>
        by_cases hz : l1.length = 0
        · obtain rfl := List.length_eq_zero_iff.1 hz
          obtain rfl : l2 = [] := by simpa using g3.symm.eq_nil
          have hn : ¬ A.length + 2 * k ≤ A.length + (C ++ []).length := by rw [List.length_append, h1, List.length_nil]; omega
          rw [if_neg hn, if_neg (by rw [List.length_append, h1, List.length_nil]; omega)]
          exact ⟨C ++ [], by simp, .last (by rw [List.length_append, h1, List.length_nil]; omega) (by simpa using h2) (by simpa using h3)⟩
        have hag : ∀ x ∈ C, ∀ y ∈ l1, Ag R lt x y := fun x hx y hy => q3 x (h3.mem_iff.1 hx) y (g3.mem_iff.1 hy)
        by_cases hfull : l1.length = k
        · rw [if_pos (by rw [List.length_append, h1, hfull]; omega)]
          obtain ⟨S, e1, e2, e3⟩ := symm_eq htr (2 * k) C l1 A [] (by omega) (by omega) (by omega) h2 g2 hag
          rw [List.append_nil, List.append_nil, h1, hfull, show A.length + k + k = A.length + 2 * k by omega] at e1
          rw [e1]
          have hS : S.length = 2 * k := by rw [e2.length_eq, List.length_append]; omega
          obtain ⟨l', r1, r2⟩ := ih [] [] (A ++ S) (by rw [List.length_append] at hf; simp; omega) List.Pairwise.nil (.last (by simp) List.Pairwise.nil (List.Perm.refl _))
          rw [List.append_nil, List.length_nil, Nat.add_zero, show (A ++ S).length = A.length + 2 * k by simp [hS]] at r1
          rw [show A.length + (C ++ l1).length = A.length + 2 * k by rw [List.length_append, h1, hfull]; omega, r1]
          refine ⟨S ++ l', by simp, ?_⟩
          have := Chunks.cons hS e3 (e2.trans (h3.append g3)) r2
          simpa using this
        · rw [if_neg (by rw [List.length_append, h1]; omega), if_pos (by rw [List.length_append, h1]; omega)]
          obtain ⟨S, e1, e2, e3⟩ := symm_eq htr (A.length + (C ++ l1).length - A.length) C l1 A [] (by rw [List.length_append]; omega) (by omega) (by omega) h2 g2 hag
          rw [List.append_nil, List.append_nil, show A.length + C.length + l1.length = A.length + (C ++ l1).length by rw [List.length_append]; omega, h1] at e1
          rw [e1]
          exact ⟨S, rfl, .last (by rw [e2.length_eq, List.length_append]; omega) e3 (e2.trans (h3.append g3))⟩
      | @cons D D0 l3 l4 g1 g2 g3 g4 =>
        rw [if_pos (by rw [List.length_append, List.length_append, h1, g1]; omega)]
        obtain ⟨q4, q5, q6⟩ := List.pairwise_append.1 q2
        obtain ⟨S, e1, e2, e3⟩ := symm_eq htr (2 * k) C D A l3 (by omega) (by omega) (by omega) h2 g2 (fun x hx y hy => q3 x (h3.mem_iff.1 hx) y (List.mem_append_left _ (g3.mem_iff.1 hy)))
        rw [h1, g1, show A.length + k + k = A.length + 2 * k by omega] at e1
        rw [show A ++ (C ++ (D ++ l3)) = A ++ (C ++ (D ++ l3)) from rfl, e1]
        have hS : S.length = 2 * k := by rw [e2.length_eq, List.length_append]; omega
        obtain ⟨l', r1, r2⟩ := ih l3 l4 (A ++ S) (by rw [List.length_append, List.length_append] at hf; omega) q5 g4
        rw [show (A ++ S).length + l3.length = A.length + (C ++ (D ++ l3)).length by simp [hS, h1, g1]; omega, show (A ++ S).length = A.length + 2 * k by simp [hS]] at r1
        rw [← List.append_assoc A, r1]
        refine ⟨S ++ l', by simp, ?_⟩
        have := Chunks.cons hS e3 (e2.trans (h3.append g3)) r2
        simpa using this
theorem Chunks.whole {k : Nat} {l l0 : List α} (h : Chunks R k l l0) (hk : l.length ≤ k) : l.Pairwise R := by
  cases h with
  | last _ h _ => exact h
  | @cons C C0 l1 l2 h1 h2 h3 h4 =>
    have : l1 = [] := List.length_eq_zero_iff.1 (by rw [List.length_append] at hk; omega)
    subst this
    simpa using h2
theorem stab2_eq (htr : ∀ x y z, R x y → R y z → R x z) : ∀ (f k : Nat) (l l0 : List α), 0 < k → l.length ≤ k + f → l0.Pairwise (fun x y => Ag R lt x y) → Chunks R k l l0 →
    ∃ l', stab2 lt l.length f k l = l' ∧ l'.Pairwise R ∧ l'.Perm l0 := by
  intro f
  induction f with
  | zero =>
    intro k l l0 hk hf hp hc
    exact ⟨l, rfl, hc.whole hf, hc.perm⟩
  | succ f ih =>
    intro k l l0 hk hf hp hc
    unfold stab2
    by_cases h : k < l.length
    · rw [if_pos h]
      obtain ⟨l', h1, h2⟩ := pass_eq htr hk (l.length + 1) l l0 [] (by omega) hp hc
      rw [List.length_nil, Nat.zero_add, List.nil_append, List.nil_append] at h1
      rw [h1]
      have e : l'.length = l.length := by rw [h2.perm.length_eq, hc.perm.length_eq]
      obtain ⟨l2, g1, g2, g3⟩ := ih (2 * k) l' l0 (by omega) (by omega) hp h2
      rw [e] at g1
      exact ⟨l2, g1, g2, g3⟩
    · rw [if_neg h]
      exact ⟨l, rfl, hc.whole (by omega), hc.perm⟩
theorem stab_eq (htr : ∀ x y z, R x y → R y z → R x z) (l : List α) (hp : l.Pairwise (fun x y => Ag R lt x y)) : (stab lt l).Pairwise R ∧ (stab lt l).Perm l := by
  unfold stab
  obtain ⟨l1, h1, h2⟩ := blk1_eq htr (l.length + 1) l [] (by omega) hp
  rw [List.length_nil, Nat.zero_add, List.nil_append, List.nil_append] at h1
  rw [h1]
  obtain ⟨l2, g1, g2, g3⟩ := stab2_eq htr (l.length + 1) 20 l1 l (by omega) (by rw [h2.perm.length_eq]; omega) hp h2
  rw [h2.perm.length_eq] at g1
  rw [g1]
  exact ⟨g2, g3⟩
end
/-! ### seen through a map -/
section
variable (g : α → β) (lt : β → β → Bool)
theorem sw_map (l : List α) (i j : Nat) : sw (l.map g) i j = (sw l i j).map g := by
  unfold sw
  rw [List.getElem?_map, List.getElem?_map]
  cases l[i]? <;> cases l[j]? <;> simp [List.map_set]
theorem ltAt_map (l : List α) (i j : Nat) : ltAt lt (l.map g) i j = ltAt (fun x y => lt (g x) (g y)) l i j := by
  unfold ltAt
  rw [List.getElem?_map, List.getElem?_map]
  cases l[i]? <;> cases l[j]? <;> rfl
theorem insDown_map (a : Nat) : ∀ (j : Nat) (l : List α), insDown lt a j (l.map g) = (insDown (fun x y => lt (g x) (g y)) a j l).map g
  | 0, l => rfl
  | j + 1, l => by
    unfold insDown
    rw [ltAt_map, sw_map, insDown_map a j]
    split
    · split <;> rfl
    · rfl
theorem insUp_map (a : Nat) : ∀ (m i : Nat) (l : List α), insUp lt a i m (l.map g) = (insUp (fun x y => lt (g x) (g y)) a i m l).map g
  | 0, i, l => rfl
  | m + 1, i, l => by
    unfold insUp
    rw [insDown_map, insUp_map a m]
theorem rise_map : ∀ (m k : Nat) (l : List α), rise k m (l.map g) = (rise k m l).map g
  | 0, k, l => rfl
  | m + 1, k, l => by
    unfold rise
    rw [sw_map, rise_map m]
theorem fall_map : ∀ (m k : Nat) (l : List α), fall k m (l.map g) = (fall k m l).map g
  | 0, k, l => rfl
  | m + 1, k, l => by
    unfold fall
    rw [sw_map, fall_map m]
theorem swR_map : ∀ (m a b : Nat) (l : List α), swR a b m (l.map g) = (swR a b m l).map g
  | 0, a, b, l => rfl
  | m + 1, a, b, l => by
    unfold swR
    rw [sw_map, swR_map m]
theorem rot_map (m : Nat) : ∀ (n i j : Nat) (l : List α), i + j ≤ n → rot m i j (l.map g) = (rot m i j l).map g
  | n, i, j, l, h => by
    rw [rot, rot.eq_1 m i j l]
    by_cases h1 : i = j ∨ i = 0 ∨ j = 0
    · rw [if_pos h1, if_pos h1, swR_map]
    rw [if_neg h1, if_neg h1]
    cases n with
    | zero => omega
    | succ n =>
      by_cases h2 : j < i
      · rw [if_pos h2, if_pos h2, swR_map, rot_map m n _ _ _ (by omega)]
      · rw [if_neg h2, if_neg h2, swR_map, rot_map m n _ _ _ (by omega)]
theorem symm_map : ∀ (f a m b : Nat) (l : List α), symm lt f a m b (l.map g) = (symm (fun x y => lt (g x) (g y)) f a m b l).map g
  | 0, a, m, b, l => rfl
  | f + 1, a, m, b, l => by
    unfold symm
    simp only [ltAt_map]
    split
    · rw [rise_map]
    split
    · rw [fall_map]
    simp only [rot_map g m _ _ _ l (Nat.le_refl _)]
    generalize bs _ _ _ = s
    by_cases h1 : s < m ∧ m < (a + b) / 2 + m - s <;> by_cases h2 : a < s ∧ s < (a + b) / 2 <;> by_cases h3 : (a + b) / 2 < (a + b) / 2 + m - s ∧ (a + b) / 2 + m - s < b <;> simp only [h1, h2, h3, if_true, if_false, symm_map f, and_self]
theorem blk1_map (n : Nat) : ∀ (f a : Nat) (l : List α), blk1 lt n f a (l.map g) = (blk1 (fun x y => lt (g x) (g y)) n f a l).map g
  | 0, a, l => rfl
  | f + 1, a, l => by
    unfold blk1
    rw [insUp_map, insUp_map, blk1_map n f]
    split <;> rfl
theorem pass_map (n k : Nat) : ∀ (f a : Nat) (l : List α), pass lt n k f a (l.map g) = (pass (fun x y => lt (g x) (g y)) n k f a l).map g
  | 0, a, l => rfl
  | f + 1, a, l => by
    unfold pass
    rw [symm_map, symm_map, pass_map n k f]
    split
    · rfl
    · split <;> rfl
theorem stab2_map (n : Nat) : ∀ (f k : Nat) (l : List α), stab2 lt n f k (l.map g) = (stab2 (fun x y => lt (g x) (g y)) n f k l).map g
  | 0, a, l => rfl
  | f + 1, k, l => by
    unfold stab2
    rw [pass_map, stab2_map n f]
    split <;> rfl
theorem stab_map (l : List α) : stab lt (l.map g) = (stab (fun x y => lt (g x) (g y)) l).map g := by
  unfold stab
  rw [List.length_map, blk1_map, stab2_map]
end
/-- **Go's stable sort is the merge sort of the library**, for a total order -/
theorem stab_sort {le : β → β → Bool} (h1 : ∀ a b c, le a b = true → le b c = true → le a c = true) (h2 : ∀ a b, (le a b || le b a) = true) (l : List β) : stab (fun x y => !le y x) l = l.mergeSort le := by
  rw [← List.mergeSort_zipIdx]
  have e : l = l.zipIdx.map (·.1) := by simp
  have := stab_map (fun p : β × Nat => p.1) (fun x y => !le y x) l.zipIdx
  rw [← e] at this
  rw [this]
  congr 1
  let R : β × Nat → β × Nat → Prop := fun a b => le a.1 b.1 = true ∧ (le b.1 a.1 = true → a.2 < b.2)
  have htr : ∀ x y z, R x y → R y z → R x z := fun x y z ⟨a1, a2⟩ ⟨b1, b2⟩ => ⟨h1 _ _ _ a1 b1, fun h => by
    have := a2 (h1 _ _ _ b1 h)
    have := b2 (h1 _ _ _ h a1)
    omega⟩
  have hag : l.zipIdx.Pairwise (fun x y => Ag R (fun x y : β × Nat => !le y.1 x.1) x y) := by
    refine List.pairwise_iff_getElem.2 fun i j hi hj hij => ?_
    simp only [List.getElem_zipIdx]
    have hi' : i < l.length := by simpa using hi
    have hj' : j < l.length := by simpa using hj
    refine ⟨fun h => ?_, fun h => ?_⟩
    · have h' : le l[i] l[j] = false := by simpa using h
      have := h2 l[i] l[j]
      rw [h'] at this
      exact ⟨by simpa using this, fun hh => by rw [h'] at hh; cases hh⟩
    · have h' : le l[i] l[j] = true := by simpa using h
      exact ⟨h', fun _ => by simpa using hij⟩
  obtain ⟨p1, p2⟩ := stab_eq htr l.zipIdx hag
  refine List.Perm.eq_of_pairwise (le := fun a b => List.zipIdxLE le a b = true) ?_ ?_ ?_ (p2.trans (List.mergeSort_perm _ _).symm)
  · intro a b ha hb hab hba
    have ha' := p2.mem_iff.1 ha
    have hb' := (List.mergeSort_perm _ _).mem_iff.1 hb
    unfold List.zipIdxLE at hab hba
    have e2 : a.2 = b.2 := by
      by_cases c1 : le a.1 b.1 = true <;> by_cases c2 : le b.1 a.1 = true <;> simp [c1, c2] at hab hba
      omega
    rw [List.mem_iff_getElem?] at ha' hb'
    obtain ⟨i, hi⟩ := ha'
    obtain ⟨j, hj⟩ := hb'
    rw [List.getElem?_zipIdx] at hi hj
    cases hl : l[i]? with
    | none => rw [hl] at hi; cases hi
    | some u =>
      cases hl2 : l[j]? with
      | none => rw [hl2] at hj; cases hj
      | some v =>
        rw [hl] at hi; rw [hl2] at hj
        simp at hi hj
        subst hi hj
        simp at e2
        subst e2
        rw [hl] at hl2
        injection hl2 with h
        rw [h]
  · refine p1.imp ?_
    rintro a b ⟨h3, h4⟩
    unfold List.zipIdxLE
    rw [if_pos h3]
    by_cases h5 : le b.1 a.1 = true
    · rw [if_pos h5]; simpa using Nat.le_of_lt (h4 h5)
    · rw [if_neg h5]
  · refine List.pairwise_mergeSort ?_ ?_ _
    · intro a b c hab hbc
      unfold List.zipIdxLE at *
      by_cases c1 : le a.1 b.1 = true <;> simp [c1] at hab
      by_cases c2 : le b.1 c.1 = true <;> simp [c2] at hbc
      rw [if_pos (h1 _ _ _ c1 c2)]
      by_cases c3 : le c.1 a.1 = true
      · rw [if_pos c3]
        have u1 := h1 _ _ _ c2 c3
        have u2 := h1 _ _ _ c3 c1
        rw [u1] at hab
        rw [u2] at hbc
        simp at hab hbc ⊢; omega
      · rw [if_neg c3]
    · intro a b
      unfold List.zipIdxLE
      have := h2 a.1 b.1
      by_cases c1 : le a.1 b.1 = true <;> by_cases c2 : le b.1 a.1 = true <;> simp [c1, c2] at this ⊢
      omega
end Stb
end Go.Proofs.Ythkebpgkhblcjaa
namespace Go.Proofs.Ythkebpgkhblcjaa
open Go.RowKit
section
variable {P : Program} {Q : Exit → Act → World → Prop} {a : Act} {w : World}
/-- what one operation owes -/
def swO (P : Program) (ops : List Oper) (C0 C1 C2 : World → Prop) (s1 s2 : Nat) (o : Oper) (k : Nat) (v : Value) (a : Act) : Prop :=
  if k = s1 then v = undef ∧ ∀ w, C0 w → ∃ w', (execOp a.eval o).run P w = .ok .skip w' ∧ C1 w'
  else if k = s2 then v = undef ∧ ∀ w, C1 w → ∃ w', (execOp a.eval o).run P w = .ok .skip w' ∧ C2 w'
  else if ancB ops s1 k then ∀ w, C0 w → QOk P o a w v else ∀ w, QOk P o a w v
/-- what a walk owes: each operation in the order of the text -/
def swH (P : Program) (ops : List Oper) (C0 C1 C2 : World → Prop) (s1 s2 : Nat) (Rest : Act → World → Prop) : List Oper → Nat → List Value → Act → Prop
  | [], _, _, a => ∀ w, C2 w → Rest a w
  | o :: l, k, v :: vs, a => Region.wanted o (yielded ops.toArray a.tmps) = true ∧ swO P ops C0 C1 C2 s1 s2 o k v a ∧ swH P ops C0 C1 C2 s1 s2 Rest l (k + 1) vs (a.put o.dst v)
  | _ :: _, _, [], _ => False
theorem swH_at {ops : List Oper} {C0 C1 C2 : World → Prop} {s1 s2 : Nat} {Rest : Act → World → Prop} {V : Nat → Value} : ∀ (l : List Oper) (k j : Nat) (vs : List Value) (a : Act) (o : Oper), swH P ops C0 C1 C2 s1 s2 Rest l k vs a → l[j]? = some o → (∀ i, V (k + i) = vs[i]?.getD undef) →
    Region.wanted o (yielded ops.toArray (lexF (fun i => some (V i)) (l.take j) k a).tmps) = true ∧ swO P ops C0 C1 C2 s1 s2 o (k + j) (V (k + j)) (lexF (fun i => some (V i)) (l.take j) k a)
  | [], _, _, _, _, _, _, h, _ => by simp at h
  | o :: l, k, j, [], a, o', h, _, _ => by simp [swH] at h
  | o :: l, k, 0, v :: vs, a, o', h, ho, hV => by
    obtain rfl : o = o' := by simpa using ho
    have hv := hV 0
    simp only [List.getElem?_cons_zero, Option.getD_some] at hv
    rw [hv]
    exact ⟨h.1, h.2.1⟩
  | o :: l, k, j + 1, v :: vs, a, o', h, ho, hV => by
    have hv := hV 0
    simp only [List.getElem?_cons_zero, Option.getD_some, Nat.add_zero] at hv
    have := swH_at l (k + 1) j vs (a.put o.dst v) o' h.2.2 (by simpa using ho) (fun i => by
      have := hV (i + 1)
      rw [List.getElem?_cons_succ] at this
      rw [← this, show k + 1 + i = k + (i + 1) by omega])
    rw [show k + (j + 1) = k + 1 + j by omega]
    rw [List.take_succ_cons]
    simp only [lexF, hv]
    exact this
theorem swH_end {ops : List Oper} {C0 C1 C2 : World → Prop} {s1 s2 : Nat} {Rest : Act → World → Prop} {V : Nat → Value} : ∀ (l : List Oper) (k : Nat) (vs : List Value) (a : Act), swH P ops C0 C1 C2 s1 s2 Rest l k vs a → (∀ i, V (k + i) = vs[i]?.getD undef) →
    ∀ w, C2 w → Rest (lexF (fun i => some (V i)) l k a) w
  | [], _, _, _, h, _ => h
  | o :: l, k, [], a, h, _ => by simp [swH] at h
  | o :: l, k, v :: vs, a, h, hV => by
    have hv := hV 0
    simp only [List.getElem?_cons_zero, Option.getD_some, Nat.add_zero] at hv
    have := swH_end l (k + 1) vs (a.put o.dst v) h.2.2 (fun i => by
      have := hV (i + 1)
      rw [List.getElem?_cons_succ] at this
      rw [← this, show k + 1 + i = k + (i + 1) by omega])
    simp only [lexF, hv]
    exact this
/-- what holds while the operations come up -/
structure SwI (l : List Oper) (V : Nat → Value) (C0 C1 C2 : World → Prop) (s1 s2 : Nat) (f : Nat → Option Value) (w : World) : Prop where
  val : ∀ i v, f i = some v → v = V i
  lt : ∀ i, (f i).isSome = true → i < l.length
  cl : ∀ i o, l[i]? = some o → (f i).isSome = true → ∀ e ∈ deps o, (f e).isSome = true
  c0 : f s1 = none → C0 w
  c1 : (f s1).isSome = true → f s2 = none → C1 w
  c2 : (f s2).isSome = true → C2 w
theorem spec_V (vs x : List Value) (y : Nat → Value) (i : Nat) (hx : x = vs) : (spec (vs.map fun v => Spec.V fun _ => v) i).val y i = x[i]?.getD undef := by
  subst hx
  unfold spec
  rw [List.getElem?_map]
  cases x[i]? <;> rfl
theorem SwI.step {l : List Oper} {vs : List Value} {C0 C1 C2 : World → Prop} {s1 s2 : Nat} {Rest : Act → World → Prop} (hB : headG l l.length = true) (hsel : Region.noSelect l.toArray = true)
    (hst0 : ∀ w w', C0 w → Below w.heap.size w w' → C0 w') (hst1 : ∀ w w', C1 w → Below w.heap.size w w' → C1 w') (hst2 : ∀ w w', C2 w → Below w.heap.size w w' → C2 w')
    (hs2 : s2 < l.length) (hanc : ancB l s2 s1 = true) (hne : s1 ≠ s2) (h : swH P l C0 C1 C2 s1 s2 Rest l 0 vs a) (i : Nat) (o : Oper) (f : Nat → Option Value) (w : World) (hin : i < l.length) (hoi : l[i]? = some o)
    (hC : SwI l (fun i => vs[i]?.getD undef) C0 C1 C2 s1 s2 f w) (hfi : f i = none) (hd : ∀ e ∈ deps o, (f e).isSome = true) :
    Region.wanted o (yielded l.toArray (lexF f (l.take l.length) 0 a).tmps) = true ∧ genAt P o (lexF f (l.take l.length) 0 a) w (fun v w' => SwI l (fun i => vs[i]?.getD undef) C0 C1 C2 s1 s2 (upd f i v) w') := by
  have hf : ∀ j, (f j).isSome = true → f j = some ((spec (vs.map fun v => Spec.V fun _ => v) j).val (vsf f) j) := fun j hj => by
    obtain ⟨v, hv⟩ := Option.isSome_iff_exists.1 hj
    rw [hv, spec_V vs vs _ j rfl, hC.val j v hv]
  obtain ⟨hw, hO⟩ := swH_at (V := fun i => vs[i]?.getD undef) l 0 i vs a o h hoi (fun i => by rw [Nat.zero_add])
  rw [Nat.zero_add] at hO
  have e0 : (fun j => some ((spec (vs.map fun v => Spec.V fun _ => v) j).val (vsf f) j)) = fun j => some (vs[j]?.getD undef) := by funext j; rw [spec_V vs vs _ j rfl]
  have hsm := hsame (a := a) (ss := vs.map fun v => Spec.V fun _ => v) hB hsel hin hoi hf hd
  rw [e0] at hsm
  have hwn := hwant (z := true) (a := a) (ss := vs.map fun v => Spec.V fun _ => v) hB hin hoi hf hd (by rw [e0]; exact hw)
  refine ⟨hwn, ?_⟩
  have hcl' := anc_closed (f := f) (l := l) hC.cl
  obtain ⟨o2, ho2⟩ : ∃ o2, l[s2]? = some o2 := ⟨l[s2], List.getElem?_eq_getElem hs2⟩
  have h21 : (f s2).isSome = true → (f s1).isSome = true := fun h2 => hcl' s2 o2 ho2 (hC.cl s2 o2 ho2 h2) s1 hanc
  have hui : ∀ v, upd f i v i = some v := fun v => by simp [upd]
  have huj : ∀ v j, j ≠ i → upd f i v j = f j := fun v j hj => by unfold upd; rw [if_neg hj]
  -- the invariant behind the operation
  have base : ∀ v w', v = vs[i]?.getD undef → ((upd f i v) s1 = none → C0 w') → (((upd f i v) s1).isSome = true → (upd f i v) s2 = none → C1 w') → (((upd f i v) s2).isSome = true → C2 w') →
      SwI l (fun i => vs[i]?.getD undef) C0 C1 C2 s1 s2 (upd f i v) w' := by
    intro v w' hv k0 k1 k2
    refine ⟨fun j u hu => ?_, fun j hj => ?_, fun j oj hoj hj e he => ?_, k0, k1, k2⟩
    · by_cases hji : j = i
      · subst hji; rw [hui] at hu; injection hu with hu; rw [← hu]; exact hv
      · rw [huj v j hji] at hu; exact hC.val j u hu
    · by_cases hji : j = i
      · subst hji; exact hin
      · rw [huj v j hji] at hj; exact hC.lt j hj
    · by_cases hei : e = i
      · subst hei; rw [hui]; rfl
      · rw [huj v e hei]
        by_cases hji : j = i
        · subst hji
          obtain rfl : o = oj := Option.some.inj (hoi.symm.trans hoj)
          exact hd e he
        · rw [huj v j hji] at hj
          exact hC.cl j oj hoj hj e he
  have none2 : f s1 = none → f s2 = none := fun h1 => by
    cases h2 : f s2 with
    | none => rfl
    | some u => have := h21 (by rw [h2]; rfl); rw [h1] at this; cases this
  have quiet : i ≠ s1 → i ≠ s2 → QOk P o (lexF f (l.take l.length) 0 a) w (vs[i]?.getD undef) → genAt P o (lexF f (l.take l.length) 0 a) w (fun v w' => SwI l (fun i => vs[i]?.getD undef) C0 C1 C2 s1 s2 (upd f i v) w') := by
    intro n1 n2 hq
    have fin : ∀ w', Below w.heap.size w w' → SwI l (fun i => vs[i]?.getD undef) C0 C1 C2 s1 s2 (upd f i (vs[i]?.getD undef)) w' := fun w' hb => by
      refine base _ w' rfl ?_ ?_ ?_
      · rw [huj _ s1 (Ne.symm n1)]; exact fun h => hst0 _ _ (hC.c0 h) hb
      · rw [huj _ s1 (Ne.symm n1), huj _ s2 (Ne.symm n2)]; exact fun h h2 => hst1 _ _ (hC.c1 h h2) hb
      · rw [huj _ s2 (Ne.symm n2)]; exact fun h => hst2 _ _ (hC.c2 h) hb
    unfold genAt
    unfold QOk at hq
    generalize (execOp (lexF f (l.take l.length) 0 a).eval o).run P w = r at hq ⊢
    cases r with
    | ok nx w' =>
      cases nx <;> simp only [qUpon] at hq <;> simp only [genUpon]
      case value u => obtain ⟨rfl, rfl⟩ := hq; exact fin _ (Below.refl _ _)
      case enter g args =>
        obtain ⟨rfl, hc⟩ := hq
        exact ⟨rfl, hc.use.mono fun e w'' ⟨he, hb⟩ => ⟨_, he, fin _ hb⟩⟩
    | halt x w' => simp only [qUpon] at hq
  have hsm' : (execOp (lexF (fun j => some (vs[j]?.getD undef)) (l.take i) 0 a).eval o) = execOp (lexF f (l.take l.length) 0 a).eval o := hsm
  unfold swO at hO
  by_cases h1 : i = s1
  · rw [if_pos h1] at hO
    subst h1
    obtain ⟨w', hr, hc⟩ := hO.2 w (hC.c0 hfi)
    rw [hsm'] at hr
    unfold genAt
    rw [hr]
    simp only [genUpon]
    refine base _ w' hO.1.symm ?_ ?_ ?_
    · rw [hui]; intro h; cases h
    · intro _ _; exact hc
    · rw [huj _ s2 (Ne.symm hne), none2 hfi]; intro h; cases h
  rw [if_neg h1] at hO
  by_cases h2 : i = s2
  · rw [if_pos h2] at hO
    subst h2
    have hs := hcl' i o hoi hd s1 hanc
    obtain ⟨w', hr, hc⟩ := hO.2 w (hC.c1 hs hfi)
    rw [hsm'] at hr
    unfold genAt
    rw [hr]
    simp only [genUpon]
    refine base _ w' hO.1.symm ?_ ?_ ?_
    · rw [huj _ s1 hne]; intro h; rw [h] at hs; cases hs
    · rw [hui]; intro _ h; cases h
    · intro _; exact hc
  rw [if_neg h2] at hO
  refine quiet h1 h2 ?_
  unfold QOk at hO ⊢
  rw [hsm'] at hO
  by_cases h3 : ancB l s1 i = true
  · rw [if_pos h3] at hO
    refine hO w (hC.c0 ?_)
    cases h4 : f s1 with
    | none => rfl
    | some u =>
      exfalso
      have hlt1 := hC.lt s1 (by rw [h4]; rfl)
      have := hcl' s1 _ (List.getElem?_eq_getElem hlt1) (hC.cl s1 _ (List.getElem?_eq_getElem hlt1) (by rw [h4]; rfl)) i h3
      rw [hfi] at this
      cases this
  · rw [if_neg h3] at hO
    exact hO w
/-- **The region's law.** -/
theorem wp_region_sw {id : Nat} {l : List Oper} {C0 C1 C2 : World → Prop} (s1 s2 : Nat) (vs : List Value) (hm : P.follows .mixedOrders = true) (hB : invAllG l = true) (hs2 : Nat.blt s2 l.length = true) (hanc : ancB l s2 s1 = true) (hne : s1 ≠ s2)
    (H0 : C0 w.drew) (hst0 : ∀ w w', C0 w → Below w.heap.size w w' → C0 w') (hst1 : ∀ w w', C1 w → Below w.heap.size w w' → C1 w') (hst2 : ∀ w w', C2 w → Below w.heap.size w w' → C2 w')
    (h : swH P l C0 C1 C2 s1 s2 (fun a w => Q .normal a w) l 0 vs a) : (Code.region id l.toArray true).wp P Q a w := by
  simp only [invAllG, Bool.and_eq_true] at hB
  obtain ⟨h1, h2⟩ := hB
  have hs2' : s2 < l.length := Nat.le_of_ble_eq_true hs2
  refine wp_region_any hm ?_
  have hout : ∀ listed t, l.length ≤ t → t ∉ Region.ready .any l.toArray listed := fun listed t ht hr => by
    obtain ⟨_, o, ho, _⟩ := mem_ready.1 hr
    have := (Array.getElem?_eq_some_iff.1 ho).1
    simp at this; omega
  have := wpAny_gen (Q := Q) (a0 := a) (n := l.length) (C := SwI l (fun i => vs[i]?.getD undef) C0 C1 C2 s1 s2) h1 (Nat.le_refl _)
    (fun i o f w hin hoi hC hfi hd => (SwI.step h1 h2 hst0 hst1 hst2 hs2' hanc hne h i o f w hin hoi hC hfi hd).1) (fun listed i _ _ _ t ht => hout listed t ht)
    (fun listed a w inv hall hl => by
      rw [Nat.sub_self]
      refine ⟨?_, by simpa [wpList] using hl⟩
      cases hr : Region.ready .any l.toArray listed with
      | nil => rfl
      | cons i r =>
        have hi : i ∈ Region.ready .any l.toArray listed := by rw [hr]; simp
        have h3 := (mem_ready.1 hi).1
        rcases Nat.lt_or_ge i l.length with h | h
        · rw [hall i h] at h3; cases h3
        · exact absurd hi (hout listed i h))
    (fun i o f w hin hoi hC hfi hd => (SwI.step h1 h2 hst0 hst1 hst2 hs2' hanc hne h i o f w hin hoi hC hfi hd).2)
    (fun f w hC hall => by
      rw [List.drop_length, List.take_length]
      have e := lexF_same (f := f) (g := fun j => some (vs[j]?.getD undef)) l 0 a fun j hj => by
        rw [Nat.zero_add]
        obtain ⟨v, hv⟩ := Option.isSome_iff_exists.1 (hall j hj)
        rw [hv, hC.val j v hv]
      rw [e]
      have := swH_end (V := fun i => vs[i]?.getD undef) l 0 vs a h (fun i => by rw [Nat.zero_add]) w (hC.c2 (hall s2 hs2'))
      simpa [wpList] using this)
    l.length (fun _ => none) (Array.replicate l.toArray.size false) { w with drawn := w.drawn + 1 } (by simp) (inv0 l l.length) (fun i hi => getD_in (by simp; omega) (getD_replicate_false _ _))
    ⟨fun _ _ h => (by cases h), fun _ h => (by simp at h), fun _ _ _ h => (by simp at h), fun _ => H0, fun h => (by simp at h), fun h => (by simp at h)⟩
  have hz : lexF (fun _ => none) (l.take l.length) 0 a = a := by
    have := lexF_take (f := fun _ => none) (l.take l.length) 0 0 a
    simp [lexF] at this
    rw [List.take_length]
    exact this.symm
  rw [hz, Nat.sub_self, Nat.add_zero] at this
  simpa using this
/-! the steps of the walk -/
section
variable {ops : List Oper} {C0 C1 C2 : World → Prop} {s1 s2 k : Nat} {Rest : Act → World → Prop} {o : Oper} {l : List Oper} {v : Value} {vs : List Value}
/-- an operation that reads -/
theorem sw_r (hw : Region.wanted o (yielded ops.toArray a.tmps) = true) (h1 : Nat.beq k s1 = false) (h2 : Nat.beq k s2 = false) (h3 : ancB ops s1 k = true) (h : ∀ w, C0 w → QOk P o a w v) (n : swH P ops C0 C1 C2 s1 s2 Rest l (k + 1) vs (a.put o.dst v)) :
    swH P ops C0 C1 C2 s1 s2 Rest (o :: l) k (v :: vs) a := by
  refine ⟨hw, ?_, n⟩
  unfold swO
  rw [if_neg (Nat.ne_of_beq_eq_false h1), if_neg (Nat.ne_of_beq_eq_false h2), if_pos h3]
  exact h
/-- an operation that reads no memory -/
theorem sw_v (hw : Region.wanted o (yielded ops.toArray a.tmps) = true) (h1 : Nat.beq k s1 = false) (h2 : Nat.beq k s2 = false) (h : ∀ w, QOk P o a w v) (n : swH P ops C0 C1 C2 s1 s2 Rest l (k + 1) vs (a.put o.dst v)) :
    swH P ops C0 C1 C2 s1 s2 Rest (o :: l) k (v :: vs) a := by
  refine ⟨hw, ?_, n⟩
  unfold swO
  rw [if_neg (Nat.ne_of_beq_eq_false h1), if_neg (Nat.ne_of_beq_eq_false h2)]
  split
  · exact fun w _ => h w
  · exact h
theorem sw_1 (hw : Region.wanted o (yielded ops.toArray a.tmps) = true) (h1 : Nat.beq k s1 = true) (h : ∀ w, C0 w → ∃ w', (execOp a.eval o).run P w = .ok .skip w' ∧ C1 w') (n : swH P ops C0 C1 C2 s1 s2 Rest l (k + 1) vs (a.put o.dst undef)) :
    swH P ops C0 C1 C2 s1 s2 Rest (o :: l) k (undef :: vs) a := by
  refine ⟨hw, ?_, n⟩
  unfold swO
  rw [if_pos (Nat.eq_of_beq_eq_true h1)]
  exact ⟨rfl, h⟩
theorem sw_2 (hw : Region.wanted o (yielded ops.toArray a.tmps) = true) (h1 : Nat.beq k s1 = false) (h2 : Nat.beq k s2 = true) (h : ∀ w, C1 w → ∃ w', (execOp a.eval o).run P w = .ok .skip w' ∧ C2 w') (n : swH P ops C0 C1 C2 s1 s2 Rest l (k + 1) vs (a.put o.dst undef)) :
    swH P ops C0 C1 C2 s1 s2 Rest (o :: l) k (undef :: vs) a := by
  refine ⟨hw, ?_, n⟩
  unfold swO
  rw [if_neg (Nat.ne_of_beq_eq_false h1), if_pos (Nat.eq_of_beq_eq_true h2)]
  exact ⟨rfl, h⟩
end
/-- a store into a row, out of a list of pieces -/
theorem now_storerow {R : Nat → Prop} {w0 w : World} {L M : List Hl} {T E ty : TypeId} {x y : Operand} {pos : String} {aft : Array Edge} {dst : Option Tmp} {gd : Option (Nat × Bool)}
    {g off s n c : Nat} {xs vs : List Value} {u : Value} (H : Hs R w0 L w) (hx : a.eval x = .pointer (some ⟨g, off, none⟩)) (hy : a.eval y = u) (hv : u.cells.toList = vs)
    (up : Upd (Hl.row E s (.slice (some ⟨g, 0, none⟩) n c) n xs) (Hl.row E s (.slice (some ⟨g, 0, none⟩) n c) n (spl xs off vs)) L M)
    (hn : sizeT P T = some vs.length) (hp : 0 < vs.length) (hl : off + vs.length ≤ xs.length) (h1 : vs.all (·.oneCell') = true) :
    ∃ w', (execOp a.eval ⟨dst, .store T x y, ty, pos, aft, gd⟩).run P w = .ok .skip w' ∧ Hs R w0 M w' := by
  obtain ⟨w', hr, ho, hg⟩ := run_storerow (P := P) (T := T) (H.rows up.inL) hv hn hp hl h1
  refine ⟨w', ?_, H.turn up hg ho (fun b hb => .inl hb)⟩
  unfold execOp
  simp only [hx, hy, Instr.storeAt, Instr.sureAddr, Sem.run_bind, Sem.run_pure, Result.andThen_ok, hr]
end
end Go.Proofs.Ythkebpgkhblcjaa
namespace Go.Proofs.Ythkebpgkhblcjaa
open Go.RowKit M
theorem qLR {P : Prop} (h : P := by (with_reducible apply q_loadat); (focus rfl); (focus decide +kernel); (focus exact (At.row H1 In.here (by assumption))); (focus exact zF); (focus (first | rfl | assumption))) : P := h
theorem stR {P : Prop} (h : P := by (with_reducible apply now_storerow H1); (focus rfl); (focus exact eF); (focus exact cells_agg _); (focus exact uF); (focus kernel_rfl); (focus exact Nat.succ_pos _); (focus exact fitF); (focus rfl)) : P := h
theorem qAR {P : Prop} (h : P := by unfold QOk; go_simp; rw [wrap_id (by omega) (by omega)]; (first | rw [hpA] | rw [hpB] | skip); exact q_v) : P := h
theorem qCR {P : Prop} (h : P := by unfold QOk; go_simp; (try rw [eg]); exact q_call (hcc _)) : P := h
namespace M
theorem flat_setG {α : Type} {enc : α → List Value} {s : Nat} (hs : ∀ a, (enc a).length = s) {l : List α} {k : Nat} {y : α} (h : k < l.length) : spl (flat enc l) (k * s) (enc y) = flat enc (l.set k y) := by
  have e : l = l.take k ++ (l[k] :: l.drop (k + 1)) := by rw [← List.drop_eq_getElem_cons h, List.take_append_drop]
  have e2 : l.set k y = l.take k ++ (y :: l.drop (k + 1)) := List.set_eq_take_append_cons_drop.trans (by rw [if_pos h])
  rw [e2, flat_append, flat_cons]
  conv => lhs; rw [e, flat_append, flat_cons]
  exact spl_mid _ _ _ _ (by rw [flat_length (enc := enc) (s := s) hs, List.length_take, Nat.min_eq_left (Nat.le_of_lt h)]) (by rw [hs, hs])
theorem flat_segG {α : Type} {enc : α → List Value} {s : Nat} (hs : ∀ a, (enc a).length = s) {l : List α} {k : Nat} {y : α} (h : l[k]? = some y) : Seg (flat enc l) (k * s) (enc y) := by
  obtain ⟨hlt, rfl⟩ := List.getElem?_eq_some_iff.1 h
  have e : l = l.take k ++ (l[k] :: l.drop (k + 1)) := by rw [← List.drop_eq_getElem_cons hlt, List.take_append_drop]
  have h2 := seg_mid (flat enc (l.take k)) (enc l[k]) (flat enc (l.drop (k + 1))) (off := k * s) (by rw [flat_length (enc := enc) (s := s) hs, List.length_take, Nat.min_eq_left (Nat.le_of_lt hlt)])
  rw [← flat_cons, ← flat_append, ← e] at h2
  exact h2
theorem sw_len {α : Type} (l : List α) (i j : Nat) : (Stb.sw l i j).length = l.length := by
  unfold Stb.sw
  split <;> simp
/-- two stores: a swap -/
theorem flat_sw {α : Type} {enc : α → List Value} {s : Nat} (hs : ∀ a, (enc a).length = s) {l : List α} {i j : Nat} {x y : α} (hi : l[i]? = some x) (hj : l[j]? = some y) : spl (spl (flat enc l) (i * s) (enc y)) (j * s) (enc x) = flat enc (Stb.sw l i j) := by
  rw [flat_setG hs (List.getElem?_eq_some_iff.1 hi).1, flat_setG hs (by rw [List.length_set]; exact (List.getElem?_eq_some_iff.1 hj).1), Stb.sw_at x y hi hj]
theorem insDown_len {α : Type} (lt : α → α → Bool) (a : Nat) : ∀ (j : Nat) (l : List α), (Stb.insDown lt a j l).length = l.length
  | 0, l => rfl
  | j + 1, l => by
    unfold Stb.insDown
    split
    · split
      · rw [insDown_len lt a j, sw_len]
      · rfl
    · rfl
theorem insUp_len {α : Type} (lt : α → α → Bool) (a : Nat) : ∀ (m i : Nat) (l : List α), (Stb.insUp lt a i m l).length = l.length
  | 0, i, l => rfl
  | m + 1, i, l => by unfold Stb.insUp; rw [insUp_len lt a m, insDown_len]
theorem rise_len {α : Type} : ∀ (m k : Nat) (l : List α), (Stb.rise k m l).length = l.length
  | 0, k, l => rfl
  | m + 1, k, l => by unfold Stb.rise; rw [rise_len m, sw_len]
theorem fall_len {α : Type} : ∀ (m k : Nat) (l : List α), (Stb.fall k m l).length = l.length
  | 0, k, l => rfl
  | m + 1, k, l => by unfold Stb.fall; rw [fall_len m, sw_len]
theorem swR_len {α : Type} : ∀ (m a b : Nat) (l : List α), (Stb.swR a b m l).length = l.length
  | 0, a, b, l => rfl
  | m + 1, a, b, l => by unfold Stb.swR; rw [swR_len m, sw_len]
theorem rot_len {α : Type} (m : Nat) : ∀ (n i j : Nat) (l : List α), i + j ≤ n → (Stb.rot m i j l).length = l.length
  | n, i, j, l, h => by
    rw [Stb.rot]
    by_cases h1 : i = j ∨ i = 0 ∨ j = 0
    · rw [if_pos h1, swR_len]
    rw [if_neg h1]
    cases n with
    | zero => omega
    | succ n =>
      by_cases h2 : j < i
      · rw [if_pos h2, rot_len m n _ _ _ (by omega), swR_len]
      · rw [if_neg h2, rot_len m n _ _ _ (by omega), swR_len]
theorem symm_len {α : Type} (lt : α → α → Bool) : ∀ (f a m b : Nat) (l : List α), (Stb.symm lt f a m b l).length = l.length
  | 0, a, m, b, l => rfl
  | f + 1, a, m, b, l => by
    unfold Stb.symm
    split
    · rw [rise_len]
    split
    · rw [fall_len]
    simp only
    generalize Stb.bs _ _ _ = s
    have h1 : ∀ e, (if s < m ∧ m < e then Stb.rot m (m - s) (e - m) l else l).length = l.length := fun e => by
      by_cases h : s < m ∧ m < e
      · rw [if_pos h]; exact rot_len m _ _ _ l (Nat.le_refl _)
      · rw [if_neg h]
    have h1' := h1 ((a + b) / 2 + m - s)
    generalize (if s < m ∧ m < (a + b) / 2 + m - s then Stb.rot m (m - s) ((a + b) / 2 + m - s - m) l else l) = l1 at *
    have h2 : (if a < s ∧ s < (a + b) / 2 then Stb.symm lt f a s ((a + b) / 2) l1 else l1).length = l.length := by
      by_cases h : a < s ∧ s < (a + b) / 2
      · rw [if_pos h, symm_len lt f, h1']
      · rw [if_neg h, h1']
    generalize (if a < s ∧ s < (a + b) / 2 then Stb.symm lt f a s ((a + b) / 2) l1 else l1) = l2 at *
    by_cases h : (a + b) / 2 < (a + b) / 2 + m - s ∧ (a + b) / 2 + m - s < b
    · rw [if_pos h, symm_len lt f, h2]
    · rw [if_neg h, h2]
end M

def SPostFm (g n c : Nat) (l : List Fm) (R : Nat → Prop) (w0 : World) (L : List Hl) : Ending → World → Prop := fun e w' => e = .returned (.tuple #[]) ∧ Hs R w0 (Hl.row 30 2 (.slice (some ⟨g, 0, none⟩) n c) n (flat encFm l) :: L) w'
set_option maxRecDepth 100000 in
set_option maxHeartbeats 4000000 in
theorem swapRange_Fm (g n c : Nat) (l : List Fm) (hn : n = l.length) (hn9 : n ≤ 1000000000) (cmp : Value) (a b m : Nat) (ha : a + m ≤ n) (hb : b + m ≤ n) (R : Nat → Prop) (w0 : World) (L : List Hl) (w : World) (H : Hs R w0 (Hl.row 30 2 (.slice (some ⟨g, 0, none⟩) n c) n (flat encFm l) :: L) w) :
    Calls Try.prog 45 #[.slice (some ⟨g, 0, none⟩) n c, .int .i64 a, .int .i64 b, .int .i64 m, cmp] w (SPostFm g n c (Stb.swR a b m l) R w0 L) := by
  obtain ⟨z, hz⟩ : ∃ z, z = Stb.swR a b m l := ⟨_, rfl⟩
  rw [← hz]
  have HZ := Lib.hid hz
  have HN := Lib.hid hn
  clear hz hn
  go_enter Try.func45, Try.ntmps45
  go_wp2_with (first | ((first | ((with_reducible apply st_load1 H); decide +kernel; rfl; exact cF) | ((with_reducible apply st_loads H); decide +kernel; rfl; exact iF; exact zF; rfl) | ((with_reducible apply st_store H); rfl; exact eF; (focus (exact cells_agg _)); exact uF; kernel_rfl; (focus (exact Nat.le_of_ble_eq_true (by rfl))); (focus (first | rfl | simp))) | ((with_reducible apply st_storeown H); rfl; exact eF; (focus (exact (rfl : _ = [_]))); exact uF; (focus omega); kernel_rfl; rfl)); clear H; intro wn H; (try simp only [splice, yG, yH, yI, yJ, yK, yL, yM, yN, yO, yP, yQ, Nat.reduceAdd, yA, yB, yC] at H); simp only [Act.put, yA, yB, yC, yD, yE, yF]) | ((first | ((with_reducible apply st_strsum H); rfl; rfl; exact szF; kernel_rfl) | ((with_reducible apply st_loadat H); decide +kernel; rfl; exact aF; exact zF; rfl) | ((with_reducible apply st_storerow H); rfl; exact eF; (first | exact cells_agg _ | exact cellI | exact cellS | exact cellB | exact (rfl : _ = [_])); exact uF; kernel_rfl; exact Nat.succ_pos _; exact fitF; rfl)); clear H; intro wn H; simp only [Act.put, yA, yB, yC, yD, yE, yF]) | fail)
  go_loopg [10] m (fun k iv wr => ∃ (i : Nat) (l' : List Fm), i + k = m ∧ iv = .int .i64 i ∧ Hid (z = Stb.swR (a + i) (b + i) (m - i) l') ∧ Hid (l'.length = n) ∧ Hs R w0 (Hl.row 30 2 (.slice (some ⟨g, 0, none⟩) n c) n (flat encFm l') :: L) wr)
  case atStart => exact ⟨0, l, by omega, rfl, Lib.hid (by rw [HZ.out]; rfl), Lib.hid HN.out.symm, H⟩
  case round =>
    clear H
    obtain ⟨i, l', hi, rfl, HI, HL, H⟩ := hrel
    by_cases hlt : i < m
    · have hlt1 : (i : Int) < m := by omega
      obtain ⟨p, hp⟩ : ∃ p, p = a + i := ⟨_, rfl⟩
      obtain ⟨q, hq⟩ : ∃ q, q = b + i := ⟨_, rfl⟩
      obtain ⟨x, hx⟩ : ∃ x, l'[p]? = some x := ⟨l'[p]'(by rw [HL.out]; omega), List.getElem?_eq_getElem (by rw [HL.out]; omega)⟩
      obtain ⟨y, hy⟩ : ∃ x, l'[q]? = some x := ⟨l'[q]'(by rw [HL.out]; omega), List.getElem?_eq_getElem (by rw [HL.out]; omega)⟩
      have HI2 : Hid (z = Stb.swR (a + (i + 1)) (b + (i + 1)) (m - (i + 1)) (Stb.sw l' p q)) := Lib.hid (by rw [HI.out, hp, hq, show m - i = (m - (i + 1)) + 1 by omega]; rfl)
      have HL2 : Hid ((Stb.sw l' p q).length = n) := Lib.hid ((sw_len _ _ _).trans HL.out)
      have hsw := flat_sw (enc := encFm) (s := 2) (fun _ => rfl) hx hy
      obtain ⟨x1, x2⟩ := x
      obtain ⟨y1, y2⟩ := y
      have s1 : Seg (flat encFm l') (p * 2) [.int .i64 x1, .string x2] := flat_segG (enc := encFm) (s := 2) (fun _ => rfl) hx
      have s2 : Seg (flat encFm l') (q * 2) [.int .i64 y1, .string y2] := flat_segG (enc := encFm) (s := 2) (fun _ => rfl) hy
      have HSW : Hid (spl (spl (flat encFm l') (p * 2) [.int .i64 y1, .string y2]) (q * 2) [.int .i64 x1, .string x2] = flat encFm (Stb.sw l' p q)) := Lib.hid hsw
      have hfl : (flat encFm l').length = n * 2 := by rw [flat_length (enc := encFm) (s := 2) (fun _ => rfl), HL.out]
      have hf1 : p * 2 + 2 ≤ (flat encFm l').length := by omega
      have hf2 : q * 2 + 2 ≤ (flat encFm l').length := by omega
      clear hx hy hsw hfl
      have hp1 : p < n := by omega
      have hp2 : q < n := by omega
      have hp3 : (p : Int) < n := by omega
      have hp4 : (q : Int) < n := by omega
      have hpA : (a : Int) + (i : Int) = (p : Int) := by omega
      have hpB : (b : Int) + (i : Int) = (q : Int) := by omega
      clear HI HL hp hq
      go_wp2_with (first | ((first | ((with_reducible apply st_load1 H); decide +kernel; rfl; exact cF) | ((with_reducible apply st_loads H); decide +kernel; rfl; exact iF; exact zF; rfl) | ((with_reducible apply st_store H); rfl; exact eF; (focus (exact cells_agg _)); exact uF; kernel_rfl; (focus (exact Nat.le_of_ble_eq_true (by rfl))); (focus (first | rfl | simp))) | ((with_reducible apply st_storeown H); rfl; exact eF; (focus (exact (rfl : _ = [_]))); exact uF; (focus omega); kernel_rfl; rfl)); clear H; intro wn H; (try simp only [splice, yG, yH, yI, yJ, yK, yL, yM, yN, yO, yP, yQ, Nat.reduceAdd, yA, yB, yC] at H); simp only [Act.put, yA, yB, yC, yD, yE, yF]) | ((first | ((with_reducible apply st_strsum H); rfl; rfl; exact szF; kernel_rfl) | ((with_reducible apply st_loadat H); decide +kernel; rfl; exact aF; exact zF; rfl) | ((with_reducible apply st_storerow H); rfl; exact eF; (first | exact cells_agg _ | exact cellI | exact cellS | exact cellB | exact (rfl : _ = [_])); exact uF; kernel_rfl; exact Nat.succ_pos _; exact fitF; rfl)); clear H; intro wn H; simp only [Act.put, yA, yB, yC, yD, yE, yF]) | fail)
      apply wp_region_sw (C0 := fun w => Hs R w0 (Hl.row 30 2 (.slice (some ⟨g, 0, none⟩) n c) n (flat encFm l') :: L) w) (C1 := fun w => Hs R w0 (Hl.row 30 2 (.slice (some ⟨g, 0, none⟩) n c) n (spl (flat encFm l') (p * 2) [.int .i64 y1, .string y2]) :: L) w) (C2 := fun w => Hs R w0 (Hl.row 30 2 (.slice (some ⟨g, 0, none⟩) n c) n (spl (spl (flat encFm l') (p * 2) [.int .i64 y1, .string y2]) (q * 2) [.int .i64 x1, .string x2]) :: L) w) 21 23 [_, _, _, _, _, _, _, _, _, _, _, _, _, _, _, _, _, _, _, _, _, _, _, _] (by kernel_rfl) (by kernel_rfl) (by kernel_rfl) (by kernel_rfl) (by decide) H.drew (fun _ _ h hb => h.later hb) (fun _ _ h hb => h.later hb) (fun _ _ h hb => h.later hb)
      (refine sw_v rfl rfl rfl (fun w1 => by exact qVF) ?_; simp only [Act.put, yA, yB, yC, yD, yE, yF])
      (refine sw_v rfl rfl rfl (fun w1 => by exact qVF) ?_; simp only [Act.put, yA, yB, yC, yD, yE, yF])
      (refine sw_v rfl rfl rfl (fun w1 => by exact qVF) ?_; simp only [Act.put, yA, yB, yC, yD, yE, yF])
      (refine sw_v rfl rfl rfl (fun w1 => by exact qAR) ?_; simp only [Act.put, yA, yB, yC, yD, yE, yF])
      (refine sw_v rfl rfl rfl (fun w1 => by exact qVF) ?_; simp only [Act.put, yA, yB, yC, yD, yE, yF])
      (refine sw_v rfl rfl rfl (fun w1 => by exact qVF) ?_; simp only [Act.put, yA, yB, yC, yD, yE, yF])
      (refine sw_v rfl rfl rfl (fun w1 => by exact qVF) ?_; simp only [Act.put, yA, yB, yC, yD, yE, yF])
      (refine sw_v rfl rfl rfl (fun w1 => by exact qAR) ?_; simp only [Act.put, yA, yB, yC, yD, yE, yF])
      (refine sw_v rfl rfl rfl (fun w1 => by exact qVF) ?_; simp only [Act.put, yA, yB, yC, yD, yE, yF])
      (refine sw_v rfl rfl rfl (fun w1 => by exact qVF) ?_; simp only [Act.put, yA, yB, yC, yD, yE, yF])
      (refine sw_v rfl rfl rfl (fun w1 => by exact qVF) ?_; simp only [Act.put, yA, yB, yC, yD, yE, yF])
      (refine sw_v rfl rfl rfl (fun w1 => by exact qAR) ?_; simp only [Act.put, yA, yB, yC, yD, yE, yF])
      (refine sw_v rfl rfl rfl (fun w1 => by exact qVF) ?_; simp only [Act.put, yA, yB, yC, yD, yE, yF])
      (refine sw_r rfl rfl rfl (by kernel_rfl) (fun w1 H1 => by exact qLR) ?_; simp only [Act.put, yA, yB, yC, yD, yE, yF])
      (refine sw_v rfl rfl rfl (fun w1 => by exact qVF) ?_; simp only [Act.put, yA, yB, yC, yD, yE, yF])
      (refine sw_v rfl rfl rfl (fun w1 => by exact qVF) ?_; simp only [Act.put, yA, yB, yC, yD, yE, yF])
      (refine sw_v rfl rfl rfl (fun w1 => by exact qVF) ?_; simp only [Act.put, yA, yB, yC, yD, yE, yF])
      (refine sw_v rfl rfl rfl (fun w1 => by exact qAR) ?_; simp only [Act.put, yA, yB, yC, yD, yE, yF])
      (refine sw_v rfl rfl rfl (fun w1 => by exact qVF) ?_; simp only [Act.put, yA, yB, yC, yD, yE, yF])
      (refine sw_r rfl rfl rfl (by kernel_rfl) (fun w1 H1 => by exact qLR) ?_; simp only [Act.put, yA, yB, yC, yD, yE, yF])
      (refine sw_v rfl rfl rfl (fun w1 => by exact qVF) ?_; simp only [Act.put, yA, yB, yC, yD, yE, yF])
      (refine sw_1 rfl rfl (fun w1 H1 => by exact stR) ?_; simp only [Act.put, yA, yB, yC, yD, yE, yF])
      (refine sw_v rfl rfl rfl (fun w1 => by exact qVF) ?_; simp only [Act.put, yA, yB, yC, yD, yE, yF])
      (refine sw_2 rfl rfl rfl (fun w1 H1 => by exact stR) ?_; simp only [Act.put, yA, yB, yC, yD, yE, yF])
      clear H; intro wn H
      rw [HSW.out] at H
      go_wp2_with (first | ((first | ((with_reducible apply st_load1 H); decide +kernel; rfl; exact cF) | ((with_reducible apply st_loads H); decide +kernel; rfl; exact iF; exact zF; rfl) | ((with_reducible apply st_store H); rfl; exact eF; (focus (exact cells_agg _)); exact uF; kernel_rfl; (focus (exact Nat.le_of_ble_eq_true (by rfl))); (focus (first | rfl | simp))) | ((with_reducible apply st_storeown H); rfl; exact eF; (focus (exact (rfl : _ = [_]))); exact uF; (focus omega); kernel_rfl; rfl)); clear H; intro wn H; (try simp only [splice, yG, yH, yI, yJ, yK, yL, yM, yN, yO, yP, yQ, Nat.reduceAdd, yA, yB, yC] at H); simp only [Act.put, yA, yB, yC, yD, yE, yF]) | ((first | ((with_reducible apply st_strsum H); rfl; rfl; exact szF; kernel_rfl) | ((with_reducible apply st_loadat H); decide +kernel; rfl; exact aF; exact zF; rfl) | ((with_reducible apply st_storerow H); rfl; exact eF; (first | exact cells_agg _ | exact cellI | exact cellS | exact cellB | exact (rfl : _ = [_])); exact uF; kernel_rfl; exact Nat.succ_pos _; exact fitF; rfl)); clear H; intro wn H; simp only [Act.put, yA, yB, yC, yD, yE, yF]) | fail)
      go_roundg (m - (i + 1))
      case measure => omega
      case rel => exact ⟨i + 1, _, by omega, by go_num, HI2, HL2, H⟩
    · have hlt1 : ¬ (i : Int) < m := by omega
      have HE : Hid (l' = z) := Lib.hid (by rw [HI.out, show m - i = 0 by omega]; rfl)
      go_wp2_with (first | ((first | ((with_reducible apply st_load1 H); decide +kernel; rfl; exact cF) | ((with_reducible apply st_loads H); decide +kernel; rfl; exact iF; exact zF; rfl) | ((with_reducible apply st_store H); rfl; exact eF; (focus (exact cells_agg _)); exact uF; kernel_rfl; (focus (exact Nat.le_of_ble_eq_true (by rfl))); (focus (first | rfl | simp))) | ((with_reducible apply st_storeown H); rfl; exact eF; (focus (exact (rfl : _ = [_]))); exact uF; (focus omega); kernel_rfl; rfl)); clear H; intro wn H; (try simp only [splice, yG, yH, yI, yJ, yK, yL, yM, yN, yO, yP, yQ, Nat.reduceAdd, yA, yB, yC] at H); simp only [Act.put, yA, yB, yC, yD, yE, yF]) | ((first | ((with_reducible apply st_strsum H); rfl; rfl; exact szF; kernel_rfl) | ((with_reducible apply st_loadat H); decide +kernel; rfl; exact aF; exact zF; rfl) | ((with_reducible apply st_storerow H); rfl; exact eF; (first | exact cells_agg _ | exact cellI | exact cellS | exact cellB | exact (rfl : _ = [_])); exact uF; kernel_rfl; exact Nat.succ_pos _; exact fitF; rfl)); clear H; intro wn H; simp only [Act.put, yA, yB, yC, yD, yE, yF]) | fail)
      go_end0
      exact ⟨rfl, by rw [← HE.out]; exact H⟩
end Go.Proofs.Ythkebpgkhblcjaa
namespace Go.Proofs.Ythkebpgkhblcjaa
open Go.RowKit M
set_option maxRecDepth 100000 in
set_option maxHeartbeats 4000000 in
theorem insertion_Fm (g n c : Nat) (l : List Fm) (hn : n = l.length) (hn9 : n ≤ 1000000000) (gc : Nat) (lb : Array Value) (cf : Fm → Fm → Int) (eg : ∀ args w, (callFunc gc args).run Try.prog w = .ok (.enter gc args) w) (hc : ∀ w x y, Gives Try.prog gc (#[.agg (encFm x).toArray, .agg (encFm y).toArray] ++ lb) w (.int .i64 (cf x y))) (a b : Nat) (ha : a ≤ n) (hb : b ≤ n) (R : Nat → Prop) (w0 : World) (L : List Hl) (w : World) (H : Hs R w0 (Hl.row 30 2 (.slice (some ⟨g, 0, none⟩) n c) n (flat encFm l) :: L) w) :
    Calls Try.prog 36 #[.slice (some ⟨g, 0, none⟩) n c, .int .i64 a, .int .i64 b, .func (.func gc) #[] lb] w (SPostFm g n c (Stb.insUp (fun x y => decide (cf x y < 0)) a (a + 1) (b - (a + 1)) l) R w0 L) := by
  obtain ⟨lt, hlt0⟩ : ∃ lt : Fm → Fm → Bool, lt = (fun x y => decide (cf x y < 0)) := ⟨_, rfl⟩
  rw [← hlt0]
  have HLT := Lib.hid hlt0
  obtain ⟨z, hz⟩ : ∃ z, z = Stb.insUp lt a (a + 1) (b - (a + 1)) l := ⟨_, rfl⟩
  rw [← hz]
  have HZ := Lib.hid hz
  have HN := Lib.hid hn
  have HC := Lib.hid hc
  clear hz hn hc hlt0
  go_enter Try.func36, Try.ntmps36
  go_wp2_with (first | ((first | ((with_reducible apply st_load1 H); decide +kernel; rfl; exact cF) | ((with_reducible apply st_loads H); decide +kernel; rfl; exact iF; exact zF; rfl) | ((with_reducible apply st_store H); rfl; exact eF; (focus (exact cells_agg _)); exact uF; kernel_rfl; (focus (exact Nat.le_of_ble_eq_true (by rfl))); (focus (first | rfl | simp))) | ((with_reducible apply st_storeown H); rfl; exact eF; (focus (exact (rfl : _ = [_]))); exact uF; (focus omega); kernel_rfl; rfl)); clear H; intro wn H; (try simp only [splice, yG, yH, yI, yJ, yK, yL, yM, yN, yO, yP, yQ, Nat.reduceAdd, yA, yB, yC] at H); simp only [Act.put, yA, yB, yC, yD, yE, yF]) | ((first | ((with_reducible apply st_strsum H); rfl; rfl; exact szF; kernel_rfl) | ((with_reducible apply st_loadat H); decide +kernel; rfl; exact aF; exact zF; rfl) | ((with_reducible apply st_storerow H); rfl; exact eF; (first | exact cells_agg _ | exact cellI | exact cellS | exact cellB | exact (rfl : _ = [_])); exact uF; kernel_rfl; exact Nat.succ_pos _; exact fitF; rfl)); clear H; intro wn H; simp only [Act.put, yA, yB, yC, yD, yE, yF]) | fail)
  go_loopg [8, 9] (b - (a + 1)) (fun k iv _ wr => ∃ (i : Nat) (l' : List Fm), a < i ∧ k = b - i ∧ iv = .int .i64 i ∧ Hid (z = Stb.insUp lt a i (b - i) l') ∧ Hid (l'.length = n) ∧ Hs R w0 (Hl.row 30 2 (.slice (some ⟨g, 0, none⟩) n c) n (flat encFm l') :: L) wr)
  case atStart => exact ⟨a + 1, l, by omega, rfl, by go_num, HZ, Lib.hid HN.out.symm, H⟩
  case round =>
    clear H
    obtain ⟨i, l1, hai, hk, rfl, HI, HL, H⟩ := hrel
    by_cases hlt : i < b
    · have hlt1 : (i : Int) < b := by omega
      have HI2 : Hid (z = Stb.insUp lt a (i + 1) (b - (i + 1)) (Stb.insDown lt a i l1)) := Lib.hid (by rw [HI.out, show b - i = (b - (i + 1)) + 1 by omega]; rfl)
      clear HI
      obtain ⟨r, hr⟩ : ∃ r, r = Stb.insDown lt a i l1 := ⟨_, rfl⟩
      rw [← hr] at HI2
      have HR := Lib.hid hr
      have HRL : Hid (r.length = n) := Lib.hid (by rw [hr, insDown_len, HL.out])
      clear hr
      go_wp2_with (first | ((first | ((with_reducible apply st_load1 H); decide +kernel; rfl; exact cF) | ((with_reducible apply st_loads H); decide +kernel; rfl; exact iF; exact zF; rfl) | ((with_reducible apply st_store H); rfl; exact eF; (focus (exact cells_agg _)); exact uF; kernel_rfl; (focus (exact Nat.le_of_ble_eq_true (by rfl))); (focus (first | rfl | simp))) | ((with_reducible apply st_storeown H); rfl; exact eF; (focus (exact (rfl : _ = [_]))); exact uF; (focus omega); kernel_rfl; rfl)); clear H; intro wn H; (try simp only [splice, yG, yH, yI, yJ, yK, yL, yM, yN, yO, yP, yQ, Nat.reduceAdd, yA, yB, yC] at H); simp only [Act.put, yA, yB, yC, yD, yE, yF]) | ((first | ((with_reducible apply st_strsum H); rfl; rfl; exact szF; kernel_rfl) | ((with_reducible apply st_loadat H); decide +kernel; rfl; exact aF; exact zF; rfl) | ((with_reducible apply st_storerow H); rfl; exact eF; (first | exact cells_agg _ | exact cellI | exact cellS | exact cellB | exact (rfl : _ = [_])); exact uF; kernel_rfl; exact Nat.succ_pos _; exact fitF; rfl)); clear H; intro wn H; simp only [Act.put, yA, yB, yC, yD, yE, yF]) | fail)
      go_loopg [9] (i - a) (fun k jv wr => ∃ (j : Nat) (l' : List Fm), a ≤ j ∧ j ≤ i ∧ k = j - a ∧ jv = .int .i64 j ∧ Hid (r = Stb.insDown lt a j l') ∧ Hid (l'.length = n) ∧ Hs R w0 (Hl.row 30 2 (.slice (some ⟨g, 0, none⟩) n c) n (flat encFm l') :: L) wr)
      case atStart => exact ⟨i, l1, by omega, by omega, rfl, rfl, HR, HL, H⟩
      case round =>
        clear H HR HL
        obtain ⟨j, l', haj, hji, hkj, rfl, HJ, HL, H⟩ := hrel
        by_cases hja : a < j
        · obtain ⟨q, rfl⟩ : ∃ q, j = q + 1 := ⟨j - 1, by omega⟩
          have hja1 : (a : Int) < (q : Int) + 1 := by omega
          obtain ⟨x, hx⟩ : ∃ x, l'[(q + 1)]? = some x := ⟨l'[(q + 1)]'(by rw [HL.out]; omega), List.getElem?_eq_getElem (by rw [HL.out]; omega)⟩
          obtain ⟨y, hy⟩ : ∃ x, l'[q]? = some x := ⟨l'[q]'(by rw [HL.out]; omega), List.getElem?_eq_getElem (by rw [HL.out]; omega)⟩
          have hstep := HJ.out
          unfold Stb.insDown at hstep
          rw [if_pos (by omega), Stb.ltAt_at x y lt hx hy] at hstep
          have hp : q + 1 < n := by omega
          have hq : q < n := by omega
          have hp3 : (q : Int) + 1 < n := by omega
          have hq3 : (q : Int) < n := by omega
          have hcc := fun w1 => HC.out w1 x y
          have hqx : lt x y = decide (cf x y < 0) := by rw [HLT.out]
          rw [hqx] at hstep
          generalize cf x y = v at *
          clear hqx HJ
          have HL2 : Hid ((Stb.sw l' (q + 1) q).length = n) := Lib.hid ((sw_len _ _ _).trans HL.out)
          have hsw := flat_sw (enc := encFm) (s := 2) (fun _ => rfl) hx hy
          obtain ⟨x1, x2⟩ := x
          obtain ⟨y1, y2⟩ := y
          have s1 : Seg (flat encFm l') ((q + 1) * 2) [.int .i64 x1, .string x2] := flat_segG (enc := encFm) (s := 2) (fun _ => rfl) hx
          have s2 : Seg (flat encFm l') (q * 2) [.int .i64 y1, .string y2] := flat_segG (enc := encFm) (s := 2) (fun _ => rfl) hy
          have HSW : Hid (spl (spl (flat encFm l') ((q + 1) * 2) [.int .i64 y1, .string y2]) (q * 2) [.int .i64 x1, .string x2] = flat encFm (Stb.sw l' (q + 1) q)) := Lib.hid hsw
          have hfl : (flat encFm l').length = n * 2 := by rw [flat_length (enc := encFm) (s := 2) (fun _ => rfl), HL.out]
          have hf1 : (q + 1) * 2 + 2 ≤ (flat encFm l').length := by omega
          have hf2 : q * 2 + 2 ≤ (flat encFm l').length := by omega
          clear hx hy hsw hfl
          unfold encFm at hcc
          simp only at hcc
          by_cases hv : v < 0
          · rw [if_pos (by simpa using hv)] at hstep
            have HJ2 := Lib.hid hstep
            clear hstep
            go_wp2_with (first | ((first | ((with_reducible apply st_load1 H); decide +kernel; rfl; exact cF) | ((with_reducible apply st_loads H); decide +kernel; rfl; exact iF; exact zF; rfl) | ((with_reducible apply st_store H); rfl; exact eF; (focus (exact cells_agg _)); exact uF; kernel_rfl; (focus (exact Nat.le_of_ble_eq_true (by rfl))); (focus (first | rfl | simp))) | ((with_reducible apply st_storeown H); rfl; exact eF; (focus (exact (rfl : _ = [_]))); exact uF; (focus omega); kernel_rfl; rfl)); clear H; intro wn H; (try simp only [splice, yG, yH, yI, yJ, yK, yL, yM, yN, yO, yP, yQ, Nat.reduceAdd, yA, yB, yC] at H); simp only [Act.put, yA, yB, yC, yD, yE, yF]) | ((first | ((with_reducible apply st_strsum H); rfl; rfl; exact szF; kernel_rfl) | ((with_reducible apply st_loadat H); decide +kernel; rfl; exact aF; exact zF; rfl) | ((with_reducible apply st_storerow H); rfl; exact eF; (first | exact cells_agg _ | exact cellI | exact cellS | exact cellB | exact (rfl : _ = [_])); exact uF; kernel_rfl; exact Nat.succ_pos _; exact fitF; rfl)); clear H; intro wn H; simp only [Act.put, yA, yB, yC, yD, yE, yF]) | fail)
            apply wp_region_hq H (by kernel_rfl) (by kernel_rfl); (iterate 8 ((with_reducible refine' hq_step ?_ ?_ ?_); rotate_left; (focus rfl); (focus (intro w1 H1; exact qLF)); simp only [Act.put, yA, yB, yC, yD, yE, yF]; (try simp only [yG, yH, yJ, yK]))); (with_reducible refine' hq_step ?_ ?_ ?_); rotate_left; (focus rfl); (focus (intro w1 H1; exact qLR)); simp only [Act.put, yA, yB, yC, yD, yE, yF]; (iterate 2 ((with_reducible refine' hq_step ?_ ?_ ?_); rotate_left; (focus rfl); (focus (intro w1 H1; exact qLF)); simp only [Act.put, yA, yB, yC, yD, yE, yF]; (try simp only [yG, yH, yJ, yK]))); (with_reducible refine' hq_step ?_ ?_ ?_); rotate_left; (focus rfl); (focus (intro w1 H1; exact qAR)); simp only [Act.put, yA, yB, yC, yD, yE, yF]; (iterate 1 ((with_reducible refine' hq_step ?_ ?_ ?_); rotate_left; (focus rfl); (focus (intro w1 H1; exact qLF)); simp only [Act.put, yA, yB, yC, yD, yE, yF]; (try simp only [yG, yH, yJ, yK]))); (with_reducible refine' hq_step ?_ ?_ ?_); rotate_left; (focus rfl); (focus (intro w1 H1; exact qLR)); simp only [Act.put, yA, yB, yC, yD, yE, yF]; (with_reducible refine' hq_step ?_ ?_ ?_); rotate_left; (focus rfl); (focus (intro w1 H1; exact qCR)); simp only [Act.put, yA, yB, yC, yD, yE, yF]; (iterate 2 ((with_reducible refine' hq_step ?_ ?_ ?_); rotate_left; (focus rfl); (focus (intro w1 H1; exact qLF)); simp only [Act.put, yA, yB, yC, yD, yE, yF]; (try simp only [yG, yH, yJ, yK]))); refine wpQuiet_nil ?_; clear H; intro wn H
            clear hcc
            go_wp2_with (first | ((first | ((with_reducible apply st_load1 H); decide +kernel; rfl; exact cF) | ((with_reducible apply st_loads H); decide +kernel; rfl; exact iF; exact zF; rfl) | ((with_reducible apply st_store H); rfl; exact eF; (focus (exact cells_agg _)); exact uF; kernel_rfl; (focus (exact Nat.le_of_ble_eq_true (by rfl))); (focus (first | rfl | simp))) | ((with_reducible apply st_storeown H); rfl; exact eF; (focus (exact (rfl : _ = [_]))); exact uF; (focus omega); kernel_rfl; rfl)); clear H; intro wn H; (try simp only [splice, yG, yH, yI, yJ, yK, yL, yM, yN, yO, yP, yQ, Nat.reduceAdd, yA, yB, yC] at H); simp only [Act.put, yA, yB, yC, yD, yE, yF]) | ((first | ((with_reducible apply st_strsum H); rfl; rfl; exact szF; kernel_rfl) | ((with_reducible apply st_loadat H); decide +kernel; rfl; exact aF; exact zF; rfl) | ((with_reducible apply st_storerow H); rfl; exact eF; (first | exact cells_agg _ | exact cellI | exact cellS | exact cellB | exact (rfl : _ = [_])); exact uF; kernel_rfl; exact Nat.succ_pos _; exact fitF; rfl)); clear H; intro wn H; simp only [Act.put, yA, yB, yC, yD, yE, yF]) | fail)
            apply wp_region_sw (C0 := fun w => Hs R w0 (Hl.row 30 2 (.slice (some ⟨g, 0, none⟩) n c) n (flat encFm l') :: L) w) (C1 := fun w => Hs R w0 (Hl.row 30 2 (.slice (some ⟨g, 0, none⟩) n c) n (spl (flat encFm l') ((q + 1) * 2) [.int .i64 y1, .string y2]) :: L) w) (C2 := fun w => Hs R w0 (Hl.row 30 2 (.slice (some ⟨g, 0, none⟩) n c) n (spl (spl (flat encFm l') ((q + 1) * 2) [.int .i64 y1, .string y2]) (q * 2) [.int .i64 x1, .string x2]) :: L) w) 15 17 [_, _, _, _, _, _, _, _, _, _, _, _, _, _, _, _, _, _] (by kernel_rfl) (by kernel_rfl) (by kernel_rfl) (by kernel_rfl) (by decide) H.drew (fun _ _ h hb => h.later hb) (fun _ _ h hb => h.later hb) (fun _ _ h hb => h.later hb)
            (refine sw_v rfl rfl rfl (fun w1 => by exact qVF) ?_; simp only [Act.put, yA, yB, yC, yD, yE, yF])
            (refine sw_v rfl rfl rfl (fun w1 => by exact qVF) ?_; simp only [Act.put, yA, yB, yC, yD, yE, yF])
            (refine sw_v rfl rfl rfl (fun w1 => by exact qVF) ?_; simp only [Act.put, yA, yB, yC, yD, yE, yF])
            (refine sw_v rfl rfl rfl (fun w1 => by exact qVF) ?_; simp only [Act.put, yA, yB, yC, yD, yE, yF])
            (refine sw_v rfl rfl rfl (fun w1 => by exact qAR) ?_; simp only [Act.put, yA, yB, yC, yD, yE, yF])
            (refine sw_v rfl rfl rfl (fun w1 => by exact qVF) ?_; simp only [Act.put, yA, yB, yC, yD, yE, yF])
            (refine sw_v rfl rfl rfl (fun w1 => by exact qVF) ?_; simp only [Act.put, yA, yB, yC, yD, yE, yF])
            (refine sw_v rfl rfl rfl (fun w1 => by exact qAR) ?_; simp only [Act.put, yA, yB, yC, yD, yE, yF])
            (refine sw_v rfl rfl rfl (fun w1 => by exact qVF) ?_; simp only [Act.put, yA, yB, yC, yD, yE, yF])
            (refine sw_r rfl rfl rfl (by kernel_rfl) (fun w1 H1 => by exact qLR) ?_; simp only [Act.put, yA, yB, yC, yD, yE, yF])
            (refine sw_v rfl rfl rfl (fun w1 => by exact qVF) ?_; simp only [Act.put, yA, yB, yC, yD, yE, yF])
            (refine sw_v rfl rfl rfl (fun w1 => by exact qVF) ?_; simp only [Act.put, yA, yB, yC, yD, yE, yF])
            (refine sw_v rfl rfl rfl (fun w1 => by exact qVF) ?_; simp only [Act.put, yA, yB, yC, yD, yE, yF])
            (refine sw_r rfl rfl rfl (by kernel_rfl) (fun w1 H1 => by exact qLR) ?_; simp only [Act.put, yA, yB, yC, yD, yE, yF])
            (refine sw_v rfl rfl rfl (fun w1 => by exact qVF) ?_; simp only [Act.put, yA, yB, yC, yD, yE, yF])
            (refine sw_1 rfl rfl (fun w1 H1 => by exact stR) ?_; simp only [Act.put, yA, yB, yC, yD, yE, yF])
            (refine sw_v rfl rfl rfl (fun w1 => by exact qVF) ?_; simp only [Act.put, yA, yB, yC, yD, yE, yF])
            (refine sw_2 rfl rfl rfl (fun w1 H1 => by exact stR) ?_; simp only [Act.put, yA, yB, yC, yD, yE, yF])
            clear H; intro wn H
            rw [HSW.out] at H
            go_wp2_with (first | ((first | ((with_reducible apply st_load1 H); decide +kernel; rfl; exact cF) | ((with_reducible apply st_loads H); decide +kernel; rfl; exact iF; exact zF; rfl) | ((with_reducible apply st_store H); rfl; exact eF; (focus (exact cells_agg _)); exact uF; kernel_rfl; (focus (exact Nat.le_of_ble_eq_true (by rfl))); (focus (first | rfl | simp))) | ((with_reducible apply st_storeown H); rfl; exact eF; (focus (exact (rfl : _ = [_]))); exact uF; (focus omega); kernel_rfl; rfl)); clear H; intro wn H; (try simp only [splice, yG, yH, yI, yJ, yK, yL, yM, yN, yO, yP, yQ, Nat.reduceAdd, yA, yB, yC] at H); simp only [Act.put, yA, yB, yC, yD, yE, yF]) | ((first | ((with_reducible apply st_strsum H); rfl; rfl; exact szF; kernel_rfl) | ((with_reducible apply st_loadat H); decide +kernel; rfl; exact aF; exact zF; rfl) | ((with_reducible apply st_storerow H); rfl; exact eF; (first | exact cells_agg _ | exact cellI | exact cellS | exact cellB | exact (rfl : _ = [_])); exact uF; kernel_rfl; exact Nat.succ_pos _; exact fitF; rfl)); clear H; intro wn H; simp only [Act.put, yA, yB, yC, yD, yE, yF]) | fail)
            go_roundg (q - a)
            case measure => omega
            case rel => exact ⟨q, _, by omega, by omega, rfl, by go_num, HJ2, HL2, H⟩
          · rw [if_neg (by simpa using hv)] at hstep
            have HE : Hid (r = l') := Lib.hid hstep
            clear hstep
            go_wp2_with (first | ((first | ((with_reducible apply st_load1 H); decide +kernel; rfl; exact cF) | ((with_reducible apply st_loads H); decide +kernel; rfl; exact iF; exact zF; rfl) | ((with_reducible apply st_store H); rfl; exact eF; (focus (exact cells_agg _)); exact uF; kernel_rfl; (focus (exact Nat.le_of_ble_eq_true (by rfl))); (focus (first | rfl | simp))) | ((with_reducible apply st_storeown H); rfl; exact eF; (focus (exact (rfl : _ = [_]))); exact uF; (focus omega); kernel_rfl; rfl)); clear H; intro wn H; (try simp only [splice, yG, yH, yI, yJ, yK, yL, yM, yN, yO, yP, yQ, Nat.reduceAdd, yA, yB, yC] at H); simp only [Act.put, yA, yB, yC, yD, yE, yF]) | ((first | ((with_reducible apply st_strsum H); rfl; rfl; exact szF; kernel_rfl) | ((with_reducible apply st_loadat H); decide +kernel; rfl; exact aF; exact zF; rfl) | ((with_reducible apply st_storerow H); rfl; exact eF; (first | exact cells_agg _ | exact cellI | exact cellS | exact cellB | exact (rfl : _ = [_])); exact uF; kernel_rfl; exact Nat.succ_pos _; exact fitF; rfl)); clear H; intro wn H; simp only [Act.put, yA, yB, yC, yD, yE, yF]) | fail)
            apply wp_region_hq H (by kernel_rfl) (by kernel_rfl); (iterate 8 ((with_reducible refine' hq_step ?_ ?_ ?_); rotate_left; (focus rfl); (focus (intro w1 H1; exact qLF)); simp only [Act.put, yA, yB, yC, yD, yE, yF]; (try simp only [yG, yH, yJ, yK]))); (with_reducible refine' hq_step ?_ ?_ ?_); rotate_left; (focus rfl); (focus (intro w1 H1; exact qLR)); simp only [Act.put, yA, yB, yC, yD, yE, yF]; (iterate 2 ((with_reducible refine' hq_step ?_ ?_ ?_); rotate_left; (focus rfl); (focus (intro w1 H1; exact qLF)); simp only [Act.put, yA, yB, yC, yD, yE, yF]; (try simp only [yG, yH, yJ, yK]))); (with_reducible refine' hq_step ?_ ?_ ?_); rotate_left; (focus rfl); (focus (intro w1 H1; exact qAR)); simp only [Act.put, yA, yB, yC, yD, yE, yF]; (iterate 1 ((with_reducible refine' hq_step ?_ ?_ ?_); rotate_left; (focus rfl); (focus (intro w1 H1; exact qLF)); simp only [Act.put, yA, yB, yC, yD, yE, yF]; (try simp only [yG, yH, yJ, yK]))); (with_reducible refine' hq_step ?_ ?_ ?_); rotate_left; (focus rfl); (focus (intro w1 H1; exact qLR)); simp only [Act.put, yA, yB, yC, yD, yE, yF]; (with_reducible refine' hq_step ?_ ?_ ?_); rotate_left; (focus rfl); (focus (intro w1 H1; exact qCR)); simp only [Act.put, yA, yB, yC, yD, yE, yF]; (iterate 2 ((with_reducible refine' hq_step ?_ ?_ ?_); rotate_left; (focus rfl); (focus (intro w1 H1; exact qLF)); simp only [Act.put, yA, yB, yC, yD, yE, yF]; (try simp only [yG, yH, yJ, yK]))); refine wpQuiet_nil ?_; clear H; intro wn H
            clear hcc
            go_wp2_with (first | ((first | ((with_reducible apply st_load1 H); decide +kernel; rfl; exact cF) | ((with_reducible apply st_loads H); decide +kernel; rfl; exact iF; exact zF; rfl) | ((with_reducible apply st_store H); rfl; exact eF; (focus (exact cells_agg _)); exact uF; kernel_rfl; (focus (exact Nat.le_of_ble_eq_true (by rfl))); (focus (first | rfl | simp))) | ((with_reducible apply st_storeown H); rfl; exact eF; (focus (exact (rfl : _ = [_]))); exact uF; (focus omega); kernel_rfl; rfl)); clear H; intro wn H; (try simp only [splice, yG, yH, yI, yJ, yK, yL, yM, yN, yO, yP, yQ, Nat.reduceAdd, yA, yB, yC] at H); simp only [Act.put, yA, yB, yC, yD, yE, yF]) | ((first | ((with_reducible apply st_strsum H); rfl; rfl; exact szF; kernel_rfl) | ((with_reducible apply st_loadat H); decide +kernel; rfl; exact aF; exact zF; rfl) | ((with_reducible apply st_storerow H); rfl; exact eF; (first | exact cells_agg _ | exact cellI | exact cellS | exact cellB | exact (rfl : _ = [_])); exact uF; kernel_rfl; exact Nat.succ_pos _; exact fitF; rfl)); clear H; intro wn H; simp only [Act.put, yA, yB, yC, yD, yE, yF]) | fail)
            go_roundg (b - (i + 1))
            case measure => omega
            case rel => exact ⟨i + 1, r, by omega, rfl, by go_num, HI2, HRL, by rw [HE.out]; exact H⟩
        · have hja1 : ¬ (a : Int) < (j : Int) := by omega
          have hstep := HJ.out
          have HE : Hid (r = l') := Lib.hid (by
            rw [hstep]
            cases j with
            | zero => rfl
            | succ j => unfold Stb.insDown; rw [if_neg (by omega)])
          clear hstep HJ
          go_wp2_with (first | ((first | ((with_reducible apply st_load1 H); decide +kernel; rfl; exact cF) | ((with_reducible apply st_loads H); decide +kernel; rfl; exact iF; exact zF; rfl) | ((with_reducible apply st_store H); rfl; exact eF; (focus (exact cells_agg _)); exact uF; kernel_rfl; (focus (exact Nat.le_of_ble_eq_true (by rfl))); (focus (first | rfl | simp))) | ((with_reducible apply st_storeown H); rfl; exact eF; (focus (exact (rfl : _ = [_]))); exact uF; (focus omega); kernel_rfl; rfl)); clear H; intro wn H; (try simp only [splice, yG, yH, yI, yJ, yK, yL, yM, yN, yO, yP, yQ, Nat.reduceAdd, yA, yB, yC] at H); simp only [Act.put, yA, yB, yC, yD, yE, yF]) | ((first | ((with_reducible apply st_strsum H); rfl; rfl; exact szF; kernel_rfl) | ((with_reducible apply st_loadat H); decide +kernel; rfl; exact aF; exact zF; rfl) | ((with_reducible apply st_storerow H); rfl; exact eF; (first | exact cells_agg _ | exact cellI | exact cellS | exact cellB | exact (rfl : _ = [_])); exact uF; kernel_rfl; exact Nat.succ_pos _; exact fitF; rfl)); clear H; intro wn H; simp only [Act.put, yA, yB, yC, yD, yE, yF]) | fail)
          apply wp_region_hq H (by kernel_rfl) (by kernel_rfl); (iterate 4 ((with_reducible refine' hq_step ?_ ?_ ?_); rotate_left; (focus rfl); (focus (intro w1 H1; exact qLF)); simp only [Act.put, yA, yB, yC, yD, yE, yF]; (try simp only [yG, yH, yJ, yK]))); (iterate 12 ((first | (with_reducible refine hq_gsT ?_ ?_) | (with_reducible refine hq_gsF ?_ ?_) | (with_reducible refine hq_skip ?_ ?_)); (focus rfl); (try simp only [Act.put, yA, yB, yC, yD, yE, yF]))); (iterate 1 ((with_reducible refine' hq_step ?_ ?_ ?_); rotate_left; (focus rfl); (focus (intro w1 H1; exact qLF)); simp only [Act.put, yA, yB, yC, yD, yE, yF]; (try simp only [yG, yH, yJ, yK]))); refine wpQuiet_nil ?_; clear H; intro wn H
          go_wp2_with (first | ((first | ((with_reducible apply st_load1 H); decide +kernel; rfl; exact cF) | ((with_reducible apply st_loads H); decide +kernel; rfl; exact iF; exact zF; rfl) | ((with_reducible apply st_store H); rfl; exact eF; (focus (exact cells_agg _)); exact uF; kernel_rfl; (focus (exact Nat.le_of_ble_eq_true (by rfl))); (focus (first | rfl | simp))) | ((with_reducible apply st_storeown H); rfl; exact eF; (focus (exact (rfl : _ = [_]))); exact uF; (focus omega); kernel_rfl; rfl)); clear H; intro wn H; (try simp only [splice, yG, yH, yI, yJ, yK, yL, yM, yN, yO, yP, yQ, Nat.reduceAdd, yA, yB, yC] at H); simp only [Act.put, yA, yB, yC, yD, yE, yF]) | ((first | ((with_reducible apply st_strsum H); rfl; rfl; exact szF; kernel_rfl) | ((with_reducible apply st_loadat H); decide +kernel; rfl; exact aF; exact zF; rfl) | ((with_reducible apply st_storerow H); rfl; exact eF; (first | exact cells_agg _ | exact cellI | exact cellS | exact cellB | exact (rfl : _ = [_])); exact uF; kernel_rfl; exact Nat.succ_pos _; exact fitF; rfl)); clear H; intro wn H; simp only [Act.put, yA, yB, yC, yD, yE, yF]) | fail)
          go_roundg (b - (i + 1))
          case measure => omega
          case rel => exact ⟨i + 1, r, by omega, rfl, by go_num, HI2, HRL, by rw [HE.out]; exact H⟩
    · have hlt1 : ¬ (i : Int) < b := by omega
      have HE : Hid (l1 = z) := Lib.hid (by rw [HI.out, show b - i = 0 by omega]; rfl)
      go_wp2_with (first | ((first | ((with_reducible apply st_load1 H); decide +kernel; rfl; exact cF) | ((with_reducible apply st_loads H); decide +kernel; rfl; exact iF; exact zF; rfl) | ((with_reducible apply st_store H); rfl; exact eF; (focus (exact cells_agg _)); exact uF; kernel_rfl; (focus (exact Nat.le_of_ble_eq_true (by rfl))); (focus (first | rfl | simp))) | ((with_reducible apply st_storeown H); rfl; exact eF; (focus (exact (rfl : _ = [_]))); exact uF; (focus omega); kernel_rfl; rfl)); clear H; intro wn H; (try simp only [splice, yG, yH, yI, yJ, yK, yL, yM, yN, yO, yP, yQ, Nat.reduceAdd, yA, yB, yC] at H); simp only [Act.put, yA, yB, yC, yD, yE, yF]) | ((first | ((with_reducible apply st_strsum H); rfl; rfl; exact szF; kernel_rfl) | ((with_reducible apply st_loadat H); decide +kernel; rfl; exact aF; exact zF; rfl) | ((with_reducible apply st_storerow H); rfl; exact eF; (first | exact cells_agg _ | exact cellI | exact cellS | exact cellB | exact (rfl : _ = [_])); exact uF; kernel_rfl; exact Nat.succ_pos _; exact fitF; rfl)); clear H; intro wn H; simp only [Act.put, yA, yB, yC, yD, yE, yF]) | fail)
      go_end0
      exact ⟨rfl, by rw [← HE.out]; exact H⟩
end Go.Proofs.Ythkebpgkhblcjaa
namespace Go.Proofs.Ythkebpgkhblcjaa
open Go.RowKit M
set_option maxRecDepth 100000 in
set_option maxHeartbeats 4000000 in
theorem rotate_Fm (g n c : Nat) (l : List Fm) (hn : n = l.length) (hn9 : n ≤ 1000000000) (cmp : Value) (a m b : Nat) (h1 : a < m) (h2 : m < b) (h3 : b ≤ n) (R : Nat → Prop) (w0 : World) (L : List Hl) (w : World) (H : Hs R w0 (Hl.row 30 2 (.slice (some ⟨g, 0, none⟩) n c) n (flat encFm l) :: L) w) :
    Calls Try.prog 42 #[.slice (some ⟨g, 0, none⟩) n c, .int .i64 a, .int .i64 m, .int .i64 b, cmp] w (SPostFm g n c (Stb.rot m (m - a) (b - m) l) R w0 L) := by
  obtain ⟨i0, hi0⟩ : ∃ i0, i0 = m - a := ⟨_, rfl⟩
  obtain ⟨j0, hj0⟩ : ∃ j0, j0 = b - m := ⟨_, rfl⟩
  rw [← hi0, ← hj0]
  have hpA : (m : Int) - (a : Int) = (i0 : Int) := by omega
  have hpB : (b : Int) - (m : Int) = (j0 : Int) := by omega
  have k1 : 0 < i0 := by omega
  have k2 : 0 < j0 := by omega
  have k3 : i0 ≤ m := by omega
  have k4 : m + j0 ≤ n := by omega
  obtain ⟨z, hz⟩ : ∃ z, z = Stb.rot m i0 j0 l := ⟨_, rfl⟩
  rw [← hz]
  have HZ := Lib.hid hz
  have HN := Lib.hid hn
  clear hz hn hi0 hj0
  go_enter Try.func42, Try.ntmps42
  go_wp2_with (first | ((first | ((with_reducible apply st_load1 H); decide +kernel; rfl; exact cF) | ((with_reducible apply st_loads H); decide +kernel; rfl; exact iF; exact zF; rfl)); clear H; intro wn H; (try simp only [splice, yG, yH, yI, yJ, yK, yL, yM, yN, yO, yP, yQ, Nat.reduceAdd, yA, yB, yC] at H); simp only [Act.put, yA, yB, yC, yD, yE, yF]) | ((first | ((with_reducible apply st_strsum H); rfl; rfl; exact szF; kernel_rfl)); clear H; intro wn H; simp only [Act.put, yA, yB, yC, yD, yE, yF]) | fail)
  clear hpA hpB h1 h2 h3
  go_loopg [10, 11] (i0 + j0) (fun k iv jv wr => ∃ (i j : Nat) (l' : List Fm), k = i + j ∧ (0 < i ∧ 0 < j ∧ i ≤ m ∧ m + j ≤ n) ∧ iv = .int .i64 i ∧ jv = .int .i64 j ∧ Hid (z = Stb.rot m i j l') ∧ Hid (l'.length = n) ∧ Hs R w0 (Hl.row 30 2 (.slice (some ⟨g, 0, none⟩) n c) n (flat encFm l') :: L) wr)
  case atStart => exact ⟨i0, j0, l, rfl, ⟨k1, k2, k3, k4⟩, rfl, rfl, HZ, Lib.hid HN.out.symm, H⟩
  case round =>
    clear H k1 k2 k3 k4 HZ
    obtain ⟨i, j, l', hk, ⟨k1, k2, k3, k4⟩, rfl, rfl, HI, HL, H⟩ := hrel
    obtain ⟨d, hd⟩ : ∃ d, d = m - i := ⟨_, rfl⟩
    have hpA : (m : Int) - (i : Int) = (d : Int) := by omega
    have hstep := HI.out
    rw [Stb.rot, ← hd] at hstep
    by_cases hij : i = j
    · subst hij
      rw [if_pos (.inl rfl)] at hstep
      have HE := Lib.hid hstep
      have hne : ((i : Int) != (i : Int)) = false := by simp
      have kd : d + i ≤ n := by omega
      clear hstep HI hd
      go_wp2_with (first | ((first | ((with_reducible apply st_load1 H); decide +kernel; rfl; exact cF) | ((with_reducible apply st_loads H); decide +kernel; rfl; exact iF; exact zF; rfl)); clear H; intro wn H; (try simp only [splice, yG, yH, yI, yJ, yK, yL, yM, yN, yO, yP, yQ, Nat.reduceAdd, yA, yB, yC] at H); simp only [Act.put, yA, yB, yC, yD, yE, yF]) | ((first | ((with_reducible apply st_strsum H); rfl; rfl; exact szF; kernel_rfl)); clear H; intro wn H; simp only [Act.put, yA, yB, yC, yD, yE, yF]) | fail)
      refine (swapRange_Fm g n c l' HL.out.symm hn9 cmp d m i kd k4 R w0 L _ H).mono ?_
      rintro e wn ⟨rfl, Hn⟩
      clear H
      have H := Hn
      clear Hn
      go_wp2_with (first | ((first | ((with_reducible apply st_load1 H); decide +kernel; rfl; exact cF) | ((with_reducible apply st_loads H); decide +kernel; rfl; exact iF; exact zF; rfl)); clear H; intro wn H; (try simp only [splice, yG, yH, yI, yJ, yK, yL, yM, yN, yO, yP, yQ, Nat.reduceAdd, yA, yB, yC] at H); simp only [Act.put, yA, yB, yC, yD, yE, yF]) | ((first | ((with_reducible apply st_strsum H); rfl; rfl; exact szF; kernel_rfl)); clear H; intro wn H; simp only [Act.put, yA, yB, yC, yD, yE, yF]) | fail)
      go_end0
      exact ⟨rfl, by rw [HE.out]; exact H⟩
    rw [if_neg (by omega)] at hstep
    have hne : ((i : Int) != (j : Int)) = true := by simp; omega
    by_cases hlt : j < i
    · rw [if_pos hlt] at hstep
      obtain ⟨e, he⟩ : ∃ e, e = i - j := ⟨_, rfl⟩
      rw [← he] at hstep
      have HE := Lib.hid hstep
      have hgt : (j : Int) < (i : Int) := by omega
      have hpB : (i : Int) - (j : Int) = (e : Int) := by omega
      have ke : 0 < e := by omega
      have ke2 : e ≤ m := by omega
      have ke3 : e + j < i + j := by omega
      have kd : d + j ≤ n := by omega
      clear hstep HI hd he
      go_wp2_with (first | ((first | ((with_reducible apply st_load1 H); decide +kernel; rfl; exact cF) | ((with_reducible apply st_loads H); decide +kernel; rfl; exact iF; exact zF; rfl)); clear H; intro wn H; (try simp only [splice, yG, yH, yI, yJ, yK, yL, yM, yN, yO, yP, yQ, Nat.reduceAdd, yA, yB, yC] at H); simp only [Act.put, yA, yB, yC, yD, yE, yF]) | ((first | ((with_reducible apply st_strsum H); rfl; rfl; exact szF; kernel_rfl)); clear H; intro wn H; simp only [Act.put, yA, yB, yC, yD, yE, yF]) | fail)
      refine (swapRange_Fm g n c l' HL.out.symm hn9 cmp d m j kd k4 R w0 L _ H).mono ?_
      rintro e wn ⟨rfl, Hn⟩
      clear H
      have H := Hn
      clear Hn
      go_wp2_with (first | ((first | ((with_reducible apply st_load1 H); decide +kernel; rfl; exact cF) | ((with_reducible apply st_loads H); decide +kernel; rfl; exact iF; exact zF; rfl)); clear H; intro wn H; (try simp only [splice, yG, yH, yI, yJ, yK, yL, yM, yN, yO, yP, yQ, Nat.reduceAdd, yA, yB, yC] at H); simp only [Act.put, yA, yB, yC, yD, yE, yF]) | ((first | ((with_reducible apply st_strsum H); rfl; rfl; exact szF; kernel_rfl)); clear H; intro wn H; simp only [Act.put, yA, yB, yC, yD, yE, yF]) | fail)
      go_roundg (e + j)
      case measure => omega
      case rel => exact ⟨e, j, _, rfl, ⟨ke, k2, ke2, k4⟩, by go_num, rfl, HE, Lib.hid ((swR_len _ _ _ _).trans HL.out), H⟩
    · rw [if_neg hlt] at hstep
      obtain ⟨e, he⟩ : ∃ e, e = j - i := ⟨_, rfl⟩
      obtain ⟨f, hf⟩ : ∃ f, f = m + j - i := ⟨_, rfl⟩
      rw [← he, ← hf] at hstep
      have HE := Lib.hid hstep
      have hgt : ¬ (j : Int) < (i : Int) := by omega
      have hpB : (j : Int) - (i : Int) = (e : Int) := by omega
      have hpC : (m : Int) + (j : Int) - (i : Int) = (f : Int) := by omega
      have ke : 0 < e := by omega
      have ke2 : m + e ≤ n := by omega
      have ke3 : i + e < i + j := by omega
      have kd : d + i ≤ n := by omega
      have kf : f + i ≤ n := by omega
      clear hstep HI hd he hf
      go_wp2_with (first | ((first | ((with_reducible apply st_load1 H); decide +kernel; rfl; exact cF) | ((with_reducible apply st_loads H); decide +kernel; rfl; exact iF; exact zF; rfl)); clear H; intro wn H; (try simp only [splice, yG, yH, yI, yJ, yK, yL, yM, yN, yO, yP, yQ, Nat.reduceAdd, yA, yB, yC] at H); simp only [Act.put, yA, yB, yC, yD, yE, yF]) | ((first | ((with_reducible apply st_strsum H); rfl; rfl; exact szF; kernel_rfl)); clear H; intro wn H; simp only [Act.put, yA, yB, yC, yD, yE, yF]) | fail)
      refine (swapRange_Fm g n c l' HL.out.symm hn9 cmp d f i kd kf R w0 L _ H).mono ?_
      rintro e wn ⟨rfl, Hn⟩
      clear H
      have H := Hn
      clear Hn
      go_wp2_with (first | ((first | ((with_reducible apply st_load1 H); decide +kernel; rfl; exact cF) | ((with_reducible apply st_loads H); decide +kernel; rfl; exact iF; exact zF; rfl)); clear H; intro wn H; (try simp only [splice, yG, yH, yI, yJ, yK, yL, yM, yN, yO, yP, yQ, Nat.reduceAdd, yA, yB, yC] at H); simp only [Act.put, yA, yB, yC, yD, yE, yF]) | ((first | ((with_reducible apply st_strsum H); rfl; rfl; exact szF; kernel_rfl)); clear H; intro wn H; simp only [Act.put, yA, yB, yC, yD, yE, yF]) | fail)
      go_roundg (i + e)
      case measure => omega
      case rel => exact ⟨i, e, _, rfl, ⟨k1, ke, k3, ke2⟩, rfl, by go_num, HE, Lib.hid ((swR_len _ _ _ _).trans HL.out), H⟩
end Go.Proofs.Ythkebpgkhblcjaa
