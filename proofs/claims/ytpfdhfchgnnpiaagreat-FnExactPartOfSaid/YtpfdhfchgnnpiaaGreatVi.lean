/-
  Tasks in their order: both sides' models agree (plain).
-/
import Derived.Test.YtpfdhfchgnnpiaaGreatVg
import Derived.Test.YtpfdhfchgnnpiaaGreatG8
import Derived.Test.YtpfdhfchgnnpiaaGreatG4
set_option linter.unusedSimpArgs false
set_option linter.unusedVariables false
namespace Go.Proofs.YtpfdhfchgnnpiaaGreat
open Go.RowKit M
namespace M
def taskNoS (l : List Ta) (i : Nat) (x : Ta) : Bool := match i with
  | 0 => x.1.2.1 == 1
  | j + 1 => match l[j]? with
    | some y => if ordL y.1.1 < ordL x.1.1 then x.1.2.1 == 1 else eqB y.1.1 x.1.1 && y.1.2.1 + 1 == x.1.2.1
    | none => true
def taskInS (l : List Ta) (i : Nat) : Bool := match l[i]? with
  | some x => taskOk x && (taskNoS l i x && (!(tkAft x != 0) || !decide (idxF (tkEq (tkUnd x) (tkAft x)) 0 (l.take i) < 0)))
  | none => true
def tasksOkS (l : List Ta) : Bool := decide (l.length ≤ 96) && allFrom (taskInS l) l.length 0
theorem taskOk_lab {x : Ta} (h : taskOk x = true) : okL x.1.1 = true := by
  obtain ⟨⟨⟨l1, l2⟩, id, ow, need, long, prio, ⟨u1, u2⟩, aft, born, st, start⟩, nodes⟩ := x
  unfold taskOk taskHead at h
  simp only [Bool.and_eq_true] at h
  exact h.1.1
theorem below_ord : ∀ a ∈ labsAll, ∀ b ∈ labsAll, belowB a b = true → ordL a ≤ ordL b := by decide +kernel
theorem taskOk_dep {x : Ta} (h : taskOk x = true) (h0 : tkAft x ≠ 0) : 1 ≤ tkAft x ∧ tkAft x ≤ 12 ∧ ordL (tkUnd x) * 100 + tkAft x < ordL x.1.1 * 100 + x.1.2.1 := by
  have hid := taskOk_id h
  have hl := taskOk_lab h
  obtain ⟨⟨⟨l1, l2⟩, id, ow, need, long, prio, ⟨u1, u2⟩, aft, born, st, start⟩, nodes⟩ := x
  unfold tkAft tkUnd at *
  unfold taskOk taskDep at h
  simp only at h h0 hid hl ⊢
  rw [if_neg (by rintro ⟨h1, _⟩; exact h0 h1)] at h
  unfold isIn at h
  simp only [Bool.and_eq_true, decide_eq_true_eq, Bool.not_eq_true', Bool.and_eq_false_iff, decide_eq_false_iff_not] at h
  obtain ⟨_, ⟨⟨⟨h1, h2⟩, h3, _, h4⟩, h5⟩, _⟩ := h
  have h6 := below_ord _ (labsAll_mem h3) _ (labsAll_mem hl) h4
  refine ⟨h1, h2, ?_⟩
  have b1 := okL_bd h3
  have b2 := okL_bd hl
  simp only [ordL] at h6 ⊢
  simp only at b1 b2
  rcases h5 with h5 | h5
  · have h7 : ¬ ((u1, u2) : Lab) = (l1, l2) := fun e => by rw [eqB_iff.2 e] at h5; cases h5
    have h8 : ¬ (u1 = l1 ∧ u2 = l2) := fun ⟨e1, e2⟩ => h7 (by rw [e1, e2])
    omega
  · omega
theorem allFrom_iff {f : Nat → Bool} {n : Nat} : ∀ m i, i + m = n → (allFrom f n i = true ↔ ∀ j, i ≤ j → j < n → f j = true) := by
  intro m
  induction m with
  | zero => intro i h; rw [allFrom_end (by omega)]; simp; intro j h1 h2; omega
  | succ m ih =>
    intro i h
    rw [allFrom_step (by omega), Bool.and_eq_true, ih (i + 1) (by omega)]
    constructor
    · rintro ⟨h1, h2⟩ j h3 h4
      rcases Nat.lt_or_ge i j with h5 | h5
      · exact h2 j h5 h4
      · obtain rfl : j = i := by omega
        exact h1
    · intro h1
      exact ⟨h1 i (by omega) (by omega), fun j h2 h3 => h1 j (by omega) h3⟩
theorem cmp_ord {a b : Lab} (ha : okL a = true) (hb : okL b = true) : (cmpL a b ≤ 0 ↔ ordL a ≤ ordL b) ∧ (cmpL a b = 0 ↔ ordL a = ordL b) ∧ (ordL a = ordL b ↔ eqB a b = true) := by
  have b1 := okL_bd ha
  have b2 := okL_bd hb
  obtain ⟨a1, a2⟩ := a
  obtain ⟨c1, c2⟩ := b
  rw [eqB_iff, Prod.mk.injEq]
  simp only at b1 b2
  unfold cmpL ordL
  simp only
  repeat' split
  all_goals omega
theorem taskNo_same {l : List Ta} {i : Nat} {x : Ta} (hx : taskOk x = true) (hy : ∀ j y, i = j + 1 → l[j]? = some y → taskOk y = true) : taskNo l i x = taskNoS l i x := by
  cases i with
  | zero => rfl
  | succ j =>
    unfold taskNo taskNoS
    cases h : l[j]? with
    | none => first | rfl | simp only [h] | simp [h]
    | some y =>
      try simp only [h]
      obtain ⟨g1, g2, g3⟩ := cmp_ord (taskOk_lab (hy j y rfl h)) (taskOk_lab hx)
      by_cases e : ordL y.1.1 < ordL x.1.1
      · rw [if_pos e, decide_eq_true (g1.2 (by omega)), if_neg (fun k => by have := g2.1 k; omega), Bool.true_and]
      · rw [if_neg e]
        by_cases e2 : ordL y.1.1 = ordL x.1.1
        · rw [decide_eq_true (g1.2 (by omega)), if_pos (g2.2 e2), g3.1 e2, Bool.true_and, Bool.true_and]
          rw [Bool.eq_iff_iff]
          exact ⟨fun e => beq_iff_eq.2 (beq_iff_eq.1 e).symm, fun e => beq_iff_eq.2 (beq_iff_eq.1 e).symm⟩
        · rw [decide_eq_false (fun k => by have := g1.1 k; omega), Bool.eq_false_iff.2 (fun k => e2 (g3.2 k))]
          rfl
def keyT (x : Ta) : Int := ordL x.1.1 * 100 + x.1.2.1
theorem key_step {l : List Ta} {j : Nat} {x y : Ta} (hx : taskOk x = true) (hyo : taskOk y = true) (h : taskNoS l (j + 1) x = true) (hy : l[j]? = some y) : keyT y < keyT x := by
  have i1 := taskOk_id hx
  have i2 := taskOk_id hyo
  unfold taskNoS at h
  simp only [hy] at h
  unfold keyT
  by_cases g : ordL y.1.1 < ordL x.1.1
  · omega
  · rw [if_neg g, Bool.and_eq_true] at h
    have e := eqB_iff.1 h.1
    have e2 : y.1.2.1 + 1 = x.1.2.1 := by simpa using h.2
    rw [e]
    omega
theorem any_take {p : Ta → Bool} {l : List Ta} {i : Nat} (h : (l.take i).any p = true) : l.any p = true := by
  rw [List.any_eq_true] at h ⊢
  obtain ⟨x, h1, h2⟩ := h
  exact ⟨x, List.mem_of_mem_take h1, h2⟩
theorem aft_dec {p : Ta → Bool} {l : List Ta} : (!decide (idxF p 0 l < 0)) = l.any p := by
  rw [← idxF_ge p l 0]
  by_cases h : (0 : Int) ≤ idxF p 0 l
  · simp [h]; try omega
  · simp [h]; try omega
theorem tasks_same (l : List Ta) : tasksOk l = tasksOkS l := by
  unfold tasksOk tasksOkS
  congr 1
  rw [Bool.eq_iff_iff, allFrom_iff l.length 0 (by omega), allFrom_iff l.length 0 (by omega)]
  constructor
  · intro h
    have hok : ∀ (j : Nat) (x : Ta), l[j]? = some x → taskOk x = true := fun j x hx => by
      have := h j (by omega) (List.getElem?_eq_some_iff.1 hx).1
      unfold taskIn at this
      simp only [hx, Bool.and_eq_true] at this
      exact this.1
    have hno : ∀ (j : Nat) (x : Ta), l[j]? = some x → taskNoS l j x = true := fun j x hx => by
      have := h j (by omega) (List.getElem?_eq_some_iff.1 hx).1
      unfold taskIn at this
      simp only [hx, Bool.and_eq_true] at this
      rw [← taskNo_same (hok j x hx) (fun k y _ hy => hok k y hy)]
      exact this.2.1
    have hkey : ∀ (m j : Nat) (x y : Ta), l[j]? = some x → l[j + m]? = some y → keyT x ≤ keyT y := by
      intro m
      induction m with
      | zero => intro j x y hx hy; rw [Nat.add_zero, hx] at hy; injection hy with hy; subst hy; exact Int.le_refl _
      | succ m ih =>
        intro j x y hx hy
        have hlt := (List.getElem?_eq_some_iff.1 hy).1
        obtain ⟨v, hv⟩ : ∃ v, l[j + m]? = some v := ⟨l[j + m]'(by omega), List.getElem?_eq_getElem (by omega)⟩
        have h1 := ih j x v hx hv
        have h2 := key_step (hok _ _ hy) (hok _ _ hv) (hno _ _ hy) hv
        omega
    intro i _ hi
    obtain ⟨x, hx⟩ : ∃ x, l[i]? = some x := ⟨l[i], List.getElem?_eq_getElem hi⟩
    have hin := h i (by omega) hi
    unfold taskIn at hin
    unfold taskInS
    simp only [hx] at hin ⊢
    rw [aft_dec] at hin ⊢
    simp only [Bool.and_eq_true, Bool.or_eq_true] at hin ⊢
    refine ⟨hin.1, hno i x hx, ?_⟩
    rcases hin.2.2 with h1 | h1
    · exact Or.inl h1
    by_cases h0 : tkAft x = 0
    · left; simp [h0]
    right
    rw [List.any_eq_true] at h1 ⊢
    obtain ⟨y, hy, hyp⟩ := h1
    obtain ⟨k, hk⟩ := List.getElem?_of_mem hy
    have hd := taskOk_dep (hok i x hx) h0
    unfold tkEq at hyp
    rw [Bool.and_eq_true] at hyp
    have e1 := eqB_iff.1 hyp.1
    have e2 : y.1.2.1 = tkAft x := by simpa using hyp.2
    have hki : k < i := by
      refine Nat.lt_of_not_le fun hle => ?_
      have := hkey (k - i) i x y hx (by rw [show i + (k - i) = k by omega]; exact hk)
      unfold keyT at this
      rw [e1, e2] at this
      omega
    refine ⟨y, ?_, by unfold tkEq; rw [Bool.and_eq_true]; exact hyp⟩
    exact List.mem_of_getElem? (i := k) (by rw [List.getElem?_take_of_lt hki]; exact hk)
  · intro h
    have hok : ∀ (j : Nat) (x : Ta), l[j]? = some x → taskOk x = true := fun j x hx => by
      have := h j (by omega) (List.getElem?_eq_some_iff.1 hx).1
      unfold taskInS at this
      simp only [hx, Bool.and_eq_true] at this
      exact this.1
    intro i _ hi
    obtain ⟨x, hx⟩ : ∃ x, l[i]? = some x := ⟨l[i], List.getElem?_eq_getElem hi⟩
    have hin := h i (by omega) hi
    unfold taskInS at hin
    unfold taskIn
    simp only [hx] at hin ⊢
    rw [aft_dec] at hin ⊢
    simp only [Bool.and_eq_true, Bool.or_eq_true] at hin ⊢
    refine ⟨hin.1, ?_, hin.2.2.imp id any_take⟩
    rw [taskNo_same (hok i x hx) (fun k y _ hy => hok k y hy)]
    exact hin.2.1
end M
end Go.Proofs.YtpfdhfchgnnpiaaGreat
