/-
  Plain: frames of rising numbers, dealt out to logs, merge to themselves.
-/
import Derived.Test.YthkebpgkhblcjaaFb
set_option linter.unusedSimpArgs false
set_option linter.unusedVariables false
namespace Go.Proofs.Ythkebpgkhblcjaa
open Go.RowKit M
namespace M
/-- what holds while frames are dealt out: f all of them, logs where they lie, seq the last number, i how many -/
structure Dealt (f : List Fm) (logs : List (List Fm)) (seq : Int) (i : Nat) : Prop where
  len : f.length = i
  up : f.Pairwise fun x y => x.1 < y.1
  top : ∀ x ∈ f, x.1 ≤ seq
  perm : logs.flatten.Perm f
  short : ∀ x ∈ logs, x.length ≤ i
theorem Dealt.nil (n : Nat) (seq : Int) : Dealt [] (List.replicate n []) seq 0 := by
  refine ⟨rfl, .nil, fun x hx => absurd hx List.not_mem_nil, ?_, fun x hx => by rw [(List.mem_replicate.1 hx).2]; exact Nat.le_refl _⟩
  have h : (List.replicate n ([] : List Fm)).flatten = [] := by
    induction n with
    | zero => rfl
    | succ n ih => rw [List.replicate_succ, List.flatten_cons, ih]; rfl
  rw [h]
theorem Dealt.step {f : List Fm} {logs : List (List Fm)} {seq : Int} {i k : Nat} {l : List Fm} {x : Fm} (h : Dealt f logs seq i) (hk : logs[k]? = some l) (hx : seq < x.1) : Dealt (f ++ [x]) (logs.set k (l ++ [x])) x.1 (i + 1) := by
  obtain ⟨hlt, e⟩ := List.getElem?_eq_some_iff.1 hk
  have hsplit : logs = logs.take k ++ l :: logs.drop (k + 1) := by
    conv => lhs; rw [← List.take_append_drop k logs, List.drop_eq_getElem_cons hlt, e]
  refine ⟨by rw [List.length_append, h.len]; rfl, ?_, ?_, ?_, ?_⟩
  · rw [List.pairwise_append]
    refine ⟨h.up, List.pairwise_singleton _ _, fun a ha b hb => ?_⟩
    obtain rfl := List.mem_singleton.1 hb
    have := h.top a ha
    omega
  · intro a ha
    rcases List.mem_append.1 ha with ha | ha
    · have := h.top a ha
      omega
    · obtain rfl := List.mem_singleton.1 ha
      exact Int.le_refl _
  · have hp := h.perm
    rw [hsplit, List.flatten_append, List.flatten_cons] at hp
    rw [List.set_eq_take_append_cons_drop, if_pos hlt, List.flatten_append, List.flatten_cons]
    refine List.Perm.trans ?_ (hp.append_right [x])
    rw [List.append_assoc, List.append_assoc, List.append_assoc]
    exact (List.perm_append_left_iff _).2 ((List.perm_append_left_iff _).2 List.perm_append_comm)
  · intro a ha
    rcases List.mem_or_eq_of_mem_set ha with ha | rfl
    · have := h.short a ha
      omega
    · have := h.short l (List.mem_of_getElem? hk)
      rw [List.length_append]
      show l.length + 1 ≤ i + 1
      omega
theorem Dealt.merge {f : List Fm} {logs : List (List Fm)} {seq : Int} {i : Nat} (h : Dealt f logs seq i) (hi : i ≤ 400) (hl : logs.length ≤ 13) : mergeL logs = f := by
  have ho : logsOk logs = true := by
    unfold logsOk
    simp only [Bool.and_eq_true, decide_eq_true_eq, List.all_eq_true]
    exact ⟨hl, fun x hx => by have := h.short x hx; omega⟩
  unfold mergeL
  rw [if_pos ho]
  refine List.Perm.eq_of_pairwise (le := fun x y => x.1 ≤ y.1) ?_ ?_ ?_ ((List.mergeSort_perm _ _).trans h.perm)
  · intro a b ha hb h1 h2
    have ha : a ∈ f := h.perm.mem_iff.1 (List.mem_mergeSort.1 ha)
    obtain ⟨p, hp⟩ := List.getElem?_of_mem ha
    obtain ⟨q, hq⟩ := List.getElem?_of_mem hb
    obtain ⟨hp1, hp2⟩ := List.getElem?_eq_some_iff.1 hp
    obtain ⟨hq1, hq2⟩ := List.getElem?_eq_some_iff.1 hq
    have hup := List.pairwise_iff_getElem.1 h.up
    rcases Nat.lt_trichotomy p q with hpq | rfl | hpq
    · have := hup p q hp1 hq1 hpq
      rw [hp2, hq2] at this
      omega
    · rw [← hp2, ← hq2]
    · have := hup q p hq1 hp1 hpq
      rw [hp2, hq2] at this
      omega
  · refine (List.pairwise_mergeSort leF_tr leF_tot _).imp ?_
    intro a b h
    simpa [leF] using h
  · exact h.up.imp fun h => Int.le_of_lt h
end M
end Go.Proofs.Ythkebpgkhblcjaa
