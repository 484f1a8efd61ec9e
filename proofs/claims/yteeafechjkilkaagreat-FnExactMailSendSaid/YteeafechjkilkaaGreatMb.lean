/-
  Mail that may be so: what follows for its boxes. Plain.
-/
import Derived.Test.YteeafechjkilkaaGreatCp
import Derived.Test.YteeafechjkilkaaGreatG1
set_option linter.unusedSimpArgs false
set_option linter.unusedVariables false
namespace Go.Proofs.YteeafechjkilkaaGreat
open Go.RowKit M
namespace M
def bd (n : Int) : Prop := -9223372036854775808 ≤ n ∧ n ≤ 9223372036854775807
def audNotes (l : List Nt) : Bs := (l.map fun x => putNum x.1 ++ putNum x.2).flatten
def audAt (pr : List Pr) (m : List Bo) (lab : Lab) (i : Nat) : Bs := match pr[i]? with
  | some p => match m[i]? with
    | some b => if belowB p.1 lab then putNum i ++ (putNum b.2.2.length ++ audNotes b.2.2) else []
    | none => []
  | none => []
def catTo (f : Nat → Bs) (i : Nat) : Bs := ((List.range i).map f).flatten
theorem catTo_succ (f : Nat → Bs) (i : Nat) : catTo f (i + 1) = catTo f i ++ f i := by
  unfold catTo
  rw [List.range_succ, List.map_append, List.flatten_append]
  simp
theorem audNotes_len (l : List Nt) : (audNotes l).length ≤ 22 * l.length := by
  unfold audNotes
  induction l with
  | nil => simp
  | cons x l ih =>
    have h1 := (putNum_length x.1).2
    have h2 := (putNum_length x.2).2
    simp only [List.map_cons, List.flatten_cons, List.length_append, List.length_cons] at ih ⊢
    omega
theorem audNotes_take {l : List Nt} {k : Nat} {x : Nt} (h : l[k]? = some x) : audNotes (l.take (k + 1)) = audNotes (l.take k) ++ (putNum x.1 ++ putNum x.2) := by
  obtain ⟨hlt, rfl⟩ := List.getElem?_eq_some_iff.1 h
  unfold audNotes
  rw [List.take_succ_eq_append_getElem hlt, List.map_append, List.flatten_append]
  simp
theorem catTo_len {f : Nat → Bs} {b : Nat} (h : ∀ i, (f i).length ≤ b) (i : Nat) : (catTo f i).length ≤ b * i := by
  induction i with
  | zero => simp [catTo]
  | succ i ih =>
    rw [catTo_succ, List.length_append, Nat.mul_succ]
    have := h i
    omega
theorem pair_ok {c : Cfg} {i : Nat} {p : Pr} (h : cfgOk c = true) (hp : c.2.1[i]? = some p) : okL p.1 = true ∧ okL p.2.1 = true := by
  unfold cfgOk pairsOk allFrom at h
  simp only [Bool.and_eq_true, List.all_eq_true] at h
  have h1 := h.2.2.2.1.1 i (by rw [List.mem_range'_1]; have := (List.getElem?_eq_some_iff.1 hp).1; omega)
  unfold pairIn at h1
  rw [hp] at h1
  simp only [Bool.and_eq_true] at h1
  exact ⟨labels_ok _ h1.2.1, labels_ok _ h1.2.2.1⟩
theorem mail_facts {c : Cfg} {m : List Bo} (h : mailOk c m = true) : cfgOk c = true ∧ m.length = c.2.1.length ∧ c.2.1.length ≤ 4 ∧ ∀ (i : Nat) (b : Bo), m[i]? = some b → b.2.2.length ≤ 12 := by
  unfold mailOk at h
  simp only [Bool.and_eq_true, decide_eq_true_eq] at h
  obtain ⟨h1, h2, h3⟩ := h
  refine ⟨h1, h2, ?_, fun i b hb => ?_⟩
  · unfold cfgOk pairsOk at h1
    simp only [Bool.and_eq_true, decide_eq_true_eq] at h1
    exact h1.2.2.2.1.2
  · unfold allFrom at h3
    rw [List.all_eq_true] at h3
    have hlt := (List.getElem?_eq_some_iff.1 hb).1
    have h4 := h3 i (by rw [List.mem_range'_1]; omega)
    unfold boxIn at h4
    rw [hb] at h4
    obtain ⟨p, hp⟩ : ∃ p, c.2.1[i]? = some p := ⟨c.2.1[i]'(by omega), List.getElem?_eq_getElem _⟩
    rw [hp] at h4
    unfold boxOk notesOk at h4
    simp only [Bool.and_eq_true, decide_eq_true_eq] at h4
    exact h4.2.2.2
def mailAud (c : Cfg) (m : List Bo) (lab : Lab) : Bs := if mailOk c m && okL lab then catTo (audAt c.2.1 m lab) c.2.1.length else []
theorem audAt_len {pr : List Pr} {m : List Bo} {lab : Lab} (h : ∀ (i : Nat) (b : Bo), m[i]? = some b → b.2.2.length ≤ 12) (i : Nat) : (audAt pr m lab i).length ≤ 286 := by
  unfold audAt
  split
  · split
    · rename_i b hb
      split
      · have h1 := h i b hb
        have h2 := audNotes_len b.2.2
        have h3 := (putNum_length (i : Int)).2
        have h4 := (putNum_length (b.2.2.length : Int)).2
        simp only [List.length_append]
        omega
      · simp
    · simp
  · simp
end M
end Go.Proofs.YteeafechjkilkaaGreat
