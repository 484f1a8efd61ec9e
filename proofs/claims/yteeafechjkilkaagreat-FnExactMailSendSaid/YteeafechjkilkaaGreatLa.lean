/-
  A word laid into a box, in the program and in the reference: the walks.
-/
import Derived.Test.YteeafechjkilkaaGreatTj
set_option linter.unusedSimpArgs false
set_option linter.unusedVariables false
namespace Go.Proofs.YteeafechjkilkaaGreat
open Go.RowKit M
namespace M
def layBo (b : Bo) (x : Int) : Bo := (b.1 ++ [x], b.2.1, b.2.2)
def layAt (pr : List Pr) (m : List Bo) (k : Nat) (x : Int) : MO := match m[k]? with
  | some b => match pr[k]? with
    | some r => if r.2.2 ≤ b.1.length then ([], 8) else (m.set k (layBo b x), 0)
    | none => ([], 6)
  | none => ([], 6)
def mailLay (c : Cfg) (m : List Bo) (p x : Int) : MO := if mailOk c m then (if 0 ≤ p ∧ p < m.length then layAt c.2.1 m p.toNat x else ([], 6)) else ([], 1)
theorem mail_rate {c : Cfg} {m : List Bo} (h : mailOk c m = true) {k : Nat} {b : Bo} {r : Pr} (hb : m[k]? = some b) (hr : c.2.1[k]? = some r) : (b.1.length : Int) ≤ r.2.2 ∧ r.2.2 ≤ 3 := by
  have hlt := (List.getElem?_eq_some_iff.1 hb).1
  have hf := mail_facts h
  unfold mailOk at h
  simp only [Bool.and_eq_true, decide_eq_true_eq] at h
  obtain ⟨h1, h2, h3⟩ := h
  unfold allFrom at h3
  rw [List.all_eq_true] at h3
  have h4 := h3 k (by rw [List.mem_range'_1]; omega)
  unfold boxIn at h4
  rw [hb] at h4
  simp only [hr] at h4
  unfold boxOk at h4
  simp only [Bool.and_eq_true, decide_eq_true_eq] at h4
  unfold cfgOk pairsOk allFrom at h1
  simp only [Bool.and_eq_true, List.all_eq_true] at h1
  have h5 := h1.2.2.2.1.1 k (by rw [List.mem_range'_1]; omega)
  unfold pairIn at h5
  rw [hr] at h5
  unfold isIn at h5
  simp only [Bool.and_eq_true, decide_eq_true_eq] at h5
  exact ⟨h4.1, h5.2.2.2.2.2⟩
end M
theorem own_num {v : Value} {n : Nat} {xs : List Value} {l : List Int} (hx : xs = flat encNum l) (hn : n = l.length) (h1 : v.oneCell' = true) : (Ty.sl 2 tyNum).own [v] l [Hl.row 2 1 v n xs] := by
  subst hx hn
  exact ⟨v, flat encNum l, [], rfl, ownL_flat l, rfl, h1⟩
end Go.Proofs.YteeafechjkilkaaGreat
