/-
  Labels sought in lists; chains of labels: the walks.
-/
import Derived.Test.YtpkoeeafepgphaaCb
set_option linter.unusedSimpArgs false
set_option linter.unusedVariables false
namespace Go.Proofs.Ytpkoeeafepgphaa
open Go.RowKit M
namespace M
def eqB (a b : Lab) : Bool := decide (a.1 = b.1) && decide (a.2 = b.2)
theorem eqB_iff {a b : Lab} : eqB a b = true ↔ a = b := by
  obtain ⟨a1, a2⟩ := a; obtain ⟨b1, b2⟩ := b
  simp [eqB]
theorem eqB_decide (a b : Lab) : eqB a b = decide (a = b) := by
  by_cases h : a = b
  · rw [eqB_iff.2 h]; simp [h]
  · rw [Bool.eq_false_iff.2 (fun e => h (eqB_iff.1 e))]; simp [h]
end M
section
variable {R : Nat → Prop} {w0 w : World} {L : List Hl} {a : Act} {ops : Array Oper} {Q : Exit → Act → World → Prop} {rest : List Oper} {dst : Option Tmp} {ty : TypeId} {x y : Operand} {pos : String} {aft : Array Edge} {gd : Option (Nat × Bool)} {K : List Hl} {a1 a2 b1 b2 : Int}
end
section
variable {R : Nat → Prop} {w0 w : World} {L : List Hl} {a : Act} {ops : Array Oper} {Q : Exit → Act → World → Prop} {rest : List Oper} {dst : Option Tmp} {ty : TypeId} {x y : Operand} {pos : String} {aft : Array Edge} {gd : Option (Nat × Bool)} {K : List Hl} {a1 a2 b1 b2 : Int} {z : Bool}
end
/-! ### guards of a region that draws its order -/
def Want (p : Prop) : Prop := p
def Skp (p : Prop) : Prop := p
theorem gWant {p q : Prop} (h : p → q) : Want p → q := h
theorem gSkip {p q : Prop} (h : p → q) : Skp p → q := h
theorem hq_guard {P : Program} {ops : Array Oper} {R : Nat → Prop} {w0 : World} {L : List Hl} {Q : Act → Prop} {rest : List Oper} {a : Act} {dst : Option Tmp} {ty : TypeId} {pos : String} {aft : Array Edge} {op : Op} {j : Nat} {b b' : Bool}
    (hy : yielded ops a.tmps j = some b') (k1 : Want (b' = b) → wpQuiet P ops (Hs R w0 L) Q (⟨dst, op, ty, pos, aft, none⟩ :: rest) a) (k0 : Skp (b' = (!b)) → wpQuiet P ops (Hs R w0 L) Q rest (a.put dst undef)) :
    wpQuiet P ops (Hs R w0 L) Q (⟨dst, op, ty, pos, aft, some (j, b)⟩ :: rest) a := by
  by_cases h : b' = b
  · have k := k1 h
    unfold wpQuiet at k ⊢
    rw [if_pos (by unfold Region.wanted; rfl)] at k
    rw [if_pos (by simp [Region.wanted, hy, h])]
    exact k
  · have h2 : b' = (!b) := by cases b <;> cases b' <;> simp_all
    refine hq_skip ?_ (k0 h2)
    simp [Region.wanted, hy, h2]
theorem hq_gwT {P : Program} {ops : Array Oper} {R : Nat → Prop} {w0 : World} {L : List Hl} {Q : Act → Prop} {rest : List Oper} {a : Act} {dst : Option Tmp} {ty : TypeId} {pos : String} {aft : Array Edge} {op : Op} {j : Nat}
    (hy : yielded ops a.tmps j = some true) (k1 : wpQuiet P ops (Hs R w0 L) Q (⟨dst, op, ty, pos, aft, none⟩ :: rest) a) : wpQuiet P ops (Hs R w0 L) Q (⟨dst, op, ty, pos, aft, some (j, true)⟩ :: rest) a :=
  hq_guard hy (fun _ => k1) (fun h => absurd h (by unfold Skp; simp))
theorem hq_gsT {P : Program} {ops : Array Oper} {R : Nat → Prop} {w0 : World} {L : List Hl} {Q : Act → Prop} {rest : List Oper} {a : Act} {dst : Option Tmp} {ty : TypeId} {pos : String} {aft : Array Edge} {op : Op} {j : Nat}
    (hy : yielded ops a.tmps j = some false) (k0 : wpQuiet P ops (Hs R w0 L) Q rest (a.put dst undef)) : wpQuiet P ops (Hs R w0 L) Q (⟨dst, op, ty, pos, aft, some (j, true)⟩ :: rest) a :=
  hq_guard hy (fun h => absurd h (by unfold Want; simp)) (fun _ => k0)
theorem st_gwT {P : Program} {ops : Array Oper} {w : World} {Q : Exit → Act → World → Prop} {rest : List Oper} {a : Act} {dst : Option Tmp} {ty : TypeId} {pos : String} {aft : Array Edge} {op : Op} {j : Nat}
    (hy : yielded ops a.tmps j = some true) (k1 : wpList P ops Q (⟨dst, op, ty, pos, aft, none⟩ :: rest) a w) : wpList P ops Q (⟨dst, op, ty, pos, aft, some (j, true)⟩ :: rest) a w :=
  st_guard hy (fun _ => k1) (fun h => absurd h (by simp))
theorem st_gsT {P : Program} {ops : Array Oper} {w : World} {Q : Exit → Act → World → Prop} {rest : List Oper} {a : Act} {dst : Option Tmp} {ty : TypeId} {pos : String} {aft : Array Edge} {op : Op} {j : Nat}
    (hy : yielded ops a.tmps j = some false) (k0 : wpList P ops Q rest (a.put dst undef) w) : wpList P ops Q (⟨dst, op, ty, pos, aft, some (j, true)⟩ :: rest) a w :=
  st_guard hy (fun h => absurd h (by simp)) (fun _ => k0)
theorem hq_gwF {P : Program} {ops : Array Oper} {R : Nat → Prop} {w0 : World} {L : List Hl} {Q : Act → Prop} {rest : List Oper} {a : Act} {dst : Option Tmp} {ty : TypeId} {pos : String} {aft : Array Edge} {op : Op} {j : Nat}
    (hy : yielded ops a.tmps j = some false) (k1 : wpQuiet P ops (Hs R w0 L) Q (⟨dst, op, ty, pos, aft, none⟩ :: rest) a) : wpQuiet P ops (Hs R w0 L) Q (⟨dst, op, ty, pos, aft, some (j, false)⟩ :: rest) a :=
  hq_guard hy (fun _ => k1) (fun h => absurd h (by unfold Skp; simp))
theorem hq_gsF {P : Program} {ops : Array Oper} {R : Nat → Prop} {w0 : World} {L : List Hl} {Q : Act → Prop} {rest : List Oper} {a : Act} {dst : Option Tmp} {ty : TypeId} {pos : String} {aft : Array Edge} {op : Op} {j : Nat}
    (hy : yielded ops a.tmps j = some true) (k0 : wpQuiet P ops (Hs R w0 L) Q rest (a.put dst undef)) : wpQuiet P ops (Hs R w0 L) Q (⟨dst, op, ty, pos, aft, some (j, false)⟩ :: rest) a :=
  hq_guard hy (fun h => absurd h (by unfold Want; simp)) (fun _ => k0)
theorem st_gwF {P : Program} {ops : Array Oper} {w : World} {Q : Exit → Act → World → Prop} {rest : List Oper} {a : Act} {dst : Option Tmp} {ty : TypeId} {pos : String} {aft : Array Edge} {op : Op} {j : Nat}
    (hy : yielded ops a.tmps j = some false) (k1 : wpList P ops Q (⟨dst, op, ty, pos, aft, none⟩ :: rest) a w) : wpList P ops Q (⟨dst, op, ty, pos, aft, some (j, false)⟩ :: rest) a w :=
  st_guard hy (fun _ => k1) (fun h => absurd h (by simp))
theorem st_gsF {P : Program} {ops : Array Oper} {w : World} {Q : Exit → Act → World → Prop} {rest : List Oper} {a : Act} {dst : Option Tmp} {ty : TypeId} {pos : String} {aft : Array Edge} {op : Op} {j : Nat}
    (hy : yielded ops a.tmps j = some true) (k0 : wpList P ops Q rest (a.put dst undef) w) : wpList P ops Q (⟨dst, op, ty, pos, aft, some (j, false)⟩ :: rest) a w :=
  st_guard hy (fun h => absurd h (by simp)) (fun _ => k0)
/-! ### a label in a list -/
namespace M
def hasL (l : List Lab) (a : Lab) : Bool := l.any fun b => eqB b a
theorem hasL_iff {l : List Lab} {a : Lab} : hasL l a = true ↔ a ∈ l := by
  unfold hasL
  rw [List.any_eq_true]
  constructor
  · rintro ⟨b, hb, e⟩
    rw [← eqB_iff.1 e]; exact hb
  · intro h
    exact ⟨a, h, eqB_iff.2 rfl⟩
theorem any_drop {α : Type} {p : α → Bool} {l : List α} {i : Nat} {a : α} (h : l[i]? = some a) : (l.drop i).any p = (p a || (l.drop (i + 1)).any p) := by
  obtain ⟨hlt, rfl⟩ := List.getElem?_eq_some_iff.1 h
  rw [List.drop_eq_getElem_cons hlt]
  rfl
theorem eqB_comm (a b : Lab) : eqB a b = eqB b a := by rw [eqB_decide, eqB_decide]; congr 1; exact propext ⟨Eq.symm, Eq.symm⟩
end M
end Go.Proofs.Ytpkoeeafepgphaa
