/-
  Words that all walks of this seat share. Plain theorems; nothing of the program is named.
-/
import Derived.WalkKit
import Derived.Deep.QuietTactic
import Derived.BigQuiet
import Derived.Below
import Derived.Outline
import Derived.WalkLawsBesides
import Derived.WalkSpells
import Derived.Lib.Hide
import Derived.Deep.Draws
import Derived.Lib.Strings
set_option linter.unusedSimpArgs false
set_option linter.unusedVariables false
namespace Go.Proofs.YtffbcikfjdllcaaGreatDoor
open Go.RowKit

/-- A call that gives a plain value and touches nothing that was there. -/
def Gives (P : Program) (f : FuncId) (args : Array Value) (w : World) (v : Value) : Prop :=
  Calls P f args w fun e w' => e = .returned v ∧ Below w.heap.size w w'

theorem Gives.use {P : Program} {f : FuncId} {args : Array Value} {w : World} {v : Value} (h : Gives P f args w v) :
    Calls P f args w fun e w' => e = .returned v ∧ Below w.heap.size w w' := h

theorem Gives.of_same {P : Program} {f : FuncId} {args : Array Value} {w : World} {v : Value}
    (h : Calls P f args w fun e w' => e = .returned v ∧ w = w') : Gives P f args w v :=
  h.mono fun _ _ ⟨he, hw⟩ => ⟨he, hw ▸ Below.refl _ _⟩

theorem bcell {W w1 : World} (hb : Below W.heap.size W w1) : (∀ b o, b < W.heap.size → w1.cell? ⟨b, o, none⟩ = W.cell? ⟨b, o, none⟩) ∧ (∀ b o, b < W.heap.size → w1.frozen? ⟨b, o, none⟩ = W.frozen? ⟨b, o, none⟩) :=
  ⟨fun b o h => hb.cell (p := ⟨b, o, none⟩) h, fun b o h => hb.frozen (p := ⟨b, o, none⟩) h⟩

theorem bthen {a b c : World} (h : Below a.heap.size a b) (h2 : Below b.heap.size b c) : Below a.heap.size a c := h.trans (h2.mono h.size)
theorem bnew (w : World) (o : Obj) : Below w.heap.size w (w.alloc o) := (Below.refl _ _).alloc (Nat.le_refl _) o
theorem bset {a b : World} (h : Below a.heap.size a b) {p : Addr} (hp : a.heap.size ≤ p.block) (u : Value) : Below a.heap.size a (b.setCell p u) := h.setCell hp u

/-- The worlds that agree with 'w' on all that 'w' holds. -/
structure Later (w : World) where
  now : World
  ok : Below w.heap.size w now
instance laterInst (w : World) : Nonempty (Later w) := ⟨⟨w, Below.refl _ _⟩⟩

/-- A region that draws its order, whose operations read old cells and whose callees give plain values. -/
theorem wp_region_later {P : Program} {id : Nat} {Q : Exit → Act → World → Prop} {a : Act} {w : World} {l : List Oper} (hm : P.follows .mixedOrders = true) (hB : Region.lexB .any l.toArray = true)
    (h : wpQuiet P l.toArray (fun w' => ∃ x : Later w, w' = x.now) (fun a' => ∀ w', (∃ x : Later w, w' = x.now) → Q .normal a' w') l a) : (Code.region id l.toArray true).wp P Q a w :=
  wp_region_quiet (C := fun w' => ∃ x : Later w, w' = x.now) hm hB ⟨⟨w.drew, (Below.refl _ _).drew⟩, rfl⟩ (by simpa using h)

theorem Gives.later {P : Program} {f : FuncId} {args : Array Value} {w : World} {v : Value} (x : Later w) (h : Gives P f args x.now v) :
    Calls P f args x.now fun e w' => e = .returned v ∧ ∃ y : Later w, w' = y.now :=
  h.mono fun _ w' ⟨he, hb⟩ => ⟨he, ⟨w', x.ok.trans (hb.mono x.ok.size)⟩, rfl⟩

theorem bcell1 {w w1 : World} {o : Obj} (hb : Below (w.alloc o).heap.size (w.alloc o) w1) :
    (∀ b o', b < (w.alloc o).heap.size → w1.cell? ⟨b, o', none⟩ = (w.alloc o).cell? ⟨b, o', none⟩) ∧
    (∀ b o', b < (w.alloc o).heap.size → w1.frozen? ⟨b, o', none⟩ = (w.alloc o).frozen? ⟨b, o', none⟩) ∧ w.heap.size < w1.heap.size :=
  ⟨(bcell hb).1, (bcell hb).2, by have := hb.size; simp at this; omega⟩
theorem lcell {w : World} {b o : Nat} {v : Value} (h : w.cell? ⟨b, o, none⟩ = some v) (x : Later w) : x.now.cell? ⟨b, o, none⟩ = some v := by
  rw [x.ok.cell (p := ⟨b, o, none⟩) (World.block_lt_of_cell? w _ h)]; exact h
theorem undrew' (w : World) : Below w.heap.size w w.drew := (Below.refl _ _).drew
theorem kept2 {w1 w2 : World} {o : Obj} (hb : Below (w1.alloc o).heap.size (w1.alloc o) w2) {n : Nat} (h : n < w1.heap.size) (i : Nat) : w2.cell? ⟨n, i, none⟩ = w1.cell? ⟨n, i, none⟩ := by
  rw [(bcell hb).1 _ _ (by simp; omega)]
  first | exact World.cell?_alloc_past _ _ _ h | exact World.cell?_alloc_past _ _ _ _ h | exact World.cell?_alloc_lt _ _ _ h
theorem balloc {a b : World} (h : Below a.heap.size a b) (o : Obj) : Below a.heap.size a (b.alloc o) := bthen h (bnew _ _)
theorem bdrew {a b : World} (h : Below a.heap.size a b) : Below a.heap.size a b.drew := h.drew

/-- A slice that reads as 'n' elements of 's' cells, the cells being 'xs'. -/
def Rd (w : World) (s : Nat) (v : Value) (n : Nat) (xs : List Value) : Prop :=
  xs.length = n * s ∧ ∃ A cap, v = .slice A n cap ∧ n ≤ cap ∧ cap ≤ maxLen ∧
    (0 < n → ∃ b off, A = some ⟨b, off, none⟩ ∧ ∀ j u, xs[j]? = some u → w.cell? ⟨b, off + j, none⟩ = some u)

section
variable {w w' : World} {s n : Nat} {v : Value} {xs : List Value}
theorem Rd.below {B : Nat} (h : Rd w s v n xs) (hB : w.heap.size ≤ B) (hb : Below B w w') : Rd w' s v n xs := by
  obtain ⟨hl, A, cap, e, h1, h2, hc⟩ := h
  refine ⟨hl, A, cap, e, h1, h2, fun hn => ?_⟩
  obtain ⟨b, off, hA, hc⟩ := hc hn
  refine ⟨b, off, hA, fun j u hu => ?_⟩
  have := hc j u hu
  have hlt : b < w.heap.size := World.block_lt_of_cell? w _ this
  rw [hb.cell (p := ⟨b, off + j, none⟩) (by show b < B; omega)]
  exact this
theorem Rd.later (h : Rd w s v n xs) (hb : Below w.heap.size w w') : Rd w' s v n xs := h.below (Nat.le_refl _) hb
theorem Rd.nil (w : World) (s : Nat) : Rd w s (.slice none 0 0) 0 [] := ⟨by simp, none, 0, rfl, Nat.le_refl _, Nat.zero_le _, fun h => absurd h (by omega)⟩
/-- What a walk is told of a slice: its form, and how its cells read. -/
theorem Rd.form (h : Rd w s v n xs) : ∃ A cap, v = .slice A n cap ∧ n ≤ cap ∧ cap ≤ maxLen ∧
    (0 < n → ∃ b off, A = some ⟨b, off, none⟩ ∧ ∀ j u, xs[j]? = some u → w.cell? ⟨b, off + j, none⟩ = some u) := h.2
end

/-- flat cells of a list of structs -/
def flat {α : Type} (enc : α → List Value) (l : List α) : List Value := (l.map enc).flatten
theorem flat_length {α : Type} {enc : α → List Value} {s : Nat} (hs : ∀ a, (enc a).length = s) (l : List α) : (flat enc l).length = l.length * s := by
  induction l with
  | nil => simp [flat]
  | cons a l ih => simp [flat] at ih ⊢; rw [hs a]; rw [ih, Nat.succ_mul]; omega
theorem flat_get {α : Type} {enc : α → List Value} {s : Nat} (hs : ∀ a, (enc a).length = s) : ∀ (l : List α) (k j : Nat) (a : α), l[k]? = some a → j < s → (flat enc l)[k * s + j]? = (enc a)[j]?
  | [], k, j, a, h, _ => by simp at h
  | b :: l, 0, j, a, h, hj => by
    simp at h; subst h
    show (enc b ++ flat enc l)[0 * s + j]? = _
    rw [Nat.zero_mul, Nat.zero_add, List.getElem?_append_left (by rw [hs]; exact hj)]
  | b :: l, k + 1, j, a, h, hj => by
    show (enc b ++ flat enc l)[(k + 1) * s + j]? = _
    rw [List.getElem?_append_right (by rw [hs, Nat.succ_mul]; omega), hs]
    have : (k + 1) * s + j - s = k * s + j := by rw [Nat.succ_mul]; omega
    rw [this]
    exact flat_get hs l k j a (by simpa using h) hj
theorem flat_append {α : Type} (enc : α → List Value) (l r : List α) : flat enc (l ++ r) = flat enc l ++ flat enc r := by
  simp [flat]
theorem flat_cons {α : Type} (enc : α → List Value) (a : α) (r : List α) : flat enc (a :: r) = enc a ++ flat enc r := by
  simp [flat]

/-- strings -/
theorem str_beq (a b : ByteArray) : (a.toList == b.toList) = decide (a = b) := by
  by_cases h : a = b
  · subst h; simp
  · have : a.toList ≠ b.toList := fun e => h (Go.WideShapes.bytes_inj (by rw [← Lib.toList_data, ← Lib.toList_data]; exact e))
    simp [h, this]

end Go.Proofs.YtffbcikfjdllcaaGreatDoor
