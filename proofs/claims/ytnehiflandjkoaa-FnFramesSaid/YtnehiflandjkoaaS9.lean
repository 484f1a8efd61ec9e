import Derived.Test.YtnehiflandjkoaaS7
import Derived.Laws.IdiomStrings
set_option linter.unusedSimpArgs false
set_option linter.unusedVariables false
namespace Go.Proofs.Ytnehiflandjkoaa
open Go.RowKit M

/-- block g begins with the bytes l, and they may be written -/
structure Bys (w : World) (g : Nat) (l : Bs) : Prop where
  cell : ∀ (i : Nat) (h : i < l.length), w.cell? ⟨g, i, none⟩ = some (.int .u8 l[i].toNat)
  fro : ∀ i, i < l.length → w.frozen? ⟨g, i, none⟩ = false
  lt : g < w.heap.size
theorem Bys.later {w w' : World} {g : Nat} {l : Bs} (h : Bys w g l) (hb : Below w.heap.size w w') : Bys w' g l :=
  ⟨fun i hi => by rw [(bcell hb).1 _ _ h.lt]; exact h.cell i hi, fun i hi => by rw [(bcell hb).2 _ _ h.lt]; exact h.fro i hi, Nat.lt_of_lt_of_le h.lt hb.size⟩
theorem Bys.set {w : World} {g : Nat} {l : Bs} (h : Bys w g l) {k : Nat} (hk : k < l.length) (c : UInt8) : Bys (w.setCell ⟨g, k, none⟩ (.int .u8 c.toNat)) g (l.set k c) := by
  refine ⟨fun i hi => ?_, fun i hi => ?_, by simpa [World.setCell] using h.lt⟩
  · have hi' : i < l.length := by rw [List.length_set] at hi; exact hi
    by_cases hik : i = k
    · subst hik
      rw [World.cell?_setCell_same (h := h.cell i hi'), List.getElem_set_self]
    · rw [List.getElem_set_ne (Ne.symm hik)]
      have hne : (⟨g, k, none⟩ : Addr) ≠ ⟨g, i, none⟩ := by intro e; injection e with _ e2 _; exact hik e2.symm
      rw [World.cell?_setCell_other (h := hne)]
      exact h.cell i hi'
  · rw [List.length_set] at hi
    rw [World.frozen?_setCell]
    exact h.fro i hi
theorem Bys.conv {w : World} {g : Nat} {l : Bs} (h : Bys w g l) (cap : Nat) : (convert 22 9 (.slice (some ⟨g, 0, none⟩) l.length cap)).run Try.prog w = .ok (.string (bs l)) w := by
  refine run_convert_bytes_back (P := Try.prog) w 22 9 5 ⟨g, 0, none⟩ cap l Try.underlying22 Try.underlying5 Try.underlying9 ?_
  intro j hj
  rw [Addr.add_mid, Nat.zero_add]
  exact h.cell j hj
theorem Bys.made (w : World) (s : ByteArray) : ∃ cap w', (convert 9 22 (.string s)).run Try.prog w = .ok (.slice (some ⟨w.heap.size, 0, none⟩) s.size cap) w' ∧ s.size ≤ cap ∧ Below w.heap.size w w' ∧ Bys w' w.heap.size s.data.toList := by
  have hr := run_bytes_of_string (P := Try.prog) w 9 22 5 s Try.underlying9 Try.underlying22 Try.underlying5
  have hg := grownCap_ge w s.size 0 5
  generalize grownCap w s.size 0 5 = cap at *
  have hb := heap_alloc_new w.drew (Obj.cells (bytesRow s cap) 5 ((bytesRow s cap).size, (bytesRow s cap).size + 1))
  have hN : s.size ≤ (bytesRow s cap).size := by unfold bytesRow; rw [Array.size_append, Array.size_map]; exact Nat.le_add_right _ _
  have hce : ∀ (i : Nat) (hi : i < s.data.toList.length), (bytesRow s cap)[i]? = some (.int .u8 (s.data.toList[i].toNat)) := fun i hi => by
    have hs : i < s.data.size := by simpa using hi
    unfold bytesRow
    rw [Array.getElem?_append_left (by rw [Array.size_map]; exact hs), Array.getElem?_map, Array.getElem?_eq_getElem hs]
    rfl
  have hsz : s.data.toList.length = s.size := size_data s
  generalize bytesRow s cap = row at *
  refine ⟨cap, _, hr, hg, by (repeat (first | (with_reducible refine bset ?_ (by first | (simp; done) | (simp; omega)) _) | (with_reducible refine balloc ?_ _) | (with_reducible refine bdrew ?_) | with_reducible exact Below.refl _ _ | (refine bthen ?_ (by with_reducible assumption)) | (refine bthen ?_ (by assumption)) | exact Below.refl _ _)), ?_, ?_, ?_⟩
  · intro i hi
    exact (cell_of_row _ _ i _ _ _ hb).trans (hce i hi)
  · intro i hi
    have h2 : (w.drew.alloc (Obj.cells row 5 (row.size, row.size + 1))).heap[w.heap.size]? = _ := hb
    unfold World.frozen?
    simp only [h2]
    simp
    omega
  · simp
end Go.Proofs.Ytnehiflandjkoaa
