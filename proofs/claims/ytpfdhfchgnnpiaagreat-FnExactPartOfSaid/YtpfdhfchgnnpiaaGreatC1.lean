import Derived.Test.YtpfdhfchgnnpiaaGreatG1
set_option linter.unusedSimpArgs false
set_option linter.unusedVariables false
namespace Go.Proofs.YtpfdhfchgnnpiaaGreat
open Go.RowKit M

/-! ### marks: 'm' and a number in digits -/
/-! ### the copies and comparisons of the statement: Region -/
abbrev Reg := ByteArray × ByteArray × ByteArray
/-- cell 'k * s + j' of a slice that reads as a list, in a later world -/
theorem Rd.at_ {w wr : World} {s n b off cap : Nat} {xs : List Value} (h : ∀ j u, xs[j]? = some u → w.cell? ⟨b, off + j, none⟩ = some u) (hb : Below w.heap.size w wr) (i : Nat) (u : Value) (hu : xs[i]? = some u) (x : Later wr) : x.now.cell? ⟨b, off + i, none⟩ = some u := by
  have h1 := h i u hu
  have h2 := World.block_lt_of_cell? w _ h1
  rw [x.ok.cell (p := ⟨b, off + i, none⟩) (Nat.lt_of_lt_of_le h2 hb.size), hb.cell (p := ⟨b, off + i, none⟩) h2]
  exact h1

theorem Rd.of_own {w : World} {base e s n : Nat} {v : Value} {xs : List Value} (h : w.ownsRow base e s v n xs) : Rd w s v n xs := by
  refine ⟨h.1, ?_⟩
  rcases h.2 with ⟨rfl, rfl⟩ | ⟨g, cap, cur, rfl, _, hg, hn, hc, hs, ht⟩
  · exact ⟨none, 0, rfl, Nat.le_refl _, Nat.zero_le _, fun h => absurd h (by omega)⟩
  · refine ⟨_, cap, rfl, hn, hc, fun _ => ⟨g, 0, rfl, fun j u hu => ?_⟩⟩
    rw [Nat.zero_add, cell_of_row w g j cur e (0, 0) hg]
    rw [← ht, List.getElem?_take] at hu
    split at hu
    · simpa using hu
    · cases hu
/-! ### Disk -/
end Go.Proofs.YtpfdhfchgnnpiaaGreat
