import Derived.Test.YtnehiflandjkoaaC7
import Derived.Test.YtnehiflandjkoaaC6
set_option linter.unusedSimpArgs false
set_option linter.unusedVariables false
namespace Go.Proofs.Ytnehiflandjkoaa
open Go.RowKit M

/-! ### results of disk and code: compared, marked -/
theorem grown_alloc {a b : World} {o : Obj} {row : Option Nat} (hg : (a.alloc o).grownBy b row) : a.grownBy b row :=
  ⟨hg.os, hg.tape, hg.output, Nat.le_trans (by simp) hg.size, fun i hi hr => (hg.block i (by simp; omega) hr).trans (Below.heap_alloc _ _ _ hi)⟩
end Go.Proofs.Ytnehiflandjkoaa
namespace Go.Proofs.Ytnehiflandjkoaa
open Go.RowKit M

theorem own_blk_ne {w : World} {g t : Nat} {cs : Array Value} {base e s n : Nat} {v : Value} {xs : List Value} (h : w.ownsRow base e s v n xs) (hg : Blk w g t cs) (hne : e ≠ t) : v.ownBlock ≠ some g := by
  rcases h.2 with ⟨rfl, _⟩ | ⟨g', cap, cur, rfl, _, hh, _⟩
  · simp [Value.ownBlock]
  · intro he
    have : g' = g := by simpa [Value.ownBlock] using he
    subst this
    unfold Blk at hg
    rw [hh] at hg
    injection hg with hg
    injection hg with _ ht
    exact hne ht
theorem Blk.marked {w w' : World} {g t : Nat} {cs : Array Value} {base e s n : Nat} {v : Value} {xs : List Value} (ho : w.ownsRow base e s v n xs) (hg : w.grownBy w' v.ownBlock) (h : Blk w g t cs) (hne : e ≠ t) : Blk w' g t cs :=
  (hg.block g h.lt (fun e' => own_blk_ne ho h hne e'.symm)).trans h
theorem own_apart {v1 v2 : Value} {N : Nat} (h1 : ∀ k, v1.ownBlock = some k → N ≤ k) (h2 : ∀ k, v2.ownBlock = some k → k < N) : v1.ownBlock = none ∨ v1.ownBlock ≠ v2.ownBlock := by
  cases e : v1.ownBlock with
  | none => exact .inl rfl
  | some k => refine .inr fun h => ?_
              have a := h1 k e
              have b := h2 k h.symm
              omega

theorem wipe_len (rs : List Reg) (p r : Int) : (wipeRs rs p r).length ≤ rs.length := by
  unfold wipeRs illRs
  split
  · rw [setLog_len]; exact Nat.le_refl _
  · split <;> simp
theorem wipe_len13 (rs : List Reg) (p r : Int) : (wipeRs rs p r).length ≤ 13 := by
  by_cases h : diskOk rs p = true
  · exact Nat.le_trans (wipe_len rs p r) (diskOk_len' h).2
  · have h' : diskOk rs p = false := by simpa using h
    unfold wipeRs illRs
    rw [stage_bad h']
    simp
end Go.Proofs.Ytnehiflandjkoaa
