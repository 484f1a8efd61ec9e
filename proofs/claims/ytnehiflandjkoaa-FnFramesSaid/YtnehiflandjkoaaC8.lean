import Derived.Test.YtnehiflandjkoaaC6
set_option linter.unusedSimpArgs false
set_option linter.unusedVariables false
namespace Go.Proofs.Ytnehiflandjkoaa
open Go.RowKit M

/-! ### results of disk and code: compared, marked -/
theorem grown_alloc {a b : World} {o : Obj} {row : Option Nat} (hg : (a.alloc o).grownBy b row) : a.grownBy b row :=
  ⟨hg.os, hg.tape, hg.output, Nat.le_trans (by simp) hg.size, fun i hi hr => (hg.block i (by simp; omega) hr).trans (Below.heap_alloc _ _ _ hi)⟩
end Go.Proofs.Ytnehiflandjkoaa
