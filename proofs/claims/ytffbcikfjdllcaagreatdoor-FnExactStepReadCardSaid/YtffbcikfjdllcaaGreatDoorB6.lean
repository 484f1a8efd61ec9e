import Derived.Test.YtffbcikfjdllcaaGreatDoorMod2
import Derived.BigRegion
set_option linter.unusedSimpArgs false
set_option linter.unusedVariables false
namespace Go.Proofs.YtffbcikfjdllcaaGreatDoor
open Go.RowKit M

theorem getText_eq (t : Bs) (a : Int) : getText t a = if (getNum t a).2.2 ≠ 0 then ([], 0, (getNum t a).2.2)
  else if (getNum t a).1 < 0 ∨ 8000 < (getNum t a).1 then ([], 0, 3)
  else if (t.length : Int) < (getNum t a).2.1 + (getNum t a).1 then ([], 0, 4)
  else ((t.drop (getNum t a).2.1.toNat).take (getNum t a).1.toNat, (getNum t a).2.1 + (getNum t a).1, 0) := rfl

theorem add_facts {a b : Nat} (h : a + b ≤ 1000000) : IntKind.i64.wrap ((a : Int) + b) = (a : Int) + b ∧ 0 ≤ (a : Int) + b ∧ ((a : Int) + b).toNat = a + b := by
  refine ⟨?_, by omega, by omega⟩
  rw [IntKind.wrap_i64]; omega

def encTO (x : TextOut) : Value := .agg #[.string (bs x.1), .int .i64 x.2.1, .int .i64 x.2.2]

end Go.Proofs.YtffbcikfjdllcaaGreatDoor
