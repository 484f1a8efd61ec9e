/-
  How a function's end hands its new memory on.
-/
import Derived.Test.YtfblolkkajppcaaGreatDoorEng
set_option linter.unusedSimpArgs false
set_option linter.unusedVariables false
namespace Go.Proofs.YtfblolkkajppcaaGreatDoor
open Go.RowKit M
section
variable {w0 w : World} {L M : List Hl}
theorem Hs.retN {T : Value → List Hl → Prop} {r : Value} (H : Hs noRow w0 L w) (hs : M.Sublist L) (hT : T r M) : ∃ v' M', Ending.returned r = .returned v' ∧ T v' M' ∧ Hk [] w0 M' w := ⟨r, M, rfl, hT, (H.sub hs).hk⟩
end
end Go.Proofs.YtfblolkkajppcaaGreatDoor
