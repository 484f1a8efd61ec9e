import Derived.Test.YtffbcikfjdllcaaGreatDoorB2
set_option linter.unusedSimpArgs false
set_option linter.unusedVariables false
namespace Go.Proofs.YtffbcikfjdllcaaGreatDoor
open Go.RowKit M

theorem isLong_i (s : ByteArray) (w : World) : Gives Tryz.prog 25 #[.string s] w (.bool (decide (8000 < s.size))) := by
  unfold Gives
  go_enter Tryz.func25, Tryz.ntmps25
  go_wp2
  go_ret
  refine ⟨?_, Below.refl _ _⟩
  show Ending.returned (Value.bool (decide ((8000 : Int) < s.size))) = _
  rw [decide_eq_decide.2 (by omega : (8000 : Int) < s.size ↔ 8000 < s.size)]

/-! ### the statement's own helpers -/
end Go.Proofs.YtffbcikfjdllcaaGreatDoor
