import Derived.Test.YtffbcikfjdllcaaDoorB2
set_option linter.unusedSimpArgs false
set_option linter.unusedVariables false
namespace Go.Proofs.YtffbcikfjdllcaaDoor
open Go.RowKit M

theorem isLong_i (s : ByteArray) (w : World) : Gives Tryd.prog 36 #[.string s] w (.bool (decide (8000 < s.size))) := by
  unfold Gives
  go_enter Tryd.func36, Tryd.ntmps36
  go_wp2
  go_ret
  refine ⟨?_, Below.refl _ _⟩
  show Ending.returned (Value.bool (decide ((8000 : Int) < s.size))) = _
  rw [decide_eq_decide.2 (by omega : (8000 : Int) < s.size ↔ 8000 < s.size)]

/-! ### the statement's own helpers -/
end Go.Proofs.YtffbcikfjdllcaaDoor
