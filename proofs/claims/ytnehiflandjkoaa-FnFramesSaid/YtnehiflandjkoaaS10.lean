import Derived.Test.YtnehiflandjkoaaS8
set_option linter.unusedSimpArgs false
set_option linter.unusedVariables false
namespace Go.Proofs.Ytnehiflandjkoaa
open Go.RowKit M
set_option maxRecDepth 100000 in
set_option maxHeartbeats 4000000 in
theorem law_F_Frames (v1 : Value) (l1 : List UInt8) (v2 : Value) (l2 : List UInt8) (w : World) (hr1 : Rd w 1 v1 l1.length (cb l1)) (hr2 : Rd w 1 v2 l2.length (cb l2)) :
    Gives Try.prog 3 #[v1, v2] w (.bool true) := by
  by_cases h1 : l1.length ≤ 1048576
  · by_cases h2 : l2.length ≤ 1048576
    · exact law_F_Frames_in v1 v2 l1 l2 h1 h2 w hr1 hr2
    · unfold Gives
      obtain ⟨A1, c1, rfl, hn1, hc1, _⟩ := hr1.form
      obtain ⟨A2, c2, rfl, hn2, hc2, _⟩ := hr2.form
      have hi1 : ¬ (1048576 : Int) < (l1.length : Int) := by omega
      have hi2 : (1048576 : Int) < (l2.length : Int) := by omega
      clear hr1 hr2
      go_enter Try.func3, Try.ntmps3
      go_wp2
      go_ret
      exact ⟨rfl, Below.refl _ _⟩
  · unfold Gives
    obtain ⟨A1, c1, rfl, hn1, hc1, _⟩ := hr1.form
    obtain ⟨A2, c2, rfl, hn2, hc2, _⟩ := hr2.form
    have hi1 : (1048576 : Int) < (l1.length : Int) := by omega
    clear hr1 hr2
    go_enter Try.func3, Try.ntmps3
    go_wp2
    go_ret
    exact ⟨rfl, Below.refl _ _⟩
end Go.Proofs.Ytnehiflandjkoaa
