/-
  Cells of arguments: numbers, strings, labels.
-/
import Derived.Test.YtpkoeeafepgphaaOpen
set_option linter.unusedSimpArgs false
set_option linter.unusedVariables false
namespace Go.Proofs.Ytpkoeeafepgphaa
open Go.ChangeShapes Go.WideShapes Go.ChangeAt Go.RowKit Go.Joins Go.Deep
open Go.ChangeMaps (open_string shut_string)
section
variable {H : Type} {enc : TypeId × Value → H} {W : World} {base b0 : Nat} {r : Reach} {d : DataW H} {p : List MemPlace} {v : Value}
theorem cell_bool {n k j : Nat} {cs : List Value} {xs : List (DataW H × List MemPlace)} (hg : DataW.trod enc Try.prog W base (fun _ => true) true n 4 ((cs.drop k).take (Try.prog.cellsOf 4)) = xs[j]?) (hk : j < xs.length)
    {c : Value} (hck : cs[k]? = some c) : ∃ s : Bool, c = .bool s := by
  rw [show Try.prog.cellsOf 4 = 1 from by kernel_rfl, List.getElem?_eq_getElem hk] at hg
  have : (cs.drop k).take 1 = [c] := by
    obtain ⟨h1, h2⟩ := List.getElem?_eq_some_iff.1 hck
    rw [List.drop_eq_getElem_cons h1, h2]
    rfl
  rw [this] at hg
  obtain ⟨b, e, _⟩ := DataW.trod_bool Try.underlying4 hg
  exact ⟨b, by simpa using e⟩
theorem at_int {n k j : Nat} {cs : List Value} {xs : List (DataW H × List MemPlace)} (hg : DataW.trod enc Try.prog W base (fun _ => true) true n 2 ((cs.drop k).take (Try.prog.cellsOf 2)) = xs[j]?) (hk : j < xs.length)
    {c : Value} (hck : cs[k]? = some c) : ∃ s : Int, c = .int .i64 s ∧ (-9223372036854775808 ≤ s ∧ s ≤ 9223372036854775807) := by
  rw [show Try.prog.cellsOf 2 = 1 from by kernel_rfl, List.getElem?_eq_getElem hk] at hg
  have : (cs.drop k).take 1 = [c] := by
    obtain ⟨h1, h2⟩ := List.getElem?_eq_some_iff.1 hck
    rw [List.drop_eq_getElem_cons h1, h2]
    rfl
  rw [this] at hg
  obtain ⟨s, e, _, hs⟩ := DataW.trod_int Try.underlying2 hg
  exact ⟨s, by simpa using e, bd_i64 hs⟩
theorem at_str {n k j : Nat} {cs : List Value} {xs : List (DataW H × List MemPlace)} (hg : DataW.trod enc Try.prog W base (fun _ => true) true n 9 ((cs.drop k).take (Try.prog.cellsOf 9)) = xs[j]?) (hk : j < xs.length)
    {c : Value} (hck : cs[k]? = some c) : ∃ s : ByteArray, c = .string s ∧ s.size ≤ maxLen := by
  rw [show Try.prog.cellsOf 9 = 1 from by kernel_rfl, List.getElem?_eq_getElem hk] at hg
  have : (cs.drop k).take 1 = [c] := by
    obtain ⟨h1, h2⟩ := List.getElem?_eq_some_iff.1 hck
    rw [List.drop_eq_getElem_cons h1, h2]
    rfl
  rw [this] at hg
  obtain ⟨s, e, _, hs⟩ := DataW.trod_string Try.underlying9 hg
  exact ⟨s, by simpa using e, hs⟩
end
end Go.Proofs.Ytpkoeeafepgphaa
