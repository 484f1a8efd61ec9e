/-
  Cells of arguments: numbers, strings, labels.
-/
import Derived.Test.YtjklmldchbakjaaGreatOpen
set_option linter.unusedSimpArgs false
set_option linter.unusedVariables false
namespace Go.Proofs.YtjklmldchbakjaaGreat
open Go.ChangeShapes Go.WideShapes Go.ChangeAt Go.RowKit Go.Joins Go.Deep
open Go.ChangeMaps (open_string shut_string)
section
variable {H : Type} {enc : TypeId × Value → H} {W : World} {base b0 : Nat} {r : Reach} {d : DataW H} {p : List MemPlace} {v : Value}
theorem cell_bool {n k j : Nat} {cs : List Value} {xs : List (DataW H × List MemPlace)} (hg : DataW.trod enc Tryz.prog W base (fun _ => true) true n 4 ((cs.drop k).take (Tryz.prog.cellsOf 4)) = xs[j]?) (hk : j < xs.length)
    {c : Value} (hck : cs[k]? = some c) : ∃ s : Bool, c = .bool s := by
  rw [show Tryz.prog.cellsOf 4 = 1 from by kernel_rfl, List.getElem?_eq_getElem hk] at hg
  have : (cs.drop k).take 1 = [c] := by
    obtain ⟨h1, h2⟩ := List.getElem?_eq_some_iff.1 hck
    rw [List.drop_eq_getElem_cons h1, h2]
    rfl
  rw [this] at hg
  obtain ⟨b, e, _⟩ := DataW.trod_bool Tryz.underlying4 hg
  exact ⟨b, by simpa using e⟩
theorem at_int {n k j : Nat} {cs : List Value} {xs : List (DataW H × List MemPlace)} (hg : DataW.trod enc Tryz.prog W base (fun _ => true) true n 2 ((cs.drop k).take (Tryz.prog.cellsOf 2)) = xs[j]?) (hk : j < xs.length)
    {c : Value} (hck : cs[k]? = some c) : ∃ s : Int, c = .int .i64 s ∧ (-9223372036854775808 ≤ s ∧ s ≤ 9223372036854775807) := by
  rw [show Tryz.prog.cellsOf 2 = 1 from by kernel_rfl, List.getElem?_eq_getElem hk] at hg
  have : (cs.drop k).take 1 = [c] := by
    obtain ⟨h1, h2⟩ := List.getElem?_eq_some_iff.1 hck
    rw [List.drop_eq_getElem_cons h1, h2]
    rfl
  rw [this] at hg
  obtain ⟨s, e, _, hs⟩ := DataW.trod_int Tryz.underlying2 hg
  exact ⟨s, by simpa using e, bd_i64 hs⟩
theorem at_str {n k j : Nat} {cs : List Value} {xs : List (DataW H × List MemPlace)} (hg : DataW.trod enc Tryz.prog W base (fun _ => true) true n 9 ((cs.drop k).take (Tryz.prog.cellsOf 9)) = xs[j]?) (hk : j < xs.length)
    {c : Value} (hck : cs[k]? = some c) : ∃ s : ByteArray, c = .string s ∧ s.size ≤ maxLen := by
  rw [show Tryz.prog.cellsOf 9 = 1 from by kernel_rfl, List.getElem?_eq_getElem hk] at hg
  have : (cs.drop k).take 1 = [c] := by
    obtain ⟨h1, h2⟩ := List.getElem?_eq_some_iff.1 hck
    rw [List.drop_eq_getElem_cons h1, h2]
    rfl
  rw [this] at hg
  obtain ⟨s, e, _, hs⟩ := DataW.trod_string Tryz.underlying9 hg
  exact ⟨s, by simpa using e, hs⟩
set_option maxRecDepth 100000 in
theorem dec_Label (n : Nat) (cs : List Value) (y : DataW H × List MemPlace) (h : DataW.trod enc Tryz.prog W base (fun _ => true) true n 100 cs = some y) :
    ∃ a b : Int, cs = [.int .i64 a, .int .i64 b] := by
  obtain ⟨xs, m, _, _, hlen, hxl, hg⟩ := DataW.trod_struct Tryz.underlying100 h
  rw [show Tryz.prog.cellsOf 100 = 2 from by kernel_rfl] at hlen
  have hx3 : xs.length = 2 := hxl
  match cs, hlen with
  | [c0, c1], _ =>
    obtain ⟨s0, rfl, h0⟩ := at_int (j := 0) (k := 0) (hg 0 _ rfl) (by omega) rfl
    obtain ⟨s1, rfl, h1⟩ := at_int (j := 1) (k := 1) (hg 1 _ rfl) (by omega) rfl
    exact ⟨s0, s1, rfl⟩
set_option maxRecDepth 100000 in
theorem at_lab {n k j : Nat} {cs : List Value} {xs : List (DataW H × List MemPlace)} (hg : DataW.trod enc Tryz.prog W base (fun _ => true) true n 100 ((cs.drop k).take (Tryz.prog.cellsOf 100)) = xs[j]?) (hk : j < xs.length)
    {c c' : Value} (hck : cs[k]? = some c) (hck' : cs[k + 1]? = some c') : ∃ a b : Int, c = .int .i64 a ∧ c' = .int .i64 b := by
  rw [show Tryz.prog.cellsOf 100 = 2 from by kernel_rfl, List.getElem?_eq_getElem hk] at hg
  have : (cs.drop k).take 2 = [c, c'] := by
    obtain ⟨h1, h2⟩ := List.getElem?_eq_some_iff.1 hck
    obtain ⟨h3, h4⟩ := List.getElem?_eq_some_iff.1 hck'
    rw [List.drop_eq_getElem_cons h1, h2, List.drop_eq_getElem_cons h3, h4]
    rfl
  rw [this] at hg
  obtain ⟨a, b, e⟩ := dec_Label _ _ _ hg
  simp at e
  exact ⟨a, b, e.1, e.2⟩
end
end Go.Proofs.YtjklmldchbakjaaGreat
