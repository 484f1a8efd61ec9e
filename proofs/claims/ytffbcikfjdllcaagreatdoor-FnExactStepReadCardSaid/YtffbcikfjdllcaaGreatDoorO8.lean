import Derived.Test.YtffbcikfjdllcaaGreatDoorO7
import Derived.Test.YtffbcikfjdllcaaGreatDoorOpen
set_option linter.unusedSimpArgs false
set_option linter.unusedVariables false
namespace Go.Proofs.YtffbcikfjdllcaaGreatDoor
namespace M
structure Opr where
  sys : Bool
  l1 : Int
  l2 : Int
  k : Int
  ow : ByteArray
  a : Int
  b : Int
  c : Int
  d : Int
  m1 : Int
  m2 : Int
  af : Int
  deriving Inhabited
end M
open Go.ChangeShapes Go.WideShapes Go.ChangeAt Go.RowKit Go.Joins Go.Deep M
open Go.ChangeMaps (open_string shut_string)
def encOl (o : Opr) : List Value := [.bool o.sys, .int .i64 o.l1, .int .i64 o.l2, .int .i64 o.k, .string o.ow, .int .i64 o.a, .int .i64 o.b, .int .i64 o.c, .int .i64 o.d, .int .i64 o.m1, .int .i64 o.m2, .int .i64 o.af]
def encO (o : Opr) : Value := encOp o.sys o.l1 o.l2 o.k o.ow o.a o.b o.c o.d o.m1 o.m2 o.af
section
variable {H : Type} {enc : TypeId × Value → H} {W : World} {base b0 : Nat} {r : Reach} {d : DataW H} {p : List MemPlace} {v : Value}
theorem cell_bool {n k j : Nat} {cs : List Value} {xs : List (DataW H × List MemPlace)} (hg : DataW.trod enc Tryz.prog W base (fun _ => true) true n 4 ((cs.drop k).take (Tryz.prog.cellsOf 4)) = xs[j]?) (hk : j < xs.length)
    {c : Value} (hck : cs[k]? = some c) : ∃ s : Bool, c = .bool s := by
  rw [show Tryz.prog.cellsOf 4 = 1 from by kernel_rfl, List.getElem?_eq_getElem hk] at hg
  have : (cs.drop k).take 1 = [c] := by
    obtain ⟨h1, h2⟩ := List.getElem?_eq_some_iff.1 hck
    rw [List.drop_eq_getElem_cons h1, h2]
    rfl
  rw [this] at hg
  obtain ⟨b, e, _⟩ := DataW.trod_bool Tryz.underlying4 hg
  exact ⟨b, by simpa using e⟩
theorem at_int {n k j : Nat} {cs : List Value} {xs : List (DataW H × List MemPlace)} (hg : DataW.trod enc Tryz.prog W base (fun _ => true) true n 2 ((cs.drop k).take (Tryz.prog.cellsOf 2)) = xs[j]?) (hk : j < xs.length)
    {c : Value} (hck : cs[k]? = some c) : ∃ s : Int, c = .int .i64 s ∧ (-9223372036854775808 ≤ s ∧ s ≤ 9223372036854775807) := by
  rw [show Tryz.prog.cellsOf 2 = 1 from by kernel_rfl, List.getElem?_eq_getElem hk] at hg
  have : (cs.drop k).take 1 = [c] := by
    obtain ⟨h1, h2⟩ := List.getElem?_eq_some_iff.1 hck
    rw [List.drop_eq_getElem_cons h1, h2]
    rfl
  rw [this] at hg
  obtain ⟨s, e, _, hs⟩ := DataW.trod_int Tryz.underlying2 hg
  exact ⟨s, by simpa using e, bd_i64 hs⟩
theorem at_str {n k j : Nat} {cs : List Value} {xs : List (DataW H × List MemPlace)} (hg : DataW.trod enc Tryz.prog W base (fun _ => true) true n 9 ((cs.drop k).take (Tryz.prog.cellsOf 9)) = xs[j]?) (hk : j < xs.length)
    {c : Value} (hck : cs[k]? = some c) : ∃ s : ByteArray, c = .string s ∧ s.size ≤ maxLen := by
  rw [show Tryz.prog.cellsOf 9 = 1 from by kernel_rfl, List.getElem?_eq_getElem hk] at hg
  have : (cs.drop k).take 1 = [c] := by
    obtain ⟨h1, h2⟩ := List.getElem?_eq_some_iff.1 hck
    rw [List.drop_eq_getElem_cons h1, h2]
    rfl
  rw [this] at hg
  obtain ⟨s, e, _, hs⟩ := DataW.trod_string Tryz.underlying9 hg
  exact ⟨s, by simpa using e, hs⟩
end
end Go.Proofs.YtffbcikfjdllcaaGreatDoor
