import Derived.Test.YtengmmffommafaaGreatO7
import Derived.Test.YtengmmffommafaaGreatOpen
set_option linter.unusedSimpArgs false
set_option linter.unusedVariables false
namespace Go.Proofs.YtengmmffommafaaGreat
namespace M
structure Opr where
  sys : Bool
  l1 : Int
  l2 : Int
  k : Int
  ow : ByteArray
  a : Int
  b : Int
  c : Int
  d : Int
  m1 : Int
  m2 : Int
  af : Int
  deriving Inhabited
end M
open Go.ChangeShapes Go.WideShapes Go.ChangeAt Go.RowKit Go.Joins Go.Deep M
open Go.ChangeMaps (open_string shut_string)
def encOl (o : Opr) : List Value := [.bool o.sys, .int .i64 o.l1, .int .i64 o.l2, .int .i64 o.k, .string o.ow, .int .i64 o.a, .int .i64 o.b, .int .i64 o.c, .int .i64 o.d, .int .i64 o.m1, .int .i64 o.m2, .int .i64 o.af]
def encO (o : Opr) : Value := encOp o.sys o.l1 o.l2 o.k o.ow o.a o.b o.c o.d o.m1 o.m2 o.af
section
variable {H : Type} {enc : TypeId × Value → H} {W : World} {base b0 : Nat} {r : Reach} {d : DataW H} {p : List MemPlace} {v : Value}
theorem cell_bool {n k j : Nat} {cs : List Value} {xs : List (DataW H × List MemPlace)} (hg : DataW.trod enc Tryz.prog W base (fun _ => true) true n 4 ((cs.drop k).take (Tryz.prog.cellsOf 4)) = xs[j]?) (hk : j < xs.length)
    {c : Value} (hck : cs[k]? = some c) : ∃ s : Bool, c = .bool s := by
  rw [show Tryz.prog.cellsOf 4 = 1 from by kernel_rfl, List.getElem?_eq_getElem hk] at hg
  have : (cs.drop k).take 1 = [c] := by
    obtain ⟨h1, h2⟩ := List.getElem?_eq_some_iff.1 hck
    rw [List.drop_eq_getElem_cons h1, h2]
    rfl
  rw [this] at hg
  obtain ⟨b, e, _⟩ := DataW.trod_bool Tryz.underlying4 hg
  exact ⟨b, by simpa using e⟩
theorem at_int {n k j : Nat} {cs : List Value} {xs : List (DataW H × List MemPlace)} (hg : DataW.trod enc Tryz.prog W base (fun _ => true) true n 2 ((cs.drop k).take (Tryz.prog.cellsOf 2)) = xs[j]?) (hk : j < xs.length)
    {c : Value} (hck : cs[k]? = some c) : ∃ s : Int, c = .int .i64 s ∧ (-9223372036854775808 ≤ s ∧ s ≤ 9223372036854775807) := by
  rw [show Tryz.prog.cellsOf 2 = 1 from by kernel_rfl, List.getElem?_eq_getElem hk] at hg
  have : (cs.drop k).take 1 = [c] := by
    obtain ⟨h1, h2⟩ := List.getElem?_eq_some_iff.1 hck
    rw [List.drop_eq_getElem_cons h1, h2]
    rfl
  rw [this] at hg
  obtain ⟨s, e, _, hs⟩ := DataW.trod_int Tryz.underlying2 hg
  exact ⟨s, by simpa using e, bd_i64 hs⟩
theorem at_str {n k j : Nat} {cs : List Value} {xs : List (DataW H × List MemPlace)} (hg : DataW.trod enc Tryz.prog W base (fun _ => true) true n 9 ((cs.drop k).take (Tryz.prog.cellsOf 9)) = xs[j]?) (hk : j < xs.length)
    {c : Value} (hck : cs[k]? = some c) : ∃ s : ByteArray, c = .string s ∧ s.size ≤ maxLen := by
  rw [show Tryz.prog.cellsOf 9 = 1 from by kernel_rfl, List.getElem?_eq_getElem hk] at hg
  have : (cs.drop k).take 1 = [c] := by
    obtain ⟨h1, h2⟩ := List.getElem?_eq_some_iff.1 hck
    rw [List.drop_eq_getElem_cons h1, h2]
    rfl
  rw [this] at hg
  obtain ⟨s, e, _, hs⟩ := DataW.trod_string Tryz.underlying9 hg
  exact ⟨s, by simpa using e, hs⟩
set_option maxRecDepth 100000 in
theorem dec_Label (n : Nat) (cs : List Value) (y : DataW H × List MemPlace) (h : DataW.trod enc Tryz.prog W base (fun _ => true) true n 46 cs = some y) :
    ∃ a b : Int, cs = [.int .i64 a, .int .i64 b] := by
  obtain ⟨xs, m, _, _, hlen, hxl, hg⟩ := DataW.trod_struct Tryz.underlying46 h
  rw [show Tryz.prog.cellsOf 46 = 2 from by kernel_rfl] at hlen
  have hx3 : xs.length = 2 := hxl
  match cs, hlen with
  | [c0, c1], _ =>
    obtain ⟨s0, rfl, h0⟩ := at_int (j := 0) (k := 0) (hg 0 _ rfl) (by omega) rfl
    obtain ⟨s1, rfl, h1⟩ := at_int (j := 1) (k := 1) (hg 1 _ rfl) (by omega) rfl
    exact ⟨s0, s1, rfl⟩
set_option maxRecDepth 100000 in
theorem at_lab {n k j : Nat} {cs : List Value} {xs : List (DataW H × List MemPlace)} (hg : DataW.trod enc Tryz.prog W base (fun _ => true) true n 46 ((cs.drop k).take (Tryz.prog.cellsOf 46)) = xs[j]?) (hk : j < xs.length)
    {c c' : Value} (hck : cs[k]? = some c) (hck' : cs[k + 1]? = some c') : ∃ a b : Int, c = .int .i64 a ∧ c' = .int .i64 b := by
  rw [show Tryz.prog.cellsOf 46 = 2 from by kernel_rfl, List.getElem?_eq_getElem hk] at hg
  have : (cs.drop k).take 2 = [c, c'] := by
    obtain ⟨h1, h2⟩ := List.getElem?_eq_some_iff.1 hck
    obtain ⟨h3, h4⟩ := List.getElem?_eq_some_iff.1 hck'
    rw [List.drop_eq_getElem_cons h1, h2, List.drop_eq_getElem_cons h3, h4]
    rfl
  rw [this] at hg
  obtain ⟨a, b, e⟩ := dec_Label _ _ _ hg
  simp at e
  exact ⟨a, b, e.1, e.2⟩
set_option maxRecDepth 100000 in
theorem dec_Op (n : Nat) (cs : List Value) (y : DataW H × List MemPlace) (h : DataW.trod enc Tryz.prog W base (fun _ => true) true n 74 cs = some y) :
    ∃ o : Opr, cs = encOl o ∧ o.ow.size ≤ maxLen := by
  obtain ⟨xs, m, _, _, hlen, hxl, hg⟩ := DataW.trod_struct Tryz.underlying74 h
  rw [show Tryz.prog.cellsOf 74 = 12 from by kernel_rfl] at hlen
  have hx3 : xs.length = 10 := hxl
  match cs, hlen with
  | [c0, c1, c2, c3, c4, c5, c6, c7, c8, c9, c10, c11], _ =>
    obtain ⟨s0, rfl⟩ := cell_bool (j := 0) (k := 0) (hg 0 _ rfl) (by omega) rfl
    obtain ⟨s1, s2, rfl, rfl⟩ := at_lab (j := 1) (k := 1) (hg 1 _ rfl) (by omega) rfl rfl
    obtain ⟨s3, rfl, _⟩ := at_int (j := 2) (k := 3) (hg 2 _ rfl) (by omega) rfl
    obtain ⟨s4, rfl, h4⟩ := at_str (j := 3) (k := 4) (hg 3 _ rfl) (by omega) rfl
    obtain ⟨s5, rfl, _⟩ := at_int (j := 4) (k := 5) (hg 4 _ rfl) (by omega) rfl
    obtain ⟨s6, rfl, _⟩ := at_int (j := 5) (k := 6) (hg 5 _ rfl) (by omega) rfl
    obtain ⟨s7, rfl, _⟩ := at_int (j := 6) (k := 7) (hg 6 _ rfl) (by omega) rfl
    obtain ⟨s8, rfl, _⟩ := at_int (j := 7) (k := 8) (hg 7 _ rfl) (by omega) rfl
    obtain ⟨s9, s10, rfl, rfl⟩ := at_lab (j := 8) (k := 9) (hg 8 _ rfl) (by omega) rfl rfl
    obtain ⟨s11, rfl, _⟩ := at_int (j := 9) (k := 11) (hg 9 _ rfl) (by omega) rfl
    exact ⟨⟨s0, s1, s2, s3, s4, s5, s6, s7, s8, s9, s10, s11⟩, rfl, h4⟩
set_option maxRecDepth 100000 in
theorem open_Op (hv : Value.okWide Tryz.prog W r b0 74 v) (h : DataW.Trod enc Tryz.prog W base (fun _ => true) true 74 v d p) :
    ∃ o : Opr, v = encO o ∧ o.ow.size ≤ maxLen := by
  obtain ⟨cs, rfl, hsz⟩ := okWide_struct Tryz.underlying74 hv
  obtain ⟨m, hm⟩ := h
  obtain ⟨o, e, ho⟩ := dec_Op _ _ _ hm
  exact ⟨o, by unfold encO encOp; congr 1; rw [← Array.toList_inj]; exact e, ho⟩
end
end Go.Proofs.YtengmmffommafaaGreat
