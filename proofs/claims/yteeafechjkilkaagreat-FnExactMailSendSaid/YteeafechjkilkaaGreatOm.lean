/-
  Mail among the arguments, opened.
-/
import Derived.Test.YteeafechjkilkaaGreatOq
import Derived.Test.YteeafechjkilkaaGreatMb
set_option linter.unusedSimpArgs false
set_option linter.unusedVariables false
namespace Go.Proofs.YteeafechjkilkaaGreat
open Go.ChangeShapes Go.WideShapes Go.ChangeAt Go.RowKit Go.Joins Go.Deep M
section
variable {H : Type} {enc : TypeId × Value → H} {W : World} {base b0 : Nat} {r : Reach} {d : DataW H} {p : List MemPlace} {v : Value}
set_option maxRecDepth 100000 in
theorem dec_Num (n : Nat) (cs : List Value) (y : DataW H × List MemPlace) (h : DataW.trod enc Tryz.prog W base (fun _ => true) true n 2 cs = some y) :
    ∃ a : Int, tyNum.rd W cs a ∧ True := by
  obtain ⟨z, rfl, _, wz⟩ := DataW.trod_int Tryz.underlying2 h
  exact ⟨z, rfl, trivial⟩
set_option maxRecDepth 100000 in
theorem dec_Nt (n : Nat) (cs : List Value) (y : DataW H × List MemPlace) (h : DataW.trod enc Tryz.prog W base (fun _ => true) true n 309 cs = some y) :
    ∃ a : Nt, tyNt.rd W cs a ∧ (bd a.1 ∧ bd a.2) := by
  obtain ⟨xs, m, _, _, hlen, hxl, hg⟩ := DataW.trod_struct Tryz.underlying309 h
  rw [show Tryz.prog.cellsOf 309 = 2 from by kernel_rfl] at hlen
  have hx3 : xs.length = 2 := hxl
  match cs, hlen with
  | [c0, c1], _ =>
    obtain ⟨s0, rfl, h0⟩ := at_int (j := 0) (k := 0) (hg 0 _ rfl) (by omega) rfl
    obtain ⟨s1, rfl, h1⟩ := at_int (j := 1) (k := 1) (hg 1 _ rfl) (by omega) rfl
    exact ⟨(s0, s1), rfl, h0, h1⟩
set_option maxRecDepth 100000 in
theorem dec_Bo (n : Nat) (cs : List Value) (y : DataW H × List MemPlace) (h : DataW.trod enc Tryz.prog W base (fun _ => true) true n 168 cs = some y) :
    ∃ a : Bo, tyBo.rd W cs a ∧ (∀ x ∈ a.2.2, bd x.1 ∧ bd x.2) := by
  obtain ⟨xs, m, _, _, hlen, hxl, hg⟩ := DataW.trod_struct Tryz.underlying168 h
  rw [show Tryz.prog.cellsOf 168 = 3 from by kernel_rfl] at hlen
  have hx3 : xs.length = 3 := hxl
  match cs, hlen with
  | [c0, c1, c2], _ =>
    obtain ⟨y0, hy0⟩ := one_cell (k := 0) (c := c0) (hg 0 _ rfl) (by kernel_rfl) (by omega) rfl
    obtain ⟨y1, hy1⟩ := one_cell (k := 1) (c := c1) (hg 1 _ rfl) (by kernel_rfl) (by omega) rfl
    obtain ⟨y2, hy2⟩ := one_cell (k := 2) (c := c2) (hg 2 _ rfl) (by kernel_rfl) (by omega) rfl
    obtain ⟨l0, h0, _⟩ := open_sl (E := 2) (T := tyNum) (ok := fun _ => True) Tryz.underlying111 (by kernel_rfl) (by decide) dec_Num hy0
    obtain ⟨l1, h1, _⟩ := open_sl (E := 2) (T := tyNum) (ok := fun _ => True) Tryz.underlying111 (by kernel_rfl) (by decide) dec_Num hy1
    obtain ⟨l2, h2, k2⟩ := open_sl (E := 116) (T := tyNt) (ok := fun x => bd x.1 ∧ bd x.2) Tryz.underlying166 (by kernel_rfl) (by decide) dec_Nt hy2
    exact ⟨(l0, l1, l2), ⟨[c0], [c1, c2], rfl, h0, [c1], [c2], rfl, h1, h2⟩, k2⟩
set_option maxRecDepth 100000 in
theorem dec_Ml (n : Nat) (cs : List Value) (y : DataW H × List MemPlace) (h : DataW.trod enc Tryz.prog W base (fun _ => true) true n 29 cs = some y) :
    ∃ (v : Value) (l : List Bo), cs = [v] ∧ (Ty.sl 114 tyBo).rd W [v] l ∧ (∀ b ∈ l, ∀ x ∈ b.2.2, bd x.1 ∧ bd x.2) := by
  obtain ⟨xs, m, _, _, hlen, hxl, hg⟩ := DataW.trod_struct Tryz.underlying29 h
  rw [show Tryz.prog.cellsOf 29 = 1 from by kernel_rfl] at hlen
  have hx3 : xs.length = 1 := hxl
  match cs, hlen with
  | [c0], _ =>
    obtain ⟨y0, hy0⟩ := one_cell (k := 0) (c := c0) (hg 0 _ rfl) (by kernel_rfl) (by omega) rfl
    obtain ⟨l0, h0, k0⟩ := open_sl (E := 114) (T := tyBo) (ok := fun b => ∀ x ∈ b.2.2, bd x.1 ∧ bd x.2) Tryz.underlying27 (by kernel_rfl) (by decide) dec_Bo hy0
    exact ⟨c0, l0, rfl, h0, k0⟩
set_option maxRecDepth 100000 in
theorem open_Mail (hv : Value.okWide Tryz.prog W r b0 29 v) (h : DataW.Trod enc Tryz.prog W base (fun _ => true) true 29 v d p) :
    ∃ (u : Value) (l : List Bo), v = .agg #[u] ∧ (Ty.sl 114 tyBo).rd W [u] l ∧ (∀ b ∈ l, ∀ x ∈ b.2.2, bd x.1 ∧ bd x.2) := by
  obtain ⟨cs, rfl, hsz⟩ := okWide_struct Tryz.underlying29 hv
  obtain ⟨m, hm⟩ := h
  obtain ⟨u, l, e, hc, hk⟩ := dec_Ml _ _ _ hm
  exact ⟨u, l, by congr 1; rw [← Array.toList_inj]; exact e, hc, hk⟩
set_option maxRecDepth 100000 in
theorem open_Label (hv : Value.okWide Tryz.prog W r b0 31 v) (h : DataW.Trod enc Tryz.prog W base (fun _ => true) true 31 v d p) :
    ∃ a : Lab, v = .agg #[.int .i64 a.1, .int .i64 a.2] := by
  obtain ⟨cs, rfl, hsz⟩ := okWide_struct Tryz.underlying31 hv
  obtain ⟨m, hm⟩ := h
  obtain ⟨a, b, e⟩ := dec_Label _ _ _ hm
  exact ⟨(a, b), by congr 1; rw [← Array.toList_inj]; exact e⟩
end
end Go.Proofs.YteeafechjkilkaaGreat
