/-
  Houses among the arguments, opened.
-/
import Derived.Test.YtcaeemhkeoajbaaGreatG9
import Derived.Test.YtcaeemhkeoajbaaGreatHz
set_option linter.unusedSimpArgs false
set_option linter.unusedVariables false
namespace Go.Proofs.YtcaeemhkeoajbaaGreat
open Go.ChangeShapes Go.WideShapes Go.ChangeAt Go.RowKit Go.Joins Go.Deep M
section
variable {H : Type} {enc : TypeId × Value → H} {W : World} {base b0 : Nat} {r : Reach} {d : DataW H} {p : List MemPlace} {v : Value}
set_option maxRecDepth 100000 in
theorem dec_RgY (n : Nat) (cs : List Value) (y : DataW H × List MemPlace) (h : DataW.trod enc Tryz.prog W base (fun _ => true) true n 226 cs = some y) :
    ∃ a : Rg, tyRg.rd W cs a ∧ okRg a := by
  obtain ⟨xs, m, _, _, hlen, hxl, hg⟩ := DataW.trod_struct Tryz.underlying226 h
  rw [show Tryz.prog.cellsOf 226 = 3 from by kernel_rfl] at hlen
  have hx3 : xs.length = 3 := hxl
  match cs, hlen with
  | [c0, c1, c2], _ =>
    obtain ⟨s0, rfl, h0⟩ := at_str (j := 0) (k := 0) (hg 0 _ rfl) (by omega) rfl
    obtain ⟨s1, rfl, h1⟩ := at_str (j := 1) (k := 1) (hg 1 _ rfl) (by omega) rfl
    obtain ⟨s2, rfl, h2⟩ := at_str (j := 2) (k := 2) (hg 2 _ rfl) (by omega) rfl
    exact ⟨(s0, s1, s2), rfl, h0, h1, h2⟩
set_option maxRecDepth 100000 in
theorem dec_DkY (n : Nat) (cs : List Value) (y : DataW H × List MemPlace) (h : DataW.trod enc Tryz.prog W base (fun _ => true) true n 59 cs = some y) :
    ∃ a : Dk, Dz.tyDk.rd W cs a ∧ okDk a := by
  obtain ⟨xs, m, _, _, hlen, hxl, hg⟩ := DataW.trod_struct Tryz.underlying59 h
  rw [show Tryz.prog.cellsOf 59 = 2 from by kernel_rfl] at hlen
  have hx3 : xs.length = 2 := hxl
  match cs, hlen with
  | [c0, c1], _ =>
    obtain ⟨y0, hy0⟩ := one_cell (k := 0) (c := c0) (hg 0 _ rfl) (by kernel_rfl) (by omega) rfl
    obtain ⟨s1, rfl, h1⟩ := at_int (j := 1) (k := 1) (hg 1 _ rfl) (by omega) rfl
    obtain ⟨l0, h0, k0⟩ := open_sl (E := 150) (T := tyRg) (ok := okRg) Tryz.underlying57 (by kernel_rfl) (by decide) dec_RgY hy0
    exact ⟨(l0, s1), ⟨[c0], [.int .i64 s1], rfl, h0, rfl⟩, k0⟩
set_option maxRecDepth 100000 in
theorem dec_HoY (n : Nat) (cs : List Value) (y : DataW H × List MemPlace) (h : DataW.trod enc Tryz.prog W base (fun _ => true) true n 61 cs = some y) :
    ∃ a : Ho, Dz.tyHo.rd W cs a ∧ (okHo a ∧ ∀ b ∈ a.1.2, bdBo b) := by
  obtain ⟨xs, m, _, _, hlen, hxl, hg⟩ := DataW.trod_struct Tryz.underlying61 h
  rw [show Tryz.prog.cellsOf 61 = 12 from by kernel_rfl] at hlen
  have hx3 : xs.length = 3 := hxl
  match cs, hlen with
  | [c0, c1, c2, c3, c4, c5, c6, c7, c8, c9, c10, c11], _ =>
    obtain ⟨st, hs, ks⟩ := at_dec (k := 0) (j := 0) (c := 9) (by kernel_rfl) dec_StY (hg 0 _ rfl) (by omega) rfl
    obtain ⟨dk, hd, kd⟩ := at_dec (k := 9) (j := 1) (c := 2) (by kernel_rfl) dec_DkY (hg 1 _ rfl) (by omega) rfl
    obtain ⟨s, rfl, _⟩ := at_int (j := 2) (k := 11) (hg 2 _ rfl) (by omega) rfl
    exact ⟨(st, dk, s), ⟨[c0, c1, c2, c3, c4, c5, c6, c7, c8], [c9, c10, .int .i64 s], rfl, hs, [c9, c10], [.int .i64 s], rfl, hd, rfl⟩, ⟨ks.1, kd⟩, ks.2⟩
set_option maxRecDepth 100000 in
theorem open_House (hv : Value.okWide Tryz.prog W r b0 61 v) (h : DataW.Trod enc Tryz.prog W base (fun _ => true) true 61 v d p) :
    ∃ (cs : List Value) (a : Ho), v = .agg cs.toArray ∧ Dz.tyHo.rd W cs a ∧ (okHo a ∧ ∀ b ∈ a.1.2, bdBo b) := by
  obtain ⟨cs, rfl, hsz⟩ := okWide_struct Tryz.underlying61 hv
  obtain ⟨m, hm⟩ := h
  obtain ⟨c, hc, hk⟩ := dec_HoY _ _ _ hm
  exact ⟨cs.toList, c, by simp, hc, hk⟩
end
end Go.Proofs.YtcaeemhkeoajbaaGreat
