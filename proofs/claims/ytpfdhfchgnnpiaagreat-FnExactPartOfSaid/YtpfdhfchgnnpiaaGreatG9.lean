/-
  Configurations and the like among the arguments, opened.
-/
import Derived.Test.YtpfdhfchgnnpiaaGreatG6
import Derived.Test.YtpfdhfchgnnpiaaGreatG8
import Derived.Test.YtpfdhfchgnnpiaaGreatCp
import Derived.Test.YtpfdhfchgnnpiaaGreatG1
import Derived.Test.YtpfdhfchgnnpiaaGreatHx
set_option linter.unusedSimpArgs false
set_option linter.unusedVariables false
namespace Go.Proofs.YtpfdhfchgnnpiaaGreat
open Go.ChangeShapes Go.WideShapes Go.ChangeAt Go.RowKit Go.Joins Go.Deep M
section
variable {H : Type} {enc : TypeId × Value → H} {W : World} {base b0 : Nat} {r : Reach} {d : DataW H} {p : List MemPlace} {v : Value}
/-- a slice of data, read at every index -/
theorem open_sl {α : Type} [Inhabited α] {T : Ty α} {ok : α → Prop} {t e E : TypeId} (ht : Tryz.prog.underlying t = some (.slice e)) (hs : Tryz.prog.cellsOf e = T.s) (hs0 : 0 < T.s)
    (hdec : ∀ n cs y, DataW.trod enc Tryz.prog W base (fun _ => true) true n e cs = some y → ∃ a : α, T.rd W cs a ∧ ok a)
    {fuel : Nat} {x : DataW H × List MemPlace} (hf : DataW.trod enc Tryz.prog W base (fun _ => true) true fuel t [v] = some x) :
    ∃ l : List α, (Ty.sl E T).rd W [v] l ∧ ∀ a ∈ l, ok a := by
  have hl : ∀ q : α × List Value, (if q.2.length = T.s then q.2 else List.replicate T.s (Value.bool false)).length = T.s := fun q => by
    by_cases h : q.2.length = T.s
    · rw [if_pos h]; exact h
    · rw [if_neg h]; simp
  obtain ⟨xs, hA, hR, hO⟩ := open_list (α := α × List Value) (enc' := fun q => if q.2.length = T.s then q.2 else List.replicate T.s (Value.bool false)) (s := T.s)
    (ok := fun q => T.rd W (if q.2.length = T.s then q.2 else List.replicate T.s (Value.bool false)) q.1 ∧ ok q.1) ht hs hs0 hl
    (fun n cs y h => by
      obtain ⟨a, ha, hk⟩ := hdec n cs y h
      have hc : cs.length = T.s := T.len ha
      exact ⟨(a, cs), by simp only [hc, if_true], by simp only [hc, if_true]; exact ha, hk⟩) hf
  refine ⟨xs.map Prod.fst, ⟨v, _, rfl, by rw [List.length_map]; exact hR, ?_⟩, ?_⟩
  · clear hR hA
    induction xs with
    | nil => exact .nil
    | cons q xs ih =>
      exact .cons (hO q (List.mem_cons_self ..)).1 (ih (fun a ha => hO a (List.mem_cons_of_mem _ ha)))
  · intro a ha
    obtain ⟨q, hq, rfl⟩ := List.mem_map.1 ha
    exact (hO q hq).2
set_option maxRecDepth 100000 in
theorem dec_Lab (n : Nat) (cs : List Value) (y : DataW H × List MemPlace) (h : DataW.trod enc Tryz.prog W base (fun _ => true) true n 129 cs = some y) :
    ∃ a : Lab, tyLab.rd W cs a ∧ True := by
  obtain ⟨a, b, rfl⟩ := dec_Label n cs y h
  exact ⟨(a, b), rfl, trivial⟩
set_option maxRecDepth 100000 in
theorem dec_LabS (n : Nat) (cs : List Value) (y : DataW H × List MemPlace) (h : DataW.trod enc Tryz.prog W base (fun _ => true) true n 179 cs = some y) :
    ∃ a : List Lab, (Ty.sl 66 tyLab).rd W cs a ∧ True := by
  have hlen : cs.length = 1 := by
    rcases open_slice Tryz.underlying179 h with ⟨hcs, _⟩ | ⟨a, n, cap, m, k, D, Pl, hcs, _⟩ <;> rw [hcs] <;> rfl
  match cs, hlen with
  | [c0], _ =>
    obtain ⟨l, hl, _⟩ := open_sl (E := 66) (T := tyLab) (ok := fun _ => True) Tryz.underlying179 (by kernel_rfl) (by decide) dec_Lab h
    exact ⟨l, hl, trivial⟩
set_option maxRecDepth 100000 in
theorem dec_Pr (n : Nat) (cs : List Value) (y : DataW H × List MemPlace) (h : DataW.trod enc Tryz.prog W base (fun _ => true) true n 199 cs = some y) :
    ∃ a : Pr, tyPr.rd W cs a ∧ True := by
  obtain ⟨xs, m, _, _, hlen, hxl, hg⟩ := DataW.trod_struct Tryz.underlying199 h
  rw [show Tryz.prog.cellsOf 199 = 5 from by kernel_rfl] at hlen
  have hx3 : xs.length = 3 := hxl
  match cs, hlen with
  | [c0, c1, c2, c3, c4], _ =>
    obtain ⟨s0, s1, rfl, rfl⟩ := at_lab (j := 0) (k := 0) (hg 0 _ rfl) (by omega) rfl rfl
    obtain ⟨s2, s3, rfl, rfl⟩ := at_lab (j := 1) (k := 2) (hg 1 _ rfl) (by omega) rfl rfl
    obtain ⟨s4, rfl, h4⟩ := at_int (j := 2) (k := 4) (hg 2 _ rfl) (by omega) rfl
    exact ⟨((s0, s1), (s2, s3), s4), rfl, trivial⟩
set_option maxRecDepth 100000 in
theorem dec_Qt (n : Nat) (cs : List Value) (y : DataW H × List MemPlace) (h : DataW.trod enc Tryz.prog W base (fun _ => true) true n 202 cs = some y) :
    ∃ a : Qt, tyQt.rd W cs a ∧ True := by
  obtain ⟨xs, m, _, _, hlen, hxl, hg⟩ := DataW.trod_struct Tryz.underlying202 h
  rw [show Tryz.prog.cellsOf 202 = 3 from by kernel_rfl] at hlen
  have hx3 : xs.length = 2 := hxl
  match cs, hlen with
  | [c0, c1, c2], _ =>
    obtain ⟨s0, s1, rfl, rfl⟩ := at_lab (j := 0) (k := 0) (hg 0 _ rfl) (by omega) rfl rfl
    obtain ⟨s2, rfl, h4⟩ := at_int (j := 1) (k := 2) (hg 1 _ rfl) (by omega) rfl
    exact ⟨((s0, s1), s2), rfl, trivial⟩
set_option maxRecDepth 100000 in
theorem dec_Cfg (n : Nat) (cs : List Value) (y : DataW H × List MemPlace) (h : DataW.trod enc Tryz.prog W base (fun _ => true) true n 26 cs = some y) :
    ∃ a : Cfg, tyCfg.rd W cs a ∧ True := by
  obtain ⟨xs, m, _, _, hlen, hxl, hg⟩ := DataW.trod_struct Tryz.underlying26 h
  rw [show Tryz.prog.cellsOf 26 = 4 from by kernel_rfl] at hlen
  have hx3 : xs.length = 4 := hxl
  match cs, hlen with
  | [c0, c1, c2, c3], _ =>
    obtain ⟨y0, hy0⟩ := one_cell (k := 0) (c := c0) (hg 0 _ rfl) (by kernel_rfl) (by omega) rfl
    obtain ⟨y1, hy1⟩ := one_cell (k := 1) (c := c1) (hg 1 _ rfl) (by kernel_rfl) (by omega) rfl
    obtain ⟨y2, hy2⟩ := one_cell (k := 2) (c := c2) (hg 2 _ rfl) (by kernel_rfl) (by omega) rfl
    obtain ⟨s3, rfl, h3⟩ := at_int (j := 3) (k := 3) (hg 3 _ rfl) (by omega) rfl
    obtain ⟨l0, h0, _⟩ := open_sl (E := 60) (T := Ty.sl 66 tyLab) (ok := fun _ => True) Tryz.underlying22 (by kernel_rfl) (by decide) dec_LabS hy0
    obtain ⟨l1, h1, _⟩ := open_sl (E := 103) (T := tyPr) (ok := fun _ => True) Tryz.underlying23 (by kernel_rfl) (by decide) dec_Pr hy1
    obtain ⟨l2, h2, _⟩ := open_sl (E := 193) (T := tyQt) (ok := fun _ => True) Tryz.underlying24 (by kernel_rfl) (by decide) dec_Qt hy2
    exact ⟨(l0, l1, l2, s3), ⟨[c0], [c1, c2, .int .i64 s3], rfl, h0, [c1], [c2, .int .i64 s3], rfl, h1, [c2], [.int .i64 s3], rfl, h2, rfl⟩, trivial⟩
end
end Go.Proofs.YtpfdhfchgnnpiaaGreat
namespace Go.Proofs.YtpfdhfchgnnpiaaGreat
open Go.RowKit M
namespace M
def bd (n : Int) : Prop := -9223372036854775808 ≤ n ∧ n ≤ 9223372036854775807
def catTo (f : Nat → Bs) (i : Nat) : Bs := ((List.range i).map f).flatten
theorem catTo_succ (f : Nat → Bs) (i : Nat) : catTo f (i + 1) = catTo f i ++ f i := by
  unfold catTo
  rw [List.range_succ, List.map_append, List.flatten_append]
  simp
theorem catTo_len {f : Nat → Bs} {b : Nat} (h : ∀ i, (f i).length ≤ b) (i : Nat) : (catTo f i).length ≤ b * i := by
  induction i with
  | zero => simp [catTo]
  | succ i ih =>
    rw [catTo_succ, List.length_append, Nat.mul_succ]
    have := h i
    omega
end M
end Go.Proofs.YtpfdhfchgnnpiaaGreat
namespace Go.Proofs.YtpfdhfchgnnpiaaGreat
open Go.ChangeShapes Go.WideShapes Go.ChangeAt Go.RowKit Go.Joins Go.Deep M
section
variable {H : Type} {enc : TypeId × Value → H} {W : World} {base b0 : Nat} {r : Reach} {d : DataW H} {p : List MemPlace} {v : Value}
theorem at_dec {α : Type} {Q : List Value → α → Prop} {t : TypeId} {c : Nat} (hc : Tryz.prog.cellsOf t = c) (hdec : ∀ n cs y, DataW.trod enc Tryz.prog W base (fun _ => true) true n t cs = some y → ∃ a : α, Q cs a)
    {n k j : Nat} {cs os : List Value} {xs : List (DataW H × List MemPlace)} (hg : DataW.trod enc Tryz.prog W base (fun _ => true) true n t ((cs.drop k).take (Tryz.prog.cellsOf t)) = xs[j]?) (hk : j < xs.length) (ho : (cs.drop k).take c = os) : ∃ a : α, Q os a := by
  rw [hc, List.getElem?_eq_getElem hk, ho] at hg
  exact hdec _ _ _ hg
theorem one_at {n k j : Nat} {T : TypeId} {cs : List Value} {xs : List (DataW H × List MemPlace)} (hg : DataW.trod enc Tryz.prog W base (fun _ => true) true n T ((cs.drop k).take (Tryz.prog.cellsOf T)) = xs[j]?) (hc : Tryz.prog.cellsOf T = 1) (hk : j < xs.length)
    {c : Value} (ho : (cs.drop k).take 1 = [c]) : ∃ y, DataW.trod enc Tryz.prog W base (fun _ => true) true n T [c] = some y := by
  rw [hc, List.getElem?_eq_getElem hk, ho] at hg
  exact ⟨_, hg⟩
theorem dec_NumY (n : Nat) (cs : List Value) (y : DataW H × List MemPlace) (h : DataW.trod enc Tryz.prog W base (fun _ => true) true n 2 cs = some y) :
    ∃ a : Int, tyNum.rd W cs a ∧ bd a := by
  obtain ⟨z, rfl, _, wz⟩ := DataW.trod_int Tryz.underlying2 h
  exact ⟨z, rfl, bd_i64 wz⟩
set_option maxRecDepth 100000 in
theorem dec_SpY (n : Nat) (cs : List Value) (y : DataW H × List MemPlace) (h : DataW.trod enc Tryz.prog W base (fun _ => true) true n 233 cs = some y) :
    ∃ a : Sp, tySp.rd W cs a ∧ True := by
  obtain ⟨xs, m, _, _, hlen, hxl, hg⟩ := DataW.trod_struct Tryz.underlying233 h
  rw [show Tryz.prog.cellsOf 233 = 2 from by kernel_rfl] at hlen
  have hx3 : xs.length = 2 := hxl
  match cs, hlen with
  | [c0, c1], _ =>
    obtain ⟨s0, rfl, h0⟩ := at_int (j := 0) (k := 0) (hg 0 _ rfl) (by omega) rfl
    obtain ⟨s1, rfl, h1⟩ := at_int (j := 1) (k := 1) (hg 1 _ rfl) (by omega) rfl
    exact ⟨(s0, s1), rfl, trivial⟩
set_option maxRecDepth 100000 in
theorem dec_NdY (n : Nat) (cs : List Value) (y : DataW H × List MemPlace) (h : DataW.trod enc Tryz.prog W base (fun _ => true) true n 127 cs = some y) :
    ∃ a : Nd, tyNd.rd W cs a ∧ True := by
  obtain ⟨xs, m, _, _, hlen, hxl, hg⟩ := DataW.trod_struct Tryz.underlying127 h
  rw [show Tryz.prog.cellsOf 127 = 2 from by kernel_rfl] at hlen
  have hx3 : xs.length = 2 := hxl
  match cs, hlen with
  | [c0, c1], _ =>
    obtain ⟨s0, rfl, h0⟩ := at_int (j := 0) (k := 0) (hg 0 _ rfl) (by omega) rfl
    obtain ⟨y1, hy1⟩ := one_cell (k := 1) (c := c1) (hg 1 _ rfl) (by kernel_rfl) (by omega) rfl
    obtain ⟨l1, h1, _⟩ := open_sl (E := 94) (T := tySp) (ok := fun _ => True) Tryz.underlying125 (by kernel_rfl) (by decide) dec_SpY hy1
    exact ⟨(s0, l1), ⟨[.int .i64 s0], [c1], rfl, rfl, h1⟩, trivial⟩
set_option maxRecDepth 100000 in
theorem dec_UsY (n : Nat) (cs : List Value) (y : DataW H × List MemPlace) (h : DataW.trod enc Tryz.prog W base (fun _ => true) true n 134 cs = some y) :
    ∃ a : Us, tyUs.rd W cs a ∧ okUs a := by
  obtain ⟨xs, m, _, _, hlen, hxl, hg⟩ := DataW.trod_struct Tryz.underlying134 h
  rw [show Tryz.prog.cellsOf 134 = 4 from by kernel_rfl] at hlen
  have hx3 : xs.length = 3 := hxl
  match cs, hlen with
  | [c0, c1, c2, c3], _ =>
    obtain ⟨s0, s1, rfl, rfl⟩ := at_lab (j := 0) (k := 0) (hg 0 _ rfl) (by omega) rfl rfl
    obtain ⟨s2, rfl, h2⟩ := at_str (j := 1) (k := 2) (hg 1 _ rfl) (by omega) rfl
    obtain ⟨s3, rfl, h3⟩ := at_int (j := 2) (k := 3) (hg 2 _ rfl) (by omega) rfl
    exact ⟨((s0, s1), s2, s3), rfl, h2⟩
set_option maxRecDepth 100000 in
theorem dec_TaY (n : Nat) (cs : List Value) (y : DataW H × List MemPlace) (h : DataW.trod enc Tryz.prog W base (fun _ => true) true n 131 cs = some y) :
    ∃ a : Ta, tyTa.rd W cs a ∧ okTa a := by
  obtain ⟨xs, m, _, _, hlen, hxl, hg⟩ := DataW.trod_struct Tryz.underlying131 h
  rw [show Tryz.prog.cellsOf 131 = 14 from by kernel_rfl] at hlen
  have hx3 : xs.length = 12 := hxl
  match cs, hlen with
  | [c0, c1, c2, c3, c4, c5, c6, c7, c8, c9, c10, c11, c12, c13], _ =>
    obtain ⟨s0, s1, rfl, rfl⟩ := at_lab (j := 0) (k := 0) (hg 0 _ rfl) (by omega) rfl rfl
    obtain ⟨s2, rfl, _⟩ := at_int (j := 1) (k := 2) (hg 1 _ rfl) (by omega) rfl
    obtain ⟨s3, rfl, h3⟩ := at_str (j := 2) (k := 3) (hg 2 _ rfl) (by omega) rfl
    obtain ⟨s4, rfl, _⟩ := at_int (j := 3) (k := 4) (hg 3 _ rfl) (by omega) rfl
    obtain ⟨s5, rfl, _⟩ := at_int (j := 4) (k := 5) (hg 4 _ rfl) (by omega) rfl
    obtain ⟨s6, rfl, _⟩ := at_int (j := 5) (k := 6) (hg 5 _ rfl) (by omega) rfl
    obtain ⟨s7, s8, rfl, rfl⟩ := at_lab (j := 6) (k := 7) (hg 6 _ rfl) (by omega) rfl rfl
    obtain ⟨s9, rfl, _⟩ := at_int (j := 7) (k := 9) (hg 7 _ rfl) (by omega) rfl
    obtain ⟨s10, rfl, _⟩ := at_int (j := 8) (k := 10) (hg 8 _ rfl) (by omega) rfl
    obtain ⟨s11, rfl, _⟩ := at_int (j := 9) (k := 11) (hg 9 _ rfl) (by omega) rfl
    obtain ⟨s12, rfl, _⟩ := at_int (j := 10) (k := 12) (hg 10 _ rfl) (by omega) rfl
    obtain ⟨y1, hy1⟩ := one_at (k := 13) (j := 11) (c := c13) (hg 11 _ rfl) (by kernel_rfl) (by omega) rfl
    obtain ⟨l1, h1, _⟩ := open_sl (E := 2) (T := tyNum) (ok := bd) Tryz.underlying68 (by kernel_rfl) (by decide) dec_NumY hy1
    exact ⟨(((s0, s1), s2, s3, s4, s5, s6, (s7, s8), s9, s10, s11, s12), l1), ⟨_, [c13], rfl, rfl, h1⟩, h3⟩
set_option maxRecDepth 100000 in
theorem dec_NtY (n : Nat) (cs : List Value) (y : DataW H × List MemPlace) (h : DataW.trod enc Tryz.prog W base (fun _ => true) true n 235 cs = some y) :
    ∃ a : Nt, tyNt.rd W cs a ∧ (bd a.1 ∧ bd a.2) := by
  obtain ⟨xs, m, _, _, hlen, hxl, hg⟩ := DataW.trod_struct Tryz.underlying235 h
  rw [show Tryz.prog.cellsOf 235 = 2 from by kernel_rfl] at hlen
  have hx3 : xs.length = 2 := hxl
  match cs, hlen with
  | [c0, c1], _ =>
    obtain ⟨s0, rfl, h0⟩ := at_int (j := 0) (k := 0) (hg 0 _ rfl) (by omega) rfl
    obtain ⟨s1, rfl, h1⟩ := at_int (j := 1) (k := 1) (hg 1 _ rfl) (by omega) rfl
    exact ⟨(s0, s1), rfl, h0, h1⟩
/-- a box whose numbers are numbers of 64 bits -/
def bdBo (a : Bo) : Prop := (∀ n ∈ a.1, bd n) ∧ (∀ n ∈ a.2.1, bd n) ∧ ∀ x ∈ a.2.2, bd x.1 ∧ bd x.2
set_option maxRecDepth 100000 in
theorem dec_BoY (n : Nat) (cs : List Value) (y : DataW H × List MemPlace) (h : DataW.trod enc Tryz.prog W base (fun _ => true) true n 138 cs = some y) :
    ∃ a : Bo, tyBo.rd W cs a ∧ bdBo a := by
  obtain ⟨xs, m, _, _, hlen, hxl, hg⟩ := DataW.trod_struct Tryz.underlying138 h
  rw [show Tryz.prog.cellsOf 138 = 3 from by kernel_rfl] at hlen
  have hx3 : xs.length = 3 := hxl
  match cs, hlen with
  | [c0, c1, c2], _ =>
    obtain ⟨y0, hy0⟩ := one_cell (k := 0) (c := c0) (hg 0 _ rfl) (by kernel_rfl) (by omega) rfl
    obtain ⟨y1, hy1⟩ := one_cell (k := 1) (c := c1) (hg 1 _ rfl) (by kernel_rfl) (by omega) rfl
    obtain ⟨y2, hy2⟩ := one_cell (k := 2) (c := c2) (hg 2 _ rfl) (by kernel_rfl) (by omega) rfl
    obtain ⟨l0, h0, k0⟩ := open_sl (E := 2) (T := tyNum) (ok := bd) Tryz.underlying68 (by kernel_rfl) (by decide) dec_NumY hy0
    obtain ⟨l1, h1, k1⟩ := open_sl (E := 2) (T := tyNum) (ok := bd) Tryz.underlying68 (by kernel_rfl) (by decide) dec_NumY hy1
    obtain ⟨l2, h2, k2⟩ := open_sl (E := 87) (T := tyNt) (ok := fun x => bd x.1 ∧ bd x.2) Tryz.underlying136 (by kernel_rfl) (by decide) dec_NtY hy2
    exact ⟨(l0, l1, l2), ⟨[c0], [c1, c2], rfl, h0, [c1], [c2], rfl, h1, h2⟩, k0, k1, k2⟩
set_option maxRecDepth 100000 in
theorem dec_MlY (n : Nat) (cs : List Value) (y : DataW H × List MemPlace) (h : DataW.trod enc Tryz.prog W base (fun _ => true) true n 34 cs = some y) :
    ∃ (l : List Bo), (Ty.sl 71 tyBo).rd W cs l ∧ (∀ b ∈ l, bdBo b) := by
  obtain ⟨xs, m, _, _, hlen, hxl, hg⟩ := DataW.trod_struct Tryz.underlying34 h
  rw [show Tryz.prog.cellsOf 34 = 1 from by kernel_rfl] at hlen
  have hx3 : xs.length = 1 := hxl
  match cs, hlen with
  | [c0], _ =>
    obtain ⟨y0, hy0⟩ := one_cell (k := 0) (c := c0) (hg 0 _ rfl) (by kernel_rfl) (by omega) rfl
    obtain ⟨l0, h0, k0⟩ := open_sl (E := 71) (T := tyBo) (ok := bdBo) Tryz.underlying32 (by kernel_rfl) (by decide) dec_BoY hy0
    exact ⟨l0, h0, k0⟩
set_option maxRecDepth 100000 in
theorem dec_YdY (n : Nat) (cs : List Value) (y : DataW H × List MemPlace) (h : DataW.trod enc Tryz.prog W base (fun _ => true) true n 31 cs = some y) :
    ∃ a : Yd, tyYd.rd W cs a ∧ okYd a := by
  obtain ⟨xs, m, _, _, hlen, hxl, hg⟩ := DataW.trod_struct Tryz.underlying31 h
  rw [show Tryz.prog.cellsOf 31 = 8 from by kernel_rfl] at hlen
  have hx3 : xs.length = 5 := hxl
  match cs, hlen with
  | [c0, c1, c2, c3, c4, c5, c6, c7], _ =>
    obtain ⟨c, hc, _⟩ := at_dec (k := 0) (j := 0) (c := 4) (by kernel_rfl) dec_Cfg (hg 0 _ rfl) (by omega) rfl
    obtain ⟨y1, hy1⟩ := one_at (k := 4) (j := 1) (c := c4) (hg 1 _ rfl) (by kernel_rfl) (by omega) rfl
    obtain ⟨y2, hy2⟩ := one_at (k := 5) (j := 2) (c := c5) (hg 2 _ rfl) (by kernel_rfl) (by omega) rfl
    obtain ⟨y3, hy3⟩ := one_at (k := 6) (j := 3) (c := c6) (hg 3 _ rfl) (by kernel_rfl) (by omega) rfl
    obtain ⟨s7, rfl, _⟩ := at_int (j := 4) (k := 7) (hg 4 _ rfl) (by omega) rfl
    obtain ⟨l1, h1, _⟩ := open_sl (E := 92) (T := tyNd) (ok := fun _ => True) Tryz.underlying27 (by kernel_rfl) (by decide) dec_NdY hy1
    obtain ⟨l2, h2, k2⟩ := open_sl (E := 97) (T := tyTa) (ok := okTa) Tryz.underlying28 (by kernel_rfl) (by decide) dec_TaY hy2
    obtain ⟨l3, h3, k3⟩ := open_sl (E := 100) (T := tyUs) (ok := okUs) Tryz.underlying29 (by kernel_rfl) (by decide) dec_UsY hy3
    exact ⟨(c, l1, l2, l3, s7), ⟨[c0, c1, c2, c3], [c4, c5, c6, .int .i64 s7], rfl, hc, [c4], [c5, c6, .int .i64 s7], rfl, h1, [c5], [c6, .int .i64 s7], rfl, h2, [c6], [.int .i64 s7], rfl, h3, rfl⟩, k2, k3⟩
set_option maxRecDepth 100000 in
theorem dec_StY (n : Nat) (cs : List Value) (y : DataW H × List MemPlace) (h : DataW.trod enc Tryz.prog W base (fun _ => true) true n 36 cs = some y) :
    ∃ a : St, tySt.rd W cs a ∧ (okSt a ∧ ∀ b ∈ a.2, bdBo b) := by
  obtain ⟨xs, m, _, _, hlen, hxl, hg⟩ := DataW.trod_struct Tryz.underlying36 h
  rw [show Tryz.prog.cellsOf 36 = 9 from by kernel_rfl] at hlen
  have hx3 : xs.length = 2 := hxl
  match cs, hlen with
  | [c0, c1, c2, c3, c4, c5, c6, c7, c8], _ =>
    obtain ⟨yd, hy, ky⟩ := at_dec (k := 0) (j := 0) (c := 8) (by kernel_rfl) dec_YdY (hg 0 _ rfl) (by omega) rfl
    obtain ⟨l, hl, kl⟩ := at_dec (k := 8) (j := 1) (c := 1) (by kernel_rfl) dec_MlY (hg 1 _ rfl) (by omega) rfl
    exact ⟨(yd, l), ⟨[c0, c1, c2, c3, c4, c5, c6, c7], [c8], rfl, hy, hl⟩, ky, kl⟩
set_option maxRecDepth 100000 in
theorem open_State (hv : Value.okWide Tryz.prog W r b0 36 v) (h : DataW.Trod enc Tryz.prog W base (fun _ => true) true 36 v d p) :
    ∃ (cs : List Value) (a : St), v = .agg cs.toArray ∧ tySt.rd W cs a ∧ (okSt a ∧ ∀ b ∈ a.2, bdBo b) := by
  obtain ⟨cs, rfl, hsz⟩ := okWide_struct Tryz.underlying36 hv
  obtain ⟨m, hm⟩ := h
  obtain ⟨c, hc, hk⟩ := dec_StY _ _ _ hm
  exact ⟨cs.toList, c, by simp, hc, hk⟩
end
end Go.Proofs.YtpfdhfchgnnpiaaGreat
