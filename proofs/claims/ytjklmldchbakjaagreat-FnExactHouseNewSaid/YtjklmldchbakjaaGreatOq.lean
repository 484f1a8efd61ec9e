/-
  Configurations and the like among the arguments, opened.
-/
import Derived.Test.YtjklmldchbakjaaGreatOpen
import Derived.Test.YtjklmldchbakjaaGreatOa
import Derived.Test.YtjklmldchbakjaaGreatCo
set_option linter.unusedSimpArgs false
set_option linter.unusedVariables false
namespace Go.Proofs.YtjklmldchbakjaaGreat
open Go.ChangeShapes Go.WideShapes Go.ChangeAt Go.RowKit Go.Joins Go.Deep M
section
variable {H : Type} {enc : TypeId × Value → H} {W : World} {base b0 : Nat} {r : Reach} {d : DataW H} {p : List MemPlace} {v : Value}
/-- a slice of data, read at every index -/
theorem open_sl {α : Type} [Inhabited α] {T : Ty α} {ok : α → Prop} {t e E : TypeId} (ht : Tryz.prog.underlying t = some (.slice e)) (hs : Tryz.prog.cellsOf e = T.s) (hs0 : 0 < T.s)
    (hdec : ∀ n cs y, DataW.trod enc Tryz.prog W base (fun _ => true) true n e cs = some y → ∃ a : α, T.rd W cs a ∧ ok a)
    {fuel : Nat} {x : DataW H × List MemPlace} (hf : DataW.trod enc Tryz.prog W base (fun _ => true) true fuel t [v] = some x) :
    ∃ l : List α, (Ty.sl E T).rd W [v] l ∧ ∀ a ∈ l, ok a := by
  have hl : ∀ q : α × List Value, (if q.2.length = T.s then q.2 else List.replicate T.s (Value.bool false)).length = T.s := fun q => by
    by_cases h : q.2.length = T.s
    · rw [if_pos h]; exact h
    · rw [if_neg h]; simp
  obtain ⟨xs, hA, hR, hO⟩ := open_list (α := α × List Value) (enc' := fun q => if q.2.length = T.s then q.2 else List.replicate T.s (Value.bool false)) (s := T.s)
    (ok := fun q => T.rd W (if q.2.length = T.s then q.2 else List.replicate T.s (Value.bool false)) q.1 ∧ ok q.1) ht hs hs0 hl
    (fun n cs y h => by
      obtain ⟨a, ha, hk⟩ := hdec n cs y h
      have hc : cs.length = T.s := T.len ha
      exact ⟨(a, cs), by simp only [hc, if_true], by simp only [hc, if_true]; exact ha, hk⟩) hf
  refine ⟨xs.map Prod.fst, ⟨v, _, rfl, by rw [List.length_map]; exact hR, ?_⟩, ?_⟩
  · clear hR hA
    induction xs with
    | nil => exact .nil
    | cons q xs ih =>
      exact .cons (hO q (List.mem_cons_self ..)).1 (ih (fun a ha => hO a (List.mem_cons_of_mem _ ha)))
  · intro a ha
    obtain ⟨q, hq, rfl⟩ := List.mem_map.1 ha
    exact (hO q hq).2
set_option maxRecDepth 100000 in
theorem dec_Lab (n : Nat) (cs : List Value) (y : DataW H × List MemPlace) (h : DataW.trod enc Tryz.prog W base (fun _ => true) true n 100 cs = some y) :
    ∃ a : Lab, tyLab.rd W cs a ∧ True := by
  obtain ⟨a, b, rfl⟩ := dec_Label n cs y h
  exact ⟨(a, b), rfl, trivial⟩
set_option maxRecDepth 100000 in
theorem dec_LabS (n : Nat) (cs : List Value) (y : DataW H × List MemPlace) (h : DataW.trod enc Tryz.prog W base (fun _ => true) true n 88 cs = some y) :
    ∃ a : List Lab, (Ty.sl 96 tyLab).rd W cs a ∧ True := by
  have hlen : cs.length = 1 := by
    rcases open_slice Tryz.underlying88 h with ⟨hcs, _⟩ | ⟨a, n, cap, m, k, D, Pl, hcs, _⟩ <;> rw [hcs] <;> rfl
  match cs, hlen with
  | [c0], _ =>
    obtain ⟨l, hl, _⟩ := open_sl (E := 96) (T := tyLab) (ok := fun _ => True) Tryz.underlying88 (by kernel_rfl) (by decide) dec_Lab h
    exact ⟨l, hl, trivial⟩
set_option maxRecDepth 100000 in
theorem dec_Pr (n : Nat) (cs : List Value) (y : DataW H × List MemPlace) (h : DataW.trod enc Tryz.prog W base (fun _ => true) true n 102 cs = some y) :
    ∃ a : Pr, tyPr.rd W cs a ∧ True := by
  obtain ⟨xs, m, _, _, hlen, hxl, hg⟩ := DataW.trod_struct Tryz.underlying102 h
  rw [show Tryz.prog.cellsOf 102 = 5 from by kernel_rfl] at hlen
  have hx3 : xs.length = 3 := hxl
  match cs, hlen with
  | [c0, c1, c2, c3, c4], _ =>
    obtain ⟨s0, s1, rfl, rfl⟩ := at_lab (j := 0) (k := 0) (hg 0 _ rfl) (by omega) rfl rfl
    obtain ⟨s2, s3, rfl, rfl⟩ := at_lab (j := 1) (k := 2) (hg 1 _ rfl) (by omega) rfl rfl
    obtain ⟨s4, rfl, h4⟩ := at_int (j := 2) (k := 4) (hg 2 _ rfl) (by omega) rfl
    exact ⟨((s0, s1), (s2, s3), s4), rfl, trivial⟩
set_option maxRecDepth 100000 in
theorem dec_Qt (n : Nat) (cs : List Value) (y : DataW H × List MemPlace) (h : DataW.trod enc Tryz.prog W base (fun _ => true) true n 107 cs = some y) :
    ∃ a : Qt, tyQt.rd W cs a ∧ True := by
  obtain ⟨xs, m, _, _, hlen, hxl, hg⟩ := DataW.trod_struct Tryz.underlying107 h
  rw [show Tryz.prog.cellsOf 107 = 3 from by kernel_rfl] at hlen
  have hx3 : xs.length = 2 := hxl
  match cs, hlen with
  | [c0, c1, c2], _ =>
    obtain ⟨s0, s1, rfl, rfl⟩ := at_lab (j := 0) (k := 0) (hg 0 _ rfl) (by omega) rfl rfl
    obtain ⟨s2, rfl, h4⟩ := at_int (j := 1) (k := 2) (hg 1 _ rfl) (by omega) rfl
    exact ⟨((s0, s1), s2), rfl, trivial⟩
set_option maxRecDepth 100000 in
theorem dec_Cfg (n : Nat) (cs : List Value) (y : DataW H × List MemPlace) (h : DataW.trod enc Tryz.prog W base (fun _ => true) true n 26 cs = some y) :
    ∃ a : Cfg, tyCfg.rd W cs a ∧ True := by
  obtain ⟨xs, m, _, _, hlen, hxl, hg⟩ := DataW.trod_struct Tryz.underlying26 h
  rw [show Tryz.prog.cellsOf 26 = 4 from by kernel_rfl] at hlen
  have hx3 : xs.length = 4 := hxl
  match cs, hlen with
  | [c0, c1, c2, c3], _ =>
    obtain ⟨y0, hy0⟩ := one_cell (k := 0) (c := c0) (hg 0 _ rfl) (by kernel_rfl) (by omega) rfl
    obtain ⟨y1, hy1⟩ := one_cell (k := 1) (c := c1) (hg 1 _ rfl) (by kernel_rfl) (by omega) rfl
    obtain ⟨y2, hy2⟩ := one_cell (k := 2) (c := c2) (hg 2 _ rfl) (by kernel_rfl) (by omega) rfl
    obtain ⟨s3, rfl, h3⟩ := at_int (j := 3) (k := 3) (hg 3 _ rfl) (by omega) rfl
    obtain ⟨l0, h0, _⟩ := open_sl (E := 93) (T := Ty.sl 96 tyLab) (ok := fun _ => True) Tryz.underlying22 (by kernel_rfl) (by decide) dec_LabS hy0
    obtain ⟨l1, h1, _⟩ := open_sl (E := 98) (T := tyPr) (ok := fun _ => True) Tryz.underlying23 (by kernel_rfl) (by decide) dec_Pr hy1
    obtain ⟨l2, h2, _⟩ := open_sl (E := 104) (T := tyQt) (ok := fun _ => True) Tryz.underlying24 (by kernel_rfl) (by decide) dec_Qt hy2
    exact ⟨(l0, l1, l2, s3), ⟨[c0], [c1, c2, .int .i64 s3], rfl, h0, [c1], [c2, .int .i64 s3], rfl, h1, [c2], [.int .i64 s3], rfl, h2, rfl⟩, trivial⟩
set_option maxRecDepth 100000 in
theorem open_Config (hv : Value.okWide Tryz.prog W r b0 26 v) (h : DataW.Trod enc Tryz.prog W base (fun _ => true) true 26 v d p) :
    ∃ (cs : List Value) (c : Cfg), v = .agg cs.toArray ∧ tyCfg.rd W cs c := by
  obtain ⟨cs, rfl, hsz⟩ := okWide_struct Tryz.underlying26 hv
  obtain ⟨m, hm⟩ := h
  obtain ⟨c, hc, _⟩ := dec_Cfg _ _ _ hm
  exact ⟨cs.toList, c, by simp, hc⟩
end
end Go.Proofs.YtjklmldchbakjaaGreat
