/-
  Lists of lists of frames among the arguments, opened.
-/
import Derived.Test.YtpkoeeafepgphaaOpen
import Derived.Test.YtpkoeeafepgphaaOa
import Derived.Test.YtpkoeeafepgphaaFh
set_option linter.unusedSimpArgs false
set_option linter.unusedVariables false
namespace Go.Proofs.Ytpkoeeafepgphaa
open Go.ChangeShapes Go.WideShapes Go.ChangeAt Go.RowKit Go.Joins Go.Deep M
section
variable {H : Type} {enc : TypeId × Value → H} {W : World} {base b0 : Nat} {r : Reach} {d : DataW H} {p : List MemPlace} {v : Value}
/-- a slice of data, read at every index -/
theorem open_sl {α : Type} [Inhabited α] {T : Ty α} {ok : α → Prop} {t e E : TypeId} (ht : Try.prog.underlying t = some (.slice e)) (hs : Try.prog.cellsOf e = T.s) (hs0 : 0 < T.s)
    (hdec : ∀ n cs y, DataW.trod enc Try.prog W base (fun _ => true) true n e cs = some y → ∃ a : α, T.rd W cs a ∧ ok a)
    {fuel : Nat} {x : DataW H × List MemPlace} (hf : DataW.trod enc Try.prog W base (fun _ => true) true fuel t [v] = some x) :
    ∃ l : List α, (Ty.sl E T).rd W [v] l ∧ ∀ a ∈ l, ok a := by
  have hl : ∀ q : α × List Value, (if q.2.length = T.s then q.2 else List.replicate T.s (Value.bool false)).length = T.s := fun q => by
    by_cases h : q.2.length = T.s
    · rw [if_pos h]; exact h
    · rw [if_neg h]; simp
  obtain ⟨xs, hA, hR, hO⟩ := open_list (α := α × List Value) (enc' := fun q => if q.2.length = T.s then q.2 else List.replicate T.s (Value.bool false)) (s := T.s)
    (ok := fun q => T.rd W (if q.2.length = T.s then q.2 else List.replicate T.s (Value.bool false)) q.1 ∧ ok q.1) ht hs hs0 hl
    (fun n cs y h => by
      obtain ⟨a, ha, hk⟩ := hdec n cs y h
      have hc : cs.length = T.s := T.len ha
      exact ⟨(a, cs), by simp only [hc, if_true], by simp only [hc, if_true]; exact ha, hk⟩) hf
  refine ⟨xs.map Prod.fst, ⟨v, _, rfl, by rw [List.length_map]; exact hR, ?_⟩, ?_⟩
  · clear hR hA
    induction xs with
    | nil => exact .nil
    | cons q xs ih =>
      exact .cons (hO q (List.mem_cons_self ..)).1 (ih (fun a ha => hO a (List.mem_cons_of_mem _ ha)))
  · intro a ha
    obtain ⟨q, hq, rfl⟩ := List.mem_map.1 ha
    exact (hO q hq).2
set_option maxRecDepth 100000 in
theorem dec_Fm (n : Nat) (cs : List Value) (y : DataW H × List MemPlace) (h : DataW.trod enc Try.prog W base (fun _ => true) true n 60 cs = some y) :
    ∃ a : Fm, tyFm.rd W cs a ∧ okFm a := by
  obtain ⟨xs, m, _, _, hlen, hxl, hg⟩ := DataW.trod_struct Try.underlying60 h
  rw [show Try.prog.cellsOf 60 = 2 from by kernel_rfl] at hlen
  have hx3 : xs.length = 2 := hxl
  match cs, hlen with
  | [c0, c1], _ =>
    obtain ⟨n0, rfl, _⟩ := at_int (j := 0) (k := 0) (hg 0 _ rfl) (by omega) rfl
    obtain ⟨n1, rfl, k1⟩ := at_str (j := 1) (k := 1) (hg 1 _ rfl) (by omega) rfl
    exact ⟨(n0, n1), rfl, by unfold okFm; unfold maxLen at k1; simp only; omega⟩
set_option maxRecDepth 100000 in
theorem dec_FmS (n : Nat) (cs : List Value) (y : DataW H × List MemPlace) (h : DataW.trod enc Try.prog W base (fun _ => true) true n 40 cs = some y) :
    ∃ a : List Fm, (Ty.sl 37 tyFm).rd W cs a ∧ ∀ x ∈ a, okFm x := by
  have hlen : cs.length = 1 := by
    rcases open_slice Try.underlying40 h with ⟨hcs, _⟩ | ⟨a, n, cap, m, k, D, Pl, hcs, _⟩ <;> rw [hcs] <;> rfl
  match cs, hlen with
  | [c0], _ => exact open_sl (E := 37) (T := tyFm) (ok := okFm) Try.underlying40 (by kernel_rfl) (by decide) dec_Fm h
set_option maxRecDepth 100000 in
theorem open_FrameSS (hv : Value.okWide Try.prog W r b0 22 v) (h : DataW.Trod enc Try.prog W base (fun _ => true) true 22 v d p) :
    ∃ l : List (List Fm), (Ty.sl 24 (Ty.sl 37 tyFm)).rd W [v] l ∧ ∀ x ∈ l, ∀ y ∈ x, okFm y := by
  obtain ⟨m, hm⟩ := h
  have hc : v.cells.toList = [v] := by
    obtain ⟨A, n, c, rfl⟩ := okWide_slice Try.underlying22 hv
    rfl
  rw [hc] at hm
  exact open_sl (E := 24) (T := Ty.sl 37 tyFm) (ok := fun x => ∀ y ∈ x, okFm y) Try.underlying22 (by kernel_rfl) (by decide) dec_FmS hm
end
end Go.Proofs.Ytpkoeeafepgphaa
