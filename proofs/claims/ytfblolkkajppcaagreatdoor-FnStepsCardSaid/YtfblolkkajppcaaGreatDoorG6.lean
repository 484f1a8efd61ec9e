/-
  Arguments opened: what a walk is told of each.
-/
import Derived.Test.YtfblolkkajppcaaGreatDoorC1
import Derived.ProofKit
import Derived.OpenShut
import Derived.ShutString
import Derived.ChangeOld
import Derived.Lib.SmallJoins
import Derived.Deep.Slices
import Derived.Deep.Fields
set_option linter.unusedSimpArgs false
set_option linter.unusedVariables false
namespace Go.Proofs.YtfblolkkajppcaaGreatDoor
open Go.ChangeShapes Go.WideShapes Go.ChangeAt Go.RowKit Go.Joins Go.Deep
open Go.ChangeMaps (open_string shut_string)
section
variable {H : Type} {enc : TypeId × Value → H} {W : World} {base b0 : Nat} {r : Reach} {d : DataW H} {p : List MemPlace} {v : Value}
theorem bd_i64 {n : Int} (h : (Lit.int .i64 n).wf = true) : -9223372036854775808 ≤ n ∧ n ≤ 9223372036854775807 := by
  simp [Lit.wf, IntKind.min, IntKind.max, IntKind.signed, IntKind.bits] at h
  exact h
/-- a slice of structs, read at every index -/
theorem open_list {α : Type} [Inhabited α] {enc' : α → List Value} {s : Nat} {ok : α → Prop} {t e : TypeId} (ht : Tryz.prog.underlying t = some (.slice e)) (hs : Tryz.prog.cellsOf e = s) (hs0 : 0 < s) (hl : ∀ a, (enc' a).length = s)
    (hdec : ∀ n cs y, DataW.trod enc Tryz.prog W base (fun _ => true) true n e cs = some y → ∃ a : α, cs = enc' a ∧ ok a)
    {fuel : Nat} {x : DataW H × List MemPlace} (hf : DataW.trod enc Tryz.prog W base (fun _ => true) true fuel t [v] = some x) :
    ∃ (xs : List α), (∃ A cap, v = .slice A xs.length cap) ∧ Rd W s v xs.length (flat enc' xs) ∧ ∀ a ∈ xs, ok a := by
  rcases open_slice ht hf with ⟨hcs, _⟩ | ⟨a, n, cap, m, k, D, Pl, hcs, hb, hlc, hm, hmm, _, hi⟩
  · simp at hcs
    subst hcs
    exact ⟨[], ⟨none, 0, rfl⟩, Rd.nil W s, by simp⟩
  · simp at hcs
    subst hcs
    simp only [if_true] at hmm
    subst hmm
    have key : ∀ i, i < n → ∃ x : α, (∀ j, j < s → W.cell? (a.add (i * s + j)) = (enc' x)[j]?) ∧ ok x := fun i hin => by
      obtain ⟨cs', hc, ht'⟩ := hi i (by omega)
      obtain ⟨x, rfl, hx⟩ := hdec _ _ _ ht'
      obtain ⟨_, _, hat⟩ := World.cells?_some hc
      refine ⟨x, fun j hj => ?_, hx⟩
      have := hat j (by omega)
      rw [hs, Go.Deep.add_add] at this
      exact this
    obtain ⟨f, hfx⟩ := Go.Deep.choose_lt (n := n) key
    have hlen : ((List.range n).map f).length = n := by simp
    refine ⟨(List.range n).map f, ⟨some a, _, by rw [hlen]⟩, ?_, ?_⟩
    · refine ⟨flat_length hl _, some a, _, by rw [hlen], by rw [hlen]; exact hlc, hm, fun hn => ?_⟩
      rw [hlen] at hn
      have hsp : a.spot = none := by
        have h0 := (hfx 0 hn).1 0 hs0
        have hx : (enc' (f 0))[0]? = some ((enc' (f 0))[0]'(by rw [hl]; exact hs0)) := List.getElem?_eq_getElem _
        rw [hx] at h0
        have := World.cell?_spot h0
        simpa [Addr.add] using this
      obtain ⟨ab, ao, asp⟩ := a
      simp only at hsp
      subst hsp
      refine ⟨ab, ao, rfl, fun j u hu => ?_⟩
      have hj : j < n * s := by
        have := (List.getElem?_eq_some_iff.1 hu).1
        rw [flat_length hl, hlen] at this
        exact this
      have hjs : j / s < n := Nat.div_lt_of_lt_mul (by rw [Nat.mul_comm]; exact hj)
      have h1 := (hfx (j / s) hjs).1 (j % s) (Nat.mod_lt _ hs0)
      have h2 := flat_get hl ((List.range n).map f) (j / s) (j % s) (f (j / s)) (by simp [hjs]) (Nat.mod_lt _ hs0)
      have e : j / s * s + j % s = j := by rw [Nat.mul_comm]; exact Nat.div_add_mod j s
      rw [e] at h1 h2
      rw [h2] at hu
      rw [show (⟨ab, ao + j, none⟩ : Addr) = (⟨ab, ao, none⟩ : Addr).add j by unfold Addr.add; split <;> simp_all, h1]
      exact hu
    · intro x hx
      simp only [List.mem_map, List.mem_range] at hx
      obtain ⟨i, hi', rfl⟩ := hx
      exact (hfx i hi').2

theorem one_cell {n k T : Nat} {cs : List Value} {xs : List (DataW H × List MemPlace)} (hg : DataW.trod enc Tryz.prog W base (fun _ => true) true n T ((cs.drop k).take (Tryz.prog.cellsOf T)) = xs[k]?) (hc : Tryz.prog.cellsOf T = 1) (hk : k < xs.length)
    {c : Value} (hck : cs[k]? = some c) : ∃ y, DataW.trod enc Tryz.prog W base (fun _ => true) true n T [c] = some y := by
  rw [hc, List.getElem?_eq_getElem hk] at hg
  have : (cs.drop k).take 1 = [c] := by
    have hl := (List.getElem?_eq_some_iff.1 hck)
    obtain ⟨h1, h2⟩ := hl
    rw [List.drop_eq_getElem_cons h1, h2]
    rfl
  rw [this] at hg
  exact ⟨_, hg⟩
set_option maxRecDepth 100000 in
theorem cell_str {n k : Nat} {cs : List Value} {xs : List (DataW H × List MemPlace)} (hg : DataW.trod enc Tryz.prog W base (fun _ => true) true n 9 ((cs.drop k).take (Tryz.prog.cellsOf 9)) = xs[k]?) (hk : k < xs.length)
    {c : Value} (hck : cs[k]? = some c) : ∃ s : ByteArray, c = .string s ∧ s.size ≤ maxLen := by
  obtain ⟨y, hy⟩ := one_cell hg (by kernel_rfl) hk hck
  obtain ⟨s, e, _, hs⟩ := DataW.trod_string Tryz.underlying9 hy
  exact ⟨s, by simpa using e, hs⟩
set_option maxRecDepth 100000 in
theorem cell_int {n k : Nat} {cs : List Value} {xs : List (DataW H × List MemPlace)} (hg : DataW.trod enc Tryz.prog W base (fun _ => true) true n 2 ((cs.drop k).take (Tryz.prog.cellsOf 2)) = xs[k]?) (hk : k < xs.length)
    {c : Value} (hck : cs[k]? = some c) : ∃ s : Int, c = .int .i64 s ∧ (-9223372036854775808 ≤ s ∧ s ≤ 9223372036854775807) := by
  obtain ⟨y, hy⟩ := one_cell hg (by kernel_rfl) hk hck
  obtain ⟨s, e, _, hs⟩ := DataW.trod_int Tryz.underlying2 hy
  exact ⟨s, by simpa using e, bd_i64 hs⟩
theorem flat_cb (l : List UInt8) : flat (fun b : UInt8 => [Value.int .u8 b.toNat]) l = cb l := by
  unfold flat cb
  induction l with
  | nil => rfl
  | cons a t ih => simp_all
set_option maxRecDepth 100000 in
theorem dec_byte (n : Nat) (cs : List Value) (y : DataW H × List MemPlace) (h : DataW.trod enc Tryz.prog W base (fun _ => true) true n 5 cs = some y) :
    ∃ a : UInt8, cs = [Value.int .u8 a.toNat] ∧ True := by
  obtain ⟨z, rfl, _, wz⟩ := DataW.trod_int Tryz.underlying5 h
  have hb : 0 ≤ z ∧ z ≤ 255 := by
    simp [Lit.wf, IntKind.min, IntKind.max, IntKind.signed, IntKind.bits] at wz
    exact wz
  refine ⟨UInt8.ofNat z.toNat, ?_, trivial⟩
  have e : ((UInt8.ofNat z.toNat).toNat : Int) = z := by
    simp
    omega
  rw [e]
set_option maxRecDepth 100000 in
theorem open_Bytes (hv : Value.okWide Tryz.prog W r b0 22 v) (h : DataW.Trod enc Tryz.prog W base (fun _ => true) true 22 v d p) :
    ∃ (l : List UInt8), Rd W 1 v l.length (cb l) := by
  obtain ⟨m, hm⟩ := h
  have hc : v.cells.toList = [v] := by
    obtain ⟨A, n, c, rfl⟩ := okWide_slice Tryz.underlying22 hv
    rfl
  rw [hc] at hm
  obtain ⟨l, _, hR, _⟩ := open_list (α := UInt8) (enc' := fun b => [Value.int .u8 b.toNat]) (s := 1) Tryz.underlying22 (by kernel_rfl) (by omega) (fun _ => rfl) dec_byte hm
  exact ⟨l, by rw [← flat_cb]; exact hR⟩
end
end Go.Proofs.YtfblolkkajppcaaGreatDoor
namespace Go.Proofs.YtfblolkkajppcaaGreatDoor
open Go.ChangeShapes Go.WideShapes Go.ChangeAt Go.RowKit Go.Joins Go.Deep
open Go.ChangeMaps (open_string shut_string)
section
variable {H : Type} {enc : TypeId × Value → H} {W : World} {base b0 : Nat} {r : Reach} {d : DataW H} {p : List MemPlace} {v : Value}
theorem cell_bool {n k j : Nat} {cs : List Value} {xs : List (DataW H × List MemPlace)} (hg : DataW.trod enc Tryz.prog W base (fun _ => true) true n 4 ((cs.drop k).take (Tryz.prog.cellsOf 4)) = xs[j]?) (hk : j < xs.length)
    {c : Value} (hck : cs[k]? = some c) : ∃ s : Bool, c = .bool s := by
  rw [show Tryz.prog.cellsOf 4 = 1 from by kernel_rfl, List.getElem?_eq_getElem hk] at hg
  have : (cs.drop k).take 1 = [c] := by
    obtain ⟨h1, h2⟩ := List.getElem?_eq_some_iff.1 hck
    rw [List.drop_eq_getElem_cons h1, h2]
    rfl
  rw [this] at hg
  obtain ⟨b, e, _⟩ := DataW.trod_bool Tryz.underlying4 hg
  exact ⟨b, by simpa using e⟩
theorem at_int {n k j : Nat} {cs : List Value} {xs : List (DataW H × List MemPlace)} (hg : DataW.trod enc Tryz.prog W base (fun _ => true) true n 2 ((cs.drop k).take (Tryz.prog.cellsOf 2)) = xs[j]?) (hk : j < xs.length)
    {c : Value} (hck : cs[k]? = some c) : ∃ s : Int, c = .int .i64 s ∧ (-9223372036854775808 ≤ s ∧ s ≤ 9223372036854775807) := by
  rw [show Tryz.prog.cellsOf 2 = 1 from by kernel_rfl, List.getElem?_eq_getElem hk] at hg
  have : (cs.drop k).take 1 = [c] := by
    obtain ⟨h1, h2⟩ := List.getElem?_eq_some_iff.1 hck
    rw [List.drop_eq_getElem_cons h1, h2]
    rfl
  rw [this] at hg
  obtain ⟨s, e, _, hs⟩ := DataW.trod_int Tryz.underlying2 hg
  exact ⟨s, by simpa using e, bd_i64 hs⟩
theorem at_str {n k j : Nat} {cs : List Value} {xs : List (DataW H × List MemPlace)} (hg : DataW.trod enc Tryz.prog W base (fun _ => true) true n 9 ((cs.drop k).take (Tryz.prog.cellsOf 9)) = xs[j]?) (hk : j < xs.length)
    {c : Value} (hck : cs[k]? = some c) : ∃ s : ByteArray, c = .string s ∧ s.size ≤ maxLen := by
  rw [show Tryz.prog.cellsOf 9 = 1 from by kernel_rfl, List.getElem?_eq_getElem hk] at hg
  have : (cs.drop k).take 1 = [c] := by
    obtain ⟨h1, h2⟩ := List.getElem?_eq_some_iff.1 hck
    rw [List.drop_eq_getElem_cons h1, h2]
    rfl
  rw [this] at hg
  obtain ⟨s, e, _, hs⟩ := DataW.trod_string Tryz.underlying9 hg
  exact ⟨s, by simpa using e, hs⟩
end
end Go.Proofs.YtfblolkkajppcaaGreatDoor
