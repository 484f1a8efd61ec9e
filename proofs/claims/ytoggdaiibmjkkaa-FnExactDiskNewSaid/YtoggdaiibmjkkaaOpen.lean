/-
  Arguments opened: what a walk is told of each.
-/
import Derived.Test.YtoggdaiibmjkkaaC1
import Derived.ProofKit
import Derived.OpenShut
import Derived.ShutString
import Derived.ChangeOld
import Derived.Lib.SmallJoins
import Derived.Deep.Slices
import Derived.Deep.Fields
namespace Go.Proofs.Ytoggdaiibmjkkaa
open Go.ChangeShapes Go.WideShapes Go.ChangeAt Go.RowKit Go.Joins Go.Deep
open Go.ChangeMaps (open_string shut_string)
section
variable {H : Type} {enc : TypeId × Value → H} {W : World} {base b0 : Nat} {r : Reach} {d : DataW H} {p : List MemPlace} {v : Value}
theorem bd_i64 {n : Int} (h : (Lit.int .i64 n).wf = true) : -9223372036854775808 ≤ n ∧ n ≤ 9223372036854775807 := by
  simp [Lit.wf, IntKind.min, IntKind.max, IntKind.signed, IntKind.bits] at h
  exact h
theorem open_Frame (hv : Value.okWide Try.prog W r b0 30 v) (h : DataW.Trod enc Try.prog W base (fun _ => true) true 30 v d p) :
    ∃ (q : Int) (t : ByteArray), v = .agg #[.int .i64 q, .string t] ∧ (-9223372036854775808 ≤ q ∧ q ≤ 9223372036854775807) ∧ t.size ≤ maxLen := by
  obtain ⟨c0, c1, y0, y1, m, rfl, hd0, hp0, hy0, hy1⟩ := open_agg2 Try.underlying30 (by kernel_rfl) (by kernel_rfl) hv h
  obtain ⟨z, e0, _, wz⟩ := DataW.trod_int Try.underlying2 hy0
  obtain ⟨t, e1, _, ht⟩ := DataW.trod_string Try.underlying9 hy1
  simp at e0 e1
  subst e0 e1
  exact ⟨z, t, rfl, bd_i64 wz, ht⟩
end
end Go.Proofs.Ytoggdaiibmjkkaa
