/-
  No cell of these rows narrows 'for every input' (looked for: loops, veiled, ifaces, maps, wideKeys, modest, calm, conditions, laid).
  DERIVED. THE GIVEN ROWS OF THIS SEAT. 2 by the template 'for every input the law returns true; each argument reads behind the call as it read before'; 0 by the template 'total and deterministic' (their statements: YtjklmldchbakjaaGreatTotals.lean).
  GIVEN WITH THE SEED: the statements are not yours to turn. If you find one false, say at which input.
  Laid BY PROGRAM, IN A SANDBOX (cutbox-rows.mjs): the forced cells as the released guide's own fill.sh prints them over the translation 3935f113989a802d… (all of the seat's roots in one cut). By AI agents, Wed Nov 11 2026. No macro, syntax, notation, axiom, sorry.
-/
import Derived.Test.YtjklmldchbakjaaGreatChecked
import GoSem.Claim
import GoSem.ClaimJoined
import GoSem.ClaimMapViews
import Derived.JoinedTies
import Derived.KernelRfl
namespace Go.Proofs.YtjklmldchbakjaaGreat
/- THE CELL 'sum', in the pinned program and in every row, IS THE sha256 OF THE DUMP (.gsa) THAT YtjklmldchbakjaaGreatProg.lean LOADS. Nothing in Lean hashes anything: it is a label: what it is worth is what the hold of that sum in a sandbox is worth. -/
noncomputable def Tryz.pinned : Pinned := { name := "ytjklmldchbakjaagreat", sum := "3935f113989a802dcc8a90fe34fabe6f2b2768b00502e2002bc1d5a89953d906", checked := Tryz.checked }
namespace Rows
def none {H : Type} : Left H := { results := [], args := [] }

/-- 'laws.FnExactStateNew': WHATEVER THE INPUT: true; the input reads as it did. -/
def fnExactStateNewSpec : ChangeSpec := { name := "fnExactStateNew", fn := fun _ => fun
  | [d] => { results := [.lit (.bool true)], args := [d] }
  | _ => none }
def fnExactStateNewRow : OpenClaim := { program := "ytjklmldchbakjaagreat", sum := "3935f113989a802dcc8a90fe34fabe6f2b2768b00502e2002bc1d5a89953d906", func := "loop.example/g00658/laws.FnExactStateNew", spec := "fnExactStateNew", unfollowed := true, recurses := true, apart := false }
def FnExactStateNewSaid : Prop := fnExactStateNewRow.holds Tryz.pinned (OpenSpec.ofChange fnExactStateNewSpec)

/-- ITS FALSE NEIGHBOUR: 'it returns false'. Refute it at one input. -/
def fnExactStateNewWrong : ChangeSpec := { name := "fnExactStateNew", fn := fun _ => fun
  | [d] => { results := [.lit (.bool false)], args := [d] }
  | _ => none }
def FnExactStateNewWrongFalsely : Prop := fnExactStateNewRow.holds Tryz.pinned (OpenSpec.ofChange fnExactStateNewWrong)

/-- 'laws.FnExactHouseNew': WHATEVER THE INPUT: true; the input reads as it did. -/
def fnExactHouseNewSpec : ChangeSpec := { name := "fnExactHouseNew", fn := fun _ => fun
  | [d] => { results := [.lit (.bool true)], args := [d] }
  | _ => none }
def fnExactHouseNewRow : OpenClaim := { program := "ytjklmldchbakjaagreat", sum := "3935f113989a802dcc8a90fe34fabe6f2b2768b00502e2002bc1d5a89953d906", func := "loop.example/g00658/laws.FnExactHouseNew", spec := "fnExactHouseNew", unfollowed := true, recurses := true, apart := false }
def FnExactHouseNewSaid : Prop := fnExactHouseNewRow.holds Tryz.pinned (OpenSpec.ofChange fnExactHouseNewSpec)

/-- ITS FALSE NEIGHBOUR: 'it returns false'. Refute it at one input. -/
def fnExactHouseNewWrong : ChangeSpec := { name := "fnExactHouseNew", fn := fun _ => fun
  | [d] => { results := [.lit (.bool false)], args := [d] }
  | _ => none }
def FnExactHouseNewWrongFalsely : Prop := fnExactHouseNewRow.holds Tryz.pinned (OpenSpec.ofChange fnExactHouseNewWrong)

/- THE SECOND FORM. 'bulk': how many values and letters a reading holds, each counted each time it is reached (what is shared counts as often as it is met; a slice's spare places count too). A statement '..UptoSaid' is the law's where the arguments, and the package variables that the reading takes, are together of bulk at most 1048576: NARROWER than '..Said'. Prove '..Said' where nothing that the law and all that it calls make is longer than what came in: it says more and counts as full. Else prove '..UptoSaid'. A law counts once. -/
mutual
def uptoBulk {H : Type} : DataW H → Nat
  | .lit (.string bytes) => bytes.length + 1
  | .lit _ => 1
  | .nil => 1
  | .ptr d => uptoBulk d + 1
  | .slice elems spare => uptoBulkAll elems + uptoBulkAll spare + 1
  | .agg parts => uptoBulkAll parts + 1
  | .iface _ d => uptoBulk d + 1
  | .map entries => uptoBulkEntries entries + 1
  | .held _ => 1
def uptoBulkAll {H : Type} : List (DataW H) → Nat
  | [] => 0
  | d :: r => uptoBulk d + uptoBulkAll r
def uptoBulkEntries {H : Type} : List (Lit × DataW H) → Nat
  | [] => 0
  | x :: r => uptoBulkEntry x + uptoBulkEntries r
def uptoBulkEntry {H : Type} : Lit × DataW H → Nat
  | (.string bytes, d) => bytes.length + uptoBulk d + 1
  | (_, d) => uptoBulk d + 1
 end
def uptoSmall : (H : Type) → List (DataW H) → Bool := fun _ ds => decide (uptoBulkAll ds ≤ 1048576)
def OpenSpec.upto (s : _root_.Go.ChangeSpec) : _root_.Go.OpenSpec := { _root_.Go.OpenSpec.ofChange s with cond := some uptoSmall }

/-- 'laws.FnExactStateNew', WHERE WHAT IT READS IS OF BULK AT MOST 1048576: true; the input reads as it did. -/
def fnExactStateNewUptoRow : OpenClaim := { program := "ytjklmldchbakjaagreat", sum := "3935f113989a802dcc8a90fe34fabe6f2b2768b00502e2002bc1d5a89953d906", func := "loop.example/g00658/laws.FnExactStateNew", spec := "fnExactStateNew", unfollowed := true, recurses := true, apart := false, narrowed := true }
def FnExactStateNewUptoSaid : Prop := fnExactStateNewUptoRow.holds Tryz.pinned (OpenSpec.upto fnExactStateNewSpec)

/-- 'laws.FnExactHouseNew', WHERE WHAT IT READS IS OF BULK AT MOST 1048576: true; the input reads as it did. -/
def fnExactHouseNewUptoRow : OpenClaim := { program := "ytjklmldchbakjaagreat", sum := "3935f113989a802dcc8a90fe34fabe6f2b2768b00502e2002bc1d5a89953d906", func := "loop.example/g00658/laws.FnExactHouseNew", spec := "fnExactHouseNew", unfollowed := true, recurses := true, apart := false, narrowed := true }
def FnExactHouseNewUptoSaid : Prop := fnExactHouseNewUptoRow.holds Tryz.pinned (OpenSpec.upto fnExactHouseNewSpec)

end Rows
end Go.Proofs.YtjklmldchbakjaaGreat
