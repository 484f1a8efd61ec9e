/-
  No cell of these rows narrows 'for every input' (looked for: loops, veiled, ifaces, maps, wideKeys, modest, calm, conditions, laid).
  DERIVED. THE GIVEN ROWS OF THIS SEAT. 3 by the template 'for every input the law returns true; each argument reads behind the call as it read before'; 0 by the template 'total and deterministic' (their statements: YtcaeemhkeoajbaaGreatTotals.lean).
  GIVEN WITH THE SEED: the statements are not yours to turn. If you find one false, say at which input.
  Laid BY PROGRAM, IN A SANDBOX (cutbox-rows.mjs): the forced cells as the released guide's own fill.sh prints them over the translation f1147e075a692298… (all of the seat's roots in one cut). By AI agents, Wed Nov 11 2026. No macro, syntax, notation, axiom, sorry.
-/
import Derived.Test.YtcaeemhkeoajbaaGreatChecked
import GoSem.Claim
import GoSem.ClaimJoined
import GoSem.ClaimMapViews
import Derived.JoinedTies
import Derived.KernelRfl
namespace Go.Proofs.YtcaeemhkeoajbaaGreat
/- THE CELL 'sum', in the pinned program and in every row, IS THE sha256 OF THE DUMP (.gsa) THAT YtcaeemhkeoajbaaGreatProg.lean LOADS. Nothing in Lean hashes anything: it is a label: what it is worth is what the hold of that sum in a sandbox is worth. -/
noncomputable def Tryz.pinned : Pinned := { name := "ytcaeemhkeoajbaagreat", sum := "f1147e075a692298162c3d57ac94ccbe8fa7277fb64c0bd2ad3da0fb2a8348bc", checked := Tryz.checked }
namespace Rows
def none {H : Type} : Left H := { results := [], args := [] }

/-- 'laws.FnExactStateRight': WHATEVER THE INPUT: true; the input reads as it did. -/
def fnExactStateRightSpec : ChangeSpec := { name := "fnExactStateRight", fn := fun _ => fun
  | [d] => { results := [.lit (.bool true)], args := [d] }
  | _ => none }
def fnExactStateRightRow : OpenClaim := { program := "ytcaeemhkeoajbaagreat", sum := "f1147e075a692298162c3d57ac94ccbe8fa7277fb64c0bd2ad3da0fb2a8348bc", func := "loop.example/g00658/laws.FnExactStateRight", spec := "fnExactStateRight", inPlace := ["internal/bytealg.abigen_runtime_cmpstring"], unfollowed := true, recurses := true, apart := false }
def FnExactStateRightSaid : Prop := fnExactStateRightRow.holds Tryz.pinned (OpenSpec.ofChange fnExactStateRightSpec)

/-- ITS FALSE NEIGHBOUR: 'it returns false'. Refute it at one input. -/
def fnExactStateRightWrong : ChangeSpec := { name := "fnExactStateRight", fn := fun _ => fun
  | [d] => { results := [.lit (.bool false)], args := [d] }
  | _ => none }
def FnExactStateRightWrongFalsely : Prop := fnExactStateRightRow.holds Tryz.pinned (OpenSpec.ofChange fnExactStateRightWrong)

/-- 'laws.FnExactHouseRight': WHATEVER THE INPUT: true; the input reads as it did. -/
def fnExactHouseRightSpec : ChangeSpec := { name := "fnExactHouseRight", fn := fun _ => fun
  | [d] => { results := [.lit (.bool true)], args := [d] }
  | _ => none }
def fnExactHouseRightRow : OpenClaim := { program := "ytcaeemhkeoajbaagreat", sum := "f1147e075a692298162c3d57ac94ccbe8fa7277fb64c0bd2ad3da0fb2a8348bc", func := "loop.example/g00658/laws.FnExactHouseRight", spec := "fnExactHouseRight", inPlace := ["internal/bytealg.abigen_runtime_cmpstring"], unfollowed := true, recurses := true, apart := false }
def FnExactHouseRightSaid : Prop := fnExactHouseRightRow.holds Tryz.pinned (OpenSpec.ofChange fnExactHouseRightSpec)

/-- ITS FALSE NEIGHBOUR: 'it returns false'. Refute it at one input. -/
def fnExactHouseRightWrong : ChangeSpec := { name := "fnExactHouseRight", fn := fun _ => fun
  | [d] => { results := [.lit (.bool false)], args := [d] }
  | _ => none }
def FnExactHouseRightWrongFalsely : Prop := fnExactHouseRightRow.holds Tryz.pinned (OpenSpec.ofChange fnExactHouseRightWrong)

/-- 'laws.FnExactPartOf': WHATEVER THE INPUT: true; the input reads as it did. -/
def fnExactPartOfSpec : ChangeSpec := { name := "fnExactPartOf", fn := fun _ => fun
  | [d1, d2] => { results := [.lit (.bool true)], args := [d1, d2] }
  | _ => none }
def fnExactPartOfRow : OpenClaim := { program := "ytcaeemhkeoajbaagreat", sum := "f1147e075a692298162c3d57ac94ccbe8fa7277fb64c0bd2ad3da0fb2a8348bc", func := "loop.example/g00658/laws.FnExactPartOf", spec := "fnExactPartOf", inPlace := ["internal/bytealg.abigen_runtime_cmpstring"], unfollowed := true, recurses := true, apart := false }
def FnExactPartOfSaid : Prop := fnExactPartOfRow.holds Tryz.pinned (OpenSpec.ofChange fnExactPartOfSpec)

/-- ITS FALSE NEIGHBOUR: 'it returns false'. Refute it at one input. -/
def fnExactPartOfWrong : ChangeSpec := { name := "fnExactPartOf", fn := fun _ => fun
  | [d1, d2] => { results := [.lit (.bool false)], args := [d1, d2] }
  | _ => none }
def FnExactPartOfWrongFalsely : Prop := fnExactPartOfRow.holds Tryz.pinned (OpenSpec.ofChange fnExactPartOfWrong)

/- THE SECOND FORM. 'bulk': how many values and letters a reading holds, each counted each time it is reached (what is shared counts as often as it is met; a slice's spare places count too). A statement '..UptoSaid' is the law's where the arguments, and the package variables that the reading takes, are together of bulk at most 1048576: NARROWER than '..Said'. Prove '..Said' where nothing that the law and all that it calls make is longer than what came in: it says more and counts as full. Else prove '..UptoSaid'. A law counts once. -/
mutual
def uptoBulk {H : Type} : DataW H → Nat
  | .lit (.string bytes) => bytes.length + 1
  | .lit _ => 1
  | .nil => 1
  | .ptr d => uptoBulk d + 1
  | .slice elems spare => uptoBulkAll elems + uptoBulkAll spare + 1
  | .agg parts => uptoBulkAll parts + 1
  | .iface _ d => uptoBulk d + 1
  | .map entries => uptoBulkEntries entries + 1
  | .held _ => 1
def uptoBulkAll {H : Type} : List (DataW H) → Nat
  | [] => 0
  | d :: r => uptoBulk d + uptoBulkAll r
def uptoBulkEntries {H : Type} : List (Lit × DataW H) → Nat
  | [] => 0
  | x :: r => uptoBulkEntry x + uptoBulkEntries r
def uptoBulkEntry {H : Type} : Lit × DataW H → Nat
  | (.string bytes, d) => bytes.length + uptoBulk d + 1
  | (_, d) => uptoBulk d + 1
 end
def uptoSmall : (H : Type) → List (DataW H) → Bool := fun _ ds => decide (uptoBulkAll ds ≤ 1048576)
def OpenSpec.upto (s : _root_.Go.ChangeSpec) : _root_.Go.OpenSpec := { _root_.Go.OpenSpec.ofChange s with cond := some uptoSmall }

/-- 'laws.FnExactStateRight', WHERE WHAT IT READS IS OF BULK AT MOST 1048576: true; the input reads as it did. -/
def fnExactStateRightUptoRow : OpenClaim := { program := "ytcaeemhkeoajbaagreat", sum := "f1147e075a692298162c3d57ac94ccbe8fa7277fb64c0bd2ad3da0fb2a8348bc", func := "loop.example/g00658/laws.FnExactStateRight", spec := "fnExactStateRight", inPlace := ["internal/bytealg.abigen_runtime_cmpstring"], unfollowed := true, recurses := true, apart := false, narrowed := true }
def FnExactStateRightUptoSaid : Prop := fnExactStateRightUptoRow.holds Tryz.pinned (OpenSpec.upto fnExactStateRightSpec)

/-- 'laws.FnExactHouseRight', WHERE WHAT IT READS IS OF BULK AT MOST 1048576: true; the input reads as it did. -/
def fnExactHouseRightUptoRow : OpenClaim := { program := "ytcaeemhkeoajbaagreat", sum := "f1147e075a692298162c3d57ac94ccbe8fa7277fb64c0bd2ad3da0fb2a8348bc", func := "loop.example/g00658/laws.FnExactHouseRight", spec := "fnExactHouseRight", inPlace := ["internal/bytealg.abigen_runtime_cmpstring"], unfollowed := true, recurses := true, apart := false, narrowed := true }
def FnExactHouseRightUptoSaid : Prop := fnExactHouseRightUptoRow.holds Tryz.pinned (OpenSpec.upto fnExactHouseRightSpec)

/-- 'laws.FnExactPartOf', WHERE WHAT IT READS IS OF BULK AT MOST 1048576: true; the input reads as it did. -/
def fnExactPartOfUptoRow : OpenClaim := { program := "ytcaeemhkeoajbaagreat", sum := "f1147e075a692298162c3d57ac94ccbe8fa7277fb64c0bd2ad3da0fb2a8348bc", func := "loop.example/g00658/laws.FnExactPartOf", spec := "fnExactPartOf", inPlace := ["internal/bytealg.abigen_runtime_cmpstring"], unfollowed := true, recurses := true, apart := false, narrowed := true }
def FnExactPartOfUptoSaid : Prop := fnExactPartOfUptoRow.holds Tryz.pinned (OpenSpec.upto fnExactPartOfSpec)

end Rows
end Go.Proofs.YtcaeemhkeoajbaaGreat
