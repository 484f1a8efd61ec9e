/-
  No cell of these rows narrows 'for every input' (looked for: loops, veiled, ifaces, maps, wideKeys, modest, calm, conditions, laid).
  DERIVED. THE GIVEN ROWS OF THIS SEAT. 6 by the template 'for every input the law returns true; each argument reads behind the call as it read before'; 0 by the template 'total and deterministic' (their statements: YtoggdaiibmjkkaaTotals.lean).
  GIVEN WITH THE SEED: the statements are not yours to turn. If you find one false, say at which input.
  Laid BY PROGRAM, IN A SANDBOX (cutbox-rows.mjs): the forced cells as the released guide's own fill.sh prints them over the translation e40946aaa901807b… (all of the seat's roots in one cut). By AI agents, Wed Nov 11 2026. No macro, syntax, notation, axiom, sorry.
-/
import Derived.Test.YtoggdaiibmjkkaaChecked
import GoSem.Claim
import GoSem.ClaimJoined
import GoSem.ClaimMapViews
import Derived.JoinedTies
import Derived.KernelRfl
namespace Go.Proofs.Ytoggdaiibmjkkaa
/- THE CELL 'sum', in the pinned program and in every row, IS THE sha256 OF THE DUMP (.gsa) THAT YtoggdaiibmjkkaaProg.lean LOADS. Nothing in Lean hashes anything: it is a label: what it is worth is what the hold of that sum in a sandbox is worth. -/
noncomputable def Try.pinned : Pinned := { name := "ytoggdaiibmjkkaa", sum := "e40946aaa901807b4f6abe9f90fbbebe20a4eeb915b86c2207412b83cff76775", checked := Try.checked }
namespace Rows
def none {H : Type} : Left H := { results := [], args := [] }

/-- 'laws.FnExactDiskNew': WHATEVER THE INPUT: true; the input reads as it did. -/
def fnExactDiskNewSpec : ChangeSpec := { name := "fnExactDiskNew", fn := fun _ => fun
  | [d] => { results := [.lit (.bool true)], args := [d] }
  | _ => none }
def fnExactDiskNewRow : OpenClaim := { program := "ytoggdaiibmjkkaa", sum := "e40946aaa901807b4f6abe9f90fbbebe20a4eeb915b86c2207412b83cff76775", func := "loop.example/g00658/laws.FnExactDiskNew", spec := "fnExactDiskNew", apart := false }
def FnExactDiskNewSaid : Prop := fnExactDiskNewRow.holds Try.pinned (OpenSpec.ofChange fnExactDiskNewSpec)

/-- ITS FALSE NEIGHBOUR: 'it returns false'. Refute it at one input. -/
def fnExactDiskNewWrong : ChangeSpec := { name := "fnExactDiskNew", fn := fun _ => fun
  | [d] => { results := [.lit (.bool false)], args := [d] }
  | _ => none }
def FnExactDiskNewWrongFalsely : Prop := fnExactDiskNewRow.holds Try.pinned (OpenSpec.ofChange fnExactDiskNewWrong)

/-- 'laws.FnExactFrameBytes': WHATEVER THE INPUT: true; the input reads as it did. -/
def fnExactFrameBytesSpec : ChangeSpec := { name := "fnExactFrameBytes", fn := fun _ => fun
  | [d] => { results := [.lit (.bool true)], args := [d] }
  | _ => none }
def fnExactFrameBytesRow : OpenClaim := { program := "ytoggdaiibmjkkaa", sum := "e40946aaa901807b4f6abe9f90fbbebe20a4eeb915b86c2207412b83cff76775", func := "loop.example/g00658/laws.FnExactFrameBytes", spec := "fnExactFrameBytes", apart := false }
def FnExactFrameBytesSaid : Prop := fnExactFrameBytesRow.holds Try.pinned (OpenSpec.ofChange fnExactFrameBytesSpec)

/-- ITS FALSE NEIGHBOUR: 'it returns false'. Refute it at one input. -/
def fnExactFrameBytesWrong : ChangeSpec := { name := "fnExactFrameBytes", fn := fun _ => fun
  | [d] => { results := [.lit (.bool false)], args := [d] }
  | _ => none }
def FnExactFrameBytesWrongFalsely : Prop := fnExactFrameBytesRow.holds Try.pinned (OpenSpec.ofChange fnExactFrameBytesWrong)

/-- 'laws.FnExactDiskRight': WHATEVER THE INPUT: true; the input reads as it did. -/
def fnExactDiskRightSpec : ChangeSpec := { name := "fnExactDiskRight", fn := fun _ => fun
  | [d] => { results := [.lit (.bool true)], args := [d] }
  | _ => none }
def fnExactDiskRightRow : OpenClaim := { program := "ytoggdaiibmjkkaa", sum := "e40946aaa901807b4f6abe9f90fbbebe20a4eeb915b86c2207412b83cff76775", func := "loop.example/g00658/laws.FnExactDiskRight", spec := "fnExactDiskRight", unfollowed := true, recurses := true, apart := false }
def FnExactDiskRightSaid : Prop := fnExactDiskRightRow.holds Try.pinned (OpenSpec.ofChange fnExactDiskRightSpec)

/-- ITS FALSE NEIGHBOUR: 'it returns false'. Refute it at one input. -/
def fnExactDiskRightWrong : ChangeSpec := { name := "fnExactDiskRight", fn := fun _ => fun
  | [d] => { results := [.lit (.bool false)], args := [d] }
  | _ => none }
def FnExactDiskRightWrongFalsely : Prop := fnExactDiskRightRow.holds Try.pinned (OpenSpec.ofChange fnExactDiskRightWrong)

/-- 'laws.FnExactOpRight': WHATEVER THE INPUT: true; the input reads as it did. -/
def fnExactOpRightSpec : ChangeSpec := { name := "fnExactOpRight", fn := fun _ => fun
  | [d] => { results := [.lit (.bool true)], args := [d] }
  | _ => none }
def fnExactOpRightRow : OpenClaim := { program := "ytoggdaiibmjkkaa", sum := "e40946aaa901807b4f6abe9f90fbbebe20a4eeb915b86c2207412b83cff76775", func := "loop.example/g00658/laws.FnExactOpRight", spec := "fnExactOpRight", apart := false }
def FnExactOpRightSaid : Prop := fnExactOpRightRow.holds Try.pinned (OpenSpec.ofChange fnExactOpRightSpec)

/-- ITS FALSE NEIGHBOUR: 'it returns false'. Refute it at one input. -/
def fnExactOpRightWrong : ChangeSpec := { name := "fnExactOpRight", fn := fun _ => fun
  | [d] => { results := [.lit (.bool false)], args := [d] }
  | _ => none }
def FnExactOpRightWrongFalsely : Prop := fnExactOpRightRow.holds Try.pinned (OpenSpec.ofChange fnExactOpRightWrong)

/-- 'laws.FnExactOpAsks': WHATEVER THE INPUT: true; the input reads as it did. -/
def fnExactOpAsksSpec : ChangeSpec := { name := "fnExactOpAsks", fn := fun _ => fun
  | [d] => { results := [.lit (.bool true)], args := [d] }
  | _ => none }
def fnExactOpAsksRow : OpenClaim := { program := "ytoggdaiibmjkkaa", sum := "e40946aaa901807b4f6abe9f90fbbebe20a4eeb915b86c2207412b83cff76775", func := "loop.example/g00658/laws.FnExactOpAsks", spec := "fnExactOpAsks", apart := false }
def FnExactOpAsksSaid : Prop := fnExactOpAsksRow.holds Try.pinned (OpenSpec.ofChange fnExactOpAsksSpec)

/-- ITS FALSE NEIGHBOUR: 'it returns false'. Refute it at one input. -/
def fnExactOpAsksWrong : ChangeSpec := { name := "fnExactOpAsks", fn := fun _ => fun
  | [d] => { results := [.lit (.bool false)], args := [d] }
  | _ => none }
def FnExactOpAsksWrongFalsely : Prop := fnExactOpAsksRow.holds Try.pinned (OpenSpec.ofChange fnExactOpAsksWrong)

/-- 'laws.FnExactFrameRead': WHATEVER THE INPUT: true; the input reads as it did. -/
def fnExactFrameReadSpec : ChangeSpec := { name := "fnExactFrameRead", fn := fun _ => fun
  | [d1, d2] => { results := [.lit (.bool true)], args := [d1, d2] }
  | _ => none }
def fnExactFrameReadRow : OpenClaim := { program := "ytoggdaiibmjkkaa", sum := "e40946aaa901807b4f6abe9f90fbbebe20a4eeb915b86c2207412b83cff76775", func := "loop.example/g00658/laws.FnExactFrameRead", spec := "fnExactFrameRead", apart := false }
def FnExactFrameReadSaid : Prop := fnExactFrameReadRow.holds Try.pinned (OpenSpec.ofChange fnExactFrameReadSpec)

/-- ITS FALSE NEIGHBOUR: 'it returns false'. Refute it at one input. -/
def fnExactFrameReadWrong : ChangeSpec := { name := "fnExactFrameRead", fn := fun _ => fun
  | [d1, d2] => { results := [.lit (.bool false)], args := [d1, d2] }
  | _ => none }
def FnExactFrameReadWrongFalsely : Prop := fnExactFrameReadRow.holds Try.pinned (OpenSpec.ofChange fnExactFrameReadWrong)

/- THE SECOND FORM. 'bulk': how many values and letters a reading holds, each counted each time it is reached (what is shared counts as often as it is met; a slice's spare places count too). A statement '..UptoSaid' is the law's where the arguments, and the package variables that the reading takes, are together of bulk at most 1048576: NARROWER than '..Said'. Prove '..Said' where nothing that the law and all that it calls make is longer than what came in: it says more and counts as full. Else prove '..UptoSaid'. A law counts once. -/
mutual
def uptoBulk {H : Type} : DataW H → Nat
  | .lit (.string bytes) => bytes.length + 1
  | .lit _ => 1
  | .nil => 1
  | .ptr d => uptoBulk d + 1
  | .slice elems spare => uptoBulkAll elems + uptoBulkAll spare + 1
  | .agg parts => uptoBulkAll parts + 1
  | .iface _ d => uptoBulk d + 1
  | .map entries => uptoBulkEntries entries + 1
  | .held _ => 1
def uptoBulkAll {H : Type} : List (DataW H) → Nat
  | [] => 0
  | d :: r => uptoBulk d + uptoBulkAll r
def uptoBulkEntries {H : Type} : List (Lit × DataW H) → Nat
  | [] => 0
  | x :: r => uptoBulkEntry x + uptoBulkEntries r
def uptoBulkEntry {H : Type} : Lit × DataW H → Nat
  | (.string bytes, d) => bytes.length + uptoBulk d + 1
  | (_, d) => uptoBulk d + 1
 end
def uptoSmall : (H : Type) → List (DataW H) → Bool := fun _ ds => decide (uptoBulkAll ds ≤ 1048576)
def OpenSpec.upto (s : _root_.Go.ChangeSpec) : _root_.Go.OpenSpec := { _root_.Go.OpenSpec.ofChange s with cond := some uptoSmall }

/-- 'laws.FnExactDiskNew', WHERE WHAT IT READS IS OF BULK AT MOST 1048576: true; the input reads as it did. -/
def fnExactDiskNewUptoRow : OpenClaim := { program := "ytoggdaiibmjkkaa", sum := "e40946aaa901807b4f6abe9f90fbbebe20a4eeb915b86c2207412b83cff76775", func := "loop.example/g00658/laws.FnExactDiskNew", spec := "fnExactDiskNew", apart := false, narrowed := true }
def FnExactDiskNewUptoSaid : Prop := fnExactDiskNewUptoRow.holds Try.pinned (OpenSpec.upto fnExactDiskNewSpec)

/-- 'laws.FnExactFrameBytes', WHERE WHAT IT READS IS OF BULK AT MOST 1048576: true; the input reads as it did. -/
def fnExactFrameBytesUptoRow : OpenClaim := { program := "ytoggdaiibmjkkaa", sum := "e40946aaa901807b4f6abe9f90fbbebe20a4eeb915b86c2207412b83cff76775", func := "loop.example/g00658/laws.FnExactFrameBytes", spec := "fnExactFrameBytes", apart := false, narrowed := true }
def FnExactFrameBytesUptoSaid : Prop := fnExactFrameBytesUptoRow.holds Try.pinned (OpenSpec.upto fnExactFrameBytesSpec)

/-- 'laws.FnExactDiskRight', WHERE WHAT IT READS IS OF BULK AT MOST 1048576: true; the input reads as it did. -/
def fnExactDiskRightUptoRow : OpenClaim := { program := "ytoggdaiibmjkkaa", sum := "e40946aaa901807b4f6abe9f90fbbebe20a4eeb915b86c2207412b83cff76775", func := "loop.example/g00658/laws.FnExactDiskRight", spec := "fnExactDiskRight", unfollowed := true, recurses := true, apart := false, narrowed := true }
def FnExactDiskRightUptoSaid : Prop := fnExactDiskRightUptoRow.holds Try.pinned (OpenSpec.upto fnExactDiskRightSpec)

/-- 'laws.FnExactOpRight', WHERE WHAT IT READS IS OF BULK AT MOST 1048576: true; the input reads as it did. -/
def fnExactOpRightUptoRow : OpenClaim := { program := "ytoggdaiibmjkkaa", sum := "e40946aaa901807b4f6abe9f90fbbebe20a4eeb915b86c2207412b83cff76775", func := "loop.example/g00658/laws.FnExactOpRight", spec := "fnExactOpRight", apart := false, narrowed := true }
def FnExactOpRightUptoSaid : Prop := fnExactOpRightUptoRow.holds Try.pinned (OpenSpec.upto fnExactOpRightSpec)

/-- 'laws.FnExactOpAsks', WHERE WHAT IT READS IS OF BULK AT MOST 1048576: true; the input reads as it did. -/
def fnExactOpAsksUptoRow : OpenClaim := { program := "ytoggdaiibmjkkaa", sum := "e40946aaa901807b4f6abe9f90fbbebe20a4eeb915b86c2207412b83cff76775", func := "loop.example/g00658/laws.FnExactOpAsks", spec := "fnExactOpAsks", apart := false, narrowed := true }
def FnExactOpAsksUptoSaid : Prop := fnExactOpAsksUptoRow.holds Try.pinned (OpenSpec.upto fnExactOpAsksSpec)

/-- 'laws.FnExactFrameRead', WHERE WHAT IT READS IS OF BULK AT MOST 1048576: true; the input reads as it did. -/
def fnExactFrameReadUptoRow : OpenClaim := { program := "ytoggdaiibmjkkaa", sum := "e40946aaa901807b4f6abe9f90fbbebe20a4eeb915b86c2207412b83cff76775", func := "loop.example/g00658/laws.FnExactFrameRead", spec := "fnExactFrameRead", apart := false, narrowed := true }
def FnExactFrameReadUptoSaid : Prop := fnExactFrameReadUptoRow.holds Try.pinned (OpenSpec.upto fnExactFrameReadSpec)

end Rows
end Go.Proofs.Ytoggdaiibmjkkaa
