/-
  No cell of these rows narrows 'for every input' (looked for: loops, veiled, ifaces, maps, wideKeys, modest, calm, conditions, laid).
  DERIVED. THE GIVEN ROWS OF THIS SEAT. 5 by the template 'for every input the law returns true; each argument reads behind the call as it read before'; 0 by the template 'total and deterministic' (their statements: YtengmmffommafaaGreatTotals.lean).
  GIVEN WITH THE SEED: the statements are not yours to turn. If you find one false, say at which input.
  Laid BY PROGRAM, IN A SANDBOX (cutbox-rows.mjs): the forced cells as the released guide's own fill.sh prints them over the translation d56415aca608808d… (all of the seat's roots in one cut). By AI agents, Wed Nov 11 2026. No macro, syntax, notation, axiom, sorry.
-/
import Derived.Test.YtengmmffommafaaGreatChecked
import GoSem.Claim
import GoSem.ClaimJoined
import GoSem.ClaimMapViews
import Derived.JoinedTies
import Derived.KernelRfl
namespace Go.Proofs.YtengmmffommafaaGreat
/- THE CELL 'sum', in the pinned program and in every row, IS THE sha256 OF THE DUMP (.gsa) THAT YtengmmffommafaaGreatProg.lean LOADS. Nothing in Lean hashes anything: it is a label: what it is worth is what the hold of that sum in a sandbox is worth. -/
noncomputable def Tryz.pinned : Pinned := { name := "ytengmmffommafaagreat", sum := "d56415aca608808d2365d5e5fea9f13bf8f94810ccf91b46de2013d336f5c894", checked := Tryz.checked }
namespace Rows
def none {H : Type} : Left H := { results := [], args := [] }

/-- 'laws.FnExactStepsRight': WHATEVER THE INPUT: true; the input reads as it did. -/
def fnExactStepsRightSpec : ChangeSpec := { name := "fnExactStepsRight", fn := fun _ => fun
  | [d1, d2] => { results := [.lit (.bool true)], args := [d1, d2] }
  | _ => none }
def fnExactStepsRightRow : OpenClaim := { program := "ytengmmffommafaagreat", sum := "d56415aca608808d2365d5e5fea9f13bf8f94810ccf91b46de2013d336f5c894", func := "loop.example/g00658/laws.FnExactStepsRight", spec := "fnExactStepsRight", unfollowed := true, recurses := true, apart := false }
def FnExactStepsRightSaid : Prop := fnExactStepsRightRow.holds Tryz.pinned (OpenSpec.ofChange fnExactStepsRightSpec)

/-- ITS FALSE NEIGHBOUR: 'it returns false'. Refute it at one input. -/
def fnExactStepsRightWrong : ChangeSpec := { name := "fnExactStepsRight", fn := fun _ => fun
  | [d1, d2] => { results := [.lit (.bool false)], args := [d1, d2] }
  | _ => none }
def FnExactStepsRightWrongFalsely : Prop := fnExactStepsRightRow.holds Tryz.pinned (OpenSpec.ofChange fnExactStepsRightWrong)

/-- 'laws.FnExactMailAudit': WHATEVER THE INPUT: true; the input reads as it did. -/
def fnExactMailAuditSpec : ChangeSpec := { name := "fnExactMailAudit", fn := fun _ => fun
  | [d1, d2, d3] => { results := [.lit (.bool true)], args := [d1, d2, d3] }
  | _ => none }
def fnExactMailAuditRow : OpenClaim := { program := "ytengmmffommafaagreat", sum := "d56415aca608808d2365d5e5fea9f13bf8f94810ccf91b46de2013d336f5c894", func := "loop.example/g00658/laws.FnExactMailAudit", spec := "fnExactMailAudit", unfollowed := true, recurses := true, apart := false }
def FnExactMailAuditSaid : Prop := fnExactMailAuditRow.holds Tryz.pinned (OpenSpec.ofChange fnExactMailAuditSpec)

/-- ITS FALSE NEIGHBOUR: 'it returns false'. Refute it at one input. -/
def fnExactMailAuditWrong : ChangeSpec := { name := "fnExactMailAudit", fn := fun _ => fun
  | [d1, d2, d3] => { results := [.lit (.bool false)], args := [d1, d2, d3] }
  | _ => none }
def FnExactMailAuditWrongFalsely : Prop := fnExactMailAuditRow.holds Tryz.pinned (OpenSpec.ofChange fnExactMailAuditWrong)

/-- 'laws.FnExactMailTick': WHATEVER THE INPUT: true; the input reads as it did. -/
def fnExactMailTickSpec : ChangeSpec := { name := "fnExactMailTick", fn := fun _ => fun
  | [d1, d2] => { results := [.lit (.bool true)], args := [d1, d2] }
  | _ => none }
def fnExactMailTickRow : OpenClaim := { program := "ytengmmffommafaagreat", sum := "d56415aca608808d2365d5e5fea9f13bf8f94810ccf91b46de2013d336f5c894", func := "loop.example/g00658/laws.FnExactMailTick", spec := "fnExactMailTick", unfollowed := true, recurses := true, apart := false }
def FnExactMailTickSaid : Prop := fnExactMailTickRow.holds Tryz.pinned (OpenSpec.ofChange fnExactMailTickSpec)

/-- ITS FALSE NEIGHBOUR: 'it returns false'. Refute it at one input. -/
def fnExactMailTickWrong : ChangeSpec := { name := "fnExactMailTick", fn := fun _ => fun
  | [d1, d2] => { results := [.lit (.bool false)], args := [d1, d2] }
  | _ => none }
def FnExactMailTickWrongFalsely : Prop := fnExactMailTickRow.holds Tryz.pinned (OpenSpec.ofChange fnExactMailTickWrong)

/-- 'laws.FnExactMailLay': WHATEVER THE INPUT: true; the input reads as it did. -/
def fnExactMailLaySpec : ChangeSpec := { name := "fnExactMailLay", fn := fun _ => fun
  | [d1, d2, d3, d4] => { results := [.lit (.bool true)], args := [d1, d2, d3, d4] }
  | _ => none }
def fnExactMailLayRow : OpenClaim := { program := "ytengmmffommafaagreat", sum := "d56415aca608808d2365d5e5fea9f13bf8f94810ccf91b46de2013d336f5c894", func := "loop.example/g00658/laws.FnExactMailLay", spec := "fnExactMailLay", unfollowed := true, recurses := true, apart := false }
def FnExactMailLaySaid : Prop := fnExactMailLayRow.holds Tryz.pinned (OpenSpec.ofChange fnExactMailLaySpec)

/-- ITS FALSE NEIGHBOUR: 'it returns false'. Refute it at one input. -/
def fnExactMailLayWrong : ChangeSpec := { name := "fnExactMailLay", fn := fun _ => fun
  | [d1, d2, d3, d4] => { results := [.lit (.bool false)], args := [d1, d2, d3, d4] }
  | _ => none }
def FnExactMailLayWrongFalsely : Prop := fnExactMailLayRow.holds Tryz.pinned (OpenSpec.ofChange fnExactMailLayWrong)

/-- 'laws.FnExactMailSend': WHATEVER THE INPUT: true; the input reads as it did. -/
def fnExactMailSendSpec : ChangeSpec := { name := "fnExactMailSend", fn := fun _ => fun
  | [d1, d2, d3, d4, d5, d6] => { results := [.lit (.bool true)], args := [d1, d2, d3, d4, d5, d6] }
  | _ => none }
def fnExactMailSendRow : OpenClaim := { program := "ytengmmffommafaagreat", sum := "d56415aca608808d2365d5e5fea9f13bf8f94810ccf91b46de2013d336f5c894", func := "loop.example/g00658/laws.FnExactMailSend", spec := "fnExactMailSend", unfollowed := true, recurses := true, apart := false }
def FnExactMailSendSaid : Prop := fnExactMailSendRow.holds Tryz.pinned (OpenSpec.ofChange fnExactMailSendSpec)

/-- ITS FALSE NEIGHBOUR: 'it returns false'. Refute it at one input. -/
def fnExactMailSendWrong : ChangeSpec := { name := "fnExactMailSend", fn := fun _ => fun
  | [d1, d2, d3, d4, d5, d6] => { results := [.lit (.bool false)], args := [d1, d2, d3, d4, d5, d6] }
  | _ => none }
def FnExactMailSendWrongFalsely : Prop := fnExactMailSendRow.holds Tryz.pinned (OpenSpec.ofChange fnExactMailSendWrong)

/- THE SECOND FORM. 'bulk': how many values and letters a reading holds, each counted each time it is reached (what is shared counts as often as it is met; a slice's spare places count too). A statement '..UptoSaid' is the law's where the arguments, and the package variables that the reading takes, are together of bulk at most 1048576: NARROWER than '..Said'. Prove '..Said' where nothing that the law and all that it calls make is longer than what came in: it says more and counts as full. Else prove '..UptoSaid'. A law counts once. -/
mutual
def uptoBulk {H : Type} : DataW H → Nat
  | .lit (.string bytes) => bytes.length + 1
  | .lit _ => 1
  | .nil => 1
  | .ptr d => uptoBulk d + 1
  | .slice elems spare => uptoBulkAll elems + uptoBulkAll spare + 1
  | .agg parts => uptoBulkAll parts + 1
  | .iface _ d => uptoBulk d + 1
  | .map entries => uptoBulkEntries entries + 1
  | .held _ => 1
def uptoBulkAll {H : Type} : List (DataW H) → Nat
  | [] => 0
  | d :: r => uptoBulk d + uptoBulkAll r
def uptoBulkEntries {H : Type} : List (Lit × DataW H) → Nat
  | [] => 0
  | x :: r => uptoBulkEntry x + uptoBulkEntries r
def uptoBulkEntry {H : Type} : Lit × DataW H → Nat
  | (.string bytes, d) => bytes.length + uptoBulk d + 1
  | (_, d) => uptoBulk d + 1
 end
def uptoSmall : (H : Type) → List (DataW H) → Bool := fun _ ds => decide (uptoBulkAll ds ≤ 1048576)
def OpenSpec.upto (s : _root_.Go.ChangeSpec) : _root_.Go.OpenSpec := { _root_.Go.OpenSpec.ofChange s with cond := some uptoSmall }

/-- 'laws.FnExactStepsRight', WHERE WHAT IT READS IS OF BULK AT MOST 1048576: true; the input reads as it did. -/
def fnExactStepsRightUptoRow : OpenClaim := { program := "ytengmmffommafaagreat", sum := "d56415aca608808d2365d5e5fea9f13bf8f94810ccf91b46de2013d336f5c894", func := "loop.example/g00658/laws.FnExactStepsRight", spec := "fnExactStepsRight", unfollowed := true, recurses := true, apart := false, narrowed := true }
def FnExactStepsRightUptoSaid : Prop := fnExactStepsRightUptoRow.holds Tryz.pinned (OpenSpec.upto fnExactStepsRightSpec)

/-- 'laws.FnExactMailAudit', WHERE WHAT IT READS IS OF BULK AT MOST 1048576: true; the input reads as it did. -/
def fnExactMailAuditUptoRow : OpenClaim := { program := "ytengmmffommafaagreat", sum := "d56415aca608808d2365d5e5fea9f13bf8f94810ccf91b46de2013d336f5c894", func := "loop.example/g00658/laws.FnExactMailAudit", spec := "fnExactMailAudit", unfollowed := true, recurses := true, apart := false, narrowed := true }
def FnExactMailAuditUptoSaid : Prop := fnExactMailAuditUptoRow.holds Tryz.pinned (OpenSpec.upto fnExactMailAuditSpec)

/-- 'laws.FnExactMailTick', WHERE WHAT IT READS IS OF BULK AT MOST 1048576: true; the input reads as it did. -/
def fnExactMailTickUptoRow : OpenClaim := { program := "ytengmmffommafaagreat", sum := "d56415aca608808d2365d5e5fea9f13bf8f94810ccf91b46de2013d336f5c894", func := "loop.example/g00658/laws.FnExactMailTick", spec := "fnExactMailTick", unfollowed := true, recurses := true, apart := false, narrowed := true }
def FnExactMailTickUptoSaid : Prop := fnExactMailTickUptoRow.holds Tryz.pinned (OpenSpec.upto fnExactMailTickSpec)

/-- 'laws.FnExactMailLay', WHERE WHAT IT READS IS OF BULK AT MOST 1048576: true; the input reads as it did. -/
def fnExactMailLayUptoRow : OpenClaim := { program := "ytengmmffommafaagreat", sum := "d56415aca608808d2365d5e5fea9f13bf8f94810ccf91b46de2013d336f5c894", func := "loop.example/g00658/laws.FnExactMailLay", spec := "fnExactMailLay", unfollowed := true, recurses := true, apart := false, narrowed := true }
def FnExactMailLayUptoSaid : Prop := fnExactMailLayUptoRow.holds Tryz.pinned (OpenSpec.upto fnExactMailLaySpec)

/-- 'laws.FnExactMailSend', WHERE WHAT IT READS IS OF BULK AT MOST 1048576: true; the input reads as it did. -/
def fnExactMailSendUptoRow : OpenClaim := { program := "ytengmmffommafaagreat", sum := "d56415aca608808d2365d5e5fea9f13bf8f94810ccf91b46de2013d336f5c894", func := "loop.example/g00658/laws.FnExactMailSend", spec := "fnExactMailSend", unfollowed := true, recurses := true, apart := false, narrowed := true }
def FnExactMailSendUptoSaid : Prop := fnExactMailSendUptoRow.holds Tryz.pinned (OpenSpec.upto fnExactMailSendSpec)

end Rows
end Go.Proofs.YtengmmffommafaaGreat
