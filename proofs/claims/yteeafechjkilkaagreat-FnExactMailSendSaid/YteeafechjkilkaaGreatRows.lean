/-
  No cell of these rows narrows 'for every input' (looked for: loops, veiled, ifaces, maps, wideKeys, modest, calm, conditions, laid).
  DERIVED. THE GIVEN ROWS OF THIS SEAT. 6 by the template 'for every input the law returns true; each argument reads behind the call as it read before'; 0 by the template 'total and deterministic' (their statements: YteeafechjkilkaaGreatTotals.lean).
  GIVEN WITH THE SEED: the statements are not yours to turn. If you find one false, say at which input.
  Laid BY PROGRAM, IN A SANDBOX (cutbox-rows.mjs): the forced cells as the released guide's own fill.sh prints them over the translation fa19fb147b62b29a… (all of the seat's roots in one cut). By AI agents, Wed Nov 11 2026. No macro, syntax, notation, axiom, sorry.
-/
import Derived.Test.YteeafechjkilkaaGreatChecked
import GoSem.Claim
import GoSem.ClaimJoined
import GoSem.ClaimMapViews
import Derived.JoinedTies
import Derived.KernelRfl
namespace Go.Proofs.YteeafechjkilkaaGreat
/- THE CELL 'sum', in the pinned program and in every row, IS THE sha256 OF THE DUMP (.gsa) THAT YteeafechjkilkaaGreatProg.lean LOADS. Nothing in Lean hashes anything: it is a label: what it is worth is what the hold of that sum in a sandbox is worth. -/
noncomputable def Tryz.pinned : Pinned := { name := "yteeafechjkilkaagreat", sum := "fa19fb147b62b29a49f8b6c9f0262081e1489f09019fce6643f4bd9368449752", checked := Tryz.checked }
namespace Rows
def none {H : Type} : Left H := { results := [], args := [] }

/-- 'laws.FnExactMailSend': WHATEVER THE INPUT: true; the input reads as it did. -/
def fnExactMailSendSpec : ChangeSpec := { name := "fnExactMailSend", fn := fun _ => fun
  | [d1, d2, d3, d4, d5, d6] => { results := [.lit (.bool true)], args := [d1, d2, d3, d4, d5, d6] }
  | _ => none }
def fnExactMailSendRow : OpenClaim := { program := "yteeafechjkilkaagreat", sum := "fa19fb147b62b29a49f8b6c9f0262081e1489f09019fce6643f4bd9368449752", func := "loop.example/g00658/laws.FnExactMailSend", spec := "fnExactMailSend", unfollowed := true, recurses := true, apart := false }
def FnExactMailSendSaid : Prop := fnExactMailSendRow.holds Tryz.pinned (OpenSpec.ofChange fnExactMailSendSpec)

/-- ITS FALSE NEIGHBOUR: 'it returns false'. Refute it at one input. -/
def fnExactMailSendWrong : ChangeSpec := { name := "fnExactMailSend", fn := fun _ => fun
  | [d1, d2, d3, d4, d5, d6] => { results := [.lit (.bool false)], args := [d1, d2, d3, d4, d5, d6] }
  | _ => none }
def FnExactMailSendWrongFalsely : Prop := fnExactMailSendRow.holds Tryz.pinned (OpenSpec.ofChange fnExactMailSendWrong)

/-- 'laws.FnExactStateNew': WHATEVER THE INPUT: true; the input reads as it did. -/
def fnExactStateNewSpec : ChangeSpec := { name := "fnExactStateNew", fn := fun _ => fun
  | [d] => { results := [.lit (.bool true)], args := [d] }
  | _ => none }
def fnExactStateNewRow : OpenClaim := { program := "yteeafechjkilkaagreat", sum := "fa19fb147b62b29a49f8b6c9f0262081e1489f09019fce6643f4bd9368449752", func := "loop.example/g00658/laws.FnExactStateNew", spec := "fnExactStateNew", unfollowed := true, recurses := true, apart := false }
def FnExactStateNewSaid : Prop := fnExactStateNewRow.holds Tryz.pinned (OpenSpec.ofChange fnExactStateNewSpec)

/-- ITS FALSE NEIGHBOUR: 'it returns false'. Refute it at one input. -/
def fnExactStateNewWrong : ChangeSpec := { name := "fnExactStateNew", fn := fun _ => fun
  | [d] => { results := [.lit (.bool false)], args := [d] }
  | _ => none }
def FnExactStateNewWrongFalsely : Prop := fnExactStateNewRow.holds Tryz.pinned (OpenSpec.ofChange fnExactStateNewWrong)

/-- 'laws.FnExactHouseNew': WHATEVER THE INPUT: true; the input reads as it did. -/
def fnExactHouseNewSpec : ChangeSpec := { name := "fnExactHouseNew", fn := fun _ => fun
  | [d] => { results := [.lit (.bool true)], args := [d] }
  | _ => none }
def fnExactHouseNewRow : OpenClaim := { program := "yteeafechjkilkaagreat", sum := "fa19fb147b62b29a49f8b6c9f0262081e1489f09019fce6643f4bd9368449752", func := "loop.example/g00658/laws.FnExactHouseNew", spec := "fnExactHouseNew", unfollowed := true, recurses := true, apart := false }
def FnExactHouseNewSaid : Prop := fnExactHouseNewRow.holds Tryz.pinned (OpenSpec.ofChange fnExactHouseNewSpec)

/-- ITS FALSE NEIGHBOUR: 'it returns false'. Refute it at one input. -/
def fnExactHouseNewWrong : ChangeSpec := { name := "fnExactHouseNew", fn := fun _ => fun
  | [d] => { results := [.lit (.bool false)], args := [d] }
  | _ => none }
def FnExactHouseNewWrongFalsely : Prop := fnExactHouseNewRow.holds Tryz.pinned (OpenSpec.ofChange fnExactHouseNewWrong)

/-- 'laws.FnExactStateRight': WHATEVER THE INPUT: true; the input reads as it did. -/
def fnExactStateRightSpec : ChangeSpec := { name := "fnExactStateRight", fn := fun _ => fun
  | [d] => { results := [.lit (.bool true)], args := [d] }
  | _ => none }
def fnExactStateRightRow : OpenClaim := { program := "yteeafechjkilkaagreat", sum := "fa19fb147b62b29a49f8b6c9f0262081e1489f09019fce6643f4bd9368449752", func := "loop.example/g00658/laws.FnExactStateRight", spec := "fnExactStateRight", inPlace := ["internal/bytealg.abigen_runtime_cmpstring"], unfollowed := true, recurses := true, apart := false }
def FnExactStateRightSaid : Prop := fnExactStateRightRow.holds Tryz.pinned (OpenSpec.ofChange fnExactStateRightSpec)

/-- ITS FALSE NEIGHBOUR: 'it returns false'. Refute it at one input. -/
def fnExactStateRightWrong : ChangeSpec := { name := "fnExactStateRight", fn := fun _ => fun
  | [d] => { results := [.lit (.bool false)], args := [d] }
  | _ => none }
def FnExactStateRightWrongFalsely : Prop := fnExactStateRightRow.holds Tryz.pinned (OpenSpec.ofChange fnExactStateRightWrong)

/-- 'laws.FnExactHouseRight': WHATEVER THE INPUT: true; the input reads as it did. -/
def fnExactHouseRightSpec : ChangeSpec := { name := "fnExactHouseRight", fn := fun _ => fun
  | [d] => { results := [.lit (.bool true)], args := [d] }
  | _ => none }
def fnExactHouseRightRow : OpenClaim := { program := "yteeafechjkilkaagreat", sum := "fa19fb147b62b29a49f8b6c9f0262081e1489f09019fce6643f4bd9368449752", func := "loop.example/g00658/laws.FnExactHouseRight", spec := "fnExactHouseRight", inPlace := ["internal/bytealg.abigen_runtime_cmpstring"], unfollowed := true, recurses := true, apart := false }
def FnExactHouseRightSaid : Prop := fnExactHouseRightRow.holds Tryz.pinned (OpenSpec.ofChange fnExactHouseRightSpec)

/-- ITS FALSE NEIGHBOUR: 'it returns false'. Refute it at one input. -/
def fnExactHouseRightWrong : ChangeSpec := { name := "fnExactHouseRight", fn := fun _ => fun
  | [d] => { results := [.lit (.bool false)], args := [d] }
  | _ => none }
def FnExactHouseRightWrongFalsely : Prop := fnExactHouseRightRow.holds Tryz.pinned (OpenSpec.ofChange fnExactHouseRightWrong)

/-- 'laws.FnExactPartOf': WHATEVER THE INPUT: true; the input reads as it did. -/
def fnExactPartOfSpec : ChangeSpec := { name := "fnExactPartOf", fn := fun _ => fun
  | [d1, d2] => { results := [.lit (.bool true)], args := [d1, d2] }
  | _ => none }
def fnExactPartOfRow : OpenClaim := { program := "yteeafechjkilkaagreat", sum := "fa19fb147b62b29a49f8b6c9f0262081e1489f09019fce6643f4bd9368449752", func := "loop.example/g00658/laws.FnExactPartOf", spec := "fnExactPartOf", inPlace := ["internal/bytealg.abigen_runtime_cmpstring"], unfollowed := true, recurses := true, apart := false }
def FnExactPartOfSaid : Prop := fnExactPartOfRow.holds Tryz.pinned (OpenSpec.ofChange fnExactPartOfSpec)

/-- ITS FALSE NEIGHBOUR: 'it returns false'. Refute it at one input. -/
def fnExactPartOfWrong : ChangeSpec := { name := "fnExactPartOf", fn := fun _ => fun
  | [d1, d2] => { results := [.lit (.bool false)], args := [d1, d2] }
  | _ => none }
def FnExactPartOfWrongFalsely : Prop := fnExactPartOfRow.holds Tryz.pinned (OpenSpec.ofChange fnExactPartOfWrong)

/- THE SECOND FORM. 'bulk': how many values and letters a reading holds, each counted each time it is reached (what is shared counts as often as it is met; a slice's spare places count too). A statement '..UptoSaid' is the law's where the arguments, and the package variables that the reading takes, are together of bulk at most 1048576: NARROWER than '..Said'. Prove '..Said' where nothing that the law and all that it calls make is longer than what came in: it says more and counts as full. Else prove '..UptoSaid'. A law counts once. -/
mutual
def uptoBulk {H : Type} : DataW H → Nat
  | .lit (.string bytes) => bytes.length + 1
  | .lit _ => 1
  | .nil => 1
  | .ptr d => uptoBulk d + 1
  | .slice elems spare => uptoBulkAll elems + uptoBulkAll spare + 1
  | .agg parts => uptoBulkAll parts + 1
  | .iface _ d => uptoBulk d + 1
  | .map entries => uptoBulkEntries entries + 1
  | .held _ => 1
def uptoBulkAll {H : Type} : List (DataW H) → Nat
  | [] => 0
  | d :: r => uptoBulk d + uptoBulkAll r
def uptoBulkEntries {H : Type} : List (Lit × DataW H) → Nat
  | [] => 0
  | x :: r => uptoBulkEntry x + uptoBulkEntries r
def uptoBulkEntry {H : Type} : Lit × DataW H → Nat
  | (.string bytes, d) => bytes.length + uptoBulk d + 1
  | (_, d) => uptoBulk d + 1
 end
def uptoSmall : (H : Type) → List (DataW H) → Bool := fun _ ds => decide (uptoBulkAll ds ≤ 1048576)
def OpenSpec.upto (s : _root_.Go.ChangeSpec) : _root_.Go.OpenSpec := { _root_.Go.OpenSpec.ofChange s with cond := some uptoSmall }

/-- 'laws.FnExactMailSend', WHERE WHAT IT READS IS OF BULK AT MOST 1048576: true; the input reads as it did. -/
def fnExactMailSendUptoRow : OpenClaim := { program := "yteeafechjkilkaagreat", sum := "fa19fb147b62b29a49f8b6c9f0262081e1489f09019fce6643f4bd9368449752", func := "loop.example/g00658/laws.FnExactMailSend", spec := "fnExactMailSend", unfollowed := true, recurses := true, apart := false, narrowed := true }
def FnExactMailSendUptoSaid : Prop := fnExactMailSendUptoRow.holds Tryz.pinned (OpenSpec.upto fnExactMailSendSpec)

/-- 'laws.FnExactStateNew', WHERE WHAT IT READS IS OF BULK AT MOST 1048576: true; the input reads as it did. -/
def fnExactStateNewUptoRow : OpenClaim := { program := "yteeafechjkilkaagreat", sum := "fa19fb147b62b29a49f8b6c9f0262081e1489f09019fce6643f4bd9368449752", func := "loop.example/g00658/laws.FnExactStateNew", spec := "fnExactStateNew", unfollowed := true, recurses := true, apart := false, narrowed := true }
def FnExactStateNewUptoSaid : Prop := fnExactStateNewUptoRow.holds Tryz.pinned (OpenSpec.upto fnExactStateNewSpec)

/-- 'laws.FnExactHouseNew', WHERE WHAT IT READS IS OF BULK AT MOST 1048576: true; the input reads as it did. -/
def fnExactHouseNewUptoRow : OpenClaim := { program := "yteeafechjkilkaagreat", sum := "fa19fb147b62b29a49f8b6c9f0262081e1489f09019fce6643f4bd9368449752", func := "loop.example/g00658/laws.FnExactHouseNew", spec := "fnExactHouseNew", unfollowed := true, recurses := true, apart := false, narrowed := true }
def FnExactHouseNewUptoSaid : Prop := fnExactHouseNewUptoRow.holds Tryz.pinned (OpenSpec.upto fnExactHouseNewSpec)

/-- 'laws.FnExactStateRight', WHERE WHAT IT READS IS OF BULK AT MOST 1048576: true; the input reads as it did. -/
def fnExactStateRightUptoRow : OpenClaim := { program := "yteeafechjkilkaagreat", sum := "fa19fb147b62b29a49f8b6c9f0262081e1489f09019fce6643f4bd9368449752", func := "loop.example/g00658/laws.FnExactStateRight", spec := "fnExactStateRight", inPlace := ["internal/bytealg.abigen_runtime_cmpstring"], unfollowed := true, recurses := true, apart := false, narrowed := true }
def FnExactStateRightUptoSaid : Prop := fnExactStateRightUptoRow.holds Tryz.pinned (OpenSpec.upto fnExactStateRightSpec)

/-- 'laws.FnExactHouseRight', WHERE WHAT IT READS IS OF BULK AT MOST 1048576: true; the input reads as it did. -/
def fnExactHouseRightUptoRow : OpenClaim := { program := "yteeafechjkilkaagreat", sum := "fa19fb147b62b29a49f8b6c9f0262081e1489f09019fce6643f4bd9368449752", func := "loop.example/g00658/laws.FnExactHouseRight", spec := "fnExactHouseRight", inPlace := ["internal/bytealg.abigen_runtime_cmpstring"], unfollowed := true, recurses := true, apart := false, narrowed := true }
def FnExactHouseRightUptoSaid : Prop := fnExactHouseRightUptoRow.holds Tryz.pinned (OpenSpec.upto fnExactHouseRightSpec)

/-- 'laws.FnExactPartOf', WHERE WHAT IT READS IS OF BULK AT MOST 1048576: true; the input reads as it did. -/
def fnExactPartOfUptoRow : OpenClaim := { program := "yteeafechjkilkaagreat", sum := "fa19fb147b62b29a49f8b6c9f0262081e1489f09019fce6643f4bd9368449752", func := "loop.example/g00658/laws.FnExactPartOf", spec := "fnExactPartOf", inPlace := ["internal/bytealg.abigen_runtime_cmpstring"], unfollowed := true, recurses := true, apart := false, narrowed := true }
def FnExactPartOfUptoSaid : Prop := fnExactPartOfUptoRow.holds Tryz.pinned (OpenSpec.upto fnExactPartOfSpec)

end Rows
end Go.Proofs.YteeafechjkilkaaGreat
