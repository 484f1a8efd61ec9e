/-
  No cell of these rows narrows 'for every input' (looked for: loops, veiled, ifaces, maps, wideKeys, modest, calm, conditions, laid).
  DERIVED. THE GIVEN ROWS OF THIS SEAT. 6 by the template 'for every input the law returns true; each argument reads behind the call as it read before'; 0 by the template 'total and deterministic' (their statements: YtmammjpfmfblbaaTotals.lean).
  GIVEN WITH THE SEED: the statements are not yours to turn. If you find one false, say at which input.
  Laid BY PROGRAM, IN A SANDBOX (cutbox-rows.mjs): the forced cells as the released guide's own fill.sh prints them over the translation a5d7d8d7e78b4ac6… (all of the seat's roots in one cut). By AI agents, Wed Nov 11 2026. No macro, syntax, notation, axiom, sorry.
-/
import Derived.Test.YtmammjpfmfblbaaChecked
import GoSem.Claim
import GoSem.ClaimJoined
import GoSem.ClaimMapViews
import Derived.JoinedTies
import Derived.KernelRfl
namespace Go.Proofs.Ytmammjpfmfblbaa
/- THE CELL 'sum', in the pinned program and in every row, IS THE sha256 OF THE DUMP (.gsa) THAT YtmammjpfmfblbaaProg.lean LOADS. Nothing in Lean hashes anything: it is a label: what it is worth is what the hold of that sum in a sandbox is worth. -/
noncomputable def Try.pinned : Pinned := { name := "ytmammjpfmfblbaa", sum := "a5d7d8d7e78b4ac68286dc84a1bf0e713e1d9dfcfab7cfcbb814babe357c14a3", checked := Try.checked }
namespace Rows
def none {H : Type} : Left H := { results := [], args := [] }

/-- 'laws.FnExactLogRead': WHATEVER THE INPUT: true; the input reads as it did. -/
def fnExactLogReadSpec : ChangeSpec := { name := "fnExactLogRead", fn := fun _ => fun
  | [d] => { results := [.lit (.bool true)], args := [d] }
  | _ => none }
def fnExactLogReadRow : OpenClaim := { program := "ytmammjpfmfblbaa", sum := "a5d7d8d7e78b4ac68286dc84a1bf0e713e1d9dfcfab7cfcbb814babe357c14a3", func := "loop.example/g00658/laws.FnExactLogRead", spec := "fnExactLogRead", apart := false }
def FnExactLogReadSaid : Prop := fnExactLogReadRow.holds Try.pinned (OpenSpec.ofChange fnExactLogReadSpec)

/-- ITS FALSE NEIGHBOUR: 'it returns false'. Refute it at one input. -/
def fnExactLogReadWrong : ChangeSpec := { name := "fnExactLogRead", fn := fun _ => fun
  | [d] => { results := [.lit (.bool false)], args := [d] }
  | _ => none }
def FnExactLogReadWrongFalsely : Prop := fnExactLogReadRow.holds Try.pinned (OpenSpec.ofChange fnExactLogReadWrong)

/-- 'laws.FnExactDiskTrim': WHATEVER THE INPUT: true; the input reads as it did. -/
def fnExactDiskTrimSpec : ChangeSpec := { name := "fnExactDiskTrim", fn := fun _ => fun
  | [d1, d2] => { results := [.lit (.bool true)], args := [d1, d2] }
  | _ => none }
def fnExactDiskTrimRow : OpenClaim := { program := "ytmammjpfmfblbaa", sum := "a5d7d8d7e78b4ac68286dc84a1bf0e713e1d9dfcfab7cfcbb814babe357c14a3", func := "loop.example/g00658/laws.FnExactDiskTrim", spec := "fnExactDiskTrim", unfollowed := true, recurses := true, apart := false }
def FnExactDiskTrimSaid : Prop := fnExactDiskTrimRow.holds Try.pinned (OpenSpec.ofChange fnExactDiskTrimSpec)

/-- ITS FALSE NEIGHBOUR: 'it returns false'. Refute it at one input. -/
def fnExactDiskTrimWrong : ChangeSpec := { name := "fnExactDiskTrim", fn := fun _ => fun
  | [d1, d2] => { results := [.lit (.bool false)], args := [d1, d2] }
  | _ => none }
def FnExactDiskTrimWrongFalsely : Prop := fnExactDiskTrimRow.holds Try.pinned (OpenSpec.ofChange fnExactDiskTrimWrong)

/-- 'laws.FnExactDiskSlot': WHATEVER THE INPUT: true; the input reads as it did. -/
def fnExactDiskSlotSpec : ChangeSpec := { name := "fnExactDiskSlot", fn := fun _ => fun
  | [d1, d2, d3, d4] => { results := [.lit (.bool true)], args := [d1, d2, d3, d4] }
  | _ => none }
def fnExactDiskSlotRow : OpenClaim := { program := "ytmammjpfmfblbaa", sum := "a5d7d8d7e78b4ac68286dc84a1bf0e713e1d9dfcfab7cfcbb814babe357c14a3", func := "loop.example/g00658/laws.FnExactDiskSlot", spec := "fnExactDiskSlot", unfollowed := true, recurses := true, apart := false }
def FnExactDiskSlotSaid : Prop := fnExactDiskSlotRow.holds Try.pinned (OpenSpec.ofChange fnExactDiskSlotSpec)

/-- ITS FALSE NEIGHBOUR: 'it returns false'. Refute it at one input. -/
def fnExactDiskSlotWrong : ChangeSpec := { name := "fnExactDiskSlot", fn := fun _ => fun
  | [d1, d2, d3, d4] => { results := [.lit (.bool false)], args := [d1, d2, d3, d4] }
  | _ => none }
def FnExactDiskSlotWrongFalsely : Prop := fnExactDiskSlotRow.holds Try.pinned (OpenSpec.ofChange fnExactDiskSlotWrong)

/-- 'laws.FnExactDiskAdd': WHATEVER THE INPUT: true; the input reads as it did. -/
def fnExactDiskAddSpec : ChangeSpec := { name := "fnExactDiskAdd", fn := fun _ => fun
  | [d1, d2, d3] => { results := [.lit (.bool true)], args := [d1, d2, d3] }
  | _ => none }
def fnExactDiskAddRow : OpenClaim := { program := "ytmammjpfmfblbaa", sum := "a5d7d8d7e78b4ac68286dc84a1bf0e713e1d9dfcfab7cfcbb814babe357c14a3", func := "loop.example/g00658/laws.FnExactDiskAdd", spec := "fnExactDiskAdd", unfollowed := true, recurses := true, apart := false }
def FnExactDiskAddSaid : Prop := fnExactDiskAddRow.holds Try.pinned (OpenSpec.ofChange fnExactDiskAddSpec)

/-- ITS FALSE NEIGHBOUR: 'it returns false'. Refute it at one input. -/
def fnExactDiskAddWrong : ChangeSpec := { name := "fnExactDiskAdd", fn := fun _ => fun
  | [d1, d2, d3] => { results := [.lit (.bool false)], args := [d1, d2, d3] }
  | _ => none }
def FnExactDiskAddWrongFalsely : Prop := fnExactDiskAddRow.holds Try.pinned (OpenSpec.ofChange fnExactDiskAddWrong)

/-- 'laws.FnExactSlotOf': WHATEVER THE INPUT: true; the input reads as it did. -/
def fnExactSlotOfSpec : ChangeSpec := { name := "fnExactSlotOf", fn := fun _ => fun
  | [d1, d2, d3] => { results := [.lit (.bool true)], args := [d1, d2, d3] }
  | _ => none }
def fnExactSlotOfRow : OpenClaim := { program := "ytmammjpfmfblbaa", sum := "a5d7d8d7e78b4ac68286dc84a1bf0e713e1d9dfcfab7cfcbb814babe357c14a3", func := "loop.example/g00658/laws.FnExactSlotOf", spec := "fnExactSlotOf", unfollowed := true, recurses := true, apart := false }
def FnExactSlotOfSaid : Prop := fnExactSlotOfRow.holds Try.pinned (OpenSpec.ofChange fnExactSlotOfSpec)

/-- ITS FALSE NEIGHBOUR: 'it returns false'. Refute it at one input. -/
def fnExactSlotOfWrong : ChangeSpec := { name := "fnExactSlotOf", fn := fun _ => fun
  | [d1, d2, d3] => { results := [.lit (.bool false)], args := [d1, d2, d3] }
  | _ => none }
def FnExactSlotOfWrongFalsely : Prop := fnExactSlotOfRow.holds Try.pinned (OpenSpec.ofChange fnExactSlotOfWrong)

/-- 'laws.FnExactDiskBase': WHATEVER THE INPUT: true; the input reads as it did. -/
def fnExactDiskBaseSpec : ChangeSpec := { name := "fnExactDiskBase", fn := fun _ => fun
  | [d] => { results := [.lit (.bool true)], args := [d] }
  | _ => none }
def fnExactDiskBaseRow : OpenClaim := { program := "ytmammjpfmfblbaa", sum := "a5d7d8d7e78b4ac68286dc84a1bf0e713e1d9dfcfab7cfcbb814babe357c14a3", func := "loop.example/g00658/laws.FnExactDiskBase", spec := "fnExactDiskBase", unfollowed := true, recurses := true, apart := false }
def FnExactDiskBaseSaid : Prop := fnExactDiskBaseRow.holds Try.pinned (OpenSpec.ofChange fnExactDiskBaseSpec)

/-- ITS FALSE NEIGHBOUR: 'it returns false'. Refute it at one input. -/
def fnExactDiskBaseWrong : ChangeSpec := { name := "fnExactDiskBase", fn := fun _ => fun
  | [d] => { results := [.lit (.bool false)], args := [d] }
  | _ => none }
def FnExactDiskBaseWrongFalsely : Prop := fnExactDiskBaseRow.holds Try.pinned (OpenSpec.ofChange fnExactDiskBaseWrong)

/- THE SECOND FORM. 'bulk': how many values and letters a reading holds, each counted each time it is reached (what is shared counts as often as it is met; a slice's spare places count too). A statement '..UptoSaid' is the law's where the arguments, and the package variables that the reading takes, are together of bulk at most 1048576: NARROWER than '..Said'. Prove '..Said' where nothing that the law and all that it calls make is longer than what came in: it says more and counts as full. Else prove '..UptoSaid'. A law counts once. -/
mutual
def uptoBulk {H : Type} : DataW H → Nat
  | .lit (.string bytes) => bytes.length + 1
  | .lit _ => 1
  | .nil => 1
  | .ptr d => uptoBulk d + 1
  | .slice elems spare => uptoBulkAll elems + uptoBulkAll spare + 1
  | .agg parts => uptoBulkAll parts + 1
  | .iface _ d => uptoBulk d + 1
  | .map entries => uptoBulkEntries entries + 1
  | .held _ => 1
def uptoBulkAll {H : Type} : List (DataW H) → Nat
  | [] => 0
  | d :: r => uptoBulk d + uptoBulkAll r
def uptoBulkEntries {H : Type} : List (Lit × DataW H) → Nat
  | [] => 0
  | x :: r => uptoBulkEntry x + uptoBulkEntries r
def uptoBulkEntry {H : Type} : Lit × DataW H → Nat
  | (.string bytes, d) => bytes.length + uptoBulk d + 1
  | (_, d) => uptoBulk d + 1
 end
def uptoSmall : (H : Type) → List (DataW H) → Bool := fun _ ds => decide (uptoBulkAll ds ≤ 1048576)
def OpenSpec.upto (s : _root_.Go.ChangeSpec) : _root_.Go.OpenSpec := { _root_.Go.OpenSpec.ofChange s with cond := some uptoSmall }

/-- 'laws.FnExactLogRead', WHERE WHAT IT READS IS OF BULK AT MOST 1048576: true; the input reads as it did. -/
def fnExactLogReadUptoRow : OpenClaim := { program := "ytmammjpfmfblbaa", sum := "a5d7d8d7e78b4ac68286dc84a1bf0e713e1d9dfcfab7cfcbb814babe357c14a3", func := "loop.example/g00658/laws.FnExactLogRead", spec := "fnExactLogRead", apart := false, narrowed := true }
def FnExactLogReadUptoSaid : Prop := fnExactLogReadUptoRow.holds Try.pinned (OpenSpec.upto fnExactLogReadSpec)

/-- 'laws.FnExactDiskTrim', WHERE WHAT IT READS IS OF BULK AT MOST 1048576: true; the input reads as it did. -/
def fnExactDiskTrimUptoRow : OpenClaim := { program := "ytmammjpfmfblbaa", sum := "a5d7d8d7e78b4ac68286dc84a1bf0e713e1d9dfcfab7cfcbb814babe357c14a3", func := "loop.example/g00658/laws.FnExactDiskTrim", spec := "fnExactDiskTrim", unfollowed := true, recurses := true, apart := false, narrowed := true }
def FnExactDiskTrimUptoSaid : Prop := fnExactDiskTrimUptoRow.holds Try.pinned (OpenSpec.upto fnExactDiskTrimSpec)

/-- 'laws.FnExactDiskSlot', WHERE WHAT IT READS IS OF BULK AT MOST 1048576: true; the input reads as it did. -/
def fnExactDiskSlotUptoRow : OpenClaim := { program := "ytmammjpfmfblbaa", sum := "a5d7d8d7e78b4ac68286dc84a1bf0e713e1d9dfcfab7cfcbb814babe357c14a3", func := "loop.example/g00658/laws.FnExactDiskSlot", spec := "fnExactDiskSlot", unfollowed := true, recurses := true, apart := false, narrowed := true }
def FnExactDiskSlotUptoSaid : Prop := fnExactDiskSlotUptoRow.holds Try.pinned (OpenSpec.upto fnExactDiskSlotSpec)

/-- 'laws.FnExactDiskAdd', WHERE WHAT IT READS IS OF BULK AT MOST 1048576: true; the input reads as it did. -/
def fnExactDiskAddUptoRow : OpenClaim := { program := "ytmammjpfmfblbaa", sum := "a5d7d8d7e78b4ac68286dc84a1bf0e713e1d9dfcfab7cfcbb814babe357c14a3", func := "loop.example/g00658/laws.FnExactDiskAdd", spec := "fnExactDiskAdd", unfollowed := true, recurses := true, apart := false, narrowed := true }
def FnExactDiskAddUptoSaid : Prop := fnExactDiskAddUptoRow.holds Try.pinned (OpenSpec.upto fnExactDiskAddSpec)

/-- 'laws.FnExactSlotOf', WHERE WHAT IT READS IS OF BULK AT MOST 1048576: true; the input reads as it did. -/
def fnExactSlotOfUptoRow : OpenClaim := { program := "ytmammjpfmfblbaa", sum := "a5d7d8d7e78b4ac68286dc84a1bf0e713e1d9dfcfab7cfcbb814babe357c14a3", func := "loop.example/g00658/laws.FnExactSlotOf", spec := "fnExactSlotOf", unfollowed := true, recurses := true, apart := false, narrowed := true }
def FnExactSlotOfUptoSaid : Prop := fnExactSlotOfUptoRow.holds Try.pinned (OpenSpec.upto fnExactSlotOfSpec)

/-- 'laws.FnExactDiskBase', WHERE WHAT IT READS IS OF BULK AT MOST 1048576: true; the input reads as it did. -/
def fnExactDiskBaseUptoRow : OpenClaim := { program := "ytmammjpfmfblbaa", sum := "a5d7d8d7e78b4ac68286dc84a1bf0e713e1d9dfcfab7cfcbb814babe357c14a3", func := "loop.example/g00658/laws.FnExactDiskBase", spec := "fnExactDiskBase", unfollowed := true, recurses := true, apart := false, narrowed := true }
def FnExactDiskBaseUptoSaid : Prop := fnExactDiskBaseUptoRow.holds Try.pinned (OpenSpec.upto fnExactDiskBaseSpec)

end Rows
end Go.Proofs.Ytmammjpfmfblbaa
