import Derived.Test.YtmammjpfmfblbaaC1
import Derived.Deep.AppendLies
set_option linter.unusedSimpArgs false
set_option linter.unusedVariables false
namespace Go.Proofs.Ytmammjpfmfblbaa
open Go.RowKit M

theorem info_Region : (Try.prog.info? 68).map (fun i => (i.zero, i.size, i.bytes)) = some (some (.agg #[.string ⟨#[]⟩, .string ⟨#[]⟩, .string ⟨#[]⟩]), 3, 48) := by kernel_rfl

/-- a new disk: its regions lie in memory that the call made -/
def NewDisk (w : World) (e : Ending) (w' : World) (rs : List Reg) (p : Int) : Prop :=
  ∃ A cap, e = .returned (.agg #[.slice A rs.length cap, .int .i64 p]) ∧ w'.ownsRow w.heap.size 68 3 (.slice A rs.length cap) rs.length (flat encReg rs) ∧ Below w.heap.size w w'

def noReg : Reg := (⟨#[]⟩, ⟨#[]⟩, ⟨#[]⟩)
theorem made_regs (n : Nat) : (madeCells #[.string ⟨#[]⟩, .string ⟨#[]⟩, .string ⟨#[]⟩] (n * 3)).toList = flat encReg (List.replicate n noReg) := by
  apply List.ext_getElem?
  intro j
  by_cases hj : j < n * 3
  · have h2 := flat_get encReg_len (List.replicate n noReg) (j / 3) (j % 3) noReg (by rw [List.getElem?_replicate, if_pos (by omega)]) (by omega)
    rw [show j / 3 * 3 + j % 3 = j by omega] at h2
    rw [h2]
    have h3 : j % 3 < 3 := by omega
    simp only [madeCells, Array.getElem?_toList, Array.getElem?_map, Array.getElem?_range, hj, if_pos, Option.map_some]
    rw [show (#[Value.string ⟨#[]⟩, Value.string ⟨#[]⟩, Value.string ⟨#[]⟩] : Array Value).size = 3 from rfl]
    generalize j % 3 = m at h3
    match m, h3 with
    | 0, _ => rfl
    | 1, _ => rfl
    | 2, _ => rfl
  · rw [List.getElem?_eq_none (by rw [Array.length_toList, size_madeCells]; omega), List.getElem?_eq_none (by rw [flat_length encReg_len]; simp; omega)]

def diskNewRs (n : Int) : List Reg := if 1 ≤ n ∧ n ≤ 13 then List.replicate n.toNat noReg else []
def diskNewP (n : Int) : Int := if 1 ≤ n ∧ n ≤ 13 then -1 else 0

end Go.Proofs.Ytmammjpfmfblbaa
