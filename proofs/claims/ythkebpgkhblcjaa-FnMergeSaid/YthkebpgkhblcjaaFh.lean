/-
  Frames: what the statements do with lists of them: the walks. Printed by kgen.py.
-/
import Derived.Test.YthkebpgkhblcjaaJ1
import Derived.Test.YthkebpgkhblcjaaJ2
set_option linter.unusedSimpArgs false
set_option linter.unusedVariables false
namespace Go.Proofs.Ythkebpgkhblcjaa
open Go.RowKit M
namespace M
abbrev Fm := Int × ByteArray
def encFm (a : Fm) : List Value := [.int .i64 a.1, .string a.2]
def tyFm : Ty Fm := Ty.flat 2 encFm (fun _ => rfl) (fun a u hu => by simp only [encFm, List.mem_cons, List.not_mem_nil, or_false] at hu; rcases hu with rfl | rfl <;> rfl)
def mkFm : Mark Fm := ⟨fun _ => 2, fun k _ => ((k : Int), bs (mtext (k + 1)))⟩
def ssFm (a : Fm) : Nat := a.2.size
def okFm (a : Fm) : Prop := a.2.size ≤ 9223372036854775807
def mzFm : Mark Fm := ⟨fun a => ssFm a, fun _ a => a⟩
def szFml (l : List Fm) : Nat := l.length + mzFm.cntl l
def mzFmS : Mark (List Fm) := ⟨fun x => szFml x, fun _ x => x⟩
def szFmll (l : List (List Fm)) : Nat := l.length + mzFmS.cntl l
theorem encFm_len (a : Fm) : (encFm a).length = 2 := rfl
theorem encFm_one (a : Fm) : ∀ u ∈ encFm a, u.oneCell' = true := fun u hu => by simp only [encFm, List.mem_cons, List.not_mem_nil, or_false] at hu; rcases hu with rfl | rfl <;> rfl
end M
namespace Fz
end Fz
end Go.Proofs.Ythkebpgkhblcjaa
