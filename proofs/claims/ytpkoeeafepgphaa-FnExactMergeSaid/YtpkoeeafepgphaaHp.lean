/-
  Spans, uses: what the statements do with lists of them: the walks. Printed by kgen.py.
-/
import Derived.Test.YtpkoeeafepgphaaHa
import Derived.Test.YtpkoeeafepgphaaC1
set_option linter.unusedSimpArgs false
set_option linter.unusedVariables false
namespace Go.Proofs.Ytpkoeeafepgphaa
open Go.RowKit M
namespace M
abbrev Sp := Int × Int
def encSp (a : Sp) : List Value := [.int .i64 a.1, .int .i64 a.2]
def tySp : Ty Sp := Ty.flat 2 encSp (fun _ => rfl) (fun a u hu => by simp only [encSp, List.mem_cons, List.not_mem_nil, or_false] at hu; rcases hu with rfl | rfl <;> rfl)
def mkSp : Mark Sp := ⟨fun _ => 2, fun k _ => ((k : Int), ((k + 1 : Nat) : Int))⟩
abbrev Us := Lab × ByteArray × Int
def encUs (a : Us) : List Value := [.int .i64 a.1.1, .int .i64 a.1.2, .string a.2.1, .int .i64 a.2.2]
def tyUs : Ty Us := Ty.flat 4 encUs (fun _ => rfl) (fun a u hu => by simp only [encUs, List.mem_cons, List.not_mem_nil, or_false] at hu; rcases hu with rfl | rfl | rfl | rfl <;> rfl)
def mkUs : Mark Us := ⟨fun _ => 4, fun k _ => (((k : Int), ((k + 1 : Nat) : Int)), bs (mtext (k + 2)), ((k + 3 : Nat) : Int))⟩
def ssUs (a : Us) : Nat := a.2.1.size
def okUs (a : Us) : Prop := a.2.1.size ≤ 9223372036854775807
def mzUs : Mark Us := ⟨fun a => ssUs a, fun _ a => a⟩
def szUsl (l : List Us) : Nat := l.length + mzUs.cntl l
end M
end Go.Proofs.Ytpkoeeafepgphaa
