/-
  Labels, pairs, quotas, notes, numbers: what the statements do with lists of them: the walks. Printed by hgen.py.
-/
import Derived.Test.YtpkoeeafepgphaaDb
set_option linter.unusedSimpArgs false
set_option linter.unusedVariables false
namespace Go.Proofs.Ytpkoeeafepgphaa
open Go.RowKit M

namespace M
abbrev Lab := Int × Int
def encLab (a : Lab) : List Value := [.int .i64 a.1, .int .i64 a.2]
def tyLab : Ty Lab := Ty.flat 2 encLab (fun _ => rfl) (fun a u hu => by simp only [encLab, List.mem_cons, List.not_mem_nil, or_false] at hu; rcases hu with rfl | rfl <;> rfl)
def mkLab : Mark Lab := ⟨fun _ => 2, fun k _ => ((k : Int), ((k + 1 : Nat) : Int))⟩
abbrev Pr := Lab × Lab × Int
def encPr (a : Pr) : List Value := [.int .i64 a.1.1, .int .i64 a.1.2, .int .i64 a.2.1.1, .int .i64 a.2.1.2, .int .i64 a.2.2]
def tyPr : Ty Pr := Ty.flat 5 encPr (fun _ => rfl) (fun a u hu => by simp only [encPr, List.mem_cons, List.not_mem_nil, or_false] at hu; rcases hu with rfl | rfl | rfl | rfl | rfl <;> rfl)
def mkPr : Mark Pr := ⟨fun _ => 5, fun k _ => (((k : Int), ((k + 1 : Nat) : Int)), (((k + 2 : Nat) : Int), ((k + 3 : Nat) : Int)), ((k + 4 : Nat) : Int))⟩
abbrev Qt := Lab × Int
def encQt (a : Qt) : List Value := [.int .i64 a.1.1, .int .i64 a.1.2, .int .i64 a.2]
def tyQt : Ty Qt := Ty.flat 3 encQt (fun _ => rfl) (fun a u hu => by simp only [encQt, List.mem_cons, List.not_mem_nil, or_false] at hu; rcases hu with rfl | rfl | rfl <;> rfl)
def mkQt : Mark Qt := ⟨fun _ => 3, fun k _ => (((k : Int), ((k + 1 : Nat) : Int)), ((k + 2 : Nat) : Int))⟩
abbrev Nt := Int × Int
def encNt (a : Nt) : List Value := [.int .i64 a.1, .int .i64 a.2]
def tyNt : Ty Nt := Ty.flat 2 encNt (fun _ => rfl) (fun a u hu => by simp only [encNt, List.mem_cons, List.not_mem_nil, or_false] at hu; rcases hu with rfl | rfl <;> rfl)
def mkNt : Mark Nt := ⟨fun _ => 2, fun k _ => ((k : Int), ((k + 1 : Nat) : Int))⟩
def encNum (a : Int) : List Value := [.int .i64 a]
def tyNum : Ty Int := Ty.flat 1 encNum (fun _ => rfl) (fun a u hu => by obtain rfl := List.mem_singleton.1 hu; rfl)
def mkNum : Mark Int := ⟨fun _ => 1, fun k _ => (k : Int)⟩
end M
end Go.Proofs.Ytpkoeeafepgphaa
