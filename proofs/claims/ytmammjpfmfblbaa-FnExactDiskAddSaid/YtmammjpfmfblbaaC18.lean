import Derived.Test.YtmammjpfmfblbaaC16
import Derived.Test.YtmammjpfmfblbaaC17
set_option linter.unusedSimpArgs false
set_option linter.unusedVariables false
namespace Go.Proofs.Ytmammjpfmfblbaa
open Go.RowKit M
theorem ill_len13 (rs : List Reg) (p r : Int) : (illRs rs (stage rs p r)).length ≤ 13 := by
  by_cases h : diskOk rs p = true
  · have := (diskOk_len' h).2
    unfold illRs
    split <;> simp; omega
  · have h' : diskOk rs p = false := by simpa using h
    unfold illRs
    rw [stage_bad h']
    simp
theorem slotOut_len (rs : List Reg) (p r : Int) (odd : Bool) (fb : Bs) : (slotOut rs p r odd fb).1.length ≤ 13 := by
  unfold slotOut
  by_cases h : stage rs p r = 0
  · rw [if_neg (by simpa using h)]
    have hl := (diskOk_len' (stage_zero h).1).2
    split
    · simp
    · rw [setSlot_len]; exact hl
  · rw [if_pos h]; exact ill_len13 rs p r
theorem addOut_len (rs : List Reg) (p r : Int) (fb : Bs) : (addOut rs p r fb).1.length ≤ 13 := by
  unfold addOut
  by_cases h : stage rs p r = 0
  · rw [if_neg (by simpa using h)]
    have hl := (diskOk_len' (stage_zero h).1).2
    split
    · simp
    · split
      · simp
      · rw [setLog_len]; exact hl
  · rw [if_pos h]; exact ill_len13 rs p r
theorem law_DiskSlot (v : Value) (rs : List Reg) (p r : Int) (odd : Bool) (q : Int) (t : ByteArray) (ht : t.size ≤ maxLen) (w : World) (hr : Rd w 3 v rs.length (flat encReg rs)) (ho : okSizes rs) :
    Gives Try.prog 5 #[.agg #[v, .int .i64 p], .int .i64 r, .bool odd, .agg #[.int .i64 q, .string t]] w (.bool true) :=
  law_DiskSlot_of v rs _ p r _ _ odd q t w hr ho ht (by have := slotOut_len rs p r odd (frameBytes q t.data.toList); omega) (fun v w hr => slot_i rs v p r odd q t w hr) (fun v w hr => slot_s rs v p r odd q t w hr)
theorem law_DiskAdd (v : Value) (rs : List Reg) (p r : Int) (q : Int) (t : ByteArray) (ht : t.size ≤ maxLen) (w : World) (hr : Rd w 3 v rs.length (flat encReg rs)) (ho : okSizes rs) :
    Gives Try.prog 6 #[.agg #[v, .int .i64 p], .int .i64 r, .agg #[.int .i64 q, .string t]] w (.bool true) :=
  law_DiskAdd_of v rs _ p r _ _ q t w hr ho ht (by have := addOut_len rs p r (frameBytes q t.data.toList); omega) (fun v w hr => add_i rs v p r q t w hr) (fun v w hr => add_s rs v p r q t w hr)
end Go.Proofs.Ytmammjpfmfblbaa
