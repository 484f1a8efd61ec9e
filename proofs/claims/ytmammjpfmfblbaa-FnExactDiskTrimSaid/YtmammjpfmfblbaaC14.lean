import Derived.Test.YtmammjpfmfblbaaC12
import Derived.Test.YtmammjpfmfblbaaC13
namespace Go.Proofs.Ytmammjpfmfblbaa
open Go.RowKit M
theorem trim_len13 (rs : List Reg) (p r : Int) : (trimRs rs p r).length ≤ 13 := by
  by_cases h : diskOk rs p = true
  · have := (diskOk_len' h).2
    unfold trimRs illRs
    split
    · rw [setLog_len]; exact this
    · split <;> simp; omega
  · have h' : diskOk rs p = false := by simpa using h
    unfold trimRs illRs
    rw [stage_bad h']
    simp
theorem law_DiskTrim (v : Value) (rs : List Reg) (p r : Int) (w : World) (hr : Rd w 3 v rs.length (flat encReg rs)) (ho : okSizes rs) : Gives Try.prog 4 #[.agg #[v, .int .i64 p], .int .i64 r] w (.bool true) :=
  law_DiskTrim_of v rs _ p r _ _ w hr ho (by have := trim_len13 rs p r; omega) (fun v w hr => trim_i rs v p r w hr) (fun v w hr => trim_s rs v p r w hr)
end Go.Proofs.Ytmammjpfmfblbaa
