/-
  Labels, pairs, quotas, notes, numbers: lists of them marked, and the marks read: the walks. Printed by hgen.py.
-/
import Derived.Test.YtpkoeeafepgphaaHa
set_option linter.unusedSimpArgs false
set_option linter.unusedVariables false
namespace Go.Proofs.Ytpkoeeafepgphaa
open Go.RowKit M
end Go.Proofs.Ytpkoeeafepgphaa
