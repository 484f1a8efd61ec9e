import Derived.Test.YtnehiflandjkoaaB10
set_option linter.unusedSimpArgs false
set_option linter.unusedVariables false
namespace Go.Proofs.Ytnehiflandjkoaa
open Go.RowKit M

end Go.Proofs.Ytnehiflandjkoaa
