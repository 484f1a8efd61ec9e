import Derived.Test.YtmammjpfmfblbaaC6
set_option linter.unusedSimpArgs false
set_option linter.unusedVariables false
namespace Go.Proofs.Ytmammjpfmfblbaa
open Go.RowKit M

namespace M
def wipeRs (rs : List Reg) (p r : Int) : List Reg := if stage rs p r = 0 then setLog rs r.toNat ⟨#[]⟩ else illRs rs (stage rs p r)
def doneP (rs : List Reg) (p r : Int) : Int := if stage rs p r = 0 then p else illP p (stage rs p r)
end M

end Go.Proofs.Ytmammjpfmfblbaa
