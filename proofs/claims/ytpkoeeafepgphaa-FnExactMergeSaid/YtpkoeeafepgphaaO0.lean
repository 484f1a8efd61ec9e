import Derived.Test.YtpkoeeafepgphaaG1
set_option linter.unusedSimpArgs false
set_option linter.unusedVariables false
namespace Go.Proofs.Ytpkoeeafepgphaa
namespace M
/-! ### names, labels, kinds -/
def small (b : UInt8) : Bool := decide (97 ≤ b.toNat) && decide (b.toNat ≤ 122)
def inName (b : UInt8) : Bool := small b || (decide (48 ≤ b.toNat) && decide (b.toNat ≤ 57)) || decide (b.toNat = 95)
def nameOk (t : Bs) : Bool := decide (1 ≤ t.length) && decide (t.length ≤ 20) && small (t[0]?.getD 0) && t.all inName
def isIn (n lo hi : Int) : Bool := decide (lo ≤ n) && decide (n ≤ hi)
def labelOk (a b : Int) : Bool := isIn a 0 3 && isIn b 0 7
def many (k : Int) : Int := if k = 1 ∨ k = 6 then 4 else if k = 14 then 3 else if k = 13 ∨ k = 15 ∨ k = 16 then 2 else if k = 2 ∨ k = 3 ∨ k = 4 ∨ k = 5 ∨ k = 7 then 1 else 0
end M
open Go.RowKit M

end Go.Proofs.Ytpkoeeafepgphaa
