/-
  Spans, uses: lists of them marked, and the marks read: the walks. Printed by kgen.py.
-/
import Derived.Test.YtpkoeeafepgphaaHp
set_option linter.unusedSimpArgs false
set_option linter.unusedVariables false
namespace Go.Proofs.Ytpkoeeafepgphaa
open Go.RowKit M
namespace M
/-- cells stored one after the other -/
def splS : List Value → Nat → List Value → List Value
  | xs, _, [] => xs
  | xs, off, v :: vs => splS (spl xs off [v]) (off + 1) vs
theorem splS_at : ∀ {vs us pre ys : List Value} {p : Nat}, pre.length = p → vs.length ≤ us.length → splS (pre ++ (us ++ ys)) p vs = pre ++ ((vs ++ us.drop vs.length) ++ ys)
  | [], us, pre, ys, p, _, _ => by simp [splS]
  | v :: vs, [], pre, ys, p, _, h => by simp at h
  | v :: vs, u :: us, pre, ys, p, hp, h => by
    have h1 := spl_one pre ys u (u :: us) v hp (j := 0) (by simp)
    rw [Nat.add_zero] at h1
    show splS (spl (pre ++ (u :: us ++ ys)) p [v]) (p + 1) vs = _
    rw [h1]
    have h2 := splS_at (vs := vs) (us := us) (pre := pre ++ [v]) (ys := ys) (p := p + 1) (by rw [List.length_append, hp]; rfl) (by simpa using h)
    have e : pre ++ ((u :: us).set 0 v ++ ys) = (pre ++ [v]) ++ (us ++ ys) := by simp
    rw [e, h2]
    simp
end M
theorem markText_at (n : Int) (k : Nat) (h : n = k) (hk : k < 9223372036854775807) (w : World) : Gives Try.prog 26 #[.int .i64 n] w (.string (bs (mtext k))) := by
  subst h
  exact markText_l k hk w
end Go.Proofs.Ytpkoeeafepgphaa
