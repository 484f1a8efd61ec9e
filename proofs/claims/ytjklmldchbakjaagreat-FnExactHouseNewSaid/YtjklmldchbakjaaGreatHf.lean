/-
  Mail and its answers: what the statements do with them: the walks.
-/
import Derived.Test.YtjklmldchbakjaaGreatHe
set_option linter.unusedSimpArgs false
set_option linter.unusedVariables false
namespace Go.Proofs.YtjklmldchbakjaaGreat
open Go.RowKit M
namespace M
abbrev MO := List Bo × Int
def mkMO : Mark MO := mkBo.list.pair mkKeep
end M
/-- the result of a struct of one slice -/
def tOne {α : Type} (T : Ty α) (a : α) : Value → List Hl → Prop := fun v M => ∃ u N, v = .agg #[u] ∧ T.own [u] a N ∧ M = [Hl.all N]
set_option maxRecDepth 100000 in
set_option maxHeartbeats 4000000 in
theorem eqMail_l (v u : Value) (l : List Bo) (w : World) (ha : (Ty.sl 167 tyBo).rd w [v] l) (hb : (Ty.sl 167 tyBo).rd w [u] l) : Gives Tryz.prog 59 #[.agg #[v], .agg #[u]] w (.bool true) := by
  have c1 := fun w1 hb' => eqBoxS_l v u l w1 (Ty.below _ ha hb') (Ty.below _ hb hb')
  clear ha hb
  have H := Hs.start noRow w
  unfold Gives
  go_enter Tryz.func59, Tryz.ntmps59
  go_wp2_with (first | ((first | ((with_reducible apply st_load1 H); decide +kernel; rfl; exact cF) | ((with_reducible apply st_loads H); decide +kernel; rfl; exact iF; exact zF; rfl)); clear H; intro wn H; (try simp only [splice, yG, yH, yI, yJ, yK, yL, yM, yN, yO, yP, yQ, Nat.reduceAdd, yA, yB, yC] at H); simp only [Act.put, yA, yB, yC, yD, yE, yF]) | ((first | ((with_reducible apply st_box (dst := some 2) H); exact nF; intro b2) | ((with_reducible apply st_box (dst := some 3) H); exact nF; intro b3) | ((with_reducible apply st_loadat H); decide +kernel; rfl; exact aF; exact zF; rfl)); clear H; intro wn H; simp only [Act.put, yA, yB, yC, yD, yE, yF]) | ((first | (go_at_call 89; refine gvF (c1 _ H.below) H ?_)); clear H; intro wn H) | fail)
  go_ret
  exact ⟨rfl, H.below⟩
end Go.Proofs.YtjklmldchbakjaaGreat
