/-
  Boxes, mail: what the statements do with them: the walks.
-/
import Derived.Test.YtjklmldchbakjaaGreatHc
set_option linter.unusedSimpArgs false
set_option linter.unusedVariables false
namespace Go.Proofs.YtjklmldchbakjaaGreat
open Go.RowKit M
namespace M
abbrev Bo := List Int × List Int × List Nt
def szBo (b : Bo) : Nat := b.1.length + (b.2.1.length + b.2.2.length)
def mkSz : Mark Bo := ⟨szBo, fun _ a => a⟩
def mkBo : Mark Bo := mkNum.list.pair (mkNum.list.pair mkNt.list)
def szMl (l : List Bo) : Nat := l.length + mkSz.cntl l
end M
def tyBo : Ty Bo := Ty.pair (Ty.sl 2 tyNum) (Ty.pair (Ty.sl 2 tyNum) (Ty.sl 198 tyNt))
theorem bo_form {w : World} {cs : List Value} {c : Bo} (h : tyBo.rd w cs c) : ∃ v1 v2 v3, cs = [v1, v2, v3] ∧ (Ty.sl 2 tyNum).rd w [v1] c.1 ∧ (Ty.sl 2 tyNum).rd w [v2] c.2.1 ∧ (Ty.sl 198 tyNt).rd w [v3] c.2.2 := by
  obtain ⟨x1, y1, rfl, h1, x2, y2, rfl, h2, h3⟩ := h
  obtain ⟨v1, hv1⟩ : ∃ v, x1 = [v] := by obtain ⟨v, _, rfl, _⟩ := h1; exact ⟨v, rfl⟩
  obtain ⟨v2, hv2⟩ : ∃ v, x2 = [v] := by obtain ⟨v, _, rfl, _⟩ := h2; exact ⟨v, rfl⟩
  obtain ⟨v3, hv3⟩ : ∃ v, y2 = [v] := by obtain ⟨v, _, rfl, _⟩ := h3; exact ⟨v, rfl⟩
  subst hv1 hv2 hv3
  exact ⟨v1, v2, v3, rfl, h1, h2, h3⟩
set_option maxRecDepth 100000 in
set_option maxHeartbeats 4000000 in
theorem eqBox_l (c : Bo) (cs ds : List Value) (w : World) (ha : tyBo.rd w cs c) (hb : tyBo.rd w ds c) : Gives Tryz.prog 123 #[.agg cs.toArray, .agg ds.toArray] w (.bool true) := by
  obtain ⟨v1, v2, v3, rfl, h1, h2, h3⟩ := bo_form ha
  obtain ⟨u1, u2, u3, rfl, k1, k2, k3⟩ := bo_form hb
  clear ha hb
  obtain ⟨l, pr, qt⟩ := c
  simp only at h1 h2 h3 k1 k2 k3
  show Gives Tryz.prog _ #[.agg #[v1, v2, v3], .agg #[u1, u2, u3]] w _
  have c1 := fun w1 hb => eqInt64S_l v1 u1 l w1 (Ty.below _ h1 hb) (Ty.below _ k1 hb)
  have c2 := fun w1 hb => eqInt64S_l v2 u2 pr w1 (Ty.below _ h2 hb) (Ty.below _ k2 hb)
  have c3 := fun w1 hb => eqNoteS_l v3 u3 qt w1 (Ty.below _ h3 hb) (Ty.below _ k3 hb)
  clear h1 h2 h3 k1 k2 k3
  have H := Hs.start noRow w
  unfold Gives
  go_enter Tryz.func123, Tryz.ntmps123
  go_wp2_with (first | ((first | ((with_reducible apply st_load1 H); decide +kernel; rfl; exact cF) | ((with_reducible apply st_loads H); decide +kernel; rfl; exact iF; exact zF; rfl)); clear H; intro wn H; (try simp only [splice, yG, yH, yI, yJ, yK, yL, yM, yN, yO, yP, yQ, Nat.reduceAdd, yA, yB, yC] at H); simp only [Act.put, yA, yB, yC, yD, yE, yF]) | ((first | ((with_reducible apply st_box (dst := some 2) H); exact nF; intro b2) | ((with_reducible apply st_box (dst := some 3) H); exact nF; intro b3) | ((with_reducible apply st_loadat H); decide +kernel; rfl; exact aF; exact zF; rfl)); clear H; intro wn H; simp only [Act.put, yA, yB, yC, yD, yE, yF]) | ((first | (go_at_call 150; refine gvF (c1 _ H.below) H ?_; clear c1) | (go_at_call 150; refine gvF (c2 _ H.below) H ?_) | (go_at_call 151; refine gvF (c3 _ H.below) H ?_)); clear H; intro wn H) | fail)
  go_ret
  exact ⟨rfl, H.below⟩
end Go.Proofs.YtjklmldchbakjaaGreat
