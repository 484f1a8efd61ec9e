/-
  Mail and its answers: what the statements do with them: the walks.
-/
import Derived.Test.YteeafechjkilkaaGreatHe
set_option linter.unusedSimpArgs false
set_option linter.unusedVariables false
namespace Go.Proofs.YteeafechjkilkaaGreat
open Go.RowKit M
namespace M
abbrev MO := List Bo × Int
def mkMO : Mark MO := mkBo.list.pair mkKeep
end M
/-- the result of a struct of one slice -/
def tOne {α : Type} (T : Ty α) (a : α) : Value → List Hl → Prop := fun v M => ∃ u N, v = .agg #[u] ∧ T.own [u] a N ∧ M = [Hl.all N]
set_option maxRecDepth 100000 in
set_option maxHeartbeats 4000000 in
theorem toMail_l (v : Value) (l : List Bo) (hl : szMl l ≤ 1048576) (w : World) (hr : (Ty.sl 0 tyBo).rd w [v] l) : Rets Tryz.prog [] 13 #[.agg #[v]] w (tOne (Ty.sl 114 tyBo) l) := by
  have c1 := fun w1 hb => toBoxS_l v l hl w1 (Ty.below _ hr hb)
  clear hr hl
  have H := Hs.start noRow w
  refine Rets.of ?_
  go_enter Tryz.func13, Tryz.ntmps13
  go_wp2_with (first | ((first | ((with_reducible apply st_load1 H); decide +kernel; rfl; exact cF) | ((with_reducible apply st_loads H); decide +kernel; rfl; exact iF; exact zF; rfl) | ((with_reducible apply st_store H); rfl; exact eF; (focus (exact cells_agg _)); exact uF; kernel_rfl; (focus (exact Nat.le_of_ble_eq_true (by rfl))); (focus (first | rfl | simp))) | ((with_reducible apply st_storeown H); rfl; exact eF; (focus (exact (rfl : _ = [_]))); exact uF; (focus omega); kernel_rfl; rfl)); clear H; intro wn H; (try simp only [splice, yG, yH, yI, yJ, yK, yL, yM, yN, yO, yP, yQ, Nat.reduceAdd, yA, yB, yC] at H); simp only [Act.put, yA, yB, yC, yD, yE, yF]) | ((first | ((with_reducible apply st_box (dst := some 1) H); exact nF; intro b1) | ((with_reducible apply st_alloc (dst := some 2) H); exact nF; intro b2) | ((with_reducible apply st_alloc (dst := some 3) H); exact nF; intro b3) | ((with_reducible apply st_loadat H); decide +kernel; rfl; exact aF; exact zF; rfl) | ((with_reducible apply st_storerow H); rfl; exact eF; (first | exact cells_agg _ | exact cellI | exact cellS | exact cellB | exact (rfl : _ = [_])); exact uF; kernel_rfl; exact Nat.succ_pos _; exact fitF; rfl)); clear H; intro wn H; simp only [Act.put, yA, yB, yC, yD, yE, yF]) | fail)
  refine (Rets.use (c1 _ H.below)).mono ?_; rintro e wn ⟨_, _, rfl, ⟨N1, hN1, rfl, o1⟩, hkk⟩; have Hn := H.moreK (by intro k hk; first | exact absurd hk List.not_mem_nil | (obtain rfl := List.mem_singleton.1 hk; exact In.mem iF)) hkk; clear hkk; clear H; have H := Hn; clear Hn; (try simp only [yT, yV] at H)
  have hA1 := own_single hN1 o1 rfl
  clear hN1 o1
  obtain ⟨A1, k1, rfl, _, _⟩ := sl_form (own_rd H .here hA1)
  have HA1 := Lib.hid hA1
  clear c1 hA1
  go_wp2_with (first | ((first | ((with_reducible apply st_load1 H); decide +kernel; rfl; exact cF) | ((with_reducible apply st_loads H); decide +kernel; rfl; exact iF; exact zF; rfl) | ((with_reducible apply st_store H); rfl; exact eF; (focus (exact cells_agg _)); exact uF; kernel_rfl; (focus (exact Nat.le_of_ble_eq_true (by rfl))); (focus (first | rfl | simp))) | ((with_reducible apply st_storeown H); rfl; exact eF; (focus (exact (rfl : _ = [_]))); exact uF; (focus omega); kernel_rfl; rfl)); clear H; intro wn H; (try simp only [splice, yG, yH, yI, yJ, yK, yL, yM, yN, yO, yP, yQ, Nat.reduceAdd, yA, yB, yC] at H); simp only [Act.put, yA, yB, yC, yD, yE, yF]) | ((first | ((with_reducible apply st_box (dst := some 1) H); exact nF; intro b1) | ((with_reducible apply st_alloc (dst := some 2) H); exact nF; intro b2) | ((with_reducible apply st_alloc (dst := some 3) H); exact nF; intro b3) | ((with_reducible apply st_loadat H); decide +kernel; rfl; exact aF; exact zF; rfl) | ((with_reducible apply st_storerow H); rfl; exact eF; (first | exact cells_agg _ | exact cellI | exact cellS | exact cellB | exact (rfl : _ = [_])); exact uF; kernel_rfl; exact Nat.succ_pos _; exact fitF; rfl)); clear H; intro wn H; simp only [Act.put, yA, yB, yC, yD, yE, yF]) | fail)
  refine bp_cell H rfl rfl iF (by kernel_rfl) (by kernel_rfl) rfl (by first | exact .inl rfl | exact .inr rfl) ?_
  have H2 := H.sel (M := [Hl.all N1]) sF
  exact Hs.retd H2 (List.Sublist.refl _) ⟨_, _, rfl, HA1.out, rfl⟩
set_option maxRecDepth 100000 in
set_option maxHeartbeats 4000000 in
theorem eqMail_l (v u : Value) (l : List Bo) (w : World) (ha : (Ty.sl 114 tyBo).rd w [v] l) (hb : (Ty.sl 114 tyBo).rd w [u] l) : Gives Tryz.prog 18 #[.agg #[v], .agg #[u]] w (.bool true) := by
  have c1 := fun w1 hb' => eqBoxS_l v u l w1 (Ty.below _ ha hb') (Ty.below _ hb hb')
  clear ha hb
  have H := Hs.start noRow w
  unfold Gives
  go_enter Tryz.func18, Tryz.ntmps18
  go_wp2_with (first | ((first | ((with_reducible apply st_load1 H); decide +kernel; rfl; exact cF) | ((with_reducible apply st_loads H); decide +kernel; rfl; exact iF; exact zF; rfl)); clear H; intro wn H; (try simp only [splice, yG, yH, yI, yJ, yK, yL, yM, yN, yO, yP, yQ, Nat.reduceAdd, yA, yB, yC] at H); simp only [Act.put, yA, yB, yC, yD, yE, yF]) | ((first | ((with_reducible apply st_box (dst := some 2) H); exact nF; intro b2) | ((with_reducible apply st_box (dst := some 3) H); exact nF; intro b3) | ((with_reducible apply st_loadat H); decide +kernel; rfl; exact aF; exact zF; rfl)); clear H; intro wn H; simp only [Act.put, yA, yB, yC, yD, yE, yF]) | ((first | (go_at_call 65; refine gvF (c1 _ H.below) H ?_)); clear H; intro wn H) | fail)
  go_ret
  exact ⟨rfl, H.below⟩
set_option maxRecDepth 100000 in
set_option maxHeartbeats 4000000 in
theorem szMail_l (v : Value) (l : List Bo) (k : Int) (hk : 0 ≤ k ∧ k ≤ 1048576) (w : World) (ha : (Ty.sl 0 tyBo).rd w [v] l) : Gives Tryz.prog 10 #[.agg #[v], .int .i64 k] w (.int .i64 (szC k (szMl l))) := by
  have c1 := fun w1 hb => szBoxS_l v l k hk w1 (Ty.below _ ha hb)
  clear ha
  generalize szMl l = n at *
  have H := Hs.start noRow w
  unfold Gives
  by_cases hn : k - n < 0
  · rw [szC_neg hn] at c1 ⊢
    go_enter Tryz.func10, Tryz.ntmps10
    go_wp2_with (first | ((first | ((with_reducible apply st_load1 H); decide +kernel; rfl; exact cF) | ((with_reducible apply st_loads H); decide +kernel; rfl; exact iF; exact zF; rfl)); clear H; intro wn H; (try simp only [splice, yG, yH, yI, yJ, yK, yL, yM, yN, yO, yP, yQ, Nat.reduceAdd, yA, yB, yC] at H); simp only [Act.put, yA, yB, yC, yD, yE, yF]) | ((first | ((with_reducible apply st_box (dst := some 2) H); exact nF; intro b2) | ((with_reducible apply st_strsum H); rfl; rfl; exact szF; kernel_rfl) | ((with_reducible apply st_loadat H); decide +kernel; rfl; exact aF; exact zF; rfl)); clear H; intro wn H; simp only [Act.put, yA, yB, yC, yD, yE, yF]) | ((first | (go_at_call 48; refine gvF (c1 _ H.below) H ?_)); clear H; intro wn H) | fail)
    go_ret
    exact ⟨rfl, H.below⟩
  · rw [szC_pos hn] at c1 ⊢
    go_enter Tryz.func10, Tryz.ntmps10
    go_wp2_with (first | ((first | ((with_reducible apply st_load1 H); decide +kernel; rfl; exact cF) | ((with_reducible apply st_loads H); decide +kernel; rfl; exact iF; exact zF; rfl)); clear H; intro wn H; (try simp only [splice, yG, yH, yI, yJ, yK, yL, yM, yN, yO, yP, yQ, Nat.reduceAdd, yA, yB, yC] at H); simp only [Act.put, yA, yB, yC, yD, yE, yF]) | ((first | ((with_reducible apply st_box (dst := some 2) H); exact nF; intro b2) | ((with_reducible apply st_strsum H); rfl; rfl; exact szF; kernel_rfl) | ((with_reducible apply st_loadat H); decide +kernel; rfl; exact aF; exact zF; rfl)); clear H; intro wn H; simp only [Act.put, yA, yB, yC, yD, yE, yF]) | ((first | (go_at_call 48; refine gvF (c1 _ H.below) H ?_)); clear H; intro wn H) | fail)
    go_ret
    exact ⟨rfl, H.below⟩
def tyMO : Ty MO := Ty.pair (Ty.sl 114 tyBo) tyNum
theorem mo_form {w : World} {cs : List Value} {c : MO} (h : tyMO.rd w cs c) : ∃ v, cs = [v, .int .i64 c.2] ∧ (Ty.sl 114 tyBo).rd w [v] c.1 := by
  obtain ⟨x1, y1, rfl, h1, h2⟩ := h
  obtain ⟨v1, hv1⟩ : ∃ v, x1 = [v] := by obtain ⟨v, _, rfl, _⟩ := h1; exact ⟨v, rfl⟩
  subst hv1
  obtain rfl : y1 = encNum c.2 := h2
  exact ⟨v1, rfl, h1⟩
set_option maxRecDepth 100000 in
set_option maxHeartbeats 4000000 in
theorem eqMailOut_l (a : MO) (cs ds : List Value) (w : World) (ha : tyMO.rd w cs a) (hb : tyMO.rd w ds a) : Gives Tryz.prog 16 #[.agg cs.toArray, .agg ds.toArray] w (.bool true) := by
  obtain ⟨v, rfl, h1⟩ := mo_form ha
  obtain ⟨u, rfl, k1⟩ := mo_form hb
  obtain ⟨l, q⟩ := a
  clear ha hb
  show Gives Tryz.prog _ #[.agg #[v, .int .i64 q], .agg #[u, .int .i64 q]] w _
  have c1 := fun w1 hb' => eqMail_l v u l w1 (Ty.below _ h1 hb') (Ty.below _ k1 hb')
  clear h1 k1
  have H := Hs.start noRow w
  unfold Gives
  go_enter Tryz.func16, Tryz.ntmps16
  go_wp2_with (first | ((first | ((with_reducible apply st_load1 H); decide +kernel; rfl; exact cF) | ((with_reducible apply st_loads H); decide +kernel; rfl; exact iF; exact zF; rfl)); clear H; intro wn H; (try simp only [splice, yG, yH, yI, yJ, yK, yL, yM, yN, yO, yP, yQ, Nat.reduceAdd, yA, yB, yC] at H); simp only [Act.put, yA, yB, yC, yD, yE, yF]) | ((first | ((with_reducible apply st_box (dst := some 2) H); exact nF; intro b2) | ((with_reducible apply st_box (dst := some 3) H); exact nF; intro b3) | ((with_reducible apply st_strsum H); rfl; rfl; exact szF; kernel_rfl) | ((with_reducible apply st_loadat H); decide +kernel; rfl; exact aF; exact zF; rfl)); clear H; intro wn H; simp only [Act.put, yA, yB, yC, yD, yE, yF]) | ((first | (go_at_call 18; refine gvF (c1 _ H.below) H ?_)); clear H; intro wn H) | fail)
  go_ret
  exact ⟨rfl, H.below⟩
end Go.Proofs.YteeafechjkilkaaGreat
