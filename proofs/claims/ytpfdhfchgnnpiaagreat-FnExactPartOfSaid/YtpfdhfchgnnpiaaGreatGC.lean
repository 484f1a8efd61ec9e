/-
  Slices cloned, mail copied: the walks.
-/
import Derived.Test.YtpfdhfchgnnpiaaGreatCg
import Derived.Test.YtpfdhfchgnnpiaaGreatHx
set_option linter.unusedSimpArgs false
set_option linter.unusedVariables false
namespace Go.Proofs.YtpfdhfchgnnpiaaGreat
open Go.RowKit M
/-- the result of a slice -/
def tSli {α : Type} (T : Ty (List α)) (l : List α) : Value → List Hl → Prop := fun v M => ∃ A c N, v = .slice A l.length c ∧ T.own [.slice A l.length c] l N ∧ M = [Hl.all N]
theorem tSli.form {α : Type} {T : Ty (List α)} {l : List α} {v : Value} {M : List Hl} (h : tSli T l v M) : ∃ A n c, v = .slice A n c := by
  obtain ⟨A, c, _, e, _⟩ := h
  exact ⟨A, _, c, e⟩
section
variable {P : Program} {R : Nat → Prop} {w0 w : World} {L : List Hl} {a : Act} {ops : Array Oper} {Q : Exit → Act → World → Prop} {rest : List Oper} {dst : Option Tmp} {ty T t : TypeId} {x y : Operand} {pos : String} {aft : Array Edge} {A : Option Addr} {p : Addr} {n c : Nat}
end
end Go.Proofs.YtpfdhfchgnnpiaaGreat
namespace Go.Proofs.YtpfdhfchgnnpiaaGreat
open Go.RowKit M
namespace M
def fitsCfg (c : Cfg) : Prop := c.1.length ≤ 1000 ∧ (∀ x ∈ c.1, x.length ≤ 1000000) ∧ c.2.1.length ≤ 1000000 ∧ c.2.2.1.length ≤ 1000000
theorem cfg_fits {c : Cfg} (h : cfgOk c = true) : fitsCfg c ∧ 0 < c.1.length ∧ c.1.length ≤ 6 ∧ c.2.1.length ≤ 4 := by
  unfold cfgOk at h
  simp only [Bool.and_eq_true, decide_eq_true_eq] at h
  obtain ⟨h1, h2, h3, h4, h5⟩ := h
  have hc := clear_ok h1
  have hp : c.2.1.length ≤ 4 := by
    unfold pairsOk at h4
    simp only [Bool.and_eq_true, decide_eq_true_eq] at h4
    exact h4.2
  have hq := quotas_len (fun a => labels_ok a) h5
  refine ⟨⟨by omega, fun x hx => ?_, by omega, by omega⟩, by omega, by omega, hp⟩
  have h6 := List.all_eq_true.1 hc.1 x hx
  unfold chainOk at h6
  simp only [Bool.and_eq_true, decide_eq_true_eq] at h6
  omega
def regsOf (c : Cfg) : Nat := 1 + (labelsOf c.1).length + c.2.1.length
theorem cfg_labs {c : Cfg} (h : cfgOk c = true) : clearOk c.1 = true ∧ (labelsOf c.1).length ≤ 8 := by
  unfold cfgOk at h
  simp only [Bool.and_eq_true, decide_eq_true_eq] at h
  exact ⟨h.1, h.2.2.1⟩
end M
theorem Rets.lit {P : Program} {K : List Hl} {f : FuncId} {args : Array Value} {w : World} {T U : Value → List Hl → Prop} (h : Rets P K f args w T) (hTU : ∀ v M w', T v M → (∀ k ∈ M, k.P w') → U v M) : Rets P K f args w U :=
  Calls.mono h (fun _ w' ⟨v, M, he, hT, hk⟩ => ⟨v, M, he, hTU v M w' hT hk.ok, hk⟩)
theorem tSli_of {α : Type} {T : Ty α} {E : TypeId} {l : List α} {v : Value} {M : List Hl} {w : World} (h : tOwn (Ty.sl E T) l v M) (hp : ∀ k ∈ M, k.P w) : tSli (Ty.sl E T) l v M := by
  obtain ⟨N, ho, rfl, h1⟩ := h
  have h2 := own_single ho h1 rfl
  have h3 := (Ty.sl E T).read h2 (hp _ (List.mem_singleton.2 rfl)).1
  obtain ⟨A, c, rfl, _, _⟩ := sl_form h3
  exact ⟨A, c, N, rfl, h2, rfl⟩
set_option maxRecDepth 100000 in
set_option maxHeartbeats 4000000 in
theorem regs_i (c : Cfg) (cs : List Value) (hok : cfgOk c = true) (w : World) (hrc : tyCfg.rd w cs c) : Gives Tryz.prog 21 #[.agg cs.toArray] w (.int .i64 (regsOf c)) := by
  have h4 := (cfg_fits hok).2.2.2
  have h8 := (cfg_labs hok).2
  have hcl := (cfg_labs hok).1
  obtain ⟨v1, v2, v3, rfl, h1, h2, h3⟩ := cfg_form hrc
  obtain ⟨nd, pr, qt, hf⟩ := c
  simp only at h1 h2 h3 h4 h8 hcl
  obtain ⟨D1, d1, hv1, _, _⟩ := sl_form h1
  obtain ⟨D2, d2, rfl, _, _⟩ := sl_form h2
  obtain ⟨D3, d3, rfl, _, _⟩ := sl_form h3
  have c1 := fun w1 hb => (labels_i v1 D2 D3 pr.length d2 qt.length d3 hf nd hcl w1 (Ty.below _ h1 hb)).lit (fun v M w' h hp => tSli_of h hp)
  show Gives Tryz.prog _ #[.agg #[v1, .slice D2 pr.length d2, .slice D3 qt.length d3, .int .i64 hf]] w (.int .i64 ((1 + (labelsOf nd).length + pr.length : Nat) : Int))
  subst hv1
  clear hrc h1 h2 h3 hcl hok
  have H := Hs.start noRow w
  unfold Gives
  go_enter Tryz.func21, Tryz.ntmps21
  go_wp2_with (first | ((first | ((with_reducible apply st_load1 H); decide +kernel; rfl; exact cF) | ((with_reducible apply st_loads H); decide +kernel; rfl; exact iF; exact zF; rfl)); clear H; intro wn H; (try simp only [splice, yG, yH, yI, yJ, yK, yL, yM, yN, yO, yP, yQ, Nat.reduceAdd, yA, yB, yC] at H); simp only [Act.put, yA, yB, yC, yD, yE, yF]) | ((first | ((with_reducible apply st_box (dst := some 1) H); exact nF; intro b1) | ((with_reducible apply st_strsum H); rfl; rfl; exact szF; kernel_rfl) | ((with_reducible apply st_loadat H); decide +kernel; rfl; exact aF; exact zF; rfl)); clear H; intro wn H; simp only [Act.put, yA, yB, yC, yD, yE, yF]) | fail)
  apply wp_region_hs (K := []) (Spec.V _ :: Spec.T _ :: Spec.V _ :: Spec.V _ :: Spec.V _ :: Spec.V _ :: Spec.V _ :: Spec.V _ :: []) 8 H rfl (by simp) (by kernel_rfl) (by kernel_rfl); intro vs Ls; (iterate 1 ((with_reducible apply wpH_V); (focus rfl); (focus rfl); (focus (intro w1 H1; exact oF)); simp only [Act.put, yA, yB, yC, yD, yE, yF]; (try simp only [yG, yH, yJ, yK]))); (with_reducible apply wpH_T); (focus rfl); (focus rfl); (focus (intro hk w1 H1; unfold OpOk; go_simp; exact now_call (c1 _ H1.below))); simp only [Act.put, yA, yB, yC, yD, yE, yF]; (with_reducible apply wpH_VK); (focus rfl); (focus rfl); (focus (intro hk w1 H1; have q1 := okT (hk 1 (by decide +kernel) (by decide)) rfl; obtain ⟨_, _, _, e, _⟩ := q1; unfold OpOk; (try simp only [e]); go_simp; exact now_v)); simp only [Act.put, yA, yB, yC, yD, yE, yF]; (with_reducible apply wpH_VK); (focus rfl); (focus rfl); (focus (intro hk w1 H1; have q1 := okT (hk 1 (by decide +kernel) (by decide)) rfl; unfold OpOk; go_simp; (try rw [wrap_id (by omega) (by omega)]); exact now_v)); simp only [Act.put, yA, yB, yC, yD, yE, yF]; (iterate 3 ((with_reducible apply wpH_V); (focus rfl); (focus rfl); (focus (intro w1 H1; exact oF)); simp only [Act.put, yA, yB, yC, yD, yE, yF]; (try simp only [yG, yH, yJ, yK]))); (with_reducible apply wpH_VK); (focus rfl); (focus rfl); (focus (intro hk w1 H1; have q1 := okT (hk 1 (by decide +kernel) (by decide)) rfl; unfold OpOk; go_simp; (try rw [wrap_id (by omega) (by omega)]); exact now_v)); simp only [Act.put, yA, yB, yC, yD, yE, yF]; refine wpH_0 ?_; intro hok wn Hn; (try simp only [yT, yU, yV, yW] at Hn); clear H; have H := Hn; clear Hn; have ht1 := okT (hok 1 (by decide)) rfl; clear hok; obtain ⟨A, k, N, e1, o1, l1⟩ := ht1; simp only [e1, l1, yT, yU, yV] at H ⊢; clear e1 l1; rotate_left; (focus (refine locs ?_; intro vs1 vs2; (iterate 8 (refine all_lt_succ ?_ (by first | exact (fun _ => rfl) | exact (fun _ => ⟨rfl, rfl⟩) | (intro h; simp only [spec, Spec.same, yR, yS, Option.getD_some]; (try rw [h 1 (by decide +kernel)]); (first | done | exact ⟨rfl, rfl⟩ | exact ⟨trivial, rfl⟩ | exact ⟨rfl, trivial⟩))))); exact (fun k hk => absurd hk (Nat.not_lt_zero k))))
  go_wp2_with (first | ((first | ((with_reducible apply st_load1 H); decide +kernel; rfl; exact cF) | ((with_reducible apply st_loads H); decide +kernel; rfl; exact iF; exact zF; rfl)); clear H; intro wn H; (try simp only [splice, yG, yH, yI, yJ, yK, yL, yM, yN, yO, yP, yQ, Nat.reduceAdd, yA, yB, yC] at H); simp only [Act.put, yA, yB, yC, yD, yE, yF]) | ((first | ((with_reducible apply st_box (dst := some 1) H); exact nF; intro b1) | ((with_reducible apply st_strsum H); rfl; rfl; exact szF; kernel_rfl) | ((with_reducible apply st_loadat H); decide +kernel; rfl; exact aF; exact zF; rfl)); clear H; intro wn H; simp only [Act.put, yA, yB, yC, yD, yE, yF]) | fail)
  go_ret
  exact ⟨congrArg (fun z : Int => Ending.returned (.int .i64 z)) (show 1 + ((labelsOf nd).length : Int) + (pr.length : Int) = ((1 + (labelsOf nd).length + pr.length : Nat) : Int) by omega), H.below⟩
set_option maxRecDepth 100000 in
set_option maxHeartbeats 4000000 in
theorem regs_s (c : Cfg) (cs : List Value) (hok : cfgOk c = true) (w : World) (hrc : tyCfg.rd w cs c) : Gives Tryz.prog 13 #[.agg cs.toArray] w (.int .i64 (regsOf c)) := by
  have h4 := (cfg_fits hok).2.2.2
  have h8 := (cfg_labs hok).2
  have hcl := (cfg_labs hok).1
  obtain ⟨v1, v2, v3, rfl, h1, h2, h3⟩ := cfg_form hrc
  obtain ⟨nd, pr, qt, hf⟩ := c
  simp only at h1 h2 h3 h4 h8 hcl
  obtain ⟨D1, d1, hv1, _, _⟩ := sl_form h1
  obtain ⟨D2, d2, rfl, _, _⟩ := sl_form h2
  obtain ⟨D3, d3, rfl, _, _⟩ := sl_form h3
  have c1 := fun w1 hb => (labels_s v1 nd w1 (Ty.below _ h1 hb)).lit (fun v M w' h hp => tSli_of h hp)
  show Gives Tryz.prog _ #[.agg #[v1, .slice D2 pr.length d2, .slice D3 qt.length d3, .int .i64 hf]] w (.int .i64 ((1 + (labelsOf nd).length + pr.length : Nat) : Int))
  subst hv1
  clear hrc h1 h2 h3 hcl hok
  have H := Hs.start noRow w
  unfold Gives
  go_enter Tryz.func13, Tryz.ntmps13
  go_wp2_with (first | ((first | ((with_reducible apply st_load1 H); decide +kernel; rfl; exact cF) | ((with_reducible apply st_loads H); decide +kernel; rfl; exact iF; exact zF; rfl)); clear H; intro wn H; (try simp only [splice, yG, yH, yI, yJ, yK, yL, yM, yN, yO, yP, yQ, Nat.reduceAdd, yA, yB, yC] at H); simp only [Act.put, yA, yB, yC, yD, yE, yF]) | ((first | ((with_reducible apply st_box (dst := some 1) H); exact nF; intro b1) | ((with_reducible apply st_strsum H); rfl; rfl; exact szF; kernel_rfl) | ((with_reducible apply st_loadat H); decide +kernel; rfl; exact aF; exact zF; rfl)); clear H; intro wn H; simp only [Act.put, yA, yB, yC, yD, yE, yF]) | fail)
  apply wp_region_hs (K := []) (Spec.V _ :: Spec.V _ :: Spec.T _ :: Spec.V _ :: Spec.V _ :: Spec.V _ :: Spec.V _ :: Spec.V _ :: Spec.V _ :: []) 9 H rfl (by simp) (by kernel_rfl) (by kernel_rfl); intro vs Ls; (iterate 2 ((with_reducible apply wpH_V); (focus rfl); (focus rfl); (focus (intro w1 H1; exact oF)); simp only [Act.put, yA, yB, yC, yD, yE, yF]; (try simp only [yG, yH, yJ, yK]))); (with_reducible apply wpH_T); (focus rfl); (focus rfl); (focus (intro hk w1 H1; unfold OpOk; go_simp; exact now_call (c1 _ H1.below))); simp only [Act.put, yA, yB, yC, yD, yE, yF]; (with_reducible apply wpH_VK); (focus rfl); (focus rfl); (focus (intro hk w1 H1; have q2 := okT (hk 2 (by decide +kernel) (by decide)) rfl; obtain ⟨_, _, _, e, _⟩ := q2; unfold OpOk; (try simp only [e]); go_simp; exact now_v)); simp only [Act.put, yA, yB, yC, yD, yE, yF]; (with_reducible apply wpH_VK); (focus rfl); (focus rfl); (focus (intro hk w1 H1; have q2 := okT (hk 2 (by decide +kernel) (by decide)) rfl; unfold OpOk; go_simp; (try rw [wrap_id (by omega) (by omega)]); exact now_v)); simp only [Act.put, yA, yB, yC, yD, yE, yF]; (iterate 3 ((with_reducible apply wpH_V); (focus rfl); (focus rfl); (focus (intro w1 H1; exact oF)); simp only [Act.put, yA, yB, yC, yD, yE, yF]; (try simp only [yG, yH, yJ, yK]))); (with_reducible apply wpH_VK); (focus rfl); (focus rfl); (focus (intro hk w1 H1; have q2 := okT (hk 2 (by decide +kernel) (by decide)) rfl; unfold OpOk; go_simp; (try rw [wrap_id (by omega) (by omega)]); exact now_v)); simp only [Act.put, yA, yB, yC, yD, yE, yF]; refine wpH_0 ?_; intro hok wn Hn; (try simp only [yT, yU, yV, yW] at Hn); clear H; have H := Hn; clear Hn; have ht2 := okT (hok 2 (by decide)) rfl; clear hok; obtain ⟨A, k, N, e2, o1, l2⟩ := ht2; simp only [e2, l2, yT, yU, yV] at H ⊢; clear e2 l2; rotate_left; (focus (refine locs ?_; intro vs1 vs2; (iterate 9 (refine all_lt_succ ?_ (by first | exact (fun _ => rfl) | exact (fun _ => ⟨rfl, rfl⟩) | (intro h; simp only [spec, Spec.same, yR, yS, Option.getD_some]; (try rw [h 2 (by decide +kernel)]); (first | done | exact ⟨rfl, rfl⟩ | exact ⟨trivial, rfl⟩ | exact ⟨rfl, trivial⟩))))); exact (fun k hk => absurd hk (Nat.not_lt_zero k))))
  go_wp2_with (first | ((first | ((with_reducible apply st_load1 H); decide +kernel; rfl; exact cF) | ((with_reducible apply st_loads H); decide +kernel; rfl; exact iF; exact zF; rfl)); clear H; intro wn H; (try simp only [splice, yG, yH, yI, yJ, yK, yL, yM, yN, yO, yP, yQ, Nat.reduceAdd, yA, yB, yC] at H); simp only [Act.put, yA, yB, yC, yD, yE, yF]) | ((first | ((with_reducible apply st_box (dst := some 1) H); exact nF; intro b1) | ((with_reducible apply st_strsum H); rfl; rfl; exact szF; kernel_rfl) | ((with_reducible apply st_loadat H); decide +kernel; rfl; exact aF; exact zF; rfl)); clear H; intro wn H; simp only [Act.put, yA, yB, yC, yD, yE, yF]) | fail)
  go_ret
  exact ⟨congrArg (fun z : Int => Ending.returned (.int .i64 z)) (show 1 + ((labelsOf nd).length : Int) + (pr.length : Int) = ((1 + (labelsOf nd).length + pr.length : Nat) : Int) by omega), H.below⟩
end Go.Proofs.YtpfdhfchgnnpiaaGreat
