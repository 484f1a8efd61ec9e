/-
  New yards and states, in the program and in the reference: the walks of the wholes.
-/
import Derived.Test.YtjklmldchbakjaaGreatYc
set_option linter.unusedSimpArgs false
set_option linter.unusedVariables false
namespace Go.Proofs.YtjklmldchbakjaaGreat
open Go.RowKit M
theorem Rets.lit {P : Program} {K : List Hl} {f : FuncId} {args : Array Value} {w : World} {T U : Value → List Hl → Prop} (h : Rets P K f args w T) (hTU : ∀ v M w', T v M → (∀ k ∈ M, k.P w') → U v M) : Rets P K f args w U :=
  Calls.mono h (fun _ w' ⟨v, M, he, hT, hk⟩ => ⟨v, M, he, hTU v M w' hT hk.ok, hk⟩)
def tCfg (c : Cfg) : Value → List Hl → Prop := fun v M => ∃ A1 n1 k1 A2 n2 k2 A3 n3 k3 N, v = .agg #[.slice A1 n1 k1, .slice A2 n2 k2, .slice A3 n3 k3, .int .i64 c.2.2.2] ∧ tyCfg.own [.slice A1 n1 k1, .slice A2 n2 k2, .slice A3 n3 k3, .int .i64 c.2.2.2] c N ∧ M = [Hl.all N]
theorem tCfg_of {c : Cfg} {v : Value} {M : List Hl} {w : World} (h : tAgg tyCfg c v M) (hp : ∀ k ∈ M, k.P w) : tCfg c v M := by
  obtain ⟨cs, N, rfl, ho, rfl⟩ := h
  have h1 := tyCfg.read ho (hp _ (List.mem_singleton.2 rfl)).1
  obtain ⟨A1, n1, k1, A2, n2, k2, A3, n3, k3, rfl⟩ := cfg_lit h1
  exact ⟨A1, n1, k1, A2, n2, k2, A3, n3, k3, N, rfl, ho, rfl⟩
theorem tCfg.form {c : Cfg} {v : Value} {M : List Hl} (h : tCfg c v M) : ∃ A1 n1 k1 A2 n2 k2 A3 n3 k3 q, v = .agg #[.slice A1 n1 k1, .slice A2 n2 k2, .slice A3 n3 k3, .int .i64 q] := by
  obtain ⟨A1, n1, k1, A2, n2, k2, A3, n3, k3, _, e, _⟩ := h
  exact ⟨A1, n1, k1, A2, n2, k2, A3, n3, k3, _, e⟩
def tMl (l : List Bo) : Value → List Hl → Prop := fun v M => ∃ A n k N, v = .agg #[.slice A n k] ∧ (Ty.sl 167 tyBo).own [.slice A n k] l N ∧ M = [Hl.all N]
theorem tMl_of {l : List Bo} {v : Value} {M : List Hl} {w : World} (h : tOne (Ty.sl 167 tyBo) l v M) (hp : ∀ k ∈ M, k.P w) : tMl l v M := by
  obtain ⟨u, N, rfl, ho, rfl⟩ := h
  have h1 := (Ty.sl 167 tyBo).read ho (hp _ (List.mem_singleton.2 rfl)).1
  obtain ⟨A, k, rfl, _, _⟩ := sl_form h1
  exact ⟨A, _, k, N, rfl, ho, rfl⟩
theorem tMl.form {l : List Bo} {v : Value} {M : List Hl} (h : tMl l v M) : ∃ A n k, v = .agg #[.slice A n k] := by
  obtain ⟨A, n, k, _, e, _⟩ := h
  exact ⟨A, n, k, e⟩
section
variable {K : List Hl} {a : Act} {w : World} {dst : Option Tmp} {ty : TypeId} {pos : String} {aft : Array Edge} {g : Option (Nat × Bool)} {x y : Nat} {v v1 v2 : Value} {a0 a1 a2 a3 a4 a5 a6 a7 : Value}
/-- the cells of a struct's value, under a letter -/
theorem cAt_ex : ∃ f : Value → Nat → Value, (∀ a0 a1 a2 a3, f (.agg #[a0, a1, a2, a3]) 0 = a0) ∧ (∀ a0 a1 a2 a3, f (.agg #[a0, a1, a2, a3]) 1 = a1) ∧ (∀ a0 a1 a2 a3, f (.agg #[a0, a1, a2, a3]) 2 = a2) ∧ (∀ a0 a1 a2 a3, f (.agg #[a0, a1, a2, a3]) 3 = a3) ∧ (∀ a0, f (.agg #[a0]) 0 = a0) :=
  ⟨fun v i => (v.cells.toList[i]?).getD undef, fun _ _ _ _ => rfl, fun _ _ _ _ => rfl, fun _ _ _ _ => rfl, fun _ _ _ _ => rfl, fun _ => rfl⟩
set_option maxRecDepth 100000 in
theorem ok_buildYd {cAt : Value → Nat → Value} (cA0 : ∀ a0 a1 a2 a3, cAt (.agg #[a0, a1, a2, a3]) 0 = a0) (cA1 : ∀ a0 a1 a2 a3, cAt (.agg #[a0, a1, a2, a3]) 1 = a1) (cA2 : ∀ a0 a1 a2 a3, cAt (.agg #[a0, a1, a2, a3]) 2 = a2) (cA3 : ∀ a0 a1 a2 a3, cAt (.agg #[a0, a1, a2, a3]) 3 = a3) (hx : a.eval (.tmp x) = v1) (hy : a.eval (.tmp y) = v2) (h1 : ∃ A1 n1 k1 A2 n2 k2 A3 n3 k3 q, v1 = .agg #[.slice A1 n1 k1, .slice A2 n2 k2, .slice A3 n3 k3, .int .i64 q]) (h2 : ∃ A n c, v2 = .slice A n c) :
    OpOk Tryz.prog K ⟨dst, .build 37 #[(0, .tmp x), (1, .tmp y)], ty, pos, aft, g⟩ a w (tV (.agg #[cAt v1 0, cAt v1 1, cAt v1 2, cAt v1 3, v2, .slice none 0 0, .slice none 0 0, .int .i64 0])) := by
  obtain ⟨A1, n1, k1, A2, n2, k2, A3, n3, k3, q, rfl⟩ := h1
  obtain ⟨A, n, c, rfl⟩ := h2
  rw [cA0, cA1, cA2, cA3]
  have hx2 : a.tmps[x]?.getD undef = .agg #[.slice A1 n1 k1, .slice A2 n2 k2, .slice A3 n3 k3, .int .i64 q] := by rw [← hx]; simp [Act.eval]
  have hy2 : a.tmps[y]?.getD undef = .slice A n c := by rw [← hy]; simp [Act.eval]
  unfold OpOk execOp
  go_simp
  (try simp only [hx2, hy2])
  (try go_simp)
  exact now_v
set_option maxRecDepth 100000 in
theorem ok_buildSt {cAt : Value → Nat → Value} (cB0 : ∀ a0, cAt (.agg #[a0]) 0 = a0) (hx : a.eval (.tmp x) = .agg #[a0, a1, a2, a3, a4, a5, a6, a7]) (hy : a.eval (.tmp y) = v) (h1 : ∃ A n k, v = .agg #[.slice A n k]) :
    OpOk Tryz.prog K ⟨dst, .build 42 #[(0, .tmp x), (1, .tmp y)], ty, pos, aft, g⟩ a w (tV (.agg #[a0, a1, a2, a3, a4, a5, a6, a7, cAt v 0])) := by
  obtain ⟨A, n, k, rfl⟩ := h1
  rw [cB0]
  have hx2 : a.tmps[x]?.getD undef = .agg #[a0, a1, a2, a3, a4, a5, a6, a7] := by rw [← hx]; simp [Act.eval]
  have hy2 : a.tmps[y]?.getD undef = .agg #[.slice A n k] := by rw [← hy]; simp [Act.eval]
  unfold OpOk execOp
  go_simp
  (try simp only [hx2, hy2])
  (try go_simp)
  exact now_v
end
def cellYd : List Value := [.slice none 0 0, .slice none 0 0, .slice none 0 0, .int .i64 0, .slice none 0 0, .slice none 0 0, .slice none 0 0, .int .i64 0]
def rowYd : List Hl := [Hl.row 93 1 (.slice none 0 0) 0 [], Hl.row 98 5 (.slice none 0 0) 0 [], Hl.row 104 3 (.slice none 0 0) 0 [], Hl.row 126 2 (.slice none 0 0) 0 [], Hl.row 160 14 (.slice none 0 0) 0 [], Hl.row 163 4 (.slice none 0 0) 0 []]
theorem own_zeroYd : tyYd.own cellYd zeroYd rowYd :=
  ⟨[_, _, _, _], [_, _, _, _], [_, _, _], [_, _, _], rfl, rfl, ⟨[_], [_, _, _], [_], [_, _], rfl, rfl, own_none _, [_], [_, _], [_], [_], rfl, rfl, own_none _, [_], [_], [_], [], rfl, rfl, own_none _, rfl, rfl⟩,
   [_], [_, _, _], [_], [_, _], rfl, rfl, own_none _, [_], [_, _], [_], [_], rfl, rfl, own_none _, [_], [_], [_], [], rfl, rfl, own_none _, rfl, rfl⟩
theorem free_Yd : Free rowYd := (((((Free.nil.row _ _ _).row _ _ _).row _ _ _).row _ _ _).row _ _ _).row _ _ _
def rowSt : List Hl := rowYd ++ [Hl.row 167 3 (.slice none 0 0) 0 []]
theorem own_zeroSt : tySt.own (cellYd ++ [.slice none 0 0]) zeroSt rowSt := ⟨cellYd, [_], rowYd, [_], rfl, rfl, own_zeroYd, own_none _⟩
theorem free_St : Free rowSt := free_Yd.app (Free.nil.row _ _ _)
theorem ret_illY {w w' : World} {L : List Hl} (H : Hs noRow w L w') (q : Int) : RPost [] w (tAgg tyYO (zeroYd, (0, q))) (.returned (.agg #[.slice none 0 0, .slice none 0 0, .slice none 0 0, .int .i64 0, .slice none 0 0, .slice none 0 0, .slice none 0 0, .int .i64 0, .int .i64 0, .int .i64 q])) w' := by
  have H1 := (free_Yd _ _ _ _ H).pack
  rw [← List.append_nil rowYd] at H1
  exact Hs.retd H1 (List.Sublist.cons_cons _ (List.nil_sublist _)) ⟨cellYd ++ [.int .i64 0, .int .i64 q], _, rfl, ⟨cellYd, [_, _], rowYd, [], rfl, rfl, own_zeroYd, rfl, rfl⟩, rfl⟩
theorem ret_illS {w w' : World} {L : List Hl} (H : Hs noRow w L w') (q : Int) : RPost [] w (tAgg tySO (zeroSt, (0, q))) (.returned (.agg #[.slice none 0 0, .slice none 0 0, .slice none 0 0, .int .i64 0, .slice none 0 0, .slice none 0 0, .slice none 0 0, .int .i64 0, .slice none 0 0, .int .i64 0, .int .i64 q])) w' := by
  have H1 := (free_St _ _ _ _ H).pack
  rw [← List.append_nil rowSt] at H1
  exact Hs.retd H1 (List.Sublist.cons_cons _ (List.nil_sublist _)) ⟨cellYd ++ [.slice none 0 0] ++ [.int .i64 0, .int .i64 q], _, rfl, ⟨cellYd ++ [_], [_, _], rowSt, [], rfl, rfl, own_zeroSt, rfl, rfl⟩, rfl⟩
set_option maxRecDepth 100000 in
theorem illY_s (q : Int) (w : World) : Gives Tryz.prog 49 #[.int .i64 q] w (.agg #[.slice none 0 0, .slice none 0 0, .slice none 0 0, .int .i64 0, .slice none 0 0, .slice none 0 0, .slice none 0 0, .int .i64 0, .int .i64 0, .int .i64 q]) := by
  have H := Hs.start noRow w
  unfold Gives
  go_enter Tryz.func49, Tryz.ntmps49
  go_wp2_with (first | ((first | ((with_reducible apply st_load1 H); decide +kernel; rfl; exact cF) | ((with_reducible apply st_loads H); decide +kernel; rfl; exact iF; exact zF; rfl) | ((with_reducible apply st_store H); rfl; exact eF; (focus (exact cells_agg _)); exact uF; kernel_rfl; (focus (exact Nat.le_of_ble_eq_true (by rfl))); (focus (first | rfl | simp))) | ((with_reducible apply st_storeown H); rfl; exact eF; (focus (exact (rfl : _ = [_]))); exact uF; (focus omega); kernel_rfl; rfl)); clear H; intro wn H; (try simp only [splice, yG, yH, yI, yJ, yK, yL, yM, yN, yO, yP, yQ, Nat.reduceAdd, yA, yB, yC] at H); simp only [Act.put, yA, yB, yC, yD, yE, yF]) | ((first | ((with_reducible apply st_alloc (dst := some 2) H); exact nF; intro b2) | ((with_reducible apply st_storerow H); rfl; exact eF; (first | exact cells_agg _ | exact cellI | exact cellS | exact cellB | exact (rfl : _ = [_])); exact uF; kernel_rfl; exact Nat.succ_pos _; exact fitF; rfl)); clear H; intro wn H; simp only [Act.put, yA, yB, yC, yD, yE, yF]) | fail)
  refine bp_cell H rfl rfl iF (by kernel_rfl) (by kernel_rfl) rfl (by first | exact .inl rfl | exact .inr rfl) ?_
  exact ⟨rfl, H.below⟩
set_option maxRecDepth 100000 in
theorem illS_s (q : Int) (w : World) : Gives Tryz.prog 23 #[.int .i64 q] w (.agg #[.slice none 0 0, .slice none 0 0, .slice none 0 0, .int .i64 0, .slice none 0 0, .slice none 0 0, .slice none 0 0, .int .i64 0, .slice none 0 0, .int .i64 0, .int .i64 q]) := by
  have H := Hs.start noRow w
  unfold Gives
  go_enter Tryz.func23, Tryz.ntmps23
  go_wp2_with (first | ((first | ((with_reducible apply st_load1 H); decide +kernel; rfl; exact cF) | ((with_reducible apply st_loads H); decide +kernel; rfl; exact iF; exact zF; rfl) | ((with_reducible apply st_store H); rfl; exact eF; (focus (exact cells_agg _)); exact uF; kernel_rfl; (focus (exact Nat.le_of_ble_eq_true (by rfl))); (focus (first | rfl | simp))) | ((with_reducible apply st_storeown H); rfl; exact eF; (focus (exact (rfl : _ = [_]))); exact uF; (focus omega); kernel_rfl; rfl)); clear H; intro wn H; (try simp only [splice, yG, yH, yI, yJ, yK, yL, yM, yN, yO, yP, yQ, Nat.reduceAdd, yA, yB, yC] at H); simp only [Act.put, yA, yB, yC, yD, yE, yF]) | ((first | ((with_reducible apply st_alloc (dst := some 2) H); exact nF; intro b2) | ((with_reducible apply st_storerow H); rfl; exact eF; (first | exact cells_agg _ | exact cellI | exact cellS | exact cellB | exact (rfl : _ = [_])); exact uF; kernel_rfl; exact Nat.succ_pos _; exact fitF; rfl)); clear H; intro wn H; simp only [Act.put, yA, yB, yC, yD, yE, yF]) | fail)
  refine bp_cell H rfl rfl iF (by kernel_rfl) (by kernel_rfl) rfl (by first | exact .inl rfl | exact .inr rfl) ?_
  exact ⟨rfl, H.below⟩
namespace M
theorem rep_cnt {α : Type} {K : Mark α} {a : α} (n : Nat) : K.cntl (List.replicate n a) = n * K.cnt a := by
  induction n with
  | zero => simp [Mark.cntl]
  | succ n ih => rw [List.replicate_succ]; show K.cnt a + K.cntl (List.replicate n a) = _; rw [ih, Nat.succ_mul]; omega
theorem stateNew_cnt (c : Cfg) : mkSO.cnt (stateNew c) ≤ mkCfg.cnt c + 6 := by
  unfold stateNew
  split
  · rename_i h
    obtain ⟨_, _, h6, _⟩ := cfg_fits h
    have h1 : mkNd.list.cnt (List.replicate c.1.length newNd) = c.1.length * 1 := rep_cnt _
    have h2 : mkBo.list.cnt (List.replicate c.2.1.length newBo) = c.2.1.length * 0 := rep_cnt _
    show (mkCfg.cnt c + (mkNd.list.cnt (List.replicate c.1.length newNd) + (0 + (0 + 0)))) + mkBo.list.cnt (List.replicate c.2.1.length newBo) + 0 ≤ _
    rw [h1, h2]
    omega
  · exact Nat.zero_le _
end M
set_option maxRecDepth 100000 in
set_option maxHeartbeats 4000000 in
theorem yardNew_i (c : Cfg) (cs : List Value) (w : World) (hrc : tyCfg.rd w cs c) : Rets Tryz.prog [] 28 #[.agg cs.toArray] w (tAgg tyYO (yardNew c)) := by
  have c1 := fun w1 hb => configRight_i c cs w1 (Ty.below _ hrc hb)
  have hfit := @cfg_fits c
  have c2 := fun hf w1 hb => (copyConfig_i c cs hf w1 (Ty.below _ hrc hb)).lit (fun v M w' h hp => tCfg_of h hp)
  have c3 := fun n h0 h6 w1 => nodesNew_i n h0 h6 w1
  obtain ⟨v1, v2, v3, rfl, h1, h2, h3⟩ := cfg_form hrc
  have hyn : yardNew c = if cfgOk c = true then (newYd c, (0, 0)) else (zeroYd, (0, 1)) := rfl
  rw [hyn]
  clear hyn
  obtain ⟨hv, hhv⟩ : ∃ n, n = c.2.2.2 := ⟨_, rfl⟩
  rw [← hhv] at c1 c2 ⊢
  replace c1 : ∀ w1, Below w.heap.size w w1 → Gives Tryz.prog 55 #[.agg #[v1, v2, v3, .int .i64 hv]] w1 (.bool (cfgOk c)) := c1
  replace c2 : fitsCfg c → ∀ w1, Below w.heap.size w w1 → Rets Tryz.prog [] 56 #[.agg #[v1, v2, v3, .int .i64 hv]] w1 (tCfg c) := c2
  show Rets Tryz.prog [] _ #[.agg #[v1, v2, v3, .int .i64 hv]] w _
  have HV := Lib.hid hhv
  clear hhv
  generalize cfgOk c = z at *
  obtain ⟨D1, d1, rfl, _, _⟩ := sl_form h1
  clear hrc h1 h2 h3
  have H := Hs.start noRow w
  refine Rets.of ?_
  cases z
  case false =>
    clear hfit c2 c3
    go_enter Tryz.func28, Tryz.ntmps28
    go_wp2_with (first | ((first | ((with_reducible apply st_load1 H); decide +kernel; rfl; exact cF) | ((with_reducible apply st_loads H); decide +kernel; rfl; exact iF; exact zF; rfl) | ((with_reducible apply st_store H); rfl; exact eF; (focus (exact cells_agg _)); exact uF; kernel_rfl; (focus (exact Nat.le_of_ble_eq_true (by rfl))); (focus (first | rfl | simp))) | ((with_reducible apply st_storeown H); rfl; exact eF; (focus (exact (rfl : _ = [_]))); exact uF; (focus omega); kernel_rfl; rfl)); clear H; intro wn H; (try simp only [splice, yG, yH, yI, yJ, yK, yL, yM, yN, yO, yP, yQ, Nat.reduceAdd, yA, yB, yC] at H); simp only [Act.put, yA, yB, yC, yD, yE, yF]) | ((first | ((with_reducible apply st_box (dst := some 1) H); exact nF; intro b1) | ((with_reducible apply st_alloc (dst := some 2) H); exact nF; intro b2) | ((with_reducible apply st_loadat H); decide +kernel; rfl; exact aF; exact zF; rfl) | ((with_reducible apply st_storerow H); rfl; exact eF; (first | exact cells_agg _ | exact cellI | exact cellS | exact cellB | exact (rfl : _ = [_])); exact uF; kernel_rfl; exact Nat.succ_pos _; exact fitF; rfl)); clear H; intro wn H; simp only [Act.put, yA, yB, yC, yD, yE, yF]) | ((first | (go_at_call 55; refine gvF (c1 _ H.below) H ?_)); clear H; intro wn H) | fail)
    refine bp_cell H rfl rfl iF (by kernel_rfl) (by kernel_rfl) rfl (by first | exact .inl rfl | exact .inr rfl) ?_
    exact ret_illY H 1
  obtain ⟨hft, hn0, hn6, _⟩ := hfit rfl
  have c4 := c2 hft
  have c5 := c3 c.1.length hn0 hn6
  obtain ⟨n, hn⟩ : ∃ n, n = c.1.length := ⟨_, rfl⟩
  rw [← hn] at c1 c4 c5 hn0 hn6 ⊢
  have HN := Lib.hid hn
  clear hft c2 c3 hn
  obtain ⟨cAt, cA0, cA1, cA2, cA3, _⟩ := cAt_ex
  go_enter Tryz.func28, Tryz.ntmps28
  go_wp2_with (first | ((first | ((with_reducible apply st_load1 H); decide +kernel; rfl; exact cF) | ((with_reducible apply st_loads H); decide +kernel; rfl; exact iF; exact zF; rfl) | ((with_reducible apply st_store H); rfl; exact eF; (focus (exact cells_agg _)); exact uF; kernel_rfl; (focus (exact Nat.le_of_ble_eq_true (by rfl))); (focus (first | rfl | simp))) | ((with_reducible apply st_storeown H); rfl; exact eF; (focus (exact (rfl : _ = [_]))); exact uF; (focus omega); kernel_rfl; rfl)); clear H; intro wn H; (try simp only [splice, yG, yH, yI, yJ, yK, yL, yM, yN, yO, yP, yQ, Nat.reduceAdd, yA, yB, yC] at H); simp only [Act.put, yA, yB, yC, yD, yE, yF]) | ((first | ((with_reducible apply st_box (dst := some 1) H); exact nF; intro b1) | ((with_reducible apply st_alloc (dst := some 2) H); exact nF; intro b2) | ((with_reducible apply st_loadat H); decide +kernel; rfl; exact aF; exact zF; rfl) | ((with_reducible apply st_storerow H); rfl; exact eF; (first | exact cells_agg _ | exact cellI | exact cellS | exact cellB | exact (rfl : _ = [_])); exact uF; kernel_rfl; exact Nat.succ_pos _; exact fitF; rfl)); clear H; intro wn H; simp only [Act.put, yA, yB, yC, yD, yE, yF]) | ((first | (go_at_call 55; refine gvF (c1 _ H.below) H ?_)); clear H; intro wn H) | fail)
  apply wp_region_hs (K := []) (Spec.V _ :: Spec.T _ :: Spec.V _ :: Spec.V _ :: Spec.V _ :: Spec.T _ :: Spec.V _ :: Spec.V _ :: []) 8 H rfl (by simp) (by kernel_rfl) (by kernel_rfl); intro vs Ls; (iterate 1 ((with_reducible apply wpH_V); (focus rfl); (focus rfl); (focus (intro w1 H1; exact oF)); simp only [Act.put, yA, yB, yC, yD, yE, yF]; (try simp only [yG, yH, yJ, yK]))); (with_reducible apply wpH_T); (focus rfl); (focus rfl); (focus (intro hk w1 H1; unfold OpOk; go_simp; exact now_call (c4 _ H1.below))); simp only [Act.put, yA, yB, yC, yD, yE, yF]; (iterate 3 ((with_reducible apply wpH_V); (focus rfl); (focus rfl); (focus (intro w1 H1; exact oF)); simp only [Act.put, yA, yB, yC, yD, yE, yF]; (try simp only [yG, yH, yJ, yK]))); (with_reducible apply wpH_T); (focus rfl); (focus rfl); (focus (intro hk w1 H1; unfold OpOk; go_simp; exact now_call (c5 _))); simp only [Act.put, yA, yB, yC, yD, yE, yF]; (with_reducible apply wpH_VK); (focus rfl); (focus rfl); (focus (intro hk w1 H1; have q1 := okT (hk 1 (by decide +kernel) (by decide)) rfl; have q5 := okT (hk 5 (by decide +kernel) (by decide)) rfl; exact ok_buildYd cA0 cA1 cA2 cA3 rfl rfl q1.form q5.form)); simp only [Act.put, yA, yB, yC, yD, yE, yF]; (iterate 1 ((with_reducible apply wpH_V); (focus rfl); (focus rfl); (focus (intro w1 H1; exact oF)); simp only [Act.put, yA, yB, yC, yD, yE, yF]; (try simp only [yG, yH, yJ, yK]))); refine wpH_0 ?_; intro hok wn Hn; (try simp only [yT, yU, yV, yW] at Hn); clear H; have H := Hn; clear Hn; have ht1 := okT (hok 1 (by decide)) rfl; have ht5 := okT (hok 5 (by decide)) rfl; clear hok; obtain ⟨A1, m1, k1, A2, m2, k2, A3, m3, k3, N1, e1, o1, l1⟩ := ht1; simp only [e1, l1, yT, yU, yV] at H ⊢; clear e1 l1; obtain ⟨A5, k5, N5, e5, o5, l5⟩ := ht5; simp only [e5, l5, yT, yU, yV] at H ⊢; clear e5 l5; rotate_left; (focus (refine locs ?_; intro vs1 vs2; (iterate 8 (refine all_lt_succ ?_ (by first | exact (fun _ => rfl) | exact (fun _ => ⟨rfl, rfl⟩) | (intro h; simp only [spec, Spec.same, yR, yS, Option.getD_some]; (try rw [h 1 (by decide +kernel)]); (try rw [h 5 (by decide +kernel)]); (first | done | exact ⟨rfl, rfl⟩ | exact ⟨trivial, rfl⟩ | exact ⟨rfl, trivial⟩))))); exact (fun k hk => absurd hk (Nat.not_lt_zero k))))
  simp only [cA0, cA1, cA2, cA3]
  go_wp2_with (first | ((first | ((with_reducible apply st_load1 H); decide +kernel; rfl; exact cF) | ((with_reducible apply st_loads H); decide +kernel; rfl; exact iF; exact zF; rfl) | ((with_reducible apply st_store H); rfl; exact eF; (focus (exact cells_agg _)); exact uF; kernel_rfl; (focus (exact Nat.le_of_ble_eq_true (by rfl))); (focus (first | rfl | simp))) | ((with_reducible apply st_storeown H); rfl; exact eF; (focus (exact (rfl : _ = [_]))); exact uF; (focus omega); kernel_rfl; rfl)); clear H; intro wn H; (try simp only [splice, yG, yH, yI, yJ, yK, yL, yM, yN, yO, yP, yQ, Nat.reduceAdd, yA, yB, yC] at H); simp only [Act.put, yA, yB, yC, yD, yE, yF]) | ((first | ((with_reducible apply st_box (dst := some 1) H); exact nF; intro b1) | ((with_reducible apply st_alloc (dst := some 2) H); exact nF; intro b2) | ((with_reducible apply st_loadat H); decide +kernel; rfl; exact aF; exact zF; rfl) | ((with_reducible apply st_storerow H); rfl; exact eF; (first | exact cells_agg _ | exact cellI | exact cellS | exact cellB | exact (rfl : _ = [_])); exact uF; kernel_rfl; exact Nat.succ_pos _; exact fitF; rfl)); clear H; intro wn H; simp only [Act.put, yA, yB, yC, yD, yE, yF]) | ((first | (go_at_call 55; refine gvF (c1 _ H.below) H ?_)); clear H; intro wn H) | fail)
  refine bp_cell H rfl rfl iF (by kernel_rfl) (by kernel_rfl) rfl (by first | exact .inl rfl | exact .inr rfl) ?_
  have H2 := (((H.sel (M := [Hl.all N1, Hl.all N5]) sF).putRow 160 14 none).putRow 163 4 none)
  have H3 := Hs.pack (M := [Hl.row 163 4 (.slice none 0 0) 0 []]) H2
  have H4 := Hs.pack (M := [Hl.row 160 14 (.slice none 0 0) 0 []]) H3.up1
  have H5 : Hs noRow w ([N1, N5, [Hl.row 160 14 (.slice none 0 0) 0 []], [Hl.row 163 4 (.slice none 0 0) 0 []]].map Hl.all ++ []) _ := H4.sel (M := [Hl.all N1, Hl.all N5, Hl.all [Hl.row 160 14 (.slice none 0 0) 0 []], Hl.all [Hl.row 163 4 (.slice none 0 0) 0 []]]) sF
  have H6 := Hs.joinL _ H5
  rw [← List.append_nil (List.flatten _)] at H6
  (try rw [if_pos rfl])
  exact Hs.retd H6 (List.Sublist.refl _) ⟨[_, _, _, _, _, _, _, _, _, _], _, rfl, ⟨[_, _, _, _, _, _, _, _], [_, _], _, [], rfl, rfl,
    ⟨[_, _, _, _], [_, _, _, _], _, _, rfl, rfl, o1, [_], [_, _, _], _, _, rfl, rfl, by show (Ty.sl 126 tyNd).own _ (List.replicate c.1.length newNd) N5; rw [← HN.out]; exact o5, [_], [_, _], _, _, rfl, rfl, own_none _, [_], [_], _, [], rfl, rfl, own_none _, rfl, rfl⟩, rfl, rfl⟩, rfl⟩
set_option maxRecDepth 100000 in
set_option maxHeartbeats 4000000 in
theorem stateNew_i (c : Cfg) (cs : List Value) (w : World) (hrc : tyCfg.rd w cs c) : Rets Tryz.prog [] 8 #[.agg cs.toArray] w (tAgg tySO (stateNew c)) := by
  have c1 := fun w1 hb => yardNew_i c cs w1 (Ty.below _ hrc hb)
  have c2 := fun w1 hb => (mailNew_i c cs w1 (Ty.below _ hrc hb)).lit (fun v M w' h hp => tMl_of h hp)
  have hsn : stateNew c = if cfgOk c = true then (newSt c, (0, 0)) else (zeroSt, (0, 1)) := rfl
  have hyn : yardNew c = if cfgOk c = true then (newYd c, (0, 0)) else (zeroYd, (0, 1)) := rfl
  have hmn : newMl c = if cfgOk c = true then List.replicate c.2.1.length newBo else [] := rfl
  rw [hsn]
  rw [hyn] at c1
  rw [hmn] at c2
  clear hsn hyn hmn
  obtain ⟨A1, n1, k1, A2, n2, k2, A3, n3, k3, rfl⟩ := cfg_lit hrc
  obtain ⟨hv, hhv⟩ : ∃ n, n = c.2.2.2 := ⟨_, rfl⟩
  rw [← hhv] at c1 c2 ⊢
  have HV := Lib.hid hhv
  clear hhv
  generalize cfgOk c = z at *
  clear hrc
  have H := Hs.start noRow w
  refine Rets.of ?_
  cases z
  case false =>
    replace c1 : ∀ w1, Below w.heap.size w w1 → Rets Tryz.prog [] 28 #[.agg #[.slice A1 n1 k1, .slice A2 n2 k2, .slice A3 n3 k3, .int .i64 hv]] w1 (tAgg tyYO (zeroYd, (0, 1))) := c1
    clear c2
    show Calls Tryz.prog _ #[.agg #[.slice A1 n1 k1, .slice A2 n2 k2, .slice A3 n3 k3, .int .i64 hv]] w _
    go_enter Tryz.func8, Tryz.ntmps8
    go_wp2_with (first | ((first | ((with_reducible apply st_load1 H); decide +kernel; rfl; exact cF) | ((with_reducible apply st_loads H); decide +kernel; rfl; exact iF; exact zF; rfl) | ((with_reducible apply st_store H); rfl; exact eF; (focus (exact cells_agg _)); exact uF; kernel_rfl; (focus (exact Nat.le_of_ble_eq_true (by rfl))); (focus (first | rfl | simp))) | ((with_reducible apply st_storeown H); rfl; exact eF; (focus (exact (rfl : _ = [_]))); exact uF; (focus omega); kernel_rfl; rfl)); clear H; intro wn H; (try simp only [splice, yG, yH, yI, yJ, yK, yL, yM, yN, yO, yP, yQ, Nat.reduceAdd, yA, yB, yC] at H); simp only [Act.put, yA, yB, yC, yD, yE, yF]) | ((first | ((with_reducible apply st_box (dst := some 1) H); exact nF; intro b1) | ((with_reducible apply st_alloc (dst := some 2) H); exact nF; intro b2) | ((with_reducible apply st_alloc (dst := some 3) H); exact nF; intro b3) | ((with_reducible apply st_strsum H); rfl; rfl; exact szF; kernel_rfl) | ((with_reducible apply st_loadat H); decide +kernel; rfl; exact aF; exact zF; rfl) | ((with_reducible apply st_storerow H); rfl; exact eF; (first | exact cells_agg _ | exact cellI | exact cellS | exact cellB | exact (rfl : _ = [_])); exact uF; kernel_rfl; exact Nat.succ_pos _; exact fitF; rfl)); clear H; intro wn H; simp only [Act.put, yA, yB, yC, yD, yE, yF]) | fail)
    refine (Rets.use (c1 _ H.below)).mono ?_; rintro e wn ⟨_, _, rfl, ⟨d4, N4, rfl, o4, rfl⟩, hkk⟩; have Hn := H.moreK (by intro k hk; first | exact absurd hk List.not_mem_nil | (obtain rfl := List.mem_singleton.1 hk; exact In.mem iF)) hkk; clear hkk; clear H; have H := Hn; clear Hn; (try simp only [yT, yV] at H)
    obtain ⟨B1, m1, j1, B2, m2, j2, B3, m3, j3, B4, m4, j4, B5, m5, j5, B6, m6, j6, rfl⟩ := YO_lit (own_rd H .here o4)
    go_wp2_with (first | ((first | ((with_reducible apply st_load1 H); decide +kernel; rfl; exact cF) | ((with_reducible apply st_loads H); decide +kernel; rfl; exact iF; exact zF; rfl) | ((with_reducible apply st_store H); rfl; exact eF; (focus (exact cells_agg _)); exact uF; kernel_rfl; (focus (exact Nat.le_of_ble_eq_true (by rfl))); (focus (first | rfl | simp))) | ((with_reducible apply st_storeown H); rfl; exact eF; (focus (exact (rfl : _ = [_]))); exact uF; (focus omega); kernel_rfl; rfl)); clear H; intro wn H; (try simp only [splice, yG, yH, yI, yJ, yK, yL, yM, yN, yO, yP, yQ, Nat.reduceAdd, yA, yB, yC] at H); simp only [Act.put, yA, yB, yC, yD, yE, yF]) | ((first | ((with_reducible apply st_box (dst := some 1) H); exact nF; intro b1) | ((with_reducible apply st_alloc (dst := some 2) H); exact nF; intro b2) | ((with_reducible apply st_alloc (dst := some 3) H); exact nF; intro b3) | ((with_reducible apply st_strsum H); rfl; rfl; exact szF; kernel_rfl) | ((with_reducible apply st_loadat H); decide +kernel; rfl; exact aF; exact zF; rfl) | ((with_reducible apply st_storerow H); rfl; exact eF; (first | exact cells_agg _ | exact cellI | exact cellS | exact cellB | exact (rfl : _ = [_])); exact uF; kernel_rfl; exact Nat.succ_pos _; exact fitF; rfl)); clear H; intro wn H; simp only [Act.put, yA, yB, yC, yD, yE, yF]) | fail)
    refine bp_cell H rfl rfl iF (by kernel_rfl) (by kernel_rfl) rfl (by first | exact .inl rfl | exact .inr rfl) ?_
    exact ret_illS H 1
  replace c1 : ∀ w1, Below w.heap.size w w1 → Rets Tryz.prog [] 28 #[.agg #[.slice A1 n1 k1, .slice A2 n2 k2, .slice A3 n3 k3, .int .i64 hv]] w1 (tAgg tyYO (newYd c, (0, 0))) := c1
  replace c2 : ∀ w1, Below w.heap.size w w1 → Rets Tryz.prog [] 29 #[.agg #[.slice A1 n1 k1, .slice A2 n2 k2, .slice A3 n3 k3, .int .i64 hv]] w1 (tMl (List.replicate c.2.1.length newBo)) := c2
  show Calls Tryz.prog _ #[.agg #[.slice A1 n1 k1, .slice A2 n2 k2, .slice A3 n3 k3, .int .i64 hv]] w (RPost [] w (tAgg tySO (newSt c, (0, 0))))
  go_enter Tryz.func8, Tryz.ntmps8
  go_wp2_with (first | ((first | ((with_reducible apply st_load1 H); decide +kernel; rfl; exact cF) | ((with_reducible apply st_loads H); decide +kernel; rfl; exact iF; exact zF; rfl) | ((with_reducible apply st_store H); rfl; exact eF; (focus (exact cells_agg _)); exact uF; kernel_rfl; (focus (exact Nat.le_of_ble_eq_true (by rfl))); (focus (first | rfl | simp))) | ((with_reducible apply st_storeown H); rfl; exact eF; (focus (exact (rfl : _ = [_]))); exact uF; (focus omega); kernel_rfl; rfl)); clear H; intro wn H; (try simp only [splice, yG, yH, yI, yJ, yK, yL, yM, yN, yO, yP, yQ, Nat.reduceAdd, yA, yB, yC] at H); simp only [Act.put, yA, yB, yC, yD, yE, yF]) | ((first | ((with_reducible apply st_box (dst := some 1) H); exact nF; intro b1) | ((with_reducible apply st_alloc (dst := some 2) H); exact nF; intro b2) | ((with_reducible apply st_alloc (dst := some 3) H); exact nF; intro b3) | ((with_reducible apply st_strsum H); rfl; rfl; exact szF; kernel_rfl) | ((with_reducible apply st_loadat H); decide +kernel; rfl; exact aF; exact zF; rfl) | ((with_reducible apply st_storerow H); rfl; exact eF; (first | exact cells_agg _ | exact cellI | exact cellS | exact cellB | exact (rfl : _ = [_])); exact uF; kernel_rfl; exact Nat.succ_pos _; exact fitF; rfl)); clear H; intro wn H; simp only [Act.put, yA, yB, yC, yD, yE, yF]) | fail)
  refine (Rets.use (c1 _ H.below)).mono ?_; rintro e wn ⟨_, _, rfl, ⟨d4, N4, rfl, o4, rfl⟩, hkk⟩; have Hn := H.moreK (by intro k hk; first | exact absurd hk List.not_mem_nil | (obtain rfl := List.mem_singleton.1 hk; exact In.mem iF)) hkk; clear hkk; clear H; have H := Hn; clear Hn; (try simp only [yT, yV] at H)
  obtain ⟨B1, m1, j1, B2, m2, j2, B3, m3, j3, B4, m4, j4, B5, m5, j5, B6, m6, j6, rfl⟩ := YO_lit (own_rd H .here o4)
  obtain ⟨x1, y1, P1, P2, hc1, hP, o5, hy1, hP2⟩ := o4
  have hy2 : y1 = [.int .i64 0, .int .i64 0] := hy1
  subst hy2 hP2
  rw [List.append_nil] at hP
  subst hP
  have hx1 : x1 = [.slice B1 m1 j1, .slice B2 m2 j2, .slice B3 m3 j3, .int .i64 (newYd c, ((0 : Int), (0 : Int))).1.1.2.2.2, .slice B4 m4 j4, .slice B5 m5 j5, .slice B6 m6 j6, .int .i64 (newYd c, ((0 : Int), (0 : Int))).1.2.2.2.2] := by
    have h : [.slice B1 m1 j1, .slice B2 m2 j2, .slice B3 m3 j3, .int .i64 (newYd c, ((0 : Int), (0 : Int))).1.1.2.2.2, .slice B4 m4 j4, .slice B5 m5 j5, .slice B6 m6 j6, .int .i64 (newYd c, ((0 : Int), (0 : Int))).1.2.2.2.2] ++ [.int .i64 0, .int .i64 0] = x1 ++ [.int .i64 0, .int .i64 0] := hc1
    exact (List.append_inj' h rfl).1.symm
  subst hx1
  clear hc1 hy1
  obtain ⟨cAt, _, _, _, _, cB0⟩ := cAt_ex
  go_wp2_with (first | ((first | ((with_reducible apply st_load1 H); decide +kernel; rfl; exact cF) | ((with_reducible apply st_loads H); decide +kernel; rfl; exact iF; exact zF; rfl) | ((with_reducible apply st_store H); rfl; exact eF; (focus (exact cells_agg _)); exact uF; kernel_rfl; (focus (exact Nat.le_of_ble_eq_true (by rfl))); (focus (first | rfl | simp))) | ((with_reducible apply st_storeown H); rfl; exact eF; (focus (exact (rfl : _ = [_]))); exact uF; (focus omega); kernel_rfl; rfl)); clear H; intro wn H; (try simp only [splice, yG, yH, yI, yJ, yK, yL, yM, yN, yO, yP, yQ, Nat.reduceAdd, yA, yB, yC] at H); simp only [Act.put, yA, yB, yC, yD, yE, yF]) | ((first | ((with_reducible apply st_box (dst := some 1) H); exact nF; intro b1) | ((with_reducible apply st_alloc (dst := some 2) H); exact nF; intro b2) | ((with_reducible apply st_alloc (dst := some 3) H); exact nF; intro b3) | ((with_reducible apply st_strsum H); rfl; rfl; exact szF; kernel_rfl) | ((with_reducible apply st_loadat H); decide +kernel; rfl; exact aF; exact zF; rfl) | ((with_reducible apply st_storerow H); rfl; exact eF; (first | exact cells_agg _ | exact cellI | exact cellS | exact cellB | exact (rfl : _ = [_])); exact uF; kernel_rfl; exact Nat.succ_pos _; exact fitF; rfl)); clear H; intro wn H; simp only [Act.put, yA, yB, yC, yD, yE, yF]) | fail)
  apply wp_region_hs (K := []) (Spec.V _ :: Spec.V _ :: Spec.V _ :: Spec.T _ :: Spec.V _ :: Spec.V _ :: []) 6 H rfl (by simp) (by kernel_rfl) (by kernel_rfl); intro vs Ls; (iterate 3 ((with_reducible apply wpH_V); (focus rfl); (focus rfl); (focus (intro w1 H1; exact oF)); simp only [Act.put, yA, yB, yC, yD, yE, yF]; (try simp only [yG, yH, yJ, yK]))); (with_reducible apply wpH_T); (focus rfl); (focus rfl); (focus (intro hk w1 H1; unfold OpOk; go_simp; exact now_call (c2 _ H1.below))); simp only [Act.put, yA, yB, yC, yD, yE, yF]; (with_reducible apply wpH_VK); (focus rfl); (focus rfl); (focus (intro hk w1 H1; have q3 := okT (hk 3 (by decide +kernel) (by decide)) rfl; exact ok_buildSt cB0 rfl rfl q3.form)); simp only [Act.put, yA, yB, yC, yD, yE, yF]; (iterate 1 ((with_reducible apply wpH_V); (focus rfl); (focus rfl); (focus (intro w1 H1; exact oF)); simp only [Act.put, yA, yB, yC, yD, yE, yF]; (try simp only [yG, yH, yJ, yK]))); refine wpH_0 ?_; intro hok wn Hn; (try simp only [yT, yU, yV, yW] at Hn); clear H; have H := Hn; clear Hn; have ht3 := okT (hok 3 (by decide)) rfl; clear hok; obtain ⟨A7, m7, k7, N7, e3, o7, l3⟩ := ht3; simp only [e3, l3, yT, yU, yV] at H ⊢; clear e3 l3; rotate_left; (focus (refine locs ?_; intro vs1 vs2; (iterate 6 (refine all_lt_succ ?_ (by first | exact (fun _ => rfl) | exact (fun _ => ⟨rfl, rfl⟩) | (intro h; simp only [spec, Spec.same, yR, yS, Option.getD_some]; (try rw [h 3 (by decide +kernel)]); (first | done | exact ⟨rfl, rfl⟩ | exact ⟨trivial, rfl⟩ | exact ⟨rfl, trivial⟩))))); exact (fun k hk => absurd hk (Nat.not_lt_zero k))))
  simp only [cB0]
  go_wp2_with (first | ((first | ((with_reducible apply st_load1 H); decide +kernel; rfl; exact cF) | ((with_reducible apply st_loads H); decide +kernel; rfl; exact iF; exact zF; rfl) | ((with_reducible apply st_store H); rfl; exact eF; (focus (exact cells_agg _)); exact uF; kernel_rfl; (focus (exact Nat.le_of_ble_eq_true (by rfl))); (focus (first | rfl | simp))) | ((with_reducible apply st_storeown H); rfl; exact eF; (focus (exact (rfl : _ = [_]))); exact uF; (focus omega); kernel_rfl; rfl)); clear H; intro wn H; (try simp only [splice, yG, yH, yI, yJ, yK, yL, yM, yN, yO, yP, yQ, Nat.reduceAdd, yA, yB, yC] at H); simp only [Act.put, yA, yB, yC, yD, yE, yF]) | ((first | ((with_reducible apply st_box (dst := some 1) H); exact nF; intro b1) | ((with_reducible apply st_alloc (dst := some 2) H); exact nF; intro b2) | ((with_reducible apply st_alloc (dst := some 3) H); exact nF; intro b3) | ((with_reducible apply st_strsum H); rfl; rfl; exact szF; kernel_rfl) | ((with_reducible apply st_loadat H); decide +kernel; rfl; exact aF; exact zF; rfl) | ((with_reducible apply st_storerow H); rfl; exact eF; (first | exact cells_agg _ | exact cellI | exact cellS | exact cellB | exact (rfl : _ = [_])); exact uF; kernel_rfl; exact Nat.succ_pos _; exact fitF; rfl)); clear H; intro wn H; simp only [Act.put, yA, yB, yC, yD, yE, yF]) | fail)
  refine bp_cell H rfl rfl iF (by kernel_rfl) (by kernel_rfl) rfl (by first | exact .inl rfl | exact .inr rfl) ?_
  have H5 : Hs noRow w [Hl.all N4, Hl.all N7] _ := H.sel sF
  have H6 := H5.join
  rw [← List.append_nil (N4 ++ N7)] at H6
  exact Hs.retd H6 (List.Sublist.refl _) ⟨[_, _, _, _, _, _, _, _, _, _, _], _, rfl, ⟨[_, _, _, _, _, _, _, _, _], [_, _], _, [], rfl, rfl, ⟨[_, _, _, _, _, _, _, _], [_], _, _, rfl, rfl, o5, o7⟩, rfl, rfl⟩, rfl⟩
set_option maxRecDepth 100000 in
set_option maxHeartbeats 4000000 in
theorem yardNew_s (c : Cfg) (cs : List Value) (w : World) (hrc : tyCfg.rd w cs c) : Rets Tryz.prog [] 22 #[.agg cs.toArray] w (tAgg tyYO (yardNew c)) := by
  have c1 := fun w1 hb => configRight_s c cs w1 (Ty.below _ hrc hb)
  have hfit := @cfg_fits c
  have c2 := fun hf w1 hb => (copyConfig_s c cs hf w1 (Ty.below _ hrc hb)).lit (fun v M w' h hp => tCfg_of h hp)
  have c3 := fun n h0 h6 w1 => nodesNew_s n h0 h6 w1
  obtain ⟨v1, v2, v3, rfl, h1, h2, h3⟩ := cfg_form hrc
  have hyn : yardNew c = if cfgOk c = true then (newYd c, (0, 0)) else (zeroYd, (0, 1)) := rfl
  rw [hyn]
  clear hyn
  obtain ⟨hv, hhv⟩ : ∃ n, n = c.2.2.2 := ⟨_, rfl⟩
  rw [← hhv] at c1 c2 ⊢
  replace c1 : ∀ w1, Below w.heap.size w w1 → Gives Tryz.prog 48 #[.agg #[v1, v2, v3, .int .i64 hv]] w1 (.bool (cfgOk c)) := c1
  replace c2 : fitsCfg c → ∀ w1, Below w.heap.size w w1 → Rets Tryz.prog [] 50 #[.agg #[v1, v2, v3, .int .i64 hv]] w1 (tCfg c) := c2
  show Rets Tryz.prog [] _ #[.agg #[v1, v2, v3, .int .i64 hv]] w _
  have HV := Lib.hid hhv
  clear hhv
  generalize cfgOk c = z at *
  obtain ⟨D1, d1, rfl, _, _⟩ := sl_form h1
  clear hrc h1 h2 h3
  have H := Hs.start noRow w
  refine Rets.of ?_
  cases z
  case false =>
    clear hfit c2 c3
    go_enter Tryz.func22, Tryz.ntmps22
    go_wp2_with (first | ((first | ((with_reducible apply st_load1 H); decide +kernel; rfl; exact cF) | ((with_reducible apply st_loads H); decide +kernel; rfl; exact iF; exact zF; rfl) | ((with_reducible apply st_store H); rfl; exact eF; (focus (exact cells_agg _)); exact uF; kernel_rfl; (focus (exact Nat.le_of_ble_eq_true (by rfl))); (focus (first | rfl | simp))) | ((with_reducible apply st_storeown H); rfl; exact eF; (focus (exact (rfl : _ = [_]))); exact uF; (focus omega); kernel_rfl; rfl)); clear H; intro wn H; (try simp only [splice, yG, yH, yI, yJ, yK, yL, yM, yN, yO, yP, yQ, Nat.reduceAdd, yA, yB, yC] at H); simp only [Act.put, yA, yB, yC, yD, yE, yF]) | ((first | ((with_reducible apply st_box (dst := some 1) H); exact nF; intro b1) | ((with_reducible apply st_alloc (dst := some 2) H); exact nF; intro b2) | ((with_reducible apply st_loadat H); decide +kernel; rfl; exact aF; exact zF; rfl) | ((with_reducible apply st_storerow H); rfl; exact eF; (first | exact cells_agg _ | exact cellI | exact cellS | exact cellB | exact (rfl : _ = [_])); exact uF; kernel_rfl; exact Nat.succ_pos _; exact fitF; rfl)); clear H; intro wn H; simp only [Act.put, yA, yB, yC, yD, yE, yF]) | ((first | (go_at_call 48; refine gvF (c1 _ H.below) H ?_) | (go_at_call 49; refine gvF (illY_s _ _) H ?_)); clear H; intro wn H) | fail)
    refine bp_cell H rfl rfl iF (by kernel_rfl) (by kernel_rfl) rfl (by first | exact .inl rfl | exact .inr rfl) ?_
    exact ret_illY H 1
  obtain ⟨hft, hn0, hn6, _⟩ := hfit rfl
  have c4 := c2 hft
  have c5 := c3 c.1.length hn0 hn6
  obtain ⟨n, hn⟩ : ∃ n, n = c.1.length := ⟨_, rfl⟩
  rw [← hn] at c1 c4 c5 hn0 hn6 ⊢
  have HN := Lib.hid hn
  clear hft c2 c3 hn
  obtain ⟨cAt, cA0, cA1, cA2, cA3, _⟩ := cAt_ex
  go_enter Tryz.func22, Tryz.ntmps22
  go_wp2_with (first | ((first | ((with_reducible apply st_load1 H); decide +kernel; rfl; exact cF) | ((with_reducible apply st_loads H); decide +kernel; rfl; exact iF; exact zF; rfl) | ((with_reducible apply st_store H); rfl; exact eF; (focus (exact cells_agg _)); exact uF; kernel_rfl; (focus (exact Nat.le_of_ble_eq_true (by rfl))); (focus (first | rfl | simp))) | ((with_reducible apply st_storeown H); rfl; exact eF; (focus (exact (rfl : _ = [_]))); exact uF; (focus omega); kernel_rfl; rfl)); clear H; intro wn H; (try simp only [splice, yG, yH, yI, yJ, yK, yL, yM, yN, yO, yP, yQ, Nat.reduceAdd, yA, yB, yC] at H); simp only [Act.put, yA, yB, yC, yD, yE, yF]) | ((first | ((with_reducible apply st_box (dst := some 1) H); exact nF; intro b1) | ((with_reducible apply st_alloc (dst := some 2) H); exact nF; intro b2) | ((with_reducible apply st_loadat H); decide +kernel; rfl; exact aF; exact zF; rfl) | ((with_reducible apply st_storerow H); rfl; exact eF; (first | exact cells_agg _ | exact cellI | exact cellS | exact cellB | exact (rfl : _ = [_])); exact uF; kernel_rfl; exact Nat.succ_pos _; exact fitF; rfl)); clear H; intro wn H; simp only [Act.put, yA, yB, yC, yD, yE, yF]) | ((first | (go_at_call 48; refine gvF (c1 _ H.below) H ?_) | (go_at_call 49; refine gvF (illY_s _ _) H ?_)); clear H; intro wn H) | fail)
  apply wp_region_hs (K := []) (Spec.V _ :: Spec.T _ :: Spec.V _ :: Spec.V _ :: Spec.V _ :: Spec.T _ :: Spec.V _ :: Spec.V _ :: []) 8 H rfl (by simp) (by kernel_rfl) (by kernel_rfl); intro vs Ls; (iterate 1 ((with_reducible apply wpH_V); (focus rfl); (focus rfl); (focus (intro w1 H1; exact oF)); simp only [Act.put, yA, yB, yC, yD, yE, yF]; (try simp only [yG, yH, yJ, yK]))); (with_reducible apply wpH_T); (focus rfl); (focus rfl); (focus (intro hk w1 H1; unfold OpOk; go_simp; exact now_call (c4 _ H1.below))); simp only [Act.put, yA, yB, yC, yD, yE, yF]; (iterate 3 ((with_reducible apply wpH_V); (focus rfl); (focus rfl); (focus (intro w1 H1; exact oF)); simp only [Act.put, yA, yB, yC, yD, yE, yF]; (try simp only [yG, yH, yJ, yK]))); (with_reducible apply wpH_T); (focus rfl); (focus rfl); (focus (intro hk w1 H1; unfold OpOk; go_simp; exact now_call (c5 _))); simp only [Act.put, yA, yB, yC, yD, yE, yF]; (with_reducible apply wpH_VK); (focus rfl); (focus rfl); (focus (intro hk w1 H1; have q1 := okT (hk 1 (by decide +kernel) (by decide)) rfl; have q5 := okT (hk 5 (by decide +kernel) (by decide)) rfl; exact ok_buildYd cA0 cA1 cA2 cA3 rfl rfl q1.form q5.form)); simp only [Act.put, yA, yB, yC, yD, yE, yF]; (iterate 1 ((with_reducible apply wpH_V); (focus rfl); (focus rfl); (focus (intro w1 H1; exact oF)); simp only [Act.put, yA, yB, yC, yD, yE, yF]; (try simp only [yG, yH, yJ, yK]))); refine wpH_0 ?_; intro hok wn Hn; (try simp only [yT, yU, yV, yW] at Hn); clear H; have H := Hn; clear Hn; have ht1 := okT (hok 1 (by decide)) rfl; have ht5 := okT (hok 5 (by decide)) rfl; clear hok; obtain ⟨A1, m1, k1, A2, m2, k2, A3, m3, k3, N1, e1, o1, l1⟩ := ht1; simp only [e1, l1, yT, yU, yV] at H ⊢; clear e1 l1; obtain ⟨A5, k5, N5, e5, o5, l5⟩ := ht5; simp only [e5, l5, yT, yU, yV] at H ⊢; clear e5 l5; rotate_left; (focus (refine locs ?_; intro vs1 vs2; (iterate 8 (refine all_lt_succ ?_ (by first | exact (fun _ => rfl) | exact (fun _ => ⟨rfl, rfl⟩) | (intro h; simp only [spec, Spec.same, yR, yS, Option.getD_some]; (try rw [h 1 (by decide +kernel)]); (try rw [h 5 (by decide +kernel)]); (first | done | exact ⟨rfl, rfl⟩ | exact ⟨trivial, rfl⟩ | exact ⟨rfl, trivial⟩))))); exact (fun k hk => absurd hk (Nat.not_lt_zero k))))
  simp only [cA0, cA1, cA2, cA3]
  go_wp2_with (first | ((first | ((with_reducible apply st_load1 H); decide +kernel; rfl; exact cF) | ((with_reducible apply st_loads H); decide +kernel; rfl; exact iF; exact zF; rfl) | ((with_reducible apply st_store H); rfl; exact eF; (focus (exact cells_agg _)); exact uF; kernel_rfl; (focus (exact Nat.le_of_ble_eq_true (by rfl))); (focus (first | rfl | simp))) | ((with_reducible apply st_storeown H); rfl; exact eF; (focus (exact (rfl : _ = [_]))); exact uF; (focus omega); kernel_rfl; rfl)); clear H; intro wn H; (try simp only [splice, yG, yH, yI, yJ, yK, yL, yM, yN, yO, yP, yQ, Nat.reduceAdd, yA, yB, yC] at H); simp only [Act.put, yA, yB, yC, yD, yE, yF]) | ((first | ((with_reducible apply st_box (dst := some 1) H); exact nF; intro b1) | ((with_reducible apply st_alloc (dst := some 2) H); exact nF; intro b2) | ((with_reducible apply st_loadat H); decide +kernel; rfl; exact aF; exact zF; rfl) | ((with_reducible apply st_storerow H); rfl; exact eF; (first | exact cells_agg _ | exact cellI | exact cellS | exact cellB | exact (rfl : _ = [_])); exact uF; kernel_rfl; exact Nat.succ_pos _; exact fitF; rfl)); clear H; intro wn H; simp only [Act.put, yA, yB, yC, yD, yE, yF]) | ((first | (go_at_call 48; refine gvF (c1 _ H.below) H ?_) | (go_at_call 49; refine gvF (illY_s _ _) H ?_)); clear H; intro wn H) | fail)
  refine bp_cell H rfl rfl iF (by kernel_rfl) (by kernel_rfl) rfl (by first | exact .inl rfl | exact .inr rfl) ?_
  have H2 := (((H.sel (M := [Hl.all N1, Hl.all N5]) sF).putRow 160 14 none).putRow 163 4 none)
  have H3 := Hs.pack (M := [Hl.row 163 4 (.slice none 0 0) 0 []]) H2
  have H4 := Hs.pack (M := [Hl.row 160 14 (.slice none 0 0) 0 []]) H3.up1
  have H5 : Hs noRow w ([N1, N5, [Hl.row 160 14 (.slice none 0 0) 0 []], [Hl.row 163 4 (.slice none 0 0) 0 []]].map Hl.all ++ []) _ := H4.sel (M := [Hl.all N1, Hl.all N5, Hl.all [Hl.row 160 14 (.slice none 0 0) 0 []], Hl.all [Hl.row 163 4 (.slice none 0 0) 0 []]]) sF
  have H6 := Hs.joinL _ H5
  rw [← List.append_nil (List.flatten _)] at H6
  (try rw [if_pos rfl])
  exact Hs.retd H6 (List.Sublist.refl _) ⟨[_, _, _, _, _, _, _, _, _, _], _, rfl, ⟨[_, _, _, _, _, _, _, _], [_, _], _, [], rfl, rfl,
    ⟨[_, _, _, _], [_, _, _, _], _, _, rfl, rfl, o1, [_], [_, _, _], _, _, rfl, rfl, by show (Ty.sl 126 tyNd).own _ (List.replicate c.1.length newNd) N5; rw [← HN.out]; exact o5, [_], [_, _], _, _, rfl, rfl, own_none _, [_], [_], _, [], rfl, rfl, own_none _, rfl, rfl⟩, rfl, rfl⟩, rfl⟩
set_option maxRecDepth 100000 in
set_option maxHeartbeats 4000000 in
theorem stateNew_s (c : Cfg) (cs : List Value) (w : World) (hrc : tyCfg.rd w cs c) : Rets Tryz.prog [] 6 #[.agg cs.toArray] w (tAgg tySO (stateNew c)) := by
  have c1 := fun w1 hb => yardNew_s c cs w1 (Ty.below _ hrc hb)
  have c2 := fun w1 hb => (mailNew_s c cs w1 (Ty.below _ hrc hb)).lit (fun v M w' h hp => tMl_of h hp)
  have hsn : stateNew c = if cfgOk c = true then (newSt c, (0, 0)) else (zeroSt, (0, 1)) := rfl
  have hyn : yardNew c = if cfgOk c = true then (newYd c, (0, 0)) else (zeroYd, (0, 1)) := rfl
  have hmn : newMl c = if cfgOk c = true then List.replicate c.2.1.length newBo else [] := rfl
  rw [hsn]
  rw [hyn] at c1
  rw [hmn] at c2
  clear hsn hyn hmn
  obtain ⟨A1, n1, k1, A2, n2, k2, A3, n3, k3, rfl⟩ := cfg_lit hrc
  obtain ⟨hv, hhv⟩ : ∃ n, n = c.2.2.2 := ⟨_, rfl⟩
  rw [← hhv] at c1 c2 ⊢
  have HV := Lib.hid hhv
  clear hhv
  generalize cfgOk c = z at *
  clear hrc
  have H := Hs.start noRow w
  refine Rets.of ?_
  cases z
  case false =>
    replace c1 : ∀ w1, Below w.heap.size w w1 → Rets Tryz.prog [] 22 #[.agg #[.slice A1 n1 k1, .slice A2 n2 k2, .slice A3 n3 k3, .int .i64 hv]] w1 (tAgg tyYO (zeroYd, (0, 1))) := c1
    clear c2
    show Calls Tryz.prog _ #[.agg #[.slice A1 n1 k1, .slice A2 n2 k2, .slice A3 n3 k3, .int .i64 hv]] w _
    go_enter Tryz.func6, Tryz.ntmps6
    go_wp2_with (first | ((first | ((with_reducible apply st_load1 H); decide +kernel; rfl; exact cF) | ((with_reducible apply st_loads H); decide +kernel; rfl; exact iF; exact zF; rfl) | ((with_reducible apply st_store H); rfl; exact eF; (focus (exact cells_agg _)); exact uF; kernel_rfl; (focus (exact Nat.le_of_ble_eq_true (by rfl))); (focus (first | rfl | simp))) | ((with_reducible apply st_storeown H); rfl; exact eF; (focus (exact (rfl : _ = [_]))); exact uF; (focus omega); kernel_rfl; rfl)); clear H; intro wn H; (try simp only [splice, yG, yH, yI, yJ, yK, yL, yM, yN, yO, yP, yQ, Nat.reduceAdd, yA, yB, yC] at H); simp only [Act.put, yA, yB, yC, yD, yE, yF]) | ((first | ((with_reducible apply st_box (dst := some 1) H); exact nF; intro b1) | ((with_reducible apply st_alloc (dst := some 2) H); exact nF; intro b2) | ((with_reducible apply st_alloc (dst := some 3) H); exact nF; intro b3) | ((with_reducible apply st_strsum H); rfl; rfl; exact szF; kernel_rfl) | ((with_reducible apply st_loadat H); decide +kernel; rfl; exact aF; exact zF; rfl) | ((with_reducible apply st_storerow H); rfl; exact eF; (first | exact cells_agg _ | exact cellI | exact cellS | exact cellB | exact (rfl : _ = [_])); exact uF; kernel_rfl; exact Nat.succ_pos _; exact fitF; rfl)); clear H; intro wn H; simp only [Act.put, yA, yB, yC, yD, yE, yF]) | ((first | (go_at_call 23; refine gvF (illS_s _ _) H ?_)); clear H; intro wn H) | fail)
    refine (Rets.use (c1 _ H.below)).mono ?_; rintro e wn ⟨_, _, rfl, ⟨d4, N4, rfl, o4, rfl⟩, hkk⟩; have Hn := H.moreK (by intro k hk; first | exact absurd hk List.not_mem_nil | (obtain rfl := List.mem_singleton.1 hk; exact In.mem iF)) hkk; clear hkk; clear H; have H := Hn; clear Hn; (try simp only [yT, yV] at H)
    obtain ⟨B1, m1, j1, B2, m2, j2, B3, m3, j3, B4, m4, j4, B5, m5, j5, B6, m6, j6, rfl⟩ := YO_lit (own_rd H .here o4)
    go_wp2_with (first | ((first | ((with_reducible apply st_load1 H); decide +kernel; rfl; exact cF) | ((with_reducible apply st_loads H); decide +kernel; rfl; exact iF; exact zF; rfl) | ((with_reducible apply st_store H); rfl; exact eF; (focus (exact cells_agg _)); exact uF; kernel_rfl; (focus (exact Nat.le_of_ble_eq_true (by rfl))); (focus (first | rfl | simp))) | ((with_reducible apply st_storeown H); rfl; exact eF; (focus (exact (rfl : _ = [_]))); exact uF; (focus omega); kernel_rfl; rfl)); clear H; intro wn H; (try simp only [splice, yG, yH, yI, yJ, yK, yL, yM, yN, yO, yP, yQ, Nat.reduceAdd, yA, yB, yC] at H); simp only [Act.put, yA, yB, yC, yD, yE, yF]) | ((first | ((with_reducible apply st_box (dst := some 1) H); exact nF; intro b1) | ((with_reducible apply st_alloc (dst := some 2) H); exact nF; intro b2) | ((with_reducible apply st_alloc (dst := some 3) H); exact nF; intro b3) | ((with_reducible apply st_strsum H); rfl; rfl; exact szF; kernel_rfl) | ((with_reducible apply st_loadat H); decide +kernel; rfl; exact aF; exact zF; rfl) | ((with_reducible apply st_storerow H); rfl; exact eF; (first | exact cells_agg _ | exact cellI | exact cellS | exact cellB | exact (rfl : _ = [_])); exact uF; kernel_rfl; exact Nat.succ_pos _; exact fitF; rfl)); clear H; intro wn H; simp only [Act.put, yA, yB, yC, yD, yE, yF]) | ((first | (go_at_call 23; refine gvF (illS_s _ _) H ?_)); clear H; intro wn H) | fail)
    refine bp_cell H rfl rfl iF (by kernel_rfl) (by kernel_rfl) rfl (by first | exact .inl rfl | exact .inr rfl) ?_
    exact ret_illS H 1
  replace c1 : ∀ w1, Below w.heap.size w w1 → Rets Tryz.prog [] 22 #[.agg #[.slice A1 n1 k1, .slice A2 n2 k2, .slice A3 n3 k3, .int .i64 hv]] w1 (tAgg tyYO (newYd c, (0, 0))) := c1
  replace c2 : ∀ w1, Below w.heap.size w w1 → Rets Tryz.prog [] 24 #[.agg #[.slice A1 n1 k1, .slice A2 n2 k2, .slice A3 n3 k3, .int .i64 hv]] w1 (tMl (List.replicate c.2.1.length newBo)) := c2
  show Calls Tryz.prog _ #[.agg #[.slice A1 n1 k1, .slice A2 n2 k2, .slice A3 n3 k3, .int .i64 hv]] w (RPost [] w (tAgg tySO (newSt c, (0, 0))))
  go_enter Tryz.func6, Tryz.ntmps6
  go_wp2_with (first | ((first | ((with_reducible apply st_load1 H); decide +kernel; rfl; exact cF) | ((with_reducible apply st_loads H); decide +kernel; rfl; exact iF; exact zF; rfl) | ((with_reducible apply st_store H); rfl; exact eF; (focus (exact cells_agg _)); exact uF; kernel_rfl; (focus (exact Nat.le_of_ble_eq_true (by rfl))); (focus (first | rfl | simp))) | ((with_reducible apply st_storeown H); rfl; exact eF; (focus (exact (rfl : _ = [_]))); exact uF; (focus omega); kernel_rfl; rfl)); clear H; intro wn H; (try simp only [splice, yG, yH, yI, yJ, yK, yL, yM, yN, yO, yP, yQ, Nat.reduceAdd, yA, yB, yC] at H); simp only [Act.put, yA, yB, yC, yD, yE, yF]) | ((first | ((with_reducible apply st_box (dst := some 1) H); exact nF; intro b1) | ((with_reducible apply st_alloc (dst := some 2) H); exact nF; intro b2) | ((with_reducible apply st_alloc (dst := some 3) H); exact nF; intro b3) | ((with_reducible apply st_strsum H); rfl; rfl; exact szF; kernel_rfl) | ((with_reducible apply st_loadat H); decide +kernel; rfl; exact aF; exact zF; rfl) | ((with_reducible apply st_storerow H); rfl; exact eF; (first | exact cells_agg _ | exact cellI | exact cellS | exact cellB | exact (rfl : _ = [_])); exact uF; kernel_rfl; exact Nat.succ_pos _; exact fitF; rfl)); clear H; intro wn H; simp only [Act.put, yA, yB, yC, yD, yE, yF]) | ((first | (go_at_call 23; refine gvF (illS_s _ _) H ?_)); clear H; intro wn H) | fail)
  refine (Rets.use (c1 _ H.below)).mono ?_; rintro e wn ⟨_, _, rfl, ⟨d4, N4, rfl, o4, rfl⟩, hkk⟩; have Hn := H.moreK (by intro k hk; first | exact absurd hk List.not_mem_nil | (obtain rfl := List.mem_singleton.1 hk; exact In.mem iF)) hkk; clear hkk; clear H; have H := Hn; clear Hn; (try simp only [yT, yV] at H)
  obtain ⟨B1, m1, j1, B2, m2, j2, B3, m3, j3, B4, m4, j4, B5, m5, j5, B6, m6, j6, rfl⟩ := YO_lit (own_rd H .here o4)
  obtain ⟨x1, y1, P1, P2, hc1, hP, o5, hy1, hP2⟩ := o4
  have hy2 : y1 = [.int .i64 0, .int .i64 0] := hy1
  subst hy2 hP2
  rw [List.append_nil] at hP
  subst hP
  have hx1 : x1 = [.slice B1 m1 j1, .slice B2 m2 j2, .slice B3 m3 j3, .int .i64 (newYd c, ((0 : Int), (0 : Int))).1.1.2.2.2, .slice B4 m4 j4, .slice B5 m5 j5, .slice B6 m6 j6, .int .i64 (newYd c, ((0 : Int), (0 : Int))).1.2.2.2.2] := by
    have h : [.slice B1 m1 j1, .slice B2 m2 j2, .slice B3 m3 j3, .int .i64 (newYd c, ((0 : Int), (0 : Int))).1.1.2.2.2, .slice B4 m4 j4, .slice B5 m5 j5, .slice B6 m6 j6, .int .i64 (newYd c, ((0 : Int), (0 : Int))).1.2.2.2.2] ++ [.int .i64 0, .int .i64 0] = x1 ++ [.int .i64 0, .int .i64 0] := hc1
    exact (List.append_inj' h rfl).1.symm
  subst hx1
  clear hc1 hy1
  obtain ⟨cAt, _, _, _, _, cB0⟩ := cAt_ex
  go_wp2_with (first | ((first | ((with_reducible apply st_load1 H); decide +kernel; rfl; exact cF) | ((with_reducible apply st_loads H); decide +kernel; rfl; exact iF; exact zF; rfl) | ((with_reducible apply st_store H); rfl; exact eF; (focus (exact cells_agg _)); exact uF; kernel_rfl; (focus (exact Nat.le_of_ble_eq_true (by rfl))); (focus (first | rfl | simp))) | ((with_reducible apply st_storeown H); rfl; exact eF; (focus (exact (rfl : _ = [_]))); exact uF; (focus omega); kernel_rfl; rfl)); clear H; intro wn H; (try simp only [splice, yG, yH, yI, yJ, yK, yL, yM, yN, yO, yP, yQ, Nat.reduceAdd, yA, yB, yC] at H); simp only [Act.put, yA, yB, yC, yD, yE, yF]) | ((first | ((with_reducible apply st_box (dst := some 1) H); exact nF; intro b1) | ((with_reducible apply st_alloc (dst := some 2) H); exact nF; intro b2) | ((with_reducible apply st_alloc (dst := some 3) H); exact nF; intro b3) | ((with_reducible apply st_strsum H); rfl; rfl; exact szF; kernel_rfl) | ((with_reducible apply st_loadat H); decide +kernel; rfl; exact aF; exact zF; rfl) | ((with_reducible apply st_storerow H); rfl; exact eF; (first | exact cells_agg _ | exact cellI | exact cellS | exact cellB | exact (rfl : _ = [_])); exact uF; kernel_rfl; exact Nat.succ_pos _; exact fitF; rfl)); clear H; intro wn H; simp only [Act.put, yA, yB, yC, yD, yE, yF]) | ((first | (go_at_call 23; refine gvF (illS_s _ _) H ?_)); clear H; intro wn H) | fail)
  apply wp_region_hs (K := []) (Spec.V _ :: Spec.V _ :: Spec.V _ :: Spec.T _ :: Spec.V _ :: Spec.V _ :: []) 6 H rfl (by simp) (by kernel_rfl) (by kernel_rfl); intro vs Ls; (iterate 3 ((with_reducible apply wpH_V); (focus rfl); (focus rfl); (focus (intro w1 H1; exact oF)); simp only [Act.put, yA, yB, yC, yD, yE, yF]; (try simp only [yG, yH, yJ, yK]))); (with_reducible apply wpH_T); (focus rfl); (focus rfl); (focus (intro hk w1 H1; unfold OpOk; go_simp; exact now_call (c2 _ H1.below))); simp only [Act.put, yA, yB, yC, yD, yE, yF]; (with_reducible apply wpH_VK); (focus rfl); (focus rfl); (focus (intro hk w1 H1; have q3 := okT (hk 3 (by decide +kernel) (by decide)) rfl; exact ok_buildSt cB0 rfl rfl q3.form)); simp only [Act.put, yA, yB, yC, yD, yE, yF]; (iterate 1 ((with_reducible apply wpH_V); (focus rfl); (focus rfl); (focus (intro w1 H1; exact oF)); simp only [Act.put, yA, yB, yC, yD, yE, yF]; (try simp only [yG, yH, yJ, yK]))); refine wpH_0 ?_; intro hok wn Hn; (try simp only [yT, yU, yV, yW] at Hn); clear H; have H := Hn; clear Hn; have ht3 := okT (hok 3 (by decide)) rfl; clear hok; obtain ⟨A7, m7, k7, N7, e3, o7, l3⟩ := ht3; simp only [e3, l3, yT, yU, yV] at H ⊢; clear e3 l3; rotate_left; (focus (refine locs ?_; intro vs1 vs2; (iterate 6 (refine all_lt_succ ?_ (by first | exact (fun _ => rfl) | exact (fun _ => ⟨rfl, rfl⟩) | (intro h; simp only [spec, Spec.same, yR, yS, Option.getD_some]; (try rw [h 3 (by decide +kernel)]); (first | done | exact ⟨rfl, rfl⟩ | exact ⟨trivial, rfl⟩ | exact ⟨rfl, trivial⟩))))); exact (fun k hk => absurd hk (Nat.not_lt_zero k))))
  simp only [cB0]
  go_wp2_with (first | ((first | ((with_reducible apply st_load1 H); decide +kernel; rfl; exact cF) | ((with_reducible apply st_loads H); decide +kernel; rfl; exact iF; exact zF; rfl) | ((with_reducible apply st_store H); rfl; exact eF; (focus (exact cells_agg _)); exact uF; kernel_rfl; (focus (exact Nat.le_of_ble_eq_true (by rfl))); (focus (first | rfl | simp))) | ((with_reducible apply st_storeown H); rfl; exact eF; (focus (exact (rfl : _ = [_]))); exact uF; (focus omega); kernel_rfl; rfl)); clear H; intro wn H; (try simp only [splice, yG, yH, yI, yJ, yK, yL, yM, yN, yO, yP, yQ, Nat.reduceAdd, yA, yB, yC] at H); simp only [Act.put, yA, yB, yC, yD, yE, yF]) | ((first | ((with_reducible apply st_box (dst := some 1) H); exact nF; intro b1) | ((with_reducible apply st_alloc (dst := some 2) H); exact nF; intro b2) | ((with_reducible apply st_alloc (dst := some 3) H); exact nF; intro b3) | ((with_reducible apply st_strsum H); rfl; rfl; exact szF; kernel_rfl) | ((with_reducible apply st_loadat H); decide +kernel; rfl; exact aF; exact zF; rfl) | ((with_reducible apply st_storerow H); rfl; exact eF; (first | exact cells_agg _ | exact cellI | exact cellS | exact cellB | exact (rfl : _ = [_])); exact uF; kernel_rfl; exact Nat.succ_pos _; exact fitF; rfl)); clear H; intro wn H; simp only [Act.put, yA, yB, yC, yD, yE, yF]) | ((first | (go_at_call 23; refine gvF (illS_s _ _) H ?_)); clear H; intro wn H) | fail)
  refine bp_cell H rfl rfl iF (by kernel_rfl) (by kernel_rfl) rfl (by first | exact .inl rfl | exact .inr rfl) ?_
  have H5 : Hs noRow w [Hl.all N4, Hl.all N7] _ := H.sel sF
  have H6 := H5.join
  rw [← List.append_nil (N4 ++ N7)] at H6
  exact Hs.retd H6 (List.Sublist.refl _) ⟨[_, _, _, _, _, _, _, _, _, _, _], _, rfl, ⟨[_, _, _, _, _, _, _, _, _], [_, _], _, [], rfl, rfl, ⟨[_, _, _, _, _, _, _, _], [_], _, _, rfl, rfl, o5, o7⟩, rfl, rfl⟩, rfl⟩
end Go.Proofs.YtjklmldchbakjaaGreat
