/-
  New houses, in the program and in the reference: the walks.
-/
import Derived.Test.YtjklmldchbakjaaGreatYe
import Derived.Test.YtjklmldchbakjaaGreatHz
set_option linter.unusedSimpArgs false
set_option linter.unusedVariables false
namespace Go.Proofs.YtjklmldchbakjaaGreat
open Go.RowKit M
namespace M
def noTxt : ByteArray := ⟨#[]⟩
def newRg : Rg := (noTxt, noTxt, noTxt)
def newDk (n : Nat) : Dk := (List.replicate n newRg, -1)
def regsOf (c : Cfg) : Nat := 1 + (labelsOf c.1).length + c.2.1.length
def newHo (c : Cfg) : Ho := (newSt c, newDk (regsOf c), 0)
def zeroDk : Dk := ([], 0)
def zeroHo : Ho := (zeroSt, zeroDk, 0)
def houseNew (c : Cfg) : HO := if cfgOk c then (newHo c, (noTxt, 0)) else (zeroHo, (noTxt, 1))
theorem cfg_labs {c : Cfg} (h : cfgOk c = true) : clearOk c.1 = true ∧ (labelsOf c.1).length ≤ 8 := by
  unfold cfgOk at h
  simp only [Bool.and_eq_true, decide_eq_true_eq] at h
  exact ⟨h.1, h.2.2.1⟩
theorem houseNew_cnt (c : Cfg) : mkHO.cnt (houseNew c) ≤ mkCfg.cnt c + 45 := by
  unfold houseNew
  split
  · rename_i h
    have h0 := stateNew_cnt c
    unfold stateNew at h0
    rw [if_pos h] at h0
    obtain ⟨_, _, _, h4⟩ := cfg_fits h
    have h8 := (cfg_labs h).2
    have h1 : mkRg.list.cnt (List.replicate (regsOf c) newRg) = regsOf c * 3 := rep_cnt _
    have h2 : mkSO.cnt (newSt c, ((0 : Int), (0 : Int))) = mkSt.cnt (newSt c) + 0 := rfl
    show (mkSt.cnt (newSt c) + ((mkRg.list.cnt (List.replicate (regsOf c) newRg) + 0) + 0)) + 0 ≤ _
    rw [h1]
    unfold regsOf
    omega
  · exact Nat.zero_le _
end M
def cellRg : List Value := [.string noTxt, .string noTxt, .string noTxt]
theorem tSli_of {α : Type} {T : Ty α} {E : TypeId} {l : List α} {v : Value} {M : List Hl} {w : World} (h : tOwn (Ty.sl E T) l v M) (hp : ∀ k ∈ M, k.P w) : tSli (Ty.sl E T) l v M := by
  obtain ⟨N, ho, rfl, h1⟩ := h
  have h2 := own_single ho h1 rfl
  have h3 := (Ty.sl E T).read h2 (hp _ (List.mem_singleton.2 rfl)).1
  obtain ⟨A, c, rfl, _, _⟩ := sl_form h3
  exact ⟨A, c, N, rfl, h2, rfl⟩
def tDk (n : Nat) : Value → List Hl → Prop := fun v M => ∃ A k N, v = .agg #[.slice A n k, .int .i64 (-1)] ∧ Dz.tyDk.own [.slice A n k, .int .i64 (-1)] (newDk n) N ∧ M = [Hl.all N]
theorem tDk.form {n : Nat} {v : Value} {M : List Hl} (h : tDk n v M) : ∃ A n k q, v = .agg #[.slice A n k, .int .i64 q] := by
  obtain ⟨A, k, _, e, _⟩ := h
  exact ⟨A, _, k, _, e⟩
theorem cHo_ex : ∃ f : Value → Nat → Value, (∀ a0 a1, f (.agg #[a0, a1]) 0 = a0) ∧ (∀ a0 a1, f (.agg #[a0, a1]) 1 = a1) :=
  ⟨fun v i => (v.cells.toList[i]?).getD undef, fun _ _ => rfl, fun _ _ => rfl⟩
set_option maxRecDepth 100000 in
theorem ok_buildHo {K : List Hl} {a : Act} {w : World} {dst : Option Tmp} {ty : TypeId} {pos : String} {aft : Array Edge} {g : Option (Nat × Bool)} {x y : Nat} {v a0 a1 a2 a3 a4 a5 a6 a7 a8 : Value} {cAt : Value → Nat → Value} (cC0 : ∀ a0 a1, cAt (.agg #[a0, a1]) 0 = a0) (cC1 : ∀ a0 a1, cAt (.agg #[a0, a1]) 1 = a1)
    (hx : a.eval (.tmp x) = .agg #[a0, a1, a2, a3, a4, a5, a6, a7, a8]) (hy : a.eval (.tmp y) = v) (h1 : ∃ A n k q, v = .agg #[.slice A n k, .int .i64 q]) :
    OpOk Tryz.prog K ⟨dst, .build 56 #[(0, .tmp x), (1, .tmp y)], ty, pos, aft, g⟩ a w (tV (.agg #[a0, a1, a2, a3, a4, a5, a6, a7, a8, cAt v 0, cAt v 1, .int .i64 0])) := by
  obtain ⟨A, n, k, q, rfl⟩ := h1
  rw [cC0, cC1]
  have hx2 : a.tmps[x]?.getD undef = .agg #[a0, a1, a2, a3, a4, a5, a6, a7, a8] := by rw [← hx]; simp [Act.eval]
  have hy2 : a.tmps[y]?.getD undef = .agg #[.slice A n k, .int .i64 q] := by rw [← hy]; simp [Act.eval]
  unfold OpOk execOp
  go_simp
  (try simp only [hx2, hy2])
  (try go_simp)
  exact now_v
def cellHo : List Value := cellYd ++ [.slice none 0 0] ++ [.slice none 0 0, .int .i64 0] ++ [.int .i64 0]
def rowHo : List Hl := rowSt ++ ([Hl.row 179 3 (.slice none 0 0) 0 []] ++ [])
theorem own_zeroHo : Dz.tyHo.own cellHo zeroHo (rowSt ++ (([Hl.row 179 3 (.slice none 0 0) 0 []] ++ []) ++ [])) :=
  ⟨cellYd ++ [.slice none 0 0], [_, _, _], rowSt, _, rfl, rfl, own_zeroSt, [_, _], [_], _, [], rfl, rfl, ⟨[_], [_], [_], [], rfl, rfl, own_none _, rfl, rfl⟩, rfl, rfl⟩
theorem free_Ho : Free (rowSt ++ (([Hl.row 179 3 (.slice none 0 0) 0 []] ++ []) ++ [])) := free_St.app (((Free.nil.row _ _ _).app Free.nil).app Free.nil)
theorem ret_illH {w w' : World} {L : List Hl} (H : Hs noRow w L w') (q : Int) : RPost [] w (tAgg Dz.tyHO (zeroHo, (noTxt, q))) (.returned (.agg #[.slice none 0 0, .slice none 0 0, .slice none 0 0, .int .i64 0, .slice none 0 0, .slice none 0 0, .slice none 0 0, .int .i64 0, .slice none 0 0, .slice none 0 0, .int .i64 0, .int .i64 0, .string ⟨#[]⟩, .int .i64 q])) w' := by
  have H1 := (free_Ho _ _ _ _ H).pack
  rw [← List.append_nil (rowSt ++ _)] at H1
  exact Hs.retd H1 (List.Sublist.cons_cons _ (List.nil_sublist _)) ⟨cellHo ++ [.string ⟨#[]⟩, .int .i64 q], _, rfl, ⟨cellHo, [_, _], _, [], rfl, rfl, own_zeroHo, rfl, rfl⟩, rfl⟩
set_option maxRecDepth 100000 in
theorem illH_s (q : Int) (w : World) : Gives Tryz.prog 39 #[.int .i64 q] w (.agg #[.slice none 0 0, .slice none 0 0, .slice none 0 0, .int .i64 0, .slice none 0 0, .slice none 0 0, .slice none 0 0, .int .i64 0, .slice none 0 0, .slice none 0 0, .int .i64 0, .int .i64 0, .string ⟨#[]⟩, .int .i64 q]) := by
  have H := Hs.start noRow w
  unfold Gives
  go_enter Tryz.func39, Tryz.ntmps39
  go_wp2_with (first | ((first | ((with_reducible apply st_load1 H); decide +kernel; rfl; exact cF) | ((with_reducible apply st_loads H); decide +kernel; rfl; exact iF; exact zF; rfl) | ((with_reducible apply st_store H); rfl; exact eF; (focus (exact cells_agg _)); exact uF; kernel_rfl; (focus (exact Nat.le_of_ble_eq_true (by rfl))); (focus (first | rfl | simp))) | ((with_reducible apply st_storeown H); rfl; exact eF; (focus (exact (rfl : _ = [_]))); exact uF; (focus omega); kernel_rfl; rfl)); clear H; intro wn H; (try simp only [splice, yG, yH, yI, yJ, yK, yL, yM, yN, yO, yP, yQ, Nat.reduceAdd, yA, yB, yC] at H); simp only [Act.put, yA, yB, yC, yD, yE, yF]) | ((first | ((with_reducible apply st_alloc (dst := some 2) H); exact nF; intro b2) | ((with_reducible apply st_storerow H); rfl; exact eF; (first | exact cells_agg _ | exact cellI | exact cellS | exact cellB | exact (rfl : _ = [_])); exact uF; kernel_rfl; exact Nat.succ_pos _; exact fitF; rfl)); clear H; intro wn H; simp only [Act.put, yA, yB, yC, yD, yE, yF]) | fail)
  refine bp_cell H rfl rfl iF (by kernel_rfl) (by kernel_rfl) rfl (by first | exact .inl rfl | exact .inr rfl) ?_
  exact ⟨rfl, H.below⟩
set_option maxRecDepth 100000 in
theorem info_Rg : (Tryz.prog.info? 179).map (fun i => i.zero) = some (some (.agg #[.string ⟨#[]⟩, .string ⟨#[]⟩, .string ⟨#[]⟩])) := by kernel_rfl
set_option maxRecDepth 100000 in
theorem zero_regs {n : Nat} {zs : List Value} (h : ∃ i z, Tryz.prog.info? 179 = some i ∧ i.zero = some z ∧ zs = (madeCells z.cells (n * 3)).toList) : zs = (List.replicate n cellRg).flatten := by
  obtain ⟨i, z, h1, h2, rfl⟩ := h
  have h3 := info_Rg
  rw [h1] at h3
  simp only [Option.map_some, Option.some.injEq] at h3
  rw [h2] at h3
  injection h3 with h3
  subst h3
  exact made_rep #[.string ⟨#[]⟩, .string ⟨#[]⟩, .string ⟨#[]⟩] (by decide) n
theorem ret_disk {w w' : World} {L : List Hl} {A : Option Addr} {n c : Nat} (H : Hs noRow w (Hl.row 179 3 (.slice A n c) n (List.replicate n cellRg).flatten :: L) w') :
    RPost [] w (tDk n) (.returned (.agg #[.slice A n c, .int .i64 (-1)])) w' := by
  obtain ⟨N, hN, H2⟩ := rep_row (T := tyRg) (a := newRg) (K := []) H ⟨rfl, rfl⟩ Free.nil
  rw [← List.append_nil N] at H2
  exact Hs.retd H2 (List.Sublist.cons_cons _ (List.nil_sublist _)) ⟨A, c, _, rfl, ⟨[_], [_], N, [], rfl, rfl, hN, rfl, rfl⟩, rfl⟩
set_option maxRecDepth 100000 in
set_option maxHeartbeats 4000000 in
theorem regs_i (c : Cfg) (cs : List Value) (hok : cfgOk c = true) (w : World) (hrc : tyCfg.rd w cs c) : Gives Tryz.prog 43 #[.agg cs.toArray] w (.int .i64 (regsOf c)) := by
  have h4 := (cfg_fits hok).2.2.2
  have h8 := (cfg_labs hok).2
  have hcl := (cfg_labs hok).1
  obtain ⟨v1, v2, v3, rfl, h1, h2, h3⟩ := cfg_form hrc
  obtain ⟨nd, pr, qt, hf⟩ := c
  simp only at h1 h2 h3 h4 h8 hcl
  obtain ⟨D1, d1, hv1, _, _⟩ := sl_form h1
  obtain ⟨D2, d2, rfl, _, _⟩ := sl_form h2
  obtain ⟨D3, d3, rfl, _, _⟩ := sl_form h3
  have c1 := fun w1 hb => (labels_i v1 D2 D3 pr.length d2 qt.length d3 hf nd hcl w1 (Ty.below _ h1 hb)).lit (fun v M w' h hp => tSli_of h hp)
  show Gives Tryz.prog _ #[.agg #[v1, .slice D2 pr.length d2, .slice D3 qt.length d3, .int .i64 hf]] w (.int .i64 ((1 + (labelsOf nd).length + pr.length : Nat) : Int))
  subst hv1
  clear hrc h1 h2 h3 hcl hok
  have H := Hs.start noRow w
  unfold Gives
  go_enter Tryz.func43, Tryz.ntmps43
  go_wp2_with (first | ((first | ((with_reducible apply st_load1 H); decide +kernel; rfl; exact cF) | ((with_reducible apply st_loads H); decide +kernel; rfl; exact iF; exact zF; rfl)); clear H; intro wn H; (try simp only [splice, yG, yH, yI, yJ, yK, yL, yM, yN, yO, yP, yQ, Nat.reduceAdd, yA, yB, yC] at H); simp only [Act.put, yA, yB, yC, yD, yE, yF]) | ((first | ((with_reducible apply st_box (dst := some 1) H); exact nF; intro b1) | ((with_reducible apply st_strsum H); rfl; rfl; exact szF; kernel_rfl) | ((with_reducible apply st_loadat H); decide +kernel; rfl; exact aF; exact zF; rfl)); clear H; intro wn H; simp only [Act.put, yA, yB, yC, yD, yE, yF]) | fail)
  apply wp_region_hs (K := []) (Spec.V _ :: Spec.T _ :: Spec.V _ :: Spec.V _ :: Spec.V _ :: Spec.V _ :: Spec.V _ :: Spec.V _ :: []) 8 H rfl (by simp) (by kernel_rfl) (by kernel_rfl); intro vs Ls; (iterate 1 ((with_reducible apply wpH_V); (focus rfl); (focus rfl); (focus (intro w1 H1; exact oF)); simp only [Act.put, yA, yB, yC, yD, yE, yF]; (try simp only [yG, yH, yJ, yK]))); (with_reducible apply wpH_T); (focus rfl); (focus rfl); (focus (intro hk w1 H1; unfold OpOk; go_simp; exact now_call (c1 _ H1.below))); simp only [Act.put, yA, yB, yC, yD, yE, yF]; (with_reducible apply wpH_VK); (focus rfl); (focus rfl); (focus (intro hk w1 H1; have q1 := okT (hk 1 (by decide +kernel) (by decide)) rfl; obtain ⟨_, _, _, e, _⟩ := q1; unfold OpOk; (try simp only [e]); go_simp; exact now_v)); simp only [Act.put, yA, yB, yC, yD, yE, yF]; (with_reducible apply wpH_VK); (focus rfl); (focus rfl); (focus (intro hk w1 H1; have q1 := okT (hk 1 (by decide +kernel) (by decide)) rfl; unfold OpOk; go_simp; (try rw [wrap_id (by omega) (by omega)]); exact now_v)); simp only [Act.put, yA, yB, yC, yD, yE, yF]; (iterate 3 ((with_reducible apply wpH_V); (focus rfl); (focus rfl); (focus (intro w1 H1; exact oF)); simp only [Act.put, yA, yB, yC, yD, yE, yF]; (try simp only [yG, yH, yJ, yK]))); (with_reducible apply wpH_VK); (focus rfl); (focus rfl); (focus (intro hk w1 H1; have q1 := okT (hk 1 (by decide +kernel) (by decide)) rfl; unfold OpOk; go_simp; (try rw [wrap_id (by omega) (by omega)]); exact now_v)); simp only [Act.put, yA, yB, yC, yD, yE, yF]; refine wpH_0 ?_; intro hok wn Hn; (try simp only [yT, yU, yV, yW] at Hn); clear H; have H := Hn; clear Hn; have ht1 := okT (hok 1 (by decide)) rfl; clear hok; obtain ⟨A, k, N, e1, o1, l1⟩ := ht1; simp only [e1, l1, yT, yU, yV] at H ⊢; clear e1 l1; rotate_left; (focus (refine locs ?_; intro vs1 vs2; (iterate 8 (refine all_lt_succ ?_ (by first | exact (fun _ => rfl) | exact (fun _ => ⟨rfl, rfl⟩) | (intro h; simp only [spec, Spec.same, yR, yS, Option.getD_some]; (try rw [h 1 (by decide +kernel)]); (first | done | exact ⟨rfl, rfl⟩ | exact ⟨trivial, rfl⟩ | exact ⟨rfl, trivial⟩))))); exact (fun k hk => absurd hk (Nat.not_lt_zero k))))
  go_wp2_with (first | ((first | ((with_reducible apply st_load1 H); decide +kernel; rfl; exact cF) | ((with_reducible apply st_loads H); decide +kernel; rfl; exact iF; exact zF; rfl)); clear H; intro wn H; (try simp only [splice, yG, yH, yI, yJ, yK, yL, yM, yN, yO, yP, yQ, Nat.reduceAdd, yA, yB, yC] at H); simp only [Act.put, yA, yB, yC, yD, yE, yF]) | ((first | ((with_reducible apply st_box (dst := some 1) H); exact nF; intro b1) | ((with_reducible apply st_strsum H); rfl; rfl; exact szF; kernel_rfl) | ((with_reducible apply st_loadat H); decide +kernel; rfl; exact aF; exact zF; rfl)); clear H; intro wn H; simp only [Act.put, yA, yB, yC, yD, yE, yF]) | fail)
  go_ret
  exact ⟨congrArg (fun z : Int => Ending.returned (.int .i64 z)) (show 1 + ((labelsOf nd).length : Int) + (pr.length : Int) = ((1 + (labelsOf nd).length + pr.length : Nat) : Int) by omega), H.below⟩
set_option maxRecDepth 100000 in
set_option maxHeartbeats 4000000 in
theorem regs_s (c : Cfg) (cs : List Value) (hok : cfgOk c = true) (w : World) (hrc : tyCfg.rd w cs c) : Gives Tryz.prog 41 #[.agg cs.toArray] w (.int .i64 (regsOf c)) := by
  have h4 := (cfg_fits hok).2.2.2
  have h8 := (cfg_labs hok).2
  have hcl := (cfg_labs hok).1
  obtain ⟨v1, v2, v3, rfl, h1, h2, h3⟩ := cfg_form hrc
  obtain ⟨nd, pr, qt, hf⟩ := c
  simp only at h1 h2 h3 h4 h8 hcl
  obtain ⟨D1, d1, hv1, _, _⟩ := sl_form h1
  obtain ⟨D2, d2, rfl, _, _⟩ := sl_form h2
  obtain ⟨D3, d3, rfl, _, _⟩ := sl_form h3
  have c1 := fun w1 hb => (labels_s v1 nd w1 (Ty.below _ h1 hb)).lit (fun v M w' h hp => tSli_of h hp)
  show Gives Tryz.prog _ #[.agg #[v1, .slice D2 pr.length d2, .slice D3 qt.length d3, .int .i64 hf]] w (.int .i64 ((1 + (labelsOf nd).length + pr.length : Nat) : Int))
  subst hv1
  clear hrc h1 h2 h3 hcl hok
  have H := Hs.start noRow w
  unfold Gives
  go_enter Tryz.func41, Tryz.ntmps41
  go_wp2_with (first | ((first | ((with_reducible apply st_load1 H); decide +kernel; rfl; exact cF) | ((with_reducible apply st_loads H); decide +kernel; rfl; exact iF; exact zF; rfl)); clear H; intro wn H; (try simp only [splice, yG, yH, yI, yJ, yK, yL, yM, yN, yO, yP, yQ, Nat.reduceAdd, yA, yB, yC] at H); simp only [Act.put, yA, yB, yC, yD, yE, yF]) | ((first | ((with_reducible apply st_box (dst := some 1) H); exact nF; intro b1) | ((with_reducible apply st_strsum H); rfl; rfl; exact szF; kernel_rfl) | ((with_reducible apply st_loadat H); decide +kernel; rfl; exact aF; exact zF; rfl)); clear H; intro wn H; simp only [Act.put, yA, yB, yC, yD, yE, yF]) | fail)
  apply wp_region_hs (K := []) (Spec.V _ :: Spec.V _ :: Spec.T _ :: Spec.V _ :: Spec.V _ :: Spec.V _ :: Spec.V _ :: Spec.V _ :: Spec.V _ :: []) 9 H rfl (by simp) (by kernel_rfl) (by kernel_rfl); intro vs Ls; (iterate 2 ((with_reducible apply wpH_V); (focus rfl); (focus rfl); (focus (intro w1 H1; exact oF)); simp only [Act.put, yA, yB, yC, yD, yE, yF]; (try simp only [yG, yH, yJ, yK]))); (with_reducible apply wpH_T); (focus rfl); (focus rfl); (focus (intro hk w1 H1; unfold OpOk; go_simp; exact now_call (c1 _ H1.below))); simp only [Act.put, yA, yB, yC, yD, yE, yF]; (with_reducible apply wpH_VK); (focus rfl); (focus rfl); (focus (intro hk w1 H1; have q2 := okT (hk 2 (by decide +kernel) (by decide)) rfl; obtain ⟨_, _, _, e, _⟩ := q2; unfold OpOk; (try simp only [e]); go_simp; exact now_v)); simp only [Act.put, yA, yB, yC, yD, yE, yF]; (with_reducible apply wpH_VK); (focus rfl); (focus rfl); (focus (intro hk w1 H1; have q2 := okT (hk 2 (by decide +kernel) (by decide)) rfl; unfold OpOk; go_simp; (try rw [wrap_id (by omega) (by omega)]); exact now_v)); simp only [Act.put, yA, yB, yC, yD, yE, yF]; (iterate 3 ((with_reducible apply wpH_V); (focus rfl); (focus rfl); (focus (intro w1 H1; exact oF)); simp only [Act.put, yA, yB, yC, yD, yE, yF]; (try simp only [yG, yH, yJ, yK]))); (with_reducible apply wpH_VK); (focus rfl); (focus rfl); (focus (intro hk w1 H1; have q2 := okT (hk 2 (by decide +kernel) (by decide)) rfl; unfold OpOk; go_simp; (try rw [wrap_id (by omega) (by omega)]); exact now_v)); simp only [Act.put, yA, yB, yC, yD, yE, yF]; refine wpH_0 ?_; intro hok wn Hn; (try simp only [yT, yU, yV, yW] at Hn); clear H; have H := Hn; clear Hn; have ht2 := okT (hok 2 (by decide)) rfl; clear hok; obtain ⟨A, k, N, e2, o1, l2⟩ := ht2; simp only [e2, l2, yT, yU, yV] at H ⊢; clear e2 l2; rotate_left; (focus (refine locs ?_; intro vs1 vs2; (iterate 9 (refine all_lt_succ ?_ (by first | exact (fun _ => rfl) | exact (fun _ => ⟨rfl, rfl⟩) | (intro h; simp only [spec, Spec.same, yR, yS, Option.getD_some]; (try rw [h 2 (by decide +kernel)]); (first | done | exact ⟨rfl, rfl⟩ | exact ⟨trivial, rfl⟩ | exact ⟨rfl, trivial⟩))))); exact (fun k hk => absurd hk (Nat.not_lt_zero k))))
  go_wp2_with (first | ((first | ((with_reducible apply st_load1 H); decide +kernel; rfl; exact cF) | ((with_reducible apply st_loads H); decide +kernel; rfl; exact iF; exact zF; rfl)); clear H; intro wn H; (try simp only [splice, yG, yH, yI, yJ, yK, yL, yM, yN, yO, yP, yQ, Nat.reduceAdd, yA, yB, yC] at H); simp only [Act.put, yA, yB, yC, yD, yE, yF]) | ((first | ((with_reducible apply st_box (dst := some 1) H); exact nF; intro b1) | ((with_reducible apply st_strsum H); rfl; rfl; exact szF; kernel_rfl) | ((with_reducible apply st_loadat H); decide +kernel; rfl; exact aF; exact zF; rfl)); clear H; intro wn H; simp only [Act.put, yA, yB, yC, yD, yE, yF]) | fail)
  go_ret
  exact ⟨congrArg (fun z : Int => Ending.returned (.int .i64 z)) (show 1 + ((labelsOf nd).length : Int) + (pr.length : Int) = ((1 + (labelsOf nd).length + pr.length : Nat) : Int) by omega), H.below⟩
set_option maxRecDepth 100000 in
set_option maxHeartbeats 4000000 in
theorem newDisk_i (n : Nat) (h1 : 1 ≤ n) (h13 : n ≤ 13) (w : World) : Rets Tryz.prog [] 42 #[.int .i64 n] w (tDk n) := by
  have c1 := fun w1 => within_i (n : Int) 1 13 w1
  rw [show (decide ((1 : Int) ≤ n) && decide ((n : Int) ≤ 13)) = true by simp; omega] at c1
  have H := Hs.start noRow w
  refine Rets.of ?_
  go_enter Tryz.func42, Tryz.ntmps42
  go_wp2_with (first | ((first | ((with_reducible apply st_load1 H); decide +kernel; rfl; exact cF) | ((with_reducible apply st_loads H); decide +kernel; rfl; exact iF; exact zF; rfl) | ((with_reducible apply st_store H); rfl; exact eF; (focus (exact cells_agg _)); exact uF; kernel_rfl; (focus (exact Nat.le_of_ble_eq_true (by rfl))); (focus (first | rfl | simp))) | ((with_reducible apply st_storeown H); rfl; exact eF; (focus (exact (rfl : _ = [_]))); exact uF; (focus omega); kernel_rfl; rfl)); clear H; intro wn H; (try simp only [splice, yG, yH, yI, yJ, yK, yL, yM, yN, yO, yP, yQ, Nat.reduceAdd, yA, yB, yC] at H); simp only [Act.put, yA, yB, yC, yD, yE, yF]) | ((first | ((with_reducible apply st_alloc (dst := some 2) H); exact nF; intro b2) | ((with_reducible apply st_storerow H); rfl; exact eF; (first | exact cells_agg _ | exact cellI | exact cellS | exact cellB | exact (rfl : _ = [_])); exact uF; kernel_rfl; exact Nat.succ_pos _; exact fitF; rfl)); clear H; intro wn H; simp only [Act.put, yA, yB, yC, yD, yE, yF]) | ((first | (go_at_call 70; refine gvF (c1 _) H ?_)); clear H; intro wn H) | ((with_reducible apply st_makerow (E := 179) (s := 3) H); rfl; rfl; decide +kernel; (focus omega); clear H; intro g zs wn hz0 hz1 H; simp only [Act.put, yA, yB, yC, yD, yE, yF]) | fail)
  refine bp_cell H rfl rfl iF (by kernel_rfl) (by kernel_rfl) rfl (by first | exact .inl rfl | exact .inr rfl) ?_
  rw [zero_regs hz1] at H
  exact ret_disk (H.sel (M := [Hl.row 179 3 (.slice (some ⟨g, 0, none⟩) n n) n (List.replicate n cellRg).flatten]) sF)
set_option maxRecDepth 100000 in
set_option maxHeartbeats 4000000 in
theorem houseNew_i (c : Cfg) (cs : List Value) (w : World) (hrc : tyCfg.rd w cs c) : Rets Tryz.prog [] 15 #[.agg cs.toArray] w (tAgg Dz.tyHO (houseNew c)) := by
  have c1 := fun w1 hb => stateNew_i c cs w1 (Ty.below _ hrc hb)
  have c2 := fun (h : cfgOk c = true) w1 hb => regs_i c cs h w1 (Ty.below _ hrc hb)
  have c3 := fun (h : cfgOk c = true) w1 => newDisk_i (regsOf c) (by unfold regsOf; omega) (by obtain ⟨_, _, _, h4⟩ := @cfg_fits c h; have h8 := (@cfg_labs c h).2; unfold regsOf; omega) w1
  have hsn : stateNew c = if cfgOk c = true then (newSt c, (0, 0)) else (zeroSt, (0, 1)) := rfl
  have hhn : houseNew c = if cfgOk c = true then (newHo c, (noTxt, 0)) else (zeroHo, (noTxt, 1)) := rfl
  rw [hhn]
  rw [hsn] at c1
  clear hsn hhn
  obtain ⟨A1, n1, k1, A2, n2, k2, A3, n3, k3, rfl⟩ := cfg_lit hrc
  obtain ⟨hv, hhv⟩ : ∃ n, n = c.2.2.2 := ⟨_, rfl⟩
  rw [← hhv] at c1 c2 ⊢
  have HV := Lib.hid hhv
  clear hhv
  obtain ⟨rn, hrn⟩ : ∃ n, n = regsOf c := ⟨_, rfl⟩
  rw [← hrn] at c2 c3
  have HRN := Lib.hid hrn
  clear hrn
  generalize cfgOk c = z at *
  clear hrc
  have H := Hs.start noRow w
  refine Rets.of ?_
  cases z
  case false =>
    replace c1 : ∀ w1, Below w.heap.size w w1 → Rets Tryz.prog [] 8 #[.agg #[.slice A1 n1 k1, .slice A2 n2 k2, .slice A3 n3 k3, .int .i64 hv]] w1 (tAgg tySO (zeroSt, (0, 1))) := c1
    clear c2 c3
    show Calls Tryz.prog _ #[.agg #[.slice A1 n1 k1, .slice A2 n2 k2, .slice A3 n3 k3, .int .i64 hv]] w _
    go_enter Tryz.func15, Tryz.ntmps15
    go_wp2_with (first | ((first | ((with_reducible apply st_load1 H); decide +kernel; rfl; exact cF) | ((with_reducible apply st_loads H); decide +kernel; rfl; exact iF; exact zF; rfl) | ((with_reducible apply st_store H); rfl; exact eF; (focus (exact cells_agg _)); exact uF; kernel_rfl; (focus (exact Nat.le_of_ble_eq_true (by rfl))); (focus (first | rfl | simp))) | ((with_reducible apply st_storeown H); rfl; exact eF; (focus (exact (rfl : _ = [_]))); exact uF; (focus omega); kernel_rfl; rfl)); clear H; intro wn H; (try simp only [splice, yG, yH, yI, yJ, yK, yL, yM, yN, yO, yP, yQ, Nat.reduceAdd, yA, yB, yC] at H); simp only [Act.put, yA, yB, yC, yD, yE, yF]) | ((first | ((with_reducible apply st_box (dst := some 1) H); exact nF; intro b1) | ((with_reducible apply st_alloc (dst := some 2) H); exact nF; intro b2) | ((with_reducible apply st_alloc (dst := some 3) H); exact nF; intro b3) | ((with_reducible apply st_strsum H); rfl; rfl; exact szF; kernel_rfl) | ((with_reducible apply st_loadat H); decide +kernel; rfl; exact aF; exact zF; rfl) | ((with_reducible apply st_storerow H); rfl; exact eF; (first | exact cells_agg _ | exact cellI | exact cellS | exact cellB | exact (rfl : _ = [_])); exact uF; kernel_rfl; exact Nat.succ_pos _; exact fitF; rfl)); clear H; intro wn H; simp only [Act.put, yA, yB, yC, yD, yE, yF]) | ((with_reducible apply st_makerow (E := 179) (s := 3) H); rfl; rfl; decide +kernel; (focus omega); clear H; intro g zs wn hz0 hz1 H; simp only [Act.put, yA, yB, yC, yD, yE, yF]) | fail)
    refine (Rets.use (c1 _ H.below)).mono ?_; rintro e wn ⟨_, _, rfl, ⟨d4, N4, rfl, o4, rfl⟩, hkk⟩; have Hn := H.moreK (by intro k hk; first | exact absurd hk List.not_mem_nil | (obtain rfl := List.mem_singleton.1 hk; exact In.mem iF)) hkk; clear hkk; clear H; have H := Hn; clear Hn; (try simp only [yT, yV] at H)
    obtain ⟨B1, m1, j1, B2, m2, j2, B3, m3, j3, B4, m4, j4, B5, m5, j5, B6, m6, j6, B7, m7, j7, rfl⟩ := SO_lit (own_rd H .here o4)
    go_wp2_with (first | ((first | ((with_reducible apply st_load1 H); decide +kernel; rfl; exact cF) | ((with_reducible apply st_loads H); decide +kernel; rfl; exact iF; exact zF; rfl) | ((with_reducible apply st_store H); rfl; exact eF; (focus (exact cells_agg _)); exact uF; kernel_rfl; (focus (exact Nat.le_of_ble_eq_true (by rfl))); (focus (first | rfl | simp))) | ((with_reducible apply st_storeown H); rfl; exact eF; (focus (exact (rfl : _ = [_]))); exact uF; (focus omega); kernel_rfl; rfl)); clear H; intro wn H; (try simp only [splice, yG, yH, yI, yJ, yK, yL, yM, yN, yO, yP, yQ, Nat.reduceAdd, yA, yB, yC] at H); simp only [Act.put, yA, yB, yC, yD, yE, yF]) | ((first | ((with_reducible apply st_box (dst := some 1) H); exact nF; intro b1) | ((with_reducible apply st_alloc (dst := some 2) H); exact nF; intro b2) | ((with_reducible apply st_alloc (dst := some 3) H); exact nF; intro b3) | ((with_reducible apply st_strsum H); rfl; rfl; exact szF; kernel_rfl) | ((with_reducible apply st_loadat H); decide +kernel; rfl; exact aF; exact zF; rfl) | ((with_reducible apply st_storerow H); rfl; exact eF; (first | exact cells_agg _ | exact cellI | exact cellS | exact cellB | exact (rfl : _ = [_])); exact uF; kernel_rfl; exact Nat.succ_pos _; exact fitF; rfl)); clear H; intro wn H; simp only [Act.put, yA, yB, yC, yD, yE, yF]) | ((with_reducible apply st_makerow (E := 179) (s := 3) H); rfl; rfl; decide +kernel; (focus omega); clear H; intro g zs wn hz0 hz1 H; simp only [Act.put, yA, yB, yC, yD, yE, yF]) | fail)
    refine bp_cell H rfl rfl iF (by kernel_rfl) (by kernel_rfl) rfl (by first | exact .inl rfl | exact .inr rfl) ?_
    exact ret_illH H 1
  replace c1 : ∀ w1, Below w.heap.size w w1 → Rets Tryz.prog [] 8 #[.agg #[.slice A1 n1 k1, .slice A2 n2 k2, .slice A3 n3 k3, .int .i64 hv]] w1 (tAgg tySO (newSt c, (0, 0))) := c1
  have c4 : ∀ w1, Below w.heap.size w w1 → Gives Tryz.prog 43 #[.agg #[.slice A1 n1 k1, .slice A2 n2 k2, .slice A3 n3 k3, .int .i64 hv]] w1 (.int .i64 rn) := c2 rfl
  have c5 := c3 rfl
  clear c2 c3
  show Calls Tryz.prog _ #[.agg #[.slice A1 n1 k1, .slice A2 n2 k2, .slice A3 n3 k3, .int .i64 hv]] w (RPost [] w (tAgg Dz.tyHO (newHo c, (noTxt, 0))))
  go_enter Tryz.func15, Tryz.ntmps15
  go_wp2_with (first | ((first | ((with_reducible apply st_load1 H); decide +kernel; rfl; exact cF) | ((with_reducible apply st_loads H); decide +kernel; rfl; exact iF; exact zF; rfl) | ((with_reducible apply st_store H); rfl; exact eF; (focus (exact cells_agg _)); exact uF; kernel_rfl; (focus (exact Nat.le_of_ble_eq_true (by rfl))); (focus (first | rfl | simp))) | ((with_reducible apply st_storeown H); rfl; exact eF; (focus (exact (rfl : _ = [_]))); exact uF; (focus omega); kernel_rfl; rfl)); clear H; intro wn H; (try simp only [splice, yG, yH, yI, yJ, yK, yL, yM, yN, yO, yP, yQ, Nat.reduceAdd, yA, yB, yC] at H); simp only [Act.put, yA, yB, yC, yD, yE, yF]) | ((first | ((with_reducible apply st_box (dst := some 1) H); exact nF; intro b1) | ((with_reducible apply st_alloc (dst := some 2) H); exact nF; intro b2) | ((with_reducible apply st_alloc (dst := some 3) H); exact nF; intro b3) | ((with_reducible apply st_strsum H); rfl; rfl; exact szF; kernel_rfl) | ((with_reducible apply st_loadat H); decide +kernel; rfl; exact aF; exact zF; rfl) | ((with_reducible apply st_storerow H); rfl; exact eF; (first | exact cells_agg _ | exact cellI | exact cellS | exact cellB | exact (rfl : _ = [_])); exact uF; kernel_rfl; exact Nat.succ_pos _; exact fitF; rfl)); clear H; intro wn H; simp only [Act.put, yA, yB, yC, yD, yE, yF]) | ((with_reducible apply st_makerow (E := 179) (s := 3) H); rfl; rfl; decide +kernel; (focus omega); clear H; intro g zs wn hz0 hz1 H; simp only [Act.put, yA, yB, yC, yD, yE, yF]) | fail)
  refine (Rets.use (c1 _ H.below)).mono ?_; rintro e wn ⟨_, _, rfl, ⟨d4, N4, rfl, o4, rfl⟩, hkk⟩; have Hn := H.moreK (by intro k hk; first | exact absurd hk List.not_mem_nil | (obtain rfl := List.mem_singleton.1 hk; exact In.mem iF)) hkk; clear hkk; clear H; have H := Hn; clear Hn; (try simp only [yT, yV] at H)
  obtain ⟨B1, m1, j1, B2, m2, j2, B3, m3, j3, B4, m4, j4, B5, m5, j5, B6, m6, j6, B7, m7, j7, rfl⟩ := SO_lit (own_rd H .here o4)
  obtain ⟨x1, y1, P1, P2, hc1, hP, o5, hy1, hP2⟩ := o4
  have hy2 : y1 = [.int .i64 0, .int .i64 0] := hy1
  subst hy2 hP2
  rw [List.append_nil] at hP
  subst hP
  have hx1 : x1 = [.slice B1 m1 j1, .slice B2 m2 j2, .slice B3 m3 j3, .int .i64 (newSt c, ((0 : Int), (0 : Int))).1.1.1.2.2.2, .slice B4 m4 j4, .slice B5 m5 j5, .slice B6 m6 j6, .int .i64 (newSt c, ((0 : Int), (0 : Int))).1.1.2.2.2.2, .slice B7 m7 j7] := by
    have h : [.slice B1 m1 j1, .slice B2 m2 j2, .slice B3 m3 j3, .int .i64 (newSt c, ((0 : Int), (0 : Int))).1.1.1.2.2.2, .slice B4 m4 j4, .slice B5 m5 j5, .slice B6 m6 j6, .int .i64 (newSt c, ((0 : Int), (0 : Int))).1.1.2.2.2.2, .slice B7 m7 j7] ++ [.int .i64 0, .int .i64 0] = x1 ++ [.int .i64 0, .int .i64 0] := hc1
    exact (List.append_inj' h rfl).1.symm
  subst hx1
  clear hc1 hy1
  obtain ⟨cAt, cC0, cC1⟩ := cHo_ex
  go_wp2_with (first | ((first | ((with_reducible apply st_load1 H); decide +kernel; rfl; exact cF) | ((with_reducible apply st_loads H); decide +kernel; rfl; exact iF; exact zF; rfl) | ((with_reducible apply st_store H); rfl; exact eF; (focus (exact cells_agg _)); exact uF; kernel_rfl; (focus (exact Nat.le_of_ble_eq_true (by rfl))); (focus (first | rfl | simp))) | ((with_reducible apply st_storeown H); rfl; exact eF; (focus (exact (rfl : _ = [_]))); exact uF; (focus omega); kernel_rfl; rfl)); clear H; intro wn H; (try simp only [splice, yG, yH, yI, yJ, yK, yL, yM, yN, yO, yP, yQ, Nat.reduceAdd, yA, yB, yC] at H); simp only [Act.put, yA, yB, yC, yD, yE, yF]) | ((first | ((with_reducible apply st_box (dst := some 1) H); exact nF; intro b1) | ((with_reducible apply st_alloc (dst := some 2) H); exact nF; intro b2) | ((with_reducible apply st_alloc (dst := some 3) H); exact nF; intro b3) | ((with_reducible apply st_strsum H); rfl; rfl; exact szF; kernel_rfl) | ((with_reducible apply st_loadat H); decide +kernel; rfl; exact aF; exact zF; rfl) | ((with_reducible apply st_storerow H); rfl; exact eF; (first | exact cells_agg _ | exact cellI | exact cellS | exact cellB | exact (rfl : _ = [_])); exact uF; kernel_rfl; exact Nat.succ_pos _; exact fitF; rfl)); clear H; intro wn H; simp only [Act.put, yA, yB, yC, yD, yE, yF]) | ((with_reducible apply st_makerow (E := 179) (s := 3) H); rfl; rfl; decide +kernel; (focus omega); clear H; intro g zs wn hz0 hz1 H; simp only [Act.put, yA, yB, yC, yD, yE, yF]) | fail)
  apply wp_region_hs (K := []) (Spec.V _ :: Spec.V _ :: Spec.V _ :: Spec.V _ :: Spec.T _ :: Spec.V _ :: Spec.V _ :: []) 7 H rfl (by simp) (by kernel_rfl) (by kernel_rfl); intro vs Ls; (iterate 3 ((with_reducible apply wpH_V); (focus rfl); (focus rfl); (focus (intro w1 H1; exact oF)); simp only [Act.put, yA, yB, yC, yD, yE, yF]; (try simp only [yG, yH, yJ, yK]))); (with_reducible apply wpH_VK); (focus rfl); (focus rfl); (focus (intro hk w1 H1; unfold OpOk; go_simp; exact now_call (Gives.rets (c4 _ H1.below)))); simp only [Act.put, yA, yB, yC, yD, yE, yF]; (with_reducible apply wpH_T); (focus rfl); (focus rfl); (focus (intro hk w1 H1; unfold OpOk; go_simp; exact now_call (c5 _))); simp only [Act.put, yA, yB, yC, yD, yE, yF]; (with_reducible apply wpH_VK); (focus rfl); (focus rfl); (focus (intro hk w1 H1; have q4 := okT (hk 4 (by decide +kernel) (by decide)) rfl; exact ok_buildHo cC0 cC1 rfl rfl q4.form)); simp only [Act.put, yA, yB, yC, yD, yE, yF]; (iterate 1 ((with_reducible apply wpH_V); (focus rfl); (focus rfl); (focus (intro w1 H1; exact oF)); simp only [Act.put, yA, yB, yC, yD, yE, yF]; (try simp only [yG, yH, yJ, yK]))); refine wpH_0 ?_; intro hok wn Hn; (try simp only [yT, yU, yV, yW] at Hn); clear H; have H := Hn; clear Hn; have ht4 := okT (hok 4 (by decide)) rfl; clear hok; obtain ⟨A8, k8, N8, e4, o8, l4⟩ := ht4; simp only [e4, l4, yT, yU, yV] at H ⊢; clear e4 l4; rotate_left; (focus (refine locs ?_; intro vs1 vs2; (iterate 7 (refine all_lt_succ ?_ (by first | exact (fun _ => rfl) | exact (fun _ => ⟨rfl, rfl⟩) | (intro h; simp only [spec, Spec.same, yR, yS, Option.getD_some]; (try rw [h 4 (by decide +kernel)]); (first | done | exact ⟨rfl, rfl⟩ | exact ⟨trivial, rfl⟩ | exact ⟨rfl, trivial⟩))))); exact (fun k hk => absurd hk (Nat.not_lt_zero k))))
  simp only [cC0, cC1]
  go_wp2_with (first | ((first | ((with_reducible apply st_load1 H); decide +kernel; rfl; exact cF) | ((with_reducible apply st_loads H); decide +kernel; rfl; exact iF; exact zF; rfl) | ((with_reducible apply st_store H); rfl; exact eF; (focus (exact cells_agg _)); exact uF; kernel_rfl; (focus (exact Nat.le_of_ble_eq_true (by rfl))); (focus (first | rfl | simp))) | ((with_reducible apply st_storeown H); rfl; exact eF; (focus (exact (rfl : _ = [_]))); exact uF; (focus omega); kernel_rfl; rfl)); clear H; intro wn H; (try simp only [splice, yG, yH, yI, yJ, yK, yL, yM, yN, yO, yP, yQ, Nat.reduceAdd, yA, yB, yC] at H); simp only [Act.put, yA, yB, yC, yD, yE, yF]) | ((first | ((with_reducible apply st_box (dst := some 1) H); exact nF; intro b1) | ((with_reducible apply st_alloc (dst := some 2) H); exact nF; intro b2) | ((with_reducible apply st_alloc (dst := some 3) H); exact nF; intro b3) | ((with_reducible apply st_strsum H); rfl; rfl; exact szF; kernel_rfl) | ((with_reducible apply st_loadat H); decide +kernel; rfl; exact aF; exact zF; rfl) | ((with_reducible apply st_storerow H); rfl; exact eF; (first | exact cells_agg _ | exact cellI | exact cellS | exact cellB | exact (rfl : _ = [_])); exact uF; kernel_rfl; exact Nat.succ_pos _; exact fitF; rfl)); clear H; intro wn H; simp only [Act.put, yA, yB, yC, yD, yE, yF]) | ((with_reducible apply st_makerow (E := 179) (s := 3) H); rfl; rfl; decide +kernel; (focus omega); clear H; intro g zs wn hz0 hz1 H; simp only [Act.put, yA, yB, yC, yD, yE, yF]) | fail)
  refine bp_cell H rfl rfl iF (by kernel_rfl) (by kernel_rfl) rfl (by first | exact .inl rfl | exact .inr rfl) ?_
  rw [HRN.out] at o8
  have H5 : Hs noRow w ([N4, N8].map Hl.all ++ []) _ := H.sel (M := [Hl.all N4, Hl.all N8]) sF
  have H6 := Hs.joinL _ H5
  rw [← List.append_nil (List.flatten _)] at H6
  exact Hs.retd H6 (List.Sublist.refl _) ⟨[_, _, _, _, _, _, _, _, _, _, _, _, _, _], _, rfl, ⟨[_, _, _, _, _, _, _, _, _, _, _, _], [_, _], _, [], rfl, rfl, ⟨[_, _, _, _, _, _, _, _, _], [_, _, _], _, _, rfl, rfl, o5, [_, _], [_], _, _, rfl, rfl, by rw [HRN.out]; exact o8, rfl, rfl⟩, rfl, rfl⟩, rfl⟩
set_option maxRecDepth 100000 in
set_option maxHeartbeats 4000000 in
theorem newDisk_s (n : Nat) (h1 : 1 ≤ n) (h13 : n ≤ 13) (w : World) : Rets Tryz.prog [] 40 #[.int .i64 n] w (tDk n) := by
  have c1 := fun w1 => is_s (n : Int) 1 13 w1
  rw [show (decide ((1 : Int) ≤ n) && decide ((n : Int) ≤ 13)) = true by simp; omega] at c1
  have H := Hs.start noRow w
  refine Rets.of ?_
  go_enter Tryz.func40, Tryz.ntmps40
  go_wp2_with (first | ((first | ((with_reducible apply st_load1 H); decide +kernel; rfl; exact cF) | ((with_reducible apply st_loads H); decide +kernel; rfl; exact iF; exact zF; rfl) | ((with_reducible apply st_store H); rfl; exact eF; (focus (exact cells_agg _)); exact uF; kernel_rfl; (focus (exact Nat.le_of_ble_eq_true (by rfl))); (focus (first | rfl | simp))) | ((with_reducible apply st_storeown H); rfl; exact eF; (focus (exact (rfl : _ = [_]))); exact uF; (focus omega); kernel_rfl; rfl)); clear H; intro wn H; (try simp only [splice, yG, yH, yI, yJ, yK, yL, yM, yN, yO, yP, yQ, Nat.reduceAdd, yA, yB, yC] at H); simp only [Act.put, yA, yB, yC, yD, yE, yF]) | ((first | ((with_reducible apply st_alloc (dst := some 2) H); exact nF; intro b2) | ((with_reducible apply st_storerow H); rfl; exact eF; (first | exact cells_agg _ | exact cellI | exact cellS | exact cellB | exact (rfl : _ = [_])); exact uF; kernel_rfl; exact Nat.succ_pos _; exact fitF; rfl)); clear H; intro wn H; simp only [Act.put, yA, yB, yC, yD, yE, yF]) | ((first | (go_at_call 68; refine gvF (c1 _) H ?_)); clear H; intro wn H) | ((with_reducible apply st_makerow (E := 179) (s := 3) H); rfl; rfl; decide +kernel; (focus omega); clear H; intro g zs wn hz0 hz1 H; simp only [Act.put, yA, yB, yC, yD, yE, yF]) | ((with_reducible apply st_makerow (E := 179) (s := 3) H); rfl; rfl; decide +kernel; (focus omega); clear H; intro g zs wn hz0 hz1 H; simp only [Act.put, yA, yB, yC, yD, yE, yF]) | fail)
  refine bp_cell H rfl rfl iF (by kernel_rfl) (by kernel_rfl) rfl (by first | exact .inl rfl | exact .inr rfl) ?_
  rw [zero_regs hz1] at H
  exact ret_disk (H.sel (M := [Hl.row 179 3 (.slice (some ⟨g, 0, none⟩) n n) n (List.replicate n cellRg).flatten]) sF)
set_option maxRecDepth 100000 in
set_option maxHeartbeats 4000000 in
theorem houseNew_s (c : Cfg) (cs : List Value) (w : World) (hrc : tyCfg.rd w cs c) : Rets Tryz.prog [] 14 #[.agg cs.toArray] w (tAgg Dz.tyHO (houseNew c)) := by
  have c1 := fun w1 hb => stateNew_s c cs w1 (Ty.below _ hrc hb)
  have c2 := fun (h : cfgOk c = true) w1 hb => regs_s c cs h w1 (Ty.below _ hrc hb)
  have c3 := fun (h : cfgOk c = true) w1 => newDisk_s (regsOf c) (by unfold regsOf; omega) (by obtain ⟨_, _, _, h4⟩ := @cfg_fits c h; have h8 := (@cfg_labs c h).2; unfold regsOf; omega) w1
  have hsn : stateNew c = if cfgOk c = true then (newSt c, (0, 0)) else (zeroSt, (0, 1)) := rfl
  have hhn : houseNew c = if cfgOk c = true then (newHo c, (noTxt, 0)) else (zeroHo, (noTxt, 1)) := rfl
  rw [hhn]
  rw [hsn] at c1
  clear hsn hhn
  obtain ⟨A1, n1, k1, A2, n2, k2, A3, n3, k3, rfl⟩ := cfg_lit hrc
  obtain ⟨hv, hhv⟩ : ∃ n, n = c.2.2.2 := ⟨_, rfl⟩
  rw [← hhv] at c1 c2 ⊢
  have HV := Lib.hid hhv
  clear hhv
  obtain ⟨rn, hrn⟩ : ∃ n, n = regsOf c := ⟨_, rfl⟩
  rw [← hrn] at c2 c3
  have HRN := Lib.hid hrn
  clear hrn
  generalize cfgOk c = z at *
  clear hrc
  have H := Hs.start noRow w
  refine Rets.of ?_
  cases z
  case false =>
    replace c1 : ∀ w1, Below w.heap.size w w1 → Rets Tryz.prog [] 6 #[.agg #[.slice A1 n1 k1, .slice A2 n2 k2, .slice A3 n3 k3, .int .i64 hv]] w1 (tAgg tySO (zeroSt, (0, 1))) := c1
    clear c2 c3
    show Calls Tryz.prog _ #[.agg #[.slice A1 n1 k1, .slice A2 n2 k2, .slice A3 n3 k3, .int .i64 hv]] w _
    go_enter Tryz.func14, Tryz.ntmps14
    go_wp2_with (first | ((first | ((with_reducible apply st_load1 H); decide +kernel; rfl; exact cF) | ((with_reducible apply st_loads H); decide +kernel; rfl; exact iF; exact zF; rfl) | ((with_reducible apply st_store H); rfl; exact eF; (focus (exact cells_agg _)); exact uF; kernel_rfl; (focus (exact Nat.le_of_ble_eq_true (by rfl))); (focus (first | rfl | simp))) | ((with_reducible apply st_storeown H); rfl; exact eF; (focus (exact (rfl : _ = [_]))); exact uF; (focus omega); kernel_rfl; rfl)); clear H; intro wn H; (try simp only [splice, yG, yH, yI, yJ, yK, yL, yM, yN, yO, yP, yQ, Nat.reduceAdd, yA, yB, yC] at H); simp only [Act.put, yA, yB, yC, yD, yE, yF]) | ((first | ((with_reducible apply st_box (dst := some 1) H); exact nF; intro b1) | ((with_reducible apply st_alloc (dst := some 2) H); exact nF; intro b2) | ((with_reducible apply st_alloc (dst := some 3) H); exact nF; intro b3) | ((with_reducible apply st_strsum H); rfl; rfl; exact szF; kernel_rfl) | ((with_reducible apply st_loadat H); decide +kernel; rfl; exact aF; exact zF; rfl) | ((with_reducible apply st_storerow H); rfl; exact eF; (first | exact cells_agg _ | exact cellI | exact cellS | exact cellB | exact (rfl : _ = [_])); exact uF; kernel_rfl; exact Nat.succ_pos _; exact fitF; rfl)); clear H; intro wn H; simp only [Act.put, yA, yB, yC, yD, yE, yF]) | ((first | (go_at_call 39; refine gvF (illH_s _ _) H ?_)); clear H; intro wn H) | ((with_reducible apply st_makerow (E := 179) (s := 3) H); rfl; rfl; decide +kernel; (focus omega); clear H; intro g zs wn hz0 hz1 H; simp only [Act.put, yA, yB, yC, yD, yE, yF]) | ((with_reducible apply st_makerow (E := 179) (s := 3) H); rfl; rfl; decide +kernel; (focus omega); clear H; intro g zs wn hz0 hz1 H; simp only [Act.put, yA, yB, yC, yD, yE, yF]) | fail)
    refine (Rets.use (c1 _ H.below)).mono ?_; rintro e wn ⟨_, _, rfl, ⟨d4, N4, rfl, o4, rfl⟩, hkk⟩; have Hn := H.moreK (by intro k hk; first | exact absurd hk List.not_mem_nil | (obtain rfl := List.mem_singleton.1 hk; exact In.mem iF)) hkk; clear hkk; clear H; have H := Hn; clear Hn; (try simp only [yT, yV] at H)
    obtain ⟨B1, m1, j1, B2, m2, j2, B3, m3, j3, B4, m4, j4, B5, m5, j5, B6, m6, j6, B7, m7, j7, rfl⟩ := SO_lit (own_rd H .here o4)
    go_wp2_with (first | ((first | ((with_reducible apply st_load1 H); decide +kernel; rfl; exact cF) | ((with_reducible apply st_loads H); decide +kernel; rfl; exact iF; exact zF; rfl) | ((with_reducible apply st_store H); rfl; exact eF; (focus (exact cells_agg _)); exact uF; kernel_rfl; (focus (exact Nat.le_of_ble_eq_true (by rfl))); (focus (first | rfl | simp))) | ((with_reducible apply st_storeown H); rfl; exact eF; (focus (exact (rfl : _ = [_]))); exact uF; (focus omega); kernel_rfl; rfl)); clear H; intro wn H; (try simp only [splice, yG, yH, yI, yJ, yK, yL, yM, yN, yO, yP, yQ, Nat.reduceAdd, yA, yB, yC] at H); simp only [Act.put, yA, yB, yC, yD, yE, yF]) | ((first | ((with_reducible apply st_box (dst := some 1) H); exact nF; intro b1) | ((with_reducible apply st_alloc (dst := some 2) H); exact nF; intro b2) | ((with_reducible apply st_alloc (dst := some 3) H); exact nF; intro b3) | ((with_reducible apply st_strsum H); rfl; rfl; exact szF; kernel_rfl) | ((with_reducible apply st_loadat H); decide +kernel; rfl; exact aF; exact zF; rfl) | ((with_reducible apply st_storerow H); rfl; exact eF; (first | exact cells_agg _ | exact cellI | exact cellS | exact cellB | exact (rfl : _ = [_])); exact uF; kernel_rfl; exact Nat.succ_pos _; exact fitF; rfl)); clear H; intro wn H; simp only [Act.put, yA, yB, yC, yD, yE, yF]) | ((first | (go_at_call 39; refine gvF (illH_s _ _) H ?_)); clear H; intro wn H) | ((with_reducible apply st_makerow (E := 179) (s := 3) H); rfl; rfl; decide +kernel; (focus omega); clear H; intro g zs wn hz0 hz1 H; simp only [Act.put, yA, yB, yC, yD, yE, yF]) | ((with_reducible apply st_makerow (E := 179) (s := 3) H); rfl; rfl; decide +kernel; (focus omega); clear H; intro g zs wn hz0 hz1 H; simp only [Act.put, yA, yB, yC, yD, yE, yF]) | fail)
    refine bp_cell H rfl rfl iF (by kernel_rfl) (by kernel_rfl) rfl (by first | exact .inl rfl | exact .inr rfl) ?_
    exact ret_illH H 1
  replace c1 : ∀ w1, Below w.heap.size w w1 → Rets Tryz.prog [] 6 #[.agg #[.slice A1 n1 k1, .slice A2 n2 k2, .slice A3 n3 k3, .int .i64 hv]] w1 (tAgg tySO (newSt c, (0, 0))) := c1
  have c4 : ∀ w1, Below w.heap.size w w1 → Gives Tryz.prog 41 #[.agg #[.slice A1 n1 k1, .slice A2 n2 k2, .slice A3 n3 k3, .int .i64 hv]] w1 (.int .i64 rn) := c2 rfl
  have c5 := c3 rfl
  clear c2 c3
  show Calls Tryz.prog _ #[.agg #[.slice A1 n1 k1, .slice A2 n2 k2, .slice A3 n3 k3, .int .i64 hv]] w (RPost [] w (tAgg Dz.tyHO (newHo c, (noTxt, 0))))
  go_enter Tryz.func14, Tryz.ntmps14
  go_wp2_with (first | ((first | ((with_reducible apply st_load1 H); decide +kernel; rfl; exact cF) | ((with_reducible apply st_loads H); decide +kernel; rfl; exact iF; exact zF; rfl) | ((with_reducible apply st_store H); rfl; exact eF; (focus (exact cells_agg _)); exact uF; kernel_rfl; (focus (exact Nat.le_of_ble_eq_true (by rfl))); (focus (first | rfl | simp))) | ((with_reducible apply st_storeown H); rfl; exact eF; (focus (exact (rfl : _ = [_]))); exact uF; (focus omega); kernel_rfl; rfl)); clear H; intro wn H; (try simp only [splice, yG, yH, yI, yJ, yK, yL, yM, yN, yO, yP, yQ, Nat.reduceAdd, yA, yB, yC] at H); simp only [Act.put, yA, yB, yC, yD, yE, yF]) | ((first | ((with_reducible apply st_box (dst := some 1) H); exact nF; intro b1) | ((with_reducible apply st_alloc (dst := some 2) H); exact nF; intro b2) | ((with_reducible apply st_alloc (dst := some 3) H); exact nF; intro b3) | ((with_reducible apply st_strsum H); rfl; rfl; exact szF; kernel_rfl) | ((with_reducible apply st_loadat H); decide +kernel; rfl; exact aF; exact zF; rfl) | ((with_reducible apply st_storerow H); rfl; exact eF; (first | exact cells_agg _ | exact cellI | exact cellS | exact cellB | exact (rfl : _ = [_])); exact uF; kernel_rfl; exact Nat.succ_pos _; exact fitF; rfl)); clear H; intro wn H; simp only [Act.put, yA, yB, yC, yD, yE, yF]) | ((first | (go_at_call 39; refine gvF (illH_s _ _) H ?_)); clear H; intro wn H) | ((with_reducible apply st_makerow (E := 179) (s := 3) H); rfl; rfl; decide +kernel; (focus omega); clear H; intro g zs wn hz0 hz1 H; simp only [Act.put, yA, yB, yC, yD, yE, yF]) | ((with_reducible apply st_makerow (E := 179) (s := 3) H); rfl; rfl; decide +kernel; (focus omega); clear H; intro g zs wn hz0 hz1 H; simp only [Act.put, yA, yB, yC, yD, yE, yF]) | fail)
  refine (Rets.use (c1 _ H.below)).mono ?_; rintro e wn ⟨_, _, rfl, ⟨d4, N4, rfl, o4, rfl⟩, hkk⟩; have Hn := H.moreK (by intro k hk; first | exact absurd hk List.not_mem_nil | (obtain rfl := List.mem_singleton.1 hk; exact In.mem iF)) hkk; clear hkk; clear H; have H := Hn; clear Hn; (try simp only [yT, yV] at H)
  obtain ⟨B1, m1, j1, B2, m2, j2, B3, m3, j3, B4, m4, j4, B5, m5, j5, B6, m6, j6, B7, m7, j7, rfl⟩ := SO_lit (own_rd H .here o4)
  obtain ⟨x1, y1, P1, P2, hc1, hP, o5, hy1, hP2⟩ := o4
  have hy2 : y1 = [.int .i64 0, .int .i64 0] := hy1
  subst hy2 hP2
  rw [List.append_nil] at hP
  subst hP
  have hx1 : x1 = [.slice B1 m1 j1, .slice B2 m2 j2, .slice B3 m3 j3, .int .i64 (newSt c, ((0 : Int), (0 : Int))).1.1.1.2.2.2, .slice B4 m4 j4, .slice B5 m5 j5, .slice B6 m6 j6, .int .i64 (newSt c, ((0 : Int), (0 : Int))).1.1.2.2.2.2, .slice B7 m7 j7] := by
    have h : [.slice B1 m1 j1, .slice B2 m2 j2, .slice B3 m3 j3, .int .i64 (newSt c, ((0 : Int), (0 : Int))).1.1.1.2.2.2, .slice B4 m4 j4, .slice B5 m5 j5, .slice B6 m6 j6, .int .i64 (newSt c, ((0 : Int), (0 : Int))).1.1.2.2.2.2, .slice B7 m7 j7] ++ [.int .i64 0, .int .i64 0] = x1 ++ [.int .i64 0, .int .i64 0] := hc1
    exact (List.append_inj' h rfl).1.symm
  subst hx1
  clear hc1 hy1
  obtain ⟨cAt, cC0, cC1⟩ := cHo_ex
  go_wp2_with (first | ((first | ((with_reducible apply st_load1 H); decide +kernel; rfl; exact cF) | ((with_reducible apply st_loads H); decide +kernel; rfl; exact iF; exact zF; rfl) | ((with_reducible apply st_store H); rfl; exact eF; (focus (exact cells_agg _)); exact uF; kernel_rfl; (focus (exact Nat.le_of_ble_eq_true (by rfl))); (focus (first | rfl | simp))) | ((with_reducible apply st_storeown H); rfl; exact eF; (focus (exact (rfl : _ = [_]))); exact uF; (focus omega); kernel_rfl; rfl)); clear H; intro wn H; (try simp only [splice, yG, yH, yI, yJ, yK, yL, yM, yN, yO, yP, yQ, Nat.reduceAdd, yA, yB, yC] at H); simp only [Act.put, yA, yB, yC, yD, yE, yF]) | ((first | ((with_reducible apply st_box (dst := some 1) H); exact nF; intro b1) | ((with_reducible apply st_alloc (dst := some 2) H); exact nF; intro b2) | ((with_reducible apply st_alloc (dst := some 3) H); exact nF; intro b3) | ((with_reducible apply st_strsum H); rfl; rfl; exact szF; kernel_rfl) | ((with_reducible apply st_loadat H); decide +kernel; rfl; exact aF; exact zF; rfl) | ((with_reducible apply st_storerow H); rfl; exact eF; (first | exact cells_agg _ | exact cellI | exact cellS | exact cellB | exact (rfl : _ = [_])); exact uF; kernel_rfl; exact Nat.succ_pos _; exact fitF; rfl)); clear H; intro wn H; simp only [Act.put, yA, yB, yC, yD, yE, yF]) | ((first | (go_at_call 39; refine gvF (illH_s _ _) H ?_)); clear H; intro wn H) | ((with_reducible apply st_makerow (E := 179) (s := 3) H); rfl; rfl; decide +kernel; (focus omega); clear H; intro g zs wn hz0 hz1 H; simp only [Act.put, yA, yB, yC, yD, yE, yF]) | ((with_reducible apply st_makerow (E := 179) (s := 3) H); rfl; rfl; decide +kernel; (focus omega); clear H; intro g zs wn hz0 hz1 H; simp only [Act.put, yA, yB, yC, yD, yE, yF]) | fail)
  apply wp_region_hs (K := []) (Spec.V _ :: Spec.V _ :: Spec.V _ :: Spec.V _ :: Spec.T _ :: Spec.V _ :: Spec.V _ :: []) 7 H rfl (by simp) (by kernel_rfl) (by kernel_rfl); intro vs Ls; (iterate 3 ((with_reducible apply wpH_V); (focus rfl); (focus rfl); (focus (intro w1 H1; exact oF)); simp only [Act.put, yA, yB, yC, yD, yE, yF]; (try simp only [yG, yH, yJ, yK]))); (with_reducible apply wpH_VK); (focus rfl); (focus rfl); (focus (intro hk w1 H1; unfold OpOk; go_simp; exact now_call (Gives.rets (c4 _ H1.below)))); simp only [Act.put, yA, yB, yC, yD, yE, yF]; (with_reducible apply wpH_T); (focus rfl); (focus rfl); (focus (intro hk w1 H1; unfold OpOk; go_simp; exact now_call (c5 _))); simp only [Act.put, yA, yB, yC, yD, yE, yF]; (with_reducible apply wpH_VK); (focus rfl); (focus rfl); (focus (intro hk w1 H1; have q4 := okT (hk 4 (by decide +kernel) (by decide)) rfl; exact ok_buildHo cC0 cC1 rfl rfl q4.form)); simp only [Act.put, yA, yB, yC, yD, yE, yF]; (iterate 1 ((with_reducible apply wpH_V); (focus rfl); (focus rfl); (focus (intro w1 H1; exact oF)); simp only [Act.put, yA, yB, yC, yD, yE, yF]; (try simp only [yG, yH, yJ, yK]))); refine wpH_0 ?_; intro hok wn Hn; (try simp only [yT, yU, yV, yW] at Hn); clear H; have H := Hn; clear Hn; have ht4 := okT (hok 4 (by decide)) rfl; clear hok; obtain ⟨A8, k8, N8, e4, o8, l4⟩ := ht4; simp only [e4, l4, yT, yU, yV] at H ⊢; clear e4 l4; rotate_left; (focus (refine locs ?_; intro vs1 vs2; (iterate 7 (refine all_lt_succ ?_ (by first | exact (fun _ => rfl) | exact (fun _ => ⟨rfl, rfl⟩) | (intro h; simp only [spec, Spec.same, yR, yS, Option.getD_some]; (try rw [h 4 (by decide +kernel)]); (first | done | exact ⟨rfl, rfl⟩ | exact ⟨trivial, rfl⟩ | exact ⟨rfl, trivial⟩))))); exact (fun k hk => absurd hk (Nat.not_lt_zero k))))
  simp only [cC0, cC1]
  go_wp2_with (first | ((first | ((with_reducible apply st_load1 H); decide +kernel; rfl; exact cF) | ((with_reducible apply st_loads H); decide +kernel; rfl; exact iF; exact zF; rfl) | ((with_reducible apply st_store H); rfl; exact eF; (focus (exact cells_agg _)); exact uF; kernel_rfl; (focus (exact Nat.le_of_ble_eq_true (by rfl))); (focus (first | rfl | simp))) | ((with_reducible apply st_storeown H); rfl; exact eF; (focus (exact (rfl : _ = [_]))); exact uF; (focus omega); kernel_rfl; rfl)); clear H; intro wn H; (try simp only [splice, yG, yH, yI, yJ, yK, yL, yM, yN, yO, yP, yQ, Nat.reduceAdd, yA, yB, yC] at H); simp only [Act.put, yA, yB, yC, yD, yE, yF]) | ((first | ((with_reducible apply st_box (dst := some 1) H); exact nF; intro b1) | ((with_reducible apply st_alloc (dst := some 2) H); exact nF; intro b2) | ((with_reducible apply st_alloc (dst := some 3) H); exact nF; intro b3) | ((with_reducible apply st_strsum H); rfl; rfl; exact szF; kernel_rfl) | ((with_reducible apply st_loadat H); decide +kernel; rfl; exact aF; exact zF; rfl) | ((with_reducible apply st_storerow H); rfl; exact eF; (first | exact cells_agg _ | exact cellI | exact cellS | exact cellB | exact (rfl : _ = [_])); exact uF; kernel_rfl; exact Nat.succ_pos _; exact fitF; rfl)); clear H; intro wn H; simp only [Act.put, yA, yB, yC, yD, yE, yF]) | ((first | (go_at_call 39; refine gvF (illH_s _ _) H ?_)); clear H; intro wn H) | ((with_reducible apply st_makerow (E := 179) (s := 3) H); rfl; rfl; decide +kernel; (focus omega); clear H; intro g zs wn hz0 hz1 H; simp only [Act.put, yA, yB, yC, yD, yE, yF]) | ((with_reducible apply st_makerow (E := 179) (s := 3) H); rfl; rfl; decide +kernel; (focus omega); clear H; intro g zs wn hz0 hz1 H; simp only [Act.put, yA, yB, yC, yD, yE, yF]) | fail)
  refine bp_cell H rfl rfl iF (by kernel_rfl) (by kernel_rfl) rfl (by first | exact .inl rfl | exact .inr rfl) ?_
  rw [HRN.out] at o8
  have H5 : Hs noRow w ([N4, N8].map Hl.all ++ []) _ := H.sel (M := [Hl.all N4, Hl.all N8]) sF
  have H6 := Hs.joinL _ H5
  rw [← List.append_nil (List.flatten _)] at H6
  exact Hs.retd H6 (List.Sublist.refl _) ⟨[_, _, _, _, _, _, _, _, _, _, _, _, _, _], _, rfl, ⟨[_, _, _, _, _, _, _, _, _, _, _, _], [_, _], _, [], rfl, rfl, ⟨[_, _, _, _, _, _, _, _, _], [_, _, _], _, _, rfl, rfl, o5, [_, _], [_], _, _, rfl, rfl, by rw [HRN.out]; exact o8, rfl, rfl⟩, rfl, rfl⟩, rfl⟩
end Go.Proofs.YtjklmldchbakjaaGreat
