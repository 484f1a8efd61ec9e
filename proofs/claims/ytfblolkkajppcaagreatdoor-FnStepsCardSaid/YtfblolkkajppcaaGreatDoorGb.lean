/-
  Draws: chains of labels, a configuration's labels, one of them: the walks.
-/
import Derived.Test.YtfblolkkajppcaaGreatDoorGa
import Derived.Test.YtfblolkkajppcaaGreatDoorJ3
set_option linter.unusedSimpArgs false
set_option linter.unusedVariables false
namespace Go.Proofs.YtfblolkkajppcaaGreatDoor
open Go.RowKit M
theorem atI (l : List Int) {n : Int} (h0 : 0 ≤ n) (h1 : n < l.length) : ((l.map (Value.int .i64)).toArray)[n.toNat]? = some (.int .i64 (atL l n)) := by
  have h2 : n.toNat < l.length := by omega
  unfold atL
  rw [List.getElem?_toArray, List.getElem?_map, List.getElem?_eq_getElem h2, List.getD_eq_getElem?_getD, List.getElem?_eq_getElem h2]
  rfl
theorem seg_lab {ls : List Lab} {n : Nat} {x : Lab} (h : ls[n]? = some x) : ∀ j u, (encLab x)[j]? = some u → (flat encLab ls)[n * 2 + j]? = some u := fun j u hu =>
  (flat_get (enc := encLab) (s := 2) (fun _ => rfl) ls n j x h (by have := (List.getElem?_eq_some_iff.1 hu).1; exact this)).trans hu
theorem joinOf_of {K : List Hl} {w : World} {x : Value} {L : List Hl} (y1 y2 : Int) (h : tLab x L) : Rets Tryz.prog K 92 #[.agg #[.int .i64 y1, .int .i64 y2], x] w tLab := by
  obtain ⟨⟨a, b, rfl⟩, _⟩ := h
  exact (joinOf_s _ _ _ _ _).wide
def tLabs : Value → List Hl → Prop := fun r L => ∃ (ls : List Lab) (N : List Hl), (Ty.sl 24 tyLab).own [r] ls N ∧ L = [Hl.all N]
def tChain : Value → List Hl → Prop := fun r L => ∃ (A : Option Addr) (n c : Nat) (ls : List Lab) (J : List Hl), r = .slice A n c ∧ (Ty.sl 24 tyLab).own [.slice A n c] ls J ∧ L = [Hl.all J]
theorem tChain.form {v : Value} {M : List Hl} (h : tChain v M) : ∃ A n c, v = .slice A n c := let ⟨A, n, c, _, _, e, _⟩ := h; ⟨A, n, c, e⟩
theorem own_labs {v : Value} {n : Nat} {xs : List Value} {l : List Lab} (hx : xs = flat encLab l) (hn : n = l.length) (h1 : v.oneCell' = true) : (Ty.sl 24 tyLab).own [v] l [Hl.row 24 2 v n xs] := by
  subst hx hn
  exact ⟨v, flat encLab l, [], rfl, ownL_flat l, rfl, h1⟩
set_option maxRecDepth 100000 in
set_option maxHeartbeats 4000000 in
theorem l02Chain_w {g : Nat} {v : Value} {l : List UInt8} {sz : Int} {w : World} (hs : Src w g v l sz) : Rets Tryz.prog [Hl.src g v l.length sz] 81 #[.pointer (some ⟨g, 0, none⟩)] w tChain := by
  have HC := Lib.hid hs.code
  have H := Hs.src hs
  clear hs
  go_enter Tryz.func81, Tryz.ntmps81
  go_wp2_with (fail)
  refine (Rets.use (n_w 2 (by omega) (Src.of HC.out H iF))).mono ?_; rintro e wn ⟨_, _, rfl, ⟨⟨q, rfl, q0, q1⟩, rfl⟩, hkk⟩; have Hn := H.moreK (by intro k hk; first | exact absurd hk List.not_mem_nil | (obtain rfl := List.mem_singleton.1 hk; exact In.mem iF)) hkk; clear hkk; clear H; have H := Hn; clear Hn; (try simp only [yT, yV] at H)
  go_wp2_with (((((with_reducible apply st_bslice H); exact nsF; intro nb)); clear H; intro wn H; simp only [Act.put, yA, yB, yC, yD, yE, yF]))
  refine (Rets.use (n_w 4 (by omega) (Src.of HC.out H iF))).mono ?_; rintro e wn ⟨_, _, rfl, ⟨⟨p, rfl, p0, p1⟩, rfl⟩, hkk⟩; have Hn := H.moreK (by intro k hk; first | exact absurd hk List.not_mem_nil | (obtain rfl := List.mem_singleton.1 hk; exact In.mem iF)) hkk; clear hkk; clear H; have H := Hn; clear Hn; (try simp only [yT, yV] at H)
  have p2 : p < 4 := by omega
  have hx : (#[.int .i64 0, .int .i64 0, .int .i64 1, .int .i64 2] : Array Value)[p.toNat]? = some (.int .i64 (atL [0, 0, 1, 2] p)) := atI [0, 0, 1, 2] p0 p2
  generalize atL [0, 0, 1, 2] p = z at *
  clear q0 q1 p1
  go_wp2_with (first | ((((with_reducible apply st_bslice H); exact nsF; intro nb)); clear H; intro wn H; simp only [Act.put, yA, yB, yC, yD, yE, yF]) | ((with_reducible apply st_load1 H); decide +kernel; rfl; (focus exact H.cell iF hx); clear H; intro wn H; simp only [Act.put, yA, yB, yC, yD, yE, yF]))
  refine (Rets.use (n_w 3 (by omega) (Src.of HC.out H iF))).mono ?_; rintro e wn ⟨_, _, rfl, ⟨⟨k0, rfl, k1, k2⟩, rfl⟩, hkk⟩; have Hn := H.moreK (by intro k hk; first | exact absurd hk List.not_mem_nil | (obtain rfl := List.mem_singleton.1 hk; exact In.mem iF)) hkk; clear hkk; clear H; have H := Hn; clear Hn; (try simp only [yT, yV] at H)
  obtain ⟨kk, rfl⟩ := Int.eq_ofNat_of_zero_le k1
  have hkk : kk ≤ 2 := by omega
  clear k1 k2 hx p0 p2
  go_wp2_with (fail)
  have H2 := ((H.sel (M := [Hl.blk nb 24 _, Hl.src g v l.length sz]) sF).toOwn 2 1 (E := 24) Upd.here rfl (by unfold maxLen; omega)).toRow Upd.here
  clear H
  go_loopg [3, 4, 5] kk (fun m ov kv _ wr => ∃ (k n : Nat) (lv : Value) (ls : List Lab), (k ≤ m ∧ m ≤ k) ∧ ov = lv ∧ kv = .int .i64 k ∧ n + k ≤ 2 ∧ Hid (n + 1 = ls.length) ∧ Hs (fun x => x = g) w [Hl.row 24 2 lv (n + 1) (flat encLab ls), Hl.src g v l.length sz] wr)
  case atStart => exact ⟨kk, 0, _, [(q, z)], ⟨Nat.le_refl _, Nat.le_refl _⟩, rfl, rfl, by omega, Lib.hid rfl, H2⟩
  case round =>
    clear H2
    obtain ⟨k, n, lv, ls, hkm, rfl, rfl, hnk, HL, H⟩ := hrel
    obtain ⟨gr, cr, rfl, _⟩ := (H.rows .here).form (by omega)
    by_cases hlt : 0 < k
    · obtain ⟨k1, rfl⟩ : ∃ k1, k = k1 + 1 := ⟨k - 1, by omega⟩
      have hlt1 : (0 : Int) < ((k1 + 1 : Nat) : Int) := by omega
      obtain ⟨⟨y1, y2⟩, hy⟩ : ∃ y, ls[n]? = some y := ⟨ls[n]'(by rw [← HL.out]; omega), List.getElem?_eq_getElem (by rw [← HL.out]; omega)⟩
      have hseg : ∀ j u, ([.int .i64 y1, .int .i64 y2] : List Value)[j]? = some u → (flat encLab ls)[n * 2 + j]? = some u := seg_lab hy
      have hn1 : ((n + 1 : Nat) : Int) - 1 = (n : Int) := by omega
      have hn2 : (n : Int) < (n : Int) + 1 := by omega
      have hn3 : n < n + 1 := by omega
      clear hy
      go_wp2_with (fail)
      apply wp_region_hs (K := [Hl.src g v l.length sz]) (Spec.V _ :: Spec.V _ :: Spec.V _ :: Spec.V _ :: Spec.V _ :: Spec.V _ :: Spec.V _ :: Spec.T _ :: Spec.T _ :: Spec.N _ _ :: []) 10 H rfl (by intro k hk; obtain rfl := List.mem_singleton.1 hk; exact In.mem iF) (by kernel_rfl) (by kernel_rfl); intro vs Ls; (iterate 3 ((with_reducible apply wpH_V); (focus rfl); (focus rfl); (focus (intro w1 H1; exact oF)); simp only [Act.put, yA, yB, yC, yD, yE, yF]; (try simp only [yG, yH, yJ, yK]))); (with_reducible apply wpH_VK); (focus rfl); (focus rfl); (focus (intro hk w1 H1; unfold OpOk; go_simp; (try rw [wrap_id (by omega) (by omega)]); exact now_v)); simp only [Act.put, yA, yB, yC, yD, yE, yF]; (iterate 1 ((with_reducible apply wpH_V); (focus rfl); (focus rfl); (focus (intro w1 H1; exact oF)); simp only [Act.put, yA, yB, yC, yD, yE, yF]; (try simp only [yG, yH, yJ, yK]))); ((with_reducible apply wpH_V); (focus rfl); (focus rfl); (focus (intro w1 H1; (with_reducible apply ok_loadat); (focus rfl); (focus decide +kernel); (focus exact At.row H1 iF hseg); (focus exact zF); (focus rfl))); simp only [Act.put, yA, yB, yC, yD, yE, yF]); (iterate 1 ((with_reducible apply wpH_V); (focus rfl); (focus rfl); (focus (intro w1 H1; exact oF)); simp only [Act.put, yA, yB, yC, yD, yE, yF]; (try simp only [yG, yH, yJ, yK]))); (with_reducible apply wpH_T); (focus rfl); (focus rfl); (focus (intro hk w1 H1; unfold OpOk; go_simp; exact now_call (l02Label_w (Src.of HC.out H1 iF)))); simp only [Act.put, yA, yB, yC, yD, yE, yF]; (with_reducible apply wpH_T); (focus rfl); (focus rfl); (focus (intro hk w1 H1; have q7 := okT (hk 7 (by decide +kernel) (by decide)) rfl; unfold OpOk; go_simp; exact now_call (joinOf_of y1 y2 q7))); simp only [Act.put, yA, yB, yC, yD, yE, yF]; (with_reducible apply wpH_N); (focus rfl); (focus rfl); (focus (intro w1 H1; exact nF)); intro g9 hg9; simp only [Act.put, yA, yB, yC, yD, yE, yF]; refine wpH_0 ?_; intro hok wn Hn; (try simp only [yT, yU, yV, yW] at Hn); clear H; have H := Hn; clear Hn; (try simp only [← hg9]); clear hg9; have ht7 := okT (hok 7 (by decide)) rfl; have ht8 := okT (hok 8 (by decide)) rfl; clear hok; obtain ⟨⟨a7, b7, e7⟩, l7⟩ := ht7; simp only [e7, l7, yT, yU, yV] at H ⊢; clear e7 l7; obtain ⟨⟨a8, b8, e8⟩, l8⟩ := ht8; simp only [e8, l8, yT, yU, yV] at H ⊢; clear e8 l8; rotate_left; (focus (refine locs ?_; intro vs1 vs2; (iterate 10 (refine all_lt_succ ?_ (by first | exact (fun _ => rfl) | exact (fun _ => ⟨rfl, rfl⟩) | (intro h; simp only [spec, Spec.same, yR, yS, Option.getD_some]; (try rw [h 7 (by decide +kernel)]); (try rw [h 8 (by decide +kernel)]); (try rw [h 9 (by decide +kernel)]); (first | done | exact ⟨rfl, rfl⟩ | exact ⟨trivial, rfl⟩ | exact ⟨rfl, trivial⟩))))); exact (fun k hk => absurd hk (Nat.not_lt_zero k))))
      go_wp2_with (((((with_reducible apply st_store H); rfl; exact eF; (focus (exact cells_agg _)); exact uF; kernel_rfl; (focus (exact Nat.le_of_ble_eq_true (by rfl))); (focus (rfl)))); clear H; intro wn H; (try simp only [splice, yG, yH, yI, yJ, yK, yL, yM, yN, yO, yP, yQ, Nat.reduceAdd, yA, yB, yC] at H); simp only [Act.put, yA, yB, yC, yD, yE, yF]))
      cases hpx : eqB (a8, b8) (y1, y2)
      case false =>
        apply wp_region_hq H (by kernel_rfl) (by kernel_rfl); (iterate 4 ((with_reducible refine' hq_step ?_ ?_ ?_); rotate_left; (focus rfl); (focus (intro w1 H1; exact qLF)); simp only [Act.put, yA, yB, yC, yD, yE, yF]; (try simp only [yG, yH, yJ, yK]))); (with_reducible refine' hq_step ?_ ?_ ?_); rotate_left; (focus rfl); (focus (intro w1 H1; exact qWF)); simp only [Act.put, yA, yB, yC, yD, yE, yF]; (iterate 1 ((with_reducible refine' hq_step ?_ ?_ ?_); rotate_left; (focus rfl); (focus (intro w1 H1; exact qLF)); simp only [Act.put, yA, yB, yC, yD, yE, yF]; (try simp only [yG, yH, yJ, yK]))); (with_reducible refine' hq_step ?_ ?_ ?_); rotate_left; (focus rfl); (focus (intro w1 H1; (with_reducible apply q_loadat); (focus rfl); (focus decide +kernel); (focus exact At.row H1 iF hseg); (focus exact zF); (focus rfl))); simp only [Act.put, yA, yB, yC, yD, yE, yF]; (with_reducible refine' hq_step ?_ ?_ ?_); rotate_left; (focus rfl); (focus (intro w1 H1; exact qEF)); simp only [Act.put, yA, yB, yC, yD, yE, yF]; refine wpQuiet_nil ?_; clear H; intro wn H
        go_wp2_with (first | ((with_reducible apply st_appendrb H); (((focus (with_reducible exact dT (dT (dH)))); rfl)); rfl; exact iF; kernel_rfl; rfl; rfl; (focus (omega)); clear H; intro vq wn H; obtain ⟨Aq, cq, hvq, _, _⟩ := (H.rows .here).slice; subst hvq; simp only [Act.put, yA, yB, yC, yD, yE, yF]) | ((((with_reducible apply st_loads H); decide +kernel; rfl; exact iF; exact zF; rfl)); clear H; intro wn H; (try simp only [splice, yG, yH, yI, yJ, yK, yL, yM, yN, yO, yP, yQ, Nat.reduceAdd, yA, yB, yC] at H); simp only [Act.put, yA, yB, yC, yD, yE, yF]) | ((((with_reducible apply st_bslice H); exact nsF; intro nb)); clear H; intro wn H; simp only [Act.put, yA, yB, yC, yD, yE, yF]))
        go_roundg k1
        case measure => omega
        case rel =>
          have hfl : flat encLab (ls ++ [(a8, b8)]) = flat encLab ls ++ [.int .i64 a8, .int .i64 b8] := by rw [flat_append]; rfl
          rw [← hfl] at H
          exact ⟨k1, n + 1, _, ls ++ [(a8, b8)], ⟨Nat.le_refl _, Nat.le_refl _⟩, rfl, by go_num, by omega, Lib.hid (by rw [List.length_append, ← HL.out]; rfl), H.sel sF⟩
      case true =>
        apply wp_region_hq H (by kernel_rfl) (by kernel_rfl); (iterate 4 ((with_reducible refine' hq_step ?_ ?_ ?_); rotate_left; (focus rfl); (focus (intro w1 H1; exact qLF)); simp only [Act.put, yA, yB, yC, yD, yE, yF]; (try simp only [yG, yH, yJ, yK]))); (with_reducible refine' hq_step ?_ ?_ ?_); rotate_left; (focus rfl); (focus (intro w1 H1; exact qWF)); simp only [Act.put, yA, yB, yC, yD, yE, yF]; (iterate 1 ((with_reducible refine' hq_step ?_ ?_ ?_); rotate_left; (focus rfl); (focus (intro w1 H1; exact qLF)); simp only [Act.put, yA, yB, yC, yD, yE, yF]; (try simp only [yG, yH, yJ, yK]))); (with_reducible refine' hq_step ?_ ?_ ?_); rotate_left; (focus rfl); (focus (intro w1 H1; (with_reducible apply q_loadat); (focus rfl); (focus decide +kernel); (focus exact At.row H1 iF hseg); (focus exact zF); (focus rfl))); simp only [Act.put, yA, yB, yC, yD, yE, yF]; (with_reducible refine' hq_step ?_ ?_ ?_); rotate_left; (focus rfl); (focus (intro w1 H1; exact qEF)); simp only [Act.put, yA, yB, yC, yD, yE, yF]; refine wpQuiet_nil ?_; clear H; intro wn H
        go_wp2_with (fail)
        go_roundg k1
        case measure => omega
        case rel => exact ⟨k1, n, _, ls, ⟨Nat.le_refl _, Nat.le_refl _⟩, rfl, by go_num, by omega, HL, H.sel sF⟩
    · obtain rfl : k = 0 := by omega
      go_wp2_with (fail)
      go_ret
      have H2 : Hs (fun x => x = g) w [Hl.all [Hl.row 24 2 (.slice (some ⟨gr, 0, none⟩) (n + 1) cr) (n + 1) (flat encLab ls)], Hl.src g v l.length sz] _ := Hs.pack (M := [_]) (L := [_]) (H.sel (M := [Hl.row 24 2 (.slice (some ⟨gr, 0, none⟩) (n + 1) cr) (n + 1) (flat encLab ls), Hl.src g v l.length sz]) sF)
      exact Hs.ret H2.up1 ⟨_, _, _, ls, _, rfl, own_labs rfl HL.out rfl, rfl⟩
theorem ownL_flatL {α : Type} {s : Nat} {enc : α → List Value} {hl : ∀ a, (enc a).length = s} {h1 : ∀ a, ∀ u ∈ enc a, u.oneCell' = true} {xs : List Value} {l : List α} {N : List Hl} (h : OwnL (Ty.flat s enc hl h1) xs l N) : xs = flat enc l := by
  induction h with
  | nil => rfl
  | cons h _ ih => rw [h.1, ih]; rfl
/-- what is read beside the source stays readable while the source is drawn from -/
theorem farOf {α : Type} {T : Ty α} {R : Nat → Prop} {w0 w : World} {N : List Hl} {g n : Nat} {v : Value} {sz : Int} {cs : List Value} {a : α} (H : Hs R w0 [Hl.all N, Hl.src g v n sz] w) (h : T.own cs a N) : ∀ w', w.grownBy w' (some g) → T.rd w' cs a := fun w' hg =>
  T.read h fun k hk => k.stab w w' (H.allOk .here k hk) fun b hb => hg.block b (k.lt w (H.allOk .here k hk) b hb) fun e => by
    injection e with e
    exact (List.pairwise_cons.1 H.sep).1 _ (List.mem_singleton.2 rfl) b ⟨k, hk, hb⟩ e
set_option maxRecDepth 100000 in
set_option maxHeartbeats 4000000 in
theorem labelsOf_w (c : Cfg) (cs : List Value) (w : World) (hr : tyCfg.rd w cs c) : Rets Tryz.prog [] 91 #[.agg cs.toArray] w tLabs := by
  have c0 := fun w1 hb => configRight_s c cs w1 (Ty.below _ hr hb)
  obtain ⟨v1, v2, v3, rfl, h1, h2, h3⟩ := cfg_form hr
  have c1 := fun w1 hb => labels_s v1 c.1 w1 (Ty.below _ h1 hb)
  obtain ⟨nd, pr, qt, hf⟩ := c
  simp only at h1 h2 h3 c1
  obtain ⟨A, k1, rfl, _, _⟩ := sl_form h1
  obtain ⟨B, k2, rfl, _, _⟩ := sl_form h2
  obtain ⟨D, k3, rfl, _, _⟩ := sl_form h3
  generalize nd.length = m1 at *
  generalize pr.length = m2 at *
  generalize qt.length = m3 at *
  generalize cfgOk (nd, pr, qt, hf) = z at *
  clear hr h1 h2 h3
  replace c0 : ∀ w1, Below w.heap.size w w1 → Gives Tryz.prog 111 #[.agg #[.slice A m1 k1, .slice B m2 k2, .slice D m3 k3, .int .i64 hf]] w1 (.bool z) := c0
  have H := Hs.start noRow w
  refine Rets.of ?_
  show Calls _ _ #[.agg #[.slice A m1 k1, .slice B m2 k2, .slice D m3 k3, .int .i64 hf]] _ _
  cases z
  case false =>
    go_enter Tryz.func91, Tryz.ntmps91
    go_wp2_with (first | ((((with_reducible apply st_loads H); decide +kernel; rfl; exact iF; exact zF; rfl)); clear H; intro wn H; (try simp only [splice, yG, yH, yI, yJ, yK, yL, yM, yN, yO, yP, yQ, Nat.reduceAdd, yA, yB, yC] at H); simp only [Act.put, yA, yB, yC, yD, yE, yF]) | ((first | ((with_reducible apply st_box (dst := some 1) H); exact nF; intro b1) | ((with_reducible apply st_bslice H); exact nsF; intro nb)); clear H; intro wn H; simp only [Act.put, yA, yB, yC, yD, yE, yF]) | (((go_at_call 111; refine gvF (c0 _ H.below) H ?_)); clear H; intro wn H))
    go_ret
    have H2 : Hs noRow w (Hl.all [Hl.row 24 2 (.slice (some ⟨nb, 0, none⟩) 0 0) 0 (flat encLab [])] :: _) _ := Hs.pack (M := [_]) (H.putRow 24 2 (some ⟨nb, 0, none⟩))
    exact Hs.retd H2 (List.Sublist.cons_cons _ (List.nil_sublist _)) ⟨[], _, own_labs rfl rfl rfl, rfl⟩
  go_enter Tryz.func91, Tryz.ntmps91
  go_wp2_with (first | ((first | ((with_reducible apply st_load1 H); decide +kernel; rfl; exact cF) | ((with_reducible apply st_loads H); decide +kernel; rfl; exact iF; exact zF; rfl)); clear H; intro wn H; (try simp only [splice, yG, yH, yI, yJ, yK, yL, yM, yN, yO, yP, yQ, Nat.reduceAdd, yA, yB, yC] at H); simp only [Act.put, yA, yB, yC, yD, yE, yF]) | ((((with_reducible apply st_box (dst := some 1) H); exact nF; intro b1)); clear H; intro wn H; simp only [Act.put, yA, yB, yC, yD, yE, yF]) | (((go_at_call 111; refine gvF (c0 _ H.below) H ?_)); clear H; intro wn H))
  refine (Rets.use (c1 _ H.below)).mono ?_; rintro e wn ⟨_, _, rfl, ⟨N, hN, rfl, hone⟩, hkk⟩; have Hn := H.moreK (by intro k hk; first | exact absurd hk List.not_mem_nil | (obtain rfl := List.mem_singleton.1 hk; exact In.mem iF)) hkk; clear hkk; clear H; have H := Hn; clear Hn; (try simp only [yT, yV] at H)
  go_wp2_with (fail)
  go_ret
  exact Hs.retd H (List.Sublist.cons_cons _ (List.nil_sublist _)) ⟨_, N, own_single hN hone rfl, rfl⟩
set_option maxRecDepth 100000 in
set_option maxHeartbeats 4000000 in
theorem l09Label_w {g : Nat} {v : Value} {l : List UInt8} {sz : Int} {w : World} (hs : Src w g v l sz) (c : Cfg) (cs : List Value) (hr : ∀ w', w.grownBy w' (some g) → tyCfg.rd w' cs c) :
    Rets Tryz.prog [Hl.src g v l.length sz] 78 #[.pointer (some ⟨g, 0, none⟩), .agg cs.toArray] w tLab := by
  have HC := Lib.hid hs.code
  have H := Hs.src hs
  clear hs
  have HR := Lib.hid hr
  obtain ⟨v1, v2, v3, rfl, h1, h2, h3⟩ := cfg_form (hr w (gr_refl w _))
  obtain ⟨nd, pr, qt, hf⟩ := c
  simp only at h1 h2 h3
  obtain ⟨A, k1, rfl, _, _⟩ := sl_form h1
  obtain ⟨B, k2, rfl, _, _⟩ := sl_form h2
  obtain ⟨D, k3, rfl, _, _⟩ := sl_form h3
  clear hr h1 h2 h3
  replace HR : Hid (∀ w', w.grownBy w' (some g) → tyCfg.rd w' [.slice A nd.length k1, .slice B pr.length k2, .slice D qt.length k3, .int .i64 hf] (nd, pr, qt, hf)) := HR
  have cL := fun wn (hg : w.grownBy wn (some g)) => labelsOf_w _ _ wn (HR.out wn hg)
  generalize nd.length = m1 at *
  generalize pr.length = m2 at *
  generalize qt.length = m3 at *
  clear HR
  show Rets Tryz.prog _ _ #[.pointer (some ⟨g, 0, none⟩), .agg #[.slice A m1 k1, .slice B m2 k2, .slice D m3 k3, .int .i64 hf]] w _
  go_enter Tryz.func78, Tryz.ntmps78
  go_wp2_with (first | ((((with_reducible apply st_loads H); decide +kernel; rfl; exact iF; exact zF; rfl)); clear H; intro wn H; (try simp only [splice, yG, yH, yI, yJ, yK, yL, yM, yN, yO, yP, yQ, Nat.reduceAdd, yA, yB, yC] at H); simp only [Act.put, yA, yB, yC, yD, yE, yF]) | ((first | ((with_reducible apply st_box (dst := some 3) H); exact nF; intro b3) | ((with_reducible apply st_alloc (dst := some 4) H); exact nF; intro b4)); clear H; intro wn H; simp only [Act.put, yA, yB, yC, yD, yE, yF]))
  refine (Rets.use (cL _ H.grow.grownBy)).mono ?_; rintro e wn ⟨_, _, rfl, ⟨ls, N, o1, rfl⟩, hkk⟩; have Hn := H.moreK (by intro k hk; first | exact absurd hk List.not_mem_nil | (obtain rfl := List.mem_singleton.1 hk; exact In.mem iF)) hkk; clear hkk; clear H; have H := Hn; clear Hn; (try simp only [yT, yV] at H)
  have Hn := own_open o1 H
  clear H o1
  obtain ⟨xs, M, A1, c1, rfl, hO, _, H⟩ := Hn
  obtain rfl : M = [] := flat_noown hO
  obtain rfl := ownL_flatL hO
  obtain ⟨n, hn⟩ : ∃ n, n = ls.length := ⟨_, rfl⟩
  rw [← hn] at H ⊢
  have HN := Lib.hid hn
  clear hn hO cL
  have hnm : n ≤ 9223372036854775807 := by obtain ⟨_, _, h1, h2, h3⟩ := (H.rows .here).slice; injection h1; unfold maxLen at h3; omega
  replace H : Hs (fun x => x = g) w (Hl.row 24 2 (.slice A1 n c1) n (flat encLab ls) :: _) _ := H
  by_cases h0 : n = 0
  · subst h0
    go_wp2_with (fail)
    refine (Rets.use (l02Label_w (Src.of HC.out H iF))).mono ?_; rintro e wn ⟨_, _, rfl, ⟨⟨a, b, rfl⟩, rfl⟩, hkk⟩; have Hn := H.moreK (by intro k hk; first | exact absurd hk List.not_mem_nil | (obtain rfl := List.mem_singleton.1 hk; exact In.mem iF)) hkk; clear hkk; clear H; have H := Hn; clear Hn; (try simp only [yT, yV] at H)
    go_wp2_with (((((with_reducible apply st_store H); rfl; exact eF; (focus (exact cells_agg _)); exact uF; kernel_rfl; (focus (exact Nat.le_of_ble_eq_true (by rfl))); (focus (rfl)))); clear H; intro wn H; (try simp only [splice, yG, yH, yI, yJ, yK, yL, yM, yN, yO, yP, yQ, Nat.reduceAdd, yA, yB, yC] at H); simp only [Act.put, yA, yB, yC, yD, yE, yF]))
    refine bp_cell H rfl rfl iF (by kernel_rfl) (by kernel_rfl) rfl (by first | exact .inl rfl | exact .inr rfl) ?_
    exact Hs.ret (M := []) (H.sel (M := [Hl.src g v l.length sz]) sF) ⟨⟨_, _, rfl⟩, rfl⟩
  have h1 : 0 < n := by omega
  have h2 : (0 : Int) < n := by omega
  obtain ⟨gr, cr, hv, _⟩ := (H.rows .here).form h1
  injection hv with hv1 hv2 hv3
  subst hv1 hv3
  clear hv2
  go_wp2_with (((((with_reducible refine st_gwT ?_ ?_); rfl)); (try simp only [Act.put, yA, yB, yC, yD, yE, yF])))
  refine (Rets.use (one_w 15 (by omega) (Src.of HC.out H iF))).mono ?_; rintro e wn ⟨_, _, rfl, ⟨⟨b, rfl⟩, rfl⟩, hkk⟩; have Hn := H.moreK (by intro k hk; first | exact absurd hk List.not_mem_nil | (obtain rfl := List.mem_singleton.1 hk; exact In.mem iF)) hkk; clear hkk; clear H; have H := Hn; clear Hn; (try simp only [yT, yV] at H)
  cases b
  case true =>
    go_wp2_with (((((with_reducible refine st_gwT ?_ ?_); rfl)); (try simp only [Act.put, yA, yB, yC, yD, yE, yF])))
    refine (Rets.use (l02Label_w (Src.of HC.out H iF))).mono ?_; rintro e wn ⟨_, _, rfl, ⟨⟨a, b, rfl⟩, rfl⟩, hkk⟩; have Hn := H.moreK (by intro k hk; first | exact absurd hk List.not_mem_nil | (obtain rfl := List.mem_singleton.1 hk; exact In.mem iF)) hkk; clear hkk; clear H; have H := Hn; clear Hn; (try simp only [yT, yV] at H)
    go_wp2_with (((((with_reducible apply st_store H); rfl; exact eF; (focus (exact cells_agg _)); exact uF; kernel_rfl; (focus (exact Nat.le_of_ble_eq_true (by rfl))); (focus (rfl)))); clear H; intro wn H; (try simp only [splice, yG, yH, yI, yJ, yK, yL, yM, yN, yO, yP, yQ, Nat.reduceAdd, yA, yB, yC] at H); simp only [Act.put, yA, yB, yC, yD, yE, yF]))
    refine bp_cell H rfl rfl iF (by kernel_rfl) (by kernel_rfl) rfl (by first | exact .inl rfl | exact .inr rfl) ?_
    exact Hs.ret (M := []) (H.sel (M := [Hl.src g v l.length sz]) sF) ⟨⟨_, _, rfl⟩, rfl⟩
  go_wp2_with (((((with_reducible refine st_gwT ?_ ?_); rfl)); (try simp only [Act.put, yA, yB, yC, yD, yE, yF])))
  refine (Rets.use (n_w n (by omega) (Src.of HC.out H iF))).mono ?_; rintro e wn ⟨_, _, rfl, ⟨⟨q, rfl, q0, q1⟩, rfl⟩, hkk⟩; have Hn := H.moreK (by intro k hk; first | exact absurd hk List.not_mem_nil | (obtain rfl := List.mem_singleton.1 hk; exact In.mem iF)) hkk; clear hkk; clear H; have H := Hn; clear Hn; (try simp only [yT, yV] at H)
  obtain ⟨i, rfl⟩ := Int.eq_ofNat_of_zero_le q0
  have hi : i < n := by omega
  have hi2 : (i : Int) < n := by omega
  obtain ⟨⟨y1, y2⟩, hy⟩ : ∃ y, ls[i]? = some y := ⟨ls[i]'(by rw [← HN.out]; exact hi), List.getElem?_eq_getElem (by rw [← HN.out]; exact hi)⟩
  have hseg : ∀ j u, ([.int .i64 y1, .int .i64 y2] : List Value)[j]? = some u → (flat encLab ls)[i * 2 + j]? = some u := seg_lab hy
  clear q0 q1 hy
  go_wp2_with (first | ((((with_reducible apply st_store H); rfl; exact eF; (focus (exact cells_agg _)); exact uF; kernel_rfl; (focus (exact Nat.le_of_ble_eq_true (by rfl))); (focus (rfl)))); clear H; intro wn H; (try simp only [splice, yG, yH, yI, yJ, yK, yL, yM, yN, yO, yP, yQ, Nat.reduceAdd, yA, yB, yC] at H); simp only [Act.put, yA, yB, yC, yD, yE, yF]) | ((with_reducible apply st_loadat H); decide +kernel; rfl; (focus exact At.row H iF hseg); exact zF; rfl; clear H; intro wn H; simp only [Act.put, yA, yB, yC, yD, yE, yF]))
  refine bp_cell H rfl rfl iF (by kernel_rfl) (by kernel_rfl) rfl (by first | exact .inl rfl | exact .inr rfl) ?_
  exact Hs.ret (M := []) (H.sel (M := [Hl.src g v l.length sz]) sF) ⟨⟨_, _, rfl⟩, rfl⟩
end Go.Proofs.YtfblolkkajppcaaGreatDoor
