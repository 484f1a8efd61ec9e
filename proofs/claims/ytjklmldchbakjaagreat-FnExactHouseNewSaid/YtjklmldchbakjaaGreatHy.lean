/-
  Yards, states: marked, and the marks read: the walks. Printed by kgen.py.
-/
import Derived.Test.YtjklmldchbakjaaGreatHx
import Derived.Test.YtjklmldchbakjaaGreatHw
import Derived.Test.YtjklmldchbakjaaGreatHn
import Derived.Test.YtjklmldchbakjaaGreatH1
set_option linter.unusedSimpArgs false
set_option linter.unusedVariables false
namespace Go.Proofs.YtjklmldchbakjaaGreat
open Go.RowKit M
set_option maxRecDepth 100000 in
set_option maxHeartbeats 4000000 in
theorem markYard_l (a : Yd) (cs : List Value) (k : Nat) (hk : k + mkYd.cnt a < 9223372036854775807) : Turn Tryz.prog 64 tyYd cs a (mkYd.mak k a) #[.agg cs.toArray, .int .i64 k] (.int .i64 (k + mkYd.cnt a : Nat)) := by
  intro R w0 L w N hO H
  obtain ⟨x1, y1, M1, N1, rfl, rfl, h1, x2, y2, M2, N2, rfl, rfl, h2, x3, y3, M3, N3, rfl, rfl, h3, x4, y4, M4, N4, rfl, rfl, h4, hf, hM⟩ := hO
  subst hf hM
  have Hp : Hs R w0 (Hl.all M1 :: Hl.all M2 :: Hl.all M3 :: Hl.all M4 :: L) w := Hs.partL [M1, M2, M3, M4] H
  clear H
  have H := Hp
  clear Hp
  obtain ⟨A1, n1, k1, A2, n2, k2, A3, n3, k3, rfl⟩ := cfg_lit (own_rd H iF h1)
  obtain ⟨v2, hv2⟩ : ∃ v, x2 = [v] := by obtain ⟨v, _, _, rfl, _⟩ := h2; exact ⟨v, rfl⟩
  subst hv2
  obtain ⟨A4, k4, rfl, _, _⟩ := sl_form (own_rd H iF h2)
  obtain ⟨v3, hv3⟩ : ∃ v, x3 = [v] := by obtain ⟨v, _, _, rfl, _⟩ := h3; exact ⟨v, rfl⟩
  subst hv3
  obtain ⟨A5, k5, rfl, _, _⟩ := sl_form (own_rd H iF h3)
  obtain ⟨v4, hv4⟩ : ∃ v, x4 = [v] := by obtain ⟨v, _, _, rfl, _⟩ := h4; exact ⟨v, rfl⟩
  subst hv4
  obtain ⟨A6, k6, rfl, _, _⟩ := sl_form (own_rd H iF h4)
  obtain ⟨a1, a2, a3, a4, a5⟩ := a
  simp only at h1 h2 h3 h4
  show Calls Tryz.prog _ #[.agg #[.slice A1 n1 k1, .slice A2 n2 k2, .slice A3 n3 k3, .int .i64 a1.2.2.2, .slice A4 a2.length k4, .slice A5 a3.length k5, .slice A6 a4.length k6, .int .i64 a5], _] w _
  have hk1 : k + mkCfg.cnt a1 + mkNd.cntl a2 + mkTa.cntl a3 + mkUs.cntl a4 < 9223372036854775807 := by
    have : k + (mkCfg.cnt a1 + (mkNd.cntl a2 + (mkTa.cntl a3 + (mkUs.cntl a4 + (0))))) < 9223372036854775807 := hk
    omega
  have c1 := markConfig_l a1 [.slice A1 n1 k1, .slice A2 n2 k2, .slice A3 n3 k3, .int .i64 a1.2.2.2] (k) (by omega)
  have c2 := markNodeS_l (.slice A4 a2.length k4) a2 (k + mkCfg.cnt a1) (by omega)
  have c3 := markTaskS_l (.slice A5 a3.length k5) a3 (k + mkCfg.cnt a1 + mkNd.cntl a2) (by omega)
  have c4 := markUseS_l (.slice A6 a4.length k6) a4 (k + mkCfg.cnt a1 + mkNd.cntl a2 + mkTa.cntl a3) (by omega)
  have hr : (k + mkYd.cnt (a1, a2, a3, a4, a5) : Nat) = k + mkCfg.cnt a1 + mkNd.cntl a2 + mkTa.cntl a3 + mkUs.cntl a4 := by
    show k + (mkCfg.cnt a1 + (mkNd.cntl a2 + (mkTa.cntl a3 + (mkUs.cntl a4 + (0))))) = _
    omega
  rw [hr]
  have hd : mkYd.mak k (a1, a2, a3, a4, a5) = (mkCfg.mak (k) a1, mkNd.mkl (k + mkCfg.cnt a1) a2, mkTa.mkl (k + mkCfg.cnt a1 + mkNd.cntl a2) a3, mkUs.mkl (k + mkCfg.cnt a1 + mkNd.cntl a2 + mkTa.cntl a3) a4, a5) := rfl
  rw [hd]
  clear hk hr hd hk1
  generalize hln2 : a2.length = ln2 at *
  generalize hln3 : a3.length = ln3 at *
  generalize hln4 : a4.length = ln4 at *
  generalize mkCfg.mak (k) a1 = b1' at *
  generalize mkNd.mkl (k + mkCfg.cnt a1) a2 = b2' at *
  generalize mkTa.mkl (k + mkCfg.cnt a1 + mkNd.cntl a2) a3 = b3' at *
  generalize mkUs.mkl (k + mkCfg.cnt a1 + mkNd.cntl a2 + mkTa.cntl a3) a4 = b4' at *
  generalize k + mkCfg.cnt a1 + mkNd.cntl a2 + mkTa.cntl a3 + mkUs.cntl a4 = kk4 at *
  generalize k + mkCfg.cnt a1 + mkNd.cntl a2 + mkTa.cntl a3 = kk3 at *
  generalize k + mkCfg.cnt a1 + mkNd.cntl a2 = kk2 at *
  generalize k + mkCfg.cnt a1 = kk1 at *
  have HH1 := Lib.hid h1
  have HH2 := Lib.hid h2
  have HH3 := Lib.hid h3
  have HH4 := Lib.hid h4
  clear h1 h2 h3 h4
  go_enter Tryz.func64, Tryz.ntmps64
  go_wp2_with (first | ((first | ((with_reducible apply st_load1 H); decide +kernel; rfl; exact cF) | ((with_reducible apply st_loads H); decide +kernel; rfl; exact iF; exact zF; rfl)); clear H; intro wn H; (try simp only [splice, yG, yH, yI, yJ, yK, yL, yM, yN, yO, yP, yQ, Nat.reduceAdd, yA, yB, yC] at H); simp only [Act.put, yA, yB, yC, yD, yE, yF]) | ((first | ((with_reducible apply st_box (dst := some 2) H); exact nF; intro b2) | ((with_reducible apply st_loadat H); decide +kernel; rfl; exact aF; exact zF; rfl)); clear H; intro wn H; simp only [Act.put, yA, yB, yC, yD, yE, yF]) | fail)
  have Hn := H.reperm (Del.perm (h := Hl.all M1) dF)
  refine (c1 _ _ _ _ _ HH1.out Hn).mono ?_
  rintro e wn ⟨rfl, J1, j1, Hq⟩
  clear H Hn
  have H := Hq
  clear Hq
  go_wp2_with (first | ((first | ((with_reducible apply st_load1 H); decide +kernel; rfl; exact cF) | ((with_reducible apply st_loads H); decide +kernel; rfl; exact iF; exact zF; rfl)); clear H; intro wn H; (try simp only [splice, yG, yH, yI, yJ, yK, yL, yM, yN, yO, yP, yQ, Nat.reduceAdd, yA, yB, yC] at H); simp only [Act.put, yA, yB, yC, yD, yE, yF]) | ((first | ((with_reducible apply st_box (dst := some 2) H); exact nF; intro b2) | ((with_reducible apply st_loadat H); decide +kernel; rfl; exact aF; exact zF; rfl)); clear H; intro wn H; simp only [Act.put, yA, yB, yC, yD, yE, yF]) | fail)
  have Hn := H.reperm (Del.perm (h := Hl.all M2) dF)
  refine (c2 _ _ _ _ _ HH2.out Hn).mono ?_
  rintro e wn ⟨rfl, J2, j2, Hq⟩
  clear H Hn
  have H := Hq
  clear Hq
  go_wp2_with (first | ((first | ((with_reducible apply st_load1 H); decide +kernel; rfl; exact cF) | ((with_reducible apply st_loads H); decide +kernel; rfl; exact iF; exact zF; rfl)); clear H; intro wn H; (try simp only [splice, yG, yH, yI, yJ, yK, yL, yM, yN, yO, yP, yQ, Nat.reduceAdd, yA, yB, yC] at H); simp only [Act.put, yA, yB, yC, yD, yE, yF]) | ((first | ((with_reducible apply st_box (dst := some 2) H); exact nF; intro b2) | ((with_reducible apply st_loadat H); decide +kernel; rfl; exact aF; exact zF; rfl)); clear H; intro wn H; simp only [Act.put, yA, yB, yC, yD, yE, yF]) | fail)
  have Hn := H.reperm (Del.perm (h := Hl.all M3) dF)
  refine (c3 _ _ _ _ _ HH3.out Hn).mono ?_
  rintro e wn ⟨rfl, J3, j3, Hq⟩
  clear H Hn
  have H := Hq
  clear Hq
  go_wp2_with (first | ((first | ((with_reducible apply st_load1 H); decide +kernel; rfl; exact cF) | ((with_reducible apply st_loads H); decide +kernel; rfl; exact iF; exact zF; rfl)); clear H; intro wn H; (try simp only [splice, yG, yH, yI, yJ, yK, yL, yM, yN, yO, yP, yQ, Nat.reduceAdd, yA, yB, yC] at H); simp only [Act.put, yA, yB, yC, yD, yE, yF]) | ((first | ((with_reducible apply st_box (dst := some 2) H); exact nF; intro b2) | ((with_reducible apply st_loadat H); decide +kernel; rfl; exact aF; exact zF; rfl)); clear H; intro wn H; simp only [Act.put, yA, yB, yC, yD, yE, yF]) | fail)
  have Hn := H.reperm (Del.perm (h := Hl.all M4) dF)
  refine (c4 _ _ _ _ _ HH4.out Hn).mono ?_
  rintro e wn ⟨rfl, J4, j4, Hq⟩
  clear H Hn
  have H := Hq
  clear Hq
  go_wp2_with (first | ((first | ((with_reducible apply st_load1 H); decide +kernel; rfl; exact cF) | ((with_reducible apply st_loads H); decide +kernel; rfl; exact iF; exact zF; rfl)); clear H; intro wn H; (try simp only [splice, yG, yH, yI, yJ, yK, yL, yM, yN, yO, yP, yQ, Nat.reduceAdd, yA, yB, yC] at H); simp only [Act.put, yA, yB, yC, yD, yE, yF]) | ((first | ((with_reducible apply st_box (dst := some 2) H); exact nF; intro b2) | ((with_reducible apply st_loadat H); decide +kernel; rfl; exact aF; exact zF; rfl)); clear H; intro wn H; simp only [Act.put, yA, yB, yC, yD, yE, yF]) | fail)
  go_ret
  have G4 := H.reperm (Del.perm (h := Hl.all J4) dF)
  have G3 := G4.reperm (Del.perm (h := Hl.all J3) dF)
  have G2 := G3.reperm (Del.perm (h := Hl.all J2) dF)
  have G1 := G2.reperm (Del.perm (h := Hl.all J1) dF)
  have HF := (Hs.joinL [J1, J2, J3, J4] G1).off
  exact ⟨rfl, _, ⟨[_, _, _, _], [_, _, _, _], _, _, rfl, rfl, j1, [_], [_, _, _], _, _, rfl, rfl, j2, [_], [_, _], _, _, rfl, rfl, j3, [_], [_], _, _, rfl, rfl, j4, ⟨rfl, rfl⟩⟩, HF⟩
set_option maxRecDepth 100000 in
set_option maxHeartbeats 4000000 in
theorem heldYard_l (a : Yd) (cs : List Value) (k : Nat) (hk : k + mkYd.cnt a < 9223372036854775807) (w : World) (hr : tyYd.rd w cs (mkYd.mak k a)) : Gives Tryz.prog 66 #[.agg cs.toArray, .int .i64 k] w (.int .i64 (k + mkYd.cnt a : Nat)) := by
  obtain ⟨A1, n1, k1, A2, n2, k2, A3, n3, k3, A4, n4, k4, A5, n5, k5, A6, n6, k6, rfl, h1, h2, h3, h4⟩ := Yd_form hr
  obtain ⟨a1, a2, a3, a4, a5⟩ := a
  have hk1 : k + mkCfg.cnt a1 + mkNd.cntl a2 + mkTa.cntl a3 + mkUs.cntl a4 < 9223372036854775807 := by
    have : k + (mkCfg.cnt a1 + (mkNd.cntl a2 + (mkTa.cntl a3 + (mkUs.cntl a4 + (0))))) < 9223372036854775807 := hk
    omega
  show Gives Tryz.prog _ #[.agg #[.slice A1 n1 k1, .slice A2 n2 k2, .slice A3 n3 k3, .int .i64 a1.2.2.2, .slice A4 n4 k4, .slice A5 n5 k5, .slice A6 n6 k6, .int .i64 a5], _] w _
  have g1 : tyCfg.rd w [.slice A1 n1 k1, .slice A2 n2 k2, .slice A3 n3 k3, .int .i64 a1.2.2.2] (mkCfg.mak (k) a1) := h1
  have g2 : (Ty.sl 126 tyNd).rd w [.slice A4 n4 k4] (mkNd.mkl (k + mkCfg.cnt a1) a2) := h2
  have g3 : (Ty.sl 160 tyTa).rd w [.slice A5 n5 k5] (mkTa.mkl (k + mkCfg.cnt a1 + mkNd.cntl a2) a3) := h3
  have g4 : (Ty.sl 163 tyUs).rd w [.slice A6 n6 k6] (mkUs.mkl (k + mkCfg.cnt a1 + mkNd.cntl a2 + mkTa.cntl a3) a4) := h4
  have c1 := fun w1 hb => heldConfig_l a1 _ (k) (by omega) w1 (Ty.below _ g1 hb)
  have c2 := fun w1 hb => heldNodeS_l _ a2 (k + mkCfg.cnt a1) (by omega) w1 (Ty.below _ g2 hb)
  have c3 := fun w1 hb => heldTaskS_l _ a3 (k + mkCfg.cnt a1 + mkNd.cntl a2) (by omega) w1 (Ty.below _ g3 hb)
  have c4 := fun w1 hb => heldUseS_l _ a4 (k + mkCfg.cnt a1 + mkNd.cntl a2 + mkTa.cntl a3) (by omega) w1 (Ty.below _ g4 hb)
  have hr2 : (k + mkYd.cnt (a1, a2, a3, a4, a5) : Nat) = k + mkCfg.cnt a1 + mkNd.cntl a2 + mkTa.cntl a3 + mkUs.cntl a4 := by
    show k + (mkCfg.cnt a1 + (mkNd.cntl a2 + (mkTa.cntl a3 + (mkUs.cntl a4 + (0))))) = _
    omega
  rw [hr2]
  clear hk hk1 hr hr2 h1 h2 h3 h4 g1 g2 g3 g4
  generalize k + mkCfg.cnt a1 + mkNd.cntl a2 + mkTa.cntl a3 + mkUs.cntl a4 = kk4 at *
  generalize k + mkCfg.cnt a1 + mkNd.cntl a2 + mkTa.cntl a3 = kk3 at *
  generalize k + mkCfg.cnt a1 + mkNd.cntl a2 = kk2 at *
  generalize k + mkCfg.cnt a1 = kk1 at *
  have f1 : ¬ (kk1 : Int) < 0 := by omega
  have f2 : ¬ (kk2 : Int) < 0 := by omega
  have f3 : ¬ (kk3 : Int) < 0 := by omega
  have f4 : ¬ (kk4 : Int) < 0 := by omega
  have H := Hs.start noRow w
  unfold Gives
  go_enter Tryz.func66, Tryz.ntmps66
  go_wp2_with (first | ((first | ((with_reducible apply st_load1 H); decide +kernel; rfl; exact cF) | ((with_reducible apply st_loads H); decide +kernel; rfl; exact iF; exact zF; rfl)); clear H; intro wn H; (try simp only [splice, yG, yH, yI, yJ, yK, yL, yM, yN, yO, yP, yQ, Nat.reduceAdd, yA, yB, yC] at H); simp only [Act.put, yA, yB, yC, yD, yE, yF]) | ((first | ((with_reducible apply st_box (dst := some 2) H); exact nF; intro b2) | ((with_reducible apply st_strsum H); rfl; rfl; exact szF; kernel_rfl) | ((with_reducible apply st_loadat H); decide +kernel; rfl; exact aF; exact zF; rfl)); clear H; intro wn H; simp only [Act.put, yA, yB, yC, yD, yE, yF]) | ((first | (go_at_call 95; refine gvF (c1 _ H.below) H ?_) | (go_at_call 96; refine gvF (c2 _ H.below) H ?_) | (go_at_call 97; refine gvF (c3 _ H.below) H ?_) | (go_at_call 98; refine gvF (c4 _ H.below) H ?_)); clear H; intro wn H) | fail)
  go_ret
  exact ⟨rfl, H.below⟩
set_option maxRecDepth 100000 in
set_option maxHeartbeats 4000000 in
theorem markState_l (a : St) (cs : List Value) (k : Nat) (hk : k + mkSt.cnt a < 9223372036854775807) : Turn Tryz.prog 37 tySt cs a (mkSt.mak k a) #[.agg cs.toArray, .int .i64 k] (.int .i64 (k + mkSt.cnt a : Nat)) := by
  intro R w0 L w N hO H
  obtain ⟨x1, y1, M1, N1, rfl, rfl, h1, h2⟩ := hO
  rw [show M1 ++ N1 = [M1, N1].flatten by simp] at H
  have Hp : Hs R w0 (Hl.all M1 :: Hl.all N1 :: L) w := Hs.partL [M1, N1] H
  clear H
  have H := Hp
  clear Hp
  obtain ⟨A1, n1, k1, A2, n2, k2, A3, n3, k3, A4, n4, k4, A5, n5, k5, A6, n6, k6, rfl⟩ := Yd_lit (own_rd H iF h1)
  obtain ⟨v2, hv2⟩ : ∃ v, y1 = [v] := by obtain ⟨v, _, _, rfl, _⟩ := h2; exact ⟨v, rfl⟩
  subst hv2
  obtain ⟨A7, k7, rfl, _, _⟩ := sl_form (own_rd H iF h2)
  obtain ⟨a1, a2⟩ := a
  simp only at h1 h2
  show Calls Tryz.prog _ #[.agg #[.slice A1 n1 k1, .slice A2 n2 k2, .slice A3 n3 k3, .int .i64 a1.1.2.2.2, .slice A4 n4 k4, .slice A5 n5 k5, .slice A6 n6 k6, .int .i64 a1.2.2.2.2, .slice A7 a2.length k7], _] w _
  have hk1 : k + mkYd.cnt a1 + mkBo.cntl a2 < 9223372036854775807 := by
    have : k + (mkYd.cnt a1 + (mkBo.cntl a2)) < 9223372036854775807 := hk
    omega
  have c1 := markYard_l a1 [.slice A1 n1 k1, .slice A2 n2 k2, .slice A3 n3 k3, .int .i64 a1.1.2.2.2, .slice A4 n4 k4, .slice A5 n5 k5, .slice A6 n6 k6, .int .i64 a1.2.2.2.2] (k) (by omega)
  have c2 := markMail_l (.slice A7 a2.length k7) a2 (k + mkYd.cnt a1) (by omega)
  have hr : (k + mkSt.cnt (a1, a2) : Nat) = k + mkYd.cnt a1 + mkBo.cntl a2 := by
    show k + (mkYd.cnt a1 + (mkBo.cntl a2)) = _
    omega
  rw [hr]
  have hd : mkSt.mak k (a1, a2) = (mkYd.mak (k) a1, mkBo.mkl (k + mkYd.cnt a1) a2) := rfl
  rw [hd]
  clear hk hr hd hk1
  generalize hln2 : a2.length = ln2 at *
  generalize mkYd.mak (k) a1 = b1' at *
  generalize mkBo.mkl (k + mkYd.cnt a1) a2 = b2' at *
  generalize k + mkYd.cnt a1 + mkBo.cntl a2 = kk2 at *
  generalize k + mkYd.cnt a1 = kk1 at *
  have HH1 := Lib.hid h1
  have HH2 := Lib.hid h2
  clear h1 h2
  go_enter Tryz.func37, Tryz.ntmps37
  go_wp2_with (first | ((first | ((with_reducible apply st_load1 H); decide +kernel; rfl; exact cF) | ((with_reducible apply st_loads H); decide +kernel; rfl; exact iF; exact zF; rfl)); clear H; intro wn H; (try simp only [splice, yG, yH, yI, yJ, yK, yL, yM, yN, yO, yP, yQ, Nat.reduceAdd, yA, yB, yC] at H); simp only [Act.put, yA, yB, yC, yD, yE, yF]) | ((first | ((with_reducible apply st_box (dst := some 2) H); exact nF; intro b2) | ((with_reducible apply st_loadat H); decide +kernel; rfl; exact aF; exact zF; rfl)); clear H; intro wn H; simp only [Act.put, yA, yB, yC, yD, yE, yF]) | fail)
  have Hn := H.reperm (Del.perm (h := Hl.all M1) dF)
  refine (c1 _ _ _ _ _ HH1.out Hn).mono ?_
  rintro e wn ⟨rfl, J1, j1, Hq⟩
  clear H Hn
  have H := Hq
  clear Hq
  go_wp2_with (first | ((first | ((with_reducible apply st_load1 H); decide +kernel; rfl; exact cF) | ((with_reducible apply st_loads H); decide +kernel; rfl; exact iF; exact zF; rfl)); clear H; intro wn H; (try simp only [splice, yG, yH, yI, yJ, yK, yL, yM, yN, yO, yP, yQ, Nat.reduceAdd, yA, yB, yC] at H); simp only [Act.put, yA, yB, yC, yD, yE, yF]) | ((first | ((with_reducible apply st_box (dst := some 2) H); exact nF; intro b2) | ((with_reducible apply st_loadat H); decide +kernel; rfl; exact aF; exact zF; rfl)); clear H; intro wn H; simp only [Act.put, yA, yB, yC, yD, yE, yF]) | fail)
  have Hn := H.reperm (Del.perm (h := Hl.all N1) dF)
  refine (c2 _ _ _ _ _ HH2.out Hn).mono ?_
  rintro e wn ⟨rfl, J2, j2, Hq⟩
  clear H Hn
  have H := Hq
  clear Hq
  go_wp2_with (first | ((first | ((with_reducible apply st_load1 H); decide +kernel; rfl; exact cF) | ((with_reducible apply st_loads H); decide +kernel; rfl; exact iF; exact zF; rfl)); clear H; intro wn H; (try simp only [splice, yG, yH, yI, yJ, yK, yL, yM, yN, yO, yP, yQ, Nat.reduceAdd, yA, yB, yC] at H); simp only [Act.put, yA, yB, yC, yD, yE, yF]) | ((first | ((with_reducible apply st_box (dst := some 2) H); exact nF; intro b2) | ((with_reducible apply st_loadat H); decide +kernel; rfl; exact aF; exact zF; rfl)); clear H; intro wn H; simp only [Act.put, yA, yB, yC, yD, yE, yF]) | fail)
  go_ret
  have G2 := H.reperm (Del.perm (h := Hl.all J2) dF)
  have G1 := G2.reperm (Del.perm (h := Hl.all J1) dF)
  have HF := (Hs.joinL [J1, J2] G1).off
  rw [show [J1, J2].flatten = J1 ++ J2 by simp] at HF
  exact ⟨rfl, _, ⟨[_, _, _, _, _, _, _, _], [_], _, _, rfl, rfl, j1, j2⟩, HF⟩
set_option maxRecDepth 100000 in
set_option maxHeartbeats 4000000 in
theorem heldState_l (a : St) (cs : List Value) (k : Nat) (hk : k + mkSt.cnt a < 9223372036854775807) (w : World) (hr : tySt.rd w cs (mkSt.mak k a)) : Gives Tryz.prog 38 #[.agg cs.toArray, .int .i64 k] w (.int .i64 (k + mkSt.cnt a : Nat)) := by
  obtain ⟨A1, n1, k1, A2, n2, k2, A3, n3, k3, A4, n4, k4, A5, n5, k5, A6, n6, k6, A7, n7, k7, rfl, h1, h2⟩ := St_form hr
  obtain ⟨a1, a2⟩ := a
  have hk1 : k + mkYd.cnt a1 + mkBo.cntl a2 < 9223372036854775807 := by
    have : k + (mkYd.cnt a1 + (mkBo.cntl a2)) < 9223372036854775807 := hk
    omega
  show Gives Tryz.prog _ #[.agg #[.slice A1 n1 k1, .slice A2 n2 k2, .slice A3 n3 k3, .int .i64 a1.1.2.2.2, .slice A4 n4 k4, .slice A5 n5 k5, .slice A6 n6 k6, .int .i64 a1.2.2.2.2, .slice A7 n7 k7], _] w _
  have g1 : tyYd.rd w [.slice A1 n1 k1, .slice A2 n2 k2, .slice A3 n3 k3, .int .i64 a1.1.2.2.2, .slice A4 n4 k4, .slice A5 n5 k5, .slice A6 n6 k6, .int .i64 a1.2.2.2.2] (mkYd.mak (k) a1) := h1
  have g2 : (Ty.sl 167 tyBo).rd w [.slice A7 n7 k7] (mkBo.mkl (k + mkYd.cnt a1) a2) := h2
  have c1 := fun w1 hb => heldYard_l a1 _ (k) (by omega) w1 (Ty.below _ g1 hb)
  have c2 := fun w1 hb => heldMail_l _ a2 (k + mkYd.cnt a1) (by omega) w1 (Ty.below _ g2 hb)
  have hr2 : (k + mkSt.cnt (a1, a2) : Nat) = k + mkYd.cnt a1 + mkBo.cntl a2 := by
    show k + (mkYd.cnt a1 + (mkBo.cntl a2)) = _
    omega
  rw [hr2]
  clear hk hk1 hr hr2 h1 h2 g1 g2
  generalize k + mkYd.cnt a1 + mkBo.cntl a2 = kk2 at *
  generalize k + mkYd.cnt a1 = kk1 at *
  have f1 : ¬ (kk1 : Int) < 0 := by omega
  have f2 : ¬ (kk2 : Int) < 0 := by omega
  have H := Hs.start noRow w
  unfold Gives
  go_enter Tryz.func38, Tryz.ntmps38
  go_wp2_with (first | ((first | ((with_reducible apply st_load1 H); decide +kernel; rfl; exact cF) | ((with_reducible apply st_loads H); decide +kernel; rfl; exact iF; exact zF; rfl)); clear H; intro wn H; (try simp only [splice, yG, yH, yI, yJ, yK, yL, yM, yN, yO, yP, yQ, Nat.reduceAdd, yA, yB, yC] at H); simp only [Act.put, yA, yB, yC, yD, yE, yF]) | ((first | ((with_reducible apply st_box (dst := some 2) H); exact nF; intro b2) | ((with_reducible apply st_strsum H); rfl; rfl; exact szF; kernel_rfl) | ((with_reducible apply st_loadat H); decide +kernel; rfl; exact aF; exact zF; rfl)); clear H; intro wn H; simp only [Act.put, yA, yB, yC, yD, yE, yF]) | ((first | (go_at_call 66; refine gvF (c1 _ H.below) H ?_) | (go_at_call 67; refine gvF (c2 _ H.below) H ?_)); clear H; intro wn H) | fail)
  go_ret
  exact ⟨rfl, H.below⟩
set_option maxRecDepth 100000 in
set_option maxHeartbeats 4000000 in
theorem markStateOut_l (a : SO) (cs : List Value) (k : Nat) (hk : k + mkSO.cnt a < 9223372036854775807) : Turn Tryz.prog 12 tySO cs a (mkSO.mak k a) #[.agg cs.toArray, .int .i64 k] (.int .i64 (k + mkSO.cnt a : Nat)) := by
  intro R w0 L w N hO H
  obtain ⟨x1, y1, M1, N1, rfl, rfl, h1, hf, hM⟩ := hO
  subst hf hM
  have Hp : Hs R w0 (Hl.all M1 :: L) w := Hs.partL [M1] H
  clear H
  have H := Hp
  clear Hp
  obtain ⟨A1, n1, k1, A2, n2, k2, A3, n3, k3, A4, n4, k4, A5, n5, k5, A6, n6, k6, A7, n7, k7, rfl⟩ := St_lit (own_rd H iF h1)
  obtain ⟨a1, a2⟩ := a
  simp only at h1
  show Calls Tryz.prog _ #[.agg #[.slice A1 n1 k1, .slice A2 n2 k2, .slice A3 n3 k3, .int .i64 a1.1.1.2.2.2, .slice A4 n4 k4, .slice A5 n5 k5, .slice A6 n6 k6, .int .i64 a1.1.2.2.2.2, .slice A7 n7 k7, .int .i64 a2.1, .int .i64 a2.2], _] w _
  have hk1 : k + mkSt.cnt a1 < 9223372036854775807 := by
    have : k + (mkSt.cnt a1 + (0)) < 9223372036854775807 := hk
    omega
  have c1 := markState_l a1 [.slice A1 n1 k1, .slice A2 n2 k2, .slice A3 n3 k3, .int .i64 a1.1.1.2.2.2, .slice A4 n4 k4, .slice A5 n5 k5, .slice A6 n6 k6, .int .i64 a1.1.2.2.2.2, .slice A7 n7 k7] (k) (by omega)
  have hr : (k + mkSO.cnt (a1, a2) : Nat) = k + mkSt.cnt a1 := by
    show k + (mkSt.cnt a1 + (0)) = _
    omega
  rw [hr]
  have hd : mkSO.mak k (a1, a2) = (mkSt.mak (k) a1, a2) := rfl
  rw [hd]
  clear hk hr hd hk1
  generalize mkSt.mak (k) a1 = b1' at *
  generalize k + mkSt.cnt a1 = kk1 at *
  have HH1 := Lib.hid h1
  clear h1
  go_enter Tryz.func12, Tryz.ntmps12
  go_wp2_with (first | ((first | ((with_reducible apply st_load1 H); decide +kernel; rfl; exact cF) | ((with_reducible apply st_loads H); decide +kernel; rfl; exact iF; exact zF; rfl)); clear H; intro wn H; (try simp only [splice, yG, yH, yI, yJ, yK, yL, yM, yN, yO, yP, yQ, Nat.reduceAdd, yA, yB, yC] at H); simp only [Act.put, yA, yB, yC, yD, yE, yF]) | ((first | ((with_reducible apply st_box (dst := some 2) H); exact nF; intro b2) | ((with_reducible apply st_loadat H); decide +kernel; rfl; exact aF; exact zF; rfl)); clear H; intro wn H; simp only [Act.put, yA, yB, yC, yD, yE, yF]) | fail)
  have Hn := H.reperm (Del.perm (h := Hl.all M1) dF)
  refine (c1 _ _ _ _ _ HH1.out Hn).mono ?_
  rintro e wn ⟨rfl, J1, j1, Hq⟩
  clear H Hn
  have H := Hq
  clear Hq
  go_wp2_with (first | ((first | ((with_reducible apply st_load1 H); decide +kernel; rfl; exact cF) | ((with_reducible apply st_loads H); decide +kernel; rfl; exact iF; exact zF; rfl)); clear H; intro wn H; (try simp only [splice, yG, yH, yI, yJ, yK, yL, yM, yN, yO, yP, yQ, Nat.reduceAdd, yA, yB, yC] at H); simp only [Act.put, yA, yB, yC, yD, yE, yF]) | ((first | ((with_reducible apply st_box (dst := some 2) H); exact nF; intro b2) | ((with_reducible apply st_loadat H); decide +kernel; rfl; exact aF; exact zF; rfl)); clear H; intro wn H; simp only [Act.put, yA, yB, yC, yD, yE, yF]) | fail)
  go_ret
  have G1 := H.reperm (Del.perm (h := Hl.all J1) dF)
  have HF := (Hs.joinL [J1] G1).off
  exact ⟨rfl, _, ⟨[_, _, _, _, _, _, _, _, _], [_, _], _, _, rfl, rfl, j1, ⟨rfl, rfl⟩⟩, HF⟩
set_option maxRecDepth 100000 in
set_option maxHeartbeats 4000000 in
theorem heldStateOut_l (a : SO) (cs : List Value) (k : Nat) (hk : k + mkSO.cnt a < 9223372036854775807) (w : World) (hr : tySO.rd w cs (mkSO.mak k a)) : Gives Tryz.prog 13 #[.agg cs.toArray, .int .i64 k] w (.int .i64 (k + mkSO.cnt a : Nat)) := by
  obtain ⟨A1, n1, k1, A2, n2, k2, A3, n3, k3, A4, n4, k4, A5, n5, k5, A6, n6, k6, A7, n7, k7, rfl, h1⟩ := SO_form hr
  obtain ⟨a1, a2⟩ := a
  have hk1 : k + mkSt.cnt a1 < 9223372036854775807 := by
    have : k + (mkSt.cnt a1 + (0)) < 9223372036854775807 := hk
    omega
  show Gives Tryz.prog _ #[.agg #[.slice A1 n1 k1, .slice A2 n2 k2, .slice A3 n3 k3, .int .i64 a1.1.1.2.2.2, .slice A4 n4 k4, .slice A5 n5 k5, .slice A6 n6 k6, .int .i64 a1.1.2.2.2.2, .slice A7 n7 k7, .int .i64 a2.1, .int .i64 a2.2], _] w _
  have g1 : tySt.rd w [.slice A1 n1 k1, .slice A2 n2 k2, .slice A3 n3 k3, .int .i64 a1.1.1.2.2.2, .slice A4 n4 k4, .slice A5 n5 k5, .slice A6 n6 k6, .int .i64 a1.1.2.2.2.2, .slice A7 n7 k7] (mkSt.mak (k) a1) := h1
  have c1 := fun w1 hb => heldState_l a1 _ (k) (by omega) w1 (Ty.below _ g1 hb)
  have hr2 : (k + mkSO.cnt (a1, a2) : Nat) = k + mkSt.cnt a1 := by
    show k + (mkSt.cnt a1 + (0)) = _
    omega
  rw [hr2]
  clear hk hk1 hr hr2 h1 g1
  generalize k + mkSt.cnt a1 = kk1 at *
  have f1 : ¬ (kk1 : Int) < 0 := by omega
  have H := Hs.start noRow w
  unfold Gives
  go_enter Tryz.func13, Tryz.ntmps13
  go_wp2_with (first | ((first | ((with_reducible apply st_load1 H); decide +kernel; rfl; exact cF) | ((with_reducible apply st_loads H); decide +kernel; rfl; exact iF; exact zF; rfl)); clear H; intro wn H; (try simp only [splice, yG, yH, yI, yJ, yK, yL, yM, yN, yO, yP, yQ, Nat.reduceAdd, yA, yB, yC] at H); simp only [Act.put, yA, yB, yC, yD, yE, yF]) | ((first | ((with_reducible apply st_box (dst := some 2) H); exact nF; intro b2) | ((with_reducible apply st_strsum H); rfl; rfl; exact szF; kernel_rfl) | ((with_reducible apply st_loadat H); decide +kernel; rfl; exact aF; exact zF; rfl)); clear H; intro wn H; simp only [Act.put, yA, yB, yC, yD, yE, yF]) | ((first | (go_at_call 38; refine gvF (c1 _ H.below) H ?_)); clear H; intro wn H) | fail)
  go_ret
  exact ⟨rfl, H.below⟩
end Go.Proofs.YtjklmldchbakjaaGreat
