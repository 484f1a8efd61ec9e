/-
  Yards, states: what the statements do with them: the walks. Printed by kgen.py.
-/
import Derived.Test.YtpfdhfchgnnpiaaGreatHv
import Derived.Test.YtpfdhfchgnnpiaaGreatG5
set_option linter.unusedSimpArgs false
set_option linter.unusedVariables false
namespace Go.Proofs.YtpfdhfchgnnpiaaGreat
open Go.RowKit M
namespace M
end M
section
variable {R : Nat → Prop} {w0 w : World}
theorem Hs.joinL : ∀ (Ns : List (List Hl)) {L : List Hl}, Hs R w0 (Ns.map Hl.all ++ L) w → Hs R w0 (Hl.all Ns.flatten :: L) w
  | [], _, H => H.allNil
  | N :: Ns, L, H => by
    have h1 : Hs R w0 (Ns.map Hl.all ++ (L ++ [Hl.all N])) w := H.reperm (by
      rw [← List.append_assoc]
      exact (List.perm_append_singleton _ _).symm)
    have h2 := Hs.joinL Ns h1
    have h3 : Hs R w0 (Hl.all N :: Hl.all Ns.flatten :: L) w := h2.reperm (by
      refine (List.Perm.cons _ (List.perm_append_singleton _ _)).trans (List.Perm.swap ..))
    exact h3.join
end
namespace M
end M
theorem cfg_lit {w : World} {cs : List Value} {a : Cfg} (h : tyCfg.rd w cs a) : ∃ A1 n1 k1 A2 n2 k2 A3 n3 k3, cs = [.slice A1 n1 k1, .slice A2 n2 k2, .slice A3 n3 k3, .int .i64 a.2.2.2] := by
  obtain ⟨v1, v2, v3, rfl, h1, h2, h3⟩ := cfg_form h
  obtain ⟨A1, k1, rfl, _, _⟩ := sl_form h1
  obtain ⟨A2, k2, rfl, _, _⟩ := sl_form h2
  obtain ⟨A3, k3, rfl, _, _⟩ := sl_form h3
  exact ⟨A1, _, k1, A2, _, k2, A3, _, k3, rfl⟩
namespace M
abbrev Yd := Cfg × List Nd × List Ta × List Us × Int
def szYd (a : Yd) : Nat := szCfg a.1 + (szNdl a.2.1 + (szTal a.2.2.1 + (szUsl a.2.2.2.1)))
def okYd (a : Yd) : Prop := (∀ x ∈ a.2.2.1, okTa x) ∧ (∀ x ∈ a.2.2.2.1, okUs x)
abbrev YO := Yd × (Int × Int)
abbrev St := Yd × List Bo
def szSt (a : St) : Nat := szYd a.1 + (szMl a.2)
def okSt (a : St) : Prop := (okYd a.1)
abbrev SO := St × (Int × Int)
end M
def tyYd : Ty Yd := Ty.pair tyCfg (Ty.pair (Ty.sl 92 tyNd) (Ty.pair (Ty.sl 97 tyTa) (Ty.pair (Ty.sl 100 tyUs) (tyNum))))
theorem Yd_form {w : World} {cs : List Value} {a : Yd} (h : tyYd.rd w cs a) : ∃ A1 n1 k1 A2 n2 k2 A3 n3 k3 A4 n4 k4 A5 n5 k5 A6 n6 k6, cs = [.slice A1 n1 k1, .slice A2 n2 k2, .slice A3 n3 k3, .int .i64 a.1.2.2.2, .slice A4 n4 k4, .slice A5 n5 k5, .slice A6 n6 k6, .int .i64 a.2.2.2.2] ∧ tyCfg.rd w [.slice A1 n1 k1, .slice A2 n2 k2, .slice A3 n3 k3, .int .i64 a.1.2.2.2] a.1 ∧ (Ty.sl 92 tyNd).rd w [.slice A4 n4 k4] a.2.1 ∧ (Ty.sl 97 tyTa).rd w [.slice A5 n5 k5] a.2.2.1 ∧ (Ty.sl 100 tyUs).rd w [.slice A6 n6 k6] a.2.2.2.1 := by
  obtain ⟨x1, y1, rfl, h1, x2, y2, rfl, h2, x3, y3, rfl, h3, x4, y4, rfl, h4, h5⟩ := h
  obtain ⟨A1, n1, k1, A2, n2, k2, A3, n3, k3, rfl⟩ := cfg_lit h1
  obtain ⟨v2, hv2⟩ : ∃ v, x2 = [v] := by obtain ⟨v, _, rfl, _⟩ := h2; exact ⟨v, rfl⟩
  subst hv2
  obtain ⟨A4, k4, rfl, _, _⟩ := sl_form h2
  obtain ⟨v3, hv3⟩ : ∃ v, x3 = [v] := by obtain ⟨v, _, rfl, _⟩ := h3; exact ⟨v, rfl⟩
  subst hv3
  obtain ⟨A5, k5, rfl, _, _⟩ := sl_form h3
  obtain ⟨v4, hv4⟩ : ∃ v, x4 = [v] := by obtain ⟨v, _, rfl, _⟩ := h4; exact ⟨v, rfl⟩
  subst hv4
  obtain ⟨A6, k6, rfl, _, _⟩ := sl_form h4
  obtain rfl : y4 = encNum a.2.2.2.2 := h5
  exact ⟨A1, n1, k1, A2, n2, k2, A3, n3, k3, A4, _, k4, A5, _, k5, A6, _, k6, rfl, h1, h2, h3, h4⟩
theorem Yd_lit {w : World} {cs : List Value} {a : Yd} (h : tyYd.rd w cs a) : ∃ A1 n1 k1 A2 n2 k2 A3 n3 k3 A4 n4 k4 A5 n5 k5 A6 n6 k6, cs = [.slice A1 n1 k1, .slice A2 n2 k2, .slice A3 n3 k3, .int .i64 a.1.2.2.2, .slice A4 n4 k4, .slice A5 n5 k5, .slice A6 n6 k6, .int .i64 a.2.2.2.2] := by
  obtain ⟨A1, n1, k1, A2, n2, k2, A3, n3, k3, A4, n4, k4, A5, n5, k5, A6, n6, k6, e, _⟩ := Yd_form h
  exact ⟨A1, n1, k1, A2, n2, k2, A3, n3, k3, A4, n4, k4, A5, n5, k5, A6, n6, k6, e⟩
set_option maxRecDepth 100000 in
set_option maxHeartbeats 4000000 in
theorem toYard_l (a : Yd) (cs : List Value) (hl : szYd a ≤ 1048576) (w : World) (hr : tyYd.rd w cs a) : Rets Tryz.prog [] 17 #[.agg cs.toArray] w (tAgg tyYd a) := by
  obtain ⟨A1, n1, k1, A2, n2, k2, A3, n3, k3, A4, n4, k4, A5, n5, k5, A6, n6, k6, rfl, h1, h2, h3, h4⟩ := Yd_form hr
  clear hr
  obtain ⟨a1, a2, a3, a4, a5⟩ := a
  simp only at h1 h2 h3 h4
  have hl0 : szCfg a1 + (szNdl a2 + (szTal a3 + (szUsl a4))) ≤ 1048576 := hl
  have hl1 : szCfg a1 ≤ 1048576 := by omega
  have hl2 : szNdl a2 ≤ 1048576 := by omega
  have hl3 : szTal a3 ≤ 1048576 := by omega
  have hl4 : szUsl a4 ≤ 1048576 := by omega
  show Rets Tryz.prog [] _ #[.agg #[.slice A1 n1 k1, .slice A2 n2 k2, .slice A3 n3 k3, .int .i64 a1.2.2.2, .slice A4 n4 k4, .slice A5 n5 k5, .slice A6 n6 k6, .int .i64 a5]] w _
  have c1 := fun w1 hb => toConfig_l a1 _ hl1 w1 (Ty.below _ h1 hb)
  have c2 := fun w1 hb => toNodeS_l _ a2 hl2 w1 (Ty.below _ h2 hb)
  have c3 := fun w1 hb => toTaskS_l _ a3 hl3 w1 (Ty.below _ h3 hb)
  have c4 := fun w1 hb => toUseS_l _ a4 (by unfold szUsl at hl4; omega) w1 (Ty.below _ h4 hb)
  clear hl hl0 hl1 hl2 hl3 hl4 h1 h2 h3 h4
  have H := Hs.start noRow w
  refine Rets.of ?_
  go_enter Tryz.func17, Tryz.ntmps17
  go_wp2_with (first | ((((with_reducible apply st_loads H); decide +kernel; rfl; exact iF; exact zF; rfl)); clear H; intro wn H; (try simp only [splice, yG, yH, yI, yJ, yK, yL, yM, yN, yO, yP, yQ, Nat.reduceAdd, yA, yB, yC] at H); simp only [Act.put, yA, yB, yC, yD, yE, yF]) | ((first | ((with_reducible apply st_box (dst := some 1) H); exact nF; intro b1) | ((with_reducible apply st_alloc (dst := some 2) H); exact nF; intro b2) | ((with_reducible apply st_alloc (dst := some 3) H); exact nF; intro b3)); clear H; intro wn H; simp only [Act.put, yA, yB, yC, yD, yE, yF]))
  refine (Rets.use (c1 _ H.below)).mono ?_; rintro e wn ⟨_, _, rfl, ⟨d1, N1, rfl, hA1, rfl⟩, hkk⟩; have Hn := H.moreK (by intro k hk; first | exact absurd hk List.not_mem_nil | (obtain rfl := List.mem_singleton.1 hk; exact In.mem iF)) hkk; clear hkk; clear H; have H := Hn; clear Hn; (try simp only [yT, yV] at H)
  obtain ⟨B1_1, m1_1, j1_1, B1_2, m1_2, j1_2, B1_3, m1_3, j1_3, rfl⟩ := cfg_lit (own_rd H .here hA1)
  have HA1 := Lib.hid hA1
  clear hA1 c1
  go_wp2_with (((first | ((with_reducible apply st_load1 H); decide +kernel; rfl; exact cF) | ((with_reducible apply st_store H); rfl; exact eF; (focus (exact cells_agg _)); exact uF; kernel_rfl; (focus (exact Nat.le_of_ble_eq_true (by rfl))); (focus (rfl)))); clear H; intro wn H; (try simp only [splice, yG, yH, yI, yJ, yK, yL, yM, yN, yO, yP, yQ, Nat.reduceAdd, yA, yB, yC] at H); simp only [Act.put, yA, yB, yC, yD, yE, yF]))
  refine (Rets.use (c2 _ H.below)).mono ?_; rintro e wn ⟨_, _, rfl, ⟨N2, hN2, rfl, o2⟩, hkk⟩; have Hn := H.moreK (by intro k hk; first | exact absurd hk List.not_mem_nil | (obtain rfl := List.mem_singleton.1 hk; exact In.mem iF)) hkk; clear hkk; clear H; have H := Hn; clear Hn; (try simp only [yT, yV] at H)
  have hA2 := own_single hN2 o2 rfl
  clear hN2 o2
  obtain ⟨B2, j2, rfl, _, _⟩ := sl_form (own_rd H .here hA2)
  have HA2 := Lib.hid hA2
  clear hA2 c2
  go_wp2_with (((first | ((with_reducible apply st_load1 H); decide +kernel; rfl; exact cF) | ((with_reducible apply st_store H); rfl; exact eF; (focus (exact cells_agg _)); exact uF; kernel_rfl; (focus (exact Nat.le_of_ble_eq_true (by rfl))); (focus (rfl)))); clear H; intro wn H; (try simp only [splice, yG, yH, yI, yJ, yK, yL, yM, yN, yO, yP, yQ, Nat.reduceAdd, yA, yB, yC] at H); simp only [Act.put, yA, yB, yC, yD, yE, yF]))
  refine (Rets.use (c3 _ H.below)).mono ?_; rintro e wn ⟨_, _, rfl, ⟨N3, hN3, rfl, o3⟩, hkk⟩; have Hn := H.moreK (by intro k hk; first | exact absurd hk List.not_mem_nil | (obtain rfl := List.mem_singleton.1 hk; exact In.mem iF)) hkk; clear hkk; clear H; have H := Hn; clear Hn; (try simp only [yT, yV] at H)
  have hA3 := own_single hN3 o3 rfl
  clear hN3 o3
  obtain ⟨B3, j3, rfl, _, _⟩ := sl_form (own_rd H .here hA3)
  have HA3 := Lib.hid hA3
  clear hA3 c3
  go_wp2_with (((first | ((with_reducible apply st_load1 H); decide +kernel; rfl; exact cF) | ((with_reducible apply st_store H); rfl; exact eF; (focus (exact cells_agg _)); exact uF; kernel_rfl; (focus (exact Nat.le_of_ble_eq_true (by rfl))); (focus (rfl)))); clear H; intro wn H; (try simp only [splice, yG, yH, yI, yJ, yK, yL, yM, yN, yO, yP, yQ, Nat.reduceAdd, yA, yB, yC] at H); simp only [Act.put, yA, yB, yC, yD, yE, yF]))
  refine (Rets.use (c4 _ H.below)).mono ?_; rintro e wn ⟨_, _, rfl, ⟨N4, hN4, rfl, o4⟩, hkk⟩; have Hn := H.moreK (by intro k hk; first | exact absurd hk List.not_mem_nil | (obtain rfl := List.mem_singleton.1 hk; exact In.mem iF)) hkk; clear hkk; clear H; have H := Hn; clear Hn; (try simp only [yT, yV] at H)
  have hA4 := own_single hN4 o4 rfl
  clear hN4 o4
  obtain ⟨B4, j4, rfl, _, _⟩ := sl_form (own_rd H .here hA4)
  have HA4 := Lib.hid hA4
  clear hA4 c4
  go_wp2_with (((first | ((with_reducible apply st_load1 H); decide +kernel; rfl; exact cF) | ((with_reducible apply st_loads H); decide +kernel; rfl; exact iF; exact zF; rfl) | ((with_reducible apply st_store H); rfl; exact eF; (focus (exact cells_agg _)); exact uF; kernel_rfl; (focus (exact Nat.le_of_ble_eq_true (by rfl))); (focus (rfl)))); clear H; intro wn H; (try simp only [splice, yG, yH, yI, yJ, yK, yL, yM, yN, yO, yP, yQ, Nat.reduceAdd, yA, yB, yC] at H); simp only [Act.put, yA, yB, yC, yD, yE, yF]))
  refine bp_cell H rfl rfl iF (by kernel_rfl) (by kernel_rfl) rfl (by first | exact .inl rfl | exact .inr rfl) ?_
  have H2 : Hs noRow w ([N1, N2, N3, N4].map Hl.all ++ []) _ := H.sel (M := [Hl.all N1, Hl.all N2, Hl.all N3, Hl.all N4]) sF
  have H3 := Hs.joinL _ H2
  exact Hs.retd H3 (List.Sublist.refl _) ⟨[_, _, _, _, _, _, _, _], _, rfl, ⟨[_, _, _, _], [_, _, _, _], _, _, rfl, rfl, HA1.out, [_], [_, _, _], _, _, rfl, rfl, HA2.out, [_], [_, _], _, _, rfl, rfl, HA3.out, [_], [_], _, _, rfl, rfl, HA4.out, ⟨rfl, rfl⟩⟩, rfl⟩
set_option maxRecDepth 100000 in
set_option maxHeartbeats 4000000 in
theorem eqYard_l (a : Yd) (cs ds : List Value) (w : World) (ha : tyYd.rd w cs a) (hb : tyYd.rd w ds a) : Gives Tryz.prog 23 #[.agg cs.toArray, .agg ds.toArray] w (.bool true) := by
  obtain ⟨A1, n1, k1, A2, n2, k2, A3, n3, k3, A4, n4, k4, A5, n5, k5, A6, n6, k6, rfl, h1, h2, h3, h4⟩ := Yd_form ha
  obtain ⟨eA1, en1, ek1, eA2, en2, ek2, eA3, en3, ek3, eA4, en4, ek4, eA5, en5, ek5, eA6, en6, ek6, rfl, g1, g2, g3, g4⟩ := Yd_form hb
  clear ha hb
  obtain ⟨a1, a2, a3, a4, a5⟩ := a
  simp only at h1 h2 h3 h4 g1 g2 g3 g4
  show Gives Tryz.prog _ #[.agg #[.slice A1 n1 k1, .slice A2 n2 k2, .slice A3 n3 k3, .int .i64 a1.2.2.2, .slice A4 n4 k4, .slice A5 n5 k5, .slice A6 n6 k6, .int .i64 a5], .agg #[.slice eA1 en1 ek1, .slice eA2 en2 ek2, .slice eA3 en3 ek3, .int .i64 a1.2.2.2, .slice eA4 en4 ek4, .slice eA5 en5 ek5, .slice eA6 en6 ek6, .int .i64 a5]] w _
  have c1 := fun w1 hb => eqConfig_l a1 _ _ w1 (Ty.below _ h1 hb) (Ty.below _ g1 hb)
  have c2 := fun w1 hb => eqNodeS_l _ _ a2 w1 (Ty.below _ h2 hb) (Ty.below _ g2 hb)
  have c3 := fun w1 hb => eqTaskS_l _ _ a3 w1 (Ty.below _ h3 hb) (Ty.below _ g3 hb)
  have c4 := fun w1 hb => eqUseS_l _ _ a4 w1 (Ty.below _ h4 hb) (Ty.below _ g4 hb)
  clear h1 h2 h3 h4 g1 g2 g3 g4
  have H := Hs.start noRow w
  unfold Gives
  go_enter Tryz.func23, Tryz.ntmps23
  go_wp2_with (first | ((first | ((with_reducible apply st_load1 H); decide +kernel; rfl; exact cF) | ((with_reducible apply st_loads H); decide +kernel; rfl; exact iF; exact zF; rfl)); clear H; intro wn H; (try simp only [splice, yG, yH, yI, yJ, yK, yL, yM, yN, yO, yP, yQ, Nat.reduceAdd, yA, yB, yC] at H); simp only [Act.put, yA, yB, yC, yD, yE, yF]) | ((first | ((with_reducible apply st_box (dst := some 2) H); exact nF; intro b2) | ((with_reducible apply st_box (dst := some 3) H); exact nF; intro b3)); clear H; intro wn H; simp only [Act.put, yA, yB, yC, yD, yE, yF]) | ((first | (go_at_call 53; refine gvF (c1 _ H.below) H ?_) | (go_at_call 54; refine gvF (c2 _ H.below) H ?_) | (go_at_call 55; refine gvF (c3 _ H.below) H ?_) | (go_at_call 56; refine gvF (c4 _ H.below) H ?_)); clear H; intro wn H))
  go_ret
  exact ⟨rfl, H.below⟩
set_option maxRecDepth 100000 in
set_option maxHeartbeats 4000000 in
theorem szYard_l (a : Yd) (cs : List Value) (k : Int) (hk : 0 ≤ k ∧ k ≤ 1048576) (ho : okYd a) (w : World) (ha : tyYd.rd w cs a) : Gives Tryz.prog 9 #[.agg cs.toArray, .int .i64 k] w (.int .i64 (szC k (szYd a))) := by
  obtain ⟨A1, n1, k1, A2, n2, k2, A3, n3, k3, A4, n4, k4, A5, n5, k5, A6, n6, k6, rfl, h1, h2, h3, h4⟩ := Yd_form ha
  clear ha
  unfold okYd at ho
  obtain ⟨a1, a2, a3, a4, a5⟩ := a
  simp only at h1 h2 h3 h4 ho
  show Gives Tryz.prog _ #[.agg #[.slice A1 n1 k1, .slice A2 n2 k2, .slice A3 n3 k3, .int .i64 a1.2.2.2, .slice A4 n4 k4, .slice A5 n5 k5, .slice A6 n6 k6, .int .i64 a5], _] w (.int .i64 (szC k (szCfg a1 + (szNdl a2 + (szTal a3 + (szUsl a4))))))
  have d1 := fun k hk w1 hb => szConfig_l a1 _ k hk w1 (Ty.below _ h1 hb)
  have d2 := fun k hk w1 hb => szNodeS_l _ a2 k hk w1 (Ty.below _ h2 hb)
  have d3 := fun k hk w1 hb => szTaskS_l _ a3 k hk (ho.1) w1 (Ty.below _ h3 hb)
  have d4 := fun k hk w1 hb => szUseS_l _ a4 k hk (ho.2) w1 (Ty.below _ h4 hb)
  clear h1 h2 h3 h4 ho
  generalize szCfg a1 = m1 at *
  generalize szNdl a2 = m2 at *
  generalize szTal a3 = m3 at *
  generalize szUsl a4 = m4 at *
  have H := Hs.start noRow w
  unfold Gives
  have c1 := d1 (k) ⟨by omega, by omega⟩
  clear d1
  by_cases hn1 : k - m1 < 0
  · rw [szC_neg hn1] at c1
    rw [szC_neg (by omega)]
    go_enter Tryz.func9, Tryz.ntmps9
    go_wp2_with (first | ((((with_reducible apply st_loads H); decide +kernel; rfl; exact iF; exact zF; rfl)); clear H; intro wn H; (try simp only [splice, yG, yH, yI, yJ, yK, yL, yM, yN, yO, yP, yQ, Nat.reduceAdd, yA, yB, yC] at H); simp only [Act.put, yA, yB, yC, yD, yE, yF]) | ((((with_reducible apply st_box (dst := some 2) H); exact nF; intro b2)); clear H; intro wn H; simp only [Act.put, yA, yB, yC, yD, yE, yF]) | (((go_at_call 25; refine gvF (c1 _ H.below) H ?_)); clear H; intro wn H))
    go_ret
    exact ⟨rfl, H.below⟩
  rw [szC_pos hn1] at c1
  have c2 := d2 (k - m1) ⟨by omega, by omega⟩
  clear d2
  by_cases hn2 : k - m1 - m2 < 0
  · rw [szC_neg hn2] at c2
    rw [szC_neg (by omega)]
    go_enter Tryz.func9, Tryz.ntmps9
    go_wp2_with (first | ((first | ((with_reducible apply st_load1 H); decide +kernel; rfl; exact cF) | ((with_reducible apply st_loads H); decide +kernel; rfl; exact iF; exact zF; rfl)); clear H; intro wn H; (try simp only [splice, yG, yH, yI, yJ, yK, yL, yM, yN, yO, yP, yQ, Nat.reduceAdd, yA, yB, yC] at H); simp only [Act.put, yA, yB, yC, yD, yE, yF]) | ((((with_reducible apply st_box (dst := some 2) H); exact nF; intro b2)); clear H; intro wn H; simp only [Act.put, yA, yB, yC, yD, yE, yF]) | ((first | (go_at_call 25; refine gvF (c1 _ H.below) H ?_) | (go_at_call 26; refine gvF (c2 _ H.below) H ?_)); clear H; intro wn H))
    go_ret
    exact ⟨rfl, H.below⟩
  rw [szC_pos hn2] at c2
  have c3 := d3 (k - m1 - m2) ⟨by omega, by omega⟩
  clear d3
  by_cases hn3 : k - m1 - m2 - m3 < 0
  · rw [szC_neg hn3] at c3
    rw [szC_neg (by omega)]
    go_enter Tryz.func9, Tryz.ntmps9
    go_wp2_with (first | ((first | ((with_reducible apply st_load1 H); decide +kernel; rfl; exact cF) | ((with_reducible apply st_loads H); decide +kernel; rfl; exact iF; exact zF; rfl)); clear H; intro wn H; (try simp only [splice, yG, yH, yI, yJ, yK, yL, yM, yN, yO, yP, yQ, Nat.reduceAdd, yA, yB, yC] at H); simp only [Act.put, yA, yB, yC, yD, yE, yF]) | ((((with_reducible apply st_box (dst := some 2) H); exact nF; intro b2)); clear H; intro wn H; simp only [Act.put, yA, yB, yC, yD, yE, yF]) | ((first | (go_at_call 25; refine gvF (c1 _ H.below) H ?_) | (go_at_call 26; refine gvF (c2 _ H.below) H ?_) | (go_at_call 27; refine gvF (c3 _ H.below) H ?_)); clear H; intro wn H))
    go_ret
    exact ⟨rfl, H.below⟩
  rw [szC_pos hn3] at c3
  have c4 := d4 (k - m1 - m2 - m3) ⟨by omega, by omega⟩
  clear d4
  by_cases hn4 : k - m1 - m2 - m3 - m4 < 0
  · rw [szC_neg hn4] at c4
    rw [szC_neg (by omega)]
    go_enter Tryz.func9, Tryz.ntmps9
    go_wp2_with (first | ((first | ((with_reducible apply st_load1 H); decide +kernel; rfl; exact cF) | ((with_reducible apply st_loads H); decide +kernel; rfl; exact iF; exact zF; rfl)); clear H; intro wn H; (try simp only [splice, yG, yH, yI, yJ, yK, yL, yM, yN, yO, yP, yQ, Nat.reduceAdd, yA, yB, yC] at H); simp only [Act.put, yA, yB, yC, yD, yE, yF]) | ((((with_reducible apply st_box (dst := some 2) H); exact nF; intro b2)); clear H; intro wn H; simp only [Act.put, yA, yB, yC, yD, yE, yF]) | ((first | (go_at_call 25; refine gvF (c1 _ H.below) H ?_) | (go_at_call 26; refine gvF (c2 _ H.below) H ?_) | (go_at_call 27; refine gvF (c3 _ H.below) H ?_) | (go_at_call 28; refine gvF (c4 _ H.below) H ?_)); clear H; intro wn H))
    go_ret
    exact ⟨rfl, H.below⟩
  rw [szC_pos hn4] at c4
  rw [szC_pos (by omega), show k - ((m1 + (m2 + (m3 + (m4))) : Nat) : Int) = k - m1 - m2 - m3 - m4 by omega]
  go_enter Tryz.func9, Tryz.ntmps9
  go_wp2_with (first | ((first | ((with_reducible apply st_load1 H); decide +kernel; rfl; exact cF) | ((with_reducible apply st_loads H); decide +kernel; rfl; exact iF; exact zF; rfl)); clear H; intro wn H; (try simp only [splice, yG, yH, yI, yJ, yK, yL, yM, yN, yO, yP, yQ, Nat.reduceAdd, yA, yB, yC] at H); simp only [Act.put, yA, yB, yC, yD, yE, yF]) | ((((with_reducible apply st_box (dst := some 2) H); exact nF; intro b2)); clear H; intro wn H; simp only [Act.put, yA, yB, yC, yD, yE, yF]) | ((first | (go_at_call 25; refine gvF (c1 _ H.below) H ?_) | (go_at_call 26; refine gvF (c2 _ H.below) H ?_) | (go_at_call 27; refine gvF (c3 _ H.below) H ?_) | (go_at_call 28; refine gvF (c4 _ H.below) H ?_)); clear H; intro wn H))
  go_ret
  exact ⟨rfl, H.below⟩
def tySt : Ty St := Ty.pair tyYd ((Ty.sl 71 tyBo))
theorem St_form {w : World} {cs : List Value} {a : St} (h : tySt.rd w cs a) : ∃ A1 n1 k1 A2 n2 k2 A3 n3 k3 A4 n4 k4 A5 n5 k5 A6 n6 k6 A7 n7 k7, cs = [.slice A1 n1 k1, .slice A2 n2 k2, .slice A3 n3 k3, .int .i64 a.1.1.2.2.2, .slice A4 n4 k4, .slice A5 n5 k5, .slice A6 n6 k6, .int .i64 a.1.2.2.2.2, .slice A7 n7 k7] ∧ tyYd.rd w [.slice A1 n1 k1, .slice A2 n2 k2, .slice A3 n3 k3, .int .i64 a.1.1.2.2.2, .slice A4 n4 k4, .slice A5 n5 k5, .slice A6 n6 k6, .int .i64 a.1.2.2.2.2] a.1 ∧ (Ty.sl 71 tyBo).rd w [.slice A7 n7 k7] a.2 := by
  obtain ⟨x1, y1, rfl, h1, h2⟩ := h
  obtain ⟨A1, n1, k1, A2, n2, k2, A3, n3, k3, A4, n4, k4, A5, n5, k5, A6, n6, k6, rfl⟩ := Yd_lit h1
  obtain ⟨v2, hv2⟩ : ∃ v, y1 = [v] := by obtain ⟨v, _, rfl, _⟩ := h2; exact ⟨v, rfl⟩
  subst hv2
  obtain ⟨A7, k7, rfl, _, _⟩ := sl_form h2
  exact ⟨A1, n1, k1, A2, n2, k2, A3, n3, k3, A4, n4, k4, A5, n5, k5, A6, n6, k6, A7, _, k7, rfl, h1, h2⟩
theorem St_lit {w : World} {cs : List Value} {a : St} (h : tySt.rd w cs a) : ∃ A1 n1 k1 A2 n2 k2 A3 n3 k3 A4 n4 k4 A5 n5 k5 A6 n6 k6 A7 n7 k7, cs = [.slice A1 n1 k1, .slice A2 n2 k2, .slice A3 n3 k3, .int .i64 a.1.1.2.2.2, .slice A4 n4 k4, .slice A5 n5 k5, .slice A6 n6 k6, .int .i64 a.1.2.2.2.2, .slice A7 n7 k7] := by
  obtain ⟨A1, n1, k1, A2, n2, k2, A3, n3, k3, A4, n4, k4, A5, n5, k5, A6, n6, k6, A7, n7, k7, e, _⟩ := St_form h
  exact ⟨A1, n1, k1, A2, n2, k2, A3, n3, k3, A4, n4, k4, A5, n5, k5, A6, n6, k6, A7, n7, k7, e⟩
set_option maxRecDepth 100000 in
set_option maxHeartbeats 4000000 in
theorem toState_l (a : St) (cs : List Value) (hl : szSt a ≤ 1048576) (w : World) (hr : tySt.rd w cs a) : Rets Tryz.prog [] 6 #[.agg cs.toArray] w (tAgg tySt a) := by
  obtain ⟨A1, n1, k1, A2, n2, k2, A3, n3, k3, A4, n4, k4, A5, n5, k5, A6, n6, k6, A7, n7, k7, rfl, h1, h2⟩ := St_form hr
  clear hr
  obtain ⟨a1, a2⟩ := a
  simp only at h1 h2
  have hl0 : szYd a1 + (szMl a2) ≤ 1048576 := hl
  have hl1 : szYd a1 ≤ 1048576 := by omega
  have hl2 : szMl a2 ≤ 1048576 := by omega
  show Rets Tryz.prog [] _ #[.agg #[.slice A1 n1 k1, .slice A2 n2 k2, .slice A3 n3 k3, .int .i64 a1.1.2.2.2, .slice A4 n4 k4, .slice A5 n5 k5, .slice A6 n6 k6, .int .i64 a1.2.2.2.2, .slice A7 n7 k7]] w _
  have c1 := fun w1 hb => toYard_l a1 _ hl1 w1 (Ty.below _ h1 hb)
  have c2 := fun w1 hb => toMail_l _ a2 hl2 w1 (Ty.below _ h2 hb)
  clear hl hl0 hl1 hl2 h1 h2
  have H := Hs.start noRow w
  refine Rets.of ?_
  go_enter Tryz.func6, Tryz.ntmps6
  go_wp2_with (first | ((((with_reducible apply st_loads H); decide +kernel; rfl; exact iF; exact zF; rfl)); clear H; intro wn H; (try simp only [splice, yG, yH, yI, yJ, yK, yL, yM, yN, yO, yP, yQ, Nat.reduceAdd, yA, yB, yC] at H); simp only [Act.put, yA, yB, yC, yD, yE, yF]) | ((first | ((with_reducible apply st_box (dst := some 1) H); exact nF; intro b1) | ((with_reducible apply st_alloc (dst := some 2) H); exact nF; intro b2) | ((with_reducible apply st_alloc (dst := some 3) H); exact nF; intro b3)); clear H; intro wn H; simp only [Act.put, yA, yB, yC, yD, yE, yF]))
  refine (Rets.use (c1 _ H.below)).mono ?_; rintro e wn ⟨_, _, rfl, ⟨d1, N1, rfl, hA1, rfl⟩, hkk⟩; have Hn := H.moreK (by intro k hk; first | exact absurd hk List.not_mem_nil | (obtain rfl := List.mem_singleton.1 hk; exact In.mem iF)) hkk; clear hkk; clear H; have H := Hn; clear Hn; (try simp only [yT, yV] at H)
  obtain ⟨B1_1, m1_1, j1_1, B1_2, m1_2, j1_2, B1_3, m1_3, j1_3, B1_4, m1_4, j1_4, B1_5, m1_5, j1_5, B1_6, m1_6, j1_6, rfl⟩ := Yd_lit (own_rd H .here hA1)
  have HA1 := Lib.hid hA1
  clear hA1 c1
  go_wp2_with (((first | ((with_reducible apply st_loads H); decide +kernel; rfl; exact iF; exact zF; rfl) | ((with_reducible apply st_store H); rfl; exact eF; (focus (exact cells_agg _)); exact uF; kernel_rfl; (focus (exact Nat.le_of_ble_eq_true (by rfl))); (focus (rfl)))); clear H; intro wn H; (try simp only [splice, yG, yH, yI, yJ, yK, yL, yM, yN, yO, yP, yQ, Nat.reduceAdd, yA, yB, yC] at H); simp only [Act.put, yA, yB, yC, yD, yE, yF]))
  refine (Rets.use (c2 _ H.below)).mono ?_; rintro e wn ⟨_, _, rfl, ⟨v2, N2, rfl, hA2, rfl⟩, hkk⟩; have Hn := H.moreK (by intro k hk; first | exact absurd hk List.not_mem_nil | (obtain rfl := List.mem_singleton.1 hk; exact In.mem iF)) hkk; clear hkk; clear H; have H := Hn; clear Hn; (try simp only [yT, yV] at H)
  obtain ⟨B2, j2, rfl, _, _⟩ := sl_form (own_rd H .here hA2)
  have HA2 := Lib.hid hA2
  clear hA2 c2
  go_wp2_with (((first | ((with_reducible apply st_loads H); decide +kernel; rfl; exact iF; exact zF; rfl) | ((with_reducible apply st_store H); rfl; exact eF; (focus (exact cells_agg _)); exact uF; kernel_rfl; (focus (exact Nat.le_of_ble_eq_true (by rfl))); (focus (rfl)))); clear H; intro wn H; (try simp only [splice, yG, yH, yI, yJ, yK, yL, yM, yN, yO, yP, yQ, Nat.reduceAdd, yA, yB, yC] at H); simp only [Act.put, yA, yB, yC, yD, yE, yF]))
  refine bp_cell H rfl rfl iF (by kernel_rfl) (by kernel_rfl) rfl (by first | exact .inl rfl | exact .inr rfl) ?_
  have H2 : Hs noRow w ([N1, N2].map Hl.all ++ []) _ := H.sel (M := [Hl.all N1, Hl.all N2]) sF
  have H3 := Hs.joinL _ H2
  rw [show [N1, N2].flatten = N1 ++ N2 by simp] at H3
  exact Hs.retd H3 (List.Sublist.refl _) ⟨[_, _, _, _, _, _, _, _, _], _, rfl, ⟨[_, _, _, _, _, _, _, _], [_], _, _, rfl, rfl, HA1.out, HA2.out⟩, rfl⟩
set_option maxRecDepth 100000 in
set_option maxHeartbeats 4000000 in
theorem eqState_l (a : St) (cs ds : List Value) (w : World) (ha : tySt.rd w cs a) (hb : tySt.rd w ds a) : Gives Tryz.prog 8 #[.agg cs.toArray, .agg ds.toArray] w (.bool true) := by
  obtain ⟨A1, n1, k1, A2, n2, k2, A3, n3, k3, A4, n4, k4, A5, n5, k5, A6, n6, k6, A7, n7, k7, rfl, h1, h2⟩ := St_form ha
  obtain ⟨eA1, en1, ek1, eA2, en2, ek2, eA3, en3, ek3, eA4, en4, ek4, eA5, en5, ek5, eA6, en6, ek6, eA7, en7, ek7, rfl, g1, g2⟩ := St_form hb
  clear ha hb
  obtain ⟨a1, a2⟩ := a
  simp only at h1 h2 g1 g2
  show Gives Tryz.prog _ #[.agg #[.slice A1 n1 k1, .slice A2 n2 k2, .slice A3 n3 k3, .int .i64 a1.1.2.2.2, .slice A4 n4 k4, .slice A5 n5 k5, .slice A6 n6 k6, .int .i64 a1.2.2.2.2, .slice A7 n7 k7], .agg #[.slice eA1 en1 ek1, .slice eA2 en2 ek2, .slice eA3 en3 ek3, .int .i64 a1.1.2.2.2, .slice eA4 en4 ek4, .slice eA5 en5 ek5, .slice eA6 en6 ek6, .int .i64 a1.2.2.2.2, .slice eA7 en7 ek7]] w _
  have c1 := fun w1 hb => eqYard_l a1 _ _ w1 (Ty.below _ h1 hb) (Ty.below _ g1 hb)
  have c2 := fun w1 hb => eqMail_l _ _ a2 w1 (Ty.below _ h2 hb) (Ty.below _ g2 hb)
  clear h1 h2 g1 g2
  have H := Hs.start noRow w
  unfold Gives
  go_enter Tryz.func8, Tryz.ntmps8
  go_wp2_with (first | ((((with_reducible apply st_loads H); decide +kernel; rfl; exact iF; exact zF; rfl)); clear H; intro wn H; (try simp only [splice, yG, yH, yI, yJ, yK, yL, yM, yN, yO, yP, yQ, Nat.reduceAdd, yA, yB, yC] at H); simp only [Act.put, yA, yB, yC, yD, yE, yF]) | ((first | ((with_reducible apply st_box (dst := some 2) H); exact nF; intro b2) | ((with_reducible apply st_box (dst := some 3) H); exact nF; intro b3)); clear H; intro wn H; simp only [Act.put, yA, yB, yC, yD, yE, yF]) | ((first | (go_at_call 23; refine gvF (c1 _ H.below) H ?_) | (go_at_call 24; refine gvF (c2 _ H.below) H ?_)); clear H; intro wn H))
  go_ret
  exact ⟨rfl, H.below⟩
set_option maxRecDepth 100000 in
set_option maxHeartbeats 4000000 in
theorem szState_l (a : St) (cs : List Value) (k : Int) (hk : 0 ≤ k ∧ k ≤ 1048576) (ho : okSt a) (w : World) (ha : tySt.rd w cs a) : Gives Tryz.prog 4 #[.agg cs.toArray, .int .i64 k] w (.int .i64 (szC k (szSt a))) := by
  obtain ⟨A1, n1, k1, A2, n2, k2, A3, n3, k3, A4, n4, k4, A5, n5, k5, A6, n6, k6, A7, n7, k7, rfl, h1, h2⟩ := St_form ha
  clear ha
  unfold okSt at ho
  obtain ⟨a1, a2⟩ := a
  simp only at h1 h2 ho
  show Gives Tryz.prog _ #[.agg #[.slice A1 n1 k1, .slice A2 n2 k2, .slice A3 n3 k3, .int .i64 a1.1.2.2.2, .slice A4 n4 k4, .slice A5 n5 k5, .slice A6 n6 k6, .int .i64 a1.2.2.2.2, .slice A7 n7 k7], _] w (.int .i64 (szC k (szYd a1 + (szMl a2))))
  have d1 := fun k hk w1 hb => szYard_l a1 _ k hk (ho) w1 (Ty.below _ h1 hb)
  have d2 := fun k hk w1 hb => szMail_l _ a2 k hk w1 (Ty.below _ h2 hb)
  clear h1 h2 ho
  generalize szYd a1 = m1 at *
  generalize szMl a2 = m2 at *
  have H := Hs.start noRow w
  unfold Gives
  have c1 := d1 (k) ⟨by omega, by omega⟩
  clear d1
  by_cases hn1 : k - m1 < 0
  · rw [szC_neg hn1] at c1
    rw [szC_neg (by omega)]
    go_enter Tryz.func4, Tryz.ntmps4
    go_wp2_with (first | ((((with_reducible apply st_loads H); decide +kernel; rfl; exact iF; exact zF; rfl)); clear H; intro wn H; (try simp only [splice, yG, yH, yI, yJ, yK, yL, yM, yN, yO, yP, yQ, Nat.reduceAdd, yA, yB, yC] at H); simp only [Act.put, yA, yB, yC, yD, yE, yF]) | ((((with_reducible apply st_box (dst := some 2) H); exact nF; intro b2)); clear H; intro wn H; simp only [Act.put, yA, yB, yC, yD, yE, yF]) | (((go_at_call 9; refine gvF (c1 _ H.below) H ?_)); clear H; intro wn H))
    go_ret
    exact ⟨rfl, H.below⟩
  rw [szC_pos hn1] at c1
  have c2 := d2 (k - m1) ⟨by omega, by omega⟩
  clear d2
  by_cases hn2 : k - m1 - m2 < 0
  · rw [szC_neg hn2] at c2
    rw [szC_neg (by omega)]
    go_enter Tryz.func4, Tryz.ntmps4
    go_wp2_with (first | ((((with_reducible apply st_loads H); decide +kernel; rfl; exact iF; exact zF; rfl)); clear H; intro wn H; (try simp only [splice, yG, yH, yI, yJ, yK, yL, yM, yN, yO, yP, yQ, Nat.reduceAdd, yA, yB, yC] at H); simp only [Act.put, yA, yB, yC, yD, yE, yF]) | ((((with_reducible apply st_box (dst := some 2) H); exact nF; intro b2)); clear H; intro wn H; simp only [Act.put, yA, yB, yC, yD, yE, yF]) | ((first | (go_at_call 9; refine gvF (c1 _ H.below) H ?_) | (go_at_call 10; refine gvF (c2 _ H.below) H ?_)); clear H; intro wn H))
    go_ret
    exact ⟨rfl, H.below⟩
  rw [szC_pos hn2] at c2
  rw [szC_pos (by omega), show k - ((m1 + (m2) : Nat) : Int) = k - m1 - m2 by omega]
  go_enter Tryz.func4, Tryz.ntmps4
  go_wp2_with (first | ((((with_reducible apply st_loads H); decide +kernel; rfl; exact iF; exact zF; rfl)); clear H; intro wn H; (try simp only [splice, yG, yH, yI, yJ, yK, yL, yM, yN, yO, yP, yQ, Nat.reduceAdd, yA, yB, yC] at H); simp only [Act.put, yA, yB, yC, yD, yE, yF]) | ((((with_reducible apply st_box (dst := some 2) H); exact nF; intro b2)); clear H; intro wn H; simp only [Act.put, yA, yB, yC, yD, yE, yF]) | ((first | (go_at_call 9; refine gvF (c1 _ H.below) H ?_) | (go_at_call 10; refine gvF (c2 _ H.below) H ?_)); clear H; intro wn H))
  go_ret
  exact ⟨rfl, H.below⟩
end Go.Proofs.YtpfdhfchgnnpiaaGreat
