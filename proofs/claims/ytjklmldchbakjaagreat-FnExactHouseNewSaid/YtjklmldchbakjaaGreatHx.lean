/-
  Yards, states: what the statements do with them: the walks. Printed by kgen.py.
-/
import Derived.Test.YtjklmldchbakjaaGreatHv
import Derived.Test.YtjklmldchbakjaaGreatHf
set_option linter.unusedSimpArgs false
set_option linter.unusedVariables false
namespace Go.Proofs.YtjklmldchbakjaaGreat
open Go.RowKit M
namespace M
def encII (a : Int × Int) : List Value := [.int .i64 a.1, .int .i64 a.2]
def tyII : Ty (Int × Int) := Ty.flat 2 encII (fun _ => rfl) (fun a u hu => by simp only [encII, List.mem_cons, List.not_mem_nil, or_false] at hu; rcases hu with rfl | rfl <;> rfl)
def encSI (a : ByteArray × Int) : List Value := [.string a.1, .int .i64 a.2]
def tySI : Ty (ByteArray × Int) := Ty.flat 2 encSI (fun _ => rfl) (fun a u hu => by simp only [encSI, List.mem_cons, List.not_mem_nil, or_false] at hu; rcases hu with rfl | rfl <;> rfl)
end M
section
variable {R : Nat → Prop} {w0 w : World}
theorem Hs.joinL : ∀ (Ns : List (List Hl)) {L : List Hl}, Hs R w0 (Ns.map Hl.all ++ L) w → Hs R w0 (Hl.all Ns.flatten :: L) w
  | [], _, H => H.allNil
  | N :: Ns, L, H => by
    have h1 : Hs R w0 (Ns.map Hl.all ++ (L ++ [Hl.all N])) w := H.reperm (by
      rw [← List.append_assoc]
      exact (List.perm_append_singleton _ _).symm)
    have h2 := Hs.joinL Ns h1
    have h3 : Hs R w0 (Hl.all N :: Hl.all Ns.flatten :: L) w := h2.reperm (by
      refine (List.Perm.cons _ (List.perm_append_singleton _ _)).trans (List.Perm.swap ..))
    exact h3.join
theorem Hs.partL : ∀ (Ns : List (List Hl)) {L : List Hl}, Hs R w0 (Hl.all Ns.flatten :: L) w → Hs R w0 (Ns.map Hl.all ++ L) w
  | [], _, H => H.off1
  | N :: Ns, L, H => by
    have h1 : Hs R w0 (Hl.all N :: Hl.all Ns.flatten :: L) w := H.part
    have h2 : Hs R w0 (Hl.all Ns.flatten :: (L ++ [Hl.all N])) w := h1.reperm (by
      refine (List.Perm.swap ..).trans (List.Perm.cons _ (List.perm_append_singleton _ _).symm))
    have h3 := Hs.partL Ns h2
    refine h3.reperm ?_
    rw [← List.append_assoc]
    exact List.perm_append_singleton _ _
end
namespace M
def mkFix {α : Type} : Mark α := ⟨fun _ => 0, fun _ a => a⟩
end M
theorem cfg_lit {w : World} {cs : List Value} {a : Cfg} (h : tyCfg.rd w cs a) : ∃ A1 n1 k1 A2 n2 k2 A3 n3 k3, cs = [.slice A1 n1 k1, .slice A2 n2 k2, .slice A3 n3 k3, .int .i64 a.2.2.2] := by
  obtain ⟨v1, v2, v3, rfl, h1, h2, h3⟩ := cfg_form h
  obtain ⟨A1, k1, rfl, _, _⟩ := sl_form h1
  obtain ⟨A2, k2, rfl, _, _⟩ := sl_form h2
  obtain ⟨A3, k3, rfl, _, _⟩ := sl_form h3
  exact ⟨A1, _, k1, A2, _, k2, A3, _, k3, rfl⟩
namespace M
abbrev Yd := Cfg × List Nd × List Ta × List Us × Int
def szYd (a : Yd) : Nat := szCfg a.1 + (szNdl a.2.1 + (szTal a.2.2.1 + (szUsl a.2.2.2.1)))
def okYd (a : Yd) : Prop := (∀ x ∈ a.2.2.1, okTa x) ∧ (∀ x ∈ a.2.2.2.1, okUs x)
def mkYd : Mark Yd := mkCfg.pair (mkNd.list.pair (mkTa.list.pair (mkUs.list.pair (mkFix))))
abbrev YO := Yd × (Int × Int)
def szYO (a : YO) : Nat := szYd a.1
def okYO (a : YO) : Prop := (okYd a.1)
def mkYO : Mark YO := mkYd.pair (mkFix)
abbrev St := Yd × List Bo
def szSt (a : St) : Nat := szYd a.1 + (szMl a.2)
def okSt (a : St) : Prop := (okYd a.1)
def mkSt : Mark St := mkYd.pair (mkBo.list)
abbrev SO := St × (Int × Int)
def szSO (a : SO) : Nat := szSt a.1
def okSO (a : SO) : Prop := (okSt a.1)
def mkSO : Mark SO := mkSt.pair (mkFix)
end M
def tyYd : Ty Yd := Ty.pair tyCfg (Ty.pair (Ty.sl 126 tyNd) (Ty.pair (Ty.sl 160 tyTa) (Ty.pair (Ty.sl 163 tyUs) (tyNum))))
theorem Yd_form {w : World} {cs : List Value} {a : Yd} (h : tyYd.rd w cs a) : ∃ A1 n1 k1 A2 n2 k2 A3 n3 k3 A4 n4 k4 A5 n5 k5 A6 n6 k6, cs = [.slice A1 n1 k1, .slice A2 n2 k2, .slice A3 n3 k3, .int .i64 a.1.2.2.2, .slice A4 n4 k4, .slice A5 n5 k5, .slice A6 n6 k6, .int .i64 a.2.2.2.2] ∧ tyCfg.rd w [.slice A1 n1 k1, .slice A2 n2 k2, .slice A3 n3 k3, .int .i64 a.1.2.2.2] a.1 ∧ (Ty.sl 126 tyNd).rd w [.slice A4 n4 k4] a.2.1 ∧ (Ty.sl 160 tyTa).rd w [.slice A5 n5 k5] a.2.2.1 ∧ (Ty.sl 163 tyUs).rd w [.slice A6 n6 k6] a.2.2.2.1 := by
  obtain ⟨x1, y1, rfl, h1, x2, y2, rfl, h2, x3, y3, rfl, h3, x4, y4, rfl, h4, h5⟩ := h
  obtain ⟨A1, n1, k1, A2, n2, k2, A3, n3, k3, rfl⟩ := cfg_lit h1
  obtain ⟨v2, hv2⟩ : ∃ v, x2 = [v] := by obtain ⟨v, _, rfl, _⟩ := h2; exact ⟨v, rfl⟩
  subst hv2
  obtain ⟨A4, k4, rfl, _, _⟩ := sl_form h2
  obtain ⟨v3, hv3⟩ : ∃ v, x3 = [v] := by obtain ⟨v, _, rfl, _⟩ := h3; exact ⟨v, rfl⟩
  subst hv3
  obtain ⟨A5, k5, rfl, _, _⟩ := sl_form h3
  obtain ⟨v4, hv4⟩ : ∃ v, x4 = [v] := by obtain ⟨v, _, rfl, _⟩ := h4; exact ⟨v, rfl⟩
  subst hv4
  obtain ⟨A6, k6, rfl, _, _⟩ := sl_form h4
  obtain rfl : y4 = encNum a.2.2.2.2 := h5
  exact ⟨A1, n1, k1, A2, n2, k2, A3, n3, k3, A4, _, k4, A5, _, k5, A6, _, k6, rfl, h1, h2, h3, h4⟩
theorem Yd_lit {w : World} {cs : List Value} {a : Yd} (h : tyYd.rd w cs a) : ∃ A1 n1 k1 A2 n2 k2 A3 n3 k3 A4 n4 k4 A5 n5 k5 A6 n6 k6, cs = [.slice A1 n1 k1, .slice A2 n2 k2, .slice A3 n3 k3, .int .i64 a.1.2.2.2, .slice A4 n4 k4, .slice A5 n5 k5, .slice A6 n6 k6, .int .i64 a.2.2.2.2] := by
  obtain ⟨A1, n1, k1, A2, n2, k2, A3, n3, k3, A4, n4, k4, A5, n5, k5, A6, n6, k6, e, _⟩ := Yd_form h
  exact ⟨A1, n1, k1, A2, n2, k2, A3, n3, k3, A4, n4, k4, A5, n5, k5, A6, n6, k6, e⟩
set_option maxRecDepth 100000 in
set_option maxHeartbeats 4000000 in
theorem eqYard_l (a : Yd) (cs ds : List Value) (w : World) (ha : tyYd.rd w cs a) (hb : tyYd.rd w ds a) : Gives Tryz.prog 58 #[.agg cs.toArray, .agg ds.toArray] w (.bool true) := by
  obtain ⟨A1, n1, k1, A2, n2, k2, A3, n3, k3, A4, n4, k4, A5, n5, k5, A6, n6, k6, rfl, h1, h2, h3, h4⟩ := Yd_form ha
  obtain ⟨eA1, en1, ek1, eA2, en2, ek2, eA3, en3, ek3, eA4, en4, ek4, eA5, en5, ek5, eA6, en6, ek6, rfl, g1, g2, g3, g4⟩ := Yd_form hb
  clear ha hb
  obtain ⟨a1, a2, a3, a4, a5⟩ := a
  simp only at h1 h2 h3 h4 g1 g2 g3 g4
  show Gives Tryz.prog _ #[.agg #[.slice A1 n1 k1, .slice A2 n2 k2, .slice A3 n3 k3, .int .i64 a1.2.2.2, .slice A4 n4 k4, .slice A5 n5 k5, .slice A6 n6 k6, .int .i64 a5], .agg #[.slice eA1 en1 ek1, .slice eA2 en2 ek2, .slice eA3 en3 ek3, .int .i64 a1.2.2.2, .slice eA4 en4 ek4, .slice eA5 en5 ek5, .slice eA6 en6 ek6, .int .i64 a5]] w _
  have c1 := fun w1 hb => eqConfig_l a1 _ _ w1 (Ty.below _ h1 hb) (Ty.below _ g1 hb)
  have c2 := fun w1 hb => eqNodeS_l _ _ a2 w1 (Ty.below _ h2 hb) (Ty.below _ g2 hb)
  have c3 := fun w1 hb => eqTaskS_l _ _ a3 w1 (Ty.below _ h3 hb) (Ty.below _ g3 hb)
  have c4 := fun w1 hb => eqUseS_l _ _ a4 w1 (Ty.below _ h4 hb) (Ty.below _ g4 hb)
  clear h1 h2 h3 h4 g1 g2 g3 g4
  have H := Hs.start noRow w
  unfold Gives
  go_enter Tryz.func58, Tryz.ntmps58
  go_wp2_with (first | ((first | ((with_reducible apply st_load1 H); decide +kernel; rfl; exact cF) | ((with_reducible apply st_loads H); decide +kernel; rfl; exact iF; exact zF; rfl)); clear H; intro wn H; (try simp only [splice, yG, yH, yI, yJ, yK, yL, yM, yN, yO, yP, yQ, Nat.reduceAdd, yA, yB, yC] at H); simp only [Act.put, yA, yB, yC, yD, yE, yF]) | ((first | ((with_reducible apply st_box (dst := some 2) H); exact nF; intro b2) | ((with_reducible apply st_box (dst := some 3) H); exact nF; intro b3) | ((with_reducible apply st_strsum H); rfl; rfl; exact szF; kernel_rfl) | ((with_reducible apply st_loadat H); decide +kernel; rfl; exact aF; exact zF; rfl)); clear H; intro wn H; simp only [Act.put, yA, yB, yC, yD, yE, yF]) | ((first | (go_at_call 10; refine gvF (c1 _ H.below) H ?_) | (go_at_call 86; refine gvF (c2 _ H.below) H ?_) | (go_at_call 87; refine gvF (c3 _ H.below) H ?_) | (go_at_call 88; refine gvF (c4 _ H.below) H ?_)); clear H; intro wn H) | fail)
  go_ret
  exact ⟨rfl, H.below⟩
def tyYO : Ty YO := Ty.pair tyYd (tyII)
theorem YO_form {w : World} {cs : List Value} {a : YO} (h : tyYO.rd w cs a) : ∃ A1 n1 k1 A2 n2 k2 A3 n3 k3 A4 n4 k4 A5 n5 k5 A6 n6 k6, cs = [.slice A1 n1 k1, .slice A2 n2 k2, .slice A3 n3 k3, .int .i64 a.1.1.2.2.2, .slice A4 n4 k4, .slice A5 n5 k5, .slice A6 n6 k6, .int .i64 a.1.2.2.2.2, .int .i64 a.2.1, .int .i64 a.2.2] ∧ tyYd.rd w [.slice A1 n1 k1, .slice A2 n2 k2, .slice A3 n3 k3, .int .i64 a.1.1.2.2.2, .slice A4 n4 k4, .slice A5 n5 k5, .slice A6 n6 k6, .int .i64 a.1.2.2.2.2] a.1 := by
  obtain ⟨x1, y1, rfl, h1, h2⟩ := h
  obtain ⟨A1, n1, k1, A2, n2, k2, A3, n3, k3, A4, n4, k4, A5, n5, k5, A6, n6, k6, rfl⟩ := Yd_lit h1
  obtain rfl : y1 = encII a.2 := h2
  exact ⟨A1, n1, k1, A2, n2, k2, A3, n3, k3, A4, n4, k4, A5, n5, k5, A6, n6, k6, rfl, h1⟩
theorem YO_lit {w : World} {cs : List Value} {a : YO} (h : tyYO.rd w cs a) : ∃ A1 n1 k1 A2 n2 k2 A3 n3 k3 A4 n4 k4 A5 n5 k5 A6 n6 k6, cs = [.slice A1 n1 k1, .slice A2 n2 k2, .slice A3 n3 k3, .int .i64 a.1.1.2.2.2, .slice A4 n4 k4, .slice A5 n5 k5, .slice A6 n6 k6, .int .i64 a.1.2.2.2.2, .int .i64 a.2.1, .int .i64 a.2.2] := by
  obtain ⟨A1, n1, k1, A2, n2, k2, A3, n3, k3, A4, n4, k4, A5, n5, k5, A6, n6, k6, e, _⟩ := YO_form h
  exact ⟨A1, n1, k1, A2, n2, k2, A3, n3, k3, A4, n4, k4, A5, n5, k5, A6, n6, k6, e⟩
def tySt : Ty St := Ty.pair tyYd ((Ty.sl 167 tyBo))
theorem St_form {w : World} {cs : List Value} {a : St} (h : tySt.rd w cs a) : ∃ A1 n1 k1 A2 n2 k2 A3 n3 k3 A4 n4 k4 A5 n5 k5 A6 n6 k6 A7 n7 k7, cs = [.slice A1 n1 k1, .slice A2 n2 k2, .slice A3 n3 k3, .int .i64 a.1.1.2.2.2, .slice A4 n4 k4, .slice A5 n5 k5, .slice A6 n6 k6, .int .i64 a.1.2.2.2.2, .slice A7 n7 k7] ∧ tyYd.rd w [.slice A1 n1 k1, .slice A2 n2 k2, .slice A3 n3 k3, .int .i64 a.1.1.2.2.2, .slice A4 n4 k4, .slice A5 n5 k5, .slice A6 n6 k6, .int .i64 a.1.2.2.2.2] a.1 ∧ (Ty.sl 167 tyBo).rd w [.slice A7 n7 k7] a.2 := by
  obtain ⟨x1, y1, rfl, h1, h2⟩ := h
  obtain ⟨A1, n1, k1, A2, n2, k2, A3, n3, k3, A4, n4, k4, A5, n5, k5, A6, n6, k6, rfl⟩ := Yd_lit h1
  obtain ⟨v2, hv2⟩ : ∃ v, y1 = [v] := by obtain ⟨v, _, rfl, _⟩ := h2; exact ⟨v, rfl⟩
  subst hv2
  obtain ⟨A7, k7, rfl, _, _⟩ := sl_form h2
  exact ⟨A1, n1, k1, A2, n2, k2, A3, n3, k3, A4, n4, k4, A5, n5, k5, A6, n6, k6, A7, _, k7, rfl, h1, h2⟩
theorem St_lit {w : World} {cs : List Value} {a : St} (h : tySt.rd w cs a) : ∃ A1 n1 k1 A2 n2 k2 A3 n3 k3 A4 n4 k4 A5 n5 k5 A6 n6 k6 A7 n7 k7, cs = [.slice A1 n1 k1, .slice A2 n2 k2, .slice A3 n3 k3, .int .i64 a.1.1.2.2.2, .slice A4 n4 k4, .slice A5 n5 k5, .slice A6 n6 k6, .int .i64 a.1.2.2.2.2, .slice A7 n7 k7] := by
  obtain ⟨A1, n1, k1, A2, n2, k2, A3, n3, k3, A4, n4, k4, A5, n5, k5, A6, n6, k6, A7, n7, k7, e, _⟩ := St_form h
  exact ⟨A1, n1, k1, A2, n2, k2, A3, n3, k3, A4, n4, k4, A5, n5, k5, A6, n6, k6, A7, n7, k7, e⟩
set_option maxRecDepth 100000 in
set_option maxHeartbeats 4000000 in
theorem eqState_l (a : St) (cs ds : List Value) (w : World) (ha : tySt.rd w cs a) (hb : tySt.rd w ds a) : Gives Tryz.prog 30 #[.agg cs.toArray, .agg ds.toArray] w (.bool true) := by
  obtain ⟨A1, n1, k1, A2, n2, k2, A3, n3, k3, A4, n4, k4, A5, n5, k5, A6, n6, k6, A7, n7, k7, rfl, h1, h2⟩ := St_form ha
  obtain ⟨eA1, en1, ek1, eA2, en2, ek2, eA3, en3, ek3, eA4, en4, ek4, eA5, en5, ek5, eA6, en6, ek6, eA7, en7, ek7, rfl, g1, g2⟩ := St_form hb
  clear ha hb
  obtain ⟨a1, a2⟩ := a
  simp only at h1 h2 g1 g2
  show Gives Tryz.prog _ #[.agg #[.slice A1 n1 k1, .slice A2 n2 k2, .slice A3 n3 k3, .int .i64 a1.1.2.2.2, .slice A4 n4 k4, .slice A5 n5 k5, .slice A6 n6 k6, .int .i64 a1.2.2.2.2, .slice A7 n7 k7], .agg #[.slice eA1 en1 ek1, .slice eA2 en2 ek2, .slice eA3 en3 ek3, .int .i64 a1.1.2.2.2, .slice eA4 en4 ek4, .slice eA5 en5 ek5, .slice eA6 en6 ek6, .int .i64 a1.2.2.2.2, .slice eA7 en7 ek7]] w _
  have c1 := fun w1 hb => eqYard_l a1 _ _ w1 (Ty.below _ h1 hb) (Ty.below _ g1 hb)
  have c2 := fun w1 hb => eqMail_l _ _ a2 w1 (Ty.below _ h2 hb) (Ty.below _ g2 hb)
  clear h1 h2 g1 g2
  have H := Hs.start noRow w
  unfold Gives
  go_enter Tryz.func30, Tryz.ntmps30
  go_wp2_with (first | ((first | ((with_reducible apply st_load1 H); decide +kernel; rfl; exact cF) | ((with_reducible apply st_loads H); decide +kernel; rfl; exact iF; exact zF; rfl)); clear H; intro wn H; (try simp only [splice, yG, yH, yI, yJ, yK, yL, yM, yN, yO, yP, yQ, Nat.reduceAdd, yA, yB, yC] at H); simp only [Act.put, yA, yB, yC, yD, yE, yF]) | ((first | ((with_reducible apply st_box (dst := some 2) H); exact nF; intro b2) | ((with_reducible apply st_box (dst := some 3) H); exact nF; intro b3) | ((with_reducible apply st_loadat H); decide +kernel; rfl; exact aF; exact zF; rfl)); clear H; intro wn H; simp only [Act.put, yA, yB, yC, yD, yE, yF]) | ((first | (go_at_call 58; refine gvF (c1 _ H.below) H ?_) | (go_at_call 59; refine gvF (c2 _ H.below) H ?_)); clear H; intro wn H) | fail)
  go_ret
  exact ⟨rfl, H.below⟩
def tySO : Ty SO := Ty.pair tySt (tyII)
theorem SO_form {w : World} {cs : List Value} {a : SO} (h : tySO.rd w cs a) : ∃ A1 n1 k1 A2 n2 k2 A3 n3 k3 A4 n4 k4 A5 n5 k5 A6 n6 k6 A7 n7 k7, cs = [.slice A1 n1 k1, .slice A2 n2 k2, .slice A3 n3 k3, .int .i64 a.1.1.1.2.2.2, .slice A4 n4 k4, .slice A5 n5 k5, .slice A6 n6 k6, .int .i64 a.1.1.2.2.2.2, .slice A7 n7 k7, .int .i64 a.2.1, .int .i64 a.2.2] ∧ tySt.rd w [.slice A1 n1 k1, .slice A2 n2 k2, .slice A3 n3 k3, .int .i64 a.1.1.1.2.2.2, .slice A4 n4 k4, .slice A5 n5 k5, .slice A6 n6 k6, .int .i64 a.1.1.2.2.2.2, .slice A7 n7 k7] a.1 := by
  obtain ⟨x1, y1, rfl, h1, h2⟩ := h
  obtain ⟨A1, n1, k1, A2, n2, k2, A3, n3, k3, A4, n4, k4, A5, n5, k5, A6, n6, k6, A7, n7, k7, rfl⟩ := St_lit h1
  obtain rfl : y1 = encII a.2 := h2
  exact ⟨A1, n1, k1, A2, n2, k2, A3, n3, k3, A4, n4, k4, A5, n5, k5, A6, n6, k6, A7, n7, k7, rfl, h1⟩
theorem SO_lit {w : World} {cs : List Value} {a : SO} (h : tySO.rd w cs a) : ∃ A1 n1 k1 A2 n2 k2 A3 n3 k3 A4 n4 k4 A5 n5 k5 A6 n6 k6 A7 n7 k7, cs = [.slice A1 n1 k1, .slice A2 n2 k2, .slice A3 n3 k3, .int .i64 a.1.1.1.2.2.2, .slice A4 n4 k4, .slice A5 n5 k5, .slice A6 n6 k6, .int .i64 a.1.1.2.2.2.2, .slice A7 n7 k7, .int .i64 a.2.1, .int .i64 a.2.2] := by
  obtain ⟨A1, n1, k1, A2, n2, k2, A3, n3, k3, A4, n4, k4, A5, n5, k5, A6, n6, k6, A7, n7, k7, e, _⟩ := SO_form h
  exact ⟨A1, n1, k1, A2, n2, k2, A3, n3, k3, A4, n4, k4, A5, n5, k5, A6, n6, k6, A7, n7, k7, e⟩
set_option maxRecDepth 100000 in
set_option maxHeartbeats 4000000 in
theorem eqStateOut_l (a : SO) (cs ds : List Value) (w : World) (ha : tySO.rd w cs a) (hb : tySO.rd w ds a) : Gives Tryz.prog 9 #[.agg cs.toArray, .agg ds.toArray] w (.bool true) := by
  obtain ⟨A1, n1, k1, A2, n2, k2, A3, n3, k3, A4, n4, k4, A5, n5, k5, A6, n6, k6, A7, n7, k7, rfl, h1⟩ := SO_form ha
  obtain ⟨eA1, en1, ek1, eA2, en2, ek2, eA3, en3, ek3, eA4, en4, ek4, eA5, en5, ek5, eA6, en6, ek6, eA7, en7, ek7, rfl, g1⟩ := SO_form hb
  clear ha hb
  obtain ⟨a1, a2⟩ := a
  simp only at h1 g1
  show Gives Tryz.prog _ #[.agg #[.slice A1 n1 k1, .slice A2 n2 k2, .slice A3 n3 k3, .int .i64 a1.1.1.2.2.2, .slice A4 n4 k4, .slice A5 n5 k5, .slice A6 n6 k6, .int .i64 a1.1.2.2.2.2, .slice A7 n7 k7, .int .i64 a2.1, .int .i64 a2.2], .agg #[.slice eA1 en1 ek1, .slice eA2 en2 ek2, .slice eA3 en3 ek3, .int .i64 a1.1.1.2.2.2, .slice eA4 en4 ek4, .slice eA5 en5 ek5, .slice eA6 en6 ek6, .int .i64 a1.1.2.2.2.2, .slice eA7 en7 ek7, .int .i64 a2.1, .int .i64 a2.2]] w _
  have c1 := fun w1 hb => eqState_l a1 _ _ w1 (Ty.below _ h1 hb) (Ty.below _ g1 hb)
  clear h1 g1
  have H := Hs.start noRow w
  unfold Gives
  go_enter Tryz.func9, Tryz.ntmps9
  go_wp2_with (first | ((first | ((with_reducible apply st_load1 H); decide +kernel; rfl; exact cF) | ((with_reducible apply st_loads H); decide +kernel; rfl; exact iF; exact zF; rfl)); clear H; intro wn H; (try simp only [splice, yG, yH, yI, yJ, yK, yL, yM, yN, yO, yP, yQ, Nat.reduceAdd, yA, yB, yC] at H); simp only [Act.put, yA, yB, yC, yD, yE, yF]) | ((first | ((with_reducible apply st_box (dst := some 2) H); exact nF; intro b2) | ((with_reducible apply st_box (dst := some 3) H); exact nF; intro b3) | ((with_reducible apply st_strsum H); rfl; rfl; exact szF; kernel_rfl) | ((with_reducible apply st_loadat H); decide +kernel; rfl; exact aF; exact zF; rfl)); clear H; intro wn H; simp only [Act.put, yA, yB, yC, yD, yE, yF]) | ((first | (go_at_call 30; refine gvF (c1 _ H.below) H ?_)); clear H; intro wn H) | fail)
  go_ret
  exact ⟨rfl, H.below⟩
end Go.Proofs.YtjklmldchbakjaaGreat
