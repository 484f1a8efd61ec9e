/-
  The tick of mail, in the program and in the reference: the walks.
-/
import Derived.Test.YtengmmffommafaaGreatKm
import Derived.Test.YtengmmffommafaaGreatMb
set_option linter.unusedSimpArgs false
set_option linter.unusedVariables false
namespace Go.Proofs.YtengmmffommafaaGreat
open Go.RowKit M
namespace M
theorem mail_fits {c : Cfg} {m : List Bo} (h : mailOk c m = true) : ∀ b ∈ m, fitsBo b := by
  intro b hb
  obtain ⟨i, hi⟩ := List.getElem?_of_mem hb
  have hlt := (List.getElem?_eq_some_iff.1 hi).1
  have hf := mail_facts h
  obtain ⟨p, hp⟩ : ∃ p, c.2.1[i]? = some p := ⟨c.2.1[i]'(by omega), List.getElem?_eq_getElem _⟩
  have h12 := hf.2.2.2 i b hi
  unfold mailOk at h
  simp only [Bool.and_eq_true, decide_eq_true_eq] at h
  obtain ⟨h1, h2, h3⟩ := h
  unfold allFrom at h3
  rw [List.all_eq_true] at h3
  have h4 := h3 i (by rw [List.mem_range'_1]; omega)
  unfold boxIn at h4
  rw [hi] at h4
  simp only [hp] at h4
  unfold boxOk at h4
  simp only [Bool.and_eq_true, decide_eq_true_eq] at h4
  unfold cfgOk pairsOk allFrom at h1
  simp only [Bool.and_eq_true, List.all_eq_true] at h1
  have h5 := h1.2.2.2.1.1 i (by rw [List.mem_range'_1]; omega)
  unfold pairIn at h5
  rw [hp] at h5
  unfold isIn at h5
  simp only [Bool.and_eq_true, decide_eq_true_eq] at h5
  have h6 := h5.2.2.2.2.2
  exact ⟨by omega, by omega, by omega⟩
def tickBo (b : Bo) : Bo := ([], b.1, b.2.2)
def mailTick (c : Cfg) (m : List Bo) : MO := if mailOk c m then (m.map tickBo, 0) else ([], 1)
end M
theorem nil_own : (Ty.sl 2 tyNum).own [.slice none 0 0] [] [Hl.row 2 1 (.slice none 0 0) 0 []] := ⟨_, [], [], rfl, .nil, rfl, rfl⟩
theorem ret_ill {w w' : World} {L : List Hl} (H : Hs noRow w L w') (q : Int) : RPost [] w (tAgg tyMO ([], q)) (.returned (.agg #[.slice none 0 0, .int .i64 q])) w' := by
  have H1 := H.putRow 101 3 none
  have H2 : Hs noRow w (Hl.all [Hl.row 101 3 (.slice none 0 0) 0 []] :: L) w' := Hs.pack (M := [_]) H1
  exact Hs.retd H2 (List.Sublist.cons_cons _ (List.nil_sublist _)) ⟨[_, _], _, rfl, ⟨[_], [_], [Hl.row 101 3 (.slice none 0 0) 0 []], [], rfl, rfl, ⟨_, [], [], rfl, .nil, rfl, rfl⟩, rfl, rfl⟩, rfl⟩
theorem ret_mail {w w' : World} {L M : List Hl} {v : Value} {n : Nat} {xs : List Value} {l : List Bo} (hO : OwnL tyBo xs l M) (H : Hs noRow w (Hl.row 101 3 v n xs :: Hl.all M :: L) w') (hn : n = l.length) (q : Int) :
    RPost [] w (tAgg tyMO (l, q)) (.returned (.agg #[v, .int .i64 q])) w' := by
  obtain ⟨N, hN, H3⟩ := own_close hO H hn
  rw [← List.append_nil N] at H3
  exact Hs.retd H3 (List.Sublist.cons_cons _ (List.nil_sublist _)) ⟨[v, .int .i64 q], _, rfl, ⟨[v], [.int .i64 q], N, [], rfl, rfl, hN, rfl, rfl⟩, rfl⟩
/-- two cells of a box stored, one behind the other -/
theorem spl_tick1 (pre ys : List Value) {p : Nat} (u1 u2 u3 a b : Value) (hp : pre.length = p) : spl (spl (pre ++ ([u1, u2, u3] ++ ys)) p [a]) (p + 1) [b] = pre ++ ([a, b, u3] ++ ys) := by
  have h0 := spl_one pre ys a [u1, u2, u3] a hp (j := 0) (by simp)
  rw [Nat.add_zero] at h0
  rw [h0, spl_one pre ys a _ b hp (j := 1) (by simp)]
  rfl
theorem spl_tick2 (pre ys : List Value) {p : Nat} (u1 u2 u3 a b : Value) (hp : pre.length = p) : spl (spl (pre ++ ([u1, u2, u3] ++ ys)) (p + 1) [b]) p [a] = pre ++ ([a, b, u3] ++ ys) := by
  have h1 := spl_one pre ys a ([u1, u2, u3].set 1 b) a hp (j := 0) (by simp)
  rw [Nat.add_zero] at h1
  rw [spl_one pre ys a [u1, u2, u3] b hp (j := 1) (by simp), h1]
  rfl
set_option maxRecDepth 100000 in
set_option maxHeartbeats 4000000 in
theorem mailTick_i (c : Cfg) (cs : List Value) (v : Value) (l : List Bo) (w : World) (hrc : tyCfg.rd w cs c) (hr : (Ty.sl 101 tyBo).rd w [v] l) :
    Rets Tryz.prog [] 23 #[.agg cs.toArray, .agg #[v]] w (tAgg tyMO (mailTick c l)) := by
  have c1 := fun w1 hb => mailRight_i c cs v l w1 (Ty.below _ hrc hb) (Ty.below _ hr hb)
  have hmf := @mail_facts c l
  have hmt := @mail_fits c l
  obtain ⟨v1, v2, v3, rfl, h1, h2, h3⟩ := cfg_form hrc
  obtain ⟨hf, hhf⟩ : ∃ n, n = c.2.2.2 := ⟨_, rfl⟩
  rw [← hhf] at c1 ⊢
  replace c1 : ∀ w1, Below w.heap.size w w1 → Gives Tryz.prog 55 #[.agg #[v1, v2, v3, .int .i64 hf], .agg #[v]] w1 (.bool (mailOk c l)) := c1
  show Rets Tryz.prog [] _ #[.agg #[v1, v2, v3, .int .i64 hf], .agg #[v]] w _
  obtain ⟨mo, hmo⟩ : ∃ mo, mo = mailTick c l := ⟨_, rfl⟩
  rw [← hmo]
  have hmo2 : mo = if mailOk c l then (l.map tickBo, 0) else ([], 1) := hmo
  clear hmo hrc h1 h2 h3 hhf
  generalize mailOk c l = z at *
  have HR := Lib.hid hr
  clear hr
  have H := Hs.start noRow w
  refine Rets.of ?_
  cases z
  case false =>
    have HMO : Hid (mo = ([], 1)) := Lib.hid hmo2
    clear hmo2 hmf hmt
    go_enter Tryz.func23, Tryz.ntmps23
    go_wp2_with (first | ((with_reducible apply st_load1 H); decide +kernel; rfl; (focus exact (At.row H iF (by assumption)).head rfl); clear H; intro wn H; simp only [Act.put, yA, yB, yC, yD, yE, yF]) | ((first | ((with_reducible apply st_load1 H); decide +kernel; rfl; exact cF) | ((with_reducible apply st_loads H); decide +kernel; rfl; exact iF; exact zF; rfl) | ((with_reducible apply st_store H); rfl; exact eF; (focus (exact cells_agg _)); exact uF; kernel_rfl; (focus (exact Nat.le_of_ble_eq_true (by rfl))); (focus (first | rfl | simp))) | ((with_reducible apply st_storeown H); rfl; exact eF; (focus (exact (rfl : _ = [_]))); exact uF; (focus omega); kernel_rfl; rfl)); clear H; intro wn H; (try simp only [splice, yG, yH, yI, yJ, yK, yL, yM, yN, yO, yP, yQ, Nat.reduceAdd, yA, yB, yC] at H); simp only [Act.put, yA, yB, yC, yD, yE, yF]) | ((first | ((with_reducible apply st_box (dst := some 2) H); exact nF; intro b2) | ((with_reducible apply st_box (dst := some 3) H); exact nF; intro b3) | ((with_reducible apply st_alloc (dst := some 4) H); exact nF; intro b4) | ((with_reducible apply st_alloc (dst := some 5) H); exact nF; intro b5) | ((with_reducible apply st_strsum H); rfl; rfl; exact szF; kernel_rfl)); clear H; intro wn H; simp only [Act.put, yA, yB, yC, yD, yE, yF]) | ((with_reducible apply st_loadat H); decide +kernel; rfl; exact aF; exact zF; rfl; clear H; intro wn H; simp only [Act.put, yA, yB, yC, yD, yE, yF]) | ((with_reducible apply st_storerow H); rfl; exact eF; (first | exact cells_agg _ | exact cellI | exact cellS | exact cellB | exact (rfl : _ = [_])); exact uF; kernel_rfl; exact Nat.succ_pos _; exact fitF; rfl; clear H; intro wn H; simp only [Act.put, yA, yB, yC, yD, yE, yF]) | ((first | (go_at_call 55; refine gvF (c1 _ H.below) H ?_)); clear H; intro wn H) | fail)
    refine bp_cell H rfl rfl iF (by kernel_rfl) (by kernel_rfl) rfl (by first | exact .inl rfl | exact .inr rfl) ?_
    rw [HMO.out]
    exact ret_ill H 1
  have HMO : Hid (mo = (l.map tickBo, 0)) := Lib.hid hmo2
  have hm4 : l.length ≤ 4 := by have := hmf rfl; omega
  have hfit := hmt rfl
  have c2 := fun w1 hb => copyMail_i v l (by omega) hfit w1 (Ty.below _ HR.out hb)
  clear hmo2 hmf hmt hfit
  go_enter Tryz.func23, Tryz.ntmps23
  go_wp2_with (first | ((with_reducible apply st_load1 H); decide +kernel; rfl; (focus exact (At.row H iF (by assumption)).head rfl); clear H; intro wn H; simp only [Act.put, yA, yB, yC, yD, yE, yF]) | ((first | ((with_reducible apply st_load1 H); decide +kernel; rfl; exact cF) | ((with_reducible apply st_loads H); decide +kernel; rfl; exact iF; exact zF; rfl) | ((with_reducible apply st_store H); rfl; exact eF; (focus (exact cells_agg _)); exact uF; kernel_rfl; (focus (exact Nat.le_of_ble_eq_true (by rfl))); (focus (first | rfl | simp))) | ((with_reducible apply st_storeown H); rfl; exact eF; (focus (exact (rfl : _ = [_]))); exact uF; (focus omega); kernel_rfl; rfl)); clear H; intro wn H; (try simp only [splice, yG, yH, yI, yJ, yK, yL, yM, yN, yO, yP, yQ, Nat.reduceAdd, yA, yB, yC] at H); simp only [Act.put, yA, yB, yC, yD, yE, yF]) | ((first | ((with_reducible apply st_box (dst := some 2) H); exact nF; intro b2) | ((with_reducible apply st_box (dst := some 3) H); exact nF; intro b3) | ((with_reducible apply st_alloc (dst := some 4) H); exact nF; intro b4) | ((with_reducible apply st_alloc (dst := some 5) H); exact nF; intro b5) | ((with_reducible apply st_strsum H); rfl; rfl; exact szF; kernel_rfl)); clear H; intro wn H; simp only [Act.put, yA, yB, yC, yD, yE, yF]) | ((with_reducible apply st_loadat H); decide +kernel; rfl; exact aF; exact zF; rfl; clear H; intro wn H; simp only [Act.put, yA, yB, yC, yD, yE, yF]) | ((with_reducible apply st_storerow H); rfl; exact eF; (first | exact cells_agg _ | exact cellI | exact cellS | exact cellB | exact (rfl : _ = [_])); exact uF; kernel_rfl; exact Nat.succ_pos _; exact fitF; rfl; clear H; intro wn H; simp only [Act.put, yA, yB, yC, yD, yE, yF]) | ((first | (go_at_call 55; refine gvF (c1 _ H.below) H ?_)); clear H; intro wn H) | fail)
  refine (Rets.use (c2 _ H.below)).mono ?_; rintro e wn ⟨_, _, rfl, ⟨u, MM, rfl, hM, rfl⟩, hkk⟩; have Hn := H.moreK (by intro k hk; first | exact absurd hk List.not_mem_nil | (obtain rfl := List.mem_singleton.1 hk; exact In.mem iF)) hkk; clear hkk; clear H; have H := Hn; clear Hn; (try simp only [yT, yV] at H)
  have Hn := own_open hM H
  clear H
  obtain ⟨xs, M, A, ca, rfl, hO, hcm, H⟩ := Hn
  replace H : Hs noRow w (Hl.row 101 3 (.slice A l.length ca) l.length xs :: Hl.all M :: _) _ := H
  obtain ⟨n, hn⟩ : ∃ n, n = l.length := ⟨_, rfl⟩
  rw [← hn] at H hM hm4 ⊢
  have HN := Lib.hid hn
  have HO := Lib.hid hO
  clear hM hO hcm hn c1 c2
  go_wp2_with (first | ((with_reducible apply st_load1 H); decide +kernel; rfl; (focus exact (At.row H iF (by assumption)).head rfl); clear H; intro wn H; simp only [Act.put, yA, yB, yC, yD, yE, yF]) | ((first | ((with_reducible apply st_load1 H); decide +kernel; rfl; exact cF) | ((with_reducible apply st_loads H); decide +kernel; rfl; exact iF; exact zF; rfl) | ((with_reducible apply st_store H); rfl; exact eF; (focus (exact cells_agg _)); exact uF; kernel_rfl; (focus (exact Nat.le_of_ble_eq_true (by rfl))); (focus (first | rfl | simp))) | ((with_reducible apply st_storeown H); rfl; exact eF; (focus (exact (rfl : _ = [_]))); exact uF; (focus omega); kernel_rfl; rfl)); clear H; intro wn H; (try simp only [splice, yG, yH, yI, yJ, yK, yL, yM, yN, yO, yP, yQ, Nat.reduceAdd, yA, yB, yC] at H); simp only [Act.put, yA, yB, yC, yD, yE, yF]) | ((first | ((with_reducible apply st_box (dst := some 2) H); exact nF; intro b2) | ((with_reducible apply st_box (dst := some 3) H); exact nF; intro b3) | ((with_reducible apply st_alloc (dst := some 4) H); exact nF; intro b4) | ((with_reducible apply st_alloc (dst := some 5) H); exact nF; intro b5) | ((with_reducible apply st_strsum H); rfl; rfl; exact szF; kernel_rfl)); clear H; intro wn H; simp only [Act.put, yA, yB, yC, yD, yE, yF]) | ((with_reducible apply st_loadat H); decide +kernel; rfl; exact aF; exact zF; rfl; clear H; intro wn H; simp only [Act.put, yA, yB, yC, yD, yE, yF]) | ((with_reducible apply st_storerow H); rfl; exact eF; (first | exact cells_agg _ | exact cellI | exact cellS | exact cellB | exact (rfl : _ = [_])); exact uF; kernel_rfl; exact Nat.succ_pos _; exact fitF; rfl; clear H; intro wn H; simp only [Act.put, yA, yB, yC, yD, yE, yF]) | ((first | (go_at_call 55; refine gvF (c1 _ H.below) H ?_)); clear H; intro wn H) | fail)
  go_loopg [18] n (fun m iv wr => ∃ (i : Nat) (pre post : List Value) (N1 N2 : List Hl), i + m = n ∧ iv = .int .i64 i ∧ Hid (OwnL tyBo pre ((l.take i).map tickBo) N1 ∧ OwnL tyBo post (l.drop i) N2) ∧ Hs noRow w [Hl.row 101 3 (.slice A n ca) n (pre ++ post), Hl.all N1, Hl.all N2, Hl.blk b5 51 #[.slice A n ca], Hl.blk b4 58 #[.slice none 0 0, .int .i64 0]] wr)
  case atStart => exact ⟨0, [], xs, [], M, by omega, rfl, Lib.hid ⟨.nil, HO.out⟩, (H.sel (M := [Hl.row 101 3 (.slice A n ca) n xs, Hl.all M, Hl.blk b5 51 #[.slice A n ca], Hl.blk b4 58 #[.slice none 0 0, .int .i64 0]]) sF).allNil.up1⟩
  case round =>
    clear H
    obtain ⟨i, pre, post, N1, N2, hi, rfl, HI, H⟩ := hrel
    by_cases hlt : i < n
    · obtain ⟨x, hx⟩ : ∃ x, l[i]? = some x := ⟨l[i]'(by rw [← HN.out]; exact hlt), List.getElem?_eq_getElem (by rw [← HN.out]; exact hlt)⟩
      obtain ⟨g, c2, hv, _⟩ := (H.rows .here).form (by omega)
      injection hv with hv1 hv2 hv3
      subst hv1 hv3
      obtain ⟨h2, h3⟩ := HI.out
      obtain ⟨hlt', e⟩ := List.getElem?_eq_some_iff.1 hx
      rw [List.drop_eq_getElem_cons hlt', e] at h3
      obtain ⟨cs, ys, Mi, M3, rfl, rfl, hcs, h4⟩ := h3.un
      obtain ⟨a1, q1, M1, P1, rfl, rfl, g1, a2, a3, M2, M4, rfl, rfl, g2, g3⟩ := hcs
      obtain ⟨u1, hu1⟩ : ∃ v, a1 = [v] := by obtain ⟨v, _, _, rfl, _⟩ := g1; exact ⟨v, rfl⟩
      obtain ⟨u2, hu2⟩ : ∃ v, a2 = [v] := by obtain ⟨v, _, _, rfl, _⟩ := g2; exact ⟨v, rfl⟩
      obtain ⟨u3, hu3⟩ : ∃ v, a3 = [v] := by obtain ⟨v, _, _, rfl, _⟩ := g3; exact ⟨v, rfl⟩
      subst hu1 hu2 hu3
      have hP := H.allOk (.there (.there .here))
      have r1 := Ty.read _ g1 (fun k hk => hP k (List.mem_append_left _ (List.mem_append_left _ hk)))
      obtain ⟨D1, d1, rfl, _, _⟩ := sl_form r1
      have hpl : pre.length = i * 3 := by rw [h2.len, List.length_map, List.length_take, Nat.min_eq_left (Nat.le_of_lt hlt')]; rfl
      have hseg : Seg (pre ++ (([Value.slice D1 x.1.length d1] ++ ([u2] ++ [u3])) ++ ys)) (i * 3) [Value.slice D1 x.1.length d1, u2, u3] := seg_mid pre [Value.slice D1 x.1.length d1, u2, u3] ys hpl
      have hs1 : Seg (pre ++ (([Value.slice D1 x.1.length d1] ++ ([u2] ++ [u3])) ++ ys)) (i * 3) [Value.slice D1 x.1.length d1] := fun j u hu => by match j, hu with | 0, hu => exact hseg 0 u hu
      have HS : Hid (spl (spl (pre ++ (([Value.slice D1 x.1.length d1] ++ ([u2] ++ [u3])) ++ ys)) (i * 3) [.slice none 0 0]) (i * 3 + 1) [.slice D1 x.1.length d1] = (pre ++ [.slice none 0 0, .slice D1 x.1.length d1, u3]) ++ ys) := Lib.hid ((spl_tick1 pre ys (.slice D1 x.1.length d1) u2 u3 (.slice none 0 0) (.slice D1 x.1.length d1) hpl).trans (List.append_assoc ..).symm)
      have hfit1 : i * 3 + 1 ≤ (pre ++ (([Value.slice D1 x.1.length d1] ++ ([u2] ++ [u3])) ++ ys)).length := by rw [List.length_append, hpl]; simp
      have hfit2 : i * 3 + 1 + 1 ≤ (pre ++ (([Value.slice D1 x.1.length d1] ++ ([u2] ++ [u3])) ++ ys)).length := by rw [List.length_append, hpl]; simp; omega
      have HI2 : Hid (OwnL tyBo (pre ++ [.slice none 0 0, .slice D1 x.1.length d1, u3]) ((l.take (i + 1)).map tickBo) (N1 ++ ([Hl.row 2 1 (.slice none 0 0) 0 []] ++ (M1 ++ M4))) ∧ OwnL tyBo ys (l.drop (i + 1)) M3) := Lib.hid ⟨by
        rw [List.take_succ_eq_append_getElem hlt', e, List.map_append]
        exact h2.snoc ⟨[.slice none 0 0], [.slice D1 x.1.length d1, u3], _, _, rfl, rfl, nil_own, [.slice D1 x.1.length d1], [u3], _, _, rfl, rfl, g1, g3⟩, h4⟩
      have hlt1 : (i : Int) < n := by omega
      clear h2 h3 h4 HI hx hpl e hv2 hlt' hseg g1 g2 g3 hP r1
      go_wp2_with (first | ((with_reducible apply st_load1 H); decide +kernel; rfl; (focus exact (At.row H iF (by assumption)).head rfl); clear H; intro wn H; simp only [Act.put, yA, yB, yC, yD, yE, yF]) | ((first | ((with_reducible apply st_load1 H); decide +kernel; rfl; exact cF) | ((with_reducible apply st_loads H); decide +kernel; rfl; exact iF; exact zF; rfl) | ((with_reducible apply st_store H); rfl; exact eF; (focus (exact cells_agg _)); exact uF; kernel_rfl; (focus (exact Nat.le_of_ble_eq_true (by rfl))); (focus (first | rfl | simp))) | ((with_reducible apply st_storeown H); rfl; exact eF; (focus (exact (rfl : _ = [_]))); exact uF; (focus omega); kernel_rfl; rfl)); clear H; intro wn H; (try simp only [splice, yG, yH, yI, yJ, yK, yL, yM, yN, yO, yP, yQ, Nat.reduceAdd, yA, yB, yC] at H); simp only [Act.put, yA, yB, yC, yD, yE, yF]) | ((first | ((with_reducible apply st_box (dst := some 2) H); exact nF; intro b2) | ((with_reducible apply st_box (dst := some 3) H); exact nF; intro b3) | ((with_reducible apply st_alloc (dst := some 4) H); exact nF; intro b4) | ((with_reducible apply st_alloc (dst := some 5) H); exact nF; intro b5) | ((with_reducible apply st_strsum H); rfl; rfl; exact szF; kernel_rfl)); clear H; intro wn H; simp only [Act.put, yA, yB, yC, yD, yE, yF]) | ((with_reducible apply st_loadat H); decide +kernel; rfl; exact aF; exact zF; rfl; clear H; intro wn H; simp only [Act.put, yA, yB, yC, yD, yE, yF]) | ((with_reducible apply st_storerow H); rfl; exact eF; (first | exact cells_agg _ | exact cellI | exact cellS | exact cellB | exact (rfl : _ = [_])); exact uF; kernel_rfl; exact Nat.succ_pos _; exact fitF; rfl; clear H; intro wn H; simp only [Act.put, yA, yB, yC, yD, yE, yF]) | ((first | (go_at_call 55; refine gvF (c1 _ H.below) H ?_)); clear H; intro wn H) | fail)
      go_roundg (n - (i + 1))
      case measure => omega
      case rel =>
        have H2 := (H.sel (M := [Hl.row 101 3 (.slice (some ⟨g, 0, none⟩) n ca) n _, Hl.all N1, Hl.all ((M1 ++ (M2 ++ M4)) ++ M3), Hl.blk b5 51 #[.slice (some ⟨g, 0, none⟩) n ca], Hl.blk b4 58 #[.slice none 0 0, .int .i64 0]]) sF).take2.part3
        have H3 := (Hs.pack (M := [Hl.row 2 1 (.slice none 0 0) 0 []]) (H2.putRow 2 1 none)).up2.off1.join3.give2
        exact ⟨i + 1, _, ys, _, M3, by omega, by go_num, HI2, by rw [← HS.out]; exact H3⟩
    · obtain rfl : i = n := by omega
      have hlt1 : ¬ (i : Int) < i := by omega
      obtain ⟨h2, h3⟩ := HI.out
      rw [List.take_of_length_le (by rw [← HN.out]; exact Nat.le_refl _)] at h2
      rw [List.drop_of_length_le (by rw [← HN.out]; exact Nat.le_refl _)] at h3
      obtain ⟨rfl, rfl⟩ := h3.unNil
      rw [List.append_nil] at H
      have HO2 := Lib.hid h2
      clear h2 h3 HI HO
      go_wp2_with (first | ((with_reducible apply st_load1 H); decide +kernel; rfl; (focus exact (At.row H iF (by assumption)).head rfl); clear H; intro wn H; simp only [Act.put, yA, yB, yC, yD, yE, yF]) | ((first | ((with_reducible apply st_load1 H); decide +kernel; rfl; exact cF) | ((with_reducible apply st_loads H); decide +kernel; rfl; exact iF; exact zF; rfl) | ((with_reducible apply st_store H); rfl; exact eF; (focus (exact cells_agg _)); exact uF; kernel_rfl; (focus (exact Nat.le_of_ble_eq_true (by rfl))); (focus (first | rfl | simp))) | ((with_reducible apply st_storeown H); rfl; exact eF; (focus (exact (rfl : _ = [_]))); exact uF; (focus omega); kernel_rfl; rfl)); clear H; intro wn H; (try simp only [splice, yG, yH, yI, yJ, yK, yL, yM, yN, yO, yP, yQ, Nat.reduceAdd, yA, yB, yC] at H); simp only [Act.put, yA, yB, yC, yD, yE, yF]) | ((first | ((with_reducible apply st_box (dst := some 2) H); exact nF; intro b2) | ((with_reducible apply st_box (dst := some 3) H); exact nF; intro b3) | ((with_reducible apply st_alloc (dst := some 4) H); exact nF; intro b4) | ((with_reducible apply st_alloc (dst := some 5) H); exact nF; intro b5) | ((with_reducible apply st_strsum H); rfl; rfl; exact szF; kernel_rfl)); clear H; intro wn H; simp only [Act.put, yA, yB, yC, yD, yE, yF]) | ((with_reducible apply st_loadat H); decide +kernel; rfl; exact aF; exact zF; rfl; clear H; intro wn H; simp only [Act.put, yA, yB, yC, yD, yE, yF]) | ((with_reducible apply st_storerow H); rfl; exact eF; (first | exact cells_agg _ | exact cellI | exact cellS | exact cellB | exact (rfl : _ = [_])); exact uF; kernel_rfl; exact Nat.succ_pos _; exact fitF; rfl; clear H; intro wn H; simp only [Act.put, yA, yB, yC, yD, yE, yF]) | ((first | (go_at_call 55; refine gvF (c1 _ H.below) H ?_)); clear H; intro wn H) | fail)
      refine bp_cell H rfl rfl iF (by kernel_rfl) (by kernel_rfl) rfl (by first | exact .inl rfl | exact .inr rfl) ?_
      rw [HMO.out]
      exact ret_mail HO2.out (H.sel (M := [Hl.row 101 3 (.slice A i ca) i pre, Hl.all N1]) sF) (by rw [List.length_map]; exact HN.out) 0
set_option maxRecDepth 100000 in
set_option maxHeartbeats 4000000 in
theorem ill_s (q : Int) (w : World) : Gives Tryz.prog 60 #[.int .i64 q] w (.agg #[.slice none 0 0, .int .i64 q]) := by
  have H := Hs.start noRow w
  unfold Gives
  go_enter Tryz.func60, Tryz.ntmps60
  go_wp2_with (first | ((with_reducible apply st_load1 H); decide +kernel; rfl; (focus exact (At.row H iF (by assumption)).head rfl); clear H; intro wn H; simp only [Act.put, yA, yB, yC, yD, yE, yF]) | ((first | ((with_reducible apply st_load1 H); decide +kernel; rfl; exact cF) | ((with_reducible apply st_loads H); decide +kernel; rfl; exact iF; exact zF; rfl) | ((with_reducible apply st_store H); rfl; exact eF; (focus (exact cells_agg _)); exact uF; kernel_rfl; (focus (exact Nat.le_of_ble_eq_true (by rfl))); (focus (first | rfl | simp))) | ((with_reducible apply st_storeown H); rfl; exact eF; (focus (exact (rfl : _ = [_]))); exact uF; (focus omega); kernel_rfl; rfl)); clear H; intro wn H; (try simp only [splice, yG, yH, yI, yJ, yK, yL, yM, yN, yO, yP, yQ, Nat.reduceAdd, yA, yB, yC] at H); simp only [Act.put, yA, yB, yC, yD, yE, yF]) | ((first | ((with_reducible apply st_alloc (dst := some 2) H); exact nF; intro b2)); clear H; intro wn H; simp only [Act.put, yA, yB, yC, yD, yE, yF]) | ((with_reducible apply st_storerow H); rfl; exact eF; (first | exact cells_agg _ | exact cellI | exact cellS | exact cellB | exact (rfl : _ = [_])); exact uF; kernel_rfl; exact Nat.succ_pos _; exact fitF; rfl; clear H; intro wn H; simp only [Act.put, yA, yB, yC, yD, yE, yF]) | fail)
  refine bp_cell H rfl rfl iF (by kernel_rfl) (by kernel_rfl) rfl (by first | exact .inl rfl | exact .inr rfl) ?_
  exact ⟨rfl, H.below⟩
set_option maxRecDepth 100000 in
set_option maxHeartbeats 4000000 in
theorem mailTick_s (c : Cfg) (cs : List Value) (v : Value) (l : List Bo) (w : World) (hrc : tyCfg.rd w cs c) (hr : (Ty.sl 101 tyBo).rd w [v] l) :
    Rets Tryz.prog [] 22 #[.agg cs.toArray, .agg #[v]] w (tAgg tyMO (mailTick c l)) := by
  have c1 := fun w1 hb => mailRight_s c cs v l w1 (Ty.below _ hrc hb) (Ty.below _ hr hb)
  have hmf := @mail_facts c l
  have hmt := @mail_fits c l
  obtain ⟨v1, v2, v3, rfl, h1, h2, h3⟩ := cfg_form hrc
  obtain ⟨hf, hhf⟩ : ∃ n, n = c.2.2.2 := ⟨_, rfl⟩
  rw [← hhf] at c1 ⊢
  replace c1 : ∀ w1, Below w.heap.size w w1 → Gives Tryz.prog 50 #[.agg #[v1, v2, v3, .int .i64 hf], .agg #[v]] w1 (.bool (mailOk c l)) := c1
  show Rets Tryz.prog [] _ #[.agg #[v1, v2, v3, .int .i64 hf], .agg #[v]] w _
  obtain ⟨mo, hmo⟩ : ∃ mo, mo = mailTick c l := ⟨_, rfl⟩
  rw [← hmo]
  have hmo2 : mo = if mailOk c l then (l.map tickBo, 0) else ([], 1) := hmo
  clear hmo hrc h1 h2 h3 hhf
  generalize mailOk c l = z at *
  have HR := Lib.hid hr
  clear hr
  have H := Hs.start noRow w
  refine Rets.of ?_
  cases z
  case false =>
    have HMO : Hid (mo = ([], 1)) := Lib.hid hmo2
    clear hmo2 hmf hmt
    go_enter Tryz.func22, Tryz.ntmps22
    go_wp2_with (first | ((with_reducible apply st_load1 H); decide +kernel; rfl; (focus exact (At.row H iF (by assumption)).head rfl); clear H; intro wn H; simp only [Act.put, yA, yB, yC, yD, yE, yF]) | ((first | ((with_reducible apply st_load1 H); decide +kernel; rfl; exact cF) | ((with_reducible apply st_loads H); decide +kernel; rfl; exact iF; exact zF; rfl) | ((with_reducible apply st_store H); rfl; exact eF; (focus (exact cells_agg _)); exact uF; kernel_rfl; (focus (exact Nat.le_of_ble_eq_true (by rfl))); (focus (first | rfl | simp))) | ((with_reducible apply st_storeown H); rfl; exact eF; (focus (exact (rfl : _ = [_]))); exact uF; (focus omega); kernel_rfl; rfl)); clear H; intro wn H; (try simp only [splice, yG, yH, yI, yJ, yK, yL, yM, yN, yO, yP, yQ, Nat.reduceAdd, yA, yB, yC] at H); simp only [Act.put, yA, yB, yC, yD, yE, yF]) | ((first | ((with_reducible apply st_box (dst := some 2) H); exact nF; intro b2) | ((with_reducible apply st_box (dst := some 3) H); exact nF; intro b3) | ((with_reducible apply st_alloc (dst := some 4) H); exact nF; intro b4) | ((with_reducible apply st_alloc (dst := some 5) H); exact nF; intro b5) | ((with_reducible apply st_strsum H); rfl; rfl; exact szF; kernel_rfl)); clear H; intro wn H; simp only [Act.put, yA, yB, yC, yD, yE, yF]) | ((with_reducible apply st_loadat H); decide +kernel; rfl; exact aF; exact zF; rfl; clear H; intro wn H; simp only [Act.put, yA, yB, yC, yD, yE, yF]) | ((with_reducible apply st_storerow H); rfl; exact eF; (first | exact cells_agg _ | exact cellI | exact cellS | exact cellB | exact (rfl : _ = [_])); exact uF; kernel_rfl; exact Nat.succ_pos _; exact fitF; rfl; clear H; intro wn H; simp only [Act.put, yA, yB, yC, yD, yE, yF]) | ((first | (go_at_call 50; refine gvF (c1 _ H.below) H ?_) | (go_at_call 60; refine gvF (ill_s 1 _) H ?_)); clear H; intro wn H) | fail)
    refine bp_cell H rfl rfl iF (by kernel_rfl) (by kernel_rfl) rfl (by first | exact .inl rfl | exact .inr rfl) ?_
    rw [HMO.out]
    exact ret_ill H 1
  have HMO : Hid (mo = (l.map tickBo, 0)) := Lib.hid hmo2
  have hm4 : l.length ≤ 4 := by have := hmf rfl; omega
  have hfit := hmt rfl
  have c2 := fun w1 hb => copyMail_s v l (by omega) hfit w1 (Ty.below _ HR.out hb)
  clear hmo2 hmf hmt hfit
  go_enter Tryz.func22, Tryz.ntmps22
  go_wp2_with (first | ((with_reducible apply st_load1 H); decide +kernel; rfl; (focus exact (At.row H iF (by assumption)).head rfl); clear H; intro wn H; simp only [Act.put, yA, yB, yC, yD, yE, yF]) | ((first | ((with_reducible apply st_load1 H); decide +kernel; rfl; exact cF) | ((with_reducible apply st_loads H); decide +kernel; rfl; exact iF; exact zF; rfl) | ((with_reducible apply st_store H); rfl; exact eF; (focus (exact cells_agg _)); exact uF; kernel_rfl; (focus (exact Nat.le_of_ble_eq_true (by rfl))); (focus (first | rfl | simp))) | ((with_reducible apply st_storeown H); rfl; exact eF; (focus (exact (rfl : _ = [_]))); exact uF; (focus omega); kernel_rfl; rfl)); clear H; intro wn H; (try simp only [splice, yG, yH, yI, yJ, yK, yL, yM, yN, yO, yP, yQ, Nat.reduceAdd, yA, yB, yC] at H); simp only [Act.put, yA, yB, yC, yD, yE, yF]) | ((first | ((with_reducible apply st_box (dst := some 2) H); exact nF; intro b2) | ((with_reducible apply st_box (dst := some 3) H); exact nF; intro b3) | ((with_reducible apply st_alloc (dst := some 4) H); exact nF; intro b4) | ((with_reducible apply st_alloc (dst := some 5) H); exact nF; intro b5) | ((with_reducible apply st_strsum H); rfl; rfl; exact szF; kernel_rfl)); clear H; intro wn H; simp only [Act.put, yA, yB, yC, yD, yE, yF]) | ((with_reducible apply st_loadat H); decide +kernel; rfl; exact aF; exact zF; rfl; clear H; intro wn H; simp only [Act.put, yA, yB, yC, yD, yE, yF]) | ((with_reducible apply st_storerow H); rfl; exact eF; (first | exact cells_agg _ | exact cellI | exact cellS | exact cellB | exact (rfl : _ = [_])); exact uF; kernel_rfl; exact Nat.succ_pos _; exact fitF; rfl; clear H; intro wn H; simp only [Act.put, yA, yB, yC, yD, yE, yF]) | ((first | (go_at_call 50; refine gvF (c1 _ H.below) H ?_) | (go_at_call 60; refine gvF (ill_s 1 _) H ?_)); clear H; intro wn H) | fail)
  refine (Rets.use (c2 _ H.below)).mono ?_; rintro e wn ⟨_, _, rfl, ⟨u, MM, rfl, hM, rfl⟩, hkk⟩; have Hn := H.moreK (by intro k hk; first | exact absurd hk List.not_mem_nil | (obtain rfl := List.mem_singleton.1 hk; exact In.mem iF)) hkk; clear hkk; clear H; have H := Hn; clear Hn; (try simp only [yT, yV] at H)
  have Hn := own_open hM H
  clear H
  obtain ⟨xs, M, A, ca, rfl, hO, hcm, H⟩ := Hn
  replace H : Hs noRow w (Hl.row 101 3 (.slice A l.length ca) l.length xs :: Hl.all M :: _) _ := H
  obtain ⟨n, hn⟩ : ∃ n, n = l.length := ⟨_, rfl⟩
  rw [← hn] at H hM hm4 ⊢
  have HN := Lib.hid hn
  have HO := Lib.hid hO
  clear hM hO hcm hn c1 c2
  go_wp2_with (first | ((with_reducible apply st_load1 H); decide +kernel; rfl; (focus exact (At.row H iF (by assumption)).head rfl); clear H; intro wn H; simp only [Act.put, yA, yB, yC, yD, yE, yF]) | ((first | ((with_reducible apply st_load1 H); decide +kernel; rfl; exact cF) | ((with_reducible apply st_loads H); decide +kernel; rfl; exact iF; exact zF; rfl) | ((with_reducible apply st_store H); rfl; exact eF; (focus (exact cells_agg _)); exact uF; kernel_rfl; (focus (exact Nat.le_of_ble_eq_true (by rfl))); (focus (first | rfl | simp))) | ((with_reducible apply st_storeown H); rfl; exact eF; (focus (exact (rfl : _ = [_]))); exact uF; (focus omega); kernel_rfl; rfl)); clear H; intro wn H; (try simp only [splice, yG, yH, yI, yJ, yK, yL, yM, yN, yO, yP, yQ, Nat.reduceAdd, yA, yB, yC] at H); simp only [Act.put, yA, yB, yC, yD, yE, yF]) | ((first | ((with_reducible apply st_box (dst := some 2) H); exact nF; intro b2) | ((with_reducible apply st_box (dst := some 3) H); exact nF; intro b3) | ((with_reducible apply st_alloc (dst := some 4) H); exact nF; intro b4) | ((with_reducible apply st_alloc (dst := some 5) H); exact nF; intro b5) | ((with_reducible apply st_strsum H); rfl; rfl; exact szF; kernel_rfl)); clear H; intro wn H; simp only [Act.put, yA, yB, yC, yD, yE, yF]) | ((with_reducible apply st_loadat H); decide +kernel; rfl; exact aF; exact zF; rfl; clear H; intro wn H; simp only [Act.put, yA, yB, yC, yD, yE, yF]) | ((with_reducible apply st_storerow H); rfl; exact eF; (first | exact cells_agg _ | exact cellI | exact cellS | exact cellB | exact (rfl : _ = [_])); exact uF; kernel_rfl; exact Nat.succ_pos _; exact fitF; rfl; clear H; intro wn H; simp only [Act.put, yA, yB, yC, yD, yE, yF]) | ((first | (go_at_call 50; refine gvF (c1 _ H.below) H ?_) | (go_at_call 60; refine gvF (ill_s 1 _) H ?_)); clear H; intro wn H) | fail)
  go_loopg [6] n (fun m iv wr => ∃ (i : Nat) (pre post : List Value) (N1 N2 : List Hl), i + m = n ∧ iv = .int .i64 i ∧ Hid (OwnL tyBo pre ((l.take i).map tickBo) N1 ∧ OwnL tyBo post (l.drop i) N2) ∧ Hs noRow w [Hl.row 101 3 (.slice A n ca) n (pre ++ post), Hl.all N1, Hl.all N2, Hl.blk b5 51 #[.slice A n ca], Hl.blk b4 58 #[.slice none 0 0, .int .i64 0]] wr)
  case atStart => exact ⟨0, [], xs, [], M, by omega, rfl, Lib.hid ⟨.nil, HO.out⟩, (H.sel (M := [Hl.row 101 3 (.slice A n ca) n xs, Hl.all M, Hl.blk b5 51 #[.slice A n ca], Hl.blk b4 58 #[.slice none 0 0, .int .i64 0]]) sF).allNil.up1⟩
  case round =>
    clear H
    obtain ⟨i, pre, post, N1, N2, hi, rfl, HI, H⟩ := hrel
    by_cases hlt : i < n
    · obtain ⟨x, hx⟩ : ∃ x, l[i]? = some x := ⟨l[i]'(by rw [← HN.out]; exact hlt), List.getElem?_eq_getElem (by rw [← HN.out]; exact hlt)⟩
      obtain ⟨g, c2, hv, _⟩ := (H.rows .here).form (by omega)
      injection hv with hv1 hv2 hv3
      subst hv1 hv3
      obtain ⟨h2, h3⟩ := HI.out
      obtain ⟨hlt', e⟩ := List.getElem?_eq_some_iff.1 hx
      rw [List.drop_eq_getElem_cons hlt', e] at h3
      obtain ⟨cs, ys, Mi, M3, rfl, rfl, hcs, h4⟩ := h3.un
      obtain ⟨a1, q1, M1, P1, rfl, rfl, g1, a2, a3, M2, M4, rfl, rfl, g2, g3⟩ := hcs
      obtain ⟨u1, hu1⟩ : ∃ v, a1 = [v] := by obtain ⟨v, _, _, rfl, _⟩ := g1; exact ⟨v, rfl⟩
      obtain ⟨u2, hu2⟩ : ∃ v, a2 = [v] := by obtain ⟨v, _, _, rfl, _⟩ := g2; exact ⟨v, rfl⟩
      obtain ⟨u3, hu3⟩ : ∃ v, a3 = [v] := by obtain ⟨v, _, _, rfl, _⟩ := g3; exact ⟨v, rfl⟩
      subst hu1 hu2 hu3
      have hP := H.allOk (.there (.there .here))
      have r1 := Ty.read _ g1 (fun k hk => hP k (List.mem_append_left _ (List.mem_append_left _ hk)))
      obtain ⟨D1, d1, rfl, _, _⟩ := sl_form r1
      have hpl : pre.length = i * 3 := by rw [h2.len, List.length_map, List.length_take, Nat.min_eq_left (Nat.le_of_lt hlt')]; rfl
      have hseg : Seg (pre ++ (([Value.slice D1 x.1.length d1] ++ ([u2] ++ [u3])) ++ ys)) (i * 3) [Value.slice D1 x.1.length d1, u2, u3] := seg_mid pre [Value.slice D1 x.1.length d1, u2, u3] ys hpl
      have hs1 : Seg (pre ++ (([Value.slice D1 x.1.length d1] ++ ([u2] ++ [u3])) ++ ys)) (i * 3) [Value.slice D1 x.1.length d1] := fun j u hu => by match j, hu with | 0, hu => exact hseg 0 u hu
      have HS : Hid (spl (spl (pre ++ (([Value.slice D1 x.1.length d1] ++ ([u2] ++ [u3])) ++ ys)) (i * 3 + 1) [.slice D1 x.1.length d1]) (i * 3) [.slice none 0 0] = (pre ++ [.slice none 0 0, .slice D1 x.1.length d1, u3]) ++ ys) := Lib.hid ((spl_tick2 pre ys (.slice D1 x.1.length d1) u2 u3 (.slice none 0 0) (.slice D1 x.1.length d1) hpl).trans (List.append_assoc ..).symm)
      have hfit1 : i * 3 + 1 ≤ (pre ++ (([Value.slice D1 x.1.length d1] ++ ([u2] ++ [u3])) ++ ys)).length := by rw [List.length_append, hpl]; simp
      have hfit2 : i * 3 + 1 + 1 ≤ (pre ++ (([Value.slice D1 x.1.length d1] ++ ([u2] ++ [u3])) ++ ys)).length := by rw [List.length_append, hpl]; simp; omega
      have HI2 : Hid (OwnL tyBo (pre ++ [.slice none 0 0, .slice D1 x.1.length d1, u3]) ((l.take (i + 1)).map tickBo) (N1 ++ ([Hl.row 2 1 (.slice none 0 0) 0 []] ++ (M1 ++ M4))) ∧ OwnL tyBo ys (l.drop (i + 1)) M3) := Lib.hid ⟨by
        rw [List.take_succ_eq_append_getElem hlt', e, List.map_append]
        exact h2.snoc ⟨[.slice none 0 0], [.slice D1 x.1.length d1, u3], _, _, rfl, rfl, nil_own, [.slice D1 x.1.length d1], [u3], _, _, rfl, rfl, g1, g3⟩, h4⟩
      have hlt1 : (i : Int) < n := by omega
      clear h2 h3 h4 HI hx hpl e hv2 hlt' hseg g1 g2 g3 hP r1
      go_wp2_with (first | ((with_reducible apply st_load1 H); decide +kernel; rfl; (focus exact (At.row H iF (by assumption)).head rfl); clear H; intro wn H; simp only [Act.put, yA, yB, yC, yD, yE, yF]) | ((first | ((with_reducible apply st_load1 H); decide +kernel; rfl; exact cF) | ((with_reducible apply st_loads H); decide +kernel; rfl; exact iF; exact zF; rfl) | ((with_reducible apply st_store H); rfl; exact eF; (focus (exact cells_agg _)); exact uF; kernel_rfl; (focus (exact Nat.le_of_ble_eq_true (by rfl))); (focus (first | rfl | simp))) | ((with_reducible apply st_storeown H); rfl; exact eF; (focus (exact (rfl : _ = [_]))); exact uF; (focus omega); kernel_rfl; rfl)); clear H; intro wn H; (try simp only [splice, yG, yH, yI, yJ, yK, yL, yM, yN, yO, yP, yQ, Nat.reduceAdd, yA, yB, yC] at H); simp only [Act.put, yA, yB, yC, yD, yE, yF]) | ((first | ((with_reducible apply st_box (dst := some 2) H); exact nF; intro b2) | ((with_reducible apply st_box (dst := some 3) H); exact nF; intro b3) | ((with_reducible apply st_alloc (dst := some 4) H); exact nF; intro b4) | ((with_reducible apply st_alloc (dst := some 5) H); exact nF; intro b5) | ((with_reducible apply st_strsum H); rfl; rfl; exact szF; kernel_rfl)); clear H; intro wn H; simp only [Act.put, yA, yB, yC, yD, yE, yF]) | ((with_reducible apply st_loadat H); decide +kernel; rfl; exact aF; exact zF; rfl; clear H; intro wn H; simp only [Act.put, yA, yB, yC, yD, yE, yF]) | ((with_reducible apply st_storerow H); rfl; exact eF; (first | exact cells_agg _ | exact cellI | exact cellS | exact cellB | exact (rfl : _ = [_])); exact uF; kernel_rfl; exact Nat.succ_pos _; exact fitF; rfl; clear H; intro wn H; simp only [Act.put, yA, yB, yC, yD, yE, yF]) | ((first | (go_at_call 50; refine gvF (c1 _ H.below) H ?_) | (go_at_call 60; refine gvF (ill_s 1 _) H ?_)); clear H; intro wn H) | fail)
      apply wp_region_hs (K := []) (Spec.V _ :: Spec.V _ :: Spec.V _ :: Spec.V _ :: Spec.V _ :: Spec.V _ :: Spec.V _ :: Spec.V _ :: Spec.V _ :: Spec.V _ :: Spec.V _ :: []) 11 H rfl (by simp) (by kernel_rfl) (by kernel_rfl); intro vs Ls; (iterate 8 ((with_reducible apply wpH_V); (focus rfl); (focus rfl); (focus (intro w1 H1; exact oF)); simp only [Act.put, yA, yB, yC, yD, yE, yF]; (try simp only [yG, yH, yJ, yK]))); ((with_reducible apply wpH_V); (focus rfl); (focus rfl); (focus (intro w1 H1; (with_reducible apply ok_load1); (focus rfl); (focus decide +kernel); (focus exact (At.row H1 iF (by assumption)).head rfl))); simp only [Act.put, yA, yB, yC, yD, yE, yF]); (iterate 2 ((with_reducible apply wpH_V); (focus rfl); (focus rfl); (focus (intro w1 H1; exact oF)); simp only [Act.put, yA, yB, yC, yD, yE, yF]; (try simp only [yG, yH, yJ, yK]))); refine wpH_0 ?_; intro hok wn Hn; (try simp only [yT, yU, yV, yW] at Hn); clear H; have H := Hn; clear Hn; clear hok; rotate_left; exact lcF
      go_wp2_with (first | ((with_reducible apply st_load1 H); decide +kernel; rfl; (focus exact (At.row H iF (by assumption)).head rfl); clear H; intro wn H; simp only [Act.put, yA, yB, yC, yD, yE, yF]) | ((first | ((with_reducible apply st_load1 H); decide +kernel; rfl; exact cF) | ((with_reducible apply st_loads H); decide +kernel; rfl; exact iF; exact zF; rfl) | ((with_reducible apply st_store H); rfl; exact eF; (focus (exact cells_agg _)); exact uF; kernel_rfl; (focus (exact Nat.le_of_ble_eq_true (by rfl))); (focus (first | rfl | simp))) | ((with_reducible apply st_storeown H); rfl; exact eF; (focus (exact (rfl : _ = [_]))); exact uF; (focus omega); kernel_rfl; rfl)); clear H; intro wn H; (try simp only [splice, yG, yH, yI, yJ, yK, yL, yM, yN, yO, yP, yQ, Nat.reduceAdd, yA, yB, yC] at H); simp only [Act.put, yA, yB, yC, yD, yE, yF]) | ((first | ((with_reducible apply st_box (dst := some 2) H); exact nF; intro b2) | ((with_reducible apply st_box (dst := some 3) H); exact nF; intro b3) | ((with_reducible apply st_alloc (dst := some 4) H); exact nF; intro b4) | ((with_reducible apply st_alloc (dst := some 5) H); exact nF; intro b5) | ((with_reducible apply st_strsum H); rfl; rfl; exact szF; kernel_rfl)); clear H; intro wn H; simp only [Act.put, yA, yB, yC, yD, yE, yF]) | ((with_reducible apply st_loadat H); decide +kernel; rfl; exact aF; exact zF; rfl; clear H; intro wn H; simp only [Act.put, yA, yB, yC, yD, yE, yF]) | ((with_reducible apply st_storerow H); rfl; exact eF; (first | exact cells_agg _ | exact cellI | exact cellS | exact cellB | exact (rfl : _ = [_])); exact uF; kernel_rfl; exact Nat.succ_pos _; exact fitF; rfl; clear H; intro wn H; simp only [Act.put, yA, yB, yC, yD, yE, yF]) | ((first | (go_at_call 50; refine gvF (c1 _ H.below) H ?_) | (go_at_call 60; refine gvF (ill_s 1 _) H ?_)); clear H; intro wn H) | fail)
      go_roundg (n - (i + 1))
      case measure => omega
      case rel =>
        rw [show M1 ++ (M2 ++ (M4 ++ M3)) = (M1 ++ (M2 ++ M4)) ++ M3 by simp only [List.append_assoc]] at H
        have H2 := (H.sel (M := [Hl.row 101 3 (.slice (some ⟨g, 0, none⟩) n ca) n _, Hl.all N1, Hl.all ((M1 ++ (M2 ++ M4)) ++ M3), Hl.blk b5 51 #[.slice (some ⟨g, 0, none⟩) n ca], Hl.blk b4 58 #[.slice none 0 0, .int .i64 0]]) sF).take2.part3
        have H3 := (Hs.pack (M := [Hl.row 2 1 (.slice none 0 0) 0 []]) (H2.putRow 2 1 none)).up2.off1.join3.give2
        exact ⟨i + 1, _, ys, _, M3, by omega, by go_num, HI2, by rw [← HS.out]; exact H3⟩
    · obtain rfl : i = n := by omega
      have hlt1 : ¬ (i : Int) < i := by omega
      obtain ⟨h2, h3⟩ := HI.out
      rw [List.take_of_length_le (by rw [← HN.out]; exact Nat.le_refl _)] at h2
      rw [List.drop_of_length_le (by rw [← HN.out]; exact Nat.le_refl _)] at h3
      obtain ⟨rfl, rfl⟩ := h3.unNil
      rw [List.append_nil] at H
      have HO2 := Lib.hid h2
      clear h2 h3 HI HO
      go_wp2_with (first | ((with_reducible apply st_load1 H); decide +kernel; rfl; (focus exact (At.row H iF (by assumption)).head rfl); clear H; intro wn H; simp only [Act.put, yA, yB, yC, yD, yE, yF]) | ((first | ((with_reducible apply st_load1 H); decide +kernel; rfl; exact cF) | ((with_reducible apply st_loads H); decide +kernel; rfl; exact iF; exact zF; rfl) | ((with_reducible apply st_store H); rfl; exact eF; (focus (exact cells_agg _)); exact uF; kernel_rfl; (focus (exact Nat.le_of_ble_eq_true (by rfl))); (focus (first | rfl | simp))) | ((with_reducible apply st_storeown H); rfl; exact eF; (focus (exact (rfl : _ = [_]))); exact uF; (focus omega); kernel_rfl; rfl)); clear H; intro wn H; (try simp only [splice, yG, yH, yI, yJ, yK, yL, yM, yN, yO, yP, yQ, Nat.reduceAdd, yA, yB, yC] at H); simp only [Act.put, yA, yB, yC, yD, yE, yF]) | ((first | ((with_reducible apply st_box (dst := some 2) H); exact nF; intro b2) | ((with_reducible apply st_box (dst := some 3) H); exact nF; intro b3) | ((with_reducible apply st_alloc (dst := some 4) H); exact nF; intro b4) | ((with_reducible apply st_alloc (dst := some 5) H); exact nF; intro b5) | ((with_reducible apply st_strsum H); rfl; rfl; exact szF; kernel_rfl)); clear H; intro wn H; simp only [Act.put, yA, yB, yC, yD, yE, yF]) | ((with_reducible apply st_loadat H); decide +kernel; rfl; exact aF; exact zF; rfl; clear H; intro wn H; simp only [Act.put, yA, yB, yC, yD, yE, yF]) | ((with_reducible apply st_storerow H); rfl; exact eF; (first | exact cells_agg _ | exact cellI | exact cellS | exact cellB | exact (rfl : _ = [_])); exact uF; kernel_rfl; exact Nat.succ_pos _; exact fitF; rfl; clear H; intro wn H; simp only [Act.put, yA, yB, yC, yD, yE, yF]) | ((first | (go_at_call 50; refine gvF (c1 _ H.below) H ?_) | (go_at_call 60; refine gvF (ill_s 1 _) H ?_)); clear H; intro wn H) | fail)
      refine bp_cell H rfl rfl iF (by kernel_rfl) (by kernel_rfl) rfl (by first | exact .inl rfl | exact .inr rfl) ?_
      rw [HMO.out]
      exact ret_mail HO2.out (H.sel (M := [Hl.row 101 3 (.slice A i ca) i pre, Hl.all N1]) sF) (by rw [List.length_map]; exact HN.out) 0
end Go.Proofs.YtengmmffommafaaGreat
