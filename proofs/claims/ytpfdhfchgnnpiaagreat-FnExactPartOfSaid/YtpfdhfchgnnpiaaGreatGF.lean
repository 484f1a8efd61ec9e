/-
  The part of a region, in the program and in the reference: the walks.
-/
import Derived.Test.YtpfdhfchgnnpiaaGreatPd
import Derived.Test.YtpfdhfchgnnpiaaGreatPe
import Derived.Test.YtpfdhfchgnnpiaaGreatGC
import Derived.Test.YtpfdhfchgnnpiaaGreatGE
import Derived.Test.YtpfdhfchgnnpiaaGreatGH
import Derived.Test.YtpfdhfchgnnpiaaGreatG9
set_option linter.unusedSimpArgs false
set_option linter.unusedVariables false
namespace Go.Proofs.YtpfdhfchgnnpiaaGreat
open Go.RowKit M
namespace M
def partB (a : St) (r : Nat) : Bs :=
  if r = 0 then sysB a.1
  else if r ≤ (labelsOf a.1.1.1).length then (match (labelsOf a.1.1.1)[r - 1]? with
    | some l => labB a l
    | none => [])
  else match a.2[r - 1 - (labelsOf a.1.1.1).length]? with
    | some b => numsB b.1
    | none => []
end M
set_option maxRecDepth 100000 in
set_option maxHeartbeats 8000000 in
theorem partOf_i (a : St) (cs : List Value) (r : Nat) (hfit : Fit a) (hcl : clearOk a.1.1.1 = true) (h8 : (labelsOf a.1.1.1).length ≤ 8) (hr9 : r < regsOf a.1.1) (w : World) (hr : tySt.rd w cs a) : Gives Tryz.prog 22 #[.agg cs.toArray, .int .i64 r] w (.string (bs (partB a r))) := by
  have c1 := fun w1 hb => nodesPart_i a cs hfit.now hfit.nodes hfit.node w1 (Ty.below _ hr hb)
  have c2 := fun l w1 hb => labelPart_i a cs l hfit w1 (Ty.below _ hr hb)
  have hbox := hfit.box
  have hbl := hfit.boxes
  have hpp := hfit.pairs
  obtain ⟨A1, n1, k1, A2, n2, k2, A3, n3, k3, A4, n4, k4, A5, n5, k5, A6, n6, k6, A7, n7, k7, rfl, g1, g7⟩ := St_form hr
  obtain ⟨_, _, _, _, _, _, _, _, _, _, _, _, _, _, _, _, _, _, ey, gc, _, _, _⟩ := Yd_form g1
  injection ey with e1 ey; injection ey with e2 ey; injection ey with e3 ey
  rw [← e1, ← e2, ← e3] at gc
  clear ey e1 e2 e3 g1 hr hfit
  obtain ⟨_, _, _, ec, gl, _, _⟩ := cfg_form gc
  injection ec with e1 ec
  rw [← e1] at gl
  clear ec e1 gc
  have hn7 : n7 = a.2.length := by obtain ⟨_, _, e, h, h'⟩ := sl_form g7; injection e
  have hn1 : n1 = a.1.1.1.length := by obtain ⟨_, _, e, h, h'⟩ := sl_form gl; injection e
  have c3 := fun w1 hb => labels_i (.slice A1 n1 k1) A2 A3 n2 k2 n3 k3 a.1.1.2.2.2 a.1.1.1 hcl w1 (Ty.below _ gl hb)
  have hrr : r < 1 + (labelsOf a.1.1.1).length + a.1.1.2.1.length := hr9
  have HG7 := Lib.hid g7
  have HN7 := Lib.hid hn7
  have HB := Lib.hid hbox
  obtain ⟨z, hz⟩ : ∃ z, z = bs (partB a r) := ⟨_, rfl⟩
  have HZ : Hid (z = bs (if r = 0 then sysB a.1
    else if r ≤ (labelsOf a.1.1.1).length then (match (labelsOf a.1.1.1)[r - 1]? with
      | some l => labB a l
      | none => [])
    else match a.2[r - 1 - (labelsOf a.1.1.1).length]? with
      | some b => numsB b.1
      | none => [])) := Lib.hid hz
  rw [← hz]
  have hpl : a.1.1.2.1.length = n7 := by omega
  have hn74 : n7 ≤ 4 := by omega
  rw [hpl] at hrr
  clear hz hcl g7 gl hn7 hn1 hbox hbl hpl hr9 hpp
  generalize a.1.1.2.2.2 = hf at *
  generalize a.1.2.2.2.2 = now at *
  generalize hls : labelsOf a.1.1.1 = ls at *
  clear hls
  replace c1 : ∀ w1, Below w.heap.size w w1 → Gives Tryz.prog 49 #[.agg #[.slice A1 n1 k1, .slice A2 n2 k2, .slice A3 n3 k3, .int .i64 hf, .slice A4 n4 k4, .slice A5 n5 k5, .slice A6 n6 k6, .int .i64 now, .slice A7 n7 k7]] w1 (.string (bs (sysB a.1))) := c1
  replace c2 : ∀ (l : Lab) w1, Below w.heap.size w w1 → Gives Tryz.prog 50 #[.agg #[.slice A1 n1 k1, .slice A2 n2 k2, .slice A3 n3 k3, .int .i64 hf, .slice A4 n4 k4, .slice A5 n5 k5, .slice A6 n6 k6, .int .i64 now, .slice A7 n7 k7], .agg #[.int .i64 l.1, .int .i64 l.2]] w1 (.string (bs (labB a l))) := c2
  have H := Hs.start noRow w
  unfold Gives
  show Calls _ _ #[.agg #[.slice A1 n1 k1, .slice A2 n2 k2, .slice A3 n3 k3, .int .i64 hf, .slice A4 n4 k4, .slice A5 n5 k5, .slice A6 n6 k6, .int .i64 now, .slice A7 n7 k7], .int .i64 r] _ _
  go_enter Tryz.func22, Tryz.ntmps22
  go_wp2_with (first | ((((with_reducible apply st_loads H); decide +kernel; rfl; exact iF; exact zF; rfl)); clear H; intro wn H; (try simp only [splice, yG, yH, yI, yJ, yK, yL, yM, yN, yO, yP, yQ, Nat.reduceAdd, yA, yB, yC] at H); simp only [Act.put, yA, yB, yC, yD, yE, yF]) | ((((with_reducible apply st_box (dst := some 2) H); exact nF; intro b2)); clear H; intro wn H; simp only [Act.put, yA, yB, yC, yD, yE, yF]))
  refine (Rets.use (c3 _ H.below)).mono ?_; rintro e wn ⟨_, _, rfl, ⟨N, hN, rfl, hone⟩, hkk⟩; have Hn := H.moreK (by intro k hk; first | exact absurd hk List.not_mem_nil | (obtain rfl := List.mem_singleton.1 hk; exact In.mem iF)) hkk; clear hkk; clear H; have H := Hn; clear Hn; (try simp only [yT, yV] at H)
  have hN2 := own_single hN hone rfl
  clear hN hone c3
  obtain ⟨xs, M, B, cb, rfl, hO, _, Hn⟩ := own_open hN2 H
  clear H hN2
  have H : Hs noRow w (Hl.row 66 2 (.slice B ls.length cb) ls.length xs :: Hl.all M :: _) _ := Hn
  clear Hn
  have HOO := Lib.hid hO
  clear hO
  obtain ⟨kl, hkl⟩ : ∃ k, k = ls.length := ⟨_, rfl⟩
  rw [← hkl] at HZ hrr h8
  simp only [← hkl] at H ⊢
  have HKL := Lib.hid hkl
  clear hkl
  rcases Nat.eq_zero_or_pos r with rfl | hpos
  · have HE : Hid (z = bs (sysB a.1)) := Lib.hid (by rw [HZ.out, if_pos rfl])
    clear HZ c2
    go_wp2_with (first | ((((with_reducible apply st_loads H); decide +kernel; rfl; exact iF; exact zF; rfl)); clear H; intro wn H; (try simp only [splice, yG, yH, yI, yJ, yK, yL, yM, yN, yO, yP, yQ, Nat.reduceAdd, yA, yB, yC] at H); simp only [Act.put, yA, yB, yC, yD, yE, yF]) | (((go_at_call 49; refine gvF (c1 _ H.below) H ?_)); clear H; intro wn H))
    go_ret
    exact ⟨by rw [HE.out] <;> rfl, H.below⟩
  obtain ⟨p, rfl⟩ : ∃ p, r = p + 1 := ⟨r - 1, by omega⟩
  have hr0 : (((p + 1 : Nat) : Int) == 0) = false := beq_eq_false_iff_ne.2 (by omega)
  have hr1 : (((p : Int) + 1) == 0) = false := beq_eq_false_iff_ne.2 (by omega)
  have hr2 : ¬ (p : Int) + 1 = 0 := by omega
  by_cases hle : p + 1 ≤ kl
  · have hle1 : (p : Int) + 1 ≤ kl := by omega
    have hpl : p < kl := by omega
    have hpl1 : (p : Int) < kl := by omega
    have hpl2 : (p : Int) + 1 - 1 < kl := by omega
    obtain ⟨x, hx⟩ : ∃ x, ls[p]? = some x := ⟨ls[p]'(by rw [← HKL.out]; exact hpl), List.getElem?_eq_getElem (by rw [← HKL.out]; exact hpl)⟩
    have HE : Hid (z = bs (labB a x)) := Lib.hid (by rw [HZ.out, if_neg (by omega), if_pos hle, show p + 1 - 1 = p from rfl, hx])
    obtain ⟨y1, cs, y2, M1, Mi, M2, hxs, _, hyl, _, hcs, _⟩ := HOO.out.at_ hx
    obtain rfl : cs = encLab x := hcs.1
    obtain ⟨x1, x2⟩ := x
    have c2' := fun w1 hb => c2 (x1, x2) w1 hb
    have hseg : Seg xs (p * 2) [.int .i64 x1, .int .i64 x2] := by rw [hxs]; exact seg_mid y1 (encLab (x1, x2)) y2 hyl
    have hbb : ∃ gl, B = some ⟨gl, 0, none⟩ := by
      obtain ⟨gl, cl, e, _⟩ := (H.rows .here).form (by omega)
      injection e with e1
      exact ⟨gl, e1⟩
    obtain ⟨gl, rfl⟩ := hbb
    simp only at c2'
    obtain ⟨q, hq⟩ : ∃ q, q = bs (labB a (x1, x2)) := ⟨_, rfl⟩
    have HQ9 := Lib.hid hq
    rw [← hq] at c2'
    clear hx hxs hyl hcs c2 c1 HZ hq
    go_upto_region 5 with (first | ((first | ((with_reducible apply st_load1 H); decide +kernel; rfl; exact cF) | ((with_reducible apply st_loads H); decide +kernel; rfl; exact iF; exact zF; rfl)); clear H; intro wn H; (try simp only [splice, yG, yH, yI, yJ, yK, yL, yM, yN, yO, yP, yQ, Nat.reduceAdd, yA, yB, yC] at H); simp only [Act.put, yA, yB, yC, yD, yE, yF]) | ((first | ((with_reducible apply st_box (dst := some 2) H); exact nF; intro b2) | ((with_reducible apply st_strsum H); rfl; rfl; exact szF; kernel_rfl) | ((with_reducible apply st_loadat H); decide +kernel; rfl; exact aF; exact zF; rfl)); clear H; intro wn H; simp only [Act.put, yA, yB, yC, yD, yE, yF]) | ((first | (go_at_call 49; refine gvF (c1 _ H.below) H ?_) | (go_at_call 51; refine gvF (c5 _) H ?_) | (go_at_call 52; refine gvF (c6 _ H.below) H ?_)); clear H; intro wn H) | fail)
    have Hq := H.sel (M := [Hl.row 66 2 (.slice (some ⟨gl, 0, none⟩) kl cb) kl xs, Hl.blk b2 53 #[.slice A1 n1 k1, .slice A2 n2 k2, .slice A3 n3 k3, .int .i64 hf, .slice A4 n4 k4, .slice A5 n5 k5, .slice A6 n6 k6, .int .i64 now, .slice A7 n7 k7]]) sF
    clear H
    have H := Hq
    clear Hq
    apply wp_region_hq H (by kernel_rfl) (by kernel_rfl); (iterate 3 ((with_reducible refine' hq_step ?_ ?_ ?_); rotate_left; (focus rfl); (focus (intro w1 H1; exact qLF)); simp only [Act.put, yA, yB, yC, yD, yE, yF]; (try simp only [yG, yH, yJ, yK]))); (with_reducible refine' hq_step ?_ ?_ ?_); rotate_left; (focus rfl); (focus (intro w1 H1; exact qWF)); simp only [Act.put, yA, yB, yC, yD, yE, yF]; (iterate 1 ((with_reducible refine' hq_step ?_ ?_ ?_); rotate_left; (focus rfl); (focus (intro w1 H1; exact qLF)); simp only [Act.put, yA, yB, yC, yD, yE, yF]; (try simp only [yG, yH, yJ, yK]))); (with_reducible refine' hq_step ?_ ?_ ?_); rotate_left; (focus rfl); (focus (intro w1 H1; exact qRF)); simp only [Act.put, yA, yB, yC, yD, yE, yF]; (with_reducible refine' hq_step ?_ ?_ ?_); rotate_left; (focus rfl); (focus (intro w1 H1; unfold QOk; go_simp; exact q_call (c2' _ @H1.below))); simp only [Act.put, yA, yB, yC, yD, yE, yF]; (iterate 1 ((with_reducible refine' hq_step ?_ ?_ ?_); rotate_left; (focus rfl); (focus (intro w1 H1; exact qLF)); simp only [Act.put, yA, yB, yC, yD, yE, yF]; (try simp only [yG, yH, yJ, yK]))); refine wpQuiet_nil ?_; clear H; intro wn H
    go_wp2_with (fail)
    go_ret
    exact ⟨by rw [HE.out, HQ9.out] <;> rfl, H.below⟩
  · have hle1 : ¬ (p : Int) + 1 ≤ kl := by omega
    obtain ⟨d, rfl⟩ : ∃ d, p = kl + d := ⟨p - kl, by omega⟩
    have hd : d < n7 := by omega
    have hd1 : (d : Int) < n7 := by omega
    obtain ⟨x, hx⟩ : ∃ x, a.2[d]? = some x := ⟨a.2[d]'(by rw [← HN7.out]; exact hd), List.getElem?_eq_getElem (by rw [← HN7.out]; exact hd)⟩
    have HE : Hid (z = bs (numsB x.1)) := Lib.hid (by rw [HZ.out, if_neg (by omega), if_neg hle, show kl + d + 1 - 1 - kl = d by omega, hx])
    have hs := sl_at HG7.out hx
    rw [← HN7.out] at hs
    obtain ⟨b, bff, c', cs, hv, hcs, hA⟩ := hs
    injection hv with hv1 hv2 hv3
    subst hv1 hv3
    clear hv2
    obtain ⟨⟨xb1, _, _⟩, xl, _, _⟩ := HB.out x (List.mem_of_getElem? hx)
    obtain ⟨u1, u2, u3, rfl, f1, f2, f3⟩ := bo_form hcs
    have c6 := fun w1 hb => putNums_i _ x.1 (by omega) xb1 w1 (Ty.below _ f1 hb)
    obtain ⟨F1, m1, rfl, _, _⟩ := sl_form f1
    obtain ⟨F2, m2, rfl, _, _⟩ := sl_form f2
    obtain ⟨F3, m3, rfl, _, _⟩ := sl_form f3
    have h0 : w.cell? ⟨b, bff + d * 3, none⟩ = some (.slice F1 x.1.length m1) := hA.head rfl
    obtain ⟨q, hq⟩ : ∃ q, q = bs (cat putNum x.1) := ⟨_, rfl⟩
    replace c6 : ∀ w1, Below w.heap.size w w1 → Gives Tryz.prog 52 #[.slice F1 x.1.length m1] w1 (.string q) := fun w1 hb => by rw [hq]; exact c6 w1 hb
    obtain ⟨nh, hnh⟩ : ∃ k, k = x.1.length := ⟨_, rfl⟩
    rw [← hnh] at h0 c6
    obtain ⟨q2, hq2⟩ : ∃ q, q = bs (putNum (nh : Int)) := ⟨_, rfl⟩
    have c5 : ∀ w1, Gives Tryz.prog 51 #[.int .i64 nh] w1 (.string q2) := fun w1 => by rw [hq2]; exact putNum_i nh ⟨by omega, by omega⟩ w1
    have s1 : q.size ≤ 33 := by
      rw [hq, zsize_bs]
      have := cat_len (f := putNum) (b := 11) (l := x.1) fun n _ => (putNum_length n).2
      omega
    have s2 : q2.size ≤ 11 := by rw [hq2, zsize_bs]; exact (putNum_length _).2
    have HE2 : Hid (z = q2 ++ q) := Lib.hid (by rw [HE.out, hq2, hq, hnh, bs_append]; rfl)
    have he1 : (kl : Int) + d - kl = d := by omega
    clear hx hcs hA f1 f2 f3 HZ HE hq hq2 hnh xb1 xl c1 c2
    go_wp2_with (first | ((with_reducible apply st_v H); rfl; (focus (unfold OpOk; go_simp; rw [wrap_id (by omega) (by omega)]; (try rw [he1]); exact now_v)); clear H; intro wn H; simp only [Act.put, yA, yB, yC, yD, yE, yF]) | ((((with_reducible apply st_load1 H); decide +kernel; rfl; exact cF)); clear H; intro wn H; (try simp only [splice, yG, yH, yI, yJ, yK, yL, yM, yN, yO, yP, yQ, Nat.reduceAdd, yA, yB, yC] at H); simp only [Act.put, yA, yB, yC, yD, yE, yF]) | ((first | (go_at_call 51; refine gvF (c5 _) H ?_) | (go_at_call 52; refine gvF (c6 _ H.below) H ?_)); clear H; intro wn H))
    go_ret
    exact ⟨by rw [HE2.out] <;> rfl, H.below⟩
end Go.Proofs.YtpfdhfchgnnpiaaGreat
namespace Go.Proofs.YtpfdhfchgnnpiaaGreat
open Go.RowKit M
namespace M
theorem uses_bds {l : List Us} (h : usesOk l = true) : l.length ≤ 48 ∧ ∀ x ∈ l, x.2.1.size ≤ 20 ∧ bd x.2.2 := by
  unfold usesOk at h
  rw [Bool.and_eq_true, allFrom_iff l.length 0 (by omega), decide_eq_true_eq] at h
  refine ⟨h.2, fun x hx => ?_⟩
  obtain ⟨i, hi, rfl⟩ := List.getElem_of_mem hx
  have h1 := h.1 i (by omega) hi
  unfold useIn at h1
  rw [List.getElem?_eq_getElem hi] at h1
  simp only [Bool.and_eq_true] at h1
  have h2 := h1.1
  unfold useForm nameOk isIn at h2
  simp only [Bool.and_eq_true, decide_eq_true_eq] at h2
  obtain ⟨_, ⟨⟨⟨_, a⟩, _⟩, _⟩, b, c⟩ := h2
  exact ⟨by simpa using a, ⟨by omega, by omega⟩⟩
theorem state_fit {s : St} (h : stateOk s = true) (hb : ∀ b ∈ s.2, (∀ n ∈ b.1, bd n) ∧ (∀ n ∈ b.2.1, bd n) ∧ ∀ x ∈ b.2.2, bd x.1 ∧ bd x.2) : Fit s := by
  unfold stateOk yardOk at h
  simp only [Bool.and_eq_true] at h
  obtain ⟨⟨hc, hl, hn, ht, hu, hw, _⟩, hm, _⟩ := h
  have hu2 := uses_bds hu
  have hm0 := hm
  unfold mailOk at hm
  simp only [Bool.and_eq_true, decide_eq_true_eq] at hm
  obtain ⟨_, hml, hma⟩ := hm
  rw [allFrom_iff s.2.length 0 (by omega)] at hma
  unfold cfgOk at hc
  simp only [Bool.and_eq_true, decide_eq_true_eq] at hc
  obtain ⟨_, _, _, hp, _⟩ := hc
  unfold pairsOk at hp
  rw [Bool.and_eq_true, allFrom_iff s.1.1.2.1.length 0 (by omega), decide_eq_true_eq] at hp
  unfold nodesOk at hn
  simp only [Bool.and_eq_true, decide_eq_true_eq] at hn
  unfold isIn at hw
  simp only [Bool.and_eq_true, decide_eq_true_eq] at hw
  have ht2 := ht
  unfold tasksOk at ht2
  simp only [Bool.and_eq_true, decide_eq_true_eq] at ht2
  refine ⟨⟨by omega, by omega⟩, hn.2.1, fun x hx => List.all_eq_true.1 hn.2.2 x hx, fun x hx => ?_, ht2.1, hu2.2, hu2.1, hp.2, hml, fun b hbm => ?_⟩
  · obtain ⟨i, hi, rfl⟩ := List.getElem_of_mem hx
    exact tasks_all ht i _ (List.getElem?_eq_getElem hi)
  · obtain ⟨i, hi, rfl⟩ := List.getElem_of_mem hbm
    refine ⟨hb _ hbm, ?_⟩
    have h1 := hma i (by omega) hi
    have hip : i < s.1.1.2.1.length := by omega
    have h2 := hp.1 i (by omega) hip
    unfold boxIn at h1
    unfold pairIn at h2
    rw [List.getElem?_eq_getElem hi, List.getElem?_eq_getElem hip] at h1
    rw [List.getElem?_eq_getElem hip] at h2
    unfold boxOk notesOk at h1
    unfold isIn at h2
    simp only [Bool.and_eq_true, decide_eq_true_eq] at h1 h2
    obtain ⟨r1, r2, _, r3⟩ := h1
    have r4 := h2.2.2.2.2.2
    exact ⟨by omega, by omega, r3⟩
end M
end Go.Proofs.YtpfdhfchgnnpiaaGreat
namespace Go.Proofs.YtpfdhfchgnnpiaaGreat
open Go.RowKit M
namespace M
def partOfB (a : St) (r : Int) : Bs := if stateOk a && (decide (0 ≤ r) && decide (r ≤ (regsOf a.1.1 : Int) - 1)) then partB a r.toNat else []
end M
set_option maxRecDepth 100000 in
set_option maxHeartbeats 8000000 in
theorem PartOf_i (a : St) (cs : List Value) (r : Int) (hb1 : bd r) (hok : okSt a) (hbd : ∀ b ∈ a.2, bdBo b) (w : World) (hr : tySt.rd w cs a) : Gives Tryz.prog 7 #[.agg cs.toArray, .int .i64 r] w (.string (bs (partOfB a r))) := by
  have c1 := fun w1 hb => stateRight_i a cs hok w1 (Ty.below _ hr hb)
  have c4 := fun (hs : stateOk a = true) (h0 : r.toNat < regsOf a.1.1) w1 hb => partOf_i a cs r.toNat (state_fit hs hbd) (cfg_labs (state_cfg hs)).1 (cfg_labs (state_cfg hs)).2 h0 w1 (Ty.below _ hr hb)
  obtain ⟨A1, n1, k1, A2, n2, k2, A3, n3, k3, A4, n4, k4, A5, n5, k5, A6, n6, k6, A7, n7, k7, rfl, g1, g7⟩ := St_form hr
  obtain ⟨_, _, _, _, _, _, _, _, _, _, _, _, _, _, _, _, _, _, ey, gc, _, _, _⟩ := Yd_form g1
  injection ey with e1 ey; injection ey with e2 ey; injection ey with e3 ey
  rw [← e1, ← e2, ← e3] at gc
  clear ey e1 e2 e3
  have c2 := fun (hs : stateOk a = true) w1 hb => regs_i a.1.1 _ (state_cfg hs) w1 (Ty.below _ gc hb)
  have hrg : stateOk a = true → regsOf a.1.1 ≤ 13 := fun hs => by
    have h1 := (cfg_labs (state_cfg hs)).2
    have h2 := (cfg_fits (state_cfg hs)).2.2.2
    unfold regsOf
    omega
  obtain ⟨z, hz⟩ : ∃ z, z = bs (partOfB a r) := ⟨_, rfl⟩
  rw [← hz]
  unfold partOfB at hz
  obtain ⟨z1, hz1⟩ : ∃ b, b = stateOk a := ⟨_, rfl⟩
  rw [← hz1] at c1 c2 c4 hz hrg
  generalize hrgn : regsOf a.1.1 = rg at *
  have c3 := fun w1 => within_i r 0 ((rg : Int) - 1) w1
  generalize hpb : partB a r.toNat = pb at *
  clear hr g1 g7 gc hz1 hok hbd hrgn hpb
  generalize a.1.1.2.2.2 = hf at *
  generalize a.1.2.2.2.2 = now at *
  replace c1 : ∀ w1, Below w.heap.size w w1 → Gives Tryz.prog 19 #[.agg #[.slice A1 n1 k1, .slice A2 n2 k2, .slice A3 n3 k3, .int .i64 hf, .slice A4 n4 k4, .slice A5 n5 k5, .slice A6 n6 k6, .int .i64 now, .slice A7 n7 k7]] w1 (.bool z1) := c1
  replace c2 : z1 = true → ∀ w1, Below w.heap.size w w1 → Gives Tryz.prog 21 #[.agg #[.slice A1 n1 k1, .slice A2 n2 k2, .slice A3 n3 k3, .int .i64 hf]] w1 (.int .i64 rg) := c2
  have H := Hs.start noRow w
  unfold Gives
  show Calls _ _ #[.agg #[.slice A1 n1 k1, .slice A2 n2 k2, .slice A3 n3 k3, .int .i64 hf, .slice A4 n4 k4, .slice A5 n5 k5, .slice A6 n6 k6, .int .i64 now, .slice A7 n7 k7], .int .i64 r] _ _
  cases z1
  case false =>
    have HZ9 : Hid (z = bs []) := Lib.hid (by rw [hz]; rfl)
    clear hz c2 c4 hrg
    go_enter Tryz.func7, Tryz.ntmps7
    go_wp2_with (first | ((((with_reducible apply st_loads H); decide +kernel; rfl; exact iF; exact zF; rfl)); clear H; intro wn H; (try simp only [splice, yG, yH, yI, yJ, yK, yL, yM, yN, yO, yP, yQ, Nat.reduceAdd, yA, yB, yC] at H); simp only [Act.put, yA, yB, yC, yD, yE, yF]) | ((((with_reducible apply st_box (dst := some 2) H); exact nF; intro b2)); clear H; intro wn H; simp only [Act.put, yA, yB, yC, yD, yE, yF]) | (((go_at_call 19; refine gvF (c1 _ H.below) H ?_)); clear H; intro wn H))
    go_ret
    exact ⟨by rw [HZ9.out]; rfl, H.below⟩
  have c2' := c2 rfl
  have hrg' := hrg rfl
  rw [Bool.true_and] at hz
  have hin : (decide (0 ≤ r) && decide (r ≤ (rg : Int) - 1)) = true → r.toNat < rg ∧ (r.toNat : Int) = r := fun h => by
    simp only [Bool.and_eq_true, decide_eq_true_eq] at h
    omega
  obtain ⟨z2, hz2⟩ : ∃ b, b = (decide (0 ≤ r) && decide (r ≤ (rg : Int) - 1)) := ⟨_, rfl⟩
  rw [← hz2] at c3 hz hin
  clear hz2 c2 hrg
  cases z2
  case false =>
    have HZ9 : Hid (z = bs []) := Lib.hid (by rw [hz]; rfl)
    clear hz c4 hin
    go_enter Tryz.func7, Tryz.ntmps7
    go_wp2_with (first | ((((with_reducible refine st_gwF ?_ ?_); rfl)); (try simp only [Act.put, yA, yB, yC, yD, yE, yF])) | ((((with_reducible apply st_loads H); decide +kernel; rfl; exact iF; exact zF; rfl)); clear H; intro wn H; (try simp only [splice, yG, yH, yI, yJ, yK, yL, yM, yN, yO, yP, yQ, Nat.reduceAdd, yA, yB, yC] at H); simp only [Act.put, yA, yB, yC, yD, yE, yF]) | ((((with_reducible apply st_box (dst := some 2) H); exact nF; intro b2)); clear H; intro wn H; simp only [Act.put, yA, yB, yC, yD, yE, yF]) | ((first | (go_at_call 19; refine gvF (c1 _ H.below) H ?_) | (go_at_call 21; refine gvF (c2' _ H.below) H ?_) | (go_at_call 20; refine gvF (c3 _) H ?_)); clear H; intro wn H))
    go_ret
    exact ⟨by rw [HZ9.out]; rfl, H.below⟩
  obtain ⟨hi1, hi2⟩ := hin rfl
  have c4' := c4 rfl hi1
  rw [hi2] at c4'
  replace c4' : ∀ w1, Below w.heap.size w w1 → Gives Tryz.prog 22 #[.agg #[.slice A1 n1 k1, .slice A2 n2 k2, .slice A3 n3 k3, .int .i64 hf, .slice A4 n4 k4, .slice A5 n5 k5, .slice A6 n6 k6, .int .i64 now, .slice A7 n7 k7], .int .i64 r] w1 (.string (bs pb)) := c4'
  have HZ9 : Hid (z = bs pb) := Lib.hid (by rw [hz, if_pos rfl])
  generalize bs pb = q at *
  clear hz hin hi1 hi2 c4
  go_enter Tryz.func7, Tryz.ntmps7
  go_wp2_with (first | ((((with_reducible refine st_gwF ?_ ?_); rfl)); (try simp only [Act.put, yA, yB, yC, yD, yE, yF])) | ((((with_reducible apply st_loads H); decide +kernel; rfl; exact iF; exact zF; rfl)); clear H; intro wn H; (try simp only [splice, yG, yH, yI, yJ, yK, yL, yM, yN, yO, yP, yQ, Nat.reduceAdd, yA, yB, yC] at H); simp only [Act.put, yA, yB, yC, yD, yE, yF]) | ((((with_reducible apply st_box (dst := some 2) H); exact nF; intro b2)); clear H; intro wn H; simp only [Act.put, yA, yB, yC, yD, yE, yF]) | ((first | (go_at_call 19; refine gvF (c1 _ H.below) H ?_) | (go_at_call 21; refine gvF (c2' _ H.below) H ?_) | (go_at_call 20; refine gvF (c3 _) H ?_) | (go_at_call 22; refine gvF (c4' _ H.below) H ?_)); clear H; intro wn H))
  go_ret
  exact ⟨by rw [HZ9.out] <;> rfl, H.below⟩
set_option maxRecDepth 100000 in
set_option maxHeartbeats 8000000 in
theorem PartOf_s (a : St) (cs : List Value) (r : Int) (hb1 : bd r) (hok : okSt a) (hbd : ∀ b ∈ a.2, bdBo b) (w : World) (hr : tySt.rd w cs a) : Gives Tryz.prog 5 #[.agg cs.toArray, .int .i64 r] w (.string (bs (partOfB a r))) := by
  have c1 := fun w1 hb => stateRight_s a cs hok w1 (Ty.below _ hr hb)
  by_cases hs0 : stateOk a = false
  · have e : partOfB a r = [] := by unfold partOfB; rw [hs0]; rfl
    rw [e]
    rw [hs0] at c1
    obtain ⟨A1, n1, k1, A2, n2, k2, A3, n3, k3, A4, n4, k4, A5, n5, k5, A6, n6, k6, A7, n7, k7, rfl, g1, g7⟩ := St_form hr
    obtain ⟨_, _, _, _, _, _, _, _, _, _, _, _, _, _, _, _, _, _, ey, gc, _, _, _⟩ := Yd_form g1
    injection ey with e1 ey; injection ey with e2 ey; injection ey with e3 ey
    rw [← e1, ← e2, ← e3] at gc
    clear ey e1 e2 e3
    clear hr g1 g7 gc hs0 e hok hbd
    generalize a.1.1.2.2.2 = hf at *
    generalize a.1.2.2.2.2 = now at *
    replace c1 : ∀ w1, Below w.heap.size w w1 → Gives Tryz.prog 11 #[.agg #[.slice A1 n1 k1, .slice A2 n2 k2, .slice A3 n3 k3, .int .i64 hf, .slice A4 n4 k4, .slice A5 n5 k5, .slice A6 n6 k6, .int .i64 now, .slice A7 n7 k7]] w1 (.bool false) := c1
    have H := Hs.start noRow w
    unfold Gives
    show Calls _ _ #[.agg #[.slice A1 n1 k1, .slice A2 n2 k2, .slice A3 n3 k3, .int .i64 hf, .slice A4 n4 k4, .slice A5 n5 k5, .slice A6 n6 k6, .int .i64 now, .slice A7 n7 k7], .int .i64 r] _ _
    go_enter Tryz.func5, Tryz.ntmps5
    go_wp2_with (first | ((((with_reducible apply st_loads H); decide +kernel; rfl; exact iF; exact zF; rfl)); clear H; intro wn H; (try simp only [splice, yG, yH, yI, yJ, yK, yL, yM, yN, yO, yP, yQ, Nat.reduceAdd, yA, yB, yC] at H); simp only [Act.put, yA, yB, yC, yD, yE, yF]) | ((((with_reducible apply st_box (dst := some 2) H); exact nF; intro b2)); clear H; intro wn H; simp only [Act.put, yA, yB, yC, yD, yE, yF]) | (((go_at_call 11; refine gvF (c1 _ H.below) H ?_)); clear H; intro wn H))
    go_ret
    exact ⟨rfl, H.below⟩
  have hs : stateOk a = true := by simpa using hs0
  rw [hs] at c1
  have hfit := state_fit hs hbd
  have hcf := state_cfg hs
  have hcl := (cfg_labs hcf).1
  have h8 := (cfg_labs hcf).2
  have hpp := (cfg_fits hcf).2.2.2
  have hbox := hfit.box
  have hbl := hfit.boxes
  have c6 := fun l w1 hb => part18_s a cs l hfit w1 (Ty.below _ hr hb)
  obtain ⟨A1, n1, k1, A2, n2, k2, A3, n3, k3, A4, n4, k4, A5, n5, k5, A6, n6, k6, A7, n7, k7, rfl, g1, g7⟩ := St_form hr
  obtain ⟨_, _, _, _, _, _, _, _, _, _, _, _, _, _, _, _, _, _, ey, gc, _, _, _⟩ := Yd_form g1
  injection ey with e1 ey; injection ey with e2 ey; injection ey with e3 ey
  rw [← e1, ← e2, ← e3] at gc
  clear ey e1 e2 e3
  have c2 := fun w1 hb => regs_s a.1.1 _ hcf w1 (Ty.below _ gc hb)
  have c5 := fun w1 hb => system_s a.1 _ hfit.now hfit.nodes hfit.node w1 (Ty.below _ g1 hb)
  obtain ⟨_, _, _, ec, gl, _, _⟩ := cfg_form gc
  injection ec with e1 ec
  rw [← e1] at gl
  clear ec e1
  have c3 := fun w1 hb => labels_s (.slice A1 n1 k1) a.1.1.1 w1 (Ty.below _ gl hb)
  have hn7 : n7 = a.2.length := by obtain ⟨_, _, e, h, h'⟩ := sl_form g7; injection e
  have HG7 := Lib.hid g7
  have HN7 := Lib.hid hn7
  have HB := Lib.hid hbox
  obtain ⟨z, hz⟩ : ∃ z, z = bs (partOfB a r) := ⟨_, rfl⟩
  have HZ : Hid (z = bs (if decide (0 ≤ r) && decide (r ≤ (regsOf a.1.1 : Int) - 1) then (if r.toNat = 0 then sysB a.1
    else if r.toNat ≤ (labelsOf a.1.1.1).length then (match (labelsOf a.1.1.1)[r.toNat - 1]? with
      | some l => labB a l
      | none => [])
    else match a.2[r.toNat - 1 - (labelsOf a.1.1.1).length]? with
      | some b => numsB b.1
      | none => []) else [])) := Lib.hid (by rw [hz]; unfold partOfB; rw [hs]; rfl)
  rw [← hz]
  have hrg : regsOf a.1.1 = 1 + (labelsOf a.1.1.1).length + n7 := by unfold regsOf; omega
  have hn74 : n7 ≤ 4 := by omega
  rw [hrg] at HZ c2
  clear hz hcl hn7 hbox hbl hpp hrg hs hs0 hfit hcf gl gc g1 g7 hr hok hbd
  generalize a.1.1.2.2.2 = hf at *
  generalize a.1.2.2.2.2 = now at *
  generalize hls : labelsOf a.1.1.1 = ls at *
  clear hls
  replace c1 : ∀ w1, Below w.heap.size w w1 → Gives Tryz.prog 11 #[.agg #[.slice A1 n1 k1, .slice A2 n2 k2, .slice A3 n3 k3, .int .i64 hf, .slice A4 n4 k4, .slice A5 n5 k5, .slice A6 n6 k6, .int .i64 now, .slice A7 n7 k7]] w1 (.bool true) := c1
  replace c5 : ∀ w1, Below w.heap.size w w1 → Gives Tryz.prog 14 #[.agg #[.slice A1 n1 k1, .slice A2 n2 k2, .slice A3 n3 k3, .int .i64 hf, .slice A4 n4 k4, .slice A5 n5 k5, .slice A6 n6 k6, .int .i64 now]] w1 (.string (bs (sysB a.1))) := c5
  replace c6 : ∀ (l : Lab) w1, Below w.heap.size w w1 → Gives Tryz.prog 15 #[.agg #[.slice A1 n1 k1, .slice A2 n2 k2, .slice A3 n3 k3, .int .i64 hf, .slice A4 n4 k4, .slice A5 n5 k5, .slice A6 n6 k6, .int .i64 now, .slice A7 n7 k7], .agg #[.int .i64 l.1, .int .i64 l.2]] w1 (.string (bs (labB a l))) := c6
  replace c2 : ∀ w1, Below w.heap.size w w1 → Gives Tryz.prog 13 #[.agg #[.slice A1 n1 k1, .slice A2 n2 k2, .slice A3 n3 k3, .int .i64 hf]] w1 (.int .i64 ((1 + ls.length + n7 : Nat) : Int)) := c2
  have H := Hs.start noRow w
  unfold Gives
  show Calls _ _ #[.agg #[.slice A1 n1 k1, .slice A2 n2 k2, .slice A3 n3 k3, .int .i64 hf, .slice A4 n4 k4, .slice A5 n5 k5, .slice A6 n6 k6, .int .i64 now, .slice A7 n7 k7], .int .i64 r] _ _
  go_enter Tryz.func5, Tryz.ntmps5
  go_wp2_with (first | ((first | ((with_reducible apply st_load1 H); decide +kernel; rfl; exact cF) | ((with_reducible apply st_loads H); decide +kernel; rfl; exact iF; exact zF; rfl)); clear H; intro wn H; (try simp only [splice, yG, yH, yI, yJ, yK, yL, yM, yN, yO, yP, yQ, Nat.reduceAdd, yA, yB, yC] at H); simp only [Act.put, yA, yB, yC, yD, yE, yF]) | ((((with_reducible apply st_box (dst := some 2) H); exact nF; intro b2)); clear H; intro wn H; simp only [Act.put, yA, yB, yC, yD, yE, yF]) | (((go_at_call 11; refine gvF (c1 _ H.below) H ?_)); clear H; intro wn H))
  refine (Rets.use (c3 _ H.below)).mono ?_; rintro e wn ⟨_, _, rfl, ⟨N, hN, rfl, hone⟩, hkk⟩; have Hn := H.moreK (by intro k hk; first | exact absurd hk List.not_mem_nil | (obtain rfl := List.mem_singleton.1 hk; exact In.mem iF)) hkk; clear hkk; clear H; have H := Hn; clear Hn; (try simp only [yT, yV] at H)
  have hN2 := own_single hN hone rfl
  clear hN hone c3 c1
  obtain ⟨xs, M, B, cb, rfl, hO, _, Hn⟩ := own_open hN2 H
  clear H hN2
  have H : Hs noRow w (Hl.row 66 2 (.slice B ls.length cb) ls.length xs :: Hl.all M :: _) _ := Hn
  clear Hn
  have HOO := Lib.hid hO
  clear hO
  obtain ⟨kl, hkl⟩ : ∃ k, k = ls.length := ⟨_, rfl⟩
  rw [← hkl] at HZ h8 c2
  simp only [← hkl] at H ⊢
  have HKL := Lib.hid hkl
  clear hkl
  generalize hrg : 1 + kl + n7 = rg at *
  have hrg9 : rg ≤ 13 := by omega
  by_cases h0 : r < 0
  · have HE : Hid (z = bs []) := Lib.hid (by rw [HZ.out, if_neg (by simp; omega)])
    clear HZ c5 c6 c2
    go_wp2_with (fail)
    go_ret
    exact ⟨by rw [HE.out]; rfl, H.below⟩
  obtain ⟨ρ, rfl⟩ : ∃ m : Nat, r = (m : Int) := ⟨r.toNat, by omega⟩
  have h00 : ¬ (ρ : Int) < 0 := by omega
  have h01 : decide ((ρ : Int) < 0) = false := decide_eq_false h00
  clear h0
  by_cases hge : rg ≤ ρ
  · have HE : Hid (z = bs []) := Lib.hid (by rw [HZ.out, if_neg (by simp; omega)])
    have hge1 : (rg : Int) ≤ ρ := by omega
    clear HZ c5 c6
    go_wp2_with (first | ((((with_reducible refine st_gwF ?_ ?_); rfl)); (try simp only [Act.put, yA, yB, yC, yD, yE, yF])) | ((((with_reducible apply st_loads H); decide +kernel; rfl; exact iF; exact zF; rfl)); clear H; intro wn H; (try simp only [splice, yG, yH, yI, yJ, yK, yL, yM, yN, yO, yP, yQ, Nat.reduceAdd, yA, yB, yC] at H); simp only [Act.put, yA, yB, yC, yD, yE, yF]) | (((go_at_call 13; refine gvF (c2 _ H.below) H ?_)); clear H; intro wn H))
    go_ret
    exact ⟨by rw [HE.out]; rfl, H.below⟩
  have hge1 : ¬ (rg : Int) ≤ ρ := by omega
  have HZ2 : Hid (z = bs (if ρ = 0 then sysB a.1
    else if ρ ≤ kl then (match ls[ρ - 1]? with
      | some l => labB a l
      | none => [])
    else match a.2[ρ - 1 - kl]? with
      | some b => numsB b.1
      | none => [])) := Lib.hid (by rw [HZ.out, if_pos (by simp; omega), Int.toNat_natCast])
  clear HZ
  rcases Nat.eq_zero_or_pos ρ with rfl | hpos
  · have HE : Hid (z = bs (sysB a.1)) := Lib.hid (by rw [HZ2.out, if_pos rfl])
    clear HZ2 c6
    go_wp2_with (first | ((((with_reducible refine st_gwF ?_ ?_); rfl)); (try simp only [Act.put, yA, yB, yC, yD, yE, yF])) | ((((with_reducible apply st_loads H); decide +kernel; rfl; exact iF; exact zF; rfl)); clear H; intro wn H; (try simp only [splice, yG, yH, yI, yJ, yK, yL, yM, yN, yO, yP, yQ, Nat.reduceAdd, yA, yB, yC] at H); simp only [Act.put, yA, yB, yC, yD, yE, yF]) | ((first | (go_at_call 13; refine gvF (c2 _ H.below) H ?_) | (go_at_call 14; refine gvF (c5 _ H.below) H ?_)); clear H; intro wn H))
    go_ret
    exact ⟨by rw [HE.out] <;> rfl, H.below⟩
  obtain ⟨p, rfl⟩ : ∃ p, ρ = p + 1 := ⟨ρ - 1, by omega⟩
  have hr1 : (((p : Int) + 1) == 0) = false := beq_eq_false_iff_ne.2 (by omega)
  have hr2 : ¬ (p : Int) + 1 = 0 := by omega
  have hr3 : ¬ (p : Int) + 1 < 0 := by omega
  have hr4 : ¬ (rg : Int) ≤ (p : Int) + 1 := by omega
  by_cases hle : p + 1 ≤ kl
  · have hle1 : (p : Int) + 1 ≤ kl := by omega
    have hpl : p < kl := by omega
    have hpl1 : (p : Int) < kl := by omega
    have hpl2 : (p : Int) + 1 - 1 < kl := by omega
    obtain ⟨x, hx⟩ : ∃ x, ls[p]? = some x := ⟨ls[p]'(by rw [← HKL.out]; exact hpl), List.getElem?_eq_getElem (by rw [← HKL.out]; exact hpl)⟩
    have HE : Hid (z = bs (labB a x)) := Lib.hid (by rw [HZ2.out, if_neg (by omega), if_pos hle, show p + 1 - 1 = p from rfl, hx])
    obtain ⟨y1, cs, y2, M1, Mi, M2, hxs, _, hyl, _, hcs, _⟩ := HOO.out.at_ hx
    obtain rfl : cs = encLab x := hcs.1
    obtain ⟨x1, x2⟩ := x
    have c6' := fun w1 hb => c6 (x1, x2) w1 hb
    have hseg : Seg xs (p * 2) [.int .i64 x1, .int .i64 x2] := by rw [hxs]; exact seg_mid y1 (encLab (x1, x2)) y2 hyl
    have hbb : ∃ gl, B = some ⟨gl, 0, none⟩ := by
      obtain ⟨gl, cl, e, _⟩ := (H.rows .here).form (by omega)
      injection e with e1
      exact ⟨gl, e1⟩
    obtain ⟨gl, rfl⟩ := hbb
    simp only at c6'
    obtain ⟨q, hq⟩ : ∃ q, q = bs (labB a (x1, x2)) := ⟨_, rfl⟩
    have HQ9 := Lib.hid hq
    rw [← hq] at c6'
    clear hx hxs hyl hcs c6 c5 HZ2 hq
    go_upto_region 10 with (first | ((first | ((with_reducible refine st_gwT ?_ ?_); rfl) | ((with_reducible refine st_gwF ?_ ?_); rfl) | ((with_reducible refine st_gsT ?_ ?_); rfl) | ((with_reducible refine st_gsF ?_ ?_); rfl)); (try simp only [Act.put, yA, yB, yC, yD, yE, yF])) | ((with_reducible refine' st_guard ?_ ?_ ?_); rotate_left; rfl; (all_goals (intro hgd; cases hgd)); (try simp only [Act.put, yA, yB, yC, yD, yE, yF])) | ((with_reducible apply st_want); rfl) | ((with_reducible refine st_skip ?_ ?_); rfl; simp only [Act.put, yA, yB, yC, yD, yE, yF]) | ((first | ((with_reducible apply st_load1 H); decide +kernel; rfl; exact cF) | ((with_reducible apply st_loads H); decide +kernel; rfl; exact iF; exact zF; rfl)); clear H; intro wn H; (try simp only [splice, yG, yH, yI, yJ, yK, yL, yM, yN, yO, yP, yQ, Nat.reduceAdd, yA, yB, yC] at H); simp only [Act.put, yA, yB, yC, yD, yE, yF]) | ((first | ((with_reducible apply st_box (dst := some 2) H); exact nF; intro b2) | ((with_reducible apply st_strsum H); rfl; rfl; exact szF; kernel_rfl) | ((with_reducible apply st_loadat H); decide +kernel; rfl; exact aF; exact zF; rfl)); clear H; intro wn H; simp only [Act.put, yA, yB, yC, yD, yE, yF]) | ((first | (go_at_call 11; refine gvF (c1 _ H.below) H ?_) | (go_at_call 13; refine gvF (c2 _ H.below) H ?_) | (go_at_call 14; refine gvF (c5 _ H.below) H ?_) | (go_at_call 16; refine gvF (c7 _ H.below) H ?_)); clear H; intro wn H) | fail)
    have Hq := H.sel (M := [Hl.row 66 2 (.slice (some ⟨gl, 0, none⟩) kl cb) kl xs, Hl.blk b2 53 #[.slice A1 n1 k1, .slice A2 n2 k2, .slice A3 n3 k3, .int .i64 hf, .slice A4 n4 k4, .slice A5 n5 k5, .slice A6 n6 k6, .int .i64 now, .slice A7 n7 k7]]) sF
    clear H
    have H := Hq
    clear Hq
    apply wp_region_hq H (by kernel_rfl) (by kernel_rfl); (iterate 3 ((with_reducible refine' hq_step ?_ ?_ ?_); rotate_left; (focus rfl); (focus (intro w1 H1; exact qLF)); simp only [Act.put, yA, yB, yC, yD, yE, yF]; (try simp only [yG, yH, yJ, yK]))); (with_reducible refine' hq_step ?_ ?_ ?_); rotate_left; (focus rfl); (focus (intro w1 H1; exact qWF)); simp only [Act.put, yA, yB, yC, yD, yE, yF]; (iterate 1 ((with_reducible refine' hq_step ?_ ?_ ?_); rotate_left; (focus rfl); (focus (intro w1 H1; exact qLF)); simp only [Act.put, yA, yB, yC, yD, yE, yF]; (try simp only [yG, yH, yJ, yK]))); (with_reducible refine' hq_step ?_ ?_ ?_); rotate_left; (focus rfl); (focus (intro w1 H1; exact qRF)); simp only [Act.put, yA, yB, yC, yD, yE, yF]; (with_reducible refine' hq_step ?_ ?_ ?_); rotate_left; (focus rfl); (focus (intro w1 H1; unfold QOk; go_simp; exact q_call (c6' _ @H1.below))); simp only [Act.put, yA, yB, yC, yD, yE, yF]; (iterate 1 ((with_reducible refine' hq_step ?_ ?_ ?_); rotate_left; (focus rfl); (focus (intro w1 H1; exact qLF)); simp only [Act.put, yA, yB, yC, yD, yE, yF]; (try simp only [yG, yH, yJ, yK]))); refine wpQuiet_nil ?_; clear H; intro wn H
    go_wp2_with (fail)
    go_ret
    exact ⟨by rw [HE.out, HQ9.out] <;> rfl, H.below⟩
  · have hle1 : ¬ (p : Int) + 1 ≤ kl := by omega
    obtain ⟨d, rfl⟩ : ∃ d, p = kl + d := ⟨p - kl, by omega⟩
    have hd : d < n7 := by omega
    have hd1 : (d : Int) < n7 := by omega
    obtain ⟨x, hx⟩ : ∃ x, a.2[d]? = some x := ⟨a.2[d]'(by rw [← HN7.out]; exact hd), List.getElem?_eq_getElem (by rw [← HN7.out]; exact hd)⟩
    have HE : Hid (z = bs (numsB x.1)) := Lib.hid (by rw [HZ2.out, if_neg (by omega), if_neg hle, show kl + d + 1 - 1 - kl = d by omega, hx])
    have hs := sl_at HG7.out hx
    rw [← HN7.out] at hs
    obtain ⟨b, bff, c', cs, hv, hcs, hA⟩ := hs
    injection hv with hv1 hv2 hv3
    subst hv1 hv3
    clear hv2
    obtain ⟨⟨xb1, _, _⟩, xl, _, _⟩ := HB.out x (List.mem_of_getElem? hx)
    obtain ⟨u1, u2, u3, rfl, f1, f2, f3⟩ := bo_form hcs
    have c7 := fun w1 hb => nums18_s _ x.1 (by omega) xb1 w1 (Ty.below _ f1 hb)
    obtain ⟨F1, m1, rfl, _, _⟩ := sl_form f1
    obtain ⟨F2, m2, rfl, _, _⟩ := sl_form f2
    obtain ⟨F3, m3, rfl, _, _⟩ := sl_form f3
    have h0 : w.cell? ⟨b, bff + d * 3, none⟩ = some (.slice F1 x.1.length m1) := hA.head rfl
    obtain ⟨q, hq⟩ : ∃ q, q = bs (numsB x.1) := ⟨_, rfl⟩
    have HE2 : Hid (z = q) := Lib.hid (by rw [HE.out, hq])
    rw [← hq] at c7
    have he1 : (kl : Int) + d - kl = d := by omega
    clear hx hcs hA f1 f2 f3 HZ2 HE hq xb1 xl c5 c6
    go_wp2_with (first | ((with_reducible apply st_v H); rfl; (focus (unfold OpOk; go_simp; rw [wrap_id (by omega) (by omega)]; (try rw [he1]); exact now_v)); clear H; intro wn H; simp only [Act.put, yA, yB, yC, yD, yE, yF]) | ((((with_reducible refine st_gwF ?_ ?_); rfl)); (try simp only [Act.put, yA, yB, yC, yD, yE, yF])) | ((first | ((with_reducible apply st_load1 H); decide +kernel; rfl; exact cF) | ((with_reducible apply st_loads H); decide +kernel; rfl; exact iF; exact zF; rfl)); clear H; intro wn H; (try simp only [splice, yG, yH, yI, yJ, yK, yL, yM, yN, yO, yP, yQ, Nat.reduceAdd, yA, yB, yC] at H); simp only [Act.put, yA, yB, yC, yD, yE, yF]) | ((first | (go_at_call 13; refine gvF (c2 _ H.below) H ?_) | (go_at_call 16; refine gvF (c7 _ H.below) H ?_)); clear H; intro wn H))
    go_ret
    exact ⟨by rw [HE2.out] <;> rfl, H.below⟩
end Go.Proofs.YtpfdhfchgnnpiaaGreat
namespace Go.Proofs.YtpfdhfchgnnpiaaGreat
open Go.RowKit M
set_option maxRecDepth 100000 in
set_option maxHeartbeats 4000000 in
theorem law_PartOf (a : St) (cs : List Value) (hok0 : okSt a ∧ ∀ b ∈ a.2, bdBo b) (r : Int) (hb1 : bd r) (w : World) (hr : tySt.rd w cs a) :
    Gives Tryz.prog 3 #[.agg cs.toArray, .int .i64 r] w (.bool true) := by
  have hok := hok0.1
  have hbd := hok0.2
  clear hok0
  have c1 := fun w1 hb => szState_l a cs 1048576 (by omega) hok w1 (Ty.below _ hr hb)
  have c3 := fun hs w1 hb => toState_l a cs hs w1 (Ty.below _ hr hb)
  have c5 := fun ds w1 h => PartOf_s a ds r hb1 hok hbd w1 h
  have c6 := fun ds w1 h => PartOf_i a ds r hb1 hok hbd w1 h
  generalize bs (partOfB a r) = z at *
  obtain ⟨A1, n1, k1, A2, n2, k2, A3, n3, k3, A4, n4, k4, A5, n5, k5, A6, n6, k6, A7, n7, k7, rfl⟩ := St_lit hr
  obtain ⟨hf, hhf⟩ : ∃ n, n = a.1.1.2.2.2 := ⟨_, rfl⟩
  obtain ⟨now, hnow⟩ : ∃ n, n = a.1.2.2.2.2 := ⟨_, rfl⟩
  rw [← hhf, ← hnow] at c1 c3 ⊢
  clear hr hhf hnow hok hbd
  replace c1 : ∀ w1, Below w.heap.size w w1 → Gives Tryz.prog 4 #[.agg #[.slice A1 n1 k1, .slice A2 n2 k2, .slice A3 n3 k3, .int .i64 hf, .slice A4 n4 k4, .slice A5 n5 k5, .slice A6 n6 k6, .int .i64 now, .slice A7 n7 k7], .int .i64 1048576] w1 (.int .i64 (szC 1048576 (szSt a))) := c1
  replace c3 : szSt a ≤ 1048576 → ∀ w1, Below w.heap.size w w1 → Rets Tryz.prog [] 6 #[.agg #[.slice A1 n1 k1, .slice A2 n2 k2, .slice A3 n3 k3, .int .i64 hf, .slice A4 n4 k4, .slice A5 n5 k5, .slice A6 n6 k6, .int .i64 now, .slice A7 n7 k7]] w1 (tAgg tySt a) := c3
  show Gives Tryz.prog _ #[.agg #[.slice A1 n1 k1, .slice A2 n2 k2, .slice A3 n3 k3, .int .i64 hf, .slice A4 n4 k4, .slice A5 n5 k5, .slice A6 n6 k6, .int .i64 now, .slice A7 n7 k7], .int .i64 r] w _
  have H := Hs.start noRow w
  unfold Gives
  by_cases hn1 : (1048576 : Int) - szSt a < 0
  · rw [szC_neg hn1] at c1
    go_enter Tryz.func3, Tryz.ntmps3
    go_wp2_with (first | ((((with_reducible apply st_loads H); decide +kernel; rfl; exact iF; exact zF; rfl)); clear H; intro wn H; (try simp only [splice, yG, yH, yI, yJ, yK, yL, yM, yN, yO, yP, yQ, Nat.reduceAdd, yA, yB, yC] at H); simp only [Act.put, yA, yB, yC, yD, yE, yF]) | ((((with_reducible apply st_box (dst := some 2) H); exact nF; intro b2)); clear H; intro wn H; simp only [Act.put, yA, yB, yC, yD, yE, yF]) | (((go_at_call 4; refine gvF (c1 _ H.below) H ?_)); clear H; intro wn H))
    go_ret
    exact ⟨rfl, H.below⟩
  rw [szC_pos hn1] at c1
  have c8 := c3 (by omega)
  clear c3
  generalize (1048576 : Int) - szSt a = s2 at *
  go_enter Tryz.func3, Tryz.ntmps3
  go_wp2_with (first | ((((with_reducible apply st_loads H); decide +kernel; rfl; exact iF; exact zF; rfl)); clear H; intro wn H; (try simp only [splice, yG, yH, yI, yJ, yK, yL, yM, yN, yO, yP, yQ, Nat.reduceAdd, yA, yB, yC] at H); simp only [Act.put, yA, yB, yC, yD, yE, yF]) | ((((with_reducible apply st_box (dst := some 2) H); exact nF; intro b2)); clear H; intro wn H; simp only [Act.put, yA, yB, yC, yD, yE, yF]) | (((go_at_call 4; refine gvF (c1 _ H.below) H ?_)); clear H; intro wn H))
  refine (Rets.use (c8 _ H.below)).mono ?_; rintro e wn ⟨_, _, rfl, ⟨a1, M1, rfl, o1, rfl⟩, hkk⟩; have Hn := H.moreK (by intro k hk; first | exact absurd hk List.not_mem_nil | (obtain rfl := List.mem_singleton.1 hk; exact In.mem iF)) hkk; clear hkk; clear H; have H := Hn; clear Hn; (try simp only [yT, yV] at H)
  obtain ⟨B1, x1, d1, B2, x2, d2, B3, x3, d3, B4, x4, d4, B5, x5, d5, B6, x6, d6, B7, x7, d7, rfl⟩ := St_lit (own_rd H .here o1)
  go_wp2_with (fail)
  refine gvF (c5 _ _ (own_rd H iF o1)) H ?_; clear H; intro wn H
  go_wp2_with (((((with_reducible apply st_loads H); decide +kernel; rfl; exact iF; exact zF; rfl)); clear H; intro wn H; (try simp only [splice, yG, yH, yI, yJ, yK, yL, yM, yN, yO, yP, yQ, Nat.reduceAdd, yA, yB, yC] at H); simp only [Act.put, yA, yB, yC, yD, yE, yF]))
  refine (Rets.use (c8 _ H.below)).mono ?_; rintro e wn ⟨_, _, rfl, ⟨a2, M2, rfl, o2, rfl⟩, hkk⟩; have Hn := H.moreK (by intro k hk; first | exact absurd hk List.not_mem_nil | (obtain rfl := List.mem_singleton.1 hk; exact In.mem iF)) hkk; clear hkk; clear H; have H := Hn; clear Hn; (try simp only [yT, yV] at H)
  obtain ⟨E1, y1, f1, E2, y2, f2, E3, y3, f3, E4, y4, f4, E5, y5, f5, E6, y6, f6, E7, y7, f7, rfl⟩ := St_lit (own_rd H .here o2)
  go_wp2_with (first | ((first | ((with_reducible apply st_loads H); decide +kernel; rfl; exact iF; exact zF; rfl) | ((with_reducible apply st_store H); rfl; exact eF; (focus (exact cells_agg _)); exact uF; kernel_rfl; (focus (exact Nat.le_of_ble_eq_true (by rfl))); (focus (rfl)))); clear H; intro wn H; (try simp only [splice, yG, yH, yI, yJ, yK, yL, yM, yN, yO, yP, yQ, Nat.reduceAdd, yA, yB, yC] at H); simp only [Act.put, yA, yB, yC, yD, yE, yF]) | ((((with_reducible apply st_alloc (dst := some 7) H); exact nF; intro b7)); clear H; intro wn H; simp only [Act.put, yA, yB, yC, yD, yE, yF]) | (((go_at_call 7; refine gvF (c6 _ _ (own_rd H iF o2)) H ?_)); clear H; intro wn H))
  apply wp_region_hss (K := []) (Spec.V _ :: Spec.V _ :: Spec.T _ :: Spec.V _ :: Spec.V _ :: []) 5 rfl H rfl (by simp) (by kernel_rfl) (by kernel_rfl); intro vs Ls; (iterate 2 ((with_reducible apply wpH_V); (focus rfl); (focus rfl); (focus (intro w1 H1; exact oF)); simp only [Act.put, yA, yB, yC, yD, yE, yF]; (try simp only [yG, yH, yJ, yK]))); (with_reducible apply wpH_T); (focus rfl); (focus rfl); (focus (intro hk w1 H1; unfold OpOk; go_simp; exact now_call (c8 _ H1.below))); simp only [Act.put, yA, yB, yC, yD, yE, yF]; (with_reducible apply (wpH_E 2)); (focus rfl); (focus rfl); (focus rfl); (focus decide +kernel); (focus decide); (focus (intro kk2 w1 H1; obtain ⟨a7, M7, e2, o7, l2⟩ := kk2; simp only [e2, l2, yT, yU, yV] at H1 ⊢; unfold OpOk; (try simp only [e2]); go_simp; exact now_call (Gives.rets (eqState_l a _ _ _ (own_rd H1 iF o2) (own_rd H1 iF o7))))); simp only [Act.put, yA, yB, yC, yD, yE, yF]; (iterate 1 ((with_reducible apply wpH_V); (focus rfl); (focus rfl); (focus (intro w1 H1; exact oF)); simp only [Act.put, yA, yB, yC, yD, yE, yF]; (try simp only [yG, yH, yJ, yK]))); refine wpH_0 ?_; intro hok wn Hn; (try simp only [yT, yU, yV, yW] at Hn); clear H; have H := Hn; clear Hn; have ht2 := okT (hok 2 (by decide)) rfl; clear hok; obtain ⟨a7, M7, e2, o7, l2⟩ := ht2; simp only [e2, l2, yT, yU, yV] at H ⊢; clear e2 l2; rotate_left; (focus (refine locs ?_; intro vs1 vs2; (iterate 5 (refine all_lt_succ ?_ (by first | exact (fun _ => rfl) | exact (fun _ => ⟨rfl, rfl⟩) | (intro h; simp only [spec, Spec.same, yR, yS, Option.getD_some]; (try rw [h 2 (by decide +kernel)]); (first | done | exact ⟨rfl, rfl⟩ | exact ⟨trivial, rfl⟩ | exact ⟨rfl, trivial⟩))))); exact (fun k hk => absurd hk (Nat.not_lt_zero k))))
  go_wp2_with (fail)
  go_ret
  exact ⟨rfl, H.below⟩
end Go.Proofs.YtpfdhfchgnnpiaaGreat
