/-
  The labels of a configuration in the program: sorted, each once: the same as the reference's. The walk.
-/
import Derived.Test.YtjklmldchbakjaaGreatCi
set_option linter.unusedSimpArgs false
set_option linter.unusedVariables false
namespace Go.Proofs.YtjklmldchbakjaaGreat
open Go.RowKit M
namespace M
def ltP (a b : Lab) : Prop := a.1 < b.1 ∨ (a.1 = b.1 ∧ a.2 < b.2)
instance (a b : Lab) : Decidable (ltP a b) := inferInstanceAs (Decidable (_ ∨ _))
theorem leL_iff (a b : Lab) : leL a b = true ↔ ¬ ltP b a := by
  unfold leL
  rw [Bool.not_eq_true', ltL_false]
  rfl
theorem strict_eq : ∀ (l r : List Lab), l.Pairwise ltP → r.Pairwise ltP → (∀ x, x ∈ l ↔ x ∈ r) → l = r
  | [], [], _, _, _ => rfl
  | [], b :: s, _, _, h => absurd ((h b).2 (List.mem_cons_self ..)) List.not_mem_nil
  | a :: l, [], _, _, h => absurd ((h a).1 (List.mem_cons_self ..)) List.not_mem_nil
  | a :: l, b :: r, h1, h2, h => by
    rw [List.pairwise_cons] at h1 h2
    have e : a = b := by
      rcases List.mem_cons.1 ((h a).1 (List.mem_cons_self ..)) with e | e
      · exact e
      · rcases List.mem_cons.1 ((h b).2 (List.mem_cons_self ..)) with e2 | e2
        · exact e2.symm
        · have h3 := h1.1 b e2
          have h4 := h2.1 a e
          unfold ltP at h3 h4
          omega
    subst e
    congr 1
    refine strict_eq l r h1.2 h2.2 fun x => ⟨fun hx => ?_, fun hx => ?_⟩
    · rcases List.mem_cons.1 ((h x).1 (List.mem_cons_of_mem _ hx)) with e | e
      · subst e
        have := h1.1 x hx
        unfold ltP at this
        omega
      · exact e
    · rcases List.mem_cons.1 ((h x).2 (List.mem_cons_of_mem _ hx)) with e | e
      · subst e
        have := h2.1 x hx
        unfold ltP at this
        omega
      · exact e
theorem comp_spec (s : List Lab) (hs : s.Pairwise fun a b => leL a b = true) : ∀ i, i ≤ s.length → (compUp s i).Pairwise ltP ∧ ∀ x, x ∈ compUp s i ↔ x ∈ s.take i
  | 0, _ => ⟨List.Pairwise.nil, fun x => by simp [compUp]⟩
  | 1, h => by
    rw [comp_one (by omega)]
    refine ⟨?_, fun _ => Iff.rfl⟩
    cases s with
    | nil => exact List.Pairwise.nil
    | cons a s => exact List.pairwise_singleton _ _
  | i + 2, h => by
    obtain ⟨h1, h2⟩ := comp_spec s hs (i + 1) (by omega)
    have hx : s[i]? = some (s[i]'(by omega)) := List.getElem?_eq_getElem (by omega)
    have hy : s[i + 1]? = some (s[i + 1]'(by omega)) := List.getElem?_eq_getElem (by omega)
    rw [comp_step hx hy, List.take_succ_eq_append_getElem (i := i + 1) (by omega)]
    have hix : s[i]'(by omega) ∈ s.take (i + 1) := List.mem_of_getElem? (i := i) (by rw [List.getElem?_take, if_pos (by omega)]; exact hx)
    by_cases e : eqB (s[i + 1]'(by omega)) (s[i]'(by omega)) = true
    · rw [if_pos e, List.append_nil]
      refine ⟨h1, fun x => ?_⟩
      rw [List.mem_append, h2, List.mem_singleton]
      constructor
      · exact .inl
      · rintro (h | rfl)
        · exact h
        · rw [eqB_iff.1 e]; exact hix
    · rw [if_neg e]
      refine ⟨?_, fun x => by rw [List.mem_append, List.mem_append, h2]⟩
      rw [List.pairwise_append]
      refine ⟨h1, List.pairwise_singleton _ _, fun a ha b hb => ?_⟩
      obtain rfl := List.mem_singleton.1 hb
      have ha' := (h2 a).1 ha
      obtain ⟨j, hj, rfl⟩ := List.mem_iff_getElem.1 ha'
      rw [List.length_take] at hj
      rw [List.getElem_take]
      have hp := List.pairwise_iff_getElem.1 hs
      have h3 := (leL_iff _ _).1 (hp i (i + 1) (by omega) (by omega) (by omega))
      have h4 : ltP (s[i]'(by omega)) (s[i + 1]'(by omega)) := by
        have hne : ¬ s[i + 1]'(by omega) = s[i]'(by omega) := fun h => e (eqB_iff.2 h)
        rw [Prod.ext_iff] at hne
        unfold ltP at h3 ⊢
        omega
      rcases Nat.lt_or_ge j i with h5 | h5
      · have h6 := (leL_iff _ _).1 (hp j i (by omega) (by omega) h5)
        unfold ltP at h4 h6 ⊢
        omega
      · obtain rfl : j = i := by omega
        exact h4
theorem sortL_sorted (l : List Lab) : (sortL l).Pairwise fun a b => leL a b = true := by
  unfold sortL
  refine List.pairwise_mergeSort ?_ ?_ l
  · intro a b c h1 h2
    rw [leL_iff] at *
    unfold ltP at *
    omega
  · intro a b
    rw [Bool.or_eq_true, leL_iff, leL_iff]
    unfold ltP
    omega
theorem labsAll_sorted : labsAll.Pairwise ltP := by decide +kernel
theorem labsAll_mem {a : Lab} (h : okL a = true) : a ∈ labsAll := by
  unfold okL labelOk isIn at h
  simp only [Bool.and_eq_true, decide_eq_true_eq] at h
  obtain ⟨a1, a2⟩ := a
  obtain ⟨x, hx⟩ : ∃ x : Nat, a1 = x := ⟨a1.toNat, by simp only at h; omega⟩
  obtain ⟨y, hy⟩ : ∃ y : Nat, a2 = y := ⟨a2.toNat, by simp only at h; omega⟩
  subst hx hy
  simp only at h
  have h1 := labsAll_at (8 * x + y) (by omega)
  rw [show (8 * x + y) / 8 = x by omega, show (8 * x + y) % 8 = y by omega] at h1
  exact List.mem_of_getElem? h1
theorem clear_ok {l : List (List Lab)} (h : clearOk l = true) : l.all chainOk = true ∧ 1 ≤ l.length ∧ l.length ≤ 6 := by
  unfold clearOk at h
  simp only [Bool.and_eq_true, decide_eq_true_eq] at h
  exact ⟨h.2, h.1⟩
theorem clear_labs {l : List (List Lab)} (h : clearOk l = true) : ∀ a ∈ l.flatten, okL a = true := by
  intro a ha
  obtain ⟨x, hx, hax⟩ := List.mem_flatten.1 ha
  have h1 := List.all_eq_true.1 (clear_ok h).1 x hx
  unfold chainOk at h1
  simp only [Bool.and_eq_true] at h1
  exact List.all_eq_true.1 h1.2.1 a hax
theorem comp_labels {l : List (List Lab)} (h : clearOk l = true) : compUp (sortL l.flatten) l.flatten.length = labelsOf l := by
  have h0 := comp_spec (sortL l.flatten) (sortL_sorted _) l.flatten.length (by rw [sortL_len]; exact Nat.le_refl _)
  rw [List.take_of_length_le (by rw [sortL_len]; exact Nat.le_refl _)] at h0
  refine strict_eq _ _ h0.1 (labsAll_sorted.filter _) fun x => ?_
  rw [h0.2]
  unfold sortL labelsOf
  rw [List.mem_mergeSort, List.mem_filter, List.any_eq_true]
  constructor
  · intro hx
    obtain ⟨y, hy, hxy⟩ := List.mem_flatten.1 hx
    exact ⟨labsAll_mem (clear_labs h x hx), y, hy, hasL_iff.2 hxy⟩
  · rintro ⟨_, y, hy, hxy⟩
    exact List.mem_flatten.2 ⟨y, hy, hasL_iff.1 hxy⟩
theorem flatten_le (k : Nat) : ∀ l : List (List Lab), (∀ x ∈ l, x.length ≤ k) → l.flatten.length ≤ k * l.length
  | [], _ => Nat.zero_le _
  | x :: l, h => by
    have h1 := flatten_le k l fun y hy => h y (List.mem_cons_of_mem _ hy)
    have h2 := h x (List.mem_cons_self ..)
    rw [List.flatten_cons, List.length_append, List.length_cons, Nat.mul_succ]
    omega
theorem clear_len {l : List (List Lab)} (h : clearOk l = true) : 0 < l.flatten.length ∧ l.flatten.length ≤ 24 := by
  obtain ⟨h1, h2, h3⟩ := clear_ok h
  have hc : ∀ x ∈ l, 1 ≤ x.length ∧ x.length ≤ 4 := fun x hx => by
    have h4 := List.all_eq_true.1 h1 x hx
    unfold chainOk at h4
    simp only [Bool.and_eq_true, decide_eq_true_eq] at h4
    exact h4.1
  refine ⟨?_, Nat.le_trans (flatten_le 4 l fun x hx => (hc x hx).2) (by omega)⟩
  cases l with
  | nil => simp at h2
  | cons x l =>
    have := (hc x (List.mem_cons_self ..)).1
    rw [List.flatten_cons, List.length_append]
    omega
theorem ownL_flatE {α : Type} {s : Nat} {enc : α → List Value} {hl : ∀ a, (enc a).length = s} {h1 : ∀ a, ∀ u ∈ enc a, u.oneCell' = true} {xs : List Value} {l : List α} {N : List Hl} (h : OwnL (Ty.flat s enc hl h1) xs l N) : xs = flat enc l := by
  induction h with
  | nil => rfl
  | cons h _ ih => rw [h.1, ih]; rfl
end M
set_option maxRecDepth 100000 in
set_option maxHeartbeats 4000000 in
theorem labels_i (v : Value) (pA qA : Option Addr) (pn pc qn qc : Nat) (hf : Int) (l : List (List Lab)) (hok : clearOk l = true) (w : World) (hr : (Ty.sl 93 (Ty.sl 96 tyLab)).rd w [v] l) :
    Rets Tryz.prog [] 71 #[.agg #[v, .slice pA pn pc, .slice qA qn qc, .int .i64 hf]] w (tOwn (Ty.sl 96 tyLab) (labelsOf l)) := by
  obtain ⟨A, c, rfl, hlc, hcm⟩ := sl_form hr
  unfold maxLen at *
  have HR := Lib.hid hr
  have HOK := Lib.hid hok
  clear hr hok hcm
  have H := Hs.start noRow w
  refine Rets.of ?_
  go_enter Tryz.func71, Tryz.ntmps71
  go_wp2_with (first | ((first | ((with_reducible apply st_load1 H); decide +kernel; rfl; exact cF) | ((with_reducible apply st_loads H); decide +kernel; rfl; exact iF; exact zF; rfl)); clear H; intro wn H; (try simp only [splice, yG, yH, yI, yJ, yK, yL, yM, yN, yO, yP, yQ, Nat.reduceAdd, yA, yB, yC] at H); simp only [Act.put, yA, yB, yC, yD, yE, yF]) | ((first | ((with_reducible apply st_box (dst := some 1) H); exact nF; intro b1) | ((with_reducible apply st_loadat H); decide +kernel; rfl; exact aF; exact zF; rfl)); clear H; intro wn H; simp only [Act.put, yA, yB, yC, yD, yE, yF]) | fail)
  refine (Rets.use (concat_Lab _ l (clear_len HOK.out).1 (Nat.le_trans (clear_len HOK.out).2 (by decide)) _ (Ty.below _ HR.out H.below))).mono ?_; rintro e wn ⟨_, _, rfl, ⟨N, hN, rfl, hone⟩, hkk⟩; have Hn := H.moreK (by intro k hk; first | exact absurd hk List.not_mem_nil | (obtain rfl := List.mem_singleton.1 hk; exact In.mem iF)) hkk; clear hkk; clear H; have H := Hn; clear Hn; (try simp only [yT, yV] at H)
  have hN2 := own_single hN hone rfl
  clear hN hone
  obtain ⟨xs, M, A2, c2, rfl, hO, hc2, H⟩ := own_open hN2 H
  obtain rfl : M = [] := flat_noown hO
  obtain rfl : xs = flat encLab l.flatten := ownL_flatE hO
  obtain ⟨n, hn⟩ : ∃ n, n = l.flatten.length := ⟨_, rfl⟩
  have hn0 : 0 < n := by rw [hn]; exact (clear_len HOK.out).1
  have hn24 : n ≤ 24 := by rw [hn]; exact (clear_len HOK.out).2
  rw [← hn] at H ⊢
  obtain ⟨g, c3, hv, _⟩ := (H.rows .here).form hn0
  injection hv with hv1 hv2 hv3
  subst hv1 hv3
  have hnc : n ≤ c2 := by obtain ⟨_, _, hs, h3, _⟩ := (H.rows .here).slice; injection hs with _ _ hs; omega
  have HN := Lib.hid hn
  clear hn hO hN2 hv2
  go_wp2_with (first | ((first | ((with_reducible apply st_load1 H); decide +kernel; rfl; exact cF) | ((with_reducible apply st_loads H); decide +kernel; rfl; exact iF; exact zF; rfl)); clear H; intro wn H; (try simp only [splice, yG, yH, yI, yJ, yK, yL, yM, yN, yO, yP, yQ, Nat.reduceAdd, yA, yB, yC] at H); simp only [Act.put, yA, yB, yC, yD, yE, yF]) | ((first | ((with_reducible apply st_box (dst := some 1) H); exact nF; intro b1) | ((with_reducible apply st_loadat H); decide +kernel; rfl; exact aF; exact zF; rfl)); clear H; intro wn H; simp only [Act.put, yA, yB, yC, yD, yE, yF]) | fail)
  refine (sort_Lab g n c2 l.flatten HN.out hn0 (by omega) _ _ _ _ H).mono ?_
  clear H
  rintro e wn ⟨rfl, H⟩
  go_wp2_with (first | ((first | ((with_reducible apply st_load1 H); decide +kernel; rfl; exact cF) | ((with_reducible apply st_loads H); decide +kernel; rfl; exact iF; exact zF; rfl)); clear H; intro wn H; (try simp only [splice, yG, yH, yI, yJ, yK, yL, yM, yN, yO, yP, yQ, Nat.reduceAdd, yA, yB, yC] at H); simp only [Act.put, yA, yB, yC, yD, yE, yF]) | ((first | ((with_reducible apply st_box (dst := some 1) H); exact nF; intro b1) | ((with_reducible apply st_loadat H); decide +kernel; rfl; exact aF; exact zF; rfl)); clear H; intro wn H; simp only [Act.put, yA, yB, yC, yD, yE, yF]) | fail)
  refine (compact_Lab g n c2 (sortL l.flatten) (by rw [sortL_len]; exact HN.out) hn0 (by omega) hnc _ _ _ _ H).mono ?_
  clear H
  rintro e wn ⟨rfl, H⟩
  rw [show compUp (sortL l.flatten) n = labelsOf l by rw [HN.out]; exact comp_labels HOK.out] at H
  have HE : Hid ((compUp (sortL l.flatten) n).length = (labelsOf l).length) := Lib.hid (by rw [HN.out, comp_labels HOK.out])
  rw [HE.out]
  go_wp2_with (first | ((first | ((with_reducible apply st_load1 H); decide +kernel; rfl; exact cF) | ((with_reducible apply st_loads H); decide +kernel; rfl; exact iF; exact zF; rfl)); clear H; intro wn H; (try simp only [splice, yG, yH, yI, yJ, yK, yL, yM, yN, yO, yP, yQ, Nat.reduceAdd, yA, yB, yC] at H); simp only [Act.put, yA, yB, yC, yD, yE, yF]) | ((first | ((with_reducible apply st_box (dst := some 1) H); exact nF; intro b1) | ((with_reducible apply st_loadat H); decide +kernel; rfl; exact aF; exact zF; rfl)); clear H; intro wn H; simp only [Act.put, yA, yB, yC, yD, yE, yF]) | fail)
  go_ret
  exact ret_flat H rfl rfl
end Go.Proofs.YtjklmldchbakjaaGreat
