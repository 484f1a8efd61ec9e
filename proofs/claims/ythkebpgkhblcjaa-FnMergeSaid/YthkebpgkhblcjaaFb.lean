/-
  Logs merged, in the program: the walk.
-/
import Derived.Test.YthkebpgkhblcjaaFa
import Derived.Test.YthkebpgkhblcjaaSz
import Derived.Test.YthkebpgkhblcjaaFp
set_option linter.unusedSimpArgs false
set_option linter.unusedVariables false
namespace Go.Proofs.Ythkebpgkhblcjaa
open Go.RowKit M
namespace M
def leF (x y : Fm) : Bool := decide (x.1 ≤ y.1)
theorem leF_tr (a b c : Fm) (h1 : leF a b = true) (h2 : leF b c = true) : leF a c = true := by
  unfold leF at *
  simp only [decide_eq_true_eq] at *
  omega
theorem leF_tot (a b : Fm) : (leF a b || leF b a) = true := by
  unfold leF
  simp only [Bool.or_eq_true, decide_eq_true_eq]
  omega
def cmpZ (a b : Int) : Int := if a < b then -1 else if b < a then 1 else 0
theorem cmpZ_lt : (fun x y : Fm => decide (cmpZ x.1 y.1 < 0)) = fun x y => !leF y x := by
  funext x y
  unfold cmpZ leF
  by_cases h1 : x.1 < y.1
  · have h2 : ¬ y.1 ≤ x.1 := by omega
    simp [h1, h2]
  · have h2 : y.1 ≤ x.1 := by omega
    by_cases h3 : y.1 < x.1 <;> simp [h1, h2, h3]
theorem ownL_flatF {α : Type} {s : Nat} {enc : α → List Value} {hl : ∀ a, (enc a).length = s} {h1 : ∀ a, ∀ u ∈ enc a, u.oneCell' = true} {xs : List Value} {l : List α} {N : List Hl} (h : OwnL (Ty.flat s enc hl h1) xs l N) : xs = flat enc l := by
  induction h with
  | nil => rfl
  | cons h _ ih => rw [h.1, ih]; rfl
def logsOk (l : List (List Fm)) : Bool := decide (l.length ≤ 13) && l.all fun x => decide (x.length ≤ 400)
def mergeL (l : List (List Fm)) : List Fm := if logsOk l then l.flatten.mergeSort leF else []
theorem flatten_bd : ∀ (l : List (List Fm)), (l.all fun x => decide (x.length ≤ 400)) = true → l.flatten.length ≤ l.length * 400
  | [], _ => by simp
  | x :: l, h => by
    simp only [List.all_cons, Bool.and_eq_true, decide_eq_true_eq] at h
    have := flatten_bd l h.2
    rw [List.flatten_cons, List.length_append, List.length_cons]
    omega
end M
theorem isNaN_z (n : Int) (w : World) : Calls Try.prog 29 #[.int .i64 n] w fun e w' => e = .returned (.bool false) ∧ w' = w := by
  have h : (n != n) = false := by simp
  go_enter Try.func29, Try.ntmps29
  go_wp2
  go_ret
  exact ⟨rfl, rfl⟩
theorem compare_z (a b : Int) (w : World) : Calls Try.prog 20 #[.int .i64 a, .int .i64 b] w fun e w' => e = .returned (.int .i64 (cmpZ a b)) ∧ w' = w := by
  unfold cmpZ
  by_cases h : a < b
  · rw [if_pos h]
    go_enter Try.func20, Try.ntmps20
    go_wp2_with (go_at_call 29; refine (isNaN_z _ _).mono ?_; rintro e w' ⟨rfl, rfl⟩)
    go_ret
    exact ⟨rfl, rfl⟩
  · rw [if_neg h]
    by_cases h2 : b < a
    · rw [if_pos h2]
      go_enter Try.func20, Try.ntmps20
      go_wp2_with (go_at_call 29; refine (isNaN_z _ _).mono ?_; rintro e w' ⟨rfl, rfl⟩)
      go_ret
      exact ⟨rfl, rfl⟩
    · rw [if_neg h2]
      go_enter Try.func20, Try.ntmps20
      go_wp2_with (go_at_call 29; refine (isNaN_z _ _).mono ?_; rintro e w' ⟨rfl, rfl⟩)
      go_ret
      exact ⟨rfl, rfl⟩
set_option maxRecDepth 100000 in
set_option maxHeartbeats 4000000 in
theorem mergeC2 (w : World) (x y : Fm) : Gives Try.prog 19 (#[.agg (encFm x).toArray, .agg (encFm y).toArray] ++ #[]) w (.int .i64 (cmpZ x.1 y.1)) := by
  obtain ⟨x1, x2⟩ := x
  obtain ⟨y1, y2⟩ := y
  unfold encFm
  have c1 : ∀ w1, Gives Try.prog 20 #[.int .i64 x1, .int .i64 y1] w1 (.int .i64 (cmpZ x1 y1)) := fun w1 => (compare_z x1 y1 w1).mono fun _ _ h => ⟨h.1, by rw [h.2]; exact Below.refl _ _⟩
  simp only at c1 ⊢
  generalize cmpZ x1 y1 = z at *
  have H := Hs.start noRow w
  unfold Gives
  show Calls _ _ #[.agg #[.int .i64 x1, .string x2], .agg #[.int .i64 y1, .string y2]] _ _
  go_enter Try.func19, Try.ntmps19
  go_wp2_with (first | ((first | ((with_reducible apply st_load1 H); decide +kernel; rfl; exact cF) | ((with_reducible apply st_loads H); decide +kernel; rfl; exact iF; exact zF; rfl)); clear H; intro wn H; (try simp only [splice, yG, yH, yI, yJ, yK, yL, yM, yN, yO, yP, yQ, Nat.reduceAdd, yA, yB, yC] at H); simp only [Act.put, yA, yB, yC, yD, yE, yF]) | ((first | ((with_reducible apply st_box (dst := some 2) H); exact nF; intro b2) | ((with_reducible apply st_box (dst := some 3) H); exact nF; intro b3) | ((with_reducible apply st_loadat H); decide +kernel; rfl; exact aF; exact zF; rfl)); clear H; intro wn H; simp only [Act.put, yA, yB, yC, yD, yE, yF]) | ((first | (go_at_call 20; refine gvF (c1 _) H ?_)); clear H; intro wn H) | fail)
  go_ret
  exact ⟨rfl, H.below⟩
set_option maxRecDepth 100000 in
set_option maxHeartbeats 4000000 in
theorem mergeC1 (u : Value) (x : List Fm) (w : World) (hr : (Ty.sl 30 tyFm).rd w [u] x) : Gives Try.prog 16 (#[u] ++ #[]) w (.bool (!decide (x.length ≤ 400))) := by
  obtain ⟨A, c, rfl, hlc, hcm⟩ := sl_form hr
  clear hr
  generalize x.length = n at *
  unfold maxLen at *
  have H := Hs.start noRow w
  unfold Gives
  show Calls _ _ #[.slice A n c] _ _
  by_cases h : n ≤ 400
  · have h1 : ¬ (400 : Int) < n := by omega
    rw [decide_eq_true h]
    go_enter Try.func16, Try.ntmps16
    go_wp2_with (first | ((first | ((with_reducible apply st_load1 H); decide +kernel; rfl; exact cF) | ((with_reducible apply st_loads H); decide +kernel; rfl; exact iF; exact zF; rfl)); clear H; intro wn H; (try simp only [splice, yG, yH, yI, yJ, yK, yL, yM, yN, yO, yP, yQ, Nat.reduceAdd, yA, yB, yC] at H); simp only [Act.put, yA, yB, yC, yD, yE, yF]) | ((first | ((with_reducible apply st_strsum H); rfl; rfl; exact szF; kernel_rfl)); clear H; intro wn H; simp only [Act.put, yA, yB, yC, yD, yE, yF]) | fail)
    go_ret
    exact ⟨rfl, H.below⟩
  · have h1 : (400 : Int) < n := by omega
    rw [decide_eq_false h]
    go_enter Try.func16, Try.ntmps16
    go_wp2_with (first | ((first | ((with_reducible apply st_load1 H); decide +kernel; rfl; exact cF) | ((with_reducible apply st_loads H); decide +kernel; rfl; exact iF; exact zF; rfl)); clear H; intro wn H; (try simp only [splice, yG, yH, yI, yJ, yK, yL, yM, yN, yO, yP, yQ, Nat.reduceAdd, yA, yB, yC] at H); simp only [Act.put, yA, yB, yC, yD, yE, yF]) | ((first | ((with_reducible apply st_strsum H); rfl; rfl; exact szF; kernel_rfl)); clear H; intro wn H; simp only [Act.put, yA, yB, yC, yD, yE, yF]) | fail)
    go_ret
    exact ⟨rfl, H.below⟩
set_option maxRecDepth 100000 in
set_option maxHeartbeats 4000000 in
theorem merge_i (v : Value) (l : List (List Fm)) (w : World) (hr : (Ty.sl 26 (Ty.sl 30 tyFm)).rd w [v] l) : Rets Try.prog [] 6 #[v] w (tOwn (Ty.sl 30 tyFm) (mergeL l)) := by
  have eg : ∀ args w, (callFunc 16 args).run Try.prog w = .ok (.enter 16 args) w := enters_of Try.func16 (by kernel_rfl) rfl
  have eg2 : ∀ args w, (callFunc 19 args).run Try.prog w = .ok (.enter 19 args) w := enters_of Try.func19 (by kernel_rfl) rfl
  have c1 := fun w1 hb => containsFunc_Fms v l (fun x => !decide (x.length ≤ 400)) 16 #[] w1 eg (Ty.below _ hr hb) (fun w2 _ _ x u _ hu => mergeC1 u x w2 hu)
  have hz3 : (l.any fun x => !decide (x.length ≤ 400)) = !l.all fun x => decide (x.length ≤ 400) := any_not_all (fun _ => rfl) l
  rw [hz3] at c1
  obtain ⟨z3, hz⟩ : ∃ z, z = l.all fun x => decide (x.length ≤ 400) := ⟨_, rfl⟩
  rw [← hz] at c1
  obtain ⟨A, c, rfl, hlc, hcm⟩ := sl_form hr
  have HR := Lib.hid hr
  unfold maxLen at *
  obtain ⟨n, hn⟩ : ∃ n, n = l.length := ⟨_, rfl⟩
  have hnl : n ≤ 9223372036854775807 := by omega
  have hok : logsOk l = (decide (n ≤ 13) && z3) := by unfold logsOk; rw [hn, hz]
  have hbd : z3 = true → l.flatten.length ≤ n * 400 := fun h => by rw [hn]; exact flatten_bd l (by rw [← hz]; exact h)
  have hml : mergeL l = if (decide (n ≤ 13) && z3) then l.flatten.mergeSort leF else [] := by unfold mergeL; rw [hok]
  rw [hml]
  rw [← hn] at HR c1 ⊢
  have HN := Lib.hid hn
  have HBD := Lib.hid hbd
  clear hr hn hz hz3 hok hml hbd hlc hcm eg
  have H := Hs.start noRow w
  refine Rets.of ?_
  by_cases hm : 13 < n
  · have hm1 : (13 : Int) < n := by omega
    rw [if_neg (by simp; omega)]
    go_enter Try.func6, Try.ntmps6
    go_wp2_with (first | ((first | ((with_reducible refine st_gwT ?_ ?_); rfl) | ((with_reducible refine st_gwF ?_ ?_); rfl) | ((with_reducible refine st_gsT ?_ ?_); rfl) | ((with_reducible refine st_gsF ?_ ?_); rfl)); (try simp only [Act.put, yA, yB, yC, yD, yE, yF])) | ((with_reducible refine' st_guard ?_ ?_ ?_); rotate_left; rfl; (all_goals (intro hgd; cases hgd)); (try simp only [Act.put, yA, yB, yC, yD, yE, yF])) | ((with_reducible apply st_want); rfl) | ((with_reducible refine st_skip ?_ ?_); rfl; simp only [Act.put, yA, yB, yC, yD, yE, yF]) | ((first | ((with_reducible apply st_load1 H); decide +kernel; rfl; exact cF) | ((with_reducible apply st_loads H); decide +kernel; rfl; exact iF; exact zF; rfl)); clear H; intro wn H; (try simp only [splice, yG, yH, yI, yJ, yK, yL, yM, yN, yO, yP, yQ, Nat.reduceAdd, yA, yB, yC] at H); simp only [Act.put, yA, yB, yC, yD, yE, yF]) | ((first | ((with_reducible apply st_strsum H); rfl; rfl; exact szF; kernel_rfl)); clear H; intro wn H; simp only [Act.put, yA, yB, yC, yD, yE, yF]) | ((first | (go_at_call 15; refine gvF (c1 _ H.below) H ?_)); clear H; intro wn H) | fail)
    go_ret
    have Hn := H.putRow 30 2 none
    exact ret_flat (enc := encFm) (hl := fun _ => rfl) (l := []) Hn rfl rfl
  have hm1 : ¬ (13 : Int) < n := by omega
  rw [decide_eq_true (by omega : n ≤ 13), Bool.true_and]
  cases z3
  · rw [if_neg (by simp)]
    go_enter Try.func6, Try.ntmps6
    go_wp2_with (first | ((first | ((with_reducible refine st_gwT ?_ ?_); rfl) | ((with_reducible refine st_gwF ?_ ?_); rfl) | ((with_reducible refine st_gsT ?_ ?_); rfl) | ((with_reducible refine st_gsF ?_ ?_); rfl)); (try simp only [Act.put, yA, yB, yC, yD, yE, yF])) | ((with_reducible refine' st_guard ?_ ?_ ?_); rotate_left; rfl; (all_goals (intro hgd; cases hgd)); (try simp only [Act.put, yA, yB, yC, yD, yE, yF])) | ((with_reducible apply st_want); rfl) | ((with_reducible refine st_skip ?_ ?_); rfl; simp only [Act.put, yA, yB, yC, yD, yE, yF]) | ((first | ((with_reducible apply st_load1 H); decide +kernel; rfl; exact cF) | ((with_reducible apply st_loads H); decide +kernel; rfl; exact iF; exact zF; rfl)); clear H; intro wn H; (try simp only [splice, yG, yH, yI, yJ, yK, yL, yM, yN, yO, yP, yQ, Nat.reduceAdd, yA, yB, yC] at H); simp only [Act.put, yA, yB, yC, yD, yE, yF]) | ((first | ((with_reducible apply st_strsum H); rfl; rfl; exact szF; kernel_rfl)); clear H; intro wn H; simp only [Act.put, yA, yB, yC, yD, yE, yF]) | ((first | (go_at_call 15; refine gvF (c1 _ H.below) H ?_)); clear H; intro wn H) | fail)
    go_ret
    have Hn := H.putRow 30 2 none
    exact ret_flat (enc := encFm) (hl := fun _ => rfl) (l := []) Hn rfl rfl
  rw [if_pos rfl]
  have hbd := HBD.out rfl
  have hcon : ∀ w1, Below w.heap.size w w1 → Rets Try.prog [] 17 #[.slice A n c] w1 (tOwn (Ty.sl 30 tyFm) l.flatten) := fun w1 hb => by
    by_cases h0 : l.flatten.length = 0
    · exact concat0_Fm _ l h0 w1 (Ty.below _ HR.out hb)
    · exact concat_Fm _ l (by omega) (by omega) w1 (Ty.below _ HR.out hb)
  obtain ⟨fl, hfl⟩ : ∃ fl, fl = l.flatten := ⟨_, rfl⟩
  rw [← hfl] at hbd hcon ⊢
  clear hfl HBD
  go_enter Try.func6, Try.ntmps6
  go_wp2_with (first | ((first | ((with_reducible refine st_gwT ?_ ?_); rfl) | ((with_reducible refine st_gwF ?_ ?_); rfl) | ((with_reducible refine st_gsT ?_ ?_); rfl) | ((with_reducible refine st_gsF ?_ ?_); rfl)); (try simp only [Act.put, yA, yB, yC, yD, yE, yF])) | ((with_reducible refine' st_guard ?_ ?_ ?_); rotate_left; rfl; (all_goals (intro hgd; cases hgd)); (try simp only [Act.put, yA, yB, yC, yD, yE, yF])) | ((with_reducible apply st_want); rfl) | ((with_reducible refine st_skip ?_ ?_); rfl; simp only [Act.put, yA, yB, yC, yD, yE, yF]) | ((first | ((with_reducible apply st_load1 H); decide +kernel; rfl; exact cF) | ((with_reducible apply st_loads H); decide +kernel; rfl; exact iF; exact zF; rfl)); clear H; intro wn H; (try simp only [splice, yG, yH, yI, yJ, yK, yL, yM, yN, yO, yP, yQ, Nat.reduceAdd, yA, yB, yC] at H); simp only [Act.put, yA, yB, yC, yD, yE, yF]) | ((first | ((with_reducible apply st_strsum H); rfl; rfl; exact szF; kernel_rfl)); clear H; intro wn H; simp only [Act.put, yA, yB, yC, yD, yE, yF]) | ((first | (go_at_call 15; refine gvF (c1 _ H.below) H ?_)); clear H; intro wn H) | fail)
  refine (Rets.use (hcon _ H.below)).mono ?_; rintro e wn ⟨_, _, rfl, ⟨N, hN, rfl, hone⟩, hkk⟩; have Hn := H.moreK (by intro k hk; first | exact absurd hk List.not_mem_nil | (obtain rfl := List.mem_singleton.1 hk; exact In.mem iF)) hkk; clear hkk; clear H; have H := Hn; clear Hn; (try simp only [yT, yV] at H)
  have hN2 := own_single hN hone rfl
  clear hN hone hcon
  have Hn := own_open hN2 H
  clear H
  obtain ⟨xs, M, B, cb, rfl, hO, _, H⟩ := Hn
  obtain rfl : M = [] := flat_noown hO
  obtain rfl := ownL_flatF hO
  clear hN2 hO c1
  obtain ⟨t, ht⟩ : ∃ t, t = fl.length := ⟨_, rfl⟩
  rw [← ht] at hbd H ⊢
  have HT := Lib.hid ht
  by_cases h0 : t = 0
  · subst h0
    have hfl : fl = [] := List.length_eq_zero_iff.1 ht.symm
    subst hfl
    clear ht HT
    go_wp2_with (first | ((first | ((with_reducible refine st_gwT ?_ ?_); rfl) | ((with_reducible refine st_gwF ?_ ?_); rfl) | ((with_reducible refine st_gsT ?_ ?_); rfl) | ((with_reducible refine st_gsF ?_ ?_); rfl)); (try simp only [Act.put, yA, yB, yC, yD, yE, yF])) | ((with_reducible refine' st_guard ?_ ?_ ?_); rotate_left; rfl; (all_goals (intro hgd; cases hgd)); (try simp only [Act.put, yA, yB, yC, yD, yE, yF])) | ((with_reducible apply st_want); rfl) | ((with_reducible refine st_skip ?_ ?_); rfl; simp only [Act.put, yA, yB, yC, yD, yE, yF]) | ((first | ((with_reducible apply st_load1 H); decide +kernel; rfl; exact cF) | ((with_reducible apply st_loads H); decide +kernel; rfl; exact iF; exact zF; rfl)); clear H; intro wn H; (try simp only [splice, yG, yH, yI, yJ, yK, yL, yM, yN, yO, yP, yQ, Nat.reduceAdd, yA, yB, yC] at H); simp only [Act.put, yA, yB, yC, yD, yE, yF]) | ((first | ((with_reducible apply st_strsum H); rfl; rfl; exact szF; kernel_rfl)); clear H; intro wn H; simp only [Act.put, yA, yB, yC, yD, yE, yF]) | ((first | (go_at_call 15; refine gvF (c1 _ H.below) H ?_)); clear H; intro wn H) | fail)
    refine (sortStable_nil_Fm B cb _ _ _ _ _ H).mono ?_
    rintro e wn ⟨rfl, Hn⟩
    clear H
    have H := Hn
    clear Hn
    go_wp2_with (first | ((first | ((with_reducible refine st_gwT ?_ ?_); rfl) | ((with_reducible refine st_gwF ?_ ?_); rfl) | ((with_reducible refine st_gsT ?_ ?_); rfl) | ((with_reducible refine st_gsF ?_ ?_); rfl)); (try simp only [Act.put, yA, yB, yC, yD, yE, yF])) | ((with_reducible refine' st_guard ?_ ?_ ?_); rotate_left; rfl; (all_goals (intro hgd; cases hgd)); (try simp only [Act.put, yA, yB, yC, yD, yE, yF])) | ((with_reducible apply st_want); rfl) | ((with_reducible refine st_skip ?_ ?_); rfl; simp only [Act.put, yA, yB, yC, yD, yE, yF]) | ((first | ((with_reducible apply st_load1 H); decide +kernel; rfl; exact cF) | ((with_reducible apply st_loads H); decide +kernel; rfl; exact iF; exact zF; rfl)); clear H; intro wn H; (try simp only [splice, yG, yH, yI, yJ, yK, yL, yM, yN, yO, yP, yQ, Nat.reduceAdd, yA, yB, yC] at H); simp only [Act.put, yA, yB, yC, yD, yE, yF]) | ((first | ((with_reducible apply st_strsum H); rfl; rfl; exact szF; kernel_rfl)); clear H; intro wn H; simp only [Act.put, yA, yB, yC, yD, yE, yF]) | ((first | (go_at_call 15; refine gvF (c1 _ H.below) H ?_)); clear H; intro wn H) | fail)
    go_ret
    rw [show ([] : List Fm).mergeSort leF = [] from by simp]
    exact ret_flat (enc := encFm) (hl := fun _ => rfl) (l := []) H (by simp [flat]) (by simp)
  · obtain ⟨g, c2, hv, _⟩ := (H.rows .here).form (by omega)
    injection hv with hv1 hv2 hv3
    subst hv1 hv3
    have hs := sortStable_Fm g t cb fl ht (by omega) 19 #[] (fun x y => cmpZ x.1 y.1) eg2 mergeC2
    rw [cmpZ_lt, Stb.stab_sort leF_tr leF_tot] at hs
    have hlen : (fl.mergeSort leF).length = t := by rw [(List.mergeSort_perm _ _).length_eq, ht]
    have HS := Lib.hid hs
    have HLEN := Lib.hid hlen
    clear hs hlen ht hv2
    go_wp2_with (first | ((first | ((with_reducible refine st_gwT ?_ ?_); rfl) | ((with_reducible refine st_gwF ?_ ?_); rfl) | ((with_reducible refine st_gsT ?_ ?_); rfl) | ((with_reducible refine st_gsF ?_ ?_); rfl)); (try simp only [Act.put, yA, yB, yC, yD, yE, yF])) | ((with_reducible refine' st_guard ?_ ?_ ?_); rotate_left; rfl; (all_goals (intro hgd; cases hgd)); (try simp only [Act.put, yA, yB, yC, yD, yE, yF])) | ((with_reducible apply st_want); rfl) | ((with_reducible refine st_skip ?_ ?_); rfl; simp only [Act.put, yA, yB, yC, yD, yE, yF]) | ((first | ((with_reducible apply st_load1 H); decide +kernel; rfl; exact cF) | ((with_reducible apply st_loads H); decide +kernel; rfl; exact iF; exact zF; rfl)); clear H; intro wn H; (try simp only [splice, yG, yH, yI, yJ, yK, yL, yM, yN, yO, yP, yQ, Nat.reduceAdd, yA, yB, yC] at H); simp only [Act.put, yA, yB, yC, yD, yE, yF]) | ((first | ((with_reducible apply st_strsum H); rfl; rfl; exact szF; kernel_rfl)); clear H; intro wn H; simp only [Act.put, yA, yB, yC, yD, yE, yF]) | ((first | (go_at_call 15; refine gvF (c1 _ H.below) H ?_)); clear H; intro wn H) | fail)
    refine (HS.out _ _ _ _ H).mono ?_
    rintro e wn ⟨rfl, Hn⟩
    clear H
    have H := Hn
    clear Hn
    go_wp2_with (first | ((first | ((with_reducible refine st_gwT ?_ ?_); rfl) | ((with_reducible refine st_gwF ?_ ?_); rfl) | ((with_reducible refine st_gsT ?_ ?_); rfl) | ((with_reducible refine st_gsF ?_ ?_); rfl)); (try simp only [Act.put, yA, yB, yC, yD, yE, yF])) | ((with_reducible refine' st_guard ?_ ?_ ?_); rotate_left; rfl; (all_goals (intro hgd; cases hgd)); (try simp only [Act.put, yA, yB, yC, yD, yE, yF])) | ((with_reducible apply st_want); rfl) | ((with_reducible refine st_skip ?_ ?_); rfl; simp only [Act.put, yA, yB, yC, yD, yE, yF]) | ((first | ((with_reducible apply st_load1 H); decide +kernel; rfl; exact cF) | ((with_reducible apply st_loads H); decide +kernel; rfl; exact iF; exact zF; rfl)); clear H; intro wn H; (try simp only [splice, yG, yH, yI, yJ, yK, yL, yM, yN, yO, yP, yQ, Nat.reduceAdd, yA, yB, yC] at H); simp only [Act.put, yA, yB, yC, yD, yE, yF]) | ((first | ((with_reducible apply st_strsum H); rfl; rfl; exact szF; kernel_rfl)); clear H; intro wn H; simp only [Act.put, yA, yB, yC, yD, yE, yF]) | ((first | (go_at_call 15; refine gvF (c1 _ H.below) H ?_)); clear H; intro wn H) | fail)
    go_ret
    exact ret_flat (enc := encFm) (hl := fun _ => rfl) (l := fl.mergeSort leF) H rfl HLEN.out.symm
end Go.Proofs.Ythkebpgkhblcjaa
