/-
  Yards that may be so, in the program: the walk.
-/
import Derived.Test.YtpfdhfchgnnpiaaGreatVp
import Derived.Test.YtpfdhfchgnnpiaaGreatGB
import Derived.Test.YtpfdhfchgnnpiaaGreatCp
set_option linter.unusedSimpArgs false
set_option linter.unusedVariables false
namespace Go.Proofs.YtpfdhfchgnnpiaaGreat
open Go.RowKit M
namespace M
def takeN (run : Bool) : List Bool → List Int → Option (List Bool)
  | u, [] => some u
  | u, n :: l => if run && (u[n.toNat]?).getD false then none else takeN run (u.set n.toNat ((u[n.toNat]?).getD false || run)) l
def takeT (nd : List (List Lab)) (now : Int) : List Bool → List Ta → Bool
  | _, [] => true
  | u, x :: l => fitOk nd now x && (match takeN (tkSt x == 2) u x.2 with
    | some u' => takeT nd now u' l
    | none => false)
theorem takeN_false : ∀ (l : List Int) (u : List Bool), takeN false u l = some u
  | [], u => rfl
  | n :: l, u => by
    unfold takeN
    rw [Bool.false_and, if_neg (by simp), Bool.or_false]
    have e : u.set n.toNat ((u[n.toNat]?).getD false) = u := by
      rcases Nat.lt_or_ge n.toNat u.length with h | h
      · rw [List.getElem?_eq_getElem h]
        exact List.set_getElem_self h
      · exact List.set_eq_of_length_le h
    rw [e]
    exact takeN_false l u
def bArr (u : List Bool) : Array Value := (u.map Value.bool).toArray
theorem bArr_splice {u : List Bool} {n : Nat} {q : Bool} (h : n < u.length) : splice (bArr u) n [.bool q] = bArr (u.set n q) := by
  unfold splice bArr
  congr 1
  rw [List.map_set, List.set_eq_take_append_cons_drop, if_pos (by rw [List.length_map]; exact h)]
  simp
theorem bArr_get {u : List Bool} {n : Nat} {q : Bool} (h : u[n]? = some q) : (bArr u)[n]? = some (.bool q) := by
  unfold bArr
  rw [List.getElem?_toArray, List.getElem?_map, h]
  rfl
theorem bArr_fit {u : List Bool} {n : Nat} {v : Value} (h : n < u.length) : n + [v].length ≤ (bArr u).size := by
  unfold bArr
  rw [List.size_toArray, List.length_map]
  exact h
theorem tasks_all {l : List Ta} (h : tasksOk l = true) : ∀ (i : Nat) (x : Ta), l[i]? = some x → taskOk x = true := by
  unfold tasksOk at h
  rw [Bool.and_eq_true, allFrom_iff l.length 0 (by omega)] at h
  intro i x hx
  have h1 := h.2 i (by omega) (List.getElem?_eq_some_iff.1 hx).1
  unfold taskIn at h1
  rw [hx] at h1
  simp only [Bool.and_eq_true] at h1
  exact h1.1
theorem takeT_at {nd : List (List Lab)} {now : Int} {u : List Bool} {l : List Ta} {i : Nat} {x : Ta} (h : l[i]? = some x) : takeT nd now u (l.drop i) = (fitOk nd now x && (match takeN (tkSt x == 2) u x.2 with
    | some u' => takeT nd now u' (l.drop (i + 1))
    | none => false)) := by
  obtain ⟨hlt, rfl⟩ := List.getElem?_eq_some_iff.1 h
  rw [List.drop_eq_getElem_cons hlt]
  rfl
theorem takeN_at {run q : Bool} {u : List Bool} {l : List Int} {i : Nat} {n : Nat} (h : l[i]? = some (n : Int)) (hq : u[n]? = some q) : takeN run u (l.drop i) = if run && q then none else takeN run (u.set n (q || run)) (l.drop (i + 1)) := by
  obtain ⟨hlt, e⟩ := List.getElem?_eq_some_iff.1 h
  rw [List.drop_eq_getElem_cons hlt, e]
  show (if run && (u[(n : Int).toNat]?).getD false then none else takeN run (u.set (n : Int).toNat ((u[(n : Int).toNat]?).getD false || run)) (l.drop (i + 1))) = _
  rw [Int.toNat_natCast, hq]
  rfl
def liveIn (c : Cfg) (l : List Ta) : Bool := (labelsOf c.1).all fun a => decide ((liveN a l : Int) ≤ quotaOf c a)
def usesIn (c : Cfg) (l : List Us) : Bool := l.all fun x => hasL (labelsOf c.1) x.1
def yardOk (y : Yd) : Bool := cfgOk y.1 && (decide (y.2.1.length = y.1.1.length) && (nodesOk y.2.1 && (tasksOk y.2.2.1 && (usesOk y.2.2.2.1 && (isIn y.2.2.2.2 0 999900 && (takeT y.1.1 y.2.2.2.2 (List.replicate 6 false) y.2.2.1 && (liveIn y.1 y.2.2.1 && usesIn y.1 y.2.2.2.1)))))))
end M
set_option maxRecDepth 100000 in
set_option maxHeartbeats 4000000 in
theorem yardC1 (y : Yd) (ys : List Value) (x : Lab) (b : Nat) (hok : cfgOk y.1 = true) (w : World) (hy : tyYd.rd w ys y) (hB : At w b 0 ys) :
    Gives Tryz.prog 89 (#[.agg #[.int .i64 x.1, .int .i64 x.2]] ++ #[.pointer (some ⟨b, 0, none⟩)]) w (.bool (decide (quotaOf y.1 x < (liveN x y.2.2.1 : Int)))) := by
  obtain ⟨A1, n1, k1, A2, n2, k2, A3, n3, k3, A4, n4, k4, A5, n5, k5, A6, n6, k6, rfl, g1, g2, g3, g4⟩ := Yd_form hy
  have c1 := fun w1 hb => liveOf_i _ y.2.2.1 x w1 (Ty.below _ g3 hb)
  have c2 := fun w1 hb => quotaOf_i y.1 _ x hok w1 (Ty.below _ g1 hb)
  have hA : At w b 0 [.slice A1 n1 k1, .slice A2 n2 k2, .slice A3 n3 k3, .int .i64 y.1.2.2.2] := At.pre (us := [.slice A4 n4 k4, .slice A5 n5 k5, .slice A6 n6 k6, .int .i64 y.2.2.2.2]) hB
  have h5 : w.cell? ⟨b, 5, none⟩ = some (.slice A5 n5 k5) := by have h := hB 5 (.slice A5 n5 k5) rfl; rw [Nat.zero_add] at h; exact h
  clear hy g1 g2 g3 g4 hB hok
  generalize (liveN x y.2.2.1 : Int) = lv at *
  generalize quotaOf y.1 x = qv at *
  generalize y.1.2.2.2 = hf at *
  obtain ⟨x1, x2⟩ := x
  simp only at c1 c2
  replace c2 : ∀ w1, Below w.heap.size w w1 → Gives Tryz.prog 91 #[.agg #[.slice A1 n1 k1, .slice A2 n2 k2, .slice A3 n3 k3, .int .i64 hf], .agg #[.int .i64 x1, .int .i64 x2]] w1 (.int .i64 qv) := c2
  have H := Hs.start noRow w
  unfold Gives
  show Calls _ _ #[.agg #[.int .i64 x1, .int .i64 x2], .pointer (some ⟨b, 0, none⟩)] _ _
  go_enter Tryz.func89, Tryz.ntmps89
  go_wp2_with (first | ((((with_reducible apply st_box (dst := some 2) H); exact nF; intro b2)); clear H; intro wn H; simp only [Act.put, yA, yB, yC, yD, yE, yF]) | ((with_reducible apply wp_region_hq (id := 1) H); kernel_rfl; kernel_rfl; (iterate 3 (all_goals ((with_reducible refine' hq_step ?_ ?_ ?_); rotate_left; rfl; (focus (intro w1 H1; first | (exact qF) | (exact qVF))); (try simp only [yG, yH, yJ, yK]); simp only [Act.put, yA, yB, yC, yD, yE, yF]))); (all_goals ((with_reducible refine' hq_step ?_ ?_ ?_); rotate_left; rfl; (focus (intro w1 H1; unfold QOk; go_simp; exact q_call (c1 _ H1.below))); (try simp only [yG, yH, yJ, yK]); simp only [Act.put, yA, yB, yC, yD, yE, yF])); (iterate 3 (all_goals ((with_reducible refine' hq_step ?_ ?_ ?_); rotate_left; rfl; (focus (intro w1 H1; first | (first | exact qF | exact qAF) | (exact qVF))); (try simp only [yG, yH, yJ, yK]); simp only [Act.put, yA, yB, yC, yD, yE, yF]))); (all_goals ((with_reducible refine' hq_step ?_ ?_ ?_); rotate_left; rfl; (focus (intro w1 H1; unfold QOk; go_simp; exact q_call (c2 _ H1.below))); (try simp only [yG, yH, yJ, yK]); simp only [Act.put, yA, yB, yC, yD, yE, yF])); (iterate 2 (all_goals ((with_reducible refine' hq_step ?_ ?_ ?_); rotate_left; rfl; (focus (intro w1 H1; exact qVF)); (try simp only [yG, yH, yJ, yK]); simp only [Act.put, yA, yB, yC, yD, yE, yF]))); all_goals (refine wpQuiet_nil ?_; clear H; intro wn H)))
  go_ret
  exact ⟨rfl, H.below⟩
set_option maxRecDepth 100000 in
set_option maxHeartbeats 4000000 in
theorem yardC2 (v : Value) (l : List Lab) (x : Us) (b : Nat) (w : World) (h0 : w.cell? ⟨b, 0, none⟩ = some v) (hr : (Ty.sl 66 tyLab).rd w [v] l) :
    Gives Tryz.prog 93 (#[.agg #[.int .i64 x.1.1, .int .i64 x.1.2, .string x.2.1, .int .i64 x.2.2]] ++ #[.pointer (some ⟨b, 0, none⟩)]) w (.bool (!hasL l x.1)) := by
  have c1 := fun w1 hb => contains_Lab v l x.1 w1 (Ty.below _ hr hb)
  obtain ⟨A, c, rfl, _, _⟩ := sl_form hr
  obtain ⟨⟨x1, x2⟩, x3, x4⟩ := x
  simp only at c1
  generalize hasL l (x1, x2) = z at *
  generalize l.length = n at *
  clear hr
  have H := Hs.start noRow w
  unfold Gives
  show Calls _ _ #[.agg #[.int .i64 x1, .int .i64 x2, .string x3, .int .i64 x4], .pointer (some ⟨b, 0, none⟩)] _ _
  go_enter Tryz.func93, Tryz.ntmps93
  go_wp2_with (first | ((first | ((with_reducible apply st_load1 H); decide +kernel; rfl; exact cF) | ((with_reducible apply st_loads H); decide +kernel; rfl; exact iF; exact zF; rfl)); clear H; intro wn H; (try simp only [splice, yG, yH, yI, yJ, yK, yL, yM, yN, yO, yP, yQ, Nat.reduceAdd, yA, yB, yC] at H); simp only [Act.put, yA, yB, yC, yD, yE, yF]) | ((((with_reducible apply st_box (dst := some 2) H); exact nF; intro b2)); clear H; intro wn H; simp only [Act.put, yA, yB, yC, yD, yE, yF]) | (((go_at_call 94; refine gvF (c1 _ H.below) H ?_)); clear H; intro wn H))
  go_ret
  exact ⟨rfl, H.below⟩
set_option maxRecDepth 100000 in
set_option maxHeartbeats 4000000 in
theorem yardNo_i (y : Yd) (ys : List Value) (h0 : cfgOk y.1 = false) (w : World) (hy : tyYd.rd w ys y) : Gives Tryz.prog 42 #[.agg ys.toArray] w (.bool false) := by
  obtain ⟨A1, n1, k1, A2, n2, k2, A3, n3, k3, A4, n4, k4, A5, n5, k5, A6, n6, k6, rfl, g1, g2, g3, g4⟩ := Yd_form hy
  have c1 := fun w1 hb => configRight_i y.1 _ w1 (Ty.below _ g1 hb)
  rw [h0] at c1
  generalize y.1.2.2.2 = hf at *
  generalize y.2.2.2.2 = now at *
  clear hy g1 g2 g3 g4 h0
  replace c1 : ∀ w1, Below w.heap.size w w1 → Gives Tryz.prog 82 #[.agg #[.slice A1 n1 k1, .slice A2 n2 k2, .slice A3 n3 k3, .int .i64 hf]] w1 (.bool false) := c1
  have H := Hs.start noRow w
  unfold Gives
  show Calls _ _ #[.agg #[.slice A1 n1 k1, .slice A2 n2 k2, .slice A3 n3 k3, .int .i64 hf, .slice A4 n4 k4, .slice A5 n5 k5, .slice A6 n6 k6, .int .i64 now]] _ _
  go_enter Tryz.func42, Tryz.ntmps42
  go_wp2_with (first | ((((with_reducible refine st_gsF ?_ ?_); rfl)); (try simp only [Act.put, yA, yB, yC, yD, yE, yF])) | ((((with_reducible apply st_loads H); decide +kernel; rfl; exact iF; exact zF; rfl)); clear H; intro wn H; (try simp only [splice, yG, yH, yI, yJ, yK, yL, yM, yN, yO, yP, yQ, Nat.reduceAdd, yA, yB, yC] at H); simp only [Act.put, yA, yB, yC, yD, yE, yF]) | ((((with_reducible apply st_box (dst := some 1) H); exact nF; intro b1)); clear H; intro wn H; simp only [Act.put, yA, yB, yC, yD, yE, yF]) | (((go_at_call 82; refine gvF (c1 _ H.below) H ?_)); clear H; intro wn H))
  go_ret
  exact ⟨rfl, H.below⟩
set_option maxRecDepth 100000 in
set_option maxHeartbeats 8000000 in
theorem yardRight_i (y : Yd) (ys : List Value) (hsT : ∀ (i : Nat) (x : Ta), y.2.2.1[i]? = some x → x.1.2.2.1.size ≤ maxLen) (hsU : ∀ (i : Nat) (x : Us), y.2.2.2.1[i]? = some x → x.2.1.size ≤ maxLen) (w : World) (hy : tyYd.rd w ys y) :
    Gives Tryz.prog 42 #[.agg ys.toArray] w (.bool (yardOk y)) := by
  by_cases hcf : cfgOk y.1 = false
  · have e : yardOk y = false := by unfold yardOk; rw [hcf]; rfl
    rw [e]
    exact yardNo_i y ys hcf w hy
  have hct : cfgOk y.1 = true := by simpa using hcf
  clear hcf
  have eg1 : ∀ args w, (callFunc 89 args).run Tryz.prog w = .ok (.enter 89 args) w := enters_of Tryz.func89 (by kernel_rfl) rfl
  have eg2 : ∀ args w, (callFunc 93 args).run Tryz.prog w = .ok (.enter 93 args) w := enters_of Tryz.func93 (by kernel_rfl) rfl
  have HY := Lib.hid hy
  obtain ⟨A1, n1, k1, A2, n2, k2, A3, n3, k3, A4, n4, k4, A5, n5, k5, A6, n6, k6, rfl, g1, g2, g3, g4⟩ := Yd_form hy
  obtain ⟨c, nds, tks, uss, now⟩ := y
  simp only at hsT hsU hct g1 g2 g3 g4
  have hn4 : n4 = nds.length := by obtain ⟨_, _, e, h, h'⟩ := sl_form g2; injection e
  have hn5 : n5 = tks.length ∧ n5 ≤ 9223372036854775807 := by obtain ⟨_, _, e, h, h'⟩ := sl_form g3; injection e; unfold maxLen at h'; omega
  have hn1 : n1 = c.1.length := by
    obtain ⟨w1_, w2_, w3_, e0, g5, _, _⟩ := cfg_form g1
    injection e0 with e1
    obtain ⟨_, _, e, h, h'⟩ := sl_form g5
    rw [← e1] at e
    injection e
  have c1 := fun w1 hb => configRight_i c _ w1 (Ty.below _ g1 hb)
  have c2 := fun w1 hb => nodesRight_i _ nds w1 (Ty.below _ g2 hb)
  have c3 := fun w1 hb => tasksRight_i _ tks hsT w1 (Ty.below _ g3 hb)
  have c4 := fun w1 hb => usesRight_i _ uss hsU w1 (Ty.below _ g4 hb)
  have c5 := fun w1 => isNow_i now w1
  have HG1 := Lib.hid g1
  have HG3 := Lib.hid g3
  have HG4 := Lib.hid g4
  have hn51 := hn5.2
  have HN := Lib.hid hn5.1
  obtain ⟨z, hz⟩ : ∃ z, z = yardOk (c, nds, tks, uss, now) := ⟨_, rfl⟩
  show Gives Tryz.prog _ #[.agg #[.slice A1 n1 k1, .slice A2 n2 k2, .slice A3 n3 k3, .int .i64 c.2.2.2, .slice A4 n4 k4, .slice A5 n5 k5, .slice A6 n6 k6, .int .i64 now]] w (.bool (yardOk (c, nds, tks, uss, now)))
  rw [← hz]
  have HZ : Hid (z = (cfgOk c && (decide (n4 = n1) && (nodesOk nds && (tasksOk tks && (usesOk uss && (isIn now 0 999900 && (takeT c.1 now (List.replicate 6 false) tks && (liveIn c tks && usesIn c uss))))))))) := Lib.hid (by rw [hz, hn4, hn1]; rfl)
  have HOK : Hid (cfgOk c = true → c.1.length ≤ 6 ∧ clearOk c.1 = true) := Lib.hid fun h => ⟨(cfg_nodes h).2, cfg_clear h⟩
  have HTA : Hid (tasksOk tks = true → ∀ (i : Nat) (x : Ta), tks[i]? = some x → taskOk x = true) := Lib.hid tasks_all
  have HNW : Hid (isIn now 0 999900 = true → 0 ≤ now ∧ now ≤ 999900) := Lib.hid fun h => by unfold isIn at h; simpa using h
  obtain ⟨z1, hz1⟩ : ∃ b, b = cfgOk c := ⟨_, rfl⟩
  obtain ⟨z3, hz3⟩ : ∃ b, b = nodesOk nds := ⟨_, rfl⟩
  obtain ⟨z4, hz4⟩ : ∃ b, b = tasksOk tks := ⟨_, rfl⟩
  obtain ⟨z5, hz5⟩ : ∃ b, b = usesOk uss := ⟨_, rfl⟩
  obtain ⟨z6, hz6⟩ : ∃ b, b = isIn now 0 999900 := ⟨_, rfl⟩
  have HC : Hid (z1 = cfgOk c) := Lib.hid hz1
  rw [← hz1, ← hz3, ← hz4, ← hz5, ← hz6] at HZ
  rw [← hz1] at c1 HOK
  rw [← hz3] at c2
  rw [← hz4] at c3 HTA
  rw [← hz5] at c4
  rw [← hz6] at c5 HNW
  replace c1 : ∀ w1, Below w.heap.size w w1 → Gives Tryz.prog 82 #[.agg #[.slice A1 n1 k1, .slice A2 n2 k2, .slice A3 n3 k3, .int .i64 c.2.2.2]] w1 (.bool z1) := c1
  obtain rfl : z1 = true := HC.out.trans hct
  clear hy hz g1 g2 g3 g4 hsT hsU hn1 hn4 hn5 hz1 hz3 hz4 hz5 hz6 hct
  have H := Hs.start noRow w
  unfold Gives
  by_cases hl : n4 = n1
  case neg =>
    have hl1 : ((n4 : Int) == (n1 : Int)) = false := beq_eq_false_iff_ne.2 (by omega)
    have hl2 : ¬ (n4 : Int) = n1 := by omega
    have hl3 : ((n4 : Int) != (n1 : Int)) = true := bne_iff_ne.2 (by omega)
    have HZ9 : Hid (z = false) := Lib.hid (by rw [HZ.out, decide_eq_false hl]; simp)
    go_enter Tryz.func42, Tryz.ntmps42
    go_wp2_with (first | ((first | ((with_reducible refine st_gwF ?_ ?_); rfl) | ((with_reducible refine st_gsF ?_ ?_); rfl)); (try simp only [Act.put, yA, yB, yC, yD, yE, yF])) | ((first | ((with_reducible apply st_load1 H); decide +kernel; rfl; exact cF) | ((with_reducible apply st_loads H); decide +kernel; rfl; exact iF; exact zF; rfl)); clear H; intro wn H; (try simp only [splice, yG, yH, yI, yJ, yK, yL, yM, yN, yO, yP, yQ, Nat.reduceAdd, yA, yB, yC] at H); simp only [Act.put, yA, yB, yC, yD, yE, yF]) | ((((with_reducible apply st_box (dst := some 1) H); exact nF; intro b1)); clear H; intro wn H; simp only [Act.put, yA, yB, yC, yD, yE, yF]) | (((go_at_call 82; refine gvF (c1 _ H.below) H ?_)); clear H; intro wn H))
    go_ret
    exact ⟨by rw [HZ9.out]; rfl, H.below⟩
  subst hl
  have hd : (z3 = false ∨ (z3 = true ∧ z4 = false) ∨ (z3 = true ∧ z4 = true ∧ z5 = false) ∨ (z3 = true ∧ z4 = true ∧ z5 = true ∧ z6 = false)) ∨ (z3 = true ∧ z4 = true ∧ z5 = true ∧ z6 = true) := by cases z3 <;> cases z4 <;> cases z5 <;> cases z6 <;> simp
  rcases hd with hd | ⟨rfl, rfl, rfl, rfl⟩
  · have HZ9 : Hid (z = false) := Lib.hid (by rw [HZ.out]; rcases hd with rfl | ⟨rfl, rfl⟩ | ⟨rfl, rfl, rfl⟩ | ⟨rfl, rfl, rfl, rfl⟩ <;> simp)
    rcases hd with rfl | ⟨rfl, rfl⟩ | ⟨rfl, rfl, rfl⟩ | ⟨rfl, rfl, rfl, rfl⟩
    all_goals (
      go_enter Tryz.func42, Tryz.ntmps42
      go_wp2_with (first | ((first | ((with_reducible refine st_gwF ?_ ?_); rfl) | ((with_reducible refine st_gsF ?_ ?_); rfl)); (try simp only [Act.put, yA, yB, yC, yD, yE, yF])) | ((first | ((with_reducible apply st_load1 H); decide +kernel; rfl; exact cF) | ((with_reducible apply st_loads H); decide +kernel; rfl; exact iF; exact zF; rfl)); clear H; intro wn H; (try simp only [splice, yG, yH, yI, yJ, yK, yL, yM, yN, yO, yP, yQ, Nat.reduceAdd, yA, yB, yC] at H); simp only [Act.put, yA, yB, yC, yD, yE, yF]) | ((((with_reducible apply st_box (dst := some 1) H); exact nF; intro b1)); clear H; intro wn H; simp only [Act.put, yA, yB, yC, yD, yE, yF]) | ((first | (go_at_call 82; refine gvF (c1 _ H.below) H ?_) | (go_at_call 83; refine gvF (c2 _ H.below) H ?_) | (go_at_call 84; refine gvF (c3 _ H.below) H ?_) | (go_at_call 85; refine gvF (c4 _ H.below) H ?_) | (go_at_call 86; refine gvF (c5 _) H ?_)); clear H; intro wn H))
      go_ret
      exact ⟨by rw [HZ9.out]; rfl, H.below⟩)
  have HZ1 : Hid (z = (takeT c.1 now (List.replicate 6 false) (tks.drop 0) && (liveIn c tks && usesIn c uss))) := Lib.hid (by rw [HZ.out]; simp)
  have HOK2 := Lib.hid (HOK.out rfl)
  have HTA2 := Lib.hid (HTA.out rfl)
  have HNW2 := Lib.hid (HNW.out rfl)
  clear HZ HOK HTA HNW
  go_enter Tryz.func42, Tryz.ntmps42
  go_wp2_with (first | ((((with_reducible refine st_gwF ?_ ?_); rfl)); (try simp only [Act.put, yA, yB, yC, yD, yE, yF])) | ((first | ((with_reducible apply st_load1 H); decide +kernel; rfl; exact cF) | ((with_reducible apply st_loads H); decide +kernel; rfl; exact iF; exact zF; rfl) | ((with_reducible apply st_store H); rfl; exact eF; (focus (exact cells_agg _)); exact uF; kernel_rfl; (focus (exact Nat.le_of_ble_eq_true (by rfl))); (focus (rfl)))); clear H; intro wn H; (try simp only [splice, yG, yH, yI, yJ, yK, yL, yM, yN, yO, yP, yQ, Nat.reduceAdd, yA, yB, yC] at H); simp only [Act.put, yA, yB, yC, yD, yE, yF]) | ((first | ((with_reducible apply st_box (dst := some 1) H); exact nF; intro b1) | ((with_reducible apply st_alloc (dst := some 3) H); exact nF; intro b3)); clear H; intro wn H; simp only [Act.put, yA, yB, yC, yD, yE, yF]) | ((first | (go_at_call 82; refine gvF (c1 _ H.below) H ?_) | (go_at_call 83; refine gvF (c2 _ H.below) H ?_) | (go_at_call 84; refine gvF (c3 _ H.below) H ?_) | (go_at_call 85; refine gvF (c4 _ H.below) H ?_) | (go_at_call 86; refine gvF (c5 _) H ?_)); clear H; intro wn H))
  rw [show (#[.bool false, .bool false, .bool false, .bool false, .bool false, .bool false] : Array Value) = bArr (List.replicate 6 false) from rfl] at H
  go_loopg [5, 7, 51, 62] n5 (fun m _ _ iv _ wr => ∃ (i : Nat) (u : List Bool), i + m = n5 ∧ iv = .int .i64 i ∧ u.length = 6 ∧ Hid (z = (takeT c.1 now u (tks.drop i) && (liveIn c tks && usesIn c uss))) ∧ Hs noRow w [Hl.blk b3 158 (bArr u), Hl.blk b1 48 #[.slice A1 n4 k1, .slice A2 n2 k2, .slice A3 n3 k3, .int .i64 c.2.2.2, .slice A4 n4 k4, .slice A5 n5 k5, .slice A6 n6 k6, .int .i64 now]] wr)
  case atStart => exact ⟨0, List.replicate 6 false, by omega, rfl, rfl, HZ1, H.sel sF⟩
  case round =>
    clear H HZ1
    obtain ⟨i, u, hi, rfl, hu6, HI, H⟩ := hrel
    by_cases hlt : i < n5
    · obtain ⟨x, hx⟩ : ∃ x, tks[i]? = some x := ⟨tks[i]'(by rw [← HN.out]; exact hlt), List.getElem?_eq_getElem (by rw [← HN.out]; exact hlt)⟩
      have hs := sl_at HG3.out hx
      rw [← HN.out] at hs
      obtain ⟨b, off, c', cs, hv, hcs, hA⟩ := hs
      injection hv with hv1 hv2 hv3
      subst hv1 hv3
      have hto := HTA2.out i x hx
      have hstep := HI.out
      rw [takeT_at hx] at hstep
      have c6 := fun w1 hb => taskFits_i (c, nds, tks, uss, now) _ x cs HOK2.out.1 hto HNW2.out w1 (Ty.below _ HY.out hb) (Ty.below _ hcs hb)
      have hq3 : ∀ n ∈ x.2, 0 ≤ n ∧ n ≤ 5 := by
        obtain ⟨⟨⟨l1, l2⟩, id, ow, need, long, prio, ⟨u1, u2⟩, aft, born, st, start⟩, nodes⟩ := x
        exact (taskOk_run hto).2.2
      obtain ⟨A, nk, kk, rfl, h1⟩ := Ta_form hcs
      have hnk : nk = x.2.length ∧ nk ≤ 9223372036854775807 := by obtain ⟨_, _, e, h, h'⟩ := sl_form h1; injection e; unfold maxLen at h'; omega
      have hnk2 := hnk.2
      have HNK := Lib.hid hnk.1
      have HM := Lib.hid h1
      have HQ3 := Lib.hid hq3
      have hlt1 : (i : Int) < n5 := by omega
      generalize hfz : fitOk c.1 now x = fz at *
      obtain ⟨⟨⟨l1, l2⟩, id, ow, need, long, prio, ⟨u1, u2⟩, aft, born, st, start⟩, nodes⟩ := x
      simp only at hA c6 hstep HNK HM HQ3
      have hA : At w b (off + i * 14) [.int .i64 l1, .int .i64 l2, .int .i64 id, .string ow, .int .i64 need, .int .i64 long, .int .i64 prio, .int .i64 u1, .int .i64 u2, .int .i64 aft, .int .i64 born, .int .i64 st, .int .i64 start, .slice A nk kk] := hA
      replace c6 : ∀ w1, Below w.heap.size w w1 → Gives Tryz.prog 87 #[.agg #[.slice A1 n4 k1, .slice A2 n2 k2, .slice A3 n3 k3, .int .i64 c.2.2.2, .slice A4 n4 k4, .slice (some ⟨b, off, none⟩) n5 k5, .slice A6 n6 k6, .int .i64 now], .agg #[.int .i64 l1, .int .i64 l2, .int .i64 id, .string ow, .int .i64 need, .int .i64 long, .int .i64 prio, .int .i64 u1, .int .i64 u2, .int .i64 aft, .int .i64 born, .int .i64 st, .int .i64 start, .slice A nk kk]] w1 (.bool fz) := c6
      clear hx hv2 hto hq3 hcs h1 hnk HI hfz
      cases fz
      · have HZ9 : Hid (z = false) := Lib.hid (by rw [hstep]; rfl)
        clear hstep
        go_wp2_with (first | ((first | ((with_reducible apply st_loads H); decide +kernel; rfl; exact iF; exact zF; rfl) | ((with_reducible apply st_store H); rfl; exact eF; (focus (exact cells_agg _)); exact uF; kernel_rfl; (focus (exact Nat.le_of_ble_eq_true (by rfl))); (focus (rfl)))); clear H; intro wn H; (try simp only [splice, yG, yH, yI, yJ, yK, yL, yM, yN, yO, yP, yQ, Nat.reduceAdd, yA, yB, yC] at H); simp only [Act.put, yA, yB, yC, yD, yE, yF]) | ((first | ((with_reducible apply st_alloc (dst := some 5) H); exact nF; intro b5) | ((with_reducible apply st_loadat H); decide +kernel; rfl; exact aF; exact zF; rfl)); clear H; intro wn H; simp only [Act.put, yA, yB, yC, yD, yE, yF]) | (((go_at_call 87; refine gvF (c6 _ H.below) H ?_)); clear H; intro wn H))
        go_ret
        exact ⟨by rw [HZ9.out]; rfl, H.below⟩
      obtain ⟨run, hrun⟩ : ∃ b, (st == 2) = b := ⟨_, rfl⟩
      have hstep : z = ((match takeN run u (nodes.drop 0) with
        | some u' => takeT c.1 now u' (tks.drop (i + 1))
        | none => false) && (liveIn c tks && usesIn c uss)) := by rw [hstep, ← hrun]; rfl
      have HK0 : Hid (z = ((match takeN run u (nodes.drop 0) with
        | some u' => takeT c.1 now u' (tks.drop (i + 1))
        | none => false) && (liveIn c tks && usesIn c uss))) := Lib.hid hstep
      clear hstep
      go_wp2_with (first | ((first | ((with_reducible apply st_load1 H); decide +kernel; rfl; exact cF) | ((with_reducible apply st_loads H); decide +kernel; rfl; exact iF; exact zF; rfl) | ((with_reducible apply st_store H); rfl; exact eF; (focus (exact cells_agg _)); exact uF; kernel_rfl; (focus (exact Nat.le_of_ble_eq_true (by rfl))); (focus (rfl)))); clear H; intro wn H; (try simp only [splice, yG, yH, yI, yJ, yK, yL, yM, yN, yO, yP, yQ, Nat.reduceAdd, yA, yB, yC] at H); simp only [Act.put, yA, yB, yC, yD, yE, yF]) | ((first | ((with_reducible apply st_alloc (dst := some 5) H); exact nF; intro b5) | ((with_reducible apply st_loadat H); decide +kernel; rfl; exact aF; exact zF; rfl)); clear H; intro wn H; simp only [Act.put, yA, yB, yC, yD, yE, yF]) | (((go_at_call 87; refine gvF (c6 _ H.below) H ?_)); clear H; intro wn H))
      go_loopg [7, 62] nk (fun m _ kv wr => ∃ (k : Nat) (u : List Bool), k + m = nk ∧ kv = .int .i64 k ∧ u.length = 6 ∧ Hid (z = ((match takeN run u (nodes.drop k) with
        | some u' => takeT c.1 now u' (tks.drop (i + 1))
        | none => false) && (liveIn c tks && usesIn c uss))) ∧ Hs noRow w [Hl.blk b5 97 #[.int .i64 l1, .int .i64 l2, .int .i64 id, .string ow, .int .i64 need, .int .i64 long, .int .i64 prio, .int .i64 u1, .int .i64 u2, .int .i64 aft, .int .i64 born, .int .i64 st, .int .i64 start, .slice A nk kk], Hl.blk b3 158 (bArr u), Hl.blk b1 48 #[.slice A1 n4 k1, .slice A2 n2 k2, .slice A3 n3 k3, .int .i64 c.2.2.2, .slice A4 n4 k4, .slice (some ⟨b, off, none⟩) n5 k5, .slice A6 n6 k6, .int .i64 now]] wr)
      case atStart => exact ⟨0, u, by omega, rfl, hu6, HK0, H.sel sF⟩
      case round =>
        clear H HK0 hu6
        obtain ⟨k, u, hk, rfl, hu6, HK, H⟩ := hrel
        by_cases hltk : k < nk
        · obtain ⟨n, hn⟩ : ∃ n, nodes[k]? = some n := ⟨nodes[k]'(by rw [← HNK.out]; exact hltk), List.getElem?_eq_getElem (by rw [← HNK.out]; exact hltk)⟩
          have hs := sl_at HM.out hn
          rw [← HNK.out] at hs
          obtain ⟨bn, offn, c'', cs, hv, hcs, hN⟩ := hs
          injection hv with hv1 hv2 hv3
          subst hv1 hv3
          obtain rfl : cs = encNum n := hcs
          have hn5 := HQ3.out n (List.mem_of_getElem? hn)
          obtain ⟨n, rfl⟩ : ∃ m : Nat, n = (m : Int) := ⟨n.toNat, by omega⟩
          have h0 : w.cell? ⟨bn, offn + k, none⟩ = some (.int .i64 n) := by have h := hN.head (u := .int .i64 n) rfl; rw [show k * tyNum.s = k from Nat.mul_one k] at h; exact h
          have hnn : n < u.length := by omega
          have hn6 : n < 6 := by omega
          have hn7 : (n : Int) < 6 := by omega
          obtain ⟨q, hq⟩ : ∃ q, u[n]? = some q := ⟨u[n], List.getElem?_eq_getElem hnn⟩
          have hstep := HK.out
          rw [takeN_at hn hq] at hstep
          have hltk1 : (k : Int) < nk := by omega
          clear hn hv2 hN HK
          cases run
          case true =>
            cases q
            case true =>
              have HZ9 : Hid (z = false) := Lib.hid (by rw [hstep]; rfl)
              clear hstep
              go_wp2_with (first | ((with_reducible apply st_load1 H); decide +kernel; rfl; (focus exact H.cell iF (bArr_get (by assumption))); clear H; intro wn H; simp only [Act.put, yA, yB, yC, yD, yE, yF]) | ((((with_reducible refine st_gwT ?_ ?_); rfl)); (try simp only [Act.put, yA, yB, yC, yD, yE, yF])) | ((((with_reducible apply st_load1 H); decide +kernel; rfl; exact cF)); clear H; intro wn H; (try simp only [splice, yG, yH, yI, yJ, yK, yL, yM, yN, yO, yP, yQ, Nat.reduceAdd, yA, yB, yC] at H); simp only [Act.put, yA, yB, yC, yD, yE, yF]))
              go_ret
              exact ⟨by rw [HZ9.out]; rfl, H.below⟩
            case false =>
              have HK2 := Lib.hid hstep
              clear hstep
              go_wp2_with (first | ((with_reducible apply st_load1 H); decide +kernel; rfl; (focus exact H.cell iF (bArr_get (by assumption))); clear H; intro wn H; simp only [Act.put, yA, yB, yC, yD, yE, yF]) | ((with_reducible apply st_store H); rfl; exact eF; (focus (exact (rfl : _ = [_]))); exact uF; kernel_rfl; (focus exact bArr_fit hnn); rfl; clear H; intro wn H; rw [bArr_splice hnn] at H; simp only [Act.put, yA, yB, yC, yD, yE, yF]) | ((first | ((with_reducible refine st_gwT ?_ ?_); rfl) | ((with_reducible refine st_gwF ?_ ?_); rfl)); (try simp only [Act.put, yA, yB, yC, yD, yE, yF])) | ((((with_reducible apply st_load1 H); decide +kernel; rfl; exact cF)); clear H; intro wn H; (try simp only [splice, yG, yH, yI, yJ, yK, yL, yM, yN, yO, yP, yQ, Nat.reduceAdd, yA, yB, yC] at H); simp only [Act.put, yA, yB, yC, yD, yE, yF]))
              go_roundg (nk - (k + 1))
              case measure => omega
              case rel => first | exact ⟨k + 1, u.set n true, by omega, by go_num, by rw [List.length_set]; exact hu6, HK2, H.sel sF⟩ | exact ⟨k + 1, u.set n false, by omega, by go_num, by rw [List.length_set]; exact hu6, HK2, H.sel sF⟩
          case false =>
            cases q
            all_goals (
              have HK2 := Lib.hid hstep
              clear hstep
              go_wp2_with (first | ((with_reducible apply st_load1 H); decide +kernel; rfl; (focus exact H.cell iF (bArr_get (by assumption))); clear H; intro wn H; simp only [Act.put, yA, yB, yC, yD, yE, yF]) | ((with_reducible apply st_store H); rfl; exact eF; (focus (exact (rfl : _ = [_]))); exact uF; kernel_rfl; (focus exact bArr_fit hnn); rfl; clear H; intro wn H; rw [bArr_splice hnn] at H; simp only [Act.put, yA, yB, yC, yD, yE, yF]) | ((first | ((with_reducible refine st_gwF ?_ ?_); rfl) | ((with_reducible refine st_gsF ?_ ?_); rfl)); (try simp only [Act.put, yA, yB, yC, yD, yE, yF])) | ((((with_reducible apply st_load1 H); decide +kernel; rfl; exact cF)); clear H; intro wn H; (try simp only [splice, yG, yH, yI, yJ, yK, yL, yM, yN, yO, yP, yQ, Nat.reduceAdd, yA, yB, yC] at H); simp only [Act.put, yA, yB, yC, yD, yE, yF]))
              go_roundg (nk - (k + 1))
              case measure => omega
              case rel => first | exact ⟨k + 1, u.set n true, by omega, by go_num, by rw [List.length_set]; exact hu6, HK2, H.sel sF⟩ | exact ⟨k + 1, u.set n false, by omega, by go_num, by rw [List.length_set]; exact hu6, HK2, H.sel sF⟩)
        · obtain rfl : k = nk := by omega
          have hltk1 : ¬ (k : Int) < k := by omega
          have HI2 : Hid (z = (takeT c.1 now u (tks.drop (i + 1)) && (liveIn c tks && usesIn c uss))) := Lib.hid (by
            rw [HK.out, List.drop_of_length_le (by rw [← HNK.out]; exact Nat.le_refl _)]
            cases run <;> rfl)
          clear HK
          go_wp2_with (fail)
          go_roundg (n5 - (i + 1))
          case measure => omega
          case rel => exact ⟨i + 1, u, by omega, by go_num, hu6, HI2, H.sel sF⟩
    · obtain rfl : i = n5 := by omega
      have hlt1 : ¬ (i : Int) < i := by omega
      have HE : Hid (z = (liveIn c tks && usesIn c uss)) := Lib.hid (by rw [HI.out, List.drop_of_length_le (by rw [← HN.out]; exact Nat.le_refl _)]; rfl)
      clear HI
      obtain ⟨_, _, _, e0, g5, _, _⟩ := cfg_form HG1.out
      injection e0 with e1 e0
      injection e0 with e2 e0
      injection e0 with e3 e0
      subst e1 e2 e3
      clear e0
      have c7 := fun w1 hb => labels_i (.slice A1 n4 k1) A2 A3 n2 k2 n3 k3 c.2.2.2 c.1 HOK2.out.2 w1 (Ty.below _ g5 hb)
      clear g5 c1 c2 c3 c4 c5
      go_wp2_with (((((with_reducible apply st_loads H); decide +kernel; rfl; exact iF; exact zF; rfl)); clear H; intro wn H; (try simp only [splice, yG, yH, yI, yJ, yK, yL, yM, yN, yO, yP, yQ, Nat.reduceAdd, yA, yB, yC] at H); simp only [Act.put, yA, yB, yC, yD, yE, yF]))
      refine (Rets.use (c7 _ H.below)).mono ?_; rintro e wn ⟨_, _, rfl, ⟨N, hN, rfl, hone⟩, hkk⟩; have Hn := H.moreK (by intro k hk; first | exact absurd hk List.not_mem_nil | (obtain rfl := List.mem_singleton.1 hk; exact In.mem iF)) hkk; clear hkk; clear H; have H := Hn; clear Hn; (try simp only [yT, yV] at H)
      have hN2 := own_single hN hone rfl
      clear hN hone c7
      obtain ⟨B, cb, rfl, _, _⟩ := sl_form (own_rd H .here hN2)
      have HN2 := Lib.hid hN2
      clear hN2
      generalize (labelsOf c.1).length = kl at *
      go_wp2_with (first | ((first | ((with_reducible apply st_load1 H); decide +kernel; rfl; exact cF) | ((with_reducible apply st_store H); rfl; exact eF; (focus (exact cells_agg _)); exact uF; kernel_rfl; (focus (exact Nat.le_of_ble_eq_true (by rfl))); (focus (rfl)))); clear H; intro wn H; (try simp only [splice, yG, yH, yI, yJ, yK, yL, yM, yN, yO, yP, yQ, Nat.reduceAdd, yA, yB, yC] at H); simp only [Act.put, yA, yB, yC, yD, yE, yF]) | ((((with_reducible apply st_alloc (dst := some 8) H); exact nF; intro b8)); clear H; intro wn H; simp only [Act.put, yA, yB, yC, yD, yE, yF]))
      refine gvF (containsFunc_Lab _ (labelsOf c.1) (fun a => decide (quotaOf c a < (liveN a tks : Int))) 89 #[.pointer (some ⟨b1, 0, none⟩)] _ eg1 (own_rd H iF HN2.out) (fun w1 hb _ x _ => yardC1 (c, nds, tks, uss, now) _ x b1 HC.out.symm w1 (Ty.below _ HY.out (H.below.trans (hb.mono H.below.size))) (fun j u hu => by rw [Nat.zero_add]; have hc := H.cell (g := b1) (o := j) (v := u) iF (by simpa using hu); exact (hb.cell (World.block_lt_of_cell? _ _ hc)).trans hc))) H ?_; clear H; intro wn H
      obtain ⟨zl, hzl⟩ : ∃ b, b = (labelsOf c.1).any (fun a => decide (quotaOf c a < (liveN a tks : Int))) := ⟨_, rfl⟩
      rw [← hzl]
      have HZL : Hid (liveIn c tks = !zl) := Lib.hid (by
        rw [hzl, any_not_all (p := fun a => decide ((liveN a tks : Int) ≤ quotaOf c a)) (fun a => by by_cases h : (liveN a tks : Int) ≤ quotaOf c a <;> simp [h] <;> omega), Bool.not_not]
        rfl)
      clear hzl
      cases zl
      case true =>
        have HZ9 : Hid (z = false) := Lib.hid (by rw [HE.out, HZL.out]; rfl)
        go_wp2_with (fail)
        go_ret
        exact ⟨by rw [HZ9.out]; rfl, H.below⟩
      case false =>
        have HZ9 : Hid (z = usesIn c uss) := Lib.hid (by rw [HE.out, HZL.out]; rfl)
        go_wp2_with (((((with_reducible apply st_load1 H); decide +kernel; rfl; exact cF)); clear H; intro wn H; (try simp only [splice, yG, yH, yI, yJ, yK, yL, yM, yN, yO, yP, yQ, Nat.reduceAdd, yA, yB, yC] at H); simp only [Act.put, yA, yB, yC, yD, yE, yF]))
        refine gvF (containsFunc_Us _ uss (fun x => !hasL (labelsOf c.1) x.1) 93 #[.pointer (some ⟨b8, 0, none⟩)] _ eg2 (Ty.below _ HG4.out H.below) (fun w1 hb _ x _ => yardC2 _ (labelsOf c.1) x b8 w1 (by have hc := H.cell (g := b8) (o := 0) iF rfl; exact (hb.cell (World.block_lt_of_cell? _ _ hc)).trans hc) (Ty.below _ (own_rd H iF HN2.out) hb))) H ?_; clear H; intro wn H
        rw [any_not_all (p := fun x : Us => hasL (labelsOf c.1) x.1) (fun _ => rfl) uss]
        rw [show (uss.all fun x : Us => hasL (labelsOf c.1) x.1) = z from HZ9.out.symm]
        go_wp2_with (fail)
        go_ret
        exact ⟨by simp, H.below⟩
end Go.Proofs.YtpfdhfchgnnpiaaGreat
