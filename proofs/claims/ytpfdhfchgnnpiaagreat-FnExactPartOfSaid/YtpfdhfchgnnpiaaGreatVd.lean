/-
  A task that may be so, in the program: the walk.
-/
import Derived.Test.YtpfdhfchgnnpiaaGreatVc
import Derived.Test.YtpfdhfchgnnpiaaGreatG7
set_option linter.unusedSimpArgs false
set_option linter.unusedVariables false
namespace Go.Proofs.YtpfdhfchgnnpiaaGreat
open Go.RowKit M
namespace M
/-- taskOk by the answers of its tests -/
def taskF (zl zi zn zw zb zs ma mu za zB ze mg s2 s1 pl zT zP t0 : Bool) : Bool :=
  (zl && (zi && (zn && (zw && (zb && zs))))) && ((if (!ma && mu) then true else (za && zB) && !(ze && mg)) && (if (s2 || (s1 && pl)) then zT && zP else t0 && !pl))
theorem taskF_eq (l1 l2 id : Int) (ow : ByteArray) (need long prio u1 u2 aft born st start : Int) (nodes : List Int) :
    taskOk (((l1, l2), id, ow, need, long, prio, (u1, u2), aft, born, st, start), nodes) = taskF (labelOk l1 l2) (isIn id 1 12) (nameOk ow.data.toList) (workOk need long prio) (isIn born 0 999900) (isIn st 1 6)
      (aft != 0) (eqB (u1, u2) (0, 0)) (isIn aft 1 12) (okL (u1, u2) && (okL (l1, l2) && belowB (u1, u2) (l1, l2))) (eqB (u1, u2) (l1, l2)) (decide (id ≤ aft)) (st == 2) (st == 1) (decide (0 < nodes.length)) (isIn start 0 1000000) (numsOk nodes && decide ((nodes.length : Int) = need)) (start == 0) := by
  unfold taskOk taskF taskHead taskDep taskPlace
  have e1 : (!(aft != 0) && eqB (u1, u2) (0, 0)) = decide (aft = 0 ∧ u1 = 0 ∧ u2 = 0) := by
    unfold eqB
    by_cases h1 : aft = 0 <;> by_cases h2 : u1 = 0 <;> by_cases h3 : u2 = 0 <;> simp [h1, h2, h3]
  have e2 : ((st == 2) || ((st == 1) && decide (0 < nodes.length))) = decide (st = 2 ∨ (st = 1 ∧ 0 < nodes.length)) := by
    by_cases h1 : st = 2 <;> by_cases h2 : st = 1 <;> by_cases h3 : 0 < nodes.length <;> simp [h1, h2, h3]
  have e3 : (decide (start = 0) && decide (nodes.length = 0)) = ((start == 0) && !decide (0 < nodes.length)) := by
    by_cases h1 : start = 0 <;> by_cases h3 : nodes.length = 0 <;> simp [h1, h3]
    try omega
  rw [e1, e2]
  simp only [decide_eq_true_eq, e3]
end M
set_option maxRecDepth 100000 in
theorem hasPlace_i (l1 l2 id : Int) (ow : ByteArray) (need long prio u1 u2 aft born st start : Int) (A : Option Addr) (n k : Nat) (hn : n ≤ 9223372036854775807) (w : World) :
    Gives Tryz.prog 158 #[.agg #[.int .i64 l1, .int .i64 l2, .int .i64 id, .string ow, .int .i64 need, .int .i64 long, .int .i64 prio, .int .i64 u1, .int .i64 u2, .int .i64 aft, .int .i64 born, .int .i64 st, .int .i64 start, .slice A n k]] w (.bool (decide (0 < n))) := by
  have H := Hs.start noRow w
  unfold Gives
  go_enter Tryz.func158, Tryz.ntmps158
  go_wp2_with (first | ((((with_reducible apply st_load1 H); decide +kernel; rfl; exact cF)); clear H; intro wn H; (try simp only [splice, yG, yH, yI, yJ, yK, yL, yM, yN, yO, yP, yQ, Nat.reduceAdd, yA, yB, yC] at H); simp only [Act.put, yA, yB, yC, yD, yE, yF]) | ((((with_reducible apply st_box (dst := some 1) H); exact nF; intro b1)); clear H; intro wn H; simp only [Act.put, yA, yB, yC, yD, yE, yF]))
  go_ret
  exact ⟨rfl, H.below⟩
set_option maxRecDepth 100000 in
set_option maxHeartbeats 16000000 in
theorem taskRight_i (t : Ta) (cs : List Value) (hs : t.1.2.2.1.size ≤ maxLen) (w : World) (hr : tyTa.rd w cs t) : Gives Tryz.prog 147 #[.agg cs.toArray] w (.bool (taskOk t)) := by
  obtain ⟨A, n, k, rfl, h1⟩ := Ta_form hr
  obtain ⟨⟨⟨l1, l2⟩, id, ow, need, long, prio, ⟨u1, u2⟩, aft, born, st, start⟩, nodes⟩ := t
  simp only at h1 hs
  have hn : n = nodes.length ∧ n ≤ 9223372036854775807 := by obtain ⟨_, _, e, h, h'⟩ := sl_form h1; injection e; unfold maxLen at h'; omega
  show Gives Tryz.prog _ #[.agg #[.int .i64 l1, .int .i64 l2, .int .i64 id, .string ow, .int .i64 need, .int .i64 long, .int .i64 prio, .int .i64 u1, .int .i64 u2, .int .i64 aft, .int .i64 born, .int .i64 st, .int .i64 start, .slice A n k]] w _
  rw [taskF_eq]
  have c1 := fun w1 => labelRight_i l1 l2 w1
  have c2 := fun w1 => nameRight_i ow hs w1
  have c3 := fun w1 => isWork_i need long prio w1
  have c4 := fun w1 => isNow_i born w1
  have c5 := fun w1 => Below_i (u1, u2) (l1, l2) w1
  have c6 := fun w1 => tim_i start w1
  have c7 := fun w1 hb => nums_i _ nodes need w1 (Ty.below _ h1 hb)
  have c8 := fun w1 => hasPlace_i l1 l2 id ow need long prio u1 u2 aft born st start A n k hn.2 w1
  rw [← hn.1] at c7 ⊢
  simp only at c5
  clear h1 hr hs hn
  generalize labelOk l1 l2 = zl at *
  generalize nameOk ow.data.toList = zn at *
  generalize workOk need long prio = zw at *
  generalize isIn born 0 999900 = zb at *
  generalize (okL (u1, u2) && (okL (l1, l2) && belowB (u1, u2) (l1, l2))) = zB at *
  generalize isIn start 0 1000000 = zT at *
  generalize (numsOk nodes && decide ((n : Int) = need)) = zP at *
  have ei : isIn id 1 12 = (decide ((1 : Int) ≤ id) && decide (id ≤ 12)) := rfl
  have es : isIn st 1 6 = (decide ((1 : Int) ≤ st) && decide (st ≤ 6)) := rfl
  have ea : isIn aft 1 12 = (decide ((1 : Int) ≤ aft) && decide (aft ≤ 12)) := rfl
  have hza : (aft != 0) = false → (decide ((1 : Int) ≤ aft) && decide (aft ≤ 12)) = false := by
    intro h
    have h0 : aft = 0 := by simpa using h
    subst h0
    rfl
  rw [ei, es, ea]
  obtain ⟨zi, hi⟩ : ∃ z, (decide ((1 : Int) ≤ id) && decide (id ≤ 12)) = z := ⟨_, rfl⟩
  obtain ⟨zs, hs⟩ : ∃ z, (decide ((1 : Int) ≤ st) && decide (st ≤ 6)) = z := ⟨_, rfl⟩
  obtain ⟨za, ha⟩ : ∃ z, (decide ((1 : Int) ≤ aft) && decide (aft ≤ 12)) = z := ⟨_, rfl⟩
  obtain ⟨ma, hma⟩ : ∃ z, (aft != 0) = z := ⟨_, rfl⟩
  obtain ⟨mu, hmu⟩ : ∃ z, eqB (u1, u2) (0, 0) = z := ⟨_, rfl⟩
  obtain ⟨ze, hze⟩ : ∃ z, eqB (u1, u2) (l1, l2) = z := ⟨_, rfl⟩
  obtain ⟨mg, hmg⟩ : ∃ z, decide (id ≤ aft) = z := ⟨_, rfl⟩
  obtain ⟨s2, hs2⟩ : ∃ z, (st == 2) = z := ⟨_, rfl⟩
  obtain ⟨s1, hs1⟩ : ∃ z, (st == 1) = z := ⟨_, rfl⟩
  obtain ⟨pl, hpl⟩ : ∃ z, decide (0 < n) = z := ⟨_, rfl⟩
  obtain ⟨t0, ht0⟩ : ∃ z, (start == 0) = z := ⟨_, rfl⟩
  rw [hi, hs, ha, hma, hmu, hze, hmg, hs2, hs1, hpl, ht0]
  rw [ha, hma] at hza
  rw [hpl] at c8
  obtain ⟨z, hz⟩ : ∃ z, z = taskF zl zi zn zw zb zs ma mu za zB ze mg s2 s1 pl zT zP t0 := ⟨_, rfl⟩
  rw [← hz]
  have HZ := Lib.hid hz
  clear hz ei es ea
  have H := Hs.start noRow w
  unfold Gives
  rcases zl with _ | _
  rotate_left
  rcases zi with _ | _
  rotate_left
  rcases zn with _ | _
  rotate_left
  rcases zw with _ | _
  rotate_left
  rcases zb with _ | _
  rotate_left
  rcases zs with _ | _
  rotate_left
  have hd : ((ma = false ∧ mu = true) ∨ (ma = true ∧ za = true ∧ zB = true ∧ ze = false) ∨ (ma = true ∧ za = true ∧ zB = true ∧ ze = true ∧ mg = false)) ∨ ((ma = true ∧ za = false) ∨ (ma = false ∧ mu = false ∧ za = false) ∨ (ma = true ∧ za = true ∧ zB = false) ∨ (ma = true ∧ za = true ∧ zB = true ∧ ze = true ∧ mg = true)) := by
    revert hza
    cases ma <;> cases mu <;> cases za <;> cases zB <;> cases ze <;> cases mg <;> simp
  clear hza
  rcases hd with hd | hd
  · have hp : (s2 = true ∧ zT = false) ∨ (s2 = true ∧ zT = true) ∨ (s2 = false ∧ s1 = true ∧ pl = true ∧ zT = false) ∨ (s2 = false ∧ s1 = true ∧ pl = true ∧ zT = true) ∨ (s2 = false ∧ s1 = true ∧ pl = false ∧ t0 = false) ∨ (s2 = false ∧ s1 = true ∧ pl = false ∧ t0 = true) ∨ (s2 = false ∧ s1 = false ∧ t0 = false) ∨ (s2 = false ∧ s1 = false ∧ t0 = true) := by
      cases s2 <;> cases s1 <;> cases pl <;> cases zT <;> cases t0 <;> simp
    rcases hd with ⟨rfl, rfl⟩ | ⟨rfl, rfl, rfl, rfl⟩ | ⟨rfl, rfl, rfl, rfl, rfl⟩
    all_goals rcases hp with ⟨rfl, rfl⟩ | ⟨rfl, rfl⟩ | ⟨rfl, rfl, rfl, rfl⟩ | ⟨rfl, rfl, rfl, rfl⟩ | ⟨rfl, rfl, rfl, rfl⟩ | ⟨rfl, rfl, rfl, rfl⟩ | ⟨rfl, rfl, rfl⟩ | ⟨rfl, rfl, rfl⟩
    all_goals (
      go_enter Tryz.func147, Tryz.ntmps147
      go_wp2_with (first | ((first | ((with_reducible refine st_gwT ?_ ?_); rfl) | ((with_reducible refine st_gwF ?_ ?_); rfl) | ((with_reducible refine st_gsT ?_ ?_); rfl) | ((with_reducible refine st_gsF ?_ ?_); rfl)); (try simp only [Act.put, yA, yB, yC, yD, yE, yF])) | ((first | ((with_reducible apply st_load1 H); decide +kernel; rfl; exact cF) | ((with_reducible apply st_loads H); decide +kernel; rfl; exact iF; exact zF; rfl)); clear H; intro wn H; (try simp only [splice, yG, yH, yI, yJ, yK, yL, yM, yN, yO, yP, yQ, Nat.reduceAdd, yA, yB, yC] at H); simp only [Act.put, yA, yB, yC, yD, yE, yF]) | ((first | ((with_reducible apply st_box (dst := some 1) H); exact nF; intro b1) | ((first | ((with_reducible apply st_eqLabz H); rfl; rfl; (focus assumption)) | ((with_reducible apply st_neLabz H); rfl; rfl; (focus assumption))))); clear H; intro wn H; simp only [Act.put, yA, yB, yC, yD, yE, yF]) | ((first | (go_at_call 149; refine gvF (c1 _) H ?_) | (go_at_call 20; refine gvF (within_i _ _ _ _) H ?_) | (go_at_call 150; refine gvF (c2 _) H ?_) | (go_at_call 189; refine gvF (c3 _) H ?_) | (go_at_call 86; refine gvF (c4 _) H ?_) | (go_at_call 190; refine gvF (c5 _) H ?_) | (go_at_call 158; refine gvF (c8 _) H ?_) | (go_at_call 191; refine gvF (c6 _) H ?_) | (go_at_call 192; refine gvF (c7 _ H.below) H ?_)); clear H; intro wn H))
      go_ret
      exact ⟨by rw [HZ.out]; rfl, H.below⟩)
  rcases hd with ⟨rfl, rfl⟩ | ⟨rfl, rfl, rfl⟩ | ⟨rfl, rfl, rfl⟩ | ⟨rfl, rfl, rfl, rfl, rfl⟩
  all_goals (
    go_enter Tryz.func147, Tryz.ntmps147
    go_wp2_with (first | ((first | ((with_reducible refine st_gwT ?_ ?_); rfl) | ((with_reducible refine st_gwF ?_ ?_); rfl) | ((with_reducible refine st_gsF ?_ ?_); rfl)); (try simp only [Act.put, yA, yB, yC, yD, yE, yF])) | ((first | ((with_reducible apply st_load1 H); decide +kernel; rfl; exact cF) | ((with_reducible apply st_loads H); decide +kernel; rfl; exact iF; exact zF; rfl)); clear H; intro wn H; (try simp only [splice, yG, yH, yI, yJ, yK, yL, yM, yN, yO, yP, yQ, Nat.reduceAdd, yA, yB, yC] at H); simp only [Act.put, yA, yB, yC, yD, yE, yF]) | ((first | ((with_reducible apply st_box (dst := some 1) H); exact nF; intro b1) | ((first | ((with_reducible apply st_eqLabz H); rfl; rfl; (focus assumption)) | ((with_reducible apply st_neLabz H); rfl; rfl; (focus assumption))))); clear H; intro wn H; simp only [Act.put, yA, yB, yC, yD, yE, yF]) | ((first | (go_at_call 149; refine gvF (c1 _) H ?_) | (go_at_call 20; refine gvF (within_i _ _ _ _) H ?_) | (go_at_call 150; refine gvF (c2 _) H ?_) | (go_at_call 189; refine gvF (c3 _) H ?_) | (go_at_call 86; refine gvF (c4 _) H ?_) | (go_at_call 190; refine gvF (c5 _) H ?_)); clear H; intro wn H))
    go_ret
    exact ⟨by rw [HZ.out]; rfl, H.below⟩)
end Go.Proofs.YtpfdhfchgnnpiaaGreat
