/-
  The pairs and quotas of a configuration in the program: the walks.
-/
import Derived.Test.YtpfdhfchgnnpiaaGreatG4
set_option linter.unusedSimpArgs false
set_option linter.unusedVariables false
namespace Go.Proofs.YtpfdhfchgnnpiaaGreat
open Go.RowKit M
namespace M
/-- f holds from i on, up to n -/
def allFrom (f : Nat → Bool) (n i : Nat) : Bool := (List.range' i (n - i)).all f
theorem allFrom_step {f : Nat → Bool} {n i : Nat} (h : i < n) : allFrom f n i = (f i && allFrom f n (i + 1)) := by
  unfold allFrom
  rw [show n - i = (n - (i + 1)) + 1 by omega, List.range'_succ]
  rfl
theorem allFrom_end {f : Nat → Bool} {n i : Nat} (h : n ≤ i) : allFrom f n i = true := by
  unfold allFrom
  rw [show n - i = 0 by omega]
  rfl
def samePr (x y : Pr) : Bool := eqB x.1 y.1 && eqB x.2.1 y.2.1
def pairIn (labels : List Lab) (l : List Pr) (i : Nat) : Bool := match l[i]? with
  | some x => !(l.take i).any (samePr x) && (hasL labels x.1 && (hasL labels x.2.1 && (!belowB x.1 x.2.1 && isIn x.2.2 1 3)))
  | none => true
def pairsOk (labels : List Lab) (l : List Pr) : Bool := allFrom (pairIn labels l) l.length 0 && decide (l.length ≤ 4)
/-- the head of a slice that is read -/
theorem sl_take {α : Type} {T : Ty α} {E : TypeId} {w : World} {A : Option Addr} {n c i : Nat} {l : List α} (h : (Ty.sl E T).rd w [.slice A n c] l) (hi : i ≤ l.length) : (Ty.sl E T).rd w [.slice A i c] (l.take i) := by
  obtain ⟨v, xs, e, hr, hL⟩ := h
  injection e with e; subst e
  have hlen := hL.len
  obtain ⟨A', c', hv, hn, hc, hf⟩ := hr.form
  injection hv with h1 h2 h3
  subst h1 h2 h3
  have hle : i * T.s ≤ l.length * T.s := Nat.mul_le_mul_right _ hi
  refine ⟨_, xs.take (i * T.s), rfl, ?_, ?_⟩
  · rw [List.length_take, Nat.min_eq_left hi]
    refine ⟨by rw [List.length_take]; omega, A, c, rfl, by omega, hc, fun h0 => ?_⟩
    obtain ⟨b, off, hA, hcell⟩ := hf (by omega)
    refine ⟨b, off, hA, fun j u hu => hcell j u ?_⟩
    rw [List.getElem?_take] at hu
    split at hu
    · exact hu
    · cases hu
  · clear hr hf hn hle hlen
    induction i generalizing l xs with
    | zero => rw [Nat.zero_mul, List.take_zero, List.take_zero]; exact .nil
    | succ i ih =>
      cases hL with
      | nil => rw [List.take_nil, List.take_nil]; exact .nil
      | cons h1 h2 =>
        have hl := T.len h1
        rw [List.take_succ_cons, Nat.succ_mul, Nat.add_comm, List.take_append, hl, Nat.add_sub_cancel_left, List.take_of_length_le (by omega)]
        exact .cons h1 (ih (by simpa using hi) _ h2)
theorem At.blk {w : World} {b off : Nat} {t : TypeId} {cs : Array Value} {vs : List Value} (h : Blk w b t cs) (hs : ∀ j u, vs[j]? = some u → cs[off + j]? = some u) : At w b off vs := fun j u hu => by
  rw [h.cell]; exact hs j u hu
end M
theorem At.blk2 {w : World} {b off : Nat} {t : TypeId} {cs : Array Value} {u v : Value} (h : Blk w b t cs) (h0 : cs[off]? = some u) (h1 : cs[off + 1]? = some v) : At w b off [u, v] := At.blk h fun j x hx => by
  match j, hx with
  | 0, hx => exact h0.trans hx
  | 1, hx => exact h1.trans hx
set_option maxRecDepth 100000 in
set_option maxHeartbeats 4000000 in
theorem pairsC (x y : Pr) (b : Nat) (w : World) (h1 : At w b 0 (encLab x.1)) (h2 : At w b 2 (encLab x.2.1)) :
    Gives Tryz.prog 185 (#[.agg (encPr y).toArray] ++ #[.pointer (some ⟨b, 0, none⟩)]) w (.bool (samePr x y)) := by
  obtain ⟨⟨x1, x2⟩, ⟨x3, x4⟩, x5⟩ := x
  obtain ⟨⟨y1, y2⟩, ⟨y3, y4⟩, y5⟩ := y
  unfold encLab at h1 h2
  unfold encPr samePr
  simp only at h1 h2 ⊢
  have H := Hs.start noRow w
  unfold Gives
  show Calls _ _ #[.agg #[.int .i64 y1, .int .i64 y2, .int .i64 y3, .int .i64 y4, .int .i64 y5], .pointer (some ⟨b, 0, none⟩)] _ _
  cases hp1 : eqB (x1, x2) (y1, y2)
  · rw [Bool.false_and]
    go_enter Tryz.func185, Tryz.ntmps185
    go_wp2_with (first | ((((with_reducible refine st_gsT ?_ ?_); rfl)); (try simp only [Act.put, yA, yB, yC, yD, yE, yF])) | ((((with_reducible apply st_loads H); decide +kernel; rfl; exact iF; exact zF; rfl)); clear H; intro wn H; (try simp only [splice, yG, yH, yI, yJ, yK, yL, yM, yN, yO, yP, yQ, Nat.reduceAdd, yA, yB, yC] at H); simp only [Act.put, yA, yB, yC, yD, yE, yF]) | ((first | ((with_reducible apply st_box (dst := some 2) H); exact nF; intro b2) | ((((with_reducible apply st_eqLabz H); rfl; rfl; (focus assumption)))) | ((with_reducible apply st_loadat H); decide +kernel; rfl; exact aF; exact zF; rfl)); clear H; intro wn H; simp only [Act.put, yA, yB, yC, yD, yE, yF]))
    go_ret
    exact ⟨rfl, H.below⟩
  · rw [Bool.true_and]
    cases hp2 : eqB (x3, x4) (y3, y4)
    all_goals
      go_enter Tryz.func185, Tryz.ntmps185
    all_goals (
      go_wp2_with (first | ((((with_reducible refine st_gwT ?_ ?_); rfl)); (try simp only [Act.put, yA, yB, yC, yD, yE, yF])) | ((((with_reducible apply st_loads H); decide +kernel; rfl; exact iF; exact zF; rfl)); clear H; intro wn H; (try simp only [splice, yG, yH, yI, yJ, yK, yL, yM, yN, yO, yP, yQ, Nat.reduceAdd, yA, yB, yC] at H); simp only [Act.put, yA, yB, yC, yD, yE, yF]) | ((first | ((with_reducible apply st_box (dst := some 2) H); exact nF; intro b2) | ((((with_reducible apply st_eqLabz H); rfl; rfl; (focus assumption)))) | ((with_reducible apply st_loadat H); decide +kernel; rfl; exact aF; exact zF; rfl)); clear H; intro wn H; simp only [Act.put, yA, yB, yC, yD, yE, yF]))
      )
    all_goals go_ret
    all_goals exact ⟨rfl, H.below⟩
set_option maxRecDepth 100000 in
set_option maxHeartbeats 4000000 in
theorem pairsOf_i (nA qA : Option Addr) (nn nc qn qc : Nat) (hf : Int) (v lv : Value) (l : List Pr) (labels : List Lab) (hlab : ∀ a, hasL labels a = true → okL a = true) (w : World) (hr : (Ty.sl 103 tyPr).rd w [v] l) (hrl : (Ty.sl 66 tyLab).rd w [lv] labels) :
    Gives Tryz.prog 141 #[.agg #[.slice nA nn nc, v, .slice qA qn qc, .int .i64 hf], lv] w (.bool (pairsOk labels l)) := by
  have eg : ∀ args w, (callFunc 185 args).run Tryz.prog w = .ok (.enter 185 args) w := enters_of Tryz.func185 (by kernel_rfl) rfl
  have EG := Lib.hid eg
  have HLAB := Lib.hid hlab
  have HRL := Lib.hid hrl
  obtain ⟨B, bn, hlv⟩ : ∃ B bn, lv = .slice B labels.length bn := by obtain ⟨B, bn, h, _⟩ := sl_form hrl; exact ⟨B, bn, h⟩
  subst hlv
  obtain ⟨ln, hln⟩ : ∃ ln, ln = labels.length := ⟨_, rfl⟩
  rw [← hln] at HRL ⊢
  obtain ⟨A, c, rfl, hlc, hcm⟩ := sl_form hr
  unfold maxLen at *
  have HR := Lib.hid hr
  obtain ⟨n, hn⟩ : ∃ n, n = l.length := ⟨_, rfl⟩
  have hnl : n ≤ 9223372036854775807 := by omega
  have hnc : n ≤ c := by omega
  rw [← hn] at HR ⊢
  have HN := Lib.hid hn
  obtain ⟨z, hz⟩ : ∃ z, z = pairsOk labels l := ⟨_, rfl⟩
  rw [← hz]
  obtain ⟨f, hf'⟩ : ∃ f, f = pairIn labels l := ⟨_, rfl⟩
  have HF := Lib.hid hf'
  have HZ : Hid (z = (allFrom f n 0 && decide (n ≤ 4))) := Lib.hid (by rw [hz, hf', hn]; rfl)
  clear hr hn hlc hcm hrl eg hlab hz hf' hln
  have H := Hs.start noRow w
  unfold Gives
  go_enter Tryz.func141, Tryz.ntmps141
  go_wp2_with (first | ((((with_reducible apply st_load1 H); decide +kernel; rfl; exact cF)); clear H; intro wn H; (try simp only [splice, yG, yH, yI, yJ, yK, yL, yM, yN, yO, yP, yQ, Nat.reduceAdd, yA, yB, yC] at H); simp only [Act.put, yA, yB, yC, yD, yE, yF]) | ((((with_reducible apply st_box (dst := some 2) H); exact nF; intro b2)); clear H; intro wn H; simp only [Act.put, yA, yB, yC, yD, yE, yF]))
  go_loopg [11] n (fun m iv wr => ∃ (i : Nat), i + m = n ∧ iv = .int .i64 i ∧ Hid (z = (allFrom f n i && decide (n ≤ 4))) ∧ Hs noRow w [Hl.blk b2 43 #[.slice nA nn nc, .slice A n c, .slice qA qn qc, .int .i64 hf]] wr)
  case atStart => exact ⟨0, by omega, rfl, HZ, H⟩
  case round =>
    clear H
    obtain ⟨i, hi, rfl, HI, H⟩ := hrel
    by_cases hlt : i < n
    · obtain ⟨x, hx⟩ : ∃ x, l[i]? = some x := ⟨l[i]'(by rw [← HN.out]; exact hlt), List.getElem?_eq_getElem (by rw [← HN.out]; exact hlt)⟩
      have hs := sl_at (by have := HR.out; rw [HN.out] at this; exact this) hx
      rw [← HN.out] at hs
      obtain ⟨b, off, c', cs, hv, hcs, hA⟩ := hs
      injection hv with hv1 hv2 hv3
      subst hv1 hv3
      obtain rfl : cs = encPr x := hcs
      have hstep := HI.out
      have hfi : f i = (!(l.take i).any (samePr x) && (hasL labels x.1 && (hasL labels x.2.1 && (!belowB x.1 x.2.1 && isIn x.2.2 1 3)))) := by rw [HF.out]; unfold pairIn; rw [hx]
      rw [allFrom_step hlt, hfi] at hstep
      clear hfi
      have hT := sl_take HR.out (i := i) (by rw [← HN.out]; omega)
      have hlt1 : (i : Int) < n := by omega
      have hlt2 : (i : Int) ≤ n := by omega
      have hlt3 : (i : Int) ≤ c := by omega
      have hlt4 : i ≤ c := by omega
      have hlt5 : i ≤ n := by omega
      clear hx hv2
      obtain ⟨⟨x1, x2⟩, ⟨x3, x4⟩, x5⟩ := x
      have c1 := fun w1 hb => contains_Lab _ labels (x1, x2) w1 (Ty.below _ HRL.out hb)
      have c2 := fun w1 hb => contains_Lab _ labels (x3, x4) w1 (Ty.below _ HRL.out hb)
      have c3 : hasL labels (x1, x2) = true → hasL labels (x3, x4) = true → ∀ w1, Gives Tryz.prog 186 _ w1 _ := fun h1 h2 w1 => below_i (x1, x2) (x3, x4) (HLAB.out _ h1) (HLAB.out _ h2) w1
      have c4 := fun w1 => within_i x5 1 3 w1
      have HP := fun (b6 : Nat) w1 (hb : Below w.heap.size w w1) h1 h2 => containsFunc_Pr _ (l.take i) (samePr ((x1, x2), (x3, x4), x5)) 185 #[.pointer (some ⟨b6, 0, none⟩)] w1 EG.out (Ty.below _ hT hb) (fun w2 hb2 _ y _ => pairsC ((x1, x2), (x3, x4), x5) y b6 w2 (At.below h1 hb2) (At.below h2 hb2))
      unfold encPr at hA
      simp only at c1 c2 c3 hA hstep HP
      clear hT
      generalize (l.take i).any (samePr ((x1, x2), (x3, x4), x5)) = z0 at *
      generalize hasL labels (x1, x2) = z1 at *
      generalize hasL labels (x3, x4) = z2 at *
      generalize belowB (x1, x2) (x3, x4) = z3 at *
      unfold isIn at hstep
      generalize (decide (1 ≤ x5) && decide (x5 ≤ 3)) = z4 at *
      go_wp2_with (first | ((first | ((with_reducible apply st_load1 H); decide +kernel; rfl; exact cF) | ((with_reducible apply st_store H); rfl; exact eF; (focus (exact cells_agg _)); exact uF; kernel_rfl; (focus (exact Nat.le_of_ble_eq_true (by rfl))); (focus (rfl)))); clear H; intro wn H; (try simp only [splice, yG, yH, yI, yJ, yK, yL, yM, yN, yO, yP, yQ, Nat.reduceAdd, yA, yB, yC] at H); simp only [Act.put, yA, yB, yC, yD, yE, yF]) | ((first | ((with_reducible apply st_alloc (dst := some 6) H); exact nF; intro b6) | ((with_reducible apply st_loadat H); decide +kernel; rfl; exact aF; exact zF; rfl)); clear H; intro wn H; simp only [Act.put, yA, yB, yC, yD, yE, yF]))
      refine gvF (HP _ _ H.below (At.blk2 (H.blk .here) rfl rfl) (At.blk2 (H.blk .here) rfl rfl)) H ?_; clear H; intro wn H
      clear HP
      cases z0
      case true =>
        have HI2 : Hid (z = false) := Lib.hid (by rw [hstep]; simp)
        clear hstep
        go_wp2_with (((((with_reducible refine st_gsF ?_ ?_); rfl)); (try simp only [Act.put, yA, yB, yC, yD, yE, yF])))
        go_ret
        exact ⟨by rw [HI2.out]; rfl, H.below⟩
      cases z1
      case false =>
        have HI2 : Hid (z = false) := Lib.hid (by rw [hstep]; simp)
        clear hstep
        go_wp2_with (first | ((first | ((with_reducible refine st_gwF ?_ ?_); rfl) | ((with_reducible refine st_gsF ?_ ?_); rfl)); (try simp only [Act.put, yA, yB, yC, yD, yE, yF])) | ((((with_reducible apply st_loads H); decide +kernel; rfl; exact iF; exact zF; rfl)); clear H; intro wn H; (try simp only [splice, yG, yH, yI, yJ, yK, yL, yM, yN, yO, yP, yQ, Nat.reduceAdd, yA, yB, yC] at H); simp only [Act.put, yA, yB, yC, yD, yE, yF]) | (((go_at_call 94; refine gvF ((by exact c1 _ H.below)) H ?_)); clear H; intro wn H))
        go_ret
        exact ⟨by rw [HI2.out]; rfl, H.below⟩
      cases z2
      case false =>
        have HI2 : Hid (z = false) := Lib.hid (by rw [hstep]; simp)
        clear hstep
        go_wp2_with (first | ((first | ((with_reducible refine st_gwF ?_ ?_); rfl) | ((with_reducible refine st_gsF ?_ ?_); rfl)); (try simp only [Act.put, yA, yB, yC, yD, yE, yF])) | ((((with_reducible apply st_loads H); decide +kernel; rfl; exact iF; exact zF; rfl)); clear H; intro wn H; (try simp only [splice, yG, yH, yI, yJ, yK, yL, yM, yN, yO, yP, yQ, Nat.reduceAdd, yA, yB, yC] at H); simp only [Act.put, yA, yB, yC, yD, yE, yF]) | (((go_at_call 94; refine gvF ((by first | exact c1 _ H.below | exact c2 _ H.below)) H ?_)); clear H; intro wn H))
        go_ret
        exact ⟨by rw [HI2.out]; rfl, H.below⟩
      have c5 := c3 rfl rfl
      clear c3
      cases z3
      case true =>
        have HI2 : Hid (z = false) := Lib.hid (by rw [hstep]; simp)
        clear hstep
        go_wp2_with (first | ((first | ((with_reducible refine st_gwF ?_ ?_); rfl) | ((with_reducible refine st_gsF ?_ ?_); rfl)); (try simp only [Act.put, yA, yB, yC, yD, yE, yF])) | ((((with_reducible apply st_loads H); decide +kernel; rfl; exact iF; exact zF; rfl)); clear H; intro wn H; (try simp only [splice, yG, yH, yI, yJ, yK, yL, yM, yN, yO, yP, yQ, Nat.reduceAdd, yA, yB, yC] at H); simp only [Act.put, yA, yB, yC, yD, yE, yF]) | ((first | (go_at_call 94; refine gvF ((by first | exact c1 _ H.below | exact c2 _ H.below)) H ?_) | (go_at_call 186; refine gvF (c5 _) H ?_)); clear H; intro wn H))
        go_ret
        exact ⟨by rw [HI2.out]; rfl, H.below⟩
      cases z4
      case false =>
        have HI2 : Hid (z = false) := Lib.hid (by rw [hstep]; simp)
        clear hstep
        go_wp2_with (first | ((((with_reducible refine st_gwF ?_ ?_); rfl)); (try simp only [Act.put, yA, yB, yC, yD, yE, yF])) | ((first | ((with_reducible apply st_load1 H); decide +kernel; rfl; exact cF) | ((with_reducible apply st_loads H); decide +kernel; rfl; exact iF; exact zF; rfl)); clear H; intro wn H; (try simp only [splice, yG, yH, yI, yJ, yK, yL, yM, yN, yO, yP, yQ, Nat.reduceAdd, yA, yB, yC] at H); simp only [Act.put, yA, yB, yC, yD, yE, yF]) | ((first | (go_at_call 94; refine gvF ((by first | exact c1 _ H.below | exact c2 _ H.below)) H ?_) | (go_at_call 186; refine gvF (c5 _) H ?_) | (go_at_call 20; refine gvF (c4 _) H ?_)); clear H; intro wn H))
        go_ret
        exact ⟨by rw [HI2.out]; rfl, H.below⟩
      have HI2 : Hid (z = (allFrom f n (i + 1) && decide (n ≤ 4))) := Lib.hid (by rw [hstep]; simp)
      clear hstep
      go_wp2_with (first | ((((with_reducible refine st_gwF ?_ ?_); rfl)); (try simp only [Act.put, yA, yB, yC, yD, yE, yF])) | ((first | ((with_reducible apply st_load1 H); decide +kernel; rfl; exact cF) | ((with_reducible apply st_loads H); decide +kernel; rfl; exact iF; exact zF; rfl)); clear H; intro wn H; (try simp only [splice, yG, yH, yI, yJ, yK, yL, yM, yN, yO, yP, yQ, Nat.reduceAdd, yA, yB, yC] at H); simp only [Act.put, yA, yB, yC, yD, yE, yF]) | ((first | (go_at_call 94; refine gvF ((by first | exact c1 _ H.below | exact c2 _ H.below)) H ?_) | (go_at_call 186; refine gvF (c5 _) H ?_) | (go_at_call 20; refine gvF (c4 _) H ?_)); clear H; intro wn H))
      go_roundg (n - (i + 1))
      case measure => omega
      case rel => exact ⟨i + 1, by omega, by go_num, HI2, H.sel sF⟩
    · obtain rfl : i = n := by omega
      have hlt1 : ¬ (i : Int) < i := by omega
      have hz := HI.out
      rw [allFrom_end (Nat.le_refl _), Bool.true_and] at hz
      have HI2 := Lib.hid hz
      clear hz HI HZ
      by_cases h4 : i ≤ 4
      · have h5 : (i : Int) ≤ 4 := by omega
        have HI3 : Hid (z = true) := Lib.hid (by rw [HI2.out]; simp [h4])
        go_wp2_with (((((with_reducible apply st_load1 H); decide +kernel; rfl; exact cF)); clear H; intro wn H; (try simp only [splice, yG, yH, yI, yJ, yK, yL, yM, yN, yO, yP, yQ, Nat.reduceAdd, yA, yB, yC] at H); simp only [Act.put, yA, yB, yC, yD, yE, yF]))
        go_ret
        exact ⟨by rw [HI3.out]; rfl, H.below⟩
      · have h5 : ¬ (i : Int) ≤ 4 := by omega
        have HI3 : Hid (z = false) := Lib.hid (by rw [HI2.out]; simp [h4])
        go_wp2_with (((((with_reducible apply st_load1 H); decide +kernel; rfl; exact cF)); clear H; intro wn H; (try simp only [splice, yG, yH, yI, yJ, yK, yL, yM, yN, yO, yP, yQ, Nat.reduceAdd, yA, yB, yC] at H); simp only [Act.put, yA, yB, yC, yD, yE, yF]))
        go_ret
        exact ⟨by rw [HI3.out]; rfl, H.below⟩
end Go.Proofs.YtpfdhfchgnnpiaaGreat
