/-
  The place of a task, in the program and in the reference: the walks.
-/
import Derived.Test.YtpfdhfchgnnpiaaGreatVb
import Derived.Test.YtpfdhfchgnnpiaaGreatCq
set_option linter.unusedSimpArgs false
set_option linter.unusedVariables false
namespace Go.Proofs.YtpfdhfchgnnpiaaGreat
open Go.RowKit M
namespace M
def tkEq (a : Lab) (k : Int) (x : Ta) : Bool := eqB x.1.1 a && x.1.2.1 == k
end M
set_option maxRecDepth 100000 in
set_option maxHeartbeats 4000000 in
theorem taskAtC (p : Lab) (k : Int) (t : Ta) (cs : List Value) (b d : Nat) (w : World) (hr : tyTa.rd w cs t) (h1 : At w b 0 (encLab p)) (h2 : At w d 0 [.int .i64 k]) :
    Gives Tryz.prog 194 (#[.agg cs.toArray] ++ #[.pointer (some ⟨b, 0, none⟩), .pointer (some ⟨d, 0, none⟩)]) w (.bool (tkEq p k t)) := by
  obtain ⟨A, n, j, rfl, _⟩ := Ta_form hr
  obtain ⟨⟨⟨l1, l2⟩, id, ow, need, long, prio, ⟨u1, u2⟩, aft, born, st, start⟩, nodes⟩ := t
  obtain ⟨p1, p2⟩ := p
  unfold encLab at h1
  unfold tkEq
  simp only at h1 ⊢
  clear hr
  have h3 : w.cell? ⟨d, 0, none⟩ = some (.int .i64 k) := h2 0 _ rfl
  have H := Hs.start noRow w
  unfold Gives
  show Calls _ _ #[.agg #[.int .i64 l1, .int .i64 l2, .int .i64 id, .string ow, .int .i64 need, .int .i64 long, .int .i64 prio, .int .i64 u1, .int .i64 u2, .int .i64 aft, .int .i64 born, .int .i64 st, .int .i64 start, .slice A n j], .pointer (some ⟨b, 0, none⟩), .pointer (some ⟨d, 0, none⟩)] _ _
  cases hp1 : eqB (l1, l2) (p1, p2)
  · rw [Bool.false_and]
    go_enter Tryz.func194, Tryz.ntmps194
    go_wp2_with (first | ((((with_reducible refine st_gsT ?_ ?_); rfl)); (try simp only [Act.put, yA, yB, yC, yD, yE, yF])) | ((((with_reducible apply st_loads H); decide +kernel; rfl; exact iF; exact zF; rfl)); clear H; intro wn H; (try simp only [splice, yG, yH, yI, yJ, yK, yL, yM, yN, yO, yP, yQ, Nat.reduceAdd, yA, yB, yC] at H); simp only [Act.put, yA, yB, yC, yD, yE, yF]) | ((first | ((with_reducible apply st_box (dst := some 3) H); exact nF; intro b3) | ((((with_reducible apply st_eqLabz H); rfl; rfl; (focus assumption)))) | ((with_reducible apply st_loadat H); decide +kernel; rfl; exact aF; exact zF; rfl)); clear H; intro wn H; simp only [Act.put, yA, yB, yC, yD, yE, yF]))
    go_ret
    exact ⟨rfl, H.below⟩
  · rw [Bool.true_and]
    obtain ⟨z, hz⟩ : ∃ z, (id == k) = z := ⟨_, rfl⟩
    rw [hz]
    cases z
    all_goals
      go_enter Tryz.func194, Tryz.ntmps194
    all_goals (
      go_wp2_with (first | ((((with_reducible refine st_gwT ?_ ?_); rfl)); (try simp only [Act.put, yA, yB, yC, yD, yE, yF])) | ((first | ((with_reducible apply st_load1 H); decide +kernel; rfl; exact cF) | ((with_reducible apply st_loads H); decide +kernel; rfl; exact iF; exact zF; rfl)); clear H; intro wn H; (try simp only [splice, yG, yH, yI, yJ, yK, yL, yM, yN, yO, yP, yQ, Nat.reduceAdd, yA, yB, yC] at H); simp only [Act.put, yA, yB, yC, yD, yE, yF]) | ((first | ((with_reducible apply st_box (dst := some 3) H); exact nF; intro b3) | ((((with_reducible apply st_eqLabz H); rfl; rfl; (focus assumption)))) | ((with_reducible apply st_loadat H); decide +kernel; rfl; exact aF; exact zF; rfl)); clear H; intro wn H; simp only [Act.put, yA, yB, yC, yD, yE, yF]))
      )
    all_goals go_ret
    all_goals exact ⟨rfl, H.below⟩
set_option maxRecDepth 100000 in
set_option maxHeartbeats 4000000 in
theorem taskAt_i (v : Value) (l : List Ta) (p : Lab) (k : Int) (w : World) (hr : (Ty.sl 97 tyTa).rd w [v] l) :
    Gives Tryz.prog 148 #[v, .agg #[.int .i64 p.1, .int .i64 p.2], .int .i64 k] w (.int .i64 (idxF (tkEq p k) 0 l)) := by
  have eg : ∀ args w, (callFunc 194 args).run Tryz.prog w = .ok (.enter 194 args) w := enters_of Tryz.func194 (by kernel_rfl) rfl
  obtain ⟨p1, p2⟩ := p
  simp only
  have HP := fun (b4 b5 : Nat) w1 (hb : Below w.heap.size w w1) k1 k2 => indexFunc_Ta v l (tkEq (p1, p2) k) 194 #[.pointer (some ⟨b4, 0, none⟩), .pointer (some ⟨b5, 0, none⟩)] w1 eg (Ty.below _ hr hb) (fun w2 hb2 _ y cs _ hy => taskAtC (p1, p2) k y cs b4 b5 w2 hy (At.below k1 hb2) (At.below k2 hb2))
  clear hr
  generalize idxF (tkEq (p1, p2) k) 0 l = z at *
  have H := Hs.start noRow w
  unfold Gives
  go_enter Tryz.func148, Tryz.ntmps148
  go_wp2_with (((first | ((with_reducible apply st_box (dst := some 4) H); exact nF; intro b4) | ((with_reducible apply st_box (dst := some 5) H); exact nF; intro b5)); clear H; intro wn H; simp only [Act.put, yA, yB, yC, yD, yE, yF]))
  refine gvF (HP _ _ _ H.below (At.blk2 (H.blk iF) rfl rfl) (At.blk (H.blk iF) fun j x hx => by match j, hx with | 0, hx => exact hx)) H ?_; clear H; intro wn H
  clear HP
  go_wp2_with (fail)
  go_ret
  exact ⟨rfl, H.below⟩
set_option maxRecDepth 100000 in
set_option maxHeartbeats 4000000 in
theorem l12At_s (v : Value) (l : List Ta) (p : Lab) (k : Int) (w : World) (hr : (Ty.sl 97 tyTa).rd w [v] l) :
    Gives Tryz.prog 122 #[v, .agg #[.int .i64 p.1, .int .i64 p.2], .int .i64 k] w (.int .i64 (idxF (tkEq p k) 0 l)) := by
  obtain ⟨p1, p2⟩ := p
  simp only
  obtain ⟨B, cb, rfl, hlb, hbm⟩ := sl_form hr
  unfold maxLen at *
  have HP := Lib.hid hr
  obtain ⟨n, hn⟩ : ∃ n, n = l.length := ⟨_, rfl⟩
  have hnl : n ≤ 9223372036854775807 := by omega
  rw [← hn] at HP ⊢
  have HN := Lib.hid hn
  clear hr hlb hbm hn
  have H := Hs.start noRow w
  unfold Gives
  obtain ⟨z, hz⟩ : ∃ z, z = idxF (tkEq (p1, p2) k) 0 l := ⟨_, rfl⟩
  rw [← hz]
  have HZ := Lib.hid hz
  clear hz
  go_enter Tryz.func122, Tryz.ntmps122
  go_wp2_with (((((with_reducible apply st_box (dst := some 4) H); exact nF; intro b4)); clear H; intro wn H; simp only [Act.put, yA, yB, yC, yD, yE, yF]))
  go_loopg [7] n (fun m iv wr => ∃ (i : Nat), i + m = n ∧ iv = .int .i64 i ∧ Hid (z = idxF (tkEq (p1, p2) k) i (l.drop i)) ∧ Hs noRow w [Hl.blk b4 66 #[.int .i64 p1, .int .i64 p2]] wr)
  case atStart => exact ⟨0, by omega, rfl, HZ, H.sel sF⟩
  case round =>
    clear H
    obtain ⟨i, hi, rfl, HI, H⟩ := hrel
    by_cases hlt : i < n
    · obtain ⟨x, hx⟩ : ∃ x, l[i]? = some x := ⟨l[i]'(by rw [← HN.out]; exact hlt), List.getElem?_eq_getElem (by rw [← HN.out]; exact hlt)⟩
      have hs := sl_at (by have := HP.out; rw [HN.out] at this; exact this) hx
      rw [← HN.out] at hs
      obtain ⟨b, off, c', cs, hv, hcs, hB⟩ := hs
      injection hv with hv1 hv2 hv3
      subst hv1 hv3
      obtain ⟨A, m', j', rfl, _⟩ := Ta_form hcs
      have hstep := HI.out
      rw [idxF_at hx] at hstep
      obtain ⟨⟨⟨l1, l2⟩, id, ow, need, long, prio, ⟨u1, u2⟩, aft, born, st, start⟩, nodes⟩ := x
      unfold tkEq at hstep
      simp only at hB hstep
      have hB1 : At w b (off + i * 14) [.int .i64 l1, .int .i64 l2] := At.pre hB
      have hB2 : w.cell? ⟨b, off + i * 14 + 2, none⟩ = some (.int .i64 id) := hB 2 _ rfl
      have hlt1 : (i : Int) < n := by omega
      clear hx hv2 HI hB hcs
      cases hp1 : eqB (l1, l2) (p1, p2)
      · have HI2 : Hid (z = idxF (tkEq (p1, p2) k) (i + 1) (l.drop (i + 1))) := Lib.hid (by rw [hstep, hp1]; rfl)
        clear hstep
        go_wp2_with (((with_reducible apply wp_region_hq (id := 4) H); kernel_rfl; kernel_rfl; (iterate 16 (all_goals ((first | ((with_reducible refine hq_gsT ?_ ?_); rfl) | ((with_reducible refine' hq_step ?_ ?_ ?_); rotate_left; rfl; (focus (intro w1 H1; first | first | exact qF | exact qAF | exact qEF | exact qVF)); (try simp only [yG, yH, yJ, yK]))); (try simp only [Act.put, yA, yB, yC, yD, yE, yF])))); all_goals (refine wpQuiet_nil ?_; clear H; intro wn H)))
        go_roundg (n - (i + 1))
        case measure => omega
        case rel => exact ⟨i + 1, by omega, by go_num, HI2, H.sel sF⟩
      obtain ⟨y, hy⟩ : ∃ y, (id == k) = y := ⟨_, rfl⟩
      cases y
      · have HI2 : Hid (z = idxF (tkEq (p1, p2) k) (i + 1) (l.drop (i + 1))) := Lib.hid (by rw [hstep, hp1, hy]; rfl)
        clear hstep
        go_wp2_with (((with_reducible apply wp_region_hq (id := 4) H); kernel_rfl; kernel_rfl; (iterate 16 (all_goals ((first | ((with_reducible refine hq_gwT ?_ ?_); rfl; (with_reducible refine' hq_step ?_ ?_ ?_); rotate_left; rfl; (focus (intro w1 H1; first | exact qF | exact qVF)); (try simp only [yG, yH, yJ, yK])) | ((with_reducible refine' hq_step ?_ ?_ ?_); rotate_left; rfl; (focus (intro w1 H1; first | first | exact qF | exact qAF | exact qEF | exact qVF)); (try simp only [yG, yH, yJ, yK]))); (try simp only [Act.put, yA, yB, yC, yD, yE, yF])))); all_goals (refine wpQuiet_nil ?_; clear H; intro wn H)))
        go_roundg (n - (i + 1))
        case measure => omega
        case rel => exact ⟨i + 1, by omega, by go_num, HI2, H.sel sF⟩
      · have HI3 : Hid (z = i) := Lib.hid (by rw [hstep, hp1, hy]; rfl)
        clear hstep
        go_wp2_with (((with_reducible apply wp_region_hq (id := 4) H); kernel_rfl; kernel_rfl; (iterate 16 (all_goals ((first | ((with_reducible refine hq_gwT ?_ ?_); rfl; (with_reducible refine' hq_step ?_ ?_ ?_); rotate_left; rfl; (focus (intro w1 H1; first | exact qF | exact qVF)); (try simp only [yG, yH, yJ, yK])) | ((with_reducible refine' hq_step ?_ ?_ ?_); rotate_left; rfl; (focus (intro w1 H1; first | first | exact qF | exact qAF | exact qEF | exact qVF)); (try simp only [yG, yH, yJ, yK]))); (try simp only [Act.put, yA, yB, yC, yD, yE, yF])))); all_goals (refine wpQuiet_nil ?_; clear H; intro wn H)))
        go_ret
        exact ⟨by rw [HI3.out]; rfl, H.below⟩
    · obtain rfl : i = n := by omega
      have hlt1 : ¬ (i : Int) < i := by omega
      have HI2 : Hid (z = -1) := Lib.hid (by rw [HI.out, idxF_end (by rw [← HN.out]; exact Nat.le_refl _)])
      clear HI HZ
      go_wp2_with (fail)
      go_ret
      exact ⟨by rw [HI2.out]; rfl, H.below⟩
end Go.Proofs.YtpfdhfchgnnpiaaGreat
