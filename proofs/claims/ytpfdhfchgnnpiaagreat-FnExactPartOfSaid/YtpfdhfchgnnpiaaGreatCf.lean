/-
  Nodes and the labels of a configuration in the reference: the walks.
-/
import Derived.Test.YtpfdhfchgnnpiaaGreatCe
set_option linter.unusedSimpArgs false
set_option linter.unusedVariables false
namespace Go.Proofs.YtpfdhfchgnnpiaaGreat
open Go.RowKit M
namespace M
def labsAll : List Lab := [(0, 0), (0, 1), (0, 2), (0, 3), (0, 4), (0, 5), (0, 6), (0, 7), (1, 0), (1, 1), (1, 2), (1, 3), (1, 4), (1, 5), (1, 6), (1, 7), (2, 0), (2, 1), (2, 2), (2, 3), (2, 4), (2, 5), (2, 6), (2, 7), (3, 0), (3, 1), (3, 2), (3, 3), (3, 4), (3, 5), (3, 6), (3, 7)]
/-- the labels of nodes, each once, in order -/
def labelsOf (nodes : List (List Lab)) : List Lab := labsAll.filter fun a => nodes.any fun l => hasL l a
theorem labsAll_at : ∀ k : Nat, k < 32 → labsAll[k]? = some (((k / 8 : Nat) : Int), ((k % 8 : Nat) : Int)) := by decide +kernel
theorem filter_take {α : Type} {p : α → Bool} {l : List α} {i : Nat} {a : α} (h : l[i]? = some a) : (l.take (i + 1)).filter p = (l.take i).filter p ++ if p a then [a] else [] := by
  obtain ⟨hlt, rfl⟩ := List.getElem?_eq_some_iff.1 h
  rw [List.take_succ_eq_append_getElem hlt, List.filter_append]
  congr 1
  cases h : p l[i] <;> simp [h]
end M
set_option maxRecDepth 100000 in
set_option maxHeartbeats 4000000 in
theorem clear_s (v : Value) (l : List (List Lab)) (w : World) (hr : (Ty.sl 60 (Ty.sl 66 tyLab)).rd w [v] l) : Gives Tryz.prog 116 #[v] w (.bool (clearOk l)) := by
  obtain ⟨A, c, rfl, hlc, hcm⟩ := sl_form hr
  unfold maxLen at *
  have HR := Lib.hid hr
  obtain ⟨n, hn⟩ : ∃ n, n = l.length := ⟨_, rfl⟩
  have hnl : n ≤ 9223372036854775807 := by omega
  have e : clearOk l = (decide (1 ≤ n) && decide (n ≤ 6) && l.all chainOk) := by unfold clearOk; rw [hn]
  rw [e]
  rw [← hn] at HR ⊢
  have HN := Lib.hid hn
  clear hr hn hlc hcm e
  have H := Hs.start noRow w
  unfold Gives
  · obtain ⟨sz, hsz⟩ : ∃ sz, sz = (decide (1 ≤ n) && decide (n ≤ 6)) := ⟨_, rfl⟩
    rw [← hsz]
    have HSZ := Lib.hid hsz
    obtain ⟨z, hz⟩ : ∃ z, z = (sz && l.all chainOk) := ⟨_, rfl⟩
    rw [← hz]
    have HZ := Lib.hid hz
    clear hz hsz
    go_enter Tryz.func116, Tryz.ntmps116
    go_wp2_with (fail)
    go_loopg [2, 3] n (fun m _ iv wr => ∃ (i : Nat), i + m = n ∧ i ≤ 7 ∧ iv = .int .i64 i ∧ Hid (z = (sz && (l.drop i).all chainOk)) ∧ Hs noRow w [] wr)
    case atStart => exact ⟨0, by omega, by omega, rfl, HZ, H⟩
    case round =>
      clear H
      obtain ⟨i, hi, hi7, rfl, HI, H⟩ := hrel
      by_cases hlt : i < n ∧ i ≤ 6
      · obtain ⟨hlt, hi6⟩ := hlt
        obtain ⟨x, hx⟩ : ∃ x, l[i]? = some x := ⟨l[i]'(by rw [← HN.out]; omega), List.getElem?_eq_getElem (by rw [← HN.out]; omega)⟩
        have hs := sl_at (by have := HR.out; rw [HN.out] at this; exact this) hx
        rw [← HN.out] at hs
        obtain ⟨b, off, c', cs, hv, hcs, hA⟩ := hs
        injection hv with hv1 hv2 hv3
        subst hv1 hv3
        obtain ⟨u, hu⟩ : ∃ u, cs = [u] := by obtain ⟨u, _, rfl, _⟩ := hcs; exact ⟨u, rfl⟩
        subst hu
        have h0 : w.cell? ⟨b, off + i, none⟩ = some u := by have h := hA.head (u := u) rfl; rw [show i * Ty.s _ = i from Nat.mul_one i] at h; exact h
        have hC := fun w1 hb => chain_s u x w1 (Ty.below _ hcs hb)
        have hstep := HI.out
        rw [all_drop hx] at hstep
        have hlt1 : (i : Int) < n := by omega
        have hlt2 : (i : Int) ≤ 6 := by omega
        clear hx hv2 hA HI hcs
        cases hok : chainOk x
        · rw [hok] at hC hstep
          rw [Bool.false_and, Bool.and_false] at hstep
          have HI := Lib.hid hstep
          clear hstep hok
          go_wp2_with (first | ((((with_reducible refine st_gwT ?_ ?_); rfl)); (try simp only [Act.put, yA, yB, yC, yD, yE, yF])) | ((((with_reducible apply st_load1 H); decide +kernel; rfl; exact cF)); clear H; intro wn H; (try simp only [splice, yG, yH, yI, yJ, yK, yL, yM, yN, yO, yP, yQ, Nat.reduceAdd, yA, yB, yC] at H); simp only [Act.put, yA, yB, yC, yD, yE, yF]) | (((go_at_call 176; refine gvF (hC _ H.below) H ?_)); clear H; intro wn H))
          go_ret
          exact ⟨by rw [HI.out]; rfl, H.below⟩
        · rw [hok] at hC hstep
          rw [Bool.true_and] at hstep
          have HI := Lib.hid hstep
          clear hstep hok
          go_wp2_with (first | ((((with_reducible refine st_gwT ?_ ?_); rfl)); (try simp only [Act.put, yA, yB, yC, yD, yE, yF])) | ((((with_reducible apply st_load1 H); decide +kernel; rfl; exact cF)); clear H; intro wn H; (try simp only [splice, yG, yH, yI, yJ, yK, yL, yM, yN, yO, yP, yQ, Nat.reduceAdd, yA, yB, yC] at H); simp only [Act.put, yA, yB, yC, yD, yE, yF]) | (((go_at_call 176; refine gvF (hC _ H.below) H ?_)); clear H; intro wn H))
          go_roundg (n - (i + 1))
          case measure => omega
          case rel => exact ⟨i + 1, by omega, by omega, by go_num, HI, H⟩
      · have hz : z = sz := by
          by_cases h7 : i < n
          · have : sz = false := by rw [HSZ.out]; simp; omega
            rw [HI.out, this]; rfl
          · rw [HI.out, List.drop_of_length_le (by rw [← HN.out]; omega)]; simp
        rw [HSZ.out] at hz
        have HI2 := Lib.hid hz
        clear hz HZ HI
        by_cases h7 : i < n
        · have hlt1 : (i : Int) < n := by omega
          have hlt2 : ¬ (i : Int) ≤ 6 := by omega
          have hq1 : (1 : Int) ≤ n := by omega
          have hq2 : ¬ (n : Int) ≤ 6 := by omega
          have HF : Hid (z = false) := Lib.hid (by rw [HI2.out]; simp; omega)
          go_wp2_with (((((with_reducible refine st_gwT ?_ ?_); rfl)); (try simp only [Act.put, yA, yB, yC, yD, yE, yF])))
          go_ret
          exact ⟨by rw [HF.out]; rfl, H.below⟩
        · have hlt1 : ¬ (i : Int) < n := by omega
          by_cases hq : n < 1
          · have hq1 : ¬ 1 ≤ n := by omega
            have HF : Hid (z = false) := Lib.hid (by rw [HI2.out]; simp; omega)
            have hq3 : ¬ (1 : Int) ≤ n := by omega
            go_wp2_with (fail)
            go_ret
            exact ⟨by rw [HF.out]; rfl, H.below⟩
          · have hq1 : (1 : Int) ≤ n := by omega
            by_cases hq2 : n ≤ 6
            · have hq2' : (n : Int) ≤ 6 := by omega
              have HF : Hid (z = true) := Lib.hid (by rw [HI2.out]; simp; omega)
              go_wp2_with (((((with_reducible refine st_gwT ?_ ?_); rfl)); (try simp only [Act.put, yA, yB, yC, yD, yE, yF])))
              go_ret
              exact ⟨by rw [HF.out]; rfl, H.below⟩
            · have hq2' : ¬ (n : Int) ≤ 6 := by omega
              have HF : Hid (z = false) := Lib.hid (by rw [HI2.out]; simp; omega)
              go_wp2_with (((((with_reducible refine st_gwT ?_ ?_); rfl)); (try simp only [Act.put, yA, yB, yC, yD, yE, yF])))
              go_ret
              exact ⟨by rw [HF.out]; rfl, H.below⟩
theorem ownL_flat {α : Type} {s : Nat} {enc : α → List Value} {hl : ∀ a, (enc a).length = s} {h1 : ∀ a, ∀ u ∈ enc a, u.oneCell' = true} : ∀ l : List α, OwnL (Ty.flat s enc hl h1) (flat enc l) l []
  | [] => .nil
  | a :: l => OwnL.cons (M := []) (N := []) ⟨rfl, rfl⟩ (ownL_flat l)
/-- a walk's end: a row of structs that hold no memory -/
theorem ret_flat {α : Type} {s s' n : Nat} {enc : α → List Value} {hl : ∀ a, (enc a).length = s} {h1 : ∀ a, ∀ u ∈ enc a, u.oneCell' = true} {E : TypeId} {w w' : World} {v : Value} {xs : List Value} {l : List α} {L : List Hl} (H : Hs noRow w (Hl.row E s' v n xs :: L) w') (hx : xs = flat enc l) (hn : n = l.length) (hs : s' = s := by rfl) :
    RPost [] w (tOwn (Ty.sl E (Ty.flat s enc hl h1)) l) (.returned v) w' := by
  subst hx hs
  have H2 : Hs noRow w (Hl.row E s' v n (flat enc l ++ []) :: Hl.all [] :: L) w' := by
    rw [List.append_nil]
    exact H.allNil.reperm (List.Perm.swap ..)
  exact ret_sl H2 (ownL_flat l) rfl rfl hn
set_option maxRecDepth 100000 in
set_option maxHeartbeats 4000000 in
theorem labels_s (v : Value) (l : List (List Lab)) (w : World) (hr : (Ty.sl 60 (Ty.sl 66 tyLab)).rd w [v] l) : Rets Tryz.prog [] 12 #[v] w (tOwn (Ty.sl 66 tyLab) (labelsOf l)) := by
  obtain ⟨A, c, rfl, hlc, hcm⟩ := sl_form hr
  unfold maxLen at *
  have HR := Lib.hid hr
  obtain ⟨n, hn⟩ : ∃ n, n = l.length := ⟨_, rfl⟩
  have hnl : n ≤ 9223372036854775807 := by omega
  rw [← hn] at HR ⊢
  have HN := Lib.hid hn
  clear hr hn hlc hcm
  have H := Hs.start noRow w
  obtain ⟨p, hp⟩ : ∃ p : Lab → Bool, p = fun a => l.any fun x => hasL x a := ⟨_, rfl⟩
  have HP := Lib.hid hp
  have HQ : Hid (labelsOf l = labsAll.filter p) := Lib.hid (by rw [hp]; rfl)
  rw [HQ.out]
  clear hp
  refine Rets.of ?_
  go_enter Tryz.func12, Tryz.ntmps12
  go_wp2_with (((((with_reducible apply st_bslice H); exact nsF; intro nb)); clear H; intro wn H; simp only [Act.put, yA, yB, yC, yD, yE, yF]))
  have Hn := H.putRow 66 2 (some ⟨nb, 0, none⟩)
  clear H
  have H := Hn
  clear Hn
  go_loopg [3, 4, 5, 6, 7] 32 (fun m ov kv _ _ _ wr => ∃ (k : Nat) (v : Value) (xs : List Value) (t : Nat), k + m = 32 ∧ t ≤ k ∧ kv = .int .i64 k ∧ v = ov ∧ Hid (xs = flat encLab ((labsAll.take k).filter p) ∧ t = ((labsAll.take k).filter p).length) ∧ Hs noRow w [Hl.row 66 2 v t xs] wr)
  case atStart => exact ⟨0, _, [], 0, by omega, by omega, rfl, rfl, Lib.hid ⟨rfl, rfl⟩, H.sel sF⟩
  case round =>
    clear H
    obtain ⟨k, v, xs, t, hk, ht, rfl, rfl, HX, H⟩ := hrel
    by_cases hlt : k < 32
    · have hk1 : (k : Int) < 32 := by omega
      have hla := labsAll_at k hlt
      have HS := Lib.hid (filter_take (p := p) hla)
      have e8 : ((k / 8 : Nat) : Int) = (k : Int) / 8 := by omega
      have e9 : ((k % 8 : Nat) : Int) = (k : Int) % 8 := by omega
      rw [e8, e9] at HS
      clear hla e8 e9
      go_wp2_with (first | ((((with_reducible apply st_store H); rfl; exact eF; (focus (exact cells_agg _)); exact uF; kernel_rfl; (focus (exact Nat.le_of_ble_eq_true (by rfl))); (focus (rfl)))); clear H; intro wn H; (try simp only [splice, yG, yH, yI, yJ, yK, yL, yM, yN, yO, yP, yQ, Nat.reduceAdd, yA, yB, yC] at H); simp only [Act.put, yA, yB, yC, yD, yE, yF]) | ((((with_reducible apply st_alloc (dst := some 5) H); exact nF; intro b5)); clear H; intro wn H; simp only [Act.put, yA, yB, yC, yD, yE, yF]))
      go_loopg [6, 7] n (fun m fv iv wr => ∃ (i : Nat) (f : Bool), i + m = n ∧ iv = .int .i64 i ∧ fv = .bool f ∧ Hid (f = (l.take i).any fun x => hasL x ((k : Int) / 8, (k : Int) % 8)) ∧ Hs noRow w [Hl.blk b5 66 #[.int .i64 ((k : Int) / 8), .int .i64 ((k : Int) % 8)], Hl.row 66 2 v t xs] wr)
      case atStart => exact ⟨0, false, by omega, rfl, rfl, Lib.hid rfl, H.sel sF⟩
      case round =>
        clear H
        obtain ⟨i, f, hi, rfl, rfl, HF, H⟩ := hrel
        by_cases hli : i < n
        · have hl1 : (i : Int) < n := by omega
          obtain ⟨x, hx⟩ : ∃ x, l[i]? = some x := ⟨l[i]'(by rw [← HN.out]; omega), List.getElem?_eq_getElem (by rw [← HN.out]; omega)⟩
          have hs := sl_at (by have := HR.out; rw [HN.out] at this; exact this) hx
          rw [← HN.out] at hs
          obtain ⟨b, off, c', cs, hv, hcs, hA⟩ := hs
          injection hv with hv1 hv2 hv3
          subst hv1 hv3
          obtain ⟨u, hu⟩ : ∃ u, cs = [u] := by obtain ⟨u, _, rfl, _⟩ := hcs; exact ⟨u, rfl⟩
          subst hu
          have h0 : w.cell? ⟨b, off + i, none⟩ = some u := by have h := hA.head (u := u) rfl; rw [show i * Ty.s _ = i from Nat.mul_one i] at h; exact h
          have hC := fun w1 hb => cleared_s u x ((k : Int) / 8, (k : Int) % 8) w1 (Ty.below _ hcs hb)
          have HF2 : Hid ((f || hasL x ((k : Int) / 8, (k : Int) % 8)) = (l.take (i + 1)).any fun x => hasL x ((k : Int) / 8, (k : Int) % 8)) := Lib.hid (by
            obtain ⟨hlt', e⟩ := List.getElem?_eq_some_iff.1 hx
            rw [List.take_succ_eq_append_getElem hlt', List.any_append, ← HF.out, e]; simp)
          simp only at hC
          generalize hasL x ((k : Int) / 8, (k : Int) % 8) = q at *
          clear hx hv2 hA HF hcs
          cases f
          all_goals
            go_wp2_with (((with_reducible apply wp_region_hq (id := 10) H); kernel_rfl; kernel_rfl; (iterate 7 (all_goals ((first | ((with_reducible refine hq_gwF ?_ ?_); rfl; (with_reducible refine' hq_step ?_ ?_ ?_); rotate_left; rfl; (focus (intro w1 H1; first | exact qF | exact qVF)); (try simp only [yG, yH, yJ, yK])) | ((with_reducible refine hq_gsF ?_ ?_); rfl) | ((with_reducible refine' hq_step ?_ ?_ ?_); rotate_left; rfl; (focus (intro w1 H1; exact qVF)); (try simp only [yG, yH, yJ, yK]))); (try simp only [Act.put, yA, yB, yC, yD, yE, yF])))); all_goals (first | ((with_reducible refine hq_gwF ?_ ?_); rfl; ((with_reducible refine' hq_step ?_ ?_ ?_); rotate_left; rfl; (focus (intro w1 H1; unfold QOk; go_simp; exact q_call (hC _ H1.below))); (try simp only [yG, yH, yJ, yK]); simp only [Act.put, yA, yB, yC, yD, yE, yF])) | ((with_reducible refine hq_gsF ?_ ?_); rfl; (try simp only [Act.put, yA, yB, yC, yD, yE, yF]))); (iterate 2 (all_goals ((with_reducible refine' hq_step ?_ ?_ ?_); rotate_left; rfl; (focus (intro w1 H1; exact qVF)); (try simp only [yG, yH, yJ, yK]); (try simp only [Act.put, yA, yB, yC, yD, yE, yF])))); all_goals (refine wpQuiet_nil ?_; clear H; intro wn H)))
            go_roundg (n - (i + 1))
            case measure => omega
            case rel => exact ⟨i + 1, _, by omega, by go_num, rfl, Lib.hid (by rw [← HF2.out]; rfl), H.sel sF⟩
        · have hl1 : ¬ (i : Int) < n := by omega
          have HF2 : Hid (f = p ((k : Int) / 8, (k : Int) % 8)) := Lib.hid (by rw [HF.out, HP.out, List.take_of_length_le (by rw [← HN.out]; omega)])
          clear HF
          cases f
          · go_wp2_with (fail)
            go_roundg (32 - (k + 1))
            case measure => omega
            case rel =>
              refine ⟨k + 1, _, xs, t, by omega, by omega, by go_num, rfl, Lib.hid ?_, H.sel sF⟩
              have h1 := HS.out
              rw [← HF2.out] at h1
              rw [h1]
              simpa using HX.out
          · have ht9 : t ≤ 32 := by omega
            go_wp2_with (first | ((((with_reducible apply st_loads H); decide +kernel; rfl; exact iF; exact zF; rfl)); clear H; intro wn H; (try simp only [splice, yG, yH, yI, yJ, yK, yL, yM, yN, yO, yP, yQ, Nat.reduceAdd, yA, yB, yC] at H); simp only [Act.put, yA, yB, yC, yD, yE, yF]) | ((((with_reducible apply st_bslice H); exact nsF; intro nb)); clear H; intro wn H; simp only [Act.put, yA, yB, yC, yD, yE, yF]) | ((with_reducible apply st_appendrb H); (((focus (with_reducible exact dT (dT (dH)))); rfl)); rfl; exact iF; kernel_rfl; rfl; rfl; (focus (omega)); clear H; intro vq wn H; (try simp only [yM, yN, yO] at H); simp only [Act.put, yA, yB, yC, yD, yE, yF]))
            go_roundg (32 - (k + 1))
            case measure => omega
            case rel =>
              refine ⟨k + 1, _, _, t + 1, by omega, by omega, by go_num, rfl, Lib.hid ?_, H.sel sF⟩
              have h1 := HS.out
              rw [← HF2.out] at h1
              rw [h1, HX.out.1, HX.out.2]
              exact ⟨by rw [if_pos rfl, flat_append]; rfl, by rw [if_pos rfl, List.length_append]; rfl⟩
    · obtain rfl : k = 32 := by omega
      have hk1 : ¬ (32 : Int) < 32 := by omega
      go_wp2_with (fail)
      go_ret
      exact ret_flat H HX.out.1 HX.out.2
end Go.Proofs.YtpfdhfchgnnpiaaGreat
