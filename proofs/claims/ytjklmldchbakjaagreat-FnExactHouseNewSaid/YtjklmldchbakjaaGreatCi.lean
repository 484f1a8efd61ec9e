/-
  slices.Compact at labels: the walk.
-/
import Derived.Test.YtjklmldchbakjaaGreatCh
import Derived.Laws.CopyRow
set_option linter.unusedSimpArgs false
set_option linter.unusedVariables false
namespace Go.Proofs.YtjklmldchbakjaaGreat
open Go.RowKit M
namespace M
/-- the first n of a list, each run of equal ones once -/
def compUp (l : List Lab) : Nat → List Lab
  | 0 => []
  | i + 1 => compUp l i ++ match l[i]? with
    | some x => if i = 0 then [x] else if l[i - 1]? = some x then [] else [x]
    | none => []
theorem comp_one {l : List Lab} (h : 0 < l.length) : compUp l 1 = l.take 1 := by
  cases l with
  | nil => simp at h
  | cons a l => simp [compUp]
theorem comp_step {l : List Lab} {i : Nat} {x y : Lab} (h1 : l[i]? = some x) (h2 : l[i + 1]? = some y) : compUp l (i + 2) = compUp l (i + 1) ++ if eqB y x = true then [] else [y] := by
  rw [show compUp l (i + 2) = compUp l (i + 1) ++ (match l[i + 1]? with | some x => if i + 1 = 0 then [x] else if l[i + 1 - 1]? = some x then [] else [x] | none => []) from rfl, h2]
  congr 1
  simp only [Nat.add_one_ne_zero, if_false, Nat.add_sub_cancel, h1, Option.some.injEq]
  by_cases h : x = y
  · rw [if_pos h, if_pos (eqB_iff.2 h.symm)]
  · rw [if_neg h, if_neg (fun e => h (eqB_iff.1 e).symm)]
theorem comp_len (l : List Lab) : ∀ i, (compUp l i).length ≤ i
  | 0 => Nat.le_refl _
  | i + 1 => by
    have := comp_len l i
    unfold compUp
    rw [List.length_append]
    split
    · split
      · simp; omega
      · split <;> simp <;> omega
    · simp; omega
theorem take_set {l : List Lab} {k : Nat} {y : Lab} (h : k < l.length) : (l.set k y).take (k + 1) = l.take k ++ [y] := by
  rw [List.take_succ_eq_append_getElem (by rw [List.length_set]; exact h), List.getElem_set_self, List.take_set_of_le (Nat.le_refl _)]
theorem flat_set {l : List Lab} {k : Nat} {y : Lab} (h : k < l.length) : spl (flat encLab l) (k * 2) (encLab y) = flat encLab (l.set k y) := by
  have e : l = l.take k ++ (l[k] :: l.drop (k + 1)) := by rw [← List.drop_eq_getElem_cons h, List.take_append_drop]
  have e2 : l.set k y = l.take k ++ (y :: l.drop (k + 1)) := List.set_eq_take_append_cons_drop.trans (by rw [if_pos h])
  rw [e2, flat_append, flat_cons]
  conv => lhs; rw [e, flat_append, flat_cons]
  exact spl_mid _ _ _ _ (by rw [flat_length (enc := encLab) (s := 2) (fun _ => rfl), List.length_take, Nat.min_eq_left (Nat.le_of_lt h)]) rfl
theorem flat_seg {l : List Lab} {k : Nat} {y : Lab} (h : l[k]? = some y) : Seg (flat encLab l) (k * 2) (encLab y) := by
  obtain ⟨hlt, rfl⟩ := List.getElem?_eq_some_iff.1 h
  have e : l = l.take k ++ (l[k] :: l.drop (k + 1)) := by rw [← List.drop_eq_getElem_cons hlt, List.take_append_drop]
  have h2 := seg_mid (flat encLab (l.take k)) (encLab l[k]) (flat encLab (l.drop (k + 1))) (off := k * 2) (by rw [flat_length (enc := encLab) (s := 2) (fun _ => rfl), List.length_take, Nat.min_eq_left (Nat.le_of_lt hlt)])
  rw [← flat_cons, ← flat_append, ← e] at h2
  exact h2
theorem flat_takeL (l : List Lab) (k : Nat) : (flat encLab l).take (k * 2) = flat encLab (l.take k) := by
  rcases Nat.lt_or_ge k l.length with h | h
  · have e : flat encLab l = flat encLab (l.take k) ++ flat encLab (l.drop k) := by rw [← flat_append, List.take_append_drop]
    have hl : (flat encLab (l.take k)).length = k * 2 := by rw [flat_length (enc := encLab) (s := 2) (fun _ => rfl), List.length_take, Nat.min_eq_left (Nat.le_of_lt h)]
    rw [e, ← hl, List.take_left]
  · rw [List.take_of_length_le (by rw [flat_length (enc := encLab) (s := 2) (fun _ => rfl)]; exact Nat.mul_le_mul_right _ h), List.take_of_length_le h]
theorem spl_take {xs vs : List Value} {off : Nat} (h : off ≤ xs.length) : (spl xs off vs).take off = xs.take off := by
  unfold spl
  rw [List.append_assoc, List.take_append, List.length_take, Nat.min_eq_left h, Nat.sub_self, List.take_zero, List.append_nil, List.take_take, Nat.min_self]
end M
section
variable {P : Program}
/-- clear(s) of a slice within a row -/
def clrT (P : Program) (t E : TypeId) (s : Nat) : Bool := appT P t E s && (match P.info? E with | some i => (match i.zero with | some z => z.cells.all (·.oneCell') | none => false) | none => false)
theorem run_clearrow {t ty E : TypeId} {w : World} {g off s n c m d : Nat} {xs : List Value} (hT : clrT P t E s = true) (ho : rowOk w E s (.slice (some ⟨g, 0, none⟩) n c) n xs) (hm : 0 < m) (hl : off + m * s ≤ xs.length) :
    ∃ zs w', (Builtin.clear_ #[t] ty #[.slice (some ⟨g, off, none⟩) m d]).run P w = .ok (.tuple #[]) w' ∧ zs.length = m * s ∧ rowOk w' E s (.slice (some ⟨g, 0, none⟩) n c) n (spl xs off zs) ∧ Grow (fun b => rowBlock (.slice (some ⟨g, 0, none⟩) n c) = some b) w w' := by
  unfold clrT at hT
  rw [Bool.and_eq_true] at hT
  obtain ⟨i, z, ht, hi, hz, h2, h3, h4, h5⟩ := appT_spec hT.1
  have hone : z.cells.all (·.oneCell') = true := by have := hT.2; rw [hi] at this; simpa [hz] using this
  have hzl : (Builtin.zeroCells z.cells m).toList.length = m * s := by rw [Array.length_toList, size_zeroCells, h4]
  have hz1 : ∀ v ∈ (Builtin.zeroCells z.cells m).toList, v.oneCell' = true := by
    intro v hv
    unfold Builtin.zeroCells at hv
    simp only [Array.toList_map, List.mem_map] at hv
    obtain ⟨j, _, rfl⟩ := hv
    have hj : j % z.cells.size < z.cells.size := Nat.mod_lt _ (by omega)
    rw [getElem!_pos z.cells _ hj]
    exact (Array.all_eq_true.1 hone) _ hj
  have hms : 0 < m * s := Nat.mul_pos hm h5
  rcases ho with ⟨_, rfl, _⟩ | ⟨g', c', hv', ho⟩
  · rw [List.length_nil] at hl; omega
  · injection hv' with e1 _ e3
    injection e1 with e1; injection e1 with e1 _ _
    subst e1 e3
    rcases ho.2 with ⟨h, _⟩ | ⟨g2, cap, cur, hv2, hb, hg, hnc, hcm, hcs, htake⟩
    · cases h
    · injection hv2 with e1 _ e3
      injection e1 with e1; injection e1 with e1 _ _
      subst e1 e3
      have hle : n * s ≤ cur.size := by rw [hcs]; exact Nat.mul_le_mul_right _ hnc
      have hon := ho.1
      have hr := run_storeCells_at P g off E (Builtin.zeroCells z.cells m).toList 0 cur w hg (by rw [hzl]; omega) hz1
      rw [Nat.add_zero] at hr
      have hlen : (spl xs off (Builtin.zeroCells z.cells m).toList).length = n * s := by rw [spl_len (by rw [hzl]; exact hl)]; exact hon
      obtain ⟨m', rfl⟩ : ∃ m', m = m' + 1 := ⟨m - 1, by omega⟩
      refine ⟨_, w.setRow g (splice cur off (Builtin.zeroCells z.cells (m' + 1)).toList), ?_, hzl, .inr ⟨g, c', rfl, hlen, .inr ⟨g, c' + 1, _, rfl, hb, setRow_heap w g cur _ E _ hg, hnc, hcm, ?_, splice_take htake hon (by rw [hzl]; omega)⟩⟩, (Grow.setRow w g _).mono (fun b hb => by subst hb; rfl)⟩
      · simp [Builtin.clear_, run_underlying ht, zeroValue, typeInfo, hi, hz, hr, splice]
      · unfold splice
        simp only [List.size_toArray, List.length_append, List.length_take, List.length_drop, hzl, Array.length_toList]
        omega
theorem st_clear {R : Nat → Prop} {w0 w : World} {L : List Hl} {a : Act} {ops : Array Oper} {Q : Exit → Act → World → Prop} {rest : List Oper} {dst : Option Tmp} {ty : TypeId} {pos : String} {aft : Array Edge} {x : Operand} {t E : TypeId} {g off s n c m d : Nat} {xs : List Value}
    (H : Hs R w0 (Hl.row E s (.slice (some ⟨g, 0, none⟩) n c) n xs :: L) w) (hx : a.eval x = .slice (some ⟨g, off, none⟩) m d) (hT : clrT P t E s = true) (hm : 0 < m) (hl : off + m * s ≤ xs.length)
    (k : ∀ zs w', zs.length = m * s → Hs R w0 (Hl.row E s (.slice (some ⟨g, 0, none⟩) n c) n (spl xs off zs) :: L) w' → wpList P ops Q rest (a.put dst (.tuple #[])) w') :
    wpList P ops Q (⟨dst, .call ⟨.builtin .clear, #[x], #[t]⟩, ty, pos, aft, none⟩ :: rest) a w := by
  refine wpList_plain rfl fun K hK => ?_
  obtain ⟨zs, w', hr, hz, ho, hg⟩ := run_clearrow (ty := ty) (d := d) hT (H.rows .here) hm hl
  unfold Oper.wp execOp
  simp only [resolve, invoke, builtin, Sem.run_bind, Sem.run_pure, Result.andThen_ok, List.map_toArray, List.map_cons, List.map_nil, hx, hr]
  exact hK _ _ (k zs w' hz (H.turn Upd.here hg ho (fun b hb => .inl hb)))
/-- the head of a row -/
theorem Hs.shrinkRow {R : Nat → Prop} {w0 w : World} {L : List Hl} {E : TypeId} {s n m g c : Nat} {zs : List Value} (H : Hs R w0 (Hl.row E s (.slice (some ⟨g, 0, none⟩) n c) n zs :: L) w) (hm : m ≤ n) (h0 : 0 < n) :
    Hs R w0 (Hl.row E s (.slice (some ⟨g, 0, none⟩) m c) m (zs.take (m * s)) :: L) w := by
  rcases H.rows .here with ⟨h, _⟩ | ⟨g', c', hv', ho⟩
  · omega
  · injection hv' with e1 _ e3
    injection e1 with e1; injection e1 with e1 _ _
    subst e1 e3
    refine H.turn Upd.here ((Grow.refl noRow w).mono (fun _ f => f.elim)) (rowOk_of_own ?_) (fun b hb => .inl hb)
    rcases ho.2 with ⟨h, _⟩ | ⟨g2, cap, cur, hv, hb, hg, hnc, hcm, hcs, htake⟩
    · cases h
    · injection hv with e1 _ e3
      injection e1 with e1; injection e1 with e1 _ _
      subst e1 e3
      have hle : m * s ≤ n * s := Nat.mul_le_mul_right _ hm
      have hon := ho.1
      refine ⟨by rw [List.length_take]; omega, .inr ⟨g, c' + 1, cur, rfl, hb, hg, Nat.le_trans hm hnc, hcm, hcs, ?_⟩⟩
      rw [← htake, List.take_take, Nat.min_eq_left hle]
end
theorem qRF {P : Prop} (h : P := by (with_reducible apply q_loadat); (focus rfl); (focus decide +kernel); (focus exact (At.row H1 In.here (by assumption))); (focus exact zF); (focus rfl)) : P := h
def CPost (g c : Nat) (r : List Lab) (R : Nat → Prop) (w0 : World) (L : List Hl) : Ending → World → Prop := fun e w' => e = .returned (.slice (some ⟨g, 0, none⟩) r.length c) ∧ Hs R w0 (Hl.row 96 2 (.slice (some ⟨g, 0, none⟩) r.length c) r.length (flat encLab r) :: L) w'
set_option maxRecDepth 100000 in
set_option maxHeartbeats 4000000 in
theorem compact_Lab (g n c : Nat) (l : List Lab) (hn : n = l.length) (h0 : 0 < n) (hn9 : n ≤ 1000000000) (hnc : n ≤ c) (R : Nat → Prop) (w0 : World) (L : List Hl) (w : World) (H : Hs R w0 (Hl.row 96 2 (.slice (some ⟨g, 0, none⟩) n c) n (flat encLab l) :: L) w) :
    Calls Tryz.prog 104 #[.slice (some ⟨g, 0, none⟩) n c] w (CPost g c (compUp l n) R w0 L) := by
  have HN := Lib.hid hn
  by_cases h2 : n < 2
  · obtain rfl : n = 1 := by omega
    have HE : Hid (compUp l 1 = l) := Lib.hid (by rw [comp_one (by omega), List.take_of_length_le (by omega)])
    rw [HE.out]
    have HL : Hid (l.length = 1) := Lib.hid hn.symm
    clear hn
    go_enter Tryz.func104, Tryz.ntmps104
    go_wp2_with (first | ((first | ((with_reducible apply st_load1 H); decide +kernel; rfl; exact cF) | ((with_reducible apply st_loads H); decide +kernel; rfl; exact iF; exact zF; rfl) | ((with_reducible apply st_store H); rfl; exact eF; (focus (exact cells_agg _)); exact uF; kernel_rfl; (focus (exact Nat.le_of_ble_eq_true (by rfl))); (focus (first | rfl | simp))) | ((with_reducible apply st_storeown H); rfl; exact eF; (focus (exact (rfl : _ = [_]))); exact uF; (focus omega); kernel_rfl; rfl)); clear H; intro wn H; (try simp only [splice, yG, yH, yI, yJ, yK, yL, yM, yN, yO, yP, yQ, Nat.reduceAdd, yA, yB, yC] at H); simp only [Act.put, yA, yB, yC, yD, yE, yF]) | ((first | ((with_reducible apply st_strsum H); rfl; rfl; exact szF; kernel_rfl) | ((first | ((with_reducible apply st_eqLabz H); rfl; rfl; (focus assumption)) | ((with_reducible apply st_neLabz H); rfl; rfl; (focus assumption)) | ((with_reducible apply st_eqLab H); rfl; rfl) | ((with_reducible apply st_neLab H); rfl; rfl))) | ((with_reducible apply st_loadat H); decide +kernel; rfl; exact aF; exact zF; rfl) | ((with_reducible apply st_storerow H); rfl; exact eF; (first | exact cells_agg _ | exact cellI | exact cellS | exact cellB | exact (rfl : _ = [_])); exact uF; kernel_rfl; exact Nat.succ_pos _; exact fitF; rfl)); clear H; intro wn H; simp only [Act.put, yA, yB, yC, yD, yE, yF]) | ((with_reducible apply wp_region_hq (id := 6) H); kernel_rfl; kernel_rfl; (iterate 6 (all_goals ((with_reducible refine' hq_step ?_ ?_ ?_); rotate_left; rfl; (focus (intro w1 H1; first | (first | exact qF | exact qAF | exact qRF) | (exact qVF))); (try simp only [yG, yH, yJ, yK]); simp only [Act.put, yA, yB, yC, yD, yE, yF]))); (all_goals ((with_reducible refine' hq_step ?_ ?_ ?_); rotate_left; rfl; (focus (intro w1 H1; first | exact qSF | exact qWF | exact qVF)); (try simp only [yG, yH, yJ, yK]); simp only [Act.put, yA, yB, yC, yD, yE, yF])); (iterate 3 (all_goals ((with_reducible refine' hq_step ?_ ?_ ?_); rotate_left; rfl; (focus (intro w1 H1; first | (first | exact qF | exact qAF | exact qRF) | (exact qEF) | (exact qVF))); (try simp only [yG, yH, yJ, yK]); simp only [Act.put, yA, yB, yC, yD, yE, yF]))); all_goals (refine wpQuiet_nil ?_; clear H; intro wn H)) | ((with_reducible apply wp_region_hq (id := 11) H); kernel_rfl; kernel_rfl; (iterate 6 (all_goals ((with_reducible refine' hq_step ?_ ?_ ?_); rotate_left; rfl; (focus (intro w1 H1; first | (first | exact qF | exact qAF | exact qRF) | (exact qVF))); (try simp only [yG, yH, yJ, yK]); simp only [Act.put, yA, yB, yC, yD, yE, yF]))); (all_goals ((with_reducible refine' hq_step ?_ ?_ ?_); rotate_left; rfl; (focus (intro w1 H1; first | exact qSF | exact qWF | exact qVF)); (try simp only [yG, yH, yJ, yK]); simp only [Act.put, yA, yB, yC, yD, yE, yF])); (iterate 3 (all_goals ((with_reducible refine' hq_step ?_ ?_ ?_); rotate_left; rfl; (focus (intro w1 H1; first | (first | exact qF | exact qAF | exact qRF) | (exact qEF) | (exact qVF))); (try simp only [yG, yH, yJ, yK]); simp only [Act.put, yA, yB, yC, yD, yE, yF]))); all_goals (refine wpQuiet_nil ?_; clear H; intro wn H)) | fail)
    go_ret
    exact ⟨by rw [HL.out]; rfl, by rw [HL.out]; exact H⟩
  have h3 : ¬ (n : Int) < 2 := by omega
  clear hn
  go_enter Tryz.func104, Tryz.ntmps104
  go_wp2_with (first | ((first | ((with_reducible apply st_load1 H); decide +kernel; rfl; exact cF) | ((with_reducible apply st_loads H); decide +kernel; rfl; exact iF; exact zF; rfl) | ((with_reducible apply st_store H); rfl; exact eF; (focus (exact cells_agg _)); exact uF; kernel_rfl; (focus (exact Nat.le_of_ble_eq_true (by rfl))); (focus (first | rfl | simp))) | ((with_reducible apply st_storeown H); rfl; exact eF; (focus (exact (rfl : _ = [_]))); exact uF; (focus omega); kernel_rfl; rfl)); clear H; intro wn H; (try simp only [splice, yG, yH, yI, yJ, yK, yL, yM, yN, yO, yP, yQ, Nat.reduceAdd, yA, yB, yC] at H); simp only [Act.put, yA, yB, yC, yD, yE, yF]) | ((first | ((with_reducible apply st_strsum H); rfl; rfl; exact szF; kernel_rfl) | ((first | ((with_reducible apply st_eqLabz H); rfl; rfl; (focus assumption)) | ((with_reducible apply st_neLabz H); rfl; rfl; (focus assumption)) | ((with_reducible apply st_eqLab H); rfl; rfl) | ((with_reducible apply st_neLab H); rfl; rfl))) | ((with_reducible apply st_loadat H); decide +kernel; rfl; exact aF; exact zF; rfl) | ((with_reducible apply st_storerow H); rfl; exact eF; (first | exact cells_agg _ | exact cellI | exact cellS | exact cellB | exact (rfl : _ = [_])); exact uF; kernel_rfl; exact Nat.succ_pos _; exact fitF; rfl)); clear H; intro wn H; simp only [Act.put, yA, yB, yC, yD, yE, yF]) | ((with_reducible apply wp_region_hq (id := 6) H); kernel_rfl; kernel_rfl; (iterate 6 (all_goals ((with_reducible refine' hq_step ?_ ?_ ?_); rotate_left; rfl; (focus (intro w1 H1; first | (first | exact qF | exact qAF | exact qRF) | (exact qVF))); (try simp only [yG, yH, yJ, yK]); simp only [Act.put, yA, yB, yC, yD, yE, yF]))); (all_goals ((with_reducible refine' hq_step ?_ ?_ ?_); rotate_left; rfl; (focus (intro w1 H1; first | exact qSF | exact qWF | exact qVF)); (try simp only [yG, yH, yJ, yK]); simp only [Act.put, yA, yB, yC, yD, yE, yF])); (iterate 3 (all_goals ((with_reducible refine' hq_step ?_ ?_ ?_); rotate_left; rfl; (focus (intro w1 H1; first | (first | exact qF | exact qAF | exact qRF) | (exact qEF) | (exact qVF))); (try simp only [yG, yH, yJ, yK]); simp only [Act.put, yA, yB, yC, yD, yE, yF]))); all_goals (refine wpQuiet_nil ?_; clear H; intro wn H)) | ((with_reducible apply wp_region_hq (id := 11) H); kernel_rfl; kernel_rfl; (iterate 6 (all_goals ((with_reducible refine' hq_step ?_ ?_ ?_); rotate_left; rfl; (focus (intro w1 H1; first | (first | exact qF | exact qAF | exact qRF) | (exact qVF))); (try simp only [yG, yH, yJ, yK]); simp only [Act.put, yA, yB, yC, yD, yE, yF]))); (all_goals ((with_reducible refine' hq_step ?_ ?_ ?_); rotate_left; rfl; (focus (intro w1 H1; first | exact qSF | exact qWF | exact qVF)); (try simp only [yG, yH, yJ, yK]); simp only [Act.put, yA, yB, yC, yD, yE, yF])); (iterate 3 (all_goals ((with_reducible refine' hq_step ?_ ?_ ?_); rotate_left; rfl; (focus (intro w1 H1; first | (first | exact qF | exact qAF | exact qRF) | (exact qEF) | (exact qVF))); (try simp only [yG, yH, yJ, yK]); simp only [Act.put, yA, yB, yC, yD, yE, yF]))); all_goals (refine wpQuiet_nil ?_; clear H; intro wn H)) | fail)
  go_loopg [3] (n - 1) (fun m kv wr => ∃ (i : Nat), i + 1 + m = n ∧ kv = .int .i64 (i + 1 : Nat) ∧ Hid (compUp l (i + 1) = l.take (i + 1)) ∧ Hs R w0 (Hl.row 96 2 (.slice (some ⟨g, 0, none⟩) n c) n (flat encLab l) :: L) wr)
  case atStart => exact ⟨0, by omega, rfl, Lib.hid (comp_one (by rw [← HN.out]; exact h0)), H⟩
  case round =>
    clear H
    obtain ⟨i, hi, rfl, HI, H⟩ := hrel
    by_cases hlt : i + 1 < n
    · obtain ⟨x, hx⟩ : ∃ x, l[i]? = some x := ⟨l[i]'(by rw [← HN.out]; omega), List.getElem?_eq_getElem (by rw [← HN.out]; omega)⟩
      obtain ⟨y, hy⟩ : ∃ y, l[i + 1]? = some y := ⟨l[i + 1]'(by rw [← HN.out]; omega), List.getElem?_eq_getElem (by rw [← HN.out]; omega)⟩
      have hstep := comp_step hx hy
      have hlt1 : (i : Int) + 1 < n := by omega
      have hlt2 : i < n := by omega
      obtain ⟨x1, x2⟩ := x
      obtain ⟨y1, y2⟩ := y
      have s1 : Seg (flat encLab l) (i * 2) [.int .i64 x1, .int .i64 x2] := flat_seg hx
      have s2 : Seg (flat encLab l) ((i + 1) * 2) [.int .i64 y1, .int .i64 y2] := flat_seg hy
      have HX := Lib.hid hx
      have HY := Lib.hid hy
      clear hx hy
      cases hpx : eqB (y1, y2) (x1, x2)
      · rw [hpx] at hstep
        have HI2 : Hid (compUp l (i + 1 + 1) = l.take (i + 1 + 1)) := Lib.hid (by
          obtain ⟨hl, e⟩ := List.getElem?_eq_some_iff.1 HY.out
          rw [hstep, HI.out, List.take_succ_eq_append_getElem hl, e]; rfl)
        clear hstep
        go_wp2_with (first | ((first | ((with_reducible apply st_load1 H); decide +kernel; rfl; exact cF) | ((with_reducible apply st_loads H); decide +kernel; rfl; exact iF; exact zF; rfl) | ((with_reducible apply st_store H); rfl; exact eF; (focus (exact cells_agg _)); exact uF; kernel_rfl; (focus (exact Nat.le_of_ble_eq_true (by rfl))); (focus (first | rfl | simp))) | ((with_reducible apply st_storeown H); rfl; exact eF; (focus (exact (rfl : _ = [_]))); exact uF; (focus omega); kernel_rfl; rfl)); clear H; intro wn H; (try simp only [splice, yG, yH, yI, yJ, yK, yL, yM, yN, yO, yP, yQ, Nat.reduceAdd, yA, yB, yC] at H); simp only [Act.put, yA, yB, yC, yD, yE, yF]) | ((first | ((with_reducible apply st_strsum H); rfl; rfl; exact szF; kernel_rfl) | ((first | ((with_reducible apply st_eqLabz H); rfl; rfl; (focus assumption)) | ((with_reducible apply st_neLabz H); rfl; rfl; (focus assumption)) | ((with_reducible apply st_eqLab H); rfl; rfl) | ((with_reducible apply st_neLab H); rfl; rfl))) | ((with_reducible apply st_loadat H); decide +kernel; rfl; exact aF; exact zF; rfl) | ((with_reducible apply st_storerow H); rfl; exact eF; (first | exact cells_agg _ | exact cellI | exact cellS | exact cellB | exact (rfl : _ = [_])); exact uF; kernel_rfl; exact Nat.succ_pos _; exact fitF; rfl)); clear H; intro wn H; simp only [Act.put, yA, yB, yC, yD, yE, yF]) | ((with_reducible apply wp_region_hq (id := 6) H); kernel_rfl; kernel_rfl; (iterate 6 (all_goals ((with_reducible refine' hq_step ?_ ?_ ?_); rotate_left; rfl; (focus (intro w1 H1; first | (first | exact qF | exact qAF | exact qRF) | (exact qVF))); (try simp only [yG, yH, yJ, yK]); simp only [Act.put, yA, yB, yC, yD, yE, yF]))); (all_goals ((with_reducible refine' hq_step ?_ ?_ ?_); rotate_left; rfl; (focus (intro w1 H1; first | exact qSF | exact qWF | exact qVF)); (try simp only [yG, yH, yJ, yK]); simp only [Act.put, yA, yB, yC, yD, yE, yF])); (iterate 3 (all_goals ((with_reducible refine' hq_step ?_ ?_ ?_); rotate_left; rfl; (focus (intro w1 H1; first | (first | exact qF | exact qAF | exact qRF) | (exact qEF) | (exact qVF))); (try simp only [yG, yH, yJ, yK]); simp only [Act.put, yA, yB, yC, yD, yE, yF]))); all_goals (refine wpQuiet_nil ?_; clear H; intro wn H)) | ((with_reducible apply wp_region_hq (id := 11) H); kernel_rfl; kernel_rfl; (iterate 6 (all_goals ((with_reducible refine' hq_step ?_ ?_ ?_); rotate_left; rfl; (focus (intro w1 H1; first | (first | exact qF | exact qAF | exact qRF) | (exact qVF))); (try simp only [yG, yH, yJ, yK]); simp only [Act.put, yA, yB, yC, yD, yE, yF]))); (all_goals ((with_reducible refine' hq_step ?_ ?_ ?_); rotate_left; rfl; (focus (intro w1 H1; first | exact qSF | exact qWF | exact qVF)); (try simp only [yG, yH, yJ, yK]); simp only [Act.put, yA, yB, yC, yD, yE, yF])); (iterate 3 (all_goals ((with_reducible refine' hq_step ?_ ?_ ?_); rotate_left; rfl; (focus (intro w1 H1; first | (first | exact qF | exact qAF | exact qRF) | (exact qEF) | (exact qVF))); (try simp only [yG, yH, yJ, yK]); simp only [Act.put, yA, yB, yC, yD, yE, yF]))); all_goals (refine wpQuiet_nil ?_; clear H; intro wn H)) | fail)
        go_roundg (n - (i + 1 + 1))
        case measure => omega
        case rel => exact ⟨i + 1, by omega, by go_num, HI2, H⟩
      · rw [hpx] at hstep
        have HI2 : Hid (compUp l (i + 1 + 1) = l.take (i + 1)) := Lib.hid (by rw [hstep, HI.out]; simp)
        clear hstep
        go_wp2_with (first | ((first | ((with_reducible apply st_load1 H); decide +kernel; rfl; exact cF) | ((with_reducible apply st_loads H); decide +kernel; rfl; exact iF; exact zF; rfl) | ((with_reducible apply st_store H); rfl; exact eF; (focus (exact cells_agg _)); exact uF; kernel_rfl; (focus (exact Nat.le_of_ble_eq_true (by rfl))); (focus (first | rfl | simp))) | ((with_reducible apply st_storeown H); rfl; exact eF; (focus (exact (rfl : _ = [_]))); exact uF; (focus omega); kernel_rfl; rfl)); clear H; intro wn H; (try simp only [splice, yG, yH, yI, yJ, yK, yL, yM, yN, yO, yP, yQ, Nat.reduceAdd, yA, yB, yC] at H); simp only [Act.put, yA, yB, yC, yD, yE, yF]) | ((first | ((with_reducible apply st_strsum H); rfl; rfl; exact szF; kernel_rfl) | ((first | ((with_reducible apply st_eqLabz H); rfl; rfl; (focus assumption)) | ((with_reducible apply st_neLabz H); rfl; rfl; (focus assumption)) | ((with_reducible apply st_eqLab H); rfl; rfl) | ((with_reducible apply st_neLab H); rfl; rfl))) | ((with_reducible apply st_loadat H); decide +kernel; rfl; exact aF; exact zF; rfl) | ((with_reducible apply st_storerow H); rfl; exact eF; (first | exact cells_agg _ | exact cellI | exact cellS | exact cellB | exact (rfl : _ = [_])); exact uF; kernel_rfl; exact Nat.succ_pos _; exact fitF; rfl)); clear H; intro wn H; simp only [Act.put, yA, yB, yC, yD, yE, yF]) | ((with_reducible apply wp_region_hq (id := 6) H); kernel_rfl; kernel_rfl; (iterate 6 (all_goals ((with_reducible refine' hq_step ?_ ?_ ?_); rotate_left; rfl; (focus (intro w1 H1; first | (first | exact qF | exact qAF | exact qRF) | (exact qVF))); (try simp only [yG, yH, yJ, yK]); simp only [Act.put, yA, yB, yC, yD, yE, yF]))); (all_goals ((with_reducible refine' hq_step ?_ ?_ ?_); rotate_left; rfl; (focus (intro w1 H1; first | exact qSF | exact qWF | exact qVF)); (try simp only [yG, yH, yJ, yK]); simp only [Act.put, yA, yB, yC, yD, yE, yF])); (iterate 3 (all_goals ((with_reducible refine' hq_step ?_ ?_ ?_); rotate_left; rfl; (focus (intro w1 H1; first | (first | exact qF | exact qAF | exact qRF) | (exact qEF) | (exact qVF))); (try simp only [yG, yH, yJ, yK]); simp only [Act.put, yA, yB, yC, yD, yE, yF]))); all_goals (refine wpQuiet_nil ?_; clear H; intro wn H)) | ((with_reducible apply wp_region_hq (id := 11) H); kernel_rfl; kernel_rfl; (iterate 6 (all_goals ((with_reducible refine' hq_step ?_ ?_ ?_); rotate_left; rfl; (focus (intro w1 H1; first | (first | exact qF | exact qAF | exact qRF) | (exact qVF))); (try simp only [yG, yH, yJ, yK]); simp only [Act.put, yA, yB, yC, yD, yE, yF]))); (all_goals ((with_reducible refine' hq_step ?_ ?_ ?_); rotate_left; rfl; (focus (intro w1 H1; first | exact qSF | exact qWF | exact qVF)); (try simp only [yG, yH, yJ, yK]); simp only [Act.put, yA, yB, yC, yD, yE, yF])); (iterate 3 (all_goals ((with_reducible refine' hq_step ?_ ?_ ?_); rotate_left; rfl; (focus (intro w1 H1; first | (first | exact qF | exact qAF | exact qRF) | (exact qEF) | (exact qVF))); (try simp only [yG, yH, yJ, yK]); simp only [Act.put, yA, yB, yC, yD, yE, yF]))); all_goals (refine wpQuiet_nil ?_; clear H; intro wn H)) | fail)
        clear hpx s1 s2
        generalize hp : n - (i + 1) = p
        generalize c - (i + 1) = d
        have hp0 : i + 1 + p = n := by omega
        clear hp
        go_loopg [3, 5] (p - 1) (fun m kv jv wr => ∃ (k j : Nat) (ys : List Lab), j + 1 + m = p ∧ k ≤ i + 1 + j ∧ jv = .int .i64 (j + 1 : Nat) ∧ kv = .int .i64 k ∧ Hid (ys.length = n ∧ compUp l (i + 1 + j + 1) = ys.take k ∧ ∀ t, i + 1 + j ≤ t → ys[t]? = l[t]?) ∧ Hs R w0 (Hl.row 96 2 (.slice (some ⟨g, 0, none⟩) n c) n (flat encLab ys) :: L) wr)
        case atStart => exact ⟨i + 1, 0, l, by omega, by omega, rfl, by go_num, Lib.hid ⟨HN.out.symm, HI2.out, fun _ _ => rfl⟩, H⟩
        case round =>
          clear H HX HY
          obtain ⟨k, j, ys, hj, hk, rfl, rfl, HJ, H⟩ := hrel
          have hkn : k < n := by omega
          have hfl : (flat encLab ys).length = n * 2 := by rw [flat_length (enc := encLab) (s := 2) (fun _ => rfl), HJ.out.1]
          by_cases hjp : j + 1 < p
          · obtain ⟨x, hx⟩ : ∃ x, l[i + 1 + j]? = some x := ⟨l[i + 1 + j]'(by rw [← HN.out]; omega), List.getElem?_eq_getElem (by rw [← HN.out]; omega)⟩
            obtain ⟨y, hy⟩ : ∃ y, l[i + 1 + j + 1]? = some y := ⟨l[i + 1 + j + 1]'(by rw [← HN.out]; omega), List.getElem?_eq_getElem (by rw [← HN.out]; omega)⟩
            have hstep := comp_step hx hy
            obtain ⟨x1, x2⟩ := x
            obtain ⟨y1, y2⟩ := y
            have s1 : Seg (flat encLab ys) ((i + 1) * 2 + j * 2) [.int .i64 x1, .int .i64 x2] := by
              have h := flat_seg ((HJ.out.2.2 _ (Nat.le_refl _)).trans hx)
              rw [show (i + 1 + j) * 2 = (i + 1) * 2 + j * 2 by omega] at h
              exact h
            have s2 : Seg (flat encLab ys) ((i + 1) * 2 + (j + 1) * 2) [.int .i64 y1, .int .i64 y2] := by
              have h := flat_seg ((HJ.out.2.2 _ (by omega)).trans hy)
              rw [show (i + 1 + j + 1) * 2 = (i + 1) * 2 + (j + 1) * 2 by omega] at h
              exact h
            have HX := Lib.hid hx
            have HY := Lib.hid hy
            have hlt3 : (j : Int) + 1 < p := by omega
            have hlt4 : j < p := by omega
            have hlt5 : (k : Int) < n := by omega
            have hfit : k * 2 + 2 ≤ (flat encLab ys).length := by omega
            clear hx hy hfl
            cases hpx : eqB (y1, y2) (x1, x2)
            · rw [hpx] at hstep
              have HS : Hid (spl (flat encLab ys) (k * 2) [.int .i64 y1, .int .i64 y2] = flat encLab (ys.set k (y1, y2))) := Lib.hid (flat_set (y := (y1, y2)) (by rw [HJ.out.1]; exact hkn))
              have HJ2 : Hid ((ys.set k (y1, y2)).length = n ∧ compUp l (i + 1 + (j + 1) + 1) = (ys.set k (y1, y2)).take (k + 1) ∧ ∀ t, i + 1 + (j + 1) ≤ t → (ys.set k (y1, y2))[t]? = l[t]?) := Lib.hid
                ⟨by rw [List.length_set]; exact HJ.out.1, by rw [take_set (by rw [HJ.out.1]; exact hkn), ← HJ.out.2.1]; exact hstep, fun t ht => by rw [List.getElem?_set_ne (by omega)]; exact HJ.out.2.2 t (by omega)⟩
              clear hstep
              go_wp2_with (first | ((first | ((with_reducible apply st_load1 H); decide +kernel; rfl; exact cF) | ((with_reducible apply st_loads H); decide +kernel; rfl; exact iF; exact zF; rfl) | ((with_reducible apply st_store H); rfl; exact eF; (focus (exact cells_agg _)); exact uF; kernel_rfl; (focus (exact Nat.le_of_ble_eq_true (by rfl))); (focus (first | rfl | simp))) | ((with_reducible apply st_storeown H); rfl; exact eF; (focus (exact (rfl : _ = [_]))); exact uF; (focus omega); kernel_rfl; rfl)); clear H; intro wn H; (try simp only [splice, yG, yH, yI, yJ, yK, yL, yM, yN, yO, yP, yQ, Nat.reduceAdd, yA, yB, yC] at H); simp only [Act.put, yA, yB, yC, yD, yE, yF]) | ((first | ((with_reducible apply st_strsum H); rfl; rfl; exact szF; kernel_rfl) | ((first | ((with_reducible apply st_eqLabz H); rfl; rfl; (focus assumption)) | ((with_reducible apply st_neLabz H); rfl; rfl; (focus assumption)) | ((with_reducible apply st_eqLab H); rfl; rfl) | ((with_reducible apply st_neLab H); rfl; rfl))) | ((with_reducible apply st_loadat H); decide +kernel; rfl; exact aF; exact zF; rfl) | ((with_reducible apply st_storerow H); rfl; exact eF; (first | exact cells_agg _ | exact cellI | exact cellS | exact cellB | exact (rfl : _ = [_])); exact uF; kernel_rfl; exact Nat.succ_pos _; exact fitF; rfl)); clear H; intro wn H; simp only [Act.put, yA, yB, yC, yD, yE, yF]) | ((with_reducible apply st_loadat H); decide +kernel; rfl; (focus exact (At.row H In.here (by assumption))); exact zF; rfl; clear H; intro wn H; simp only [Act.put, yA, yB, yC, yD, yE, yF]) | ((with_reducible apply wp_region_hq (id := 6) H); kernel_rfl; kernel_rfl; (iterate 6 (all_goals ((with_reducible refine' hq_step ?_ ?_ ?_); rotate_left; rfl; (focus (intro w1 H1; first | (first | exact qF | exact qAF | exact qRF) | (exact qVF))); (try simp only [yG, yH, yJ, yK]); simp only [Act.put, yA, yB, yC, yD, yE, yF]))); (all_goals ((with_reducible refine' hq_step ?_ ?_ ?_); rotate_left; rfl; (focus (intro w1 H1; first | exact qSF | exact qWF | exact qVF)); (try simp only [yG, yH, yJ, yK]); simp only [Act.put, yA, yB, yC, yD, yE, yF])); (iterate 3 (all_goals ((with_reducible refine' hq_step ?_ ?_ ?_); rotate_left; rfl; (focus (intro w1 H1; first | (first | exact qF | exact qAF | exact qRF) | (exact qEF) | (exact qVF))); (try simp only [yG, yH, yJ, yK]); simp only [Act.put, yA, yB, yC, yD, yE, yF]))); all_goals (refine wpQuiet_nil ?_; clear H; intro wn H)) | ((with_reducible apply wp_region_hq (id := 11) H); kernel_rfl; kernel_rfl; (iterate 6 (all_goals ((with_reducible refine' hq_step ?_ ?_ ?_); rotate_left; rfl; (focus (intro w1 H1; first | (first | exact qF | exact qAF | exact qRF) | (exact qVF))); (try simp only [yG, yH, yJ, yK]); simp only [Act.put, yA, yB, yC, yD, yE, yF]))); (all_goals ((with_reducible refine' hq_step ?_ ?_ ?_); rotate_left; rfl; (focus (intro w1 H1; first | exact qSF | exact qWF | exact qVF)); (try simp only [yG, yH, yJ, yK]); simp only [Act.put, yA, yB, yC, yD, yE, yF])); (iterate 3 (all_goals ((with_reducible refine' hq_step ?_ ?_ ?_); rotate_left; rfl; (focus (intro w1 H1; first | (first | exact qF | exact qAF | exact qRF) | (exact qEF) | (exact qVF))); (try simp only [yG, yH, yJ, yK]); simp only [Act.put, yA, yB, yC, yD, yE, yF]))); all_goals (refine wpQuiet_nil ?_; clear H; intro wn H)) | fail)
              rw [HS.out] at H
              go_roundg (p - (j + 1 + 1))
              case measure => omega
              case rel => exact ⟨k + 1, j + 1, _, by omega, by omega, by go_num, by go_num, HJ2, H⟩
            · rw [hpx] at hstep
              have HJ2 : Hid (ys.length = n ∧ compUp l (i + 1 + (j + 1) + 1) = ys.take k ∧ ∀ t, i + 1 + (j + 1) ≤ t → ys[t]? = l[t]?) := Lib.hid
                ⟨HJ.out.1, by rw [← HJ.out.2.1]; exact hstep.trans (List.append_nil _), fun t ht => HJ.out.2.2 t (by omega)⟩
              clear hstep
              go_wp2_with (first | ((first | ((with_reducible apply st_load1 H); decide +kernel; rfl; exact cF) | ((with_reducible apply st_loads H); decide +kernel; rfl; exact iF; exact zF; rfl) | ((with_reducible apply st_store H); rfl; exact eF; (focus (exact cells_agg _)); exact uF; kernel_rfl; (focus (exact Nat.le_of_ble_eq_true (by rfl))); (focus (first | rfl | simp))) | ((with_reducible apply st_storeown H); rfl; exact eF; (focus (exact (rfl : _ = [_]))); exact uF; (focus omega); kernel_rfl; rfl)); clear H; intro wn H; (try simp only [splice, yG, yH, yI, yJ, yK, yL, yM, yN, yO, yP, yQ, Nat.reduceAdd, yA, yB, yC] at H); simp only [Act.put, yA, yB, yC, yD, yE, yF]) | ((first | ((with_reducible apply st_strsum H); rfl; rfl; exact szF; kernel_rfl) | ((first | ((with_reducible apply st_eqLabz H); rfl; rfl; (focus assumption)) | ((with_reducible apply st_neLabz H); rfl; rfl; (focus assumption)) | ((with_reducible apply st_eqLab H); rfl; rfl) | ((with_reducible apply st_neLab H); rfl; rfl))) | ((with_reducible apply st_loadat H); decide +kernel; rfl; exact aF; exact zF; rfl) | ((with_reducible apply st_storerow H); rfl; exact eF; (first | exact cells_agg _ | exact cellI | exact cellS | exact cellB | exact (rfl : _ = [_])); exact uF; kernel_rfl; exact Nat.succ_pos _; exact fitF; rfl)); clear H; intro wn H; simp only [Act.put, yA, yB, yC, yD, yE, yF]) | ((with_reducible apply st_loadat H); decide +kernel; rfl; (focus exact (At.row H In.here (by assumption))); exact zF; rfl; clear H; intro wn H; simp only [Act.put, yA, yB, yC, yD, yE, yF]) | ((with_reducible apply wp_region_hq (id := 6) H); kernel_rfl; kernel_rfl; (iterate 6 (all_goals ((with_reducible refine' hq_step ?_ ?_ ?_); rotate_left; rfl; (focus (intro w1 H1; first | (first | exact qF | exact qAF | exact qRF) | (exact qVF))); (try simp only [yG, yH, yJ, yK]); simp only [Act.put, yA, yB, yC, yD, yE, yF]))); (all_goals ((with_reducible refine' hq_step ?_ ?_ ?_); rotate_left; rfl; (focus (intro w1 H1; first | exact qSF | exact qWF | exact qVF)); (try simp only [yG, yH, yJ, yK]); simp only [Act.put, yA, yB, yC, yD, yE, yF])); (iterate 3 (all_goals ((with_reducible refine' hq_step ?_ ?_ ?_); rotate_left; rfl; (focus (intro w1 H1; first | (first | exact qF | exact qAF | exact qRF) | (exact qEF) | (exact qVF))); (try simp only [yG, yH, yJ, yK]); simp only [Act.put, yA, yB, yC, yD, yE, yF]))); all_goals (refine wpQuiet_nil ?_; clear H; intro wn H)) | ((with_reducible apply wp_region_hq (id := 11) H); kernel_rfl; kernel_rfl; (iterate 6 (all_goals ((with_reducible refine' hq_step ?_ ?_ ?_); rotate_left; rfl; (focus (intro w1 H1; first | (first | exact qF | exact qAF | exact qRF) | (exact qVF))); (try simp only [yG, yH, yJ, yK]); simp only [Act.put, yA, yB, yC, yD, yE, yF]))); (all_goals ((with_reducible refine' hq_step ?_ ?_ ?_); rotate_left; rfl; (focus (intro w1 H1; first | exact qSF | exact qWF | exact qVF)); (try simp only [yG, yH, yJ, yK]); simp only [Act.put, yA, yB, yC, yD, yE, yF])); (iterate 3 (all_goals ((with_reducible refine' hq_step ?_ ?_ ?_); rotate_left; rfl; (focus (intro w1 H1; first | (first | exact qF | exact qAF | exact qRF) | (exact qEF) | (exact qVF))); (try simp only [yG, yH, yJ, yK]); simp only [Act.put, yA, yB, yC, yD, yE, yF]))); all_goals (refine wpQuiet_nil ?_; clear H; intro wn H)) | fail)
              go_roundg (p - (j + 1 + 1))
              case measure => omega
              case rel => exact ⟨k, j + 1, _, by omega, by omega, by go_num, by go_num, HJ2, H⟩
          · obtain rfl : p = j + 1 := by omega
            have hlt3 : ¬ (j : Int) + 1 < (j : Int) + 1 := by omega
            have hlt5 : (k : Int) ≤ n := by omega
            have hlt6 : k ≤ n := by omega
            have hlt7 : (k : Int) ≤ c := by omega
            have hlt8 : k ≤ c := by omega
            have hfit : k * 2 + (n - k) * 2 ≤ (flat encLab ys).length := by omega
            have hE : Hid (compUp l n = ys.take k ∧ k = (compUp l n).length) := Lib.hid (by
              have h := HJ.out.2.1
              rw [show i + 1 + j + 1 = n by omega] at h
              exact ⟨h, by rw [h, List.length_take, HJ.out.1]; omega⟩)
            clear hfl
            go_wp2_with (first | ((first | ((with_reducible apply st_load1 H); decide +kernel; rfl; exact cF) | ((with_reducible apply st_loads H); decide +kernel; rfl; exact iF; exact zF; rfl) | ((with_reducible apply st_store H); rfl; exact eF; (focus (exact cells_agg _)); exact uF; kernel_rfl; (focus (exact Nat.le_of_ble_eq_true (by rfl))); (focus (first | rfl | simp))) | ((with_reducible apply st_storeown H); rfl; exact eF; (focus (exact (rfl : _ = [_]))); exact uF; (focus omega); kernel_rfl; rfl)); clear H; intro wn H; (try simp only [splice, yG, yH, yI, yJ, yK, yL, yM, yN, yO, yP, yQ, Nat.reduceAdd, yA, yB, yC] at H); simp only [Act.put, yA, yB, yC, yD, yE, yF]) | ((first | ((with_reducible apply st_strsum H); rfl; rfl; exact szF; kernel_rfl) | ((first | ((with_reducible apply st_eqLabz H); rfl; rfl; (focus assumption)) | ((with_reducible apply st_neLabz H); rfl; rfl; (focus assumption)) | ((with_reducible apply st_eqLab H); rfl; rfl) | ((with_reducible apply st_neLab H); rfl; rfl))) | ((with_reducible apply st_loadat H); decide +kernel; rfl; exact aF; exact zF; rfl) | ((with_reducible apply st_storerow H); rfl; exact eF; (first | exact cells_agg _ | exact cellI | exact cellS | exact cellB | exact (rfl : _ = [_])); exact uF; kernel_rfl; exact Nat.succ_pos _; exact fitF; rfl)); clear H; intro wn H; simp only [Act.put, yA, yB, yC, yD, yE, yF]) | ((with_reducible apply st_loadat H); decide +kernel; rfl; (focus exact (At.row H In.here (by assumption))); exact zF; rfl; clear H; intro wn H; simp only [Act.put, yA, yB, yC, yD, yE, yF]) | ((with_reducible apply st_clear H); rfl; kernel_rfl; (focus omega); (focus assumption); clear H; intro zs wn hz H; simp only [Act.put, yA, yB, yC, yD, yE, yF]) | ((with_reducible apply wp_region_hq (id := 6) H); kernel_rfl; kernel_rfl; (iterate 6 (all_goals ((with_reducible refine' hq_step ?_ ?_ ?_); rotate_left; rfl; (focus (intro w1 H1; first | (first | exact qF | exact qAF | exact qRF) | (exact qVF))); (try simp only [yG, yH, yJ, yK]); simp only [Act.put, yA, yB, yC, yD, yE, yF]))); (all_goals ((with_reducible refine' hq_step ?_ ?_ ?_); rotate_left; rfl; (focus (intro w1 H1; first | exact qSF | exact qWF | exact qVF)); (try simp only [yG, yH, yJ, yK]); simp only [Act.put, yA, yB, yC, yD, yE, yF])); (iterate 3 (all_goals ((with_reducible refine' hq_step ?_ ?_ ?_); rotate_left; rfl; (focus (intro w1 H1; first | (first | exact qF | exact qAF | exact qRF) | (exact qEF) | (exact qVF))); (try simp only [yG, yH, yJ, yK]); simp only [Act.put, yA, yB, yC, yD, yE, yF]))); all_goals (refine wpQuiet_nil ?_; clear H; intro wn H)) | ((with_reducible apply wp_region_hq (id := 11) H); kernel_rfl; kernel_rfl; (iterate 6 (all_goals ((with_reducible refine' hq_step ?_ ?_ ?_); rotate_left; rfl; (focus (intro w1 H1; first | (first | exact qF | exact qAF | exact qRF) | (exact qVF))); (try simp only [yG, yH, yJ, yK]); simp only [Act.put, yA, yB, yC, yD, yE, yF]))); (all_goals ((with_reducible refine' hq_step ?_ ?_ ?_); rotate_left; rfl; (focus (intro w1 H1; first | exact qSF | exact qWF | exact qVF)); (try simp only [yG, yH, yJ, yK]); simp only [Act.put, yA, yB, yC, yD, yE, yF])); (iterate 3 (all_goals ((with_reducible refine' hq_step ?_ ?_ ?_); rotate_left; rfl; (focus (intro w1 H1; first | (first | exact qF | exact qAF | exact qRF) | (exact qEF) | (exact qVF))); (try simp only [yG, yH, yJ, yK]); simp only [Act.put, yA, yB, yC, yD, yE, yF]))); all_goals (refine wpQuiet_nil ?_; clear H; intro wn H)) | fail)
            have H2 := H.shrinkRow (m := k) (by omega) (by omega)
            rw [spl_take (by omega), flat_takeL, ← hE.out.1] at H2
            go_ret
            exact ⟨by rw [← hE.out.2]; rfl, by rw [← hE.out.2]; exact H2⟩
    · obtain rfl : i + 1 = n := by omega
      have hlt1 : ¬ (i : Int) + 1 < (i : Int) + 1 := by omega
      have HE : Hid (compUp l (i + 1) = l) := Lib.hid (by rw [HI.out, List.take_of_length_le (by rw [← HN.out]; exact Nat.le_refl _)])
      have HL : Hid (l.length = i + 1) := Lib.hid HN.out.symm
      clear HI
      go_wp2_with (first | ((first | ((with_reducible apply st_load1 H); decide +kernel; rfl; exact cF) | ((with_reducible apply st_loads H); decide +kernel; rfl; exact iF; exact zF; rfl) | ((with_reducible apply st_store H); rfl; exact eF; (focus (exact cells_agg _)); exact uF; kernel_rfl; (focus (exact Nat.le_of_ble_eq_true (by rfl))); (focus (first | rfl | simp))) | ((with_reducible apply st_storeown H); rfl; exact eF; (focus (exact (rfl : _ = [_]))); exact uF; (focus omega); kernel_rfl; rfl)); clear H; intro wn H; (try simp only [splice, yG, yH, yI, yJ, yK, yL, yM, yN, yO, yP, yQ, Nat.reduceAdd, yA, yB, yC] at H); simp only [Act.put, yA, yB, yC, yD, yE, yF]) | ((first | ((with_reducible apply st_strsum H); rfl; rfl; exact szF; kernel_rfl) | ((first | ((with_reducible apply st_eqLabz H); rfl; rfl; (focus assumption)) | ((with_reducible apply st_neLabz H); rfl; rfl; (focus assumption)) | ((with_reducible apply st_eqLab H); rfl; rfl) | ((with_reducible apply st_neLab H); rfl; rfl))) | ((with_reducible apply st_loadat H); decide +kernel; rfl; exact aF; exact zF; rfl) | ((with_reducible apply st_storerow H); rfl; exact eF; (first | exact cells_agg _ | exact cellI | exact cellS | exact cellB | exact (rfl : _ = [_])); exact uF; kernel_rfl; exact Nat.succ_pos _; exact fitF; rfl)); clear H; intro wn H; simp only [Act.put, yA, yB, yC, yD, yE, yF]) | ((with_reducible apply st_loadat H); decide +kernel; rfl; (focus exact (At.row H In.here (by assumption))); exact zF; rfl; clear H; intro wn H; simp only [Act.put, yA, yB, yC, yD, yE, yF]) | ((with_reducible apply st_clear H); rfl; kernel_rfl; (focus omega); (focus assumption); clear H; intro zs wn hz H; simp only [Act.put, yA, yB, yC, yD, yE, yF]) | ((with_reducible apply wp_region_hq (id := 6) H); kernel_rfl; kernel_rfl; (iterate 6 (all_goals ((with_reducible refine' hq_step ?_ ?_ ?_); rotate_left; rfl; (focus (intro w1 H1; first | (first | exact qF | exact qAF | exact qRF) | (exact qVF))); (try simp only [yG, yH, yJ, yK]); simp only [Act.put, yA, yB, yC, yD, yE, yF]))); (all_goals ((with_reducible refine' hq_step ?_ ?_ ?_); rotate_left; rfl; (focus (intro w1 H1; first | exact qSF | exact qWF | exact qVF)); (try simp only [yG, yH, yJ, yK]); simp only [Act.put, yA, yB, yC, yD, yE, yF])); (iterate 3 (all_goals ((with_reducible refine' hq_step ?_ ?_ ?_); rotate_left; rfl; (focus (intro w1 H1; first | (first | exact qF | exact qAF | exact qRF) | (exact qEF) | (exact qVF))); (try simp only [yG, yH, yJ, yK]); simp only [Act.put, yA, yB, yC, yD, yE, yF]))); all_goals (refine wpQuiet_nil ?_; clear H; intro wn H)) | ((with_reducible apply wp_region_hq (id := 11) H); kernel_rfl; kernel_rfl; (iterate 6 (all_goals ((with_reducible refine' hq_step ?_ ?_ ?_); rotate_left; rfl; (focus (intro w1 H1; first | (first | exact qF | exact qAF | exact qRF) | (exact qVF))); (try simp only [yG, yH, yJ, yK]); simp only [Act.put, yA, yB, yC, yD, yE, yF]))); (all_goals ((with_reducible refine' hq_step ?_ ?_ ?_); rotate_left; rfl; (focus (intro w1 H1; first | exact qSF | exact qWF | exact qVF)); (try simp only [yG, yH, yJ, yK]); simp only [Act.put, yA, yB, yC, yD, yE, yF])); (iterate 3 (all_goals ((with_reducible refine' hq_step ?_ ?_ ?_); rotate_left; rfl; (focus (intro w1 H1; first | (first | exact qF | exact qAF | exact qRF) | (exact qEF) | (exact qVF))); (try simp only [yG, yH, yJ, yK]); simp only [Act.put, yA, yB, yC, yD, yE, yF]))); all_goals (refine wpQuiet_nil ?_; clear H; intro wn H)) | fail)
      go_ret
      exact ⟨by rw [HE.out, HL.out]; rfl, by rw [HE.out, HL.out]; exact H⟩
end Go.Proofs.YtjklmldchbakjaaGreat
