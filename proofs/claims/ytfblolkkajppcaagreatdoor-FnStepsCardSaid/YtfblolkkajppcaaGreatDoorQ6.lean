/-
  OpRead of the reference: the walk (printed by a program).
-/
import Derived.Test.YtfblolkkajppcaaGreatDoorG2
import Derived.Deep.DeepCutAuto
set_option linter.unusedSimpArgs false
set_option linter.unusedVariables false
namespace Go.Proofs.YtfblolkkajppcaaGreatDoor
open Go.RowKit M
namespace M
theorem idx_spec (w : Bs) : ∀ (l : List ByteArray) (i : Nat), idxIn.go w i l = 0 ∨ ∃ j, idxIn.go w i l = i + j ∧ l[j]? = some (bs w)
  | [], i => .inl rfl
  | x :: r, i => by
    rw [idxIn.go]
    split
    · rename_i h; exact .inr ⟨0, rfl, by rw [h]; rfl⟩
    · rcases idx_spec w r (i + 1) with h | ⟨j, h1, h2⟩
      · exact .inl h
      · exact .inr ⟨j + 1, by omega, by simpa using h2⟩
theorem kind_rng (w : Bs) : 0 ≤ kindOf w ∧ kindOf w ≤ 17 := by
  unfold kindOf idxIn
  rcases idx_spec w words 0 with h | ⟨j, h1, h2⟩
  · rw [h]; omega
  · have := (List.getElem?_eq_some_iff.1 h2).1
    have hl : words.length = 18 := rfl
    rw [h1]; omega
theorem kind_eq {w : Bs} {q : Nat} (h1 : 1 ≤ q) (h17 : q ≤ 17) : bs w = wordOf q ↔ kindOf w = q := by
  constructor
  · intro h
    have e : w = (wordOf q).data.toList := by rw [← h]; rfl
    rw [e]
    exact kindOf_of ⟨by omega, by omega⟩
  · intro h
    unfold kindOf idxIn at h
    rcases idx_spec w words 0 with h' | ⟨j, h2, h3⟩
    · omega
    · have hj : j = q := by omega
      subst hj
      unfold wordOf
      rw [if_pos (by omega), Int.toNat_natCast, List.getD_eq_getElem?_getD, h3]; rfl
theorem kind_nil : kindOf [] = 0 := by decide +kernel
theorem state_nil : stateOf [] = 0 := by decide +kernel
def kq (k : Int) (q : Nat) : Int := if k < q then k else 0
theorem kq_one {k : Int} (h : 0 ≤ k) : kq k 1 = 0 := by unfold kq; split <;> omega
theorem kq_hit {q : Nat} : kq (q : Int) (q + 1) = q := by unfold kq; rw [if_pos (by omega)]
theorem kq_miss {k : Int} {q : Nat} (h : k ≠ q) : kq k (q + 1) = kq k q := by unfold kq; split <;> split <;> omega
theorem kq_zero (q : Nat) : kq 0 q = 0 := by unfold kq; split <;> omega
theorem kq_end {k : Int} (h : k ≤ 17) {q : Nat} (hq : 18 ≤ q) : kq k q = k := by unfold kq; rw [if_pos (by omega)]
/-- the numbers that j rounds have laid -/
def fS (ws : List Bs) (at_ j i : Nat) : Int := if i < j then num7 (getW ws (at_ + i)) else 0
theorem nS_fS {k : Int} {M at_ j : Nat} {ws : List Bs} (h : many k = M) (ha : at_ = atK k ∨ (ws.length ≤ 2 ∧ 2 ≤ at_)) (hj : j ≤ M) (hl : j = 0 ∨ at_ + j ≤ ws.length) (he : j = M ∨ ws.length ≤ at_ + j) (i : Nat) : fS ws at_ j i = nS k ws i := by
  unfold fS nS
  have h2 : 2 ≤ atK k := by unfold atK; split <;> omega
  rw [h]
  rcases ha with rfl | ha
  · by_cases hi : i < j
    · rw [if_pos hi, if_pos ⟨by omega, by omega⟩]
    · rw [if_neg hi, if_neg (by omega)]
  · rw [if_neg (by omega), if_neg (by omega)]
def fB (e1 e2 e3 : Bool) (q : Nat) : Int := if e1 && decide (1 ≤ q) then 1 else if e2 && decide (2 ≤ q) then 2 else if e3 && decide (3 ≤ q) then 3 else 0
theorem state_fB (w : Bs) : stateOf w = fB (w == [117, 112]) (w == [100, 114, 97, 105, 110]) (w == [100, 111, 119, 110]) 3 := by
  by_cases h1 : w = [117, 112]
  · subst h1; decide +kernel
  by_cases h2 : w = [100, 114, 97, 105, 110]
  · subst h2; decide +kernel
  by_cases h3 : w = [100, 111, 119, 110]
  · subst h3; decide +kernel
  have e1 : (w == [117, 112]) = false := by simpa using h1
  have e2 : (w == [100, 114, 97, 105, 110]) = false := by simpa using h2
  have e3 : (w == [100, 111, 119, 110]) = false := by simpa using h3
  rw [e1, e2, e3]
  have n1 : bs [117, 112] ≠ bs w := fun e => h1 (bs_inj.1 e).symm
  have n2 : bs [100, 114, 97, 105, 110] ≠ bs w := fun e => h2 (bs_inj.1 e).symm
  have n3 : bs [100, 111, 119, 110] ≠ bs w := fun e => h3 (bs_inj.1 e).symm
  unfold stateOf idxIn states
  rw [idxIn.go]
  by_cases h0 : bs [] = bs w
  · rw [if_pos h0]; rfl
  · rw [if_neg h0, idxIn.go, if_neg n1, idxIn.go, if_neg n2, idxIn.go, if_neg n3, idxIn.go]; rfl
theorem state_two {w : Bs} : ((w == [117, 112]) = true → (w == [100, 114, 97, 105, 110]) = false ∧ (w == [100, 111, 119, 110]) = false) ∧ ((w == [100, 114, 97, 105, 110]) = true → (w == [100, 111, 119, 110]) = false) := by
  refine ⟨fun h => ?_, fun h => ?_⟩
  · obtain rfl := eq_of_beq h; exact ⟨rfl, rfl⟩
  · obtain rfl := eq_of_beq h; rfl
theorem getW_none {ws : List Bs} {k : Nat} (h : ws.length ≤ k) : getW ws k = [] := by
  unfold getW
  rw [List.getD_eq_getElem?_getD, List.getElem?_eq_none h]; rfl
theorem st_at {ws : List Bs} {k : Nat} (h : k < ws.length) : (strs ws)[k]? = some (.string (bs (getW ws k))) := strs_at (getW_at h)
end M
theorem up_list : (bs [117, 112]).toList = [117, 112] := by decide +kernel
theorem drain_list : (bs [100, 114, 97, 105, 110]).toList = [100, 114, 97, 105, 110] := by decide +kernel
theorem down_list : (bs [100, 111, 119, 110]).toList = [100, 111, 119, 110] := by decide +kernel
theorem st_make4 {R : Nat → Prop} {w0 w : World} {L : List Hl} {a : Act} {ops : Array Oper} {Q : Exit → Act → World → Prop} {rest : List Oper} {dst : Option Tmp} {ty : TypeId} {x y : Operand} {pos : String} {aft : Array Edge} (H : Hs R w0 L w)
    (hx : a.eval x = .int .i64 4) (hy : a.eval y = .int .i64 4) (k : ∀ g w', Hs R w0 (Hl.blk g 2 #[.int .i64 0, .int .i64 0, .int .i64 0, .int .i64 0] :: L) w' → wpList Tryz.prog ops Q rest (a.put dst (.slice (some ⟨g, 0, none⟩) 4 4)) w') :
    wpList Tryz.prog ops Q (⟨dst, .makeSlice 48 x y, ty, pos, aft, none⟩ :: rest) a w :=
  st_make (E := 2) (z := .int .i64 0) (s := 1) (b := 8) H hx hy (by kernel_rfl) (by kernel_rfl) (by decide) (by decide) (by decide) fun g w' h => by
    have e : madeCells (Value.int .i64 0).cells ((4 : Int).toNat * 1) = #[.int .i64 0, .int .i64 0, .int .i64 0, .int .i64 0] := by kernel_rfl
    rw [e] at h
    exact k g w' h
set_option maxRecDepth 100000 in
theorem st_build13 {R : Nat → Prop} {w0 w : World} {L : List Hl} {a : Act} {ops : Array Oper} {Q : Exit → Act → World → Prop} {rest : List Oper} {dst : Option Tmp} {ty : TypeId} {x : Operand} {pos : String} {aft : Array Edge} {v0 v1 v2 v3 v4 v5 v6 v7 v8 v9 v10 v11 : Value} (H : Hs R w0 L w)
    (hx : a.eval x = .agg #[v0, v1, v2, v3, v4, v5, v6, v7, v8, v9, v10, v11]) (k : ∀ w', Hs R w0 L w' → wpList Tryz.prog ops Q rest (a.put dst (.agg #[v0, v1, v2, v3, v4, v5, v6, v7, v8, v9, v10, v11, .int .i64 0])) w') :
    wpList Tryz.prog ops Q (⟨dst, .build 31 #[(0, x)], ty, pos, aft, none⟩ :: rest) a w :=
  st_v H rfl (by
    unfold OpOk
    generalize a.eval = r at hx ⊢
    go_simp
    exact now_v) k
set_option maxRecDepth 100000 in
set_option maxHeartbeats 16000000 in
theorem opRead_s (t : ByteArray) (w : World) : Gives Tryz.prog 11 #[.string t] w (encOut (readS t.data.toList).1 (readS t.data.toList).2) := by
  unfold Gives
  have H := Hs.start noRow w
  have hsz := size_data t
  by_cases hl : 8000 < t.size
  · have HR : Hid (readS t.data.toList = (zeroO, 2)) := Lib.hid (by unfold readS; rw [if_pos (by omega)])
    have hl1 : (8000 : Int) < t.size := by omega
    clear hl hsz
    go_enter Tryz.func11, Tryz.ntmps11
    go_wp2_with (first | ((((with_reducible apply st_store H); rfl; exact eF; (focus (exact cells_agg _)); exact uF; kernel_rfl; (focus (exact Nat.le_of_ble_eq_true (by rfl))); (focus (rfl)))); clear H; intro wn H; (try simp only [splice, yG, yH, yI, yJ, yK, yL, yM, yN, yO, yP, yQ, Nat.reduceAdd, yA, yB, yC] at H); simp only [Act.put, yA, yB, yC, yD, yE, yF]) | ((((with_reducible apply st_alloc (dst := some 2) H); exact nF; intro b2)); clear H; intro wn H; simp only [Act.put, yA, yB, yC, yD, yE, yF]))
    refine bp_cell H rfl rfl iF (by kernel_rfl) (by kernel_rfl) rfl (by first | exact .inl rfl | exact .inr rfl) ?_
    rw [HR.out]
    exact ⟨rfl, H.below⟩
  obtain ⟨ws, hws⟩ : ∃ ws, ws = cut [] t.data.toList := ⟨_, rfl⟩
  have hS : ∀ w, Rets Tryz.prog [] 42 #[.string t, .int .u8 32] w (tRowQ ws) := fun w => by rw [hws]; exact l01Split_s t (by omega) w
  have HW : ∀ k, (getW ws k).length ≤ 8000 := getW_len (n := 8000) (by rw [hws]; intro x hx; have := cut_len _ _ x hx; simp at this; omega)
  have hn1 : 0 < ws.length := by rw [hws]; exact List.length_pos_iff.2 (cut_ne _ _)
  have hn2 : ws.length ≤ 8001 := by rw [hws]; have := cut_count [] t.data.toList; omega
  have hw0 := st_at hn1
  have HRD : Hid (readS t.data.toList = if (candS ws).text != t.data.toList || t.data.toList == [] then (zeroO, 3) else (candS ws, 0)) := Lib.hid (by unfold readS; rw [if_neg (by omega), hws])
  obtain ⟨o, ho⟩ : ∃ o, o = candS ws := ⟨_, rfl⟩
  have HC := Lib.hid ho
  obtain ⟨sy, a1, a2, k, ow, A, B, C, D, m1, m2, af⟩ := o
  have c_sy : sy = (getW ws 0 == sysW) := congrArg Opr.sys ho
  have c_a1 : a1 = if getW ws 0 == sysW then 0 else (lab (getW ws 0)).1 := congrArg Opr.l1 ho
  have c_a2 : a2 = if getW ws 0 == sysW then 0 else (lab (getW ws 0)).2 := congrArg Opr.l2 ho
  have c_k : k = kindOf (getW ws 1) := congrArg Opr.k ho
  have c_ow : ow = if kindOf (getW ws 1) = 1 then bs (getW ws 2) else bs [] := congrArg Opr.ow ho
  have c_A : A = nS (kindOf (getW ws 1)) ws 0 := congrArg Opr.a ho
  have c_B : B = if kindOf (getW ws 1) = 13 then stateOf (getW ws 3) else nS (kindOf (getW ws 1)) ws 1 := congrArg Opr.b ho
  have c_C : C = nS (kindOf (getW ws 1)) ws 2 := congrArg Opr.c ho
  have c_D : D = nS (kindOf (getW ws 1)) ws 3 := congrArg Opr.d ho
  have c_m1 : m1 = if kindOf (getW ws 1) = 1 then (if ws.length = 10 then (lab (getW ws 8)).1 else 0) else if kindOf (getW ws 1) = 7 then (lab (getW ws 2)).1 else 0 := congrArg Opr.m1 ho
  have c_m2 : m2 = if kindOf (getW ws 1) = 1 then (if ws.length = 10 then (lab (getW ws 8)).2 else 0) else if kindOf (getW ws 1) = 7 then (lab (getW ws 2)).2 else 0 := congrArg Opr.m2 ho
  have c_af : af = if kindOf (getW ws 1) = 1 then (if ws.length = 10 then num7 (getW ws 9) else 0) else 0 := congrArg Opr.af ho
  rw [← c_sy] at c_a1 c_a2
  rw [← c_k] at c_ow c_A c_B c_C c_D c_m1 c_m2 c_af
  have hkr := kind_rng (getW ws 1)
  rw [← c_k] at hkr
  obtain ⟨k0, k17⟩ := hkr
  obtain ⟨M, hM, hM4⟩ : ∃ M : Nat, many k = M ∧ M ≤ 4 := ⟨(many k).toNat, by rw [Int.toNat_of_nonneg]; unfold many; split <;> first | omega | (split <;> first | omega | (split <;> first | omega | (split <;> omega))), by unfold many; split <;> first | omega | (split <;> first | omega | (split <;> first | omega | (split <;> omega)))⟩
  have hMn : ∀ w, Gives Tryz.prog 45 #[.int .i64 k] w (.int .i64 M) := fun w => by rw [← hM]; exact l17Many_s _ w
  have hsq : ((bs (getW ws 0)).toList == [115, 121, 115]) = sy := by rw [c_sy, ← bs_beq (getW ws 0) sysW, sys_list]
  have hz : (Tryz.prog.types[24]'(by decide +kernel)).size = 2 := by kernel_rfl
  have hi0 : (0 : Int) < ws.length := by omega
  have hl1 : ¬ (8000 : Int) < t.size := by omega
  have C1 := Lib.hid c_a1
  have C2 := Lib.hid c_a2
  have CK := Lib.hid c_k
  have CO := Lib.hid c_ow
  have CA := Lib.hid c_A
  have CB := Lib.hid c_B
  have CC := Lib.hid c_C
  have CD := Lib.hid c_D
  have CM1 := Lib.hid c_m1
  have CM2 := Lib.hid c_m2
  have CF := Lib.hid c_af
  have HM := Lib.hid hM
  clear hws hsz hl ho c_sy c_a1 c_a2 c_k c_ow c_A c_B c_C c_D c_m1 c_m2 c_af hM
  go_enter Tryz.func11, Tryz.ntmps11
  go_wp2_with (((((with_reducible apply st_alloc (dst := some 2) H); exact nF; intro b2)); clear H; intro wn H; simp only [Act.put, yA, yB, yC, yD, yE, yF]))
  refine (Rets.use (hS _)).mono ?_; rintro e wn ⟨_, _, rfl, ⟨g, c, rfl, rfl⟩, hkk⟩; have Hn := H.moreK (by intro k hk; first | exact absurd hk List.not_mem_nil | (obtain rfl := List.mem_singleton.1 hk; exact In.mem iF)) hkk; clear hkk; clear H; have H := Hn; clear Hn; (try simp only [yT, yV] at H)
  go_upto_if 24 with (first | ((first | ((with_reducible refine st_gwT ?_ ?_); rfl) | ((with_reducible refine st_gwF ?_ ?_); rfl) | ((with_reducible refine st_gsT ?_ ?_); rfl) | ((with_reducible refine st_gsF ?_ ?_); rfl)); (try simp only [Act.put, yA, yB, yC, yD, yE, yF])) | ((with_reducible refine' st_guard ?_ ?_ ?_); rotate_left; rfl; (all_goals (intro hgd; cases hgd)); (try simp only [Act.put, yA, yB, yC, yD, yE, yF])) | ((with_reducible apply st_want); rfl) | ((with_reducible refine st_skip ?_ ?_); rfl; simp only [Act.put, yA, yB, yC, yD, yE, yF]) | ((first | ((with_reducible apply st_load1 H); decide +kernel; rfl; exact cF) | ((with_reducible apply st_loads H); decide +kernel; rfl; exact iF; exact zF; rfl) | ((with_reducible apply st_store H); rfl; exact eF; (focus (exact cells_agg _)); exact uF; kernel_rfl; (focus (exact Nat.le_of_ble_eq_true (by rfl))); (focus (first | rfl | simp))) | ((with_reducible apply st_storeown H); rfl; exact eF; (focus (exact (rfl : _ = [_]))); exact uF; (focus omega); kernel_rfl; rfl)); clear H; intro wn H; (try simp only [splice, yG, yH, yI, yJ, yK, yL, yM, yN, yO, yP, yQ, Nat.reduceAdd, yA, yB, yC] at H); simp only [Act.put, yA, yB, yC, yD, yE, yF]) | ((first | ((with_reducible apply st_alloc (dst := some 2) H); exact nF; intro b2) | ((with_reducible apply st_alloc (dst := some 4) H); exact nF; intro b4) | ((with_reducible apply st_strsum H); rfl; rfl; exact szF; kernel_rfl) | ((with_reducible apply st_bslice H); exact nsF; intro nb) | ((with_reducible apply st_loadat H); decide +kernel; rfl; exact aF; exact zF; rfl) | ((with_reducible apply st_storerow H); rfl; exact eF; (first | exact cells_agg _ | exact cellI | exact cellS | exact cellB | exact (rfl : _ = [_])); exact uF; kernel_rfl; exact Nat.succ_pos _; exact fitF; rfl)); clear H; intro wn H; simp only [Act.put, yA, yB, yC, yD, yE, yF]) | ((first | (go_at_call 43; refine gvF (labelRead_s (getW ws _) (HW _) _) H ?_) | (go_at_call 44; refine gvF (l17Word_s _ _) H ?_) | (go_at_call 45; refine gvF (hMn _) H ?_) | (go_at_call 46; refine gvF (l17Num_s (getW ws _) (HW _) _) H ?_)); clear H; intro wn H) | ((with_reducible apply st_field H); exact fF; clear H; intro wn H; simp only [Act.put, yA, yB, yC, yD, yE, yF]) | ((with_reducible apply st_build13 H); rfl; clear H; intro wn H; simp only [Act.put, yA, yB, yC, yD, yE, yF]) | ((with_reducible apply st_make4 H); rfl; rfl; clear H; intro nb wn H; simp only [Act.put, yA, yB, yC, yD, yE, yF]) | ((with_reducible apply wp_region_hq (id := 10) H); kernel_rfl; kernel_rfl; (iterate 4 (all_goals ((with_reducible refine' hq_step ?_ ?_ ?_); rotate_left; rfl; (focus (intro w1 H1; first | (first | exact qF | exact qAF | exact qRF | exact qNF) | (exact qVF))); (try simp only [yG, yH, yJ, yK]); simp only [Act.put, yA, yB, yC, yD, yE, yF]))); (all_goals ((with_reducible refine' hq_step ?_ ?_ ?_); rotate_left; rfl; (focus (intro w1 H1; unfold QOk; go_simp; exact q_call (l17Word_s _ _))); (try simp only [yG, yH, yJ, yK]); simp only [Act.put, yA, yB, yC, yD, yE, yF])); (iterate 1 (all_goals ((with_reducible refine' hq_step ?_ ?_ ?_); rotate_left; rfl; (focus (intro w1 H1; exact qVF)); (try simp only [yG, yH, yJ, yK]); simp only [Act.put, yA, yB, yC, yD, yE, yF]))); all_goals (refine wpQuiet_nil ?_; clear H; intro wn H)) | fail)
  go_cut [] (fun wr => Hs noRow w [Hl.blk b4 26 #[.bool sy, .int .i64 a1, .int .i64 a2, .int .i64 0, .string ⟨#[]⟩, .int .i64 0, .int .i64 0, .int .i64 0, .int .i64 0, .int .i64 0, .int .i64 0, .int .i64 0], Hl.own 9 1 (.slice (some ⟨g, 0, none⟩) ws.length c) ws.length (strs ws), Hl.blk b2 31 #[.bool false, .int .i64 0, .int .i64 0, .int .i64 0, .string ⟨#[]⟩, .int .i64 0, .int .i64 0, .int .i64 0, .int .i64 0, .int .i64 0, .int .i64 0, .int .i64 0, .int .i64 0]] wr)
  case first =>
    cases sy
    · have e1 := C1.out
      have e2 := C2.out
      simp only [Bool.false_eq_true, if_false] at e1 e2
      subst e1 e2
      clear C1 C2
      go_wp2_with (first | ((first | ((with_reducible apply st_load1 H); decide +kernel; rfl; exact cF) | ((with_reducible apply st_store H); rfl; exact eF; (focus (exact cells_agg _)); exact uF; kernel_rfl; (focus (exact Nat.le_of_ble_eq_true (by rfl))); (focus (rfl)))); clear H; intro wn H; (try simp only [splice, yG, yH, yI, yJ, yK, yL, yM, yN, yO, yP, yQ, Nat.reduceAdd, yA, yB, yC] at H); simp only [Act.put, yA, yB, yC, yD, yE, yF]) | (((go_at_call 43; refine gvF (labelRead_s (getW ws _) (HW _) _) H ?_)); clear H; intro wn H) | ((with_reducible apply st_field H); exact fF; clear H; intro wn H; simp only [Act.put, yA, yB, yC, yD, yE, yF]))
      go_meet
      case rel => exact H.sel sF
    · have e1 := C1.out
      have e2 := C2.out
      simp only [if_true] at e1 e2
      subst e1 e2
      clear C1 C2
      go_wp2_with (fail)
      go_meet
      case rel => exact H.sel sF
  case rest =>
    clear H
    have H := hcut
    clear hcut
    go_wp2_with (fail)
    go_loopg [5] 17 (fun m qv wr => ∃ q : Nat, 1 ≤ q ∧ q + m = 18 ∧ qv = .int .i64 q ∧ Hs noRow w [Hl.blk b4 26 #[.bool sy, .int .i64 a1, .int .i64 a2, .int .i64 (kq k q), .string ⟨#[]⟩, .int .i64 0, .int .i64 0, .int .i64 0, .int .i64 0, .int .i64 0, .int .i64 0, .int .i64 0], Hl.own 9 1 (.slice (some ⟨g, 0, none⟩) ws.length c) ws.length (strs ws), Hl.blk b2 31 #[.bool false, .int .i64 0, .int .i64 0, .int .i64 0, .string ⟨#[]⟩, .int .i64 0, .int .i64 0, .int .i64 0, .int .i64 0, .int .i64 0, .int .i64 0, .int .i64 0, .int .i64 0]] wr)
    case atStart => exact ⟨1, by omega, by omega, rfl, by rw [kq_one k0]; exact H.sel sF⟩
    case round =>
      clear H
      obtain ⟨q, hq1, hq, rfl, H⟩ := hrel
      go_upto_region 8 with fail
      go_cut [37] (fun v wr => v = .bool (decide (q ≤ 17 ∧ 1 < ws.length)) ∧ Hs noRow w [Hl.blk b4 26 #[.bool sy, .int .i64 a1, .int .i64 a2, .int .i64 (kq k q), .string ⟨#[]⟩, .int .i64 0, .int .i64 0, .int .i64 0, .int .i64 0, .int .i64 0, .int .i64 0, .int .i64 0], Hl.own 9 1 (.slice (some ⟨g, 0, none⟩) ws.length c) ws.length (strs ws), Hl.blk b2 31 #[.bool false, .int .i64 0, .int .i64 0, .int .i64 0, .string ⟨#[]⟩, .int .i64 0, .int .i64 0, .int .i64 0, .int .i64 0, .int .i64 0, .int .i64 0, .int .i64 0, .int .i64 0]] wr)
      case first =>
        by_cases c1 : q ≤ 17
        · have c1' : (q : Int) ≤ 17 := by omega
          by_cases c2 : 1 < ws.length
          · have c2' : (1 : Int) < ws.length := by omega
            go_wp2_with (((with_reducible refine' st_guard ?_ ?_ ?_); rotate_left; rfl; (all_goals (intro hgd; cases hgd)); (try simp only [Act.put, yA, yB, yC, yD, yE, yF])))
            go_meet
            case rel => exact ⟨by rw [decide_eq_true (⟨c1, c2⟩ : q ≤ 17 ∧ 1 < ws.length)], H.sel sF⟩
          · have c2' : ¬ (1 : Int) < ws.length := by omega
            go_wp2_with (((with_reducible refine' st_guard ?_ ?_ ?_); rotate_left; rfl; (all_goals (intro hgd; cases hgd)); (try simp only [Act.put, yA, yB, yC, yD, yE, yF])))
            go_meet
            case rel => exact ⟨by rw [decide_eq_false (fun h => c2 h.2 : ¬ (q ≤ 17 ∧ 1 < ws.length))], H.sel sF⟩
        · have c1' : ¬ (q : Int) ≤ 17 := by omega
          go_wp2_with (fail)
          go_meet
          case rel => exact ⟨by rw [decide_eq_false (fun h => c1 h.1 : ¬ (q ≤ 17 ∧ 1 < ws.length))], H.sel sF⟩
      case rest =>
        clear H
        obtain ⟨rfl, H⟩ := hcut
        by_cases cc : q ≤ 17 ∧ 1 < ws.length
        · rw [decide_eq_true cc]
          have hw1 := st_at cc.2
          have i1 : (1 : Int) < ws.length := by have := cc.2; omega
          by_cases hkq : k = q
          · have hB : ((bs (getW ws 1)).toList == (wordOf q).toList) = true := by
              rw [str_beq]
              exact decide_eq_true ((kind_eq hq1 cc.1).2 (by rw [← CK.out]; exact hkq))
            go_wp2_with (first | ((((with_reducible apply st_store H); rfl; exact eF; (focus (exact cells_agg _)); exact uF; kernel_rfl; (focus (exact Nat.le_of_ble_eq_true (by rfl))); (focus (rfl)))); clear H; intro wn H; (try simp only [splice, yG, yH, yI, yJ, yK, yL, yM, yN, yO, yP, yQ, Nat.reduceAdd, yA, yB, yC] at H); simp only [Act.put, yA, yB, yC, yD, yE, yF]) | ((with_reducible apply wp_region_hq (id := 10) H); kernel_rfl; kernel_rfl; (iterate 4 (all_goals ((with_reducible refine' hq_step ?_ ?_ ?_); rotate_left; rfl; (focus (intro w1 H1; first | (exact qF) | (exact qVF))); (try simp only [yG, yH, yJ, yK]); simp only [Act.put, yA, yB, yC, yD, yE, yF]))); (all_goals ((with_reducible refine' hq_step ?_ ?_ ?_); rotate_left; rfl; (focus (intro w1 H1; unfold QOk; go_simp; exact q_call (l17Word_s _ _))); (try simp only [yG, yH, yJ, yK]); simp only [Act.put, yA, yB, yC, yD, yE, yF])); (iterate 1 (all_goals ((with_reducible refine' hq_step ?_ ?_ ?_); rotate_left; rfl; (focus (intro w1 H1; exact qVF)); (try simp only [yG, yH, yJ, yK]); simp only [Act.put, yA, yB, yC, yD, yE, yF]))); all_goals (refine wpQuiet_nil ?_; clear H; intro wn H)))
            go_roundg (17 - q)
            case measure => omega
            case rel => exact ⟨q + 1, by omega, by omega, by go_num, by rw [hkq, kq_hit]; exact H.sel sF⟩
          · have hB : ((bs (getW ws 1)).toList == (wordOf q).toList) = false := by
              rw [str_beq]
              exact decide_eq_false fun h => hkq (by rw [CK.out]; exact (kind_eq hq1 cc.1).1 h)
            go_wp2_with (((with_reducible apply wp_region_hq (id := 10) H); kernel_rfl; kernel_rfl; (iterate 4 (all_goals ((with_reducible refine' hq_step ?_ ?_ ?_); rotate_left; rfl; (focus (intro w1 H1; first | (exact qF) | (exact qVF))); (try simp only [yG, yH, yJ, yK]); simp only [Act.put, yA, yB, yC, yD, yE, yF]))); (all_goals ((with_reducible refine' hq_step ?_ ?_ ?_); rotate_left; rfl; (focus (intro w1 H1; unfold QOk; go_simp; exact q_call (l17Word_s _ _))); (try simp only [yG, yH, yJ, yK]); simp only [Act.put, yA, yB, yC, yD, yE, yF])); (iterate 1 (all_goals ((with_reducible refine' hq_step ?_ ?_ ?_); rotate_left; rfl; (focus (intro w1 H1; exact qVF)); (try simp only [yG, yH, yJ, yK]); simp only [Act.put, yA, yB, yC, yD, yE, yF]))); all_goals (refine wpQuiet_nil ?_; clear H; intro wn H)))
            go_roundg (17 - q)
            case measure => omega
            case rel => exact ⟨q + 1, by omega, by omega, by go_num, by rw [kq_miss hkq]; exact H.sel sF⟩
        · rw [decide_eq_false cc]
          have hke : kq k q = k := by
            by_cases c2 : 1 < ws.length
            · exact kq_end k17 (by omega)
            · have : k = 0 := by rw [CK.out, getW_none (by omega), kind_nil]
              rw [this, kq_zero]
          rw [hke] at H
          clear hke cc
          go_upto_block 2 with (first | ((first | ((with_reducible refine st_gwT ?_ ?_); rfl) | ((with_reducible refine st_gwF ?_ ?_); rfl) | ((with_reducible refine st_gsT ?_ ?_); rfl) | ((with_reducible refine st_gsF ?_ ?_); rfl)); (try simp only [Act.put, yA, yB, yC, yD, yE, yF])) | ((with_reducible refine' st_guard ?_ ?_ ?_); rotate_left; rfl; (all_goals (intro hgd; cases hgd)); (try simp only [Act.put, yA, yB, yC, yD, yE, yF])) | ((with_reducible apply st_want); rfl) | ((with_reducible refine st_skip ?_ ?_); rfl; simp only [Act.put, yA, yB, yC, yD, yE, yF]) | ((first | ((with_reducible apply st_load1 H); decide +kernel; rfl; exact cF) | ((with_reducible apply st_loads H); decide +kernel; rfl; exact iF; exact zF; rfl) | ((with_reducible apply st_store H); rfl; exact eF; (focus (exact cells_agg _)); exact uF; kernel_rfl; (focus (exact Nat.le_of_ble_eq_true (by rfl))); (focus (first | rfl | simp))) | ((with_reducible apply st_storeown H); rfl; exact eF; (focus (exact (rfl : _ = [_]))); exact uF; (focus omega); kernel_rfl; rfl)); clear H; intro wn H; (try simp only [splice, yG, yH, yI, yJ, yK, yL, yM, yN, yO, yP, yQ, Nat.reduceAdd, yA, yB, yC] at H); simp only [Act.put, yA, yB, yC, yD, yE, yF]) | ((first | ((with_reducible apply st_alloc (dst := some 2) H); exact nF; intro b2) | ((with_reducible apply st_alloc (dst := some 4) H); exact nF; intro b4) | ((with_reducible apply st_strsum H); rfl; rfl; exact szF; kernel_rfl) | ((with_reducible apply st_bslice H); exact nsF; intro nb) | ((with_reducible apply st_loadat H); decide +kernel; rfl; exact aF; exact zF; rfl) | ((with_reducible apply st_storerow H); rfl; exact eF; (first | exact cells_agg _ | exact cellI | exact cellS | exact cellB | exact (rfl : _ = [_])); exact uF; kernel_rfl; exact Nat.succ_pos _; exact fitF; rfl)); clear H; intro wn H; simp only [Act.put, yA, yB, yC, yD, yE, yF]) | ((first | (go_at_call 43; refine gvF (labelRead_s (getW ws _) (HW _) _) H ?_) | (go_at_call 44; refine gvF (l17Word_s _ _) H ?_) | (go_at_call 45; refine gvF (hMn _) H ?_) | (go_at_call 46; refine gvF (l17Num_s (getW ws _) (HW _) _) H ?_)); clear H; intro wn H) | ((with_reducible apply st_field H); exact fF; clear H; intro wn H; simp only [Act.put, yA, yB, yC, yD, yE, yF]) | ((with_reducible apply st_build13 H); rfl; clear H; intro wn H; simp only [Act.put, yA, yB, yC, yD, yE, yF]) | ((with_reducible apply st_make4 H); rfl; rfl; clear H; intro nb wn H; simp only [Act.put, yA, yB, yC, yD, yE, yF]) | ((with_reducible apply wp_region_hq (id := 10) H); kernel_rfl; kernel_rfl; (iterate 4 (all_goals ((with_reducible refine' hq_step ?_ ?_ ?_); rotate_left; rfl; (focus (intro w1 H1; first | (first | exact qF | exact qAF | exact qRF | exact qNF) | (exact qVF))); (try simp only [yG, yH, yJ, yK]); simp only [Act.put, yA, yB, yC, yD, yE, yF]))); (all_goals ((with_reducible refine' hq_step ?_ ?_ ?_); rotate_left; rfl; (focus (intro w1 H1; unfold QOk; go_simp; exact q_call (l17Word_s _ _))); (try simp only [yG, yH, yJ, yK]); simp only [Act.put, yA, yB, yC, yD, yE, yF])); (iterate 1 (all_goals ((with_reducible refine' hq_step ?_ ?_ ?_); rotate_left; rfl; (focus (intro w1 H1; exact qVF)); (try simp only [yG, yH, yJ, yK]); simp only [Act.put, yA, yB, yC, yD, yE, yF]))); all_goals (refine wpQuiet_nil ?_; clear H; intro wn H)) | fail)
          go_cut [6] (fun v wr => ∃ (at_ : Nat) (b0 u1 u2 : Int), v = .int .i64 at_ ∧ Hid ((at_ = 2 ∨ at_ = 3) ∧ (at_ = atK k ∨ (ws.length ≤ 2 ∧ 2 ≤ at_)) ∧ b0 = (if k = 13 then B else 0) ∧ u1 = (if k = 7 then m1 else 0) ∧ u2 = (if k = 7 then m2 else 0)) ∧ Hs noRow w [Hl.blk b4 26 #[.bool sy, .int .i64 a1, .int .i64 a2, .int .i64 k, .string ow, .int .i64 0, .int .i64 b0, .int .i64 0, .int .i64 0, .int .i64 u1, .int .i64 u2, .int .i64 0], Hl.own 9 1 (.slice (some ⟨g, 0, none⟩) ws.length c) ws.length (strs ws), Hl.blk b2 31 #[.bool false, .int .i64 0, .int .i64 0, .int .i64 0, .string ⟨#[]⟩, .int .i64 0, .int .i64 0, .int .i64 0, .int .i64 0, .int .i64 0, .int .i64 0, .int .i64 0, .int .i64 0]] wr)
          case first =>
            as_aux_lemma =>
            have hcase : (k = 1 ∧ 2 < ws.length) ∨ (k = 1 ∧ ¬ 2 < ws.length) ∨ (k = 7 ∧ 2 < ws.length) ∨ (k = 7 ∧ ¬ 2 < ws.length) ∨ (k = 13 ∧ 3 < ws.length) ∨ (k = 13 ∧ ¬ 3 < ws.length) ∨ (k ≠ 1 ∧ k ≠ 7 ∧ k ≠ 13) := by omega
            rcases hcase with ⟨rfl, hlen⟩ | ⟨rfl, hlen⟩ | ⟨rfl, hlen⟩ | ⟨rfl, hlen⟩ | ⟨rfl, hlen⟩ | ⟨rfl, hlen⟩ | ⟨h1, h7, h13⟩
            · have eo := CO.out
              rw [if_pos rfl] at eo
              subst eo
              have i2 : (2 : Int) < ws.length := by omega
              have hw2 := st_at hlen
              go_wp2_with (first | ((with_reducible refine' st_guard ?_ ?_ ?_); rotate_left; rfl; (all_goals (intro hgd; cases hgd)); (try simp only [Act.put, yA, yB, yC, yD, yE, yF])) | ((first | ((with_reducible apply st_load1 H); decide +kernel; rfl; exact cF) | ((with_reducible apply st_store H); rfl; exact eF; (focus (exact cells_agg _)); exact uF; kernel_rfl; (focus (exact Nat.le_of_ble_eq_true (by rfl))); (focus (rfl)))); clear H; intro wn H; (try simp only [splice, yG, yH, yI, yJ, yK, yL, yM, yN, yO, yP, yQ, Nat.reduceAdd, yA, yB, yC] at H); simp only [Act.put, yA, yB, yC, yD, yE, yF]))
              go_meet
              case rel => exact ⟨3, 0, 0, 0, rfl, Lib.hid ⟨by decide, .inl rfl, by simp, by simp, by simp⟩, H.sel sF⟩
            · have eo := CO.out
              rw [if_pos rfl, getW_none (by omega), bs_nil] at eo
              subst eo
              have i2 : ¬ (2 : Int) < ws.length := by omega
              go_wp2_with (first | ((with_reducible refine' st_guard ?_ ?_ ?_); rotate_left; rfl; (all_goals (intro hgd; cases hgd)); (try simp only [Act.put, yA, yB, yC, yD, yE, yF])) | ((((with_reducible apply st_load1 H); decide +kernel; rfl; exact cF)); clear H; intro wn H; (try simp only [splice, yG, yH, yI, yJ, yK, yL, yM, yN, yO, yP, yQ, Nat.reduceAdd, yA, yB, yC] at H); simp only [Act.put, yA, yB, yC, yD, yE, yF]))
              go_meet
              case rel => exact ⟨2, 0, 0, 0, rfl, Lib.hid ⟨by decide, .inr ⟨by omega, by decide⟩, by simp, by simp, by simp⟩, H.sel sF⟩
            · have eo := CO.out
              rw [if_neg (by decide), bs_nil] at eo
              have em1 := CM1.out
              have em2 := CM2.out
              rw [if_neg (by decide), if_pos rfl] at em1 em2
              subst eo em1 em2
              have i2 : (2 : Int) < ws.length := by omega
              have hw2 := st_at hlen
              go_wp2_with (first | ((with_reducible refine' st_guard ?_ ?_ ?_); rotate_left; rfl; (all_goals (intro hgd; cases hgd)); (try simp only [Act.put, yA, yB, yC, yD, yE, yF])) | ((first | ((with_reducible apply st_load1 H); decide +kernel; rfl; exact cF) | ((with_reducible apply st_store H); rfl; exact eF; (focus (exact cells_agg _)); exact uF; kernel_rfl; (focus (exact Nat.le_of_ble_eq_true (by rfl))); (focus (rfl)))); clear H; intro wn H; (try simp only [splice, yG, yH, yI, yJ, yK, yL, yM, yN, yO, yP, yQ, Nat.reduceAdd, yA, yB, yC] at H); simp only [Act.put, yA, yB, yC, yD, yE, yF]) | (((go_at_call 43; refine gvF (labelRead_s (getW ws _) (HW _) _) H ?_)); clear H; intro wn H) | ((with_reducible apply st_field H); exact fF; clear H; intro wn H; simp only [Act.put, yA, yB, yC, yD, yE, yF]))
              go_meet
              case rel => exact ⟨3, 0, (lab (getW ws 2)).1, (lab (getW ws 2)).2, rfl, Lib.hid ⟨by decide, .inl rfl, by simp, by simp, by simp⟩, H.sel sF⟩
            · have eo := CO.out
              rw [if_neg (by decide), bs_nil] at eo
              have em1 := CM1.out
              have em2 := CM2.out
              rw [if_neg (by decide), if_pos rfl, getW_none (by omega), lab_nil] at em1 em2
              subst eo em1 em2
              have i2 : ¬ (2 : Int) < ws.length := by omega
              go_wp2_with (first | ((with_reducible refine' st_guard ?_ ?_ ?_); rotate_left; rfl; (all_goals (intro hgd; cases hgd)); (try simp only [Act.put, yA, yB, yC, yD, yE, yF])) | ((((with_reducible apply st_load1 H); decide +kernel; rfl; exact cF)); clear H; intro wn H; (try simp only [splice, yG, yH, yI, yJ, yK, yL, yM, yN, yO, yP, yQ, Nat.reduceAdd, yA, yB, yC] at H); simp only [Act.put, yA, yB, yC, yD, yE, yF]))
              go_meet
              case rel => exact ⟨2, 0, 0, 0, rfl, Lib.hid ⟨by decide, .inr ⟨by omega, by decide⟩, by simp, by simp, by simp⟩, H.sel sF⟩
            · have eo := CO.out
              rw [if_neg (by decide), bs_nil] at eo
              have eB := CB.out
              rw [if_pos rfl, state_fB] at eB
              have two := state_two (w := getW ws 3)
              obtain ⟨e1, he1⟩ : ∃ e, e = (getW ws 3 == [117, 112]) := ⟨_, rfl⟩
              obtain ⟨e2, he2⟩ : ∃ e, e = (getW ws 3 == [100, 114, 97, 105, 110]) := ⟨_, rfl⟩
              obtain ⟨e3, he3⟩ : ∃ e, e = (getW ws 3 == [100, 111, 119, 110]) := ⟨_, rfl⟩
              rw [← he1, ← he2, ← he3] at two eB
              have q1 : ((bs (getW ws 3)).toList == [117, 112]) = e1 := by rw [he1, ← bs_beq (getW ws 3) [117, 112], up_list]
              have q2 : ((bs (getW ws 3)).toList == [100, 114, 97, 105, 110]) = e2 := by rw [he2, ← bs_beq (getW ws 3) [100, 114, 97, 105, 110], drain_list]
              have q3 : ((bs (getW ws 3)).toList == [100, 111, 119, 110]) = e3 := by rw [he3, ← bs_beq (getW ws 3) [100, 111, 119, 110], down_list]
              have hcomb : (e1 = true ∧ e2 = false ∧ e3 = false) ∨ (e1 = false ∧ e2 = true ∧ e3 = false) ∨ (e1 = false ∧ e2 = false ∧ e3 = true) ∨ (e1 = false ∧ e2 = false ∧ e3 = false) := by
                clear q1 q2 q3 he1 he2 he3 eB
                revert two
                cases e1 <;> cases e2 <;> cases e3 <;> simp
              subst eo
              clear two he1 he2 he3
              have i2 : (3 : Int) < ws.length := by omega
              have hw3 := st_at hlen
              have EB := Lib.hid eB
              clear eB
              go_wp2_with (first | ((with_reducible refine' st_guard ?_ ?_ ?_); rotate_left; rfl; (all_goals (intro hgd; cases hgd)); (try simp only [Act.put, yA, yB, yC, yD, yE, yF])) | ((((with_reducible apply st_load1 H); decide +kernel; rfl; exact cF)); clear H; intro wn H; (try simp only [splice, yG, yH, yI, yJ, yK, yL, yM, yN, yO, yP, yQ, Nat.reduceAdd, yA, yB, yC] at H); simp only [Act.put, yA, yB, yC, yD, yE, yF]) | ((((with_reducible apply st_bslice H); exact nsF; intro nb)); clear H; intro wn H; simp only [Act.put, yA, yB, yC, yD, yE, yF]))
              go_loopg [7, 8, 87] 3 (fun m _ _ qv wr => ∃ q : Nat, q + m = 3 ∧ qv = .int .i64 q ∧ Hs noRow w [Hl.blk nb 9 #[.string ⟨#[117, 112]⟩, .string ⟨#[100, 114, 97, 105, 110]⟩, .string ⟨#[100, 111, 119, 110]⟩], Hl.blk b4 26 #[.bool sy, .int .i64 a1, .int .i64 a2, .int .i64 13, .string ⟨#[]⟩, .int .i64 0, .int .i64 (fB e1 e2 e3 q), .int .i64 0, .int .i64 0, .int .i64 0, .int .i64 0, .int .i64 0], Hl.own 9 1 (.slice (some ⟨g, 0, none⟩) ws.length c) ws.length (strs ws), Hl.blk b2 31 #[.bool false, .int .i64 0, .int .i64 0, .int .i64 0, .string ⟨#[]⟩, .int .i64 0, .int .i64 0, .int .i64 0, .int .i64 0, .int .i64 0, .int .i64 0, .int .i64 0, .int .i64 0]] wr)
              case atStart =>
                refine ⟨0, by omega, rfl, ?_⟩
                have e0 : fB e1 e2 e3 0 = 0 := by unfold fB; simp
                rw [e0]
                exact H.sel sF
              case round =>
                clear H
                obtain ⟨q, hq, rfl, H⟩ := hrel
                have hq4 : q = 0 ∨ q = 1 ∨ q = 2 ∨ q = 3 := by omega
                rcases hcomb with ⟨rfl, rfl, rfl⟩ | ⟨rfl, rfl, rfl⟩ | ⟨rfl, rfl, rfl⟩ | ⟨rfl, rfl, rfl⟩
                all_goals (
                  rcases hq4 with rfl | rfl | rfl | rfl
                  all_goals (
                    go_wp2_with (((first | ((with_reducible apply st_load1 H); decide +kernel; rfl; exact cF) | ((with_reducible apply st_store H); rfl; exact eF; (focus (exact cells_agg _)); exact uF; kernel_rfl; (focus (exact Nat.le_of_ble_eq_true (by rfl))); (focus (rfl)))); clear H; intro wn H; (try simp only [splice, yG, yH, yI, yJ, yK, yL, yM, yN, yO, yP, yQ, Nat.reduceAdd, yA, yB, yC] at H); simp only [Act.put, yA, yB, yC, yD, yE, yF]))
                  )
                  · go_roundg 2
                    case measure => omega
                    case rel => exact ⟨1, by omega, rfl, H⟩
                  · go_roundg 1
                    case measure => omega
                    case rel => exact ⟨2, by omega, rfl, H⟩
                  · go_roundg 0
                    case measure => omega
                    case rel => exact ⟨3, by omega, rfl, H⟩
                  · go_meet
                    case rel =>
                      rw [← EB.out] at H
                      exact ⟨2, B, 0, 0, rfl, Lib.hid ⟨by decide, .inl rfl, by simp, by simp, by simp⟩, H.sel sF⟩
                )
            · have eo := CO.out
              rw [if_neg (by decide), bs_nil] at eo
              have eB := CB.out
              rw [if_pos rfl, getW_none (by omega), state_nil] at eB
              subst eo eB
              have i2 : ¬ (3 : Int) < ws.length := by omega
              go_wp2_with (first | ((with_reducible refine' st_guard ?_ ?_ ?_); rotate_left; rfl; (all_goals (intro hgd; cases hgd)); (try simp only [Act.put, yA, yB, yC, yD, yE, yF])) | ((((with_reducible apply st_load1 H); decide +kernel; rfl; exact cF)); clear H; intro wn H; (try simp only [splice, yG, yH, yI, yJ, yK, yL, yM, yN, yO, yP, yQ, Nat.reduceAdd, yA, yB, yC] at H); simp only [Act.put, yA, yB, yC, yD, yE, yF]))
              go_meet
              case rel => exact ⟨2, 0, 0, 0, rfl, Lib.hid ⟨by decide, .inl rfl, by simp, by simp, by simp⟩, H.sel sF⟩
            · have eo := CO.out
              rw [if_neg h1, bs_nil] at eo
              subst eo
              have g1 : (k == 1) = false := by simpa using h1
              have g7 : (k == 7) = false := by simpa using h7
              have g13 : (k == 13) = false := by simpa using h13
              go_wp2_with (((((with_reducible apply st_load1 H); decide +kernel; rfl; exact cF)); clear H; intro wn H; (try simp only [splice, yG, yH, yI, yJ, yK, yL, yM, yN, yO, yP, yQ, Nat.reduceAdd, yA, yB, yC] at H); simp only [Act.put, yA, yB, yC, yD, yE, yF]))
              go_meet
              case rel => exact ⟨2, 0, 0, 0, rfl, Lib.hid ⟨by decide, .inl (by unfold atK; rw [if_neg (by omega)]), by rw [if_neg h13], by rw [if_neg h7], by rw [if_neg h7]⟩, H.sel sF⟩
          case rest =>
            clear H
            obtain ⟨at_, b0, u1, u2, rfl, HJ, H⟩ := hcut
            obtain ⟨hat, hat2, hb0, hu1, hu2⟩ := HJ.out
            have HT2 := Lib.hid hat2
            have HB0 := Lib.hid hb0
            have HU1 := Lib.hid hu1
            have HU2 := Lib.hid hu2
            clear HJ hat2 hb0 hu1 hu2
            as_aux_lemma =>
            go_wp2_with (((with_reducible apply st_make4 H); rfl; rfl; clear H; intro nb wn H; simp only [Act.put, yA, yB, yC, yD, yE, yF]))
            go_loopg [10] M (fun m jv wr => ∃ j : Nat, j + m = M ∧ jv = .int .i64 j ∧ (j = 0 ∨ at_ + j ≤ ws.length) ∧ Hs noRow w [Hl.blk nb 2 #[.int .i64 (fS ws at_ j 0), .int .i64 (fS ws at_ j 1), .int .i64 (fS ws at_ j 2), .int .i64 (fS ws at_ j 3)], Hl.blk b4 26 #[.bool sy, .int .i64 a1, .int .i64 a2, .int .i64 k, .string ow, .int .i64 0, .int .i64 b0, .int .i64 0, .int .i64 0, .int .i64 u1, .int .i64 u2, .int .i64 0], Hl.own 9 1 (.slice (some ⟨g, 0, none⟩) ws.length c) ws.length (strs ws), Hl.blk b2 31 #[.bool false, .int .i64 0, .int .i64 0, .int .i64 0, .string ⟨#[]⟩, .int .i64 0, .int .i64 0, .int .i64 0, .int .i64 0, .int .i64 0, .int .i64 0, .int .i64 0, .int .i64 0]] wr)
            case atStart =>
              refine ⟨0, by omega, rfl, .inl rfl, ?_⟩
              have h : Hs noRow w [Hl.blk nb 2 #[.int .i64 0, .int .i64 0, .int .i64 0, .int .i64 0], Hl.blk b4 26 #[.bool sy, .int .i64 a1, .int .i64 a2, .int .i64 k, .string ow, .int .i64 0, .int .i64 b0, .int .i64 0, .int .i64 0, .int .i64 u1, .int .i64 u2, .int .i64 0], Hl.own 9 1 (.slice (some ⟨g, 0, none⟩) ws.length c) ws.length (strs ws), Hl.blk b2 31 #[.bool false, .int .i64 0, .int .i64 0, .int .i64 0, .string ⟨#[]⟩, .int .i64 0, .int .i64 0, .int .i64 0, .int .i64 0, .int .i64 0, .int .i64 0, .int .i64 0, .int .i64 0]] _ := H.sel sF
              exact h
            case round =>
              clear H
              obtain ⟨j, hj, rfl, hjl, H⟩ := hrel
              go_upto_region 28 with fail
              go_cut [114] (fun v wr => v = .bool (decide (j < M ∧ at_ + j < ws.length)) ∧ Hs noRow w [Hl.blk nb 2 #[.int .i64 (fS ws at_ j 0), .int .i64 (fS ws at_ j 1), .int .i64 (fS ws at_ j 2), .int .i64 (fS ws at_ j 3)], Hl.blk b4 26 #[.bool sy, .int .i64 a1, .int .i64 a2, .int .i64 k, .string ow, .int .i64 0, .int .i64 b0, .int .i64 0, .int .i64 0, .int .i64 u1, .int .i64 u2, .int .i64 0], Hl.own 9 1 (.slice (some ⟨g, 0, none⟩) ws.length c) ws.length (strs ws), Hl.blk b2 31 #[.bool false, .int .i64 0, .int .i64 0, .int .i64 0, .string ⟨#[]⟩, .int .i64 0, .int .i64 0, .int .i64 0, .int .i64 0, .int .i64 0, .int .i64 0, .int .i64 0, .int .i64 0]] wr)
              case first =>
                by_cases c1 : j < M
                · have c1' : (j : Int) < M := by omega
                  by_cases c2 : at_ + j < ws.length
                  · have c2' : (at_ : Int) + j < ws.length := by omega
                    go_wp2_with (first | ((with_reducible refine' st_guard ?_ ?_ ?_); rotate_left; rfl; (all_goals (intro hgd; cases hgd)); (try simp only [Act.put, yA, yB, yC, yD, yE, yF])) | ((((with_reducible apply st_load1 H); decide +kernel; rfl; exact cF)); clear H; intro wn H; (try simp only [splice, yG, yH, yI, yJ, yK, yL, yM, yN, yO, yP, yQ, Nat.reduceAdd, yA, yB, yC] at H); simp only [Act.put, yA, yB, yC, yD, yE, yF]) | (((go_at_call 45; refine gvF (hMn _) H ?_)); clear H; intro wn H))
                    go_meet
                    case rel => exact ⟨by rw [decide_eq_true (⟨c1, c2⟩ : j < M ∧ at_ + j < ws.length)], H.sel sF⟩
                  · have c2' : ¬ (at_ : Int) + j < ws.length := by omega
                    go_wp2_with (first | ((with_reducible refine' st_guard ?_ ?_ ?_); rotate_left; rfl; (all_goals (intro hgd; cases hgd)); (try simp only [Act.put, yA, yB, yC, yD, yE, yF])) | ((((with_reducible apply st_load1 H); decide +kernel; rfl; exact cF)); clear H; intro wn H; (try simp only [splice, yG, yH, yI, yJ, yK, yL, yM, yN, yO, yP, yQ, Nat.reduceAdd, yA, yB, yC] at H); simp only [Act.put, yA, yB, yC, yD, yE, yF]) | (((go_at_call 45; refine gvF (hMn _) H ?_)); clear H; intro wn H))
                    go_meet
                    case rel => exact ⟨by rw [decide_eq_false (fun h => c2 h.2 : ¬ (j < M ∧ at_ + j < ws.length))]; first | done | rw [decide_eq_false (by omega)], H.sel sF⟩
                · have c1' : ¬ (j : Int) < M := by omega
                  go_wp2_with (first | ((((with_reducible apply st_load1 H); decide +kernel; rfl; exact cF)); clear H; intro wn H; (try simp only [splice, yG, yH, yI, yJ, yK, yL, yM, yN, yO, yP, yQ, Nat.reduceAdd, yA, yB, yC] at H); simp only [Act.put, yA, yB, yC, yD, yE, yF]) | (((go_at_call 45; refine gvF (hMn _) H ?_)); clear H; intro wn H))
                  go_meet
                  case rel => exact ⟨by rw [decide_eq_false (fun h => c1 h.1 : ¬ (j < M ∧ at_ + j < ws.length))], H.sel sF⟩
              case rest =>
                clear H
                obtain ⟨rfl, H⟩ := hcut
                by_cases cc : j < M ∧ at_ + j < ws.length
                · rw [decide_eq_true cc]
                  obtain ⟨cj, cl⟩ := cc
                  have hjj : j = 0 ∨ j = 1 ∨ j = 2 ∨ j = 3 := by omega
                  rcases hat with rfl | rfl
                  all_goals rcases hjj with rfl | rfl | rfl | rfl
                  all_goals (
                    have hwj := st_at cl
                    simp only [Nat.reduceAdd] at hwj cl
                    try have i2 : (2 : Int) < ws.length := by omega
                    try have i3 : (3 : Int) < ws.length := by omega
                    try have i4 : (4 : Int) < ws.length := by omega
                    try have i5 : (5 : Int) < ws.length := by omega
                    try have i6 : (6 : Int) < ws.length := by omega
                    go_wp2_with (first | ((first | ((with_reducible apply st_load1 H); decide +kernel; rfl; exact cF) | ((with_reducible apply st_store H); rfl; exact eF; (focus (exact cells_agg _)); exact uF; kernel_rfl; (focus (exact Nat.le_of_ble_eq_true (by rfl))); (focus (rfl)))); clear H; intro wn H; (try simp only [splice, yG, yH, yI, yJ, yK, yL, yM, yN, yO, yP, yQ, Nat.reduceAdd, yA, yB, yC] at H); simp only [Act.put, yA, yB, yC, yD, yE, yF]) | (((go_at_call 46; refine gvF (l17Num_s (getW ws _) (HW _) _) H ?_)); clear H; intro wn H))
                  )
                  · go_roundg (M - (0 + 1))
                    case measure => omega
                    case rel => exact ⟨0 + 1, by omega, rfl, .inr (by omega), H⟩
                  · go_roundg (M - (1 + 1))
                    case measure => omega
                    case rel => exact ⟨1 + 1, by omega, rfl, .inr (by omega), H⟩
                  · go_roundg (M - (2 + 1))
                    case measure => omega
                    case rel => exact ⟨2 + 1, by omega, rfl, .inr (by omega), H⟩
                  · go_roundg (M - (3 + 1))
                    case measure => omega
                    case rel => exact ⟨3 + 1, by omega, rfl, .inr (by omega), H⟩
                  · go_roundg (M - (0 + 1))
                    case measure => omega
                    case rel => exact ⟨0 + 1, by omega, rfl, .inr (by omega), H⟩
                  · go_roundg (M - (1 + 1))
                    case measure => omega
                    case rel => exact ⟨1 + 1, by omega, rfl, .inr (by omega), H⟩
                  · go_roundg (M - (2 + 1))
                    case measure => omega
                    case rel => exact ⟨2 + 1, by omega, rfl, .inr (by omega), H⟩
                  · go_roundg (M - (3 + 1))
                    case measure => omega
                    case rel => exact ⟨3 + 1, by omega, rfl, .inr (by omega), H⟩
                · rw [decide_eq_false cc]
                  have E0 := nS_fS HM.out HT2.out (by omega) hjl (by omega) 0
                  have E1 := nS_fS HM.out HT2.out (by omega) hjl (by omega) 1
                  have E2 := nS_fS HM.out HT2.out (by omega) hjl (by omega) 2
                  have E3 := nS_fS HM.out HT2.out (by omega) hjl (by omega) 3
                  rw [← CA.out] at E0
                  rw [← CC.out] at E2
                  rw [← CD.out] at E3
                  obtain ⟨B1, hB1⟩ : ∃ b, b = nS k ws 1 := ⟨_, rfl⟩
                  rw [← hB1] at E1
                  have HB1 := Lib.hid hB1
                  rw [E0, E1, E2, E3] at H
                  clear E0 E1 E2 E3 hB1 cc
                  go_upto_if 133 with (first | ((first | ((with_reducible refine st_gwT ?_ ?_); rfl) | ((with_reducible refine st_gwF ?_ ?_); rfl) | ((with_reducible refine st_gsT ?_ ?_); rfl) | ((with_reducible refine st_gsF ?_ ?_); rfl)); (try simp only [Act.put, yA, yB, yC, yD, yE, yF])) | ((with_reducible refine' st_guard ?_ ?_ ?_); rotate_left; rfl; (all_goals (intro hgd; cases hgd)); (try simp only [Act.put, yA, yB, yC, yD, yE, yF])) | ((with_reducible apply st_want); rfl) | ((with_reducible refine st_skip ?_ ?_); rfl; simp only [Act.put, yA, yB, yC, yD, yE, yF]) | ((first | ((with_reducible apply st_load1 H); decide +kernel; rfl; exact cF) | ((with_reducible apply st_loads H); decide +kernel; rfl; exact iF; exact zF; rfl) | ((with_reducible apply st_store H); rfl; exact eF; (focus (exact cells_agg _)); exact uF; kernel_rfl; (focus (exact Nat.le_of_ble_eq_true (by rfl))); (focus (first | rfl | simp))) | ((with_reducible apply st_storeown H); rfl; exact eF; (focus (exact (rfl : _ = [_]))); exact uF; (focus omega); kernel_rfl; rfl)); clear H; intro wn H; (try simp only [splice, yG, yH, yI, yJ, yK, yL, yM, yN, yO, yP, yQ, Nat.reduceAdd, yA, yB, yC] at H); simp only [Act.put, yA, yB, yC, yD, yE, yF]) | ((first | ((with_reducible apply st_alloc (dst := some 2) H); exact nF; intro b2) | ((with_reducible apply st_alloc (dst := some 4) H); exact nF; intro b4) | ((with_reducible apply st_strsum H); rfl; rfl; exact szF; kernel_rfl) | ((with_reducible apply st_bslice H); exact nsF; intro nb) | ((with_reducible apply st_loadat H); decide +kernel; rfl; exact aF; exact zF; rfl) | ((with_reducible apply st_storerow H); rfl; exact eF; (first | exact cells_agg _ | exact cellI | exact cellS | exact cellB | exact (rfl : _ = [_])); exact uF; kernel_rfl; exact Nat.succ_pos _; exact fitF; rfl)); clear H; intro wn H; simp only [Act.put, yA, yB, yC, yD, yE, yF]) | ((first | (go_at_call 43; refine gvF (labelRead_s (getW ws _) (HW _) _) H ?_) | (go_at_call 44; refine gvF (l17Word_s _ _) H ?_) | (go_at_call 45; refine gvF (hMn _) H ?_) | (go_at_call 46; refine gvF (l17Num_s (getW ws _) (HW _) _) H ?_)); clear H; intro wn H) | ((with_reducible apply st_field H); exact fF; clear H; intro wn H; simp only [Act.put, yA, yB, yC, yD, yE, yF]) | ((with_reducible apply st_build13 H); rfl; clear H; intro wn H; simp only [Act.put, yA, yB, yC, yD, yE, yF]) | ((with_reducible apply st_make4 H); rfl; rfl; clear H; intro nb wn H; simp only [Act.put, yA, yB, yC, yD, yE, yF]) | ((with_reducible apply wp_region_hq (id := 10) H); kernel_rfl; kernel_rfl; (iterate 4 (all_goals ((with_reducible refine' hq_step ?_ ?_ ?_); rotate_left; rfl; (focus (intro w1 H1; first | (first | exact qF | exact qAF | exact qRF | exact qNF) | (exact qVF))); (try simp only [yG, yH, yJ, yK]); simp only [Act.put, yA, yB, yC, yD, yE, yF]))); (all_goals ((with_reducible refine' hq_step ?_ ?_ ?_); rotate_left; rfl; (focus (intro w1 H1; unfold QOk; go_simp; exact q_call (l17Word_s _ _))); (try simp only [yG, yH, yJ, yK]); simp only [Act.put, yA, yB, yC, yD, yE, yF])); (iterate 1 (all_goals ((with_reducible refine' hq_step ?_ ?_ ?_); rotate_left; rfl; (focus (intro w1 H1; exact qVF)); (try simp only [yG, yH, yJ, yK]); simp only [Act.put, yA, yB, yC, yD, yE, yF]))); all_goals (refine wpQuiet_nil ?_; clear H; intro wn H)) | fail)
                  go_cut [] (fun wr => Hs noRow w [Hl.blk nb 2 #[.int .i64 A, .int .i64 B1, .int .i64 C, .int .i64 D], Hl.blk b4 26 #[.bool sy, .int .i64 a1, .int .i64 a2, .int .i64 k, .string ow, .int .i64 A, .int .i64 B, .int .i64 0, .int .i64 0, .int .i64 u1, .int .i64 u2, .int .i64 0], Hl.own 9 1 (.slice (some ⟨g, 0, none⟩) ws.length c) ws.length (strs ws), Hl.blk b2 31 #[.bool false, .int .i64 0, .int .i64 0, .int .i64 0, .string ⟨#[]⟩, .int .i64 0, .int .i64 0, .int .i64 0, .int .i64 0, .int .i64 0, .int .i64 0, .int .i64 0, .int .i64 0]] wr)
                  case first =>
                    by_cases h13 : k = 13
                    · have g13 : (k != 13) = false := by rw [h13]; rfl
                      have eb := HB0.out
                      rw [if_pos h13] at eb
                      subst eb
                      go_wp2_with (fail)
                      go_meet
                      case rel => exact H.sel sF
                    · have g13 : (k != 13) = true := by simpa using h13
                      have eb := CB.out
                      rw [if_neg h13, ← HB1.out] at eb
                      subst eb
                      go_wp2_with (((first | ((with_reducible apply st_load1 H); decide +kernel; rfl; exact cF) | ((with_reducible apply st_store H); rfl; exact eF; (focus (exact cells_agg _)); exact uF; kernel_rfl; (focus (exact Nat.le_of_ble_eq_true (by rfl))); (focus (rfl)))); clear H; intro wn H; (try simp only [splice, yG, yH, yI, yJ, yK, yL, yM, yN, yO, yP, yQ, Nat.reduceAdd, yA, yB, yC] at H); simp only [Act.put, yA, yB, yC, yD, yE, yF]))
                      go_meet
                      case rel => exact H.sel sF
                  case rest =>
                    clear H
                    have H := hcut
                    clear hcut
                    as_aux_lemma =>
                    go_upto_region 36 with (first | ((first | ((with_reducible refine st_gwT ?_ ?_); rfl) | ((with_reducible refine st_gwF ?_ ?_); rfl) | ((with_reducible refine st_gsT ?_ ?_); rfl) | ((with_reducible refine st_gsF ?_ ?_); rfl)); (try simp only [Act.put, yA, yB, yC, yD, yE, yF])) | ((with_reducible refine' st_guard ?_ ?_ ?_); rotate_left; rfl; (all_goals (intro hgd; cases hgd)); (try simp only [Act.put, yA, yB, yC, yD, yE, yF])) | ((with_reducible apply st_want); rfl) | ((with_reducible refine st_skip ?_ ?_); rfl; simp only [Act.put, yA, yB, yC, yD, yE, yF]) | ((first | ((with_reducible apply st_load1 H); decide +kernel; rfl; exact cF) | ((with_reducible apply st_loads H); decide +kernel; rfl; exact iF; exact zF; rfl) | ((with_reducible apply st_store H); rfl; exact eF; (focus (exact cells_agg _)); exact uF; kernel_rfl; (focus (exact Nat.le_of_ble_eq_true (by rfl))); (focus (first | rfl | simp))) | ((with_reducible apply st_storeown H); rfl; exact eF; (focus (exact (rfl : _ = [_]))); exact uF; (focus omega); kernel_rfl; rfl)); clear H; intro wn H; (try simp only [splice, yG, yH, yI, yJ, yK, yL, yM, yN, yO, yP, yQ, Nat.reduceAdd, yA, yB, yC] at H); simp only [Act.put, yA, yB, yC, yD, yE, yF]) | ((first | ((with_reducible apply st_alloc (dst := some 2) H); exact nF; intro b2) | ((with_reducible apply st_alloc (dst := some 4) H); exact nF; intro b4) | ((with_reducible apply st_strsum H); rfl; rfl; exact szF; kernel_rfl) | ((with_reducible apply st_bslice H); exact nsF; intro nb) | ((with_reducible apply st_loadat H); decide +kernel; rfl; exact aF; exact zF; rfl) | ((with_reducible apply st_storerow H); rfl; exact eF; (first | exact cells_agg _ | exact cellI | exact cellS | exact cellB | exact (rfl : _ = [_])); exact uF; kernel_rfl; exact Nat.succ_pos _; exact fitF; rfl)); clear H; intro wn H; simp only [Act.put, yA, yB, yC, yD, yE, yF]) | ((first | (go_at_call 43; refine gvF (labelRead_s (getW ws _) (HW _) _) H ?_) | (go_at_call 44; refine gvF (l17Word_s _ _) H ?_) | (go_at_call 45; refine gvF (hMn _) H ?_) | (go_at_call 46; refine gvF (l17Num_s (getW ws _) (HW _) _) H ?_)); clear H; intro wn H) | ((with_reducible apply st_field H); exact fF; clear H; intro wn H; simp only [Act.put, yA, yB, yC, yD, yE, yF]) | ((with_reducible apply st_build13 H); rfl; clear H; intro wn H; simp only [Act.put, yA, yB, yC, yD, yE, yF]) | ((with_reducible apply st_make4 H); rfl; rfl; clear H; intro nb wn H; simp only [Act.put, yA, yB, yC, yD, yE, yF]) | ((with_reducible apply wp_region_hq (id := 10) H); kernel_rfl; kernel_rfl; (iterate 4 (all_goals ((with_reducible refine' hq_step ?_ ?_ ?_); rotate_left; rfl; (focus (intro w1 H1; first | (first | exact qF | exact qAF | exact qRF | exact qNF) | (exact qVF))); (try simp only [yG, yH, yJ, yK]); simp only [Act.put, yA, yB, yC, yD, yE, yF]))); (all_goals ((with_reducible refine' hq_step ?_ ?_ ?_); rotate_left; rfl; (focus (intro w1 H1; unfold QOk; go_simp; exact q_call (l17Word_s _ _))); (try simp only [yG, yH, yJ, yK]); simp only [Act.put, yA, yB, yC, yD, yE, yF])); (iterate 1 (all_goals ((with_reducible refine' hq_step ?_ ?_ ?_); rotate_left; rfl; (focus (intro w1 H1; exact qVF)); (try simp only [yG, yH, yJ, yK]); simp only [Act.put, yA, yB, yC, yD, yE, yF]))); all_goals (refine wpQuiet_nil ?_; clear H; intro wn H)) | fail)
                    go_cut [153] (fun v wr => v = .bool (decide (k = 1 ∧ ws.length = 10)) ∧ Hs noRow w [Hl.blk nb 2 #[.int .i64 A, .int .i64 B1, .int .i64 C, .int .i64 D], Hl.blk b4 26 #[.bool sy, .int .i64 a1, .int .i64 a2, .int .i64 k, .string ow, .int .i64 A, .int .i64 B, .int .i64 C, .int .i64 D, .int .i64 u1, .int .i64 u2, .int .i64 0], Hl.own 9 1 (.slice (some ⟨g, 0, none⟩) ws.length c) ws.length (strs ws), Hl.blk b2 31 #[.bool false, .int .i64 0, .int .i64 0, .int .i64 0, .string ⟨#[]⟩, .int .i64 0, .int .i64 0, .int .i64 0, .int .i64 0, .int .i64 0, .int .i64 0, .int .i64 0, .int .i64 0]] wr)
                    case first =>
                      by_cases c1 : k = 1
                      · have g1 : (k == 1) = true := by rw [c1]; rfl
                        by_cases c2 : ws.length = 10
                        · have g2 : ((ws.length : Int) == 10) = true := by rw [c2]; rfl
                          have HC2 := Lib.hid c2
                          have HC1 := Lib.hid c1
                          clear c2 c1
                          go_wp2_with (first | ((with_reducible refine' st_guard ?_ ?_ ?_); rotate_left; rfl; (all_goals (intro hgd; cases hgd)); (try simp only [Act.put, yA, yB, yC, yD, yE, yF])) | ((((with_reducible apply st_load1 H); decide +kernel; rfl; exact cF)); clear H; intro wn H; (try simp only [splice, yG, yH, yI, yJ, yK, yL, yM, yN, yO, yP, yQ, Nat.reduceAdd, yA, yB, yC] at H); simp only [Act.put, yA, yB, yC, yD, yE, yF]))
                          go_meet
                          case rel => exact ⟨by rw [decide_eq_true (⟨HC1.out, HC2.out⟩ : k = 1 ∧ ws.length = 10)], H.sel sF⟩
                        · have g2 : ((ws.length : Int) == 10) = false := by simp; omega
                          have HC2 := Lib.hid c2
                          clear c2
                          go_wp2_with (first | ((with_reducible refine' st_guard ?_ ?_ ?_); rotate_left; rfl; (all_goals (intro hgd; cases hgd)); (try simp only [Act.put, yA, yB, yC, yD, yE, yF])) | ((((with_reducible apply st_load1 H); decide +kernel; rfl; exact cF)); clear H; intro wn H; (try simp only [splice, yG, yH, yI, yJ, yK, yL, yM, yN, yO, yP, yQ, Nat.reduceAdd, yA, yB, yC] at H); simp only [Act.put, yA, yB, yC, yD, yE, yF]))
                          go_meet
                          case rel => exact ⟨by rw [decide_eq_false (fun h => HC2.out h.2 : ¬ (k = 1 ∧ ws.length = 10))]; first | done | rw [g2], H.sel sF⟩
                      · have g1 : (k == 1) = false := by simpa using c1
                        go_wp2_with (((((with_reducible apply st_load1 H); decide +kernel; rfl; exact cF)); clear H; intro wn H; (try simp only [splice, yG, yH, yI, yJ, yK, yL, yM, yN, yO, yP, yQ, Nat.reduceAdd, yA, yB, yC] at H); simp only [Act.put, yA, yB, yC, yD, yE, yF]))
                        go_meet
                        case rel => exact ⟨by rw [decide_eq_false (fun h => c1 h.1 : ¬ (k = 1 ∧ ws.length = 10))], H.sel sF⟩
                    case rest =>
                      clear H
                      obtain ⟨rfl, H⟩ := hcut
                      as_aux_lemma =>
                      go_upto_if 153 with fail
                      go_cut [] (fun wr => Hs noRow w [Hl.blk nb 2 #[.int .i64 A, .int .i64 B1, .int .i64 C, .int .i64 D], Hl.blk b4 26 #[.bool sy, .int .i64 a1, .int .i64 a2, .int .i64 k, .string ow, .int .i64 A, .int .i64 B, .int .i64 C, .int .i64 D, .int .i64 m1, .int .i64 m2, .int .i64 af], Hl.own 9 1 (.slice (some ⟨g, 0, none⟩) ws.length c) ws.length (strs ws), Hl.blk b2 31 #[.bool false, .int .i64 0, .int .i64 0, .int .i64 0, .string ⟨#[]⟩, .int .i64 0, .int .i64 0, .int .i64 0, .int .i64 0, .int .i64 0, .int .i64 0, .int .i64 0, .int .i64 0]] wr)
                      case first =>
                        by_cases cc : k = 1 ∧ ws.length = 10
                        · rw [decide_eq_true cc]
                          have e1 := CM1.out
                          have e2 := CM2.out
                          have e3 := CF.out
                          rw [if_pos cc.1, if_pos cc.2] at e1 e2 e3
                          subst e1 e2 e3
                          have hw8 := st_at (ws := ws) (k := 8) (by omega)
                          have hw9 := st_at (ws := ws) (k := 9) (by omega)
                          have i8 : (8 : Int) < ws.length := by omega
                          have i9 : (9 : Int) < ws.length := by omega
                          clear cc
                          go_wp2_with (first | ((first | ((with_reducible apply st_load1 H); decide +kernel; rfl; exact cF) | ((with_reducible apply st_store H); rfl; exact eF; (focus (exact cells_agg _)); exact uF; kernel_rfl; (focus (exact Nat.le_of_ble_eq_true (by rfl))); (focus (rfl)))); clear H; intro wn H; (try simp only [splice, yG, yH, yI, yJ, yK, yL, yM, yN, yO, yP, yQ, Nat.reduceAdd, yA, yB, yC] at H); simp only [Act.put, yA, yB, yC, yD, yE, yF]) | ((first | (go_at_call 43; refine gvF (labelRead_s (getW ws _) (HW _) _) H ?_) | (go_at_call 46; refine gvF (l17Num_s (getW ws _) (HW _) _) H ?_)); clear H; intro wn H) | ((with_reducible apply st_field H); exact fF; clear H; intro wn H; simp only [Act.put, yA, yB, yC, yD, yE, yF]))
                          go_meet
                          case rel => exact H.sel sF
                        · rw [decide_eq_false cc]
                          have e1 : u1 = m1 := by
                            rw [HU1.out, CM1.out]
                            by_cases h1 : k = 1
                            · have h10 : ¬ ws.length = 10 := fun h => cc ⟨h1, h⟩
                              simp [h1, h10]
                            · by_cases h7 : k = 7
                              · simp [h7]
                              · simp [h1, h7]
                          have e2 : u2 = m2 := by
                            rw [HU2.out, CM2.out]
                            by_cases h1 : k = 1
                            · have h10 : ¬ ws.length = 10 := fun h => cc ⟨h1, h⟩
                              simp [h1, h10]
                            · by_cases h7 : k = 7
                              · simp [h7]
                              · simp [h1, h7]
                          have e3 : af = 0 := by
                            rw [CF.out]
                            by_cases h1 : k = 1
                            · have h10 : ¬ ws.length = 10 := fun h => cc ⟨h1, h⟩
                              simp [h1, h10]
                            · simp [h1]
                          subst e1 e2 e3
                          go_wp2_with (fail)
                          go_meet
                          case rel => exact H.sel sF
                      case rest =>
                        clear H
                        have H := hcut
                        clear hcut
                        as_aux_lemma =>
                        have how : ow.size ≤ maxLen := by
                          rw [CO.out]
                          split
                          · show (getW ws 2).length ≤ _; have := HW 2; unfold maxLen; omega
                          · decide
                        have hT := opText_s sy a1 a2 k ow A B C D m1 m2 af how
                        have HX : Hid ((candS ws).text = opText sy a1 a2 k ow A B C D m1 m2 af) := Lib.hid (by rw [← HC.out]; rfl)
                        generalize opText sy a1 a2 k ow A B C D m1 m2 af = X at *
                        unfold encOp at hT
                        by_cases hx : X = t.data.toList
                        · have hB : ((bs X).toList == t.toList) = true := by rw [str_beq, hx, bs_data]; simp
                          have hB2 : ((bs X).toList != t.toList) = false := by rw [bne, hB]; rfl
                          by_cases hne : t.data.toList = []
                          · have HF : Hid (readS t.data.toList = (zeroO, 3)) := Lib.hid (by rw [HRD.out, hne]; simp)
                            have hE : (t.toList == []) = true := by rw [Lib.toList_data, hne]; rfl
                            have hE2 : t.toList = [] := by rw [Lib.toList_data, hne]
                            have hE3 : t.toList.isEmpty = true := by rw [hE2]; rfl
                            clear hE2 HRD HX HC hx hne
                            go_wp2_with (first | ((with_reducible refine' st_guard ?_ ?_ ?_); rotate_left; rfl; (all_goals (intro hgd; cases hgd)); (try simp only [Act.put, yA, yB, yC, yD, yE, yF])) | ((first | ((with_reducible apply st_loads H); decide +kernel; rfl; exact iF; exact zF; rfl) | ((with_reducible apply st_store H); rfl; exact eF; (focus (exact cells_agg _)); exact uF; kernel_rfl; (focus (exact Nat.le_of_ble_eq_true (by rfl))); (focus (rfl)))); clear H; intro wn H; (try simp only [splice, yG, yH, yI, yJ, yK, yL, yM, yN, yO, yP, yQ, Nat.reduceAdd, yA, yB, yC] at H); simp only [Act.put, yA, yB, yC, yD, yE, yF]) | (((go_at_call 10; refine gvF (hT _) H ?_)); clear H; intro wn H))
                            refine bp_cell H rfl rfl iF (by kernel_rfl) (by kernel_rfl) rfl (by first | exact .inl rfl | exact .inr rfl) ?_
                            rw [HF.out]
                            exact ⟨rfl, H.below⟩
                          · have HF : Hid (readS t.data.toList = (⟨sy, a1, a2, k, ow, A, B, C, D, m1, m2, af⟩, 0)) := Lib.hid (by rw [HRD.out, HX.out, hx, ← HC.out, beq_eq_false_iff_ne.2 hne]; simp)
                            have hE : (t.toList == []) = false := by rw [Lib.toList_data]; simpa using hne
                            have hE3 : t.toList.isEmpty = false := by rw [Lib.toList_data]; simpa using hne
                            clear HRD HX HC hx hne
                            go_wp2_with (first | ((with_reducible refine' st_guard ?_ ?_ ?_); rotate_left; rfl; (all_goals (intro hgd; cases hgd)); (try simp only [Act.put, yA, yB, yC, yD, yE, yF])) | ((first | ((with_reducible apply st_loads H); decide +kernel; rfl; exact iF; exact zF; rfl) | ((with_reducible apply st_store H); rfl; exact eF; (focus (exact cells_agg _)); exact uF; kernel_rfl; (focus (exact Nat.le_of_ble_eq_true (by rfl))); (focus (rfl)))); clear H; intro wn H; (try simp only [splice, yG, yH, yI, yJ, yK, yL, yM, yN, yO, yP, yQ, Nat.reduceAdd, yA, yB, yC] at H); simp only [Act.put, yA, yB, yC, yD, yE, yF]) | (((go_at_call 10; refine gvF (hT _) H ?_)); clear H; intro wn H) | ((with_reducible apply st_build13 H); rfl; clear H; intro wn H; simp only [Act.put, yA, yB, yC, yD, yE, yF]))
                            refine bp_cell H rfl rfl iF (by kernel_rfl) (by kernel_rfl) rfl (by first | exact .inl rfl | exact .inr rfl) ?_
                            rw [HF.out]
                            exact ⟨rfl, H.below⟩
                        · have HF : Hid (readS t.data.toList = (zeroO, 3)) := Lib.hid (by rw [HRD.out, HX.out]; simp [hx])
                          have hB : ((bs X).toList == t.toList) = false := by
                            rw [str_beq]
                            exact decide_eq_false fun e => hx (by rw [← e]; rfl)
                          have hB2 : ((bs X).toList != t.toList) = true := by rw [bne, hB]; rfl
                          clear HRD HX HC hx
                          go_wp2_with (first | ((first | ((with_reducible apply st_loads H); decide +kernel; rfl; exact iF; exact zF; rfl) | ((with_reducible apply st_store H); rfl; exact eF; (focus (exact cells_agg _)); exact uF; kernel_rfl; (focus (exact Nat.le_of_ble_eq_true (by rfl))); (focus (rfl)))); clear H; intro wn H; (try simp only [splice, yG, yH, yI, yJ, yK, yL, yM, yN, yO, yP, yQ, Nat.reduceAdd, yA, yB, yC] at H); simp only [Act.put, yA, yB, yC, yD, yE, yF]) | (((go_at_call 10; refine gvF (hT _) H ?_)); clear H; intro wn H))
                          refine bp_cell H rfl rfl iF (by kernel_rfl) (by kernel_rfl) rfl (by first | exact .inl rfl | exact .inr rfl) ?_
                          rw [HF.out]
                          exact ⟨rfl, H.below⟩
end Go.Proofs.YtfblolkkajppcaaGreatDoor
