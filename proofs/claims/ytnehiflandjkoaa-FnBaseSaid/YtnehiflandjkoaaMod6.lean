/-
  The plain law of the bases: frames of one number in the even slots, of a greater one in the odd slots as far as the power went.
-/
import Derived.Test.YtnehiflandjkoaaMod4
import Derived.Test.YtnehiflandjkoaaD7
import Derived.Test.YtnehiflandjkoaaC11
import Derived.Test.YtnehiflandjkoaaD3
set_option linter.unusedSimpArgs false
set_option linter.unusedVariables false
namespace Go.Proofs.Ytnehiflandjkoaa
open Go.RowKit M
namespace M
def regA (fa : Bs) (k i : Nat) : Reg := (bs (if i < k then fa else []), bs [], bs [])
def regB (fa fb : Bs) (P : Int) (k i : Nat) : Reg := (bs fa, bs (if i < k then fb.take (P - i * fb.length).toNat else []), bs [])
def stA (n : Nat) (fa : Bs) (k : Nat) : List Reg := (List.range n).map (regA fa k)
def stB (n : Nat) (fa fb : Bs) (P : Int) (k : Nat) : List Reg := (List.range n).map (regB fa fb P k)
def leftP (P : Int) (fb : Bs) (k : Nat) : Int := max 0 (P - k * fb.length)
end M
theorem map_set {α : Type} (f g : Nat → α) (n k : Nat) (v : α) (hv : g k = v) (hg : ∀ i, i ≠ k → g i = f i) : ((List.range n).map f).set k v = (List.range n).map g := by
  refine List.ext_getElem (by simp) fun i h1 h2 => ?_
  by_cases h : i = k
  · subst h
    simp [hv]
  · rw [List.getElem_set_ne (by omega)]
    simp [hg i h]
theorem map_getD {α : Type} (f : Nat → α) (n k : Nat) (d : α) (hk : k < n) : ((List.range n).map f).getD k d = f k := by
  rw [List.getD_eq_getElem?_getD, List.getElem?_eq_getElem (by simpa using hk)]
  simp
theorem map_ok (f : Nat → Reg) (n : Nat) (p : Int) (hn : 1 ≤ n ∧ n ≤ 13) (hp : -1 ≤ p ∧ p ≤ 1000000) (h : ∀ i, (f i).1.size ≤ 3000 ∧ (f i).2.1.size ≤ 3000 ∧ (f i).2.2.size ≤ 3000) : diskOk ((List.range n).map f) p = true := by
  unfold diskOk
  simp only [List.length_map, List.length_range, Bool.and_eq_true, decide_eq_true_eq, List.all_eq_true, List.mem_map]
  refine ⟨hn, hp, ?_⟩
  rintro r ⟨i, _, rfl⟩
  unfold regOk
  simp only [Bool.and_eq_true, decide_eq_true_eq]
  exact h i
theorem stage_at {rs : List Reg} {p : Int} {k : Nat} (h : diskOk rs p = true) (hk : k < rs.length) : stage rs p k = if p = 0 then 12 else 0 := by
  unfold stage
  rw [if_neg (by simp [h]), if_pos (by omega)]
section
variable {n : Nat} {fa fb : Bs} (hn : 1 ≤ n ∧ n ≤ 13) (ha : fa ≠ [] ∧ fa.length ≤ 3000) (hb : fb ≠ [] ∧ fb.length ≤ 3000)
include hn ha in
theorem stA_ok (k : Nat) : diskOk (stA n fa k) (-1) = true := map_ok _ n (-1) hn (by omega) fun i => by
  refine ⟨?_, ?_, ?_⟩
  · unfold regA
    simp only [size_bs]
    split
    · exact ha.2
    · simp
  all_goals (unfold regA; simp [size_bs])
include hn ha in
theorem stepA {k : Nat} (hk : k < n) : slotOut (stA n fa k) (-1) k false fa = (stA n fa (k + 1), -1, 0) := by
  have hl : (stA n fa k).length = n := by simp [stA]
  unfold slotOut
  rw [stage_at (stA_ok hn ha k) (by rw [hl]; exact hk), if_neg (by omega), if_neg ha.1, cut_any (by omega)]
  refine Prod.ext ?_ rfl
  show setSlot _ ((k : Int)).toNat false (bs fa) = _
  rw [Int.toNat_natCast]
  unfold setSlot stA
  rw [map_getD _ n k _ hk]
  refine map_set _ _ n k _ ?_ fun i hi => ?_
  · unfold regA
    simp
  · unfold regA
    have : i < k + 1 ↔ i < k := by omega
    simp [this]
theorem stA_zero (hn : 1 ≤ n ∧ n ≤ 13) : diskNewRs n = stA n fa 0 := by
  unfold diskNewRs stA
  rw [if_pos (by omega)]
  refine List.ext_getElem (by simp) fun i h1 h2 => ?_
  simp [regA, noReg, bs]
theorem stA_all (P : Int) : stA n fa n = stB n fa fb P 0 := by
  unfold stA stB
  refine List.map_congr_left fun i hi => ?_
  have := List.mem_range.1 hi
  simp [regA, regB, this]
include hn ha hb in
theorem stB_ok {P p : Int} (k : Nat) (hp : -1 ≤ p ∧ p ≤ 1000000) : diskOk (stB n fa fb P k) p = true := map_ok _ n p hn hp fun i => by
  refine ⟨?_, ?_, ?_⟩
  · unfold regB
    simp only [size_bs]
    exact ha.2
  · unfold regB
    simp only [size_bs]
    split
    · rw [List.length_take]; omega
    · simp
  · unfold regB; simp [size_bs]
include hn ha hb in
theorem stepB {P : Int} {k : Nat} (hk : k < n) (hP : 0 ≤ P ∧ P ≤ 1000000) :
    ∃ c, slotOut (stB n fa fb P k) (leftP P fb k) k true fb = (stB n fa fb P (k + 1), leftP P fb (k + 1), c) ∧ (c = 0 ∨ c = 12) := by
  have hl : (stB n fa fb P k).length = n := by simp [stB]
  have hF : 0 ≤ ((k : Int) * fb.length) := Int.mul_nonneg (by omega) (by omega)
  have hk1 : ((k + 1 : Nat) : Int) * fb.length = k * fb.length + fb.length := by
    rw [Int.natCast_add, Int.add_mul]; simp
  have hp : -1 ≤ leftP P fb k ∧ leftP P fb k ≤ 1000000 := by unfold leftP; omega
  have hstep : ∀ x : Bs, fb.take (P - k * fb.length).toNat = x → setSlot (stB n fa fb P k) k true (bs x) = stB n fa fb P (k + 1) := fun x hx => by
    unfold setSlot stB
    rw [map_getD _ n k _ hk]
    refine map_set _ _ n k _ ?_ fun i hi => ?_
    · unfold regB
      simp [hx]
    · unfold regB
      have : i < k + 1 ↔ i < k := by omega
      simp [this]
  unfold slotOut
  rw [stage_at (stB_ok hn ha hb k hp) (by rw [hl]; exact hk)]
  by_cases h0 : leftP P fb k = 0
  · rw [if_pos h0, if_pos (by omega)]
    refine ⟨12, ?_, .inr rfl⟩
    have hlt : P - k * fb.length ≤ 0 := by unfold leftP at h0; omega
    have e1 : illRs (stB n fa fb P k) 12 = stB n fa fb P (k + 1) := by
      unfold illRs
      rw [if_pos rfl]
      unfold stB
      refine List.map_congr_left fun i hi => ?_
      unfold regB
      by_cases hik : i = k
      · subst hik
        have : (P - i * fb.length).toNat = 0 := by omega
        simp [this]
      · have : i < k + 1 ↔ i < k := by omega
        simp [this]
    have e2 : illP (leftP P fb k) 12 = leftP P fb (k + 1) := by
      unfold illP
      rw [if_pos rfl, h0]
      unfold leftP
      rw [hk1]; omega
    rw [e1, e2]
  · rw [if_neg h0, if_neg (by omega), if_neg hb.1]
    have hpos : leftP P fb k = P - k * fb.length ∧ 0 < leftP P fb k := by unfold leftP at h0 ⊢; omega
    simp only [Int.toNat_natCast]
    by_cases hcut : leftP P fb k < fb.length
    · rw [cut_down (by omega) hcut]
      refine ⟨12, ?_, .inr rfl⟩
      rw [hstep _ (by rw [hpos.1])]
      have : leftP P fb (k + 1) = 0 := by unfold leftP at hcut ⊢; rw [hk1]; omega
      rw [this]
    · rw [cut_all (by omega) hcut]
      refine ⟨0, ?_, .inl rfl⟩
      rw [hstep fb (by rw [List.take_of_length_le]; omega)]
      have : leftP P fb (k + 1) = leftP P fb k - fb.length := by unfold leftP at hcut ⊢; rw [hk1]; omega
      rw [this]
end
section
variable {n : Nat} {fa fb xa xb : Bs} {q1 q2 : Int} (hn : 1 ≤ n ∧ n ≤ 13) (h1 : frameOk q1 xa = true) (h2 : frameOk q2 xb = true) (hq : 1 ≤ q1 ∧ q1 < q2)
theorem held_full {q : Int} {x : Bs} (h : frameOk q x = true) (hl : (frameBytes q x).length ≤ 8000) : heldOf (frameBytes q x) = (q, x, true) := by
  have := frameRead_at (pre := []) (rest := []) h (by simpa using hl)
  simp only [List.nil_append, List.append_nil, List.length_nil, Nat.zero_add] at this
  unfold heldOf
  have e : frameRead (frameBytes q x) 0 = (q, x, ((frameBytes q x).length : Int), 0) := this
  rw [e]
  simp
theorem held_part {q : Int} {x : Bs} (h : frameOk q x = true) {m : Nat} (hm : m < (frameBytes q x).length) : (heldOf ((frameBytes q x).take m)).2.2 = false := by
  have := frameRead_part (pre := []) h hm
  simp only [List.nil_append, List.length_nil] at this
  unfold heldOf
  simp only [decide_eq_false_iff_not]
  intro hc
  exact this hc.1
include h1 in
theorem at0 (hla : (frameBytes q1 xa).length ≤ 8000) (P : Int) (k i : Nat) (q : Int) : okAt (regB (frameBytes q1 xa) fb P k i) q 0 = (q1 == q) := by
  unfold okAt pick regB
  simp only [if_pos, data_bs]
  rw [held_full h1 hla]
  simp
include h2 in
theorem at1 (hlb : (frameBytes q2 xb).length ≤ 8000) (P : Int) (i : Nat) (hi : i < n) (q : Int) (hq2 : q2 ≠ 0 ∨ True) : okAt (regB fa (frameBytes q2 xb) P n i) q 1 = (decide ((i + 1 : Nat) * ((frameBytes q2 xb).length : Int) ≤ P) && q2 == q) := by
  have hk1 : ((i + 1 : Nat) : Int) * (frameBytes q2 xb).length = i * (frameBytes q2 xb).length + (frameBytes q2 xb).length := by
    rw [Int.natCast_add, Int.add_mul]; simp
  unfold okAt pick regB
  simp only [if_pos hi, if_neg (by omega : ¬ (1 : Nat) = 0), data_bs]
  have hpos := frameBytes_pos h2
  by_cases h : ((i + 1 : Nat) : Int) * ((frameBytes q2 xb).length : Int) ≤ P
  · rw [List.take_of_length_le (by omega), held_full h2 hlb]
    simp
    intro _
    simpa using h
  · have hlt : (P - i * ((frameBytes q2 xb).length : Int)).toNat < (frameBytes q2 xb).length := by omega
    rw [held_part h2 hlt, decide_eq_false h]
    simp
theorem found_of (r : Reg) (q : Int) : (ofReg r q).2.2 = (okAt r q 0 || okAt r q 1) := by
  unfold ofReg
  split
  · rename_i h; simp [h]
  · rename_i h
    split
    · rename_i h2; simp [h2]
    · rename_i h2; simp [h, h2]
include h1 h2 in
theorem foundAll_B (hla : (frameBytes q1 xa).length ≤ 8000) (hlb : (frameBytes q2 xb).length ≤ 8000) (hn : 1 ≤ n) (P : Int) (q : Int) :
    foundAll (stB n (frameBytes q1 xa) (frameBytes q2 xb) P n) q = (q1 == q || (decide (n * ((frameBytes q2 xb).length : Int) ≤ P) && q2 == q)) := by
  unfold foundAll stB
  rw [Bool.eq_iff_iff]
  simp only [Bool.not_eq_true', List.any_eq_false, List.mem_map, List.mem_range]
  constructor
  · intro h
    have hlast := h _ ⟨n - 1, by omega, rfl⟩
    unfold missing at hlast
    rw [found_of, at0 h1 hla, at1 h2 hlb P (n - 1) (by omega) q (.inr trivial)] at hlast
    rw [show n - 1 + 1 = n by omega] at hlast
    simp at hlast ⊢
    exact Decidable.or_iff_not_imp_left.2 hlast
  · rintro h r ⟨i, hi, rfl⟩
    unfold missing
    rw [found_of, at0 h1 hla, at1 h2 hlb P i hi q (.inr trivial)]
    have hmul : ((i + 1 : Nat) : Int) * ((frameBytes q2 xb).length : Int) ≤ n * ((frameBytes q2 xb).length : Int) := Int.mul_le_mul_of_nonneg_right (by omega) (by omega)
    simp only [Bool.or_eq_true, Bool.and_eq_true, decide_eq_true_eq, beq_iff_eq] at h
    simp only [Bool.not_eq_true, Bool.not_eq_false', Bool.or_eq_true, Bool.and_eq_true, decide_eq_true_eq, beq_iff_eq]
    rcases h with h | h
    · exact .inl h
    · exact .inr ⟨by omega, h.2⟩
include h1 h2 hq in
theorem base_B (hla : (frameBytes q1 xa).length ≤ 3000) (hlb : (frameBytes q2 xb).length ≤ 3000) (hn : 1 ≤ n ∧ n ≤ 13) (P p : Int) (hp : -1 ≤ p ∧ p ≤ 1000000) :
    baseOf (stB n (frameBytes q1 xa) (frameBytes q2 xb) P n) p = if n * ((frameBytes q2 xb).length : Int) ≤ P then q2 else q1 := by
  have ha := frameBytes_pos h1
  have hb := frameBytes_pos h2
  have hok : diskOk (stB n (frameBytes q1 xa) (frameBytes q2 xb) P n) p = true := stB_ok hn ⟨fun e => by rw [e] at ha; simp at ha, hla⟩ ⟨fun e => by rw [e] at hb; simp at hb, hlb⟩ n hp
  unfold baseOf
  rw [if_neg (by simp [hok])]
  have hg : (stB n (frameBytes q1 xa) (frameBytes q2 xb) P n).getD 0 noReg = regB (frameBytes q1 xa) (frameBytes q2 xb) P n 0 := by
    unfold stB; exact map_getD _ n 0 _ (by omega)
  rw [hg]
  have hF := foundAll_B h1 h2 (by omega) (by omega) hn.1 P
  generalize stB n (frameBytes q1 xa) (frameBytes q2 xb) P n = rs at *
  have e0 : baseStep rs (frameBytes q1 xa) 0 = q1 := by
    unfold baseStep
    rw [held_full h1 (by omega)]
    simp only [hF]
    simp
    omega
  have hx : baseAcc rs (regB (frameBytes q1 xa) (frameBytes q2 xb) P n 0) 2 = baseStep rs ((frameBytes q2 xb).take P.toNat) q1 := by
    show baseStep rs (pick _ 1).data.toList (baseStep rs (pick _ 0).data.toList 0) = _
    unfold pick regB
    simp only [if_pos, if_neg (by omega : ¬ (1 : Nat) = 0), data_bs, if_pos (by omega : 0 < n)]
    rw [e0]
    simp
  rw [hx]
  by_cases hfull : n * ((frameBytes q2 xb).length : Int) ≤ P
  · have hm : (1 : Int) * ((frameBytes q2 xb).length : Int) ≤ n * ((frameBytes q2 xb).length : Int) := Int.mul_le_mul_of_nonneg_right (by omega) (by omega)
    rw [List.take_of_length_le (by omega), if_pos hfull]
    unfold baseStep
    rw [held_full h2 (by omega)]
    simp only [hF]
    simp [hfull]
    omega
  · rw [if_neg hfull]
    unfold baseStep
    by_cases hm : P.toNat < (frameBytes q2 xb).length
    · rw [held_part h2 hm]
      simp
    · rw [List.take_of_length_le (by omega), held_full h2 (by omega)]
      simp only [hF]
      simp [hfull]
      omega
theorem stB_none (n : Nat) (fa fb : Bs) : stB n fa fb 0 n = stA n fa n := by
  rw [stA_all (fb := fb) 0]
  unfold stB
  refine List.map_congr_left fun i hi => ?_
  have hF : 0 ≤ ((i : Int) * fb.length) := Int.mul_nonneg (by omega) (by omega)
  have : (0 - (i : Int) * fb.length).toNat = 0 := by omega
  unfold regB
  rw [this]
  simp
include h1 h2 hq in
theorem base_A (hla : (frameBytes q1 xa).length ≤ 3000) (hlb : (frameBytes q2 xb).length ≤ 3000) (hn : 1 ≤ n ∧ n ≤ 13) : baseOf (stA n (frameBytes q1 xa) n) (-1) = q1 := by
  have hb := frameBytes_pos h2
  have hm : (1 : Int) * ((frameBytes q2 xb).length : Int) ≤ n * ((frameBytes q2 xb).length : Int) := Int.mul_le_mul_of_nonneg_right (by omega) (by omega)
  rw [← stB_none n _ (frameBytes q2 xb), base_B h1 h2 hq hla hlb hn 0 (-1) (by omega), if_neg (by omega)]
include h1 h2 hq in
theorem slot_B (hla : (frameBytes q1 xa).length ≤ 3000) (hlb : (frameBytes q2 xb).length ≤ 3000) (hn : 1 ≤ n ∧ n ≤ 13) (P p r : Int) (hp : -1 ≤ p ∧ p ≤ 1000000) (hr : 0 ≤ r ∧ r < n) :
    slotOfOut (stB n (frameBytes q1 xa) (frameBytes q2 xb) P n) p r (if n * ((frameBytes q2 xb).length : Int) ≤ P then q2 else q1) = ((if n * ((frameBytes q2 xb).length : Int) ≤ P then q2 else q1), (if n * ((frameBytes q2 xb).length : Int) ≤ P then xb else xa), 0, 0) ∧
    slotOfOut (stB n (frameBytes q1 xa) (frameBytes q2 xb) P n) p r (q2 + 1) = (0, [], 0, 6) := by
  have ha := frameBytes_pos h1
  have hb := frameBytes_pos h2
  have hok : diskOk (stB n (frameBytes q1 xa) (frameBytes q2 xb) P n) p = true := stB_ok hn ⟨fun e => by rw [e] at ha; simp at ha, hla⟩ ⟨fun e => by rw [e] at hb; simp at hb, hlb⟩ n hp
  obtain ⟨i, rfl⟩ := Int.eq_ofNat_of_zero_le hr.1
  have hi : i < n := by omega
  have hg : (stB n (frameBytes q1 xa) (frameBytes q2 xb) P n).getD i noReg = regB (frameBytes q1 xa) (frameBytes q2 xb) P n i := by
    unfold stB; exact map_getD _ n i _ hi
  have hlen : (stB n (frameBytes q1 xa) (frameBytes q2 xb) P n).length = n := by simp [stB]
  have h0 := at0 (fb := frameBytes q2 xb) h1 (by omega) P n i
  have h11 := fun q => at1 (fa := frameBytes q1 xa) h2 (by omega) P i hi q (.inr trivial)
  have hs : ∀ q, slotOfOut (stB n (frameBytes q1 xa) (frameBytes q2 xb) P n) p i q = ofFO (ofReg (regB (frameBytes q1 xa) (frameBytes q2 xb) P n i) q) := fun q => by
    unfold slotOfOut
    rw [if_neg (by simp [hok]), if_pos (by rw [hlen]; exact hr)]
    simp only [Int.toNat_natCast]
    rw [hg]
  rw [hs, hs, ofFO_ofReg, ofFO_ofReg, h0, h0, h11, h11]
  have hmul : ((i + 1 : Nat) : Int) * ((frameBytes q2 xb).length : Int) ≤ n * ((frameBytes q2 xb).length : Int) := Int.mul_le_mul_of_nonneg_right (by omega) (by omega)
  have hk1 : ((i + 1 : Nat) : Int) * (frameBytes q2 xb).length = i * (frameBytes q2 xb).length + (frameBytes q2 xb).length := by
    rw [Int.natCast_add, Int.add_mul]; simp
  have e0 : heldOf (pick (regB (frameBytes q1 xa) (frameBytes q2 xb) P n i) 0).data.toList = (q1, xa, true) := by
    unfold pick regB
    simp only [if_pos, data_bs]
    exact held_full h1 (by omega)
  refine ⟨?_, ?_⟩
  · by_cases hfull : n * ((frameBytes q2 xb).length : Int) ≤ P
    · rw [if_pos hfull, if_pos hfull]
      have e1 : heldOf (pick (regB (frameBytes q1 xa) (frameBytes q2 xb) P n i) 1).data.toList = (q2, xb, true) := by
        unfold pick regB
        simp only [if_neg (by omega : ¬ (1 : Nat) = 0), if_pos hi, data_bs]
        rw [List.take_of_length_le (by omega)]
        exact held_full h2 (by omega)
      have hne : (q1 == q2) = false := by simp; omega
      have hle : decide (((i + 1 : Nat) : Int) * ((frameBytes q2 xb).length : Int) ≤ P) = true := by simp only [decide_eq_true_eq]; omega
      rw [hne, hle, e1]
      simp
    · rw [if_neg hfull, if_neg hfull, e0]
      simp
  · have hne : (q1 == q2 + 1) = false := by simp; omega
    have hne2 : (q2 == q2 + 1) = false := by simp; omega
    rw [hne, hne2]
    simp
end
end Go.Proofs.Ytnehiflandjkoaa
