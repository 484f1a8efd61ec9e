import Derived.Test.YtnehiflandjkoaaC3
set_option linter.unusedSimpArgs false
set_option linter.unusedVariables false
namespace Go.Proofs.Ytnehiflandjkoaa
open Go.RowKit M

/-- the first that fails -/
def firstBad (rs : List Reg) : Int := match rs.findIdx? (fun r => !regOk r) with | some k => k | none => -1
theorem firstBad_none {rs : List Reg} (h : ∀ r ∈ rs, regOk r = true) : firstBad rs = -1 := by
  have : rs.findIdx? (fun r => !regOk r) = none := by rw [List.findIdx?_eq_none_iff]; intro x hx; simp [h x hx]
  unfold firstBad; rw [this]
theorem firstBad_some {rs : List Reg} {k : Nat} (hk : k < rs.length) (h : ∀ r ∈ rs.take k, regOk r = true) (hb : regOk rs[k] = false) : firstBad rs = k := by
  have : rs.findIdx? (fun r => !regOk r) = some k := by
    rw [List.findIdx?_eq_some_iff_getElem]
    refine ⟨hk, by simp [hb], fun j hj => ?_⟩
    have := h rs[j] (by rw [List.mem_take_iff_getElem]; exact ⟨j, by omega, rfl⟩)
    simp [this]
  unfold firstBad; rw [this]

set_option maxHeartbeats 800000 in
theorem indexBad_i (rs : List Reg) (v : Value) (w : World) (hr : Rd w 3 v rs.length (flat encReg rs)) :
    Gives Try.prog 86 #[v, .func (.func 67) #[] #[]] w (.int .i64 (firstBad rs)) := by
  obtain ⟨A, cap, rfl, hn, hcap, hA⟩ := hr.form
  unfold maxLen at hcap
  unfold Gives
  go_enter Try.func86, Try.ntmps86
  go_wp2
  go_loopw [8] (fun i wr => ∃ k : Nat, k ≤ rs.length ∧ i = .int .i64 k ∧ Below w.heap.size w wr ∧ Hid (∀ r ∈ rs.take k, regOk r = true)) (fun i _ => rs.length - (intOf i).toNat)
  case atStart => exact ⟨0, Nat.zero_le _, rfl, Below.refl _ _, Lib.hid (by simp)⟩
  case round =>
    obtain ⟨k, hk, rfl, hb, hall⟩ := hrel
    by_cases hlt : k < rs.length
    · obtain ⟨b, o, rfl, hcell⟩ := hA (by omega)
      have hkI : (k : Int) < (rs.length : Int) := by omega
      obtain ⟨a0, a1, a2⟩ := reg_cells hcell hb k hlt (now wr)
      simp only [now] at a0 a1 a2
      have hts : Hid (rs.take (k + 1) = rs.take k ++ [rs[k]]) := Lib.hid (List.take_succ_eq_append_getElem hlt)
      have hfb : Hid (regOk rs[k] = false → firstBad rs = k) := Lib.hid (firstBad_some hlt hall.out)
      generalize rs[k] = x at *
      go_wp2_with fail
      refine (bad_i x _).use.mono ?_
      rintro e w1 ⟨rfl, hb1⟩
      cases hok : regOk x
      · have hok' := Lib.hid hok
        clear hok
        go_wp2
        go_ret
        exact ⟨by rw [hfb.out hok'.out]; rfl, bthen hb hb1⟩
      · have hok' := Lib.hid hok
        clear hok
        go_wp2
        go_roundw
        case rel => exact ⟨k + 1, by omega, by go_num, bthen hb hb1, Lib.hid (by
                rw [hts.out]; intro r hr; rcases List.mem_append.1 hr with h | h
                · exact hall.out r h
                · simp at h; subst h; exact hok'.out)⟩
        case measure => simp [intOf]; omega
    · obtain rfl : k = rs.length := by omega
      go_wp2
      go_ret
      have h := hall.out
      rw [List.take_length] at h
      exact ⟨by rw [firstBad_none h]; rfl, hb⟩

theorem firstBad_ge (rs : List Reg) : decide (0 ≤ firstBad rs) = !rs.all regOk := by
  unfold firstBad
  cases h : rs.findIdx? (fun r => !regOk r) with
  | none =>
    rw [List.findIdx?_eq_none_iff] at h
    have : rs.all regOk = true := List.all_eq_true.2 fun x hx => by simpa using h x hx
    rw [this]; rfl
  | some k =>
    rw [List.findIdx?_eq_some_iff_getElem] at h
    obtain ⟨hk, hb, _⟩ := h
    have : rs.all regOk = false := all_not (List.getElem_mem hk) (by simpa using hb)
    rw [this]; simp
theorem containsBad_i (rs : List Reg) (v : Value) (w : World) (hr : Rd w 3 v rs.length (flat encReg rs)) :
    Gives Try.prog 66 #[v, .func (.func 67) #[] #[]] w (.bool (!rs.all regOk)) := by
  unfold Gives
  go_enter Try.func66, Try.ntmps66
  go_wp2_with fail
  refine (indexBad_i rs _ _ hr).use.mono ?_
  rintro e w1 ⟨rfl, hb1⟩
  go_wp2
  go_ret
  exact ⟨by rw [← firstBad_ge]; rfl, hb1⟩

theorem diskRight_i (rs : List Reg) (v : Value) (p : Int) (w : World) (hr : Rd w 3 v rs.length (flat encReg rs)) :
    Gives Try.prog 29 #[.agg #[v, .int .i64 p]] w (.bool (diskOk rs p)) := by
  obtain ⟨A, cap, rfl, hn, hcap, _⟩ := hr.form
  unfold maxLen at hcap
  unfold Gives
  by_cases h1 : 1 ≤ rs.length ∧ rs.length ≤ 13
  · have hq : (decide ((1 : Int) ≤ rs.length) && decide ((rs.length : Int) ≤ 13)) = true := by simp; omega
    cases hp : (decide (-1 ≤ p) && decide (p ≤ 1000000))
    · have HE : Hid (diskOk rs p = false) := Lib.hid (diskOk_pow hp)
      have hp' := Lib.hid hp
      have hq' := Lib.hid hq
      clear hp hq
      go_enter Try.func29, Try.ntmps29
      go_wp2_with fail
      refine (within_i _ _ _ _).use.mono ?_
      rw [hq'.out]
      rintro e w1 ⟨rfl, hb1⟩
      obtain ⟨hc1, hf1⟩ := bcell hb1
      go_wp2_with fail
      refine (within_i _ _ _ _).use.mono ?_
      rw [hp'.out]
      rintro e w2 ⟨rfl, hb2⟩
      go_wp2
      go_ret
      exact ⟨by rw [HE.out]; rfl, bthen (bnew _ _) (bthen hb1 hb2)⟩
    · have HE : Hid (diskOk rs p = rs.all regOk) := Lib.hid (diskOk_all (by omega) hp)
      have hp' := Lib.hid hp
      have hq' := Lib.hid hq
      clear hp hq
      go_enter Try.func29, Try.ntmps29
      go_wp2_with fail
      refine (within_i _ _ _ _).use.mono ?_
      rw [hq'.out]
      rintro e w1 ⟨rfl, hb1⟩
      obtain ⟨hc1, hf1⟩ := bcell hb1
      go_wp2_with fail
      refine (within_i _ _ _ _).use.mono ?_
      rw [hp'.out]
      rintro e w2 ⟨rfl, hb2⟩
      obtain ⟨hc2, hf2⟩ := bcell (bthen hb1 hb2)
      have HB := bthen hb1 hb2
      clear hc1 hf1 hb1 hb2
      go_wp2_with fail
      refine (containsBad_i rs _ _ (hr.later (bthen (bnew _ _) HB))).use.mono ?_
      rintro e w3 ⟨rfl, hb3⟩
      go_wp2
      go_ret
      refine ⟨?_, bthen (bnew _ _) (bthen HB hb3)⟩
      rw [HE.out]
      refine ret_bool ?_
      simp
  · have hq : (decide ((1 : Int) ≤ rs.length) && decide ((rs.length : Int) ≤ 13)) = false := by rw [Bool.eq_false_iff]; simp; omega
    have HE : Hid (diskOk rs p = false) := Lib.hid (diskOk_len h1)
    have hq' := Lib.hid hq
    clear hq h1
    go_enter Try.func29, Try.ntmps29
    go_wp2_with fail
    refine (within_i _ _ _ _).use.mono ?_
    rw [hq'.out]
    rintro e w1 ⟨rfl, hb1⟩
    go_wp2
    go_ret
    exact ⟨by rw [HE.out]; rfl, bthen (bnew _ _) hb1⟩

end Go.Proofs.Ytnehiflandjkoaa
