import Derived.Test.YtoggdaiibmjkkaaC3
namespace Go.Proofs.Ytoggdaiibmjkkaa
open Go.RowKit M

/-- the first that fails -/
def firstBad (rs : List Reg) : Int := match rs.findIdx? (fun r => !regOk r) with | some k => k | none => -1
theorem firstBad_none {rs : List Reg} (h : ∀ r ∈ rs, regOk r = true) : firstBad rs = -1 := by
  have : rs.findIdx? (fun r => !regOk r) = none := by rw [List.findIdx?_eq_none_iff]; intro x hx; simp [h x hx]
  unfold firstBad; rw [this]
theorem firstBad_some {rs : List Reg} {k : Nat} (hk : k < rs.length) (h : ∀ r ∈ rs.take k, regOk r = true) (hb : regOk rs[k] = false) : firstBad rs = k := by
  have : rs.findIdx? (fun r => !regOk r) = some k := by
    rw [List.findIdx?_eq_some_iff_getElem]
    refine ⟨hk, by simp [hb], fun j hj => ?_⟩
    have := h rs[j] (by rw [List.mem_take_iff_getElem]; exact ⟨j, by omega, rfl⟩)
    simp [this]
  unfold firstBad; rw [this]

set_option maxHeartbeats 800000 in
theorem indexBad_i (rs : List Reg) (v : Value) (w : World) (hr : Rd w 3 v rs.length (flat encReg rs)) :
    Gives Try.prog 78 #[v, .func (.func 47) #[] #[]] w (.int .i64 (firstBad rs)) := by
  obtain ⟨A, cap, rfl, hn, hcap, hA⟩ := hr.form
  unfold maxLen at hcap
  unfold Gives
  go_enter Try.func78, Try.ntmps78
  go_wp2
  go_loopw [8] (fun i wr => ∃ k : Nat, k ≤ rs.length ∧ i = .int .i64 k ∧ Below w.heap.size w wr ∧ Hid (∀ r ∈ rs.take k, regOk r = true)) (fun i _ => rs.length - (intOf i).toNat)
  case atStart => exact ⟨0, Nat.zero_le _, rfl, Below.refl _ _, Lib.hid (by simp)⟩
  case round =>
    obtain ⟨k, hk, rfl, hb, hall⟩ := hrel
    by_cases hlt : k < rs.length
    · obtain ⟨b, o, rfl, hcell⟩ := hA (by omega)
      have hkI : (k : Int) < (rs.length : Int) := by omega
      obtain ⟨a0, a1, a2⟩ := reg_cells hcell hb k hlt (now wr)
      simp only [now] at a0 a1 a2
      have hts : Hid (rs.take (k + 1) = rs.take k ++ [rs[k]]) := Lib.hid (List.take_succ_eq_append_getElem hlt)
      have hfb : Hid (regOk rs[k] = false → firstBad rs = k) := Lib.hid (firstBad_some hlt hall.out)
      generalize rs[k] = x at *
      go_wp2_with fail
      refine (bad_i x _).use.mono ?_
      rintro e w1 ⟨rfl, hb1⟩
      cases hok : regOk x
      · have hok' := Lib.hid hok
        clear hok
        go_wp2
        go_ret
        exact ⟨by rw [hfb.out hok'.out]; rfl, bthen hb hb1⟩
      · have hok' := Lib.hid hok
        clear hok
        go_wp2
        go_roundw
        case rel => exact ⟨k + 1, by omega, by go_num, bthen hb hb1, Lib.hid (by
                rw [hts.out]; intro r hr; rcases List.mem_append.1 hr with h | h
                · exact hall.out r h
                · simp at h; subst h; exact hok'.out)⟩
        case measure => simp [intOf]; omega
    · obtain rfl : k = rs.length := by omega
      go_wp2
      go_ret
      have h := hall.out
      rw [List.take_length] at h
      exact ⟨by rw [firstBad_none h]; rfl, hb⟩

theorem firstBad_ge (rs : List Reg) : decide (0 ≤ firstBad rs) = !rs.all regOk := by
  unfold firstBad
  cases h : rs.findIdx? (fun r => !regOk r) with
  | none =>
    rw [List.findIdx?_eq_none_iff] at h
    have : rs.all regOk = true := List.all_eq_true.2 fun x hx => by simpa using h x hx
    rw [this]; rfl
  | some k =>
    rw [List.findIdx?_eq_some_iff_getElem] at h
    obtain ⟨hk, hb, _⟩ := h
    have : rs.all regOk = false := all_not (List.getElem_mem hk) (by simpa using hb)
    rw [this]; simp
theorem containsBad_i (rs : List Reg) (v : Value) (w : World) (hr : Rd w 3 v rs.length (flat encReg rs)) :
    Gives Try.prog 46 #[v, .func (.func 47) #[] #[]] w (.bool (!rs.all regOk)) := by
  unfold Gives
  go_enter Try.func46, Try.ntmps46
  go_wp2_with fail
  refine (indexBad_i rs _ _ hr).use.mono ?_
  rintro e w1 ⟨rfl, hb1⟩
  go_wp2
  go_ret
  exact ⟨by rw [← firstBad_ge]; rfl, hb1⟩

theorem diskRight_i (rs : List Reg) (v : Value) (p : Int) (w : World) (hr : Rd w 3 v rs.length (flat encReg rs)) :
    Gives Try.prog 21 #[.agg #[v, .int .i64 p]] w (.bool (diskOk rs p)) := by
  obtain ⟨A, cap, rfl, hn, hcap, _⟩ := hr.form
  unfold maxLen at hcap
  unfold Gives
  by_cases h1 : 1 ≤ rs.length ∧ rs.length ≤ 13
  · have hq : (decide ((1 : Int) ≤ rs.length) && decide ((rs.length : Int) ≤ 13)) = true := by simp; omega
    cases hp : (decide (-1 ≤ p) && decide (p ≤ 1000000))
    · have HE : Hid (diskOk rs p = false) := Lib.hid (diskOk_pow hp)
      have hp' := Lib.hid hp
      have hq' := Lib.hid hq
      clear hp hq
      go_enter Try.func21, Try.ntmps21
      go_wp2_with fail
      refine (within_i _ _ _ _).use.mono ?_
      rw [hq'.out]
      rintro e w1 ⟨rfl, hb1⟩
      obtain ⟨hc1, hf1⟩ := bcell hb1
      go_wp2_with fail
      refine (within_i _ _ _ _).use.mono ?_
      rw [hp'.out]
      rintro e w2 ⟨rfl, hb2⟩
      go_wp2
      go_ret
      exact ⟨by rw [HE.out]; rfl, bthen (bnew _ _) (bthen hb1 hb2)⟩
    · have HE : Hid (diskOk rs p = rs.all regOk) := Lib.hid (diskOk_all (by omega) hp)
      have hp' := Lib.hid hp
      have hq' := Lib.hid hq
      clear hp hq
      go_enter Try.func21, Try.ntmps21
      go_wp2_with fail
      refine (within_i _ _ _ _).use.mono ?_
      rw [hq'.out]
      rintro e w1 ⟨rfl, hb1⟩
      obtain ⟨hc1, hf1⟩ := bcell hb1
      go_wp2_with fail
      refine (within_i _ _ _ _).use.mono ?_
      rw [hp'.out]
      rintro e w2 ⟨rfl, hb2⟩
      obtain ⟨hc2, hf2⟩ := bcell (bthen hb1 hb2)
      have HB := bthen hb1 hb2
      clear hc1 hf1 hb1 hb2
      go_wp2_with fail
      refine (containsBad_i rs _ _ (hr.later (bthen (bnew _ _) HB))).use.mono ?_
      rintro e w3 ⟨rfl, hb3⟩
      go_wp2
      go_ret
      refine ⟨?_, bthen (bnew _ _) (bthen HB hb3)⟩
      rw [HE.out]
      refine ret_bool ?_
      simp
  · have hq : (decide ((1 : Int) ≤ rs.length) && decide ((rs.length : Int) ≤ 13)) = false := by rw [Bool.eq_false_iff]; simp; omega
    have HE : Hid (diskOk rs p = false) := Lib.hid (diskOk_len h1)
    have hq' := Lib.hid hq
    clear hq h1
    go_enter Try.func21, Try.ntmps21
    go_wp2_with fail
    refine (within_i _ _ _ _).use.mono ?_
    rw [hq'.out]
    rintro e w1 ⟨rfl, hb1⟩
    go_wp2
    go_ret
    exact ⟨by rw [HE.out]; rfl, bthen (bnew _ _) hb1⟩

set_option maxHeartbeats 1000000 in
theorem law_DiskRight (v : Value) (rs : List Reg) (p : Int) (W : World) (hr : Rd W 3 v rs.length (flat encReg rs)) (ho : okSizes rs) : Gives Try.prog 5 #[.agg #[v, .int .i64 p]] W (.bool true) := by
  obtain ⟨A, cap, rfl, hn, hcap, _⟩ := hr.form
  unfold maxLen at hcap
  unfold Gives
  go_enter Try.func5, Try.ntmps5
  go_wp2_with fail
  refine (szDisk_l rs _ p _ (by omega) _ (hr.later (bnew _ _)) ho).mono ?_
  rintro e w1 ⟨hb1, r, rfl, hr1⟩
  have R1 : Hid (Rd w1 3 (.slice A rs.length cap) rs.length (flat encReg rs)) := Lib.hid (hr.later (bthen (bnew _ _) hb1))
  obtain ⟨hc1, hf1⟩ := bcell hb1
  have a0 : w1.cell? ⟨W.heap.size, 0, none⟩ = some (.slice A rs.length cap) := by rw [hc1 _ _ (by simp)]; simp [World.cell?_alloc_new]
  have a1 : w1.cell? ⟨W.heap.size, 1, none⟩ = some (.int .i64 p) := by rw [hc1 _ _ (by simp)]; simp [World.cell?_alloc_new]
  have s1 : W.heap.size < w1.heap.size := by have := hb1.size; simp at this; omega
  have B1 := bthen (bnew W _) hb1
  clear hc1 hf1 hb1 hr
  rcases hr1 with rfl | ⟨hr0, hr1, hq⟩
  · go_wp2
    go_ret
    exact ⟨rfl, B1⟩
  · have h0 : ¬ r < 0 := by omega
    go_wp2_with fail
    refine (toDisk_l rs _ p hq _ R1.out).mono ?_
    rintro e w2 ⟨A2, c2, rfl, ho2, hb2⟩
    have R2 := Lib.hid (R1.out.later hb2)
    have O2 := Lib.hid ho2
    obtain ⟨hc2, hf2⟩ := bcell hb2
    have b0 := (hc2 _ 0 s1).trans a0
    have b1 := (hc2 _ 1 s1).trans a1
    have s2 : W.heap.size < w2.heap.size := Nat.lt_of_lt_of_le s1 hb2.size
    have B2 := bthen B1 hb2
    clear hc2 hf2 hb2 ho2 a0 a1 R1 B1
    go_wp2_with fail
    refine (diskRight_s rs _ p _ (Rd.of_own O2.out)).use.mono ?_
    rintro e w3 ⟨rfl, hb3⟩
    have R3 := Lib.hid (R2.out.later hb3)
    obtain ⟨hc3, hf3⟩ := bcell hb3
    have c0 := (hc3 _ 0 s2).trans b0
    have c1 := (hc3 _ 1 s2).trans b1
    have s3 : W.heap.size < w3.heap.size := Nat.lt_of_lt_of_le s2 hb3.size
    have B3 := bthen B2 hb3
    clear hc3 hf3 hb3 b0 b1 R2 B2 O2 s1 s2
    go_wp2_with fail
    refine (toDisk_l rs _ p hq _ R3.out).mono ?_
    rintro e w4 ⟨A4, c4, rfl, ho4, hb4⟩
    have R4 := Lib.hid (R3.out.later hb4)
    have O4 := Lib.hid ho4
    obtain ⟨hc4, hf4⟩ := bcell hb4
    have d0 := (hc4 _ 0 s3).trans c0
    have d1 := (hc4 _ 1 s3).trans c1
    have s4 : W.heap.size < w4.heap.size := Nat.lt_of_lt_of_le s3 hb4.size
    have B4 := bthen B3 hb4
    clear hc4 hf4 hb4 ho4 c0 c1 R3 B3
    go_wp2_with fail
    refine (diskRight_i rs _ p _ (Rd.of_own (O4.out.alloc _))).use.mono ?_
    rintro e w5 ⟨rfl, hb5⟩
    have R5 := Lib.hid ((R4.out.later (bnew _ _)).later hb5)
    have O5 := Lib.hid (own_keep (O4.out.alloc _) hb5)
    obtain ⟨hc5, hf5⟩ := bcell hb5
    have s5 : w4.heap.size < w5.heap.size := by have := hb5.size; simp at this; omega
    have e0 : w5.cell? ⟨W.heap.size, 0, none⟩ = some (.slice A rs.length cap) := by rw [hc5 _ _ (by simp; omega), World.cell?_alloc_lt _ _ _ s4]; exact d0
    have e1 : w5.cell? ⟨W.heap.size, 1, none⟩ = some (.int .i64 p) := by rw [hc5 _ _ (by simp; omega), World.cell?_alloc_lt _ _ _ s4]; exact d1
    have e2 : w5.cell? ⟨w4.heap.size, 0, none⟩ = some (.slice A4 rs.length c4) := by rw [hc5 _ _ (by simp)]; simp [World.cell?_alloc_new]
    have e3 : w5.cell? ⟨w4.heap.size, 1, none⟩ = some (.int .i64 p) := by rw [hc5 _ _ (by simp)]; simp [World.cell?_alloc_new]
    have B5 := bthen B4 (bthen (bnew _ _) hb5)
    clear hc5 hf5 hb5 d0 d1 R4 O4 B4 s3
    go_wp2_with fail
    go_region_with (first
      | (go_at_call 20; refine (toDisk_l rs _ p hq _ (by exact R5.out)).mono ?_; rintro e w6 ⟨A6, c6, rfl, ho6, hb6⟩; have q2 := ((bcell (undrew hb6)).1 _ 0 s5).trans e2; have q3 := ((bcell (undrew hb6)).1 _ 1 s5).trans e3)
      | (go_at_call 11; refine (eqDisk_same _ _ rs p _ (by exact (Rd.of_own O5.out).later (undrew hb6)) (Rd.of_own ho6)).use.mono ?_; rintro e w7 ⟨rfl, hb7⟩))
    all_goals go_wp2
    all_goals go_ret
    all_goals exact ⟨rfl, bthen B5 (bthen (undrew hb6) hb7)⟩
end Go.Proofs.Ytoggdaiibmjkkaa
