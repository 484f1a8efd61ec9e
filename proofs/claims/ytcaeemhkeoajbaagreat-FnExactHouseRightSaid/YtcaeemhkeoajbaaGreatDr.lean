/-
  Disks that may be so, in the program and in the reference: the walks.
-/
import Derived.Test.YtcaeemhkeoajbaaGreatC1
import Derived.Deep.RegionHeld3
import Derived.Deep.RegionWith
import Derived.Deep.AppendLies
set_option linter.unusedSimpArgs false
set_option linter.unusedVariables false
namespace Go.Proofs.YtcaeemhkeoajbaaGreat
open Go.RowKit M

theorem reg_cells {w wr : World} {b off : Nat} {rs : List Reg} (h : ∀ j u, (flat encReg rs)[j]? = some u → w.cell? ⟨b, off + j, none⟩ = some u) (hb : Below w.heap.size w wr) (k : Nat) (hk : k < rs.length) (x : Later wr) :
    x.now.cell? ⟨b, off + k * 3, none⟩ = some (.string rs[k].1) ∧ x.now.cell? ⟨b, off + k * 3 + 1, none⟩ = some (.string rs[k].2.1) ∧ x.now.cell? ⟨b, off + k * 3 + 2, none⟩ = some (.string rs[k].2.2) := by
  have g : ∀ j u, j < 3 → (encReg rs[k])[j]? = some u → x.now.cell? ⟨b, off + k * 3 + j, none⟩ = some u := fun j u hj hu => by
    rw [Nat.add_assoc]; exact Rd.at_ (n := 0) (s := 0) (cap := 0) h hb _ u (by rw [flat_get encReg_len rs k j rs[k] (by simp [hk]) hj]; exact hu) x
  exact ⟨g 0 _ (by omega) rfl, g 1 _ (by omega) rfl, g 2 _ (by omega) rfl⟩
theorem undrew {w w' : World} (h : Below w.drew.heap.size w.drew w') : Below w.heap.size w w' := ⟨h.os, h.tape, h.output, h.size, h.block⟩
def now (w : World) : Later w := ⟨w, Below.refl _ _⟩

def regOk (r : Reg) : Bool := decide (r.1.size ≤ 3000) && (decide (r.2.1.size ≤ 3000) && decide (r.2.2.size ≤ 3000))
def diskOk (rs : List Reg) (p : Int) : Bool := (decide (1 ≤ rs.length) && decide (rs.length ≤ 13)) && ((decide (-1 ≤ p) && decide (p ≤ 1000000)) && rs.all regOk)

theorem bad_i (r : Reg) (w : World) : Gives Tryz.prog 92 #[.agg #[.string r.1, .string r.2.1, .string r.2.2]] w (.bool (!regOk r)) := by
  obtain ⟨a, b, c⟩ := r
  unfold Gives
  have HE : Hid (regOk (a, b, c) = (decide (a.size ≤ 3000) && (decide (b.size ≤ 3000) && decide (c.size ≤ 3000)))) := Lib.hid rfl
  go_enter Tryz.func92, Tryz.ntmps92
  go_wp2
  all_goals go_ret
  all_goals refine ⟨?_, bnew _ _⟩
  all_goals rw [HE.out]
  all_goals refine ret_bool ?_
  all_goals rw [Bool.eq_iff_iff]
  all_goals simp
  all_goals omega

theorem regOk_cases (r : Reg) : (regOk r = true ∧ ¬ (3000 : Int) < r.1.size ∧ ¬ (3000 : Int) < r.2.1.size ∧ ¬ (3000 : Int) < r.2.2.size) ∨
    (regOk r = false ∧ ((3000 : Int) < r.1.size ∨ (¬ (3000 : Int) < r.1.size ∧ (3000 : Int) < r.2.1.size) ∨ (¬ (3000 : Int) < r.1.size ∧ ¬ (3000 : Int) < r.2.1.size ∧ (3000 : Int) < r.2.2.size))) := by
  unfold regOk
  cases h : (decide (r.1.size ≤ 3000) && (decide (r.2.1.size ≤ 3000) && decide (r.2.2.size ≤ 3000)))
  · refine .inr ⟨rfl, ?_⟩
    rw [Bool.eq_false_iff] at h
    simp only [ne_eq, Bool.and_eq_true, decide_eq_true_eq] at h
    omega
  · refine .inl ⟨rfl, ?_⟩
    simp only [Bool.and_eq_true, decide_eq_true_eq] at h
    omega
theorem diskOk_len {rs : List Reg} {p : Int} (h : ¬ (1 ≤ rs.length ∧ rs.length ≤ 13)) : diskOk rs p = false := by
  unfold diskOk; rw [Bool.eq_false_iff]; simp; omega
theorem diskOk_pow {rs : List Reg} {p : Int} (h : (decide (-1 ≤ p) && decide (p ≤ 1000000)) = false) : diskOk rs p = false := by
  unfold diskOk; rw [h]; simp
theorem diskOk_all {rs : List Reg} {p : Int} (h : 1 ≤ rs.length ∧ rs.length ≤ 13) (hp : (decide (-1 ≤ p) && decide (p ≤ 1000000)) = true) : diskOk rs p = rs.all regOk := by
  unfold diskOk; rw [hp]; simp [h]
theorem all_take {rs : List Reg} (h : ∀ r ∈ rs, regOk r = true) : rs.all regOk = true := List.all_eq_true.2 h
theorem all_not {rs : List Reg} {r : Reg} (h : r ∈ rs) (hr : regOk r = false) : rs.all regOk = false := by
  rw [Bool.eq_false_iff]; intro he; have := List.all_eq_true.1 he r h; rw [hr] at this; cases this

set_option maxHeartbeats 800000 in
theorem diskRight_s (rs : List Reg) (v : Value) (p : Int) (w : World) (hr : Rd w 3 v rs.length (flat encReg rs)) :
    Gives Tryz.prog 33 #[.agg #[v, .int .i64 p]] w (.bool (diskOk rs p)) := by
  obtain ⟨A, cap, rfl, hn, hcap, hA⟩ := hr.form
  unfold maxLen at hcap
  unfold Gives
  by_cases h1 : (rs.length : Int) < 1
  · have HE : Hid (diskOk rs p = false) := by exact Lib.hid (diskOk_len (by omega))
    go_enter Tryz.func33, Tryz.ntmps33
    go_wp2
    go_ret
    exact ⟨by rw [HE.out]; rfl, bnew _ _⟩
  · by_cases h2 : (13 : Int) < rs.length
    · have HE : Hid (diskOk rs p = false) := by exact Lib.hid (diskOk_len (by omega))
      go_enter Tryz.func33, Tryz.ntmps33
      go_wp2
      go_ret
      exact ⟨by rw [HE.out]; rfl, bnew _ _⟩
    · cases hp : (decide (-1 ≤ p) && decide (p ≤ 1000000))
      · have HE : Hid (diskOk rs p = false) := by exact Lib.hid (diskOk_pow hp)
        have hp' := Lib.hid hp
        clear hp
        go_enter Tryz.func33, Tryz.ntmps33
        go_wp2_with (go_at_call 89; refine (is_s _ _ _ _).use.mono ?_; rw [hp'.out]; rintro e w1 ⟨rfl, hb1⟩)
        go_ret
        exact ⟨by rw [HE.out]; rfl, bthen (bnew _ _) hb1⟩
      · have HE : Hid (diskOk rs p = rs.all regOk) := by exact Lib.hid (diskOk_all (by omega) hp)
        have hp' := Lib.hid hp
        clear hp
        go_enter Tryz.func33, Tryz.ntmps33
        go_wp2_with (go_at_call 89; refine (is_s _ _ _ _).use.mono ?_; rw [hp'.out]; rintro e w1 ⟨rfl, hb1⟩; obtain ⟨hc1, hf1⟩ := bcell hb1)
        have d0 : w1.cell? ⟨w.heap.size, 0, none⟩ = some (.slice A rs.length cap) := by rw [hc1 _ _ (by simp)]; simp [World.cell?_alloc_new]
        have hs1 : w.heap.size < w1.heap.size := by have := hb1.size; simp at this; omega
        have HB := bthen (bnew w _) hb1
        clear hc1 hf1 hb1
        go_loopw [3] (fun i wr => ∃ k : Nat, k ≤ rs.length ∧ i = .int .i64 k ∧ Below w.heap.size w wr ∧ w.heap.size < wr.heap.size ∧ wr.cell? ⟨w.heap.size, 0, none⟩ = some (.slice A rs.length cap) ∧ Hid (∀ r ∈ rs.take k, regOk r = true)) (fun i _ => rs.length - (intOf i).toNat)
        case atStart => exact ⟨0, Nat.zero_le _, rfl, HB, hs1, d0, Lib.hid (by simp)⟩
        case round =>
          obtain ⟨k, hk, rfl, hb, hs, hd, hall⟩ := hrel
          by_cases hlt : k < rs.length
          · obtain ⟨b, o, rfl, hcell⟩ := hA (by omega)
            have hkI : (k : Int) < (rs.length : Int) := by omega
            obtain ⟨a0, a1, a2⟩ := reg_cells hcell hb k hlt (now wr)
            simp only [now] at a0 a1 a2
            have hts : Hid (rs.take (k + 1) = rs.take k ++ [rs[k]]) := Lib.hid (List.take_succ_eq_append_getElem hlt)
            have hmem : Hid (rs[k] ∈ rs) := Lib.hid (List.getElem_mem hlt)
            have hcs := regOk_cases rs[k]
            generalize rs[k] = x at *
            rcases hcs with ⟨hok, e1, e2, e3⟩ | ⟨hbad, e1 | ⟨e1, e2⟩ | ⟨e1, e2, e3⟩⟩
            · have hok' := Lib.hid hok
              clear hok
              go_wp2
              go_roundw
              case rel => exact ⟨k + 1, by omega, by go_num, bthen hb (bnew _ _), by simp; omega, by rw [World.cell?_alloc_lt _ _ _ hs]; exact hd, Lib.hid (by
                rw [hts.out]; intro r hr; rcases List.mem_append.1 hr with h | h
                · exact hall.out r h
                · simp at h; subst h; exact hok'.out)⟩
              case measure => simp [intOf]; omega
            all_goals have hbad' := Lib.hid hbad
            all_goals clear hbad
            all_goals go_wp2
            all_goals go_ret
            all_goals exact ⟨by rw [HE.out, all_not hmem.out hbad'.out]; rfl, bthen hb (bnew _ _)⟩
          · obtain rfl : k = rs.length := by omega
            go_wp2
            go_ret
            have h := hall.out
            rw [List.take_length] at h
            exact ⟨by rw [HE.out, all_take h]; rfl, hb⟩

/-- the first that fails -/
def firstBad (rs : List Reg) : Int := match rs.findIdx? (fun r => !regOk r) with | some k => k | none => -1
theorem firstBad_none {rs : List Reg} (h : ∀ r ∈ rs, regOk r = true) : firstBad rs = -1 := by
  have : rs.findIdx? (fun r => !regOk r) = none := by rw [List.findIdx?_eq_none_iff]; intro x hx; simp [h x hx]
  unfold firstBad; rw [this]
theorem firstBad_some {rs : List Reg} {k : Nat} (hk : k < rs.length) (h : ∀ r ∈ rs.take k, regOk r = true) (hb : regOk rs[k] = false) : firstBad rs = k := by
  have : rs.findIdx? (fun r => !regOk r) = some k := by
    rw [List.findIdx?_eq_some_iff_getElem]
    refine ⟨hk, by simp [hb], fun j hj => ?_⟩
    have := h rs[j] (by rw [List.mem_take_iff_getElem]; exact ⟨j, by omega, rfl⟩)
    simp [this]
  unfold firstBad; rw [this]

set_option maxHeartbeats 800000 in
theorem indexBad_i (rs : List Reg) (v : Value) (w : World) (hr : Rd w 3 v rs.length (flat encReg rs)) :
    Gives Tryz.prog 167 #[v, .func (.func 92) #[] #[]] w (.int .i64 (firstBad rs)) := by
  obtain ⟨A, cap, rfl, hn, hcap, hA⟩ := hr.form
  unfold maxLen at hcap
  unfold Gives
  go_enter Tryz.func167, Tryz.ntmps167
  go_wp2
  go_loopw [8] (fun i wr => ∃ k : Nat, k ≤ rs.length ∧ i = .int .i64 k ∧ Below w.heap.size w wr ∧ Hid (∀ r ∈ rs.take k, regOk r = true)) (fun i _ => rs.length - (intOf i).toNat)
  case atStart => exact ⟨0, Nat.zero_le _, rfl, Below.refl _ _, Lib.hid (by simp)⟩
  case round =>
    obtain ⟨k, hk, rfl, hb, hall⟩ := hrel
    by_cases hlt : k < rs.length
    · obtain ⟨b, o, rfl, hcell⟩ := hA (by omega)
      have hkI : (k : Int) < (rs.length : Int) := by omega
      obtain ⟨a0, a1, a2⟩ := reg_cells hcell hb k hlt (now wr)
      simp only [now] at a0 a1 a2
      have hts : Hid (rs.take (k + 1) = rs.take k ++ [rs[k]]) := Lib.hid (List.take_succ_eq_append_getElem hlt)
      have hfb : Hid (regOk rs[k] = false → firstBad rs = k) := Lib.hid (firstBad_some hlt hall.out)
      generalize rs[k] = x at *
      go_wp2_with fail
      refine (bad_i x _).use.mono ?_
      rintro e w1 ⟨rfl, hb1⟩
      cases hok : regOk x
      · have hok' := Lib.hid hok
        clear hok
        go_wp2
        go_ret
        exact ⟨by rw [hfb.out hok'.out]; rfl, bthen hb hb1⟩
      · have hok' := Lib.hid hok
        clear hok
        go_wp2
        go_roundw
        case rel => exact ⟨k + 1, by omega, by go_num, bthen hb hb1, Lib.hid (by
                rw [hts.out]; intro r hr; rcases List.mem_append.1 hr with h | h
                · exact hall.out r h
                · simp at h; subst h; exact hok'.out)⟩
        case measure => simp [intOf]; omega
    · obtain rfl : k = rs.length := by omega
      go_wp2
      go_ret
      have h := hall.out
      rw [List.take_length] at h
      exact ⟨by rw [firstBad_none h]; rfl, hb⟩

theorem firstBad_ge (rs : List Reg) : decide (0 ≤ firstBad rs) = !rs.all regOk := by
  unfold firstBad
  cases h : rs.findIdx? (fun r => !regOk r) with
  | none =>
    rw [List.findIdx?_eq_none_iff] at h
    have : rs.all regOk = true := List.all_eq_true.2 fun x hx => by simpa using h x hx
    rw [this]; rfl
  | some k =>
    rw [List.findIdx?_eq_some_iff_getElem] at h
    obtain ⟨hk, hb, _⟩ := h
    have : rs.all regOk = false := all_not (List.getElem_mem hk) (by simpa using hb)
    rw [this]; simp
theorem containsBad_i (rs : List Reg) (v : Value) (w : World) (hr : Rd w 3 v rs.length (flat encReg rs)) :
    Gives Tryz.prog 91 #[v, .func (.func 92) #[] #[]] w (.bool (!rs.all regOk)) := by
  unfold Gives
  go_enter Tryz.func91, Tryz.ntmps91
  go_wp2_with fail
  refine (indexBad_i rs _ _ hr).use.mono ?_
  rintro e w1 ⟨rfl, hb1⟩
  go_wp2
  go_ret
  exact ⟨by rw [← firstBad_ge]; rfl, hb1⟩

theorem diskRight_i (rs : List Reg) (v : Value) (p : Int) (w : World) (hr : Rd w 3 v rs.length (flat encReg rs)) :
    Gives Tryz.prog 37 #[.agg #[v, .int .i64 p]] w (.bool (diskOk rs p)) := by
  obtain ⟨A, cap, rfl, hn, hcap, _⟩ := hr.form
  unfold maxLen at hcap
  unfold Gives
  by_cases h1 : 1 ≤ rs.length ∧ rs.length ≤ 13
  · have hq : (decide ((1 : Int) ≤ rs.length) && decide ((rs.length : Int) ≤ 13)) = true := by simp; omega
    cases hp : (decide (-1 ≤ p) && decide (p ≤ 1000000))
    · have HE : Hid (diskOk rs p = false) := Lib.hid (diskOk_pow hp)
      have hp' := Lib.hid hp
      have hq' := Lib.hid hq
      clear hp hq
      go_enter Tryz.func37, Tryz.ntmps37
      go_wp2_with fail
      refine (within_i _ _ _ _).use.mono ?_
      rw [hq'.out]
      rintro e w1 ⟨rfl, hb1⟩
      obtain ⟨hc1, hf1⟩ := bcell hb1
      go_wp2_with fail
      refine (within_i _ _ _ _).use.mono ?_
      rw [hp'.out]
      rintro e w2 ⟨rfl, hb2⟩
      go_wp2
      go_ret
      exact ⟨by rw [HE.out]; rfl, bthen (bnew _ _) (bthen hb1 hb2)⟩
    · have HE : Hid (diskOk rs p = rs.all regOk) := Lib.hid (diskOk_all (by omega) hp)
      have hp' := Lib.hid hp
      have hq' := Lib.hid hq
      clear hp hq
      go_enter Tryz.func37, Tryz.ntmps37
      go_wp2_with fail
      refine (within_i _ _ _ _).use.mono ?_
      rw [hq'.out]
      rintro e w1 ⟨rfl, hb1⟩
      obtain ⟨hc1, hf1⟩ := bcell hb1
      go_wp2_with fail
      refine (within_i _ _ _ _).use.mono ?_
      rw [hp'.out]
      rintro e w2 ⟨rfl, hb2⟩
      obtain ⟨hc2, hf2⟩ := bcell (bthen hb1 hb2)
      have HB := bthen hb1 hb2
      clear hc1 hf1 hb1 hb2
      go_wp2_with fail
      refine (containsBad_i rs _ _ (hr.later (bthen (bnew _ _) HB))).use.mono ?_
      rintro e w3 ⟨rfl, hb3⟩
      go_wp2
      go_ret
      refine ⟨?_, bthen (bnew _ _) (bthen HB hb3)⟩
      rw [HE.out]
      refine ret_bool ?_
      simp
  · have hq : (decide ((1 : Int) ≤ rs.length) && decide ((rs.length : Int) ≤ 13)) = false := by rw [Bool.eq_false_iff]; simp; omega
    have HE : Hid (diskOk rs p = false) := Lib.hid (diskOk_len h1)
    have hq' := Lib.hid hq
    clear hq h1
    go_enter Tryz.func37, Tryz.ntmps37
    go_wp2_with fail
    refine (within_i _ _ _ _).use.mono ?_
    rw [hq'.out]
    rintro e w1 ⟨rfl, hb1⟩
    go_wp2
    go_ret
    exact ⟨by rw [HE.out]; rfl, bthen (bnew _ _) hb1⟩

end Go.Proofs.YtcaeemhkeoajbaaGreat
