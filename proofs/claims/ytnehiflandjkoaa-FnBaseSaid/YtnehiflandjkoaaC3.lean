import Derived.Test.YtnehiflandjkoaaC2
import Derived.Deep.RegionHeld3
import Derived.Deep.RegionWith
set_option linter.unusedSimpArgs false
set_option linter.unusedVariables false
namespace Go.Proofs.Ytnehiflandjkoaa
open Go.RowKit M

theorem reg_cells {w wr : World} {b off : Nat} {rs : List Reg} (h : ∀ j u, (flat encReg rs)[j]? = some u → w.cell? ⟨b, off + j, none⟩ = some u) (hb : Below w.heap.size w wr) (k : Nat) (hk : k < rs.length) (x : Later wr) :
    x.now.cell? ⟨b, off + k * 3, none⟩ = some (.string rs[k].1) ∧ x.now.cell? ⟨b, off + k * 3 + 1, none⟩ = some (.string rs[k].2.1) ∧ x.now.cell? ⟨b, off + k * 3 + 2, none⟩ = some (.string rs[k].2.2) := by
  have g : ∀ j u, j < 3 → (encReg rs[k])[j]? = some u → x.now.cell? ⟨b, off + k * 3 + j, none⟩ = some u := fun j u hj hu => by
    rw [Nat.add_assoc]; exact Rd.at_ (n := 0) (s := 0) (cap := 0) h hb _ u (by rw [flat_get encReg_len rs k j rs[k] (by simp [hk]) hj]; exact hu) x
  exact ⟨g 0 _ (by omega) rfl, g 1 _ (by omega) rfl, g 2 _ (by omega) rfl⟩
theorem undrew {w w' : World} (h : Below w.drew.heap.size w.drew w') : Below w.heap.size w w' := ⟨h.os, h.tape, h.output, h.size, h.block⟩
def now (w : World) : Later w := ⟨w, Below.refl _ _⟩

/-- what a measuring function says: too long (-1), or what is left, and then 'Q' -/
def SzOut (w : World) (Q : Prop) (e : Ending) (w' : World) : Prop :=
  Below w.heap.size w w' ∧ ∃ r : Int, e = .returned (.int .i64 r) ∧ (r = -1 ∨ (0 ≤ r ∧ r ≤ 1048576 ∧ Q))

def szOne (m : Int) (s : ByteArray) : Int := m - s.size
def okSizes (rs : List Reg) : Prop := ∀ r ∈ rs, r.1.size ≤ maxLen ∧ r.2.1.size ≤ maxLen ∧ r.2.2.size ≤ maxLen

theorem own_base {w : World} {b b' e s n : Nat} {v : Value} {xs : List Value} (h : w.ownsRow b e s v n xs) (hb : b' ≤ b) : w.ownsRow b' e s v n xs := by
  refine ⟨h.1, ?_⟩
  rcases h.2 with h0 | ⟨g, cap, cur, e1, h1, h2⟩
  · exact .inl h0
  · exact .inr ⟨g, cap, cur, e1, Nat.le_trans hb h1, h2⟩

def NewRegs (w : World) (e : Ending) (w' : World) (rs : List Reg) : Prop :=
  ∃ A cap, e = .returned (.slice A rs.length cap) ∧ w'.ownsRow w.heap.size 57 3 (.slice A rs.length cap) rs.length (flat encReg rs) ∧ Below w.heap.size w w'

/-- the first k of 'xs', the rest as made -/
def copying (rs : List Reg) (k : Nat) : List Value := flat encReg (rs.take k ++ List.replicate (rs.length - k) noReg)

theorem flat_set3 (l1 l2 : List Reg) (x y : Reg) (k : Nat) (hk : l1.length = k) : ((((flat encReg (l1 ++ x :: l2)).set (k * 3) (.string y.1)).set (k * 3 + 1) (.string y.2.1)).set (k * 3 + 2) (.string y.2.2)) = flat encReg (l1 ++ y :: l2) := by
  subst hk
  have hl := flat_length encReg_len l1
  rw [flat_append, flat_append, flat_cons, flat_cons]
  rw [List.set_append_right _ _ (by omega), List.set_append_right _ _ (by omega), List.set_append_right _ _ (by omega), hl, Nat.sub_self]
  rw [show l1.length * 3 + 1 - l1.length * 3 = 1 by omega, show l1.length * 3 + 2 - l1.length * 3 = 2 by omega]
  rfl
theorem copying_zero (rs : List Reg) : copying rs 0 = flat encReg (List.replicate rs.length noReg) := by simp [copying]
theorem copying_all (rs : List Reg) : copying rs rs.length = flat encReg rs := by simp [copying]
theorem copying_length (rs : List Reg) (k : Nat) (hk : k ≤ rs.length) : (copying rs k).length = rs.length * 3 := by
  unfold copying; rw [flat_length encReg_len]; simp; omega
theorem copying_step (rs : List Reg) (k : Nat) (hk : k < rs.length) : ((((copying rs k).set (k * 3) (.string rs[k].1)).set (k * 3 + 1) (.string rs[k].2.1)).set (k * 3 + 2) (.string rs[k].2.2)) = copying rs (k + 1) := by
  unfold copying
  have e : List.replicate (rs.length - k) noReg = noReg :: List.replicate (rs.length - (k + 1)) noReg := by
    rw [show rs.length - k = (rs.length - (k + 1)) + 1 by omega, List.replicate_succ]
  rw [e, flat_set3 (rs.take k) _ noReg rs[k] k (by simp; omega)]
  congr 1
  rw [List.take_succ_eq_append_getElem hk, List.append_assoc]
  rfl

/-! ### DiskRight -/
def regOk (r : Reg) : Bool := decide (r.1.size ≤ 3000) && (decide (r.2.1.size ≤ 3000) && decide (r.2.2.size ≤ 3000))
def diskOk (rs : List Reg) (p : Int) : Bool := (decide (1 ≤ rs.length) && decide (rs.length ≤ 13)) && ((decide (-1 ≤ p) && decide (p ≤ 1000000)) && rs.all regOk)

theorem bad_i (r : Reg) (w : World) : Gives Try.prog 67 #[.agg #[.string r.1, .string r.2.1, .string r.2.2]] w (.bool (!regOk r)) := by
  obtain ⟨a, b, c⟩ := r
  unfold Gives
  have HE : Hid (regOk (a, b, c) = (decide (a.size ≤ 3000) && (decide (b.size ≤ 3000) && decide (c.size ≤ 3000)))) := Lib.hid rfl
  go_enter Try.func67, Try.ntmps67
  go_wp2
  all_goals go_ret
  all_goals refine ⟨?_, bnew _ _⟩
  all_goals rw [HE.out]
  all_goals refine ret_bool ?_
  all_goals rw [Bool.eq_iff_iff]
  all_goals simp
  all_goals omega

theorem regOk_cases (r : Reg) : (regOk r = true ∧ ¬ (3000 : Int) < r.1.size ∧ ¬ (3000 : Int) < r.2.1.size ∧ ¬ (3000 : Int) < r.2.2.size) ∨
    (regOk r = false ∧ ((3000 : Int) < r.1.size ∨ (¬ (3000 : Int) < r.1.size ∧ (3000 : Int) < r.2.1.size) ∨ (¬ (3000 : Int) < r.1.size ∧ ¬ (3000 : Int) < r.2.1.size ∧ (3000 : Int) < r.2.2.size))) := by
  unfold regOk
  cases h : (decide (r.1.size ≤ 3000) && (decide (r.2.1.size ≤ 3000) && decide (r.2.2.size ≤ 3000)))
  · refine .inr ⟨rfl, ?_⟩
    rw [Bool.eq_false_iff] at h
    simp only [ne_eq, Bool.and_eq_true, decide_eq_true_eq] at h
    omega
  · refine .inl ⟨rfl, ?_⟩
    simp only [Bool.and_eq_true, decide_eq_true_eq] at h
    omega
theorem diskOk_len {rs : List Reg} {p : Int} (h : ¬ (1 ≤ rs.length ∧ rs.length ≤ 13)) : diskOk rs p = false := by
  unfold diskOk; rw [Bool.eq_false_iff]; simp; omega
theorem diskOk_pow {rs : List Reg} {p : Int} (h : (decide (-1 ≤ p) && decide (p ≤ 1000000)) = false) : diskOk rs p = false := by
  unfold diskOk; rw [h]; simp
theorem diskOk_all {rs : List Reg} {p : Int} (h : 1 ≤ rs.length ∧ rs.length ≤ 13) (hp : (decide (-1 ≤ p) && decide (p ≤ 1000000)) = true) : diskOk rs p = rs.all regOk := by
  unfold diskOk; rw [hp]; simp [h]
theorem all_take {rs : List Reg} (h : ∀ r ∈ rs, regOk r = true) : rs.all regOk = true := List.all_eq_true.2 h
theorem all_not {rs : List Reg} {r : Reg} (h : r ∈ rs) (hr : regOk r = false) : rs.all regOk = false := by
  rw [Bool.eq_false_iff]; intro he; have := List.all_eq_true.1 he r h; rw [hr] at this; cases this

set_option maxHeartbeats 800000 in
theorem diskRight_s (rs : List Reg) (v : Value) (p : Int) (w : World) (hr : Rd w 3 v rs.length (flat encReg rs)) :
    Gives Try.prog 30 #[.agg #[v, .int .i64 p]] w (.bool (diskOk rs p)) := by
  obtain ⟨A, cap, rfl, hn, hcap, hA⟩ := hr.form
  unfold maxLen at hcap
  unfold Gives
  by_cases h1 : (rs.length : Int) < 1
  · have HE : Hid (diskOk rs p = false) := by exact Lib.hid (diskOk_len (by omega))
    go_enter Try.func30, Try.ntmps30
    go_wp2
    go_ret
    exact ⟨by rw [HE.out]; rfl, bnew _ _⟩
  · by_cases h2 : (13 : Int) < rs.length
    · have HE : Hid (diskOk rs p = false) := by exact Lib.hid (diskOk_len (by omega))
      go_enter Try.func30, Try.ntmps30
      go_wp2
      go_ret
      exact ⟨by rw [HE.out]; rfl, bnew _ _⟩
    · cases hp : (decide (-1 ≤ p) && decide (p ≤ 1000000))
      · have HE : Hid (diskOk rs p = false) := by exact Lib.hid (diskOk_pow hp)
        have hp' := Lib.hid hp
        clear hp
        go_enter Try.func30, Try.ntmps30
        go_wp2_with (go_at_call 68; refine (is_s _ _ _ _).use.mono ?_; rw [hp'.out]; rintro e w1 ⟨rfl, hb1⟩)
        go_ret
        exact ⟨by rw [HE.out]; rfl, bthen (bnew _ _) hb1⟩
      · have HE : Hid (diskOk rs p = rs.all regOk) := by exact Lib.hid (diskOk_all (by omega) hp)
        have hp' := Lib.hid hp
        clear hp
        go_enter Try.func30, Try.ntmps30
        go_wp2_with (go_at_call 68; refine (is_s _ _ _ _).use.mono ?_; rw [hp'.out]; rintro e w1 ⟨rfl, hb1⟩; obtain ⟨hc1, hf1⟩ := bcell hb1)
        have d0 : w1.cell? ⟨w.heap.size, 0, none⟩ = some (.slice A rs.length cap) := by rw [hc1 _ _ (by simp)]; simp [World.cell?_alloc_new]
        have hs1 : w.heap.size < w1.heap.size := by have := hb1.size; simp at this; omega
        have HB := bthen (bnew w _) hb1
        clear hc1 hf1 hb1
        go_loopw [3] (fun i wr => ∃ k : Nat, k ≤ rs.length ∧ i = .int .i64 k ∧ Below w.heap.size w wr ∧ w.heap.size < wr.heap.size ∧ wr.cell? ⟨w.heap.size, 0, none⟩ = some (.slice A rs.length cap) ∧ Hid (∀ r ∈ rs.take k, regOk r = true)) (fun i _ => rs.length - (intOf i).toNat)
        case atStart => exact ⟨0, Nat.zero_le _, rfl, HB, hs1, d0, Lib.hid (by simp)⟩
        case round =>
          obtain ⟨k, hk, rfl, hb, hs, hd, hall⟩ := hrel
          by_cases hlt : k < rs.length
          · obtain ⟨b, o, rfl, hcell⟩ := hA (by omega)
            have hkI : (k : Int) < (rs.length : Int) := by omega
            obtain ⟨a0, a1, a2⟩ := reg_cells hcell hb k hlt (now wr)
            simp only [now] at a0 a1 a2
            have hts : Hid (rs.take (k + 1) = rs.take k ++ [rs[k]]) := Lib.hid (List.take_succ_eq_append_getElem hlt)
            have hmem : Hid (rs[k] ∈ rs) := Lib.hid (List.getElem_mem hlt)
            have hcs := regOk_cases rs[k]
            generalize rs[k] = x at *
            rcases hcs with ⟨hok, e1, e2, e3⟩ | ⟨hbad, e1 | ⟨e1, e2⟩ | ⟨e1, e2, e3⟩⟩
            · have hok' := Lib.hid hok
              clear hok
              go_wp2
              go_roundw
              case rel => exact ⟨k + 1, by omega, by go_num, bthen hb (bnew _ _), by simp; omega, by rw [World.cell?_alloc_lt _ _ _ hs]; exact hd, Lib.hid (by
                rw [hts.out]; intro r hr; rcases List.mem_append.1 hr with h | h
                · exact hall.out r h
                · simp at h; subst h; exact hok'.out)⟩
              case measure => simp [intOf]; omega
            all_goals have hbad' := Lib.hid hbad
            all_goals clear hbad
            all_goals go_wp2
            all_goals go_ret
            all_goals exact ⟨by rw [HE.out, all_not hmem.out hbad'.out]; rfl, bthen hb (bnew _ _)⟩
          · obtain rfl : k = rs.length := by omega
            go_wp2
            go_ret
            have h := hall.out
            rw [List.take_length] at h
            exact ⟨by rw [HE.out, all_take h]; rfl, hb⟩
end Go.Proofs.Ytnehiflandjkoaa
