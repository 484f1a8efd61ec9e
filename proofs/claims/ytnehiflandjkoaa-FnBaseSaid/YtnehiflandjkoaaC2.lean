import Derived.Test.YtnehiflandjkoaaC1
import Derived.Deep.AppendLies
set_option linter.unusedSimpArgs false
set_option linter.unusedVariables false
namespace Go.Proofs.Ytnehiflandjkoaa
open Go.RowKit M

theorem info_Region : (Try.prog.info? 57).map (fun i => (i.zero, i.size, i.bytes)) = some (some (.agg #[.string ⟨#[]⟩, .string ⟨#[]⟩, .string ⟨#[]⟩]), 3, 48) := by kernel_rfl

/-- a new disk: its regions lie in memory that the call made -/
def NewDisk (w : World) (e : Ending) (w' : World) (rs : List Reg) (p : Int) : Prop :=
  ∃ A cap, e = .returned (.agg #[.slice A rs.length cap, .int .i64 p]) ∧ w'.ownsRow w.heap.size 57 3 (.slice A rs.length cap) rs.length (flat encReg rs) ∧ Below w.heap.size w w'

def noReg : Reg := (⟨#[]⟩, ⟨#[]⟩, ⟨#[]⟩)
theorem made_regs (n : Nat) : (madeCells #[.string ⟨#[]⟩, .string ⟨#[]⟩, .string ⟨#[]⟩] (n * 3)).toList = flat encReg (List.replicate n noReg) := by
  apply List.ext_getElem?
  intro j
  by_cases hj : j < n * 3
  · have h2 := flat_get encReg_len (List.replicate n noReg) (j / 3) (j % 3) noReg (by rw [List.getElem?_replicate, if_pos (by omega)]) (by omega)
    rw [show j / 3 * 3 + j % 3 = j by omega] at h2
    rw [h2]
    have h3 : j % 3 < 3 := by omega
    simp only [madeCells, Array.getElem?_toList, Array.getElem?_map, Array.getElem?_range, hj, if_pos, Option.map_some]
    rw [show (#[Value.string ⟨#[]⟩, Value.string ⟨#[]⟩, Value.string ⟨#[]⟩] : Array Value).size = 3 from rfl]
    generalize j % 3 = m at h3
    match m, h3 with
    | 0, _ => rfl
    | 1, _ => rfl
    | 2, _ => rfl
  · rw [List.getElem?_eq_none (by rw [Array.length_toList, size_madeCells]; omega), List.getElem?_eq_none (by rw [flat_length encReg_len]; simp; omega)]

def diskNewRs (n : Int) : List Reg := if 1 ≤ n ∧ n ≤ 13 then List.replicate n.toNat noReg else []
def diskNewP (n : Int) : Int := if 1 ≤ n ∧ n ≤ 13 then -1 else 0

set_option maxRecDepth 100000 in
theorem diskNew_i (n : Int) (w : World) : Calls Try.prog 31 #[.int .i64 n] w fun e w' => NewDisk w e w' (diskNewRs n) (diskNewP n) := by
  by_cases h : 1 ≤ n ∧ n ≤ 13
  · obtain ⟨i0, hi, hz0, hz1, hz2⟩ := info_parts info_Region
    have HR : Hid (diskNewRs n = List.replicate n.toNat noReg ∧ diskNewP n = -1) := Lib.hid ⟨if_pos h, if_pos h⟩
    have hb : (decide (1 ≤ n) && decide (n ≤ 13)) = true := by simp [h]
    have hmk : ∀ u : World, (Instr.makeSlice 40 (.int .i64 n) (.int .i64 n)).run Try.prog u = .ok (.slice (some ⟨u.heap.size, 0, none⟩) n.toNat n.toNat) (u.alloc (.cells (madeCells #[.string ⟨#[]⟩, .string ⟨#[]⟩, .string ⟨#[]⟩] (n.toNat * 3)) 57)) := fun u => by
      have h := run_make (P := Try.prog) u 40 57 i0 _ Try.underlying40 hi hz0 .i64 .i64 n n (by omega) (Int.le_refl _) (by rw [hz2]; omega) (by omega)
      rw [hz1] at h
      exact h
    have h1 := h.1
    have h2 := h.2
    clear h
    go_enter Try.func31, Try.ntmps31
    go_wp2_with (go_at_call 65; refine (within_i _ _ _ _).use.mono ?_; rw [hb]; rintro e w1 ⟨rfl, hb1⟩; obtain ⟨hc1, hf1⟩ := bcell hb1; have hs1 : w.heap.size < w1.heap.size := by have := hb1.size; simp at this; omega)
    refine bodyPost_ret (v := .agg #[.slice (some ⟨w1.heap.size, 0, none⟩) n.toNat n.toNat, .int .i64 (-1)]) ?_ rfl ?_
    · simp [results, Try.results31, go_sem, hc1, hs1]
    · rw [HR.out.1, HR.out.2]
      have hB : Below w.heap.size w ((w1.setCell ⟨w.heap.size, 0, none⟩ (.slice (some ⟨w1.heap.size, 0, none⟩) n.toNat n.toNat)).setCell ⟨w.heap.size, 1, none⟩ (.int .i64 (-1))) :=
        bset (bset (bthen (bnew _ _) hb1) (Nat.le_refl _) _) (Nat.le_refl _) _
      have hO := World.ownsRow_lit (base := w.heap.size) (e := 57) (size := 3) ((w1.setCell ⟨w.heap.size, 0, none⟩ (.slice (some ⟨w1.heap.size, 0, none⟩) n.toNat n.toNat)).setCell ⟨w.heap.size, 1, none⟩ (.int .i64 (-1)))
        (madeCells #[.string ⟨#[]⟩, .string ⟨#[]⟩, .string ⟨#[]⟩] (n.toNat * 3)) n.toNat hB.size (by unfold maxLen; omega) (size_madeCells _ _)
      rw [made_regs] at hO
      simp only [World.setCell, Array.size_modify] at hO
      exact ⟨some ⟨w1.heap.size, 0, none⟩, n.toNat, by rw [List.length_replicate], by rw [List.length_replicate]; exact hO, hB.alloc hB.size _⟩
  · have HR : Hid (diskNewRs n = [] ∧ diskNewP n = 0) := Lib.hid ⟨if_neg h, if_neg h⟩
    have hb : (decide (1 ≤ n) && decide (n ≤ 13)) = false := by
      rw [Bool.eq_false_iff]; simpa using h
    clear h
    go_enter Try.func31, Try.ntmps31
    go_wp2_with (go_at_call 65; refine (within_i _ _ _ _).use.mono ?_; rw [hb]; rintro e w1 ⟨rfl, hb1⟩; obtain ⟨hc1, hf1⟩ := bcell hb1; have hs1 : w.heap.size < w1.heap.size := by have := hb1.size; simp at this; omega)
    refine bodyPost_ret (v := .agg #[.slice none 0 0, .int .i64 0]) ?_ rfl ?_
    · simp [results, Try.results31, go_sem, hc1, hs1]
    · rw [HR.out.1, HR.out.2]
      exact ⟨none, 0, rfl, World.ownsRow_nil _ _ _ _, bset (bset (bthen (bnew _ _) hb1) (Nat.le_refl _) _) (Nat.le_refl _) _⟩
set_option maxRecDepth 100000 in
theorem diskNew_s (n : Int) (w : World) : Calls Try.prog 84 #[.int .i64 n] w fun e w' => NewDisk w e w' (diskNewRs n) (diskNewP n) := by
  by_cases h : 1 ≤ n ∧ n ≤ 13
  · obtain ⟨i0, hi, hz0, hz1, hz2⟩ := info_parts info_Region
    have HR : Hid (diskNewRs n = List.replicate n.toNat noReg ∧ diskNewP n = -1) := Lib.hid ⟨if_pos h, if_pos h⟩
    have hb : (decide (1 ≤ n) && decide (n ≤ 13)) = true := by simp [h]
    have hmk : ∀ u : World, (Instr.makeSlice 40 (.int .i64 n) (.int .i64 n)).run Try.prog u = .ok (.slice (some ⟨u.heap.size, 0, none⟩) n.toNat n.toNat) (u.alloc (.cells (madeCells #[.string ⟨#[]⟩, .string ⟨#[]⟩, .string ⟨#[]⟩] (n.toNat * 3)) 57)) := fun u => by
      have h := run_make (P := Try.prog) u 40 57 i0 _ Try.underlying40 hi hz0 .i64 .i64 n n (by omega) (Int.le_refl _) (by rw [hz2]; omega) (by omega)
      rw [hz1] at h
      exact h
    have h1 := h.1
    have h2 := h.2
    clear h
    go_enter Try.func84, Try.ntmps84
    go_wp2_with (go_at_call 68; refine (is_s _ _ _ _).use.mono ?_; rw [hb]; rintro e w1 ⟨rfl, hb1⟩; obtain ⟨hc1, hf1⟩ := bcell hb1; have hs1 : w.heap.size < w1.heap.size := by have := hb1.size; simp at this; omega)
    refine bodyPost_ret (v := .agg #[.slice (some ⟨w1.heap.size, 0, none⟩) n.toNat n.toNat, .int .i64 (-1)]) ?_ rfl ?_
    · simp [results, Try.results84, go_sem, hc1, hs1]
    · rw [HR.out.1, HR.out.2]
      have hB : Below w.heap.size w ((w1.setCell ⟨w.heap.size, 0, none⟩ (.slice (some ⟨w1.heap.size, 0, none⟩) n.toNat n.toNat)).setCell ⟨w.heap.size, 1, none⟩ (.int .i64 (-1))) :=
        bset (bset (bthen (bnew _ _) hb1) (Nat.le_refl _) _) (Nat.le_refl _) _
      have hO := World.ownsRow_lit (base := w.heap.size) (e := 57) (size := 3) ((w1.setCell ⟨w.heap.size, 0, none⟩ (.slice (some ⟨w1.heap.size, 0, none⟩) n.toNat n.toNat)).setCell ⟨w.heap.size, 1, none⟩ (.int .i64 (-1)))
        (madeCells #[.string ⟨#[]⟩, .string ⟨#[]⟩, .string ⟨#[]⟩] (n.toNat * 3)) n.toNat hB.size (by unfold maxLen; omega) (size_madeCells _ _)
      rw [made_regs] at hO
      simp only [World.setCell, Array.size_modify] at hO
      exact ⟨some ⟨w1.heap.size, 0, none⟩, n.toNat, by rw [List.length_replicate], by rw [List.length_replicate]; exact hO, hB.alloc hB.size _⟩
  · have HR : Hid (diskNewRs n = [] ∧ diskNewP n = 0) := Lib.hid ⟨if_neg h, if_neg h⟩
    have hb : (decide (1 ≤ n) && decide (n ≤ 13)) = false := by
      rw [Bool.eq_false_iff]; simpa using h
    clear h
    go_enter Try.func84, Try.ntmps84
    go_wp2_with (go_at_call 68; refine (is_s _ _ _ _).use.mono ?_; rw [hb]; rintro e w1 ⟨rfl, hb1⟩; obtain ⟨hc1, hf1⟩ := bcell hb1; have hs1 : w.heap.size < w1.heap.size := by have := hb1.size; simp at this; omega)
    refine bodyPost_ret (v := .agg #[.slice none 0 0, .int .i64 0]) ?_ rfl ?_
    · simp [results, Try.results84, go_sem, hc1, hs1]
    · rw [HR.out.1, HR.out.2]
      exact ⟨none, 0, rfl, World.ownsRow_nil _ _ _ _, bset (bset (bthen (bnew _ _) hb1) (Nat.le_refl _) _) (Nat.le_refl _) _⟩

end Go.Proofs.Ytnehiflandjkoaa
