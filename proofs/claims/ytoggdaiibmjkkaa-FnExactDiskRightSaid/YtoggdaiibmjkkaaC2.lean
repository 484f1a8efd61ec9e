import Derived.Test.YtoggdaiibmjkkaaC1
import Derived.Deep.AppendLies
namespace Go.Proofs.Ytoggdaiibmjkkaa
open Go.RowKit M

theorem info_Region : (Try.prog.info? 67).map (fun i => (i.zero, i.size, i.bytes)) = some (some (.agg #[.string ⟨#[]⟩, .string ⟨#[]⟩, .string ⟨#[]⟩]), 3, 48) := by kernel_rfl

/-- a new disk: its regions lie in memory that the call made -/
def NewDisk (w : World) (e : Ending) (w' : World) (rs : List Reg) (p : Int) : Prop :=
  ∃ A cap, e = .returned (.agg #[.slice A rs.length cap, .int .i64 p]) ∧ w'.ownsRow w.heap.size 67 3 (.slice A rs.length cap) rs.length (flat encReg rs) ∧ Below w.heap.size w w'

def noReg : Reg := (⟨#[]⟩, ⟨#[]⟩, ⟨#[]⟩)
theorem made_regs (n : Nat) : (madeCells #[.string ⟨#[]⟩, .string ⟨#[]⟩, .string ⟨#[]⟩] (n * 3)).toList = flat encReg (List.replicate n noReg) := by
  apply List.ext_getElem?
  intro j
  by_cases hj : j < n * 3
  · have h2 := flat_get encReg_len (List.replicate n noReg) (j / 3) (j % 3) noReg (by rw [List.getElem?_replicate, if_pos (by omega)]) (by omega)
    rw [show j / 3 * 3 + j % 3 = j by omega] at h2
    rw [h2]
    have h3 : j % 3 < 3 := by omega
    simp only [madeCells, Array.getElem?_toList, Array.getElem?_map, Array.getElem?_range, hj, if_pos, Option.map_some]
    rw [show (#[Value.string ⟨#[]⟩, Value.string ⟨#[]⟩, Value.string ⟨#[]⟩] : Array Value).size = 3 from rfl]
    generalize j % 3 = m at h3
    match m, h3 with
    | 0, _ => rfl
    | 1, _ => rfl
    | 2, _ => rfl
  · rw [List.getElem?_eq_none (by rw [Array.length_toList, size_madeCells]; omega), List.getElem?_eq_none (by rw [flat_length encReg_len]; simp; omega)]

def diskNewRs (n : Int) : List Reg := if 1 ≤ n ∧ n ≤ 13 then List.replicate n.toNat noReg else []
def diskNewP (n : Int) : Int := if 1 ≤ n ∧ n ≤ 13 then -1 else 0

set_option maxRecDepth 100000 in
theorem diskNew_i (n : Int) (w : World) : Calls Try.prog 10 #[.int .i64 n] w fun e w' => NewDisk w e w' (diskNewRs n) (diskNewP n) := by
  by_cases h : 1 ≤ n ∧ n ≤ 13
  · obtain ⟨i0, hi, hz0, hz1, hz2⟩ := info_parts info_Region
    have HR : Hid (diskNewRs n = List.replicate n.toNat noReg ∧ diskNewP n = -1) := Lib.hid ⟨if_pos h, if_pos h⟩
    have hb : (decide (1 ≤ n) && decide (n ≤ 13)) = true := by simp [h]
    have hmk : ∀ u : World, (Instr.makeSlice 22 (.int .i64 n) (.int .i64 n)).run Try.prog u = .ok (.slice (some ⟨u.heap.size, 0, none⟩) n.toNat n.toNat) (u.alloc (.cells (madeCells #[.string ⟨#[]⟩, .string ⟨#[]⟩, .string ⟨#[]⟩] (n.toNat * 3)) 67)) := fun u => by
      have h := run_make (P := Try.prog) u 22 67 i0 _ Try.underlying22 hi hz0 .i64 .i64 n n (by omega) (Int.le_refl _) (by rw [hz2]; omega) (by omega)
      rw [hz1] at h
      exact h
    have h1 := h.1
    have h2 := h.2
    clear h
    go_enter Try.func10, Try.ntmps10
    go_wp2_with (go_at_call 32; refine (within_i _ _ _ _).use.mono ?_; rw [hb]; rintro e w1 ⟨rfl, hb1⟩; obtain ⟨hc1, hf1⟩ := bcell hb1; have hs1 : w.heap.size < w1.heap.size := by have := hb1.size; simp at this; omega)
    refine bodyPost_ret (v := .agg #[.slice (some ⟨w1.heap.size, 0, none⟩) n.toNat n.toNat, .int .i64 (-1)]) ?_ rfl ?_
    · simp [results, Try.results10, go_sem, hc1, hs1]
    · rw [HR.out.1, HR.out.2]
      have hB : Below w.heap.size w ((w1.setCell ⟨w.heap.size, 0, none⟩ (.slice (some ⟨w1.heap.size, 0, none⟩) n.toNat n.toNat)).setCell ⟨w.heap.size, 1, none⟩ (.int .i64 (-1))) :=
        bset (bset (bthen (bnew _ _) hb1) (Nat.le_refl _) _) (Nat.le_refl _) _
      have hO := World.ownsRow_lit (base := w.heap.size) (e := 67) (size := 3) ((w1.setCell ⟨w.heap.size, 0, none⟩ (.slice (some ⟨w1.heap.size, 0, none⟩) n.toNat n.toNat)).setCell ⟨w.heap.size, 1, none⟩ (.int .i64 (-1)))
        (madeCells #[.string ⟨#[]⟩, .string ⟨#[]⟩, .string ⟨#[]⟩] (n.toNat * 3)) n.toNat hB.size (by unfold maxLen; omega) (size_madeCells _ _)
      rw [made_regs] at hO
      simp only [World.setCell, Array.size_modify] at hO
      exact ⟨some ⟨w1.heap.size, 0, none⟩, n.toNat, by rw [List.length_replicate], by rw [List.length_replicate]; exact hO, hB.alloc hB.size _⟩
  · have HR : Hid (diskNewRs n = [] ∧ diskNewP n = 0) := Lib.hid ⟨if_neg h, if_neg h⟩
    have hb : (decide (1 ≤ n) && decide (n ≤ 13)) = false := by
      rw [Bool.eq_false_iff]; simpa using h
    clear h
    go_enter Try.func10, Try.ntmps10
    go_wp2_with (go_at_call 32; refine (within_i _ _ _ _).use.mono ?_; rw [hb]; rintro e w1 ⟨rfl, hb1⟩; obtain ⟨hc1, hf1⟩ := bcell hb1; have hs1 : w.heap.size < w1.heap.size := by have := hb1.size; simp at this; omega)
    refine bodyPost_ret (v := .agg #[.slice none 0 0, .int .i64 0]) ?_ rfl ?_
    · simp [results, Try.results10, go_sem, hc1, hs1]
    · rw [HR.out.1, HR.out.2]
      exact ⟨none, 0, rfl, World.ownsRow_nil _ _ _ _, bset (bset (bthen (bnew _ _) hb1) (Nat.le_refl _) _) (Nat.le_refl _) _⟩
set_option maxRecDepth 100000 in
theorem diskNew_s (n : Int) (w : World) : Calls Try.prog 9 #[.int .i64 n] w fun e w' => NewDisk w e w' (diskNewRs n) (diskNewP n) := by
  by_cases h : 1 ≤ n ∧ n ≤ 13
  · obtain ⟨i0, hi, hz0, hz1, hz2⟩ := info_parts info_Region
    have HR : Hid (diskNewRs n = List.replicate n.toNat noReg ∧ diskNewP n = -1) := Lib.hid ⟨if_pos h, if_pos h⟩
    have hb : (decide (1 ≤ n) && decide (n ≤ 13)) = true := by simp [h]
    have hmk : ∀ u : World, (Instr.makeSlice 22 (.int .i64 n) (.int .i64 n)).run Try.prog u = .ok (.slice (some ⟨u.heap.size, 0, none⟩) n.toNat n.toNat) (u.alloc (.cells (madeCells #[.string ⟨#[]⟩, .string ⟨#[]⟩, .string ⟨#[]⟩] (n.toNat * 3)) 67)) := fun u => by
      have h := run_make (P := Try.prog) u 22 67 i0 _ Try.underlying22 hi hz0 .i64 .i64 n n (by omega) (Int.le_refl _) (by rw [hz2]; omega) (by omega)
      rw [hz1] at h
      exact h
    have h1 := h.1
    have h2 := h.2
    clear h
    go_enter Try.func9, Try.ntmps9
    go_wp2_with (go_at_call 31; refine (is_s _ _ _ _).use.mono ?_; rw [hb]; rintro e w1 ⟨rfl, hb1⟩; obtain ⟨hc1, hf1⟩ := bcell hb1; have hs1 : w.heap.size < w1.heap.size := by have := hb1.size; simp at this; omega)
    refine bodyPost_ret (v := .agg #[.slice (some ⟨w1.heap.size, 0, none⟩) n.toNat n.toNat, .int .i64 (-1)]) ?_ rfl ?_
    · simp [results, Try.results9, go_sem, hc1, hs1]
    · rw [HR.out.1, HR.out.2]
      have hB : Below w.heap.size w ((w1.setCell ⟨w.heap.size, 0, none⟩ (.slice (some ⟨w1.heap.size, 0, none⟩) n.toNat n.toNat)).setCell ⟨w.heap.size, 1, none⟩ (.int .i64 (-1))) :=
        bset (bset (bthen (bnew _ _) hb1) (Nat.le_refl _) _) (Nat.le_refl _) _
      have hO := World.ownsRow_lit (base := w.heap.size) (e := 67) (size := 3) ((w1.setCell ⟨w.heap.size, 0, none⟩ (.slice (some ⟨w1.heap.size, 0, none⟩) n.toNat n.toNat)).setCell ⟨w.heap.size, 1, none⟩ (.int .i64 (-1)))
        (madeCells #[.string ⟨#[]⟩, .string ⟨#[]⟩, .string ⟨#[]⟩] (n.toNat * 3)) n.toNat hB.size (by unfold maxLen; omega) (size_madeCells _ _)
      rw [made_regs] at hO
      simp only [World.setCell, Array.size_modify] at hO
      exact ⟨some ⟨w1.heap.size, 0, none⟩, n.toNat, by rw [List.length_replicate], by rw [List.length_replicate]; exact hO, hB.alloc hB.size _⟩
  · have HR : Hid (diskNewRs n = [] ∧ diskNewP n = 0) := Lib.hid ⟨if_neg h, if_neg h⟩
    have hb : (decide (1 ≤ n) && decide (n ≤ 13)) = false := by
      rw [Bool.eq_false_iff]; simpa using h
    clear h
    go_enter Try.func9, Try.ntmps9
    go_wp2_with (go_at_call 31; refine (is_s _ _ _ _).use.mono ?_; rw [hb]; rintro e w1 ⟨rfl, hb1⟩; obtain ⟨hc1, hf1⟩ := bcell hb1; have hs1 : w.heap.size < w1.heap.size := by have := hb1.size; simp at this; omega)
    refine bodyPost_ret (v := .agg #[.slice none 0 0, .int .i64 0]) ?_ rfl ?_
    · simp [results, Try.results9, go_sem, hc1, hs1]
    · rw [HR.out.1, HR.out.2]
      exact ⟨none, 0, rfl, World.ownsRow_nil _ _ _ _, bset (bset (bthen (bnew _ _) hb1) (Nat.le_refl _) _) (Nat.le_refl _) _⟩

set_option maxHeartbeats 1000000 in
theorem law_DiskNew (n : Int) (w : World) : Gives Try.prog 3 #[.int .i64 n] w (.bool true) := by
  unfold Gives
  have hl : (diskNewRs n).length ≤ 13 := by unfold diskNewRs; split <;> simp; omega
  have hi := fun W => diskNew_i n W
  have hs := fun W => diskNew_s n W
  generalize diskNewRs n = rs at *
  generalize diskNewP n = p at *
  have HI := Lib.hid hi
  have HS := Lib.hid hs
  clear hi hs
  go_enter Try.func3, Try.ntmps3
  go_wp2_with fail
  refine (HS.out _).mono ?_
  rintro e w1 ⟨A1, c1, rfl, ho1, hb1⟩
  have OW := Lib.hid ho1
  clear ho1
  go_wp2_with fail
  refine (HI.out _).mono ?_
  rintro e w2 ⟨A2, c2, rfl, ho2, hb2⟩
  have OG := Lib.hid ho2
  clear ho2
  have N1 : Hid (∀ k, (Value.slice A1 rs.length c1).ownBlock = some k → k < w1.heap.size) := Lib.hid fun k hk => (OW.out.lt k hk).2
  have N2 : Hid (∀ k, (Value.slice A2 rs.length c2).ownBlock = some k → w1.heap.size + 1 ≤ k ∧ k < w2.heap.size) := Lib.hid fun k hk => by have := OG.out.lt k hk; simpa using this
  have OW2 : Hid (w2.ownsRow w.heap.size 67 3 (.slice A1 rs.length c1) rs.length (flat encReg rs)) := Lib.hid (own_keep (OW.out.alloc _) hb2)
  obtain ⟨hc2, hf2⟩ := bcell hb2
  have hs2 : w1.heap.size < w2.heap.size := by have := hb2.size; simp at this; omega
  have hb2' := bthen hb1 (bthen (bnew _ _) hb2)
  have a0 : w2.cell? ⟨w1.heap.size, 0, none⟩ = some (.slice A1 rs.length c1) := by rw [hc2 _ _ (by simp)]; simp [World.cell?_alloc_new]
  have a1 : w2.cell? ⟨w1.heap.size, 1, none⟩ = some (.int .i64 p) := by rw [hc2 _ _ (by simp)]; simp [World.cell?_alloc_new]
  have hB2 : w.heap.size ≤ w1.heap.size := hb1.size
  clear hc2 hf2 hb2 hb1 OW
  -- the two are equal
  go_wp2_with fail
  refine (eqDisk_same _ _ rs p _ (Rd.of_own (OG.out.alloc _)) (Rd.of_own (OW2.out.alloc _))).use.mono ?_
  rintro e w3 ⟨rfl, hb3⟩
  have OG3 : Hid (w3.ownsRow (w1.heap.size + 1) 67 3 (.slice A2 rs.length c2) rs.length (flat encReg rs)) := by
    have h := own_keep (OG.out.alloc _) hb3
    simp only [World.size_alloc] at h
    exact Lib.hid h
  have OW3 : Hid (w3.ownsRow w.heap.size 67 3 (.slice A1 rs.length c1) rs.length (flat encReg rs)) := Lib.hid (own_keep (OW2.out.alloc _) hb3)
  obtain ⟨hc3, hf3⟩ := bcell hb3
  have hs3 : w2.heap.size < w3.heap.size := by have := hb3.size; simp at this; omega
  have hb3' := bthen hb2' (bthen (bnew _ _) hb3)
  have b0 : w3.cell? ⟨w1.heap.size, 0, none⟩ = some (.slice A1 rs.length c1) := by rw [hc3 _ _ (by simp; omega), World.cell?_alloc_lt _ _ _ hs2]; exact a0
  have b1 : w3.cell? ⟨w1.heap.size, 1, none⟩ = some (.int .i64 p) := by rw [hc3 _ _ (by simp; omega), World.cell?_alloc_lt _ _ _ hs2]; exact a1
  have b2 : w3.cell? ⟨w2.heap.size, 0, none⟩ = some (.slice A2 rs.length c2) := by rw [hc3 _ _ (by simp)]; simp [World.cell?_alloc_new]
  have b3 : w3.cell? ⟨w2.heap.size, 1, none⟩ = some (.int .i64 p) := by rw [hc3 _ _ (by simp)]; simp [World.cell?_alloc_new]
  clear hc3 hf3 hb3 a0 a1 OG OW2 hb2'
  -- mark
  go_wp2_with fail
  refine (markDisk_l _ _ _ _ _ 1 _ OG3.out (by omega)).mono ?_
  rintro e w4 ⟨rfl, ho4, hg4⟩
  have OG4 := Lib.hid ho4
  have OW4 : Hid (w4.ownsRow w.heap.size 67 3 (.slice A1 rs.length c1) rs.length (flat encReg rs)) := Lib.hid (OW3.out.kept hg4 (own_ne N1.out fun k hk => by have := N2.out k hk; omega))
  have n1 : some w1.heap.size ≠ (Value.slice A2 rs.length c2).ownBlock := fun h => by have := N2.out _ h.symm; omega
  have n2 : some w2.heap.size ≠ (Value.slice A2 rs.length c2).ownBlock := fun h => by have := N2.out _ h.symm; omega
  have d0 : w4.cell? ⟨w1.heap.size, 0, none⟩ = some (.slice A1 rs.length c1) := hg4.cell b0 n1
  have d1 : w4.cell? ⟨w1.heap.size, 1, none⟩ = some (.int .i64 p) := hg4.cell b1 n1
  have d2 : w4.cell? ⟨w2.heap.size, 0, none⟩ = some (.slice A2 rs.length c2) := hg4.cell b2 n2
  have d3 : w4.cell? ⟨w2.heap.size, 1, none⟩ = some (.int .i64 p) := hg4.cell b3 n2
  have hs4 : w2.heap.size < w4.heap.size := Nat.lt_of_lt_of_le hs3 hg4.size
  have hb4 : Below w.heap.size w w4 := hb3'.grown hg4 hb3'.size fun k hk => by have := N2.out k hk; omega
  clear ho4 hg4 n1 n2 OG3 OW3 hb3' b0 b1 b2 b3 hs3 N1 N2
  -- are the marks there?
  go_wp2_with fail
  refine (heldDisk_l _ _ _ _ 1 (Rd.of_own OG4.out) (by omega)).use.mono ?_
  rintro e w5 ⟨rfl, hb5⟩
  have OG5 : Hid _ := Lib.hid (own_keep OG4.out hb5)
  have OW5 : Hid _ := Lib.hid (own_keep OW4.out hb5)
  obtain ⟨hc5, hf5⟩ := bcell hb5
  have hs5 : w2.heap.size < w5.heap.size := Nat.lt_of_lt_of_le hs4 hb5.size
  have e0 : w5.cell? ⟨w1.heap.size, 0, none⟩ = some (.slice A1 rs.length c1) := (hc5 _ _ (by omega)).trans d0
  have e1 : w5.cell? ⟨w1.heap.size, 1, none⟩ = some (.int .i64 p) := (hc5 _ _ (by omega)).trans d1
  have e2 : w5.cell? ⟨w2.heap.size, 0, none⟩ = some (.slice A2 rs.length c2) := (hc5 _ _ (by omega)).trans d2
  have e3 : w5.cell? ⟨w2.heap.size, 1, none⟩ = some (.int .i64 p) := (hc5 _ _ (by omega)).trans d3
  have hb5' := bthen hb4 hb5
  clear hc5 hf5 hb5 d0 d1 d2 d3 OG4 OW4 hb4 hs4
  go_wp2_with fail
  refine (HI.out _).mono ?_
  rintro e w6 ⟨A3, c3, rfl, ho6, hb6⟩
  have OH := Lib.hid ho6
  have OG6 : Hid _ := Lib.hid (own_keep OG5.out hb6)
  have OW6 : Hid _ := Lib.hid (own_keep OW5.out hb6)
  obtain ⟨hc6, hf6⟩ := bcell hb6
  have hs6 : w2.heap.size < w6.heap.size := Nat.lt_of_lt_of_le hs5 hb6.size
  have hs6' : w1.heap.size < w6.heap.size := by omega
  have f0 : w6.cell? ⟨w1.heap.size, 0, none⟩ = some (.slice A1 rs.length c1) := (hc6 _ _ (by omega)).trans e0
  have f1 : w6.cell? ⟨w1.heap.size, 1, none⟩ = some (.int .i64 p) := (hc6 _ _ (by omega)).trans e1
  have f2 : w6.cell? ⟨w2.heap.size, 0, none⟩ = some (.slice A2 rs.length c2) := (hc6 _ _ (by omega)).trans e2
  have f3 : w6.cell? ⟨w2.heap.size, 1, none⟩ = some (.int .i64 p) := (hc6 _ _ (by omega)).trans e3
  have hb6' := bthen hb5' hb6
  clear hc6 hf6 hb6 e0 e1 e2 e3 OG5 OW5 hb5' hs5 ho6
  go_wp2_with fail
  refine (eqDisk_same _ _ rs p _ (Rd.of_own (OH.out.alloc _)) (Rd.of_own (OW6.out.alloc _))).use.mono ?_
  rintro e w7 ⟨rfl, hb7⟩
  have OG7 : Hid _ := Lib.hid (own_keep (OG6.out.alloc _) hb7)
  obtain ⟨hc7, hf7⟩ := bcell hb7
  have g2 : w7.cell? ⟨w2.heap.size, 0, none⟩ = some (.slice A2 rs.length c2) := by rw [hc7 _ _ (by simp; omega), World.cell?_alloc_lt _ _ _ hs6]; exact f2
  have g3 : w7.cell? ⟨w2.heap.size, 1, none⟩ = some (.int .i64 p) := by rw [hc7 _ _ (by simp; omega), World.cell?_alloc_lt _ _ _ hs6]; exact f3
  have hb7' := bthen hb6' (bthen (bnew _ _) hb7)
  clear hc7 hf7 hb7 f0 f1 f2 f3 OG6 OW6 OH hb6' hs6
  go_wp2_with fail
  refine (heldDisk_l _ _ _ _ 1 (Rd.of_own OG7.out) (by omega)).use.mono ?_
  rintro e w8 ⟨rfl, hb8⟩
  go_wp2_with fail
  go_ret
  exact ⟨rfl, bthen hb7' hb8⟩
end Go.Proofs.Ytoggdaiibmjkkaa
