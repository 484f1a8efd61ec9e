import Derived.Test.YtnehiflandjkoaaE3
set_option linter.unusedSimpArgs false
set_option linter.unusedVariables false
namespace Go.Proofs.Ytnehiflandjkoaa
open Go.RowKit M
namespace M
def trimLog (t : ByteArray) : ByteArray := t.extract 0 (logRead t.data.toList).2.1.toNat
def trimRs (rs : List Reg) (p r : Int) : List Reg := if stage rs p r = 0 then setLog rs r.toNat (trimLog (rs.getD r.toNat noReg).2.2) else illRs rs (stage rs p r)
end M
theorem reg_at {rs : List Reg} {k : Nat} (hk : k < rs.length) : ∃ x, rs[k]? = some x ∧ rs.getD k noReg = x ∧ x ∈ rs := by
  have h : rs[k]? = some rs[k] := List.getElem?_eq_getElem hk
  exact ⟨rs[k], h, by rw [List.getD_eq_getElem?_getD, h]; rfl, List.getElem_mem hk⟩
theorem reg_le {rs : List Reg} {p : Int} {x : Reg} (h : diskOk rs p = true) (hx : x ∈ rs) : x.1.size ≤ 3000 ∧ x.2.1.size ≤ 3000 ∧ x.2.2.size ≤ 3000 := by
  have h2 := diskOk_all (diskOk_len' h) (show (decide (-1 ≤ p) && decide (p ≤ 1000000)) = true by
    unfold diskOk at h; simp at h; simp; omega)
  rw [h] at h2
  have h3 := List.all_eq_true.1 h2.symm x hx
  unfold regOk at h3
  simp at h3
  omega
theorem field_size (A : Option Addr) (n c : Nat) (m c0 : Int) (w : World) : (Instr.field 35 (.agg #[.slice A n c, .int .i64 m, .int .i64 c0]) 1).run Try.prog w = .ok (.int .i64 m) w := by kernel_rfl
theorem field_frames (A : Option Addr) (n c : Nat) (m c0 : Int) (w : World) : (Instr.field 35 (.agg #[.slice A n c, .int .i64 m, .int .i64 c0]) 0).run Try.prog w = .ok (.slice A n c) w := by kernel_rfl
theorem trim_facts (s : ByteArray) (hs : s.size ≤ 3000) : ∃ (fs : List Frm) (m : Nat) (c : Int), logRead s.data.toList = (fs, (m : Int), c) ∧ m ≤ s.size ∧ trimLog s = s.extract 0 m := by
  have h := logRead_range s.data.toList
  rcases hx : logRead s.data.toList with ⟨fs, a, c⟩
  rw [hx] at h
  dsimp only at h
  obtain ⟨m, rfl⟩ := Int.eq_ofNat_of_zero_le h.1
  rw [size_data] at h
  exact ⟨fs, m, c, rfl, by omega, by unfold trimLog; rw [hx]; simp⟩

end Go.Proofs.Ytnehiflandjkoaa
