/-
  The laws of operations and steps: plain facts, and compares of texts and results.
-/
import Derived.Test.YtfblolkkajppcaaGreatDoorQS
import Derived.Test.YtfblolkkajppcaaGreatDoorT1
set_option linter.unusedSimpArgs false
set_option linter.unusedVariables false
namespace Go.Proofs.YtfblolkkajppcaaGreatDoor
open Go.RowKit M
namespace M
theorem asks_four (k : Int) : isIn k 8 11 = ((k == 8) || ((k == 9) || ((k == 10) || (k == 11)))) := by
  unfold isIn
  rw [Bool.eq_iff_iff]
  simp only [Bool.and_eq_true, decide_eq_true_eq, Bool.or_eq_true, beq_iff_eq]
  omega
/-- an accepted text is the text of its operation -/
theorem read_back {t : Bs} (h : (readI t).2 = 0) : (readI t).1.ok = true ∧ (readI t).1.text = t := by
  unfold readI at h ⊢
  by_cases hl : 8000 < t.length
  · rw [if_pos hl] at h; simp at h
  · rw [if_neg hl] at h ⊢
    by_cases hb : ((candI (cut [] t)).ok && (candI (cut [] t)).text == t) = true
    · rw [if_pos hb] at h ⊢
      simp only [Bool.and_eq_true, beq_iff_eq] at hb
      exact hb
    · rw [if_neg hb] at h; simp at h
theorem ok_ow {o : Opr} (h : o.ok = true) : o.ow.size ≤ 8000 := by
  have h1 := (opFacts h).o
  by_cases hk : o.k = 1
  · have := h1 hk
    omega
  · rw [(opMore h).ow0 hk]
    show 0 ≤ 8000
    omega
end M
theorem beq_self_b (a : ByteArray) : (a.toList != a.toList) = false := by simp
section
variable {a : Act} {w : World} {dst : Option Tmp} {ty : TypeId} {pos : String} {aft : Array Edge} {gd : Option (Nat × Bool)} {x y : Operand} {sy : Bool} {a1 a2 k n1 n2 n3 n4 m1 m2 af e : Int} {ow : ByteArray}
set_option maxRecDepth 100000 in
theorem q_neqO (hx : a.eval x = .agg #[.bool sy, .int .i64 a1, .int .i64 a2, .int .i64 k, .string ow, .int .i64 n1, .int .i64 n2, .int .i64 n3, .int .i64 n4, .int .i64 m1, .int .i64 m2, .int .i64 af, .int .i64 e]) (hy : a.eval y = .agg #[.bool sy, .int .i64 a1, .int .i64 a2, .int .i64 k, .string ow, .int .i64 n1, .int .i64 n2, .int .i64 n3, .int .i64 n4, .int .i64 m1, .int .i64 m2, .int .i64 af, .int .i64 e]) : QOk Tryz.prog ⟨dst, .binOp .neq 31 x y 31, ty, pos, aft, gd⟩ a w (.bool false) := by
  unfold QOk execOp
  simp only [hx, hy]
  go_simp
  exact q_v
set_option maxRecDepth 100000 in
theorem q_eqlO (hx : a.eval x = .agg #[.bool sy, .int .i64 a1, .int .i64 a2, .int .i64 k, .string ow, .int .i64 n1, .int .i64 n2, .int .i64 n3, .int .i64 n4, .int .i64 m1, .int .i64 m2, .int .i64 af, .int .i64 e]) (hy : a.eval y = .agg #[.bool sy, .int .i64 a1, .int .i64 a2, .int .i64 k, .string ow, .int .i64 n1, .int .i64 n2, .int .i64 n3, .int .i64 n4, .int .i64 m1, .int .i64 m2, .int .i64 af, .int .i64 e]) : QOk Tryz.prog ⟨dst, .binOp .eql 31 x y 31, ty, pos, aft, gd⟩ a w (.bool true) := by
  unfold QOk execOp
  simp only [hx, hy]
  go_simp
  exact q_v
set_option maxRecDepth 100000 in
theorem q_eqS {t : ByteArray} {b : Bool} (hb : t.toList.isEmpty = b) (hx : a.eval x = .string t) (hy : a.eval y = .string ⟨#[]⟩) : QOk Tryz.prog ⟨dst, .binOp .eql 9 x y 9, ty, pos, aft, gd⟩ a w (.bool b) := by
  subst hb
  unfold QOk execOp
  simp only [hx, hy]
  go_simp
  exact q_v
set_option maxRecDepth 100000 in
theorem q_build13 {v0 v1 v2 v3 v4 v5 v6 v7 v8 v9 v10 v11 : Value} (hx : a.eval x = .agg #[v0, v1, v2, v3, v4, v5, v6, v7, v8, v9, v10, v11]) : QOk Tryz.prog ⟨dst, .build 31 #[(0, x)], ty, pos, aft, gd⟩ a w (.agg #[v0, v1, v2, v3, v4, v5, v6, v7, v8, v9, v10, v11, .int .i64 0]) := by
  unfold QOk
  generalize a.eval = r at hx ⊢
  go_simp
  exact q_v
end
namespace M
theorem step_back {t : Bs} (h : (readStepI t).2 = 0) : (readStepI t).1.text = t ∧ (readStepI t).1.text ≠ [] := by
  unfold readStepI at h ⊢
  by_cases hl : 8000 < t.length
  · rw [if_pos hl] at h; simp at h
  · rw [if_neg hl] at h ⊢
    by_cases hb : ((stepI t).text == [] || (stepI t).text != t) = true
    · rw [if_pos hb] at h; simp at h
    · rw [if_neg hb]
      simp only [Bool.or_eq_true, beq_iff_eq, bne_iff_ne, ne_eq, not_or, Decidable.not_not] at hb
      exact ⟨hb.2, hb.1⟩
theorem stepText_len2 (s : Stp) : s.text.length ≤ 3000 := by
  unfold Stp.text
  have h1 := opText_len s.1.sys s.1.l1 s.1.l2 s.1.k s.1.ow s.1.a s.1.b s.1.c s.1.d s.1.m1 s.1.m2 s.1.af
  unfold stepText
  split
  · rename_i h
    simp only [Bool.and_eq_true] at h
    have hp := isIn_spec h.2
    split
    · omega
    · have hd := dec_len (n := s.2) ⟨by omega, by omega⟩
      simp only [List.length_append, List.length_cons, List.length_nil]
      omega
  · show 0 ≤ 3000
    omega
theorem step_read {s : Stp} (h : s.text ≠ []) : readStepI s.text = (s, 0) := by
  have h1 := (step_text h).1
  have h2 := stepText_len2 s
  unfold readStepI
  rw [if_neg (by omega), h1, if_neg (by simp [h])]
end M
end Go.Proofs.YtfblolkkajppcaaGreatDoor
