/-
  Labels sought in lists; chains of labels: the walks.
-/
import Derived.Test.YtpfdhfchgnnpiaaGreatGA
set_option linter.unusedSimpArgs false
set_option linter.unusedVariables false
namespace Go.Proofs.YtpfdhfchgnnpiaaGreat
open Go.RowKit M
namespace M
def eqB (a b : Lab) : Bool := decide (a.1 = b.1) && decide (a.2 = b.2)
theorem eqB_iff {a b : Lab} : eqB a b = true ↔ a = b := by
  obtain ⟨a1, a2⟩ := a; obtain ⟨b1, b2⟩ := b
  simp [eqB]
theorem eqB_decide (a b : Lab) : eqB a b = decide (a = b) := by
  by_cases h : a = b
  · rw [eqB_iff.2 h]; simp [h]
  · rw [Bool.eq_false_iff.2 (fun e => h (eqB_iff.1 e))]; simp [h]
end M
section
variable {R : Nat → Prop} {w0 w : World} {L : List Hl} {a : Act} {ops : Array Oper} {Q : Exit → Act → World → Prop} {rest : List Oper} {dst : Option Tmp} {ty : TypeId} {x y : Operand} {pos : String} {aft : Array Edge} {gd : Option (Nat × Bool)} {K : List Hl} {a1 a2 b1 b2 : Int}
set_option maxRecDepth 100000 in
theorem q_eqLab (hx : a.eval x = .agg #[.int .i64 a1, .int .i64 a2]) (hy : a.eval y = .agg #[.int .i64 b1, .int .i64 b2]) :
    QOk Tryz.prog ⟨dst, .binOp .eql 66 x y 66, ty, pos, aft, gd⟩ a w (.bool (eqB (a1, a2) (b1, b2))) := by
  unfold QOk execOp
  simp only [hx, hy]
  go_simp
  unfold eqB
  by_cases h1 : a1 = b1 <;> by_cases h2 : a2 = b2 <;> simp [h1, h2, qUpon]
set_option maxRecDepth 100000 in
theorem q_neLab (hx : a.eval x = .agg #[.int .i64 a1, .int .i64 a2]) (hy : a.eval y = .agg #[.int .i64 b1, .int .i64 b2]) :
    QOk Tryz.prog ⟨dst, .binOp .neq 66 x y 66, ty, pos, aft, gd⟩ a w (.bool (!eqB (a1, a2) (b1, b2))) := by
  unfold QOk execOp
  simp only [hx, hy]
  go_simp
  unfold eqB
  by_cases h1 : a1 = b1 <;> by_cases h2 : a2 = b2 <;> simp [h1, h2, qUpon]
set_option maxRecDepth 100000 in
theorem ok_eqLab (hx : a.eval x = .agg #[.int .i64 a1, .int .i64 a2]) (hy : a.eval y = .agg #[.int .i64 b1, .int .i64 b2]) :
    OpOk Tryz.prog K ⟨dst, .binOp .eql 66 x y 66, ty, pos, aft, gd⟩ a w (tV (.bool (eqB (a1, a2) (b1, b2)))) := by
  unfold OpOk execOp
  simp only [hx, hy]
  go_simp
  unfold eqB
  by_cases h1 : a1 = b1 <;> by_cases h2 : a2 = b2 <;> simp only [h1, h2, if_true, if_false, decide_true, decide_false, Bool.and_self, Bool.and_true, Bool.and_false, Bool.true_and, Bool.false_and, Bool.not_true, Bool.not_false] <;> exact now_v
set_option maxRecDepth 100000 in
theorem ok_neLab (hx : a.eval x = .agg #[.int .i64 a1, .int .i64 a2]) (hy : a.eval y = .agg #[.int .i64 b1, .int .i64 b2]) :
    OpOk Tryz.prog K ⟨dst, .binOp .neq 66 x y 66, ty, pos, aft, gd⟩ a w (tV (.bool (!eqB (a1, a2) (b1, b2)))) := by
  unfold OpOk execOp
  simp only [hx, hy]
  go_simp
  unfold eqB
  by_cases h1 : a1 = b1 <;> by_cases h2 : a2 = b2 <;> simp only [h1, h2, if_true, if_false, decide_true, decide_false, Bool.and_self, Bool.and_true, Bool.and_false, Bool.true_and, Bool.false_and, Bool.not_true, Bool.not_false] <;> exact now_v
theorem st_eqLab (H : Hs R w0 L w) (hx : a.eval x = .agg #[.int .i64 a1, .int .i64 a2]) (hy : a.eval y = .agg #[.int .i64 b1, .int .i64 b2])
    (k : ∀ w', Hs R w0 L w' → wpList Tryz.prog ops Q rest (a.put dst (.bool (eqB (a1, a2) (b1, b2)))) w') : wpList Tryz.prog ops Q (⟨dst, .binOp .eql 66 x y 66, ty, pos, aft, none⟩ :: rest) a w :=
  st_v H rfl (ok_eqLab hx hy) k
theorem st_neLab (H : Hs R w0 L w) (hx : a.eval x = .agg #[.int .i64 a1, .int .i64 a2]) (hy : a.eval y = .agg #[.int .i64 b1, .int .i64 b2])
    (k : ∀ w', Hs R w0 L w' → wpList Tryz.prog ops Q rest (a.put dst (.bool (!eqB (a1, a2) (b1, b2)))) w') : wpList Tryz.prog ops Q (⟨dst, .binOp .neq 66 x y 66, ty, pos, aft, none⟩ :: rest) a w :=
  st_v H rfl (ok_neLab hx hy) k
end
section
variable {R : Nat → Prop} {w0 w : World} {L : List Hl} {a : Act} {ops : Array Oper} {Q : Exit → Act → World → Prop} {rest : List Oper} {dst : Option Tmp} {ty : TypeId} {x y : Operand} {pos : String} {aft : Array Edge} {gd : Option (Nat × Bool)} {K : List Hl} {a1 a2 b1 b2 : Int} {z : Bool}
/-- .. where the answer is known -/
theorem q_eqLabz (hx : a.eval x = .agg #[.int .i64 a1, .int .i64 a2]) (hy : a.eval y = .agg #[.int .i64 b1, .int .i64 b2]) (hz : eqB (a1, a2) (b1, b2) = z) : QOk Tryz.prog ⟨dst, .binOp .eql 66 x y 66, ty, pos, aft, gd⟩ a w (.bool z) := hz ▸ q_eqLab hx hy
theorem q_neLabz (hx : a.eval x = .agg #[.int .i64 a1, .int .i64 a2]) (hy : a.eval y = .agg #[.int .i64 b1, .int .i64 b2]) (hz : eqB (a1, a2) (b1, b2) = z) : QOk Tryz.prog ⟨dst, .binOp .neq 66 x y 66, ty, pos, aft, gd⟩ a w (.bool (!z)) := hz ▸ q_neLab hx hy
theorem st_eqLabz (H : Hs R w0 L w) (hx : a.eval x = .agg #[.int .i64 a1, .int .i64 a2]) (hy : a.eval y = .agg #[.int .i64 b1, .int .i64 b2]) (hz : eqB (a1, a2) (b1, b2) = z)
    (k : ∀ w', Hs R w0 L w' → wpList Tryz.prog ops Q rest (a.put dst (.bool z)) w') : wpList Tryz.prog ops Q (⟨dst, .binOp .eql 66 x y 66, ty, pos, aft, none⟩ :: rest) a w :=
  st_eqLab H hx hy (hz.symm ▸ k)
theorem st_neLabz (H : Hs R w0 L w) (hx : a.eval x = .agg #[.int .i64 a1, .int .i64 a2]) (hy : a.eval y = .agg #[.int .i64 b1, .int .i64 b2]) (hz : eqB (a1, a2) (b1, b2) = z)
    (k : ∀ w', Hs R w0 L w' → wpList Tryz.prog ops Q rest (a.put dst (.bool (!z))) w') : wpList Tryz.prog ops Q (⟨dst, .binOp .neq 66 x y 66, ty, pos, aft, none⟩ :: rest) a w :=
  st_neLab H hx hy (hz.symm ▸ k)
end
theorem qEF {P : Prop} (h : P := by first | ((with_reducible apply q_eqLabz); (focus rfl); (focus rfl); (focus assumption)) | ((with_reducible apply q_neLabz); (focus rfl); (focus rfl); (focus assumption)) | ((first | (with_reducible apply q_eqLab) | (with_reducible apply q_neLab)); (focus rfl); (focus rfl))) : P := h
/-! ### guards of a region that draws its order -/
def Want (p : Prop) : Prop := p
def Skp (p : Prop) : Prop := p
theorem hq_guard {P : Program} {ops : Array Oper} {R : Nat → Prop} {w0 : World} {L : List Hl} {Q : Act → Prop} {rest : List Oper} {a : Act} {dst : Option Tmp} {ty : TypeId} {pos : String} {aft : Array Edge} {op : Op} {j : Nat} {b b' : Bool}
    (hy : yielded ops a.tmps j = some b') (k1 : Want (b' = b) → wpQuiet P ops (Hs R w0 L) Q (⟨dst, op, ty, pos, aft, none⟩ :: rest) a) (k0 : Skp (b' = (!b)) → wpQuiet P ops (Hs R w0 L) Q rest (a.put dst undef)) :
    wpQuiet P ops (Hs R w0 L) Q (⟨dst, op, ty, pos, aft, some (j, b)⟩ :: rest) a := by
  by_cases h : b' = b
  · have k := k1 h
    unfold wpQuiet at k ⊢
    rw [if_pos (by unfold Region.wanted; rfl)] at k
    rw [if_pos (by simp [Region.wanted, hy, h])]
    exact k
  · have h2 : b' = (!b) := by cases b <;> cases b' <;> simp_all
    refine hq_skip ?_ (k0 h2)
    simp [Region.wanted, hy, h2]
theorem hq_gwT {P : Program} {ops : Array Oper} {R : Nat → Prop} {w0 : World} {L : List Hl} {Q : Act → Prop} {rest : List Oper} {a : Act} {dst : Option Tmp} {ty : TypeId} {pos : String} {aft : Array Edge} {op : Op} {j : Nat}
    (hy : yielded ops a.tmps j = some true) (k1 : wpQuiet P ops (Hs R w0 L) Q (⟨dst, op, ty, pos, aft, none⟩ :: rest) a) : wpQuiet P ops (Hs R w0 L) Q (⟨dst, op, ty, pos, aft, some (j, true)⟩ :: rest) a :=
  hq_guard hy (fun _ => k1) (fun h => absurd h (by unfold Skp; simp))
theorem hq_gsT {P : Program} {ops : Array Oper} {R : Nat → Prop} {w0 : World} {L : List Hl} {Q : Act → Prop} {rest : List Oper} {a : Act} {dst : Option Tmp} {ty : TypeId} {pos : String} {aft : Array Edge} {op : Op} {j : Nat}
    (hy : yielded ops a.tmps j = some false) (k0 : wpQuiet P ops (Hs R w0 L) Q rest (a.put dst undef)) : wpQuiet P ops (Hs R w0 L) Q (⟨dst, op, ty, pos, aft, some (j, true)⟩ :: rest) a :=
  hq_guard hy (fun h => absurd h (by unfold Want; simp)) (fun _ => k0)
theorem st_gwT {P : Program} {ops : Array Oper} {w : World} {Q : Exit → Act → World → Prop} {rest : List Oper} {a : Act} {dst : Option Tmp} {ty : TypeId} {pos : String} {aft : Array Edge} {op : Op} {j : Nat}
    (hy : yielded ops a.tmps j = some true) (k1 : wpList P ops Q (⟨dst, op, ty, pos, aft, none⟩ :: rest) a w) : wpList P ops Q (⟨dst, op, ty, pos, aft, some (j, true)⟩ :: rest) a w :=
  st_guard hy (fun _ => k1) (fun h => absurd h (by simp))
theorem st_gsT {P : Program} {ops : Array Oper} {w : World} {Q : Exit → Act → World → Prop} {rest : List Oper} {a : Act} {dst : Option Tmp} {ty : TypeId} {pos : String} {aft : Array Edge} {op : Op} {j : Nat}
    (hy : yielded ops a.tmps j = some false) (k0 : wpList P ops Q rest (a.put dst undef) w) : wpList P ops Q (⟨dst, op, ty, pos, aft, some (j, true)⟩ :: rest) a w :=
  st_guard hy (fun h => absurd h (by simp)) (fun _ => k0)
theorem hq_gwF {P : Program} {ops : Array Oper} {R : Nat → Prop} {w0 : World} {L : List Hl} {Q : Act → Prop} {rest : List Oper} {a : Act} {dst : Option Tmp} {ty : TypeId} {pos : String} {aft : Array Edge} {op : Op} {j : Nat}
    (hy : yielded ops a.tmps j = some false) (k1 : wpQuiet P ops (Hs R w0 L) Q (⟨dst, op, ty, pos, aft, none⟩ :: rest) a) : wpQuiet P ops (Hs R w0 L) Q (⟨dst, op, ty, pos, aft, some (j, false)⟩ :: rest) a :=
  hq_guard hy (fun _ => k1) (fun h => absurd h (by unfold Skp; simp))
theorem hq_gsF {P : Program} {ops : Array Oper} {R : Nat → Prop} {w0 : World} {L : List Hl} {Q : Act → Prop} {rest : List Oper} {a : Act} {dst : Option Tmp} {ty : TypeId} {pos : String} {aft : Array Edge} {op : Op} {j : Nat}
    (hy : yielded ops a.tmps j = some true) (k0 : wpQuiet P ops (Hs R w0 L) Q rest (a.put dst undef)) : wpQuiet P ops (Hs R w0 L) Q (⟨dst, op, ty, pos, aft, some (j, false)⟩ :: rest) a :=
  hq_guard hy (fun h => absurd h (by unfold Want; simp)) (fun _ => k0)
theorem st_gwF {P : Program} {ops : Array Oper} {w : World} {Q : Exit → Act → World → Prop} {rest : List Oper} {a : Act} {dst : Option Tmp} {ty : TypeId} {pos : String} {aft : Array Edge} {op : Op} {j : Nat}
    (hy : yielded ops a.tmps j = some false) (k1 : wpList P ops Q (⟨dst, op, ty, pos, aft, none⟩ :: rest) a w) : wpList P ops Q (⟨dst, op, ty, pos, aft, some (j, false)⟩ :: rest) a w :=
  st_guard hy (fun _ => k1) (fun h => absurd h (by simp))
theorem st_gsF {P : Program} {ops : Array Oper} {w : World} {Q : Exit → Act → World → Prop} {rest : List Oper} {a : Act} {dst : Option Tmp} {ty : TypeId} {pos : String} {aft : Array Edge} {op : Op} {j : Nat}
    (hy : yielded ops a.tmps j = some true) (k0 : wpList P ops Q rest (a.put dst undef) w) : wpList P ops Q (⟨dst, op, ty, pos, aft, some (j, false)⟩ :: rest) a w :=
  st_guard hy (fun h => absurd h (by simp)) (fun _ => k0)
/-! ### a label in a list -/
namespace M
def hasL (l : List Lab) (a : Lab) : Bool := l.any fun b => eqB b a
theorem hasL_iff {l : List Lab} {a : Lab} : hasL l a = true ↔ a ∈ l := by
  unfold hasL
  rw [List.any_eq_true]
  constructor
  · rintro ⟨b, hb, e⟩
    rw [← eqB_iff.1 e]; exact hb
  · intro h
    exact ⟨a, h, eqB_iff.2 rfl⟩
theorem any_drop {α : Type} {p : α → Bool} {l : List α} {i : Nat} {a : α} (h : l[i]? = some a) : (l.drop i).any p = (p a || (l.drop (i + 1)).any p) := by
  obtain ⟨hlt, rfl⟩ := List.getElem?_eq_some_iff.1 h
  rw [List.drop_eq_getElem_cons hlt]
  rfl
theorem eqB_comm (a b : Lab) : eqB a b = eqB b a := by rw [eqB_decide, eqB_decide]; congr 1; exact propext ⟨Eq.symm, Eq.symm⟩
end M
set_option maxRecDepth 100000 in
set_option maxHeartbeats 4000000 in
theorem cleared_s (v : Value) (l : List Lab) (a : Lab) (w : World) (hr : (Ty.sl 66 tyLab).rd w [v] l) : Gives Tryz.prog 32 #[v, .agg #[.int .i64 a.1, .int .i64 a.2]] w (.bool (hasL l a)) := by
  obtain ⟨A, c, rfl, hlc, hcm⟩ := sl_form hr
  unfold maxLen at *
  have HR := Lib.hid hr
  have H := Hs.start noRow w
  obtain ⟨a1, a2⟩ := a
  obtain ⟨n, hn⟩ : ∃ n, n = l.length := ⟨_, rfl⟩
  have hnl : n ≤ 9223372036854775807 := by omega
  rw [← hn] at HR ⊢
  have HN := Lib.hid hn
  obtain ⟨z, hz⟩ : ∃ z, z = hasL l (a1, a2) := ⟨_, rfl⟩
  rw [← hz]
  have HZ := Lib.hid hz
  clear hr hn hlc hcm hz
  unfold Gives
  go_enter Tryz.func32, Tryz.ntmps32
  go_wp2_with (((((with_reducible apply st_box (dst := some 3) H); exact nF; intro b3)); clear H; intro wn H; simp only [Act.put, yA, yB, yC, yD, yE, yF]))
  go_loopg [4, 5] n (fun m _ iv wr => ∃ (i : Nat), i + m = n ∧ iv = .int .i64 i ∧ Hid (z = (l.drop i).any fun b => eqB b (a1, a2)) ∧ Hs noRow w [Hl.blk b3 66 #[.int .i64 a1, .int .i64 a2]] wr)
  case atStart => exact ⟨0, by omega, rfl, HZ, H⟩
  case round =>
    clear H
    obtain ⟨i, hi, rfl, HI, H⟩ := hrel
    by_cases hlt : i < n
    · obtain ⟨x, hx⟩ : ∃ x, l[i]? = some x := ⟨l[i]'(by rw [← HN.out]; exact hlt), List.getElem?_eq_getElem (by rw [← HN.out]; exact hlt)⟩
      have hs := sl_at (by have := HR.out; rw [HN.out] at this; exact this) hx
      rw [← HN.out] at hs
      obtain ⟨b, off, c', cs, hv, hcs, hA⟩ := hs
      injection hv with hv1 hv2 hv3
      subst hv1 hv3
      obtain rfl : cs = encLab x := hcs
      have hstep := HI.out
      rw [any_drop hx] at hstep
      have hlt1 : (i : Int) < n := by omega
      obtain ⟨x1, x2⟩ := x
      clear hx hv2 HI
      cases hpx : eqB (x1, x2) (a1, a2)
      · rw [hpx, Bool.false_or] at hstep
        have HI := Lib.hid hstep
        clear hstep
        unfold encLab at *
        go_wp2_with (((with_reducible apply wp_region_hq (id := 4) H); kernel_rfl; kernel_rfl; (iterate 6 (all_goals ((with_reducible refine' hq_step ?_ ?_ ?_); rotate_left; rfl; (focus (intro w1 H1; first | (first | exact qF | exact qAF) | (exact qEF) | (exact qVF))); (try simp only [yG, yH, yJ, yK]); simp only [Act.put, yA, yB, yC, yD, yE, yF]))); all_goals (refine wpQuiet_nil ?_; clear H; intro wn H)))
        go_roundg (n - (i + 1))
        case measure => omega
        case rel => exact ⟨i + 1, by omega, by go_num, HI, H⟩
      · rw [hpx, Bool.true_or] at hstep
        have HI := Lib.hid hstep
        clear hstep
        unfold encLab at *
        go_wp2_with (((with_reducible apply wp_region_hq (id := 4) H); kernel_rfl; kernel_rfl; (iterate 6 (all_goals ((with_reducible refine' hq_step ?_ ?_ ?_); rotate_left; rfl; (focus (intro w1 H1; first | (first | exact qF | exact qAF) | (exact qEF) | (exact qVF))); (try simp only [yG, yH, yJ, yK]); simp only [Act.put, yA, yB, yC, yD, yE, yF]))); all_goals (refine wpQuiet_nil ?_; clear H; intro wn H)))
        go_ret
        exact ⟨by rw [HI.out]; rfl, H.below⟩
    · obtain rfl : i = n := by omega
      have hlt1 : ¬ (i : Int) < i := by omega
      have hz : z = false := by rw [HI.out, List.drop_of_length_le (by rw [← HN.out]; exact Nat.le_refl _)]; rfl
      have HI2 := Lib.hid hz
      clear hz HI HZ
      go_wp2_with (fail)
      go_ret
      exact ⟨by rw [HI2.out]; rfl, H.below⟩
end Go.Proofs.YtpfdhfchgnnpiaaGreat
