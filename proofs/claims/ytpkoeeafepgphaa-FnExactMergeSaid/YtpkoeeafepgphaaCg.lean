/-
  Room for rows; lists put one behind the other: the walks.
-/
import Derived.Test.YtpkoeeafepgphaaCf
set_option linter.unusedSimpArgs false
set_option linter.unusedVariables false
namespace Go.Proofs.Ytpkoeeafepgphaa
open Go.RowKit M
section
variable {P : Program} {w : World}
/-- append(nil, make([]E, n)...) -/
theorem run_append_zeros {t ty ti E : TypeId} {s n : Nat} {k : IntKind} (hT : appT P t E s = true) (hI : P.underlying ti = some (.int k)) (h0 : 0 < n) (hn : n ≤ 1000000000) :
    ∃ zs c w', (Builtin.append_ #[t, ti] ty #[.slice none 0 0, .int .i64 (n : Int)]).run P w = .ok (.slice (some ⟨w.heap.size, 0, none⟩) n c) w' ∧ n ≤ c ∧ w'.ownsRow 0 E s (.slice (some ⟨w.heap.size, 0, none⟩) n c) n zs ∧ Grow noRow w w' := by
  obtain ⟨i, z, ht, hi, hz, h2, h3, h4, h5⟩ := appT_spec hT
  subst h2
  have hw : IntKind.i64.wrap (n : Int) = n := wrap_id (by omega) (by omega)
  have hneg : ¬ ((n : Int) < 0) := by omega
  have hb := bytes_le hn h3
  have hmx : max (n : Int) 0 = n := by omega
  have hle : ¬ ((n : Int) ≤ 0) := by omega
  have hbig : ¬ ((281474976710656 : Int) < (n : Int) * (i.bytes : Int)) := by
    have : ((n * i.bytes : Nat) : Int) = (n : Int) * i.bytes := Int.natCast_mul ..
    omega
  have hn0 : n ≠ 0 := by omega
  have h63' : ¬ (9223372036854775807 < (n : Int)) := by omega
  have h48' : ¬ (281474976710656 < Builtin.nextslicecap n 0 * i.bytes) := by rw [nextslicecap_zero h0]; omega
  have hge := grownCap_ge w n 0 E
  have hcm : grownCap w n 0 E ≤ maxLen := grownCap_le_maxLen w n 0 E (by unfold maxLen; omega)
  have hns : ¬ (n * i.size = 0) := by have := Nat.mul_pos h0 h5; omega
  refine ⟨(Builtin.zeroCells z.cells n).toList, grownCap w n 0 E, w.drew.alloc (.cells (Builtin.zeroCells z.cells n ++ Builtin.zeroCells z.cells (grownCap w n 0 E - n)) E), ?_, hge, ⟨?_, .inr ⟨w.heap.size, _, _, rfl, Nat.zero_le _, heap_alloc_new w.drew _, hge, hcm, ?_, ?_⟩⟩, growN (((Below.refl _ w).drew).alloc (Nat.le_refl _) _)⟩
  · simp [Builtin.append_, run_underlying ht, run_underlying hI, sizeOf, typeInfo, zeroValue, hi, hz, hn0, h63', h48', Question.forced, Builtin.firstCells, newRow, grownCap, asInt, asIntOf, hw, hneg, hbig, hns, hmx, hle]
  · rw [Array.length_toList, size_zeroCells, h4]
  · rw [Array.size_append, size_zeroCells, size_zeroCells, h4, ← Nat.add_mul]
    congr 1
    omega
  · rw [Array.toList_append]
    have : (Builtin.zeroCells z.cells n).toList.length = n * i.size := by rw [Array.length_toList, size_zeroCells, h4]
    rw [← this]
    exact List.take_left
end
theorem st_grow0 {P : Program} {R : Nat → Prop} {w0 w : World} {L : List Hl} {a : Act} {ops : Array Oper} {Q : Exit → Act → World → Prop} {rest : List Oper} {dst : Option Tmp} {ty : TypeId} {pos : String} {aft : Array Edge}
    {xo yo : Operand} {t ti E : TypeId} {s n : Nat} (H : Hs R w0 L w) (hs : a.eval xo = .slice none 0 0) (hx : a.eval yo = .int .i64 (n : Int)) (hT : appT P t E s = true) (hI : P.underlying ti = some (.int .i64)) (h0 : 0 < n) (hn : n ≤ 1000000000)
    (k : ∀ g c zs w', n ≤ c → Hs R w0 (Hl.own E s (.slice (some ⟨g, 0, none⟩) n c) n zs :: L) w' → wpList P ops Q rest (a.put dst (.slice (some ⟨g, 0, none⟩) n c)) w') :
    wpList P ops Q (⟨dst, .call ⟨.builtin .append, #[xo, yo], #[t, ti]⟩, ty, pos, aft, none⟩ :: rest) a w := by
  refine wpList_plain rfl fun K hK => ?_
  obtain ⟨zs, c, w', hr, hc, ho, hg⟩ := run_append_zeros (P := P) (w := w) (ty := ty) hT hI h0 hn
  unfold Oper.wp execOp
  simp only [resolve, invoke, builtin, Sem.run_bind, Sem.run_pure, Result.andThen_ok, List.map_toArray, List.map_cons, List.map_nil, hs, hx, hr]
  refine hK _ _ (k _ c zs w' hc (H.more (M := [_]) ⟨hg, ?_, ?_, List.pairwise_singleton _ _⟩))
  · intro h hh
    obtain rfl := List.mem_singleton.1 hh
    exact ho
  · intro h hh b hb
    obtain rfl := List.mem_singleton.1 hh
    have : some w.heap.size = some b := hb
    injection this with this
    exact .inl (by omega)
/-- the head of a row -/
theorem Hs.shrink {R : Nat → Prop} {w0 w : World} {L M : List Hl} {E : TypeId} {s n m g c : Nat} {zs : List Value} (H : Hs R w0 L w) (u : Upd (Hl.own E s (.slice (some ⟨g, 0, none⟩) n c) n zs) (Hl.row E s (.slice (some ⟨g, 0, none⟩) m c) m (zs.take (m * s))) L M) (hm : m ≤ n) : Hs R w0 M w := by
  have ho : w.ownsRow 0 E s (.slice (some ⟨g, 0, none⟩) n c) n zs := H.ok _ u.inL.mem
  refine H.turn u ((Grow.refl noRow w).mono (fun _ f => f.elim)) (rowOk_of_own ?_) (fun b hb => .inl (rowBlock_own hb : (Value.slice (some ⟨g, 0, none⟩) m c).ownBlock = some b))
  rcases ho.2 with ⟨h, _⟩ | ⟨g2, cap, cur, hv, hb, hg, hnc, hcm, hcs, htake⟩
  · cases h
  · injection hv with e1 _ e3
    injection e1 with e1; injection e1 with e1 _ _
    subst e1 e3
    have hle : m * s ≤ n * s := Nat.mul_le_mul_right _ hm
    refine ⟨by rw [List.length_take, ho.1]; omega, .inr ⟨g, c, cur, rfl, hb, hg, Nat.le_trans hm hnc, hcm, hcs, ?_⟩⟩
    rw [← htake, List.take_take, Nat.min_eq_left hle]
/-- a row without elements, with room -/
def tRoom (E : TypeId) (s : Nat) : Value → List Hl → Prop := fun v M => ∃ g c, v = .slice (some ⟨g, 0, none⟩) 0 c ∧ M = [Hl.row E s v 0 []]
namespace M
theorem rdL_flat {α : Type} {s : Nat} {enc : α → List Value} {hl : ∀ a, (enc a).length = s} {h1 : ∀ a, ∀ u ∈ enc a, u.oneCell' = true} {w : World} {xs : List Value} {l : List α} (h : RdL (Ty.flat s enc hl h1) w xs l) : xs = flat enc l := by
  induction h with
  | nil => rfl
  | cons h _ ih => rw [flat_cons, ← ih]; rw [show _ = _ from h]
/-- a slice of structs that hold no memory, cell by cell -/
theorem sl_rd {α : Type} {s : Nat} {enc : α → List Value} {hl : ∀ a, (enc a).length = s} {h1 : ∀ a, ∀ u ∈ enc a, u.oneCell' = true} {E : TypeId} {w : World} {v : Value} {l : List α} (h : (Ty.sl E (Ty.flat s enc hl h1)).rd w [v] l) : Rd w s v l.length (flat enc l) := by
  obtain ⟨v', xs, e, hr, hL⟩ := h
  injection e with e; subst e
  rw [← rdL_flat hL]; exact hr
theorem flat_ones {α : Type} {enc : α → List Value} (h1 : ∀ a, ∀ u ∈ enc a, u.oneCell' = true) (l : List α) : (flat enc l).all (·.oneCell') = true := by
  rw [List.all_eq_true]
  intro u hu
  simp only [flat, List.mem_flatten, List.mem_map] at hu
  obtain ⟨_, ⟨a, _, rfl⟩, hu⟩ := hu
  exact h1 a u hu
theorem encLab_one (a : Lab) : ∀ u ∈ encLab a, u.oneCell' = true := fun u hu => by
  simp only [encLab, List.mem_cons, List.not_mem_nil, or_false] at hu; rcases hu with rfl | rfl <;> rfl
theorem flatten_take {α : Type} {l : List (List α)} {i : Nat} {x : List α} (h : l[i]? = some x) : (l.take (i + 1)).flatten = (l.take i).flatten ++ x := by
  obtain ⟨hlt, rfl⟩ := List.getElem?_eq_some_iff.1 h
  rw [List.take_succ_eq_append_getElem hlt, List.flatten_append]
  simp
theorem flatten_take_le {α : Type} (l : List (List α)) (i : Nat) : (l.take i).flatten.length ≤ l.flatten.length := by
  have : l.flatten = (l.take i).flatten ++ (l.drop i).flatten := by rw [← List.flatten_append, List.take_append_drop]
  rw [this, List.length_append]; omega
end M
theorem own_single {α : Type} {T : Ty α} {a : α} {v : Value} {N : List Hl} (h : T.own v.cells.toList a N) (h3 : T.s = 1 → v.oneCell' = true) (hs : T.s = 1) : T.own [v] a N := by
  have e := h3 hs
  cases v <;> first | exact h | cases e
end Go.Proofs.Ytpkoeeafepgphaa
