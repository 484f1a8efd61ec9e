/-
  Labels sought in lists; chains of labels: the walks.
-/
import Derived.Test.YthkebpgkhblcjaaJ1
import Derived.IntWalk
set_option linter.unusedSimpArgs false
set_option linter.unusedVariables false
namespace Go.Proofs.Ythkebpgkhblcjaa
open Go.RowKit M
namespace M
def eqB (a b : Lab) : Bool := decide (a.1 = b.1) && decide (a.2 = b.2)
theorem eqB_iff {a b : Lab} : eqB a b = true ↔ a = b := by
  obtain ⟨a1, a2⟩ := a; obtain ⟨b1, b2⟩ := b
  simp [eqB]
theorem eqB_decide (a b : Lab) : eqB a b = decide (a = b) := by
  by_cases h : a = b
  · rw [eqB_iff.2 h]; simp [h]
  · rw [Bool.eq_false_iff.2 (fun e => h (eqB_iff.1 e))]; simp [h]
end M
section
variable {R : Nat → Prop} {w0 w : World} {L : List Hl} {a : Act} {ops : Array Oper} {Q : Exit → Act → World → Prop} {rest : List Oper} {dst : Option Tmp} {ty : TypeId} {x y : Operand} {pos : String} {aft : Array Edge} {gd : Option (Nat × Bool)} {K : List Hl} {a1 a2 b1 b2 : Int}
end
section
variable {R : Nat → Prop} {w0 w : World} {L : List Hl} {a : Act} {ops : Array Oper} {Q : Exit → Act → World → Prop} {rest : List Oper} {dst : Option Tmp} {ty : TypeId} {x y : Operand} {pos : String} {aft : Array Edge} {gd : Option (Nat × Bool)} {K : List Hl} {a1 a2 b1 b2 : Int} {z : Bool}
end
/-! ### guards of a region that draws its order -/
def Want (p : Prop) : Prop := p
def Skp (p : Prop) : Prop := p
theorem gWant {p q : Prop} (h : p → q) : Want p → q := h
theorem gSkip {p q : Prop} (h : p → q) : Skp p → q := h
theorem hq_guard {P : Program} {ops : Array Oper} {R : Nat → Prop} {w0 : World} {L : List Hl} {Q : Act → Prop} {rest : List Oper} {a : Act} {dst : Option Tmp} {ty : TypeId} {pos : String} {aft : Array Edge} {op : Op} {j : Nat} {b b' : Bool}
    (hy : yielded ops a.tmps j = some b') (k1 : Want (b' = b) → wpQuiet P ops (Hs R w0 L) Q (⟨dst, op, ty, pos, aft, none⟩ :: rest) a) (k0 : Skp (b' = (!b)) → wpQuiet P ops (Hs R w0 L) Q rest (a.put dst undef)) :
    wpQuiet P ops (Hs R w0 L) Q (⟨dst, op, ty, pos, aft, some (j, b)⟩ :: rest) a := by
  by_cases h : b' = b
  · have k := k1 h
    unfold wpQuiet at k ⊢
    rw [if_pos (by unfold Region.wanted; rfl)] at k
    rw [if_pos (by simp [Region.wanted, hy, h])]
    exact k
  · have h2 : b' = (!b) := by cases b <;> cases b' <;> simp_all
    refine hq_skip ?_ (k0 h2)
    simp [Region.wanted, hy, h2]
theorem hq_gwT {P : Program} {ops : Array Oper} {R : Nat → Prop} {w0 : World} {L : List Hl} {Q : Act → Prop} {rest : List Oper} {a : Act} {dst : Option Tmp} {ty : TypeId} {pos : String} {aft : Array Edge} {op : Op} {j : Nat}
    (hy : yielded ops a.tmps j = some true) (k1 : wpQuiet P ops (Hs R w0 L) Q (⟨dst, op, ty, pos, aft, none⟩ :: rest) a) : wpQuiet P ops (Hs R w0 L) Q (⟨dst, op, ty, pos, aft, some (j, true)⟩ :: rest) a :=
  hq_guard hy (fun _ => k1) (fun h => absurd h (by unfold Skp; simp))
theorem hq_gsT {P : Program} {ops : Array Oper} {R : Nat → Prop} {w0 : World} {L : List Hl} {Q : Act → Prop} {rest : List Oper} {a : Act} {dst : Option Tmp} {ty : TypeId} {pos : String} {aft : Array Edge} {op : Op} {j : Nat}
    (hy : yielded ops a.tmps j = some false) (k0 : wpQuiet P ops (Hs R w0 L) Q rest (a.put dst undef)) : wpQuiet P ops (Hs R w0 L) Q (⟨dst, op, ty, pos, aft, some (j, true)⟩ :: rest) a :=
  hq_guard hy (fun h => absurd h (by unfold Want; simp)) (fun _ => k0)
theorem st_gwT {P : Program} {ops : Array Oper} {w : World} {Q : Exit → Act → World → Prop} {rest : List Oper} {a : Act} {dst : Option Tmp} {ty : TypeId} {pos : String} {aft : Array Edge} {op : Op} {j : Nat}
    (hy : yielded ops a.tmps j = some true) (k1 : wpList P ops Q (⟨dst, op, ty, pos, aft, none⟩ :: rest) a w) : wpList P ops Q (⟨dst, op, ty, pos, aft, some (j, true)⟩ :: rest) a w :=
  st_guard hy (fun _ => k1) (fun h => absurd h (by simp))
theorem st_gsT {P : Program} {ops : Array Oper} {w : World} {Q : Exit → Act → World → Prop} {rest : List Oper} {a : Act} {dst : Option Tmp} {ty : TypeId} {pos : String} {aft : Array Edge} {op : Op} {j : Nat}
    (hy : yielded ops a.tmps j = some false) (k0 : wpList P ops Q rest (a.put dst undef) w) : wpList P ops Q (⟨dst, op, ty, pos, aft, some (j, true)⟩ :: rest) a w :=
  st_guard hy (fun h => absurd h (by simp)) (fun _ => k0)
theorem hq_gwF {P : Program} {ops : Array Oper} {R : Nat → Prop} {w0 : World} {L : List Hl} {Q : Act → Prop} {rest : List Oper} {a : Act} {dst : Option Tmp} {ty : TypeId} {pos : String} {aft : Array Edge} {op : Op} {j : Nat}
    (hy : yielded ops a.tmps j = some false) (k1 : wpQuiet P ops (Hs R w0 L) Q (⟨dst, op, ty, pos, aft, none⟩ :: rest) a) : wpQuiet P ops (Hs R w0 L) Q (⟨dst, op, ty, pos, aft, some (j, false)⟩ :: rest) a :=
  hq_guard hy (fun _ => k1) (fun h => absurd h (by unfold Skp; simp))
theorem hq_gsF {P : Program} {ops : Array Oper} {R : Nat → Prop} {w0 : World} {L : List Hl} {Q : Act → Prop} {rest : List Oper} {a : Act} {dst : Option Tmp} {ty : TypeId} {pos : String} {aft : Array Edge} {op : Op} {j : Nat}
    (hy : yielded ops a.tmps j = some true) (k0 : wpQuiet P ops (Hs R w0 L) Q rest (a.put dst undef)) : wpQuiet P ops (Hs R w0 L) Q (⟨dst, op, ty, pos, aft, some (j, false)⟩ :: rest) a :=
  hq_guard hy (fun h => absurd h (by unfold Want; simp)) (fun _ => k0)
theorem st_gwF {P : Program} {ops : Array Oper} {w : World} {Q : Exit → Act → World → Prop} {rest : List Oper} {a : Act} {dst : Option Tmp} {ty : TypeId} {pos : String} {aft : Array Edge} {op : Op} {j : Nat}
    (hy : yielded ops a.tmps j = some false) (k1 : wpList P ops Q (⟨dst, op, ty, pos, aft, none⟩ :: rest) a w) : wpList P ops Q (⟨dst, op, ty, pos, aft, some (j, false)⟩ :: rest) a w :=
  st_guard hy (fun _ => k1) (fun h => absurd h (by simp))
theorem st_gsF {P : Program} {ops : Array Oper} {w : World} {Q : Exit → Act → World → Prop} {rest : List Oper} {a : Act} {dst : Option Tmp} {ty : TypeId} {pos : String} {aft : Array Edge} {op : Op} {j : Nat}
    (hy : yielded ops a.tmps j = some true) (k0 : wpList P ops Q rest (a.put dst undef) w) : wpList P ops Q (⟨dst, op, ty, pos, aft, some (j, false)⟩ :: rest) a w :=
  st_guard hy (fun h => absurd h (by simp)) (fun _ => k0)
/-! ### a label in a list -/
namespace M
def hasL (l : List Lab) (a : Lab) : Bool := l.any fun b => eqB b a
theorem hasL_iff {l : List Lab} {a : Lab} : hasL l a = true ↔ a ∈ l := by
  unfold hasL
  rw [List.any_eq_true]
  constructor
  · rintro ⟨b, hb, e⟩
    rw [← eqB_iff.1 e]; exact hb
  · intro h
    exact ⟨a, h, eqB_iff.2 rfl⟩
theorem any_drop {α : Type} {p : α → Bool} {l : List α} {i : Nat} {a : α} (h : l[i]? = some a) : (l.drop i).any p = (p a || (l.drop (i + 1)).any p) := by
  obtain ⟨hlt, rfl⟩ := List.getElem?_eq_some_iff.1 h
  rw [List.drop_eq_getElem_cons hlt]
  rfl
theorem eqB_comm (a b : Lab) : eqB a b = eqB b a := by rw [eqB_decide, eqB_decide]; congr 1; exact propext ⟨Eq.symm, Eq.symm⟩
end M
end Go.Proofs.Ythkebpgkhblcjaa
namespace Go.Proofs.Ythkebpgkhblcjaa
open Go.RowKit M
namespace M
def okL (a : Lab) : Bool := labelOk a.1 a.2
def adjB (a b : Lab) : Bool := !eqB a b && belowB a b
def chainAdj : List Lab → Bool
  | a :: b :: r => adjB a b && chainAdj (b :: r)
  | _ => true
def chainOk (l : List Lab) : Bool := decide (1 ≤ l.length) && decide (l.length ≤ 4) && (l.all okL && chainAdj l)
theorem chainAdj_step {l : List Lab} {i : Nat} {x y : Lab} (h1 : l[i]? = some x) (h2 : l[i + 1]? = some y) : chainAdj (l.drop i) = (adjB x y && chainAdj (l.drop (i + 1))) := by
  obtain ⟨k1, e1⟩ := List.getElem?_eq_some_iff.1 h1
  obtain ⟨k2, e2⟩ := List.getElem?_eq_some_iff.1 h2
  rw [List.drop_eq_getElem_cons k1, List.drop_eq_getElem_cons k2, e1, e2]
  rfl
theorem chainAdj_end {l : List Lab} {i : Nat} (h : l.length ≤ i + 1) : chainAdj (l.drop i) = true := by
  have : (l.drop i).length ≤ 1 := by rw [List.length_drop]; omega
  match l.drop i, this with
  | [], _ => rfl
  | [a], _ => rfl
theorem all_at {α : Type} {p : α → Bool} {l : List α} {i : Nat} {a : α} (h : l.all p = true) (hi : l[i]? = some a) : p a = true := List.all_eq_true.1 h a (List.mem_of_getElem? hi)
theorem all_drop {α : Type} {p : α → Bool} {l : List α} {i : Nat} {a : α} (h : l[i]? = some a) : (l.drop i).all p = (p a && (l.drop (i + 1)).all p) := by
  obtain ⟨hlt, rfl⟩ := List.getElem?_eq_some_iff.1 h
  rw [List.drop_eq_getElem_cons hlt]
  rfl
theorem any_not_all {α : Type} {p q : α → Bool} (h : ∀ a, q a = !p a) (l : List α) : l.any q = !l.all p := by
  induction l with
  | nil => rfl
  | cons a l ih => simp [h, ih]
end M
end Go.Proofs.Ythkebpgkhblcjaa
namespace Go.Proofs.Ythkebpgkhblcjaa
open Go.RowKit M
namespace M
def clearOk (l : List (List Lab)) : Bool := decide (1 ≤ l.length) && decide (l.length ≤ 6) && l.all chainOk
theorem take_step {α : Type} {p : α → Bool} {l : List α} {i : Nat} {a : α} (h : l[i]? = some a) (h1 : (l.take i).all p = true) (h2 : p a = true) : (l.take (i + 1)).all p = true := by
  obtain ⟨hlt, rfl⟩ := List.getElem?_eq_some_iff.1 h
  rw [List.take_succ_eq_append_getElem hlt, List.all_append, h1]
  simp [h2]
theorem take_at {α : Type} {p : α → Bool} {l : List α} {i j : Nat} {a : α} (h : l[j]? = some a) (hj : j < i) (h1 : (l.take i).all p = true) : p a = true :=
  all_at h1 (i := j) (by rw [List.getElem?_take, if_pos hj]; exact h)
end M
end Go.Proofs.Ythkebpgkhblcjaa
namespace Go.Proofs.Ythkebpgkhblcjaa
open Go.RowKit M
namespace M
def labsAll : List Lab := [(0, 0), (0, 1), (0, 2), (0, 3), (0, 4), (0, 5), (0, 6), (0, 7), (1, 0), (1, 1), (1, 2), (1, 3), (1, 4), (1, 5), (1, 6), (1, 7), (2, 0), (2, 1), (2, 2), (2, 3), (2, 4), (2, 5), (2, 6), (2, 7), (3, 0), (3, 1), (3, 2), (3, 3), (3, 4), (3, 5), (3, 6), (3, 7)]
/-- the labels of nodes, each once, in order -/
def labelsOf (nodes : List (List Lab)) : List Lab := labsAll.filter fun a => nodes.any fun l => hasL l a
theorem labsAll_at : ∀ k : Nat, k < 32 → labsAll[k]? = some (((k / 8 : Nat) : Int), ((k % 8 : Nat) : Int)) := by decide +kernel
theorem filter_take {α : Type} {p : α → Bool} {l : List α} {i : Nat} {a : α} (h : l[i]? = some a) : (l.take (i + 1)).filter p = (l.take i).filter p ++ if p a then [a] else [] := by
  obtain ⟨hlt, rfl⟩ := List.getElem?_eq_some_iff.1 h
  rw [List.take_succ_eq_append_getElem hlt, List.filter_append]
  congr 1
  cases h : p l[i] <;> simp [h]
end M
theorem ownL_flat {α : Type} {s : Nat} {enc : α → List Value} {hl : ∀ a, (enc a).length = s} {h1 : ∀ a, ∀ u ∈ enc a, u.oneCell' = true} : ∀ l : List α, OwnL (Ty.flat s enc hl h1) (flat enc l) l []
  | [] => .nil
  | a :: l => OwnL.cons (M := []) (N := []) ⟨rfl, rfl⟩ (ownL_flat l)
/-- a walk's end: a row of structs that hold no memory -/
theorem ret_flat {α : Type} {s s' n : Nat} {enc : α → List Value} {hl : ∀ a, (enc a).length = s} {h1 : ∀ a, ∀ u ∈ enc a, u.oneCell' = true} {E : TypeId} {w w' : World} {v : Value} {xs : List Value} {l : List α} {L : List Hl} (H : Hs noRow w (Hl.row E s' v n xs :: L) w') (hx : xs = flat enc l) (hn : n = l.length) (hs : s' = s := by rfl) :
    RPost [] w (tOwn (Ty.sl E (Ty.flat s enc hl h1)) l) (.returned v) w' := by
  subst hx hs
  have H2 : Hs noRow w (Hl.row E s' v n (flat enc l ++ []) :: Hl.all [] :: L) w' := by
    rw [List.append_nil]
    exact H.allNil.reperm (List.Perm.swap ..)
  exact ret_sl H2 (ownL_flat l) rfl rfl hn
end Go.Proofs.Ythkebpgkhblcjaa
namespace Go.Proofs.Ythkebpgkhblcjaa
open Go.RowKit M
section
variable {P : Program} {w : World}
/-- append(nil, make([]E, n)...) -/
theorem run_append_zeros {t ty ti E : TypeId} {s n : Nat} {k : IntKind} (hT : appT P t E s = true) (hI : P.underlying ti = some (.int k)) (h0 : 0 < n) (hn : n ≤ 1000000000) :
    ∃ zs c w', (Builtin.append_ #[t, ti] ty #[.slice none 0 0, .int .i64 (n : Int)]).run P w = .ok (.slice (some ⟨w.heap.size, 0, none⟩) n c) w' ∧ n ≤ c ∧ w'.ownsRow 0 E s (.slice (some ⟨w.heap.size, 0, none⟩) n c) n zs ∧ Grow noRow w w' := by
  obtain ⟨i, z, ht, hi, hz, h2, h3, h4, h5⟩ := appT_spec hT
  subst h2
  have hw : IntKind.i64.wrap (n : Int) = n := wrap_id (by omega) (by omega)
  have hneg : ¬ ((n : Int) < 0) := by omega
  have hb := bytes_le hn h3
  have hmx : max (n : Int) 0 = n := by omega
  have hle : ¬ ((n : Int) ≤ 0) := by omega
  have hbig : ¬ ((281474976710656 : Int) < (n : Int) * (i.bytes : Int)) := by
    have : ((n * i.bytes : Nat) : Int) = (n : Int) * i.bytes := Int.natCast_mul ..
    omega
  have hn0 : n ≠ 0 := by omega
  have h63' : ¬ (9223372036854775807 < (n : Int)) := by omega
  have h48' : ¬ (281474976710656 < Builtin.nextslicecap n 0 * i.bytes) := by rw [nextslicecap_zero h0]; omega
  have hge := grownCap_ge w n 0 E
  have hcm : grownCap w n 0 E ≤ maxLen := grownCap_le_maxLen w n 0 E (by unfold maxLen; omega)
  have hns : ¬ (n * i.size = 0) := by have := Nat.mul_pos h0 h5; omega
  refine ⟨(Builtin.zeroCells z.cells n).toList, grownCap w n 0 E, w.drew.alloc (.cells (Builtin.zeroCells z.cells n ++ Builtin.zeroCells z.cells (grownCap w n 0 E - n)) E), ?_, hge, ⟨?_, .inr ⟨w.heap.size, _, _, rfl, Nat.zero_le _, heap_alloc_new w.drew _, hge, hcm, ?_, ?_⟩⟩, growN (((Below.refl _ w).drew).alloc (Nat.le_refl _) _)⟩
  · simp [Builtin.append_, run_underlying ht, run_underlying hI, sizeOf, typeInfo, zeroValue, hi, hz, hn0, h63', h48', Question.forced, Builtin.firstCells, newRow, grownCap, asInt, asIntOf, hw, hneg, hbig, hns, hmx, hle]
  · rw [Array.length_toList, size_zeroCells, h4]
  · rw [Array.size_append, size_zeroCells, size_zeroCells, h4, ← Nat.add_mul]
    congr 1
    omega
  · rw [Array.toList_append]
    have : (Builtin.zeroCells z.cells n).toList.length = n * i.size := by rw [Array.length_toList, size_zeroCells, h4]
    rw [← this]
    exact List.take_left
end
theorem st_grow0 {P : Program} {R : Nat → Prop} {w0 w : World} {L : List Hl} {a : Act} {ops : Array Oper} {Q : Exit → Act → World → Prop} {rest : List Oper} {dst : Option Tmp} {ty : TypeId} {pos : String} {aft : Array Edge}
    {xo yo : Operand} {t ti E : TypeId} {s n : Nat} (H : Hs R w0 L w) (hs : a.eval xo = .slice none 0 0) (hx : a.eval yo = .int .i64 (n : Int)) (hT : appT P t E s = true) (hI : P.underlying ti = some (.int .i64)) (h0 : 0 < n) (hn : n ≤ 1000000000)
    (k : ∀ g c zs w', n ≤ c → Hs R w0 (Hl.own E s (.slice (some ⟨g, 0, none⟩) n c) n zs :: L) w' → wpList P ops Q rest (a.put dst (.slice (some ⟨g, 0, none⟩) n c)) w') :
    wpList P ops Q (⟨dst, .call ⟨.builtin .append, #[xo, yo], #[t, ti]⟩, ty, pos, aft, none⟩ :: rest) a w := by
  refine wpList_plain rfl fun K hK => ?_
  obtain ⟨zs, c, w', hr, hc, ho, hg⟩ := run_append_zeros (P := P) (w := w) (ty := ty) hT hI h0 hn
  unfold Oper.wp execOp
  simp only [resolve, invoke, builtin, Sem.run_bind, Sem.run_pure, Result.andThen_ok, List.map_toArray, List.map_cons, List.map_nil, hs, hx, hr]
  refine hK _ _ (k _ c zs w' hc (H.more (M := [_]) ⟨hg, ?_, ?_, List.pairwise_singleton _ _⟩))
  · intro h hh
    obtain rfl := List.mem_singleton.1 hh
    exact ho
  · intro h hh b hb
    obtain rfl := List.mem_singleton.1 hh
    have : some w.heap.size = some b := hb
    injection this with this
    exact .inl (by omega)
/-- the head of a row -/
theorem Hs.shrink {R : Nat → Prop} {w0 w : World} {L M : List Hl} {E : TypeId} {s n m g c : Nat} {zs : List Value} (H : Hs R w0 L w) (u : Upd (Hl.own E s (.slice (some ⟨g, 0, none⟩) n c) n zs) (Hl.row E s (.slice (some ⟨g, 0, none⟩) m c) m (zs.take (m * s))) L M) (hm : m ≤ n) : Hs R w0 M w := by
  have ho : w.ownsRow 0 E s (.slice (some ⟨g, 0, none⟩) n c) n zs := H.ok _ u.inL.mem
  refine H.turn u ((Grow.refl noRow w).mono (fun _ f => f.elim)) (rowOk_of_own ?_) (fun b hb => .inl (rowBlock_own hb : (Value.slice (some ⟨g, 0, none⟩) m c).ownBlock = some b))
  rcases ho.2 with ⟨h, _⟩ | ⟨g2, cap, cur, hv, hb, hg, hnc, hcm, hcs, htake⟩
  · cases h
  · injection hv with e1 _ e3
    injection e1 with e1; injection e1 with e1 _ _
    subst e1 e3
    have hle : m * s ≤ n * s := Nat.mul_le_mul_right _ hm
    refine ⟨by rw [List.length_take, ho.1]; omega, .inr ⟨g, c, cur, rfl, hb, hg, Nat.le_trans hm hnc, hcm, hcs, ?_⟩⟩
    rw [← htake, List.take_take, Nat.min_eq_left hle]
/-- a row without elements, with room -/
def tRoom (E : TypeId) (s : Nat) : Value → List Hl → Prop := fun v M => ∃ g c, v = .slice (some ⟨g, 0, none⟩) 0 c ∧ M = [Hl.row E s v 0 []]
namespace M
theorem rdL_flat {α : Type} {s : Nat} {enc : α → List Value} {hl : ∀ a, (enc a).length = s} {h1 : ∀ a, ∀ u ∈ enc a, u.oneCell' = true} {w : World} {xs : List Value} {l : List α} (h : RdL (Ty.flat s enc hl h1) w xs l) : xs = flat enc l := by
  induction h with
  | nil => rfl
  | cons h _ ih => rw [flat_cons, ← ih]; rw [show _ = _ from h]
/-- a slice of structs that hold no memory, cell by cell -/
theorem sl_rd {α : Type} {s : Nat} {enc : α → List Value} {hl : ∀ a, (enc a).length = s} {h1 : ∀ a, ∀ u ∈ enc a, u.oneCell' = true} {E : TypeId} {w : World} {v : Value} {l : List α} (h : (Ty.sl E (Ty.flat s enc hl h1)).rd w [v] l) : Rd w s v l.length (flat enc l) := by
  obtain ⟨v', xs, e, hr, hL⟩ := h
  injection e with e; subst e
  rw [← rdL_flat hL]; exact hr
theorem flat_ones {α : Type} {enc : α → List Value} (h1 : ∀ a, ∀ u ∈ enc a, u.oneCell' = true) (l : List α) : (flat enc l).all (·.oneCell') = true := by
  rw [List.all_eq_true]
  intro u hu
  simp only [flat, List.mem_flatten, List.mem_map] at hu
  obtain ⟨_, ⟨a, _, rfl⟩, hu⟩ := hu
  exact h1 a u hu
theorem encLab_one (a : Lab) : ∀ u ∈ encLab a, u.oneCell' = true := fun u hu => by
  simp only [encLab, List.mem_cons, List.not_mem_nil, or_false] at hu; rcases hu with rfl | rfl <;> rfl
theorem flatten_take {α : Type} {l : List (List α)} {i : Nat} {x : List α} (h : l[i]? = some x) : (l.take (i + 1)).flatten = (l.take i).flatten ++ x := by
  obtain ⟨hlt, rfl⟩ := List.getElem?_eq_some_iff.1 h
  rw [List.take_succ_eq_append_getElem hlt, List.flatten_append]
  simp
theorem flatten_take_le {α : Type} (l : List (List α)) (i : Nat) : (l.take i).flatten.length ≤ l.flatten.length := by
  have : l.flatten = (l.take i).flatten ++ (l.drop i).flatten := by rw [← List.flatten_append, List.take_append_drop]
  rw [this, List.length_append]; omega
end M
theorem own_single {α : Type} {T : Ty α} {a : α} {v : Value} {N : List Hl} (h : T.own v.cells.toList a N) (h3 : T.s = 1 → v.oneCell' = true) (hs : T.s = 1) : T.own [v] a N := by
  have e := h3 hs
  cases v <;> first | exact h | cases e
end Go.Proofs.Ythkebpgkhblcjaa
namespace Go.Proofs.Ythkebpgkhblcjaa
open Go.RowKit M
namespace M
/-- how many elements in all -/
def total {α : Type} (l : List (List α)) : Nat := l.length + l.flatten.length
theorem total_at {α : Type} {l : List (List α)} {i : Nat} {x : List α} (h : l[i]? = some x) : (l.take i).flatten.length + x.length ≤ l.flatten.length := by
  have h1 := flatten_take_le l (i + 1)
  rw [flatten_take h, List.length_append] at h1
  exact h1
end M
theorem Hs.take2 {R : Nat → Prop} {w0 w : World} {L M N K : List Hl} {h : Hl} (H : Hs R w0 (h :: Hl.all N :: Hl.all (M ++ K) :: L) w) : Hs R w0 (Hl.all M :: h :: Hl.all N :: Hl.all K :: L) w := by
  have h1 : Hs R w0 (Hl.all (M ++ K) :: h :: Hl.all N :: L) w := H.reperm (by
    refine (List.Perm.cons h (List.Perm.swap ..)).trans (List.Perm.swap ..))
  have h2 := h1.part
  refine h2.reperm (List.Perm.cons _ ?_)
  exact (List.Perm.swap ..).trans (List.Perm.cons h (List.Perm.swap ..))
theorem Hs.give2 {R : Nat → Prop} {w0 w : World} {L M N K : List Hl} {h : Hl} (H : Hs R w0 (Hl.all M :: h :: Hl.all N :: Hl.all K :: L) w) : Hs R w0 (h :: Hl.all (N ++ M) :: Hl.all K :: L) w := by
  have h1 : Hs R w0 (Hl.all N :: Hl.all M :: h :: Hl.all K :: L) w := H.reperm ((List.Perm.cons _ (List.Perm.swap ..)).trans (List.Perm.swap ..))
  exact h1.join.reperm (List.Perm.swap ..)
section
variable {R : Nat → Prop} {w0 w : World} {L A B C : List Hl}
theorem Hs.up1 {a b : Hl} (H : Hs R w0 (a :: b :: L) w) : Hs R w0 (b :: a :: L) w := H.reperm (List.Perm.swap ..)
theorem Hs.up2 {a b c : Hl} (H : Hs R w0 (a :: b :: c :: L) w) : Hs R w0 (c :: a :: b :: L) w := H.reperm ((List.Perm.cons _ (List.Perm.swap ..)).trans (List.Perm.swap ..))
theorem Hs.up3 {a b c d : Hl} (H : Hs R w0 (a :: b :: c :: d :: L) w) : Hs R w0 (d :: a :: b :: c :: L) w := H.reperm ((List.Perm.cons _ ((List.Perm.cons _ (List.Perm.swap ..)).trans (List.Perm.swap ..))).trans (List.Perm.swap ..))
theorem Hs.off {a b : Hl} (H : Hs R w0 (a :: b :: L) w) : Hs R w0 (a :: L) w := H.sub (List.Sublist.cons_cons _ (List.sublist_cons_self _ _))
theorem Hs.off1 {a : Hl} (H : Hs R w0 (a :: L) w) : Hs R w0 L w := H.sub (List.sublist_cons_self _ _)
theorem Hs.join3 (H : Hs R w0 (Hl.all A :: Hl.all B :: Hl.all C :: L) w) : Hs R w0 (Hl.all (A ++ (B ++ C)) :: L) w := by
  have h1 : Hs R w0 (Hl.all B :: Hl.all C :: Hl.all A :: L) w := H.reperm ((List.Perm.swap ..).trans (List.Perm.cons _ (List.Perm.swap ..)))
  exact (h1.join.reperm (List.Perm.swap ..)).join
theorem Hs.part3 (H : Hs R w0 (Hl.all (A ++ (B ++ C)) :: L) w) : Hs R w0 (Hl.all A :: Hl.all B :: Hl.all C :: L) w := by
  have h1 := H.part
  have h2 : Hs R w0 (Hl.all (B ++ C) :: Hl.all A :: L) w := h1.reperm (List.Perm.swap ..)
  exact h2.part.reperm ((List.Perm.cons _ (List.Perm.swap ..)).trans (List.Perm.swap ..))
/-- a struct's result: data in memory of their own -/
def tAgg {α : Type} (T : Ty α) (a : α) : Value → List Hl → Prop := fun v M => ∃ cs N, v = .agg cs.toArray ∧ T.own cs a N ∧ M = [Hl.all N]
end
theorem RdL.cast {α : Type} {T U : Ty α} {w : World} (h : ∀ cs a, T.rd w cs a → U.rd w cs a) {xs : List Value} {l : List α} (hl : RdL T w xs l) : RdL U w xs l := by
  induction hl with
  | nil => exact .nil
  | cons h1 _ ih => exact .cons (h _ _ h1) ih
theorem sl_cast {α : Type} {T U : Ty α} {E F : TypeId} {w : World} {cs : List Value} {l : List α} (hs : T.s = U.s) (h : ∀ cs a, T.rd w cs a → U.rd w cs a) (hr : (Ty.sl E T).rd w cs l) : (Ty.sl F U).rd w cs l := by
  obtain ⟨v, xs, e, h1, h2⟩ := hr
  exact ⟨v, xs, e, by rw [← hs]; exact h1, h2.cast h⟩
end Go.Proofs.Ythkebpgkhblcjaa
