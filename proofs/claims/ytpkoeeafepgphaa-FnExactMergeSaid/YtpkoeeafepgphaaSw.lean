/-
  A region of reads and two stores, the second behind the first, whose other operations come up in any order (some of them behind the first store): its law. Plain theorems; nothing of the program is named.
-/
import Derived.Test.YtpkoeeafepgphaaDb
set_option linter.unusedSimpArgs false
set_option linter.unusedVariables false
namespace Go.Proofs.Ytpkoeeafepgphaa
open Go.RowKit
section
variable {P : Program} {Q : Exit → Act → World → Prop} {a : Act} {w : World}
/-- what one operation owes -/
def swO (P : Program) (ops : List Oper) (C0 C1 C2 : World → Prop) (s1 s2 : Nat) (o : Oper) (k : Nat) (v : Value) (a : Act) : Prop :=
  if k = s1 then v = undef ∧ ∀ w, C0 w → ∃ w', (execOp a.eval o).run P w = .ok .skip w' ∧ C1 w'
  else if k = s2 then v = undef ∧ ∀ w, C1 w → ∃ w', (execOp a.eval o).run P w = .ok .skip w' ∧ C2 w'
  else if ancB ops s1 k then ∀ w, C0 w → QOk P o a w v else ∀ w, QOk P o a w v
/-- what a walk owes: each operation in the order of the text -/
def swH (P : Program) (ops : List Oper) (C0 C1 C2 : World → Prop) (s1 s2 : Nat) (Rest : Act → World → Prop) : List Oper → Nat → List Value → Act → Prop
  | [], _, _, a => ∀ w, C2 w → Rest a w
  | o :: l, k, v :: vs, a => Region.wanted o (yielded ops.toArray a.tmps) = true ∧ swO P ops C0 C1 C2 s1 s2 o k v a ∧ swH P ops C0 C1 C2 s1 s2 Rest l (k + 1) vs (a.put o.dst v)
  | _ :: _, _, [], _ => False
theorem swH_at {ops : List Oper} {C0 C1 C2 : World → Prop} {s1 s2 : Nat} {Rest : Act → World → Prop} {V : Nat → Value} : ∀ (l : List Oper) (k j : Nat) (vs : List Value) (a : Act) (o : Oper), swH P ops C0 C1 C2 s1 s2 Rest l k vs a → l[j]? = some o → (∀ i, V (k + i) = vs[i]?.getD undef) →
    Region.wanted o (yielded ops.toArray (lexF (fun i => some (V i)) (l.take j) k a).tmps) = true ∧ swO P ops C0 C1 C2 s1 s2 o (k + j) (V (k + j)) (lexF (fun i => some (V i)) (l.take j) k a)
  | [], _, _, _, _, _, _, h, _ => by simp at h
  | o :: l, k, j, [], a, o', h, _, _ => by simp [swH] at h
  | o :: l, k, 0, v :: vs, a, o', h, ho, hV => by
    obtain rfl : o = o' := by simpa using ho
    have hv := hV 0
    simp only [List.getElem?_cons_zero, Option.getD_some] at hv
    rw [hv]
    exact ⟨h.1, h.2.1⟩
  | o :: l, k, j + 1, v :: vs, a, o', h, ho, hV => by
    have hv := hV 0
    simp only [List.getElem?_cons_zero, Option.getD_some, Nat.add_zero] at hv
    have := swH_at l (k + 1) j vs (a.put o.dst v) o' h.2.2 (by simpa using ho) (fun i => by
      have := hV (i + 1)
      rw [List.getElem?_cons_succ] at this
      rw [← this, show k + 1 + i = k + (i + 1) by omega])
    rw [show k + (j + 1) = k + 1 + j by omega]
    rw [List.take_succ_cons]
    simp only [lexF, hv]
    exact this
theorem swH_end {ops : List Oper} {C0 C1 C2 : World → Prop} {s1 s2 : Nat} {Rest : Act → World → Prop} {V : Nat → Value} : ∀ (l : List Oper) (k : Nat) (vs : List Value) (a : Act), swH P ops C0 C1 C2 s1 s2 Rest l k vs a → (∀ i, V (k + i) = vs[i]?.getD undef) →
    ∀ w, C2 w → Rest (lexF (fun i => some (V i)) l k a) w
  | [], _, _, _, h, _ => h
  | o :: l, k, [], a, h, _ => by simp [swH] at h
  | o :: l, k, v :: vs, a, h, hV => by
    have hv := hV 0
    simp only [List.getElem?_cons_zero, Option.getD_some, Nat.add_zero] at hv
    have := swH_end l (k + 1) vs (a.put o.dst v) h.2.2 (fun i => by
      have := hV (i + 1)
      rw [List.getElem?_cons_succ] at this
      rw [← this, show k + 1 + i = k + (i + 1) by omega])
    simp only [lexF, hv]
    exact this
/-- what holds while the operations come up -/
structure SwI (l : List Oper) (V : Nat → Value) (C0 C1 C2 : World → Prop) (s1 s2 : Nat) (f : Nat → Option Value) (w : World) : Prop where
  val : ∀ i v, f i = some v → v = V i
  lt : ∀ i, (f i).isSome = true → i < l.length
  cl : ∀ i o, l[i]? = some o → (f i).isSome = true → ∀ e ∈ deps o, (f e).isSome = true
  c0 : f s1 = none → C0 w
  c1 : (f s1).isSome = true → f s2 = none → C1 w
  c2 : (f s2).isSome = true → C2 w
theorem spec_V (vs x : List Value) (y : Nat → Value) (i : Nat) (hx : x = vs) : (spec (vs.map fun v => Spec.V fun _ => v) i).val y i = x[i]?.getD undef := by
  subst hx
  unfold spec
  rw [List.getElem?_map]
  cases x[i]? <;> rfl
theorem SwI.step {l : List Oper} {vs : List Value} {C0 C1 C2 : World → Prop} {s1 s2 : Nat} {Rest : Act → World → Prop} (hB : headG l l.length = true) (hsel : Region.noSelect l.toArray = true)
    (hst0 : ∀ w w', C0 w → Below w.heap.size w w' → C0 w') (hst1 : ∀ w w', C1 w → Below w.heap.size w w' → C1 w') (hst2 : ∀ w w', C2 w → Below w.heap.size w w' → C2 w')
    (hs2 : s2 < l.length) (hanc : ancB l s2 s1 = true) (hne : s1 ≠ s2) (h : swH P l C0 C1 C2 s1 s2 Rest l 0 vs a) (i : Nat) (o : Oper) (f : Nat → Option Value) (w : World) (hin : i < l.length) (hoi : l[i]? = some o)
    (hC : SwI l (fun i => vs[i]?.getD undef) C0 C1 C2 s1 s2 f w) (hfi : f i = none) (hd : ∀ e ∈ deps o, (f e).isSome = true) :
    Region.wanted o (yielded l.toArray (lexF f (l.take l.length) 0 a).tmps) = true ∧ genAt P o (lexF f (l.take l.length) 0 a) w (fun v w' => SwI l (fun i => vs[i]?.getD undef) C0 C1 C2 s1 s2 (upd f i v) w') := by
  have hf : ∀ j, (f j).isSome = true → f j = some ((spec (vs.map fun v => Spec.V fun _ => v) j).val (vsf f) j) := fun j hj => by
    obtain ⟨v, hv⟩ := Option.isSome_iff_exists.1 hj
    rw [hv, spec_V vs vs _ j rfl, hC.val j v hv]
  obtain ⟨hw, hO⟩ := swH_at (V := fun i => vs[i]?.getD undef) l 0 i vs a o h hoi (fun i => by rw [Nat.zero_add])
  rw [Nat.zero_add] at hO
  have e0 : (fun j => some ((spec (vs.map fun v => Spec.V fun _ => v) j).val (vsf f) j)) = fun j => some (vs[j]?.getD undef) := by funext j; rw [spec_V vs vs _ j rfl]
  have hsm := hsame (a := a) (ss := vs.map fun v => Spec.V fun _ => v) hB hsel hin hoi hf hd
  rw [e0] at hsm
  have hwn := hwant (a := a) (ss := vs.map fun v => Spec.V fun _ => v) hB hin hoi hf hd (by rw [e0]; exact hw)
  refine ⟨hwn, ?_⟩
  have hcl' := anc_closed (f := f) (l := l) hC.cl
  obtain ⟨o2, ho2⟩ : ∃ o2, l[s2]? = some o2 := ⟨l[s2], List.getElem?_eq_getElem hs2⟩
  have h21 : (f s2).isSome = true → (f s1).isSome = true := fun h2 => hcl' s2 o2 ho2 (hC.cl s2 o2 ho2 h2) s1 hanc
  have hui : ∀ v, upd f i v i = some v := fun v => by simp [upd]
  have huj : ∀ v j, j ≠ i → upd f i v j = f j := fun v j hj => by unfold upd; rw [if_neg hj]
  -- the invariant behind the operation
  have base : ∀ v w', v = vs[i]?.getD undef → ((upd f i v) s1 = none → C0 w') → (((upd f i v) s1).isSome = true → (upd f i v) s2 = none → C1 w') → (((upd f i v) s2).isSome = true → C2 w') →
      SwI l (fun i => vs[i]?.getD undef) C0 C1 C2 s1 s2 (upd f i v) w' := by
    intro v w' hv k0 k1 k2
    refine ⟨fun j u hu => ?_, fun j hj => ?_, fun j oj hoj hj e he => ?_, k0, k1, k2⟩
    · by_cases hji : j = i
      · subst hji; rw [hui] at hu; injection hu with hu; rw [← hu]; exact hv
      · rw [huj v j hji] at hu; exact hC.val j u hu
    · by_cases hji : j = i
      · subst hji; exact hin
      · rw [huj v j hji] at hj; exact hC.lt j hj
    · by_cases hei : e = i
      · subst hei; rw [hui]; rfl
      · rw [huj v e hei]
        by_cases hji : j = i
        · subst hji
          obtain rfl : o = oj := Option.some.inj (hoi.symm.trans hoj)
          exact hd e he
        · rw [huj v j hji] at hj
          exact hC.cl j oj hoj hj e he
  have none2 : f s1 = none → f s2 = none := fun h1 => by
    cases h2 : f s2 with
    | none => rfl
    | some u => have := h21 (by rw [h2]; rfl); rw [h1] at this; cases this
  have quiet : i ≠ s1 → i ≠ s2 → QOk P o (lexF f (l.take l.length) 0 a) w (vs[i]?.getD undef) → genAt P o (lexF f (l.take l.length) 0 a) w (fun v w' => SwI l (fun i => vs[i]?.getD undef) C0 C1 C2 s1 s2 (upd f i v) w') := by
    intro n1 n2 hq
    have fin : ∀ w', Below w.heap.size w w' → SwI l (fun i => vs[i]?.getD undef) C0 C1 C2 s1 s2 (upd f i (vs[i]?.getD undef)) w' := fun w' hb => by
      refine base _ w' rfl ?_ ?_ ?_
      · rw [huj _ s1 (Ne.symm n1)]; exact fun h => hst0 _ _ (hC.c0 h) hb
      · rw [huj _ s1 (Ne.symm n1), huj _ s2 (Ne.symm n2)]; exact fun h h2 => hst1 _ _ (hC.c1 h h2) hb
      · rw [huj _ s2 (Ne.symm n2)]; exact fun h => hst2 _ _ (hC.c2 h) hb
    unfold genAt
    unfold QOk at hq
    generalize (execOp (lexF f (l.take l.length) 0 a).eval o).run P w = r at hq ⊢
    cases r with
    | ok nx w' =>
      cases nx <;> simp only [qUpon] at hq <;> simp only [genUpon]
      case value u => obtain ⟨rfl, rfl⟩ := hq; exact fin _ (Below.refl _ _)
      case enter g args =>
        obtain ⟨rfl, hc⟩ := hq
        exact ⟨rfl, hc.use.mono fun e w'' ⟨he, hb⟩ => ⟨_, he, fin _ hb⟩⟩
    | halt x w' => simp only [qUpon] at hq
  have hsm' : (execOp (lexF (fun j => some (vs[j]?.getD undef)) (l.take i) 0 a).eval o) = execOp (lexF f (l.take l.length) 0 a).eval o := hsm
  unfold swO at hO
  by_cases h1 : i = s1
  · rw [if_pos h1] at hO
    subst h1
    obtain ⟨w', hr, hc⟩ := hO.2 w (hC.c0 hfi)
    rw [hsm'] at hr
    unfold genAt
    rw [hr]
    simp only [genUpon]
    refine base _ w' hO.1.symm ?_ ?_ ?_
    · rw [hui]; intro h; cases h
    · intro _ _; exact hc
    · rw [huj _ s2 (Ne.symm hne), none2 hfi]; intro h; cases h
  rw [if_neg h1] at hO
  by_cases h2 : i = s2
  · rw [if_pos h2] at hO
    subst h2
    have hs := hcl' i o hoi hd s1 hanc
    obtain ⟨w', hr, hc⟩ := hO.2 w (hC.c1 hs hfi)
    rw [hsm'] at hr
    unfold genAt
    rw [hr]
    simp only [genUpon]
    refine base _ w' hO.1.symm ?_ ?_ ?_
    · rw [huj _ s1 hne]; intro h; rw [h] at hs; cases hs
    · rw [hui]; intro _ h; cases h
    · intro _; exact hc
  rw [if_neg h2] at hO
  refine quiet h1 h2 ?_
  unfold QOk at hO ⊢
  rw [hsm'] at hO
  by_cases h3 : ancB l s1 i = true
  · rw [if_pos h3] at hO
    refine hO w (hC.c0 ?_)
    cases h4 : f s1 with
    | none => rfl
    | some u =>
      exfalso
      have hlt1 := hC.lt s1 (by rw [h4]; rfl)
      have := hcl' s1 _ (List.getElem?_eq_getElem hlt1) (hC.cl s1 _ (List.getElem?_eq_getElem hlt1) (by rw [h4]; rfl)) i h3
      rw [hfi] at this
      cases this
  · rw [if_neg h3] at hO
    exact hO w
/-- **The region's law.** -/
theorem wp_region_sw {id : Nat} {l : List Oper} {C0 C1 C2 : World → Prop} (s1 s2 : Nat) (vs : List Value) (hm : P.follows .mixedOrders = true) (hB : invAllG l = true) (hs2 : Nat.blt s2 l.length = true) (hanc : ancB l s2 s1 = true) (hne : s1 ≠ s2)
    (H0 : C0 w.drew) (hst0 : ∀ w w', C0 w → Below w.heap.size w w' → C0 w') (hst1 : ∀ w w', C1 w → Below w.heap.size w w' → C1 w') (hst2 : ∀ w w', C2 w → Below w.heap.size w w' → C2 w')
    (h : swH P l C0 C1 C2 s1 s2 (fun a w => Q .normal a w) l 0 vs a) : (Code.region id l.toArray true).wp P Q a w := by
  simp only [invAllG, Bool.and_eq_true] at hB
  obtain ⟨h1, h2⟩ := hB
  have hs2' : s2 < l.length := Nat.le_of_ble_eq_true hs2
  refine wp_region_any hm ?_
  have hout : ∀ listed t, l.length ≤ t → t ∉ Region.ready .any l.toArray listed := fun listed t ht hr => by
    obtain ⟨_, o, ho, _⟩ := mem_ready.1 hr
    have := (Array.getElem?_eq_some_iff.1 ho).1
    simp at this; omega
  have := wpAny_gen (Q := Q) (a0 := a) (n := l.length) (C := SwI l (fun i => vs[i]?.getD undef) C0 C1 C2 s1 s2) h1 (Nat.le_refl _)
    (fun i o f w hin hoi hC hfi hd => (SwI.step h1 h2 hst0 hst1 hst2 hs2' hanc hne h i o f w hin hoi hC hfi hd).1) (fun listed i _ _ _ t ht => hout listed t ht)
    (fun listed a w inv hall hl => by
      rw [Nat.sub_self]
      refine ⟨?_, by simpa [wpList] using hl⟩
      cases hr : Region.ready .any l.toArray listed with
      | nil => rfl
      | cons i r =>
        have hi : i ∈ Region.ready .any l.toArray listed := by rw [hr]; simp
        have h3 := (mem_ready.1 hi).1
        rcases Nat.lt_or_ge i l.length with h | h
        · rw [hall i h] at h3; cases h3
        · exact absurd hi (hout listed i h))
    (fun i o f w hin hoi hC hfi hd => (SwI.step h1 h2 hst0 hst1 hst2 hs2' hanc hne h i o f w hin hoi hC hfi hd).2)
    (fun f w hC hall => by
      rw [List.drop_length, List.take_length]
      have e := lexF_same (f := f) (g := fun j => some (vs[j]?.getD undef)) l 0 a fun j hj => by
        rw [Nat.zero_add]
        obtain ⟨v, hv⟩ := Option.isSome_iff_exists.1 (hall j hj)
        rw [hv, hC.val j v hv]
      rw [e]
      have := swH_end (V := fun i => vs[i]?.getD undef) l 0 vs a h (fun i => by rw [Nat.zero_add]) w (hC.c2 (hall s2 hs2'))
      simpa [wpList] using this)
    l.length (fun _ => none) (Array.replicate l.toArray.size false) { w with drawn := w.drawn + 1 } (by simp) (inv0 l l.length) (fun i hi => getD_in (by simp; omega) (getD_replicate_false _ _))
    ⟨fun _ _ h => (by cases h), fun _ h => (by simp at h), fun _ _ _ h => (by simp at h), fun _ => H0, fun h => (by simp at h), fun h => (by simp at h)⟩
  have hz : lexF (fun _ => none) (l.take l.length) 0 a = a := by
    have := lexF_take (f := fun _ => none) (l.take l.length) 0 0 a
    simp [lexF] at this
    rw [List.take_length]
    exact this.symm
  rw [hz, Nat.sub_self, Nat.add_zero] at this
  simpa using this
/-! the steps of the walk -/
section
variable {ops : List Oper} {C0 C1 C2 : World → Prop} {s1 s2 k : Nat} {Rest : Act → World → Prop} {o : Oper} {l : List Oper} {v : Value} {vs : List Value}
/-- an operation that reads -/
theorem sw_r (hw : Region.wanted o (yielded ops.toArray a.tmps) = true) (h1 : Nat.beq k s1 = false) (h2 : Nat.beq k s2 = false) (h3 : ancB ops s1 k = true) (h : ∀ w, C0 w → QOk P o a w v) (n : swH P ops C0 C1 C2 s1 s2 Rest l (k + 1) vs (a.put o.dst v)) :
    swH P ops C0 C1 C2 s1 s2 Rest (o :: l) k (v :: vs) a := by
  refine ⟨hw, ?_, n⟩
  unfold swO
  rw [if_neg (Nat.ne_of_beq_eq_false h1), if_neg (Nat.ne_of_beq_eq_false h2), if_pos h3]
  exact h
/-- an operation that reads no memory -/
theorem sw_v (hw : Region.wanted o (yielded ops.toArray a.tmps) = true) (h1 : Nat.beq k s1 = false) (h2 : Nat.beq k s2 = false) (h : ∀ w, QOk P o a w v) (n : swH P ops C0 C1 C2 s1 s2 Rest l (k + 1) vs (a.put o.dst v)) :
    swH P ops C0 C1 C2 s1 s2 Rest (o :: l) k (v :: vs) a := by
  refine ⟨hw, ?_, n⟩
  unfold swO
  rw [if_neg (Nat.ne_of_beq_eq_false h1), if_neg (Nat.ne_of_beq_eq_false h2)]
  split
  · exact fun w _ => h w
  · exact h
theorem sw_1 (hw : Region.wanted o (yielded ops.toArray a.tmps) = true) (h1 : Nat.beq k s1 = true) (h : ∀ w, C0 w → ∃ w', (execOp a.eval o).run P w = .ok .skip w' ∧ C1 w') (n : swH P ops C0 C1 C2 s1 s2 Rest l (k + 1) vs (a.put o.dst undef)) :
    swH P ops C0 C1 C2 s1 s2 Rest (o :: l) k (undef :: vs) a := by
  refine ⟨hw, ?_, n⟩
  unfold swO
  rw [if_pos (Nat.eq_of_beq_eq_true h1)]
  exact ⟨rfl, h⟩
theorem sw_2 (hw : Region.wanted o (yielded ops.toArray a.tmps) = true) (h1 : Nat.beq k s1 = false) (h2 : Nat.beq k s2 = true) (h : ∀ w, C1 w → ∃ w', (execOp a.eval o).run P w = .ok .skip w' ∧ C2 w') (n : swH P ops C0 C1 C2 s1 s2 Rest l (k + 1) vs (a.put o.dst undef)) :
    swH P ops C0 C1 C2 s1 s2 Rest (o :: l) k (undef :: vs) a := by
  refine ⟨hw, ?_, n⟩
  unfold swO
  rw [if_neg (Nat.ne_of_beq_eq_false h1), if_pos (Nat.eq_of_beq_eq_true h2)]
  exact ⟨rfl, h⟩
end
/-- a store into a row, out of a list of pieces -/
theorem now_storerow {R : Nat → Prop} {w0 w : World} {L M : List Hl} {T E ty : TypeId} {x y : Operand} {pos : String} {aft : Array Edge} {dst : Option Tmp} {gd : Option (Nat × Bool)}
    {g off s n c : Nat} {xs vs : List Value} {u : Value} (H : Hs R w0 L w) (hx : a.eval x = .pointer (some ⟨g, off, none⟩)) (hy : a.eval y = u) (hv : u.cells.toList = vs)
    (up : Upd (Hl.row E s (.slice (some ⟨g, 0, none⟩) n c) n xs) (Hl.row E s (.slice (some ⟨g, 0, none⟩) n c) n (spl xs off vs)) L M)
    (hn : sizeT P T = some vs.length) (hp : 0 < vs.length) (hl : off + vs.length ≤ xs.length) (h1 : vs.all (·.oneCell') = true) :
    ∃ w', (execOp a.eval ⟨dst, .store T x y, ty, pos, aft, gd⟩).run P w = .ok .skip w' ∧ Hs R w0 M w' := by
  obtain ⟨w', hr, ho, hg⟩ := run_storerow (P := P) (T := T) (H.rows up.inL) hv hn hp hl h1
  refine ⟨w', ?_, H.turn up hg ho (fun b hb => .inl hb)⟩
  unfold execOp
  simp only [hx, hy, Instr.storeAt, Instr.sureAddr, Sem.run_bind, Sem.run_pure, Result.andThen_ok, hr]
end
end Go.Proofs.Ytpkoeeafepgphaa
