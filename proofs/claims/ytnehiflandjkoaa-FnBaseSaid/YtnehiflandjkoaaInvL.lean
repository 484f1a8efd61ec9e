/-
  The region's law of Inv over any relation between a world and a later one. Plain theorems; nothing of the program is named.
-/
import Derived.Test.YtnehiflandjkoaaInv
set_option linter.unusedSimpArgs false
set_option linter.unusedVariables false
namespace Go.Proofs.Ytnehiflandjkoaa
namespace L
open Go.RowKit

section
variable {P : Program}

/-- What one operation yields in a world: a value that Φ holds of, and a world that is later. -/
def growUpon (P : Program) (L : World → World → Prop) (w : World) (Φ : Value → World → Prop) : Result Next → Prop
  | .ok (.value u) w' => L w w' ∧ Φ u w'
  | .ok .skip w' => L w w' ∧ Φ undef w'
  | .ok (.enter f args) w' => w' = w ∧ Calls P f args w (fun e w'' => ∃ v, e = .returned v ∧ L w w'' ∧ Φ v w'')
  | _ => False
def growAt (P : Program) (L : World → World → Prop) (o : Oper) (a : Act) (w : World) (Φ : Value → World → Prop) : Prop := growUpon P L w Φ ((execOp a.eval o).run P w)

/-- the walk in the order of the text -/
def wpInv (P : Program) (L : World → World → Prop) (C : World → Prop) (Φs : List (Value → World → Prop)) (R : Act → World → Prop) (vs : Nat → Value) : List Oper → Nat → Act → Prop
  | [], k, a => ∀ w, C w → (∀ i, i < k → known Φs i (vs i) w) → R a w
  | o :: l, k, a => (∀ w, C w → (∀ i ∈ deps o, known Φs i (vs i) w) → growAt P L o a w (known Φs k)) ∧ wpInv P L C Φs R vs l (k + 1) (a.put o.dst (vs k))

theorem wpInv_at {L : World → World → Prop} {C : World → Prop} {Φs : List (Value → World → Prop)} {R : Act → World → Prop} {vs : Nat → Value} : ∀ (l : List Oper) (k j : Nat) (o : Oper) (a : Act), wpInv P L C Φs R vs l k a → l[j]? = some o →
    ∀ w, C w → (∀ i ∈ deps o, known Φs i (vs i) w) → growAt P L o (lexF (fun i => some (vs i)) (l.take j) k a) w (known Φs (k + j))
  | [], _, _, _, _, _, h => by simp at h
  | o :: l, k, 0, o', a, h, ho => by
    have : o = o' := by simpa using ho
    subst this
    exact h.1
  | o :: l, k, j + 1, o', a, h, ho => by
    have := wpInv_at l (k + 1) j o' _ h.2 (by simpa using ho)
    rw [show k + (j + 1) = k + 1 + j by omega]
    exact this
theorem wpInv_end {L : World → World → Prop} {C : World → Prop} {Φs : List (Value → World → Prop)} {R : Act → World → Prop} {vs : Nat → Value} : ∀ (l : List Oper) (k : Nat) (a : Act), wpInv P L C Φs R vs l k a →
    ∀ w, C w → (∀ i, i < k + l.length → known Φs i (vs i) w) → R (lexF (fun i => some (vs i)) l k a) w
  | [], k, a, h => h
  | o :: l, k, a, h => by
    have := wpInv_end l (k + 1) _ h.2
    rw [show k + (o :: l).length = k + 1 + l.length by simp; omega]
    exact this

/-- whatever order is picked: the values are known, the world is later -/
theorem wpAny_of_inv {L : World → World → Prop} {l : List Oper} {n : Nat} {C : World → Prop} {Φs : List (Value → World → Prop)} {Q : Exit → Act → World → Prop} {a0 : Act}
    (hB : headB l n = true) (hsel : Region.noSelect l.toArray = true) (hn : n ≤ l.length)
    (hwait : ∀ listed i, HeadInv .any l.toArray n listed → i < n → listed.getD i true = false → ∀ t, n ≤ t → t ∉ Region.ready .any l.toArray listed)
    (hC : ∀ w w', C w → L w w' → C w') (hΦ : ∀ i v w w', known Φs i v w → L w w' → known Φs i v w')
    (hend : ∀ listed a w, HeadInv .any l.toArray n listed → (∀ i, i < n → listed.getD i true = true) → wpList P l.toArray Q (l.drop n) a w → wpAny P .any l.toArray Q (l.length - n) listed a w)
    (h : ∀ vs, wpInv P L C Φs (fun a w => wpList P l.toArray Q (l.drop n) a w) vs (l.take n) 0 a0) :
    ∀ (m : Nat) (f : Nat → Option Value) (listed : Array Bool) (w : World), (List.range n).countP (fun j => (f j).isNone) = m → HeadInv .any l.toArray n listed →
      (∀ i, i < n → listed.getD i true = (f i).isSome) → C w → (∀ i, i < n → ∀ v, f i = some v → known Φs i v w) →
      wpAny P .any l.toArray Q (m + (l.length - n)) listed (lexF f (l.take n) 0 a0) w := by
  intro m
  induction m with
  | zero =>
    intro f listed w hm inv hl hw hk
    have hall : ∀ i, i < n → f i = some ((f i).getD undef) := fun i hi => by
      have h1 := List.countP_eq_zero.1 hm i (List.mem_range.2 hi)
      cases hfi : f i with
      | none => simp [hfi] at h1
      | some v => rfl
    rw [Nat.zero_add]
    refine hend listed _ w inv (fun i hi => by rw [hl i hi, hall i hi]; rfl) ?_
    have he := wpInv_end (l.take n) 0 a0 (h fun i => (f i).getD undef) w hw (fun i hi => by
      have hi' : i < n := by simp at hi; omega
      exact hk i hi' _ (hall i hi'))
    rw [lexF_same (f := f) (g := fun i => some ((f i).getD undef)) (l.take n) 0 a0 fun j hj => by
      rw [Nat.zero_add]; exact hall j (by simp at hj; omega)]
    exact he
  | succ m ih =>
    intro f listed w hm inv hl hw hk
    have hex : ∃ i, i < n ∧ f i = none := by
      have : 0 < (List.range n).countP (fun j => (f j).isNone) := by omega
      obtain ⟨i, hi, hfi⟩ := List.countP_pos_iff.1 this
      exact ⟨i, List.mem_range.1 hi, by simpa using hfi⟩
    obtain ⟨i0, hi0, hf0, hmin⟩ := first_none hex
    obtain ⟨o0, ho0, _, hdep0, _⟩ := headB_spec hB hi0
    have hr0 : i0 ∈ Region.ready .any l.toArray listed := by
      refine mem_ready.2 ⟨by rw [hl i0 hi0, hf0]; rfl, o0, by simpa using ho0, fun e he hb => ?_⟩
      have hlt : e.on < i0 := hdep0 e.on (List.mem_map.2 ⟨e, List.mem_filter.2 ⟨by simpa using he, hb⟩, rfl⟩)
      have h1 := hl e.on (by omega)
      have h2 : (f e.on).isSome = true := by
        have := hmin e.on hlt
        cases hfe : f e.on with
        | none => exact absurd hfe this
        | some v => rfl
      rw [h2] at h1
      have hs : e.on < listed.size := by rw [inv.size]; simp; omega
      simp [hs] at h1 ⊢
      exact h1
    rw [show m + 1 + (l.length - n) = m + (l.length - n) + 1 by omega]
    refine ⟨fun h0 => (by rw [h0] at hr0; cases hr0), fun i hi => ?_⟩
    have hin : i < n := by
      rcases Nat.lt_or_ge i n with h | h
      · exact h
      · exact absurd hi (hwait listed i0 inv hi0 (by rw [hl i0 hi0, hf0]; rfl) i h)
    obtain ⟨hun, oi, hoi, hall⟩ := mem_ready.1 hi
    have hfi : f i = none := by
      rw [hl i hin] at hun
      simpa using hun
    obtain ⟨oi', hoi', hg, hdep, hlook⟩ := headB_spec hB hin
    have hoo : l[i]? = some oi := by simpa using hoi
    obtain rfl : oi' = oi := Option.some.inj (hoi'.symm.trans hoo)
    have hti : (l.take n)[i]? = some oi' := by rw [List.getElem?_take, if_pos hin]; exact hoo
    have hdone : ∀ e ∈ deps oi', e < n ∧ f e = some ((f e).getD undef) := fun e he => by
      have hlt := hdep e he
      have hen : e < n := by omega
      refine ⟨hen, ?_⟩
      obtain ⟨ed, hed, rfl⟩ := List.mem_map.1 he
      obtain ⟨hed, hb⟩ := List.mem_filter.1 hed
      have h1 := hall ed (by simpa using hed) hb
      have h2 := hl ed.on hen
      have hs : ed.on < listed.size := by rw [inv.size]; simp; omega
      simp only [Array.getD, hs, dite_true] at h1 h2
      rw [h1] at h2
      cases hfe : f ed.on with
      | none => rw [hfe] at h2; cases h2
      | some v => rfl
    have hgrow := wpInv_at (l.take n) 0 i oi' a0 (h fun i => (f i).getD undef) hti w hw (fun e he => hk e (hdone e he).1 _ (hdone e he).2)
    have hsame : execOp (lexF (fun i => some ((f i).getD undef)) ((l.take n).take i) 0 a0).eval oi' = execOp (lexF f (l.take n) 0 a0).eval oi' := by
      refine execOp_congr oi' (fun cs b => Region.noSelect_spec hsel i oi' cs b hoi) fun x hx => ?_
      cases x with
      | tmp t =>
        rw [lexF_take]
        refine lexF_eval (l.take n) 0 a0 a0 rfl rfl fun j o hj ht => ?_
        have hjn : j < n := by
          have := (List.getElem?_eq_some_iff.1 hj).1
          simp at this; omega
        have hj' : l[j]? = some o := by rw [List.getElem?_take, if_pos hjn] at hj; exact hj
        have hm : t ∈ oi'.looksAt l.toArray := List.mem_append_left _ (List.mem_filterMap.2 ⟨.tmp t, by simpa using hx, rfl⟩)
        have hd := (hlook j o t hjn hj' ht).2 hm
        rw [Nat.zero_add, Nat.zero_add, if_pos (hdep j hd)]
        exact (hdone j hd).2.symm
      | _ => rfl
    rw [Nat.zero_add] at hgrow
    unfold growAt at hgrow
    rw [hsame] at hgrow
    have hnext : ∀ v w', C w' → L w w' → known Φs i v w' → wpAny P .any l.toArray Q (m + (l.length - n)) (listed.setIfInBounds i true) ((lexF f (l.take n) 0 a0).put oi'.dst v) w' := by
      intro v w' hw' hb hv
      have hu := lexF_upd (f := f) (v := v) (l.take n) 0 i a0 hti (by rw [Nat.zero_add]; exact hfi) (fun p op hp hne t ht => by
        have hpn : p < n := by
          have := (List.getElem?_eq_some_iff.1 hp).1
          simp at this; omega
        have hp' : l[p]? = some op := by rw [List.getElem?_take, if_pos hpn] at hp; exact hp
        intro hpt
        exact (hlook p op t hpn hp' hpt).1 hne ht)
      rw [Nat.zero_add] at hu
      rw [← hu]
      refine ih (upd f i v) (listed.setIfInBounds i true) w' ?_ (inv.set hi hin) ?_ hw' ?_
      · have := count_upd v hfi (List.range n) List.nodup_range (List.mem_range.2 hin)
        omega
      · intro j hj
        have hs : i < listed.size := by rw [inv.size]; simp; omega
        by_cases hji : j = i
        · subst hji
          simp [upd, hs]
        · rw [getD_set_ne true (Ne.symm hji), hl j hj]
          unfold upd; rw [if_neg hji]
      · intro j hj u hu
        by_cases hji : j = i
        · subst hji
          have : v = u := by simpa [upd] using hu
          exact this ▸ hv
        · unfold upd at hu; rw [if_neg hji] at hu
          exact hΦ j u w w' (hk j hj u hu) hb
    unfold wpOp
    simp only [hoi]
    have hwant : Region.wanted oi' (yielded l.toArray (lexF f (l.take n) 0 a0).tmps) = true := by
      unfold Region.wanted; rw [hg]
    rw [if_pos hwant]
    refine .inl ?_
    unfold Oper.wp
    generalize (execOp (lexF f (l.take n) 0 a0).eval oi').run P w = r at hgrow ⊢
    cases r with
    | ok nx w' =>
      cases nx <;> simp only [growUpon] at hgrow <;> simp only [Oper.upon]
      case value u => exact hnext u w' (hC w w' hw hgrow.1) hgrow.1 hgrow.2
      case skip => exact hnext undef w' (hC w w' hw hgrow.1) hgrow.1 hgrow.2
      case enter g args =>
        obtain ⟨rfl, hc⟩ := hgrow
        exact hc.mono fun e w'' ⟨v, he, hb, hv⟩ => by subst he; exact hnext v w'' (hC _ _ hw hb) hb hv
    | halt x w' => simp only [growUpon] at hgrow

theorem known_of {L : World → World → Prop} {Φs : List (Value → World → Prop)} (h : ∀ Φ ∈ Φs, ∀ v w w', Φ v w → L w w' → Φ v w') : ∀ i v w w', known Φs i v w → L w w' → known Φs i v w' := by
  intro i v w w' hk hb
  unfold known at hk ⊢
  cases hi : Φs[i]? with
  | none => trivial
  | some Φ => rw [hi] at hk; exact h Φ (List.mem_of_getElem? hi) v w w' hk hb

/-- A region that draws its order: a head whose operations only add memory, walked once in the order of the text; a tail that comes last. -/
theorem wp_region_inv {L : World → World → Prop} {id : Nat} {Q : Exit → Act → World → Prop} {a : Act} {w : World} {l : List Oper} (n : Nat) (Φs : List (Value → World → Prop)) (hL : ∀ a b c, L a b → L b c → L a c) (h0 : L w w.drew) (hm : P.follows .mixedOrders = true) (hB : invB l n = true)
    (hΦ : ∀ Φ ∈ Φs, ∀ v w w', Φ v w → L w w' → Φ v w')
    (h : ∀ vs, wpInv P L (fun w' => L w w') Φs (fun a w => wpList P l.toArray Q (l.drop n) a w) vs (l.take n) 0 a) : (Code.region id l.toArray true).wp P Q a w := by
  simp only [invB, Bool.and_eq_true, decide_eq_true_eq] at hB
  obtain ⟨⟨⟨⟨⟨h1, h2⟩, h3⟩, h4⟩, h5⟩, h6⟩ := hB
  refine wp_region_any hm ?_
  have hsz : l.toArray.size = n + (l.length - n) := by simp; omega
  have := wpAny_of_inv (Φs := Φs) (Q := Q) (a0 := a) h1 h2 (by omega) (fun listed i inv hi hun => tail_waits h4 h5 (by simpa using h3) inv _ i rfl hi hun) (fun w1 w2 hb hb2 => hL _ _ _ hb hb2) (known_of hΦ)
    (fun listed a w inv hall hl => by
      have := wpAny_of_seq (md := .any) (Q' := Q) (l.drop n) n listed a w (fun j => by simp [List.getElem?_drop]) (by rw [listed_eq inv hall (by omega), List.length_drop]; exact h6) hl
      rwa [List.length_drop] at this)
    h n (fun _ => none) (Array.replicate l.toArray.size false) { w with drawn := w.drawn + 1 } (by simp) (inv0 l n) (fun i hi => getD_in (by simp; omega) (getD_replicate_false _ _)) h0 (fun i _ v hv => by cases hv)
  rw [hsz, ← hsz]
  rw [hsz]
  have hz : lexF (fun _ => none) (l.take n) 0 a = a := by
    have := lexF_take (f := fun _ => none) (l.take n) 0 0 a
    simp [lexF] at this
    exact this.symm
  rw [hz] at this
  rw [hsz] at this
  exact this
/-- .. all of it. -/
theorem wp_region_invs {L : World → World → Prop} {id : Nat} {Q : Exit → Act → World → Prop} {a : Act} {w : World} {l : List Oper} (Φs : List (Value → World → Prop)) (hL : ∀ a b c, L a b → L b c → L a c) (h0 : L w w.drew) (hm : P.follows .mixedOrders = true) (hB : invAllB l = true)
    (hΦ : ∀ Φ ∈ Φs, ∀ v w w', Φ v w → L w w' → Φ v w')
    (h : ∀ vs, wpInv P L (fun w' => L w w') Φs (fun a w => Q .normal a w) vs l 0 a) : (Code.region id l.toArray true).wp P Q a w := by
  simp only [invAllB, Bool.and_eq_true] at hB
  obtain ⟨h1, h2⟩ := hB
  refine wp_region_any hm ?_
  have hout : ∀ listed t, l.length ≤ t → t ∉ Region.ready .any l.toArray listed := fun listed t ht hr => by
    obtain ⟨_, o, ho, _⟩ := mem_ready.1 hr
    have := (Array.getElem?_eq_some_iff.1 ho).1
    simp at this; omega
  have := wpAny_of_inv (Φs := Φs) (Q := Q) (a0 := a) (n := l.length) h1 h2 (Nat.le_refl _) (fun listed i _ _ _ t ht => hout listed t ht) (fun w1 w2 hb hb2 => hL _ _ _ hb hb2) (known_of hΦ)
    (fun listed a w inv hall hl => by
      rw [Nat.sub_self]
      refine ⟨?_, by simpa [wpList] using hl⟩
      cases hr : Region.ready .any l.toArray listed with
      | nil => rfl
      | cons i r =>
        have hi : i ∈ Region.ready .any l.toArray listed := by rw [hr]; simp
        have h3 := (mem_ready.1 hi).1
        rcases Nat.lt_or_ge i l.length with h | h
        · rw [hall i h] at h3; cases h3
        · exact absurd hi (hout listed i h))
    (by simpa [wpList] using h) l.length (fun _ => none) (Array.replicate l.toArray.size false) { w with drawn := w.drawn + 1 } (by simp) (inv0 l _) (fun i hi => getD_in (by simp; omega) (getD_replicate_false _ _)) h0 (fun i _ v hv => by cases hv)
  have hz : lexF (fun _ => none) (l.take l.length) 0 a = a := by
    have := lexF_take (f := fun _ => none) (l.take l.length) 0 0 a
    simp [lexF] at this
    simpa using this.symm
  rw [hz, Nat.sub_self, Nat.add_zero] at this
  simpa using this

/-- the same walk, the head by its length -/
def wpGrow (P : Program) (L : World → World → Prop) (C : World → Prop) (Φs : List (Value → World → Prop)) (ops : Array Oper) (Q : Exit → Act → World → Prop) (vs : Nat → Value) : Nat → List Oper → Nat → Act → Prop
  | 0, l, k, a => ∀ w, C w → (∀ i, i < k → known Φs i (vs i) w) → wpList P ops Q l a w
  | _ + 1, [], _, _ => False
  | n + 1, o :: l, k, a => (∀ w, C w → (∀ i ∈ deps o, known Φs i (vs i) w) → growAt P L o a w (known Φs k)) ∧ wpGrow P L C Φs ops Q vs n l (k + 1) (a.put o.dst (vs k))
theorem wpInv_of_grow {L : World → World → Prop} {C : World → Prop} {Φs : List (Value → World → Prop)} {ops : Array Oper} {Q : Exit → Act → World → Prop} {vs : Nat → Value} : ∀ (n : Nat) (l : List Oper) (k : Nat) (a : Act),
    wpGrow P L C Φs ops Q vs n l k a → wpInv P L C Φs (fun a w => wpList P ops Q (l.drop n) a w) vs (l.take n) k a
  | 0, _, _, _, h => h
  | _ + 1, [], _, _, h => h.elim
  | n + 1, _ :: l, k, _, h => ⟨h.1, wpInv_of_grow n l (k + 1) _ h.2⟩
theorem wpGrow_step {L : World → World → Prop} {C : World → Prop} {Φs : List (Value → World → Prop)} {ops : Array Oper} {Q : Exit → Act → World → Prop} {vs : Nat → Value} {n k : Nat} {o : Oper} {l : List Oper} {a : Act} {Φ : Value → World → Prop} (e : Φs[k]? = some Φ)
    (h1 : ∀ w, C w → (∀ i ∈ deps o, known Φs i (vs i) w) → growAt P L o a w Φ) (h2 : wpGrow P L C Φs ops Q vs n l (k + 1) (a.put o.dst (vs k))) : wpGrow P L C Φs ops Q vs (n + 1) (o :: l) k a := ⟨by rw [known_get e]; exact h1, h2⟩
def Stays (L : World → World → Prop) (Φ : Value → World → Prop) : Prop := ∀ v w w', Φ v w → L w w' → Φ v w'
def AllStay (L : World → World → Prop) (Φs : List (Value → World → Prop)) : Prop := ∀ Φ ∈ Φs, Stays L Φ
theorem AllStay.nil {L : World → World → Prop} : AllStay L [] := fun _ h => by simp at h
theorem AllStay.cons {L : World → World → Prop} {Φ : Value → World → Prop} {Φs : List (Value → World → Prop)} (h : Stays L Φ) (hs : AllStay L Φs) : AllStay L (Φ :: Φs) := fun Ψ hm => by
  rcases List.mem_cons.1 hm with rfl | hm
  · exact h
  · exact hs Ψ hm
/-- **The region's law.** n: how many operations come before the tail. -/
theorem wp_region_grow {L : World → World → Prop} {id : Nat} {Q : Exit → Act → World → Prop} {a : Act} {w : World} {l : List Oper} (n : Nat) (Φs : List (Value → World → Prop)) (hL : ∀ a b c, L a b → L b c → L a c) (h0 : L w w.drew) (hm : P.follows .mixedOrders = true) (hB : invB l n = true)
    (hΦ : AllStay L Φs) (h : ∀ vs, wpGrow P L (fun w' => L w w') Φs l.toArray Q vs n l 0 a) : (Code.region id l.toArray true).wp P Q a w :=
  wp_region_inv n Φs hL h0 hm hB hΦ fun vs => wpInv_of_grow n l 0 a (h vs)
theorem wp_region_grows {L : World → World → Prop} {id : Nat} {Q : Exit → Act → World → Prop} {a : Act} {w : World} {l : List Oper} (n : Nat) (Φs : List (Value → World → Prop)) (hL : ∀ a b c, L a b → L b c → L a c) (h0 : L w w.drew) (hm : P.follows .mixedOrders = true) (hB : invAllB l = true) (hn : l.length = n)
    (hΦ : AllStay L Φs) (h : ∀ vs, wpGrow P L (fun w' => L w w') Φs l.toArray Q vs n l 0 a) : (Code.region id l.toArray true).wp P Q a w :=
  wp_region_invs Φs hL h0 hm hB hΦ fun vs => by
    have := wpInv_of_grow n l 0 a (h vs)
    subst hn
    simpa [wpList] using this

end
end L
end Go.Proofs.Ytnehiflandjkoaa
