/-
  The region's law of Inv over any relation between a world and a later one. Plain theorems; nothing of the program is named.
-/
import Derived.Test.YtfblolkkajppcaaGreatDoorG3
import Derived.Test.YtfblolkkajppcaaGreatDoorG1
import Derived.StillTailTactics
import Derived.Deep.DeepCutAuto
import Derived.Laws.BitsAllLaws
import Derived.Laws.AppendOwn
import Derived.BigRegion
set_option linter.unusedSimpArgs false
set_option linter.unusedVariables false
namespace Go.Proofs.YtfblolkkajppcaaGreatDoor
namespace L
open Go.RowKit

section
variable {P : Program}

/-- What one operation yields in a world: a value that Φ holds of, and a world that is later. -/
def growUpon (P : Program) (L : World → World → Prop) (w : World) (Φ : Value → World → Prop) : Result Next → Prop
  | .ok (.value u) w' => L w w' ∧ Φ u w'
  | .ok .skip w' => L w w' ∧ Φ undef w'
  | .ok (.enter f args) w' => w' = w ∧ Calls P f args w (fun e w'' => ∃ v, e = .returned v ∧ L w w'' ∧ Φ v w'')
  | _ => False
def growAt (P : Program) (L : World → World → Prop) (o : Oper) (a : Act) (w : World) (Φ : Value → World → Prop) : Prop := growUpon P L w Φ ((execOp a.eval o).run P w)

/-- the walk in the order of the text -/
def wpInv (P : Program) (L : World → World → Prop) (C : World → Prop) (Φs : List (Value → World → Prop)) (R : Act → World → Prop) (vs : Nat → Value) : List Oper → Nat → Act → Prop
  | [], k, a => ∀ w, C w → (∀ i, i < k → known Φs i (vs i) w) → R a w
  | o :: l, k, a => (∀ w, C w → (∀ i ∈ deps o, known Φs i (vs i) w) → growAt P L o a w (known Φs k)) ∧ wpInv P L C Φs R vs l (k + 1) (a.put o.dst (vs k))

theorem wpInv_at {L : World → World → Prop} {C : World → Prop} {Φs : List (Value → World → Prop)} {R : Act → World → Prop} {vs : Nat → Value} : ∀ (l : List Oper) (k j : Nat) (o : Oper) (a : Act), wpInv P L C Φs R vs l k a → l[j]? = some o →
    ∀ w, C w → (∀ i ∈ deps o, known Φs i (vs i) w) → growAt P L o (lexF (fun i => some (vs i)) (l.take j) k a) w (known Φs (k + j))
  | [], _, _, _, _, _, h => by simp at h
  | o :: l, k, 0, o', a, h, ho => by
    have : o = o' := by simpa using ho
    subst this
    exact h.1
  | o :: l, k, j + 1, o', a, h, ho => by
    have := wpInv_at l (k + 1) j o' _ h.2 (by simpa using ho)
    rw [show k + (j + 1) = k + 1 + j by omega]
    exact this
theorem wpInv_end {L : World → World → Prop} {C : World → Prop} {Φs : List (Value → World → Prop)} {R : Act → World → Prop} {vs : Nat → Value} : ∀ (l : List Oper) (k : Nat) (a : Act), wpInv P L C Φs R vs l k a →
    ∀ w, C w → (∀ i, i < k + l.length → known Φs i (vs i) w) → R (lexF (fun i => some (vs i)) l k a) w
  | [], k, a, h => h
  | o :: l, k, a, h => by
    have := wpInv_end l (k + 1) _ h.2
    rw [show k + (o :: l).length = k + 1 + l.length by simp; omega]
    exact this

/-- whatever order is picked: the values are known, the world is later -/
theorem wpAny_of_inv {L : World → World → Prop} {l : List Oper} {n : Nat} {C : World → Prop} {Φs : List (Value → World → Prop)} {Q : Exit → Act → World → Prop} {a0 : Act}
    (hB : headB l n = true) (hsel : Region.noSelect l.toArray = true) (hn : n ≤ l.length)
    (hwait : ∀ listed i, HeadInv .any l.toArray n listed → i < n → listed.getD i true = false → ∀ t, n ≤ t → t ∉ Region.ready .any l.toArray listed)
    (hC : ∀ w w', C w → L w w' → C w') (hΦ : ∀ i v w w', known Φs i v w → L w w' → known Φs i v w')
    (hend : ∀ listed a w, HeadInv .any l.toArray n listed → (∀ i, i < n → listed.getD i true = true) → wpList P l.toArray Q (l.drop n) a w → wpAny P .any l.toArray Q (l.length - n) listed a w)
    (h : ∀ vs, wpInv P L C Φs (fun a w => wpList P l.toArray Q (l.drop n) a w) vs (l.take n) 0 a0) :
    ∀ (m : Nat) (f : Nat → Option Value) (listed : Array Bool) (w : World), (List.range n).countP (fun j => (f j).isNone) = m → HeadInv .any l.toArray n listed →
      (∀ i, i < n → listed.getD i true = (f i).isSome) → C w → (∀ i, i < n → ∀ v, f i = some v → known Φs i v w) →
      wpAny P .any l.toArray Q (m + (l.length - n)) listed (lexF f (l.take n) 0 a0) w := by
  intro m
  induction m with
  | zero =>
    intro f listed w hm inv hl hw hk
    have hall : ∀ i, i < n → f i = some ((f i).getD undef) := fun i hi => by
      have h1 := List.countP_eq_zero.1 hm i (List.mem_range.2 hi)
      cases hfi : f i with
      | none => simp [hfi] at h1
      | some v => rfl
    rw [Nat.zero_add]
    refine hend listed _ w inv (fun i hi => by rw [hl i hi, hall i hi]; rfl) ?_
    have he := wpInv_end (l.take n) 0 a0 (h fun i => (f i).getD undef) w hw (fun i hi => by
      have hi' : i < n := by simp at hi; omega
      exact hk i hi' _ (hall i hi'))
    rw [lexF_same (f := f) (g := fun i => some ((f i).getD undef)) (l.take n) 0 a0 fun j hj => by
      rw [Nat.zero_add]; exact hall j (by simp at hj; omega)]
    exact he
  | succ m ih =>
    intro f listed w hm inv hl hw hk
    have hex : ∃ i, i < n ∧ f i = none := by
      have : 0 < (List.range n).countP (fun j => (f j).isNone) := by omega
      obtain ⟨i, hi, hfi⟩ := List.countP_pos_iff.1 this
      exact ⟨i, List.mem_range.1 hi, by simpa using hfi⟩
    obtain ⟨i0, hi0, hf0, hmin⟩ := first_none hex
    obtain ⟨o0, ho0, _, hdep0, _⟩ := headB_spec hB hi0
    have hr0 : i0 ∈ Region.ready .any l.toArray listed := by
      refine mem_ready.2 ⟨by rw [hl i0 hi0, hf0]; rfl, o0, by simpa using ho0, fun e he hb => ?_⟩
      have hlt : e.on < i0 := hdep0 e.on (List.mem_map.2 ⟨e, List.mem_filter.2 ⟨by simpa using he, hb⟩, rfl⟩)
      have h1 := hl e.on (by omega)
      have h2 : (f e.on).isSome = true := by
        have := hmin e.on hlt
        cases hfe : f e.on with
        | none => exact absurd hfe this
        | some v => rfl
      rw [h2] at h1
      have hs : e.on < listed.size := by rw [inv.size]; simp; omega
      simp [hs] at h1 ⊢
      exact h1
    rw [show m + 1 + (l.length - n) = m + (l.length - n) + 1 by omega]
    refine ⟨fun h0 => (by rw [h0] at hr0; cases hr0), fun i hi => ?_⟩
    have hin : i < n := by
      rcases Nat.lt_or_ge i n with h | h
      · exact h
      · exact absurd hi (hwait listed i0 inv hi0 (by rw [hl i0 hi0, hf0]; rfl) i h)
    obtain ⟨hun, oi, hoi, hall⟩ := mem_ready.1 hi
    have hfi : f i = none := by
      rw [hl i hin] at hun
      simpa using hun
    obtain ⟨oi', hoi', hg, hdep, hlook⟩ := headB_spec hB hin
    have hoo : l[i]? = some oi := by simpa using hoi
    obtain rfl : oi' = oi := Option.some.inj (hoi'.symm.trans hoo)
    have hti : (l.take n)[i]? = some oi' := by rw [List.getElem?_take, if_pos hin]; exact hoo
    have hdone : ∀ e ∈ deps oi', e < n ∧ f e = some ((f e).getD undef) := fun e he => by
      have hlt := hdep e he
      have hen : e < n := by omega
      refine ⟨hen, ?_⟩
      obtain ⟨ed, hed, rfl⟩ := List.mem_map.1 he
      obtain ⟨hed, hb⟩ := List.mem_filter.1 hed
      have h1 := hall ed (by simpa using hed) hb
      have h2 := hl ed.on hen
      have hs : ed.on < listed.size := by rw [inv.size]; simp; omega
      simp only [Array.getD, hs, dite_true] at h1 h2
      rw [h1] at h2
      cases hfe : f ed.on with
      | none => rw [hfe] at h2; cases h2
      | some v => rfl
    have hgrow := wpInv_at (l.take n) 0 i oi' a0 (h fun i => (f i).getD undef) hti w hw (fun e he => hk e (hdone e he).1 _ (hdone e he).2)
    have hsame : execOp (lexF (fun i => some ((f i).getD undef)) ((l.take n).take i) 0 a0).eval oi' = execOp (lexF f (l.take n) 0 a0).eval oi' := by
      refine execOp_congr oi' (fun cs b => Region.noSelect_spec hsel i oi' cs b hoi) fun x hx => ?_
      cases x with
      | tmp t =>
        rw [lexF_take]
        refine lexF_eval (l.take n) 0 a0 a0 rfl rfl fun j o hj ht => ?_
        have hjn : j < n := by
          have := (List.getElem?_eq_some_iff.1 hj).1
          simp at this; omega
        have hj' : l[j]? = some o := by rw [List.getElem?_take, if_pos hjn] at hj; exact hj
        have hm : t ∈ oi'.looksAt l.toArray := List.mem_append_left _ (List.mem_filterMap.2 ⟨.tmp t, by simpa using hx, rfl⟩)
        have hd := (hlook j o t hjn hj' ht).2 hm
        rw [Nat.zero_add, Nat.zero_add, if_pos (hdep j hd)]
        exact (hdone j hd).2.symm
      | _ => rfl
    rw [Nat.zero_add] at hgrow
    unfold growAt at hgrow
    rw [hsame] at hgrow
    have hnext : ∀ v w', C w' → L w w' → known Φs i v w' → wpAny P .any l.toArray Q (m + (l.length - n)) (listed.setIfInBounds i true) ((lexF f (l.take n) 0 a0).put oi'.dst v) w' := by
      intro v w' hw' hb hv
      have hu := lexF_upd (f := f) (v := v) (l.take n) 0 i a0 hti (by rw [Nat.zero_add]; exact hfi) (fun p op hp hne t ht => by
        have hpn : p < n := by
          have := (List.getElem?_eq_some_iff.1 hp).1
          simp at this; omega
        have hp' : l[p]? = some op := by rw [List.getElem?_take, if_pos hpn] at hp; exact hp
        intro hpt
        exact (hlook p op t hpn hp' hpt).1 hne ht)
      rw [Nat.zero_add] at hu
      rw [← hu]
      refine ih (upd f i v) (listed.setIfInBounds i true) w' ?_ (inv.set hi hin) ?_ hw' ?_
      · have := count_upd v hfi (List.range n) List.nodup_range (List.mem_range.2 hin)
        omega
      · intro j hj
        have hs : i < listed.size := by rw [inv.size]; simp; omega
        by_cases hji : j = i
        · subst hji
          simp [upd, hs]
        · rw [getD_set_ne true (Ne.symm hji), hl j hj]
          unfold upd; rw [if_neg hji]
      · intro j hj u hu
        by_cases hji : j = i
        · subst hji
          have : v = u := by simpa [upd] using hu
          exact this ▸ hv
        · unfold upd at hu; rw [if_neg hji] at hu
          exact hΦ j u w w' (hk j hj u hu) hb
    unfold wpOp
    simp only [hoi]
    have hwant : Region.wanted oi' (yielded l.toArray (lexF f (l.take n) 0 a0).tmps) = true := by
      unfold Region.wanted; rw [hg]
    rw [if_pos hwant]
    refine .inl ?_
    unfold Oper.wp
    generalize (execOp (lexF f (l.take n) 0 a0).eval oi').run P w = r at hgrow ⊢
    cases r with
    | ok nx w' =>
      cases nx <;> simp only [growUpon] at hgrow <;> simp only [Oper.upon]
      case value u => exact hnext u w' (hC w w' hw hgrow.1) hgrow.1 hgrow.2
      case skip => exact hnext undef w' (hC w w' hw hgrow.1) hgrow.1 hgrow.2
      case enter g args =>
        obtain ⟨rfl, hc⟩ := hgrow
        exact hc.mono fun e w'' ⟨v, he, hb, hv⟩ => by subst he; exact hnext v w'' (hC _ _ hw hb) hb hv
    | halt x w' => simp only [growUpon] at hgrow

theorem known_of {L : World → World → Prop} {Φs : List (Value → World → Prop)} (h : ∀ Φ ∈ Φs, ∀ v w w', Φ v w → L w w' → Φ v w') : ∀ i v w w', known Φs i v w → L w w' → known Φs i v w' := by
  intro i v w w' hk hb
  unfold known at hk ⊢
  cases hi : Φs[i]? with
  | none => trivial
  | some Φ => rw [hi] at hk; exact h Φ (List.mem_of_getElem? hi) v w w' hk hb

/-- A region that draws its order: a head whose operations only add memory, walked once in the order of the text; a tail that comes last. -/
theorem wp_region_inv {L : World → World → Prop} {id : Nat} {Q : Exit → Act → World → Prop} {a : Act} {w : World} {l : List Oper} (n : Nat) (Φs : List (Value → World → Prop)) (hL : ∀ a b c, L a b → L b c → L a c) (h0 : L w w.drew) (hm : P.follows .mixedOrders = true) (hB : invB l n = true)
    (hΦ : ∀ Φ ∈ Φs, ∀ v w w', Φ v w → L w w' → Φ v w')
    (h : ∀ vs, wpInv P L (fun w' => L w w') Φs (fun a w => wpList P l.toArray Q (l.drop n) a w) vs (l.take n) 0 a) : (Code.region id l.toArray true).wp P Q a w := by
  simp only [invB, Bool.and_eq_true, decide_eq_true_eq] at hB
  obtain ⟨⟨⟨⟨⟨h1, h2⟩, h3⟩, h4⟩, h5⟩, h6⟩ := hB
  refine wp_region_any hm ?_
  have hsz : l.toArray.size = n + (l.length - n) := by simp; omega
  have := wpAny_of_inv (Φs := Φs) (Q := Q) (a0 := a) h1 h2 (by omega) (fun listed i inv hi hun => tail_waits h4 h5 (by simpa using h3) inv _ i rfl hi hun) (fun w1 w2 hb hb2 => hL _ _ _ hb hb2) (known_of hΦ)
    (fun listed a w inv hall hl => by
      have := wpAny_of_seq (md := .any) (Q' := Q) (l.drop n) n listed a w (fun j => by simp [List.getElem?_drop]) (by rw [listed_eq inv hall (by omega), List.length_drop]; exact h6) hl
      rwa [List.length_drop] at this)
    h n (fun _ => none) (Array.replicate l.toArray.size false) { w with drawn := w.drawn + 1 } (by simp) (inv0 l n) (fun i hi => getD_in (by simp; omega) (getD_replicate_false _ _)) h0 (fun i _ v hv => by cases hv)
  rw [hsz, ← hsz]
  rw [hsz]
  have hz : lexF (fun _ => none) (l.take n) 0 a = a := by
    have := lexF_take (f := fun _ => none) (l.take n) 0 0 a
    simp [lexF] at this
    exact this.symm
  rw [hz] at this
  rw [hsz] at this
  exact this
/-- .. all of it. -/
theorem wp_region_invs {L : World → World → Prop} {id : Nat} {Q : Exit → Act → World → Prop} {a : Act} {w : World} {l : List Oper} (Φs : List (Value → World → Prop)) (hL : ∀ a b c, L a b → L b c → L a c) (h0 : L w w.drew) (hm : P.follows .mixedOrders = true) (hB : invAllB l = true)
    (hΦ : ∀ Φ ∈ Φs, ∀ v w w', Φ v w → L w w' → Φ v w')
    (h : ∀ vs, wpInv P L (fun w' => L w w') Φs (fun a w => Q .normal a w) vs l 0 a) : (Code.region id l.toArray true).wp P Q a w := by
  simp only [invAllB, Bool.and_eq_true] at hB
  obtain ⟨h1, h2⟩ := hB
  refine wp_region_any hm ?_
  have hout : ∀ listed t, l.length ≤ t → t ∉ Region.ready .any l.toArray listed := fun listed t ht hr => by
    obtain ⟨_, o, ho, _⟩ := mem_ready.1 hr
    have := (Array.getElem?_eq_some_iff.1 ho).1
    simp at this; omega
  have := wpAny_of_inv (Φs := Φs) (Q := Q) (a0 := a) (n := l.length) h1 h2 (Nat.le_refl _) (fun listed i _ _ _ t ht => hout listed t ht) (fun w1 w2 hb hb2 => hL _ _ _ hb hb2) (known_of hΦ)
    (fun listed a w inv hall hl => by
      rw [Nat.sub_self]
      refine ⟨?_, by simpa [wpList] using hl⟩
      cases hr : Region.ready .any l.toArray listed with
      | nil => rfl
      | cons i r =>
        have hi : i ∈ Region.ready .any l.toArray listed := by rw [hr]; simp
        have h3 := (mem_ready.1 hi).1
        rcases Nat.lt_or_ge i l.length with h | h
        · rw [hall i h] at h3; cases h3
        · exact absurd hi (hout listed i h))
    (by simpa [wpList] using h) l.length (fun _ => none) (Array.replicate l.toArray.size false) { w with drawn := w.drawn + 1 } (by simp) (inv0 l _) (fun i hi => getD_in (by simp; omega) (getD_replicate_false _ _)) h0 (fun i _ v hv => by cases hv)
  have hz : lexF (fun _ => none) (l.take l.length) 0 a = a := by
    have := lexF_take (f := fun _ => none) (l.take l.length) 0 0 a
    simp [lexF] at this
    simpa using this.symm
  rw [hz, Nat.sub_self, Nat.add_zero] at this
  simpa using this

/-- the same walk, the head by its length -/
def wpGrow (P : Program) (L : World → World → Prop) (C : World → Prop) (Φs : List (Value → World → Prop)) (ops : Array Oper) (Q : Exit → Act → World → Prop) (vs : Nat → Value) : Nat → List Oper → Nat → Act → Prop
  | 0, l, k, a => ∀ w, C w → (∀ i, i < k → known Φs i (vs i) w) → wpList P ops Q l a w
  | _ + 1, [], _, _ => False
  | n + 1, o :: l, k, a => (∀ w, C w → (∀ i ∈ deps o, known Φs i (vs i) w) → growAt P L o a w (known Φs k)) ∧ wpGrow P L C Φs ops Q vs n l (k + 1) (a.put o.dst (vs k))
theorem wpInv_of_grow {L : World → World → Prop} {C : World → Prop} {Φs : List (Value → World → Prop)} {ops : Array Oper} {Q : Exit → Act → World → Prop} {vs : Nat → Value} : ∀ (n : Nat) (l : List Oper) (k : Nat) (a : Act),
    wpGrow P L C Φs ops Q vs n l k a → wpInv P L C Φs (fun a w => wpList P ops Q (l.drop n) a w) vs (l.take n) k a
  | 0, _, _, _, h => h
  | _ + 1, [], _, _, h => h.elim
  | n + 1, _ :: l, k, _, h => ⟨h.1, wpInv_of_grow n l (k + 1) _ h.2⟩
theorem wpGrow_step {L : World → World → Prop} {C : World → Prop} {Φs : List (Value → World → Prop)} {ops : Array Oper} {Q : Exit → Act → World → Prop} {vs : Nat → Value} {n k : Nat} {o : Oper} {l : List Oper} {a : Act} {Φ : Value → World → Prop} (e : Φs[k]? = some Φ)
    (h1 : ∀ w, C w → (∀ i ∈ deps o, known Φs i (vs i) w) → growAt P L o a w Φ) (h2 : wpGrow P L C Φs ops Q vs n l (k + 1) (a.put o.dst (vs k))) : wpGrow P L C Φs ops Q vs (n + 1) (o :: l) k a := ⟨by rw [known_get e]; exact h1, h2⟩
def Stays (L : World → World → Prop) (Φ : Value → World → Prop) : Prop := ∀ v w w', Φ v w → L w w' → Φ v w'
def AllStay (L : World → World → Prop) (Φs : List (Value → World → Prop)) : Prop := ∀ Φ ∈ Φs, Stays L Φ
theorem AllStay.nil {L : World → World → Prop} : AllStay L [] := fun _ h => by simp at h
theorem AllStay.cons {L : World → World → Prop} {Φ : Value → World → Prop} {Φs : List (Value → World → Prop)} (h : Stays L Φ) (hs : AllStay L Φs) : AllStay L (Φ :: Φs) := fun Ψ hm => by
  rcases List.mem_cons.1 hm with rfl | hm
  · exact h
  · exact hs Ψ hm
/-- **The region's law.** n: how many operations come before the tail. -/
theorem wp_region_grow {L : World → World → Prop} {id : Nat} {Q : Exit → Act → World → Prop} {a : Act} {w : World} {l : List Oper} (n : Nat) (Φs : List (Value → World → Prop)) (hL : ∀ a b c, L a b → L b c → L a c) (h0 : L w w.drew) (hm : P.follows .mixedOrders = true) (hB : invB l n = true)
    (hΦ : AllStay L Φs) (h : ∀ vs, wpGrow P L (fun w' => L w w') Φs l.toArray Q vs n l 0 a) : (Code.region id l.toArray true).wp P Q a w :=
  wp_region_inv n Φs hL h0 hm hB hΦ fun vs => wpInv_of_grow n l 0 a (h vs)
theorem wp_region_grows {L : World → World → Prop} {id : Nat} {Q : Exit → Act → World → Prop} {a : Act} {w : World} {l : List Oper} (n : Nat) (Φs : List (Value → World → Prop)) (hL : ∀ a b c, L a b → L b c → L a c) (h0 : L w w.drew) (hm : P.follows .mixedOrders = true) (hB : invAllB l = true) (hn : l.length = n)
    (hΦ : AllStay L Φs) (h : ∀ vs, wpGrow P L (fun w' => L w w') Φs l.toArray Q vs n l 0 a) : (Code.region id l.toArray true).wp P Q a w :=
  wp_region_invs Φs hL h0 hm hB hΦ fun vs => by
    have := wpInv_of_grow n l 0 a (h vs)
    subst hn
    simpa [wpList] using this

end
end L
end Go.Proofs.YtfblolkkajppcaaGreatDoor
namespace Go.Proofs.YtfblolkkajppcaaGreatDoor
open Go.RowKit M

def SrcB (w : World) (g : Nat) (v : Value) (n : Nat) (sz : Int) : Prop := ∃ (a : Nat) (m : Int), a ≤ n ∧ 0 ≤ m ∧ m < 18446744073709551616 ∧ Blk w g 78 #[v, .int .i64 a, .int .u64 m, .int .i64 sz]
/-- block g is the source over the code v -/
structure Src (w : World) (g : Nat) (v : Value) (l : List UInt8) (sz : Int) : Prop where
  blk : SrcB w g v l.length sz
  rd : Rd w 1 v l.length (cb l)
  far : 0 < l.length → ∀ b off n c, v = .slice (some ⟨b, off, none⟩) n c → b ≠ g
  len : l.length ≤ 1048576

theorem gr_refl (w : World) (r : Option Nat) : w.grownBy w r := ⟨rfl, rfl, rfl, Nat.le_refl _, fun _ _ _ => rfl⟩
theorem gr_trans {a b c : World} {r : Option Nat} (h : a.grownBy b r) (h2 : b.grownBy c r) : a.grownBy c r :=
  ⟨h2.os.trans h.os, h2.tape.trans h.tape, h2.output.trans h.output, Nat.le_trans h.size h2.size, fun k hk hr => (h2.block k (Nat.lt_of_lt_of_le hk h.size) hr).trans (h.block k hk hr)⟩
theorem gr_below {a b : World} (h : Below a.heap.size a b) (r : Option Nat) : a.grownBy b r := ⟨h.os, h.tape, h.output, h.size, fun k hk _ => h.block k hk⟩
theorem gr_set {a b : World} {g : Nat} (h : a.grownBy b (some g)) (i : Nat) (u : Value) : a.grownBy (b.setCell ⟨g, i, none⟩ u) (some g) :=
  ⟨h.os, h.tape, h.output, by simpa [World.setCell] using h.size, fun k hk hr => (Below.heap_setCell b ⟨g, i, none⟩ u k (fun e => hr (by rw [e]))).trans (h.block k hk hr)⟩
theorem gr_drew {a b : World} {r : Option Nat} (h : a.grownBy b r) : a.grownBy b.drew r := ⟨h.os, h.tape, h.output, h.size, h.block⟩
theorem gr_alloc {a b : World} {r : Option Nat} (h : a.grownBy b r) (o : Obj) : a.grownBy (b.alloc o) r := gr_trans h (World.grownBy_alloc b o r)
theorem Blk.grown {w w' : World} {g : Nat} {t : TypeId} {cs : Array Value} {r : Nat} (h : Blk w g t cs) (hg : w.grownBy w' (some r)) (hne : g ≠ r) : Blk w' g t cs := (hg.block g h.lt (fun e => hne (by injection e))).trans h
theorem Rd.grown {w w' : World} {s n g : Nat} {v : Value} {xs : List Value} (h : Rd w s v n xs) (hg : w.grownBy w' (some g)) (hf : 0 < n → ∀ b off n c, v = .slice (some ⟨b, off, none⟩) n c → b ≠ g) : Rd w' s v n xs := by
  obtain ⟨hl, A, cap, e, h1, h2, hc⟩ := h
  refine ⟨hl, A, cap, e, h1, h2, fun hn => ?_⟩
  obtain ⟨b, off, hA, hc⟩ := hc hn
  exact ⟨b, off, hA, fun j u hu => hg.cell (hc j u hu) (fun e' => hf hn b off n cap (by rw [e, hA]) (by injection e'))⟩
theorem Src.later {w w' : World} {g : Nat} {v : Value} {l : List UInt8} {sz : Int} (h : Src w g v l sz) (hb : Below w.heap.size w w') : Src w' g v l sz :=
  let ⟨a, m, h1, h2, h3, h4⟩ := h.blk
  ⟨⟨a, m, h1, h2, h3, h4.later hb⟩, h.rd.later hb, h.far, h.len⟩
theorem SrcB.later {w w' : World} {g : Nat} {v : Value} {n : Nat} {sz : Int} (h : SrcB w g v n sz) (hb : Below w.heap.size w w') : SrcB w' g v n sz :=
  let ⟨a, m, h1, h2, h3, h4⟩ := h
  ⟨a, m, h1, h2, h3, h4.later hb⟩
theorem SrcB.kept {w w' : World} {g : Nat} {v : Value} {n : Nat} {sz : Int} {row : Option Nat} (h : SrcB w g v n sz) (hg : w.grownBy w' row) (hne : some g ≠ row) : SrcB w' g v n sz :=
  let ⟨a, m, h1, h2, h3, h4⟩ := h
  ⟨a, m, h1, h2, h3, (hg.block g h4.lt hne).trans h4⟩
theorem Src.make {w w' : World} {g : Nat} {v : Value} {l : List UInt8} {sz : Int} (h : Src w g v l sz) (hb : SrcB w' g v l.length sz) (hg : w.grownBy w' (some g)) : Src w' g v l sz := ⟨hb, h.rd.grown hg h.far, h.far, h.len⟩
theorem Src.lt {w : World} {g : Nat} {v : Value} {l : List UInt8} {sz : Int} (h : Src w g v l sz) : g < w.heap.size := let ⟨_, _, _, _, _, h4⟩ := h.blk; h4.lt
theorem gr_mix {a b c : World} {g : Nat} {row : Option Nat} (h : a.grownBy b (some g)) (h2 : b.grownBy c row) (hr : ∀ k, row = some k → a.heap.size ≤ k) : a.grownBy c (some g) :=
  ⟨h2.os.trans h.os, h2.tape.trans h.tape, h2.output.trans h.output, Nat.le_trans h.size h2.size, fun k hk hne => (h2.block k (Nat.lt_of_lt_of_le hk h.size) (fun e => by have := hr k e.symm; omega)).trans (h.block k hk hne)⟩
theorem wrap_rng (n : Int) : 0 ≤ IntKind.u64.wrap n ∧ IntKind.u64.wrap n < 18446744073709551616 := by rw [IntKind.wrap_u64]; omega
theorem bits_rng (o : BinOp) (a b : Int) : 0 ≤ bits o .u64 a b ∧ bits o .u64 a b < 18446744073709551616 := by
  unfold bits
  split <;> first | exact wrap_rng _ | (constructor <;> decide)

theorem rem_rng {most : Int} (x : Int) (h1 : 1 < most) (h2 : most ≤ 9223372036854775807) : 0 ≤ wrap64 (x % most) ∧ wrap64 (x % most) < most := by
  have e1 := Int.emod_nonneg x (show most ≠ 0 by omega)
  have e2 := Int.emod_lt_of_pos x (show 0 < most by omega)
  generalize x % most = y at *
  unfold wrap64
  omega
/-- what a draw leaves -/
def Drawn (w : World) (g : Nat) (v : Value) (l : List UInt8) (sz : Int) (Φ : Value → Prop) (e : Ending) (w' : World) : Prop := ∃ r, e = .returned r ∧ Φ r ∧ Src w' g v l sz ∧ w.grownBy w' (some g)

set_option maxRecDepth 100000 in
set_option maxHeartbeats 2000000 in
theorem n_low (g : Nat) (v : Value) (l : List UInt8) (sz most : Int) (hm : most ≤ 1) (w : World) (hs : Src w g v l sz) :
    Calls Tryz.prog 30 #[.pointer (some ⟨g, 0, none⟩), .int .i64 most] w (Drawn w g v l sz fun r => r = .int .i64 0) := by
  have HS := Lib.hid hs
  clear hs
  go_enter Tryz.func30, Tryz.ntmps30
  go_wp2
  go_ret
  exact ⟨_, rfl, rfl, HS.out, gr_refl _ _⟩
set_option maxRecDepth 100000 in
set_option maxHeartbeats 2000000 in
theorem n_high (g : Nat) (v : Value) (l : List UInt8) (sz most : Int) (hm : 1 < most) (hm2 : most ≤ 9223372036854775807) (w : World) (hs : Src w g v l sz) :
    Calls Tryz.prog 30 #[.pointer (some ⟨g, 0, none⟩), .int .i64 most] w (Drawn w g v l sz fun r => ∃ n : Int, r = .int .i64 n ∧ 0 ≤ n ∧ n < most) := by
  obtain ⟨⟨a, m, ha, m0, m1, B⟩, hrd, hfar, hlen⟩ := hs
  obtain ⟨A, cap, rfl, hn, hcap, hform⟩ := hrd.form
  have HRd := Lib.hid hrd
  have HFar := Lib.hid hfar
  have Bc := B.cell
  have Bf := B.frozen
  clear hrd hfar
  by_cases hal : a < l.length
  · obtain ⟨b, off, rfl, hc⟩ := hform (by omega)
    have hbg : b ≠ g := HFar.out (by omega) b off l.length cap rfl
    have hcell : w.cell? ⟨b, off + a, none⟩ = some (.int .u8 l[a].toNat) := hc a _ (by unfold cb; rw [List.getElem?_map, List.getElem?_eq_getElem hal]; rfl)
    have hi : (a : Int) < l.length := by omega
    have hby : (l[a].toNat : Int) < 256 := by have := l[a].toNat_lt; omega
    have hby0 : 0 ≤ (l[a].toNat : Int) := by omega
    generalize (l[a].toNat : Int) = by_ at *
    clear hform hc
    go_enter Tryz.func30, Tryz.ntmps30
    go_wp2
    have l0 := fun x => B.atL (i := 0) rfl x
    have l1 := fun x => B.atL (i := 1) rfl x
    refine wp_region_later (by kernel_rfl) (by kernel_rfl) ?_
    repeat (go_big_quiet_step (fail "no call"))
    refine wpQuiet_nil ?_
    rintro _ ⟨y, rfl⟩
    have hy := y.ok
    clear l0 l1
    generalize y.now = w1 at *
    have B1 := B.later hy
    have hcell1 : w1.cell? ⟨b, off + a, none⟩ = some (.int .u8 by_) := by rw [(bcell hy).1 _ _ (World.block_lt_of_cell? w _ hcell)]; exact hcell
    have G1 := gr_below hy (some g)
    clear hy B Bc Bf hcell
    go_wp2
    have l0 := fun x => B1.atL (i := 0) rfl x
    have l1 := fun x => B1.atL (i := 1) rfl x
    have l2 := fun x => lcell hcell1 x
    refine wp_region_later (by kernel_rfl) (by kernel_rfl) ?_
    repeat (go_big_quiet_step (fail "no call"))
    refine wpQuiet_nil ?_
    rintro _ ⟨y, rfl⟩
    have hy := y.ok
    clear l0 l1 l2
    generalize y.now = w2 at *
    have B2 := B1.later hy
    have G2 := gr_trans G1 (gr_below hy (some g))
    clear hy B1 G1 hcell1
    have B2c := B2.cell
    have B2f := B2.frozen
    go_upto_region 7 with fail
    refine wp_world ?_
    intro w3 hw3
    apply Blk.use (w := w3) (g := g)
    · rw [hw3]; (repeat (first | with_reducible assumption | ((with_reducible apply Blk.new'); first | rfl | (simp; done)) | with_reducible apply Blk.set_ | (with_reducible apply Blk.far' (by first | (simp; done) | (simp; omega))) | with_reducible apply Blk.alloc | with_reducible apply Blk.drew))
    intro B3
    try simp only [List.setIfInBounds_toArray, List.set_cons_zero, List.set_cons_succ] at B3
    have G3 : w.grownBy w3 (some g) := by rw [hw3]; first | exact G2 | exact gr_set G2 _ _
    clear hw3 B2 B2c B2f G2
    have l0 := B3.at (i := 2) rfl
    have lf := B3.frozen
    go_still_tail 13, (by kernel_rfl)
    go_upto_region 8 with fail
    (focus obtain ⟨r40, r41⟩ := bits_rng .xor m (IntKind.u64.wrap (m * 8192)))
    refine wp_world ?_
    intro w4 hw4
    apply Blk.use (w := w4) (g := g)
    · rw [hw4]; (repeat (first | with_reducible assumption | ((with_reducible apply Blk.new'); first | rfl | (simp; done)) | with_reducible apply Blk.set_ | (with_reducible apply Blk.far' (by first | (simp; done) | (simp; omega))) | with_reducible apply Blk.alloc | with_reducible apply Blk.drew))
    intro B4
    try simp only [List.setIfInBounds_toArray, List.set_cons_zero, List.set_cons_succ] at B4
    have G4 : w.grownBy w4 (some g) := by rw [hw4]; exact gr_drew (gr_set G3 _ _)
    clear hw4 B3 G3 l0 lf
    generalize bits .xor .u64 m (IntKind.u64.wrap (m * 8192)) = m4 at *
    have l0 := B4.at (i := 2) rfl
    have lf := B4.frozen
    go_still_tail 13, (by kernel_rfl)
    go_upto_region 9 with fail
    (focus obtain ⟨r50, r51⟩ := bits_rng .xor m4 (m4 / 128))
    refine wp_world ?_
    intro w5 hw5
    apply Blk.use (w := w5) (g := g)
    · rw [hw5]; (repeat (first | with_reducible assumption | ((with_reducible apply Blk.new'); first | rfl | (simp; done)) | with_reducible apply Blk.set_ | (with_reducible apply Blk.far' (by first | (simp; done) | (simp; omega))) | with_reducible apply Blk.alloc | with_reducible apply Blk.drew))
    intro B5
    try simp only [List.setIfInBounds_toArray, List.set_cons_zero, List.set_cons_succ] at B5
    have G5 : w.grownBy w5 (some g) := by rw [hw5]; exact gr_drew (gr_set G4 _ _)
    clear hw5 B4 G4 l0 lf
    generalize bits .xor .u64 m4 (m4 / 128) = m5 at *
    have l0 := B5.at (i := 2) rfl
    have lf := B5.frozen
    go_still_tail 13, (by kernel_rfl)
    go_upto_region 10 with fail
    (focus obtain ⟨r60, r61⟩ := bits_rng .xor m5 (IntKind.u64.wrap (m5 * 131072)))
    refine wp_world ?_
    intro w6 hw6
    apply Blk.use (w := w6) (g := g)
    · rw [hw6]; (repeat (first | with_reducible assumption | ((with_reducible apply Blk.new'); first | rfl | (simp; done)) | with_reducible apply Blk.set_ | (with_reducible apply Blk.far' (by first | (simp; done) | (simp; omega))) | with_reducible apply Blk.alloc | with_reducible apply Blk.drew))
    intro B6
    try simp only [List.setIfInBounds_toArray, List.set_cons_zero, List.set_cons_succ] at B6
    have G6 : w.grownBy w6 (some g) := by rw [hw6]; exact gr_drew (gr_set G5 _ _)
    clear hw6 B5 G5 l0 lf
    generalize bits .xor .u64 m5 (IntKind.u64.wrap (m5 * 131072)) = m6 at *
    have l0 := B6.at (i := 2) rfl
    have lf := B6.frozen
    have hsum := wrap_rng (by_ + m6 / 1048576)
    have hms : IntKind.u64.wrap most = most := by rw [IntKind.wrap_u64]; omega
    go_wp2
    go_ret
    refine ⟨_, rfl, ⟨_, rfl, ?_⟩, ⟨⟨a + 1, m6, by omega, r60, r61, ?_⟩, HRd.out.grown G6 HFar.out, HFar.out, hlen⟩, G6⟩
    · exact rem_rng _ hm hm2
    · have e1 : ((a + 1 : Nat) : Int) = (a : Int) + 1 := by omega
      rw [e1]; exact B6
  · have hal' : ¬ (a : Int) < l.length := by omega
    have hal2 : (l.length : Int) ≤ a := by omega
    have hdec : decide ((a : Int) < l.length) = false := by simpa using hal'
    clear hform
    go_enter Tryz.func30, Tryz.ntmps30
    go_wp2
    have l0 := fun x => B.atL (i := 0) rfl x
    have l1 := fun x => B.atL (i := 1) rfl x
    refine wp_region_later (by kernel_rfl) (by kernel_rfl) ?_
    repeat (go_big_quiet_step (fail "no call"))
    refine wpQuiet_nil ?_
    rintro _ ⟨y, rfl⟩
    have hy := y.ok
    clear l0 l1
    generalize y.now = w2 at *
    have B2 := B.later hy
    have G2 := gr_below hy (some g)
    clear hy B Bc Bf
    have B2c := B2.cell
    have B2f := B2.frozen
    go_upto_region 7 with fail
    refine wp_world ?_
    intro w3 hw3
    apply Blk.use (w := w3) (g := g)
    · rw [hw3]; (repeat (first | with_reducible assumption | ((with_reducible apply Blk.new'); first | rfl | (simp; done)) | with_reducible apply Blk.set_ | (with_reducible apply Blk.far' (by first | (simp; done) | (simp; omega))) | with_reducible apply Blk.alloc | with_reducible apply Blk.drew))
    intro B3
    try simp only [List.setIfInBounds_toArray, List.set_cons_zero, List.set_cons_succ] at B3
    have G3 : w.grownBy w3 (some g) := by rw [hw3]; first | exact G2 | exact gr_set G2 _ _
    clear hw3 B2 B2c B2f G2
    have l0 := B3.at (i := 2) rfl
    have lf := B3.frozen
    go_still_tail 13, (by kernel_rfl)
    go_upto_region 8 with fail
    (focus obtain ⟨r40, r41⟩ := bits_rng .xor m (IntKind.u64.wrap (m * 8192)))
    refine wp_world ?_
    intro w4 hw4
    apply Blk.use (w := w4) (g := g)
    · rw [hw4]; (repeat (first | with_reducible assumption | ((with_reducible apply Blk.new'); first | rfl | (simp; done)) | with_reducible apply Blk.set_ | (with_reducible apply Blk.far' (by first | (simp; done) | (simp; omega))) | with_reducible apply Blk.alloc | with_reducible apply Blk.drew))
    intro B4
    try simp only [List.setIfInBounds_toArray, List.set_cons_zero, List.set_cons_succ] at B4
    have G4 : w.grownBy w4 (some g) := by rw [hw4]; exact gr_drew (gr_set G3 _ _)
    clear hw4 B3 G3 l0 lf
    generalize bits .xor .u64 m (IntKind.u64.wrap (m * 8192)) = m4 at *
    have l0 := B4.at (i := 2) rfl
    have lf := B4.frozen
    go_still_tail 13, (by kernel_rfl)
    go_upto_region 9 with fail
    (focus obtain ⟨r50, r51⟩ := bits_rng .xor m4 (m4 / 128))
    refine wp_world ?_
    intro w5 hw5
    apply Blk.use (w := w5) (g := g)
    · rw [hw5]; (repeat (first | with_reducible assumption | ((with_reducible apply Blk.new'); first | rfl | (simp; done)) | with_reducible apply Blk.set_ | (with_reducible apply Blk.far' (by first | (simp; done) | (simp; omega))) | with_reducible apply Blk.alloc | with_reducible apply Blk.drew))
    intro B5
    try simp only [List.setIfInBounds_toArray, List.set_cons_zero, List.set_cons_succ] at B5
    have G5 : w.grownBy w5 (some g) := by rw [hw5]; exact gr_drew (gr_set G4 _ _)
    clear hw5 B4 G4 l0 lf
    generalize bits .xor .u64 m4 (m4 / 128) = m5 at *
    have l0 := B5.at (i := 2) rfl
    have lf := B5.frozen
    go_still_tail 13, (by kernel_rfl)
    go_upto_region 10 with fail
    (focus obtain ⟨r60, r61⟩ := bits_rng .xor m5 (IntKind.u64.wrap (m5 * 131072)))
    refine wp_world ?_
    intro w6 hw6
    apply Blk.use (w := w6) (g := g)
    · rw [hw6]; (repeat (first | with_reducible assumption | ((with_reducible apply Blk.new'); first | rfl | (simp; done)) | with_reducible apply Blk.set_ | (with_reducible apply Blk.far' (by first | (simp; done) | (simp; omega))) | with_reducible apply Blk.alloc | with_reducible apply Blk.drew))
    intro B6
    try simp only [List.setIfInBounds_toArray, List.set_cons_zero, List.set_cons_succ] at B6
    have G6 : w.grownBy w6 (some g) := by rw [hw6]; exact gr_drew (gr_set G5 _ _)
    clear hw6 B5 G5 l0 lf
    generalize bits .xor .u64 m5 (IntKind.u64.wrap (m5 * 131072)) = m6 at *
    have l0 := B6.at (i := 2) rfl
    have lf := B6.frozen
    have hsum := wrap_rng (0 + m6 / 1048576)
    have hms : IntKind.u64.wrap most = most := by rw [IntKind.wrap_u64]; omega
    go_wp2
    go_ret
    refine ⟨_, rfl, ⟨_, rfl, ?_⟩, ⟨⟨a, m6, by omega, r60, r61, ?_⟩, HRd.out.grown G6 HFar.out, HFar.out, hlen⟩, G6⟩
    · exact rem_rng _ hm hm2
    · exact B6
/-- a number below a bound -/
theorem n_s (g : Nat) (v : Value) (l : List UInt8) (sz most : Int) (hm2 : most ≤ 9223372036854775807) (w : World) (hs : Src w g v l sz) :
    Calls Tryz.prog 30 #[.pointer (some ⟨g, 0, none⟩), .int .i64 most] w (Drawn w g v l sz fun r => ∃ n : Int, r = .int .i64 n ∧ 0 ≤ n ∧ (n < most ∨ n = 0)) := by
  by_cases h : most ≤ 1
  · exact (n_low g v l sz most h w hs).mono fun e w' ⟨r, h1, h2, h3⟩ => ⟨r, h1, ⟨0, h2, by omega, .inr rfl⟩, h3⟩
  · exact (n_high g v l sz most (by omega) hm2 w hs).mono fun e w' ⟨r, h1, ⟨n, h2, h3, h4⟩, h5⟩ => ⟨r, h1, ⟨n, h2, h3, .inl h4⟩, h5⟩
set_option maxRecDepth 100000 in
theorem one_s (g : Nat) (v : Value) (l : List UInt8) (sz most : Int) (hm2 : most ≤ 9223372036854775807) (w : World) (hs : Src w g v l sz) :
    Calls Tryz.prog 39 #[.pointer (some ⟨g, 0, none⟩), .int .i64 most] w (Drawn w g v l sz fun r => ∃ b : Bool, r = .bool b) := by
  have HS := Lib.hid hs
  clear hs
  go_enter Tryz.func39, Tryz.ntmps39
  go_wp2_with (go_at_call 30; refine (n_s g v l sz most hm2 _ HS.out).mono ?_; rintro e w1 ⟨_, rfl, ⟨n, rfl, h0, h1⟩, S1, G1⟩)
  go_ret
  exact ⟨_, rfl, ⟨_, rfl⟩, S1, G1⟩
end Go.Proofs.YtfblolkkajppcaaGreatDoor
namespace Go.Proofs.YtfblolkkajppcaaGreatDoor
open Go.RowKit M

set_option maxRecDepth 100000 in
set_option maxHeartbeats 2000000 in
/-- a new source -/
theorem source_s (v : Value) (l : List UInt8) (hlen : l.length ≤ 1048576) (w : World) (hr : Rd w 1 v l.length (cb l)) :
    Calls Tryz.prog 21 #[v] w fun e w' => ∃ sz : Int, 0 ≤ sz ∧ sz ≤ 12 ∧ e = .returned (.pointer (some ⟨w.heap.size, 0, none⟩)) ∧ Src w' w.heap.size v l sz ∧ Below w.heap.size w w' := by
  obtain ⟨A, cap, rfl, hn, hcap, hform⟩ := hr.form
  have HRd := Lib.hid hr
  have HFar : Hid (0 < l.length → ∀ b off n c, Value.slice A l.length cap = .slice (some ⟨b, off, none⟩) n c → b ≠ w.heap.size) := Lib.hid fun h b off n c e => by
    obtain ⟨b', off', rfl, hc⟩ := hform h
    have h1 := hc 0 _ (by unfold cb; rw [List.getElem?_map, List.getElem?_eq_getElem h]; rfl)
    have h2 := World.block_lt_of_cell? w _ h1
    simp only [Value.slice.injEq, Option.some.injEq, Addr.mk.injEq] at e
    have h3 : b' < w.heap.size := h2
    omega
  have HC : Hid (∀ (k : Nat) (hk : k < l.length) (w' : World), Below w.heap.size w w' → ∃ b off, A = some ⟨b, off, none⟩ ∧ w'.cell? ⟨b, off + k, none⟩ = some (.int .u8 l[k].toNat)) := Lib.hid fun k hk w' hb => by
    obtain ⟨b', off', rfl, hc⟩ := hform (by omega)
    have h1 := hc k _ (by unfold cb; rw [List.getElem?_map, List.getElem?_eq_getElem hk]; rfl)
    exact ⟨b', off', rfl, by rw [(bcell hb).1 _ _ (World.block_lt_of_cell? w _ h1)]; exact h1⟩
  clear hr hform
  go_enter Tryz.func21, Tryz.ntmps21
  go_wp2
  go_loopw [4] (fun i wr => ∃ (k : Nat) (m : Int), k ≤ l.length ∧ k ≤ 64 ∧ i = .int .i64 k ∧ 0 ≤ m ∧ m < 18446744073709551616 ∧ Blk wr w.heap.size 78 #[.slice A l.length cap, .int .i64 0, .int .u64 m, .int .i64 0] ∧ Below w.heap.size w wr) (fun i _ => 64 - (intOf i).toNat)
  case atStart => exact ⟨0, 88172645463325252, by omega, by omega, rfl, by omega, by omega, Blk.new' rfl, bnew _ _⟩
  case round =>
    obtain ⟨k, m, hk, hk2, rfl, m0, m1, B, BB⟩ := hrel
    have l0 := B.at (i := 2) rfl
    have lf := B.frozen
    by_cases hgo : k < l.length ∧ k < 64
    · obtain ⟨h1, h2⟩ := hgo
      have hi : (k : Int) < l.length := by omega
      have hi2 : (k : Int) < 64 := by omega
      obtain ⟨b, off, rfl, hcell⟩ := HC.out k h1 _ BB
      have hby0 : 0 ≤ (l[k].toNat : Int) := by omega
      have hby : (l[k].toNat : Int) < 256 := by have := l[k].toNat_lt; omega
      generalize (l[k].toNat : Int) = by_ at *
      go_wp2
      go_still_tail 14, (by kernel_rfl)
      go_wp2
      obtain ⟨r0, r1⟩ := wrap_rng (bits .xor .u64 m by_ * 1099511628211)
      go_roundw
      case rel => exact ⟨k + 1, _, by omega, by omega, by go_num, r0, r1, Blk.drew ((B.set_ 2 _).is rfl), by (repeat (first | (with_reducible refine bset ?_ (by first | (simp; done) | (simp; omega)) _) | (with_reducible refine balloc ?_ _) | (with_reducible refine bdrew ?_) | with_reducible exact Below.refl _ _ | (refine bthen ?_ (by with_reducible assumption)) | (refine bthen ?_ (by assumption)) | exact Below.refl _ _))⟩
      case measure => simp [intOf]; omega
    · have hex : (¬ (k : Int) < l.length) ∨ ((k : Int) < l.length ∧ ¬ (k : Int) < 64) := by omega
      have hq0 : 0 ≤ (l.length : Int) / 20 := by omega
      have l3 := B.at (i := 3) rfl
      clear hgo l0
      have hd1 : (decide (k < l.length) = false) ∨ ((k : Int) < l.length ∧ ¬ (k : Int) < 64) := by
        rcases hex with h | h
        · left; simp; omega
        · right; exact h
      clear hex hk hk2
      rcases hd1 with h1 | ⟨h1, h2⟩
      all_goals
        by_cases hbig : 12 < (l.length : Int) / 20
        · go_wp2
          refine bp_world ?_
          intro w9 hw9
          apply Blk.use (w := w9) (g := w.heap.size)
          · rw [hw9]; (repeat (first | with_reducible assumption | ((with_reducible apply Blk.new'); first | rfl | (simp; done)) | with_reducible apply Blk.set_ | (with_reducible apply Blk.far' (by first | (simp; done) | (simp; omega))) | with_reducible apply Blk.alloc | with_reducible apply Blk.drew))
          intro B9
          try simp only [List.setIfInBounds_toArray, List.set_cons_zero, List.set_cons_succ] at B9
          have BB9 : Below w.heap.size w w9 := by rw [hw9]; (repeat (first | (with_reducible refine bset ?_ (by first | (simp; done) | (simp; omega)) _) | (with_reducible refine balloc ?_ _) | (with_reducible refine bdrew ?_) | with_reducible exact Below.refl _ _ | (refine bthen ?_ (by with_reducible assumption)) | (refine bthen ?_ (by assumption)) | exact Below.refl _ _))
          clear hw9
          go_ret
          exact ⟨12, by omega, by omega, rfl, ⟨⟨0, m, by omega, m0, m1, B9⟩, HRd.out.later BB9, HFar.out, hlen⟩, BB9⟩
        · go_wp2
          refine bp_world ?_
          intro w9 hw9
          apply Blk.use (w := w9) (g := w.heap.size)
          · rw [hw9]; (repeat (first | with_reducible assumption | ((with_reducible apply Blk.new'); first | rfl | (simp; done)) | with_reducible apply Blk.set_ | (with_reducible apply Blk.far' (by first | (simp; done) | (simp; omega))) | with_reducible apply Blk.alloc | with_reducible apply Blk.drew))
          intro B9
          try simp only [List.setIfInBounds_toArray, List.set_cons_zero, List.set_cons_succ] at B9
          have BB9 : Below w.heap.size w w9 := by rw [hw9]; (repeat (first | (with_reducible refine bset ?_ (by first | (simp; done) | (simp; omega)) _) | (with_reducible refine balloc ?_ _) | (with_reducible refine bdrew ?_) | with_reducible exact Below.refl _ _ | (refine bthen ?_ (by with_reducible assumption)) | (refine bthen ?_ (by assumption)) | exact Below.refl _ _))
          clear hw9
          go_ret
          exact ⟨(l.length : Int) / 20, hq0, by omega, rfl, ⟨⟨0, m, by omega, m0, m1, B9⟩, HRd.out.later BB9, HFar.out, hlen⟩, BB9⟩

theorem own_far' {w : World} {base e s n : Nat} {v : Value} {xs : List Value} (h : w.ownsRow base e s v n xs) {g : Nat} (hg : g < base) : v.ownBlock = none ∨ v.ownBlock ≠ some g := by
  refine .inr fun e => ?_
  have := (h.lt g e).1
  omega
end Go.Proofs.YtfblolkkajppcaaGreatDoor
namespace Go.Proofs.YtfblolkkajppcaaGreatDoor
open Go.RowKit M

def edges : List Int := [0, 1, -1, 2, 1000, 1001, 2147483648, 2147483647, -2147483648, 4611686018427387904, 9223372036854775807, -9223372036854775808, 1000000, 1000001]
set_option maxRecDepth 100000 in
set_option maxHeartbeats 2000000 in
/-- a number at a limit -/
theorem edge_s (g : Nat) (v : Value) (l : List UInt8) (sz : Int) (w : World) (hs : Src w g v l sz) :
    Calls Tryz.prog 79 #[.pointer (some ⟨g, 0, none⟩)] w (Drawn w g v l sz fun r => ∃ n : Int, r = .int .i64 n ∧ -9223372036854775808 ≤ n ∧ n ≤ 9223372036854775807) := by
  have HS := Lib.hid hs
  have hgl := hs.lt
  clear hs
  go_enter Tryz.func79, Tryz.ntmps79
  go_wp2_with fail
  refine (n_s g v l sz 14 (by omega) _ (HS.out.later (by (repeat (first | (with_reducible refine bset ?_ (by first | (simp; done) | (simp; omega)) _) | (with_reducible refine balloc ?_ _) | (with_reducible refine bdrew ?_) | with_reducible exact Below.refl _ _ | (refine bthen ?_ (by with_reducible assumption)) | (refine bthen ?_ (by assumption)) | exact Below.refl _ _))))).mono ?_
  rintro e w1 ⟨_, rfl, ⟨c, rfl, h0, h1⟩, S1, G1⟩
  have h14 : c < 14 := by omega
  obtain ⟨k, rfl⟩ := Int.eq_ofNat_of_zero_le h0
  have hk : k < edges.length := by show k < 14; omega
  have B0 : Blk w1 w.heap.size 2 (edges.map (Value.int .i64)).toArray := Blk.grown (Blk.new' rfl) G1 (by omega)
  have hc : w1.cell? ⟨w.heap.size, k, none⟩ = some (.int .i64 edges[k]) := B0.at (by simp [hk])
  have hr : ∀ n ∈ edges, -9223372036854775808 ≤ n ∧ n ≤ 9223372036854775807 := by decide
  have hr' := hr _ (List.getElem_mem hk)
  have hG := gr_trans (gr_below (bnew w _) (some g)) G1
  clear hr B0 h1
  generalize edges[k] = n at *
  have HS1 := Lib.hid S1
  have HG := Lib.hid hG
  clear S1 G1 hG
  go_wp2
  go_ret
  exact ⟨_, rfl, ⟨n, rfl, hr'⟩, HS1.out, HG.out⟩

theorem conv_by1 (w : World) (b : UInt8) : (convert 22 9 (.slice (some ⟨w.heap.size, 0, none⟩) 1 1)).run Tryz.prog (w.alloc (.cells #[.int .u8 b.toNat] 5)) = .ok (.string (bs [b])) (w.alloc (.cells #[.int .u8 b.toNat] 5)) := by
  refine run_convert_bytes_back (P := Tryz.prog) _ 22 9 5 ⟨w.heap.size, 0, none⟩ 1 [b] Tryz.underlying22 Tryz.underlying5 Tryz.underlying9 ?_
  intro j hj
  obtain rfl : j = 0 := by simp at hj; omega
  simp [World.cell?_alloc_new, Addr.add]
def spoils : Bs := [32, 10, 48, 97, 45, 110, 44, 58, 93, 255, 40, 120, 126, 49, 128, 225, 59]
theorem spoil_at (j : Nat) (hj : j < 17) : ∃ b : UInt8, ∀ w, (Instr.index 9 (.string ⟨#[32, 10, 48, 97, 45, 110, 44, 58, 93, 255, 40, 120, 126, 49, 128, 225, 59]⟩) (.int .i64 (j : Int))).run Tryz.prog w = .ok (.int .u8 b.toNat) w := by
  refine ⟨spoils.getD j 0, fun w => ?_⟩
  have h : j = 0 ∨ j = 1 ∨ j = 2 ∨ j = 3 ∨ j = 4 ∨ j = 5 ∨ j = 6 ∨ j = 7 ∨ j = 8 ∨ j = 9 ∨ j = 10 ∨ j = 11 ∨ j = 12 ∨ j = 13 ∨ j = 14 ∨ j = 15 ∨ j = 16 := by omega
  rcases h with rfl | rfl | rfl | rfl | rfl | rfl | rfl | rfl | rfl | rfl | rfl | rfl | rfl | rfl | rfl | rfl | rfl <;> (show _ = _; kernel_rfl)
theorem w3bel {a b c : World} (h : b = c) (h2 : Below a.heap.size a c) : Below a.heap.size a b := h ▸ h2
theorem size_cut (t : ByteArray) (a b : Nat) : (t.extract a b).size ≤ b - a ∧ (t.extract a b).size ≤ t.size := by
  rw [ByteArray.size_extract]; omega
set_option maxRecDepth 100000 in
set_option maxHeartbeats 4000000 in
/-- a text that is a little changed -/
theorem spoil_s (g : Nat) (v : Value) (l : List UInt8) (sz : Int) (t : ByteArray) (ht : t.size ≤ 1000000) (w : World) (hs : Src w g v l sz) :
    Calls Tryz.prog 31 #[.pointer (some ⟨g, 0, none⟩), .string t] w (Drawn w g v l sz fun r => ∃ s : ByteArray, r = .string s ∧ s.size ≤ t.size + 1) := by
  have HS := Lib.hid hs
  have hgl := hs.lt
  clear hs
  go_enter Tryz.func31, Tryz.ntmps31
  go_wp2_with fail
  refine (n_s g v l sz _ (by omega) _ HS.out).mono ?_
  rintro e w1 ⟨_, rfl, ⟨c, rfl, h0, h1⟩, S1, G1⟩
  have hcl : c ≤ t.size := by omega
  obtain ⟨k, rfl⟩ := Int.eq_ofNat_of_zero_le h0
  have HS1 := Lib.hid S1
  have HG1 := Lib.hid G1
  clear S1 G1 h1 HS
  go_wp2_with fail
  refine (n_s g v l sz 17 (by omega) _ HS1.out).mono ?_
  rintro e w2 ⟨_, rfl, ⟨c, rfl, h2, h3⟩, S2, G2⟩
  have h17 : c < 17 := by omega
  obtain ⟨j, rfl⟩ := Int.eq_ofNat_of_zero_le h2
  have HS2 := Lib.hid S2
  have HG2 := Lib.hid (gr_trans HG1.out G2)
  clear S2 G2 h3 HS1 HG1
  obtain ⟨b, hidx⟩ := spoil_at j (by omega)
  have hcv := fun w => conv_by1 w b
  have hk1 : (k : Int) ≤ t.size := hcl
  go_upto_region 3 with fail
  refine wp_world ?_
  intro w3 hw3
  have HS3 := Lib.hid (HS2.out.later (w' := w3) (by rw [hw3]; (repeat (first | (with_reducible refine bset ?_ (by first | (simp; done) | (simp; omega)) _) | (with_reducible refine balloc ?_ _) | (with_reducible refine bdrew ?_) | with_reducible exact Below.refl _ _ | (refine bthen ?_ (by with_reducible assumption)) | (refine bthen ?_ (by assumption)) | exact Below.refl _ _))))
  have HG3 := Lib.hid (gr_trans HG2.out (gr_below (w3bel hw3 (by (repeat (first | (with_reducible refine bset ?_ (by first | (simp; done) | (simp; omega)) _) | (with_reducible refine balloc ?_ _) | (with_reducible refine bdrew ?_) | with_reducible exact Below.refl _ _ | (refine bthen ?_ (by with_reducible assumption)) | (refine bthen ?_ (by assumption)) | exact Below.refl _ _)))) _))
  clear hw3 HS2 HG2 hidx hcv
  have hfl : ((k : Int) == (t.size : Int)) = decide (k = t.size) := by
    rw [Bool.eq_iff_iff]; simp; omega
  by_cases he : k = t.size
  · have he1 : ((k : Int) == (t.size : Int)) = true := by rw [hfl]; simpa using he
    clear hfl
    go_upto_region 4 with fail
    go_region
    all_goals
      go_wp2
      refine bp_world ?_
      intro w9 hw9
      have HS9 := Lib.hid (HS3.out.later (w' := w9) (w3bel hw9 (by (repeat (first | (with_reducible refine bset ?_ (by first | (simp; done) | (simp; omega)) _) | (with_reducible refine balloc ?_ _) | (with_reducible refine bdrew ?_) | with_reducible exact Below.refl _ _ | (refine bthen ?_ (by with_reducible assumption)) | (refine bthen ?_ (by assumption)) | exact Below.refl _ _)))))
      have HG9 := Lib.hid (gr_trans HG3.out (gr_below (w3bel hw9 (by (repeat (first | (with_reducible refine bset ?_ (by first | (simp; done) | (simp; omega)) _) | (with_reducible refine balloc ?_ _) | (with_reducible refine bdrew ?_) | with_reducible exact Below.refl _ _ | (refine bthen ?_ (by with_reducible assumption)) | (refine bthen ?_ (by assumption)) | exact Below.refl _ _)))) _))
      clear hw9
      go_ret
      exact ⟨_, rfl, ⟨_, rfl, by simp [ByteArray.size_append, ByteArray.size_extract, size_bs]; try omega⟩, HS9.out, HG9.out⟩
  · have he1 : ((k : Int) == (t.size : Int)) = false := by rw [hfl]; simpa using he
    have hk2 : (k : Int) < t.size := by omega
    clear hfl
    go_wp2_with fail
    refine (one_s g v l sz 3 (by omega) _ HS3.out).mono ?_
    rintro e w4 ⟨_, rfl, ⟨b3, rfl⟩, S4, G4⟩
    have HS4 := Lib.hid S4
    have HG4 := Lib.hid (gr_trans HG3.out G4)
    clear S4 G4 HS3 HG3
    cases b3
    · go_wp2_with fail
      refine (one_s g v l sz 2 (by omega) _ HS4.out).mono ?_
      rintro e w5 ⟨_, rfl, ⟨b2, rfl⟩, S5, G5⟩
      have HS5 := Lib.hid S5
      have HG5 := Lib.hid (gr_trans HG4.out G5)
      clear S5 G5 HS4 HG4
      cases b2
      · go_wp2
        go_region
        all_goals
          go_wp2
          refine bp_world ?_
          intro w9 hw9
          have HS9 := Lib.hid (HS5.out.later (w' := w9) (w3bel hw9 (by (repeat (first | (with_reducible refine bset ?_ (by first | (simp; done) | (simp; omega)) _) | (with_reducible refine balloc ?_ _) | (with_reducible refine bdrew ?_) | with_reducible exact Below.refl _ _ | (refine bthen ?_ (by with_reducible assumption)) | (refine bthen ?_ (by assumption)) | exact Below.refl _ _)))))
          have HG9 := Lib.hid (gr_trans HG5.out (gr_below (w3bel hw9 (by (repeat (first | (with_reducible refine bset ?_ (by first | (simp; done) | (simp; omega)) _) | (with_reducible refine balloc ?_ _) | (with_reducible refine bdrew ?_) | with_reducible exact Below.refl _ _ | (refine bthen ?_ (by with_reducible assumption)) | (refine bthen ?_ (by assumption)) | exact Below.refl _ _)))) _))
          clear hw9
          go_ret
          exact ⟨_, rfl, ⟨_, rfl, by simp [ByteArray.size_append, ByteArray.size_extract, size_bs]; try omega⟩, HS9.out, HG9.out⟩
      · go_wp2
        go_region
        all_goals
          go_wp2
          refine bp_world ?_
          intro w9 hw9
          have HS9 := Lib.hid (HS5.out.later (w' := w9) (w3bel hw9 (by (repeat (first | (with_reducible refine bset ?_ (by first | (simp; done) | (simp; omega)) _) | (with_reducible refine balloc ?_ _) | (with_reducible refine bdrew ?_) | with_reducible exact Below.refl _ _ | (refine bthen ?_ (by with_reducible assumption)) | (refine bthen ?_ (by assumption)) | exact Below.refl _ _)))))
          have HG9 := Lib.hid (gr_trans HG5.out (gr_below (w3bel hw9 (by (repeat (first | (with_reducible refine bset ?_ (by first | (simp; done) | (simp; omega)) _) | (with_reducible refine balloc ?_ _) | (with_reducible refine bdrew ?_) | with_reducible exact Below.refl _ _ | (refine bthen ?_ (by with_reducible assumption)) | (refine bthen ?_ (by assumption)) | exact Below.refl _ _)))) _))
          clear hw9
          go_ret
          exact ⟨_, rfl, ⟨_, rfl, by simp [ByteArray.size_append, ByteArray.size_extract, size_bs]; try omega⟩, HS9.out, HG9.out⟩
    · go_wp2
      go_region
      all_goals
        go_wp2
        refine bp_world ?_
        intro w9 hw9
        have HS9 := Lib.hid (HS4.out.later (w' := w9) (w3bel hw9 (by (repeat (first | (with_reducible refine bset ?_ (by first | (simp; done) | (simp; omega)) _) | (with_reducible refine balloc ?_ _) | (with_reducible refine bdrew ?_) | with_reducible exact Below.refl _ _ | (refine bthen ?_ (by with_reducible assumption)) | (refine bthen ?_ (by assumption)) | exact Below.refl _ _)))))
        have HG9 := Lib.hid (gr_trans HG4.out (gr_below (w3bel hw9 (by (repeat (first | (with_reducible refine bset ?_ (by first | (simp; done) | (simp; omega)) _) | (with_reducible refine balloc ?_ _) | (with_reducible refine bdrew ?_) | with_reducible exact Below.refl _ _ | (refine bthen ?_ (by with_reducible assumption)) | (refine bthen ?_ (by assumption)) | exact Below.refl _ _)))) _))
        clear hw9
        go_ret
        exact ⟨_, rfl, ⟨_, rfl, by simp [ByteArray.size_append, ByteArray.size_extract, size_bs]; try omega⟩, HS9.out, HG9.out⟩
end Go.Proofs.YtfblolkkajppcaaGreatDoor
