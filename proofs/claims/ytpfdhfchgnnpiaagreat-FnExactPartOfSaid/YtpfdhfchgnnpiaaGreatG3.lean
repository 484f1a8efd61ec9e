/-
  Blocks known whole: what a walk keeps of its own variables behind calls. Plain theorems; nothing of the program is named.
-/
import Derived.Test.YtpfdhfchgnnpiaaGreatG1
import Derived.Laws.OwnMore
import Derived.Laws.Rows
import Derived.Laws.NewBlocks
import Derived.Deep.Cut
import Derived.StillTail
set_option linter.unusedSimpArgs false
set_option linter.unusedVariables false
namespace Go.Proofs.YtpfdhfchgnnpiaaGreat
open Go.RowKit

/-- Block g is just the cells cs, none of them frozen. -/
def Blk (w : World) (g : Nat) (t : TypeId) (cs : Array Value) : Prop := w.heap[g]? = some (.cells cs t (0, 0))

section
variable {w w' : World} {g : Nat} {t : TypeId} {cs : Array Value}
theorem Blk.lt (h : Blk w g t cs) : g < w.heap.size := by
  rcases Nat.lt_or_ge g w.heap.size with hlt | hge
  · exact hlt
  · unfold Blk at h; rw [Array.getElem?_eq_none hge] at h; cases h
theorem Blk.cell (h : Blk w g t cs) (i : Nat) : w.cell? ⟨g, i, none⟩ = cs[i]? := cell_of_row w g i cs t (0, 0) h
theorem Blk.frozen (h : Blk w g t cs) (i : Nat) : w.frozen? ⟨g, i, none⟩ = false := by
  unfold Blk at h
  simp [World.frozen?, h]
theorem Blk.new (w : World) (t : TypeId) (cs : Array Value) {g : Nat} (hg : g = w.heap.size) : Blk (w.alloc (.cells cs t)) g t cs := hg ▸ heap_alloc_new w _
theorem Blk.drew (h : Blk w g t cs) : Blk w.drew g t cs := h
theorem Blk.alloc (h : Blk w g t cs) (o : Obj) : Blk (w.alloc o) g t cs := (Below.heap_alloc w o g h.lt).trans h
theorem Blk.set_ (h : Blk w g t cs) (i : Nat) (u : Value) : Blk (w.setCell ⟨g, i, none⟩ u) g t (cs.setIfInBounds i u) := by
  unfold Blk at h ⊢
  simp [World.setCell, Array.getElem?_modify, h]
theorem Blk.far (h : Blk w g t cs) {p : Addr} (hp : g ≠ p.block) (u : Value) : Blk (w.setCell p u) g t cs := (Below.heap_setCell w p u g hp).trans h
theorem Blk.later (h : Blk w g t cs) (hb : Below w.heap.size w w') : Blk w' g t cs := (hb.block g h.lt).trans h
theorem Blk.is (h : Blk w g t cs) {cs' : Array Value} (e : cs = cs') : Blk w g t cs' := e ▸ h
/-- the cells, one by one, of a world and of all that come later -/
theorem Blk.at (h : Blk w g t cs) {i : Nat} {v : Value} (e : cs[i]? = some v) : w.cell? ⟨g, i, none⟩ = some v := (h.cell i).trans e
theorem Blk.use {P : Prop} (h : Blk w g t cs) (k : Blk w g t cs → P) : P := k h
end
/-- the walk's world under a letter -/
theorem wp_world {P : Program} {c : Code} {Q : Exit → Act → World → Prop} {a : Act} {w : World} (h : ∀ w', w' = w → Code.wp P c Q a w') : Code.wp P c Q a w := h w rfl
end Go.Proofs.YtpfdhfchgnnpiaaGreat
namespace Go.Proofs.YtpfdhfchgnnpiaaGreat
open Go.RowKit

section
variable {P : Program}

/-- what is known of a value -/
def known (Φs : List (Value → World → Prop)) (i : Nat) (v : Value) (w : World) : Prop := match Φs[i]? with
  | some Φ => Φ v w
  | none => True
/-- the operations that one waits for -/
def deps (o : Oper) : List Nat := (o.after.toList.filter (Region.binds .any)).map (·.on)

/-- the frame with the values of those operations that have come up -/
def lexF (f : Nat → Option Value) : List Oper → Nat → Act → Act
  | [], _, a => a
  | o :: l, k, a => lexF f l (k + 1) (match f k with
    | some v => a.put o.dst v
    | none => a)
def upd (f : Nat → Option Value) (k : Nat) (v : Value) : Nat → Option Value := fun i => if i = k then some v else f i

theorem lexF_eval {f g : Nat → Option Value} {t : Tmp} : ∀ (l : List Oper) (k : Nat) (a b : Act), a.eval (.tmp t) = b.eval (.tmp t) → a.tmps.size = b.tmps.size →
    (∀ j o, l[j]? = some o → o.dst = some t → f (k + j) = g (k + j)) → (lexF f l k a).eval (.tmp t) = (lexF g l k b).eval (.tmp t)
  | [], _, _, _, h, _, _ => h
  | o :: l, k, a, b, h, hs, hd => by
    have hd' : ∀ j o', l[j]? = some o' → o'.dst = some t → f (k + 1 + j) = g (k + 1 + j) := fun j o' h1 h2 => by
      have := hd (j + 1) o' (by simpa using h1) h2
      rwa [show k + (j + 1) = k + 1 + j by omega] at this
    have size_put : ∀ (a : Act) (d : Option Tmp) (v : Value), (a.put d v).tmps.size = a.tmps.size := fun a d v => by cases d <;> simp [Act.put]
    by_cases ht : o.dst = some t
    · have h0 := hd 0 o rfl ht
      rw [Nat.add_zero] at h0
      refine lexF_eval l (k + 1) _ _ ?_ ?_ hd'
      · rw [h0]
        cases g k with
        | none => exact h
        | some v => simp [Act.put, Act.eval, ht, Array.getElem?_setIfInBounds_self, hs]
      · rw [h0]
        cases g k with
        | none => exact hs
        | some v => rw [size_put, size_put]; exact hs
    · have hx : ∀ d, o.dst = some d → (Operand.tmp t) ≠ .tmp d := fun d h1 h2 => ht (by rw [h1]; injection h2 with h2; rw [h2])
      refine lexF_eval l (k + 1) _ _ ?_ ?_ hd'
      · cases f k <;> cases g k <;> simp only [Act.eval_put hx] <;> exact h
      · cases f k <;> cases g k <;> simp only [size_put] <;> exact hs

theorem lexF_same {f g : Nat → Option Value} : ∀ (l : List Oper) (k : Nat) (a : Act), (∀ j, j < l.length → f (k + j) = g (k + j)) → lexF f l k a = lexF g l k a
  | [], _, _, _ => rfl
  | o :: l, k, a, h => by
    have h0 := h 0 (by simp)
    rw [Nat.add_zero] at h0
    simp only [lexF, h0]
    exact lexF_same l (k + 1) _ fun j hj => by
      have := h (j + 1) (by simp; omega)
      rwa [show k + (j + 1) = k + 1 + j by omega] at this
theorem lexF_take {f : Nat → Option Value} : ∀ (l : List Oper) (k i : Nat) (a : Act), lexF f (l.take i) k a = lexF (fun j => if j < k + i then f j else none) l k a
  | [], _, _, _ => by simp [lexF]
  | o :: l, k, 0, a => by
    have : ∀ (l : List Oper) (m : Nat), k ≤ m → lexF (fun j => if j < k + 0 then f j else none) l m a = a := by
      intro l
      induction l with
      | nil => intros; rfl
      | cons o l ih =>
        intro m hm
        have hk : ¬ m < k + 0 := by omega
        simp only [lexF, if_neg hk]
        exact ih (m + 1) (by omega)
    rw [this _ _ (Nat.le_refl _)]; rfl
  | o :: l, k, i + 1, a => by
    have hk : k < k + (i + 1) := by omega
    simp only [List.take_succ_cons, lexF, if_pos hk]
    rw [lexF_take l (k + 1) i, show k + 1 + i = k + (i + 1) by omega]

theorem lexF_put {f : Nat → Option Value} {d : Option Tmp} {v : Value} : ∀ (l : List Oper) (k : Nat) (a : Act), (∀ o ∈ l, ∀ t, d = some t → o.dst ≠ some t) → lexF f l k (a.put d v) = (lexF f l k a).put d v
  | [], _, _, _ => rfl
  | o :: l, k, a, h => by
    simp only [lexF]
    cases f k with
    | none => exact lexF_put l (k + 1) a fun o ho => h o (List.mem_cons_of_mem _ ho)
    | some u =>
      show lexF f l (k + 1) ((a.put d v).put o.dst u) = (lexF f l (k + 1) (a.put o.dst u)).put d v
      rw [Act.put_comm a v u (h o (by simp))]
      exact lexF_put l (k + 1) _ fun o ho => h o (List.mem_cons_of_mem _ ho)
theorem lexF_upd {f : Nat → Option Value} {v : Value} {oi : Oper} : ∀ (l : List Oper) (k j : Nat) (a : Act), l[j]? = some oi → f (k + j) = none →
    (∀ p op, l[p]? = some op → p ≠ j → ∀ t, oi.dst = some t → op.dst ≠ some t) → lexF (upd f (k + j) v) l k a = (lexF f l k a).put oi.dst v
  | [], _, _, _, h, _, _ => by simp at h
  | o :: l, k, 0, a, h, hf, hd => by
    have ho : o = oi := by simpa using h
    subst ho
    rw [Nat.add_zero] at hf ⊢
    have hu : upd f k v k = some v := by simp [upd]
    simp only [lexF, hf, hu]
    rw [lexF_same (f := upd f k v) (g := f) l (k + 1) _ fun j _ => by unfold upd; rw [if_neg (by omega)]]
    exact lexF_put l (k + 1) a fun o' ho' t ht => by
      obtain ⟨p, hp⟩ := List.mem_iff_getElem?.1 ho'
      exact hd (p + 1) o' (by simpa using hp) (by omega) t ht
  | o :: l, k, j + 1, a, h, hf, hd => by
    have hu : upd f (k + (j + 1)) v k = f k := by unfold upd; rw [if_neg (by omega)]
    simp only [lexF, hu]
    rw [show k + (j + 1) = k + 1 + j by omega] at hf ⊢
    exact lexF_upd l (k + 1) j _ (by simpa using h) hf fun p op hp hne t ht => hd (p + 1) op (by simpa using hp) (by omega) t ht

theorem count_upd {f : Nat → Option Value} {i : Nat} (v : Value) (hf : f i = none) : ∀ l : List Nat, l.Nodup → i ∈ l → l.countP (fun j => (f j).isNone) = l.countP (fun j => (upd f i v j).isNone) + 1
  | [], _, h => by simp at h
  | a :: l, hn, h => by
    have hn' := List.nodup_cons.1 hn
    rw [List.countP_cons, List.countP_cons]
    by_cases hia : a = i
    · subst hia
      have : l.countP (fun j => (upd f a v j).isNone) = l.countP (fun j => (f j).isNone) := List.countP_congr fun j hj => by
        have hne : j ≠ a := fun e => hn'.1 (e ▸ hj)
        unfold upd; rw [if_neg hne]
      rw [this]
      simp [hf, upd]
    · have hil : i ∈ l := by
        rcases List.mem_cons.1 h with h | h
        · exact absurd h.symm hia
        · exact h
      rw [count_upd v hf l hn'.2 hil]
      have : upd f i v a = f a := by unfold upd; rw [if_neg hia]
      rw [this]
      omega

theorem first_none {f : Nat → Option Value} {n : Nat} (h : ∃ i, i < n ∧ f i = none) : ∃ i, i < n ∧ f i = none ∧ ∀ j, j < i → f j ≠ none := by
  obtain ⟨i, hi, hf⟩ := h
  induction i using Nat.strongRecOn with
  | _ i ih =>
    by_cases h : ∃ j, j < i ∧ f j = none
    · obtain ⟨j, hj, hfj⟩ := h
      exact ih j hj (by omega) hfj
    · exact ⟨i, hi, hf, fun j hj hfj => h ⟨j, hj, hfj⟩⟩

/-- the tail comes up in the order of the text -/
theorem listed_eq {l : List Oper} {n : Nat} {listed : Array Bool} (inv : HeadInv .any l.toArray n listed) (hall : ∀ i, i < n → listed.getD i true = true) (hn : n ≤ l.length) :
    listed = (List.replicate n true ++ List.replicate (l.length - n) false).toArray := by
  apply Array.ext
  · rw [inv.size]; simp; omega
  · intro i h1 h2
    rcases Nat.lt_or_ge i n with h | h
    · have := hall i h
      simp only [Array.getD, h1, dite_true] at this
      simp [List.getElem_append, h]
      exact this
    · have := inv.tail i h (by rw [← inv.size]; exact h1)
      simp only [Array.getD, h1, dite_true] at this
      simp [List.getElem_append, Nat.not_lt.2 h]
      exact this
theorem inv0 (l : List Oper) (n : Nat) : HeadInv .any l.toArray n (Array.replicate l.toArray.size false) :=
  ⟨by simp, fun j oj _ hl => (by rw [getD_replicate_false] at hl; cases hl), fun t _ ht => getD_in (by simpa using ht) (getD_replicate_false _ _)⟩

def Stays (Φ : Value → World → Prop) : Prop := ∀ v w w', Φ v w → Below w.heap.size w w' → Φ v w'
def AllStay (Φs : List (Value → World → Prop)) : Prop := ∀ Φ ∈ Φs, Stays Φ
theorem AllStay.nil : AllStay [] := fun _ h => by simp at h
theorem AllStay.cons {Φ : Value → World → Prop} {Φs : List (Value → World → Prop)} (h : Stays Φ) (hs : AllStay Φs) : AllStay (Φ :: Φs) := fun Ψ hm => by
  rcases List.mem_cons.1 hm with rfl | hm
  · exact h
  · exact hs Ψ hm
/-! ### words for values -/
end
end Go.Proofs.YtpfdhfchgnnpiaaGreat
