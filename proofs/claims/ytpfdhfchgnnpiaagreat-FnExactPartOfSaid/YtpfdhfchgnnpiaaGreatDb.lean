/-
  Data of one Go type in memory: how they are read, what memory they take up, how they are marked. Plain theorems; nothing of the program is named.
-/
import Derived.Test.YtpfdhfchgnnpiaaGreatDa
set_option linter.unusedSimpArgs false
set_option linter.unusedVariables false
namespace Go.Proofs.YtpfdhfchgnnpiaaGreat
open Go.RowKit

/-! ### many pieces as one -/
def Sep (L : List Hl) : Prop := L.Pairwise (fun h k => ∀ b, h.sup b → ¬ k.sup b)
def Hl.all (M : List Hl) : Hl :=
  ⟨fun b => ∃ h ∈ M, h.sup b, fun w => (∀ h ∈ M, h.P w) ∧ Sep M,
   fun w w' h e => ⟨fun k hk => k.stab w w' (h.1 k hk) (fun b hb => e b ⟨k, hk, hb⟩), h.2⟩,
   fun w h b ⟨k, hk, hb⟩ => k.lt w (h.1 k hk) b hb⟩
section
variable {R : Nat → Prop} {w0 w w' : World} {L M N : List Hl}
theorem Hs.pack (H : Hs R w0 (M ++ L) w) : Hs R w0 (Hl.all M :: L) w := by
  obtain ⟨h1, h2, h3⟩ := List.pairwise_append.1 H.sep
  refine ⟨H.grow, ?_, ?_, List.pairwise_cons.2 ⟨?_, h2⟩⟩
  · intro k hk
    rcases List.mem_cons.1 hk with rfl | hk
    · exact ⟨fun k hk => H.ok k (List.mem_append_left _ hk), h1⟩
    · exact H.ok k (List.mem_append_right _ hk)
  · intro k hk b hb
    rcases List.mem_cons.1 hk with rfl | hk
    · obtain ⟨j, hj, hjb⟩ := hb
      exact H.own j (List.mem_append_left _ hj) b hjb
    · exact H.own k (List.mem_append_right _ hk) b hb
  · rintro k hk b ⟨j, hj, hjb⟩ hkb
    exact h3 j hj k hk b hjb hkb
theorem Hs.unpack (H : Hs R w0 (Hl.all M :: L) w) : Hs R w0 (M ++ L) w := by
  obtain ⟨h1, h2⟩ := List.pairwise_cons.1 H.sep
  have ha := H.ok _ (List.mem_cons_self ..)
  refine ⟨H.grow, ?_, ?_, List.pairwise_append.2 ⟨ha.2, h2, ?_⟩⟩
  · intro k hk
    rcases List.mem_append.1 hk with hk | hk
    · exact ha.1 k hk
    · exact H.ok k (List.mem_cons_of_mem _ hk)
  · intro k hk b hb
    rcases List.mem_append.1 hk with hk | hk
    · exact H.own _ (List.mem_cons_self ..) b ⟨k, hk, hb⟩
    · exact H.own k (List.mem_cons_of_mem _ hk) b hb
  · intro j hj k hk b hb hkb
    exact h1 k hk b ⟨j, hj, hb⟩ hkb
/-- pieces in another order -/
theorem Hs.reperm (H : Hs R w0 L w) (h : L.Perm M) : Hs R w0 M w := H.perm h.symm
theorem Hs.join (H : Hs R w0 (Hl.all M :: Hl.all N :: L) w) : Hs R w0 (Hl.all (M ++ N) :: L) w := by
  refine Hs.pack ?_
  have h1 := H.unpack
  have h2 : Hs R w0 (Hl.all N :: (M ++ L)) w := h1.reperm List.perm_middle
  have h3 := h2.unpack
  refine h3.reperm ?_
  rw [← List.append_assoc]
  exact (List.perm_append_comm).append_right L
theorem Hs.part (H : Hs R w0 (Hl.all (M ++ N) :: L) w) : Hs R w0 (Hl.all M :: Hl.all N :: L) w := by
  have h1 := H.unpack
  rw [List.append_assoc] at h1
  have h2 := h1.pack
  have h3 : Hs R w0 (N ++ (L ++ [Hl.all M])) w := h2.reperm (by rw [← List.append_assoc]; exact List.perm_append_singleton _ _ |>.symm)
  have h4 := h3.pack
  refine h4.reperm ?_
  refine (List.Perm.cons _ (List.perm_append_singleton _ _)).trans (List.Perm.swap ..)
theorem Hs.allOk (H : Hs R w0 L w) (i : In (Hl.all M) L) : ∀ h ∈ M, h.P w := (H.ok _ i.mem).1
theorem Hs.allNil (H : Hs R w0 L w) : Hs R w0 (Hl.all [] :: L) w := Hs.pack (M := []) H
theorem Hs.head (H : Hs R w0 (Hl.all (N ++ M) :: L) w) : Hs R w0 (N ++ Hl.all M :: L) w := H.part.unpack
end

/-! ### types of data -/
structure Ty (α : Type) where
  s : Nat
  rd : World → List Value → α → Prop
  own : List Value → α → List Hl → Prop
  len : ∀ {w cs a}, rd w cs a → cs.length = s
  olen : ∀ {cs a M}, own cs a M → cs.length = s
  one : ∀ {w cs a}, rd w cs a → ∀ u ∈ cs, u.oneCell' = true
  below : ∀ {w w' cs a}, rd w cs a → Below w.heap.size w w' → rd w' cs a
  read : ∀ {w cs a M}, own cs a M → (∀ h ∈ M, h.P w) → rd w cs a

/-- data that hold no memory -/
def Ty.flat {α : Type} (s : Nat) (enc : α → List Value) (hl : ∀ a, (enc a).length = s) (h1 : ∀ a, ∀ u ∈ enc a, u.oneCell' = true) : Ty α where
  s := s
  rd _ cs a := cs = enc a
  own cs a M := cs = enc a ∧ M = []
  len h := by subst h; exact hl _
  olen h := by rw [h.1]; exact hl _
  one h := by subst h; exact h1 _
  below h _ := h
  read h _ := h.1

inductive RdL {α : Type} (T : Ty α) (w : World) : List Value → List α → Prop
  | nil : RdL T w [] []
  | cons {cs : List Value} {a : α} {xs : List Value} {l : List α} : T.rd w cs a → RdL T w xs l → RdL T w (cs ++ xs) (a :: l)
inductive OwnL {α : Type} (T : Ty α) : List Value → List α → List Hl → Prop
  | nil : OwnL T [] [] []
  | cons {cs : List Value} {a : α} {M : List Hl} {xs : List Value} {l : List α} {N : List Hl} : T.own cs a M → OwnL T xs l N → OwnL T (cs ++ xs) (a :: l) (M ++ N)
section
variable {α β : Type} {T : Ty α} {U : Ty β} {w w' : World} {xs ys cs ds : List Value} {l r : List α} {a : α} {M N : List Hl}
theorem RdL.len (h : RdL T w xs l) : xs.length = l.length * T.s := by
  induction h with
  | nil => simp
  | cons h _ ih => rw [List.length_append, T.len h, ih, List.length_cons, Nat.succ_mul]; omega
theorem OwnL.len (h : OwnL T xs l M) : xs.length = l.length * T.s := by
  induction h with
  | nil => simp
  | cons h _ ih => rw [List.length_append, T.olen h, ih, List.length_cons, Nat.succ_mul]; omega
theorem RdL.one (h : RdL T w xs l) : ∀ u ∈ xs, u.oneCell' = true := by
  induction h with
  | nil => intro u hu; cases hu
  | cons h _ ih =>
    intro u hu
    rcases List.mem_append.1 hu with hu | hu
    · exact T.one h u hu
    · exact ih u hu
theorem RdL.later (h : RdL T w xs l) (hb : Below w.heap.size w w') : RdL T w' xs l := by
  induction h with
  | nil => exact .nil
  | cons h _ ih => exact .cons (T.below h hb) ih
theorem OwnL.read (h : OwnL T xs l M) (hp : ∀ k ∈ M, k.P w) : RdL T w xs l := by
  induction h with
  | nil => exact .nil
  | cons h _ ih => exact .cons (T.read h (fun k hk => hp k (List.mem_append_left _ hk))) (ih (fun k hk => hp k (List.mem_append_right _ hk)))
theorem OwnL.append (h : OwnL T xs l M) (k : OwnL T ys r N) : OwnL T (xs ++ ys) (l ++ r) (M ++ N) := by
  induction h with
  | nil => exact k
  | cons h _ ih => rw [List.append_assoc, List.append_assoc]; exact .cons h ih
theorem OwnL.single (h : T.own cs a M) : OwnL T cs [a] M := by
  have := OwnL.cons h OwnL.nil
  simpa using this
theorem OwnL.snoc (h : OwnL T xs l N) (k : T.own cs a M) : OwnL T (xs ++ cs) (l ++ [a]) (N ++ M) := h.append (.single k)
theorem OwnL.split : ∀ {l r : List α} {xs : List Value} {M : List Hl}, OwnL T xs (l ++ r) M → ∃ x1 x2 M1 M2, xs = x1 ++ x2 ∧ M = M1 ++ M2 ∧ OwnL T x1 l M1 ∧ OwnL T x2 r M2
  | [], r, xs, M, h => ⟨[], xs, [], M, rfl, rfl, .nil, h⟩
  | a :: l, r, _, _, .cons h1 h2 => by
    obtain ⟨x1, x2, M1, M2, rfl, rfl, h3, h4⟩ := h2.split
    exact ⟨_, x2, _, M2, (List.append_assoc ..).symm, (List.append_assoc ..).symm, .cons h1 h3, h4⟩
theorem OwnL.un : OwnL T xs (a :: l) M → ∃ cs ys M1 M2, xs = cs ++ ys ∧ M = M1 ++ M2 ∧ T.own cs a M1 ∧ OwnL T ys l M2
  | .cons h1 h2 => ⟨_, _, _, _, rfl, rfl, h1, h2⟩
theorem OwnL.at_ {i : Nat} (h : OwnL T xs l M) (hi : l[i]? = some a) : ∃ x1 cs x2 M1 Mi M2, xs = x1 ++ (cs ++ x2) ∧ M = M1 ++ (Mi ++ M2) ∧ x1.length = i * T.s ∧ OwnL T x1 (l.take i) M1 ∧ T.own cs a Mi ∧ OwnL T x2 (l.drop (i + 1)) M2 := by
  obtain ⟨hlt, rfl⟩ := List.getElem?_eq_some_iff.1 hi
  have e : l = l.take i ++ (l[i] :: l.drop (i + 1)) := by rw [← List.drop_eq_getElem_cons hlt, List.take_append_drop]
  have h' : OwnL T xs (l.take i ++ (l[i] :: l.drop (i + 1))) M := by rw [← e]; exact h
  obtain ⟨x1, x2, M1, M2, rfl, rfl, h1, h2⟩ := h'.split
  obtain ⟨cs, ys, Mi, M3, rfl, rfl, h3, h4⟩ := h2.un
  exact ⟨x1, cs, ys, M1, Mi, M3, rfl, rfl, by rw [h1.len, List.length_take, Nat.min_eq_left (Nat.le_of_lt hlt)], h1, h3, h4⟩
theorem seg_mid (x1 cs x2 : List Value) {off : Nat} (h : x1.length = off) : Seg (x1 ++ (cs ++ x2)) off cs := fun j u hu => by
  subst h
  rw [List.getElem?_append_right (by omega), Nat.add_sub_cancel_left, List.getElem?_append_left (List.getElem?_eq_some_iff.1 hu).1]
  exact hu
theorem RdL.at_ : ∀ {xs : List Value} {l : List α} {i : Nat}, RdL T w xs l → l[i]? = some a → ∃ cs, T.rd w cs a ∧ Seg xs (i * T.s) cs
  | _, _, i, .nil, hi => by simp at hi
  | _, _, 0, .cons (cs := cs) (xs := xs) h1 h2, hi => by
    simp at hi; subst hi
    exact ⟨cs, h1, by rw [Nat.zero_mul]; exact seg_mid [] cs xs rfl⟩
  | _, _, i + 1, .cons (cs := cs) (xs := xs) h1 h2, hi => by
    obtain ⟨ds, h3, h4⟩ := h2.at_ (i := i) (by simpa using hi)
    refine ⟨ds, h3, fun j u hu => ?_⟩
    have hl := T.len h1
    rw [List.getElem?_append_right (by rw [hl, Nat.succ_mul]; omega), hl, show (i + 1) * T.s + j - T.s = i * T.s + j by rw [Nat.succ_mul]; omega]
    exact h4 j u hu
/-- slices -/
def Ty.sl (E : TypeId) (T : Ty α) : Ty (List α) where
  s := 1
  rd w cs l := ∃ v xs, cs = [v] ∧ Rd w T.s v l.length xs ∧ RdL T w xs l
  own cs l M := ∃ v xs N, cs = [v] ∧ OwnL T xs l N ∧ M = Hl.row E T.s v l.length xs :: N ∧ v.oneCell' = true
  len h := by obtain ⟨v, xs, rfl, _⟩ := h; rfl
  olen h := by obtain ⟨v, xs, N, rfl, _⟩ := h; rfl
  one h := by
    obtain ⟨v, xs, rfl, hr, _⟩ := h
    obtain ⟨A, c, rfl, _⟩ := hr.form
    intro u hu
    obtain rfl := List.mem_singleton.1 hu
    rfl
  below h hb := by
    obtain ⟨v, xs, rfl, hr, hl⟩ := h
    exact ⟨v, xs, rfl, hr.later hb, hl.later hb⟩
  read h hp := by
    obtain ⟨v, xs, N, rfl, ho, rfl, _⟩ := h
    exact ⟨v, xs, rfl, (hp _ (List.mem_cons_self ..)).rd, ho.read (fun k hk => hp k (List.mem_cons_of_mem _ hk))⟩
/-- two side by side -/
def Ty.pair (T : Ty α) (U : Ty β) : Ty (α × β) where
  s := T.s + U.s
  rd w cs a := ∃ c1 c2, cs = c1 ++ c2 ∧ T.rd w c1 a.1 ∧ U.rd w c2 a.2
  own cs a M := ∃ c1 c2 M1 M2, cs = c1 ++ c2 ∧ M = M1 ++ M2 ∧ T.own c1 a.1 M1 ∧ U.own c2 a.2 M2
  len h := by obtain ⟨c1, c2, rfl, h1, h2⟩ := h; rw [List.length_append, T.len h1, U.len h2]
  olen h := by obtain ⟨c1, c2, M1, M2, rfl, rfl, h1, h2⟩ := h; rw [List.length_append, T.olen h1, U.olen h2]
  one h := by
    obtain ⟨c1, c2, rfl, h1, h2⟩ := h
    intro u hu
    rcases List.mem_append.1 hu with hu | hu
    · exact T.one h1 u hu
    · exact U.one h2 u hu
  below h hb := by obtain ⟨c1, c2, rfl, h1, h2⟩ := h; exact ⟨c1, c2, rfl, T.below h1 hb, U.below h2 hb⟩
  read h hp := by
    obtain ⟨c1, c2, M1, M2, rfl, rfl, h1, h2⟩ := h
    exact ⟨c1, c2, rfl, T.read h1 (fun k hk => hp k (List.mem_append_left _ hk)), U.read h2 (fun k hk => hp k (List.mem_append_right _ hk))⟩

theorem sl_form {E : TypeId} {v : Value} (h : (Ty.sl E T).rd w [v] l) : ∃ A c, v = .slice A l.length c ∧ l.length ≤ c ∧ c ≤ maxLen := by
  obtain ⟨v', xs, e, hr, _⟩ := h
  injection e with e; subst e
  obtain ⟨A, c, e, h1, h2, _⟩ := hr.form
  exact ⟨A, c, e, h1, h2⟩
/-- element i of a slice -/
theorem sl_at {E : TypeId} {v : Value} {i : Nat} (h : (Ty.sl E T).rd w [v] l) (hi : l[i]? = some a) : ∃ b off c cs, v = .slice (some ⟨b, off, none⟩) l.length c ∧ T.rd w cs a ∧ At w b (off + i * T.s) cs := by
  obtain ⟨v', xs, e, hr, hl⟩ := h
  injection e with e; subst e
  obtain ⟨A, c, rfl, h1, h2, hf⟩ := hr.form
  obtain ⟨b, off, rfl, hcell⟩ := hf (by have := (List.getElem?_eq_some_iff.1 hi).1; omega)
  obtain ⟨cs, h3, h4⟩ := hl.at_ hi
  exact ⟨b, off, c, cs, rfl, h3, fun j u hu => by rw [Nat.add_assoc]; exact hcell _ u (h4 j u hu)⟩
/-- a result: data in memory of their own -/
def tOwn (T : Ty α) (a : α) : Value → List Hl → Prop := fun v M => ∃ N, T.own v.cells.toList a N ∧ M = [Hl.all N] ∧ (T.s = 1 → v.oneCell' = true)
theorem tOwn.single {T : Ty α} {a : α} {v : Value} {M : List Hl} (h : tOwn T a v M) (hs : T.s = 1) : ∃ N, T.own [v] a N ∧ M = [Hl.all N] := by
  obtain ⟨N, h1, h2, h3⟩ := h
  refine ⟨N, ?_, h2⟩
  have e := h3 hs
  cases v <;> first | exact h1 | cases e
theorem own_rd {R : Nat → Prop} {w0 : World} {L : List Hl} (H : Hs R w0 L w) (i : In (Hl.all N) L) (h : T.own cs a N) : T.rd w cs a := T.read h (H.allOk i)
end

/-! ### a store into a row -/
def spl (xs : List Value) (off : Nat) (vs : List Value) : List Value := xs.take off ++ vs ++ xs.drop (off + vs.length)
theorem spl_mid (x1 z x2 vs : List Value) {off : Nat} (h : x1.length = off) (hz : z.length = vs.length) : spl (x1 ++ (z ++ x2)) off vs = x1 ++ (vs ++ x2) := by
  subst h
  unfold spl
  rw [List.take_left, List.append_assoc, List.drop_append, List.drop_eq_nil_of_le (by omega), List.nil_append, Nat.add_sub_cancel_left, ← hz, List.drop_left]
theorem spl_len {xs vs : List Value} {off : Nat} (h : off + vs.length ≤ xs.length) : (spl xs off vs).length = xs.length := by unfold spl; simp only [List.length_append, List.length_take, List.length_drop]; omega
theorem spl_ge {xs vs : List Value} {off : Nat} : xs.length ≤ (spl xs off vs).length := by unfold spl; simp only [List.length_append, List.length_take, List.length_drop]; omega
theorem splice_take {cur : Array Value} {off m : Nat} {xs vs : List Value} (h : cur.toList.take m = xs) (hx : xs.length = m) (hl : off + vs.length ≤ m) : (splice cur off vs).toList.take m = spl xs off vs := by
  have hm : m ≤ cur.toList.length := by rw [← hx, ← h, List.length_take]; omega
  unfold splice spl
  simp only [List.toList_toArray]
  subst h
  rw [List.take_take, Nat.min_eq_left (by omega), List.drop_take, List.append_assoc, List.append_assoc, List.take_append, List.take_append, List.length_take, Nat.min_eq_left (by omega),
    List.take_of_length_le (l := cur.toList.take off) (by rw [List.length_take]; omega), List.take_of_length_le (l := vs) (by omega)]
  congr 3
  omega
theorem run_storerow {P : Program} {T E : TypeId} {w : World} {g off s n c : Nat} {xs vs : List Value} {u : Value} (ho : rowOk w E s (.slice (some ⟨g, 0, none⟩) n c) n xs) (hv : u.cells.toList = vs) (hn : sizeT P T = some vs.length)
    (hp : 0 < vs.length) (hl : off + vs.length ≤ xs.length) (h1 : vs.all (·.oneCell') = true) :
    ∃ w', (storeVar T ⟨g, off, none⟩ u).run P w = .ok () w' ∧ rowOk w' E s (.slice (some ⟨g, 0, none⟩) n c) n (spl xs off vs) ∧ Grow (fun b => rowBlock (.slice (some ⟨g, 0, none⟩) n c) = some b) w w' := by
  rcases ho with ⟨_, rfl, _⟩ | ⟨g', c', hv', ho⟩
  · rw [List.length_nil] at hl; omega
  · injection hv' with e1 _ e3
    injection e1 with e1; injection e1 with e1 _ _
    subst e1 e3
    rcases ho.2 with ⟨h, _⟩ | ⟨g2, cap, cur, hv2, hb, hg, hnc, hcm, hcs, htake⟩
    · cases h
    · injection hv2 with e1 _ e3
      injection e1 with e1; injection e1 with e1 _ _
      subst e1 e3
      have hsz : u.cells.size = vs.length := by rw [← hv]; simp
      have hle : n * s ≤ cur.size := by rw [hcs]; exact Nat.mul_le_mul_right _ hnc
      have hr := run_store (P := P) (T := T) (g := g) (off := off) (t := E) (cs := cur) (v := u) (w := w) (by rw [hsz]; exact hn) hg (by rw [hsz]; have := ho.1; omega) (by rw [hv]; exact h1)
      rw [hv] at hr
      have hlen : (spl xs off vs).length = n * s := by unfold spl; simp only [List.length_append, List.length_take, List.length_drop]; have := ho.1; omega
      refine ⟨_, hr, .inr ⟨g, c', rfl, hlen, .inr ⟨g, c' + 1, _, rfl, hb, setRow_heap w g cur _ E _ hg, hnc, hcm, ?_, splice_take htake ho.1 (by have := ho.1; omega)⟩⟩, (Grow.setRow w g _).mono (fun b hb => by subst hb; rfl)⟩
      unfold splice
      simp only [List.size_toArray, List.length_append, List.length_take, List.length_drop, Array.length_toList]
      have := ho.1
      omega
theorem st_storerow {P : Program} {R : Nat → Prop} {w0 w : World} {L M : List Hl} {a : Act} {ops : Array Oper} {Q : Exit → Act → World → Prop} {rest : List Oper} {T E ty : TypeId} {x y : Operand} {pos : String} {aft : Array Edge} {dst : Option Tmp}
    {g off s n c : Nat} {xs vs : List Value} {u : Value} (H : Hs R w0 L w) (hx : a.eval x = .pointer (some ⟨g, off, none⟩)) (hy : a.eval y = u) (hv : u.cells.toList = vs)
    (up : Upd (Hl.row E s (.slice (some ⟨g, 0, none⟩) n c) n xs) (Hl.row E s (.slice (some ⟨g, 0, none⟩) n c) n (spl xs off vs)) L M)
    (hn : sizeT P T = some vs.length) (hp : 0 < vs.length) (hl : off + vs.length ≤ xs.length) (h1 : vs.all (·.oneCell') = true)
    (k : ∀ w', Hs R w0 M w' → wpList P ops Q rest (a.put dst undef) w') : wpList P ops Q (⟨dst, .store T x y, ty, pos, aft, none⟩ :: rest) a w := by
  refine wpList_plain rfl fun K hK => ?_
  obtain ⟨w', hr, ho, hg⟩ := run_storerow (P := P) (T := T) (H.rows up.inL) hv hn hp hl h1
  unfold Oper.wp execOp
  simp only [hx, hy, Instr.storeAt, Instr.sureAddr, Sem.run_bind, Sem.run_pure, Result.andThen_ok, hr]
  exact hK _ _ (k _ (H.turn up hg ho (fun b hb => .inl hb)))
/-- make([]E, n): a row -/
theorem st_makerow {P : Program} {R : Nat → Prop} {w0 w : World} {L : List Hl} {a : Act} {ops : Array Oper} {Q : Exit → Act → World → Prop} {rest : List Oper} {T E ty : TypeId} {x y : Operand} {pos : String} {aft : Array Edge} {dst : Option Tmp} {s n : Nat}
    (H : Hs R w0 L w) (hx : a.eval x = .int .i64 (n : Int)) (hy : a.eval y = .int .i64 (n : Int)) (hT : appT P T E s = true) (hn : n ≤ 1000000000)
    (k : ∀ g zs w', zs.length = n * s → (∃ i z, P.info? E = some i ∧ i.zero = some z ∧ zs = (madeCells z.cells (n * s)).toList) → Hs R w0 (Hl.row E s (.slice (some ⟨g, 0, none⟩) n n) n zs :: L) w' → wpList P ops Q rest (a.put dst (.slice (some ⟨g, 0, none⟩) n n)) w') :
    wpList P ops Q (⟨dst, .makeSlice T x y, ty, pos, aft, none⟩ :: rest) a w := by
  obtain ⟨i, z, ht, hi, hz, h2, h3, h4, h5⟩ := appT_spec hT
  refine st_make (E := E) (z := z) (s := s) (b := i.bytes) (m := (n : Int)) H hx hy ht (by rw [hi]; simp [hz, h2]) (by omega) ?_ (by omega) fun g w' H1 => ?_
  · have := bytes_le hn h3
    have h6 : ((n * i.bytes : Nat) : Int) = (i.bytes : Int) * n := by rw [Nat.mul_comm]; exact Int.natCast_mul ..
    omega
  · have hs : (madeCells z.cells (n * s)).size = n * s := by simp [madeCells]
    have H2 := (H1.toOwn (g := g) (E := E) s n Upd.here (by simpa using hs) (by unfold maxLen; omega)).toRow Upd.here
    exact k g _ w' (by simpa using hs) ⟨i, z, hi, hz, rfl⟩ H2
/-- .. filled element by element -/
theorem own_step {α : Type} {T : Ty α} {pre zs cs : List Value} {l : List α} {N Mi : List Hl} {i m : Nat} {a : α} (h : OwnL T pre (l.take i) N) (hi : l[i]? = some a) (hz : zs.length = (m + 1) * T.s) (ho : T.own cs a Mi) :
    ∃ pre' zs', OwnL T pre' (l.take (i + 1)) (N ++ Mi) ∧ spl (pre ++ zs) (i * T.s) cs = pre' ++ zs' ∧ zs'.length = m * T.s := by
  obtain ⟨hlt, rfl⟩ := List.getElem?_eq_some_iff.1 hi
  have hp : pre.length = i * T.s := by rw [h.len, List.length_take, Nat.min_eq_left (Nat.le_of_lt hlt)]
  have hc := T.olen ho
  have hl : T.s ≤ zs.length := by rw [hz, Nat.succ_mul]; omega
  refine ⟨pre ++ cs, zs.drop T.s, ?_, ?_, by rw [List.length_drop, hz, Nat.succ_mul]; omega⟩
  · rw [List.take_succ_eq_append_getElem hlt]
    exact h.snoc ho
  · have e : zs = zs.take T.s ++ zs.drop T.s := (List.take_append_drop _ _).symm
    rw [e, spl_mid pre (zs.take T.s) (zs.drop T.s) cs hp (by rw [List.length_take, hc]; omega), List.append_assoc]
    simp
/-- what a call of Rets owes at its end, under a name -/
def RPost (K : List Hl) (w : World) (T : Value → List Hl → Prop) : Ending → World → Prop := fun e w' => ∃ v M, e = .returned v ∧ T v M ∧ Hk K w M w'
theorem Rets.of {P : Program} {K : List Hl} {f : FuncId} {args : Array Value} {w : World} {T : Value → List Hl → Prop} (h : Calls P f args w (RPost K w T)) : Rets P K f args w T := h
/-- a walk's end: a value, in pieces of its own -/
theorem Hs.retd {T : Value → List Hl → Prop} {w w' : World} {v : Value} {L M : List Hl} (H : Hs noRow w L w') (h : M.Sublist L) (hT : T v M) : RPost [] w T (.returned v) w' :=
  ⟨v, M, rfl, hT, (H.sub h).hk⟩
theorem ret_sl {α : Type} {T : Ty α} {E : TypeId} {w w' : World} {v : Value} {xs zs : List Value} {l r : List α} {N L : List Hl} {n s : Nat} (H : Hs noRow w (Hl.row E s v n (xs ++ zs) :: Hl.all N :: L) w') (h : OwnL T xs l N) (hl : l = r) (hz : zs.length = 0) (hn : n = r.length) (hs : s = T.s := by rfl) :
    RPost [] w (tOwn (Ty.sl E T) r) (.returned v) w' := by
  subst hl hn hs
  obtain rfl : zs = [] := List.eq_nil_of_length_eq_zero hz
  rw [List.append_nil] at H
  have hv := H.rows .here
  have h1 : v.oneCell' = true ∧ v.cells.toList = [v] := by obtain ⟨A, c, rfl, _⟩ := hv.slice; exact ⟨rfl, rfl⟩
  refine Hs.retd (L := Hl.all (Hl.row E T.s v l.length xs :: N) :: L) (M := [Hl.all (Hl.row E T.s v l.length xs :: N)]) ?_ (List.Sublist.cons_cons _ (List.nil_sublist _)) ⟨_, ⟨v, xs, N, h1.2, h, rfl, h1.1⟩, rfl, fun _ => h1.1⟩
  have h2 : Hs noRow w (Hl.all N :: (L ++ [Hl.row E T.s v l.length xs])) w' := H.reperm (List.perm_append_singleton _ (Hl.all N :: L)).symm
  have h3 := h2.unpack
  refine Hs.pack (h3.reperm ?_)
  rw [← List.append_assoc]
  exact List.perm_append_singleton _ _
/-- a goal that 'apply' does not look into -/
structure Bx (p : Prop) : Prop where
  out : p
/-! ### guards -/
/-- a guarded operation: its guard's value is known, whatever it is -/
theorem st_guard {P : Program} {a : Act} {w : World} {ops : Array Oper} {Q : Exit → Act → World → Prop} {rest : List Oper} {dst : Option Tmp} {ty : TypeId} {pos : String} {aft : Array Edge} {op : Op} {j : Nat} {b b' : Bool}
    (hy : yielded ops a.tmps j = some b') (k1 : b' = b → wpList P ops Q (⟨dst, op, ty, pos, aft, none⟩ :: rest) a w) (k0 : b' = (!b) → wpList P ops Q rest (a.put dst undef) w) : wpList P ops Q (⟨dst, op, ty, pos, aft, some (j, b)⟩ :: rest) a w := by
  by_cases h : b' = b
  · refine st_want ?_ (k1 h)
    simp [Region.wanted, hy, h]
  · have h2 : b' = (!b) := by cases b <;> cases b' <;> simp_all
    refine st_skip ?_ (k0 h2)
    simp [Region.wanted, hy, h2]
/-! ### short words -/
theorem aF {P : Prop} (h : P := by first | exact At.old (by assumption) H | assumption) : P := h
theorem aF1 {P : Prop} (h : P := by first | exact At.old (by assumption) H1 | assumption) : P := h
theorem qAF {P : Prop} (h : P := by (with_reducible apply q_loadat); (focus rfl); (focus decide +kernel); (focus exact aF1); (focus exact zF); (focus rfl)) : P := h
theorem qWF {P : Prop} (h : P := by unfold QOk; go_simp; rw [wrap_id (by omega) (by omega)]; exact q_v) : P := h
theorem fitF {P : Prop} (h : P := by first | assumption | ((repeat (with_reducible refine Nat.le_trans ?_ spl_ge)); (first | assumption | (simp only [List.length_cons, List.length_nil]; omega)))) : P := h

/-! ### marks -/
/-- how many marks a datum takes, and the datum marked from k on -/
structure Mark (α : Type) where
  cnt : α → Nat
  mak : Nat → α → α
namespace Mark
variable {α β : Type} (M : Mark α) (U : Mark β)
def cntl : List α → Nat
  | [] => 0
  | a :: l => M.cnt a + cntl l
def mkl : Nat → List α → List α
  | _, [] => []
  | k, a :: l => M.mak k a :: mkl (k + M.cnt a) l
def list : Mark (List α) := ⟨M.cntl, M.mkl⟩
def pair : Mark (α × β) := ⟨fun a => M.cnt a.1 + U.cnt a.2, fun k a => (M.mak k a.1, U.mak (k + M.cnt a.1) a.2)⟩
theorem cntl_append (l r : List α) : M.cntl (l ++ r) = M.cntl l + M.cntl r := by
  induction l with
  | nil => simp [cntl]
  | cons a l ih => simp [cntl, ih, Nat.add_assoc]
theorem cntl_step {l : List α} {i : Nat} {a : α} (h : l[i]? = some a) : M.cntl (l.take (i + 1)) = M.cntl (l.take i) + M.cnt a := by
  obtain ⟨hlt, rfl⟩ := List.getElem?_eq_some_iff.1 h
  rw [List.take_succ_eq_append_getElem hlt, cntl_append]
  rfl
theorem cntl_take_le (l : List α) (i : Nat) : M.cntl (l.take i) ≤ M.cntl l := by
  have := M.cntl_append (l.take i) (l.drop i)
  rw [List.take_append_drop] at this
  omega
theorem cnt_at_le {l : List α} {i : Nat} {a : α} (h : l[i]? = some a) : M.cntl (l.take i) + M.cnt a ≤ M.cntl l := by
  have := M.cntl_take_le l (i + 1)
  rw [M.cntl_step h] at this
  exact this
end Mark
/-- a row of one's own laid open, and closed again -/
theorem own_open {α : Type} {T : Ty α} {E : TypeId} {R : Nat → Prop} {w0 w : World} {L N : List Hl} {v : Value} {l : List α} (h : (Ty.sl E T).own [v] l N) (H : Hs R w0 (Hl.all N :: L) w) :
    ∃ xs M A c, v = .slice A l.length c ∧ OwnL T xs l M ∧ c ≤ maxLen ∧ Hs R w0 (Hl.row E T.s v l.length xs :: Hl.all M :: L) w := by
  obtain ⟨v', xs, M, hv, hO, rfl, h1⟩ := h
  injection hv with hv
  subst hv
  have H1 : Hs R w0 (Hl.row E T.s v l.length xs :: (M ++ L)) w := H.unpack
  have H2 : Hs R w0 (M ++ (L ++ [Hl.row E T.s v l.length xs])) w := H1.reperm (by rw [← List.append_assoc]; exact (List.perm_append_singleton _ _).symm)
  have H3 : Hs R w0 (Hl.row E T.s v l.length xs :: Hl.all M :: L) w := H2.pack.reperm ((List.perm_append_singleton _ (Hl.all M :: L)))
  obtain ⟨A, c, hs, _, hc⟩ := (H3.rows .here).slice
  exact ⟨xs, M, A, c, hs, hO, hc, H3⟩
/-- what is left of a size -/
def szC (k : Int) (n : Nat) : Int := if k - n < 0 then -1 else k - n
theorem szC_neg {k : Int} {n : Nat} (h : k - n < 0) : szC k n = -1 := if_pos h
theorem szC_pos {k : Int} {n : Nat} (h : ¬ k - n < 0) : szC k n = k - n := if_neg h
theorem flat_noown {α : Type} {s : Nat} {enc : α → List Value} {hl : ∀ a, (enc a).length = s} {h1 : ∀ a, ∀ u ∈ enc a, u.oneCell' = true} {xs : List Value} {l : List α} {N : List Hl} (h : OwnL (Ty.flat s enc hl h1) xs l N) : N = [] := by
  induction h with
  | nil => rfl
  | cons h _ ih => rw [h.2, ih]; rfl
section
variable (pre : List Value) {p : Nat} {a b c d e u1 u2 u3 u4 u5 : Value}
end
end Go.Proofs.YtpfdhfchgnnpiaaGreat
