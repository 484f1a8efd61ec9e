/-
  Rows of one's own, nil and empty ones too; loads of structs out of old memory and out of rows. Plain theorems; nothing of the program is named.
-/
import Derived.Test.YtpfdhfchgnnpiaaGreatEng
import Derived.Test.YtpfdhfchgnnpiaaGreatC1
import Derived.Deep.AppendSrc
set_option linter.unusedSimpArgs false
set_option linter.unusedVariables false
namespace Go.Proofs.YtpfdhfchgnnpiaaGreat
open Go.RowKit

/-- the block of a row that has room -/
def rowBlock : Value → Option Nat
  | .slice (some a) _ (_ + 1) => some a.block
  | _ => none
/-- v is a row of its own; an empty one without room may point anywhere -/
def rowOk (w : World) (E : TypeId) (s : Nat) (v : Value) (n : Nat) (xs : List Value) : Prop :=
  (n = 0 ∧ xs = [] ∧ ∃ A, v = .slice A 0 0) ∨ (∃ g c, v = .slice (some ⟨g, 0, none⟩) n (c + 1) ∧ w.ownsRow 0 E s v n xs)
theorem rowOk.stab {w w' : World} {E : TypeId} {s n : Nat} {v : Value} {xs : List Value} (h : rowOk w E s v n xs) (e : ∀ b, rowBlock v = some b → w'.heap[b]? = w.heap[b]?) : rowOk w' E s v n xs := by
  rcases h with h | ⟨g, c, rfl, h⟩
  · exact .inl h
  · refine .inr ⟨g, c, rfl, h.1, ?_⟩
    rcases h.2 with ⟨hn, _⟩ | ⟨g', cap, cur, hv, hb, hg, rest⟩
    · cases hn
    · injection hv with h1 h2 h3
      injection h1 with h1
      injection h1 with h1 _ _
      subst h1
      refine .inr ⟨g, cap, cur, by rw [h3], hb, (e g rfl).trans hg, rest⟩
theorem rowOk.lt {w : World} {E : TypeId} {s n : Nat} {v : Value} {xs : List Value} (h : rowOk w E s v n xs) {b : Nat} (e : rowBlock v = some b) : b < w.heap.size := by
  rcases h with ⟨_, _, A, rfl⟩ | ⟨g, c, rfl, h⟩
  · cases A <;> cases e
  · injection e with e
    subst e
    exact (h.lt g rfl).2
def Hl.row (E : TypeId) (s : Nat) (v : Value) (n : Nat) (xs : List Value) : Hl :=
  ⟨fun b => rowBlock v = some b, fun w => rowOk w E s v n xs, fun _ _ h e => h.stab e, fun _ h _ e => h.lt e⟩
theorem rowOk_of_own {w : World} {E : TypeId} {s n : Nat} {v : Value} {xs : List Value} (h : w.ownsRow 0 E s v n xs) : rowOk w E s v n xs := by
  rcases h.2 with ⟨rfl, rfl⟩ | ⟨g, cap, cur, rfl, hb, hg, hn, hc, rest⟩
  · exact .inl ⟨rfl, List.eq_nil_of_length_eq_zero (by simpa using h.1), none, rfl⟩
  · cases cap with
    | zero =>
      obtain rfl : n = 0 := by omega
      exact .inl ⟨rfl, List.eq_nil_of_length_eq_zero (by simpa using h.1), _, rfl⟩
    | succ c => exact .inr ⟨g, c, rfl, h⟩
theorem rowBlock_own {v : Value} {b : Nat} (h : rowBlock v = some b) : v.ownBlock = some b := by
  unfold rowBlock at h
  split at h
  · exact h
  · cases h
theorem rowOk.rd {w : World} {E : TypeId} {s n : Nat} {v : Value} {xs : List Value} (h : rowOk w E s v n xs) : Rd w s v n xs := by
  rcases h with ⟨rfl, rfl, A, rfl⟩ | ⟨g, c, rfl, h⟩
  · exact ⟨by simp, A, 0, rfl, Nat.le_refl _, Nat.zero_le _, fun h => absurd h (by omega)⟩
  · exact Rd.of_own h
theorem rowOk.len {w : World} {E : TypeId} {s n : Nat} {v : Value} {xs : List Value} (h : rowOk w E s v n xs) : xs.length = n * s := h.rd.1
theorem rowOk.form {w : World} {E : TypeId} {s n : Nat} {v : Value} {xs : List Value} (h : rowOk w E s v n xs) (hn : 0 < n) : ∃ g c, v = .slice (some ⟨g, 0, none⟩) n c ∧ w.ownsRow 0 E s v n xs := by
  rcases h with ⟨rfl, _⟩ | ⟨g, c, rfl, h⟩
  · omega
  · exact ⟨g, c + 1, rfl, h⟩
theorem rowOk.slice {w : World} {E : TypeId} {s n : Nat} {v : Value} {xs : List Value} (h : rowOk w E s v n xs) : ∃ A c, v = .slice A n c ∧ n ≤ c ∧ c ≤ maxLen := by
  obtain ⟨A, c, e, h1, h2, _⟩ := h.rd.form
  exact ⟨A, c, e, h1, h2⟩
theorem rowOk.none {w : World} (E : TypeId) (s : Nat) (A : Option Addr) : rowOk w E s (.slice A 0 0) 0 [] := .inl ⟨rfl, rfl, A, rfl⟩

section
variable {R : Nat → Prop} {w0 w w' : World} {L M : List Hl}
/-- an own row is a row -/
theorem Hs.toRow {E : TypeId} {s n : Nat} {v : Value} {xs : List Value} (H : Hs R w0 L w) (u : Upd (Hl.own E s v n xs) (Hl.row E s v n xs) L M) : Hs R w0 M w :=
  H.turn u ((Grow.refl noRow w).mono (fun _ f => f.elim)) (rowOk_of_own (H.ok _ u.inL.mem)) (fun _ hb => .inl (rowBlock_own hb))
/-- a piece that takes up no block may be put there -/
theorem Hs.put {h : Hl} (H : Hs R w0 L w) (hp : h.P w) (hs : ∀ b, ¬ h.sup b) : Hs R w0 (h :: L) w := by
  refine ⟨H.grow, ?_, ?_, List.pairwise_cons.2 ⟨fun k _ b hb => absurd hb (hs b), H.sep⟩⟩
  · intro k hk
    rcases List.mem_cons.1 hk with rfl | hk
    · exact hp
    · exact H.ok k hk
  · intro k hk b hb
    rcases List.mem_cons.1 hk with rfl | hk
    · exact absurd hb (hs b)
    · exact H.own k hk b hb
theorem Hs.putRow (H : Hs R w0 L w) (E : TypeId) (s : Nat) (A : Option Addr) : Hs R w0 (Hl.row E s (.slice A 0 0) 0 [] :: L) w :=
  H.put (rowOk.none E s A) (fun b hb => by cases A <;> cases hb)
theorem Hs.rows {E : TypeId} {s n : Nat} {v : Value} {xs : List Value} (H : Hs R w0 L w) (i : In (Hl.row E s v n xs) L) : rowOk w E s v n xs := H.ok _ i.mem
theorem Hs.rowCell {g : Nat} {E : TypeId} {s n c : Nat} {xs : List Value} (H : Hs R w0 L w) (i : In (Hl.row E s (.slice (some ⟨g, 0, none⟩) n c) n xs) L) {j : Nat} {v : Value} (e : xs[j]? = some v) : w.cell? ⟨g, j, none⟩ = some v := by
  rcases H.rows i with ⟨_, rfl, _⟩ | ⟨g', c', hv, h⟩
  · simp at e
  · exact (h.cells (g := g) rfl j v e : w.cell? ((⟨g, 0, none⟩ : Addr).add j) = some v) ▸ by rw [Addr.add_mid, Nat.zero_add]
end

/-! ### append -/
section
variable {P : Program} {w : World}
theorem firstCells_zero (s : Nat) (A : Option Addr) (n c : Nat) (w' : World) : (Builtin.firstCells s 0 (.slice A n c)).run P w' = .ok #[] w' := by
  cases A <;> simp [Builtin.firstCells, loadCells, loadCellsFrom]
theorem src_of_rd {s n : Nat} {v : Value} {xs : List Value} {t e : TypeId} (ht : P.underlying t = some (.slice e)) (h : Rd w s v n xs) (h1 : ∀ u ∈ xs, u.oneCell' = true) : Src P s t v n xs w := by
  obtain ⟨A, c, rfl, hn, hc, hf⟩ := h.form
  by_cases h0 : n = 0
  · subst h0
    obtain rfl : xs = [] := List.eq_nil_of_length_eq_zero (by simpa using h.1)
    exact ⟨.inl ⟨e, ht⟩, fun _ => by cases A <;> rfl, firstCells_zero s A 0 c w, firstCells_zero s A 0 c w.drew, by simp, fun _ h => by cases h⟩
  · obtain ⟨b, off, rfl, hcell⟩ := hf (by omega)
    exact Src.ofSlice w ht ⟨b, off, none⟩ n c xs h.1 (fun j u hu => by rw [Addr.add_mid]; exact hcell j u hu) h1
/-- **append** to a row, of whatever reads as a slice -/
theorem run_append_row {t ty E : TypeId} {s : Nat} (hT : appT P t E s = true) {v : Value} {n : Nat} {xs : List Value} (ho : rowOk w E s v n xs) {src : Value} {m : Nat} {news : List Value} (hr : Rd w s src m news)
    (h1 : ∀ u ∈ news, u.oneCell' = true) (hm : n + m ≤ 1000000000) :
    ∃ v' w', (Builtin.append_ #[t, t] ty #[v, src]).run P w = .ok v' w' ∧ rowOk w' E s v' (n + m) (xs ++ news) ∧ Grow (fun b => rowBlock v = some b) w w' ∧ (∀ b, rowBlock v' = some b → rowBlock v = some b ∨ w.heap.size ≤ b) := by
  obtain ⟨i, z, ht, hi, hz, h2, h3, h4, h5⟩ := appT_spec hT
  subst h2
  have hS := src_of_rd (P := P) ht hr h1
  rcases ho with ⟨rfl, rfl, A, rfl⟩ | ⟨g, c, rfl, ho⟩
  · by_cases h0 : m = 0
    · subst h0
      obtain rfl : news = [] := List.eq_nil_of_length_eq_zero (by simpa using hr.1)
      obtain ⟨A2, c2, rfl, _⟩ := hr.form
      refine ⟨.slice A 0 0, w, ?_, rowOk.none E _ A, (Grow.refl noRow w).mono (fun _ f => f.elim), fun b hb => .inl hb⟩
      cases A <;> cases A2 <;> simp [Builtin.append_, run_underlying ht, Go.sizeOf, typeInfo, hi, Builtin.lenOf, Builtin.firstCells, loadCells, loadCellsFrom, storeCells]
    · have he := run_append_grow_src (P := P) w t t ty E i z ht hi hz A 0 0 [] (firstCells_zero _ A 0 0 w.drew) src m news hS (by omega) (by omega) (growslice_fits (by omega) (bytes_le (by omega) h3))
      simp only [Nat.zero_add, List.nil_append] at he ⊢
      have hge := grownCap_ge w m 0 E
      have hcm : grownCap w m 0 E ≤ maxLen := grownCap_le_maxLen w m 0 E (by unfold maxLen; omega)
      refine ⟨_, _, he, rowOk_of_own ⟨hr.1, .inr ⟨w.heap.size, _, _, rfl, Nat.zero_le _, heap_alloc_new w.drew _, hge, hcm, ?_, ?_⟩⟩, (growN (((Below.refl _ w).drew).alloc (Nat.le_refl _) _)).mono (fun _ f => f.elim), fun b hb => .inr (by have := rowBlock_own hb; simp [Value.ownBlock] at this; omega)⟩
      · simp only [Array.size_append, List.size_toArray, size_zeroCells, h4, hr.1, ← Nat.add_mul]
        congr 1
        omega
      · simp only [Array.toList_append]
        rw [← hr.1]
        exact List.take_left
  · obtain ⟨A2, c2, rfl, hmc, hc2, hf⟩ := hr.form
    cases A2 with
    | none =>
      have h0 : m = 0 := by
        rcases Nat.eq_zero_or_pos m with h | h
        · exact h
        · obtain ⟨_, _, h, _⟩ := hf h; cases h
      subst h0
      obtain rfl : news = [] := List.eq_nil_of_length_eq_zero (by simpa using hr.1)
      refine ⟨_, w, ?_, .inr ⟨g, c, rfl, by rw [List.append_nil]; exact ho⟩, (Grow.refl noRow w).mono (fun _ f => f.elim), fun b hb => .inl hb⟩
      have hnc : n ≤ c + 1 := by
        rcases ho.2 with ⟨h, _⟩ | ⟨_, _, _, h, _, _, h6, _⟩
        · cases h
        · injection h with _ _ h; omega
      simp [Builtin.append_, run_underlying ht, Go.sizeOf, typeInfo, hi, Builtin.lenOf, Builtin.firstCells, hnc, storeCells]
    | some ad =>
      have hnews : ∀ j u, news[j]? = some u → w.cell? (ad.add j) = some u := by
        intro j u hu
        rcases Nat.eq_zero_or_pos m with h | h
        · have : news = [] := List.eq_nil_of_length_eq_zero (by rw [hr.1, h, Nat.zero_mul])
          rw [this] at hu; simp at hu
        · obtain ⟨b, off, hb, hcell⟩ := hf h
          injection hb with hb
          subst hb
          rw [Addr.add_mid]; exact hcell j u hu
      obtain ⟨v', w', hrun, ho', hg, hnil⟩ := run_append_own (P := P) w 0 t ty E i z i.size i.bytes ht hi hz rfl rfl h4 h5 _ n xs ho ad m c2 news hr.1 hnews h1 (by unfold maxLen; omega) (bytes_le hm h3) (Nat.zero_le _)
      exact ⟨v', w', hrun, rowOk_of_own ho', (Grow.of_grownBy hg).mono (fun b hb => hb), fun b hb => append_block ht hi hz rfl h3 ho hr.1 hnews h1 hm hrun b (rowBlock_own hb)⟩
/-- the step over an append -/
theorem st_appendr {R : Nat → Prop} {w0 : World} {L M : List Hl} {a : Act} {ops : Array Oper} {Q : Exit → Act → World → Prop} {rest : List Oper} {dst : Option Tmp} {ty : TypeId} {pos : String} {aft : Array Edge}
    {xo yo : Operand} {t E : TypeId} {s n m : Nat} {v src : Value} {xs news : List Value} (H : Hs R w0 L w) (d : Del (Hl.row E s v n xs) L M) (hs : a.eval xo = v) (hx : a.eval yo = src)
    (hT : appT P t E s = true) (hr : Rd w s src m news) (h1 : news.all (·.oneCell') = true) (hm : n + m ≤ 1000000000)
    (k : ∀ v' w', Hs R w0 (Hl.row E s v' (n + m) (xs ++ news) :: M) w' → wpList P ops Q rest (a.put dst v') w') :
    wpList P ops Q (⟨dst, .call ⟨.builtin .append, #[xo, yo], #[t, t]⟩, ty, pos, aft, none⟩ :: rest) a w := by
  refine wpList_plain rfl fun K hK => ?_
  have H1 := H.perm d.perm.symm
  have ho : rowOk w E s v n xs := H1.ok _ (List.mem_cons_self ..)
  obtain ⟨v', w', hrun, ho', hg, hb⟩ := run_append_row (P := P) (ty := ty) hT ho hr (fun u hu => List.all_eq_true.1 h1 u hu) hm
  unfold Oper.wp execOp
  simp only [resolve, invoke, builtin, Sem.run_bind, Sem.run_pure, Result.andThen_ok, List.map_toArray, List.map_cons, List.map_nil, hs, hx, hrun]
  exact hK _ _ (k v' w' (H1.turn Upd.here hg ho' hb))
/-- a block that was just built reads as a slice -/
theorem Rd.of_blk {g : Nat} {E : TypeId} {cs : Array Value} {s m : Nat} (h : Blk w g E cs) (hl : cs.toList.length = m * s) (hm : m ≤ maxLen) : Rd w s (.slice (some ⟨g, 0, none⟩) m m) m cs.toList :=
  ⟨hl, _, m, rfl, Nat.le_refl _, hm, fun _ => ⟨g, 0, rfl, fun j u hu => by rw [Nat.zero_add, h.cell]; simpa using hu⟩⟩
theorem st_appendrb {R : Nat → Prop} {w0 : World} {L M : List Hl} {a : Act} {ops : Array Oper} {Q : Exit → Act → World → Prop} {rest : List Oper} {dst : Option Tmp} {ty : TypeId} {pos : String} {aft : Array Edge}
    {xo yo : Operand} {t E : TypeId} {s n m g : Nat} {v : Value} {xs : List Value} {cs : Array Value} (H : Hs R w0 L w) (d : Del (Hl.row E s v n xs) L M) (hs : a.eval xo = v) (hx : a.eval yo = .slice (some ⟨g, 0, none⟩) m m)
    (i : In (Hl.blk g E cs) L) (hT : appT P t E s = true) (hl : cs.toList.length = m * s) (h1 : cs.toList.all (·.oneCell') = true) (hm : n + m ≤ 1000000000)
    (k : ∀ v' w', Hs R w0 (Hl.row E s v' (n + m) (xs ++ cs.toList) :: M) w' → wpList P ops Q rest (a.put dst v') w') :
    wpList P ops Q (⟨dst, .call ⟨.builtin .append, #[xo, yo], #[t, t]⟩, ty, pos, aft, none⟩ :: rest) a w :=
  st_appendr H d hs hx hT (Rd.of_blk (H.blk i) hl (by unfold maxLen; omega)) h1 hm k
end

/-! ### cells that stand side by side -/
/-- from off on stand the cells vs -/
def At (w : World) (b off : Nat) (vs : List Value) : Prop := ∀ j u, vs[j]? = some u → w.cell? ⟨b, off + j, none⟩ = some u
section
variable {P : Program} {R : Nat → Prop} {w0 w w' : World} {L M : List Hl} {a : Act} {ops : Array Oper} {Q : Exit → Act → World → Prop} {rest : List Oper} {dst : Option Tmp} {T ty : TypeId} {x : Operand} {pos : String} {aft : Array Edge} {gd : Option (Nat × Bool)} {b off n : Nat} {vs : List Value} {K : List Hl}
theorem At.one (h : At w b off vs) {j : Nat} {u : Value} (e : vs[j]? = some u) : w.cell? ⟨b, off + j, none⟩ = some u := h j u e
theorem At.head (h : At w b off vs) {u : Value} (e : vs[0]? = some u) : w.cell? ⟨b, off, none⟩ = some u := h 0 u e
theorem At.below (h : At w b off vs) (hb : Below w.heap.size w w') : At w' b off vs := fun j u hu => (hb.cell (World.block_lt_of_cell? w _ (h j u hu))).trans (h j u hu)
theorem At.old (h : At w0 b off vs) (H : Hs noRow w0 L w) : At w b off vs := h.below H.below
theorem At.row {E : TypeId} {s m c : Nat} {xs : List Value} (H : Hs R w0 L w) (i : In (Hl.row E s (.slice (some ⟨b, 0, none⟩) m c) m xs) L) (h : ∀ j u, vs[j]? = some u → xs[off + j]? = some u) : At w b off vs := fun j u hu => H.rowCell i (h j u hu)
theorem At.own {E : TypeId} {s m c : Nat} {xs : List Value} (H : Hs R w0 L w) (i : In (Hl.own E s (.slice (some ⟨b, 0, none⟩) m c) m xs) L) (h : ∀ j u, vs[j]? = some u → xs[off + j]? = some u) : At w b off vs := fun j u hu => H.ownCell i (h j u hu)
/-- the cells at a place of a list -/
def Seg (xs : List Value) (off : Nat) (vs : List Value) : Prop := ∀ j u, vs[j]? = some u → xs[off + j]? = some u
theorem st_loadat (H : Hs R w0 L w) (hT : aggT P T = some true) (hx : a.eval x = .pointer (some ⟨b, off, none⟩)) (hA : At w b off vs) (hn : sizeT P T = some n) (hl : vs.length = n)
    (k : ∀ w', Hs R w0 L w' → wpList P ops Q rest (a.put dst (.agg vs.toArray)) w') : wpList P ops Q (⟨dst, .load T x, ty, pos, aft, none⟩ :: rest) a w :=
  st_loadn H hT hx hn hl hA k
theorem q_loadat (hx : a.eval x = .pointer (some ⟨b, off, none⟩)) (hT : aggT P T = some true) (hA : At w b off vs) (hn : sizeT P T = some n) (hl : vs.length = n) : QOk P ⟨dst, .load T x, ty, pos, aft, gd⟩ a w (.agg vs.toArray) :=
  q_loadn hx hT hn hl hA
end
end Go.Proofs.YtpfdhfchgnnpiaaGreat
