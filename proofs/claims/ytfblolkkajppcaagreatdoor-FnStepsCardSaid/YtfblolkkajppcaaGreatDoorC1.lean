import Derived.Test.YtfblolkkajppcaaGreatDoorG1
set_option linter.unusedSimpArgs false
set_option linter.unusedVariables false
namespace Go.Proofs.YtfblolkkajppcaaGreatDoor
open Go.RowKit M

/-! ### marks: 'm' and a number in digits -/
def dig (m : Nat) : Bs := if m = 0 then [] else dig (m / 10) ++ [UInt8.ofNat (48 + m % 10)]
termination_by m
decreasing_by omega
theorem dig_zero : dig 0 = [] := by rw [dig]; rfl
theorem dig_pos {m : Nat} (h : 0 < m) : dig m = dig (m / 10) ++ [UInt8.ofNat (48 + m % 10)] := by rw [dig, if_neg (by omega)]
def mtext (k : Nat) : Bs := if k = 0 then [109, 48] else 109 :: dig k

theorem conv_one (w : World) (n : Int) (hn : 0 ≤ n ∧ n < 256) : (convert 22 9 (.slice (some ⟨w.heap.size, 0, none⟩) 1 1)).run Tryz.prog (w.alloc (.cells #[.int .u8 n] 5)) =
    .ok (.string (bs [UInt8.ofNat n.toNat])) (w.alloc (.cells #[.int .u8 n] 5)) := by
  refine run_convert_bytes_back (P := Tryz.prog) _ 22 9 5 ⟨w.heap.size, 0, none⟩ 1 [UInt8.ofNat n.toNat] Tryz.underlying22 Tryz.underlying5 Tryz.underlying9 ?_
  intro j hj
  obtain rfl : j = 0 := by simpa using hj
  have hb : (((UInt8.ofNat n.toNat).toNat : Nat) : Int) = n := by rw [UInt8.toNat_ofNat']; omega
  rw [show (⟨w.heap.size, 0, none⟩ : Addr).add 0 = ⟨w.heap.size, 0, none⟩ from rfl]
  simp only [List.getElem_cons_zero, hb]
  simp [World.cell?_alloc_new]

/-! ### the copies and comparisons of the statement: Region -/
abbrev Reg := ByteArray × ByteArray × ByteArray
def encReg (r : Reg) : List Value := [.string r.1, .string r.2.1, .string r.2.2]
theorem encReg_len (r : Reg) : (encReg r).length = 3 := rfl
def eqReg (a b : Reg) : Bool := decide (a.1 = b.1) && (decide (a.2.1 = b.2.1) && decide (a.2.2 = b.2.2))
theorem eqReg_iff (a b : Reg) : eqReg a b = true ↔ a = b := by
  obtain ⟨a1, a2, a3⟩ := a; obtain ⟨b1, b2, b3⟩ := b
  simp [eqReg]

/-- cell 'k * s + j' of a slice that reads as a list, in a later world -/
theorem Rd.at_ {w wr : World} {s n b off cap : Nat} {xs : List Value} (h : ∀ j u, xs[j]? = some u → w.cell? ⟨b, off + j, none⟩ = some u) (hb : Below w.heap.size w wr) (i : Nat) (u : Value) (hu : xs[i]? = some u) (x : Later wr) : x.now.cell? ⟨b, off + i, none⟩ = some u := by
  have h1 := h i u hu
  have h2 := World.block_lt_of_cell? w _ h1
  rw [x.ok.cell (p := ⟨b, off + i, none⟩) (Nat.lt_of_lt_of_le h2 hb.size), hb.cell (p := ⟨b, off + i, none⟩) h2]
  exact h1

theorem Rd.of_own {w : World} {base e s n : Nat} {v : Value} {xs : List Value} (h : w.ownsRow base e s v n xs) : Rd w s v n xs := by
  refine ⟨h.1, ?_⟩
  rcases h.2 with ⟨rfl, rfl⟩ | ⟨g, cap, cur, rfl, _, hg, hn, hc, hs, ht⟩
  · exact ⟨none, 0, rfl, Nat.le_refl _, Nat.zero_le _, fun h => absurd h (by omega)⟩
  · refine ⟨_, cap, rfl, hn, hc, fun _ => ⟨g, 0, rfl, fun j u hu => ?_⟩⟩
    rw [Nat.zero_add, cell_of_row w g j cur e (0, 0) hg]
    rw [← ht, List.getElem?_take] at hu
    split at hu
    · simpa using hu
    · cases hu
theorem own_keep {w w' : World} {base e s n : Nat} {v : Value} {xs : List Value} (h : w.ownsRow base e s v n xs) (hb : Below w.heap.size w w') : w'.ownsRow base e s v n xs :=
  h.kept (row := none) ⟨hb.os, hb.tape, hb.output, hb.size, fun k hk _ => hb.block k hk⟩ (by cases v.ownBlock <;> simp)
theorem grown_below {a b c : World} {row : Option Nat} (h : a.grownBy b row) (hb : Below b.heap.size b c) : a.grownBy c row :=
  ⟨hb.os.trans h.os, hb.tape.trans h.tape, hb.output.trans h.output, Nat.le_trans h.size hb.size, fun k hk hr => (hb.block k (Nat.lt_of_lt_of_le hk h.size)).trans (h.block k hk hr)⟩
theorem grown_set {a b : World} {g j : Nat} (h : a.grownBy b (some g)) (u : Value) : a.grownBy (b.setCell ⟨g, j, none⟩ u) (some g) :=
  ⟨h.os, h.tape, h.output, by simpa [World.setCell] using h.size, fun k hk hr => (Below.heap_setCell b ⟨g, j, none⟩ u k (fun e => hr (by rw [e]))).trans (h.block k hk hr)⟩
theorem own_ne {v1 v2 : Value} {N : Nat} (h1 : ∀ k, v1.ownBlock = some k → k < N) (h2 : ∀ k, v2.ownBlock = some k → N ≤ k) : v1.ownBlock = none ∨ v1.ownBlock ≠ v2.ownBlock := by
  cases e : v1.ownBlock with
  | none => exact .inl rfl
  | some k =>
    refine .inr fun h => ?_
    have a := h1 k e
    have b := h2 k h.symm
    omega
/-- the marks of so many cells, all strings -/
def marks (k m : Nat) : List Value := (List.range m).map fun i => .string (bs (mtext (k + i)))
theorem marks_length (k m : Nat) : (marks k m).length = m := by simp [marks]
theorem marks_get {k m i : Nat} (h : i < m) : (marks k m)[i]? = some (.string (bs (mtext (k + i)))) := by simp [marks, h]
/-- marks so far, the rest as it was -/
def marking (k m : Nat) (xs : List Value) : List Value := marks k m ++ xs.drop m
theorem marking_length {k m : Nat} {xs : List Value} (h : m ≤ xs.length) : (marking k m xs).length = xs.length := by simp [marking, marks_length]; omega
theorem marking_set {k m : Nat} {xs : List Value} (h : m < xs.length) : (marking k m xs).set m (.string (bs (mtext (k + m)))) = marking k (m + 1) xs := by
  unfold marking
  rw [List.set_append_right _ _ (by simp [marks_length]), marks_length, Nat.sub_self]
  rw [List.drop_eq_getElem_cons h]
  simp only [marks, List.range_succ, List.map_append, List.map_cons, List.map_nil, List.append_assoc, List.cons_append, List.nil_append]
  rfl
theorem marking_zero (k : Nat) (xs : List Value) : marking k 0 xs = xs := by simp [marking, marks]
theorem marking_all {k m : Nat} {xs : List Value} (h : xs.length = m) : marking k m xs = marks k m := by
  unfold marking; rw [List.drop_eq_nil_of_le (by omega), List.append_nil]

/-- a function that marks a slice of the call's own -/
def MarksS (P : Program) (f : FuncId) (e s : Nat) : Prop := ∀ (w : World) (base : Nat) (v : Value) (n k : Nat) (xs : List Value), w.ownsRow base e s v n xs → k + n * s < 9223372036854775807 →
  Calls P f #[v, .int .i64 k] w fun en w' => en = .returned (.int .i64 (k + n * s : Nat)) ∧ w'.ownsRow base e s v n (marks k (n * s)) ∧ w.grownBy w' v.ownBlock

theorem mark_step {w wr w1 : World} {base e s g n cap k m : Nat} {xs : List Value} (HO : wr.ownsRow base e s (.slice (some ⟨g, 0, none⟩) n cap) n (marking k m xs)) (HG : w.grownBy wr (some g))
    (hb1 : Below wr.heap.size wr w1) (hl : xs.length = n * s) (hm : m < n * s) :
    (∃ u, w1.cell? ⟨g, m, none⟩ = some u) ∧ w1.frozen? ⟨g, m, none⟩ = false ∧
    (∀ t, t = k + m → (w1.setCell ⟨g, m, none⟩ (.string (bs (mtext t)))).ownsRow base e s (.slice (some ⟨g, 0, none⟩) n cap) n (marking k (m + 1) xs) ∧
      w.grownBy (w1.setCell ⟨g, m, none⟩ (.string (bs (mtext t)))) (some g)) := by
  have O1 := own_keep HO hb1
  refine ⟨?_, O1.frozenAt m, ?_⟩
  · rw [O1.cellAt m hm]
    exact ⟨_, List.getElem?_eq_getElem (by rw [marking_length (by omega)]; omega)⟩
  · rintro t rfl
    have h := (O1.stored m (.string (bs (mtext (k + m))))).1
    rw [marking_set (by omega)] at h
    exact ⟨h, grown_set (grown_below HG hb1) _⟩

/-- a function that looks whether the marks are there still -/
def HeldS (P : Program) (f : FuncId) (s : Nat) : Prop := ∀ (w : World) (v : Value) (n k : Nat), Rd w s v n (marks k (n * s)) → k + n * s < 9223372036854775807 →
  Gives P f #[v, .int .i64 k] w (.int .i64 (k + n * s : Nat))

/-! ### Disk -/
/-- a disk's value: its regions, its power -/
def RdDisk (w : World) (v : Value) (rs : List Reg) (p : Int) : Prop := ∃ sl, v = .agg #[sl, .int .i64 p] ∧ Rd w 3 sl rs.length (flat encReg rs)

end Go.Proofs.YtfblolkkajppcaaGreatDoor
