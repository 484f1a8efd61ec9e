/-
  Frames and logs in plain words: what is read is the encoding of what was read; a log is read frame by frame.
-/
import Derived.Test.YtnehiflandjkoaaB7
set_option linter.unusedSimpArgs false
set_option linter.unusedVariables false
namespace Go.Proofs.Ytnehiflandjkoaa.M
theorem zig_unzig (y : Nat) : zig (unzig y) = y := by
  unfold zig unzig
  by_cases h : y % 2 = 1
  · rw [if_pos h, if_pos (by omega)]; omega
  · rw [if_neg h, if_neg (by omega)]; omega
theorem gnum_put : ∀ (f : Nat) (l : Bs) (k u : Nat) (n : Int) (j : Nat), gnum f l k u = (n, j, 0) →
    ∃ y : Nat, n = unzig (u + y * 2 ^ (7 * k)) ∧ k + 1 ≤ j ∧ j ≤ k + l.length ∧ putU f y = l.take (j - k) ∧ (0 < k → 1 ≤ y)
  | 0, l, k, u, n, j, h => by simp [gnum] at h
  | f + 1, [], k, u, n, j, h => by simp [gnum] at h
  | f + 1, b :: l, k, u, n, j, h => by
    unfold gnum at h
    have hb := b.toNat_lt
    by_cases h1 : k = 9 ∧ 1 < b.toNat
    · rw [if_pos h1] at h; simp at h
    · rw [if_neg h1] at h
      by_cases h2 : 128 ≤ b.toNat
      · rw [if_pos h2] at h
        obtain ⟨y, e1, e2, e3, e4, e5⟩ := gnum_put f l (k + 1) _ n j h
        have hy := e5 (by omega)
        refine ⟨b.toNat % 128 + 128 * y, ?_, by omega, by simp only [List.length_cons]; omega, ?_, fun _ => by omega⟩
        · rw [e1]
          congr 1
          have : (2 : Nat) ^ (7 * (k + 1)) = 128 * 2 ^ (7 * k) := by rw [show 7 * (k + 1) = 7 + 7 * k by omega, Nat.pow_add]
          rw [this, Nat.add_mul, Nat.add_assoc]
          congr 2
          rw [Nat.mul_comm 128 y, Nat.mul_assoc]
        · rw [putU_ge (by omega), show j - k = (j - (k + 1)) + 1 by omega, List.take_succ_cons]
          congr 1
          · apply UInt8.toNat_inj.1
            rw [UInt8.toNat_ofNat']
            omega
          · rw [← e4]; congr 1; omega
      · rw [if_neg h2] at h
        by_cases h3 : b.toNat = 0 ∧ 0 < k
        · rw [if_pos h3] at h; simp at h
        · rw [if_neg h3] at h
          simp only [Prod.mk.injEq] at h
          obtain ⟨e1, e2, _⟩ := h
          refine ⟨b.toNat, ?_, by omega, by simp only [List.length_cons]; omega, ?_, fun _ => by omega⟩
          · rw [← e1, Nat.mod_eq_of_lt (by omega)]
          · rw [putU_lt (by omega), show j - k = 1 by omega]
            simp
theorem numAt_put {t : Bs} {a : Nat} {n z : Int} (h : numAt t a = (n, z, 0)) : ∃ j : Nat, z = ((a + j : Nat) : Int) ∧ 1 ≤ j ∧ a + j ≤ t.length ∧ putNum n = (t.drop a).take j := by
  unfold numAt at h
  rcases hg : gnum 10 (t.drop a) 0 0 with ⟨n', j, c⟩
  rw [hg] at h
  by_cases hc : c = 0
  · subst hc
    simp only [if_true, Prod.mk.injEq] at h
    obtain ⟨rfl, rfl, _⟩ := h
    obtain ⟨y, e1, e2, e3, e4, _⟩ := gnum_put 10 _ 0 0 n' j hg
    refine ⟨j, rfl, by omega, by rw [List.length_drop] at e3; omega, ?_⟩
    unfold putNum
    rw [e1, Nat.zero_add, Nat.mul_zero, Nat.pow_zero, Nat.mul_one, zig_unzig, e4]
    rfl
  · rw [if_neg (by simpa using hc)] at h
    simp only [Prod.mk.injEq] at h
    exact absurd h.2.2 hc
theorem take_take_drop (t : Bs) (a j n : Nat) : (t.drop a).take j ++ (t.drop (a + j)).take n = (t.drop a).take (j + n) := by
  rw [List.take_add, List.drop_drop]
theorem getText_put {t : Bs} {a : Int} {x : Bs} {z : Int} (h : getText t a = (x, z, 0)) : ∃ i j : Nat, a = i ∧ z = ((i + j : Nat) : Int) ∧ 1 ≤ j ∧ i + j ≤ t.length ∧ t.length ≤ 8000 ∧ putText x = (t.drop i).take j := by
  unfold getText at h
  by_cases h1 : (getNum t a).2.2 ≠ 0
  · rw [if_pos h1] at h; simp only [Prod.mk.injEq] at h; exact absurd h.2.2 h1
  · rw [if_neg h1] at h
    by_cases h2 : (getNum t a).1 < 0 ∨ 8000 < (getNum t a).1
    · rw [if_pos h2] at h; simp at h
    · rw [if_neg h2] at h
      by_cases h3 : (t.length : Int) < (getNum t a).2.1 + (getNum t a).1
      · rw [if_pos h3] at h; simp at h
      · rw [if_neg h3] at h
        simp only [Prod.mk.injEq] at h
        rcases getNum_range t a with ⟨_, _, h4, _⟩ | ⟨h4, h5, h6, _⟩
        · omega
        · obtain ⟨i, rfl⟩ := Int.eq_ofNat_of_zero_le h6
          have hg : numAt t i = getNum t i := by
            unfold getNum; rw [if_neg (by omega), if_neg (by omega)]; rfl
          rcases hn : getNum t i with ⟨n, z1, c⟩
          simp only [hn] at h h1 h2 h3 h4
          obtain rfl : c = 0 := by omega
          obtain ⟨j, e1, e2, e3, e4⟩ := numAt_put (hg.trans hn)
          obtain ⟨m, rfl⟩ : ∃ m : Nat, n = m := ⟨n.toNat, by omega⟩
          subst e1
          simp only [Int.toNat_natCast] at h
          have hx : x.length = m := by rw [← h.1, List.length_take, List.length_drop]; omega
          refine ⟨i, j + m, rfl, by rw [← h.2.1]; omega, by omega, by omega, h5, ?_⟩
          unfold putText
          rw [if_pos (by omega), hx, e4, ← h.1, ← take_take_drop]
theorem unseal_put {t x : Bs} {z : Int} (h : unseal_ t = (x, z, 0)) : seal_ x = t := by
  unfold unseal_ at h
  by_cases h1 : 8000 < t.length
  · rw [if_pos h1] at h; simp at h
  · rw [if_neg h1] at h
    by_cases h2 : t.length < 4
    · rw [if_pos h2] at h; simp at h
    · rw [if_neg h2] at h
      by_cases h3 : crcFour (t.take (t.length - 4)) = t.drop (t.length - 4)
      · rw [if_pos h3] at h
        simp only [Prod.mk.injEq] at h
        unfold seal_
        rw [← h.1, if_pos (by rw [List.length_take]; omega), h3, List.take_append_drop]
      · rw [if_neg h3] at h; simp at h
theorem four_ofFour {b : Bs} (h : 4 ≤ b.length) : four (ofFour b) = b.take 4 := by
  match b, h with
  | a :: b :: c :: d :: l, _ =>
    have ha := a.toNat_lt
    have hb := b.toNat_lt
    have hc := c.toNat_lt
    have hd := d.toNat_lt
    simp only [four, ofFour, four4, List.getElem?_cons_zero, List.getElem?_cons_succ, Option.getD_some, List.take_succ_cons, List.take_zero]
    simp only [List.cons.injEq, and_true]
    refine ⟨?_, ?_, ?_, ?_⟩ <;> (apply UInt8.toNat_inj.1; rw [UInt8.toNat_ofNat']; omega)
/-- what a frame was read from is its encoding -/
theorem frameRead_put {t : Bs} {a q z : Int} {x : Bs} (h : frameRead t a = (q, x, z, 0)) :
    ∃ i j : Nat, a = i ∧ z = ((i + j : Nat) : Int) ∧ 1 ≤ j ∧ i + j ≤ t.length ∧ t.length ≤ 8000 ∧ frameOk q x = true ∧ frameBytes q x = (t.drop i).take j := by
  rw [frameRead_eq] at h
  rcases hg : getText t a with ⟨y, z1, c⟩
  rw [hg] at h
  dsimp only at h
  unfold frameOf at h
  dsimp only at h
  by_cases h1 : c ≠ 0
  · rw [if_pos h1] at h; simp only [Prod.mk.injEq] at h; exact absurd h.2.2.2 h1
  · rw [if_neg h1] at h
    obtain rfl : c = 0 := by omega
    rcases hu : unseal_ y with ⟨b, z2, c2⟩
    rw [hu] at h
    dsimp only at h
    by_cases h2 : c2 ≠ 0
    · rw [if_pos h2] at h; simp only [Prod.mk.injEq] at h; exact absurd h.2.2.2 h2
    · rw [if_neg h2] at h
      obtain rfl : c2 = 0 := by omega
      by_cases h3 : b.length < 4
      · rw [if_pos h3] at h; simp at h
      · rw [if_neg h3] at h
        by_cases h4 : frameOk (ofFour b) (b.drop 4) = true
        · rw [if_pos h4] at h
          simp only [Prod.mk.injEq] at h
          obtain ⟨rfl, rfl, rfl, _⟩ := h
          obtain ⟨i, j, e1, e2, e3, e4, e5, e6⟩ := getText_put hg
          refine ⟨i, j, e1, e2, e3, e4, e5, h4, ?_⟩
          unfold frameBytes
          rw [if_pos h4, four_ofFour (by omega), List.take_append_drop, unseal_put hu, e6]
        · rw [if_neg h4] at h; simp at h
theorem frameRead_bad {t : Bs} {a : Int} (h : (frameRead t a).2.2.2 ≠ 0) : frameRead t a = (0, [], 0, (frameRead t a).2.2.2) ∧ 1 ≤ (frameRead t a).2.2.2 ∧ (frameRead t a).2.2.2 ≤ 5 := by
  rw [frameRead_eq] at *
  have r1 := getText_range t a
  have r2 := unseal_range (getText t a).1
  unfold frameOf at *
  by_cases h1 : (getText t a).2.2 ≠ 0
  · simp only [if_pos h1] at *
    refine ⟨trivial, ?_⟩
    rcases r1 with ⟨_, _, r⟩ | ⟨r, _⟩
    · omega
    · exact absurd r h1
  · simp only [if_neg h1] at *
    by_cases h2 : (unseal_ (getText t a).1).2.2 ≠ 0
    · simp only [if_pos h2] at *
      refine ⟨trivial, ?_⟩
      rcases r2 with ⟨_, _, r⟩ | ⟨_, r, _⟩
      · omega
      · exact absurd r h2
    · simp only [if_neg h2] at *
      by_cases h3 : (unseal_ (getText t a).1).1.length < 4
      · simp only [if_pos h3] at *; refine ⟨?_, ?_, ?_⟩ <;> first | trivial | decide
      · simp only [if_neg h3] at *
        by_cases h4 : frameOk (ofFour (unseal_ (getText t a).1).1) ((unseal_ (getText t a).1).1.drop 4) = true
        · simp only [if_pos h4] at h; exact absurd rfl h
        · simp only [if_neg h4] at *; refine ⟨?_, ?_, ?_⟩ <;> first | trivial | decide
theorem frameRead_end {t : Bs} {a : Int} (h : (t.length : Int) ≤ a) : (frameRead t a).2.2.2 ≠ 0 := by
  intro hc
  rcases hf : frameRead t a with ⟨q, x, z, c⟩
  rw [hf] at hc
  dsimp only at hc
  subst hc
  obtain ⟨i, j, e1, e2, e3, e4, _⟩ := frameRead_put hf
  omega

/-! ### logs -/
abbrev Frm := Int × ByteArray
def notUp (fs : List Frm) (q : Int) : Bool := match fs.getLast? with
  | some f => decide (q ≤ f.1)
  | none => false
def logGo (t : Bs) : Nat → Int → List Frm → List Frm × Int
  | 0, a, fs => (fs, a)
  | n + 1, a, fs => if (frameRead t a).2.2.2 ≠ 0 ∨ notUp fs (frameRead t a).1 = true then (fs, a) else logGo t n (frameRead t a).2.2.1 (fs ++ [((frameRead t a).1, bs (frameRead t a).2.1)])
/-- frames, size, code -/
def logRead (t : Bs) : List Frm × Int × Int := if 8000 < t.length then ([], 0, 2) else ((logGo t (t.length + 1) 0 []).1, (logGo t (t.length + 1) 0 []).2, 0)
theorem logGo_end {t : Bs} {a : Int} {fs : List Frm} (n : Nat) (h : (frameRead t a).2.2.2 ≠ 0 ∨ notUp fs (frameRead t a).1 = true) : logGo t n a fs = (fs, a) := by
  cases n with
  | zero => rfl
  | succ n => rw [logGo, if_pos h]
theorem logGo_range (t : Bs) : ∀ (n : Nat) (a : Int) (fs : List Frm), 0 ≤ a → a ≤ t.length → fs.length ≤ a → 0 ≤ (logGo t n a fs).2 ∧ (logGo t n a fs).2 ≤ t.length ∧ ((logGo t n a fs).1.length : Int) ≤ (logGo t n a fs).2
  | 0, a, fs, h0, h1, h2 => ⟨h0, h1, h2⟩
  | n + 1, a, fs, h0, h1, h2 => by
    rw [logGo]
    by_cases h : (frameRead t a).2.2.2 ≠ 0 ∨ notUp fs (frameRead t a).1 = true
    · rw [if_pos h]; exact ⟨h0, h1, h2⟩
    · rw [if_neg h]
      have hc : (frameRead t a).2.2.2 = 0 := by
        by_cases hc : (frameRead t a).2.2.2 = 0
        · exact hc
        · exact absurd (.inl hc) h
      rcases hf : frameRead t a with ⟨q, x, z, c⟩
      rw [hf] at hc
      dsimp only at hc ⊢
      subst hc
      obtain ⟨i, j, rfl, rfl, e3, e4, _⟩ := frameRead_put hf
      exact logGo_range t n _ _ (by omega) (by omega) (by simp; omega)
theorem logRead_range (t : Bs) : 0 ≤ (logRead t).2.1 ∧ (logRead t).2.1 ≤ t.length ∧ (logRead t).1.length ≤ 8000 := by
  unfold logRead
  by_cases h : 8000 < t.length
  · rw [if_pos h]; simp
  · rw [if_neg h]
    have := logGo_range t (t.length + 1) 0 [] (Int.le_refl _) (by omega) (by simp)
    dsimp only
    omega
/-- a slot that holds a frame: read at its head, to its end -/
theorem held_iff {t x : Bs} {q z : Int} (h : frameRead t 0 = (q, x, z, 0)) : frameBytes q x = t ↔ z = t.length := by
  obtain ⟨i, j, e1, rfl, e3, e4, _, _, e5⟩ := frameRead_put h
  obtain rfl : i = 0 := by omega
  rw [e5, List.drop_zero, Nat.zero_add]
  constructor
  · intro e
    have := congrArg List.length e
    rw [List.length_take] at this
    omega
  · intro e
    exact List.take_of_length_le (by omega)
end Go.Proofs.Ytnehiflandjkoaa.M
