/-
  The two parsers of operations answer alike: the plain law. No program in sight.
-/
import Derived.Test.YtffbcikfjdllcaaGreatDoorQ0
set_option linter.unusedSimpArgs false
set_option linter.unusedVariables false
namespace Go.Proofs.YtffbcikfjdllcaaGreatDoor
namespace M
theorem kindOf_word : (((List.range 17).map fun i => (i + 1 : Nat)).all fun k => kindOf (wordOf (k : Int)).data.toList == (k : Int)) = true := by decide +kernel
theorem kindOf_of {k : Int} (h : 1 ≤ k ∧ k ≤ 17) : kindOf (wordOf k).data.toList = k := by
  rcases kinds h with rfl | rfl | rfl | rfl | rfl | rfl | rfl | rfl | rfl | rfl | rfl | rfl | rfl | rfl | rfl | rfl | rfl <;> decide +kernel
theorem stateOf_of {b : Int} (h : 1 ≤ b ∧ b ≤ 3) : stateOf (stateWord b) = b := by
  have hb : b = 1 ∨ b = 2 ∨ b = 3 := by omega
  rcases hb with rfl | rfl | rfl <;> decide +kernel
theorem label_not_sys {a b : Int} (h : labelOk a b = true) : (labelText a b == sysW) = false := by
  obtain ⟨⟨a0, a3⟩, b0, b7⟩ := labelOk_spec h
  rw [labelText_ok h, dec_dig ⟨a0, by omega⟩]
  have ha : a = 0 ∨ a = 1 ∨ a = 2 ∨ a = 3 := by omega
  rcases ha with rfl | rfl | rfl | rfl <;> rfl
theorem label_plain {a b : Int} (h : labelOk a b = true) : ∀ c ∈ labelText a b, c ≠ 32 := by
  obtain ⟨⟨a0, a3⟩, b0, b7⟩ := labelOk_spec h
  have hm : (a, b) ∈ labs := by
    have ha : a = 0 ∨ a = 1 ∨ a = 2 ∨ a = 3 := by omega
    have hb : b = 0 ∨ b = 1 ∨ b = 2 ∨ b = 3 ∨ b = 4 ∨ b = 5 ∨ b = 6 ∨ b = 7 := by omega
    rcases ha with rfl | rfl | rfl | rfl <;> rcases hb with rfl | rfl | rfl | rfl | rfl | rfl | rfl | rfl <;> decide
  have := List.all_eq_true.1 labels_plain _ hm
  intro c hc
  simpa using List.all_eq_true.1 this c hc
theorem dec_plain {n : Int} (h : 0 ≤ n) : ∀ c ∈ dec n, c ≠ 32 := by
  obtain ⟨k, rfl⟩ := Int.eq_ofNat_of_zero_le h
  rw [dec_nat]
  intro c hc e
  have := digs k c hc
  subst e
  have : (32 : UInt8).toNat = 32 := rfl
  omega
theorem word_plain (k : Int) : ∀ c ∈ (wordOf k).data.toList, c ≠ 32 := by
  by_cases h : 1 ≤ k ∧ k ≤ 17
  · have : (wordOf k).data.toList.all (· != 32) = true := by
      rcases kinds h with rfl | rfl | rfl | rfl | rfl | rfl | rfl | rfl | rfl | rfl | rfl | rfl | rfl | rfl | rfl | rfl | rfl <;> decide +kernel
    intro c hc
    simpa using List.all_eq_true.1 this c hc
  · unfold wordOf
    rw [if_neg h]
    intro c hc
    exact absurd hc List.not_mem_nil
theorem state_plain (b : Int) : ∀ c ∈ stateWord b, c ≠ 32 := by
  have : (stateWord b).all (· != 32) = true := by
    unfold stateWord
    split
    · decide
    · split
      · decide
      · split <;> decide
  intro c hc
  simpa using List.all_eq_true.1 this c hc
theorem name_plain {s : ByteArray} (h : nameOk s.data.toList = true) : ∀ c ∈ s.data.toList, c ≠ 32 := by
  unfold nameOk at h
  simp only [Bool.and_eq_true] at h
  intro c hc e
  have := List.all_eq_true.1 h.2 c hc
  subst e
  exact absurd this (by decide)
structure OpMore (o : Opr) : Prop where
  nm : o.k = 1 → nameOk o.ow.data.toList = true
  un : (o.k = 1 ∨ o.k = 7) → labelOk o.m1 o.m2 = true
  ow0 : o.k ≠ 1 → o.ow = bs []
  m0 : o.k ≠ 1 → o.k ≠ 7 → o.m1 = 0 ∧ o.m2 = 0
  u1 : o.k = 1 → o.af = 0 → o.m1 = 0 ∧ o.m2 = 0
  za : ¬ 0 < many o.k → o.a = 0
  zb : ¬ 1 < many o.k → o.b = 0
  zc : ¬ 2 < many o.k → o.c = 0
  zd : ¬ 3 < many o.k → o.d = 0
theorem num_zero {k i n : Int} (h : numOk k i n = true) (hk : ¬ i < many k) : n = 0 := by
  unfold numOk at h
  rw [decide_eq_false hk, Bool.and_eq_true] at h
  simpa using h.2
theorem opMore {o : Opr} (h : o.ok = true) : OpMore o := by
  obtain ⟨sys, l1, l2, k, ow, a, b, c, d, m1, m2, af⟩ := o
  unfold Opr.ok opOk at h
  rw [Bool.and_eq_true, Bool.and_eq_true] at h
  obtain ⟨⟨_, h2⟩, h3⟩ := h
  unfold numsOk at h2
  simp only [Bool.and_eq_true] at h2
  obtain ⟨⟨⟨ha, hb⟩, hc⟩, hd⟩ := h2
  unfold tailOk at h3
  refine ⟨?_, ?_, ?_, ?_, ?_, num_zero ha, num_zero hb, num_zero hc, num_zero hd⟩
  · intro hk; simp only at hk h3; rw [if_pos hk] at h3; simp only [Bool.and_eq_true] at h3; exact h3.1.1
  · intro hk
    simp only at hk h3 ⊢
    by_cases h1 : k = 1
    · rw [if_pos h1] at h3; simp only [Bool.and_eq_true] at h3; exact h3.1.2
    · have h7 : k = 7 := by omega
      rw [if_neg h1, if_pos h7] at h3; simp only [Bool.and_eq_true] at h3; exact h3.1.2
  · intro h1
    simp only at h1 h3 ⊢
    rw [if_neg h1] at h3
    split at h3
    · simp only [Bool.and_eq_true, decide_eq_true_eq] at h3; exact h3.1.1
    · split at h3
      · simp only [Bool.and_eq_true, decide_eq_true_eq] at h3; exact h3.1.1.1.1
      · simp only [Bool.and_eq_true, decide_eq_true_eq] at h3; exact h3.1.1.1
  · intro h1 h7
    simp only at h1 h7 h3 ⊢
    rw [if_neg h1, if_neg h7] at h3
    split at h3
    · simp only [Bool.and_eq_true, beq_iff_eq] at h3; exact ⟨h3.1.1.1.2, h3.1.1.2⟩
    · simp only [Bool.and_eq_true, beq_iff_eq] at h3; exact ⟨h3.1.1.2, h3.1.2⟩
  · intro h1 h0
    simp only at h1 h0 h3 ⊢
    rw [if_pos h1, h0, Bool.and_eq_true] at h3
    simpa using h3.2
theorem words_plain {o : Opr} (h : o.ok = true) : ∀ x ∈ o.words, ∀ c ∈ x, c ≠ 32 := by
  have F := opFacts (sys := o.sys) (l1 := o.l1) (l2 := o.l2) (k := o.k) (ow := o.ow) (a := o.a) (b := o.b) (c := o.c) (d := o.d) (m1 := o.m1) (m2 := o.m2) (af := o.af) h
  have G := opMore h
  intro x hx
  unfold Opr.words opWords at hx
  simp only [List.mem_cons, List.mem_append] at hx
  rcases hx with rfl | rfl | (hx | hx) | hx
  · split
    · decide
    · rename_i hs
      exact label_plain (F.lab (by simpa using hs))
  · exact word_plain _
  · split at hx
    · rename_i hk
      obtain rfl := List.mem_singleton.1 hx
      exact name_plain (G.nm hk)
    · split at hx
      · rename_i hk
        obtain rfl := List.mem_singleton.1 hx
        exact label_plain (G.un (.inr hk))
      · simp at hx
  · split at hx
    · simp only [List.mem_cons, List.not_mem_nil, or_false] at hx
      rcases hx with rfl | rfl
      · exact dec_plain F.a0.1
      · exact state_plain _
    · unfold numWords at hx
      obtain ⟨n, hn, rfl⟩ := List.mem_map.1 hx
      have hn := List.mem_of_mem_take hn
      simp only [List.mem_cons, List.not_mem_nil, or_false] at hn
      rcases hn with rfl | rfl | rfl | rfl
      · exact dec_plain F.a0.1
      · exact dec_plain F.b0.1
      · exact dec_plain F.c0.1
      · exact dec_plain F.d0.1
  · split at hx
    · simp at hx
    · rename_i haf
      simp only [List.mem_cons, List.not_mem_nil, or_false] at hx
      rcases hx with rfl | rfl | rfl
      · decide
      · have hk : o.k = 1 := by
          by_cases hk : o.k = 1
          · exact hk
          · exact absurd (F.u hk) haf
        exact label_plain (G.un (.inl hk))
      · exact dec_plain F.af0.1
theorem cut_words {o : Opr} (h : o.ok = true) : cut [] o.text = o.words := by
  have e : o.text = joinSp o.words := opText_ok h
  rw [e]
  exact cut_join (by unfold Opr.words opWords; simp) (words_plain h)
theorem text_ne {o : Opr} (h : o.ok = true) : o.text ≠ [] := by
  have e : o.text = joinSp o.words := opText_ok h
  rw [e]
  unfold Opr.words opWords
  rw [joinSp_cons, List.map_cons, List.flatten_cons]
  simp
set_option maxHeartbeats 2000000 in
/-- both parsers give an operation back out of its words -/
theorem cand_words {o : Opr} (h : o.ok = true) : candI o.words = o ∧ candS o.words = o := by
  have F := opFacts (sys := o.sys) (l1 := o.l1) (l2 := o.l2) (k := o.k) (ow := o.ow) (a := o.a) (b := o.b) (c := o.c) (d := o.d) (m1 := o.m1) (m2 := o.m2) (af := o.af) h
  have G := opMore h
  obtain ⟨sys, l1, l2, k, ow, a, b, c, d, m1, m2, af⟩ := o
  have hk := kindOf_of ⟨F.k1, F.k17⟩
  have na := numI_dec F.a0
  have nb := numI_dec F.b0
  have nc := numI_dec F.c0
  have nd := numI_dec F.d0
  have nf := numI_dec F.af0
  have sa := num7_dec F.a0
  have sb := num7_dec F.b0
  have sc := num7_dec F.c0
  have sd := num7_dec F.d0
  have sf := num7_dec F.af0
  have hst : k = 13 → stateOf (stateWord b) = b := fun e => stateOf_of (F.n e)
  have hun : (k = 1 ∨ k = 7) → lab (labelText m1 m2) = (m1, m2) := fun e => lab_text (G.un e)
  have hss : (sysW == sysW) = true := by decide
  have haa : (aftW == aftW) = true := by decide
  have hen : ([] == aftW : Bool) = false := by decide
  have hsys : [115, 121, 115] = sysW := rfl
  have haft : ([97, 102, 116, 101, 114] : Bs) = aftW := rfl
  have hlsys : lab sysW = (0, 0) := by decide +kernel
  have hlab : sys = false → lab (labelText l1 l2) = (l1, l2) ∧ (labelText l1 l2 == sysW) = false := fun e => ⟨lab_text (F.lab e), label_not_sys (F.lab e)⟩
  have g0 := G.nm
  have g1 := G.ow0
  have g2 := G.m0
  have g3 := G.u1
  have g4 := G.za
  have g5 := G.zb
  have g6 := G.zc
  have g7 := G.zd
  have hu := F.u
  have hkk := kinds ⟨F.k1, F.k17⟩
  have hs := F.s
  clear F G h
  simp only [Opr.words, opWords, hsys, haft] at *
  rcases hs with ⟨rfl, h12, rfl, rfl⟩ | ⟨rfl, h12⟩
  · rcases hkk with rfl | rfl | rfl | rfl | rfl | rfl | rfl | rfl | rfl | rfl | rfl | rfl | rfl | rfl | rfl | rfl | rfl
    all_goals first | omega | skip
    all_goals
      obtain rfl := hu (by decide)
      obtain ⟨rfl, rfl⟩ := g2 (by decide) (by decide)
      obtain rfl := g1 (by decide)
      simp_all [candI, candS, getW, numWords, many, nI, nS, atK, aftB, List.getD_cons_zero, List.getD_cons_succ, bs_data]
  · obtain ⟨hl1, hl2⟩ := hlab rfl
    rcases hkk with rfl | rfl | rfl | rfl | rfl | rfl | rfl | rfl | rfl | rfl | rfl | rfl | rfl | rfl | rfl | rfl | rfl
    all_goals first | omega | skip
    · by_cases haf : af = 0
      · subst haf
        obtain ⟨rfl, rfl⟩ := g3 rfl rfl
        simp_all [candI, candS, getW, numWords, many, nI, nS, atK, aftB, List.getD_cons_zero, List.getD_cons_succ, bs_data]
      · simp_all [candI, candS, getW, numWords, many, nI, nS, atK, aftB, List.getD_cons_zero, List.getD_cons_succ, bs_data]
    iterate 5
      · obtain rfl := hu (by decide)
        obtain ⟨rfl, rfl⟩ := g2 (by decide) (by decide)
        obtain rfl := g1 (by decide)
        simp_all [candI, candS, getW, numWords, many, nI, nS, atK, aftB, List.getD_cons_zero, List.getD_cons_succ, bs_data]
    · obtain rfl := hu (by decide)
      obtain rfl := g1 (by decide)
      simp_all [candI, candS, getW, numWords, many, nI, nS, atK, aftB, List.getD_cons_zero, List.getD_cons_succ, bs_data]
    all_goals
      obtain rfl := hu (by decide)
      obtain ⟨rfl, rfl⟩ := g2 (by decide) (by decide)
      obtain rfl := g1 (by decide)
      simp_all [candI, candS, getW, numWords, many, nI, nS, atK, aftB, List.getD_cons_zero, List.getD_cons_succ, bs_data]
theorem read_same (t : Bs) : readI t = readS t := by
  unfold readI readS
  by_cases hl : 8000 < t.length
  · rw [if_pos hl, if_pos hl]
  rw [if_neg hl, if_neg hl]
  by_cases hI : ((candI (cut [] t)).ok && (candI (cut [] t)).text == t) = true
  · rw [if_pos hI]
    rw [Bool.and_eq_true, beq_iff_eq] at hI
    obtain ⟨h1, h2⟩ := hI
    have hc := cut_words h1
    rw [h2] at hc
    obtain ⟨e1, e2⟩ := cand_words h1
    rw [← hc] at e2
    rw [e2]
    have hne := text_ne h1
    rw [h2] at hne
    rw [if_neg]
    simp [h2, hne]
  · rw [if_neg hI]
    by_cases hS : ((candS (cut [] t)).text != t || t == []) = true
    · rw [if_pos hS]
    · exfalso
      simp only [Bool.or_eq_true, bne_iff_ne, beq_iff_eq, not_or, Decidable.not_not] at hS
      obtain ⟨h2, hne⟩ := hS
      have h1 : (candS (cut [] t)).ok = true := by
        cases h : (candS (cut [] t)).ok
        · have : (candS (cut [] t)).text = [] := opText_bad h
          rw [this] at h2
          exact absurd h2.symm hne
        · rfl
      have hc := cut_words h1
      rw [h2] at hc
      obtain ⟨e1, e2⟩ := cand_words h1
      rw [← hc] at e1
      rw [e1] at hI
      apply hI
      rw [h1, h2]
      simp
end M
end Go.Proofs.YtffbcikfjdllcaaGreatDoor
