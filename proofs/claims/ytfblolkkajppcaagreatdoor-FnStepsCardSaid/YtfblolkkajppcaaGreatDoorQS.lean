/-
  Steps read from texts: the plain law of the two parsers. No program in sight.
-/
import Derived.Test.YtfblolkkajppcaaGreatDoorG2
import Derived.Test.YtfblolkkajppcaaGreatDoorP7
set_option linter.unusedSimpArgs false
set_option linter.unusedVariables false
namespace Go.Proofs.YtfblolkkajppcaaGreatDoor
namespace M
/-- a step: its operation, its power -/
abbrev Stp := Opr × Int
def Stp.text (s : Stp) : Bs := stepText s.1.sys s.1.l1 s.1.l2 s.1.k s.1.ow s.1.a s.1.b s.1.c s.1.d s.1.m1 s.1.m2 s.1.af s.2
def zeroS : Stp := (zeroO, 0)
/-- strings.Cut at a space -/
def cutB : Bs → Bs
  | [] => []
  | c :: r => if c = 32 then [] else c :: cutB r
def cutA : Bs → Bs
  | [] => []
  | c :: r => if c = 32 then r else cutA r
def stepI (t : Bs) : Stp := if t.head? = some 33 then ((readI (cutA (t.drop 1))).1, numI (cutB (t.drop 1))) else ((readI t).1, -1)
def readStepI (t : Bs) : Stp × Int := if 8000 < t.length then (zeroS, 2) else if (stepI t).text == [] || (stepI t).text != t then (zeroS, 3) else (stepI t, 0)
def wordsS (t : Bs) : List Bs := cut [] (t.drop 1)
def powS (t : Bs) : Int := num9 (getW (wordsS t) 0)
def stepS (t : Bs) : Stp := if t.head? = some 33 then ((readS (t.drop ((getW (wordsS t) 0).length + 2))).1, powS t) else ((readS t).1, -1)
def badS (t : Bs) : Bool := decide (t.head? = some 33) && (decide (powS t < 0) || decide ((wordsS t).length < 2))
def readStepS (t : Bs) : Stp × Int := if 8000 < t.length then (zeroS, 2) else if badS t then (zeroS, 3) else if t == [] || (stepS t).text != t then (zeroS, 3) else (stepS t, 0)
theorem cutB_app : ∀ {x : Bs}, (∀ c ∈ x, c ≠ 32) → ∀ r : Bs, cutB (x ++ 32 :: r) = x ∧ cutA (x ++ 32 :: r) = r
  | [], _, r => ⟨rfl, rfl⟩
  | c :: x, h, r => by
    have hc : c ≠ 32 := h c (List.mem_cons_self ..)
    obtain ⟨h1, h2⟩ := cutB_app (x := x) (fun d hd => h d (List.mem_cons_of_mem _ hd)) r
    rw [List.cons_append, cutB, if_neg hc, cutA, if_neg hc, h1, h2]
    exact ⟨rfl, rfl⟩
theorem head_text {o : Opr} (h : o.ok = true) : o.text.head? ≠ some 33 := by
  have F := opFacts (sys := o.sys) (l1 := o.l1) (l2 := o.l2) (k := o.k) (ow := o.ow) (a := o.a) (b := o.b) (c := o.c) (d := o.d) (m1 := o.m1) (m2 := o.m2) (af := o.af) h
  have e : o.text = joinSp o.words := opText_ok h
  rw [e]
  unfold Opr.words opWords
  rw [joinSp_cons]
  split
  · simp
  · rename_i hs
    have hl := F.lab (by simpa using hs)
    obtain ⟨⟨a0, a3⟩, _, _⟩ := labelOk_spec hl
    rw [labelText_ok hl, dec_dig ⟨a0, by omega⟩]
    have ha : o.l1 = 0 ∨ o.l1 = 1 ∨ o.l1 = 2 ∨ o.l1 = 3 := by omega
    rcases ha with ha | ha | ha | ha <;> rw [ha] <;> simp
theorem read_text {o : Opr} (h : o.ok = true) : readI o.text = (o, 0) := by
  have hl : ¬ 8000 < o.text.length := by
    have := opText_len o.sys o.l1 o.l2 o.k o.ow o.a o.b o.c o.d o.m1 o.m2 o.af
    have e : o.text.length ≤ 2000 := this
    omega
  unfold readI
  rw [if_neg hl, cut_words h, (cand_words h).1, h]
  simp
theorem step_ok {s : Stp} (h : s.text ≠ []) : s.1.ok = true ∧ powOk s.2 = true := by
  by_cases hs : (opOk s.1.sys s.1.l1 s.1.l2 s.1.k s.1.ow s.1.a s.1.b s.1.c s.1.d s.1.m1 s.1.m2 s.1.af && powOk s.2) = true
  · exact (Bool.and_eq_true _ _).mp hs
  · exact absurd (stepText_bad (by simpa using hs)) h
/-- both give a step back out of its text -/
theorem step_text {s : Stp} (h : s.text ≠ []) : stepI s.text = s ∧ stepS s.text = s ∧ badS s.text = false := by
  obtain ⟨ho, hp⟩ := step_ok h
  obtain ⟨o, p⟩ := s
  simp only at ho hp
  have hpr : -1 ≤ p ∧ p ≤ 1000000 := isIn_spec hp
  by_cases hn : p = -1
  · subst hn
    have e : Stp.text (o, -1) = o.text := stepText_none ho
    have hh := head_text ho
    rw [e]
    refine ⟨?_, ?_, ?_⟩
    · unfold stepI; rw [if_neg hh, read_text ho]
    · unfold stepS; rw [if_neg hh, ← read_same, read_text ho]
    · unfold badS; rw [decide_eq_false hh]; rfl
  · have e : Stp.text (o, p) = [33] ++ dec p ++ [32] ++ o.text := stepText_pow ho hp hn
    have e2 : Stp.text (o, p) = 33 :: (dec p ++ 32 :: o.text) := by rw [e]; simp
    have hd := dec_plain (n := p) (by omega)
    obtain ⟨c1, c2⟩ := cutB_app hd o.text
    have hw : wordsS (33 :: (dec p ++ 32 :: o.text)) = dec p :: cut [] o.text := by
      unfold wordsS
      rw [List.drop_succ_cons, List.drop_zero, cut_app hd, List.nil_append, cut, if_pos rfl]
    have h0 : getW (dec p :: cut [] o.text) 0 = dec p := rfl
    have hq : num9 (dec p) = p := by
      have hl := dec_len (n := p) ⟨by omega, by omega⟩
      obtain ⟨k, rfl⟩ := Int.eq_ofNat_of_zero_le (show 0 ≤ p by omega)
      rw [dec_nat] at hl ⊢
      exact num9_nat k (by omega)
    have hI := numI_dec (n := p) ⟨by omega, by omega⟩
    rw [e2]
    refine ⟨?_, ?_, ?_⟩
    · unfold stepI
      rw [if_pos (show (33 :: (dec p ++ 32 :: o.text) : Bs).head? = some 33 from rfl), List.drop_succ_cons, List.drop_zero, c1, c2, hI, read_text ho]
    · unfold stepS powS
      rw [if_pos (show (33 :: (dec p ++ 32 :: o.text) : Bs).head? = some 33 from rfl), hw, h0, hq]
      have : (33 :: (dec p ++ 32 :: o.text)).drop ((dec p).length + 2) = o.text := by
        rw [List.drop_succ_cons, ← List.drop_drop, List.drop_left' rfl]; rfl
      rw [this, ← read_same, read_text ho]
    · unfold badS powS
      rw [hw, h0, hq]
      have hne := cut_ne [] o.text
      have hl2 : ¬ (dec p :: cut [] o.text).length < 2 := by
        have := List.length_pos_iff.2 hne
        simp only [List.length_cons]; omega
      rw [decide_eq_false (show ¬ p < 0 by omega), decide_eq_false hl2]
      simp
theorem readStep_same (t : Bs) : readStepI t = readStepS t := by
  unfold readStepI readStepS
  by_cases hl : 8000 < t.length
  · rw [if_pos hl, if_pos hl]
  rw [if_neg hl, if_neg hl]
  by_cases hI : ((stepI t).text == [] || (stepI t).text != t) = true
  · rw [if_pos hI]
    by_cases hb : badS t = true
    · rw [if_pos hb]
    rw [if_neg hb]
    by_cases hS : (t == [] || (stepS t).text != t) = true
    · rw [if_pos hS]
    · exfalso
      simp only [Bool.or_eq_true, bne_iff_ne, beq_iff_eq, not_or, Decidable.not_not] at hS
      obtain ⟨hne, h2⟩ := hS
      have h3 := step_text (s := stepS t) (by rw [h2]; exact hne)
      rw [h2] at h3
      rw [h3.1, h2] at hI
      simp [hne] at hI
  · rw [if_neg hI]
    simp only [Bool.or_eq_true, bne_iff_ne, beq_iff_eq, not_or, Decidable.not_not] at hI
    obtain ⟨hne, h2⟩ := hI
    have h3 := step_text hne
    rw [h2] at h3 hne
    rw [if_neg (by rw [h3.2.2]; simp), h3.2.1, ← h3.1, if_neg]
    simp only [h3.1, Bool.or_eq_true, bne_iff_ne, beq_iff_eq, not_or, Decidable.not_not]
    exact ⟨hne, h2⟩
end M
end Go.Proofs.YtfblolkkajppcaaGreatDoor
