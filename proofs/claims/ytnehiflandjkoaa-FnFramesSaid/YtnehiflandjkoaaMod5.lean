/-
  A log of frames: whole, cut in its last frame, with one byte of its last frame turned.
-/
import Derived.Test.YtnehiflandjkoaaMod4
set_option linter.unusedSimpArgs false
set_option linter.unusedVariables false
namespace Go.Proofs.Ytnehiflandjkoaa.M

theorem rightAll_app {a b : List Frm} (h : rightAll (a ++ b)) : rightAll a ∧ rightAll b := ⟨fun f hf => h f (by simp [hf]), fun f hf => h f (by simp [hf])⟩
theorem cat_one (f : Frm) : cat [f] = frameBytes f.1 f.2.data.toList := by simp [cat]
theorem log_whole {fs : List Frm} (hr : rightAll fs) (hu : rises fs) (hl : (cat fs).length ≤ 8000) : logRead (cat fs) = (fs, ((cat fs).length : Int), 0) := by
  have := logRead_cat (fs := fs) (rest := []) hr hu (by simpa using hl) (.inl (frameRead_end (by simp)))
  simpa using this
theorem log_cut {gs : List Frm} {f : Frm} (hr : rightAll (gs ++ [f])) (hu : rises (gs ++ [f])) (hl : (cat (gs ++ [f])).length ≤ 8000) {m : Nat} (hm : m < (frameBytes f.1 f.2.data.toList).length) :
    logRead ((cat (gs ++ [f])).take ((cat (gs ++ [f])).length - 1 - m)) = (gs, ((cat gs).length : Int), 0) := by
  have h2 := rightAll_app hr
  have e : cat (gs ++ [f]) = cat gs ++ frameBytes f.1 f.2.data.toList := by rw [cat_app, cat_one]
  have hf := h2.2 f (by simp)
  rw [e] at hl ⊢
  rw [List.length_append] at hl ⊢
  rw [show (cat gs).length + (frameBytes f.1 f.2.data.toList).length - 1 - m = (cat gs).length + ((frameBytes f.1 f.2.data.toList).length - 1 - m) by omega, List.take_length_add_append]
  exact logRead_cat h2.1 (rises_pre gs [f] hu) (by rw [List.length_append, List.length_take]; omega) (.inl (frameRead_part hf (by omega)))
theorem log_turn {gs : List Frm} {f : Frm} (hr : rightAll (gs ++ [f])) (hu : rises (gs ++ [f])) (hl : (cat (gs ++ [f])).length ≤ 8000) {k : Nat} {c : UInt8} (hk : (cat gs).length + 2 ≤ k) (hk2 : k < (cat (gs ++ [f])).length)
    (hc : (cat (gs ++ [f]))[k] ≠ c) : logRead ((cat (gs ++ [f])).set k c) = (gs, ((cat gs).length : Int), 0) := by
  have h2 := rightAll_app hr
  have e : cat (gs ++ [f]) = cat gs ++ frameBytes f.1 f.2.data.toList := by rw [cat_app, cat_one]
  have hf := h2.2 f (by simp)
  have hk3 : k - (cat gs).length < (frameBytes f.1 f.2.data.toList).length := by rw [e, List.length_append] at hk2; omega
  have hc2 : (frameBytes f.1 f.2.data.toList)[k - (cat gs).length] ≠ c := by
    intro h
    refine hc ?_
    simp only [e]
    rw [List.getElem_append_right (by omega)]
    exact h
  rw [e] at hl ⊢
  rw [List.set_append_right _ _ (by omega)]
  have hp : frameBytes f.1 f.2.data.toList = (frameBytes f.1 f.2.data.toList).take (k - (cat gs).length) ++ (frameBytes f.1 f.2.data.toList)[k - (cat gs).length] :: (frameBytes f.1 f.2.data.toList).drop (k - (cat gs).length + 1) := by
    rw [← List.drop_eq_getElem_cons hk3, List.take_append_drop]
  have hset : (frameBytes f.1 f.2.data.toList).set (k - (cat gs).length) c = (frameBytes f.1 f.2.data.toList).take (k - (cat gs).length) ++ c :: (frameBytes f.1 f.2.data.toList).drop (k - (cat gs).length + 1) := by
    rw [List.set_eq_take_append_cons_drop, if_pos hk3]
  have ht := frameRead_turn (pre := cat gs) (c := c) hf hp (by rw [List.length_take]; omega) hc2 hl
  rw [hset]
  refine logRead_cat h2.1 (rises_pre gs [f] hu) ?_ (.inl ht)
  rw [← hset, List.length_append, List.length_set, ← List.length_append]
  exact hl
/-- what a log that was read says of itself -/
theorem log_facts_of {t : Bs} {fs : List Frm} {z c : Int} (h : logRead t = (fs, z, c)) (hne : fs ≠ []) :
    c = 0 ∧ rightAll fs ∧ rises fs ∧ z = ((cat fs).length : Int) ∧ t.take (cat fs).length = cat fs ∧ (cat fs).length ≤ t.length ∧ t.length ≤ 8000 := by
  obtain ⟨h1, h2, h3, rest, h4⟩ := logRead_inv h
  have hl : t.length ≤ 8000 := by
    rcases Nat.lt_or_ge 8000 t.length with hlt | hge
    · unfold logRead at h
      rw [if_pos hlt] at h
      simp only [Prod.mk.injEq] at h
      exact absurd h.1.symm hne
    · exact hge
  have hc := logRead_code hl
  rw [h] at hc
  exact ⟨hc, h1, h2, h3, by rw [h4, List.take_left], by rw [h4, List.length_append]; omega, hl⟩
theorem last_split {fs : List Frm} (h : fs ≠ []) : ∃ gs f, fs = gs ++ [f] := ⟨fs.dropLast, fs.getLast h, (List.dropLast_concat_getLast h).symm⟩
theorem xor_ne (b : UInt8) (r : Nat) (h : r < 255) : b ^^^ UInt8.ofNat (1 + r) ≠ b := by
  intro e
  have := congrArg (fun x => b ^^^ x) e
  simp only [← UInt8.xor_assoc, UInt8.xor_self, UInt8.zero_xor] at this
  have h2 := congrArg UInt8.toNat this
  rw [UInt8.toNat_ofNat'] at h2
  simp at h2
  omega
/-- the encoding's length does not hang on the number -/
theorem frameBytes_same {q q2 : Int} {x : Bs} (h : frameOk q x = true) (h2 : isTime q2 = true) : (frameBytes q2 x).length = (frameBytes q x).length := by
  have h3 : frameOk q2 x = true := by
    unfold frameOk at h ⊢
    rw [Bool.and_eq_true] at h ⊢
    exact ⟨h2, h.2⟩
  rw [frameBytes_size h, frameBytes_size h3]
theorem frameOk_of {q : Int} {x : Bs} (h : frameBytes q x ≠ []) : frameOk q x = true := by
  cases hf : frameOk q x with
  | true => rfl
  | false => exfalso; apply h; unfold frameBytes; rw [hf]; rfl
end Go.Proofs.Ytnehiflandjkoaa.M
