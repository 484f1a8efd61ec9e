/-
  Labels sorted by the library: the contract that the shelf proves, told of a row of one's own.
-/
import Derived.Test.YtjklmldchbakjaaGreatCg
import Derived.Test.YtjklmldchbakjaaGreatSo
set_option linter.unusedSimpArgs false
set_option linter.unusedVariables false
namespace Go.Proofs.YtjklmldchbakjaaGreat
open Go.RowKit Go.Sort M
namespace M
theorem flatK_flat {α : Type} [Inhabited α] {enc : α → List Value} {k : Nat} (hk : ∀ x, (enc x).length = k) (d : Array α) : flatK enc k d = (flat enc d.toList).toArray := by
  have hl : (flat enc d.toList).length = d.size * k := by rw [flat_length hk]; simp
  refine ext_get! (by simp [hl]) fun t ht => ?_
  have ht' : t < d.size * k := by simpa using ht
  have k0 : 0 < k := by
    rcases Nat.eq_zero_or_pos k with h | h
    · subst h; simp at ht'
    · exact h
  have hq : t / k < d.size := Nat.div_lt_of_lt_mul (by rw [Nat.mul_comm]; exact ht')
  have hr : t % k < k := Nat.mod_lt _ k0
  have e : t / k * k + t % k = t := by rw [Nat.mul_comm]; exact Nat.div_add_mod t k
  have h1 := flat_get hk d.toList (t / k) (t % k) d[t / k] (by simp [hq]) hr
  rw [e] at h1
  rw [get_flatK _ _ _ t ht', getElem!_pos d (t / k) hq, getElem!_pos (enc d[t / k]) (t % k) (by rw [hk]; exact hr), getElem!_pos _ t (by simpa [hl] using ht')]
  have h2 : (flat enc d.toList)[t]? = some ((flat enc d.toList)[t]'(by rw [hl]; exact ht')) := List.getElem?_eq_getElem _
  rw [h2, List.getElem?_eq_getElem (by rw [hk]; exact hr)] at h1
  injection h1 with h1
  simpa using h1.symm
end M
theorem sort_holds {w : World} {E : TypeId} {g n c : Nat} {l : List Lab} (ho : w.ownsRow 0 E 2 (.slice (some ⟨g, 0, none⟩) n c) n (flat encLab l)) : HoldsK encLab 2 w g 0 l.toArray := by
  unfold HoldsK Holds
  intro j hj
  have hl := ho.1
  rw [flatK_flat (enc := encLab) (k := 2) (fun _ => rfl)] at hj ⊢
  have hj' : j < (flat encLab l).length := by simpa using hj
  rw [Nat.zero_add]
  refine ⟨?_, ho.frozenAt j⟩
  rw [ho.cellAt j (by omega), List.getElem?_eq_getElem hj']
  congr 1
  rw [getElem!_pos _ j (by simpa using hj')]
  simp
theorem sort_world {w : World} {E : TypeId} {g n c : Nat} {xs : List Value} (ho : w.ownsRow 0 E 2 (.slice (some ⟨g, 0, none⟩) n c) n xs) (d : Array Lab) (hd : d.size = n) (m : Nat) (os : Array Obj) :
    (sortWorldK encLab 2 w g 0 m d os).ownsRow 0 E 2 (.slice (some ⟨g, 0, none⟩) n c) n (flat encLab d.toList) ∧ Grow (· = g) w (sortWorldK encLab 2 w g 0 m d os) := by
  have hF : (flatK encLab 2 d) = (flat encLab d.toList).toArray := flatK_flat (enc := encLab) (k := 2) (fun _ => rfl) d
  have hl : (flat encLab d.toList).length = n * 2 := by rw [flat_length (enc := encLab) (s := 2) (fun _ => rfl)]; simp [hd]
  rcases ho.2 with ⟨h, _⟩ | ⟨g2, cap, cur, hv, hb, hg, hnc, hcm, hcs, htake⟩
  · cases h
  · injection hv with e1 _ e3
    injection e1 with e1; injection e1 with e1 _ _
    subst e1 e3
    have hlt : g < w.heap.size := by
      rcases Nat.lt_or_ge g w.heap.size with h | h
      · exact h
      · rw [Array.getElem?_eq_none h] at hg; cases hg
    have hle : n * 2 ≤ cur.size := by rw [hcs]; exact Nat.mul_le_mul_right _ hnc
    refine ⟨⟨hl, .inr ⟨g, c, putCells id 0 (flatK encLab 2 d) cur, rfl, hb, ?_, hnc, hcm, by simp [putCells, hcs], ?_⟩⟩, ⟨rfl, rfl, rfl, ?_, ?_⟩⟩
    · unfold sortWorldK Sort.grow putRowK putRow mapBlock Sort.ahead
      simp only [Array.getElem?_append, Array.size_modify, hlt, if_true, Array.getElem?_modify]
      rw [hg]
      rfl
    · refine List.ext_getElem? fun j => ?_
      rw [List.getElem?_take]
      split
      · rename_i hj
        rw [Array.getElem?_toList]
        unfold putCells
        rw [Array.getElem?_mapIdx, Array.getElem?_eq_getElem (show j < cur.size by omega)]
        simp only [Option.map_some, Nat.zero_le, true_and, Nat.zero_add, Nat.sub_zero, id]
        rw [hF, if_pos (by simpa [hl] using hj), getElem!_pos _ j (by simpa [hl] using hj), List.getElem?_eq_getElem (by rw [hl]; exact hj)]
        simp
      · rw [List.getElem?_eq_none (by rw [hl]; omega)]
    · simp [sortWorldK, Sort.grow, putRowK, putRow, mapBlock, Sort.ahead]
    · intro k hk hne
      unfold sortWorldK Sort.grow putRowK putRow mapBlock Sort.ahead
      simp only [Array.getElem?_append, Array.size_modify, hk, if_true, Array.getElem?_modify]
      rw [if_neg (fun e => hne e.symm)]
namespace M
def leL (a b : Lab) : Bool := !(Go.Proofs.ltOf (fun x y => cmpL x y) b a)
def sortL (l : List Lab) : List Lab := l.mergeSort leL
end M
namespace M
theorem ltL_iff (a b : Lab) : Go.Proofs.ltOf (fun x y => cmpL x y) a b = true ↔ (a.1 < b.1 ∨ (a.1 = b.1 ∧ a.2 < b.2)) := by
  unfold Go.Proofs.ltOf cmpL
  by_cases h1 : a.1 < b.1
  · simp [h1]
  · by_cases h2 : b.1 < a.1
    · simp [h1, h2]; omega
    · have h3 : a.1 = b.1 := by omega
      by_cases h4 : a.2 < b.2
      · simp [h3, h4]
      · by_cases h5 : b.2 < a.2
        · simp [h3, h4, h5]
        · simp [h3, h4, h5]
theorem ltL_false (a b : Lab) : Go.Proofs.ltOf (fun x y => cmpL x y) a b = false ↔ ¬ (a.1 < b.1 ∨ (a.1 = b.1 ∧ a.2 < b.2)) := by
  rw [← ltL_iff, Bool.not_eq_true]
theorem swoL : SWO (Go.Proofs.ltOf fun x y : Lab => cmpL x y) where
  irrefl x := by rw [ltL_false]; omega
  trans x y z h1 h2 := by rw [ltL_iff] at *; omega
  ntrans x y z h1 h2 := by rw [ltL_false] at *; omega
theorem totL (x y : Lab) (h1 : Go.Proofs.ltOf (fun x y => cmpL x y) x y = false) (h2 : Go.Proofs.ltOf (fun x y => cmpL x y) y x = false) : x = y := by
  rw [ltL_false] at *
  exact Prod.ext (by omega) (by omega)
theorem sortL_len (l : List Lab) : (sortL l).length = l.length := List.length_mergeSort ..
end M
set_option maxRecDepth 100000 in
theorem sort_Lab (g n c : Nat) (l : List Lab) (hn : n = l.length) (h0 : 0 < n) (hn9 : n ≤ 1000000000) (R : Nat → Prop) (w0 : World) (L : List Hl) (w : World) (H : Hs R w0 (Hl.row 96 2 (.slice (some ⟨g, 0, none⟩) n c) n (flat encLab l) :: L) w) :
    Calls Tryz.prog 102 #[.slice (some ⟨g, 0, none⟩) n c, .func (.func 103) #[] #[]] w fun e w' => e = .returned (.tuple #[]) ∧ Hs R w0 (Hl.row 96 2 (.slice (some ⟨g, 0, none⟩) n c) n (flat encLab (sortL l)) :: L) w' := by
  obtain ⟨g', c', hv, ho⟩ := (H.rows .here).form h0
  injection hv with e1 _ e3
  injection e1 with e1; injection e1 with e1 _ _
  subst e1 e3
  have eg : ∀ args w, (callFunc 103 args).run Tryz.prog w = .ok (.enter 103 args) w := enters_of Tryz.func103 (by kernel_rfl) rfl
  have aE : ∀ w, (isAgg 96).run Tryz.prog w = .ok true w := isAgg_run (by decide +kernel)
  have zE : ∀ w, (Go.sizeOf 96).run Tryz.prog w = .ok 2 w := sizeOf_run (by decide +kernel)
  have hcmp : CmpLays Tryz.prog 103 #[] encLab 2 (fun x y => cmpL x y) g 0 l.toArray.size w := fun m os dk _ x y => compareLabels_grow x y _
  have hcon := AnyQ.slices_SortFunc_total Tryz.sortL 2 aE zE encLab (fun _ => rfl) encLab_one (fun x y => cmpL x y) swoL 103 #[] g 0 c l.toArray w eg hcmp (sort_holds ho) ((H.rows .here).form h0 |>.elim fun _ h => h.elim fun _ h => (h.2.lt g (by rfl)).2) (by simp; omega) totL
  change Calls Tryz.prog 102 _ _ _ at hcon
  rw [List.size_toArray, ← hn] at hcon
  refine hcon.mono fun e w' ⟨he, m, os, hw⟩ => ⟨he, ?_⟩
  subst hw
  have hsz : (sortL l).toArray.size = n := by rw [List.size_toArray, sortL_len, hn]
  obtain ⟨h1, h2⟩ := sort_world ho (sortL l).toArray hsz m os
  have hb : rowBlock (Value.slice (some ⟨g, 0, none⟩) n c) = some g := by
    have : n ≤ c := by obtain ⟨_, _, hs, h3, _⟩ := (H.rows .here).slice; injection hs with _ _ hs; omega
    obtain ⟨c2, rfl⟩ : ∃ c2, c = c2 + 1 := ⟨c - 1, by omega⟩
    rfl
  exact H.turn Upd.here (h2.mono (fun b hb2 => by subst hb2; exact hb)) (rowOk_of_own h1) (fun b h => .inl h)
end Go.Proofs.YtjklmldchbakjaaGreat
