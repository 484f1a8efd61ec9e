/-
  What the laws of mail share: a region's call that reads what two others made; how many marks. Plain.
-/
import Derived.Test.YtjklmldchbakjaaGreatKm
import Derived.Test.YtjklmldchbakjaaGreatHn
set_option linter.unusedSimpArgs false
set_option linter.unusedVariables false
namespace Go.Proofs.YtjklmldchbakjaaGreat
open Go.RowKit M
section
variable {P : Program} {R : Nat → Prop} {w0 : World} {L : List Hl}
variable {K : List Hl} {ops l : List Oper} {Rest : List Oper → Act → World → Prop} {ss : List Spec} {vs : Nat → Value} {Ls : Nat → List Hl} {n k : Nat} {M : List Hl} {o : Oper} {a : Act}
theorem wpH_TD {u : (Nat → Value) → Value → List Hl → Prop} (j j' : Nat) (e : spec ss k = .T u) (hw : Region.wanted o (yielded ops.toArray a.tmps) = true) (hj : ancB ops k j = true) (hjk : j < j') (hj' : ancB ops k j' = true) (hjk' : j' < k)
    (h1 : (spec ss j).ok vs Ls j → (spec ss j').ok vs Ls j' → ∀ w, Hs R w0 (((spec ss j).hls vs Ls j ++ (spec ss j').hls vs Ls j') ++ L) w → OpOk P K o a w (u vs)) (h2 : wpH P K ops R w0 L Rest ss vs Ls n l (k + 1) (M ++ Ls k) (a.put o.dst (vs k))) :
    wpH P K ops R w0 L Rest ss vs Ls (n + 1) (o :: l) k M a := by
  refine ⟨fun hok => ⟨hw, ?_⟩, ?_⟩
  · rw [e]
    intro w h
    refine h1 (hok j hj (by omega)) (hok j' hj' hjk') w (h.sub ((?_ : List.Sublist _ _).append (List.Sublist.refl _)))
    have hm : [j, j'].Sublist (ancs ops k) := by
      have h2 : [j, j'].Sublist (List.range k) := by
        rw [show List.range k = List.range' 0 k by rw [List.range_eq_range']]
        rw [show k = j + (1 + ((j' - j - 1) + (1 + (k - j' - 1)))) by omega]
        rw [← List.range'_append_1, ← List.range'_append_1, ← List.range'_append_1, ← List.range'_append_1]
        refine List.Sublist.trans ?_ (List.sublist_append_right _ _)
        refine (List.singleton_sublist.2 ?_ : [j].Sublist _).append ((List.singleton_sublist.2 ?_ : [j'].Sublist _))
        · simp
        · refine List.mem_append_right _ (List.mem_append_left _ ?_)
          simp; omega
      have h3 := h2.filter (ancB ops k)
      rw [List.filter_cons_of_pos hj, List.filter_cons_of_pos hj', List.filter_nil] at h3
      exact h3
    have := flatMap_sublist (fun i => (spec ss i).hls vs Ls i) hm
    simpa using this
  · rw [e]; simp only [Spec.hls, Spec.val]; exact h2
theorem wpH_TT {u t t' : (Nat → Value) → Value → List Hl → Prop} (j j' : Nat) (e : spec ss k = .T u) (ej : spec ss j = .T t) (ej' : spec ss j' = .T t') (hw : Region.wanted o (yielded ops.toArray a.tmps) = true) (hj : ancB ops k j = true) (hjk : j < j') (hj' : ancB ops k j' = true) (hjk' : j' < k)
    (h1 : t vs (vs j) (Ls j) → t' vs (vs j') (Ls j') → ∀ w, Hs R w0 ((Ls j ++ Ls j') ++ L) w → OpOk P K o a w (u vs)) (h2 : wpH P K ops R w0 L Rest ss vs Ls n l (k + 1) (M ++ Ls k) (a.put o.dst (vs k))) :
    wpH P K ops R w0 L Rest ss vs Ls (n + 1) (o :: l) k M a :=
  wpH_TD j j' e hw hj hjk hj' hjk' (by rw [ej, ej']; exact h1) h2
end
namespace M
theorem cntl_const {α : Type} {K : Mark α} {s : Nat} (h : ∀ a, K.cnt a = s) (l : List α) : K.cntl l = s * l.length := by
  induction l with
  | nil => rfl
  | cons a l ih => show K.cnt a + K.cntl l = _; rw [h, ih, List.length_cons, Nat.mul_succ]; omega
theorem cnt_labs (l : List (List Lab)) : mkLab.list.cntl l = 2 * l.flatten.length := by
  induction l with
  | nil => rfl
  | cons a l ih =>
    show mkLab.cntl a + mkLab.list.cntl l = _
    rw [ih, cntl_const (s := 2) (fun _ => rfl), List.flatten_cons, List.length_append]
    omega
theorem cnt_cfg (c : Cfg) : mkCfg.cnt c ≤ 5 * szCfg c := by
  show mkLab.list.cntl c.1 + (mkPr.cntl c.2.1 + (mkQt.cntl c.2.2.1 + 0)) ≤ 5 * (total c.1 + (c.2.1.length + c.2.2.1.length))
  rw [cnt_labs, cntl_const (K := mkPr) (s := 5) (fun _ => rfl), cntl_const (K := mkQt) (s := 3) (fun _ => rfl)]
  unfold total
  omega
theorem cnt_bo (l : List Bo) : mkBo.cntl l ≤ 2 * mkSz.cntl l := by
  induction l with
  | nil => exact Nat.le_refl _
  | cons a l ih =>
    show mkNum.cntl a.1 + (mkNum.cntl a.2.1 + mkNt.cntl a.2.2) + mkBo.cntl l ≤ 2 * (szBo a + mkSz.cntl l)
    rw [cntl_const (K := mkNum) (s := 1) (fun _ => rfl), cntl_const (K := mkNum) (s := 1) (fun _ => rfl), cntl_const (K := mkNt) (s := 2) (fun _ => rfl)]
    unfold szBo
    omega
end M
end Go.Proofs.YtjklmldchbakjaaGreat
