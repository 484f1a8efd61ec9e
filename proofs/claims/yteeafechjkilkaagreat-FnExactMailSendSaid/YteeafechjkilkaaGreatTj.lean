/-
  What the walks of mail share: a refusal, a result of boxes.
-/
import Derived.Test.YteeafechjkilkaaGreatKm
import Derived.Test.YteeafechjkilkaaGreatMb
set_option linter.unusedSimpArgs false
set_option linter.unusedVariables false
namespace Go.Proofs.YteeafechjkilkaaGreat
open Go.RowKit M
namespace M
theorem mail_fits {c : Cfg} {m : List Bo} (h : mailOk c m = true) : ∀ b ∈ m, fitsBo b := by
  intro b hb
  obtain ⟨i, hi⟩ := List.getElem?_of_mem hb
  have hlt := (List.getElem?_eq_some_iff.1 hi).1
  have hf := mail_facts h
  obtain ⟨p, hp⟩ : ∃ p, c.2.1[i]? = some p := ⟨c.2.1[i]'(by omega), List.getElem?_eq_getElem _⟩
  have h12 := hf.2.2.2 i b hi
  unfold mailOk at h
  simp only [Bool.and_eq_true, decide_eq_true_eq] at h
  obtain ⟨h1, h2, h3⟩ := h
  unfold allFrom at h3
  rw [List.all_eq_true] at h3
  have h4 := h3 i (by rw [List.mem_range'_1]; omega)
  unfold boxIn at h4
  rw [hi] at h4
  simp only [hp] at h4
  unfold boxOk at h4
  simp only [Bool.and_eq_true, decide_eq_true_eq] at h4
  unfold cfgOk pairsOk allFrom at h1
  simp only [Bool.and_eq_true, List.all_eq_true] at h1
  have h5 := h1.2.2.2.1.1 i (by rw [List.mem_range'_1]; omega)
  unfold pairIn at h5
  rw [hp] at h5
  unfold isIn at h5
  simp only [Bool.and_eq_true, decide_eq_true_eq] at h5
  have h6 := h5.2.2.2.2.2
  exact ⟨by omega, by omega, by omega⟩
end M
theorem nil_own : (Ty.sl 2 tyNum).own [.slice none 0 0] [] [Hl.row 2 1 (.slice none 0 0) 0 []] := ⟨_, [], [], rfl, .nil, rfl, rfl⟩
theorem ret_ill {w w' : World} {L : List Hl} (H : Hs noRow w L w') (q : Int) : RPost [] w (tAgg tyMO ([], q)) (.returned (.agg #[.slice none 0 0, .int .i64 q])) w' := by
  have H1 := H.putRow 114 3 none
  have H2 : Hs noRow w (Hl.all [Hl.row 114 3 (.slice none 0 0) 0 []] :: L) w' := Hs.pack (M := [_]) H1
  exact Hs.retd H2 (List.Sublist.cons_cons _ (List.nil_sublist _)) ⟨[_, _], _, rfl, ⟨[_], [_], [Hl.row 114 3 (.slice none 0 0) 0 []], [], rfl, rfl, ⟨_, [], [], rfl, .nil, rfl, rfl⟩, rfl, rfl⟩, rfl⟩
theorem ret_mail {w w' : World} {L M : List Hl} {v : Value} {n : Nat} {xs : List Value} {l : List Bo} (hO : OwnL tyBo xs l M) (H : Hs noRow w (Hl.row 114 3 v n xs :: Hl.all M :: L) w') (hn : n = l.length) (q : Int) :
    RPost [] w (tAgg tyMO (l, q)) (.returned (.agg #[v, .int .i64 q])) w' := by
  obtain ⟨N, hN, H3⟩ := own_close hO H hn
  rw [← List.append_nil N] at H3
  exact Hs.retd H3 (List.Sublist.cons_cons _ (List.nil_sublist _)) ⟨[v, .int .i64 q], _, rfl, ⟨[v], [.int .i64 q], N, [], rfl, rfl, hN, rfl, rfl⟩, rfl⟩
set_option maxRecDepth 100000 in
set_option maxHeartbeats 4000000 in
theorem ill_s (q : Int) (w : World) : Gives Tryz.prog 51 #[.int .i64 q] w (.agg #[.slice none 0 0, .int .i64 q]) := by
  have H := Hs.start noRow w
  unfold Gives
  go_enter Tryz.func51, Tryz.ntmps51
  go_wp2_with (first | ((first | ((with_reducible apply st_load1 H); decide +kernel; rfl; exact cF) | ((with_reducible apply st_loads H); decide +kernel; rfl; exact iF; exact zF; rfl) | ((with_reducible apply st_store H); rfl; exact eF; (focus (exact cells_agg _)); exact uF; kernel_rfl; (focus (exact Nat.le_of_ble_eq_true (by rfl))); (focus (first | rfl | simp))) | ((with_reducible apply st_storeown H); rfl; exact eF; (focus (exact (rfl : _ = [_]))); exact uF; (focus omega); kernel_rfl; rfl)); clear H; intro wn H; (try simp only [splice, yG, yH, yI, yJ, yK, yL, yM, yN, yO, yP, yQ, Nat.reduceAdd, yA, yB, yC] at H); simp only [Act.put, yA, yB, yC, yD, yE, yF]) | ((first | ((with_reducible apply st_alloc (dst := some 2) H); exact nF; intro b2) | ((with_reducible apply st_storerow H); rfl; exact eF; (first | exact cells_agg _ | exact cellI | exact cellS | exact cellB | exact (rfl : _ = [_])); exact uF; kernel_rfl; exact Nat.succ_pos _; exact fitF; rfl)); clear H; intro wn H; simp only [Act.put, yA, yB, yC, yD, yE, yF]) | fail)
  refine bp_cell H rfl rfl iF (by kernel_rfl) (by kernel_rfl) rfl (by first | exact .inl rfl | exact .inr rfl) ?_
  exact ⟨rfl, H.below⟩
end Go.Proofs.YteeafechjkilkaaGreat
