/-
  Draws: whatever operations, steps, texts of them: the walks. Printed by gegen.py.
-/
import Derived.Test.YtfblolkkajppcaaGreatDoorGd
set_option linter.unusedSimpArgs false
set_option linter.unusedVariables false
namespace Go.Proofs.YtfblolkkajppcaaGreatDoor
open Go.RowKit M
def tSource2 (v : Value) (n : Nat) : Value → List Hl → Prop := fun r L => ∃ g sz, r = .pointer (some ⟨g, 0, none⟩) ∧ L = [Hl.src g v n sz]
theorem source_w2 (v : Value) (l : List UInt8) (hlen : l.length ≤ 1048576) (w : World) (hr : Rd w 1 v l.length (cb l)) : Rets Tryz.prog [] 21 #[v] w (tSource2 v l.length) := by
  refine (source_s v l hlen w hr).mono ?_
  rintro e w1 ⟨sz, _, _, rfl, S, hb⟩
  refine ⟨_, [Hl.src w.heap.size v l.length sz], rfl, ⟨_, sz, rfl, rfl⟩, Hs.hk ⟨growN hb, fun k hk => ?_, fun k hk b hb' => ?_, List.pairwise_singleton _ _⟩⟩
  · obtain rfl := List.mem_singleton.1 hk; exact S.blk
  · obtain rfl := List.mem_singleton.1 hk
    exact .inl (Nat.le_of_eq (Eq.symm hb'))
set_option maxRecDepth 100000 in
set_option maxHeartbeats 4000000 in
theorem l17Any_w {g : Nat} {v : Value} {l : List UInt8} {sz : Int} {w : World} (hs : Src w g v l sz) : Rets Tryz.prog [Hl.src g v l.length sz] 22 #[.pointer (some ⟨g, 0, none⟩)] w tOpD := by
  have HC := Lib.hid hs.code
  have H := Hs.src hs
  clear hs
  go_enter Tryz.func22, Tryz.ntmps22
  go_wp2_with (((((with_reducible apply st_alloc (dst := some 2) H); exact nF; intro b2)); clear H; intro wn H; simp only [Act.put, yA, yB, yC, yD, yE, yF]))
  refine (Rets.use (l09Config_w (Src.of HC.out H iF))).mono ?_; rintro e wn ⟨_, _, rfl, ⟨cf, cs, N, rfl, hown, rfl⟩, hkk⟩; have Hn := H.moreK (by intro k hk; first | exact absurd hk List.not_mem_nil | (obtain rfl := List.mem_singleton.1 hk; exact In.mem iF)) hkk; clear hkk; clear H; have H := Hn; clear Hn; (try simp only [yT, yV] at H)
  go_wp2_with (fail)
  refine (Rets.use (l17Op_w (Src.of HC.out H iF) cf cs (farOf (H.sel (M := [Hl.all N, Hl.src g v l.length sz]) sF) hown))).mono ?_; rintro e wn ⟨_, _, rfl, ⟨⟨sys, l1, l2, k, ow, a, b, c, d, m1, m2, af, rfl, how⟩, rfl⟩, hkk⟩; have Hn := H.moreK (by intro k hk; first | exact absurd hk List.not_mem_nil | (obtain rfl := List.mem_singleton.1 hk; exact In.mem iF)) hkk; clear hkk; clear H; have H := Hn; clear Hn; (try simp only [yT, yV] at H)
  clear hown
  go_wp2_with (first | ((((with_reducible apply st_store H); rfl; exact eF; (focus (exact cells_agg _)); exact uF; kernel_rfl; (focus (exact Nat.le_of_ble_eq_true (by rfl))); (focus (rfl)))); clear H; intro wn H; (try simp only [splice, yG, yH, yI, yJ, yK, yL, yM, yN, yO, yP, yQ, Nat.reduceAdd, yA, yB, yC] at H); simp only [Act.put, yA, yB, yC, yD, yE, yF]) | ((((with_reducible apply st_alloc (dst := some 3) H); exact nF; intro b3)); clear H; intro wn H; simp only [Act.put, yA, yB, yC, yD, yE, yF]))
  refine (Rets.use (one_w 6 (by omega) (Src.of HC.out H iF))).mono ?_; rintro e wn ⟨_, _, rfl, ⟨⟨bb, rfl⟩, rfl⟩, hkk⟩; have Hn := H.moreK (by intro k hk; first | exact absurd hk List.not_mem_nil | (obtain rfl := List.mem_singleton.1 hk; exact In.mem iF)) hkk; clear hkk; clear H; have H := Hn; clear Hn; (try simp only [yT, yV] at H)
  cases bb
  case false =>
    go_wp2_with (((first | ((with_reducible apply st_loads H); decide +kernel; rfl; exact iF; exact zF; rfl) | ((with_reducible apply st_store H); rfl; exact eF; (focus (exact cells_agg _)); exact uF; kernel_rfl; (focus (exact Nat.le_of_ble_eq_true (by rfl))); (focus (rfl)))); clear H; intro wn H; (try simp only [splice, yG, yH, yI, yJ, yK, yL, yM, yN, yO, yP, yQ, Nat.reduceAdd, yA, yB, yC] at H); simp only [Act.put, yA, yB, yC, yD, yE, yF]))
    refine bp_cell H rfl rfl iF (by kernel_rfl) (by kernel_rfl) rfl (by first | exact .inl rfl | exact .inr rfl) ?_
    exact Hs.ret (M := []) (H.sel (M := [Hl.src g v l.length sz]) sF) ⟨⟨_, _, _, _, _, _, _, _, _, _, _, _, rfl, by assumption⟩, rfl⟩
  go_wp2_with (((((with_reducible apply st_bslice H); exact nsF; intro nb)); clear H; intro wn H; simp only [Act.put, yA, yB, yC, yD, yE, yF]))
  refine (Rets.use (n_w 5 (by omega) (Src.of HC.out H iF))).mono ?_; rintro e wn ⟨_, _, rfl, ⟨⟨q, rfl, qa, qb⟩, rfl⟩, hkk⟩; have Hn := H.moreK (by intro k hk; first | exact absurd hk List.not_mem_nil | (obtain rfl := List.mem_singleton.1 hk; exact In.mem iF)) hkk; clear hkk; clear H; have H := Hn; clear Hn; (try simp only [yT, yV] at H)
  have q2 : q < 5 := by omega
  have hx : (#[.int .i64 0, .int .i64 1, .int .i64 9999999, .int .i64 10000000, .int .i64 (-1)] : Array Value)[q.toNat]? = some (.int .i64 (atL [0, 1, 9999999, 10000000, -1] q)) := atI [0, 1, 9999999, 10000000, -1] qa q2
  generalize atL [0, 1, 9999999, 10000000, -1] q = z at *
  clear qb
  go_wp2_with (first | ((first | ((with_reducible apply st_loads H); decide +kernel; rfl; exact iF; exact zF; rfl) | ((with_reducible apply st_store H); rfl; exact eF; (focus (exact cells_agg _)); exact uF; kernel_rfl; (focus (exact Nat.le_of_ble_eq_true (by rfl))); (focus (rfl)))); clear H; intro wn H; (try simp only [splice, yG, yH, yI, yJ, yK, yL, yM, yN, yO, yP, yQ, Nat.reduceAdd, yA, yB, yC] at H); simp only [Act.put, yA, yB, yC, yD, yE, yF]) | ((with_reducible apply st_load1 H); decide +kernel; rfl; (focus exact H.cell iF hx); clear H; intro wn H; simp only [Act.put, yA, yB, yC, yD, yE, yF]))
  refine bp_cell H rfl rfl iF (by kernel_rfl) (by kernel_rfl) rfl (by first | exact .inl rfl | exact .inr rfl) ?_
  exact Hs.ret (M := []) (H.sel (M := [Hl.src g v l.length sz]) sF) ⟨⟨_, _, _, _, _, _, _, _, _, _, _, _, rfl, by assumption⟩, rfl⟩
set_option maxRecDepth 100000 in
set_option maxHeartbeats 4000000 in
theorem drawOpText_w (v : Value) (l : List UInt8) (hlen : l.length ≤ 1048576) (w : World) (hr : Rd w 1 v l.length (cb l)) : Rets Tryz.prog [] 5 #[v] w tOpD := by
  have HR := Lib.hid hr
  have H := Hs.start noRow w
  obtain ⟨A0, ca0, rfl, _, _⟩ : ∃ A c, v = .slice A l.length c ∧ l.length ≤ c ∧ c ≤ maxLen := by obtain ⟨A, c, h, a, b, _⟩ := hr.form; exact ⟨A, c, h, a, b⟩
  clear hr
  refine Rets.of ?_
  go_enter Tryz.func5, Tryz.ntmps5
  go_wp2_with (((((with_reducible apply st_alloc (dst := some 2) H); exact nF; intro b2)); clear H; intro wn H; simp only [Act.put, yA, yB, yC, yD, yE, yF]))
  refine (Rets.use (source_w2 _ l hlen _ (HR.out.later H.below))).mono ?_; rintro e wn ⟨_, _, rfl, ⟨g, sz, rfl, rfl⟩, hkk⟩; have Hn := H.moreK (by intro k hk; first | exact absurd hk List.not_mem_nil | (obtain rfl := List.mem_singleton.1 hk; exact In.mem iF)) hkk; clear hkk; clear H; have H := Hn; clear Hn; (try simp only [yT, yV] at H)
  go_wp2_with (fail)
  refine (Rets.use (l17Any_w (Src.ofNew HR.out hlen H iF))).mono ?_; rintro e wn ⟨_, _, rfl, ⟨⟨sys, l1, l2, k, ow, a, b, c, d, m1, m2, af, rfl, how⟩, rfl⟩, hkk⟩; have Hn := H.moreK (by intro k hk; first | exact absurd hk List.not_mem_nil | (obtain rfl := List.mem_singleton.1 hk; exact In.mem iF)) hkk; clear hkk; clear H; have H := Hn; clear Hn; (try simp only [yT, yV] at H)
  go_wp2_with (((((with_reducible apply st_store H); rfl; exact eF; (focus (exact cells_agg _)); exact uF; kernel_rfl; (focus (exact Nat.le_of_ble_eq_true (by rfl))); (focus (rfl)))); clear H; intro wn H; (try simp only [splice, yG, yH, yI, yJ, yK, yL, yM, yN, yO, yP, yQ, Nat.reduceAdd, yA, yB, yC] at H); simp only [Act.put, yA, yB, yC, yD, yE, yF]))
  refine bp_cell H rfl rfl iF (by kernel_rfl) (by kernel_rfl) rfl (by first | exact .inl rfl | exact .inr rfl) ?_
  exact Hs.retd H (List.nil_sublist _) ⟨⟨_, _, _, _, _, _, _, _, _, _, _, _, rfl, by assumption⟩, rfl⟩
set_option maxRecDepth 100000 in
set_option maxHeartbeats 4000000 in
theorem drawOpAsks_w (v : Value) (l : List UInt8) (hlen : l.length ≤ 1048576) (w : World) (hr : Rd w 1 v l.length (cb l)) : Rets Tryz.prog [] 9 #[v] w tOpD := by
  have HR := Lib.hid hr
  have H := Hs.start noRow w
  obtain ⟨A0, ca0, rfl, _, _⟩ : ∃ A c, v = .slice A l.length c ∧ l.length ≤ c ∧ c ≤ maxLen := by obtain ⟨A, c, h, a, b, _⟩ := hr.form; exact ⟨A, c, h, a, b⟩
  clear hr
  refine Rets.of ?_
  go_enter Tryz.func9, Tryz.ntmps9
  go_wp2_with (((((with_reducible apply st_alloc (dst := some 2) H); exact nF; intro b2)); clear H; intro wn H; simp only [Act.put, yA, yB, yC, yD, yE, yF]))
  refine (Rets.use (source_w2 _ l hlen _ (HR.out.later H.below))).mono ?_; rintro e wn ⟨_, _, rfl, ⟨g, sz, rfl, rfl⟩, hkk⟩; have Hn := H.moreK (by intro k hk; first | exact absurd hk List.not_mem_nil | (obtain rfl := List.mem_singleton.1 hk; exact In.mem iF)) hkk; clear hkk; clear H; have H := Hn; clear Hn; (try simp only [yT, yV] at H)
  go_wp2_with (fail)
  refine (Rets.use (l17Any_w (Src.ofNew HR.out hlen H iF))).mono ?_; rintro e wn ⟨_, _, rfl, ⟨⟨sys, l1, l2, k, ow, a, b, c, d, m1, m2, af, rfl, how⟩, rfl⟩, hkk⟩; have Hn := H.moreK (by intro k hk; first | exact absurd hk List.not_mem_nil | (obtain rfl := List.mem_singleton.1 hk; exact In.mem iF)) hkk; clear hkk; clear H; have H := Hn; clear Hn; (try simp only [yT, yV] at H)
  go_wp2_with (first | ((((with_reducible apply st_store H); rfl; exact eF; (focus (exact cells_agg _)); exact uF; kernel_rfl; (focus (exact Nat.le_of_ble_eq_true (by rfl))); (focus (rfl)))); clear H; intro wn H; (try simp only [splice, yG, yH, yI, yJ, yK, yL, yM, yN, yO, yP, yQ, Nat.reduceAdd, yA, yB, yC] at H); simp only [Act.put, yA, yB, yC, yD, yE, yF]) | ((((with_reducible apply st_alloc (dst := some 4) H); exact nF; intro b4)); clear H; intro wn H; simp only [Act.put, yA, yB, yC, yD, yE, yF]))
  refine (Rets.use (one_w 2 (by omega) (Src.ofNew HR.out hlen H iF))).mono ?_; rintro e wn ⟨_, _, rfl, ⟨⟨bb, rfl⟩, rfl⟩, hkk⟩; have Hn := H.moreK (by intro k hk; first | exact absurd hk List.not_mem_nil | (obtain rfl := List.mem_singleton.1 hk; exact In.mem iF)) hkk; clear hkk; clear H; have H := Hn; clear Hn; (try simp only [yT, yV] at H)
  cases bb
  case false =>
    go_wp2_with (((first | ((with_reducible apply st_loads H); decide +kernel; rfl; exact iF; exact zF; rfl) | ((with_reducible apply st_store H); rfl; exact eF; (focus (exact cells_agg _)); exact uF; kernel_rfl; (focus (exact Nat.le_of_ble_eq_true (by rfl))); (focus (rfl)))); clear H; intro wn H; (try simp only [splice, yG, yH, yI, yJ, yK, yL, yM, yN, yO, yP, yQ, Nat.reduceAdd, yA, yB, yC] at H); simp only [Act.put, yA, yB, yC, yD, yE, yF]))
    refine bp_cell H rfl rfl iF (by kernel_rfl) (by kernel_rfl) rfl (by first | exact .inl rfl | exact .inr rfl) ?_
    exact Hs.retd H (List.nil_sublist _) ⟨⟨_, _, _, _, _, _, _, _, _, _, _, _, rfl, by assumption⟩, rfl⟩
  go_wp2_with (fail)
  refine (Rets.use (l02Label_w (Src.ofNew HR.out hlen H iF))).mono ?_; rintro e wn ⟨_, _, rfl, ⟨⟨x1, y1, rfl⟩, rfl⟩, hkk⟩; have Hn := H.moreK (by intro k hk; first | exact absurd hk List.not_mem_nil | (obtain rfl := List.mem_singleton.1 hk; exact In.mem iF)) hkk; clear hkk; clear H; have H := Hn; clear Hn; (try simp only [yT, yV] at H)
  go_wp2_with (fail)
  refine (Rets.use (n_w 6 (by omega) (Src.ofNew HR.out hlen H iF))).mono ?_; rintro e wn ⟨_, _, rfl, ⟨⟨q, rfl, qa, qb⟩, rfl⟩, hkk⟩; have Hn := H.moreK (by intro k hk; first | exact absurd hk List.not_mem_nil | (obtain rfl := List.mem_singleton.1 hk; exact In.mem iF)) hkk; clear hkk; clear H; have H := Hn; clear Hn; (try simp only [yT, yV] at H)
  have q2 : q ≤ 5 := by omega
  clear qb
  go_wp2_with (((((with_reducible apply st_store H); rfl; exact eF; (focus (exact cells_agg _)); exact uF; kernel_rfl; (focus (exact Nat.le_of_ble_eq_true (by rfl))); (focus (rfl)))); clear H; intro wn H; (try simp only [splice, yG, yH, yI, yJ, yK, yL, yM, yN, yO, yP, yQ, Nat.reduceAdd, yA, yB, yC] at H); simp only [Act.put, yA, yB, yC, yD, yE, yF]))
  refine bp_cell H rfl rfl iF (by kernel_rfl) (by kernel_rfl) rfl (by first | exact .inl rfl | exact .inr rfl) ?_
  exact Hs.retd H (List.nil_sublist _) ⟨⟨_, _, _, _, _, _, _, _, _, _, _, _, rfl, Nat.zero_le _⟩, rfl⟩
end Go.Proofs.YtfblolkkajppcaaGreatDoor
