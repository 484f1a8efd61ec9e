/-
  Draws: labels, names, texts picked: the walks.
-/
import Derived.Test.YtfblolkkajppcaaGreatDoorT1
import Derived.Test.YtfblolkkajppcaaGreatDoorJ1
set_option linter.unusedSimpArgs false
set_option linter.unusedVariables false
namespace Go.Proofs.YtfblolkkajppcaaGreatDoor
open Go.RowKit M
namespace M
def atL (l : List Int) (n : Int) : Int := l.getD n.toNat 0
end M
theorem atL_cell {w : World} {g : Nat} {E : TypeId} {cs : Array Value} (l : List Int) {n : Int} (hb : Blk w g E cs) (h0 : 0 ≤ n) (h1 : n < l.length) (hcs : cs = (l.map (Value.int .i64)).toArray := by rfl) : w.cell? ⟨g, n.toNat, none⟩ = some (.int .i64 (atL l n)) := by
  subst hcs
  have h2 : n.toNat < l.length := by omega
  refine (hb.cell n.toNat).trans ?_
  unfold atL
  rw [List.getElem?_toArray, List.getElem?_map, List.getElem?_eq_getElem h2, List.getD_eq_getElem?_getD, List.getElem?_eq_getElem h2]
  rfl
def tLab : Value → List Hl → Prop := tP fun r => ∃ a b, r = .agg #[.int .i64 a, .int .i64 b]
set_option maxRecDepth 100000 in
set_option maxHeartbeats 4000000 in
theorem l02Label_w {g : Nat} {v : Value} {l : List UInt8} {sz : Int} {w : World} (hs : Src w g v l sz) : Rets Tryz.prog [Hl.src g v l.length sz] 40 #[.pointer (some ⟨g, 0, none⟩)] w tLab := by
  have HC := Lib.hid hs.code
  have H := Hs.src hs
  clear hs
  go_enter Tryz.func40, Tryz.ntmps40
  go_wp2_with (((((with_reducible apply st_alloc (dst := some 2) H); exact nF; intro b2)); clear H; intro wn H; simp only [Act.put, yA, yB, yC, yD, yE, yF]))
  refine (Rets.use (one_w 20 (by omega) (Src.of HC.out H iF))).mono ?_; rintro e wn ⟨_, _, rfl, ⟨⟨b, rfl⟩, rfl⟩, hkk⟩; have Hn := H.moreK (by intro k hk; first | exact absurd hk List.not_mem_nil | (obtain rfl := List.mem_singleton.1 hk; exact In.mem iF)) hkk; clear hkk; clear H; have H := Hn; clear Hn; (try simp only [yT, yV] at H)
  cases b
  case false =>
    go_wp2_with (fail)
    refine (Rets.use (n_w 3 (by omega) (Src.of HC.out H iF))).mono ?_; rintro e wn ⟨_, _, rfl, ⟨⟨q1, rfl, _, _⟩, rfl⟩, hkk⟩; have Hn := H.moreK (by intro k hk; first | exact absurd hk List.not_mem_nil | (obtain rfl := List.mem_singleton.1 hk; exact In.mem iF)) hkk; clear hkk; clear H; have H := Hn; clear Hn; (try simp only [yT, yV] at H)
    go_wp2_with (fail)
    refine (Rets.use (n_w 4 (by omega) (Src.of HC.out H iF))).mono ?_; rintro e wn ⟨_, _, rfl, ⟨⟨q2, rfl, _, _⟩, rfl⟩, hkk⟩; have Hn := H.moreK (by intro k hk; first | exact absurd hk List.not_mem_nil | (obtain rfl := List.mem_singleton.1 hk; exact In.mem iF)) hkk; clear hkk; clear H; have H := Hn; clear Hn; (try simp only [yT, yV] at H)
    go_wp2_with (((((with_reducible apply st_store H); rfl; exact eF; (focus (exact cells_agg _)); exact uF; kernel_rfl; (focus (exact Nat.le_of_ble_eq_true (by rfl))); (focus (rfl)))); clear H; intro wn H; (try simp only [splice, yG, yH, yI, yJ, yK, yL, yM, yN, yO, yP, yQ, Nat.reduceAdd, yA, yB, yC] at H); simp only [Act.put, yA, yB, yC, yD, yE, yF]))
    refine bp_cell H rfl rfl iF (by kernel_rfl) (by kernel_rfl) rfl (by first | exact .inl rfl | exact .inr rfl) ?_
    exact Hs.ret (M := []) (H.sel (M := [Hl.src g v l.length sz]) sF) ⟨⟨_, _, rfl⟩, rfl⟩
  case true =>
    go_wp2_with (fail)
    apply wp_region_hs (K := [Hl.src g v l.length sz]) (Spec.S _ _ _ :: Spec.V _ :: Spec.I _ :: Spec.V _ :: Spec.V _ :: Spec.S _ _ _ :: Spec.V _ :: Spec.I _ :: Spec.V _ :: Spec.V _ :: Spec.V _ :: []) 11 H rfl (by intro k hk; obtain rfl := List.mem_singleton.1 hk; exact In.mem iF) (by kernel_rfl) (by kernel_rfl); intro vs Ls; (with_reducible apply wpH_S); (focus rfl); (focus rfl); (focus (intro hk w1 H1; unfold OpOk; go_simp; exact now_sl)); intro g0 hg0; simp only [Act.put, yA, yB, yC, yD, yE, yF]; (iterate 1 ((with_reducible apply wpH_V); (focus rfl); (focus rfl); (focus (intro w1 H1; exact oF)); simp only [Act.put, yA, yB, yC, yD, yE, yF]; (try simp only [yG, yH, yJ, yK]))); (with_reducible apply wpH_I); (focus rfl); (focus rfl); (focus (intro hk w1 H1; unfold OpOk; go_simp; exact now_call (n_w 3 (by omega) (Src.of HC.out H1 iF)))); simp only [Act.put, yA, yB, yC, yD, yE, yF]; (with_reducible apply wpH_VK); (focus rfl); (focus rfl); (focus (intro hk w1 H1; have q2 := okI (hk 2 (by decide +kernel) (by decide)) rfl; obtain ⟨qa, qb⟩ := q2; have qc : intOf' (vs 2) < 3 := (by omega); unfold OpOk; go_simp; exact now_v)); simp only [Act.put, yA, yB, yC, yD, yE, yF]; (with_reducible apply (wpH_DK 0)); (focus rfl); (focus rfl); (focus decide +kernel); (focus decide); (focus (intro hk hkj w1 H1; have hb : Blk w1 _ _ _ := H1.ok _ (List.mem_append_left _ (List.mem_singleton.2 rfl)); rw [← hg0] at hb; have q2 := okI (hk 2 (by decide +kernel) (by decide)) rfl; obtain ⟨qa, qb⟩ := q2; rw [hg0] at hb; exact ok_load1 rfl (by decide +kernel) (atL_cell [-1, 3, 4] hb qa (by show intOf' (vs 2) < 3; omega)))); simp only [Act.put, yA, yB, yC, yD, yE, yF]; (with_reducible apply wpH_S); (focus rfl); (focus rfl); (focus (intro hk w1 H1; unfold OpOk; go_simp; exact now_sl)); intro g5 hg5; simp only [Act.put, yA, yB, yC, yD, yE, yF]; (iterate 1 ((with_reducible apply wpH_V); (focus rfl); (focus rfl); (focus (intro w1 H1; exact oF)); simp only [Act.put, yA, yB, yC, yD, yE, yF]; (try simp only [yG, yH, yJ, yK]))); (with_reducible apply wpH_I); (focus rfl); (focus rfl); (focus (intro hk w1 H1; unfold OpOk; go_simp; exact now_call (n_w 3 (by omega) (Src.of HC.out H1 iF)))); simp only [Act.put, yA, yB, yC, yD, yE, yF]; (with_reducible apply wpH_VK); (focus rfl); (focus rfl); (focus (intro hk w1 H1; have q7 := okI (hk 7 (by decide +kernel) (by decide)) rfl; obtain ⟨qa, qb⟩ := q7; have qc : intOf' (vs 7) < 3 := (by omega); unfold OpOk; go_simp; exact now_v)); simp only [Act.put, yA, yB, yC, yD, yE, yF]; (with_reducible apply (wpH_DK 5)); (focus rfl); (focus rfl); (focus decide +kernel); (focus decide); (focus (intro hk hkj w1 H1; have hb : Blk w1 _ _ _ := H1.ok _ (List.mem_append_left _ (List.mem_singleton.2 rfl)); rw [← hg5] at hb; have q7 := okI (hk 7 (by decide +kernel) (by decide)) rfl; obtain ⟨qa, qb⟩ := q7; rw [hg5] at hb; exact ok_load1 rfl (by decide +kernel) (atL_cell [-1, 7, 8] hb qa (by show intOf' (vs 7) < 3; omega)))); simp only [Act.put, yA, yB, yC, yD, yE, yF]; (iterate 1 ((with_reducible apply wpH_V); (focus rfl); (focus rfl); (focus (intro w1 H1; exact oF)); simp only [Act.put, yA, yB, yC, yD, yE, yF]; (try simp only [yG, yH, yJ, yK]))); refine wpH_0 ?_; intro hok wn Hn; (try simp only [yT, yU, yV, yW] at Hn); clear H; have H := Hn; clear Hn; (try simp only [← hg0, ← hg5]); clear hg0; clear hg5; have q2 := okI (hok 2 (by decide)) rfl; have q7 := okI (hok 7 (by decide)) rfl; clear hok; (obtain ⟨n2, en⟩ : ∃ n, n = intOf' (vs 2) := ⟨_, rfl⟩; (try simp only [← en] at H q2 q7 ⊢); clear en); (obtain ⟨n7, en⟩ : ∃ n, n = intOf' (vs 7) := ⟨_, rfl⟩; (try simp only [← en] at H q2 q7 ⊢); clear en); rotate_left; (focus (refine locs ?_; intro vs1 vs2; (iterate 11 (refine all_lt_succ ?_ (by first | exact (fun _ => rfl) | exact (fun _ => ⟨rfl, rfl⟩) | (intro h; simp only [spec, Spec.same, yR, yS, Option.getD_some]; (try rw [h 0 (by decide +kernel)]); (try rw [h 2 (by decide +kernel)]); (try rw [h 5 (by decide +kernel)]); (try rw [h 7 (by decide +kernel)]); (first | done | exact ⟨rfl, rfl⟩ | exact ⟨trivial, rfl⟩ | exact ⟨rfl, trivial⟩))))); exact (fun k hk => absurd hk (Nat.not_lt_zero k))))
    go_wp2_with (((((with_reducible apply st_store H); rfl; exact eF; (focus (exact cells_agg _)); exact uF; kernel_rfl; (focus (exact Nat.le_of_ble_eq_true (by rfl))); (focus (rfl)))); clear H; intro wn H; (try simp only [splice, yG, yH, yI, yJ, yK, yL, yM, yN, yO, yP, yQ, Nat.reduceAdd, yA, yB, yC] at H); simp only [Act.put, yA, yB, yC, yD, yE, yF]))
    refine bp_cell H rfl rfl iF (by kernel_rfl) (by kernel_rfl) rfl (by first | exact .inl rfl | exact .inr rfl) ?_
    exact Hs.ret (M := []) (H.sel (M := [Hl.src g v l.length sz]) sF) ⟨⟨_, _, rfl⟩, rfl⟩
theorem apart2 {R : Nat → Prop} {w0 w : World} {b g : Nat} {E : TypeId} {cs : Array Value} {v : Value} {n : Nat} {sz : Int} (H : Hs R w0 [Hl.blk b E cs, Hl.src g v n sz] w) : b ≠ g := fun h => (List.pairwise_cons.1 H.sep).1 _ (List.mem_singleton.2 rfl) b rfl h
theorem atT {ts : List ByteArray} {n : Int} (h0 : 0 ≤ n) (h1 : n < ts.length) : ∃ t ∈ ts, ((ts.map Value.string).toArray)[n.toNat]? = some (.string t) := by
  have h2 : n.toNat < ts.length := by omega
  exact ⟨ts[n.toNat], List.getElem_mem h2, by rw [List.getElem?_toArray, List.getElem?_map, List.getElem?_eq_getElem h2]; rfl⟩
set_option maxRecDepth 100000 in
set_option maxHeartbeats 4000000 in
theorem pick_w {g : Nat} {v : Value} {l : List UInt8} {sz : Int} {w : World} (hs : Src w g v l sz) (b n : Nat) (E : TypeId) (cs : Array Value) (ts : List ByteArray) (hb : Blk w b E cs) (hcs : cs = (ts.map Value.string).toArray) (hn : n = ts.length) (hn0 : 0 < n) (hn1 : n ≤ 1000) (hbg : b ≠ g) (ht : ∀ t ∈ ts, t.size ≤ 200) :
    Rets Tryz.prog [Hl.src g v l.length sz] 32 #[.pointer (some ⟨g, 0, none⟩), .slice (some ⟨b, 0, none⟩) n n] w (tB fun t => t.size ≤ 200) := by
  have HC := Lib.hid hs.code
  have H := Hs.src hs
  clear hs
  subst hcs
  have HB := Lib.hid hb
  have HT := Lib.hid ht
  have HN := Lib.hid hn
  clear hb ht hn
  go_enter Tryz.func32, Tryz.ntmps32
  go_wp2_with (fail)
  refine (Rets.use (n_w n (by omega) (Src.of HC.out H iF))).mono ?_; rintro e wn ⟨_, _, rfl, ⟨⟨q, rfl, q0, q1⟩, rfl⟩, hkk⟩; have Hn := H.moreK (by intro k hk; first | exact absurd hk List.not_mem_nil | (obtain rfl := List.mem_singleton.1 hk; exact In.mem iF)) hkk; clear hkk; clear H; have H := Hn; clear Hn; (try simp only [yT, yV] at H)
  have q2 : q < n := by omega
  obtain ⟨t, htm, hx⟩ := atT (ts := ts) q0 (by rw [← HN.out]; exact q2)
  have hsz := HT.out t htm
  have hld : ∀ wn, Hs (fun x => x = g) w [Hl.src g v l.length sz] wn → wn.cell? ⟨b, q.toNat, none⟩ = some (.string t) := fun wn H => ((HB.out.grown H.grow.grownBy hbg).cell q.toNat).trans hx
  clear q1 hx htm
  go_wp2_with (((with_reducible apply st_load1 H); decide +kernel; rfl; (focus exact hld _ H); clear H; intro wn H; simp only [Act.put, yA, yB, yC, yD, yE, yF]))
  go_ret
  exact Hs.ret (M := []) (H.sel (M := [Hl.src g v l.length sz]) sF) ⟨⟨_, rfl, hsz⟩, rfl⟩
theorem name_at (j : Nat) (hj : j < 10) : ∃ b : UInt8, ∀ w, (Instr.index 9 (.string ⟨#[97, 98, 99, 100, 101, 102, 48, 49, 57, 95]⟩) (.int .i64 (j : Int))).run Tryz.prog w = .ok (.int .u8 b.toNat) w := by
  refine ⟨([97, 98, 99, 100, 101, 102, 48, 49, 57, 95] : List UInt8).getD j 0, fun w => ?_⟩
  have h : j = 0 ∨ j = 1 ∨ j = 2 ∨ j = 3 ∨ j = 4 ∨ j = 5 ∨ j = 6 ∨ j = 7 ∨ j = 8 ∨ j = 9 := by omega
  rcases h with rfl | rfl | rfl | rfl | rfl | rfl | rfl | rfl | rfl | rfl <;> (show _ = _; kernel_rfl)
set_option maxRecDepth 100000 in
set_option maxHeartbeats 4000000 in
theorem name_w {g : Nat} {v : Value} {l : List UInt8} {sz : Int} {w : World} (hs : Src w g v l sz) : Rets Tryz.prog [Hl.src g v l.length sz] 80 #[.pointer (some ⟨g, 0, none⟩)] w (tB fun t => t.size ≤ 200) := by
  have HC := Lib.hid hs.code
  have H := Hs.src hs
  clear hs
  go_enter Tryz.func80, Tryz.ntmps80
  go_wp2_with (fail)
  refine (Rets.use (n_w 6 (by omega) (Src.of HC.out H iF))).mono ?_; rintro e wn ⟨_, _, rfl, ⟨⟨q, rfl, q0, q1⟩, rfl⟩, hkk⟩; have Hn := H.moreK (by intro k hk; first | exact absurd hk List.not_mem_nil | (obtain rfl := List.mem_singleton.1 hk; exact In.mem iF)) hkk; clear hkk; clear H; have H := Hn; clear Hn; (try simp only [yT, yV] at H)
  have q2 : q < 6 := by omega
  have hw1 : IntKind.i64.wrap (97 + q) = 97 + q := by rw [wrap_id (by omega) (by omega)]
  have hw2 : IntKind.u8.wrap (97 + q) = 97 + q := by rw [IntKind.wrap_u8]; omega
  clear q1
  go_wp2_with (first | ((first | ((with_reducible apply st_conv1 H); rfl; exact iF; (focus omega); (focus omega); kernel_rfl; kernel_rfl; kernel_rfl) | ((with_reducible apply st_bslice H); exact nsF; intro nb)); clear H; intro wn H; simp only [Act.put, yA, yB, yC, yD, yE, yF]) | ((with_reducible apply st_v H); rfl; (focus (unfold OpOk; go_simp; (try simp only [hidx, Result.andThen_ok]); exact now_v)); clear H; intro wn H; simp only [Act.put, yA, yB, yC, yD, yE, yF]))
  refine (Rets.use (n_w 4 (by omega) (Src.of HC.out H iF))).mono ?_; rintro e wn ⟨_, _, rfl, ⟨⟨k0, rfl, k1, k2⟩, rfl⟩, hkk⟩; have Hn := H.moreK (by intro k hk; first | exact absurd hk List.not_mem_nil | (obtain rfl := List.mem_singleton.1 hk; exact In.mem iF)) hkk; clear hkk; clear H; have H := Hn; clear Hn; (try simp only [yT, yV] at H)
  obtain ⟨kk, rfl⟩ := Int.eq_ofNat_of_zero_le k1
  have hkk : kk ≤ 3 := by omega
  clear k1 k2 q0 q2 hw1 hw2
  go_wp2_with (fail)
  go_loopg [3, 4] kk (fun m tv kv wr => ∃ (k : Nat) (t : ByteArray), (k ≤ m ∧ m ≤ k) ∧ kv = .int .i64 k ∧ tv = .string t ∧ k ≤ 3 ∧ t.size + k ≤ 4 ∧ Hs (fun x => x = g) w [Hl.src g v l.length sz] wr)
  case atStart => exact ⟨kk, _, ⟨Nat.le_refl _, Nat.le_refl _⟩, rfl, rfl, hkk, by (show 1 + kk ≤ 4); omega, H.sel sF⟩
  case round =>
    clear H
    obtain ⟨k, t, hkm, rfl, rfl, hk3, htk, H⟩ := hrel
    by_cases hlt : 0 < k
    · obtain ⟨k1, rfl⟩ : ∃ k1, k = k1 + 1 := ⟨k - 1, by omega⟩
      have hlt1 : (0 : Int) < ((k1 + 1 : Nat) : Int) := by omega
      go_wp2_with (((with_reducible apply st_v H); rfl; (focus (unfold OpOk; go_simp; (try simp only [hidx, Result.andThen_ok]); exact now_v)); clear H; intro wn H; simp only [Act.put, yA, yB, yC, yD, yE, yF]))
      refine (Rets.use (n_w 10 (by omega) (Src.of HC.out H iF))).mono ?_; rintro e wn ⟨_, _, rfl, ⟨⟨q, rfl, q0, q1⟩, rfl⟩, hkk⟩; have Hn := H.moreK (by intro k hk; first | exact absurd hk List.not_mem_nil | (obtain rfl := List.mem_singleton.1 hk; exact In.mem iF)) hkk; clear hkk; clear H; have H := Hn; clear Hn; (try simp only [yT, yV] at H)
      obtain ⟨j, rfl⟩ := Int.eq_ofNat_of_zero_le q0
      have hj : j < 10 := by omega
      obtain ⟨b, hidx⟩ := name_at j hj
      have hbl : b.toNat < 256 := b.toNat_lt
      have htl : (t.size : Int) + 1 ≤ 1000 := by omega
      have hw3 : IntKind.i64.wrap (k1 : Int) = k1 := wrap_id (by omega) (by omega)
      clear q0 q1
      go_wp2_with (first | ((first | ((with_reducible apply st_strsum H); rfl; rfl; exact szF; kernel_rfl) | ((with_reducible apply st_conv1 H); rfl; exact iF; (focus omega); (focus omega); kernel_rfl; kernel_rfl; kernel_rfl) | ((with_reducible apply st_bslice H); exact nsF; intro nb)); clear H; intro wn H; simp only [Act.put, yA, yB, yC, yD, yE, yF]) | ((with_reducible apply st_v H); rfl; (focus (unfold OpOk; go_simp; (try simp only [hidx, Result.andThen_ok]); exact now_v)); clear H; intro wn H; simp only [Act.put, yA, yB, yC, yD, yE, yF]))
      go_roundg k1
      case measure => omega
      case rel => exact ⟨k1, _, ⟨Nat.le_refl _, Nat.le_refl _⟩, by (first | rw [hw3] | go_num), rfl, by omega, by rw [ByteArray.size_append]; (show t.size + 1 + k1 ≤ 4); omega, H.sel sF⟩
    · obtain rfl : k = 0 := by omega
      go_wp2_with (((with_reducible apply st_v H); rfl; (focus (unfold OpOk; go_simp; (try simp only [hidx, Result.andThen_ok]); exact now_v)); clear H; intro wn H; simp only [Act.put, yA, yB, yC, yD, yE, yF]))
      go_ret
      exact Hs.ret (M := []) (H.sel (M := [Hl.src g v l.length sz]) sF) ⟨⟨_, rfl, by omega⟩, rfl⟩
set_option maxRecDepth 100000 in
theorem max_s (a b : Int) (w : World) : Gives Tryz.prog 113 #[.int .i64 a, .int .i64 b] w (.int .i64 (if b < a then a else b)) := by
  have H := Hs.start noRow w
  unfold Gives
  by_cases h : b < a
  · rw [if_pos h]
    go_enter Tryz.func113, Tryz.ntmps113
    go_wp2_with (((with_reducible apply st_v H); rfl; (focus (unfold OpOk; go_simp; (try simp only [hidx, Result.andThen_ok]); exact now_v)); clear H; intro wn H; simp only [Act.put, yA, yB, yC, yD, yE, yF]))
    go_ret
    exact ⟨rfl, H.below⟩
  · rw [if_neg h]
    go_enter Tryz.func113, Tryz.ntmps113
    go_wp2_with (((with_reducible apply st_v H); rfl; (focus (unfold OpOk; go_simp; (try simp only [hidx, Result.andThen_ok]); exact now_v)); clear H; intro wn H; simp only [Act.put, yA, yB, yC, yD, yE, yF]))
    go_ret
    exact ⟨rfl, H.below⟩
set_option maxRecDepth 100000 in
set_option maxHeartbeats 4000000 in
theorem joinOf_s (a1 a2 b1 b2 : Int) (w : World) : Rets Tryz.prog [] 92 #[.agg #[.int .i64 a1, .int .i64 a2], .agg #[.int .i64 b1, .int .i64 b2]] w tLab := by
  have c1 := fun w1 => labelRight_s a1 a2 w1
  have c2 := fun w1 => labelRight_s b1 b2 w1
  have c3 := fun w1 => max_s a1 b1 w1
  generalize (if b1 < a1 then a1 else b1) = m at *
  generalize labelOk a1 a2 = z1 at *
  generalize labelOk b1 b2 = z2 at *
  have H := Hs.start noRow w
  refine Rets.of ?_
  go_enter Tryz.func92, Tryz.ntmps92
  go_wp2_with (first | ((((with_reducible apply st_loads H); decide +kernel; rfl; exact iF; exact zF; rfl)); clear H; intro wn H; (try simp only [splice, yG, yH, yI, yJ, yK, yL, yM, yN, yO, yP, yQ, Nat.reduceAdd, yA, yB, yC] at H); simp only [Act.put, yA, yB, yC, yD, yE, yF]) | ((first | ((with_reducible apply st_box (dst := some 2) H); exact nF; intro b2) | ((with_reducible apply st_box (dst := some 3) H); exact nF; intro b3) | ((with_reducible apply st_alloc (dst := some 4) H); exact nF; intro b4)); clear H; intro wn H; simp only [Act.put, yA, yB, yC, yD, yE, yF]))
  refine gvF (c1 _) H ?_; clear H; intro wn H
  cases z1
  case false =>
    go_wp2_with (first | ((with_reducible refine' st_guard ?_ ?_ ?_); rotate_left; rfl; (all_goals (intro hgd; cases hgd)); (try simp only [Act.put, yA, yB, yC, yD, yE, yF])) | ((((with_reducible apply st_store H); rfl; exact eF; (focus (exact cells_agg _)); exact uF; kernel_rfl; (focus (exact Nat.le_of_ble_eq_true (by rfl))); (focus (rfl)))); clear H; intro wn H; (try simp only [splice, yG, yH, yI, yJ, yK, yL, yM, yN, yO, yP, yQ, Nat.reduceAdd, yA, yB, yC] at H); simp only [Act.put, yA, yB, yC, yD, yE, yF]) | ((with_reducible apply st_v H); rfl; (focus (unfold OpOk; go_simp; (try simp only [hidx, Result.andThen_ok]); exact now_v)); clear H; intro wn H; simp only [Act.put, yA, yB, yC, yD, yE, yF]))
    refine bp_cell H rfl rfl iF (by kernel_rfl) (by kernel_rfl) rfl (by first | exact .inl rfl | exact .inr rfl) ?_
    exact Hs.retd H (List.nil_sublist _) ⟨⟨_, _, rfl⟩, rfl⟩
  go_wp2_with (first | ((with_reducible refine' st_guard ?_ ?_ ?_); rotate_left; rfl; (all_goals (intro hgd; cases hgd)); (try simp only [Act.put, yA, yB, yC, yD, yE, yF])) | ((((with_reducible apply st_loads H); decide +kernel; rfl; exact iF; exact zF; rfl)); clear H; intro wn H; (try simp only [splice, yG, yH, yI, yJ, yK, yL, yM, yN, yO, yP, yQ, Nat.reduceAdd, yA, yB, yC] at H); simp only [Act.put, yA, yB, yC, yD, yE, yF]) | ((with_reducible apply st_v H); rfl; (focus (unfold OpOk; go_simp; (try simp only [hidx, Result.andThen_ok]); exact now_v)); clear H; intro wn H; simp only [Act.put, yA, yB, yC, yD, yE, yF]))
  refine gvF (c2 _) H ?_; clear H; intro wn H
  cases z2
  case false =>
    go_wp2_with (first | ((with_reducible refine' st_guard ?_ ?_ ?_); rotate_left; rfl; (all_goals (intro hgd; cases hgd)); (try simp only [Act.put, yA, yB, yC, yD, yE, yF])) | ((((with_reducible apply st_store H); rfl; exact eF; (focus (exact cells_agg _)); exact uF; kernel_rfl; (focus (exact Nat.le_of_ble_eq_true (by rfl))); (focus (rfl)))); clear H; intro wn H; (try simp only [splice, yG, yH, yI, yJ, yK, yL, yM, yN, yO, yP, yQ, Nat.reduceAdd, yA, yB, yC] at H); simp only [Act.put, yA, yB, yC, yD, yE, yF]) | ((with_reducible apply st_v H); rfl; (focus (unfold OpOk; go_simp; (try simp only [hidx, Result.andThen_ok]); exact now_v)); clear H; intro wn H; simp only [Act.put, yA, yB, yC, yD, yE, yF]))
    refine bp_cell H rfl rfl iF (by kernel_rfl) (by kernel_rfl) rfl (by first | exact .inl rfl | exact .inr rfl) ?_
    exact Hs.retd H (List.nil_sublist _) ⟨⟨_, _, rfl⟩, rfl⟩
  go_wp2_with (first | ((with_reducible refine' st_guard ?_ ?_ ?_); rotate_left; rfl; (all_goals (intro hgd; cases hgd)); (try simp only [Act.put, yA, yB, yC, yD, yE, yF])) | ((with_reducible apply st_v H); rfl; (focus (unfold OpOk; go_simp; (try simp only [hidx, Result.andThen_ok]); exact now_v)); clear H; intro wn H; simp only [Act.put, yA, yB, yC, yD, yE, yF]))
  apply wp_region_hs (K := []) (Spec.V _ :: Spec.V _ :: Spec.V _ :: Spec.V _ :: Spec.V _ :: Spec.V _ :: Spec.V _ :: Spec.V _ :: Spec.V _ :: Spec.V _ :: Spec.V _ :: []) 11 H rfl (by simp) (by kernel_rfl) (by kernel_rfl); intro vs Ls; (iterate 4 ((with_reducible apply wpH_V); (focus rfl); (focus rfl); (focus (intro w1 H1; exact oF)); simp only [Act.put, yA, yB, yC, yD, yE, yF]; (try simp only [yG, yH, yJ, yK]))); (with_reducible apply wpH_VK); (focus rfl); (focus rfl); (focus (intro hk w1 H1; unfold OpOk; go_simp; exact now_call (Gives.rets (c3 _)))); simp only [Act.put, yA, yB, yC, yD, yE, yF]; (iterate 6 ((with_reducible apply wpH_V); (focus rfl); (focus rfl); (focus (intro w1 H1; exact oF)); simp only [Act.put, yA, yB, yC, yD, yE, yF]; (try simp only [yG, yH, yJ, yK]))); refine wpH_0 ?_; intro hok wn Hn; (try simp only [yT, yU, yV, yW] at Hn); clear H; have H := Hn; clear Hn; clear hok; rotate_left; exact lcF
  go_wp2_with (((((with_reducible apply st_store H); rfl; exact eF; (focus (exact cells_agg _)); exact uF; kernel_rfl; (focus (exact Nat.le_of_ble_eq_true (by rfl))); (focus (rfl)))); clear H; intro wn H; (try simp only [splice, yG, yH, yI, yJ, yK, yL, yM, yN, yO, yP, yQ, Nat.reduceAdd, yA, yB, yC] at H); simp only [Act.put, yA, yB, yC, yD, yE, yF]))
  refine bp_cell H rfl rfl iF (by kernel_rfl) (by kernel_rfl) rfl (by first | exact .inl rfl | exact .inr rfl) ?_
  exact Hs.retd H (List.nil_sublist _) ⟨⟨_, _, rfl⟩, rfl⟩
end Go.Proofs.YtfblolkkajppcaaGreatDoor
