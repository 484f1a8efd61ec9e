/-
  Draws: operations: the walks. Printed by gdgen.py.
-/
import Derived.Test.YtfblolkkajppcaaGreatDoorGc
import Derived.Test.YtfblolkkajppcaaGreatDoorO4
set_option linter.unusedSimpArgs false
set_option linter.unusedVariables false
namespace Go.Proofs.YtfblolkkajppcaaGreatDoor
open Go.RowKit M
def tOpD : Value → List Hl → Prop := tP fun r => ∃ (sys : Bool) (l1 l2 k : Int) (ow : ByteArray) (a b c d m1 m2 af : Int), r = .agg #[.bool sys, .int .i64 l1, .int .i64 l2, .int .i64 k, .string ow, .int .i64 a, .int .i64 b, .int .i64 c, .int .i64 d, .int .i64 m1, .int .i64 m2, .int .i64 af] ∧ ow.size ≤ 200
theorem Hs.head1 {R : Nat → Prop} {w0 w : World} {L : List Hl} {b : Nat} {E : TypeId} {cs : Array Value} (H : Hs R w0 (Hl.blk b E cs :: L) w) : Blk w b E cs := H.ok _ (List.mem_cons_self ..)
theorem annbob : ∀ t ∈ ([⟨#[97, 110, 110]⟩, ⟨#[98, 111, 98]⟩] : List ByteArray), t.size ≤ 200 := by
  intro t ht
  simp only [List.mem_cons, List.not_mem_nil, or_false] at ht
  rcases ht with rfl | rfl <;> decide
def prV (pr : List Pr) (i : Int) : Value := .agg (encPr (pr.getD i.toNat ((0, 0), (0, 0), 0))).toArray
theorem prV_form (pr : List Pr) (i : Int) : ∃ a1 a2 b1 b2 r, prV pr i = .agg #[.int .i64 a1, .int .i64 a2, .int .i64 b1, .int .i64 b2, .int .i64 r] := ⟨_, _, _, _, _, rfl⟩
theorem cfg_pairs {w : World} {u v : Value} {B : Option Addr} {n k : Nat} {hf : Int} {nd : List (List Lab)} {pr : List Pr} {qt : List Qt} (h : tyCfg.rd w [u, .slice B n k, v, .int .i64 hf] (nd, pr, qt, hf)) (hn : 0 < n) : ∃ b off, B = some ⟨b, off, none⟩ := by
  obtain ⟨_, _, _, e, _, h2, _⟩ := cfg_form h
  injection e with e1 e
  injection e with e2 e
  subst e2
  obtain ⟨A', c', e3, _, _⟩ := sl_form h2
  injection e3 with _ e4 _
  replace e4 : n = pr.length := e4
  replace h2 : (Ty.sl 104 tyPr).rd w [.slice B n k] pr := h2
  obtain ⟨x, hx⟩ : ∃ x, pr[0]? = some x := ⟨pr[0]'(by omega), List.getElem?_eq_getElem (by omega)⟩
  obtain ⟨b, off, c, cs, hv, _, _⟩ := sl_at h2 hx
  injection hv with e5 _ _
  exact ⟨b, off, e5⟩
theorem ok_prload {K : List Hl} {a : Act} {w : World} {dst : Option Tmp} {ty : TypeId} {pos : String} {aft : Array Edge} {g : Option (Nat × Bool)} {x : Operand} {u v : Value} {b off n k : Nat} {hf : Int} {nd : List (List Lab)} {pr : List Pr} {qt : List Qt}
    (h : tyCfg.rd w [u, .slice (some ⟨b, off, none⟩) n k, v, .int .i64 hf] (nd, pr, qt, hf)) (hn : n = pr.length) (i : Int) (h0 : 0 ≤ i) (h1 : i < n) (hx : a.eval x = .pointer (some ⟨b, off + i.toNat * 5, none⟩)) :
    OpOk Tryz.prog K ⟨dst, .load 104 x, ty, pos, aft, g⟩ a w (tV (prV pr i)) := by
  obtain ⟨_, _, _, e, _, h2, _⟩ := cfg_form h
  injection e with e1 e
  injection e with e2 e
  subst e2
  have hi : i.toNat < pr.length := by omega
  obtain ⟨b', off', c', cs, hv, hcs, hA⟩ := sl_at h2 (List.getElem?_eq_getElem hi)
  injection hv with e5 _ _
  injection e5 with e5
  injection e5 with e5 e6 _
  subst e5 e6
  obtain rfl : cs = encPr pr[i.toNat] := hcs
  have e7 : prV pr i = .agg (encPr pr[i.toNat]).toArray := by unfold prV; rw [List.getD_eq_getElem?_getD, List.getElem?_eq_getElem hi]; rfl
  rw [e7]
  exact ok_loadat (n := 5) hx (by decide +kernel) hA (by decide +kernel) rfl
theorem edge_w2 {w : World} {g : Nat} {v : Value} {l : List UInt8} {sz : Int} (hs : Src w g v l sz) : Rets Tryz.prog [Hl.src g v l.length sz] 79 #[.pointer (some ⟨g, 0, none⟩)] w (tI fun n => -9223372036854775808 ≤ n ∧ n ≤ 9223372036854775807) :=
  Drawn.rets (edge_s g v l sz w hs)
set_option maxRecDepth 100000 in
set_option maxHeartbeats 16000000 in
theorem l17Op_w {g : Nat} {v : Value} {l : List UInt8} {sz : Int} {w : World} (hs : Src w g v l sz) (c : Cfg) (cs : List Value) (hr : ∀ w', w.grownBy w' (some g) → tyCfg.rd w' cs c) :
    Rets Tryz.prog [Hl.src g v l.length sz] 64 #[.pointer (some ⟨g, 0, none⟩), .agg cs.toArray] w tOpD := by
  have HC := Lib.hid hs.code
  have H := Hs.src hs
  clear hs
  have HR := Lib.hid hr
  obtain ⟨v1, v2, v3, rfl, h1, h2, h3⟩ := cfg_form (hr w (gr_refl w _))
  obtain ⟨nd, pr, qt, hf⟩ := c
  simp only at h1 h2 h3
  obtain ⟨A, k1, rfl, _, _⟩ := sl_form h1
  obtain ⟨B, k2, rfl, hB1, hB2⟩ := sl_form h2
  obtain ⟨D, k3, rfl, _, _⟩ := sl_form h3
  obtain ⟨n1, hn1⟩ : ∃ n, n = nd.length := ⟨_, rfl⟩
  obtain ⟨n2, hn2⟩ : ∃ n, n = pr.length := ⟨_, rfl⟩
  obtain ⟨n3, hn3⟩ : ∃ n, n = qt.length := ⟨_, rfl⟩
  clear hr h1 h2 h3
  replace HR : Hid (∀ w', w.grownBy w' (some g) → tyCfg.rd w' [.slice A nd.length k1, .slice B pr.length k2, .slice D qt.length k3, .int .i64 hf] (nd, pr, qt, hf)) := HR
  show Rets Tryz.prog _ _ #[.pointer (some ⟨g, 0, none⟩), .agg #[.slice A nd.length k1, .slice B pr.length k2, .slice D qt.length k3, .int .i64 hf]] w _
  rw [← hn2] at hB1
  rw [← hn1, ← hn2, ← hn3] at HR ⊢
  have hn2m : n2 ≤ 9223372036854775807 := by unfold maxLen at hB2; omega
  have HN2 := Lib.hid hn2
  clear hn1 hn2 hn3 hB1 hB2
  have cL : ∀ wn, Src wn g v l sz → w.grownBy wn (some g) → Rets Tryz.prog [Hl.src g v l.length sz] 78 #[.pointer (some ⟨g, 0, none⟩), .agg #[.slice A n1 k1, .slice B n2 k2, .slice D n3 k3, .int .i64 hf]] wn tLab := fun wn hsrc hg => l09Label_w hsrc _ _ (fun w' hg' => HR.out w' (gr_trans hg hg'))
  go_enter Tryz.func64, Tryz.ntmps64
  go_wp2_with (first | ((((with_reducible apply st_loads H); decide +kernel; rfl; exact iF; exact zF; rfl)); clear H; intro wn H; (try simp only [splice, yG, yH, yI, yJ, yK, yL, yM, yN, yO, yP, yQ, Nat.reduceAdd, yA, yB, yC] at H); simp only [Act.put, yA, yB, yC, yD, yE, yF]) | ((first | ((with_reducible apply st_box (dst := some 3) H); exact nF; intro b3) | ((with_reducible apply st_alloc (dst := some 4) H); exact nF; intro b4)); clear H; intro wn H; simp only [Act.put, yA, yB, yC, yD, yE, yF]))
  refine (Rets.use (cL _ (Src.of HC.out H iF) H.grow.grownBy)).mono ?_; rintro e wn ⟨_, _, rfl, ⟨⟨x0, y0, rfl⟩, rfl⟩, hkk⟩; have Hn := H.moreK (by intro k hk; first | exact absurd hk List.not_mem_nil | (obtain rfl := List.mem_singleton.1 hk; exact In.mem iF)) hkk; clear hkk; clear H; have H := Hn; clear Hn; (try simp only [yT, yV] at H)
  go_wp2_with (first | ((((with_reducible apply st_store H); rfl; exact eF; (focus (exact cells_agg _)); exact uF; kernel_rfl; (focus (exact Nat.le_of_ble_eq_true (by rfl))); (focus (rfl)))); clear H; intro wn H; (try simp only [splice, yG, yH, yI, yJ, yK, yL, yM, yN, yO, yP, yQ, Nat.reduceAdd, yA, yB, yC] at H); simp only [Act.put, yA, yB, yC, yD, yE, yF]) | ((((with_reducible apply st_alloc (dst := some 5) H); exact nF; intro b5)); clear H; intro wn H; simp only [Act.put, yA, yB, yC, yD, yE, yF]))
  refine (Rets.use (n_w 16 (by omega) (Src.of HC.out H iF))).mono ?_; rintro e wn ⟨_, _, rfl, ⟨⟨p, rfl, p0, p1⟩, rfl⟩, hkk⟩; have Hn := H.moreK (by intro k hk; first | exact absurd hk List.not_mem_nil | (obtain rfl := List.mem_singleton.1 hk; exact In.mem iF)) hkk; clear hkk; clear H; have H := Hn; clear Hn; (try simp only [yT, yV] at H)
  go_upto_block 0 with (first | ((first | ((with_reducible refine st_gwT ?_ ?_); rfl) | ((with_reducible refine st_gwF ?_ ?_); rfl) | ((with_reducible refine st_gsT ?_ ?_); rfl) | ((with_reducible refine st_gsF ?_ ?_); rfl)); (try simp only [Act.put, yA, yB, yC, yD, yE, yF])) | ((with_reducible refine' st_guard ?_ ?_ ?_); rotate_left; rfl; (all_goals (intro hgd; cases hgd)); (try simp only [Act.put, yA, yB, yC, yD, yE, yF])) | ((with_reducible apply st_want); rfl) | ((with_reducible refine st_skip ?_ ?_); rfl; simp only [Act.put, yA, yB, yC, yD, yE, yF]) | ((first | ((with_reducible apply st_load1 H); decide +kernel; rfl; exact cF) | ((with_reducible apply st_loads H); decide +kernel; rfl; exact iF; exact zF; rfl) | ((with_reducible apply st_store H); rfl; exact eF; (focus (exact cells_agg _)); exact uF; kernel_rfl; (focus (exact Nat.le_of_ble_eq_true (by rfl))); (focus (first | rfl | simp))) | ((with_reducible apply st_storeown H); rfl; exact eF; (focus (exact (rfl : _ = [_]))); exact uF; (focus omega); kernel_rfl; rfl)); clear H; intro wn H; (try simp only [splice, yG, yH, yI, yJ, yK, yL, yM, yN, yO, yP, yQ, Nat.reduceAdd, yA, yB, yC] at H); simp only [Act.put, yA, yB, yC, yD, yE, yF]) | ((first | ((with_reducible apply st_box (dst := some 3) H); exact nF; intro b3) | ((with_reducible apply st_alloc (dst := some 4) H); exact nF; intro b4) | ((with_reducible apply st_alloc (dst := some 5) H); exact nF; intro b5) | ((with_reducible apply st_strsum H); rfl; rfl; exact szF; kernel_rfl) | ((with_reducible apply st_bslice H); exact nsF; intro nb) | ((with_reducible apply st_loadat H); decide +kernel; rfl; exact aF; exact zF; rfl) | ((with_reducible apply st_storerow H); rfl; exact eF; (first | exact cells_agg _ | exact cellI | exact cellS | exact cellB | exact (rfl : _ = [_])); exact uF; kernel_rfl; exact Nat.succ_pos _; exact fitF; rfl)); clear H; intro wn H; simp only [Act.put, yA, yB, yC, yD, yE, yF]) | fail)
  go_cut [] (fun wr => ∃ (sys : Bool) (l1 l2 k : Int) (ow : ByteArray) (a b c d m1 m2 af : Int), ow.size ≤ 200 ∧ Hs (fun x => x = g) w [Hl.blk b5 26 #[.bool sys, .int .i64 l1, .int .i64 l2, .int .i64 k, .string ow, .int .i64 a, .int .i64 b, .int .i64 c, .int .i64 d, .int .i64 m1, .int .i64 m2, .int .i64 af], Hl.blk b4 26 #[.bool false, .int .i64 0, .int .i64 0, .int .i64 0, .string ⟨#[]⟩, .int .i64 0, .int .i64 0, .int .i64 0, .int .i64 0, .int .i64 0, .int .i64 0, .int .i64 0], Hl.src g v l.length sz] wr)
  case first =>
    have ph : (p = 0 ∨ p = 1 ∨ p = 2 ∨ p = 3) ∨ (p = 4 ∨ p = 5) ∨ (p = 6) ∨ (p = 7 ∨ p = 8) ∨ (p = 9) ∨ (p = 10 ∨ p = 11 ∨ p = 12) ∨ (p = 13) ∨ (p = 14) ∨ (p = 15) := by omega
    clear p0 p1
    rcases ph with ph | ph | ph | ph | ph | ph | ph | ph | ph
    · rcases ph with rfl | rfl | rfl | rfl
      all_goals (
        go_wp2_with (first | ((((with_reducible apply st_store H); rfl; exact eF; (focus (exact cells_agg _)); exact uF; kernel_rfl; (focus (exact Nat.le_of_ble_eq_true (by rfl))); (focus (rfl)))); clear H; intro wn H; (try simp only [splice, yG, yH, yI, yJ, yK, yL, yM, yN, yO, yP, yQ, Nat.reduceAdd, yA, yB, yC] at H); simp only [Act.put, yA, yB, yC, yD, yE, yF]) | ((((with_reducible apply st_bslice H); exact nsF; intro nb)); clear H; intro wn H; simp only [Act.put, yA, yB, yC, yD, yE, yF]))
        refine (Rets.use (pick_w (Src.of HC.out H iF) nb 2 9 #[.string ⟨#[97, 110, 110]⟩, .string ⟨#[98, 111, 98]⟩] [⟨#[97, 110, 110]⟩, ⟨#[98, 111, 98]⟩] (H.sel (M := [Hl.blk nb 9 #[.string ⟨#[97, 110, 110]⟩, .string ⟨#[98, 111, 98]⟩], Hl.src g v l.length sz]) sF).head1 rfl rfl (by omega) (by omega) (apart2 (H.sel (M := [Hl.blk nb 9 #[.string ⟨#[97, 110, 110]⟩, .string ⟨#[98, 111, 98]⟩], Hl.src g v l.length sz]) sF)) annbob)).mono ?_; rintro e wn ⟨_, _, rfl, ⟨⟨ow, rfl, how⟩, rfl⟩, hkk⟩; have Hn := H.moreK (by intro k hk; first | exact absurd hk List.not_mem_nil | (obtain rfl := List.mem_singleton.1 hk; exact In.mem iF)) hkk; clear hkk; clear H; have H := Hn; clear Hn; (try simp only [yT, yV] at H)
        go_wp2_with (((((with_reducible apply st_store H); rfl; exact eF; (focus (exact cells_agg _)); exact uF; kernel_rfl; (focus (exact Nat.le_of_ble_eq_true (by rfl))); (focus (rfl)))); clear H; intro wn H; (try simp only [splice, yG, yH, yI, yJ, yK, yL, yM, yN, yO, yP, yQ, Nat.reduceAdd, yA, yB, yC] at H); simp only [Act.put, yA, yB, yC, yD, yE, yF]))
        refine (Rets.use (n_w 2 (by omega) (Src.of HC.out H iF))).mono ?_; rintro e wn ⟨_, _, rfl, ⟨⟨q1, rfl, q1a, q1b⟩, rfl⟩, hkk⟩; have Hn := H.moreK (by intro k hk; first | exact absurd hk List.not_mem_nil | (obtain rfl := List.mem_singleton.1 hk; exact In.mem iF)) hkk; clear hkk; clear H; have H := Hn; clear Hn; (try simp only [yT, yV] at H)
        have q1c : q1 ≤ 1 := by omega
        go_wp2_with (((((with_reducible apply st_store H); rfl; exact eF; (focus (exact cells_agg _)); exact uF; kernel_rfl; (focus (exact Nat.le_of_ble_eq_true (by rfl))); (focus (rfl)))); clear H; intro wn H; (try simp only [splice, yG, yH, yI, yJ, yK, yL, yM, yN, yO, yP, yQ, Nat.reduceAdd, yA, yB, yC] at H); simp only [Act.put, yA, yB, yC, yD, yE, yF]))
        refine (Rets.use (n_w 5 (by omega) (Src.of HC.out H iF))).mono ?_; rintro e wn ⟨_, _, rfl, ⟨⟨q2, rfl, q2a, q2b⟩, rfl⟩, hkk⟩; have Hn := H.moreK (by intro k hk; first | exact absurd hk List.not_mem_nil | (obtain rfl := List.mem_singleton.1 hk; exact In.mem iF)) hkk; clear hkk; clear H; have H := Hn; clear Hn; (try simp only [yT, yV] at H)
        have q2c : q2 ≤ 4 := by omega
        go_wp2_with (((((with_reducible apply st_store H); rfl; exact eF; (focus (exact cells_agg _)); exact uF; kernel_rfl; (focus (exact Nat.le_of_ble_eq_true (by rfl))); (focus (rfl)))); clear H; intro wn H; (try simp only [splice, yG, yH, yI, yJ, yK, yL, yM, yN, yO, yP, yQ, Nat.reduceAdd, yA, yB, yC] at H); simp only [Act.put, yA, yB, yC, yD, yE, yF]))
        refine (Rets.use (n_w 3 (by omega) (Src.of HC.out H iF))).mono ?_; rintro e wn ⟨_, _, rfl, ⟨⟨q3, rfl, q3a, q3b⟩, rfl⟩, hkk⟩; have Hn := H.moreK (by intro k hk; first | exact absurd hk List.not_mem_nil | (obtain rfl := List.mem_singleton.1 hk; exact In.mem iF)) hkk; clear hkk; clear H; have H := Hn; clear Hn; (try simp only [yT, yV] at H)
        go_wp2_with (((((with_reducible apply st_store H); rfl; exact eF; (focus (exact cells_agg _)); exact uF; kernel_rfl; (focus (exact Nat.le_of_ble_eq_true (by rfl))); (focus (rfl)))); clear H; intro wn H; (try simp only [splice, yG, yH, yI, yJ, yK, yL, yM, yN, yO, yP, yQ, Nat.reduceAdd, yA, yB, yC] at H); simp only [Act.put, yA, yB, yC, yD, yE, yF]))
        refine (Rets.use (n_w 3 (by omega) (Src.of HC.out H iF))).mono ?_; rintro e wn ⟨_, _, rfl, ⟨⟨q4, rfl, q4a, q4b⟩, rfl⟩, hkk⟩; have Hn := H.moreK (by intro k hk; first | exact absurd hk List.not_mem_nil | (obtain rfl := List.mem_singleton.1 hk; exact In.mem iF)) hkk; clear hkk; clear H; have H := Hn; clear Hn; (try simp only [yT, yV] at H)
        have q4c : q4 ≤ 2 := by omega
        have q4d : 0 ≤ q4 / 2 := by omega
        have q4e : q4 / 2 ≤ 1 := by omega
        go_wp2_with (((((with_reducible apply st_store H); rfl; exact eF; (focus (exact cells_agg _)); exact uF; kernel_rfl; (focus (exact Nat.le_of_ble_eq_true (by rfl))); (focus (rfl)))); clear H; intro wn H; (try simp only [splice, yG, yH, yI, yJ, yK, yL, yM, yN, yO, yP, yQ, Nat.reduceAdd, yA, yB, yC] at H); simp only [Act.put, yA, yB, yC, yD, yE, yF]))
        refine (Rets.use (one_w 4 (by omega) (Src.of HC.out H iF))).mono ?_; rintro e wn ⟨_, _, rfl, ⟨⟨b, rfl⟩, rfl⟩, hkk⟩; have Hn := H.moreK (by intro k hk; first | exact absurd hk List.not_mem_nil | (obtain rfl := List.mem_singleton.1 hk; exact In.mem iF)) hkk; clear hkk; clear H; have H := Hn; clear Hn; (try simp only [yT, yV] at H)
        cases b
        case false =>
          go_wp2_with (fail)
          go_meet
          case rel =>
            refine ⟨_, _, _, _, _, _, _, _, _, _, _, _, ?_, H.sel sF⟩
            first | exact Nat.zero_le _ | assumption | omega
        case true =>
          go_wp2_with (((((with_reducible apply st_loads H); decide +kernel; rfl; exact iF; exact zF; rfl)); clear H; intro wn H; (try simp only [splice, yG, yH, yI, yJ, yK, yL, yM, yN, yO, yP, yQ, Nat.reduceAdd, yA, yB, yC] at H); simp only [Act.put, yA, yB, yC, yD, yE, yF]))
          refine (Rets.use (cL _ (Src.of HC.out H iF) H.grow.grownBy)).mono ?_; rintro e wn ⟨_, _, rfl, ⟨⟨x1, y1, rfl⟩, rfl⟩, hkk⟩; have Hn := H.moreK (by intro k hk; first | exact absurd hk List.not_mem_nil | (obtain rfl := List.mem_singleton.1 hk; exact In.mem iF)) hkk; clear hkk; clear H; have H := Hn; clear Hn; (try simp only [yT, yV] at H)
          go_wp2_with (((((with_reducible apply st_store H); rfl; exact eF; (focus (exact cells_agg _)); exact uF; kernel_rfl; (focus (exact Nat.le_of_ble_eq_true (by rfl))); (focus (rfl)))); clear H; intro wn H; (try simp only [splice, yG, yH, yI, yJ, yK, yL, yM, yN, yO, yP, yQ, Nat.reduceAdd, yA, yB, yC] at H); simp only [Act.put, yA, yB, yC, yD, yE, yF]))
          refine (Rets.use (n_w 3 (by omega) (Src.of HC.out H iF))).mono ?_; rintro e wn ⟨_, _, rfl, ⟨⟨q5, rfl, q5a, q5b⟩, rfl⟩, hkk⟩; have Hn := H.moreK (by intro k hk; first | exact absurd hk List.not_mem_nil | (obtain rfl := List.mem_singleton.1 hk; exact In.mem iF)) hkk; clear hkk; clear H; have H := Hn; clear Hn; (try simp only [yT, yV] at H)
          have q5c : q5 ≤ 2 := by omega
          go_wp2_with (((((with_reducible apply st_store H); rfl; exact eF; (focus (exact cells_agg _)); exact uF; kernel_rfl; (focus (exact Nat.le_of_ble_eq_true (by rfl))); (focus (rfl)))); clear H; intro wn H; (try simp only [splice, yG, yH, yI, yJ, yK, yL, yM, yN, yO, yP, yQ, Nat.reduceAdd, yA, yB, yC] at H); simp only [Act.put, yA, yB, yC, yD, yE, yF]))
          go_meet
          case rel =>
            refine ⟨_, _, _, _, _, _, _, _, _, _, _, _, ?_, H.sel sF⟩
            first | exact Nat.zero_le _ | assumption | omega)
    · rcases ph with rfl | rfl
      all_goals (
        go_wp2_with (fail)
        refine (Rets.use (n_w 4 (by omega) (Src.of HC.out H iF))).mono ?_; rintro e wn ⟨_, _, rfl, ⟨⟨q1, rfl, q1a, q1b⟩, rfl⟩, hkk⟩; have Hn := H.moreK (by intro k hk; first | exact absurd hk List.not_mem_nil | (obtain rfl := List.mem_singleton.1 hk; exact In.mem iF)) hkk; clear hkk; clear H; have H := Hn; clear Hn; (try simp only [yT, yV] at H)
        have q1c : q1 ≤ 3 := by omega
        go_wp2_with (((((with_reducible apply st_store H); rfl; exact eF; (focus (exact cells_agg _)); exact uF; kernel_rfl; (focus (exact Nat.le_of_ble_eq_true (by rfl))); (focus (rfl)))); clear H; intro wn H; (try simp only [splice, yG, yH, yI, yJ, yK, yL, yM, yN, yO, yP, yQ, Nat.reduceAdd, yA, yB, yC] at H); simp only [Act.put, yA, yB, yC, yD, yE, yF]))
        refine (Rets.use (n_w 3 (by omega) (Src.of HC.out H iF))).mono ?_; rintro e wn ⟨_, _, rfl, ⟨⟨q2, rfl, q2a, q2b⟩, rfl⟩, hkk⟩; have Hn := H.moreK (by intro k hk; first | exact absurd hk List.not_mem_nil | (obtain rfl := List.mem_singleton.1 hk; exact In.mem iF)) hkk; clear hkk; clear H; have H := Hn; clear Hn; (try simp only [yT, yV] at H)
        have q2c : q2 ≤ 2 := by omega
        go_wp2_with (((((with_reducible apply st_store H); rfl; exact eF; (focus (exact cells_agg _)); exact uF; kernel_rfl; (focus (exact Nat.le_of_ble_eq_true (by rfl))); (focus (rfl)))); clear H; intro wn H; (try simp only [splice, yG, yH, yI, yJ, yK, yL, yM, yN, yO, yP, yQ, Nat.reduceAdd, yA, yB, yC] at H); simp only [Act.put, yA, yB, yC, yD, yE, yF]))
        go_meet
        case rel =>
          refine ⟨_, _, _, _, _, _, _, _, _, _, _, _, ?_, H.sel sF⟩
          first | exact Nat.zero_le _ | assumption | omega)
    · subst ph
      all_goals (
        go_wp2_with (((((with_reducible apply st_store H); rfl; exact eF; (focus (exact cells_agg _)); exact uF; kernel_rfl; (focus (exact Nat.le_of_ble_eq_true (by rfl))); (focus (rfl)))); clear H; intro wn H; (try simp only [splice, yG, yH, yI, yJ, yK, yL, yM, yN, yO, yP, yQ, Nat.reduceAdd, yA, yB, yC] at H); simp only [Act.put, yA, yB, yC, yD, yE, yF]))
        refine (Rets.use (n_w 3 (by omega) (Src.of HC.out H iF))).mono ?_; rintro e wn ⟨_, _, rfl, ⟨⟨q1, rfl, q1a, q1b⟩, rfl⟩, hkk⟩; have Hn := H.moreK (by intro k hk; first | exact absurd hk List.not_mem_nil | (obtain rfl := List.mem_singleton.1 hk; exact In.mem iF)) hkk; clear hkk; clear H; have H := Hn; clear Hn; (try simp only [yT, yV] at H)
        have q1c : q1 ≤ 2 := by omega
        go_wp2_with (((((with_reducible apply st_store H); rfl; exact eF; (focus (exact cells_agg _)); exact uF; kernel_rfl; (focus (exact Nat.le_of_ble_eq_true (by rfl))); (focus (rfl)))); clear H; intro wn H; (try simp only [splice, yG, yH, yI, yJ, yK, yL, yM, yN, yO, yP, yQ, Nat.reduceAdd, yA, yB, yC] at H); simp only [Act.put, yA, yB, yC, yD, yE, yF]))
        refine (Rets.use (n_w 2 (by omega) (Src.of HC.out H iF))).mono ?_; rintro e wn ⟨_, _, rfl, ⟨⟨q2, rfl, q2a, q2b⟩, rfl⟩, hkk⟩; have Hn := H.moreK (by intro k hk; first | exact absurd hk List.not_mem_nil | (obtain rfl := List.mem_singleton.1 hk; exact In.mem iF)) hkk; clear hkk; clear H; have H := Hn; clear Hn; (try simp only [yT, yV] at H)
        have q2c : q2 ≤ 1 := by omega
        go_wp2_with (((((with_reducible apply st_store H); rfl; exact eF; (focus (exact cells_agg _)); exact uF; kernel_rfl; (focus (exact Nat.le_of_ble_eq_true (by rfl))); (focus (rfl)))); clear H; intro wn H; (try simp only [splice, yG, yH, yI, yJ, yK, yL, yM, yN, yO, yP, yQ, Nat.reduceAdd, yA, yB, yC] at H); simp only [Act.put, yA, yB, yC, yD, yE, yF]))
        refine (Rets.use (n_w 5 (by omega) (Src.of HC.out H iF))).mono ?_; rintro e wn ⟨_, _, rfl, ⟨⟨q3, rfl, q3a, q3b⟩, rfl⟩, hkk⟩; have Hn := H.moreK (by intro k hk; first | exact absurd hk List.not_mem_nil | (obtain rfl := List.mem_singleton.1 hk; exact In.mem iF)) hkk; clear hkk; clear H; have H := Hn; clear Hn; (try simp only [yT, yV] at H)
        have q3c : q3 ≤ 4 := by omega
        go_wp2_with (((((with_reducible apply st_store H); rfl; exact eF; (focus (exact cells_agg _)); exact uF; kernel_rfl; (focus (exact Nat.le_of_ble_eq_true (by rfl))); (focus (rfl)))); clear H; intro wn H; (try simp only [splice, yG, yH, yI, yJ, yK, yL, yM, yN, yO, yP, yQ, Nat.reduceAdd, yA, yB, yC] at H); simp only [Act.put, yA, yB, yC, yD, yE, yF]))
        refine (Rets.use (n_w 4 (by omega) (Src.of HC.out H iF))).mono ?_; rintro e wn ⟨_, _, rfl, ⟨⟨q4, rfl, q4a, q4b⟩, rfl⟩, hkk⟩; have Hn := H.moreK (by intro k hk; first | exact absurd hk List.not_mem_nil | (obtain rfl := List.mem_singleton.1 hk; exact In.mem iF)) hkk; clear hkk; clear H; have H := Hn; clear Hn; (try simp only [yT, yV] at H)
        go_wp2_with (((((with_reducible apply st_store H); rfl; exact eF; (focus (exact cells_agg _)); exact uF; kernel_rfl; (focus (exact Nat.le_of_ble_eq_true (by rfl))); (focus (rfl)))); clear H; intro wn H; (try simp only [splice, yG, yH, yI, yJ, yK, yL, yM, yN, yO, yP, yQ, Nat.reduceAdd, yA, yB, yC] at H); simp only [Act.put, yA, yB, yC, yD, yE, yF]))
        go_meet
        case rel =>
          refine ⟨_, _, _, _, _, _, _, _, _, _, _, _, ?_, H.sel sF⟩
          first | exact Nat.zero_le _ | assumption | omega)
    · rcases ph with rfl | rfl
      all_goals (
        go_wp2_with (((((with_reducible apply st_store H); rfl; exact eF; (focus (exact cells_agg _)); exact uF; kernel_rfl; (focus (exact Nat.le_of_ble_eq_true (by rfl))); (focus (rfl)))); clear H; intro wn H; (try simp only [splice, yG, yH, yI, yJ, yK, yL, yM, yN, yO, yP, yQ, Nat.reduceAdd, yA, yB, yC] at H); simp only [Act.put, yA, yB, yC, yD, yE, yF]))
        refine (Rets.use (n_w 100 (by omega) (Src.of HC.out H iF))).mono ?_; rintro e wn ⟨_, _, rfl, ⟨⟨q1, rfl, q1a, q1b⟩, rfl⟩, hkk⟩; have Hn := H.moreK (by intro k hk; first | exact absurd hk List.not_mem_nil | (obtain rfl := List.mem_singleton.1 hk; exact In.mem iF)) hkk; clear hkk; clear H; have H := Hn; clear Hn; (try simp only [yT, yV] at H)
        go_wp2_with (((first | ((with_reducible apply st_loads H); decide +kernel; rfl; exact iF; exact zF; rfl) | ((with_reducible apply st_store H); rfl; exact eF; (focus (exact cells_agg _)); exact uF; kernel_rfl; (focus (exact Nat.le_of_ble_eq_true (by rfl))); (focus (rfl)))); clear H; intro wn H; (try simp only [splice, yG, yH, yI, yJ, yK, yL, yM, yN, yO, yP, yQ, Nat.reduceAdd, yA, yB, yC] at H); simp only [Act.put, yA, yB, yC, yD, yE, yF]))
        refine (Rets.use (cL _ (Src.of HC.out H iF) H.grow.grownBy)).mono ?_; rintro e wn ⟨_, _, rfl, ⟨⟨x1, y1, rfl⟩, rfl⟩, hkk⟩; have Hn := H.moreK (by intro k hk; first | exact absurd hk List.not_mem_nil | (obtain rfl := List.mem_singleton.1 hk; exact In.mem iF)) hkk; clear hkk; clear H; have H := Hn; clear Hn; (try simp only [yT, yV] at H)
        by_cases h02 : 0 < n2
        rotate_left
        · have h00 : ¬ (0 : Int) < n2 := by omega
          go_wp2_with (((first | ((with_reducible apply st_load1 H); decide +kernel; rfl; exact cF) | ((with_reducible apply st_store H); rfl; exact eF; (focus (exact cells_agg _)); exact uF; kernel_rfl; (focus (exact Nat.le_of_ble_eq_true (by rfl))); (focus (rfl)))); clear H; intro wn H; (try simp only [splice, yG, yH, yI, yJ, yK, yL, yM, yN, yO, yP, yQ, Nat.reduceAdd, yA, yB, yC] at H); simp only [Act.put, yA, yB, yC, yD, yE, yF]))
          go_meet
          case rel =>
            refine ⟨_, _, _, _, _, _, _, _, _, _, _, _, ?_, H.sel sF⟩
            first | exact Nat.zero_le _ | assumption | omega
        have h01 : (0 : Int) < n2 := by omega
        obtain ⟨bB, oB, rfl⟩ := cfg_pairs (HR.out w (gr_refl w _)) h02
        go_wp2_with (first | ((((with_reducible refine st_gwT ?_ ?_); rfl)); (try simp only [Act.put, yA, yB, yC, yD, yE, yF])) | ((first | ((with_reducible apply st_load1 H); decide +kernel; rfl; exact cF) | ((with_reducible apply st_store H); rfl; exact eF; (focus (exact cells_agg _)); exact uF; kernel_rfl; (focus (exact Nat.le_of_ble_eq_true (by rfl))); (focus (rfl)))); clear H; intro wn H; (try simp only [splice, yG, yH, yI, yJ, yK, yL, yM, yN, yO, yP, yQ, Nat.reduceAdd, yA, yB, yC] at H); simp only [Act.put, yA, yB, yC, yD, yE, yF]))
        refine (Rets.use (one_w 4 (by omega) (Src.of HC.out H iF))).mono ?_; rintro e wn ⟨_, _, rfl, ⟨⟨b, rfl⟩, rfl⟩, hkk⟩; have Hn := H.moreK (by intro k hk; first | exact absurd hk List.not_mem_nil | (obtain rfl := List.mem_singleton.1 hk; exact In.mem iF)) hkk; clear hkk; clear H; have H := Hn; clear Hn; (try simp only [yT, yV] at H)
        cases b
        case true =>
          go_wp2_with (((((with_reducible refine st_gwT ?_ ?_); rfl)); (try simp only [Act.put, yA, yB, yC, yD, yE, yF])))
          go_meet
          case rel =>
            refine ⟨_, _, _, _, _, _, _, _, _, _, _, _, ?_, H.sel sF⟩
            first | exact Nat.zero_le _ | assumption | omega
        go_wp2_with (((((with_reducible refine st_gwT ?_ ?_); rfl)); (try simp only [Act.put, yA, yB, yC, yD, yE, yF])))
        apply wp_region_hs (K := [Hl.src g v l.length sz]) (Spec.V _ :: Spec.V _ :: Spec.V _ :: Spec.V _ :: Spec.V _ :: Spec.V _ :: Spec.I _ :: Spec.V _ :: Spec.V _ :: Spec.N _ _ :: []) 10 H rfl (by intro k hk; obtain rfl := List.mem_singleton.1 hk; exact In.mem iF) (by kernel_rfl) (by kernel_rfl); intro vs Ls; (iterate 6 ((with_reducible apply wpH_V); (focus rfl); (focus rfl); (focus (intro w1 H1; exact oF)); simp only [Act.put, yA, yB, yC, yD, yE, yF]; (try simp only [yG, yH, yJ, yK]))); (with_reducible apply wpH_I); (focus rfl); (focus rfl); (focus (intro hk w1 H1; unfold OpOk; go_simp; exact now_call (n_w n2 (by omega) (Src.of HC.out H1 iF)))); simp only [Act.put, yA, yB, yC, yD, yE, yF]; (with_reducible apply wpH_VK); (focus rfl); (focus rfl); (focus (intro hk w1 H1; have q6 := okI (hk 6 (by decide +kernel) (by decide)) rfl; obtain ⟨qa, qb⟩ := q6; have qc : intOf' (vs 6) < n2 := (by omega); unfold OpOk; go_simp; exact now_v)); simp only [Act.put, yA, yB, yC, yD, yE, yF]; (with_reducible apply wpH_VK); (focus rfl); (focus rfl); (focus (intro hk w1 H1; have q6 := okI (hk 6 (by decide +kernel) (by decide)) rfl; obtain ⟨qa, qb⟩ := q6; exact ok_prload (HR.out _ H1.grow.grownBy) HN2.out (intOf' (vs 6)) qa (by omega) rfl)); simp only [Act.put, yA, yB, yC, yD, yE, yF]; (with_reducible apply wpH_N); (focus rfl); (focus rfl); (focus (intro w1 H1; exact nF)); intro g9 hg9; simp only [Act.put, yA, yB, yC, yD, yE, yF]; refine wpH_0 ?_; intro hok wn Hn; (try simp only [yT, yU, yV, yW] at Hn); clear H; have H := Hn; clear Hn; (try simp only [← hg9]); clear hg9; have q6 := okI (hok 6 (by decide)) rfl; clear hok; (obtain ⟨n6, en⟩ : ∃ n, n = intOf' (vs 6) := ⟨_, rfl⟩; (try simp only [← en] at H q6 ⊢); clear en); rotate_left; (focus (refine locs ?_; intro vs1 vs2; (iterate 10 (refine all_lt_succ ?_ (by first | exact (fun _ => rfl) | exact (fun _ => ⟨rfl, rfl⟩) | (intro h; simp only [spec, Spec.same, yR, yS, Option.getD_some]; (try rw [h 6 (by decide +kernel)]); (try rw [h 9 (by decide +kernel)]); (first | done | exact ⟨rfl, rfl⟩ | exact ⟨trivial, rfl⟩ | exact ⟨rfl, trivial⟩))))); exact (fun k hk => absurd hk (Nat.not_lt_zero k))))
        obtain ⟨z1, z2, z3, z4, z5, hz⟩ := prV_form pr n6
        rw [hz]
        clear hz
        go_wp2_with (((first | ((with_reducible apply st_loads H); decide +kernel; rfl; exact iF; exact zF; rfl) | ((with_reducible apply st_store H); rfl; exact eF; (focus (exact cells_agg _)); exact uF; kernel_rfl; (focus (exact Nat.le_of_ble_eq_true (by rfl))); (focus (rfl)))); clear H; intro wn H; (try simp only [splice, yG, yH, yI, yJ, yK, yL, yM, yN, yO, yP, yQ, Nat.reduceAdd, yA, yB, yC] at H); simp only [Act.put, yA, yB, yC, yD, yE, yF]))
        go_meet
        case rel =>
          refine ⟨_, _, _, _, _, _, _, _, _, _, _, _, ?_, H.sel sF⟩
          first | exact Nat.zero_le _ | assumption | omega)
    · subst ph
      all_goals (
        go_wp2_with (fail)
        refine (Rets.use (n_w 4 (by omega) (Src.of HC.out H iF))).mono ?_; rintro e wn ⟨_, _, rfl, ⟨⟨q1, rfl, q1a, q1b⟩, rfl⟩, hkk⟩; have Hn := H.moreK (by intro k hk; first | exact absurd hk List.not_mem_nil | (obtain rfl := List.mem_singleton.1 hk; exact In.mem iF)) hkk; clear hkk; clear H; have H := Hn; clear Hn; (try simp only [yT, yV] at H)
        have q1c : q1 ≤ 3 := by omega
        go_wp2_with (((((with_reducible apply st_store H); rfl; exact eF; (focus (exact cells_agg _)); exact uF; kernel_rfl; (focus (exact Nat.le_of_ble_eq_true (by rfl))); (focus (rfl)))); clear H; intro wn H; (try simp only [splice, yG, yH, yI, yJ, yK, yL, yM, yN, yO, yP, yQ, Nat.reduceAdd, yA, yB, yC] at H); simp only [Act.put, yA, yB, yC, yD, yE, yF]))
        go_meet
        case rel =>
          refine ⟨_, _, _, _, _, _, _, _, _, _, _, _, ?_, H.sel sF⟩
          first | exact Nat.zero_le _ | assumption | omega)
    · rcases ph with rfl | rfl | rfl
      all_goals (
        go_wp2_with (((((with_reducible apply st_store H); rfl; exact eF; (focus (exact cells_agg _)); exact uF; kernel_rfl; (focus (exact Nat.le_of_ble_eq_true (by rfl))); (focus (rfl)))); clear H; intro wn H; (try simp only [splice, yG, yH, yI, yJ, yK, yL, yM, yN, yO, yP, yQ, Nat.reduceAdd, yA, yB, yC] at H); simp only [Act.put, yA, yB, yC, yD, yE, yF]))
        go_meet
        case rel =>
          refine ⟨_, _, _, _, _, _, _, _, _, _, _, _, ?_, H.sel sF⟩
          first | exact Nat.zero_le _ | assumption | omega)
    · subst ph
      all_goals (
        go_wp2_with (fail)
        refine (Rets.use (n_w 3 (by omega) (Src.of HC.out H iF))).mono ?_; rintro e wn ⟨_, _, rfl, ⟨⟨q1, rfl, q1a, q1b⟩, rfl⟩, hkk⟩; have Hn := H.moreK (by intro k hk; first | exact absurd hk List.not_mem_nil | (obtain rfl := List.mem_singleton.1 hk; exact In.mem iF)) hkk; clear hkk; clear H; have H := Hn; clear Hn; (try simp only [yT, yV] at H)
        go_wp2_with (fail)
        refine (Rets.use (n_w 3 (by omega) (Src.of HC.out H iF))).mono ?_; rintro e wn ⟨_, _, rfl, ⟨⟨q2, rfl, q2a, q2b⟩, rfl⟩, hkk⟩; have Hn := H.moreK (by intro k hk; first | exact absurd hk List.not_mem_nil | (obtain rfl := List.mem_singleton.1 hk; exact In.mem iF)) hkk; clear hkk; clear H; have H := Hn; clear Hn; (try simp only [yT, yV] at H)
        have q2c : q2 ≤ 2 := by omega
        go_wp2_with (((((with_reducible apply st_store H); rfl; exact eF; (focus (exact cells_agg _)); exact uF; kernel_rfl; (focus (exact Nat.le_of_ble_eq_true (by rfl))); (focus (rfl)))); clear H; intro wn H; (try simp only [splice, yG, yH, yI, yJ, yK, yL, yM, yN, yO, yP, yQ, Nat.reduceAdd, yA, yB, yC] at H); simp only [Act.put, yA, yB, yC, yD, yE, yF]))
        go_meet
        case rel =>
          refine ⟨_, _, _, _, _, _, _, _, _, _, _, _, ?_, H.sel sF⟩
          first | exact Nat.zero_le _ | assumption | omega)
    · subst ph
      all_goals (
        go_wp2_with (fail)
        refine (Rets.use (n_w 12 (by omega) (Src.of HC.out H iF))).mono ?_; rintro e wn ⟨_, _, rfl, ⟨⟨q1, rfl, q1a, q1b⟩, rfl⟩, hkk⟩; have Hn := H.moreK (by intro k hk; first | exact absurd hk List.not_mem_nil | (obtain rfl := List.mem_singleton.1 hk; exact In.mem iF)) hkk; clear hkk; clear H; have H := Hn; clear Hn; (try simp only [yT, yV] at H)
        have q1c : q1 ≤ 11 := by omega
        go_wp2_with (fail)
        refine (Rets.use (n_w 3 (by omega) (Src.of HC.out H iF))).mono ?_; rintro e wn ⟨_, _, rfl, ⟨⟨q2, rfl, q2a, q2b⟩, rfl⟩, hkk⟩; have Hn := H.moreK (by intro k hk; first | exact absurd hk List.not_mem_nil | (obtain rfl := List.mem_singleton.1 hk; exact In.mem iF)) hkk; clear hkk; clear H; have H := Hn; clear Hn; (try simp only [yT, yV] at H)
        go_wp2_with (fail)
        refine (Rets.use (n_w 4 (by omega) (Src.of HC.out H iF))).mono ?_; rintro e wn ⟨_, _, rfl, ⟨⟨q3, rfl, q3a, q3b⟩, rfl⟩, hkk⟩; have Hn := H.moreK (by intro k hk; first | exact absurd hk List.not_mem_nil | (obtain rfl := List.mem_singleton.1 hk; exact In.mem iF)) hkk; clear hkk; clear H; have H := Hn; clear Hn; (try simp only [yT, yV] at H)
        have q3c : q3 ≤ 3 := by omega
        go_wp2_with (((((with_reducible apply st_store H); rfl; exact eF; (focus (exact cells_agg _)); exact uF; kernel_rfl; (focus (exact Nat.le_of_ble_eq_true (by rfl))); (focus (rfl)))); clear H; intro wn H; (try simp only [splice, yG, yH, yI, yJ, yK, yL, yM, yN, yO, yP, yQ, Nat.reduceAdd, yA, yB, yC] at H); simp only [Act.put, yA, yB, yC, yD, yE, yF]))
        refine (Rets.use (one_w 3 (by omega) (Src.of HC.out H iF))).mono ?_; rintro e wn ⟨_, _, rfl, ⟨⟨b, rfl⟩, rfl⟩, hkk⟩; have Hn := H.moreK (by intro k hk; first | exact absurd hk List.not_mem_nil | (obtain rfl := List.mem_singleton.1 hk; exact In.mem iF)) hkk; clear hkk; clear H; have H := Hn; clear Hn; (try simp only [yT, yV] at H)
        cases b
        case false =>
          go_wp2_with (fail)
          go_meet
          case rel =>
            refine ⟨_, _, _, _, _, _, _, _, _, _, _, _, ?_, H.sel sF⟩
            first | exact Nat.zero_le _ | assumption | omega
        case true =>
          go_wp2_with (fail)
          refine (Rets.use (n_w 3 (by omega) (Src.of HC.out H iF))).mono ?_; rintro e wn ⟨_, _, rfl, ⟨⟨q4, rfl, q4a, q4b⟩, rfl⟩, hkk⟩; have Hn := H.moreK (by intro k hk; first | exact absurd hk List.not_mem_nil | (obtain rfl := List.mem_singleton.1 hk; exact In.mem iF)) hkk; clear hkk; clear H; have H := Hn; clear Hn; (try simp only [yT, yV] at H)
          go_wp2_with (((((with_reducible apply st_store H); rfl; exact eF; (focus (exact cells_agg _)); exact uF; kernel_rfl; (focus (exact Nat.le_of_ble_eq_true (by rfl))); (focus (rfl)))); clear H; intro wn H; (try simp only [splice, yG, yH, yI, yJ, yK, yL, yM, yN, yO, yP, yQ, Nat.reduceAdd, yA, yB, yC] at H); simp only [Act.put, yA, yB, yC, yD, yE, yF]))
          go_meet
          case rel =>
            refine ⟨_, _, _, _, _, _, _, _, _, _, _, _, ?_, H.sel sF⟩
            first | exact Nat.zero_le _ | assumption | omega)
    · subst ph
      all_goals (
        go_wp2_with (((((with_reducible apply st_store H); rfl; exact eF; (focus (exact cells_agg _)); exact uF; kernel_rfl; (focus (exact Nat.le_of_ble_eq_true (by rfl))); (focus (rfl)))); clear H; intro wn H; (try simp only [splice, yG, yH, yI, yJ, yK, yL, yM, yN, yO, yP, yQ, Nat.reduceAdd, yA, yB, yC] at H); simp only [Act.put, yA, yB, yC, yD, yE, yF]))
        refine (Rets.use (one_w 2 (by omega) (Src.of HC.out H iF))).mono ?_; rintro e wn ⟨_, _, rfl, ⟨⟨b, rfl⟩, rfl⟩, hkk⟩; have Hn := H.moreK (by intro k hk; first | exact absurd hk List.not_mem_nil | (obtain rfl := List.mem_singleton.1 hk; exact In.mem iF)) hkk; clear hkk; clear H; have H := Hn; clear Hn; (try simp only [yT, yV] at H)
        cases b
        case false =>
          go_wp2_with (fail)
          go_meet
          case rel =>
            refine ⟨_, _, _, _, _, _, _, _, _, _, _, _, ?_, H.sel sF⟩
            first | exact Nat.zero_le _ | assumption | omega
        case true =>
          go_wp2_with (fail)
          refine (Rets.use (n_w 3 (by omega) (Src.of HC.out H iF))).mono ?_; rintro e wn ⟨_, _, rfl, ⟨⟨q1, rfl, q1a, q1b⟩, rfl⟩, hkk⟩; have Hn := H.moreK (by intro k hk; first | exact absurd hk List.not_mem_nil | (obtain rfl := List.mem_singleton.1 hk; exact In.mem iF)) hkk; clear hkk; clear H; have H := Hn; clear Hn; (try simp only [yT, yV] at H)
          go_wp2_with (fail)
          refine (Rets.use (n_w 50 (by omega) (Src.of HC.out H iF))).mono ?_; rintro e wn ⟨_, _, rfl, ⟨⟨q2, rfl, q2a, q2b⟩, rfl⟩, hkk⟩; have Hn := H.moreK (by intro k hk; first | exact absurd hk List.not_mem_nil | (obtain rfl := List.mem_singleton.1 hk; exact In.mem iF)) hkk; clear hkk; clear H; have H := Hn; clear Hn; (try simp only [yT, yV] at H)
          go_wp2_with (((((with_reducible apply st_store H); rfl; exact eF; (focus (exact cells_agg _)); exact uF; kernel_rfl; (focus (exact Nat.le_of_ble_eq_true (by rfl))); (focus (rfl)))); clear H; intro wn H; (try simp only [splice, yG, yH, yI, yJ, yK, yL, yM, yN, yO, yP, yQ, Nat.reduceAdd, yA, yB, yC] at H); simp only [Act.put, yA, yB, yC, yD, yE, yF]))
          go_meet
          case rel =>
            refine ⟨_, _, _, _, _, _, _, _, _, _, _, _, ?_, H.sel sF⟩
            first | exact Nat.zero_le _ | assumption | omega)
  case rest =>
    clear H
    obtain ⟨sys, l1, l2, k, ow, a, b, c, d, m1, m2, af, how, H⟩ := hcut
    go_wp2_with (fail)
    refine (Rets.use (one_w 40 (by omega) (Src.of HC.out H iF))).mono ?_; rintro e wn ⟨_, _, rfl, ⟨⟨bb, rfl⟩, rfl⟩, hkk⟩; have Hn := H.moreK (by intro k hk; first | exact absurd hk List.not_mem_nil | (obtain rfl := List.mem_singleton.1 hk; exact In.mem iF)) hkk; clear hkk; clear H; have H := Hn; clear Hn; (try simp only [yT, yV] at H)
    cases bb
    case false =>
      go_wp2_with (((first | ((with_reducible apply st_loads H); decide +kernel; rfl; exact iF; exact zF; rfl) | ((with_reducible apply st_store H); rfl; exact eF; (focus (exact cells_agg _)); exact uF; kernel_rfl; (focus (exact Nat.le_of_ble_eq_true (by rfl))); (focus (rfl)))); clear H; intro wn H; (try simp only [splice, yG, yH, yI, yJ, yK, yL, yM, yN, yO, yP, yQ, Nat.reduceAdd, yA, yB, yC] at H); simp only [Act.put, yA, yB, yC, yD, yE, yF]))
      refine bp_cell H rfl rfl iF (by kernel_rfl) (by kernel_rfl) rfl (by first | exact .inl rfl | exact .inr rfl) ?_
      exact Hs.ret (M := []) (H.sel (M := [Hl.src g v l.length sz]) sF) ⟨⟨_, _, _, _, _, _, _, _, _, _, _, _, rfl, by assumption⟩, rfl⟩
    go_wp2_with (fail)
    refine (Rets.use (n_w 5 (by omega) (Src.of HC.out H iF))).mono ?_; rintro e wn ⟨_, _, rfl, ⟨⟨q, rfl, qa, qb⟩, rfl⟩, hkk⟩; have Hn := H.moreK (by intro k hk; first | exact absurd hk List.not_mem_nil | (obtain rfl := List.mem_singleton.1 hk; exact In.mem iF)) hkk; clear hkk; clear H; have H := Hn; clear Hn; (try simp only [yT, yV] at H)
    have q2 : q = 0 ∨ q = 1 ∨ q = 2 ∨ q = 3 ∨ q = 4 := by omega
    clear qa qb
    rcases q2 with rfl | rfl | rfl | rfl | rfl
    · go_wp2_with (fail)
      refine (Rets.use (n_w 20 (by omega) (Src.of HC.out H iF))).mono ?_; rintro e wn ⟨_, _, rfl, ⟨⟨p, rfl, pa, pb⟩, rfl⟩, hkk⟩; have Hn := H.moreK (by intro k hk; first | exact absurd hk List.not_mem_nil | (obtain rfl := List.mem_singleton.1 hk; exact In.mem iF)) hkk; clear hkk; clear H; have H := Hn; clear Hn; (try simp only [yT, yV] at H)
      have pc : p ≤ 19 := by omega
      go_wp2_with (((first | ((with_reducible apply st_loads H); decide +kernel; rfl; exact iF; exact zF; rfl) | ((with_reducible apply st_store H); rfl; exact eF; (focus (exact cells_agg _)); exact uF; kernel_rfl; (focus (exact Nat.le_of_ble_eq_true (by rfl))); (focus (rfl)))); clear H; intro wn H; (try simp only [splice, yG, yH, yI, yJ, yK, yL, yM, yN, yO, yP, yQ, Nat.reduceAdd, yA, yB, yC] at H); simp only [Act.put, yA, yB, yC, yD, yE, yF]))
      refine bp_cell H rfl rfl iF (by kernel_rfl) (by kernel_rfl) rfl (by first | exact .inl rfl | exact .inr rfl) ?_
      exact Hs.ret (M := []) (H.sel (M := [Hl.src g v l.length sz]) sF) ⟨⟨_, _, _, _, _, _, _, _, _, _, _, _, rfl, by assumption⟩, rfl⟩
    · go_wp2_with (fail)
      refine (Rets.use (edge_w2 (Src.of HC.out H iF))).mono ?_; rintro e wn ⟨_, _, rfl, ⟨⟨z, rfl, za, zb⟩, rfl⟩, hkk⟩; have Hn := H.moreK (by intro k hk; first | exact absurd hk List.not_mem_nil | (obtain rfl := List.mem_singleton.1 hk; exact In.mem iF)) hkk; clear hkk; clear H; have H := Hn; clear Hn; (try simp only [yT, yV] at H)
      go_wp2_with (((first | ((with_reducible apply st_loads H); decide +kernel; rfl; exact iF; exact zF; rfl) | ((with_reducible apply st_store H); rfl; exact eF; (focus (exact cells_agg _)); exact uF; kernel_rfl; (focus (exact Nat.le_of_ble_eq_true (by rfl))); (focus (rfl)))); clear H; intro wn H; (try simp only [splice, yG, yH, yI, yJ, yK, yL, yM, yN, yO, yP, yQ, Nat.reduceAdd, yA, yB, yC] at H); simp only [Act.put, yA, yB, yC, yD, yE, yF]))
      refine bp_cell H rfl rfl iF (by kernel_rfl) (by kernel_rfl) rfl (by first | exact .inl rfl | exact .inr rfl) ?_
      exact Hs.ret (M := []) (H.sel (M := [Hl.src g v l.length sz]) sF) ⟨⟨_, _, _, _, _, _, _, _, _, _, _, _, rfl, by assumption⟩, rfl⟩
    · go_wp2_with (fail)
      clear how
      refine (Rets.use (name_w (Src.of HC.out H iF))).mono ?_; rintro e wn ⟨_, _, rfl, ⟨⟨ow, rfl, how⟩, rfl⟩, hkk⟩; have Hn := H.moreK (by intro k hk; first | exact absurd hk List.not_mem_nil | (obtain rfl := List.mem_singleton.1 hk; exact In.mem iF)) hkk; clear hkk; clear H; have H := Hn; clear Hn; (try simp only [yT, yV] at H)
      go_wp2_with (((first | ((with_reducible apply st_loads H); decide +kernel; rfl; exact iF; exact zF; rfl) | ((with_reducible apply st_store H); rfl; exact eF; (focus (exact cells_agg _)); exact uF; kernel_rfl; (focus (exact Nat.le_of_ble_eq_true (by rfl))); (focus (rfl)))); clear H; intro wn H; (try simp only [splice, yG, yH, yI, yJ, yK, yL, yM, yN, yO, yP, yQ, Nat.reduceAdd, yA, yB, yC] at H); simp only [Act.put, yA, yB, yC, yD, yE, yF]))
      refine bp_cell H rfl rfl iF (by kernel_rfl) (by kernel_rfl) rfl (by first | exact .inl rfl | exact .inr rfl) ?_
      exact Hs.ret (M := []) (H.sel (M := [Hl.src g v l.length sz]) sF) ⟨⟨_, _, _, _, _, _, _, _, _, _, _, _, rfl, by assumption⟩, rfl⟩
    · go_wp2_with (fail)
      refine (Rets.use (n_w 3 (by omega) (Src.of HC.out H iF))).mono ?_; rintro e wn ⟨_, _, rfl, ⟨⟨p, rfl, pa, pb⟩, rfl⟩, hkk⟩; have Hn := H.moreK (by intro k hk; first | exact absurd hk List.not_mem_nil | (obtain rfl := List.mem_singleton.1 hk; exact In.mem iF)) hkk; clear hkk; clear H; have H := Hn; clear Hn; (try simp only [yT, yV] at H)
      go_wp2_with (((first | ((with_reducible apply st_loads H); decide +kernel; rfl; exact iF; exact zF; rfl) | ((with_reducible apply st_store H); rfl; exact eF; (focus (exact cells_agg _)); exact uF; kernel_rfl; (focus (exact Nat.le_of_ble_eq_true (by rfl))); (focus (rfl)))); clear H; intro wn H; (try simp only [splice, yG, yH, yI, yJ, yK, yL, yM, yN, yO, yP, yQ, Nat.reduceAdd, yA, yB, yC] at H); simp only [Act.put, yA, yB, yC, yD, yE, yF]))
      refine bp_cell H rfl rfl iF (by kernel_rfl) (by kernel_rfl) rfl (by first | exact .inl rfl | exact .inr rfl) ?_
      exact Hs.ret (M := []) (H.sel (M := [Hl.src g v l.length sz]) sF) ⟨⟨_, _, _, _, _, _, _, _, _, _, _, _, rfl, by assumption⟩, rfl⟩
    · go_wp2_with (fail)
      refine (Rets.use (l02Label_w (Src.of HC.out H iF))).mono ?_; rintro e wn ⟨_, _, rfl, ⟨⟨x1, y1, rfl⟩, rfl⟩, hkk⟩; have Hn := H.moreK (by intro k hk; first | exact absurd hk List.not_mem_nil | (obtain rfl := List.mem_singleton.1 hk; exact In.mem iF)) hkk; clear hkk; clear H; have H := Hn; clear Hn; (try simp only [yT, yV] at H)
      go_wp2_with (((first | ((with_reducible apply st_loads H); decide +kernel; rfl; exact iF; exact zF; rfl) | ((with_reducible apply st_store H); rfl; exact eF; (focus (exact cells_agg _)); exact uF; kernel_rfl; (focus (exact Nat.le_of_ble_eq_true (by rfl))); (focus (rfl)))); clear H; intro wn H; (try simp only [splice, yG, yH, yI, yJ, yK, yL, yM, yN, yO, yP, yQ, Nat.reduceAdd, yA, yB, yC] at H); simp only [Act.put, yA, yB, yC, yD, yE, yF]))
      refine bp_cell H rfl rfl iF (by kernel_rfl) (by kernel_rfl) rfl (by first | exact .inl rfl | exact .inr rfl) ?_
      exact Hs.ret (M := []) (H.sel (M := [Hl.src g v l.length sz]) sF) ⟨⟨_, _, _, _, _, _, _, _, _, _, _, _, rfl, by assumption⟩, rfl⟩
end Go.Proofs.YtfblolkkajppcaaGreatDoor
