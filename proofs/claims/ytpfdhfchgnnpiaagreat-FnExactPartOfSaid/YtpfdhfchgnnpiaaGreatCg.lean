/-
  Room for rows; lists put one behind the other: the walks.
-/
import Derived.Test.YtpfdhfchgnnpiaaGreatCf
set_option linter.unusedSimpArgs false
set_option linter.unusedVariables false
namespace Go.Proofs.YtpfdhfchgnnpiaaGreat
open Go.RowKit M
section
variable {P : Program} {w : World}
/-- append(nil, make([]E, n)...) -/
theorem run_append_zeros {t ty ti E : TypeId} {s n : Nat} {k : IntKind} (hT : appT P t E s = true) (hI : P.underlying ti = some (.int k)) (h0 : 0 < n) (hn : n ≤ 1000000000) :
    ∃ zs c w', (Builtin.append_ #[t, ti] ty #[.slice none 0 0, .int .i64 (n : Int)]).run P w = .ok (.slice (some ⟨w.heap.size, 0, none⟩) n c) w' ∧ n ≤ c ∧ w'.ownsRow 0 E s (.slice (some ⟨w.heap.size, 0, none⟩) n c) n zs ∧ Grow noRow w w' := by
  obtain ⟨i, z, ht, hi, hz, h2, h3, h4, h5⟩ := appT_spec hT
  subst h2
  have hw : IntKind.i64.wrap (n : Int) = n := wrap_id (by omega) (by omega)
  have hneg : ¬ ((n : Int) < 0) := by omega
  have hb := bytes_le hn h3
  have hmx : max (n : Int) 0 = n := by omega
  have hle : ¬ ((n : Int) ≤ 0) := by omega
  have hbig : ¬ ((281474976710656 : Int) < (n : Int) * (i.bytes : Int)) := by
    have : ((n * i.bytes : Nat) : Int) = (n : Int) * i.bytes := Int.natCast_mul ..
    omega
  have hn0 : n ≠ 0 := by omega
  have h63' : ¬ (9223372036854775807 < (n : Int)) := by omega
  have h48' : ¬ (281474976710656 < Builtin.nextslicecap n 0 * i.bytes) := by rw [nextslicecap_zero h0]; omega
  have hge := grownCap_ge w n 0 E
  have hcm : grownCap w n 0 E ≤ maxLen := grownCap_le_maxLen w n 0 E (by unfold maxLen; omega)
  have hns : ¬ (n * i.size = 0) := by have := Nat.mul_pos h0 h5; omega
  refine ⟨(Builtin.zeroCells z.cells n).toList, grownCap w n 0 E, w.drew.alloc (.cells (Builtin.zeroCells z.cells n ++ Builtin.zeroCells z.cells (grownCap w n 0 E - n)) E), ?_, hge, ⟨?_, .inr ⟨w.heap.size, _, _, rfl, Nat.zero_le _, heap_alloc_new w.drew _, hge, hcm, ?_, ?_⟩⟩, growN (((Below.refl _ w).drew).alloc (Nat.le_refl _) _)⟩
  · simp [Builtin.append_, run_underlying ht, run_underlying hI, sizeOf, typeInfo, zeroValue, hi, hz, hn0, h63', h48', Question.forced, Builtin.firstCells, newRow, grownCap, asInt, asIntOf, hw, hneg, hbig, hns, hmx, hle]
  · rw [Array.length_toList, size_zeroCells, h4]
  · rw [Array.size_append, size_zeroCells, size_zeroCells, h4, ← Nat.add_mul]
    congr 1
    omega
  · rw [Array.toList_append]
    have : (Builtin.zeroCells z.cells n).toList.length = n * i.size := by rw [Array.length_toList, size_zeroCells, h4]
    rw [← this]
    exact List.take_left
end
theorem st_grow0 {P : Program} {R : Nat → Prop} {w0 w : World} {L : List Hl} {a : Act} {ops : Array Oper} {Q : Exit → Act → World → Prop} {rest : List Oper} {dst : Option Tmp} {ty : TypeId} {pos : String} {aft : Array Edge}
    {xo yo : Operand} {t ti E : TypeId} {s n : Nat} (H : Hs R w0 L w) (hs : a.eval xo = .slice none 0 0) (hx : a.eval yo = .int .i64 (n : Int)) (hT : appT P t E s = true) (hI : P.underlying ti = some (.int .i64)) (h0 : 0 < n) (hn : n ≤ 1000000000)
    (k : ∀ g c zs w', n ≤ c → Hs R w0 (Hl.own E s (.slice (some ⟨g, 0, none⟩) n c) n zs :: L) w' → wpList P ops Q rest (a.put dst (.slice (some ⟨g, 0, none⟩) n c)) w') :
    wpList P ops Q (⟨dst, .call ⟨.builtin .append, #[xo, yo], #[t, ti]⟩, ty, pos, aft, none⟩ :: rest) a w := by
  refine wpList_plain rfl fun K hK => ?_
  obtain ⟨zs, c, w', hr, hc, ho, hg⟩ := run_append_zeros (P := P) (w := w) (ty := ty) hT hI h0 hn
  unfold Oper.wp execOp
  simp only [resolve, invoke, builtin, Sem.run_bind, Sem.run_pure, Result.andThen_ok, List.map_toArray, List.map_cons, List.map_nil, hs, hx, hr]
  refine hK _ _ (k _ c zs w' hc (H.more (M := [_]) ⟨hg, ?_, ?_, List.pairwise_singleton _ _⟩))
  · intro h hh
    obtain rfl := List.mem_singleton.1 hh
    exact ho
  · intro h hh b hb
    obtain rfl := List.mem_singleton.1 hh
    have : some w.heap.size = some b := hb
    injection this with this
    exact .inl (by omega)
/-- the head of a row -/
theorem Hs.shrink {R : Nat → Prop} {w0 w : World} {L M : List Hl} {E : TypeId} {s n m g c : Nat} {zs : List Value} (H : Hs R w0 L w) (u : Upd (Hl.own E s (.slice (some ⟨g, 0, none⟩) n c) n zs) (Hl.row E s (.slice (some ⟨g, 0, none⟩) m c) m (zs.take (m * s))) L M) (hm : m ≤ n) : Hs R w0 M w := by
  have ho : w.ownsRow 0 E s (.slice (some ⟨g, 0, none⟩) n c) n zs := H.ok _ u.inL.mem
  refine H.turn u ((Grow.refl noRow w).mono (fun _ f => f.elim)) (rowOk_of_own ?_) (fun b hb => .inl (rowBlock_own hb : (Value.slice (some ⟨g, 0, none⟩) m c).ownBlock = some b))
  rcases ho.2 with ⟨h, _⟩ | ⟨g2, cap, cur, hv, hb, hg, hnc, hcm, hcs, htake⟩
  · cases h
  · injection hv with e1 _ e3
    injection e1 with e1; injection e1 with e1 _ _
    subst e1 e3
    have hle : m * s ≤ n * s := Nat.mul_le_mul_right _ hm
    refine ⟨by rw [List.length_take, ho.1]; omega, .inr ⟨g, c, cur, rfl, hb, hg, Nat.le_trans hm hnc, hcm, hcs, ?_⟩⟩
    rw [← htake, List.take_take, Nat.min_eq_left hle]
/-- a row without elements, with room -/
def tRoom (E : TypeId) (s : Nat) : Value → List Hl → Prop := fun v M => ∃ g c, v = .slice (some ⟨g, 0, none⟩) 0 c ∧ M = [Hl.row E s v 0 []]
set_option maxRecDepth 100000 in
set_option maxHeartbeats 4000000 in
theorem grow_Lab (n : Nat) (h0 : 0 < n) (hn : n ≤ 1000000000) (w : World) : Rets Tryz.prog [] 163 #[.slice none 0 0, .int .i64 (n : Int)] w (tRoom 66 2) := by
  have H := Hs.start noRow w
  have h1 : ¬ (n : Int) < 0 := by omega
  have h2 : (0 : Int) < n := by omega
  refine Rets.of ?_
  go_enter Tryz.func163, Tryz.ntmps163
  go_wp2_with (((with_reducible apply st_grow0 (E := 66) (s := 2) H); rfl; rfl; kernel_rfl; kernel_rfl; (focus assumption); (focus assumption); clear H; intro gg cc zs wn hcc H; simp only [Act.put, yA, yB, yC, yD, yE, yF]))
  have Hn : Hs noRow w [Hl.row 66 2 (.slice (some ⟨gg, 0, none⟩) 0 cc) 0 (zs.take (0 * 2))] _ := H.shrink uF (Nat.zero_le _)
  rw [Nat.zero_mul, List.take_zero] at Hn
  go_ret
  exact Hs.retd (M := [Hl.row 66 2 (.slice (some ⟨gg, 0, none⟩) 0 cc) 0 []]) Hn (List.Sublist.refl _) ⟨gg, cc, rfl, rfl⟩
namespace M
theorem rdL_flat {α : Type} {s : Nat} {enc : α → List Value} {hl : ∀ a, (enc a).length = s} {h1 : ∀ a, ∀ u ∈ enc a, u.oneCell' = true} {w : World} {xs : List Value} {l : List α} (h : RdL (Ty.flat s enc hl h1) w xs l) : xs = flat enc l := by
  induction h with
  | nil => rfl
  | cons h _ ih => rw [flat_cons, ← ih]; rw [show _ = _ from h]
/-- a slice of structs that hold no memory, cell by cell -/
theorem sl_rd {α : Type} {s : Nat} {enc : α → List Value} {hl : ∀ a, (enc a).length = s} {h1 : ∀ a, ∀ u ∈ enc a, u.oneCell' = true} {E : TypeId} {w : World} {v : Value} {l : List α} (h : (Ty.sl E (Ty.flat s enc hl h1)).rd w [v] l) : Rd w s v l.length (flat enc l) := by
  obtain ⟨v', xs, e, hr, hL⟩ := h
  injection e with e; subst e
  rw [← rdL_flat hL]; exact hr
theorem flat_ones {α : Type} {enc : α → List Value} (h1 : ∀ a, ∀ u ∈ enc a, u.oneCell' = true) (l : List α) : (flat enc l).all (·.oneCell') = true := by
  rw [List.all_eq_true]
  intro u hu
  simp only [flat, List.mem_flatten, List.mem_map] at hu
  obtain ⟨_, ⟨a, _, rfl⟩, hu⟩ := hu
  exact h1 a u hu
theorem encLab_one (a : Lab) : ∀ u ∈ encLab a, u.oneCell' = true := fun u hu => by
  simp only [encLab, List.mem_cons, List.not_mem_nil, or_false] at hu; rcases hu with rfl | rfl <;> rfl
theorem flatten_take {α : Type} {l : List (List α)} {i : Nat} {x : List α} (h : l[i]? = some x) : (l.take (i + 1)).flatten = (l.take i).flatten ++ x := by
  obtain ⟨hlt, rfl⟩ := List.getElem?_eq_some_iff.1 h
  rw [List.take_succ_eq_append_getElem hlt, List.flatten_append]
  simp
theorem flatten_take_le {α : Type} (l : List (List α)) (i : Nat) : (l.take i).flatten.length ≤ l.flatten.length := by
  have : l.flatten = (l.take i).flatten ++ (l.drop i).flatten := by rw [← List.flatten_append, List.take_append_drop]
  rw [this, List.length_append]; omega
end M
set_option maxRecDepth 100000 in
set_option maxHeartbeats 4000000 in
theorem concat_Lab (v : Value) (l : List (List Lab)) (h0 : 0 < l.flatten.length) (hb : l.flatten.length ≤ 1000) (w : World) (hr : (Ty.sl 60 (Ty.sl 66 tyLab)).rd w [v] l) :
    Rets Tryz.prog [] 98 #[v] w (tOwn (Ty.sl 66 tyLab) l.flatten) := by
  obtain ⟨A, c, rfl, hlc, hcm⟩ := sl_form hr
  unfold maxLen at *
  have HR := Lib.hid hr
  obtain ⟨n, hn⟩ : ∃ n, n = l.length := ⟨_, rfl⟩
  have hnl : n ≤ 9223372036854775807 := by omega
  rw [← hn] at HR ⊢
  have HN := Lib.hid hn
  obtain ⟨tot, ht⟩ : ∃ t, t = l.flatten.length := ⟨_, rfl⟩
  rw [← ht] at h0 hb
  have HT := Lib.hid ht
  clear hr hn hlc hcm ht
  have H := Hs.start noRow w
  refine Rets.of ?_
  go_enter Tryz.func98, Tryz.ntmps98
  go_wp2_with (fail)
  go_loopg [3, 5, 11] n (fun m sv _ iv wr => ∃ (i s : Nat), i + m = n ∧ iv = .int .i64 i ∧ sv = .int .i64 s ∧ s ≤ tot ∧ Hid (s = (l.take i).flatten.length) ∧ Hs noRow w [] wr)
  case atStart => exact ⟨0, 0, by omega, rfl, rfl, by omega, Lib.hid rfl, H⟩
  case round =>
    clear H
    obtain ⟨i, s, hi, rfl, rfl, hst, HI, H⟩ := hrel
    by_cases hlt : i < n
    · obtain ⟨x, hx⟩ : ∃ x, l[i]? = some x := ⟨l[i]'(by rw [← HN.out]; exact hlt), List.getElem?_eq_getElem (by rw [← HN.out]; exact hlt)⟩
      have hs := sl_at (by have := HR.out; rw [HN.out] at this; exact this) hx
      rw [← HN.out] at hs
      obtain ⟨b, off, c', cs, hv, hcs, hA⟩ := hs
      injection hv with hv1 hv2 hv3
      subst hv1 hv3
      obtain ⟨u, hu⟩ : ∃ u, cs = [u] := by obtain ⟨u, _, rfl, _⟩ := hcs; exact ⟨u, rfl⟩
      subst hu
      have h1 : w.cell? ⟨b, off + i, none⟩ = some u := by have h := hA.head (u := u) rfl; rw [show i * Ty.s _ = i from Nat.mul_one i] at h; exact h
      obtain ⟨Ax, cx, rfl, _, _⟩ := sl_form hcs
      have hle := flatten_take_le l (i + 1)
      rw [flatten_take hx, List.length_append, ← HI.out, ← HT.out] at hle
      have HI2 : Hid (s + x.length = (l.take (i + 1)).flatten.length) := Lib.hid (by rw [flatten_take hx, List.length_append, ← HI.out])
      have hlt1 : (i : Int) < n := by omega
      have hneg : ¬ (s : Int) + x.length < 0 := by omega
      clear hx hv2 hA HI hcs
      generalize x.length = xn at *
      go_wp2_with (((((with_reducible apply st_load1 H); decide +kernel; rfl; exact cF)); clear H; intro wn H; (try simp only [splice, yG, yH, yI, yJ, yK, yL, yM, yN, yO, yP, yQ, Nat.reduceAdd, yA, yB, yC] at H); simp only [Act.put, yA, yB, yC, yD, yE, yF]))
      go_roundg (n - (i + 1))
      case measure => omega
      case rel => exact ⟨i + 1, s + xn, by omega, by go_num, by go_num, by omega, HI2, H⟩
    · obtain rfl : i = n := by omega
      have hlt1 : ¬ (i : Int) < i := by omega
      have hs : s = tot := by rw [HI.out, HT.out, List.take_of_length_le (by rw [← HN.out]; exact Nat.le_refl _)]
      subst hs
      clear HI
      go_wp2_with (fail)
      refine (Rets.use (grow_Lab s (by omega) (by omega) _)).mono ?_; rintro e wn ⟨_, _, rfl, ⟨g, c2, rfl, rfl⟩, hkk⟩; have Hn := H.moreK (by intro k hk; first | exact absurd hk List.not_mem_nil | (obtain rfl := List.mem_singleton.1 hk; exact In.mem iF)) hkk; clear hkk; clear H; have H := Hn; clear Hn; (try simp only [yT, yV] at H)
      go_wp2_with (fail)
      go_loopg [6, 8, 27] i (fun m ov _ iv wr => ∃ (j t : Nat) (v : Value) (xs : List Value), j + m = i ∧ t ≤ s ∧ iv = .int .i64 j ∧ v = ov ∧ Hid (t = (l.take j).flatten.length ∧ xs = flat encLab (l.take j).flatten) ∧ Hs noRow w [Hl.row 66 2 v t xs] wr)
      case atStart => exact ⟨0, 0, _, [], by omega, by omega, rfl, rfl, Lib.hid ⟨rfl, rfl⟩, H.sel sF⟩
      case round =>
        clear H
        obtain ⟨j, t, v, xs, hj, hts, rfl, rfl, HX, H⟩ := hrel
        by_cases hlt : j < i
        · obtain ⟨x, hx⟩ : ∃ x, l[j]? = some x := ⟨l[j]'(by rw [← HN.out]; exact hlt), List.getElem?_eq_getElem (by rw [← HN.out]; exact hlt)⟩
          have hs := sl_at (by have := HR.out; rw [HN.out] at this; exact this) hx
          rw [← HN.out] at hs
          obtain ⟨b, off, c', cs, hv, hcs, hA⟩ := hs
          injection hv with hv1 hv2 hv3
          subst hv1 hv3
          obtain ⟨u, hu⟩ : ∃ u, cs = [u] := by obtain ⟨u, _, rfl, _⟩ := hcs; exact ⟨u, rfl⟩
          subst hu
          have h1 : w.cell? ⟨b, off + j, none⟩ = some u := by have h := hA.head (u := u) rfl; rw [show j * Ty.s _ = j from Nat.mul_one j] at h; exact h
          have hRd := sl_rd hcs
          have hone := flat_ones encLab_one x
          have hle := flatten_take_le l (j + 1)
          rw [flatten_take hx, List.length_append, ← HX.out.1, ← HT.out] at hle
          have HX2 : Hid (t + x.length = (l.take (j + 1)).flatten.length ∧ xs ++ flat encLab x = flat encLab (l.take (j + 1)).flatten) := Lib.hid ⟨by rw [flatten_take hx, List.length_append, ← HX.out.1], by rw [flatten_take hx, flat_append, ← HX.out.2]⟩
          have hlt2 : (j : Int) < i := by omega
          clear hx hv2 hA HX hcs
          generalize x.length = xn at *
          generalize flat encLab x = xx at *
          go_wp2_with (first | ((((with_reducible apply st_load1 H); decide +kernel; rfl; exact cF)); clear H; intro wn H; (try simp only [splice, yG, yH, yI, yJ, yK, yL, yM, yN, yO, yP, yQ, Nat.reduceAdd, yA, yB, yC] at H); simp only [Act.put, yA, yB, yC, yD, yE, yF]) | ((with_reducible apply st_appendr H); (((focus (with_reducible exact dH)); rfl)); rfl; kernel_rfl; (focus exact (hRd.later H.below)); exact hone; (focus omega); clear H; intro vq wn H; simp only [Act.put, yA, yB, yC, yD, yE, yF]))
          go_roundg (i - (j + 1))
          case measure => omega
          case rel => exact ⟨j + 1, t + xn, _, _, by omega, by omega, by go_num, rfl, HX2, H.sel sF⟩
        · obtain rfl : j = i := by omega
          have hlt2 : ¬ (j : Int) < j := by omega
          go_wp2_with (fail)
          go_ret
          have e : l.take j = l := List.take_of_length_le (by rw [← HN.out]; exact Nat.le_refl _)
          have h1 := HX.out
          rw [e] at h1
          exact ret_flat H h1.2 h1.1
theorem own_single {α : Type} {T : Ty α} {a : α} {v : Value} {N : List Hl} (h : T.own v.cells.toList a N) (h3 : T.s = 1 → v.oneCell' = true) (hs : T.s = 1) : T.own [v] a N := by
  have e := h3 hs
  cases v <;> first | exact h | cases e
end Go.Proofs.YtpfdhfchgnnpiaaGreat
