import Derived.Test.YtnehiflandjkoaaS1
set_option linter.unusedSimpArgs false
set_option linter.unusedVariables false
namespace Go.Proofs.Ytnehiflandjkoaa
open Go.RowKit M

set_option maxRecDepth 100000 in
set_option maxHeartbeats 2000000 in
/-- a new source -/
theorem source_s (v : Value) (l : List UInt8) (hlen : l.length ≤ 1048576) (w : World) (hr : Rd w 1 v l.length (cb l)) :
    Calls Try.prog 36 #[v] w fun e w' => ∃ sz : Int, 0 ≤ sz ∧ sz ≤ 12 ∧ e = .returned (.pointer (some ⟨w.heap.size, 0, none⟩)) ∧ Src w' w.heap.size v l sz ∧ Below w.heap.size w w' := by
  obtain ⟨A, cap, rfl, hn, hcap, hform⟩ := hr.form
  have HRd := Lib.hid hr
  have HFar : Hid (0 < l.length → ∀ b off n c, Value.slice A l.length cap = .slice (some ⟨b, off, none⟩) n c → b ≠ w.heap.size) := Lib.hid fun h b off n c e => by
    obtain ⟨b', off', rfl, hc⟩ := hform h
    have h1 := hc 0 _ (by unfold cb; rw [List.getElem?_map, List.getElem?_eq_getElem h]; rfl)
    have h2 := World.block_lt_of_cell? w _ h1
    simp only [Value.slice.injEq, Option.some.injEq, Addr.mk.injEq] at e
    have h3 : b' < w.heap.size := h2
    omega
  have HC : Hid (∀ (k : Nat) (hk : k < l.length) (w' : World), Below w.heap.size w w' → ∃ b off, A = some ⟨b, off, none⟩ ∧ w'.cell? ⟨b, off + k, none⟩ = some (.int .u8 l[k].toNat)) := Lib.hid fun k hk w' hb => by
    obtain ⟨b', off', rfl, hc⟩ := hform (by omega)
    have h1 := hc k _ (by unfold cb; rw [List.getElem?_map, List.getElem?_eq_getElem hk]; rfl)
    exact ⟨b', off', rfl, by rw [(bcell hb).1 _ _ (World.block_lt_of_cell? w _ h1)]; exact h1⟩
  clear hr hform
  go_enter Try.func36, Try.ntmps36
  go_wp2
  go_loopw [4] (fun i wr => ∃ (k : Nat) (m : Int), k ≤ l.length ∧ k ≤ 64 ∧ i = .int .i64 k ∧ 0 ≤ m ∧ m < 18446744073709551616 ∧ Blk wr w.heap.size 100 #[.slice A l.length cap, .int .i64 0, .int .u64 m, .int .i64 0] ∧ Below w.heap.size w wr) (fun i _ => 64 - (intOf i).toNat)
  case atStart => exact ⟨0, 88172645463325252, by omega, by omega, rfl, by omega, by omega, Blk.new' rfl, bnew _ _⟩
  case round =>
    obtain ⟨k, m, hk, hk2, rfl, m0, m1, B, BB⟩ := hrel
    have l0 := B.at (i := 2) rfl
    have lf := B.frozen
    by_cases hgo : k < l.length ∧ k < 64
    · obtain ⟨h1, h2⟩ := hgo
      have hi : (k : Int) < l.length := by omega
      have hi2 : (k : Int) < 64 := by omega
      obtain ⟨b, off, rfl, hcell⟩ := HC.out k h1 _ BB
      have hby0 : 0 ≤ (l[k].toNat : Int) := by omega
      have hby : (l[k].toNat : Int) < 256 := by have := l[k].toNat_lt; omega
      generalize (l[k].toNat : Int) = by_ at *
      go_wp2
      go_still_tail 14, (by kernel_rfl)
      go_wp2
      obtain ⟨r0, r1⟩ := wrap_rng (bits .xor .u64 m by_ * 1099511628211)
      go_roundw
      case rel => exact ⟨k + 1, _, by omega, by omega, by go_num, r0, r1, Blk.drew ((B.set_ 2 _).is rfl), by (repeat (first | (with_reducible refine bset ?_ (by first | (simp; done) | (simp; omega)) _) | (with_reducible refine balloc ?_ _) | (with_reducible refine bdrew ?_) | with_reducible exact Below.refl _ _ | (refine bthen ?_ (by with_reducible assumption)) | (refine bthen ?_ (by assumption)) | exact Below.refl _ _))⟩
      case measure => simp [intOf]; omega
    · have hex : (¬ (k : Int) < l.length) ∨ ((k : Int) < l.length ∧ ¬ (k : Int) < 64) := by omega
      have hq0 : 0 ≤ (l.length : Int) / 20 := by omega
      have l3 := B.at (i := 3) rfl
      clear hgo l0
      have hd1 : (decide (k < l.length) = false) ∨ ((k : Int) < l.length ∧ ¬ (k : Int) < 64) := by
        rcases hex with h | h
        · left; simp; omega
        · right; exact h
      clear hex hk hk2
      rcases hd1 with h1 | ⟨h1, h2⟩
      all_goals
        by_cases hbig : 12 < (l.length : Int) / 20
        · go_wp2
          refine bp_world ?_
          intro w9 hw9
          apply Blk.use (w := w9) (g := w.heap.size)
          · rw [hw9]; (repeat (first | with_reducible assumption | ((with_reducible apply Blk.new'); first | rfl | (simp; done)) | with_reducible apply Blk.set_ | (with_reducible apply Blk.far' (by first | (simp; done) | (simp; omega))) | with_reducible apply Blk.alloc | with_reducible apply Blk.drew))
          intro B9
          try simp only [List.setIfInBounds_toArray, List.set_cons_zero, List.set_cons_succ] at B9
          have BB9 : Below w.heap.size w w9 := by rw [hw9]; (repeat (first | (with_reducible refine bset ?_ (by first | (simp; done) | (simp; omega)) _) | (with_reducible refine balloc ?_ _) | (with_reducible refine bdrew ?_) | with_reducible exact Below.refl _ _ | (refine bthen ?_ (by with_reducible assumption)) | (refine bthen ?_ (by assumption)) | exact Below.refl _ _))
          clear hw9
          go_ret
          exact ⟨12, by omega, by omega, rfl, ⟨⟨0, m, by omega, m0, m1, B9⟩, HRd.out.later BB9, HFar.out, hlen⟩, BB9⟩
        · go_wp2
          refine bp_world ?_
          intro w9 hw9
          apply Blk.use (w := w9) (g := w.heap.size)
          · rw [hw9]; (repeat (first | with_reducible assumption | ((with_reducible apply Blk.new'); first | rfl | (simp; done)) | with_reducible apply Blk.set_ | (with_reducible apply Blk.far' (by first | (simp; done) | (simp; omega))) | with_reducible apply Blk.alloc | with_reducible apply Blk.drew))
          intro B9
          try simp only [List.setIfInBounds_toArray, List.set_cons_zero, List.set_cons_succ] at B9
          have BB9 : Below w.heap.size w w9 := by rw [hw9]; (repeat (first | (with_reducible refine bset ?_ (by first | (simp; done) | (simp; omega)) _) | (with_reducible refine balloc ?_ _) | (with_reducible refine bdrew ?_) | with_reducible exact Below.refl _ _ | (refine bthen ?_ (by with_reducible assumption)) | (refine bthen ?_ (by assumption)) | exact Below.refl _ _))
          clear hw9
          go_ret
          exact ⟨(l.length : Int) / 20, hq0, by omega, rfl, ⟨⟨0, m, by omega, m0, m1, B9⟩, HRd.out.later BB9, HFar.out, hlen⟩, BB9⟩

theorem own_far' {w : World} {base e s n : Nat} {v : Value} {xs : List Value} (h : w.ownsRow base e s v n xs) {g : Nat} (hg : g < base) : v.ownBlock = none ∨ v.ownBlock ≠ some g := by
  refine .inr fun e => ?_
  have := (h.lt g e).1
  omega
set_option maxRecDepth 100000 in
set_option maxHeartbeats 2000000 in
/-- some bytes -/
theorem bytes_s (g : Nat) (v : Value) (l : List UInt8) (sz n : Int) (hn : n ≤ 1000000) (w : World) (hs : Src w g v l sz) :
    Calls Try.prog 75 #[.pointer (some ⟨g, 0, none⟩), .int .i64 n] w (Drawn w g v l sz fun r => ∃ t : Bs, r = .string (bs t) ∧ t.length = n.toNat) := by
  obtain ⟨i0, hi, hz0, hz1, hz2⟩ := info_parts info_u8
  have HS := Lib.hid hs
  have hgl := hs.lt
  clear hs
  go_enter Try.func75, Try.ntmps75
  go_wp2
  go_loopw [5, 6] (fun o i wr => ∃ (t : Bs), t.length ≤ n.toNat ∧ i = .int .i64 t.length ∧ wr.ownsRow w.heap.size 5 1 o t.length (cb t) ∧ SrcB wr g v l.length sz ∧ w.grownBy wr (some g)) (fun _ i _ => n.toNat - (intOf i).toNat)
  case atStart => exact ⟨[], by simp, rfl, World.ownsRow_made w #[] 0 (Nat.le_refl _) (by decide) rfl, (HS.out.later (bnew _ _)).blk, gr_below (bnew _ _) _⟩
  case round =>
    obtain ⟨t, ht, rfl, hown, hsrc, hgr⟩ := hrel
    by_cases hlt : (t.length : Int) < n
    · have HO := Lib.hid hown
      have HG := Lib.hid hgr
      have HB := Lib.hid hsrc
      have hsz := hgr.size
      clear hown hgr hsrc
      go_wp2_with (first
        | (go_at_call 57; refine (n_s g v l sz 256 (by omega) _ (HS.out.make HB.out HG.out)).mono ?_; rintro e w1 ⟨_, rfl, ⟨c, rfl, h0, h1⟩, S1, G1⟩; have hown1 := HO.out.kept G1 (own_far' HO.out hgl); have hG1 := gr_trans HG.out G1; have HS1 := Lib.hid S1; have hsz1 := hG1.size; clear S1 G1)
        | (at_builtin; refine wpList_append_own _ rfl _ _ 22 rfl w.heap.size 5 i0 (.int .u8 0) 1 1 Try.underlying22 hi hz0 hz1 hz2 rfl (by decide) _ _ _ rfl (hown1.alloc _) ⟨w1.heap.size, 0, none⟩ 1 1 [.int .u8 c] rfl rfl ?c1 ?c2 ?c3 ?c4 ?c5 ?_))
      case c1 => exact cell_one_new _ _ _
      case c2 => first | rfl | (intro u hu; simp at hu; subst hu; rfl)
      case c3 => simp [maxLen]; omega
      case c4 => omega
      case c5 => first | omega | (simp; omega)
      intro v' w2 hown2 hg2 _
      go_wp2
      go_roundw
      case rel =>
        have hcb : [Value.int .u8 c] = cb [UInt8.ofNat c.toNat] := by
          simp only [cb, List.map_cons, List.map_nil, UInt8.toNat_ofNat']
          congr 2
          omega
        rw [hcb, cb_append] at hown2
        have hrow : ∀ k, u5.ownBlock = some k → w.heap.size ≤ k := fun k hk => (hown1.lt k hk).1
        have hga : (w1.alloc (Obj.cells #[Value.int .u8 c] 5)).grownBy w2 u5.ownBlock := hg2
        refine ⟨t ++ [UInt8.ofNat c.toNat], by simp; omega, by simp, by simpa using hown2, ?_, gr_mix (gr_alloc hG1 _) hga hrow⟩
        exact ((HS1.out.later (bnew _ _)).blk).kept hga (fun e => by have := hrow g e.symm; omega)
      case measure => simp [intOf]; omega
    · have hc := conv_own wr w.heap.size _ t hown
      go_wp2
      go_ret
      exact ⟨_, rfl, ⟨t, rfl, by omega⟩, HS.out.make hsrc hgr, hgr⟩
end Go.Proofs.Ytnehiflandjkoaa
