/-
  The source of the draws: what each draw gives, and what it leaves of the world.
-/
import Derived.Test.YtnehiflandjkoaaB2
import Derived.Test.YtnehiflandjkoaaInvL
import Derived.StillTailTactics
import Derived.Deep.DeepCutAuto
import Derived.Laws.BitsAllLaws
import Derived.Laws.AppendOwn
set_option linter.unusedSimpArgs false
set_option linter.unusedVariables false
namespace Go.Proofs.Ytnehiflandjkoaa
open Go.RowKit M

def SrcB (w : World) (g : Nat) (v : Value) (n : Nat) (sz : Int) : Prop := ∃ (a : Nat) (m : Int), a ≤ n ∧ 0 ≤ m ∧ m < 18446744073709551616 ∧ Blk w g 100 #[v, .int .i64 a, .int .u64 m, .int .i64 sz]
/-- block g is the source over the code v -/
structure Src (w : World) (g : Nat) (v : Value) (l : List UInt8) (sz : Int) : Prop where
  blk : SrcB w g v l.length sz
  rd : Rd w 1 v l.length (cb l)
  far : 0 < l.length → ∀ b off n c, v = .slice (some ⟨b, off, none⟩) n c → b ≠ g
  len : l.length ≤ 1048576

theorem gr_refl (w : World) (r : Option Nat) : w.grownBy w r := ⟨rfl, rfl, rfl, Nat.le_refl _, fun _ _ _ => rfl⟩
theorem gr_trans {a b c : World} {r : Option Nat} (h : a.grownBy b r) (h2 : b.grownBy c r) : a.grownBy c r :=
  ⟨h2.os.trans h.os, h2.tape.trans h.tape, h2.output.trans h.output, Nat.le_trans h.size h2.size, fun k hk hr => (h2.block k (Nat.lt_of_lt_of_le hk h.size) hr).trans (h.block k hk hr)⟩
theorem gr_below {a b : World} (h : Below a.heap.size a b) (r : Option Nat) : a.grownBy b r := ⟨h.os, h.tape, h.output, h.size, fun k hk _ => h.block k hk⟩
theorem gr_set {a b : World} {g : Nat} (h : a.grownBy b (some g)) (i : Nat) (u : Value) : a.grownBy (b.setCell ⟨g, i, none⟩ u) (some g) :=
  ⟨h.os, h.tape, h.output, by simpa [World.setCell] using h.size, fun k hk hr => (Below.heap_setCell b ⟨g, i, none⟩ u k (fun e => hr (by rw [e]))).trans (h.block k hk hr)⟩
theorem gr_drew {a b : World} {r : Option Nat} (h : a.grownBy b r) : a.grownBy b.drew r := ⟨h.os, h.tape, h.output, h.size, h.block⟩
theorem gr_alloc {a b : World} {r : Option Nat} (h : a.grownBy b r) (o : Obj) : a.grownBy (b.alloc o) r := gr_trans h (World.grownBy_alloc b o r)
theorem Blk.grown {w w' : World} {g : Nat} {t : TypeId} {cs : Array Value} {r : Nat} (h : Blk w g t cs) (hg : w.grownBy w' (some r)) (hne : g ≠ r) : Blk w' g t cs := (hg.block g h.lt (fun e => hne (by injection e))).trans h
theorem Rd.grown {w w' : World} {s n g : Nat} {v : Value} {xs : List Value} (h : Rd w s v n xs) (hg : w.grownBy w' (some g)) (hf : 0 < n → ∀ b off n c, v = .slice (some ⟨b, off, none⟩) n c → b ≠ g) : Rd w' s v n xs := by
  obtain ⟨hl, A, cap, e, h1, h2, hc⟩ := h
  refine ⟨hl, A, cap, e, h1, h2, fun hn => ?_⟩
  obtain ⟨b, off, hA, hc⟩ := hc hn
  exact ⟨b, off, hA, fun j u hu => hg.cell (hc j u hu) (fun e' => hf hn b off n cap (by rw [e, hA]) (by injection e'))⟩
theorem Src.later {w w' : World} {g : Nat} {v : Value} {l : List UInt8} {sz : Int} (h : Src w g v l sz) (hb : Below w.heap.size w w') : Src w' g v l sz :=
  let ⟨a, m, h1, h2, h3, h4⟩ := h.blk
  ⟨⟨a, m, h1, h2, h3, h4.later hb⟩, h.rd.later hb, h.far, h.len⟩
theorem SrcB.later {w w' : World} {g : Nat} {v : Value} {n : Nat} {sz : Int} (h : SrcB w g v n sz) (hb : Below w.heap.size w w') : SrcB w' g v n sz :=
  let ⟨a, m, h1, h2, h3, h4⟩ := h
  ⟨a, m, h1, h2, h3, h4.later hb⟩
theorem SrcB.kept {w w' : World} {g : Nat} {v : Value} {n : Nat} {sz : Int} {row : Option Nat} (h : SrcB w g v n sz) (hg : w.grownBy w' row) (hne : some g ≠ row) : SrcB w' g v n sz :=
  let ⟨a, m, h1, h2, h3, h4⟩ := h
  ⟨a, m, h1, h2, h3, (hg.block g h4.lt hne).trans h4⟩
theorem Src.make {w w' : World} {g : Nat} {v : Value} {l : List UInt8} {sz : Int} (h : Src w g v l sz) (hb : SrcB w' g v l.length sz) (hg : w.grownBy w' (some g)) : Src w' g v l sz := ⟨hb, h.rd.grown hg h.far, h.far, h.len⟩
theorem Src.lt {w : World} {g : Nat} {v : Value} {l : List UInt8} {sz : Int} (h : Src w g v l sz) : g < w.heap.size := let ⟨_, _, _, _, _, h4⟩ := h.blk; h4.lt
theorem gr_mix {a b c : World} {g : Nat} {row : Option Nat} (h : a.grownBy b (some g)) (h2 : b.grownBy c row) (hr : ∀ k, row = some k → a.heap.size ≤ k) : a.grownBy c (some g) :=
  ⟨h2.os.trans h.os, h2.tape.trans h.tape, h2.output.trans h.output, Nat.le_trans h.size h2.size, fun k hk hne => (h2.block k (Nat.lt_of_lt_of_le hk h.size) (fun e => by have := hr k e.symm; omega)).trans (h.block k hk hne)⟩
theorem wrap_rng (n : Int) : 0 ≤ IntKind.u64.wrap n ∧ IntKind.u64.wrap n < 18446744073709551616 := by rw [IntKind.wrap_u64]; omega
theorem bits_rng (o : BinOp) (a b : Int) : 0 ≤ bits o .u64 a b ∧ bits o .u64 a b < 18446744073709551616 := by
  unfold bits
  split <;> first | exact wrap_rng _ | (constructor <;> decide)

theorem rem_rng {most : Int} (x : Int) (h1 : 1 < most) (h2 : most ≤ 9223372036854775807) : 0 ≤ wrap64 (x % most) ∧ wrap64 (x % most) < most := by
  have e1 := Int.emod_nonneg x (show most ≠ 0 by omega)
  have e2 := Int.emod_lt_of_pos x (show 0 < most by omega)
  generalize x % most = y at *
  unfold wrap64
  omega
/-- what a draw leaves -/
def Drawn (w : World) (g : Nat) (v : Value) (l : List UInt8) (sz : Int) (Φ : Value → Prop) (e : Ending) (w' : World) : Prop := ∃ r, e = .returned r ∧ Φ r ∧ Src w' g v l sz ∧ w.grownBy w' (some g)

set_option maxRecDepth 100000 in
set_option maxHeartbeats 2000000 in
theorem n_low (g : Nat) (v : Value) (l : List UInt8) (sz most : Int) (hm : most ≤ 1) (w : World) (hs : Src w g v l sz) :
    Calls Try.prog 57 #[.pointer (some ⟨g, 0, none⟩), .int .i64 most] w (Drawn w g v l sz fun r => r = .int .i64 0) := by
  have HS := Lib.hid hs
  clear hs
  go_enter Try.func57, Try.ntmps57
  go_wp2
  go_ret
  exact ⟨_, rfl, rfl, HS.out, gr_refl _ _⟩
set_option maxRecDepth 100000 in
set_option maxHeartbeats 2000000 in
theorem n_high (g : Nat) (v : Value) (l : List UInt8) (sz most : Int) (hm : 1 < most) (hm2 : most ≤ 9223372036854775807) (w : World) (hs : Src w g v l sz) :
    Calls Try.prog 57 #[.pointer (some ⟨g, 0, none⟩), .int .i64 most] w (Drawn w g v l sz fun r => ∃ n : Int, r = .int .i64 n ∧ 0 ≤ n ∧ n < most) := by
  obtain ⟨⟨a, m, ha, m0, m1, B⟩, hrd, hfar, hlen⟩ := hs
  obtain ⟨A, cap, rfl, hn, hcap, hform⟩ := hrd.form
  have HRd := Lib.hid hrd
  have HFar := Lib.hid hfar
  have Bc := B.cell
  have Bf := B.frozen
  clear hrd hfar
  by_cases hal : a < l.length
  · obtain ⟨b, off, rfl, hc⟩ := hform (by omega)
    have hbg : b ≠ g := HFar.out (by omega) b off l.length cap rfl
    have hcell : w.cell? ⟨b, off + a, none⟩ = some (.int .u8 l[a].toNat) := hc a _ (by unfold cb; rw [List.getElem?_map, List.getElem?_eq_getElem hal]; rfl)
    have hi : (a : Int) < l.length := by omega
    have hby : (l[a].toNat : Int) < 256 := by have := l[a].toNat_lt; omega
    have hby0 : 0 ≤ (l[a].toNat : Int) := by omega
    generalize (l[a].toNat : Int) = by_ at *
    clear hform hc
    go_enter Try.func57, Try.ntmps57
    go_wp2
    have l0 := fun x => B.atL (i := 0) rfl x
    have l1 := fun x => B.atL (i := 1) rfl x
    refine wp_region_later (by kernel_rfl) (by kernel_rfl) ?_
    repeat (go_big_quiet_step (fail "no call"))
    refine wpQuiet_nil ?_
    rintro _ ⟨y, rfl⟩
    have hy := y.ok
    clear l0 l1
    generalize y.now = w1 at *
    have B1 := B.later hy
    have hcell1 : w1.cell? ⟨b, off + a, none⟩ = some (.int .u8 by_) := by rw [(bcell hy).1 _ _ (World.block_lt_of_cell? w _ hcell)]; exact hcell
    have G1 := gr_below hy (some g)
    clear hy B Bc Bf hcell
    go_wp2
    have l0 := fun x => B1.atL (i := 0) rfl x
    have l1 := fun x => B1.atL (i := 1) rfl x
    have l2 := fun x => lcell hcell1 x
    refine wp_region_later (by kernel_rfl) (by kernel_rfl) ?_
    repeat (go_big_quiet_step (fail "no call"))
    refine wpQuiet_nil ?_
    rintro _ ⟨y, rfl⟩
    have hy := y.ok
    clear l0 l1 l2
    generalize y.now = w2 at *
    have B2 := B1.later hy
    have G2 := gr_trans G1 (gr_below hy (some g))
    clear hy B1 G1 hcell1
    have B2c := B2.cell
    have B2f := B2.frozen
    go_upto_region 7 with fail
    refine wp_world ?_
    intro w3 hw3
    apply Blk.use (w := w3) (g := g)
    · rw [hw3]; (repeat (first | with_reducible assumption | ((with_reducible apply Blk.new'); first | rfl | (simp; done)) | with_reducible apply Blk.set_ | (with_reducible apply Blk.far' (by first | (simp; done) | (simp; omega))) | with_reducible apply Blk.alloc | with_reducible apply Blk.drew))
    intro B3
    try simp only [List.setIfInBounds_toArray, List.set_cons_zero, List.set_cons_succ] at B3
    have G3 : w.grownBy w3 (some g) := by rw [hw3]; first | exact G2 | exact gr_set G2 _ _
    clear hw3 B2 B2c B2f G2
    have l0 := B3.at (i := 2) rfl
    have lf := B3.frozen
    go_still_tail 13, (by kernel_rfl)
    go_upto_region 8 with fail
    (focus obtain ⟨r40, r41⟩ := bits_rng .xor m (IntKind.u64.wrap (m * 8192)))
    refine wp_world ?_
    intro w4 hw4
    apply Blk.use (w := w4) (g := g)
    · rw [hw4]; (repeat (first | with_reducible assumption | ((with_reducible apply Blk.new'); first | rfl | (simp; done)) | with_reducible apply Blk.set_ | (with_reducible apply Blk.far' (by first | (simp; done) | (simp; omega))) | with_reducible apply Blk.alloc | with_reducible apply Blk.drew))
    intro B4
    try simp only [List.setIfInBounds_toArray, List.set_cons_zero, List.set_cons_succ] at B4
    have G4 : w.grownBy w4 (some g) := by rw [hw4]; exact gr_drew (gr_set G3 _ _)
    clear hw4 B3 G3 l0 lf
    generalize bits .xor .u64 m (IntKind.u64.wrap (m * 8192)) = m4 at *
    have l0 := B4.at (i := 2) rfl
    have lf := B4.frozen
    go_still_tail 13, (by kernel_rfl)
    go_upto_region 9 with fail
    (focus obtain ⟨r50, r51⟩ := bits_rng .xor m4 (m4 / 128))
    refine wp_world ?_
    intro w5 hw5
    apply Blk.use (w := w5) (g := g)
    · rw [hw5]; (repeat (first | with_reducible assumption | ((with_reducible apply Blk.new'); first | rfl | (simp; done)) | with_reducible apply Blk.set_ | (with_reducible apply Blk.far' (by first | (simp; done) | (simp; omega))) | with_reducible apply Blk.alloc | with_reducible apply Blk.drew))
    intro B5
    try simp only [List.setIfInBounds_toArray, List.set_cons_zero, List.set_cons_succ] at B5
    have G5 : w.grownBy w5 (some g) := by rw [hw5]; exact gr_drew (gr_set G4 _ _)
    clear hw5 B4 G4 l0 lf
    generalize bits .xor .u64 m4 (m4 / 128) = m5 at *
    have l0 := B5.at (i := 2) rfl
    have lf := B5.frozen
    go_still_tail 13, (by kernel_rfl)
    go_upto_region 10 with fail
    (focus obtain ⟨r60, r61⟩ := bits_rng .xor m5 (IntKind.u64.wrap (m5 * 131072)))
    refine wp_world ?_
    intro w6 hw6
    apply Blk.use (w := w6) (g := g)
    · rw [hw6]; (repeat (first | with_reducible assumption | ((with_reducible apply Blk.new'); first | rfl | (simp; done)) | with_reducible apply Blk.set_ | (with_reducible apply Blk.far' (by first | (simp; done) | (simp; omega))) | with_reducible apply Blk.alloc | with_reducible apply Blk.drew))
    intro B6
    try simp only [List.setIfInBounds_toArray, List.set_cons_zero, List.set_cons_succ] at B6
    have G6 : w.grownBy w6 (some g) := by rw [hw6]; exact gr_drew (gr_set G5 _ _)
    clear hw6 B5 G5 l0 lf
    generalize bits .xor .u64 m5 (IntKind.u64.wrap (m5 * 131072)) = m6 at *
    have l0 := B6.at (i := 2) rfl
    have lf := B6.frozen
    have hsum := wrap_rng (by_ + m6 / 1048576)
    have hms : IntKind.u64.wrap most = most := by rw [IntKind.wrap_u64]; omega
    go_wp2
    go_ret
    refine ⟨_, rfl, ⟨_, rfl, ?_⟩, ⟨⟨a + 1, m6, by omega, r60, r61, ?_⟩, HRd.out.grown G6 HFar.out, HFar.out, hlen⟩, G6⟩
    · exact rem_rng _ hm hm2
    · have e1 : ((a + 1 : Nat) : Int) = (a : Int) + 1 := by omega
      rw [e1]; exact B6
  · have hal' : ¬ (a : Int) < l.length := by omega
    have hal2 : (l.length : Int) ≤ a := by omega
    have hdec : decide ((a : Int) < l.length) = false := by simpa using hal'
    clear hform
    go_enter Try.func57, Try.ntmps57
    go_wp2
    have l0 := fun x => B.atL (i := 0) rfl x
    have l1 := fun x => B.atL (i := 1) rfl x
    refine wp_region_later (by kernel_rfl) (by kernel_rfl) ?_
    repeat (go_big_quiet_step (fail "no call"))
    refine wpQuiet_nil ?_
    rintro _ ⟨y, rfl⟩
    have hy := y.ok
    clear l0 l1
    generalize y.now = w2 at *
    have B2 := B.later hy
    have G2 := gr_below hy (some g)
    clear hy B Bc Bf
    have B2c := B2.cell
    have B2f := B2.frozen
    go_upto_region 7 with fail
    refine wp_world ?_
    intro w3 hw3
    apply Blk.use (w := w3) (g := g)
    · rw [hw3]; (repeat (first | with_reducible assumption | ((with_reducible apply Blk.new'); first | rfl | (simp; done)) | with_reducible apply Blk.set_ | (with_reducible apply Blk.far' (by first | (simp; done) | (simp; omega))) | with_reducible apply Blk.alloc | with_reducible apply Blk.drew))
    intro B3
    try simp only [List.setIfInBounds_toArray, List.set_cons_zero, List.set_cons_succ] at B3
    have G3 : w.grownBy w3 (some g) := by rw [hw3]; first | exact G2 | exact gr_set G2 _ _
    clear hw3 B2 B2c B2f G2
    have l0 := B3.at (i := 2) rfl
    have lf := B3.frozen
    go_still_tail 13, (by kernel_rfl)
    go_upto_region 8 with fail
    (focus obtain ⟨r40, r41⟩ := bits_rng .xor m (IntKind.u64.wrap (m * 8192)))
    refine wp_world ?_
    intro w4 hw4
    apply Blk.use (w := w4) (g := g)
    · rw [hw4]; (repeat (first | with_reducible assumption | ((with_reducible apply Blk.new'); first | rfl | (simp; done)) | with_reducible apply Blk.set_ | (with_reducible apply Blk.far' (by first | (simp; done) | (simp; omega))) | with_reducible apply Blk.alloc | with_reducible apply Blk.drew))
    intro B4
    try simp only [List.setIfInBounds_toArray, List.set_cons_zero, List.set_cons_succ] at B4
    have G4 : w.grownBy w4 (some g) := by rw [hw4]; exact gr_drew (gr_set G3 _ _)
    clear hw4 B3 G3 l0 lf
    generalize bits .xor .u64 m (IntKind.u64.wrap (m * 8192)) = m4 at *
    have l0 := B4.at (i := 2) rfl
    have lf := B4.frozen
    go_still_tail 13, (by kernel_rfl)
    go_upto_region 9 with fail
    (focus obtain ⟨r50, r51⟩ := bits_rng .xor m4 (m4 / 128))
    refine wp_world ?_
    intro w5 hw5
    apply Blk.use (w := w5) (g := g)
    · rw [hw5]; (repeat (first | with_reducible assumption | ((with_reducible apply Blk.new'); first | rfl | (simp; done)) | with_reducible apply Blk.set_ | (with_reducible apply Blk.far' (by first | (simp; done) | (simp; omega))) | with_reducible apply Blk.alloc | with_reducible apply Blk.drew))
    intro B5
    try simp only [List.setIfInBounds_toArray, List.set_cons_zero, List.set_cons_succ] at B5
    have G5 : w.grownBy w5 (some g) := by rw [hw5]; exact gr_drew (gr_set G4 _ _)
    clear hw5 B4 G4 l0 lf
    generalize bits .xor .u64 m4 (m4 / 128) = m5 at *
    have l0 := B5.at (i := 2) rfl
    have lf := B5.frozen
    go_still_tail 13, (by kernel_rfl)
    go_upto_region 10 with fail
    (focus obtain ⟨r60, r61⟩ := bits_rng .xor m5 (IntKind.u64.wrap (m5 * 131072)))
    refine wp_world ?_
    intro w6 hw6
    apply Blk.use (w := w6) (g := g)
    · rw [hw6]; (repeat (first | with_reducible assumption | ((with_reducible apply Blk.new'); first | rfl | (simp; done)) | with_reducible apply Blk.set_ | (with_reducible apply Blk.far' (by first | (simp; done) | (simp; omega))) | with_reducible apply Blk.alloc | with_reducible apply Blk.drew))
    intro B6
    try simp only [List.setIfInBounds_toArray, List.set_cons_zero, List.set_cons_succ] at B6
    have G6 : w.grownBy w6 (some g) := by rw [hw6]; exact gr_drew (gr_set G5 _ _)
    clear hw6 B5 G5 l0 lf
    generalize bits .xor .u64 m5 (IntKind.u64.wrap (m5 * 131072)) = m6 at *
    have l0 := B6.at (i := 2) rfl
    have lf := B6.frozen
    have hsum := wrap_rng (0 + m6 / 1048576)
    have hms : IntKind.u64.wrap most = most := by rw [IntKind.wrap_u64]; omega
    go_wp2
    go_ret
    refine ⟨_, rfl, ⟨_, rfl, ?_⟩, ⟨⟨a, m6, by omega, r60, r61, ?_⟩, HRd.out.grown G6 HFar.out, HFar.out, hlen⟩, G6⟩
    · exact rem_rng _ hm hm2
    · exact B6
/-- a number below a bound -/
theorem n_s (g : Nat) (v : Value) (l : List UInt8) (sz most : Int) (hm2 : most ≤ 9223372036854775807) (w : World) (hs : Src w g v l sz) :
    Calls Try.prog 57 #[.pointer (some ⟨g, 0, none⟩), .int .i64 most] w (Drawn w g v l sz fun r => ∃ n : Int, r = .int .i64 n ∧ 0 ≤ n ∧ (n < most ∨ n = 0)) := by
  by_cases h : most ≤ 1
  · exact (n_low g v l sz most h w hs).mono fun e w' ⟨r, h1, h2, h3⟩ => ⟨r, h1, ⟨0, h2, by omega, .inr rfl⟩, h3⟩
  · exact (n_high g v l sz most (by omega) hm2 w hs).mono fun e w' ⟨r, h1, ⟨n, h2, h3, h4⟩, h5⟩ => ⟨r, h1, ⟨n, h2, h3, .inl h4⟩, h5⟩
set_option maxRecDepth 100000 in
theorem one_s (g : Nat) (v : Value) (l : List UInt8) (sz most : Int) (hm2 : most ≤ 9223372036854775807) (w : World) (hs : Src w g v l sz) :
    Calls Try.prog 43 #[.pointer (some ⟨g, 0, none⟩), .int .i64 most] w (Drawn w g v l sz fun r => ∃ b : Bool, r = .bool b) := by
  have HS := Lib.hid hs
  clear hs
  go_enter Try.func43, Try.ntmps43
  go_wp2_with (go_at_call 57; refine (n_s g v l sz most hm2 _ HS.out).mono ?_; rintro e w1 ⟨_, rfl, ⟨n, rfl, h0, h1⟩, S1, G1⟩)
  go_ret
  exact ⟨_, rfl, ⟨_, rfl⟩, S1, G1⟩
end Go.Proofs.Ytnehiflandjkoaa
