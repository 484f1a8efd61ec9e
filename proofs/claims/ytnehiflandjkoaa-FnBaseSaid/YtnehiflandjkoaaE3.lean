import Derived.Test.YtnehiflandjkoaaE2
import Derived.Deep.RegionLaw
set_option linter.unusedSimpArgs false
set_option linter.unusedVariables false
namespace Go.Proofs.Ytnehiflandjkoaa
open Go.RowKit M

theorem own_drew {w : World} {base e s n : Nat} {v : Value} {xs : List Value} (h : w.ownsRow base e s v n xs) : w.drew.ownsRow base e s v n xs := h
theorem Blk.two {w : World} {B t : Nat} {x y z : Value} (h : Blk w B t #[x, y, z]) (u v : Value) : Blk ((w.setCell ⟨B, 0, none⟩ u).setCell ⟨B, 1, none⟩ v) B t #[u, v, z] := (h.set_ 0 u).set_ 1 v

set_option maxRecDepth 100000 in
set_option maxHeartbeats 8000000 in
theorem logRead_i (s : ByteArray) (hs : s.size ≤ maxLen) (w : World) :
    Calls Try.prog 13 #[.string s] w fun e w' => NewLog w e w' (logRead s.data.toList) := by
  have hsz := size_data s
  have hLong := isLong_i s
  by_cases hl : 8000 < s.size
  · have HR := Lib.hid (logRead_long (t := s.data.toList) (by omega))
    rw [show decide (8000 < s.size) = true by simpa using hl] at hLong
    clear hsz hs hl
    go_enter Try.func13, Try.ntmps13
    go_wp2_with (go_at_call 55; refine (hLong _).use.mono ?_; rintro e w1 ⟨rfl, hb1⟩; (apply Blk.use (w := w1) (g := w.heap.size); (focus (apply Blk.lat hb1; (repeat (first | with_reducible assumption | ((with_reducible apply Blk.new'); first | rfl | (simp; done)) | with_reducible apply Blk.set_ | (with_reducible apply Blk.far' (by first | (simp; done) | (simp; omega))) | with_reducible apply Blk.alloc | with_reducible apply Blk.drew)))); intro Z1; (try simp only [List.setIfInBounds_toArray, List.set_cons_zero, List.set_cons_succ] at Z1); have Z1c := Z1.cell; have Z1f := Z1.frozen; have Z1s := Z1.lt))
    refine bodyPost_ret (v := .agg #[.slice none 0 0, .int .i64 0, .int .i64 2]) (by simp [results, Try.results13, go_sem, Z1c, Z1f]) rfl ?_
    rw [HR.out]
    exact ⟨none, 0, rfl, World.ownsRow_nil _ _ _ _, by (repeat (first | (with_reducible refine bset ?_ (by first | (simp; done) | (simp; omega)) _) | (with_reducible refine balloc ?_ _) | (with_reducible refine bdrew ?_) | with_reducible exact Below.refl _ _ | (refine bthen ?_ (by with_reducible assumption)) | (refine bthen ?_ (by assumption)) | exact Below.refl _ _))⟩
  · rw [show decide (8000 < s.size) = false by simpa using hl] at hLong
    obtain ⟨R, hR⟩ : ∃ R, logGo s.data.toList (s.data.toList.length + 1) 0 [] = R := ⟨_, rfl⟩
    have HR := Lib.hid (logRead_mid (t := s.data.toList) (by omega) hR)
    have HG := Lib.hid hR
    have HF := Lib.hid (frameRead_i s)
    have hS := Lib.hid hs
    have hZ := Lib.hid hsz
    have hn8 : s.size ≤ 8000 := by omega
    clear hR hsz hs
    obtain ⟨i0, hi, hz0, hz1, hz2⟩ := info_parts info_Frame
    go_enter Try.func13, Try.ntmps13
    go_wp2_with (go_at_call 55; refine (hLong _).use.mono ?_; rintro e w0 ⟨rfl, hb0⟩; (apply Blk.use (w := w0) (g := w.heap.size); (focus (apply Blk.lat hb0; (repeat (first | with_reducible assumption | ((with_reducible apply Blk.new'); first | rfl | (simp; done)) | with_reducible apply Blk.set_ | (with_reducible apply Blk.far' (by first | (simp; done) | (simp; omega))) | with_reducible apply Blk.alloc | with_reducible apply Blk.drew)))); intro Z1; (try simp only [List.setIfInBounds_toArray, List.set_cons_zero, List.set_cons_succ] at Z1); have Z1c := Z1.cell; have Z1f := Z1.frozen; have Z1s := Z1.lt))
    obtain ⟨B, hB⟩ : ∃ B, B = w0.heap.size := ⟨_, rfl⟩
    have hwB : w.heap.size < B := by rw [hB]; exact Z1s
    go_loopg [5] (s.size + 1) (fun n _ wr => ∃ a fs A c, Hid (LogRel s.data.toList R w w0.heap.size n wr a fs A c))
    case atStart =>
      refine ⟨0, [], none, 0, Lib.hid ⟨Int.le_refl _, by omega, by simp, by rw [hZ.out]; omega, ?_, ?_, ?_, World.ownsRow_nil _ _ _ _, by (repeat (first | (with_reducible refine bset ?_ (by first | (simp; done) | (simp; omega)) _) | (with_reducible refine balloc ?_ _) | (with_reducible refine bdrew ?_) | with_reducible exact Below.refl _ _ | (refine bthen ?_ (by with_reducible assumption)) | (refine bthen ?_ (by assumption)) | exact Below.refl _ _)), by omega⟩⟩
      · have h := HG.out
        rw [hZ.out] at h
        exact h
      · show Blk _ w0.heap.size 35 #[.slice none 0 0, .int .i64 0, .int .i64 0]
        (repeat (first | with_reducible assumption | ((with_reducible apply Blk.new'); first | rfl | (simp; done)) | with_reducible apply Blk.set_ | (with_reducible apply Blk.far' (by first | (simp; done) | (simp; omega))) | with_reducible apply Blk.alloc | with_reducible apply Blk.drew))
      · (repeat (first | with_reducible assumption | ((with_reducible apply Blk.new'); first | rfl | (simp; done)) | with_reducible apply Blk.set_ | (with_reducible apply Blk.far' (by first | (simp; done) | (simp; omega))) | with_reducible apply Blk.alloc | with_reducible apply Blk.drew))
    case round =>
      rw [← hB] at *
      clear Z1 Z1c Z1f Z1s hb0 hLong
      obtain ⟨a, fs, A, c, HL⟩ := hrel
      have X := HL.out
      have B0 := X.box
      have Z0 := X.res
      have O0 := Lib.hid X.own
      have BB := X.old
      have lo := X.lo
      have hi' := X.hi
      have few := X.few
      have more := X.more
      have HGo := Lib.hid X.go
      rw [hZ.out] at hi' more
      clear X HL HG
      have B0c := B0.cell
      have B0f := B0.frozen
      have B0s := B0.lt
      have Z0c := Z0.cell
      have Z0f := Z0.frozen
      have Z0s := Z0.lt
      have hfr := HF.out a hS.out
      have hgo1 : gk = gk - 1 + 1 := by omega
      have HGo' := HGo.out
      rw [hgo1, logGo] at HGo'
      have hput : ∀ q x z, frameRead s.data.toList a = (q, x, z, 0) → a < z ∧ z ≤ s.size := fun q x z h => by
        obtain ⟨i, j, e1, e2, e3, e4, _⟩ := frameRead_put h
        rw [hZ.out] at e4
        omega
      have hend := fun h => logGo_end (t := s.data.toList) (a := a) (fs := fs) gk h
      rcases hx : frameRead s.data.toList a with ⟨q, x, z, c0⟩
      rw [hx] at hfr HGo' hput hend
      dsimp only at HGo' hend
      unfold encFO at hfr
      dsimp only at hfr
      have HGo2 := Lib.hid HGo'
      have HEnd := Lib.hid hend
      have HFr := Lib.hid hfr
      clear hx hend hfr HGo' hgo1
      by_cases hc0 : c0 = 0
      · subst hc0
        obtain ⟨hz1', hz2'⟩ := hput q x z rfl
        clear hput
        cases hlast : fs.getLast? with
        | none =>
          have hfs : fs = [] := by simpa using hlast
          subst hfs
          have hpos : ¬ ((0 : Nat) : Int) > 0 := by omega
          have HNext : Hid (logGo s.data.toList (gk - 1) z (([] : List Frm) ++ [(q, bs x)]) = R) := by
            have h := HGo2.out
            rw [if_neg (by simp [notUp])] at h
            exact Lib.hid h
          clear HGo2 HEnd HGo
          simp only [List.length_nil] at *
          go_wp2_with (go_at_call 10; refine (HFr.out _).use.mono ?_; rintro e w1 ⟨rfl, hb1⟩; (apply Blk.use (w := w1) (g := B); (focus (apply Blk.lat hb1; (repeat (first | with_reducible assumption | ((with_reducible apply Blk.new'); first | rfl | (simp; done)) | with_reducible apply Blk.set_ | (with_reducible apply Blk.far' (by first | (simp; done) | (simp; omega))) | with_reducible apply Blk.alloc | with_reducible apply Blk.drew)))); intro B1; (try simp only [List.setIfInBounds_toArray, List.set_cons_zero, List.set_cons_succ] at B1); have B1c := B1.cell; have B1f := B1.frozen; have B1s := B1.lt); (apply Blk.use (w := w1) (g := w.heap.size); (focus (apply Blk.lat hb1; (repeat (first | with_reducible assumption | ((with_reducible apply Blk.new'); first | rfl | (simp; done)) | with_reducible apply Blk.set_ | (with_reducible apply Blk.far' (by first | (simp; done) | (simp; omega))) | with_reducible apply Blk.alloc | with_reducible apply Blk.drew)))); intro Z1; (try simp only [List.setIfInBounds_toArray, List.set_cons_zero, List.set_cons_succ] at Z1); have Z1c := Z1.cell; have Z1f := Z1.frozen; have Z1s := Z1.lt))
          refine wp_world ?_
          intro w2 hw2
          (apply Blk.use (w := w2) (g := B); (focus (rw [hw2]; (repeat (first | with_reducible assumption | ((with_reducible apply Blk.new'); first | rfl | (simp; done)) | with_reducible apply Blk.set_ | (with_reducible apply Blk.far' (by first | (simp; done) | (simp; omega))) | with_reducible apply Blk.alloc | with_reducible apply Blk.drew)))); intro B2; (try simp only [List.setIfInBounds_toArray, List.set_cons_zero, List.set_cons_succ] at B2); have B2c := B2.cell; have B2f := B2.frozen; have B2s := B2.lt)
          (apply Blk.use (w := w2) (g := w.heap.size); (focus (rw [hw2]; (repeat (first | with_reducible assumption | ((with_reducible apply Blk.new'); first | rfl | (simp; done)) | with_reducible apply Blk.set_ | (with_reducible apply Blk.far' (by first | (simp; done) | (simp; omega))) | with_reducible apply Blk.alloc | with_reducible apply Blk.drew)))); intro Z2; (try simp only [List.setIfInBounds_toArray, List.set_cons_zero, List.set_cons_succ] at Z2); have Z2c := Z2.cell; have Z2f := Z2.frozen; have Z2s := Z2.lt)
          (apply Blk.use (w := w2) (g := w1.heap.size); (focus (rw [hw2]; (repeat (first | with_reducible assumption | ((with_reducible apply Blk.new'); first | rfl | (simp; done)) | with_reducible apply Blk.set_ | (with_reducible apply Blk.far' (by first | (simp; done) | (simp; omega))) | with_reducible apply Blk.alloc | with_reducible apply Blk.drew)))); intro F2; (try simp only [List.setIfInBounds_toArray, List.set_cons_zero, List.set_cons_succ] at F2); have F2c := F2.cell; have F2f := F2.frozen; have F2s := F2.lt)
          have O1 := own_keep O0.out hb1
          have O2 : Hid (w2.ownsRow w.heap.size 24 2 (.slice A 0 c) 0 (flat encFrm ([] : List Frm))) := Lib.hid (by rw [hw2]; (repeat (first | with_reducible assumption | (with_reducible refine own_set ?_ (by first | (simp; done) | (simp; omega)) _) | (with_reducible refine own_alloc ?_ _))))
          have BB2 : Below w.heap.size w w2 := by rw [hw2]; (repeat (first | (with_reducible refine bset ?_ (by first | (simp; done) | (simp; omega)) _) | (with_reducible refine balloc ?_ _) | (with_reducible refine bdrew ?_) | with_reducible exact Below.refl _ _ | (refine bthen ?_ (by with_reducible assumption)) | (refine bthen ?_ (by assumption)) | exact Below.refl _ _))
          clear hw2 O1 hb1 B1 B1c B1f B1s Z1 Z1c Z1f Z1s B0 B0c B0f B0s Z0 Z0c Z0f Z0s BB O0
          have g3 := fun x => F2.atL (i := 3) rfl x
          have GS := fun x => B2.atL (i := 0) rfl x
          refine wp_region_later (by kernel_rfl) (by kernel_rfl) ?_
          repeat (go_big_quiet_step (fail "no call"))
          refine wpQuiet_nil ?_
          rintro _ ⟨y, rfl⟩
          have hy := y.ok
          clear g3 GS
          generalize y.now = w3 at *
          (apply Blk.use (w := w3) (g := B); (focus (apply Blk.lat hy; (repeat (first | with_reducible assumption | ((with_reducible apply Blk.new'); first | rfl | (simp; done)) | with_reducible apply Blk.set_ | (with_reducible apply Blk.far' (by first | (simp; done) | (simp; omega))) | with_reducible apply Blk.alloc | with_reducible apply Blk.drew)))); intro B3; (try simp only [List.setIfInBounds_toArray, List.set_cons_zero, List.set_cons_succ] at B3); have B3c := B3.cell; have B3f := B3.frozen; have B3s := B3.lt)
          (apply Blk.use (w := w3) (g := w.heap.size); (focus (apply Blk.lat hy; (repeat (first | with_reducible assumption | ((with_reducible apply Blk.new'); first | rfl | (simp; done)) | with_reducible apply Blk.set_ | (with_reducible apply Blk.far' (by first | (simp; done) | (simp; omega))) | with_reducible apply Blk.alloc | with_reducible apply Blk.drew)))); intro Z3; (try simp only [List.setIfInBounds_toArray, List.set_cons_zero, List.set_cons_succ] at Z3); have Z3c := Z3.cell; have Z3f := Z3.frozen; have Z3s := Z3.lt)
          (apply Blk.use (w := w3) (g := w1.heap.size); (focus (apply Blk.lat hy; (repeat (first | with_reducible assumption | ((with_reducible apply Blk.new'); first | rfl | (simp; done)) | with_reducible apply Blk.set_ | (with_reducible apply Blk.far' (by first | (simp; done) | (simp; omega))) | with_reducible apply Blk.alloc | with_reducible apply Blk.drew)))); intro F3; (try simp only [List.setIfInBounds_toArray, List.set_cons_zero, List.set_cons_succ] at F3); have F3c := F3.cell; have F3f := F3.frozen; have F3s := F3.lt)
          have O3 := own_keep O2.out hy
          have BB3 : Below w.heap.size w w3 := by (repeat (first | (with_reducible refine bset ?_ (by first | (simp; done) | (simp; omega)) _) | (with_reducible refine balloc ?_ _) | (with_reducible refine bdrew ?_) | with_reducible exact Below.refl _ _ | (refine bthen ?_ (by with_reducible assumption)) | (refine bthen ?_ (by assumption)) | exact Below.refl _ _))
          clear hy O2 B2 B2c B2f B2s Z2 Z2c Z2f Z2s F2 F2c F2f F2s BB2
          have hs3 : B < w3.heap.size := B3s
          have hs3' : w1.heap.size < w3.heap.size := F3s
          have O3' := Lib.hid O3
          clear O3
          go_wp2_with fail
          go_region_law ((refine step_append_lies _ (by rfl) _ _ _ (by rfl) w.heap.size 24 i0 _ 2 24 Try.underlying33 hi hz0 hz1 hz2 (by rfl) (by omega) (.slice A 0 c) 0 (flat encFrm ([] : List Frm)) (by rfl) (own_drew (own_alloc O3'.out _)) ⟨w3.heap.size, 0, none⟩ 1 1 [.int .i64 q, .string (bs x)] (by rfl) (by rfl) (World.news_of_block (heap_alloc_new w3 _)) (by intro u hu; simp at hu; rcases hu with rfl | rfl <;> rfl) (by omega) (by unfold maxLen; omega) (by omega) (by simp; omega) (w3.heap.size + 1) (by simp) ?_; intro g cap w4 hown4 hgrow4 hat4 hlt4; (apply Blk.use (w := w4) (g := B); (focus (apply Blk.marked (own_drew (own_alloc O3'.out _)) hgrow4; (repeat (first | with_reducible assumption | ((with_reducible apply Blk.new'); first | rfl | (simp; done)) | with_reducible apply Blk.set_ | (with_reducible apply Blk.far' (by first | (simp; done) | (simp; omega))) | with_reducible apply Blk.alloc | with_reducible apply Blk.drew)); decide)); intro B4; have B4c := B4.cell; have B4f := B4.frozen; have B4s := B4.lt); (apply Blk.use (w := w4) (g := w.heap.size); (focus (apply Blk.marked (own_drew (own_alloc O3'.out _)) hgrow4; (repeat (first | with_reducible assumption | ((with_reducible apply Blk.new'); first | rfl | (simp; done)) | with_reducible apply Blk.set_ | (with_reducible apply Blk.far' (by first | (simp; done) | (simp; omega))) | with_reducible apply Blk.alloc | with_reducible apply Blk.drew)); decide)); intro Z4); (apply Blk.use (w := w4) (g := w1.heap.size); (focus (apply Blk.marked (own_drew (own_alloc O3'.out _)) hgrow4; (repeat (first | with_reducible assumption | ((with_reducible apply Blk.new'); first | rfl | (simp; done)) | with_reducible apply Blk.set_ | (with_reducible apply Blk.far' (by first | (simp; done) | (simp; omega))) | with_reducible apply Blk.alloc | with_reducible apply Blk.drew)); decide)); intro F4; have F4c := F4.cell); have BB4 : Below w.heap.size w w4 := (bdrew (balloc BB3 _)).grown hgrow4 (by simp; omega) (fun k hk => by have := O3'.out.lt k hk; omega); have O4 := Lib.hid hown4; clear hown4 hgrow4 hat4 B3 B3c B3f B3s Z3 Z3c Z3f Z3s F3 F3c F3f F3s))
          all_goals
            have hne := own_blk_ne O4.out B4 (by decide)
            go_wp2_with fail
            go_roundg (gk - 1)
            case measure => omega
            case rel =>
              refine ⟨z, ([] : List Frm) ++ [(q, bs x)], some ⟨g, 0, none⟩, cap, Lib.hid ⟨by omega, by rw [hZ.out]; omega, by simp; omega, by rw [hZ.out]; omega, HNext.out, ?_, ?_, ?_, by (repeat (first | (with_reducible refine bset ?_ (by first | (simp; done) | (simp; omega)) _) | (with_reducible refine balloc ?_ _) | (with_reducible refine bdrew ?_) | with_reducible exact Below.refl _ _ | (refine bthen ?_ (by with_reducible assumption)) | (refine bthen ?_ (by assumption)) | exact Below.refl _ _)), by omega⟩⟩
              · rw [List.length_append]
                exact Blk.two B4 _ _
              · first | exact (Z4.far' (by simp; omega)).far' (by simp; omega) | exact (Z4.far' (by omega)).far' (by omega)
              · rw [flat_append, List.length_append]
                exact own_far (own_far O4.out hne _) hne _
        | some f =>
          have hn0 : 0 < fs.length := by
            cases fs with
            | nil => simp at hlast
            | cons a l => simp
          have hn0' : (0 : Int) < fs.length := by omega
          obtain ⟨g0, hA, _, _⟩ := own_slice O0.out hn0
          subst hA
          have hidx : (fs.length : Int) - 1 = ((fs.length - 1 : Nat) : Int) := by omega
          have hix : ((fs.length - 1 : Nat) : Int) < fs.length := by omega
          have HLast := Lib.hid hlast
          have hup : notUp fs q = decide (q ≤ f.1) := by unfold notUp; rw [hlast]
          clear hlast
          by_cases hq : q ≤ f.1
          · have HE : Hid (R = (fs, a)) := Lib.hid (HGo.out.symm.trans (HEnd.out (.inr (by rw [hup]; simpa using hq))))
            clear HGo2 HEnd HGo hup
            go_wp2_with (go_at_call 10; refine (HFr.out _).use.mono ?_; rintro e w1 ⟨rfl, hb1⟩; (apply Blk.use (w := w1) (g := B); (focus (apply Blk.lat hb1; (repeat (first | with_reducible assumption | ((with_reducible apply Blk.new'); first | rfl | (simp; done)) | with_reducible apply Blk.set_ | (with_reducible apply Blk.far' (by first | (simp; done) | (simp; omega))) | with_reducible apply Blk.alloc | with_reducible apply Blk.drew)))); intro B1; (try simp only [List.setIfInBounds_toArray, List.set_cons_zero, List.set_cons_succ] at B1); have B1c := B1.cell; have B1f := B1.frozen; have B1s := B1.lt); (apply Blk.use (w := w1) (g := w.heap.size); (focus (apply Blk.lat hb1; (repeat (first | with_reducible assumption | ((with_reducible apply Blk.new'); first | rfl | (simp; done)) | with_reducible apply Blk.set_ | (with_reducible apply Blk.far' (by first | (simp; done) | (simp; omega))) | with_reducible apply Blk.alloc | with_reducible apply Blk.drew)))); intro Z1; (try simp only [List.setIfInBounds_toArray, List.set_cons_zero, List.set_cons_succ] at Z1); have Z1c := Z1.cell; have Z1f := Z1.frozen; have Z1s := Z1.lt))
            refine wp_world ?_
            intro w2 hw2
            (apply Blk.use (w := w2) (g := B); (focus (rw [hw2]; (repeat (first | with_reducible assumption | ((with_reducible apply Blk.new'); first | rfl | (simp; done)) | with_reducible apply Blk.set_ | (with_reducible apply Blk.far' (by first | (simp; done) | (simp; omega))) | with_reducible apply Blk.alloc | with_reducible apply Blk.drew)))); intro B2; (try simp only [List.setIfInBounds_toArray, List.set_cons_zero, List.set_cons_succ] at B2); have B2c := B2.cell; have B2f := B2.frozen; have B2s := B2.lt)
            (apply Blk.use (w := w2) (g := w.heap.size); (focus (rw [hw2]; (repeat (first | with_reducible assumption | ((with_reducible apply Blk.new'); first | rfl | (simp; done)) | with_reducible apply Blk.set_ | (with_reducible apply Blk.far' (by first | (simp; done) | (simp; omega))) | with_reducible apply Blk.alloc | with_reducible apply Blk.drew)))); intro Z2; (try simp only [List.setIfInBounds_toArray, List.set_cons_zero, List.set_cons_succ] at Z2); have Z2c := Z2.cell; have Z2f := Z2.frozen; have Z2s := Z2.lt)
            (apply Blk.use (w := w2) (g := w1.heap.size); (focus (rw [hw2]; (repeat (first | with_reducible assumption | ((with_reducible apply Blk.new'); first | rfl | (simp; done)) | with_reducible apply Blk.set_ | (with_reducible apply Blk.far' (by first | (simp; done) | (simp; omega))) | with_reducible apply Blk.alloc | with_reducible apply Blk.drew)))); intro F2; (try simp only [List.setIfInBounds_toArray, List.set_cons_zero, List.set_cons_succ] at F2); have F2c := F2.cell; have F2f := F2.frozen; have F2s := F2.lt)
            have O1 := own_keep O0.out hb1
            have O2 : Hid (w2.ownsRow w.heap.size 24 2 (.slice (some ⟨g0, 0, none⟩) fs.length c) fs.length (flat encFrm fs)) := Lib.hid (by rw [hw2]; (repeat (first | with_reducible assumption | (with_reducible refine own_set ?_ (by first | (simp; done) | (simp; omega)) _) | (with_reducible refine own_alloc ?_ _))))
            have BB2 : Below w.heap.size w w2 := by rw [hw2]; (repeat (first | (with_reducible refine bset ?_ (by first | (simp; done) | (simp; omega)) _) | (with_reducible refine balloc ?_ _) | (with_reducible refine bdrew ?_) | with_reducible exact Below.refl _ _ | (refine bthen ?_ (by with_reducible assumption)) | (refine bthen ?_ (by assumption)) | exact Below.refl _ _))
            clear hw2 O1 hb1 B1 B1c B1f B1s Z1 Z1c Z1f Z1s B0 B0c B0f B0s Z0 Z0c Z0f Z0s BB O0
            have g3 := fun x => F2.atL (i := 3) rfl x
            have GS := fun x => B2.atL (i := 0) rfl x
            have G0 := fun x => F2.atL (i := 0) rfl x
            have GL : ∀ y : Later w2, y.now.cell? ⟨g0, (fs.length - 1) * 2, none⟩ = some (.int .i64 f.1) := fun y => last_cell (own_keep O2.out y.ok) HLast.out
            refine wp_region_later (by kernel_rfl) (by kernel_rfl) ?_
            repeat (go_big_quiet_step (fail "no call"))
            refine wpQuiet_nil ?_
            rintro _ ⟨y, rfl⟩
            have hy := y.ok
            clear g3 GS G0 GL
            generalize y.now = w3 at *
            (apply Blk.use (w := w3) (g := B); (focus (apply Blk.lat hy; (repeat (first | with_reducible assumption | ((with_reducible apply Blk.new'); first | rfl | (simp; done)) | with_reducible apply Blk.set_ | (with_reducible apply Blk.far' (by first | (simp; done) | (simp; omega))) | with_reducible apply Blk.alloc | with_reducible apply Blk.drew)))); intro B3; (try simp only [List.setIfInBounds_toArray, List.set_cons_zero, List.set_cons_succ] at B3); have B3c := B3.cell; have B3f := B3.frozen; have B3s := B3.lt)
            (apply Blk.use (w := w3) (g := w.heap.size); (focus (apply Blk.lat hy; (repeat (first | with_reducible assumption | ((with_reducible apply Blk.new'); first | rfl | (simp; done)) | with_reducible apply Blk.set_ | (with_reducible apply Blk.far' (by first | (simp; done) | (simp; omega))) | with_reducible apply Blk.alloc | with_reducible apply Blk.drew)))); intro Z3; (try simp only [List.setIfInBounds_toArray, List.set_cons_zero, List.set_cons_succ] at Z3); have Z3c := Z3.cell; have Z3f := Z3.frozen; have Z3s := Z3.lt)
            (apply Blk.use (w := w3) (g := w1.heap.size); (focus (apply Blk.lat hy; (repeat (first | with_reducible assumption | ((with_reducible apply Blk.new'); first | rfl | (simp; done)) | with_reducible apply Blk.set_ | (with_reducible apply Blk.far' (by first | (simp; done) | (simp; omega))) | with_reducible apply Blk.alloc | with_reducible apply Blk.drew)))); intro F3; (try simp only [List.setIfInBounds_toArray, List.set_cons_zero, List.set_cons_succ] at F3); have F3c := F3.cell; have F3f := F3.frozen; have F3s := F3.lt)
            have O3 := own_keep O2.out hy
            have BB3 : Below w.heap.size w w3 := by (repeat (first | (with_reducible refine bset ?_ (by first | (simp; done) | (simp; omega)) _) | (with_reducible refine balloc ?_ _) | (with_reducible refine bdrew ?_) | with_reducible exact Below.refl _ _ | (refine bthen ?_ (by with_reducible assumption)) | (refine bthen ?_ (by assumption)) | exact Below.refl _ _))
            clear hy O2 B2 B2c B2f B2s Z2 Z2c Z2f Z2s F2 F2c F2f F2s BB2
            go_wp2
            refine bp_world ?_
            intro w9 hw9
            (apply Blk.use (w := w9) (g := w.heap.size); (focus (rw [hw9]; (repeat (first | with_reducible assumption | ((with_reducible apply Blk.new'); first | rfl | (simp; done)) | with_reducible apply Blk.set_ | (with_reducible apply Blk.far' (by first | (simp; done) | (simp; omega))) | with_reducible apply Blk.alloc | with_reducible apply Blk.drew)))); intro Z9; (try simp only [List.setIfInBounds_toArray, List.set_cons_zero, List.set_cons_succ] at Z9); have Z9c := Z9.cell; have Z9f := Z9.frozen; have Z9s := Z9.lt)
            have O9 : w9.ownsRow w.heap.size 24 2 (.slice (some ⟨g0, 0, none⟩) fs.length c) fs.length (flat encFrm fs) := by
              rw [hw9]
              have hne := own_blk_ne O3 Z3 (by decide)
              exact own_far (own_far (own_far O3 hne _) hne _) hne _
            have B9 : Below w.heap.size w w9 := by rw [hw9]; (repeat (first | (with_reducible refine bset ?_ (by first | (simp; done) | (simp; omega)) _) | (with_reducible refine balloc ?_ _) | (with_reducible refine bdrew ?_) | with_reducible exact Below.refl _ _ | (refine bthen ?_ (by with_reducible assumption)) | (refine bthen ?_ (by assumption)) | exact Below.refl _ _))
            clear hw9 B3 B3c B3f B3s Z3 Z3c Z3f Z3s F3 F3c F3f F3s O3
            refine bodyPost_ret (v := .agg #[.slice (some ⟨g0, 0, none⟩) fs.length c, .int .i64 a, .int .i64 0]) (by simp [results, Try.results13, go_sem, Z9c]) rfl ?_
            rw [HR.out, HE.out]
            exact ⟨some ⟨g0, 0, none⟩, c, rfl, O9, B9⟩
          · have HNext : Hid (logGo s.data.toList (gk - 1) z (fs ++ [(q, bs x)]) = R) := by
              have h := HGo2.out
              rw [if_neg (by rw [hup]; simpa using hq)] at h
              exact Lib.hid h
            clear HGo2 HEnd HGo hup
            go_wp2_with (go_at_call 10; refine (HFr.out _).use.mono ?_; rintro e w1 ⟨rfl, hb1⟩; (apply Blk.use (w := w1) (g := B); (focus (apply Blk.lat hb1; (repeat (first | with_reducible assumption | ((with_reducible apply Blk.new'); first | rfl | (simp; done)) | with_reducible apply Blk.set_ | (with_reducible apply Blk.far' (by first | (simp; done) | (simp; omega))) | with_reducible apply Blk.alloc | with_reducible apply Blk.drew)))); intro B1; (try simp only [List.setIfInBounds_toArray, List.set_cons_zero, List.set_cons_succ] at B1); have B1c := B1.cell; have B1f := B1.frozen; have B1s := B1.lt); (apply Blk.use (w := w1) (g := w.heap.size); (focus (apply Blk.lat hb1; (repeat (first | with_reducible assumption | ((with_reducible apply Blk.new'); first | rfl | (simp; done)) | with_reducible apply Blk.set_ | (with_reducible apply Blk.far' (by first | (simp; done) | (simp; omega))) | with_reducible apply Blk.alloc | with_reducible apply Blk.drew)))); intro Z1; (try simp only [List.setIfInBounds_toArray, List.set_cons_zero, List.set_cons_succ] at Z1); have Z1c := Z1.cell; have Z1f := Z1.frozen; have Z1s := Z1.lt))
            refine wp_world ?_
            intro w2 hw2
            (apply Blk.use (w := w2) (g := B); (focus (rw [hw2]; (repeat (first | with_reducible assumption | ((with_reducible apply Blk.new'); first | rfl | (simp; done)) | with_reducible apply Blk.set_ | (with_reducible apply Blk.far' (by first | (simp; done) | (simp; omega))) | with_reducible apply Blk.alloc | with_reducible apply Blk.drew)))); intro B2; (try simp only [List.setIfInBounds_toArray, List.set_cons_zero, List.set_cons_succ] at B2); have B2c := B2.cell; have B2f := B2.frozen; have B2s := B2.lt)
            (apply Blk.use (w := w2) (g := w.heap.size); (focus (rw [hw2]; (repeat (first | with_reducible assumption | ((with_reducible apply Blk.new'); first | rfl | (simp; done)) | with_reducible apply Blk.set_ | (with_reducible apply Blk.far' (by first | (simp; done) | (simp; omega))) | with_reducible apply Blk.alloc | with_reducible apply Blk.drew)))); intro Z2; (try simp only [List.setIfInBounds_toArray, List.set_cons_zero, List.set_cons_succ] at Z2); have Z2c := Z2.cell; have Z2f := Z2.frozen; have Z2s := Z2.lt)
            (apply Blk.use (w := w2) (g := w1.heap.size); (focus (rw [hw2]; (repeat (first | with_reducible assumption | ((with_reducible apply Blk.new'); first | rfl | (simp; done)) | with_reducible apply Blk.set_ | (with_reducible apply Blk.far' (by first | (simp; done) | (simp; omega))) | with_reducible apply Blk.alloc | with_reducible apply Blk.drew)))); intro F2; (try simp only [List.setIfInBounds_toArray, List.set_cons_zero, List.set_cons_succ] at F2); have F2c := F2.cell; have F2f := F2.frozen; have F2s := F2.lt)
            have O1 := own_keep O0.out hb1
            have O2 : Hid (w2.ownsRow w.heap.size 24 2 (.slice (some ⟨g0, 0, none⟩) fs.length c) fs.length (flat encFrm fs)) := Lib.hid (by rw [hw2]; (repeat (first | with_reducible assumption | (with_reducible refine own_set ?_ (by first | (simp; done) | (simp; omega)) _) | (with_reducible refine own_alloc ?_ _))))
            have BB2 : Below w.heap.size w w2 := by rw [hw2]; (repeat (first | (with_reducible refine bset ?_ (by first | (simp; done) | (simp; omega)) _) | (with_reducible refine balloc ?_ _) | (with_reducible refine bdrew ?_) | with_reducible exact Below.refl _ _ | (refine bthen ?_ (by with_reducible assumption)) | (refine bthen ?_ (by assumption)) | exact Below.refl _ _))
            clear hw2 O1 hb1 B1 B1c B1f B1s Z1 Z1c Z1f Z1s B0 B0c B0f B0s Z0 Z0c Z0f Z0s BB O0
            have g3 := fun x => F2.atL (i := 3) rfl x
            have GS := fun x => B2.atL (i := 0) rfl x
            have G0 := fun x => F2.atL (i := 0) rfl x
            have GL : ∀ y : Later w2, y.now.cell? ⟨g0, (fs.length - 1) * 2, none⟩ = some (.int .i64 f.1) := fun y => last_cell (own_keep O2.out y.ok) HLast.out
            refine wp_region_later (by kernel_rfl) (by kernel_rfl) ?_
            repeat (go_big_quiet_step (fail "no call"))
            refine wpQuiet_nil ?_
            rintro _ ⟨y, rfl⟩
            have hy := y.ok
            clear g3 GS G0 GL
            generalize y.now = w3 at *
            (apply Blk.use (w := w3) (g := B); (focus (apply Blk.lat hy; (repeat (first | with_reducible assumption | ((with_reducible apply Blk.new'); first | rfl | (simp; done)) | with_reducible apply Blk.set_ | (with_reducible apply Blk.far' (by first | (simp; done) | (simp; omega))) | with_reducible apply Blk.alloc | with_reducible apply Blk.drew)))); intro B3; (try simp only [List.setIfInBounds_toArray, List.set_cons_zero, List.set_cons_succ] at B3); have B3c := B3.cell; have B3f := B3.frozen; have B3s := B3.lt)
            (apply Blk.use (w := w3) (g := w.heap.size); (focus (apply Blk.lat hy; (repeat (first | with_reducible assumption | ((with_reducible apply Blk.new'); first | rfl | (simp; done)) | with_reducible apply Blk.set_ | (with_reducible apply Blk.far' (by first | (simp; done) | (simp; omega))) | with_reducible apply Blk.alloc | with_reducible apply Blk.drew)))); intro Z3; (try simp only [List.setIfInBounds_toArray, List.set_cons_zero, List.set_cons_succ] at Z3); have Z3c := Z3.cell; have Z3f := Z3.frozen; have Z3s := Z3.lt)
            (apply Blk.use (w := w3) (g := w1.heap.size); (focus (apply Blk.lat hy; (repeat (first | with_reducible assumption | ((with_reducible apply Blk.new'); first | rfl | (simp; done)) | with_reducible apply Blk.set_ | (with_reducible apply Blk.far' (by first | (simp; done) | (simp; omega))) | with_reducible apply Blk.alloc | with_reducible apply Blk.drew)))); intro F3; (try simp only [List.setIfInBounds_toArray, List.set_cons_zero, List.set_cons_succ] at F3); have F3c := F3.cell; have F3f := F3.frozen; have F3s := F3.lt)
            have O3 := own_keep O2.out hy
            have BB3 : Below w.heap.size w w3 := by (repeat (first | (with_reducible refine bset ?_ (by first | (simp; done) | (simp; omega)) _) | (with_reducible refine balloc ?_ _) | (with_reducible refine bdrew ?_) | with_reducible exact Below.refl _ _ | (refine bthen ?_ (by with_reducible assumption)) | (refine bthen ?_ (by assumption)) | exact Below.refl _ _))
            clear hy O2 B2 B2c B2f B2s Z2 Z2c Z2f Z2s F2 F2c F2f F2s BB2
            have hs3 : B < w3.heap.size := B3s
            have hs3' : w1.heap.size < w3.heap.size := F3s
            have O3' := Lib.hid O3
            clear O3
            go_wp2_with fail
            go_region_law ((refine step_append_lies _ (by rfl) _ _ _ (by rfl) w.heap.size 24 i0 _ 2 24 Try.underlying33 hi hz0 hz1 hz2 (by rfl) (by omega) (.slice (some ⟨g0, 0, none⟩) fs.length c) fs.length (flat encFrm fs) (by rfl) (own_drew (own_alloc O3'.out _)) ⟨w3.heap.size, 0, none⟩ 1 1 [.int .i64 q, .string (bs x)] (by rfl) (by rfl) (World.news_of_block (heap_alloc_new w3 _)) (by intro u hu; simp at hu; rcases hu with rfl | rfl <;> rfl) (by omega) (by unfold maxLen; omega) (by omega) (by simp; omega) (w3.heap.size + 1) (by simp) ?_; intro g cap w4 hown4 hgrow4 hat4 hlt4; (apply Blk.use (w := w4) (g := B); (focus (apply Blk.marked (own_drew (own_alloc O3'.out _)) hgrow4; (repeat (first | with_reducible assumption | ((with_reducible apply Blk.new'); first | rfl | (simp; done)) | with_reducible apply Blk.set_ | (with_reducible apply Blk.far' (by first | (simp; done) | (simp; omega))) | with_reducible apply Blk.alloc | with_reducible apply Blk.drew)); decide)); intro B4; have B4c := B4.cell; have B4f := B4.frozen; have B4s := B4.lt); (apply Blk.use (w := w4) (g := w.heap.size); (focus (apply Blk.marked (own_drew (own_alloc O3'.out _)) hgrow4; (repeat (first | with_reducible assumption | ((with_reducible apply Blk.new'); first | rfl | (simp; done)) | with_reducible apply Blk.set_ | (with_reducible apply Blk.far' (by first | (simp; done) | (simp; omega))) | with_reducible apply Blk.alloc | with_reducible apply Blk.drew)); decide)); intro Z4); (apply Blk.use (w := w4) (g := w1.heap.size); (focus (apply Blk.marked (own_drew (own_alloc O3'.out _)) hgrow4; (repeat (first | with_reducible assumption | ((with_reducible apply Blk.new'); first | rfl | (simp; done)) | with_reducible apply Blk.set_ | (with_reducible apply Blk.far' (by first | (simp; done) | (simp; omega))) | with_reducible apply Blk.alloc | with_reducible apply Blk.drew)); decide)); intro F4; have F4c := F4.cell); have BB4 : Below w.heap.size w w4 := (bdrew (balloc BB3 _)).grown hgrow4 (by simp; omega) (fun k hk => by have := O3'.out.lt k hk; omega); have O4 := Lib.hid hown4; clear hown4 hgrow4 hat4 B3 B3c B3f B3s Z3 Z3c Z3f Z3s F3 F3c F3f F3s))
            all_goals
              have hne := own_blk_ne O4.out B4 (by decide)
              go_wp2_with fail
              go_roundg (gk - 1)
              case measure => omega
              case rel =>
                refine ⟨z, fs ++ [(q, bs x)], some ⟨g, 0, none⟩, cap, Lib.hid ⟨by omega, by rw [hZ.out]; omega, by simp; omega, by rw [hZ.out]; omega, HNext.out, ?_, ?_, ?_, by (repeat (first | (with_reducible refine bset ?_ (by first | (simp; done) | (simp; omega)) _) | (with_reducible refine balloc ?_ _) | (with_reducible refine bdrew ?_) | with_reducible exact Below.refl _ _ | (refine bthen ?_ (by with_reducible assumption)) | (refine bthen ?_ (by assumption)) | exact Below.refl _ _)), by omega⟩⟩
                · rw [List.length_append]
                  exact Blk.two B4 _ _
                · first | exact (Z4.far' (by simp; omega)).far' (by simp; omega) | exact (Z4.far' (by omega)).far' (by omega)
                · rw [flat_append, List.length_append]
                  exact own_far (own_far O4.out hne _) hne _
      · have hc : (c0 != 0) = true := by simpa using hc0
        have HE : Hid (R = (fs, a)) := Lib.hid (HGo.out.symm.trans (HEnd.out (.inl hc0)))
        clear hput HGo2 HEnd HGo hc0
        go_wp2_with (go_at_call 10; refine (HFr.out _).use.mono ?_; rintro e w1 ⟨rfl, hb1⟩; (apply Blk.use (w := w1) (g := B); (focus (apply Blk.lat hb1; (repeat (first | with_reducible assumption | ((with_reducible apply Blk.new'); first | rfl | (simp; done)) | with_reducible apply Blk.set_ | (with_reducible apply Blk.far' (by first | (simp; done) | (simp; omega))) | with_reducible apply Blk.alloc | with_reducible apply Blk.drew)))); intro B1; (try simp only [List.setIfInBounds_toArray, List.set_cons_zero, List.set_cons_succ] at B1); have B1c := B1.cell; have B1f := B1.frozen; have B1s := B1.lt); (apply Blk.use (w := w1) (g := w.heap.size); (focus (apply Blk.lat hb1; (repeat (first | with_reducible assumption | ((with_reducible apply Blk.new'); first | rfl | (simp; done)) | with_reducible apply Blk.set_ | (with_reducible apply Blk.far' (by first | (simp; done) | (simp; omega))) | with_reducible apply Blk.alloc | with_reducible apply Blk.drew)))); intro Z1; (try simp only [List.setIfInBounds_toArray, List.set_cons_zero, List.set_cons_succ] at Z1); have Z1c := Z1.cell; have Z1f := Z1.frozen; have Z1s := Z1.lt))
        refine wp_world ?_
        intro w2 hw2
        (apply Blk.use (w := w2) (g := B); (focus (rw [hw2]; (repeat (first | with_reducible assumption | ((with_reducible apply Blk.new'); first | rfl | (simp; done)) | with_reducible apply Blk.set_ | (with_reducible apply Blk.far' (by first | (simp; done) | (simp; omega))) | with_reducible apply Blk.alloc | with_reducible apply Blk.drew)))); intro B2; (try simp only [List.setIfInBounds_toArray, List.set_cons_zero, List.set_cons_succ] at B2); have B2c := B2.cell; have B2f := B2.frozen; have B2s := B2.lt)
        (apply Blk.use (w := w2) (g := w.heap.size); (focus (rw [hw2]; (repeat (first | with_reducible assumption | ((with_reducible apply Blk.new'); first | rfl | (simp; done)) | with_reducible apply Blk.set_ | (with_reducible apply Blk.far' (by first | (simp; done) | (simp; omega))) | with_reducible apply Blk.alloc | with_reducible apply Blk.drew)))); intro Z2; (try simp only [List.setIfInBounds_toArray, List.set_cons_zero, List.set_cons_succ] at Z2); have Z2c := Z2.cell; have Z2f := Z2.frozen; have Z2s := Z2.lt)
        (apply Blk.use (w := w2) (g := w1.heap.size); (focus (rw [hw2]; (repeat (first | with_reducible assumption | ((with_reducible apply Blk.new'); first | rfl | (simp; done)) | with_reducible apply Blk.set_ | (with_reducible apply Blk.far' (by first | (simp; done) | (simp; omega))) | with_reducible apply Blk.alloc | with_reducible apply Blk.drew)))); intro F2; (try simp only [List.setIfInBounds_toArray, List.set_cons_zero, List.set_cons_succ] at F2); have F2c := F2.cell; have F2f := F2.frozen; have F2s := F2.lt)
        have O1 := own_keep O0.out hb1
        have O2 : Hid (w2.ownsRow w.heap.size 24 2 (.slice A fs.length c) fs.length (flat encFrm fs)) := Lib.hid (by rw [hw2]; (repeat (first | with_reducible assumption | (with_reducible refine own_set ?_ (by first | (simp; done) | (simp; omega)) _) | (with_reducible refine own_alloc ?_ _))))
        have BB2 : Below w.heap.size w w2 := by rw [hw2]; (repeat (first | (with_reducible refine bset ?_ (by first | (simp; done) | (simp; omega)) _) | (with_reducible refine balloc ?_ _) | (with_reducible refine bdrew ?_) | with_reducible exact Below.refl _ _ | (refine bthen ?_ (by with_reducible assumption)) | (refine bthen ?_ (by assumption)) | exact Below.refl _ _))
        clear hw2 O1 hb1 B1 B1c B1f B1s Z1 Z1c Z1f Z1s B0 B0c B0f B0s Z0 Z0c Z0f Z0s BB O0
        have g3 := fun x => F2.atL (i := 3) rfl x
        refine wp_region_later (by kernel_rfl) (by kernel_rfl) ?_
        repeat (go_big_quiet_step (fail "no call"))
        refine wpQuiet_nil ?_
        rintro _ ⟨y, rfl⟩
        have hy := y.ok
        clear g3
        generalize y.now = w3 at *
        (apply Blk.use (w := w3) (g := B); (focus (apply Blk.lat hy; (repeat (first | with_reducible assumption | ((with_reducible apply Blk.new'); first | rfl | (simp; done)) | with_reducible apply Blk.set_ | (with_reducible apply Blk.far' (by first | (simp; done) | (simp; omega))) | with_reducible apply Blk.alloc | with_reducible apply Blk.drew)))); intro B3; (try simp only [List.setIfInBounds_toArray, List.set_cons_zero, List.set_cons_succ] at B3); have B3c := B3.cell; have B3f := B3.frozen; have B3s := B3.lt)
        (apply Blk.use (w := w3) (g := w.heap.size); (focus (apply Blk.lat hy; (repeat (first | with_reducible assumption | ((with_reducible apply Blk.new'); first | rfl | (simp; done)) | with_reducible apply Blk.set_ | (with_reducible apply Blk.far' (by first | (simp; done) | (simp; omega))) | with_reducible apply Blk.alloc | with_reducible apply Blk.drew)))); intro Z3; (try simp only [List.setIfInBounds_toArray, List.set_cons_zero, List.set_cons_succ] at Z3); have Z3c := Z3.cell; have Z3f := Z3.frozen; have Z3s := Z3.lt)
        (apply Blk.use (w := w3) (g := w1.heap.size); (focus (apply Blk.lat hy; (repeat (first | with_reducible assumption | ((with_reducible apply Blk.new'); first | rfl | (simp; done)) | with_reducible apply Blk.set_ | (with_reducible apply Blk.far' (by first | (simp; done) | (simp; omega))) | with_reducible apply Blk.alloc | with_reducible apply Blk.drew)))); intro F3; (try simp only [List.setIfInBounds_toArray, List.set_cons_zero, List.set_cons_succ] at F3); have F3c := F3.cell; have F3f := F3.frozen; have F3s := F3.lt)
        have O3 := own_keep O2.out hy
        have BB3 : Below w.heap.size w w3 := by (repeat (first | (with_reducible refine bset ?_ (by first | (simp; done) | (simp; omega)) _) | (with_reducible refine balloc ?_ _) | (with_reducible refine bdrew ?_) | with_reducible exact Below.refl _ _ | (refine bthen ?_ (by with_reducible assumption)) | (refine bthen ?_ (by assumption)) | exact Below.refl _ _))
        clear hy O2 B2 B2c B2f B2s Z2 Z2c Z2f Z2s F2 F2c F2f F2s BB2
        go_wp2
        refine bp_world ?_
        intro w9 hw9
        (apply Blk.use (w := w9) (g := w.heap.size); (focus (rw [hw9]; (repeat (first | with_reducible assumption | ((with_reducible apply Blk.new'); first | rfl | (simp; done)) | with_reducible apply Blk.set_ | (with_reducible apply Blk.far' (by first | (simp; done) | (simp; omega))) | with_reducible apply Blk.alloc | with_reducible apply Blk.drew)))); intro Z9; (try simp only [List.setIfInBounds_toArray, List.set_cons_zero, List.set_cons_succ] at Z9); have Z9c := Z9.cell; have Z9f := Z9.frozen; have Z9s := Z9.lt)
        have O9 : w9.ownsRow w.heap.size 24 2 (.slice A fs.length c) fs.length (flat encFrm fs) := by
          rw [hw9]
          have hne := own_blk_ne O3 Z3 (by decide)
          exact own_far (own_far (own_far O3 hne _) hne _) hne _
        have B9 : Below w.heap.size w w9 := by rw [hw9]; (repeat (first | (with_reducible refine bset ?_ (by first | (simp; done) | (simp; omega)) _) | (with_reducible refine balloc ?_ _) | (with_reducible refine bdrew ?_) | with_reducible exact Below.refl _ _ | (refine bthen ?_ (by with_reducible assumption)) | (refine bthen ?_ (by assumption)) | exact Below.refl _ _))
        clear hw9 B3 B3c B3f B3s Z3 Z3c Z3f Z3s F3 F3c F3f F3s O3
        refine bodyPost_ret (v := .agg #[.slice A fs.length c, .int .i64 a, .int .i64 0]) (by simp [results, Try.results13, go_sem, Z9c]) rfl ?_
        rw [HR.out, HE.out]
        exact ⟨A, c, rfl, O9, B9⟩
end Go.Proofs.Ytnehiflandjkoaa
namespace Go.Proofs.Ytnehiflandjkoaa
open Go.RowKit M

end Go.Proofs.Ytnehiflandjkoaa
