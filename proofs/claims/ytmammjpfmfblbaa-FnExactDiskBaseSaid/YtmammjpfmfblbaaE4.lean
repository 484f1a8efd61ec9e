import Derived.Test.YtmammjpfmfblbaaE3
set_option linter.unusedSimpArgs false
set_option linter.unusedVariables false
namespace Go.Proofs.Ytmammjpfmfblbaa
open Go.RowKit M

set_option maxRecDepth 100000 in
set_option maxHeartbeats 2000000 in
theorem law_LogRead (s : ByteArray) (hs : s.size ≤ maxLen) (w : World) : Gives Try.prog 3 #[.string s] w (.bool true) := by
  unfold Gives
  by_cases hbig : (1048576 : Int) < s.size
  · go_enter Try.func3, Try.ntmps3
    go_wp2
    go_ret
    exact ⟨rfl, by (repeat (first | (with_reducible refine bset ?_ (by first | (simp; done) | (simp; omega)) _) | (with_reducible refine balloc ?_ _) | (with_reducible refine bdrew ?_) | with_reducible exact Below.refl _ _ | (refine bthen ?_ (by with_reducible assumption)) | (refine bthen ?_ (by assumption)) | exact Below.refl _ _))⟩
  · have h' : (s.size : Int) ≤ 1048576 := by omega
    have hI := fun w => logRead_i s hs w
    have hS := fun w => logRead_s s hs w
    have hr := (logRead_range s.data.toList).2.2
    rcases hx : logRead s.data.toList with ⟨fs, a, c⟩
    rw [hx] at hI hS hr
    dsimp only at hr
    have HI := Lib.hid hI
    have HS := Lib.hid hS
    clear hI hS hx hbig hs
    go_enter Try.func3, Try.ntmps3
    go_wp2_with fail
    refine (HS.out _).mono ?_
    rintro e w3 ⟨AW, cW, rfl, oW, BB⟩
    have OW := Lib.hid oW
    have s30 : w.heap.size ≤ w3.heap.size := BB.size
    have NW : Hid (∀ k, (Value.slice AW fs.length cW).ownBlock = some k → k < w3.heap.size) := Lib.hid fun k hk => (OW.out.lt k hk).2
    clear oW
    go_wp2_with fail
    refine (HI.out _).mono ?_
    rintro e w5 ⟨AG, cG, rfl, oG, hb5⟩
    ((apply Blk.use (w := w5) (g := w3.heap.size); (focus (apply Blk.lat hb5; (repeat (first | with_reducible assumption | ((with_reducible apply Blk.new'); first | rfl | (simp; done)) | with_reducible apply Blk.set_ | (with_reducible apply Blk.far' (by first | (simp; done) | (simp; omega))) | with_reducible apply Blk.alloc | with_reducible apply Blk.drew)))); intro W; (try simp only [List.setIfInBounds_toArray, List.set_cons_zero, List.set_cons_succ] at W); have Wc := W.cell; have Wf := W.frozen; have Ws := W.lt); (have OWn := own_keep OW.out (w' := w5) (by (repeat (first | (with_reducible refine bset ?_ (by first | (simp; done) | (simp; omega)) _) | (with_reducible refine balloc ?_ _) | (with_reducible refine bdrew ?_) | with_reducible exact Below.refl _ _ | (refine bthen ?_ (by with_reducible assumption)) | (refine bthen ?_ (by assumption)) | exact Below.refl _ _))); clear OW; have OW := Lib.hid OWn; clear OWn); (have BBn : Below w.heap.size w w5 := (by (repeat (first | (with_reducible refine bset ?_ (by first | (simp; done) | (simp; omega)) _) | (with_reducible refine balloc ?_ _) | (with_reducible refine bdrew ?_) | with_reducible exact Below.refl _ _ | (refine bthen ?_ (by with_reducible assumption)) | (refine bthen ?_ (by assumption)) | exact Below.refl _ _))); clear BB; have BB := BBn; clear BBn); clear hb5)
    have OG := Lib.hid oG
    have NG : Hid (∀ k, (Value.slice AG fs.length cG).ownBlock = some k → w3.heap.size ≤ k ∧ k < w5.heap.size) := Lib.hid fun k hk => by have := OG.out.lt k hk; simp at this; omega
    have s5 : w3.heap.size < w5.heap.size := Ws
    clear oG
    go_wp2_with fail
    refine (eqLogOut_same _ _ fs a c _ (Rd.of_own (OG.out.alloc _)) (Rd.of_own (OW.out.alloc _))).use.mono ?_
    rintro e w6 ⟨rfl, hb6⟩
    ((apply Blk.use (w := w6) (g := w3.heap.size); (focus (apply Blk.lat hb6; (repeat (first | with_reducible assumption | ((with_reducible apply Blk.new'); first | rfl | (simp; done)) | with_reducible apply Blk.set_ | (with_reducible apply Blk.far' (by first | (simp; done) | (simp; omega))) | with_reducible apply Blk.alloc | with_reducible apply Blk.drew)))); clear W Wc Wf Ws; intro W; (try simp only [List.setIfInBounds_toArray, List.set_cons_zero, List.set_cons_succ] at W); have Wc := W.cell; have Wf := W.frozen; have Ws := W.lt); (apply Blk.use (w := w6) (g := w5.heap.size); (focus (apply Blk.lat hb6; (repeat (first | with_reducible assumption | ((with_reducible apply Blk.new'); first | rfl | (simp; done)) | with_reducible apply Blk.set_ | (with_reducible apply Blk.far' (by first | (simp; done) | (simp; omega))) | with_reducible apply Blk.alloc | with_reducible apply Blk.drew)))); intro G; (try simp only [List.setIfInBounds_toArray, List.set_cons_zero, List.set_cons_succ] at G); have Gc := G.cell; have Gf := G.frozen; have Gs := G.lt); (have OWn := own_keep OW.out (w' := w6) (by (repeat (first | (with_reducible refine bset ?_ (by first | (simp; done) | (simp; omega)) _) | (with_reducible refine balloc ?_ _) | (with_reducible refine bdrew ?_) | with_reducible exact Below.refl _ _ | (refine bthen ?_ (by with_reducible assumption)) | (refine bthen ?_ (by assumption)) | exact Below.refl _ _))); clear OW; have OW := Lib.hid OWn; clear OWn); (have OGn := own_keep OG.out (w' := w6) (by (repeat (first | (with_reducible refine bset ?_ (by first | (simp; done) | (simp; omega)) _) | (with_reducible refine balloc ?_ _) | (with_reducible refine bdrew ?_) | with_reducible exact Below.refl _ _ | (refine bthen ?_ (by with_reducible assumption)) | (refine bthen ?_ (by assumption)) | exact Below.refl _ _))); clear OG; have OG := Lib.hid OGn; clear OGn); (have BBn : Below w.heap.size w w6 := (by (repeat (first | (with_reducible refine bset ?_ (by first | (simp; done) | (simp; omega)) _) | (with_reducible refine balloc ?_ _) | (with_reducible refine bdrew ?_) | with_reducible exact Below.refl _ _ | (refine bthen ?_ (by with_reducible assumption)) | (refine bthen ?_ (by assumption)) | exact Below.refl _ _))); clear BB; have BB := BBn; clear BBn); clear hb6)
    have s6 : w5.heap.size < w6.heap.size := Gs
    go_wp2_with fail
    refine (markLogOut_l _ _ _ _ _ _ 1 _ OG.out (by omega)).mono ?_
    rintro e w11 ⟨rfl, ho11, hg11⟩
    ((apply Blk.use (w := w11) (g := w3.heap.size); (focus (apply Blk.marked OG.out hg11; (repeat (first | with_reducible assumption | ((with_reducible apply Blk.new'); first | rfl | (simp; done)) | with_reducible apply Blk.set_ | (with_reducible apply Blk.far' (by first | (simp; done) | (simp; omega))) | with_reducible apply Blk.alloc | with_reducible apply Blk.drew)); decide)); clear W Wc Wf Ws; intro W; have Wc := W.cell; have Wf := W.frozen; have Ws := W.lt); (apply Blk.use (w := w11) (g := w5.heap.size); (focus (apply Blk.marked OG.out hg11; (repeat (first | with_reducible assumption | ((with_reducible apply Blk.new'); first | rfl | (simp; done)) | with_reducible apply Blk.set_ | (with_reducible apply Blk.far' (by first | (simp; done) | (simp; omega))) | with_reducible apply Blk.alloc | with_reducible apply Blk.drew)); decide)); clear G Gc Gf Gs; intro G; have Gc := G.cell; have Gf := G.frozen; have Gs := G.lt))
    have OW11 : Hid (w11.ownsRow _ _ _ _ _ _) := Lib.hid (OW.out.kept hg11 (own_ne NW.out fun k hk => (NG.out k hk).1))
    have BB11 : Below w.heap.size w w11 := BB.grown hg11 BB.size fun k hk => by have := NG.out k hk; omega
    clear hg11 OW OG BB
    have BB := BB11
    have OW := OW11
    have OG := Lib.hid ho11
    clear BB11 OW11 ho11
    have s11 : w5.heap.size < w11.heap.size := Gs
    go_wp2_with fail
    refine (heldLogOut_l _ _ _ _ _ 1 (Rd.of_own OG.out) (by omega)).use.mono ?_
    rintro e w12 ⟨rfl, hb12⟩
    ((apply Blk.use (w := w12) (g := w3.heap.size); (focus (apply Blk.lat hb12; (repeat (first | with_reducible assumption | ((with_reducible apply Blk.new'); first | rfl | (simp; done)) | with_reducible apply Blk.set_ | (with_reducible apply Blk.far' (by first | (simp; done) | (simp; omega))) | with_reducible apply Blk.alloc | with_reducible apply Blk.drew)))); clear W Wc Wf Ws; intro W; (try simp only [List.setIfInBounds_toArray, List.set_cons_zero, List.set_cons_succ] at W); have Wc := W.cell; have Wf := W.frozen; have Ws := W.lt); (apply Blk.use (w := w12) (g := w5.heap.size); (focus (apply Blk.lat hb12; (repeat (first | with_reducible assumption | ((with_reducible apply Blk.new'); first | rfl | (simp; done)) | with_reducible apply Blk.set_ | (with_reducible apply Blk.far' (by first | (simp; done) | (simp; omega))) | with_reducible apply Blk.alloc | with_reducible apply Blk.drew)))); clear G Gc Gf Gs; intro G; (try simp only [List.setIfInBounds_toArray, List.set_cons_zero, List.set_cons_succ] at G); have Gc := G.cell; have Gf := G.frozen; have Gs := G.lt); (have OWn := own_keep OW.out (w' := w12) (by (repeat (first | (with_reducible refine bset ?_ (by first | (simp; done) | (simp; omega)) _) | (with_reducible refine balloc ?_ _) | (with_reducible refine bdrew ?_) | with_reducible exact Below.refl _ _ | (refine bthen ?_ (by with_reducible assumption)) | (refine bthen ?_ (by assumption)) | exact Below.refl _ _))); clear OW; have OW := Lib.hid OWn; clear OWn); (have OGn := own_keep OG.out (w' := w12) (by (repeat (first | (with_reducible refine bset ?_ (by first | (simp; done) | (simp; omega)) _) | (with_reducible refine balloc ?_ _) | (with_reducible refine bdrew ?_) | with_reducible exact Below.refl _ _ | (refine bthen ?_ (by with_reducible assumption)) | (refine bthen ?_ (by assumption)) | exact Below.refl _ _))); clear OG; have OG := Lib.hid OGn; clear OGn); (have BBn : Below w.heap.size w w12 := (by (repeat (first | (with_reducible refine bset ?_ (by first | (simp; done) | (simp; omega)) _) | (with_reducible refine balloc ?_ _) | (with_reducible refine bdrew ?_) | with_reducible exact Below.refl _ _ | (refine bthen ?_ (by with_reducible assumption)) | (refine bthen ?_ (by assumption)) | exact Below.refl _ _))); clear BB; have BB := BBn; clear BBn); clear hb12)
    have hk2 : ¬ (((1 + fs.length * 2 : Nat) : Int) < 0) := by omega
    clear s11 s6
    go_wp2_with fail
    refine (HI.out _).mono ?_
    rintro e w14 ⟨AH, cH, rfl, oH, hb14⟩
    ((apply Blk.use (w := w14) (g := w3.heap.size); (focus (apply Blk.lat hb14; (repeat (first | with_reducible assumption | ((with_reducible apply Blk.new'); first | rfl | (simp; done)) | with_reducible apply Blk.set_ | (with_reducible apply Blk.far' (by first | (simp; done) | (simp; omega))) | with_reducible apply Blk.alloc | with_reducible apply Blk.drew)))); clear W Wc Wf Ws; intro W; (try simp only [List.setIfInBounds_toArray, List.set_cons_zero, List.set_cons_succ] at W); have Wc := W.cell; have Wf := W.frozen; have Ws := W.lt); (apply Blk.use (w := w14) (g := w5.heap.size); (focus (apply Blk.lat hb14; (repeat (first | with_reducible assumption | ((with_reducible apply Blk.new'); first | rfl | (simp; done)) | with_reducible apply Blk.set_ | (with_reducible apply Blk.far' (by first | (simp; done) | (simp; omega))) | with_reducible apply Blk.alloc | with_reducible apply Blk.drew)))); clear G Gc Gf Gs; intro G; (try simp only [List.setIfInBounds_toArray, List.set_cons_zero, List.set_cons_succ] at G); have Gc := G.cell; have Gf := G.frozen; have Gs := G.lt); (have OWn := own_keep OW.out (w' := w14) (by (repeat (first | (with_reducible refine bset ?_ (by first | (simp; done) | (simp; omega)) _) | (with_reducible refine balloc ?_ _) | (with_reducible refine bdrew ?_) | with_reducible exact Below.refl _ _ | (refine bthen ?_ (by with_reducible assumption)) | (refine bthen ?_ (by assumption)) | exact Below.refl _ _))); clear OW; have OW := Lib.hid OWn; clear OWn); (have OGn := own_keep OG.out (w' := w14) (by (repeat (first | (with_reducible refine bset ?_ (by first | (simp; done) | (simp; omega)) _) | (with_reducible refine balloc ?_ _) | (with_reducible refine bdrew ?_) | with_reducible exact Below.refl _ _ | (refine bthen ?_ (by with_reducible assumption)) | (refine bthen ?_ (by assumption)) | exact Below.refl _ _))); clear OG; have OG := Lib.hid OGn; clear OGn); (have BBn : Below w.heap.size w w14 := (by (repeat (first | (with_reducible refine bset ?_ (by first | (simp; done) | (simp; omega)) _) | (with_reducible refine balloc ?_ _) | (with_reducible refine bdrew ?_) | with_reducible exact Below.refl _ _ | (refine bthen ?_ (by with_reducible assumption)) | (refine bthen ?_ (by assumption)) | exact Below.refl _ _))); clear BB; have BB := BBn; clear BBn); clear hb14)
    have OH := Lib.hid oH
    clear oH
    go_wp2_with fail
    refine (eqLogOut_same _ _ fs a c _ (Rd.of_own (OH.out.alloc _)) (Rd.of_own (OW.out.alloc _))).use.mono ?_
    rintro e w15 ⟨rfl, hb15⟩
    ((apply Blk.use (w := w15) (g := w3.heap.size); (focus (apply Blk.lat hb15; (repeat (first | with_reducible assumption | ((with_reducible apply Blk.new'); first | rfl | (simp; done)) | with_reducible apply Blk.set_ | (with_reducible apply Blk.far' (by first | (simp; done) | (simp; omega))) | with_reducible apply Blk.alloc | with_reducible apply Blk.drew)))); clear W Wc Wf Ws; intro W; (try simp only [List.setIfInBounds_toArray, List.set_cons_zero, List.set_cons_succ] at W); have Wc := W.cell; have Wf := W.frozen; have Ws := W.lt); (apply Blk.use (w := w15) (g := w5.heap.size); (focus (apply Blk.lat hb15; (repeat (first | with_reducible assumption | ((with_reducible apply Blk.new'); first | rfl | (simp; done)) | with_reducible apply Blk.set_ | (with_reducible apply Blk.far' (by first | (simp; done) | (simp; omega))) | with_reducible apply Blk.alloc | with_reducible apply Blk.drew)))); clear G Gc Gf Gs; intro G; (try simp only [List.setIfInBounds_toArray, List.set_cons_zero, List.set_cons_succ] at G); have Gc := G.cell; have Gf := G.frozen; have Gs := G.lt); (have OWn := own_keep OW.out (w' := w15) (by (repeat (first | (with_reducible refine bset ?_ (by first | (simp; done) | (simp; omega)) _) | (with_reducible refine balloc ?_ _) | (with_reducible refine bdrew ?_) | with_reducible exact Below.refl _ _ | (refine bthen ?_ (by with_reducible assumption)) | (refine bthen ?_ (by assumption)) | exact Below.refl _ _))); clear OW; have OW := Lib.hid OWn; clear OWn); (have OGn := own_keep OG.out (w' := w15) (by (repeat (first | (with_reducible refine bset ?_ (by first | (simp; done) | (simp; omega)) _) | (with_reducible refine balloc ?_ _) | (with_reducible refine bdrew ?_) | with_reducible exact Below.refl _ _ | (refine bthen ?_ (by with_reducible assumption)) | (refine bthen ?_ (by assumption)) | exact Below.refl _ _))); clear OG; have OG := Lib.hid OGn; clear OGn); (have BBn : Below w.heap.size w w15 := (by (repeat (first | (with_reducible refine bset ?_ (by first | (simp; done) | (simp; omega)) _) | (with_reducible refine balloc ?_ _) | (with_reducible refine bdrew ?_) | with_reducible exact Below.refl _ _ | (refine bthen ?_ (by with_reducible assumption)) | (refine bthen ?_ (by assumption)) | exact Below.refl _ _))); clear BB; have BB := BBn; clear BBn); clear hb15)
    go_wp2_with fail
    refine (heldLogOut_l _ _ _ _ _ 1 (Rd.of_own OG.out) (by omega)).use.mono ?_
    rintro e w16 ⟨rfl, hb16⟩
    have BB16 : Below w.heap.size w w16 := by (repeat (first | (with_reducible refine bset ?_ (by first | (simp; done) | (simp; omega)) _) | (with_reducible refine balloc ?_ _) | (with_reducible refine bdrew ?_) | with_reducible exact Below.refl _ _ | (refine bthen ?_ (by with_reducible assumption)) | (refine bthen ?_ (by assumption)) | exact Below.refl _ _))
    go_wp2
    go_ret
    exact ⟨rfl, BB16⟩
end Go.Proofs.Ytmammjpfmfblbaa
