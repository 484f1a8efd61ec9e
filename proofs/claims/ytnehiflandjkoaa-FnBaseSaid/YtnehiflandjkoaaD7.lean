import Derived.Test.YtnehiflandjkoaaD6
import Derived.Test.YtnehiflandjkoaaInv
set_option linter.unusedSimpArgs false
set_option linter.unusedVariables false
namespace Go.Proofs.Ytnehiflandjkoaa
open Go.RowKit M
namespace M
def foundAll (rs : List Reg) (q : Int) : Bool := !(rs.any (missing q))
/-- one slot of the first region: its number counts if all regions hold it -/
def baseStep (rs : List Reg) (t : Bs) (acc : Int) : Int := if ((heldOf t).2.2 && foundAll rs (heldOf t).1) = true then max acc (heldOf t).1 else acc
def baseAcc (rs : List Reg) (r : Reg) : Nat → Int
  | 0 => 0
  | j + 1 => baseStep rs (pick r j).data.toList (baseAcc rs r j)
def baseOf (rs : List Reg) (p : Int) : Int := if diskOk rs p = false then 0 else baseAcc rs (rs.getD 0 noReg) 2
end M

/-- the cells of the first region, wherever the disk lies -/
theorem reg0_cells {w : World} {b off : Nat} {rs : List Reg} {x : Reg} (hx : rs[0]? = some x) (hc : ∀ j u, (flat encReg rs)[j]? = some u → w.cell? ⟨b, off + j, none⟩ = some u) :
    w.cell? ⟨b, off, none⟩ = some (.string x.1) ∧ w.cell? ⟨b, off + 1, none⟩ = some (.string x.2.1) := by
  have e0 : (flat encReg rs)[0]? = some (.string x.1) := by have := flat_get encReg_len rs 0 0 x hx (by omega); rw [Nat.zero_mul, Nat.zero_add] at this; rw [this]; rfl
  have e1 : (flat encReg rs)[1]? = some (.string x.2.1) := by have := flat_get encReg_len rs 0 1 x hx (by omega); rw [Nat.zero_mul, Nat.zero_add] at this; rw [this]; rfl
  exact ⟨hc 0 _ e0, hc 1 _ e1⟩

set_option maxRecDepth 100000 in
set_option maxHeartbeats 4000000 in
theorem diskBase_i_ok (rs : List Reg) (v : Value) (p : Int) (h : diskOk rs p = true) (w : World) (hr : Rd w 3 v rs.length (flat encReg rs)) :
    Gives Try.prog 33 #[.agg #[v, .int .i64 p]] w (.int .i64 (baseAcc rs (rs.getD 0 noReg) 2)) := by
  unfold Gives
  have hD := fun w hr => diskRight_i rs v p w hr
  rw [h] at hD
  have hl := diskOk_len' h
  obtain ⟨x, hx, hxd, hxm⟩ := reg_at (rs := rs) (k := 0) (by omega)
  have HM : Hid (∀ y ∈ rs, y.1.size ≤ maxLen ∧ y.2.1.size ≤ maxLen) := Lib.hid fun y hy => reg_max h hy
  have hxl := reg_max h hxm
  rw [hxd]
  obtain ⟨A0, cap, rfl, hn, hcap, hform⟩ := hr.form
  unfold maxLen at hcap
  obtain ⟨b, off, rfl, hcells⟩ := hform (by omega)
  have hc01 := reg0_cells hx hcells
  have hbl : b < w.heap.size := World.block_lt_of_cell? w _ hc01.1
  have HC : Hid (∀ w', Below w.heap.size w w' → w'.cell? ⟨b, off, none⟩ = some (.string x.1) ∧ w'.cell? ⟨b, off + 1, none⟩ = some (.string x.2.1)) :=
    Lib.hid fun w' hb => ⟨by rw [(bcell hb).1 _ _ hbl]; exact hc01.1, by rw [(bcell hb).1 _ _ hbl]; exact hc01.2⟩
  have HP : Hid (∀ j, (pick x j).size ≤ maxLen) := Lib.hid fun j => by unfold pick; split <;> first | exact hxl.1 | exact hxl.2
  have HE : Hid (∀ j w, (pick x j).size ≤ maxLen → Gives Try.prog 69 #[.string (pick x j)] w (.tuple #[.agg #[.int .i64 (heldOf (pick x j).data.toList).1, .string (bs (heldOf (pick x j).data.toList).2.1)], .bool (heldOf (pick x j).data.toList).2.2])) := Lib.hid fun j w h => held_i _ h w
  have HR := Lib.hid hr
  have HD := Lib.hid hD
  have i0 : (0 : Nat) < rs.length := by omega
  have BB : Below w.heap.size w w := Below.refl _ _
  clear hr h hD hform hcells hc01 hx hxd hxm hxl
  go_enter Try.func33, Try.ntmps33
  go_upto_region 4 with (go_at_call 29; refine (HD.out _ (HR.out.later (by (repeat (first | (with_reducible refine bset ?_ (by first | (simp; done) | (simp; omega)) _) | (with_reducible refine balloc ?_ _) | (with_reducible refine bdrew ?_) | with_reducible exact Below.refl _ _ | (refine bthen ?_ (by with_reducible assumption)) | (refine bthen ?_ (by assumption)) | exact Below.refl _ _))))).use.mono ?_; rintro e w1 ⟨rfl, hb1⟩; ((apply Blk.use (w := w1) (g := w.heap.size); (focus (apply Blk.lat hb1; (repeat (first | with_reducible assumption | ((with_reducible apply Blk.new'); first | rfl | (simp; done)) | with_reducible apply Blk.set_ | (with_reducible apply Blk.far' (by first | (simp; done) | (simp; omega))) | with_reducible apply Blk.alloc | with_reducible apply Blk.drew)))); intro D; (try simp only [List.setIfInBounds_toArray, List.set_cons_zero, List.set_cons_succ] at D); have Dc := D.cell; have Df := D.frozen; have Ds := D.lt); (have BBn : Below w.heap.size w w1 := (by (repeat (first | (with_reducible refine bset ?_ (by first | (simp; done) | (simp; omega)) _) | (with_reducible refine balloc ?_ _) | (with_reducible refine bdrew ?_) | with_reducible exact Below.refl _ _ | (refine bthen ?_ (by with_reducible assumption)) | (refine bthen ?_ (by assumption)) | exact Below.refl _ _))); clear BB; have BB := BBn; clear BBn); clear hb1))
  obtain ⟨o0, o1⟩ := HC.out _ BB
  have hbl1 : b < w1.heap.size := by have := BB.size; omega
  refine wp_region_grows 13 [isV (.pointer (some ⟨w.heap.size, 0, none⟩)), isV (.slice (some ⟨b, off, none⟩) rs.length cap), isV (.pointer (some ⟨b, off, none⟩)), isV (.pointer (some ⟨b, off, none⟩)), isV (.string x.1), isV (.pointer (some ⟨w.heap.size, 0, none⟩)), isV (.slice (some ⟨b, off, none⟩) rs.length cap), isV (.pointer (some ⟨b, off, none⟩)), isV (.pointer (some ⟨b, off + 1, none⟩)), isV (.string x.2.1), isSl w1.heap.size 9 2 #[.string x.1, .string x.2.1], isV (.int .i64 2), isV (.int .i64 0)] (by kernel_rfl) (by kernel_rfl) rfl (by repeat (first | exact AllStay.nil | refine AllStay.cons (stays_v _) ?_ | refine AllStay.cons (stays_own _ _ _ _ _ _) ?_ | refine AllStay.cons (stays_box _ _ _) ?_ | refine AllStay.cons (stays_sl _ _ _ _) ?_ | (refine AllStay.cons (by with_reducible assumption) ?_))) ?_; intro vs
  refine wpGrow_step rfl (by intro w' hb hd; clear hd; unfold growAt; go_simp; exact growV) ?_
  refine wpGrow_step rfl (by intro w' hb hd; have d0 := kV (hd 0 (by decide)) rfl; clear hd; have D' := D.later hb; have D'c := D'.cell; unfold growAt; go_simp; exact growV) ?_
  refine wpGrow_step rfl (by intro w' hb hd; have d1 := kV (hd 1 (by decide)) rfl; clear hd; unfold growAt; go_simp; exact growV) ?_
  refine wpGrow_step rfl (by intro w' hb hd; have d2 := kV (hd 2 (by decide)) rfl; clear hd; unfold growAt; go_simp; exact growV) ?_
  refine wpGrow_step rfl (by intro w' hb hd; have d3 := kV (hd 3 (by decide)) rfl; clear hd; unfold growAt; go_simp; (have q0 := (bcell hb).1 b off hbl1; rw [o0] at q0; go_simp; exact growV)) ?_
  refine wpGrow_step rfl (by intro w' hb hd; clear hd; unfold growAt; go_simp; exact growV) ?_
  refine wpGrow_step rfl (by intro w' hb hd; have d5 := kV (hd 5 (by decide)) rfl; clear hd; have D' := D.later hb; have D'c := D'.cell; unfold growAt; go_simp; exact growV) ?_
  refine wpGrow_step rfl (by intro w' hb hd; have d6 := kV (hd 6 (by decide)) rfl; clear hd; unfold growAt; go_simp; exact growV) ?_
  refine wpGrow_step rfl (by intro w' hb hd; have d7 := kV (hd 7 (by decide)) rfl; clear hd; unfold growAt; go_simp; exact growV) ?_
  refine wpGrow_step rfl (by intro w' hb hd; have d8 := kV (hd 8 (by decide)) rfl; clear hd; unfold growAt; go_simp; (have q1 := (bcell hb).1 b (off + 1) hbl1; rw [o1] at q1; go_simp; exact growV)) ?_
  refine wpGrow_step rfl (by intro w' hb hd; have d4 := kV (hd 4 (by decide)) rfl; have d9 := kV (hd 9 (by decide)) rfl; clear hd; unfold growAt; go_simp; exact growSl hb.size) ?_
  refine wpGrow_step rfl (by intro w' hb hd; (obtain ⟨g10, d10, gb10, B10⟩ := kSl (hd 10 (by decide)) rfl; have B10c := B10.cell; have B10f := B10.frozen; have B10s := B10.lt); clear hd; unfold growAt; go_simp; exact growV) ?_
  refine wpGrow_step rfl (by intro w' hb hd; clear hd; unfold growAt; go_simp; exact growV) ?_
  intro w2 hb2 hk; have d0 := kV (hk 0 (by omega)) rfl; have d1 := kV (hk 1 (by omega)) rfl; have d2 := kV (hk 2 (by omega)) rfl; have d3 := kV (hk 3 (by omega)) rfl; have d4 := kV (hk 4 (by omega)) rfl; have d5 := kV (hk 5 (by omega)) rfl; have d6 := kV (hk 6 (by omega)) rfl; have d7 := kV (hk 7 (by omega)) rfl; have d8 := kV (hk 8 (by omega)) rfl; have d9 := kV (hk 9 (by omega)) rfl; (obtain ⟨g10, d10, gb10, B10⟩ := kSl (hk 10 (by omega)) rfl; have B10c := B10.cell; have B10f := B10.frozen; have B10s := B10.lt); have d11 := kV (hk 11 (by omega)) rfl; have d12 := kV (hk 12 (by omega)) rfl; simp only [d0, d1, d2, d3, d4, d5, d6, d7, d8, d9, d10, d11, d12, Act.put, List.setIfInBounds_toArray, List.set_cons_succ, List.set_cons_zero]; clear hk d0 d1 d2 d3 d4 d5 d6 d7 d8 d9 d10 d11 d12
  have hz1 : w.heap.size < w1.heap.size := D.lt
  ((apply Blk.use (w := w2) (g := w.heap.size); (focus (apply Blk.lat hb2; (repeat (first | with_reducible assumption | ((with_reducible apply Blk.new'); first | rfl | (simp; done)) | with_reducible apply Blk.set_ | (with_reducible apply Blk.far' (by first | (simp; done) | (simp; omega))) | with_reducible apply Blk.alloc | with_reducible apply Blk.drew)))); clear D Dc Df Ds; intro D; (try simp only [List.setIfInBounds_toArray, List.set_cons_zero, List.set_cons_succ] at D); have Dc := D.cell; have Df := D.frozen; have Ds := D.lt); (have BBn : Below w.heap.size w w2 := (by (repeat (first | (with_reducible refine bset ?_ (by first | (simp; done) | (simp; omega)) _) | (with_reducible refine balloc ?_ _) | (with_reducible refine bdrew ?_) | with_reducible exact Below.refl _ _ | (refine bthen ?_ (by with_reducible assumption)) | (refine bthen ?_ (by assumption)) | exact Below.refl _ _))); clear BB; have BB := BBn; clear BBn); clear hb2)
  clear o0 o1
  generalize g10 = gS at *
  have S := B10
  clear B10 B10c B10f
  have S := S
  go_wp2
  go_loopw [24, 3] (fun i acc wr => ∃ j : Nat, j ≤ 2 ∧ i = .int .i64 j ∧ acc = .int .i64 (baseAcc rs x j) ∧ Blk wr gS 9 #[.string x.1, .string x.2.1] ∧ Blk wr w.heap.size 42 #[.slice (some ⟨b, off, none⟩) rs.length cap, .int .i64 p] ∧ Below w.heap.size w wr) (fun i _ _ => 2 - (intOf i).toNat)
  case atStart => exact ⟨0, by omega, rfl, rfl, S, D, BB⟩
  case round =>
    clear BB D Dc Df Ds S
    obtain ⟨j, hj, rfl, rfl, S, D, BB⟩ := hrel
    have Dc := D.cell
    have Df := D.frozen
    have Ds := D.lt
    by_cases hlt : j < 2
    · have i1 : (j : Int) < 2 := by omega
      have c0 : _ = some (Value.string (pick x j)) := S.at (i := j) (by
        have hjj : j = 0 ∨ j = 1 := by omega
        rcases hjj with rfl | rfl <;> rfl)
      have hE := fun w => HE.out j w (HP.out j)
      have hstep : baseAcc rs x (j + 1) = baseStep rs (pick x j).data.toList (baseAcc rs x j) := rfl
      unfold baseStep foundAll at hstep
      rcases hv : heldOf (pick x j).data.toList with ⟨q, y, hb⟩
      rw [hv] at hE hstep
      dsimp only at hE hstep
      generalize pick x j = sj at *
      obtain ⟨nxt, hnxt⟩ : ∃ n, baseAcc rs x (j + 1) = n := ⟨_, rfl⟩
      rw [hnxt] at hstep
      have HN := Lib.hid hnxt
      generalize hacc : baseAcc rs x j = acc at *
      generalize hmv : rs.any (missing q) = m at *
      have HE2 := Lib.hid hE
      have HStep := Lib.hid hstep
      have HX2 : Hid (∀ (w : World) (F : Nat), Blk w F 24 #[.int .i64 q, .string (bs y)] → Rd w 3 (.slice (some ⟨b, off, none⟩) rs.length cap) rs.length (flat encReg rs) → Gives Try.prog 66 #[.slice (some ⟨b, off, none⟩) rs.length cap, .func (.func 70) #[] #[.pointer (some ⟨F, 0, none⟩)]] w (.bool m)) := Lib.hid fun w F hF hr => by
        rw [← hmv]; exact containsMiss_i rs _ F q (bs y) HM.out w hF hr
      clear hE hstep hv hnxt hacc hmv HE HP
      cases hb <;> cases m
      all_goals
        go_wp2_with (first
          | (go_at_call 69; refine (HE2.out _).use.mono ?_; rintro e w3 ⟨rfl, hb3⟩; clear c0; (apply Blk.use (w := w3) (g := gS); (focus (apply Blk.lat hb3; (repeat (first | with_reducible assumption | ((with_reducible apply Blk.new'); first | rfl | (simp; done)) | with_reducible apply Blk.set_ | (with_reducible apply Blk.far' (by first | (simp; done) | (simp; omega))) | with_reducible apply Blk.alloc | with_reducible apply Blk.drew)))); clear S; intro S); ((apply Blk.use (w := w3) (g := w.heap.size); (focus (apply Blk.lat hb3; (repeat (first | with_reducible assumption | ((with_reducible apply Blk.new'); first | rfl | (simp; done)) | with_reducible apply Blk.set_ | (with_reducible apply Blk.far' (by first | (simp; done) | (simp; omega))) | with_reducible apply Blk.alloc | with_reducible apply Blk.drew)))); clear D Dc Df Ds; intro D; (try simp only [List.setIfInBounds_toArray, List.set_cons_zero, List.set_cons_succ] at D); have Dc := D.cell; have Df := D.frozen; have Ds := D.lt); (have BBn : Below w.heap.size w w3 := (by (repeat (first | (with_reducible refine bset ?_ (by first | (simp; done) | (simp; omega)) _) | (with_reducible refine balloc ?_ _) | (with_reducible refine bdrew ?_) | with_reducible exact Below.refl _ _ | (refine bthen ?_ (by with_reducible assumption)) | (refine bthen ?_ (by assumption)) | exact Below.refl _ _))); clear BB; have BB := BBn; clear BBn); clear hb3))
          | (go_at_call 66; refine (HX2.out _ w3.heap.size (by (repeat (first | with_reducible assumption | ((with_reducible apply Blk.new'); first | rfl | (simp; done)) | with_reducible apply Blk.set_ | (with_reducible apply Blk.far' (by first | (simp; done) | (simp; omega))) | with_reducible apply Blk.alloc | with_reducible apply Blk.drew))) (HR.out.later (by (repeat (first | (with_reducible refine bset ?_ (by first | (simp; done) | (simp; omega)) _) | (with_reducible refine balloc ?_ _) | (with_reducible refine bdrew ?_) | with_reducible exact Below.refl _ _ | (refine bthen ?_ (by with_reducible assumption)) | (refine bthen ?_ (by assumption)) | exact Below.refl _ _))))).use.mono ?_; rintro e w4 ⟨rfl, hb4⟩; (apply Blk.use (w := w4) (g := gS); (focus (apply Blk.lat hb4; (repeat (first | with_reducible assumption | ((with_reducible apply Blk.new'); first | rfl | (simp; done)) | with_reducible apply Blk.set_ | (with_reducible apply Blk.far' (by first | (simp; done) | (simp; omega))) | with_reducible apply Blk.alloc | with_reducible apply Blk.drew)))); clear S; intro S); ((apply Blk.use (w := w4) (g := w.heap.size); (focus (apply Blk.lat hb4; (repeat (first | with_reducible assumption | ((with_reducible apply Blk.new'); first | rfl | (simp; done)) | with_reducible apply Blk.set_ | (with_reducible apply Blk.far' (by first | (simp; done) | (simp; omega))) | with_reducible apply Blk.alloc | with_reducible apply Blk.drew)))); clear D Dc Df Ds; intro D; (try simp only [List.setIfInBounds_toArray, List.set_cons_zero, List.set_cons_succ] at D); have Dc := D.cell; have Df := D.frozen; have Ds := D.lt); (apply Blk.use (w := w4) (g := w3.heap.size); (focus (apply Blk.lat hb4; (repeat (first | with_reducible assumption | ((with_reducible apply Blk.new'); first | rfl | (simp; done)) | with_reducible apply Blk.set_ | (with_reducible apply Blk.far' (by first | (simp; done) | (simp; omega))) | with_reducible apply Blk.alloc | with_reducible apply Blk.drew)))); intro F; (try simp only [List.setIfInBounds_toArray, List.set_cons_zero, List.set_cons_succ] at F); have Fc := F.cell; have Ff := F.frozen; have Fs := F.lt); (have BBn : Below w.heap.size w w4 := (by (repeat (first | (with_reducible refine bset ?_ (by first | (simp; done) | (simp; omega)) _) | (with_reducible refine balloc ?_ _) | (with_reducible refine bdrew ?_) | with_reducible exact Below.refl _ _ | (refine bthen ?_ (by with_reducible assumption)) | (refine bthen ?_ (by assumption)) | exact Below.refl _ _))); clear BB; have BB := BBn; clear BBn); clear hb4)))
        exact ⟨⟨j + 1, by omega, by go_num, by rw [HN.out, HStep.out]; first | rfl | (congr 1; simp [Int.max_def]; (repeat split) <;> omega), S, D, BB⟩, by simp [intOf]; omega⟩
    · obtain rfl : j = 2 := by omega
      go_wp2
      go_ret
      exact ⟨rfl, BB⟩
end Go.Proofs.Ytnehiflandjkoaa
