import Derived.Test.YtnehiflandjkoaaD7
set_option linter.unusedSimpArgs false
set_option linter.unusedVariables false
namespace Go.Proofs.Ytnehiflandjkoaa
open Go.RowKit M
namespace M
def found (q : Int) (r : Reg) : Bool := (ofReg r q).2.2
end M
theorem l01Max_s (a b : Int) (w : World) : Gives Try.prog 74 #[.int .i64 a, .int .i64 b] w (.int .i64 (max a b)) := by
  unfold Gives
  by_cases h : b < a
  · have e : max a b = a := Int.max_eq_left (by omega)
    rw [e]
    clear e
    go_enter Try.func74, Try.ntmps74
    go_wp2
    go_ret
    exact ⟨rfl, by (repeat (first | (with_reducible refine bset ?_ (by first | (simp; done) | (simp; omega)) _) | (with_reducible refine balloc ?_ _) | (with_reducible refine bdrew ?_) | with_reducible exact Below.refl _ _ | (refine bthen ?_ (by with_reducible assumption)) | (refine bthen ?_ (by assumption)) | exact Below.refl _ _))⟩
  · have e : max a b = b := Int.max_eq_right (by omega)
    have HE := Lib.hid e
    rw [e]
    clear e
    go_enter Try.func74, Try.ntmps74
    go_wp2
    go_ret
    exact ⟨rfl, by (repeat (first | (with_reducible refine bset ?_ (by first | (simp; done) | (simp; omega)) _) | (with_reducible refine balloc ?_ _) | (with_reducible refine bdrew ?_) | with_reducible exact Below.refl _ _ | (refine bthen ?_ (by with_reducible assumption)) | (refine bthen ?_ (by assumption)) | exact Below.refl _ _))⟩
theorem field_code (q : Int) (t : ByteArray) (z c : Int) (w : World) : (Instr.field 30 (.agg #[.int .i64 q, .string t, .int .i64 z, .int .i64 c]) 2).run Try.prog w = .ok (.int .i64 c) w := by kernel_rfl
theorem baseStep_s {rs : List Reg} {x : Reg} {j : Nat} (hx : rs[0]? = some x) (hj : j < 2) (acc : Int) :
    baseStep rs (pick x j).data.toList acc = if (decide ((slotFO (pick x j).data.toList).2.2.2 = 0) && (rs.drop 1).all (found (slotFO (pick x j).data.toList).1)) = true then max acc (slotFO (pick x j).data.toList).1 else acc := by
  obtain ⟨r, rfl⟩ : ∃ r, rs = x :: r := by
    cases rs with
    | nil => simp at hx
    | cons y r => exact ⟨r, by simp at hx; rw [hx]⟩
  unfold baseStep
  rcases slotFO_held (pick x j).data.toList with ⟨h1, h2, h3, _⟩ | ⟨h1, h2⟩
  · have hf : found (heldOf (pick x j).data.toList).1 x = true := by
      have hok : okAt x (heldOf (pick x j).data.toList).1 j = true := by unfold okAt; rw [h2]; simp
      unfold found ofReg
      by_cases h0 : okAt x (heldOf (pick x j).data.toList).1 0 = true
      · rw [if_pos h0]
      · rw [if_neg h0]
        have hj1 : j = 1 := by
          have : j = 0 ∨ j = 1 := by omega
          rcases this with rfl | rfl
          · exact absurd hok h0
          · rfl
        subst hj1
        rw [if_pos hok]
    have hfa : foundAll (x :: r) (heldOf (pick x j).data.toList).1 = ((x :: r).drop 1).all (found (heldOf (pick x j).data.toList).1) := by
      unfold foundAll
      rw [List.any_cons, List.drop_one, List.tail_cons, List.all_eq_not_any_not]
      have : missing (heldOf (pick x j).data.toList).1 x = false := by unfold missing; unfold found at hf; rw [hf]; rfl
      rw [this, Bool.false_or]
      rfl
    rw [hfa, h2, h1, h3]
    rfl
  · rw [h2, decide_eq_false h1]
    simp

set_option maxRecDepth 100000 in
set_option maxHeartbeats 4000000 in
theorem diskBase_s_ok (rs : List Reg) (v : Value) (p : Int) (h : diskOk rs p = true) (w : World) (hr : Rd w 3 v rs.length (flat encReg rs)) :
    Gives Try.prog 34 #[.agg #[v, .int .i64 p]] w (.int .i64 (baseAcc rs (rs.getD 0 noReg) 2)) := by
  unfold Gives
  have hD := fun w hr => diskRight_s rs v p w hr
  rw [h] at hD
  have hl := diskOk_len' h
  obtain ⟨x, hx, hxd, hxm⟩ := reg_at (rs := rs) (k := 0) (by omega)
  have HM : Hid (∀ y ∈ rs, y.1.size ≤ maxLen ∧ y.2.1.size ≤ maxLen) := Lib.hid fun y hy => reg_max h hy
  have hxl := reg_max h hxm
  rw [hxd]
  have HS : Hid (∀ j acc, j < 2 → _) := Lib.hid fun j acc hj => baseStep_s (rs := rs) (x := x) (j := j) hx hj acc
  have HO : Hid (∀ (k : Nat) (seq : Int) (w : World), k < rs.length → Rd w 3 v rs.length (flat encReg rs) → Gives Try.prog 73 #[.agg #[v, .int .i64 p], .int .i64 k, .int .i64 seq] w (encFO (ofFO (ofReg (rs.getD k noReg) seq)))) := Lib.hid fun k seq w hk hr => by
    obtain ⟨y, hy, hyd, hym⟩ := reg_at hk
    rw [hyd]
    exact l16Of_s rs v p k seq y hy (HM.out y hym).1 (HM.out y hym).2 w hr
  obtain ⟨A0, cap, rfl, hn, hcap, hform⟩ := hr.form
  unfold maxLen at hcap
  obtain ⟨b, off, rfl, hcells⟩ := hform (by omega)
  have hc01 := reg0_cells hx hcells
  have hbl : b < w.heap.size := World.block_lt_of_cell? w _ hc01.1
  have HC : Hid (∀ w', Below w.heap.size w w' → w'.cell? ⟨b, off, none⟩ = some (.string x.1) ∧ w'.cell? ⟨b, off + 1, none⟩ = some (.string x.2.1)) :=
    Lib.hid fun w' hb => ⟨by rw [(bcell hb).1 _ _ hbl]; exact hc01.1, by rw [(bcell hb).1 _ _ hbl]; exact hc01.2⟩
  have HE : Hid (∀ w, Gives Try.prog 72 #[.string x.1] w (encFO (slotFO x.1.data.toList))) := Lib.hid fun w => l16Slot_s _ hxl.1 w
  have HF : Hid (∀ w, Gives Try.prog 72 #[.string x.2.1] w (encFO (slotFO x.2.1.data.toList))) := Lib.hid fun w => l16Slot_s _ hxl.2 w
  have HR := Lib.hid hr
  have HD := Lib.hid hD
  have i0 : (0 : Nat) < rs.length := by omega
  have BB : Below w.heap.size w w := Below.refl _ _
  have HP0 : Hid ((pick x 0).data.toList = x.1.data.toList) := Lib.hid rfl
  have HP1 : Hid ((pick x 1).data.toList = x.2.1.data.toList) := Lib.hid rfl
  rcases hv0 : slotFO x.1.data.toList with ⟨q0, t0, z0, e0⟩
  rcases hv1 : slotFO x.2.1.data.toList with ⟨q1, t1, z1, e1⟩
  rw [hv0] at HE
  rw [hv1] at HF
  unfold encFO at HE HF
  dsimp only at HE HF
  have HV0 := Lib.hid hv0
  have HV1 := Lib.hid hv1
  clear hr h hD hform hcells hc01 hx hxd hxm hxl hv0 hv1
  go_enter Try.func34, Try.ntmps34
  go_upto_region 4 with (go_at_call 30; refine (HD.out _ (HR.out.later (by (repeat (first | (with_reducible refine bset ?_ (by first | (simp; done) | (simp; omega)) _) | (with_reducible refine balloc ?_ _) | (with_reducible refine bdrew ?_) | with_reducible exact Below.refl _ _ | (refine bthen ?_ (by with_reducible assumption)) | (refine bthen ?_ (by assumption)) | exact Below.refl _ _))))).use.mono ?_; rintro e w1 ⟨rfl, hb1⟩; ((apply Blk.use (w := w1) (g := w.heap.size); (focus (apply Blk.lat hb1; (repeat (first | with_reducible assumption | ((with_reducible apply Blk.new'); first | rfl | (simp; done)) | with_reducible apply Blk.set_ | (with_reducible apply Blk.far' (by first | (simp; done) | (simp; omega))) | with_reducible apply Blk.alloc | with_reducible apply Blk.drew)))); intro D; (try simp only [List.setIfInBounds_toArray, List.set_cons_zero, List.set_cons_succ] at D); have Dc := D.cell; have Df := D.frozen; have Ds := D.lt); (have BBn : Below w.heap.size w w1 := (by (repeat (first | (with_reducible refine bset ?_ (by first | (simp; done) | (simp; omega)) _) | (with_reducible refine balloc ?_ _) | (with_reducible refine bdrew ?_) | with_reducible exact Below.refl _ _ | (refine bthen ?_ (by with_reducible assumption)) | (refine bthen ?_ (by assumption)) | exact Below.refl _ _))); clear BB; have BB := BBn; clear BBn); clear hb1))
  obtain ⟨o0, o1⟩ := HC.out _ BB
  have hbl1 : b < w1.heap.size := by have := BB.size; omega
  refine wp_region_grows 14 [isV (.pointer (some ⟨w.heap.size, 0, none⟩)), isV (.slice (some ⟨b, off, none⟩) rs.length cap), isV (.pointer (some ⟨b, off, none⟩)), isV (.pointer (some ⟨b, off, none⟩)), isV (.string x.1), isV (.agg #[.int .i64 q0, .string (bs t0), .int .i64 z0, .int .i64 e0]), isV (.pointer (some ⟨w.heap.size, 0, none⟩)), isV (.slice (some ⟨b, off, none⟩) rs.length cap), isV (.pointer (some ⟨b, off, none⟩)), isV (.pointer (some ⟨b, off + 1, none⟩)), isV (.string x.2.1), isV (.agg #[.int .i64 q1, .string (bs t1), .int .i64 z1, .int .i64 e1]), isSl w1.heap.size 30 2 #[.int .i64 q0, .string (bs t0), .int .i64 z0, .int .i64 e0, .int .i64 q1, .string (bs t1), .int .i64 z1, .int .i64 e1], isSl w1.heap.size 30 2 #[.int .i64 q0, .string (bs t0), .int .i64 z0, .int .i64 e0, .int .i64 q1, .string (bs t1), .int .i64 z1, .int .i64 e1]] (by kernel_rfl) (by kernel_rfl) rfl (by repeat (first | exact AllStay.nil | refine AllStay.cons (stays_v _) ?_ | refine AllStay.cons (stays_own _ _ _ _ _ _) ?_ | refine AllStay.cons (stays_box _ _ _) ?_ | refine AllStay.cons (stays_sl _ _ _ _) ?_ | (refine AllStay.cons (by with_reducible assumption) ?_))) ?_; intro vs
  refine wpGrow_step rfl (by intro w' hb hd; clear hd; unfold growAt; go_simp; exact growV) ?_
  refine wpGrow_step rfl (by intro w' hb hd; have d0 := kV (hd 0 (by decide)) rfl; clear hd; have D' := D.later hb; have D'c := D'.cell; unfold growAt; go_simp; exact growV) ?_
  refine wpGrow_step rfl (by intro w' hb hd; have d1 := kV (hd 1 (by decide)) rfl; clear hd; unfold growAt; go_simp; exact growV) ?_
  refine wpGrow_step rfl (by intro w' hb hd; have d2 := kV (hd 2 (by decide)) rfl; clear hd; unfold growAt; go_simp; exact growV) ?_
  refine wpGrow_step rfl (by intro w' hb hd; have d3 := kV (hd 3 (by decide)) rfl; clear hd; unfold growAt; go_simp; (have r0 := (bcell hb).1 b off hbl1; rw [o0] at r0; go_simp; exact growV)) ?_
  refine wpGrow_step rfl (by intro w' hb hd; have d4 := kV (hd 4 (by decide)) rfl; clear hd; unfold growAt; go_simp; exact growGives (HE.out _)) ?_
  refine wpGrow_step rfl (by intro w' hb hd; clear hd; unfold growAt; go_simp; exact growV) ?_
  refine wpGrow_step rfl (by intro w' hb hd; have d6 := kV (hd 6 (by decide)) rfl; clear hd; have D' := D.later hb; have D'c := D'.cell; unfold growAt; go_simp; exact growV) ?_
  refine wpGrow_step rfl (by intro w' hb hd; have d7 := kV (hd 7 (by decide)) rfl; clear hd; unfold growAt; go_simp; exact growV) ?_
  refine wpGrow_step rfl (by intro w' hb hd; have d8 := kV (hd 8 (by decide)) rfl; clear hd; unfold growAt; go_simp; exact growV) ?_
  refine wpGrow_step rfl (by intro w' hb hd; have d9 := kV (hd 9 (by decide)) rfl; clear hd; unfold growAt; go_simp; (have r1 := (bcell hb).1 b (off + 1) hbl1; rw [o1] at r1; go_simp; exact growV)) ?_
  refine wpGrow_step rfl (by intro w' hb hd; have d10 := kV (hd 10 (by decide)) rfl; clear hd; unfold growAt; go_simp; exact growGives (HF.out _)) ?_
  refine wpGrow_step rfl (by intro w' hb hd; have d5 := kV (hd 5 (by decide)) rfl; have d11 := kV (hd 11 (by decide)) rfl; clear hd; unfold growAt; go_simp; exact growSl hb.size) ?_
  refine wpGrow_step rfl (by intro w' hb hd; have k12 := hd 12 (by decide); clear hd; unfold growAt; go_simp; (exact ⟨Below.refl _ _, k12⟩)) ?_
  intro w2 hb2 hk; have d0 := kV (hk 0 (by omega)) rfl; have d1 := kV (hk 1 (by omega)) rfl; have d2 := kV (hk 2 (by omega)) rfl; have d3 := kV (hk 3 (by omega)) rfl; have d4 := kV (hk 4 (by omega)) rfl; have d5 := kV (hk 5 (by omega)) rfl; have d6 := kV (hk 6 (by omega)) rfl; have d7 := kV (hk 7 (by omega)) rfl; have d8 := kV (hk 8 (by omega)) rfl; have d9 := kV (hk 9 (by omega)) rfl; have d10 := kV (hk 10 (by omega)) rfl; have d11 := kV (hk 11 (by omega)) rfl; (obtain ⟨g12, d12, gb12, B12⟩ := kSl (hk 12 (by omega)) rfl; have B12c := B12.cell; have B12f := B12.frozen; have B12s := B12.lt); (obtain ⟨g13, d13, gb13, B13⟩ := kSl (hk 13 (by omega)) rfl; have B13c := B13.cell; have B13f := B13.frozen; have B13s := B13.lt); simp only [d0, d1, d2, d3, d4, d5, d6, d7, d8, d9, d10, d11, d12, d13, Act.put, List.setIfInBounds_toArray, List.set_cons_succ, List.set_cons_zero]; clear hk d0 d1 d2 d3 d4 d5 d6 d7 d8 d9 d10 d11 d12 d13
  have hz1 : w.heap.size < w1.heap.size := D.lt
  ((apply Blk.use (w := w2) (g := w.heap.size); (focus (apply Blk.lat hb2; (repeat (first | with_reducible assumption | ((with_reducible apply Blk.new'); first | rfl | (simp; done)) | with_reducible apply Blk.set_ | (with_reducible apply Blk.far' (by first | (simp; done) | (simp; omega))) | with_reducible apply Blk.alloc | with_reducible apply Blk.drew)))); clear D Dc Df Ds; intro D; (try simp only [List.setIfInBounds_toArray, List.set_cons_zero, List.set_cons_succ] at D); have Dc := D.cell; have Df := D.frozen; have Ds := D.lt); (have BBn : Below w.heap.size w w2 := (by (repeat (first | (with_reducible refine bset ?_ (by first | (simp; done) | (simp; omega)) _) | (with_reducible refine balloc ?_ _) | (with_reducible refine bdrew ?_) | with_reducible exact Below.refl _ _ | (refine bthen ?_ (by with_reducible assumption)) | (refine bthen ?_ (by assumption)) | exact Below.refl _ _))); clear BB; have BB := BBn; clear BBn); clear hb2)
  clear o0 o1 B12 B12c B12f B12s
  generalize g13 = gS at *
  have S := B13
  clear B13 B13c B13f
  go_wp2
  go_loopw [5, 3] (fun i acc wr => ∃ j : Nat, j ≤ 2 ∧ i = .int .i64 j ∧ acc = .int .i64 (baseAcc rs x j) ∧ Blk wr gS 30 #[.int .i64 q0, .string (bs t0), .int .i64 z0, .int .i64 e0, .int .i64 q1, .string (bs t1), .int .i64 z1, .int .i64 e1] ∧ Blk wr w.heap.size 42 #[.slice (some ⟨b, off, none⟩) rs.length cap, .int .i64 p] ∧ Below w.heap.size w wr) (fun i _ _ => 2 - (intOf i).toNat)
  case atStart => exact ⟨0, by omega, rfl, rfl, S, D, BB⟩
  case round =>
    clear BB D Dc Df Ds S
    obtain ⟨j, hj, rfl, rfl, S, D, BB⟩ := hrel
    by_cases hlt : j < 2
    · obtain ⟨q, e, HQ, HC3, HST⟩ : ∃ q e : Int, Hid (∀ w', Blk w' gS 30 #[.int .i64 q0, .string (bs t0), .int .i64 z0, .int .i64 e0, .int .i64 q1, .string (bs t1), .int .i64 z1, .int .i64 e1] → w'.cell? ⟨gS, j * 4, none⟩ = some (.int .i64 q)) ∧ Hid (∀ w', Blk w' gS 30 #[.int .i64 q0, .string (bs t0), .int .i64 z0, .int .i64 e0, .int .i64 q1, .string (bs t1), .int .i64 z1, .int .i64 e1] → w'.cell? ⟨gS, j * 4 + 3, none⟩ = some (.int .i64 e)) ∧ Hid (baseAcc rs x (j + 1) = if (decide (e = 0) && (rs.drop 1).all (found q)) = true then max (baseAcc rs x j) q else baseAcc rs x j) := by
        have hb := HS.out j (baseAcc rs x j) hlt
        have hjj : j = 0 ∨ j = 1 := by omega
        rcases hjj with rfl | rfl
        · rw [HP0.out, HV0.out] at hb
          exact ⟨q0, e0, Lib.hid fun w' h => h.at rfl, Lib.hid fun w' h => h.at rfl, Lib.hid hb⟩
        · rw [HP1.out, HV1.out] at hb
          exact ⟨q1, e1, Lib.hid fun w' h => h.at rfl, Lib.hid fun w' h => h.at rfl, Lib.hid hb⟩
      have i1 : (j : Int) < 2 := by omega
      have cq := HQ.out _ S
      have ce := HC3.out _ S
      have Dc := D.cell
      obtain ⟨nxt, hnxt⟩ : ∃ n, baseAcc rs x (j + 1) = n := ⟨_, rfl⟩
      rw [hnxt] at HST
      have HN := Lib.hid hnxt
      generalize baseAcc rs x j = acc at *
      obtain ⟨b0, hb0⟩ : ∃ b0 : Bool, (e == 0) = b0 := ⟨_, rfl⟩
      have HB0 : Hid (decide (e = 0) = b0) := Lib.hid (by rw [← hb0]; rfl)
      clear hnxt HS HP0 HP1 HV0 HV1 HE HF
      go_wp2
      go_loopw [6, 7] (fun al r w2 => ∃ (k : Nat) (bb : Bool), 1 ≤ k ∧ k ≤ rs.length ∧ r = .int .i64 k ∧ al = .bool bb ∧ Hid (bb = (b0 && ((rs.take k).drop 1).all (found q))) ∧ Blk w2 gS 30 #[.int .i64 q0, .string (bs t0), .int .i64 z0, .int .i64 e0, .int .i64 q1, .string (bs t1), .int .i64 z1, .int .i64 e1] ∧ Blk w2 w.heap.size 42 #[.slice (some ⟨b, off, none⟩) rs.length cap, .int .i64 p] ∧ Below w.heap.size w w2) (fun _ r _ => rs.length - (intOf r).toNat)
      case atStart => exact ⟨1, b0, by omega, by omega, rfl, rfl, Lib.hid (by rw [show (rs.take 1).drop 1 = [] by rw [List.drop_eq_nil_of_le (by rw [List.length_take]; omega)]]; simp), S, D, BB⟩
      case round =>
        clear BB D Dc S cq ce
        obtain ⟨k, bb, hk1, hk, rfl, rfl, HBB, S, D, BB⟩ := hrel
        have Dc := D.cell
        by_cases hgo : k < rs.length ∧ bb = true
        · obtain ⟨hkl, rfl⟩ := hgo
          have hki : (k : Int) < rs.length := by omega
          have HOK : Hid (∀ w', Below w.heap.size w w' → Gives Try.prog 73 #[.agg #[.slice (some ⟨b, off, none⟩) rs.length cap, .int .i64 p], .int .i64 k, .int .i64 q] w' (encFO (ofFO (ofReg (rs.getD k noReg) q)))) := Lib.hid fun w' hb => HO.out k q w' hkl (HR.out.later hb)
          have hts : ((rs.take (k + 1)).drop 1).all (found q) = (((rs.take k).drop 1).all (found q) && (ofReg (rs.getD k noReg) q).2.2) := by
            obtain ⟨y, hy, hyd, _⟩ := reg_at hkl
            rw [hyd, List.take_add_one, hy, List.drop_append_of_le_length (by rw [List.length_take]; omega), List.all_append]
            simp [found]
          rcases hfv : ofReg (rs.getD k noReg) q with ⟨fq, ft, fb⟩
          rw [hfv] at HOK hts
          dsimp only at hts
          have HTS : Hid (fb = (b0 && ((rs.take (k + 1)).drop 1).all (found q))) := Lib.hid (by rw [hts, ← Bool.and_assoc, ← HBB.out, Bool.true_and])
          clear hfv hts HBB
          have l0 := fun y => D.atL (i := 0) rfl y
          have l1 := fun y => D.atL (i := 1) rfl y
          have cq := HQ.out _ S
          have l2 := fun y => lcell cq y
          have hfd := field_code
          unfold encFO ofFO at HOK
          dsimp only at HOK
          cases fb
          all_goals
            simp only [Bool.false_eq_true, if_false, if_true] at HOK
            go_wp2
            refine wp_region_later (by kernel_rfl) (by kernel_rfl) ?_
            repeat (go_big_quiet_step ((go_at_call 73; exact Gives.later _ (HOK.out _ (bthen BB (Later.ok _))))))
            refine wpQuiet_nil ?_
            rintro _ ⟨y, rfl⟩
            have hy := y.ok
            clear l0 l1 l2 cq Dc hfd
            generalize y.now = w5 at *
            have S5 := S.later hy
            have D5 := D.later hy
            have BB5 : Below w.heap.size w w5 := bthen BB hy
            clear S D BB hy
            go_wp2
            go_roundw
            case rel => exact ⟨k + 1, _, by omega, by omega, by go_num, rfl, HTS, S5, D5, BB5⟩
            case measure => simp [intOf]; omega
        · have hex : ((k : Int) < rs.length ∧ bb = false) ∨ (¬ (k : Int) < rs.length ∧ k = rs.length) := by
            by_cases hkl : k < rs.length
            · left
              refine ⟨by omega, ?_⟩
              cases bb
              · rfl
              · exact absurd ⟨hkl, rfl⟩ hgo
            · right; exact ⟨by omega, by omega⟩
          have HNX : Hid (nxt = if bb = true then max acc q else acc) := Lib.hid (by
            rw [HST.out, HB0.out]
            rcases hex with ⟨_, rfl⟩ | ⟨_, rfl⟩
            · have hz : (b0 && (rs.drop 1).all (found q)) = false := by
                cases hc : (b0 && (rs.drop 1).all (found q)) with
                | false => rfl
                | true =>
                  exfalso
                  have h1 := HBB.out
                  rw [Bool.and_eq_true] at hc
                  rw [hc.1, Bool.true_and] at h1
                  have h2 : ((rs.take k).drop 1).all (found q) = true := by
                    rw [List.all_eq_true] at hc ⊢
                    intro y hy
                    refine hc.2 y ?_
                    rw [List.drop_take] at hy
                    exact List.mem_of_mem_take hy
                  rw [h2] at h1; cases h1
              rw [hz]
            · rw [List.take_length] at HBB
              rw [← HBB.out])
          have cq := HQ.out _ S
          clear HBB HST hgo
          rcases hex with ⟨x1, rfl⟩ | ⟨x1, rfl⟩
          · have HNY : Hid (nxt = acc) := Lib.hid HNX.out
            go_wp2
            go_roundw
            case rel => exact ⟨j + 1, by omega, by go_num, by rw [HN.out, HNY.out], S, D, BB⟩
            case measure => simp [intOf]; omega
          · cases bb
            · have HNY : Hid (nxt = acc) := Lib.hid HNX.out
              go_wp2
              go_roundw
              case rel => exact ⟨j + 1, by omega, by go_num, by rw [HN.out, HNY.out], S, D, BB⟩
              case measure => simp [intOf]; omega
            · have HNY : Hid (nxt = max acc q) := Lib.hid HNX.out
              go_wp2_with (go_at_call 74; refine (l01Max_s _ _ _).use.mono ?_; rintro e w5 ⟨rfl, hb5⟩)
              have S5 := S.later hb5
              have D5 := D.later hb5
              have BB5 : Below w.heap.size w w5 := bthen BB hb5
              clear S D BB hb5
              go_roundw
              case rel => exact ⟨j + 1, by omega, by go_num, by rw [HN.out, HNY.out], S5, D5, BB5⟩
              case measure => simp [intOf]; omega
    · obtain rfl : j = 2 := by omega
      go_wp2
      go_ret
      exact ⟨rfl, BB⟩
end Go.Proofs.Ytnehiflandjkoaa
namespace Go.Proofs.Ytnehiflandjkoaa
open Go.RowKit M

set_option maxRecDepth 100000 in
theorem diskBase_i (rs : List Reg) (v : Value) (p : Int) (w : World) (hr : Rd w 3 v rs.length (flat encReg rs)) :
    Gives Try.prog 33 #[.agg #[v, .int .i64 p]] w (.int .i64 (baseOf rs p)) := by
  unfold baseOf
  cases h : diskOk rs p
  · rw [if_pos rfl]
    unfold Gives
    have hD := fun w hr => diskRight_i rs v p w hr
    rw [h] at hD
    obtain ⟨A, cap, rfl, _⟩ := hr.form
    have HR := Lib.hid hr
    have HD := Lib.hid hD
    clear hr h hD
    go_enter Try.func33, Try.ntmps33
    go_wp2_with (go_at_call 29; refine (HD.out _ (HR.out.later (by (repeat (first | (with_reducible refine bset ?_ (by first | (simp; done) | (simp; omega)) _) | (with_reducible refine balloc ?_ _) | (with_reducible refine bdrew ?_) | with_reducible exact Below.refl _ _ | (refine bthen ?_ (by with_reducible assumption)) | (refine bthen ?_ (by assumption)) | exact Below.refl _ _))))).use.mono ?_; rintro e w1 ⟨rfl, hb1⟩)
    go_ret
    exact ⟨rfl, by (repeat (first | (with_reducible refine bset ?_ (by first | (simp; done) | (simp; omega)) _) | (with_reducible refine balloc ?_ _) | (with_reducible refine bdrew ?_) | with_reducible exact Below.refl _ _ | (refine bthen ?_ (by with_reducible assumption)) | (refine bthen ?_ (by assumption)) | exact Below.refl _ _))⟩
  · rw [if_neg (by simp)]
    exact diskBase_i_ok rs v p h w hr
set_option maxRecDepth 100000 in
theorem diskBase_s (rs : List Reg) (v : Value) (p : Int) (w : World) (hr : Rd w 3 v rs.length (flat encReg rs)) :
    Gives Try.prog 34 #[.agg #[v, .int .i64 p]] w (.int .i64 (baseOf rs p)) := by
  unfold baseOf
  cases h : diskOk rs p
  · rw [if_pos rfl]
    unfold Gives
    have hD := fun w hr => diskRight_s rs v p w hr
    rw [h] at hD
    obtain ⟨A, cap, rfl, _⟩ := hr.form
    have HR := Lib.hid hr
    have HD := Lib.hid hD
    clear hr h hD
    go_enter Try.func34, Try.ntmps34
    go_wp2_with (go_at_call 30; refine (HD.out _ (HR.out.later (by (repeat (first | (with_reducible refine bset ?_ (by first | (simp; done) | (simp; omega)) _) | (with_reducible refine balloc ?_ _) | (with_reducible refine bdrew ?_) | with_reducible exact Below.refl _ _ | (refine bthen ?_ (by with_reducible assumption)) | (refine bthen ?_ (by assumption)) | exact Below.refl _ _))))).use.mono ?_; rintro e w1 ⟨rfl, hb1⟩)
    go_ret
    exact ⟨rfl, by (repeat (first | (with_reducible refine bset ?_ (by first | (simp; done) | (simp; omega)) _) | (with_reducible refine balloc ?_ _) | (with_reducible refine bdrew ?_) | with_reducible exact Below.refl _ _ | (refine bthen ?_ (by with_reducible assumption)) | (refine bthen ?_ (by assumption)) | exact Below.refl _ _))⟩
  · rw [if_neg (by simp)]
    exact diskBase_s_ok rs v p h w hr
end Go.Proofs.Ytnehiflandjkoaa
