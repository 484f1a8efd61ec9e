import Derived.Test.YtnehiflandjkoaaC4
import Derived.Test.YtnehiflandjkoaaBlk
import Derived.ArgAppend
import Derived.Deep.RegionLawGrows
import Derived.Deep.MidRow
set_option linter.unusedSimpArgs false
set_option linter.unusedVariables false
namespace Go.Proofs.Ytnehiflandjkoaa
open Go.RowKit M

/-! ### copies of a disk -/
theorem flat_one (rs : List Reg) : ∀ u ∈ flat encReg rs, u.oneCell' = true := by
  intro u hu
  simp only [flat, List.mem_flatten, List.mem_map] at hu
  obtain ⟨l, ⟨r, _, rfl⟩, hu⟩ := hu
  simp only [encReg, List.mem_cons, List.not_mem_nil, or_false] at hu
  rcases hu with rfl | rfl | rfl <;> rfl
theorem own_set {w : World} {base e s n : Nat} {v : Value} {xs : List Value} (h : w.ownsRow base e s v n xs) {p : Addr} (hp : p.block < base) (u : Value) : (w.setCell p u).ownsRow base e s v n xs := ownsRow_setCell_below h hp u
theorem own_alloc {w : World} {base e s n : Nat} {v : Value} {xs : List Value} (h : w.ownsRow base e s v n xs) (o : Obj) : (w.alloc o).ownsRow base e s v n xs := h.alloc o
theorem own_below {w w' : World} {base e s n : Nat} {v : Value} {xs : List Value} (h : w.ownsRow base e s v n xs) (hb : Below w.heap.size w w') : w'.ownsRow base e s v n xs := own_keep h hb
theorem below_of_grown {b c : World} (hg : b.grownBy c none) : Below b.heap.size b c := ⟨hg.os, hg.tape, hg.output, hg.size, fun k hk => hg.block k hk (by simp)⟩
theorem cell_add {w w' : World} {b off : Nat} {xs : List Value} (hc : ∀ j u, xs[j]? = some u → w.cell? ⟨b, off + j, none⟩ = some u) (hb : Below w.heap.size w w') (j : Nat) (u : Value) (hu : xs[j]? = some u) : w'.cell? ((⟨b, off, none⟩ : Addr).add j) = some u := by
  have h := hc j u hu
  rw [Addr.add_mid, (bcell hb).1 _ _ (World.block_lt_of_cell? w _ h)]
  exact h
theorem below_grown {a b c : World} (h : Below a.heap.size a b) (hg : b.grownBy c none) : Below a.heap.size a c :=
  bthen h ⟨hg.os, hg.tape, hg.output, hg.size, fun k hk => hg.block k hk (by simp)⟩

theorem clone_i (rs : List Reg) (v : Value) (hl : 1 ≤ rs.length ∧ rs.length ≤ 13) (w : World) (hr : Rd w 3 v rs.length (flat encReg rs)) :
    Calls Try.prog 90 #[v] w fun e w' => NewRegs w e w' rs := by
  obtain ⟨i0, hi, hz0, hz1, hz2⟩ := info_parts info_Region
  obtain ⟨A, cap, rfl, hn, hcap, hc⟩ := hr.form
  obtain ⟨b, off, rfl, hcells⟩ := hc (by omega)
  have hc2 : ∀ j u, (flat encReg rs)[j]? = some u → ∀ o : Obj, (w.alloc o).cell? ((⟨b, off, none⟩ : Addr).add j) = some u := fun j u hu o => by
    have h := hcells j u hu
    rw [Addr.add_mid, (bcell (bnew w o)).1 _ _ (World.block_lt_of_cell? w _ h)]
    exact h
  have HC := Lib.hid hc2
  have HL := Lib.hid (flat_length encReg_len rs)
  have hnil : ∀ w : World, (binOp .eql 40 (.slice (some ⟨b, off, none⟩) rs.length cap) (.slice none 0 0)).run Try.prog w = .ok (.bool false) w := fun w => Lib.run_eql_slice_nil w _ _ _ _ _ _ _ Try.underlying40
  clear hcells hc2 hc hr
  go_enter Try.func90, Try.ntmps90
  go_wp2_with (at_builtin; refine wpList_append_grows _ rfl _ _ _ (by rfl) 57 i0 _ 3 48 Try.underlying40 hi hz0 hz1 hz2 (by rfl) (by omega) (some ⟨w.heap.size, 0, none⟩) 0 0 [] (by rfl) (fun h => (by cases h)) rfl (fun _ _ _ _ h => (by simp at h)) ⟨b, off, none⟩ rs.length cap (flat encReg rs) (by rfl) HL.out (fun j u hu => HC.out j u hu _) (flat_one rs) (by omega) (by unfold maxLen; omega) (by omega) ?_; intro v1 w1 hown1 hgrow1)
  go_ret
  simp only [Nat.zero_add, List.nil_append] at hown1
  obtain ⟨A1, c1, rfl, _⟩ := (Rd.of_own hown1).form
  exact ⟨A1, c1, rfl, own_base hown1 (by simp), below_grown (bnew _ _) hgrow1⟩

theorem copyDisk_i (rs : List Reg) (v : Value) (p : Int) (hl : 1 ≤ rs.length ∧ rs.length ≤ 13) (w : World) (hr : Rd w 3 v rs.length (flat encReg rs)) :
    Calls Try.prog 85 #[.agg #[v, .int .i64 p]] w fun e w' => NewDisk w e w' rs p := by
  obtain ⟨A, cap, rfl, _⟩ := hr.form
  have HR := Lib.hid hr
  have HL := Lib.hid hl
  clear hr hl
  go_enter Try.func85, Try.ntmps85
  go_wp2_with fail
  go_region_with (go_at_call 90; refine (clone_i rs _ HL.out _ (HR.out.later (by (repeat (first | (with_reducible refine bset ?_ (by first | (simp; done) | (simp; omega)) _) | (with_reducible refine balloc ?_ _) | (with_reducible refine bdrew ?_) | with_reducible exact Below.refl _ _ | (refine bthen ?_ (by with_reducible assumption)) | (refine bthen ?_ (by assumption)) | exact Below.refl _ _))))).mono ?_; rintro e w1 ⟨A1, c1, rfl, ho1, hb1⟩; (apply Blk.use (w := w1) (g := w.heap.size); (focus (apply Blk.lat hb1; (repeat (first | with_reducible assumption | ((with_reducible apply Blk.new'); first | rfl | (simp; done)) | with_reducible apply Blk.set_ | (with_reducible apply Blk.far' (by first | (simp; done) | (simp; omega))) | with_reducible apply Blk.alloc | with_reducible apply Blk.drew)))); intro D1; (try simp only [List.setIfInBounds_toArray, List.set_cons_zero, List.set_cons_succ] at D1); have D1c := D1.cell; have D1f := D1.frozen; have D1s := D1.lt); (apply Blk.use (w := w1) (g := w.heap.size + 1); (focus (apply Blk.lat hb1; (repeat (first | with_reducible assumption | ((with_reducible apply Blk.new'); first | rfl | (simp; done)) | with_reducible apply Blk.set_ | (with_reducible apply Blk.far' (by first | (simp; done) | (simp; omega))) | with_reducible apply Blk.alloc | with_reducible apply Blk.drew)))); intro Z1; (try simp only [List.setIfInBounds_toArray, List.set_cons_zero, List.set_cons_succ] at Z1); have Z1c := Z1.cell; have Z1f := Z1.frozen; have Z1s := Z1.lt))
  all_goals go_wp2
  all_goals refine bodyPost_ret (v := .agg #[.slice A1 rs.length c1, .int .i64 p]) (by simp [results, Try.results85, go_sem, Z1c, Z1f]) rfl ⟨A1, c1, rfl, own_base (own_set (own_set ho1 (by simp) _) (by simp) _) (by simp; omega), by (repeat (first | (with_reducible refine bset ?_ (by first | (simp; done) | (simp; omega)) _) | (with_reducible refine balloc ?_ _) | (with_reducible refine bdrew ?_) | with_reducible exact Below.refl _ _ | (refine bthen ?_ (by with_reducible assumption)) | (refine bthen ?_ (by assumption)) | exact Below.refl _ _))⟩
theorem copyDisk_s (rs : List Reg) (v : Value) (p : Int) (hl : 1 ≤ rs.length ∧ rs.length ≤ 13) (w : World) (hr : Rd w 3 v rs.length (flat encReg rs)) :
    Calls Try.prog 63 #[.agg #[v, .int .i64 p]] w fun e w' => NewDisk w e w' rs p := by
  obtain ⟨i0, hi, hz0, hz1, hz2⟩ := info_parts info_Region
  have hr1 := hr
  obtain ⟨A, cap, rfl, hn, hcap, hc⟩ := hr.form
  obtain ⟨b, off, rfl, hcells⟩ := hc (by omega)
  have HR := Lib.hid hcells
  have HL := Lib.hid (flat_length encReg_len rs)
  clear hr hc hcells hr1
  go_enter Try.func63, Try.ntmps63
  go_wp2_with fail
  go_region_law ((refine step_append_grows (by rfl) _ _ _ (by rfl) 57 i0 _ 3 48 Try.underlying40 hi hz0 hz1 hz2 (by rfl) (by omega) (some ⟨w.heap.size + 1 + 1, 0, none⟩) 0 0 [] (by rfl) (fun h => (by cases h)) rfl (fun _ _ _ _ h => (by simp at h)) ⟨b, off, none⟩ rs.length cap (flat encReg rs) (by rfl) HL.out (fun j u hu => cell_add HR.out (by (repeat (first | (with_reducible refine bset ?_ (by first | (simp; done) | (simp; omega)) _) | (with_reducible refine balloc ?_ _) | (with_reducible refine bdrew ?_) | with_reducible exact Below.refl _ _ | (refine bthen ?_ (by with_reducible assumption)) | (refine bthen ?_ (by assumption)) | exact Below.refl _ _))) j u hu) (flat_one rs) (by omega) (by unfold maxLen; omega) (by omega) ?_; intro v1 w1 hown1 hgrow1; simp only [Nat.zero_add, List.nil_append] at hown1; obtain ⟨A1, c1, rfl, _⟩ := (Rd.of_own hown1).form; have hb1 := below_of_grown hgrow1; (apply Blk.use (w := w1) (g := w.heap.size); (focus (apply Blk.lat hb1; (repeat (first | with_reducible assumption | ((with_reducible apply Blk.new'); first | rfl | (simp; done)) | with_reducible apply Blk.set_ | (with_reducible apply Blk.far' (by first | (simp; done) | (simp; omega))) | with_reducible apply Blk.alloc | with_reducible apply Blk.drew)))); intro D1; (try simp only [List.setIfInBounds_toArray, List.set_cons_zero, List.set_cons_succ] at D1); have D1c := D1.cell; have D1f := D1.frozen; have D1s := D1.lt); (apply Blk.use (w := w1) (g := w.heap.size + 1); (focus (apply Blk.lat hb1; (repeat (first | with_reducible assumption | ((with_reducible apply Blk.new'); first | rfl | (simp; done)) | with_reducible apply Blk.set_ | (with_reducible apply Blk.far' (by first | (simp; done) | (simp; omega))) | with_reducible apply Blk.alloc | with_reducible apply Blk.drew)))); intro Z1; (try simp only [List.setIfInBounds_toArray, List.set_cons_zero, List.set_cons_succ] at Z1); have Z1c := Z1.cell; have Z1f := Z1.frozen; have Z1s := Z1.lt)))
  all_goals go_wp2
  all_goals refine bodyPost_ret (v := .agg #[.slice A1 rs.length c1, .int .i64 p]) (by simp [results, Try.results63, go_sem, Z1c, Z1f]) rfl ⟨A1, c1, rfl, own_base (own_set (own_set hown1 (by simp) _) (by simp) _) (by simp; omega), by (repeat (first | (with_reducible refine bset ?_ (by first | (simp; done) | (simp; omega)) _) | (with_reducible refine balloc ?_ _) | (with_reducible refine bdrew ?_) | with_reducible exact Below.refl _ _ | (refine bthen ?_ (by with_reducible assumption)) | (refine bthen ?_ (by assumption)) | exact Below.refl _ _))⟩

/-! ### what a disk refuses -/
namespace M
def stage (rs : List Reg) (p r : Int) : Int := if diskOk rs p = false then 1 else if 0 ≤ r ∧ r < rs.length then (if p = 0 then 12 else 0) else 6
end M
/-- a result of disk and code, the disk in memory that the call made -/
def NewOut (w : World) (e : Ending) (w' : World) (rs : List Reg) (p c : Int) : Prop :=
  ∃ A cap, e = .returned (.agg #[.slice A rs.length cap, .int .i64 p, .int .i64 c]) ∧ w'.ownsRow w.heap.size 57 3 (.slice A rs.length cap) rs.length (flat encReg rs) ∧ Below w.heap.size w w'
theorem diskOk_len' {rs : List Reg} {p : Int} (h : diskOk rs p = true) : 1 ≤ rs.length ∧ rs.length ≤ 13 := by
  unfold diskOk at h; simp at h; omega
theorem stage_bad {rs : List Reg} {p r : Int} (h : diskOk rs p = false) : stage rs p r = 1 := if_pos h
theorem stage_none {rs : List Reg} {p r : Int} (h : diskOk rs p = true) (hr : ¬ (0 ≤ r ∧ r < rs.length)) : stage rs p r = 6 := by unfold stage; rw [h]; simp only [Bool.true_eq_false, if_false]; rw [if_neg hr]
theorem stage_down {rs : List Reg} {r : Int} (h : diskOk rs 0 = true) (hr : 0 ≤ r ∧ r < rs.length) : stage rs 0 r = 12 := by unfold stage; simp [h, hr.1, hr.2]
theorem stage_ok {rs : List Reg} {p r : Int} (h : diskOk rs p = true) (hr : 0 ≤ r ∧ r < rs.length) (hp : p ≠ 0) : stage rs p r = 0 := by unfold stage; rw [h]; simp only [Bool.true_eq_false, if_false]; rw [if_pos hr, if_neg hp]

set_option maxRecDepth 100000 in
theorem begin_i_bad (rs : List Reg) (v : Value) (p r : Int) (w : World) (hr : Rd w 3 v rs.length (flat encReg rs)) (h : diskOk rs p = false) :
    Calls Try.prog 58 #[.agg #[v, .int .i64 p], .int .i64 r] w fun e w' => NewOut w e w' [] 0 1 := by
  have hD := fun w hr => diskRight_i rs v p w hr
  rw [h] at hD
  obtain ⟨A, cap, rfl, _⟩ := hr.form
  have HR := Lib.hid hr
  have HD := Lib.hid hD
  clear hr h hD
  go_enter Try.func58, Try.ntmps58
  go_wp2_with (go_at_call 29; refine (HD.out _ (HR.out.later (by (repeat (first | (with_reducible refine bset ?_ (by first | (simp; done) | (simp; omega)) _) | (with_reducible refine balloc ?_ _) | (with_reducible refine bdrew ?_) | with_reducible exact Below.refl _ _ | (refine bthen ?_ (by with_reducible assumption)) | (refine bthen ?_ (by assumption)) | exact Below.refl _ _))))).use.mono ?_; rintro e w1 ⟨rfl, hb1⟩; (apply Blk.use (w := w1) (g := w.heap.size + 1); (focus (apply Blk.lat hb1; (repeat (first | with_reducible assumption | ((with_reducible apply Blk.new'); first | rfl | (simp; done)) | with_reducible apply Blk.set_ | (with_reducible apply Blk.far' (by first | (simp; done) | (simp; omega))) | with_reducible apply Blk.alloc | with_reducible apply Blk.drew)))); intro Z1; (try simp only [List.setIfInBounds_toArray, List.set_cons_zero, List.set_cons_succ] at Z1); have Z1c := Z1.cell; have Z1f := Z1.frozen; have Z1s := Z1.lt))
  exact bodyPost_ret (v := .agg #[.slice none 0 0, .int .i64 0, .int .i64 1]) (by simp [results, Try.results58, go_sem, Z1c, Z1f]) rfl ⟨none, 0, rfl, World.ownsRow_nil _ _ _ _, by (repeat (first | (with_reducible refine bset ?_ (by first | (simp; done) | (simp; omega)) _) | (with_reducible refine balloc ?_ _) | (with_reducible refine bdrew ?_) | with_reducible exact Below.refl _ _ | (refine bthen ?_ (by with_reducible assumption)) | (refine bthen ?_ (by assumption)) | exact Below.refl _ _))⟩
set_option maxRecDepth 100000 in
theorem begin_i_none (rs : List Reg) (v : Value) (p r : Int) (w : World) (hr : Rd w 3 v rs.length (flat encReg rs)) (h : diskOk rs p = true) (hq : ¬ (0 ≤ r ∧ r < rs.length)) :
    Calls Try.prog 58 #[.agg #[v, .int .i64 p], .int .i64 r] w fun e w' => NewOut w e w' [] 0 6 := by
  have hD := fun w hr => diskRight_i rs v p w hr
  have hl := diskOk_len' h
  rw [h] at hD
  obtain ⟨A, cap, rfl, _⟩ := hr.form
  have hW : ∀ w, Gives Try.prog 65 #[.int .i64 r, .int .i64 0, .int .i64 (rs.length - 1)] w (.bool false) := fun w => by
    have h := within_i r 0 (rs.length - 1) w
    rwa [show (decide ((0 : Int) ≤ r) && decide (r ≤ rs.length - 1)) = false by rw [Bool.eq_false_iff]; simp; omega] at h
  have HR := Lib.hid hr
  have HD := Lib.hid hD
  clear hr h hD hq
  go_enter Try.func58, Try.ntmps58
  go_wp2_with (first
    | (go_at_call 29; refine (HD.out _ (HR.out.later (by (repeat (first | (with_reducible refine bset ?_ (by first | (simp; done) | (simp; omega)) _) | (with_reducible refine balloc ?_ _) | (with_reducible refine bdrew ?_) | with_reducible exact Below.refl _ _ | (refine bthen ?_ (by with_reducible assumption)) | (refine bthen ?_ (by assumption)) | exact Below.refl _ _))))).use.mono ?_; rintro e w1 ⟨rfl, hb1⟩; (apply Blk.use (w := w1) (g := w.heap.size + 1); (focus (apply Blk.lat hb1; (repeat (first | with_reducible assumption | ((with_reducible apply Blk.new'); first | rfl | (simp; done)) | with_reducible apply Blk.set_ | (with_reducible apply Blk.far' (by first | (simp; done) | (simp; omega))) | with_reducible apply Blk.alloc | with_reducible apply Blk.drew)))); intro Z1; (try simp only [List.setIfInBounds_toArray, List.set_cons_zero, List.set_cons_succ] at Z1); have Z1c := Z1.cell; have Z1f := Z1.frozen; have Z1s := Z1.lt); (apply Blk.use (w := w1) (g := w.heap.size); (focus (apply Blk.lat hb1; (repeat (first | with_reducible assumption | ((with_reducible apply Blk.new'); first | rfl | (simp; done)) | with_reducible apply Blk.set_ | (with_reducible apply Blk.far' (by first | (simp; done) | (simp; omega))) | with_reducible apply Blk.alloc | with_reducible apply Blk.drew)))); intro D1; (try simp only [List.setIfInBounds_toArray, List.set_cons_zero, List.set_cons_succ] at D1); have D1c := D1.cell; have D1f := D1.frozen; have D1s := D1.lt))
    | (go_at_call 65; refine (hW _).use.mono ?_; rintro e w2 ⟨rfl, hb2⟩; (apply Blk.use (w := w2) (g := w.heap.size + 1); (focus (apply Blk.lat hb2; (repeat (first | with_reducible assumption | ((with_reducible apply Blk.new'); first | rfl | (simp; done)) | with_reducible apply Blk.set_ | (with_reducible apply Blk.far' (by first | (simp; done) | (simp; omega))) | with_reducible apply Blk.alloc | with_reducible apply Blk.drew)))); intro Z2; (try simp only [List.setIfInBounds_toArray, List.set_cons_zero, List.set_cons_succ] at Z2); have Z2c := Z2.cell; have Z2f := Z2.frozen; have Z2s := Z2.lt)))
  exact bodyPost_ret (v := .agg #[.slice none 0 0, .int .i64 0, .int .i64 6]) (by simp [results, Try.results58, go_sem, Z2c, Z2f]) rfl ⟨none, 0, rfl, World.ownsRow_nil _ _ _ _, by (repeat (first | (with_reducible refine bset ?_ (by first | (simp; done) | (simp; omega)) _) | (with_reducible refine balloc ?_ _) | (with_reducible refine bdrew ?_) | with_reducible exact Below.refl _ _ | (refine bthen ?_ (by with_reducible assumption)) | (refine bthen ?_ (by assumption)) | exact Below.refl _ _))⟩
set_option maxRecDepth 100000 in
theorem begin_i_down (rs : List Reg) (v : Value) (r : Int) (w : World) (hr : Rd w 3 v rs.length (flat encReg rs)) (h : diskOk rs 0 = true) (hq : 0 ≤ r ∧ r < rs.length) :
    Calls Try.prog 58 #[.agg #[v, .int .i64 0], .int .i64 r] w fun e w' => NewOut w e w' rs 0 12 := by
  have hD := fun w hr => diskRight_i rs v 0 w hr
  have hl := diskOk_len' h
  rw [h] at hD
  obtain ⟨A, cap, rfl, _⟩ := hr.form
  have hW : ∀ w, Gives Try.prog 65 #[.int .i64 r, .int .i64 0, .int .i64 (rs.length - 1)] w (.bool true) := fun w => by
    have h := within_i r 0 (rs.length - 1) w
    rwa [show (decide ((0 : Int) ≤ r) && decide (r ≤ rs.length - 1)) = true by simp; omega] at h
  have hp0 : ((0 : Int) == 0) = decide ((0 : Int) = 0) := by rw [Bool.eq_iff_iff]; simp
  try rw [show decide ((0 : Int) = 0) = false by simpa using hp] at hp0
  try clear hp
  have HR := Lib.hid hr
  have HD := Lib.hid hD
  clear hr h hD hq
  go_enter Try.func58, Try.ntmps58
  go_wp2_with (first
    | (go_at_call 29; refine (HD.out _ (HR.out.later (by (repeat (first | (with_reducible refine bset ?_ (by first | (simp; done) | (simp; omega)) _) | (with_reducible refine balloc ?_ _) | (with_reducible refine bdrew ?_) | with_reducible exact Below.refl _ _ | (refine bthen ?_ (by with_reducible assumption)) | (refine bthen ?_ (by assumption)) | exact Below.refl _ _))))).use.mono ?_; rintro e w1 ⟨rfl, hb1⟩; (apply Blk.use (w := w1) (g := w.heap.size + 1); (focus (apply Blk.lat hb1; (repeat (first | with_reducible assumption | ((with_reducible apply Blk.new'); first | rfl | (simp; done)) | with_reducible apply Blk.set_ | (with_reducible apply Blk.far' (by first | (simp; done) | (simp; omega))) | with_reducible apply Blk.alloc | with_reducible apply Blk.drew)))); intro Z1; (try simp only [List.setIfInBounds_toArray, List.set_cons_zero, List.set_cons_succ] at Z1); have Z1c := Z1.cell; have Z1f := Z1.frozen; have Z1s := Z1.lt); (apply Blk.use (w := w1) (g := w.heap.size); (focus (apply Blk.lat hb1; (repeat (first | with_reducible assumption | ((with_reducible apply Blk.new'); first | rfl | (simp; done)) | with_reducible apply Blk.set_ | (with_reducible apply Blk.far' (by first | (simp; done) | (simp; omega))) | with_reducible apply Blk.alloc | with_reducible apply Blk.drew)))); intro D1; (try simp only [List.setIfInBounds_toArray, List.set_cons_zero, List.set_cons_succ] at D1); have D1c := D1.cell; have D1f := D1.frozen; have D1s := D1.lt))
    | (go_at_call 65; refine (hW _).use.mono ?_; rintro e w2 ⟨rfl, hb2⟩; (apply Blk.use (w := w2) (g := w.heap.size + 1); (focus (apply Blk.lat hb2; (repeat (first | with_reducible assumption | ((with_reducible apply Blk.new'); first | rfl | (simp; done)) | with_reducible apply Blk.set_ | (with_reducible apply Blk.far' (by first | (simp; done) | (simp; omega))) | with_reducible apply Blk.alloc | with_reducible apply Blk.drew)))); intro Z2; (try simp only [List.setIfInBounds_toArray, List.set_cons_zero, List.set_cons_succ] at Z2); have Z2c := Z2.cell; have Z2f := Z2.frozen; have Z2s := Z2.lt); (apply Blk.use (w := w2) (g := w.heap.size); (focus (apply Blk.lat hb2; (repeat (first | with_reducible assumption | ((with_reducible apply Blk.new'); first | rfl | (simp; done)) | with_reducible apply Blk.set_ | (with_reducible apply Blk.far' (by first | (simp; done) | (simp; omega))) | with_reducible apply Blk.alloc | with_reducible apply Blk.drew)))); intro D2; (try simp only [List.setIfInBounds_toArray, List.set_cons_zero, List.set_cons_succ] at D2); have D2c := D2.cell; have D2f := D2.frozen; have D2s := D2.lt); clear Z1 Z1c Z1f Z1s D1 D1c D1f D1s)
    | (go_at_call 85; refine (copyDisk_i rs _ _ hl _ (HR.out.later (by (repeat (first | (with_reducible refine bset ?_ (by first | (simp; done) | (simp; omega)) _) | (with_reducible refine balloc ?_ _) | (with_reducible refine bdrew ?_) | with_reducible exact Below.refl _ _ | (refine bthen ?_ (by with_reducible assumption)) | (refine bthen ?_ (by assumption)) | exact Below.refl _ _))))).mono ?_; rintro e w3 ⟨A3, c3, rfl, ho3, hb3⟩; (apply Blk.use (w := w3) (g := w.heap.size + 1); (focus (apply Blk.lat hb3; (repeat (first | with_reducible assumption | ((with_reducible apply Blk.new'); first | rfl | (simp; done)) | with_reducible apply Blk.set_ | (with_reducible apply Blk.far' (by first | (simp; done) | (simp; omega))) | with_reducible apply Blk.alloc | with_reducible apply Blk.drew)))); intro Z3; (try simp only [List.setIfInBounds_toArray, List.set_cons_zero, List.set_cons_succ] at Z3); have Z3c := Z3.cell; have Z3f := Z3.frozen; have Z3s := Z3.lt)))
  exact bodyPost_ret (v := .agg #[.slice A3 rs.length c3, .int .i64 0, .int .i64 12]) (by simp [results, Try.results58, go_sem, Z3c, Z3f]) rfl ⟨A3, c3, rfl, own_base (own_set (own_set (own_set ho3 (by have := Z2.lt; simpa using this) _) (by have := Z2.lt; simpa using this) _) (by have := Z2.lt; simpa using this) _) (by have := D2.lt; omega), by (repeat (first | (with_reducible refine bset ?_ (by first | (simp; done) | (simp; omega)) _) | (with_reducible refine balloc ?_ _) | (with_reducible refine bdrew ?_) | with_reducible exact Below.refl _ _ | (refine bthen ?_ (by with_reducible assumption)) | (refine bthen ?_ (by assumption)) | exact Below.refl _ _))⟩
set_option maxRecDepth 100000 in
theorem begin_i_ok (rs : List Reg) (v : Value) (p r : Int) (w : World) (hr : Rd w 3 v rs.length (flat encReg rs)) (h : diskOk rs p = true) (hq : 0 ≤ r ∧ r < rs.length) (hp : p ≠ 0) :
    Calls Try.prog 58 #[.agg #[v, .int .i64 p], .int .i64 r] w fun e w' => NewOut w e w' rs p 0 := by
  have hD := fun w hr => diskRight_i rs v p w hr
  have hl := diskOk_len' h
  rw [h] at hD
  obtain ⟨A, cap, rfl, _⟩ := hr.form
  have hW : ∀ w, Gives Try.prog 65 #[.int .i64 r, .int .i64 0, .int .i64 (rs.length - 1)] w (.bool true) := fun w => by
    have h := within_i r 0 (rs.length - 1) w
    rwa [show (decide ((0 : Int) ≤ r) && decide (r ≤ rs.length - 1)) = true by simp; omega] at h
  have hp0 : ((p : Int) == 0) = decide ((p : Int) = 0) := by rw [Bool.eq_iff_iff]; simp
  try rw [show decide ((p : Int) = 0) = false by simpa using hp] at hp0
  try clear hp
  have HR := Lib.hid hr
  have HD := Lib.hid hD
  clear hr h hD hq
  go_enter Try.func58, Try.ntmps58
  go_wp2_with (first
    | (go_at_call 29; refine (HD.out _ (HR.out.later (by (repeat (first | (with_reducible refine bset ?_ (by first | (simp; done) | (simp; omega)) _) | (with_reducible refine balloc ?_ _) | (with_reducible refine bdrew ?_) | with_reducible exact Below.refl _ _ | (refine bthen ?_ (by with_reducible assumption)) | (refine bthen ?_ (by assumption)) | exact Below.refl _ _))))).use.mono ?_; rintro e w1 ⟨rfl, hb1⟩; (apply Blk.use (w := w1) (g := w.heap.size + 1); (focus (apply Blk.lat hb1; (repeat (first | with_reducible assumption | ((with_reducible apply Blk.new'); first | rfl | (simp; done)) | with_reducible apply Blk.set_ | (with_reducible apply Blk.far' (by first | (simp; done) | (simp; omega))) | with_reducible apply Blk.alloc | with_reducible apply Blk.drew)))); intro Z1; (try simp only [List.setIfInBounds_toArray, List.set_cons_zero, List.set_cons_succ] at Z1); have Z1c := Z1.cell; have Z1f := Z1.frozen; have Z1s := Z1.lt); (apply Blk.use (w := w1) (g := w.heap.size); (focus (apply Blk.lat hb1; (repeat (first | with_reducible assumption | ((with_reducible apply Blk.new'); first | rfl | (simp; done)) | with_reducible apply Blk.set_ | (with_reducible apply Blk.far' (by first | (simp; done) | (simp; omega))) | with_reducible apply Blk.alloc | with_reducible apply Blk.drew)))); intro D1; (try simp only [List.setIfInBounds_toArray, List.set_cons_zero, List.set_cons_succ] at D1); have D1c := D1.cell; have D1f := D1.frozen; have D1s := D1.lt))
    | (go_at_call 65; refine (hW _).use.mono ?_; rintro e w2 ⟨rfl, hb2⟩; (apply Blk.use (w := w2) (g := w.heap.size + 1); (focus (apply Blk.lat hb2; (repeat (first | with_reducible assumption | ((with_reducible apply Blk.new'); first | rfl | (simp; done)) | with_reducible apply Blk.set_ | (with_reducible apply Blk.far' (by first | (simp; done) | (simp; omega))) | with_reducible apply Blk.alloc | with_reducible apply Blk.drew)))); intro Z2; (try simp only [List.setIfInBounds_toArray, List.set_cons_zero, List.set_cons_succ] at Z2); have Z2c := Z2.cell; have Z2f := Z2.frozen; have Z2s := Z2.lt); (apply Blk.use (w := w2) (g := w.heap.size); (focus (apply Blk.lat hb2; (repeat (first | with_reducible assumption | ((with_reducible apply Blk.new'); first | rfl | (simp; done)) | with_reducible apply Blk.set_ | (with_reducible apply Blk.far' (by first | (simp; done) | (simp; omega))) | with_reducible apply Blk.alloc | with_reducible apply Blk.drew)))); intro D2; (try simp only [List.setIfInBounds_toArray, List.set_cons_zero, List.set_cons_succ] at D2); have D2c := D2.cell; have D2f := D2.frozen; have D2s := D2.lt); clear Z1 Z1c Z1f Z1s D1 D1c D1f D1s)
    | (go_at_call 85; refine (copyDisk_i rs _ _ hl _ (HR.out.later (by (repeat (first | (with_reducible refine bset ?_ (by first | (simp; done) | (simp; omega)) _) | (with_reducible refine balloc ?_ _) | (with_reducible refine bdrew ?_) | with_reducible exact Below.refl _ _ | (refine bthen ?_ (by with_reducible assumption)) | (refine bthen ?_ (by assumption)) | exact Below.refl _ _))))).mono ?_; rintro e w3 ⟨A3, c3, rfl, ho3, hb3⟩; (apply Blk.use (w := w3) (g := w.heap.size + 1); (focus (apply Blk.lat hb3; (repeat (first | with_reducible assumption | ((with_reducible apply Blk.new'); first | rfl | (simp; done)) | with_reducible apply Blk.set_ | (with_reducible apply Blk.far' (by first | (simp; done) | (simp; omega))) | with_reducible apply Blk.alloc | with_reducible apply Blk.drew)))); intro Z3; (try simp only [List.setIfInBounds_toArray, List.set_cons_zero, List.set_cons_succ] at Z3); have Z3c := Z3.cell; have Z3f := Z3.frozen; have Z3s := Z3.lt)))
  exact bodyPost_ret (v := .agg #[.slice A3 rs.length c3, .int .i64 p, .int .i64 0]) (by simp [results, Try.results58, go_sem, Z3c, Z3f]) rfl ⟨A3, c3, rfl, own_base (own_set (own_set (own_set ho3 (by have := Z2.lt; simpa using this) _) (by have := Z2.lt; simpa using this) _) (by have := Z2.lt; simpa using this) _) (by have := D2.lt; omega), by (repeat (first | (with_reducible refine bset ?_ (by first | (simp; done) | (simp; omega)) _) | (with_reducible refine balloc ?_ _) | (with_reducible refine bdrew ?_) | with_reducible exact Below.refl _ _ | (refine bthen ?_ (by with_reducible assumption)) | (refine bthen ?_ (by assumption)) | exact Below.refl _ _))⟩
end Go.Proofs.Ytnehiflandjkoaa
