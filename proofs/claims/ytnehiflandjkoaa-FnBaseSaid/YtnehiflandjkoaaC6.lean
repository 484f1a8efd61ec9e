import Derived.Test.YtnehiflandjkoaaC5
set_option linter.unusedSimpArgs false
set_option linter.unusedVariables false
namespace Go.Proofs.Ytnehiflandjkoaa
open Go.RowKit M

theorem own_slice {w : World} {base e s n c : Nat} {A : Option Addr} {xs : List Value} (h : w.ownsRow base e s (.slice A n c) n xs) (hn : 0 < n) : ∃ g, A = some ⟨g, 0, none⟩ ∧ base ≤ g ∧ g < w.heap.size := by
  obtain ⟨g, cap', hv, h1, h2⟩ := h.form hn
  injection hv with hv1 hv2 hv3
  exact ⟨g, hv1, h1, h2⟩
theorem flat_setj : ∀ (rs : List Reg) (k j : Nat) (x y : Reg) (v : Value), rs[k]? = some x → j < 3 → (encReg x).set j v = encReg y → (flat encReg rs).set (k * 3 + j) v = flat encReg (rs.set k y)
  | [], k, j, x, y, v, h, _, _ => by simp at h
  | a :: l, 0, j, x, y, v, h, hj, he => by
    simp at h; subst h
    show (encReg a ++ flat encReg l).set (0 * 3 + j) v = encReg y ++ flat encReg l
    rw [Nat.zero_mul, Nat.zero_add, List.set_append_left _ _ (by rw [encReg_len]; exact hj), he]
  | a :: l, k + 1, j, x, y, v, h, hj, he => by
    show (encReg a ++ flat encReg l).set ((k + 1) * 3 + j) v = encReg a ++ flat encReg (l.set k y)
    rw [List.set_append_right _ _ (by rw [encReg_len]; omega), encReg_len, show (k + 1) * 3 + j - 3 = k * 3 + j by omega, flat_setj l k j x y v (by simpa using h) hj he]
/-- cells of an own row: there, not frozen, and stored -/
theorem own_at {w : World} {base e s n c g m : Nat} {xs : List Value} (h : w.ownsRow base e s (.slice (some ⟨g, 0, none⟩) n c) n xs) (hm : m < n * s) :
    (∃ u, w.cell? ⟨g, m, none⟩ = some u) ∧ w.frozen? ⟨g, m, none⟩ = false ∧ ∀ u, (w.setCell ⟨g, m, none⟩ u).ownsRow base e s (.slice (some ⟨g, 0, none⟩) n c) n (xs.set m u) :=
  ⟨⟨_, by rw [h.cellAt m hm]; exact List.getElem?_eq_getElem (by rw [h.1]; exact hm)⟩, h.frozenAt m, fun u => (h.stored m u).1⟩
namespace M
def setLog (rs : List Reg) (k : Nat) (t : ByteArray) : List Reg := rs.set k ((rs.getD k noReg).1, (rs.getD k noReg).2.1, t)
def illRs (rs : List Reg) (c : Int) : List Reg := if c = 12 then rs else []
def illP (p c : Int) : Int := if c = 12 then p else 0
end M
theorem setLog_len (rs : List Reg) (k : Nat) (t : ByteArray) : (setLog rs k t).length = rs.length := by simp [setLog]
theorem flat_log (rs : List Reg) (k : Nat) (t : ByteArray) (hk : k < rs.length) : (flat encReg rs).set (k * 3 + 2) (.string t) = flat encReg (setLog rs k t) := by
  have h : rs[k]? = some rs[k] := List.getElem?_eq_getElem hk
  have h2 : rs.getD k noReg = rs[k] := by rw [List.getD_eq_getElem?_getD, h]; rfl
  unfold setLog
  rw [h2]
  exact flat_setj rs k 2 _ _ _ h (by omega) rfl
theorem begin_i_ill (rs : List Reg) (v : Value) (p r : Int) (hc : stage rs p r ≠ 0) (w : World) (hr : Rd w 3 v rs.length (flat encReg rs)) :
    Calls Try.prog 58 #[.agg #[v, .int .i64 p], .int .i64 r] w fun e w' => NewOut w e w' (illRs rs (stage rs p r)) (illP p (stage rs p r)) (stage rs p r) := by
  cases h : diskOk rs p
  · rw [stage_bad h]
    exact begin_i_bad rs v p r w hr h
  · by_cases hq : 0 ≤ r ∧ r < rs.length
    · by_cases hp : p = 0
      · subst hp
        rw [stage_down h hq]
        exact begin_i_down rs v r w hr h hq
      · exact absurd (stage_ok h hq hp) hc
    · rw [stage_none h hq]
      exact begin_i_none rs v p r w hr h hq
theorem stage_zero {rs : List Reg} {p r : Int} (h : stage rs p r = 0) : diskOk rs p = true ∧ (0 ≤ r ∧ r < rs.length) ∧ p ≠ 0 := by
  cases h1 : diskOk rs p
  · rw [stage_bad h1] at h; omega
  · by_cases hq : 0 ≤ r ∧ r < rs.length
    · by_cases hp : p = 0
      · subst hp; rw [stage_down h1 hq] at h; omega
      · exact ⟨rfl, hq, hp⟩
    · rw [stage_none h1 hq] at h; omega

/-! ### the reference's refusals -/
theorem l16Code_s (rs : List Reg) (v : Value) (p r : Int) (w : World) (hr : Rd w 3 v rs.length (flat encReg rs)) :
    Gives Try.prog 61 #[.agg #[v, .int .i64 p], .int .i64 r] w (.int .i64 (stage rs p r)) := by
  unfold Gives
  have hD := fun w hr => diskRight_s rs v p w hr
  obtain ⟨A, cap, rfl, _⟩ := hr.form
  have HR := Lib.hid hr
  have HS := Lib.hid (show stage rs p r = if diskOk rs p = false then 1 else if 0 ≤ r ∧ r < rs.length then (if p = 0 then 12 else 0) else 6 from rfl)
  cases h : diskOk rs p
  · rw [h] at hD HS
    have HD := Lib.hid hD
    clear hr h hD
    go_enter Try.func61, Try.ntmps61
    go_wp2_with (go_at_call 30; refine (HD.out _ (HR.out.later (by (repeat (first | (with_reducible refine bset ?_ (by first | (simp; done) | (simp; omega)) _) | (with_reducible refine balloc ?_ _) | (with_reducible refine bdrew ?_) | with_reducible exact Below.refl _ _ | (refine bthen ?_ (by with_reducible assumption)) | (refine bthen ?_ (by assumption)) | exact Below.refl _ _))))).use.mono ?_; rintro e w1 ⟨rfl, hb1⟩)
    go_ret
    exact ⟨by rw [HS.out]; rfl, by (repeat (first | (with_reducible refine bset ?_ (by first | (simp; done) | (simp; omega)) _) | (with_reducible refine balloc ?_ _) | (with_reducible refine bdrew ?_) | with_reducible exact Below.refl _ _ | (refine bthen ?_ (by with_reducible assumption)) | (refine bthen ?_ (by assumption)) | exact Below.refl _ _))⟩
  · rw [h] at hD HS
    have hl := diskOk_len' h
    have HD := Lib.hid hD
    clear hr h hD
    go_enter Try.func61, Try.ntmps61
    go_wp2_with (go_at_call 30; refine (HD.out _ (HR.out.later (by (repeat (first | (with_reducible refine bset ?_ (by first | (simp; done) | (simp; omega)) _) | (with_reducible refine balloc ?_ _) | (with_reducible refine bdrew ?_) | with_reducible exact Below.refl _ _ | (refine bthen ?_ (by with_reducible assumption)) | (refine bthen ?_ (by assumption)) | exact Below.refl _ _))))).use.mono ?_; rintro e w1 ⟨rfl, hb1⟩; (apply Blk.use (w := w1) (g := w.heap.size); (focus (apply Blk.lat hb1; (repeat (first | with_reducible assumption | ((with_reducible apply Blk.new'); first | rfl | (simp; done)) | with_reducible apply Blk.set_ | (with_reducible apply Blk.far' (by first | (simp; done) | (simp; omega))) | with_reducible apply Blk.alloc | with_reducible apply Blk.drew)))); intro D1; (try simp only [List.setIfInBounds_toArray, List.set_cons_zero, List.set_cons_succ] at D1); have D1c := D1.cell; have D1f := D1.frozen; have D1s := D1.lt))
    all_goals go_ret
    all_goals refine ⟨?_, by (repeat (first | (with_reducible refine bset ?_ (by first | (simp; done) | (simp; omega)) _) | (with_reducible refine balloc ?_ _) | (with_reducible refine bdrew ?_) | with_reducible exact Below.refl _ _ | (refine bthen ?_ (by with_reducible assumption)) | (refine bthen ?_ (by assumption)) | exact Below.refl _ _))⟩
    all_goals clear D1 D1c D1f D1s hb1 HD HR
    all_goals rw [HS.out]
    all_goals simp_all
    all_goals omega
theorem l16Ill_s_down (rs : List Reg) (v : Value) (p : Int) (hl : 1 ≤ rs.length ∧ rs.length ≤ 13) (w : World) (hr : Rd w 3 v rs.length (flat encReg rs)) :
    Calls Try.prog 62 #[.agg #[v, .int .i64 p], .int .i64 12] w fun e w' => NewOut w e w' rs p 12 := by
  obtain ⟨A, cap, rfl, _⟩ := hr.form
  have HR := Lib.hid hr
  clear hr
  go_enter Try.func62, Try.ntmps62
  go_wp2_with (go_at_call 63; refine (copyDisk_s rs _ _ hl _ (HR.out.later (by (repeat (first | (with_reducible refine bset ?_ (by first | (simp; done) | (simp; omega)) _) | (with_reducible refine balloc ?_ _) | (with_reducible refine bdrew ?_) | with_reducible exact Below.refl _ _ | (refine bthen ?_ (by with_reducible assumption)) | (refine bthen ?_ (by assumption)) | exact Below.refl _ _))))).mono ?_; rintro e w3 ⟨A3, c3, rfl, ho3, hb3⟩; (apply Blk.use (w := w3) (g := w.heap.size + 1); (focus (apply Blk.lat hb3; (repeat (first | with_reducible assumption | ((with_reducible apply Blk.new'); first | rfl | (simp; done)) | with_reducible apply Blk.set_ | (with_reducible apply Blk.far' (by first | (simp; done) | (simp; omega))) | with_reducible apply Blk.alloc | with_reducible apply Blk.drew)))); intro Z3; (try simp only [List.setIfInBounds_toArray, List.set_cons_zero, List.set_cons_succ] at Z3); have Z3c := Z3.cell; have Z3f := Z3.frozen; have Z3s := Z3.lt))
  exact bodyPost_ret (v := .agg #[.slice A3 rs.length c3, .int .i64 p, .int .i64 12]) (by simp [results, Try.results62, go_sem, Z3c, Z3f]) rfl ⟨A3, c3, rfl, own_base (own_set (own_set (own_set ho3 (by simp) _) (by simp) _) (by simp) _) (by simp; omega), by (repeat (first | (with_reducible refine bset ?_ (by first | (simp; done) | (simp; omega)) _) | (with_reducible refine balloc ?_ _) | (with_reducible refine bdrew ?_) | with_reducible exact Below.refl _ _ | (refine bthen ?_ (by with_reducible assumption)) | (refine bthen ?_ (by assumption)) | exact Below.refl _ _))⟩
theorem l16Ill_s_other (v : Value) (p c : Int) (hc : (c == 12) = false) (w : World) :
    Calls Try.prog 62 #[.agg #[v, .int .i64 p], .int .i64 c] w fun e w' => NewOut w e w' [] 0 c := by
  go_enter Try.func62, Try.ntmps62
  go_wp2
  exact bodyPost_ret (v := .agg #[.slice none 0 0, .int .i64 0, .int .i64 c]) (by simp [results, Try.results62, go_sem]) rfl ⟨none, 0, rfl, World.ownsRow_nil _ _ _ _, by (repeat (first | (with_reducible refine bset ?_ (by first | (simp; done) | (simp; omega)) _) | (with_reducible refine balloc ?_ _) | (with_reducible refine bdrew ?_) | with_reducible exact Below.refl _ _ | (refine bthen ?_ (by with_reducible assumption)) | (refine bthen ?_ (by assumption)) | exact Below.refl _ _))⟩
theorem l16Ill_s (rs : List Reg) (v : Value) (p r : Int) (w : World) (hr : Rd w 3 v rs.length (flat encReg rs)) :
    Calls Try.prog 62 #[.agg #[v, .int .i64 p], .int .i64 (stage rs p r)] w fun e w' => NewOut w e w' (illRs rs (stage rs p r)) (illP p (stage rs p r)) (stage rs p r) := by
  by_cases h : stage rs p r = 12
  · have h2 : diskOk rs p = true := by
      cases h1 : diskOk rs p
      · rw [stage_bad h1] at h; omega
      · rfl
    rw [h]
    exact l16Ill_s_down rs v p (diskOk_len' h2) w hr
  · have h2 := l16Ill_s_other v p (stage rs p r) (by simpa using h) w
    unfold illRs illP
    rw [if_neg h, if_neg h]
    exact h2
end Go.Proofs.Ytnehiflandjkoaa
