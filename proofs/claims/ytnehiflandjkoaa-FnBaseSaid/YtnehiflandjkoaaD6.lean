import Derived.Test.YtnehiflandjkoaaD4
set_option linter.unusedSimpArgs false
set_option linter.unusedVariables false
namespace Go.Proofs.Ytnehiflandjkoaa
open Go.RowKit M

/-! ### DiskBase, the program's side -/
namespace M
def firstBy (bad : Reg → Bool) (rs : List Reg) : Int := match rs.findIdx? bad with | some k => k | none => -1
def missing (q : Int) (r : Reg) : Bool := !(ofReg r q).2.2
end M
theorem firstBy_none {bad : Reg → Bool} {rs : List Reg} (h : ∀ r ∈ rs, bad r = false) : firstBy bad rs = -1 := by
  have : rs.findIdx? bad = none := by rw [List.findIdx?_eq_none_iff]; intro x hx; simp [h x hx]
  unfold firstBy; rw [this]
theorem firstBy_some {bad : Reg → Bool} {rs : List Reg} {k : Nat} (hk : k < rs.length) (h : ∀ r ∈ rs.take k, bad r = false) (hb : bad rs[k] = true) : firstBy bad rs = k := by
  have : rs.findIdx? bad = some k := by
    rw [List.findIdx?_eq_some_iff_getElem]
    refine ⟨hk, by simp [hb], fun j hj => ?_⟩
    have := h rs[j] (by rw [List.mem_take_iff_getElem]; exact ⟨j, by omega, rfl⟩)
    simp [this]
  unfold firstBy; rw [this]
theorem firstBy_ge (bad : Reg → Bool) (rs : List Reg) : decide (0 ≤ firstBy bad rs) = rs.any bad := by
  unfold firstBy
  cases h : rs.findIdx? bad with
  | none =>
    rw [List.findIdx?_eq_none_iff] at h
    have : rs.any bad = false := by rw [List.any_eq_false]; intro x hx; simp [h x hx]
    rw [this]; rfl
  | some k =>
    rw [List.findIdx?_eq_some_iff_getElem] at h
    obtain ⟨hk, hb, _⟩ := h
    have : rs.any bad = true := List.any_eq_true.2 ⟨_, List.getElem_mem hk, hb⟩
    rw [this]; simp
set_option maxRecDepth 100000 in
theorem missing_i (x : Reg) (F : Nat) (q : Int) (t : ByteArray) (h1 : x.1.size ≤ maxLen) (h2 : x.2.1.size ≤ maxLen) (w : World) (hF : Blk w F 24 #[.int .i64 q, .string t]) :
    Gives Try.prog 70 #[.agg #[.string x.1, .string x.2.1, .string x.2.2], .pointer (some ⟨F, 0, none⟩)] w (.bool (missing q x)) := by
  unfold Gives
  have hS := fun w => slotOf_i x q h1 h2 w
  have hm : missing q x = !(ofReg x q).2.2 := rfl
  rw [hm]
  generalize ofReg x q = y at *
  obtain ⟨yq, yt, yb⟩ := y
  dsimp only at hS ⊢
  have Fc := hF.cell
  have Fs := hF.lt
  have HS := Lib.hid hS
  clear hS hm h1 h2
  go_enter Try.func70, Try.ntmps70
  go_wp2_with (go_at_call 71; refine (HS.out _).use.mono ?_; rintro e w1 ⟨rfl, hb1⟩)
  go_ret
  exact ⟨rfl, by (repeat (first | (with_reducible refine bset ?_ (by first | (simp; done) | (simp; omega)) _) | (with_reducible refine balloc ?_ _) | (with_reducible refine bdrew ?_) | with_reducible exact Below.refl _ _ | (refine bthen ?_ (by with_reducible assumption)) | (refine bthen ?_ (by assumption)) | exact Below.refl _ _))⟩

set_option maxHeartbeats 800000 in
theorem indexMiss_i (rs : List Reg) (v : Value) (F : Nat) (q : Int) (t : ByteArray) (hm : ∀ x ∈ rs, x.1.size ≤ maxLen ∧ x.2.1.size ≤ maxLen) (w : World) (hF : Blk w F 24 #[.int .i64 q, .string t]) (hr : Rd w 3 v rs.length (flat encReg rs)) :
    Gives Try.prog 86 #[v, .func (.func 70) #[] #[.pointer (some ⟨F, 0, none⟩)]] w (.int .i64 (firstBy (missing q) rs)) := by
  obtain ⟨A, cap, rfl, hn, hcap, hA⟩ := hr.form
  unfold maxLen at hcap
  unfold Gives
  have HFb := Lib.hid hF
  have HMx := Lib.hid hm
  clear hF hm
  go_enter Try.func86, Try.ntmps86
  go_wp2
  go_loopw [8] (fun i wr => ∃ k : Nat, k ≤ rs.length ∧ i = .int .i64 k ∧ Below w.heap.size w wr ∧ Hid (∀ r ∈ rs.take k, missing q r = false)) (fun i _ => rs.length - (intOf i).toNat)
  case atStart => exact ⟨0, Nat.zero_le _, rfl, Below.refl _ _, Lib.hid (by simp)⟩
  case round =>
    obtain ⟨k, hk, rfl, hb, hall⟩ := hrel
    by_cases hlt : k < rs.length
    · obtain ⟨b, o, rfl, hcell⟩ := hA (by omega)
      have hkI : (k : Int) < (rs.length : Int) := by omega
      obtain ⟨a0, a1, a2⟩ := reg_cells hcell hb k hlt (now wr)
      simp only [now] at a0 a1 a2
      have hts : Hid (rs.take (k + 1) = rs.take k ++ [rs[k]]) := Lib.hid (List.take_succ_eq_append_getElem hlt)
      have hfb : Hid (missing q rs[k] = true → firstBy (missing q) rs = k) := Lib.hid (firstBy_some hlt hall.out)
      have hmx := HMx.out rs[k] (List.getElem_mem hlt)
      generalize rs[k] = x at *
      go_wp2_with fail
      refine (missing_i x F q t hmx.1 hmx.2 _ (HFb.out.later hb)).use.mono ?_
      rintro e w1 ⟨rfl, hb1⟩
      cases hok : missing q x
      · have hok' := Lib.hid hok
        clear hok
        go_wp2
        go_roundw
        case rel => exact ⟨k + 1, by omega, by go_num, bthen hb hb1, Lib.hid (by
                rw [hts.out]; intro r hr; rcases List.mem_append.1 hr with h | h
                · exact hall.out r h
                · simp at h; subst h; exact hok'.out)⟩
        case measure => simp [intOf]; omega
      · have hok' := Lib.hid hok
        clear hok
        go_wp2
        go_ret
        exact ⟨by rw [hfb.out hok'.out]; rfl, bthen hb hb1⟩
    · obtain rfl : k = rs.length := by omega
      go_wp2
      go_ret
      have h := hall.out
      rw [List.take_length] at h
      exact ⟨by rw [firstBy_none h]; rfl, hb⟩
theorem containsMiss_i (rs : List Reg) (v : Value) (F : Nat) (q : Int) (t : ByteArray) (hm : ∀ x ∈ rs, x.1.size ≤ maxLen ∧ x.2.1.size ≤ maxLen) (w : World) (hF : Blk w F 24 #[.int .i64 q, .string t]) (hr : Rd w 3 v rs.length (flat encReg rs)) :
    Gives Try.prog 66 #[v, .func (.func 70) #[] #[.pointer (some ⟨F, 0, none⟩)]] w (.bool (rs.any (missing q))) := by
  unfold Gives
  go_enter Try.func66, Try.ntmps66
  go_wp2_with fail
  refine (indexMiss_i rs _ F q t hm _ hF hr).use.mono ?_
  rintro e w1 ⟨rfl, hb1⟩
  go_wp2
  go_ret
  exact ⟨by rw [← firstBy_ge]; rfl, hb1⟩
end Go.Proofs.Ytnehiflandjkoaa
