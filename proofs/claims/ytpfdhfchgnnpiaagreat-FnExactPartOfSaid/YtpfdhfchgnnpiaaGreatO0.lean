import Derived.Test.YtpfdhfchgnnpiaaGreatG1
set_option linter.unusedSimpArgs false
set_option linter.unusedVariables false
namespace Go.Proofs.YtpfdhfchgnnpiaaGreat
namespace M
/-! ### names, labels, kinds -/
def small (b : UInt8) : Bool := decide (97 ≤ b.toNat) && decide (b.toNat ≤ 122)
def inName (b : UInt8) : Bool := small b || (decide (48 ≤ b.toNat) && decide (b.toNat ≤ 57)) || decide (b.toNat = 95)
def nameOk (t : Bs) : Bool := decide (1 ≤ t.length) && decide (t.length ≤ 20) && small (t[0]?.getD 0) && t.all inName
def isIn (n lo hi : Int) : Bool := decide (lo ≤ n) && decide (n ≤ hi)
def labelOk (a b : Int) : Bool := isIn a 0 3 && isIn b 0 7
def many (k : Int) : Int := if k = 1 ∨ k = 6 then 4 else if k = 14 then 3 else if k = 13 ∨ k = 15 ∨ k = 16 then 2 else if k = 2 ∨ k = 3 ∨ k = 4 ∨ k = 5 ∨ k = 7 then 1 else 0
end M
open Go.RowKit M

theorem labelRight_i (a b : Int) (w : World) : Gives Tryz.prog 149 #[.agg #[.int .i64 a, .int .i64 b]] w (.bool (labelOk a b)) := by
  unfold Gives
  have h1 : ∀ w, Gives Tryz.prog 20 #[.int .i64 a, .int .i64 0, .int .i64 3] w (.bool (isIn a 0 3)) := fun w => within_i a 0 3 w
  have h2 : ∀ w, Gives Tryz.prog 20 #[.int .i64 b, .int .i64 0, .int .i64 7] w (.bool (isIn b 0 7)) := fun w => within_i b 0 7 w
  have hE0 : labelOk a b = (isIn a 0 3 && isIn b 0 7) := rfl
  have hE := Lib.hid hE0
  clear hE0
  generalize isIn a 0 3 = x at *
  generalize isIn b 0 7 = y at *
  cases x
  · go_enter Tryz.func149, Tryz.ntmps149
    go_wp2_with (go_at_call 20; refine (h1 _).use.mono ?_; rintro e w1 ⟨rfl, hb1⟩; obtain ⟨hc1, hf1, hs1⟩ := bcell1 hb1)
    go_ret
    exact ⟨by rw [hE.out]; rfl, by (repeat (first | (with_reducible refine bset ?_ (by first | (simp; done) | (simp; omega)) _) | (with_reducible refine balloc ?_ _) | (with_reducible refine bdrew ?_) | with_reducible exact Below.refl _ _ | (refine bthen ?_ (by with_reducible assumption)) | (refine bthen ?_ (by assumption)) | exact Below.refl _ _))⟩
  · go_enter Tryz.func149, Tryz.ntmps149
    go_wp2_with (first
      | (go_at_call 20; with_reducible refine (h1 _).use.mono ?_; rintro e w1 ⟨rfl, hb1⟩; obtain ⟨hc1, hf1, hs1⟩ := bcell1 hb1)
      | (go_at_call 20; with_reducible refine (h2 _).use.mono ?_; rintro e w2 ⟨rfl, hb2⟩; obtain ⟨hc2, hf2⟩ := bcell hb2))
    go_ret
    exact ⟨by rw [hE.out]; simp, by (repeat (first | (with_reducible refine bset ?_ (by first | (simp; done) | (simp; omega)) _) | (with_reducible refine balloc ?_ _) | (with_reducible refine bdrew ?_) | with_reducible exact Below.refl _ _ | (refine bthen ?_ (by with_reducible assumption)) | (refine bthen ?_ (by assumption)) | exact Below.refl _ _))⟩
theorem labelRight_s (a b : Int) (w : World) : Gives Tryz.prog 123 #[.agg #[.int .i64 a, .int .i64 b]] w (.bool (labelOk a b)) := by
  unfold Gives
  have h1 : ∀ w, Gives Tryz.prog 115 #[.int .i64 a, .int .i64 0, .int .i64 3] w (.bool (isIn a 0 3)) := fun w => is_s a 0 3 w
  have h2 : ∀ w, Gives Tryz.prog 115 #[.int .i64 b, .int .i64 0, .int .i64 7] w (.bool (isIn b 0 7)) := fun w => is_s b 0 7 w
  have hE0 : labelOk a b = (isIn a 0 3 && isIn b 0 7) := rfl
  have hE := Lib.hid hE0
  clear hE0
  generalize isIn a 0 3 = x at *
  generalize isIn b 0 7 = y at *
  cases x
  · go_enter Tryz.func123, Tryz.ntmps123
    go_wp2_with (go_at_call 115; refine (h1 _).use.mono ?_; rintro e w1 ⟨rfl, hb1⟩; obtain ⟨hc1, hf1, hs1⟩ := bcell1 hb1)
    go_ret
    exact ⟨by rw [hE.out]; rfl, by (repeat (first | (with_reducible refine bset ?_ (by first | (simp; done) | (simp; omega)) _) | (with_reducible refine balloc ?_ _) | (with_reducible refine bdrew ?_) | with_reducible exact Below.refl _ _ | (refine bthen ?_ (by with_reducible assumption)) | (refine bthen ?_ (by assumption)) | exact Below.refl _ _))⟩
  · go_enter Tryz.func123, Tryz.ntmps123
    go_wp2_with (first
      | (go_at_call 115; with_reducible refine (h1 _).use.mono ?_; rintro e w1 ⟨rfl, hb1⟩; obtain ⟨hc1, hf1, hs1⟩ := bcell1 hb1)
      | (go_at_call 115; with_reducible refine (h2 _).use.mono ?_; rintro e w2 ⟨rfl, hb2⟩; obtain ⟨hc2, hf2⟩ := bcell hb2))
    go_ret
    exact ⟨by rw [hE.out]; simp, by (repeat (first | (with_reducible refine bset ?_ (by first | (simp; done) | (simp; omega)) _) | (with_reducible refine balloc ?_ _) | (with_reducible refine bdrew ?_) | with_reducible exact Below.refl _ _ | (refine bthen ?_ (by with_reducible assumption)) | (refine bthen ?_ (by assumption)) | exact Below.refl _ _))⟩
end Go.Proofs.YtpfdhfchgnnpiaaGreat
