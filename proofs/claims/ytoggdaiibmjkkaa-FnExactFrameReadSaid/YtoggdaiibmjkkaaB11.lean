import Derived.Test.YtoggdaiibmjkkaaB10
namespace Go.Proofs.Ytoggdaiibmjkkaa
open Go.RowKit M

theorem eqFrame_same (q : Int) (t : ByteArray) (w : World) : Gives Try.prog 66 #[.agg #[.int .i64 q, .string t], .agg #[.int .i64 q, .string t]] w (.bool true) := by
  unfold Gives
  have ht : (t.toList == t.toList) = true := by simp
  go_enter Try.func66, Try.ntmps66
  go_wp2
  go_ret
  exact ⟨rfl, by (repeat (first | exact Below.refl _ _ | (refine bset ?_ (by first | exact Nat.le_refl _ | (simp; omega)) _) | (refine balloc ?_ _) | (refine bdrew ?_) | (refine bthen ?_ (by assumption))))⟩
theorem eqFrameOut_same (x : FrameOut) (w : World) : Gives Try.prog 30 #[encFO x, encFO x] w (.bool true) := by
  unfold Gives encFO
  obtain ⟨q, t, z, c⟩ := x
  dsimp only
  go_enter Try.func30, Try.ntmps30
  go_wp2_with (go_at_call 66; refine (eqFrame_same _ _ _).use.mono ?_; rintro e w1 ⟨rfl, hb1⟩; obtain ⟨hc1, hf1⟩ := bcell hb1)
  go_ret
  exact ⟨rfl, by (repeat (first | exact Below.refl _ _ | (refine bset ?_ (by first | exact Nat.le_refl _ | (simp; omega)) _) | (refine balloc ?_ _) | (refine bdrew ?_) | (refine bthen ?_ (by assumption))))⟩
set_option maxRecDepth 100000 in
theorem law_FrameRead (s : ByteArray) (hs : s.size ≤ maxLen) (a : Int) (ha : -9223372036854775808 ≤ a ∧ a ≤ 9223372036854775807) (w : World) : Gives Try.prog 8 #[.string s, .int .i64 a] w (.bool true) := by
  unfold Gives
  have hI := frameRead_i s a hs
  have hS := frameRead_s s a ha.2 hs
  have hE := eqFrameOut_same (frameRead s.data.toList a)
  generalize frameRead s.data.toList a = x at *
  obtain ⟨q, t, z, c⟩ := x
  unfold encFO at hI hS hE
  dsimp only at hI hS hE
  unfold maxLen at hs
  by_cases h : (1048576 : Int) < s.size
  · go_enter Try.func8, Try.ntmps8
    go_wp2
    go_ret
    exact ⟨rfl, by (repeat (first | exact Below.refl _ _ | (refine bset ?_ (by first | exact Nat.le_refl _ | (simp; omega)) _) | (refine balloc ?_ _) | (refine bdrew ?_) | (refine bthen ?_ (by assumption))))⟩
  · have h' : (s.size : Int) ≤ 1048576 := by omega
    go_enter Try.func8, Try.ntmps8
    go_wp2_with (first
      | (go_at_call 28; refine (hS _).use.mono ?_; rintro e w1 ⟨rfl, hb1⟩; obtain ⟨hc1, hf1⟩ := bcell hb1)
      | (go_at_call 29; refine (hI _).use.mono ?_; rintro e w2 ⟨rfl, hb2⟩; obtain ⟨hc2, hf2, hs2⟩ := bcell1 hb2)
      | (go_at_call 30; refine (hE _).use.mono ?_; rintro e w3 ⟨rfl, hb3⟩; obtain ⟨hc3, hf3, hs3⟩ := bcell1 hb3))
    go_ret
    exact ⟨rfl, by (repeat (first | exact Below.refl _ _ | (refine bset ?_ (by first | exact Nat.le_refl _ | (simp; omega)) _) | (refine balloc ?_ _) | (refine bdrew ?_) | (refine bthen ?_ (by assumption))))⟩
end Go.Proofs.Ytoggdaiibmjkkaa
