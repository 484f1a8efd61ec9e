import Derived.Test.YtmammjpfmfblbaaB10
set_option linter.unusedSimpArgs false
set_option linter.unusedVariables false
namespace Go.Proofs.Ytmammjpfmfblbaa
open Go.RowKit M

theorem eqFrame_same (q : Int) (t : ByteArray) (w : World) : Gives Try.prog 58 #[.agg #[.int .i64 q, .string t], .agg #[.int .i64 q, .string t]] w (.bool true) := by
  unfold Gives
  have ht : (t.toList == t.toList) = true := by simp
  go_enter Try.func58, Try.ntmps58
  go_wp2
  go_ret
  exact ⟨rfl, by (repeat (first | (with_reducible refine bset ?_ (by first | (simp; done) | (simp; omega)) _) | (with_reducible refine balloc ?_ _) | (with_reducible refine bdrew ?_) | with_reducible exact Below.refl _ _ | (refine bthen ?_ (by with_reducible assumption)) | (refine bthen ?_ (by assumption)) | exact Below.refl _ _))⟩
theorem eqFrameOut_same (x : FrameOut) (w : World) : Gives Try.prog 31 #[encFO x, encFO x] w (.bool true) := by
  unfold Gives encFO
  obtain ⟨q, t, z, c⟩ := x
  dsimp only
  go_enter Try.func31, Try.ntmps31
  go_wp2_with (go_at_call 58; refine (eqFrame_same _ _ _).use.mono ?_; rintro e w1 ⟨rfl, hb1⟩; obtain ⟨hc1, hf1⟩ := bcell hb1)
  go_ret
  exact ⟨rfl, by (repeat (first | (with_reducible refine bset ?_ (by first | (simp; done) | (simp; omega)) _) | (with_reducible refine balloc ?_ _) | (with_reducible refine bdrew ?_) | with_reducible exact Below.refl _ _ | (refine bthen ?_ (by with_reducible assumption)) | (refine bthen ?_ (by assumption)) | exact Below.refl _ _))⟩
end Go.Proofs.Ytmammjpfmfblbaa
