import Derived.Test.YtfblolkkajppcaaGreatDoorO6
import Derived.Test.YtfblolkkajppcaaGreatDoorG3
set_option linter.unusedSimpArgs false
set_option linter.unusedVariables false
namespace Go.Proofs.YtfblolkkajppcaaGreatDoor
open Go.RowKit M

theorem opRight_s (sys : Bool) (l1 l2 k : Int) (ow : ByteArray) (a b c d m1 m2 af : Int) (how : ow.size ≤ maxLen) (w : World) :
    Gives Tryz.prog 13 #[encOp sys l1 l2 k ow a b c d m1 m2 af] w (.bool (opOk sys l1 l2 k ow a b c d m1 m2 af)) := by
  unfold opOk
  rw [Bool.and_assoc]
  cases hH : headOk sys l1 l2 k af
  · exact opRight_s_bad sys l1 l2 k ow a b c d m1 m2 af hH w
  · rw [Bool.true_and]
    obtain ⟨⟨h1, h17⟩, hL, hA, ⟨rfl, h12, rfl, rfl⟩ | ⟨rfl, h12⟩⟩ := head_facts hH
    · exact opRight_s_sys k ow a b c d m1 m2 af how h1 h17 h12 hL hA w
    · exact opRight_s_own l1 l2 k ow a b c d m1 m2 af how h1 h17 h12 hL hA w
namespace M
def asksOk (sys : Bool) (l1 l2 k : Int) (ow : ByteArray) (a b c d m1 m2 af : Int) : Bool := opOk sys l1 l2 k ow a b c d m1 m2 af && isIn k 8 11
end M
theorem isQuery_i (n : Int) (w : World) : Gives Tryz.prog 56 #[.int .i64 n] w (.bool (isIn n 8 11)) := by
  unfold Gives
  go_enter Tryz.func56, Tryz.ntmps56
  go_wp2_with (go_at_call 47; refine (within_i _ _ _ _).use.mono ?_; rintro e w1 ⟨rfl, hb1⟩; obtain ⟨hc1, hf1⟩ := bcell hb1)
  go_ret
  exact ⟨rfl, hb1⟩
theorem opAsks_i (sys : Bool) (l1 l2 k : Int) (ow : ByteArray) (a b c d m1 m2 af : Int) (how : ow.size ≤ maxLen) (w : World) :
    Gives Tryz.prog 14 #[encOp sys l1 l2 k ow a b c d m1 m2 af] w (.bool (asksOk sys l1 l2 k ow a b c d m1 m2 af)) := by
  have hR := opRight_i sys l1 l2 k ow a b c d m1 m2 af how
  unfold asksOk
  generalize opOk sys l1 l2 k ow a b c d m1 m2 af = r at *
  unfold encOp at *
  unfold Gives
  go_enter Tryz.func14, Tryz.ntmps14
  go_wp2_with (first
    | (go_at_call 12; refine (hR _).use.mono ?_; rintro e w1 ⟨rfl, hb1⟩; obtain ⟨hc1, hf1, hs1⟩ := bcell1 hb1)
    | (go_at_call 56; refine (isQuery_i _ _).use.mono ?_; rintro e w2 ⟨rfl, hb2⟩; obtain ⟨hc2, hf2⟩ := bcell hb2))
  all_goals go_ret
  all_goals refine ⟨?_, by (repeat (first | (with_reducible refine bset ?_ (by first | (simp; done) | (simp; omega)) _) | (with_reducible refine balloc ?_ _) | (with_reducible refine bdrew ?_) | with_reducible exact Below.refl _ _ | (refine bthen ?_ (by with_reducible assumption)) | (refine bthen ?_ (by assumption)) | exact Below.refl _ _))⟩
  all_goals simp_all
end Go.Proofs.YtfblolkkajppcaaGreatDoor
