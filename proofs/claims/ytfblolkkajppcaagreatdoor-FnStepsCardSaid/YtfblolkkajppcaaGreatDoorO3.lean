import Derived.Test.YtfblolkkajppcaaGreatDoorG7
set_option linter.unusedSimpArgs false
set_option linter.unusedVariables false
namespace Go.Proofs.YtfblolkkajppcaaGreatDoor
namespace M
/-- the words of the kinds -/
def words : List ByteArray := [⟨#[]⟩, ⟨#[115, 117, 98, 109, 105, 116]⟩, ⟨#[99, 97, 110, 99, 101, 108]⟩, ⟨#[104, 111, 108, 100]⟩, ⟨#[102, 114, 101, 101]⟩, ⟨#[102, 105, 110, 105, 115, 104]⟩, ⟨#[109, 111, 100, 105, 102, 121]⟩, ⟨#[115, 101, 110, 100]⟩, ⟨#[116, 97, 115, 107, 115]⟩, ⟨#[112, 108, 97, 110]⟩, ⟨#[109, 97, 105, 108]⟩, ⟨#[97, 117, 100, 105, 116]⟩, ⟨#[116, 105, 99, 107]⟩, ⟨#[110, 111, 100, 101]⟩, ⟨#[98, 111, 111, 107]⟩, ⟨#[117, 110, 98, 111, 111, 107]⟩, ⟨#[108, 97, 121]⟩, ⟨#[115, 97, 118, 101]⟩]
def wordOf (k : Int) : ByteArray := if 1 ≤ k ∧ k ≤ 17 then words.getD k.toNat ⟨#[]⟩ else ⟨#[]⟩
end M
open Go.RowKit M

theorem kinds {k : Int} (h : 1 ≤ k ∧ k ≤ 17) : k = 1 ∨ k = 2 ∨ k = 3 ∨ k = 4 ∨ k = 5 ∨ k = 6 ∨ k = 7 ∨ k = 8 ∨ k = 9 ∨ k = 10 ∨ k = 11 ∨ k = 12 ∨ k = 13 ∨ k = 14 ∨ k = 15 ∨ k = 16 ∨ k = 17 := by omega
theorem wordOf_empty (k : Int) : ((wordOf k).toList == ByteArray.toList ⟨#[]⟩) = !isIn k 1 17 := by
  rw [str_beq]
  by_cases h : 1 ≤ k ∧ k ≤ 17
  · have hI : isIn k 1 17 = true := by simp [isIn, h.1, h.2]
    rw [hI]
    rcases kinds h with rfl | rfl | rfl | rfl | rfl | rfl | rfl | rfl | rfl | rfl | rfl | rfl | rfl | rfl | rfl | rfl | rfl <;> decide
  · have hI : isIn k 1 17 = false := by simp [isIn]; omega
    rw [hI]
    unfold wordOf
    rw [if_neg h]
    decide
set_option maxHeartbeats 8000000 in
theorem l17Word_s (k : Int) (w : World) : Gives Tryz.prog 44 #[.int .i64 k] w (.string (wordOf k)) := by
  unfold Gives
  by_cases h : 1 ≤ k ∧ k ≤ 17
  · rcases kinds h with rfl | rfl | rfl | rfl | rfl | rfl | rfl | rfl | rfl | rfl | rfl | rfl | rfl | rfl | rfl | rfl | rfl
    all_goals clear h
    all_goals go_enter Tryz.func44, Tryz.ntmps44
    all_goals go_wp2
    all_goals go_ret
    all_goals exact ⟨rfl, by (repeat (first | (with_reducible refine bset ?_ (by first | (simp; done) | (simp; omega)) _) | (with_reducible refine balloc ?_ _) | (with_reducible refine bdrew ?_) | with_reducible exact Below.refl _ _ | (refine bthen ?_ (by with_reducible assumption)) | (refine bthen ?_ (by assumption)) | exact Below.refl _ _))⟩
  · have hw : Hid (wordOf k = ⟨#[]⟩) := by unfold wordOf; rw [if_neg h]; exact Lib.hid rfl
    by_cases h1 : k < 1
    · clear h
      go_enter Tryz.func44, Tryz.ntmps44
      go_wp2
      go_ret
      exact ⟨by rw [hw.out]; rfl, by (repeat (first | (with_reducible refine bset ?_ (by first | (simp; done) | (simp; omega)) _) | (with_reducible refine balloc ?_ _) | (with_reducible refine bdrew ?_) | with_reducible exact Below.refl _ _ | (refine bthen ?_ (by with_reducible assumption)) | (refine bthen ?_ (by assumption)) | exact Below.refl _ _))⟩
    · have h2 : (18 : Int) ≤ k := by omega
      clear h
      go_enter Tryz.func44, Tryz.ntmps44
      go_wp2
      go_ret
      exact ⟨by rw [hw.out]; rfl, by (repeat (first | (with_reducible refine bset ?_ (by first | (simp; done) | (simp; omega)) _) | (with_reducible refine balloc ?_ _) | (with_reducible refine bdrew ?_) | with_reducible exact Below.refl _ _ | (refine bthen ?_ (by with_reducible assumption)) | (refine bthen ?_ (by assumption)) | exact Below.refl _ _))⟩
end Go.Proofs.YtfblolkkajppcaaGreatDoor
