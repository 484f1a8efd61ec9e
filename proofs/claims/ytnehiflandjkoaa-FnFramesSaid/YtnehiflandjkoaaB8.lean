import Derived.Test.YtnehiflandjkoaaB7
set_option linter.unusedSimpArgs false
set_option linter.unusedVariables false
namespace Go.Proofs.Ytnehiflandjkoaa
open Go.RowKit M

theorem set2 {w : World} {a b : Addr} {v : Value} (h : w.cell? b = some v) (hne : a.block ≠ b.block) (u : Value) : (w.setCell a u).cell? b = some v := by
  rw [World.cell?_setCell_other (h := fun e => hne (by rw [e]))]; exact h
theorem ofFour_get (s : ByteArray) (h : 4 ≤ s.size) : ofFour s.data.toList = four4 s[0].toNat s[1].toNat s[2].toNat s[3].toNat := by
  have hz := size_data s
  unfold ofFour
  rw [List.getElem?_eq_getElem (show 0 < s.data.toList.length by omega), List.getElem?_eq_getElem (show 1 < s.data.toList.length by omega), List.getElem?_eq_getElem (show 2 < s.data.toList.length by omega), List.getElem?_eq_getElem (show 3 < s.data.toList.length by omega)]
  rfl

set_option maxRecDepth 100000 in
theorem ofFour_i (s : ByteArray) (h4 : 4 ≤ s.size) (w : World) : Gives Try.prog 54 #[.string s] w (.int .i64 (ofFour s.data.toList)) := by
  unfold Gives
  have hR := Lib.hid (ofFour_get s h4)
  have b0 : s[0].toNat < 256 := s[0].toNat_lt
  have b1 : s[1].toNat < 256 := s[1].toNat_lt
  have b2 : s[2].toNat < 256 := s[2].toNat_lt
  have b3 : s[3].toNat < 256 := s[3].toNat_lt
  have j0 : 0 < s.size := by omega
  have j1 : 1 < s.size := by omega
  have j2 : 2 < s.size := by omega
  have j3 : 3 < s.size := by omega
  have i1 : (1 : Int) < s.size := by omega
  have i2 : (2 : Int) < s.size := by omega
  have i3 : (3 : Int) < s.size := by omega
  go_enter Try.func54, Try.ntmps54
  go_wp2
  refine wp_region_later (by kernel_rfl) (by kernel_rfl) ?_
  repeat (go_big_quiet_step (fail "no call"))
  refine wpQuiet_nil ?_
  rintro _ ⟨x, rfl⟩
  have hx := x.ok
  go_wp2
  go_ret
  refine ⟨?_, hx⟩
  rw [hR.out]
  simp [four4]

def encFO (x : FrameOut) : Value := .agg #[.int .i64 x.1, .string (bs x.2.1), .int .i64 x.2.2.1, .int .i64 x.2.2.2]
theorem getText_range (t : Bs) (a : Int) :
    (getText t a).1 = [] ∧ (getText t a).2.1 = 0 ∧ (1 ≤ (getText t a).2.2 ∧ (getText t a).2.2 ≤ 4) ∨
    (getText t a).2.2 = 0 ∧ t.length ≤ 8000 ∧ 0 ≤ a ∧ a + 1 ≤ (getText t a).2.1 ∧ (getText t a).2.1 ≤ t.length ∧ (getText t a).1.length ≤ 8000 := by
  rw [getText_eq]
  rcases getNum_range t a with ⟨h1, h2, h3⟩ | ⟨h1, h2, h3, h4, h5, h6⟩
  · rw [if_pos (by omega)]; left; exact ⟨rfl, rfl, h3⟩
  · rw [if_neg (by omega)]
    by_cases h7 : (getNum t a).1 < 0 ∨ 8000 < (getNum t a).1
    · rw [if_pos h7]; left; simp
    · rw [if_neg h7]
      by_cases h8 : (t.length : Int) < (getNum t a).2.1 + (getNum t a).1
      · rw [if_pos h8]; left; simp
      · rw [if_neg h8]; right
        refine ⟨rfl, h2, h3, by dsimp only; omega, by dsimp only; omega, ?_⟩
        dsimp only
        rw [List.length_take]; omega
theorem unseal_range (t : Bs) : (unseal_ t).1 = [] ∧ (unseal_ t).2.1 = 0 ∧ (1 ≤ (unseal_ t).2.2 ∧ (unseal_ t).2.2 ≤ 5) ∨ (unseal_ t).2.1 = 0 ∧ (unseal_ t).2.2 = 0 ∧ t.length ≤ 8000 ∧ (unseal_ t).1.length + 4 = t.length := by
  unfold unseal_
  by_cases h1 : 8000 < t.length
  · rw [if_pos h1]; left; simp
  · rw [if_neg h1]
    by_cases h2 : t.length < 4
    · rw [if_pos h2]; left; simp
    · rw [if_neg h2]
      by_cases h3 : crcFour (t.take (t.length - 4)) = t.drop (t.length - 4)
      · rw [if_pos h3]; right
        refine ⟨rfl, rfl, by omega, ?_⟩
        dsimp only
        rw [List.length_take]; omega
      · rw [if_neg h3]; left; simp
/-- what FrameRead makes of a text -/
def frameOf (x y : TextOut) : FrameOut :=
  if x.2.2 ≠ 0 then (0, [], 0, x.2.2)
  else if y.2.2 ≠ 0 then (0, [], 0, y.2.2)
  else if y.1.length < 4 then (0, [], 0, 3)
  else if frameOk (ofFour y.1) (y.1.drop 4) then (ofFour y.1, y.1.drop 4, x.2.1, 0)
  else (0, [], 0, 3)
theorem frameRead_eq (t : Bs) (a : Int) : frameRead t a = frameOf (getText t a) (unseal_ (getText t a).1) := rfl
end Go.Proofs.Ytnehiflandjkoaa
