/-
  Frames and logs in plain words, the other way: an encoding is read back, a part of it is not, nor one with a turned byte.
-/
import Derived.Test.YthkebpgkhblcjaaK3
import Derived.Test.YthkebpgkhblcjaaK2
import Derived.Deep.RegionLaw
set_option linter.unusedSimpArgs false
set_option linter.unusedVariables false
namespace Go.Proofs.Ythkebpgkhblcjaa
open Go.RowKit M

theorem below_src {w a b : World} {g : Nat} (h : Below w.heap.size w a) (hg : a.grownBy b (some g)) (hw : w.heap.size ≤ g) : Below w.heap.size w b :=
  h.grown hg h.size fun k hk => by injection hk with hk; omega
theorem field_text (t : ByteArray) (z c : Int) (w : World) : (Instr.field 62 (.agg #[.string t, .int .i64 z, .int .i64 c]) 0).run Try.prog w = .ok (.string t) w := by kernel_rfl
theorem field_at (t : ByteArray) (z c : Int) (w : World) : (Instr.field 62 (.agg #[.string t, .int .i64 z, .int .i64 c]) 1).run Try.prog w = .ok (.int .i64 z) w := by kernel_rfl
theorem getText_le (t : Bs) (a : Int) : (getText t a).1.length ≤ 8000 ∧ 0 ≤ (getText t a).2.1 ∧ (getText t a).2.1 ≤ 8000 := by
  rcases getText_range t a with ⟨h1, h2, _⟩ | ⟨_, h2, h3, h4, h5, h6⟩
  · rw [h1, h2]; simp
  · omega
theorem unseal_le (t : Bs) : (unseal_ t).1.length ≤ 8000 := by
  rcases unseal_range t with ⟨h1, _⟩ | ⟨_, _, h3, h4⟩
  · rw [h1]; simp
  · omega
theorem putText_le (t : Bs) : (putText t).length ≤ 8011 := by
  unfold putText
  split
  · have := putNum_length t.length
    rw [List.length_append]; omega
  · simp
end Go.Proofs.Ythkebpgkhblcjaa
namespace Go.Proofs.Ythkebpgkhblcjaa
open Go.RowKit M

theorem own_drew {w : World} {base e s n : Nat} {v : Value} {xs : List Value} (h : w.ownsRow base e s v n xs) : w.drew.ownsRow base e s v n xs := h
theorem Blk.two {w : World} {B t : Nat} {x y z : Value} (h : Blk w B t #[x, y, z]) (u v : Value) : Blk ((w.setCell ⟨B, 0, none⟩ u).setCell ⟨B, 1, none⟩ v) B t #[u, v, z] := (h.set_ 0 u).set_ 1 v

end Go.Proofs.Ythkebpgkhblcjaa
namespace Go.Proofs.Ythkebpgkhblcjaa
open Go.RowKit M

end Go.Proofs.Ythkebpgkhblcjaa
namespace Go.Proofs.Ythkebpgkhblcjaa.M

/-! ### the checksum tells two texts apart that differ in one byte -/
theorem xor_cancel {a b p : Nat} (h : a ^^^ p = b ^^^ p) : a = b := by
  have := congrArg (· ^^^ p) h
  simpa [Nat.xor_assoc] using this
theorem crcBit_inj {x y : Nat} (hx : x < 4294967296) (hy : y < 4294967296) (h : crcBit x = crcBit y) : x = y := by
  unfold crcBit at h
  have top : ∀ a : Nat, a < 2147483648 → (a ^^^ 3988292384).testBit 31 = true := fun a ha => by
    rw [Nat.testBit_xor, Nat.testBit_lt_two_pow (x := a) (i := 31) (by omega)]
    decide
  have low : ∀ a : Nat, a < 2147483648 → a.testBit 31 = false := fun a ha => Nat.testBit_lt_two_pow (by omega)
  by_cases h1 : x % 2 = 1
  · by_cases h2 : y % 2 = 1
    · rw [if_pos h1, if_pos h2] at h
      have := xor_cancel h
      omega
    · rw [if_pos h1, if_neg h2] at h
      have t1 := top (x / 2) (by omega)
      rw [h, low (y / 2) (by omega)] at t1
      cases t1
  · by_cases h2 : y % 2 = 1
    · rw [if_neg h1, if_pos h2] at h
      have t1 := top (y / 2) (by omega)
      rw [← h, low (x / 2) (by omega)] at t1
      cases t1
    · rw [if_neg h1, if_neg h2] at h
      omega
theorem crcBits_inj : ∀ (n : Nat) {x y : Nat}, x < 4294967296 → y < 4294967296 → crcBits n x = crcBits n y → x = y
  | 0, _, _, _, _, h => h
  | n + 1, _, _, hx, hy, h => crcBit_inj hx hy (crcBits_inj n (crcBit_lt hx) (crcBit_lt hy) h)
theorem xor_byte_lt {x : Nat} (b : UInt8) (h : x < 4294967296) : x ^^^ b.toNat < 4294967296 := Nat.xor_lt_two_pow (n := 32) h (by have := b.toNat_lt; omega)
theorem crcByte_inj {x y : Nat} {b : UInt8} (hx : x < 4294967296) (hy : y < 4294967296) (h : crcByte x b = crcByte y b) : x = y :=
  xor_cancel (crcBits_inj 8 (xor_byte_lt b hx) (xor_byte_lt b hy) h)
theorem crcByte_byte {x : Nat} {b c : UInt8} (hx : x < 4294967296) (h : crcByte x b = crcByte x c) : b = c := by
  have := crcBits_inj 8 (xor_byte_lt b hx) (xor_byte_lt c hx) h
  rw [Nat.xor_comm x, Nat.xor_comm x] at this
  exact UInt8.toNat_inj.1 (xor_cancel this)
theorem crcList_inj : ∀ (l : Bs) {x y : Nat}, x < 4294967296 → y < 4294967296 → crcList x l = crcList y l → x = y
  | [], _, _, _, _, h => h
  | b :: l, _, _, hx, hy, h => crcByte_inj hx hy (crcList_inj l (crcByte_lt b hx) (crcByte_lt b hy) h)
theorem crcList_app (x : Nat) (a b : Bs) : crcList x (a ++ b) = crcList (crcList x a) b := by simp [crcList]
theorem crcList_turn {x : Nat} (hx : x < 4294967296) (a d : Bs) {b c : UInt8} (h : crcList x (a ++ b :: d) = crcList x (a ++ c :: d)) : b = c := by
  rw [crcList_app, crcList_app] at h
  have ha := crcList_lt a hx
  exact crcByte_byte ha (crcList_inj d (crcByte_lt b ha) (crcByte_lt c ha) h)
theorem four_inj {n m : Int} (hn : 0 ≤ n ∧ n < 4294967296) (hm : 0 ≤ m ∧ m < 4294967296) (h : four n = four m) : n = m := by
  unfold four at h
  simp only [List.cons.injEq, and_true] at h
  obtain ⟨h1, h2, h3, h4⟩ := h
  have f : ∀ {a b : Nat}, UInt8.ofNat a = UInt8.ofNat b → a % 256 = b % 256 := fun e => by
    have := congrArg UInt8.toNat e
    simpa [UInt8.toNat_ofNat'] using this
  have g1 := f h1
  have g2 := f h2
  have g3 := f h3
  have g4 := f h4
  omega
theorem crcFour_turn {a d : Bs} {b c : UInt8} (h : crcFour (a ++ b :: d) = crcFour (a ++ c :: d)) : b = c := by
  have l1 := crcList_lt (a ++ b :: d) (x := 4294967295) (by omega)
  have l2 := crcList_lt (a ++ c :: d) (x := 4294967295) (by omega)
  have h2 := four_inj (by unfold crcMore; omega) (by unfold crcMore; omega) h
  unfold crcMore at h2
  refine crcList_turn (x := 4294967295) (by omega) a d ?_
  simp only [Nat.sub_zero] at h2
  omega

/-! ### sealed texts -/
theorem unseal_seal {x : Bs} (h : x.length ≤ 7996) : unseal_ (x ++ crcFour x) = (x, 0, 0) := by
  have hl : (x ++ crcFour x).length = x.length + 4 := by rw [List.length_append, crcFour_length]
  unfold unseal_
  rw [if_neg (by omega), if_neg (by omega), hl, Nat.add_sub_cancel, List.take_left, List.drop_left, if_pos rfl]
theorem unseal_turn {x a d : Bs} {b c : UInt8} (h : x ++ crcFour x = a ++ b :: d) (hne : b ≠ c) : (unseal_ (a ++ c :: d)).2.2 ≠ 0 := by
  have hl : (a ++ c :: d).length = x.length + 4 := by
    have := congrArg List.length h
    rw [List.length_append, crcFour_length] at this
    rw [List.length_append, List.length_cons] at this ⊢
    omega
  unfold unseal_
  by_cases h1 : 8000 < (a ++ c :: d).length
  · rw [if_pos h1]; simp
  · rw [if_neg h1, if_neg (by omega), hl, Nat.add_sub_cancel]
    by_cases h2 : crcFour ((a ++ c :: d).take x.length) = (a ++ c :: d).drop x.length
    · exfalso
      by_cases ha : a.length < x.length
      · have e1 : x = a ++ b :: d.take (x.length - a.length - 1) := by
          have := congrArg (List.take x.length) h
          rw [List.take_left, List.take_append, List.take_of_length_le (by omega)] at this
          rw [show x.length - a.length = (x.length - a.length - 1) + 1 by omega, List.take_succ_cons] at this
          exact this
        have e2 : (a ++ c :: d).take x.length = a ++ c :: d.take (x.length - a.length - 1) := by
          rw [List.take_append, List.take_of_length_le (by omega), show x.length - a.length = (x.length - a.length - 1) + 1 by omega, List.take_succ_cons]
          simp
        have e3 : (a ++ c :: d).drop x.length = crcFour x := by
          have := congrArg (List.drop x.length) h
          rw [List.drop_left, List.drop_append, List.drop_eq_nil_of_le (by omega)] at this
          rw [List.drop_append, List.drop_eq_nil_of_le (by omega)]
          rw [show x.length - a.length = (x.length - a.length - 1) + 1 by omega, List.drop_succ_cons] at this ⊢
          exact this.symm
        rw [e2, e3] at h2
        generalize d.take (x.length - a.length - 1) = r at *
        rw [e1] at h2
        exact hne (crcFour_turn h2).symm
      · have e1 : (a ++ c :: d).take x.length = x := by
          have := congrArg (List.take x.length) h
          rw [List.take_left, List.take_append_of_le_length (by omega)] at this
          rw [List.take_append_of_le_length (by omega)]
          exact this.symm
        rw [e1] at h2
        have e2 : x ++ crcFour x = a ++ c :: d := by
          rw [h2]
          conv => rhs; rw [← List.take_append_drop x.length (a ++ c :: d), e1]
        rw [h] at e2
        have := List.append_cancel_left e2
        simp only [List.cons.injEq, and_true] at this
        exact hne this
    · rw [if_neg h2]; simp

/-! ### numbers and texts that were put are read -/
theorem gnum_at_put (rest : Bs) : ∀ (f y k u : Nat), k + f = 10 → y * 2 ^ (7 * k) < 18446744073709551616 → (0 < k → 1 ≤ y) →
    gnum f (putU f y ++ rest) k u = (unzig (u + y * 2 ^ (7 * k)), k + (putU f y).length, 0) ∨ f = 0
  | 0, _, _, _, _, _, _ => .inr rfl
  | f + 1, y, k, u, hk, hy, h1 => by
    left
    have p9 : (2 : Nat) ^ (7 * 9) = 9223372036854775808 := by decide
    by_cases h : y < 128
    · rw [putU_lt h]
      have hb : (UInt8.ofNat y).toNat = y := by rw [UInt8.toNat_ofNat']; omega
      show gnum (f + 1) (UInt8.ofNat y :: rest) k u = _
      unfold gnum
      rw [hb, if_neg (by rintro ⟨rfl, h2⟩; rw [p9] at hy; omega), if_neg (by omega), if_neg (by omega), Nat.mod_eq_of_lt h]
      rfl
    · rw [putU_ge (by omega)]
      have hb : (UInt8.ofNat (y % 128 + 128)).toNat = y % 128 + 128 := by rw [UInt8.toNat_ofNat']; omega
      show gnum (f + 1) (UInt8.ofNat (y % 128 + 128) :: (putU f (y / 128) ++ rest)) k u = _
      have hk9 : k ≠ 9 := by rintro rfl; rw [p9] at hy; omega
      have hpow : (2 : Nat) ^ (7 * (k + 1)) = 128 * 2 ^ (7 * k) := by rw [show 7 * (k + 1) = 7 + 7 * k by omega, Nat.pow_add]
      have hdiv : y / 128 * 128 ≤ y := Nat.div_mul_le_self _ _
      have hy2 : y / 128 * 2 ^ (7 * (k + 1)) < 18446744073709551616 := by
        rw [hpow, ← Nat.mul_assoc]
        exact Nat.lt_of_le_of_lt (Nat.mul_le_mul_right _ hdiv) hy
      unfold gnum
      rw [hb, if_neg (by omega), if_pos (by omega)]
      rcases gnum_at_put rest f (y / 128) (k + 1) (u + (y % 128 + 128) % 128 * 2 ^ (7 * k)) (by omega) hy2 (by omega) with h2 | h2
      · rw [h2, List.length_cons]
        refine Prod.ext ?_ (Prod.ext ?_ rfl)
        · show unzig _ = unzig _
          congr 1
          rw [hpow, show (y % 128 + 128) % 128 = y % 128 by omega, Nat.add_assoc, ← Nat.mul_assoc, ← Nat.add_mul]
          congr 2
          omega
        · show k + 1 + _ = k + (_ + 1)
          omega
      · exfalso
        subst h2
        obtain rfl : k = 9 := by omega
        exact hk9 rfl
theorem numAt_at {pre rest : Bs} {n : Nat} (hn : n ≤ 8000) : numAt (pre ++ putNum n ++ rest) pre.length = ((n : Int), ((pre.length + (putNum n).length : Nat) : Int), 0) := by
  have hz : zig n = 2 * n := by unfold zig; rw [if_neg (by omega)]; omega
  refine numAt_ok ?_
  rw [List.append_assoc, List.drop_left]
  unfold putNum
  rw [hz]
  rcases gnum_at_put rest 10 (2 * n) 0 0 rfl (by simp; omega) (by omega) with h | h
  · rw [h]
    refine Prod.ext ?_ (Prod.ext ?_ rfl)
    · show unzig _ = _
      unfold unzig
      simp only [Nat.zero_add, Nat.mul_zero, Nat.pow_zero, Nat.mul_one]
      rw [if_neg (by omega)]
      omega
    · dsimp only
      omega
  · cases h
theorem getText_at {pre x rest : Bs} (hx : x.length ≤ 8000) (hl : (pre ++ putText x ++ rest).length ≤ 8000) :
    getText (pre ++ putText x ++ rest) pre.length = (x, ((pre.length + (putText x).length : Nat) : Int), 0) := by
  have hp : putText x = putNum x.length ++ x := by unfold putText; rw [if_pos hx]
  rw [hp] at hl ⊢
  have hg : getNum (pre ++ (putNum x.length ++ x) ++ rest) pre.length = ((x.length : Int), ((pre.length + (putNum x.length).length : Nat) : Int), 0) := by
    unfold getNum
    rw [if_neg (by omega), if_neg (by omega), Int.toNat_natCast]
    have := numAt_at (pre := pre) (rest := x ++ rest) hx
    rw [show pre ++ (putNum x.length ++ x) ++ rest = pre ++ putNum x.length ++ (x ++ rest) by simp]
    exact this
  have hlen : (pre ++ (putNum x.length ++ x) ++ rest).length = pre.length + (putNum x.length).length + x.length + rest.length := by simp; omega
  unfold getText
  rw [hg]
  dsimp only
  rw [if_neg (by simp), if_neg (by omega), if_neg (by rw [hlen]; omega), Int.toNat_natCast, Int.toNat_natCast]
  refine Prod.ext ?_ (Prod.ext ?_ rfl)
  · show List.take _ (List.drop _ _) = x
    rw [show pre ++ (putNum x.length ++ x) ++ rest = (pre ++ putNum x.length) ++ (x ++ rest) by simp, List.drop_left' (by simp), List.take_left]
  · dsimp only
    rw [List.length_append]
    omega

/-! ### frames -/
theorem frameBytes_eq {q : Int} {x : Bs} (h : frameOk q x = true) : frameBytes q x = putText ((four q ++ x) ++ crcFour (four q ++ x)) ∧ x.length ≤ 2980 ∧ 0 ≤ q ∧ q ≤ 1000000 := by
  have h' := h
  unfold frameOk isTime at h'
  simp only [Bool.and_eq_true, decide_eq_true_eq] at h'
  unfold frameBytes seal_
  rw [if_pos h, if_pos (by rw [List.length_append, four_length]; omega)]
  exact ⟨rfl, by omega, by omega, by omega⟩
theorem sealed_len (q : Int) (x : Bs) : ((four q ++ x) ++ crcFour (four q ++ x)).length = x.length + 8 := by
  simp only [List.length_append, four_length, crcFour_length]
  omega
theorem putNum_two {n : Nat} (h : n ≤ 8000) : 1 ≤ (putNum n).length ∧ (putNum n).length ≤ 2 := by
  have hz : zig n = 2 * n := by unfold zig; rw [if_neg (by omega)]; omega
  unfold putNum
  rw [hz]
  by_cases h1 : 2 * n < 128
  · rw [putU_lt h1]; simp
  · rw [putU_ge (by omega), putU_lt (by omega)]; simp
theorem frameBytes_size {q : Int} {x : Bs} (h : frameOk q x = true) : (frameBytes q x).length = (putNum (x.length + 8 : Nat)).length + (x.length + 8) := by
  obtain ⟨h1, h2, _⟩ := frameBytes_eq h
  rw [h1]
  unfold putText
  rw [if_pos (by rw [sealed_len]; omega), List.length_append, sealed_len]
theorem ofFour_four {q : Int} {x : Bs} (h : 0 ≤ q ∧ q ≤ 1000000) : ofFour (four q ++ x) = q := by
  unfold four ofFour four4
  simp only [List.cons_append, List.nil_append, List.getElem?_cons_zero, List.getElem?_cons_succ, Option.getD_some, UInt8.toNat_ofNat']
  omega
theorem frameRead_at {pre rest x : Bs} {q : Int} (h : frameOk q x = true) (hl : (pre ++ frameBytes q x ++ rest).length ≤ 8000) :
    frameRead (pre ++ frameBytes q x ++ rest) pre.length = (q, x, ((pre.length + (frameBytes q x).length : Nat) : Int), 0) := by
  obtain ⟨h1, h2, h3⟩ := frameBytes_eq h
  rw [h1] at hl ⊢
  have hg := getText_at (pre := pre) (rest := rest) (by rw [sealed_len]; omega) hl
  rw [frameRead_eq, hg]
  have hu := unseal_seal (x := four q ++ x) (by rw [List.length_append, four_length]; omega)
  dsimp only
  rw [hu]
  unfold frameOf
  dsimp only
  rw [if_neg (by simp), if_neg (by simp), if_neg (by rw [List.length_append, four_length]; omega), ofFour_four h3]
  have hd : (four q ++ x).drop 4 = x := List.drop_left' (four_length q)
  rw [hd, if_pos h]
/-- a part of a frame is no frame -/
theorem frameRead_part {pre x : Bs} {q : Int} {m : Nat} (h : frameOk q x = true) (hm : m < (frameBytes q x).length) :
    (frameRead (pre ++ (frameBytes q x).take m) pre.length).2.2.2 ≠ 0 := by
  intro hc
  rcases hf : frameRead (pre ++ (frameBytes q x).take m) pre.length with ⟨q', x', z, c⟩
  rw [hf] at hc
  dsimp only at hc
  subst hc
  obtain ⟨i, j, e1, e2, e3, e4, e5, e6, e7⟩ := frameRead_put hf
  obtain rfl : pre.length = i := by omega
  rw [List.drop_left] at e7
  obtain ⟨h1, h2, _⟩ := frameBytes_eq h
  obtain ⟨k1, k2, _⟩ := frameBytes_eq e6
  have hlen := frameBytes_size h
  have hl2 := putNum_two (n := x.length + 8) (by omega)
  have hlen' : (frameBytes q' x').length = j := by
    rw [e7, List.length_take, List.length_take]
    rw [List.length_append, List.length_take] at e4
    omega
  have hjm : j ≤ m := by
    rw [List.length_append, List.length_take] at e4
    omega
  have e8 : frameBytes q x = frameBytes q' x' ++ (frameBytes q x).drop j := by
    rw [e7, List.take_take, Nat.min_eq_left hjm, List.take_append_drop]
  rw [h1, k1] at e8
  have g1 := getText_at (pre := []) (x := (four q ++ x) ++ crcFour (four q ++ x)) (rest := []) (by rw [sealed_len]; omega) (by
    rw [List.nil_append, List.append_nil, ← h1, hlen]; omega)
  have g2 := getText_at (pre := []) (x := (four q' ++ x') ++ crcFour (four q' ++ x')) (rest := (putText (four q ++ x ++ crcFour (four q ++ x))).drop j) (by rw [sealed_len]; omega) (by
    rw [List.nil_append, ← e8, ← h1, hlen]; omega)
  rw [List.nil_append, List.append_nil, e8] at g1
  rw [List.nil_append] at g2
  rw [g2] at g1
  simp only [Prod.mk.injEq, List.length_nil, Nat.zero_add] at g1
  have h3 := g1.2.1
  rw [← e8, ← h1, ← k1, hlen'] at h3
  omega
/-- a frame with one turned byte behind its length is no frame -/
theorem frameRead_turn {pre x a d : Bs} {q : Int} {b c : UInt8} (h : frameOk q x = true) (hs : frameBytes q x = a ++ b :: d) (ha : 2 ≤ a.length) (hne : b ≠ c) (hl : (pre ++ frameBytes q x).length ≤ 8000) :
    (frameRead (pre ++ (a ++ c :: d)) pre.length).2.2.2 ≠ 0 := by
  obtain ⟨h1, h2, _⟩ := frameBytes_eq h
  have hsl := sealed_len q x
  have hl2 := putNum_two (n := x.length + 8) (by omega)
  have hp : putText ((four q ++ x) ++ crcFour (four q ++ x)) = putNum (x.length + 8 : Nat) ++ ((four q ++ x) ++ crcFour (four q ++ x)) := by
    unfold putText
    rw [if_pos (by omega), hsl]
  have hs' := hs
  rw [h1, hp] at hs'
  obtain ⟨s, hsd⟩ : ∃ s, (four q ++ x) ++ crcFour (four q ++ x) = s := ⟨_, rfl⟩
  rw [hsd] at h1 hsl hp hs'
  obtain ⟨a', rfl, hs2⟩ : ∃ a', a = putNum (x.length + 8 : Nat) ++ a' ∧ s = a' ++ b :: d := by
    have e1 : a = putNum (x.length + 8 : Nat) ++ a.drop (putNum (x.length + 8 : Nat)).length := by
      have := congrArg (List.take (putNum (x.length + 8 : Nat)).length) hs'
      rw [List.take_left, List.take_append_of_le_length (by omega)] at this
      conv => lhs; rw [← List.take_append_drop (putNum (x.length + 8 : Nat)).length a, ← this]
    refine ⟨_, e1, ?_⟩
    rw [e1, List.append_assoc] at hs'
    exact List.append_cancel_left hs'
  have hu := unseal_turn (hsd.trans hs2) hne
  have hl' : (a' ++ c :: d).length = x.length + 8 := by
    rw [hs2] at hsl
    rw [List.length_append, List.length_cons] at hsl ⊢
    omega
  have hp' : putText (a' ++ c :: d) = putNum (x.length + 8 : Nat) ++ (a' ++ c :: d) := by
    unfold putText
    rw [if_pos (by omega), hl']
  have hg := getText_at (pre := pre) (x := a' ++ c :: d) (rest := []) (by omega) (by
    rw [hp', List.append_nil]
    rw [h1, hp] at hl
    simp only [List.length_append] at hl hl' ⊢
    omega)
  rw [List.append_nil, hp'] at hg
  rw [List.append_assoc, frameRead_eq, hg]
  dsimp only
  unfold frameOf
  dsimp only
  rw [if_neg (by simp), if_pos hu]
  exact hu

/-! ### logs -/
/-- the encodings of some frames, one behind the other -/
def cat : List Frm → Bs
  | [] => []
  | f :: fs => frameBytes f.1 f.2.data.toList ++ cat fs
theorem cat_app : ∀ (a b : List Frm), cat (a ++ b) = cat a ++ cat b
  | [], _ => rfl
  | f :: a, b => by rw [List.cons_append, cat, cat, cat_app a b, List.append_assoc]
def rightAll (fs : List Frm) : Prop := ∀ f ∈ fs, frameOk f.1 f.2.data.toList = true
def rises : List Frm → Prop
  | [] => True
  | [_] => True
  | f :: g :: fs => f.1 < g.1 ∧ rises (g :: fs)
theorem rises_snoc : ∀ (fs : List Frm) (f : Frm), rises (fs ++ [f]) ↔ rises fs ∧ notUp fs f.1 = false
  | [], f => by simp [rises, notUp]
  | [g], f => by simp [rises, notUp]
  | g :: h :: fs, f => by
    have := rises_snoc (h :: fs) f
    have hn : notUp (g :: h :: fs) f.1 = notUp (h :: fs) f.1 := by
      unfold notUp
      rw [List.getLast?_cons_cons]
    rw [hn]
    show g.1 < h.1 ∧ rises (h :: fs ++ [f]) ↔ (g.1 < h.1 ∧ rises (h :: fs)) ∧ _
    rw [this, and_assoc]
theorem rises_pre : ∀ (fs gs : List Frm), rises (fs ++ gs) → rises fs
  | [], _, _ => trivial
  | [_], _, _ => trivial
  | f :: g :: fs, gs, h => ⟨h.1, rises_pre (g :: fs) gs h.2⟩
theorem frameBytes_pos {q : Int} {x : Bs} (h : frameOk q x = true) : 9 ≤ (frameBytes q x).length := by
  have h1 := frameBytes_size h
  have h2 := putNum_length (x.length + 8 : Nat)
  omega
theorem bs_frm (f : Frm) : ((f.1, bs f.2.data.toList) : Frm) = f := by rw [bs_data]
theorem logGo_cat (rest : Bs) : ∀ (gs fs : List Frm) (n : Nat), rightAll gs → rises (fs ++ gs) → (cat fs ++ (cat gs ++ rest)).length ≤ 8000 →
    gs.length ≤ n → ((frameRead (cat fs ++ (cat gs ++ rest)) (cat (fs ++ gs)).length).2.2.2 ≠ 0 ∨ notUp (fs ++ gs) (frameRead (cat fs ++ (cat gs ++ rest)) (cat (fs ++ gs)).length).1 = true) →
    logGo (cat fs ++ (cat gs ++ rest)) n (cat fs).length fs = (fs ++ gs, ((cat (fs ++ gs)).length : Int))
  | [], fs, n, _, _, _, _, he => by
    rw [List.append_nil] at he ⊢
    exact logGo_end n he
  | g :: gs, fs, n, hr, hu, hl, hn, he => by
    obtain ⟨n, rfl⟩ : ∃ m, n = m + 1 := ⟨n - 1, by simp at hn; omega⟩
    have hg := hr g (by simp)
    have e1 : cat fs ++ (cat (g :: gs) ++ rest) = cat fs ++ frameBytes g.1 g.2.data.toList ++ (cat gs ++ rest) := by simp [cat]
    have hf := frameRead_at (pre := cat fs) (rest := cat gs ++ rest) hg (by rw [← e1]; exact hl)
    have hup : notUp fs g.1 = false := by
      have : rises (fs ++ [g]) := rises_pre (fs ++ [g]) gs (by rw [List.append_assoc]; exact hu)
      exact ((rises_snoc fs g).1 this).2
    rw [logGo, e1, hf, if_neg (by simp [hup])]
    dsimp only
    rw [bs_frm]
    have e2 : cat fs ++ frameBytes g.1 g.2.data.toList = cat (fs ++ [g]) := by rw [cat_app]; simp [cat]
    have e3 : fs ++ g :: gs = (fs ++ [g]) ++ gs := by simp
    rw [e1, e2, e3] at he
    rw [e3] at hu ⊢
    rw [← List.length_append, e2]
    refine logGo_cat rest gs (fs ++ [g]) n (fun f hf => hr f (by simp [hf])) hu ?_ (by simp at hn; omega) he
    rw [← e2, ← e1]; exact hl
theorem cat_len : ∀ {fs : List Frm}, rightAll fs → 9 * fs.length ≤ (cat fs).length
  | [], _ => by simp [cat]
  | f :: fs, h => by
    have := cat_len (fs := fs) fun g hg => h g (by simp [hg])
    have h1 := frameBytes_pos (h f (by simp))
    rw [cat, List.length_append, List.length_cons]
    omega
/-- a log that begins with some frames and stops there -/
theorem logRead_cat {fs : List Frm} {rest : Bs} (hr : rightAll fs) (hu : rises fs) (hl : (cat fs ++ rest).length ≤ 8000)
    (he : (frameRead (cat fs ++ rest) (cat fs).length).2.2.2 ≠ 0 ∨ notUp fs (frameRead (cat fs ++ rest) (cat fs).length).1 = true) : logRead (cat fs ++ rest) = (fs, ((cat fs).length : Int), 0) := by
  have hlen := cat_len hr
  have h := logGo_cat rest fs [] ((cat fs ++ rest).length + 1) hr (by simpa using hu) (by simpa [cat] using hl) (by rw [List.length_append]; omega) (by simpa [cat] using he)
  simp only [cat, List.nil_append, List.length_nil] at h
  unfold logRead
  rw [if_neg (by omega)]
  rw [show ((0 : Nat) : Int) = 0 from rfl] at h
  rw [h]
theorem logGo_inv (t : Bs) : ∀ (n : Nat) (fs : List Frm), rightAll fs → rises fs → (∃ rest, t = cat fs ++ rest) → ∀ gs z, logGo t n (cat fs).length fs = (gs, z) →
    rightAll gs ∧ rises gs ∧ z = (cat gs).length ∧ ∃ rest, t = cat gs ++ rest
  | 0, fs, hr, hu, he, gs, z, h => by
    simp only [logGo, Prod.mk.injEq] at h
    obtain ⟨rfl, rfl⟩ := h
    exact ⟨hr, hu, rfl, he⟩
  | n + 1, fs, hr, hu, he, gs, z, h => by
    rw [logGo] at h
    by_cases hc : (frameRead t (cat fs).length).2.2.2 ≠ 0 ∨ notUp fs (frameRead t (cat fs).length).1 = true
    · rw [if_pos hc] at h
      simp only [Prod.mk.injEq] at h
      obtain ⟨rfl, rfl⟩ := h
      exact ⟨hr, hu, rfl, he⟩
    · rw [if_neg hc] at h
      rcases hf : frameRead t (cat fs).length with ⟨q, x, z1, c⟩
      rw [hf] at h hc
      dsimp only at h hc
      have hc0 : c = 0 := by
        by_cases hc0 : c = 0
        · exact hc0
        · exact absurd (.inl hc0) hc
      subst hc0
      have hup : notUp fs q = false := by
        cases hb : notUp fs q with
        | false => rfl
        | true => exact absurd (.inr hb) hc
      obtain ⟨i, j, e1, rfl, e3, e4, e5, e6, e7⟩ := frameRead_put hf
      obtain rfl : (cat fs).length = i := by omega
      obtain ⟨rest, rfl⟩ := he
      rw [List.drop_left] at e7
      have hlen : (frameBytes q x).length = j := by
        rw [e7, List.length_take]
        rw [List.length_append] at e4
        omega
      have e8 : cat (fs ++ [(q, bs x)]) = cat fs ++ frameBytes q x := by rw [cat_app]; simp [cat, data_bs]
      have e9 : (cat (fs ++ [(q, bs x)])).length = (cat fs).length + j := by rw [e8, List.length_append, hlen]
      rw [← e9] at h
      refine logGo_inv (cat fs ++ rest) n (fs ++ [(q, bs x)]) ?_ ?_ ?_ gs z h
      · intro f hf
        rcases List.mem_append.1 hf with hf | hf
        · exact hr f hf
        · simp only [List.mem_singleton] at hf
          subst hf
          rw [data_bs]; exact e6
      · exact (rises_snoc fs _).2 ⟨hu, hup⟩
      · refine ⟨rest.drop j, ?_⟩
        rw [e8, e7, List.append_assoc, List.take_append_drop]
/-- what a log's reading says of the log -/
theorem logRead_inv {t : Bs} {fs : List Frm} {z c : Int} (h : logRead t = (fs, z, c)) : rightAll fs ∧ rises fs ∧ z = (cat fs).length ∧ ∃ rest, t = cat fs ++ rest := by
  unfold logRead at h
  by_cases hl : 8000 < t.length
  · rw [if_pos hl] at h
    simp only [Prod.mk.injEq] at h
    obtain ⟨rfl, rfl, _⟩ := h
    exact ⟨fun f hf => by simp at hf, trivial, rfl, t, rfl⟩
  · rw [if_neg hl] at h
    simp only [Prod.mk.injEq] at h
    obtain ⟨h1, h2, _⟩ := h
    exact logGo_inv t (t.length + 1) [] (fun f hf => by simp at hf) trivial ⟨t, rfl⟩ fs z (Prod.ext h1 h2)
theorem logRead_code {t : Bs} (h : t.length ≤ 8000) : (logRead t).2.2 = 0 := by unfold logRead; rw [if_neg (by omega)]
end Go.Proofs.Ythkebpgkhblcjaa.M
namespace Go.Proofs.Ythkebpgkhblcjaa.M

theorem rightAll_app {a b : List Frm} (h : rightAll (a ++ b)) : rightAll a ∧ rightAll b := ⟨fun f hf => h f (by simp [hf]), fun f hf => h f (by simp [hf])⟩
theorem cat_one (f : Frm) : cat [f] = frameBytes f.1 f.2.data.toList := by simp [cat]
theorem log_whole {fs : List Frm} (hr : rightAll fs) (hu : rises fs) (hl : (cat fs).length ≤ 8000) : logRead (cat fs) = (fs, ((cat fs).length : Int), 0) := by
  have := logRead_cat (fs := fs) (rest := []) hr hu (by simpa using hl) (.inl (frameRead_end (by simp)))
  simpa using this
theorem log_cut {gs : List Frm} {f : Frm} (hr : rightAll (gs ++ [f])) (hu : rises (gs ++ [f])) (hl : (cat (gs ++ [f])).length ≤ 8000) {m : Nat} (hm : m < (frameBytes f.1 f.2.data.toList).length) :
    logRead ((cat (gs ++ [f])).take ((cat (gs ++ [f])).length - 1 - m)) = (gs, ((cat gs).length : Int), 0) := by
  have h2 := rightAll_app hr
  have e : cat (gs ++ [f]) = cat gs ++ frameBytes f.1 f.2.data.toList := by rw [cat_app, cat_one]
  have hf := h2.2 f (by simp)
  rw [e] at hl ⊢
  rw [List.length_append] at hl ⊢
  rw [show (cat gs).length + (frameBytes f.1 f.2.data.toList).length - 1 - m = (cat gs).length + ((frameBytes f.1 f.2.data.toList).length - 1 - m) by omega, List.take_length_add_append]
  exact logRead_cat h2.1 (rises_pre gs [f] hu) (by rw [List.length_append, List.length_take]; omega) (.inl (frameRead_part hf (by omega)))
theorem log_turn {gs : List Frm} {f : Frm} (hr : rightAll (gs ++ [f])) (hu : rises (gs ++ [f])) (hl : (cat (gs ++ [f])).length ≤ 8000) {k : Nat} {c : UInt8} (hk : (cat gs).length + 2 ≤ k) (hk2 : k < (cat (gs ++ [f])).length)
    (hc : (cat (gs ++ [f]))[k] ≠ c) : logRead ((cat (gs ++ [f])).set k c) = (gs, ((cat gs).length : Int), 0) := by
  have h2 := rightAll_app hr
  have e : cat (gs ++ [f]) = cat gs ++ frameBytes f.1 f.2.data.toList := by rw [cat_app, cat_one]
  have hf := h2.2 f (by simp)
  have hk3 : k - (cat gs).length < (frameBytes f.1 f.2.data.toList).length := by rw [e, List.length_append] at hk2; omega
  have hc2 : (frameBytes f.1 f.2.data.toList)[k - (cat gs).length] ≠ c := by
    intro h
    refine hc ?_
    simp only [e]
    rw [List.getElem_append_right (by omega)]
    exact h
  rw [e] at hl ⊢
  rw [List.set_append_right _ _ (by omega)]
  have hp : frameBytes f.1 f.2.data.toList = (frameBytes f.1 f.2.data.toList).take (k - (cat gs).length) ++ (frameBytes f.1 f.2.data.toList)[k - (cat gs).length] :: (frameBytes f.1 f.2.data.toList).drop (k - (cat gs).length + 1) := by
    rw [← List.drop_eq_getElem_cons hk3, List.take_append_drop]
  have hset : (frameBytes f.1 f.2.data.toList).set (k - (cat gs).length) c = (frameBytes f.1 f.2.data.toList).take (k - (cat gs).length) ++ c :: (frameBytes f.1 f.2.data.toList).drop (k - (cat gs).length + 1) := by
    rw [List.set_eq_take_append_cons_drop, if_pos hk3]
  have ht := frameRead_turn (pre := cat gs) (c := c) hf hp (by rw [List.length_take]; omega) hc2 hl
  rw [hset]
  refine logRead_cat h2.1 (rises_pre gs [f] hu) ?_ (.inl ht)
  rw [← hset, List.length_append, List.length_set, ← List.length_append]
  exact hl
/-- what a log that was read says of itself -/
theorem log_facts_of {t : Bs} {fs : List Frm} {z c : Int} (h : logRead t = (fs, z, c)) (hne : fs ≠ []) :
    c = 0 ∧ rightAll fs ∧ rises fs ∧ z = ((cat fs).length : Int) ∧ t.take (cat fs).length = cat fs ∧ (cat fs).length ≤ t.length ∧ t.length ≤ 8000 := by
  obtain ⟨h1, h2, h3, rest, h4⟩ := logRead_inv h
  have hl : t.length ≤ 8000 := by
    rcases Nat.lt_or_ge 8000 t.length with hlt | hge
    · unfold logRead at h
      rw [if_pos hlt] at h
      simp only [Prod.mk.injEq] at h
      exact absurd h.1.symm hne
    · exact hge
  have hc := logRead_code hl
  rw [h] at hc
  exact ⟨hc, h1, h2, h3, by rw [h4, List.take_left], by rw [h4, List.length_append]; omega, hl⟩
theorem last_split {fs : List Frm} (h : fs ≠ []) : ∃ gs f, fs = gs ++ [f] := ⟨fs.dropLast, fs.getLast h, (List.dropLast_concat_getLast h).symm⟩
theorem xor_ne (b : UInt8) (r : Nat) (h : r < 255) : b ^^^ UInt8.ofNat (1 + r) ≠ b := by
  intro e
  have := congrArg (fun x => b ^^^ x) e
  simp only [← UInt8.xor_assoc, UInt8.xor_self, UInt8.zero_xor] at this
  have h2 := congrArg UInt8.toNat this
  rw [UInt8.toNat_ofNat'] at h2
  simp at h2
  omega
/-- the encoding's length does not hang on the number -/
theorem frameBytes_same {q q2 : Int} {x : Bs} (h : frameOk q x = true) (h2 : isTime q2 = true) : (frameBytes q2 x).length = (frameBytes q x).length := by
  have h3 : frameOk q2 x = true := by
    unfold frameOk at h ⊢
    rw [Bool.and_eq_true] at h ⊢
    exact ⟨h2, h.2⟩
  rw [frameBytes_size h, frameBytes_size h3]
theorem frameOk_of {q : Int} {x : Bs} (h : frameBytes q x ≠ []) : frameOk q x = true := by
  cases hf : frameOk q x with
  | true => rfl
  | false => exfalso; apply h; unfold frameBytes; rw [hf]; rfl
end Go.Proofs.Ythkebpgkhblcjaa.M
namespace Go.Proofs.Ythkebpgkhblcjaa
open Go.RowKit M
namespace M
/-- a number out of a code -/
def atOf (l : Bs) (at_ : Nat) (most : Int) : Int := if most ≤ 1 ∨ l = [] then 0 else ((l.getD (at_ % l.length) 0).toNat : Int) % most
end M
theorem neq_Frame (q : Int) (t : ByteArray) (w : World) : (binOp .neq 30 (.agg #[.int .i64 q, .string t]) (.agg #[.int .i64 q, .string t])).run Try.prog w = .ok (.bool false) w := by
  go_simp
theorem neq_FrameOut (q z c : Int) (t : ByteArray) (w : World) : (binOp .neq 52 (.agg #[.int .i64 q, .string t, .int .i64 z, .int .i64 c]) (.agg #[.int .i64 q, .string t, .int .i64 z, .int .i64 c])).run Try.prog w = .ok (.bool false) w := by
  go_simp
theorem atOf_rng (l : Bs) (a : Nat) (most : Int) : 0 ≤ atOf l a most ∧ (atOf l a most < most ∨ atOf l a most = 0) := by
  unfold atOf
  by_cases h : most ≤ 1 ∨ l = []
  · rw [if_pos h]; exact ⟨by omega, .inr rfl⟩
  · rw [if_neg h]
    have hm : 1 < most := by omega
    exact ⟨Int.emod_nonneg _ (by omega), .inl (Int.emod_lt_of_pos _ (by omega))⟩
set_option maxRecDepth 100000 in
set_option maxHeartbeats 2000000 in
theorem lwAt_l (v : Value) (l : List UInt8) (hlen : l.length ≤ 1048576) (a : Nat) (ha : a ≤ 1000) (most : Int) (hm : -9223372036854775808 ≤ most ∧ most ≤ 9223372036854775807) (w : World) (hr : Rd w 1 v l.length (cb l)) :
    Gives Try.prog 8 #[v, .int .i64 a, .int .i64 most] w (.int .i64 (atOf l a most)) := by
  unfold Gives
  obtain ⟨A, cap, rfl, hn, hcap, hform⟩ := hr.form
  by_cases h1 : most ≤ 1
  · have HE : Hid (atOf l a most = 0) := Lib.hid (by unfold atOf; rw [if_pos (.inl h1)])
    clear hform hr
    go_enter Try.func8, Try.ntmps8
    go_wp2
    go_ret
    exact ⟨by rw [HE.out]; rfl, by (repeat (first | (with_reducible refine bset ?_ (by first | (simp; done) | (simp; omega)) _) | (with_reducible refine balloc ?_ _) | (with_reducible refine bdrew ?_) | with_reducible exact Below.refl _ _ | (refine bthen ?_ (by with_reducible assumption)) | (refine bthen ?_ (by assumption)) | exact Below.refl _ _))⟩
  · by_cases h0 : l = []
    · subst h0
      have HE : Hid (atOf [] a most = 0) := Lib.hid (by unfold atOf; rw [if_pos (.inr rfl)])
      have hd : decide (most ≤ 1) = false := by simpa using h1
      clear hform hr
      go_enter Try.func8, Try.ntmps8
      go_wp2
      go_ret
      exact ⟨by rw [HE.out]; rfl, by (repeat (first | (with_reducible refine bset ?_ (by first | (simp; done) | (simp; omega)) _) | (with_reducible refine balloc ?_ _) | (with_reducible refine bdrew ?_) | with_reducible exact Below.refl _ _ | (refine bthen ?_ (by with_reducible assumption)) | (refine bthen ?_ (by assumption)) | exact Below.refl _ _))⟩
    · have hpos : 0 < l.length := by
        cases l with
        | nil => exact absurd rfl h0
        | cons x y => simp
      have hd : decide (most ≤ 1) = false := by simpa using h1
      have hd2 : ((l.length : Int) == 0) = false := by simp; exact h0
      obtain ⟨b, off, rfl, hc⟩ := hform hpos
      have hml : a % l.length < l.length := Nat.mod_lt _ hpos
      have HE0 : atOf l a most = (l[a % l.length].toNat : Int) % most := by
        unfold atOf
        rw [if_neg (by rintro (h | h); exact h1 h; exact h0 h), List.getD_eq_getElem?_getD, List.getElem?_eq_getElem hml]; rfl
      have hmi : (a : Int) % (l.length : Int) = ((a % l.length : Nat) : Int) := by simp
      generalize hj : a % l.length = j at *
      have hcell := hc j (.int .u8 l[j].toNat) (by unfold cb; rw [List.getElem?_map, List.getElem?_eq_getElem hml]; rfl)
      have hmi1 : (j : Int) < l.length := by omega
      have hby0 : 0 ≤ (l[j].toNat : Int) := by omega
      have hby : (l[j].toNat : Int) < 256 := by have := l[j].toNat_lt; omega
      generalize (l[j].toNat : Int) = by_ at *
      have HE := Lib.hid HE0
      clear HE0
      clear hform hr hc h0
      have hnz : ¬ (l.length : Int) = 0 := by omega
      have hmz : ¬ most = 0 := by omega
      go_enter Try.func8, Try.ntmps8
      go_wp2
      go_ret
      exact ⟨by rw [HE.out]; rfl, by (repeat (first | (with_reducible refine bset ?_ (by first | (simp; done) | (simp; omega)) _) | (with_reducible refine balloc ?_ _) | (with_reducible refine bdrew ?_) | with_reducible exact Below.refl _ _ | (refine bthen ?_ (by with_reducible assumption)) | (refine bthen ?_ (by assumption)) | exact Below.refl _ _))⟩

set_option maxRecDepth 100000 in
set_option maxHeartbeats 2000000 in
theorem lwFrames_same (fs : List Frm) (va vb : Value) (w : World) (ha : Rd w 2 va fs.length (flat encFrm fs)) (hb : Rd w 2 vb fs.length (flat encFrm fs)) :
    Gives Try.prog 5 #[va, vb] w (.bool true) := by
  unfold Gives
  obtain ⟨A1, c1, rfl, hn1, hc1, hf1⟩ := ha.form
  obtain ⟨A2, c2, rfl, hn2, hc2, hf2⟩ := hb.form
  unfold maxLen at hc1 hc2
  have hne : ((fs.length : Int) != fs.length) = false := by simp
  have H1 := Lib.hid hf1
  have H2 := Lib.hid hf2
  clear ha hb hf1 hf2
  go_enter Try.func5, Try.ntmps5
  go_wp2
  go_loopw [5] (fun i wr => ∃ k : Nat, k ≤ fs.length ∧ i = .int .i64 k ∧ Below w.heap.size w wr) (fun i _ => fs.length - (intOf i).toNat)
  case atStart => exact ⟨0, Nat.zero_le _, rfl, Below.refl _ _⟩
  case round =>
    obtain ⟨k, hk, rfl, BB⟩ := hrel
    by_cases hlt : k < fs.length
    · obtain ⟨b1, o1, rfl, q1⟩ := H1.out (by omega)
      obtain ⟨b2, o2, rfl, q2⟩ := H2.out (by omega)
      have hi : (k : Int) < fs.length := by omega
      have cells : ∀ (b off : Nat), (∀ j u, (flat encFrm fs)[j]? = some u → w.cell? ⟨b, off + j, none⟩ = some u) → ∀ x : Later wr, x.now.cell? ⟨b, off + k * 2, none⟩ = some (.int .i64 fs[k].1) ∧ x.now.cell? ⟨b, off + k * 2 + 1, none⟩ = some (.string fs[k].2) := fun b off hc x => by
        have e0 := flat_get encFrm_len fs k 0 fs[k] (List.getElem?_eq_getElem hlt) (by omega)
        have e1 := flat_get encFrm_len fs k 1 fs[k] (List.getElem?_eq_getElem hlt) (by omega)
        have h0 := hc _ _ (e0.trans rfl)
        have h1 := hc _ _ (e1.trans rfl)
        have bb := bthen BB x.ok
        rw [← (bcell bb).1 _ _ (World.block_lt_of_cell? w _ h0)] at h0
        rw [← (bcell bb).1 _ _ (World.block_lt_of_cell? w _ h1)] at h1
        exact ⟨h0, by rw [Nat.add_assoc]; exact h1⟩
      have l0 := fun x => (cells b1 o1 q1 x).1
      have l1 := fun x => (cells b1 o1 q1 x).2
      have l2 := fun x => (cells b2 o2 q2 x).1
      have l3 := fun x => (cells b2 o2 q2 x).2
      have hnq := neq_Frame
      generalize fs[k] = f at *
      obtain ⟨fq, ft⟩ := f
      dsimp only at l0 l1 l2 l3
      clear q1 q2 cells
      go_wp2
      refine wp_region_later (by kernel_rfl) (by kernel_rfl) ?_
      repeat (go_big_quiet_step (fail "no call"))
      refine wpQuiet_nil ?_
      rintro _ ⟨y, rfl⟩
      have hy := y.ok
      clear l0 l1 l2 l3
      generalize y.now = w5 at *
      have BB5 := bthen BB hy
      clear BB hy
      go_wp2
      go_roundw
      case rel => exact ⟨k + 1, by omega, by go_num, BB5⟩
      case measure => simp [intOf]; omega
    · obtain rfl : k = fs.length := by omega
      go_wp2
      go_ret
      exact ⟨rfl, BB⟩
end Go.Proofs.Ythkebpgkhblcjaa
