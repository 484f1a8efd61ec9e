/-
  Decimal numerals, labels and operations as texts: the plain words. No program in sight.
-/
import Derived.Test.YtfblolkkajppcaaGreatDoorO3
import Derived.Test.YtfblolkkajppcaaGreatDoorO4
import Derived.Lib.ItoaNum
import Derived.Lib.Join
set_option linter.unusedSimpArgs false
set_option linter.unusedVariables false
namespace Go.Proofs.YtfblolkkajppcaaGreatDoor
namespace M
/-! ### numerals -/
def dec (n : Int) : Bs := Lib.itoa n
theorem dec_nat (n : Nat) : dec (n : Int) = Lib.decDigits n := by
  unfold dec Lib.itoa
  rw [if_neg (by omega), Int.toNat_natCast]
theorem digits_small {n : Nat} (h : n < 10) : Lib.decDigits n = [UInt8.ofNat (48 + n)] := Lib.decDigits_one h
theorem digits_big {n : Nat} (h : ¬ n < 10) : Lib.decDigits n = Lib.decDigits (n / 10) ++ [UInt8.ofNat (48 + n % 10)] := by rw [Lib.decDigits, dif_neg h]
/-- one round of the reference's loop -/
theorem digits_step {n : Nat} {out D : Bs} (hn : n ≠ 0) (h : Lib.decDigits n ++ out = D) :
    (n / 10 ≠ 0 → Lib.decDigits (n / 10) ++ ([UInt8.ofNat (48 + n % 10)] ++ out) = D) ∧ (n / 10 = 0 → [UInt8.ofNat (48 + n % 10)] ++ out = D) := by
  refine ⟨fun h1 => ?_, fun h1 => ?_⟩
  · rw [← h, digits_big (n := n) (by omega), List.append_assoc]
  · rw [← h, digits_small (n := n) (by omega), show n % 10 = n by omega]
theorem dec_len {n : Int} (h : 0 ≤ n ∧ n ≤ 9999999) : (dec n).length ≤ 7 := by
  obtain ⟨k, rfl⟩ := Int.eq_ofNat_of_zero_le h.1
  rw [dec_nat, Lib.decDigits_length]
  rcases Nat.lt_or_ge (Lib.nDigits k) 8 with h1 | h1
  · omega
  · exfalso
    have hk : k < 10 ^ 7 := by omega
    have : ∀ m, m < 10 ^ 7 → Lib.nDigits m ≤ 7 := by
      intro m hm
      by_cases h0 : m = 0
      · subst h0; rw [Lib.nDigits_small (by omega)]; omega
      · obtain ⟨j, hj, hj2⟩ : ∃ j, 10 ^ j ≤ m ∧ m < 10 ^ (j + 1) := by
          by_cases a1 : m < 10
          · exact ⟨0, by omega, by omega⟩
          by_cases a2 : m < 100
          · exact ⟨1, by omega, by omega⟩
          by_cases a3 : m < 1000
          · exact ⟨2, by omega, by omega⟩
          by_cases a4 : m < 10000
          · exact ⟨3, by omega, by omega⟩
          by_cases a5 : m < 100000
          · exact ⟨4, by omega, by omega⟩
          by_cases a6 : m < 1000000
          · exact ⟨5, by omega, by omega⟩
          · exact ⟨6, by omega, by omega⟩
        rw [Lib.nDigits_unique j m hj hj2]
        rcases Nat.lt_or_ge j 7 with h | h
        · omega
        · have : (10 : Nat) ^ 7 ≤ 10 ^ j := Nat.pow_le_pow_right (by omega) h
          omega
    have := this k hk
    omega
/-! ### labels -/
/-- is letter i in the set b? -/
def inSet (b : Int) (i : Nat) : Bool := b.toNat.testBit i
def lett (b : Int) (i : Nat) : Bs := if inSet b i then [UInt8.ofNat (97 + i)] else []
def letters (b : Int) : Nat → Bs
  | 0 => []
  | i + 1 => letters b i ++ lett b i
def labelText (a b : Int) : Bs := if labelOk a b then dec a ++ [58] ++ letters b 3 else []
theorem labelText_bad {a b : Int} (h : labelOk a b = false) : labelText a b = [] := by unfold labelText; rw [h]; rfl
theorem labelText_ok {a b : Int} (h : labelOk a b = true) : labelText a b = dec a ++ [58] ++ letters b 3 := by unfold labelText; rw [if_pos h]
theorem labelOk_spec {a b : Int} (h : labelOk a b = true) : (0 ≤ a ∧ a ≤ 3) ∧ (0 ≤ b ∧ b ≤ 7) := by
  unfold labelOk isIn at h; simp at h; exact h
theorem dec_dig {a : Int} (h : 0 ≤ a ∧ a ≤ 9) : dec a = [UInt8.ofNat (48 + a.toNat)] := by
  obtain ⟨k, rfl⟩ := Int.eq_ofNat_of_zero_le h.1
  rw [dec_nat, digits_small (by omega), Int.toNat_natCast]
theorem labelText_len (a b : Int) : (labelText a b).length ≤ 5 := by
  cases h : labelOk a b
  · rw [labelText_bad h]; simp
  · rw [labelText_ok h]
    obtain ⟨h1, h2⟩ := labelOk_spec h
    rw [dec_dig ⟨h1.1, by omega⟩]
    have : ∀ i, (lett b i).length ≤ 1 := fun i => by unfold lett; split <;> simp
    have h0 := this 0
    have h1 := this 1
    have h2 := this 2
    simp [letters]
    omega
/-! ### words with a space between -/
def joinSp (xs : List Bs) : Bs := Lib.join xs [32]
theorem joinSp_cons (x : Bs) (r : List Bs) : joinSp (x :: r) = x ++ (r.map ([32] ++ ·)).flatten := by
  unfold joinSp
  rw [Lib.join_cons]; rfl
/-- the words of an operation -/
def numWords (k : Int) (l : List Int) : List Bs := (l.take (many k).toNat).map dec
def stateWord (b : Int) : Bs := if b = 1 then [117, 112] else if b = 2 then [100, 114, 97, 105, 110] else if b = 3 then [100, 111, 119, 110] else []
def opWords (sys : Bool) (l1 l2 k : Int) (ow : ByteArray) (a b c d m1 m2 af : Int) : List Bs :=
  (if sys then [115, 121, 115] else labelText l1 l2) :: (wordOf k).data.toList ::
    ((if k = 1 then [ow.data.toList] else if k = 7 then [labelText m1 m2] else []) ++
     (if k = 13 then [dec a, stateWord b] else numWords k [a, b, c, d]) ++
     (if af = 0 then [] else [[97, 102, 116, 101, 114], labelText m1 m2, dec af]))
def opText (sys : Bool) (l1 l2 k : Int) (ow : ByteArray) (a b c d m1 m2 af : Int) : Bs :=
  if opOk sys l1 l2 k ow a b c d m1 m2 af then joinSp (opWords sys l1 l2 k ow a b c d m1 m2 af) else []
theorem opText_bad {sys : Bool} {l1 l2 k : Int} {ow : ByteArray} {a b c d m1 m2 af : Int} (h : opOk sys l1 l2 k ow a b c d m1 m2 af = false) : opText sys l1 l2 k ow a b c d m1 m2 af = [] := by unfold opText; rw [h]; rfl
theorem opText_ok {sys : Bool} {l1 l2 k : Int} {ow : ByteArray} {a b c d m1 m2 af : Int} (h : opOk sys l1 l2 k ow a b c d m1 m2 af = true) : opText sys l1 l2 k ow a b c d m1 m2 af = joinSp (opWords sys l1 l2 k ow a b c d m1 m2 af) := by unfold opText; rw [if_pos h]
end M
end Go.Proofs.YtfblolkkajppcaaGreatDoor
