/-
  What the Go functions compute, in plain words of lists and numbers. No program in sight.
-/
import Derived.Laws.BitsAllLaws
import Derived.Lib.Strings
namespace Go.Proofs.Ytoggdaiibmjkkaa.M

abbrev Bs := List UInt8
/-- the string of some bytes -/
def bs (l : Bs) : ByteArray := ⟨l.toArray⟩
theorem bs_data (s : ByteArray) : bs s.data.toList = s := Lib.mk_data s
@[go_sem] theorem data_bs (l : Bs) : (bs l).data.toList = l := rfl
@[go_sem] theorem data_app (a b : ByteArray) : (a ++ b).data.toList = a.data.toList ++ b.data.toList := by simp [ByteArray.data_append]
@[go_sem] theorem size_bs (l : Bs) : (bs l).size = l.length := rfl
theorem bs_append (a b : Bs) : bs a ++ bs b = bs (a ++ b) := by
  apply ByteArray.ext
  simp [bs]
theorem bs_inj {a b : Bs} : bs a = bs b ↔ a = b := ⟨fun h => by have := congrArg (fun x : ByteArray => x.data.toList) h; simpa [bs] using this, fun h => by rw [h]⟩

/-! ### numbers -/
def zig (n : Int) : Nat := if n < 0 then (2 * (-(n + 1)) + 1).toNat else (2 * n).toNat
def putU : Nat → Nat → Bs
  | 0, u => [UInt8.ofNat u]
  | f + 1, u => if u < 128 then [UInt8.ofNat u] else UInt8.ofNat (u % 128 + 128) :: putU f (u / 128)
def putNum (n : Int) : Bs := putU 10 (zig n)
theorem putU_lt {f u : Nat} (h : u < 128) : putU f u = [UInt8.ofNat u] := by
  cases f <;> simp [putU, h]
theorem putU_ge {f u : Nat} (h : 128 ≤ u) : putU (f + 1) u = UInt8.ofNat (u % 128 + 128) :: putU f (u / 128) := by
  simp [putU, Nat.not_lt.2 h]
theorem zig_lt {n : Int} (h : -9223372036854775808 ≤ n ∧ n ≤ 9223372036854775807) : zig n < 18446744073709551616 := by
  unfold zig; split <;> omega
theorem putU_length : ∀ f u, 1 ≤ (putU f u).length ∧ (putU f u).length ≤ f + 1
  | 0, u => by simp [putU]
  | f + 1, u => by
    unfold putU
    split
    · simp
    · have := putU_length f (u / 128); simp; omega
theorem putNum_length (n : Int) : 1 ≤ (putNum n).length ∧ (putNum n).length ≤ 11 := putU_length 10 _

/-! ### CRC -/
def crcBit (x : Nat) : Nat := if x % 2 = 1 then (x / 2) ^^^ 3988292384 else x / 2
def crcBits : Nat → Nat → Nat
  | 0, x => x
  | n + 1, x => crcBits n (crcBit x)
def crcByte (x : Nat) (b : UInt8) : Nat := crcBits 8 (x ^^^ b.toNat)
def crcList (x : Nat) (l : Bs) : Nat := l.foldl crcByte x
theorem crcBit_lt {x : Nat} (h : x < 4294967296) : crcBit x < 4294967296 := by
  unfold crcBit
  split
  · exact Nat.xor_lt_two_pow (n := 32) (by omega) (by omega)
  · omega
theorem crcBits_lt : ∀ (n : Nat) {x : Nat}, x < 4294967296 → crcBits n x < 4294967296
  | 0, _, h => h
  | n + 1, _, h => crcBits_lt n (crcBit_lt h)
theorem crcByte_lt {x : Nat} (b : UInt8) (h : x < 4294967296) : crcByte x b < 4294967296 :=
  crcBits_lt 8 (Nat.xor_lt_two_pow (n := 32) h (by have := b.toNat_lt; omega))
theorem crcList_lt : ∀ (l : Bs) {x : Nat}, x < 4294967296 → crcList x l < 4294967296
  | [], _, h => h
  | b :: l, _, h => crcList_lt l (crcByte_lt b h)
theorem crcList_snoc (x : Nat) (l : Bs) (b : UInt8) : crcList x (l ++ [b]) = crcByte (crcList x l) b := by
  simp [crcList]
theorem crcBits_succ : ∀ (n x : Nat), crcBits (n + 1) x = crcBit (crcBits n x)
  | 0, _ => rfl
  | n + 1, x => by rw [crcBits, crcBits_succ n (crcBit x)]; rfl
/-- the checksum of some bytes that goes on from a checksum -/
def crcMore (c : Nat) (l : Bs) : Nat := 4294967295 - crcList (4294967295 - c) l

def four (n : Int) : Bs := [UInt8.ofNat (n % 256).toNat, UInt8.ofNat (n / 256 % 256).toNat, UInt8.ofNat (n / 65536 % 256).toNat, UInt8.ofNat (n / 16777216 % 256).toNat]
def crcFour (l : Bs) : Bs := four (crcMore 0 l)
def seal_ (l : Bs) : Bs := if l.length ≤ 7996 then l ++ crcFour l else []
def putText (l : Bs) : Bs := if l.length ≤ 8000 then putNum l.length ++ l else []


def isTime (n : Int) : Bool := decide (0 ≤ n) && decide (n ≤ 1000000)
def frameOk (q : Int) (t : Bs) : Bool := isTime q && decide (t.length ≤ 2980)
def frameBytes (q : Int) (t : Bs) : Bs := if frameOk q t then putText (seal_ (four q ++ t)) else []
@[go_sem] theorem four_length (n : Int) : (four n).length = 4 := rfl
@[go_sem] theorem crcFour_length (l : Bs) : (crcFour l).length = 4 := rfl
theorem seal_length (l : Bs) : (seal_ l).length ≤ l.length + 4 := by
  unfold seal_; split <;> simp [crcFour_length]
theorem size_data (s : ByteArray) : s.data.toList.length = s.size := by rw [Array.length_toList]; rfl
theorem crcMore_le (c : Nat) (l : Bs) : crcMore c l ≤ 4294967295 := by unfold crcMore; omega


/-! ### numbers read -/
def unzig (u : Nat) : Int := if u % 2 = 1 then -((u / 2 : Nat) : Int) - 1 else ((u / 2 : Nat) : Int)
def gnum : Nat → Bs → Nat → Nat → Int × Nat × Int
  | 0, _, _, _ => (0, 0, 3)
  | _ + 1, [], _, _ => (0, 0, 4)
  | f + 1, b :: l, k, u =>
    if k = 9 ∧ 1 < b.toNat then (0, 0, 3)
    else if 128 ≤ b.toNat then gnum f l (k + 1) (u + b.toNat % 128 * 2 ^ (7 * k))
    else if b.toNat = 0 ∧ 0 < k then (0, 0, 3)
    else (unzig (u + b.toNat % 128 * 2 ^ (7 * k)), k + 1, 0)
/-- number, place behind it, code -/
def numAt (t : Bs) (a : Nat) : Int × Int × Int :=
  if (gnum 10 (t.drop a) 0 0).2.2 = 0 then ((gnum 10 (t.drop a) 0 0).1, ((a + (gnum 10 (t.drop a) 0 0).2.1 : Nat) : Int), 0) else (0, 0, (gnum 10 (t.drop a) 0 0).2.2)
def getNum (t : Bs) (a : Int) : Int × Int × Int :=
  if 8000 < t.length then (0, 0, 2) else if a < 0 then (0, 0, 1) else numAt t a.toNat
theorem numAt_ok {t : Bs} {a : Nat} {n : Int} {j : Nat} (h : gnum 10 (t.drop a) 0 0 = (n, j, 0)) : numAt t a = (n, ((a + j : Nat) : Int), 0) := by unfold numAt; rw [h]; rfl
theorem numAt_bad {t : Bs} {a : Nat} {n : Int} {j : Nat} {c : Int} (h : gnum 10 (t.drop a) 0 0 = (n, j, c)) (hc : c ≠ 0) : numAt t a = (0, 0, c) := by unfold numAt; rw [h]; simp [hc]
theorem drop_cons_get {t : Bs} {i : Nat} (h : i < t.length) : t.drop i = t[i] :: t.drop (i + 1) := List.drop_eq_getElem_cons h
theorem gnum_end {t : Bs} {i f k u : Nat} (h : t.length ≤ i) : gnum (f + 1) (t.drop i) k u = (0, 0, 4) := by rw [List.drop_eq_nil_of_le h]; rfl
theorem gnum_at {t : Bs} {i f k u : Nat} (h : i < t.length) : gnum (f + 1) (t.drop i) k u =
    if k = 9 ∧ 1 < t[i].toNat then (0, 0, 3) else if 128 ≤ t[i].toNat then gnum f (t.drop (i + 1)) (k + 1) (u + t[i].toNat % 128 * 2 ^ (7 * k))
    else if t[i].toNat = 0 ∧ 0 < k then (0, 0, 3) else (unzig (u + t[i].toNat % 128 * 2 ^ (7 * k)), k + 1, 0) := by rw [drop_cons_get h]; rfl
theorem pow7 {k u b : Nat} (hu : u < 2 ^ (7 * k)) (hb : b < 128) : u + b * 2 ^ (7 * k) < 2 ^ (7 * (k + 1)) := by
  have h : (2 : Nat) ^ (7 * (k + 1)) = 128 * 2 ^ (7 * k) := by rw [show 7 * (k + 1) = 7 + 7 * k by omega, Nat.pow_add]
  have h2 : b * 2 ^ (7 * k) ≤ 127 * 2 ^ (7 * k) := Nat.mul_le_mul_right _ (by omega)
  omega
theorem unzig_range {y : Nat} (h : y < 18446744073709551616) : -9223372036854775808 ≤ unzig y ∧ unzig y ≤ 9223372036854775807 := by
  unfold unzig; split <;> omega
theorem gnum_range : ∀ (f : Nat) (l : Bs) (k u : Nat), k + f = 10 → u < 2 ^ (7 * k) →
    (gnum f l k u).2.2 ≠ 0 ∧ 3 ≤ (gnum f l k u).2.2 ∧ (gnum f l k u).2.2 ≤ 4 ∨
    (gnum f l k u).2.2 = 0 ∧ k + 1 ≤ (gnum f l k u).2.1 ∧ (gnum f l k u).2.1 ≤ k + l.length ∧ -9223372036854775808 ≤ (gnum f l k u).1 ∧ (gnum f l k u).1 ≤ 9223372036854775807
  | 0, _, _, _, _, _ => by left; simp [gnum]
  | f + 1, [], _, _, _, _ => by left; simp [gnum]
  | f + 1, b :: l, k, u, hk, hu => by
    unfold gnum
    by_cases h1 : k = 9 ∧ 1 < b.toNat
    · rw [if_pos h1]; left; simp
    · rw [if_neg h1]
      by_cases h2 : 128 ≤ b.toNat
      · rw [if_pos h2]
        have := gnum_range f l (k + 1) (u + b.toNat % 128 * 2 ^ (7 * k)) (by omega) (pow7 hu (by omega))
        rcases this with h | ⟨h, h3, h4, h5⟩
        · left; exact h
        · right; refine ⟨h, by omega, ?_, h5⟩; simp only [List.length_cons]; omega
      · rw [if_neg h2]
        by_cases h3 : b.toNat = 0 ∧ 0 < k
        · rw [if_pos h3]; left; simp
        · rw [if_neg h3]
          right
          refine ⟨rfl, by omega, by simp, ?_⟩
          refine unzig_range ?_
          by_cases h9 : k = 9
          · subst h9
            have : b.toNat % 128 * 2 ^ (7 * 9) ≤ 1 * 2 ^ (7 * 9) := Nat.mul_le_mul_right _ (by omega)
            have h3 : (2 : Nat) ^ (7 * 9) = 9223372036854775808 := by decide
            omega
          · have h := pow7 (b := b.toNat % 128) hu (by omega)
            have h2 := Nat.pow_le_pow_right (n := 2) (by omega) (show 7 * (k + 1) ≤ 63 by omega)
            have h3 : (2 : Nat) ^ 63 = 9223372036854775808 := by decide
            omega
theorem numAt_range (t : Bs) (a : Nat) :
    (numAt t a).1 = 0 ∧ (numAt t a).2.1 = 0 ∧ (3 ≤ (numAt t a).2.2 ∧ (numAt t a).2.2 ≤ 4) ∨
    (numAt t a).2.2 = 0 ∧ (a : Int) + 1 ≤ (numAt t a).2.1 ∧ (numAt t a).2.1 ≤ t.length ∧ -9223372036854775808 ≤ (numAt t a).1 ∧ (numAt t a).1 ≤ 9223372036854775807 := by
  have h := gnum_range 10 (t.drop a) 0 0 (by omega) (by omega)
  unfold numAt
  rcases h with ⟨h, h3⟩ | ⟨h, h3, h4, h5⟩
  · rw [if_neg h]; left; exact ⟨rfl, rfl, h3⟩
  · rw [if_pos h]; right
    rw [List.length_drop] at h4
    refine ⟨rfl, ?_, ?_, h5⟩
    · show (a : Int) + 1 ≤ ((a + _ : Nat) : Int)
      omega
    · show ((a + _ : Nat) : Int) ≤ _
      omega
theorem getNum_range (t : Bs) (a : Int) :
    (getNum t a).1 = 0 ∧ (getNum t a).2.1 = 0 ∧ (1 ≤ (getNum t a).2.2 ∧ (getNum t a).2.2 ≤ 4) ∨
    (getNum t a).2.2 = 0 ∧ t.length ≤ 8000 ∧ 0 ≤ a ∧ a + 1 ≤ (getNum t a).2.1 ∧ (getNum t a).2.1 ≤ t.length ∧ -9223372036854775808 ≤ (getNum t a).1 ∧ (getNum t a).1 ≤ 9223372036854775807 := by
  unfold getNum
  by_cases h1 : 8000 < t.length
  · rw [if_pos h1]; left; simp
  · rw [if_neg h1]
    by_cases h2 : a < 0
    · rw [if_pos h2]; left; simp
    · rw [if_neg h2]
      rcases numAt_range t a.toNat with ⟨h3, h4, h5⟩ | ⟨h3, h4, h5⟩
      · left; exact ⟨h3, h4, by omega⟩
      · right; exact ⟨h3, by omega, by omega, by omega, h5⟩

/-! ### texts read -/
/-- text, place behind it, code -/
abbrev TextOut := Bs × Int × Int
def getText (t : Bs) (a : Int) : TextOut :=
  if (getNum t a).2.2 ≠ 0 then ([], 0, (getNum t a).2.2)
  else if (getNum t a).1 < 0 ∨ 8000 < (getNum t a).1 then ([], 0, 3)
  else if (t.length : Int) < (getNum t a).2.1 + (getNum t a).1 then ([], 0, 4)
  else ((t.drop (getNum t a).2.1.toNat).take (getNum t a).1.toNat, (getNum t a).2.1 + (getNum t a).1, 0)
def unseal (t : Bs) : TextOut :=
  if 8000 < t.length then ([], 0, 2) else if t.length < 4 then ([], 0, 4)
  else if crcFour (t.take (t.length - 4)) = t.drop (t.length - 4) then (t.take (t.length - 4), 0, 0) else ([], 0, 5)
def four4 (a b c d : Nat) : Int := ((a + b * 256 + c * 65536 + d * 16777216 : Nat) : Int)
/-- the number that the first four bytes tell -/
def ofFour (t : Bs) : Int := four4 (t[0]?.getD 0).toNat (t[1]?.getD 0).toNat (t[2]?.getD 0).toNat (t[3]?.getD 0).toNat
/-- number, text, place behind, code -/
abbrev FrameOut := Int × Bs × Int × Int
def frameRead (t : Bs) (a : Int) : FrameOut :=
  if (getText t a).2.2 ≠ 0 then (0, [], 0, (getText t a).2.2)
  else if (unseal (getText t a).1).2.2 ≠ 0 then (0, [], 0, (unseal (getText t a).1).2.2)
  else if (unseal (getText t a).1).1.length < 4 then (0, [], 0, 3)
  else if frameOk (ofFour (unseal (getText t a).1).1) ((unseal (getText t a).1).1.drop 4) then (ofFour (unseal (getText t a).1).1, (unseal (getText t a).1).1.drop 4, (getText t a).2.1, 0)
  else (0, [], 0, 3)
theorem extract_bs (s : ByteArray) (a b : Nat) : s.extract a b = bs ((s.data.toList.drop a).take (b - a)) := by
  apply ByteArray.ext
  simp [bs, ByteArray.data_extract]
  rw [← Array.toList_inj]
  simp [Array.toList_extract, List.extract]
end Go.Proofs.Ytoggdaiibmjkkaa.M
