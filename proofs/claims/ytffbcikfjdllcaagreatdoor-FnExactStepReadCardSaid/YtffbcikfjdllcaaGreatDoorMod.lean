/-
  What the Go functions compute, in plain words of lists and numbers. No program in sight.
-/
import Derived.Laws.BitsAllLaws
import Derived.Lib.Strings
set_option linter.unusedSimpArgs false
set_option linter.unusedVariables false
namespace Go.Proofs.YtffbcikfjdllcaaGreatDoor.M

abbrev Bs := List UInt8
/-- the string of some bytes -/
def bs (l : Bs) : ByteArray := ⟨l.toArray⟩
theorem bs_data (s : ByteArray) : bs s.data.toList = s := Lib.mk_data s
@[go_sem] theorem data_bs (l : Bs) : (bs l).data.toList = l := rfl
@[go_sem] theorem data_app (a b : ByteArray) : (a ++ b).data.toList = a.data.toList ++ b.data.toList := by simp [ByteArray.data_append]
@[go_sem] theorem size_bs (l : Bs) : (bs l).size = l.length := rfl
theorem bs_append (a b : Bs) : bs a ++ bs b = bs (a ++ b) := by
  apply ByteArray.ext
  simp [bs]
theorem bs_inj {a b : Bs} : bs a = bs b ↔ a = b := ⟨fun h => by have := congrArg (fun x : ByteArray => x.data.toList) h; simpa [bs] using this, fun h => by rw [h]⟩

/-! ### numbers -/
def zig (n : Int) : Nat := if n < 0 then (2 * (-(n + 1)) + 1).toNat else (2 * n).toNat
def putU : Nat → Nat → Bs
  | 0, u => [UInt8.ofNat u]
  | f + 1, u => if u < 128 then [UInt8.ofNat u] else UInt8.ofNat (u % 128 + 128) :: putU f (u / 128)
def putNum (n : Int) : Bs := putU 10 (zig n)
theorem putU_lt {f u : Nat} (h : u < 128) : putU f u = [UInt8.ofNat u] := by
  cases f <;> simp [putU, h]
theorem putU_ge {f u : Nat} (h : 128 ≤ u) : putU (f + 1) u = UInt8.ofNat (u % 128 + 128) :: putU f (u / 128) := by
  simp [putU, Nat.not_lt.2 h]
theorem zig_lt {n : Int} (h : -9223372036854775808 ≤ n ∧ n ≤ 9223372036854775807) : zig n < 18446744073709551616 := by
  unfold zig; split <;> omega
theorem putU_length : ∀ f u, 1 ≤ (putU f u).length ∧ (putU f u).length ≤ f + 1
  | 0, u => by simp [putU]
  | f + 1, u => by
    unfold putU
    split
    · simp
    · have := putU_length f (u / 128); simp; omega
theorem putNum_length (n : Int) : 1 ≤ (putNum n).length ∧ (putNum n).length ≤ 11 := putU_length 10 _

/-! ### CRC -/
def crcBit (x : Nat) : Nat := if x % 2 = 1 then (x / 2) ^^^ 3988292384 else x / 2
def crcBits : Nat → Nat → Nat
  | 0, x => x
  | n + 1, x => crcBits n (crcBit x)
def crcByte (x : Nat) (b : UInt8) : Nat := crcBits 8 (x ^^^ b.toNat)
def crcList (x : Nat) (l : Bs) : Nat := l.foldl crcByte x
theorem crcBit_lt {x : Nat} (h : x < 4294967296) : crcBit x < 4294967296 := by
  unfold crcBit
  split
  · exact Nat.xor_lt_two_pow (n := 32) (by omega) (by omega)
  · omega
theorem crcBits_lt : ∀ (n : Nat) {x : Nat}, x < 4294967296 → crcBits n x < 4294967296
  | 0, _, h => h
  | n + 1, _, h => crcBits_lt n (crcBit_lt h)
theorem crcByte_lt {x : Nat} (b : UInt8) (h : x < 4294967296) : crcByte x b < 4294967296 :=
  crcBits_lt 8 (Nat.xor_lt_two_pow (n := 32) h (by have := b.toNat_lt; omega))
theorem crcList_lt : ∀ (l : Bs) {x : Nat}, x < 4294967296 → crcList x l < 4294967296
  | [], _, h => h
  | b :: l, _, h => crcList_lt l (crcByte_lt b h)
theorem crcList_snoc (x : Nat) (l : Bs) (b : UInt8) : crcList x (l ++ [b]) = crcByte (crcList x l) b := by
  simp [crcList]
theorem crcBits_succ : ∀ (n x : Nat), crcBits (n + 1) x = crcBit (crcBits n x)
  | 0, _ => rfl
  | n + 1, x => by rw [crcBits, crcBits_succ n (crcBit x)]; rfl
/-- the checksum of some bytes that goes on from a checksum -/
def crcMore (c : Nat) (l : Bs) : Nat := 4294967295 - crcList (4294967295 - c) l

def four (n : Int) : Bs := [UInt8.ofNat (n % 256).toNat, UInt8.ofNat (n / 256 % 256).toNat, UInt8.ofNat (n / 65536 % 256).toNat, UInt8.ofNat (n / 16777216 % 256).toNat]
def crcFour (l : Bs) : Bs := four (crcMore 0 l)
def seal_ (l : Bs) : Bs := if l.length ≤ 7996 then l ++ crcFour l else []
def putText (l : Bs) : Bs := if l.length ≤ 8000 then putNum l.length ++ l else []


def isTime (n : Int) : Bool := decide (0 ≤ n) && decide (n ≤ 1000000)
def frameOk (q : Int) (t : Bs) : Bool := isTime q && decide (t.length ≤ 2980)
def frameBytes (q : Int) (t : Bs) : Bs := if frameOk q t then putText (seal_ (four q ++ t)) else []
@[go_sem] theorem four_length (n : Int) : (four n).length = 4 := rfl
@[go_sem] theorem crcFour_length (l : Bs) : (crcFour l).length = 4 := rfl
theorem seal_length (l : Bs) : (seal_ l).length ≤ l.length + 4 := by
  unfold seal_; split <;> simp [crcFour_length]
theorem size_data (s : ByteArray) : s.data.toList.length = s.size := by rw [Array.length_toList]; rfl
theorem crcMore_le (c : Nat) (l : Bs) : crcMore c l ≤ 4294967295 := by unfold crcMore; omega


/-! ### numbers read -/
def unzig (u : Nat) : Int := if u % 2 = 1 then -((u / 2 : Nat) : Int) - 1 else ((u / 2 : Nat) : Int)
def gnum : Nat → Bs → Nat → Nat → Int × Nat × Int
  | 0, _, _, _ => (0, 0, 3)
  | _ + 1, [], _, _ => (0, 0, 4)
  | f + 1, b :: l, k, u =>
    if k = 9 ∧ 1 < b.toNat then (0, 0, 3)
    else if 128 ≤ b.toNat then gnum f l (k + 1) (u + b.toNat % 128 * 2 ^ (7 * k))
    else if b.toNat = 0 ∧ 0 < k then (0, 0, 3)
    else (unzig (u + b.toNat % 128 * 2 ^ (7 * k)), k + 1, 0)
/-- number, place behind it, code -/
def numAt (t : Bs) (a : Nat) : Int × Int × Int :=
  if (gnum 10 (t.drop a) 0 0).2.2 = 0 then ((gnum 10 (t.drop a) 0 0).1, ((a + (gnum 10 (t.drop a) 0 0).2.1 : Nat) : Int), 0) else (0, 0, (gnum 10 (t.drop a) 0 0).2.2)
def getNum (t : Bs) (a : Int) : Int × Int × Int :=
  if 8000 < t.length then (0, 0, 2) else if a < 0 then (0, 0, 1) else numAt t a.toNat
theorem numAt_ok {t : Bs} {a : Nat} {n : Int} {j : Nat} (h : gnum 10 (t.drop a) 0 0 = (n, j, 0)) : numAt t a = (n, ((a + j : Nat) : Int), 0) := by unfold numAt; rw [h]; rfl
theorem numAt_bad {t : Bs} {a : Nat} {n : Int} {j : Nat} {c : Int} (h : gnum 10 (t.drop a) 0 0 = (n, j, c)) (hc : c ≠ 0) : numAt t a = (0, 0, c) := by unfold numAt; rw [h]; simp [hc]
theorem drop_cons_get {t : Bs} {i : Nat} (h : i < t.length) : t.drop i = t[i] :: t.drop (i + 1) := List.drop_eq_getElem_cons h
theorem gnum_end {t : Bs} {i f k u : Nat} (h : t.length ≤ i) : gnum (f + 1) (t.drop i) k u = (0, 0, 4) := by rw [List.drop_eq_nil_of_le h]; rfl
theorem gnum_at {t : Bs} {i f k u : Nat} (h : i < t.length) : gnum (f + 1) (t.drop i) k u =
    if k = 9 ∧ 1 < t[i].toNat then (0, 0, 3) else if 128 ≤ t[i].toNat then gnum f (t.drop (i + 1)) (k + 1) (u + t[i].toNat % 128 * 2 ^ (7 * k))
    else if t[i].toNat = 0 ∧ 0 < k then (0, 0, 3) else (unzig (u + t[i].toNat % 128 * 2 ^ (7 * k)), k + 1, 0) := by rw [drop_cons_get h]; rfl
theorem pow7 {k u b : Nat} (hu : u < 2 ^ (7 * k)) (hb : b < 128) : u + b * 2 ^ (7 * k) < 2 ^ (7 * (k + 1)) := by
  have h : (2 : Nat) ^ (7 * (k + 1)) = 128 * 2 ^ (7 * k) := by rw [show 7 * (k + 1) = 7 + 7 * k by omega, Nat.pow_add]
  have h2 : b * 2 ^ (7 * k) ≤ 127 * 2 ^ (7 * k) := Nat.mul_le_mul_right _ (by omega)
  omega
end Go.Proofs.YtffbcikfjdllcaaGreatDoor.M
