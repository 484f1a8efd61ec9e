/-
  Words that all walks of this seat share. Plain theorems; nothing of the program is named.
-/
import Derived.WalkKit
import Derived.Deep.QuietTactic
import Derived.BigQuiet
import Derived.Below
import Derived.Outline
import Derived.WalkLawsBesides
import Derived.WalkSpells
import Derived.Lib.Hide
import Derived.Deep.Draws
import Derived.Lib.Strings
import Derived.Laws.BitsAllLaws
import Derived.Test.YtfblolkkajppcaaGreatDoorProg
import Derived.Deep.AppendLies
import Derived.BigRegion
set_option linter.unusedSimpArgs false
set_option linter.unusedVariables false
namespace Go.Proofs.YtfblolkkajppcaaGreatDoor
open Go.RowKit

/-- A call that gives a plain value and touches nothing that was there. -/
def Gives (P : Program) (f : FuncId) (args : Array Value) (w : World) (v : Value) : Prop :=
  Calls P f args w fun e w' => e = .returned v ∧ Below w.heap.size w w'

theorem Gives.use {P : Program} {f : FuncId} {args : Array Value} {w : World} {v : Value} (h : Gives P f args w v) :
    Calls P f args w fun e w' => e = .returned v ∧ Below w.heap.size w w' := h

theorem Gives.of_same {P : Program} {f : FuncId} {args : Array Value} {w : World} {v : Value}
    (h : Calls P f args w fun e w' => e = .returned v ∧ w = w') : Gives P f args w v :=
  h.mono fun _ _ ⟨he, hw⟩ => ⟨he, hw ▸ Below.refl _ _⟩

theorem bcell {W w1 : World} (hb : Below W.heap.size W w1) : (∀ b o, b < W.heap.size → w1.cell? ⟨b, o, none⟩ = W.cell? ⟨b, o, none⟩) ∧ (∀ b o, b < W.heap.size → w1.frozen? ⟨b, o, none⟩ = W.frozen? ⟨b, o, none⟩) :=
  ⟨fun b o h => hb.cell (p := ⟨b, o, none⟩) h, fun b o h => hb.frozen (p := ⟨b, o, none⟩) h⟩

theorem bthen {a b c : World} (h : Below a.heap.size a b) (h2 : Below b.heap.size b c) : Below a.heap.size a c := h.trans (h2.mono h.size)
theorem bnew (w : World) (o : Obj) : Below w.heap.size w (w.alloc o) := (Below.refl _ _).alloc (Nat.le_refl _) o
theorem bset {a b : World} (h : Below a.heap.size a b) {p : Addr} (hp : a.heap.size ≤ p.block) (u : Value) : Below a.heap.size a (b.setCell p u) := h.setCell hp u

/-- The worlds that agree with 'w' on all that 'w' holds. -/
structure Later (w : World) where
  now : World
  ok : Below w.heap.size w now
instance laterInst (w : World) : Nonempty (Later w) := ⟨⟨w, Below.refl _ _⟩⟩

/-- A region that draws its order, whose operations read old cells and whose callees give plain values. -/
theorem wp_region_later {P : Program} {id : Nat} {Q : Exit → Act → World → Prop} {a : Act} {w : World} {l : List Oper} (hm : P.follows .mixedOrders = true) (hB : Region.lexB .any l.toArray = true)
    (h : wpQuiet P l.toArray (fun w' => ∃ x : Later w, w' = x.now) (fun a' => ∀ w', (∃ x : Later w, w' = x.now) → Q .normal a' w') l a) : (Code.region id l.toArray true).wp P Q a w :=
  wp_region_quiet (C := fun w' => ∃ x : Later w, w' = x.now) hm hB ⟨⟨w.drew, (Below.refl _ _).drew⟩, rfl⟩ (by simpa using h)

theorem Gives.later {P : Program} {f : FuncId} {args : Array Value} {w : World} {v : Value} (x : Later w) (h : Gives P f args x.now v) :
    Calls P f args x.now fun e w' => e = .returned v ∧ ∃ y : Later w, w' = y.now :=
  h.mono fun _ w' ⟨he, hb⟩ => ⟨he, ⟨w', x.ok.trans (hb.mono x.ok.size)⟩, rfl⟩

theorem bcell1 {w w1 : World} {o : Obj} (hb : Below (w.alloc o).heap.size (w.alloc o) w1) :
    (∀ b o', b < (w.alloc o).heap.size → w1.cell? ⟨b, o', none⟩ = (w.alloc o).cell? ⟨b, o', none⟩) ∧
    (∀ b o', b < (w.alloc o).heap.size → w1.frozen? ⟨b, o', none⟩ = (w.alloc o).frozen? ⟨b, o', none⟩) ∧ w.heap.size < w1.heap.size :=
  ⟨(bcell hb).1, (bcell hb).2, by have := hb.size; simp at this; omega⟩
theorem lcell {w : World} {b o : Nat} {v : Value} (h : w.cell? ⟨b, o, none⟩ = some v) (x : Later w) : x.now.cell? ⟨b, o, none⟩ = some v := by
  rw [x.ok.cell (p := ⟨b, o, none⟩) (World.block_lt_of_cell? w _ h)]; exact h
theorem undrew' (w : World) : Below w.heap.size w w.drew := (Below.refl _ _).drew
theorem kept2 {w1 w2 : World} {o : Obj} (hb : Below (w1.alloc o).heap.size (w1.alloc o) w2) {n : Nat} (h : n < w1.heap.size) (i : Nat) : w2.cell? ⟨n, i, none⟩ = w1.cell? ⟨n, i, none⟩ := by
  rw [(bcell hb).1 _ _ (by simp; omega)]
  first | exact World.cell?_alloc_past _ _ _ h | exact World.cell?_alloc_past _ _ _ _ h | exact World.cell?_alloc_lt _ _ _ h
theorem balloc {a b : World} (h : Below a.heap.size a b) (o : Obj) : Below a.heap.size a (b.alloc o) := bthen h (bnew _ _)
theorem bdrew {a b : World} (h : Below a.heap.size a b) : Below a.heap.size a b.drew := h.drew

/-- A slice that reads as 'n' elements of 's' cells, the cells being 'xs'. -/
def Rd (w : World) (s : Nat) (v : Value) (n : Nat) (xs : List Value) : Prop :=
  xs.length = n * s ∧ ∃ A cap, v = .slice A n cap ∧ n ≤ cap ∧ cap ≤ maxLen ∧
    (0 < n → ∃ b off, A = some ⟨b, off, none⟩ ∧ ∀ j u, xs[j]? = some u → w.cell? ⟨b, off + j, none⟩ = some u)

section
variable {w w' : World} {s n : Nat} {v : Value} {xs : List Value}
theorem Rd.below {B : Nat} (h : Rd w s v n xs) (hB : w.heap.size ≤ B) (hb : Below B w w') : Rd w' s v n xs := by
  obtain ⟨hl, A, cap, e, h1, h2, hc⟩ := h
  refine ⟨hl, A, cap, e, h1, h2, fun hn => ?_⟩
  obtain ⟨b, off, hA, hc⟩ := hc hn
  refine ⟨b, off, hA, fun j u hu => ?_⟩
  have := hc j u hu
  have hlt : b < w.heap.size := World.block_lt_of_cell? w _ this
  rw [hb.cell (p := ⟨b, off + j, none⟩) (by show b < B; omega)]
  exact this
theorem Rd.later (h : Rd w s v n xs) (hb : Below w.heap.size w w') : Rd w' s v n xs := h.below (Nat.le_refl _) hb
theorem Rd.nil (w : World) (s : Nat) : Rd w s (.slice none 0 0) 0 [] := ⟨by simp, none, 0, rfl, Nat.le_refl _, Nat.zero_le _, fun h => absurd h (by omega)⟩
/-- What a walk is told of a slice: its form, and how its cells read. -/
theorem Rd.form (h : Rd w s v n xs) : ∃ A cap, v = .slice A n cap ∧ n ≤ cap ∧ cap ≤ maxLen ∧
    (0 < n → ∃ b off, A = some ⟨b, off, none⟩ ∧ ∀ j u, xs[j]? = some u → w.cell? ⟨b, off + j, none⟩ = some u) := h.2
end

/-- flat cells of a list of structs -/
def flat {α : Type} (enc : α → List Value) (l : List α) : List Value := (l.map enc).flatten
theorem flat_length {α : Type} {enc : α → List Value} {s : Nat} (hs : ∀ a, (enc a).length = s) (l : List α) : (flat enc l).length = l.length * s := by
  induction l with
  | nil => simp [flat]
  | cons a l ih => simp [flat] at ih ⊢; rw [hs a]; rw [ih, Nat.succ_mul]; omega
theorem flat_get {α : Type} {enc : α → List Value} {s : Nat} (hs : ∀ a, (enc a).length = s) : ∀ (l : List α) (k j : Nat) (a : α), l[k]? = some a → j < s → (flat enc l)[k * s + j]? = (enc a)[j]?
  | [], k, j, a, h, _ => by simp at h
  | b :: l, 0, j, a, h, hj => by
    simp at h; subst h
    show (enc b ++ flat enc l)[0 * s + j]? = _
    rw [Nat.zero_mul, Nat.zero_add, List.getElem?_append_left (by rw [hs]; exact hj)]
  | b :: l, k + 1, j, a, h, hj => by
    show (enc b ++ flat enc l)[(k + 1) * s + j]? = _
    rw [List.getElem?_append_right (by rw [hs, Nat.succ_mul]; omega), hs]
    have : (k + 1) * s + j - s = k * s + j := by rw [Nat.succ_mul]; omega
    rw [this]
    exact flat_get hs l k j a (by simpa using h) hj
theorem flat_append {α : Type} (enc : α → List Value) (l r : List α) : flat enc (l ++ r) = flat enc l ++ flat enc r := by
  simp [flat]
theorem flat_cons {α : Type} (enc : α → List Value) (a : α) (r : List α) : flat enc (a :: r) = enc a ++ flat enc r := by
  simp [flat]

/-- strings -/
theorem str_beq (a b : ByteArray) : (a.toList == b.toList) = decide (a = b) := by
  by_cases h : a = b
  · subst h; simp
  · have : a.toList ≠ b.toList := fun e => h (Go.WideShapes.bytes_inj (by rw [← Lib.toList_data, ← Lib.toList_data]; exact e))
    simp [h, this]

end Go.Proofs.YtfblolkkajppcaaGreatDoor
namespace Go.Proofs.YtfblolkkajppcaaGreatDoor.M

abbrev Bs := List UInt8
/-- the string of some bytes -/
def bs (l : Bs) : ByteArray := ⟨l.toArray⟩
theorem bs_data (s : ByteArray) : bs s.data.toList = s := Lib.mk_data s
@[go_sem] theorem data_bs (l : Bs) : (bs l).data.toList = l := rfl
@[go_sem] theorem data_app (a b : ByteArray) : (a ++ b).data.toList = a.data.toList ++ b.data.toList := by simp [ByteArray.data_append]
@[go_sem] theorem size_bs (l : Bs) : (bs l).size = l.length := rfl
theorem bs_append (a b : Bs) : bs a ++ bs b = bs (a ++ b) := by
  apply ByteArray.ext
  simp [bs]
theorem bs_inj {a b : Bs} : bs a = bs b ↔ a = b := ⟨fun h => by have := congrArg (fun x : ByteArray => x.data.toList) h; simpa [bs] using this, fun h => by rw [h]⟩

/-! ### numbers -/
def zig (n : Int) : Nat := if n < 0 then (2 * (-(n + 1)) + 1).toNat else (2 * n).toNat
def putU : Nat → Nat → Bs
  | 0, u => [UInt8.ofNat u]
  | f + 1, u => if u < 128 then [UInt8.ofNat u] else UInt8.ofNat (u % 128 + 128) :: putU f (u / 128)
def putNum (n : Int) : Bs := putU 10 (zig n)
theorem putU_lt {f u : Nat} (h : u < 128) : putU f u = [UInt8.ofNat u] := by
  cases f <;> simp [putU, h]
theorem putU_ge {f u : Nat} (h : 128 ≤ u) : putU (f + 1) u = UInt8.ofNat (u % 128 + 128) :: putU f (u / 128) := by
  simp [putU, Nat.not_lt.2 h]
theorem zig_lt {n : Int} (h : -9223372036854775808 ≤ n ∧ n ≤ 9223372036854775807) : zig n < 18446744073709551616 := by
  unfold zig; split <;> omega
theorem putU_length : ∀ f u, 1 ≤ (putU f u).length ∧ (putU f u).length ≤ f + 1
  | 0, u => by simp [putU]
  | f + 1, u => by
    unfold putU
    split
    · simp
    · have := putU_length f (u / 128); simp; omega
theorem putNum_length (n : Int) : 1 ≤ (putNum n).length ∧ (putNum n).length ≤ 11 := putU_length 10 _

/-! ### CRC -/
def crcBit (x : Nat) : Nat := if x % 2 = 1 then (x / 2) ^^^ 3988292384 else x / 2
def crcBits : Nat → Nat → Nat
  | 0, x => x
  | n + 1, x => crcBits n (crcBit x)
def crcByte (x : Nat) (b : UInt8) : Nat := crcBits 8 (x ^^^ b.toNat)
def crcList (x : Nat) (l : Bs) : Nat := l.foldl crcByte x
theorem crcBit_lt {x : Nat} (h : x < 4294967296) : crcBit x < 4294967296 := by
  unfold crcBit
  split
  · exact Nat.xor_lt_two_pow (n := 32) (by omega) (by omega)
  · omega
theorem crcBits_lt : ∀ (n : Nat) {x : Nat}, x < 4294967296 → crcBits n x < 4294967296
  | 0, _, h => h
  | n + 1, _, h => crcBits_lt n (crcBit_lt h)
theorem crcByte_lt {x : Nat} (b : UInt8) (h : x < 4294967296) : crcByte x b < 4294967296 :=
  crcBits_lt 8 (Nat.xor_lt_two_pow (n := 32) h (by have := b.toNat_lt; omega))
theorem crcList_lt : ∀ (l : Bs) {x : Nat}, x < 4294967296 → crcList x l < 4294967296
  | [], _, h => h
  | b :: l, _, h => crcList_lt l (crcByte_lt b h)
theorem crcList_snoc (x : Nat) (l : Bs) (b : UInt8) : crcList x (l ++ [b]) = crcByte (crcList x l) b := by
  simp [crcList]
theorem crcBits_succ : ∀ (n x : Nat), crcBits (n + 1) x = crcBit (crcBits n x)
  | 0, _ => rfl
  | n + 1, x => by rw [crcBits, crcBits_succ n (crcBit x)]; rfl
/-- the checksum of some bytes that goes on from a checksum -/
def crcMore (c : Nat) (l : Bs) : Nat := 4294967295 - crcList (4294967295 - c) l

def four (n : Int) : Bs := [UInt8.ofNat (n % 256).toNat, UInt8.ofNat (n / 256 % 256).toNat, UInt8.ofNat (n / 65536 % 256).toNat, UInt8.ofNat (n / 16777216 % 256).toNat]
def crcFour (l : Bs) : Bs := four (crcMore 0 l)
def seal_ (l : Bs) : Bs := if l.length ≤ 7996 then l ++ crcFour l else []
def putText (l : Bs) : Bs := if l.length ≤ 8000 then putNum l.length ++ l else []


def isTime (n : Int) : Bool := decide (0 ≤ n) && decide (n ≤ 1000000)
def frameOk (q : Int) (t : Bs) : Bool := isTime q && decide (t.length ≤ 2980)
def frameBytes (q : Int) (t : Bs) : Bs := if frameOk q t then putText (seal_ (four q ++ t)) else []
@[go_sem] theorem four_length (n : Int) : (four n).length = 4 := rfl
@[go_sem] theorem crcFour_length (l : Bs) : (crcFour l).length = 4 := rfl
theorem seal_length (l : Bs) : (seal_ l).length ≤ l.length + 4 := by
  unfold seal_; split <;> simp [crcFour_length]
theorem size_data (s : ByteArray) : s.data.toList.length = s.size := by rw [Array.length_toList]; rfl
theorem crcMore_le (c : Nat) (l : Bs) : crcMore c l ≤ 4294967295 := by unfold crcMore; omega


/-! ### numbers read -/
def unzig (u : Nat) : Int := if u % 2 = 1 then -((u / 2 : Nat) : Int) - 1 else ((u / 2 : Nat) : Int)
def gnum : Nat → Bs → Nat → Nat → Int × Nat × Int
  | 0, _, _, _ => (0, 0, 3)
  | _ + 1, [], _, _ => (0, 0, 4)
  | f + 1, b :: l, k, u =>
    if k = 9 ∧ 1 < b.toNat then (0, 0, 3)
    else if 128 ≤ b.toNat then gnum f l (k + 1) (u + b.toNat % 128 * 2 ^ (7 * k))
    else if b.toNat = 0 ∧ 0 < k then (0, 0, 3)
    else (unzig (u + b.toNat % 128 * 2 ^ (7 * k)), k + 1, 0)
/-- number, place behind it, code -/
def numAt (t : Bs) (a : Nat) : Int × Int × Int :=
  if (gnum 10 (t.drop a) 0 0).2.2 = 0 then ((gnum 10 (t.drop a) 0 0).1, ((a + (gnum 10 (t.drop a) 0 0).2.1 : Nat) : Int), 0) else (0, 0, (gnum 10 (t.drop a) 0 0).2.2)
def getNum (t : Bs) (a : Int) : Int × Int × Int :=
  if 8000 < t.length then (0, 0, 2) else if a < 0 then (0, 0, 1) else numAt t a.toNat
theorem numAt_ok {t : Bs} {a : Nat} {n : Int} {j : Nat} (h : gnum 10 (t.drop a) 0 0 = (n, j, 0)) : numAt t a = (n, ((a + j : Nat) : Int), 0) := by unfold numAt; rw [h]; rfl
theorem numAt_bad {t : Bs} {a : Nat} {n : Int} {j : Nat} {c : Int} (h : gnum 10 (t.drop a) 0 0 = (n, j, c)) (hc : c ≠ 0) : numAt t a = (0, 0, c) := by unfold numAt; rw [h]; simp [hc]
theorem drop_cons_get {t : Bs} {i : Nat} (h : i < t.length) : t.drop i = t[i] :: t.drop (i + 1) := List.drop_eq_getElem_cons h
theorem gnum_end {t : Bs} {i f k u : Nat} (h : t.length ≤ i) : gnum (f + 1) (t.drop i) k u = (0, 0, 4) := by rw [List.drop_eq_nil_of_le h]; rfl
theorem gnum_at {t : Bs} {i f k u : Nat} (h : i < t.length) : gnum (f + 1) (t.drop i) k u =
    if k = 9 ∧ 1 < t[i].toNat then (0, 0, 3) else if 128 ≤ t[i].toNat then gnum f (t.drop (i + 1)) (k + 1) (u + t[i].toNat % 128 * 2 ^ (7 * k))
    else if t[i].toNat = 0 ∧ 0 < k then (0, 0, 3) else (unzig (u + t[i].toNat % 128 * 2 ^ (7 * k)), k + 1, 0) := by rw [drop_cons_get h]; rfl
theorem pow7 {k u b : Nat} (hu : u < 2 ^ (7 * k)) (hb : b < 128) : u + b * 2 ^ (7 * k) < 2 ^ (7 * (k + 1)) := by
  have h : (2 : Nat) ^ (7 * (k + 1)) = 128 * 2 ^ (7 * k) := by rw [show 7 * (k + 1) = 7 + 7 * k by omega, Nat.pow_add]
  have h2 : b * 2 ^ (7 * k) ≤ 127 * 2 ^ (7 * k) := Nat.mul_le_mul_right _ (by omega)
  omega
end Go.Proofs.YtfblolkkajppcaaGreatDoor.M
namespace Go.Proofs.YtfblolkkajppcaaGreatDoor
open Go.RowKit M

theorem toNat_byte (b : UInt8) : b.toNat < 256 := b.toNat_lt

theorem within_i (n lo hi : Int) (w : World) : Gives Tryz.prog 47 #[.int .i64 n, .int .i64 lo, .int .i64 hi] w (.bool (decide (lo ≤ n) && decide (n ≤ hi))) := by
  unfold Gives
  go_enter Tryz.func47, Tryz.ntmps47
  go_wp2
  all_goals go_ret
  all_goals refine ⟨?_, Below.refl _ _⟩
  all_goals simp [*]
  all_goals omega
theorem is_s (n lo hi : Int) (w : World) : Gives Tryz.prog 53 #[.int .i64 n, .int .i64 lo, .int .i64 hi] w (.bool (decide (lo ≤ n) && decide (n ≤ hi))) := by
  unfold Gives
  go_enter Tryz.func53, Tryz.ntmps53
  go_wp2
  all_goals go_ret
  all_goals refine ⟨?_, Below.refl _ _⟩
  all_goals simp [*]
  all_goals omega

theorem conv_four (w : World) (n : Int) : (convert 22 9 (.slice (some ⟨w.heap.size, 0, none⟩) 4 4)).run Tryz.prog (w.alloc (.cells #[.int .u8 (n % 256), .int .u8 (n / 256 % 256), .int .u8 (n / 65536 % 256), .int .u8 (n / 16777216 % 256)] 5)) =
    .ok (.string (bs (four n))) (w.alloc (.cells #[.int .u8 (n % 256), .int .u8 (n / 256 % 256), .int .u8 (n / 65536 % 256), .int .u8 (n / 16777216 % 256)] 5)) := by
  refine run_convert_bytes_back (P := Tryz.prog) _ 22 9 5 ⟨w.heap.size, 0, none⟩ 4 (four n) Tryz.underlying22 Tryz.underlying5 Tryz.underlying9 ?_
  intro j hj
  have hb : ∀ m : Int, (((UInt8.ofNat (m % 256).toNat).toNat : Nat) : Int) = m % 256 := fun m => by
    rw [UInt8.toNat_ofNat']; omega
  have h4 : j < 4 := hj
  rw [show (⟨w.heap.size, 0, none⟩ : Addr).add j = ⟨w.heap.size, j, none⟩ by unfold Addr.add; split <;> simp_all]
  match j, h4 with
  | 0, _ => simp [World.cell?_alloc_new, four, hb]; omega
  | 1, _ => simp [World.cell?_alloc_new, four, hb]; omega
  | 2, _ => simp [World.cell?_alloc_new, four, hb]; omega
  | 3, _ => simp [World.cell?_alloc_new, four, hb]; omega

theorem crc_and (x : Nat) (h : x < 4294967296) : bits .and .u32 (x : Int) 1 = (x : Int) % 2 := by
  have := u32_and_nat x 1 h (by omega)
  rw [Nat.and_one_is_mod] at this
  rw [show (1 : Int) = ((1 : Nat) : Int) from rfl, this]; omega
theorem crc_poly (x : Nat) (h : x < 4294967296) : bits .xor .u32 ((x : Int) / 2) 3988292384 = ((x / 2 ^^^ 3988292384 : Nat) : Int) := by
  have := u32_xor_nat (x / 2) 3988292384 (by omega) (by omega)
  rw [← this]; rfl
theorem xor_ones (x : Nat) (h : x < 4294967296) : 4294967295 ^^^ x = 4294967295 - x := by
  have h1 : (BitVec.allOnes 32 ^^^ BitVec.ofNat 32 x).toNat = (~~~ BitVec.ofNat 32 x).toNat := by rw [BitVec.allOnes_xor]
  rw [BitVec.toNat_xor, BitVec.toNat_not, BitVec.toNat_allOnes, BitVec.toNat_ofNat, Nat.mod_eq_of_lt h] at h1
  exact h1
theorem crc_not (x : Nat) (h : x < 4294967296) : bits .xor .u32 IntKind.u32.max (x : Int) = ((4294967295 - x : Nat) : Int) := by
  have := u32_xor_nat 4294967295 x (by omega) h
  rw [show IntKind.u32.max = ((4294967295 : Nat) : Int) from rfl, this, xor_ones x h]
theorem crc_not' (x : Nat) (h : x < 4294967296) : bits .xor .u32 (x : Int) 4294967295 = ((4294967295 - x : Nat) : Int) := by
  have := u32_xor_nat x 4294967295 h (by omega)
  rw [show (4294967295 : Int) = ((4294967295 : Nat) : Int) from rfl, this, Nat.xor_comm, xor_ones x h]
theorem crc_byte (x : Nat) (h : x < 4294967296) (b : UInt8) : bits .xor .u32 (x : Int) ((b.toNat : Int) % 4294967296) = ((x ^^^ b.toNat : Nat) : Int) := by
  have hb := b.toNat_lt
  have := u32_xor_nat x b.toNat h (by omega)
  rw [show ((b.toNat : Int) % 4294967296) = ((b.toNat : Nat) : Int) by omega, this]
theorem take_succ_get (s : ByteArray) (k : Nat) (h : k < s.size) : s.data.toList.take (k + 1) = s.data.toList.take k ++ [s[k]] := by
  rw [List.take_succ_eq_append_getElem (by simpa using h)]; rfl

end Go.Proofs.YtfblolkkajppcaaGreatDoor
namespace Go.Proofs.YtfblolkkajppcaaGreatDoor
open Go.RowKit M

theorem ret_bool {a b : Bool} (h : a = b) : Ending.returned (.bool a) = .returned (.bool b) := by rw [h]
theorem ret_int {k : IntKind} {a b : Int} (h : a = b) : Ending.returned (.int k a) = .returned (.int k b) := by rw [h]

theorem info_u8 : (Tryz.prog.info? 5).map (fun i => (i.zero, i.size, i.bytes)) = some (some (.int .u8 0), 1, 1) := by kernel_rfl

/-- bytes as cells -/
def cb (l : Bs) : List Value := l.map fun b => Value.int .u8 b.toNat
theorem cb_length (l : Bs) : (cb l).length = l.length := by simp [cb]
theorem cb_append (a b : Bs) : cb a ++ cb b = cb (a ++ b) := by simp [cb]
theorem cb_one (l : Bs) : ∀ u ∈ cb l, u.oneCell' = true := by
  intro u hu
  simp only [cb, List.mem_map] at hu
  obtain ⟨b, _, rfl⟩ := hu
  rfl

/-- 'string(b)' of a row of the call's own -/
theorem conv_own (w : World) (base : Nat) (v : Value) (l : Bs) (h : w.ownsRow base 5 1 v l.length (cb l)) :
    (convert 22 9 v).run Tryz.prog w = .ok (.string (bs l)) w := by
  rcases h.2 with ⟨rfl, h0⟩ | ⟨g, cap, cur, rfl, _, hg, hn, hc, hs, ht⟩
  · obtain rfl : l = [] := List.eq_nil_of_length_eq_zero h0
    exact run_convert_bytes_nil (P := Tryz.prog) w 22 5 Tryz.underlying22 Tryz.underlying5 0 0 9 Tryz.underlying9
  · refine run_convert_bytes_back (P := Tryz.prog) w 22 9 5 ⟨g, 0, none⟩ cap l Tryz.underlying22 Tryz.underlying5 Tryz.underlying9 ?_
    intro j hj
    exact h.cells (g := g) rfl j _ (by simp [cb, hj])

theorem or128 (r : Nat) : bits .or .u8 ((r : Int) % 256) 128 = (((UInt8.ofNat (r % 128 + 128)).toNat : Nat) : Int) := by
  have h := u8_or_nat (r % 256) 128 (by omega) (by omega)
  have hd : ∀ x : Fin 256, x.val ||| 128 = x.val % 128 + 128 := by decide +kernel
  have h2 := hd ⟨r % 256, by omega⟩
  rw [show ((r : Int) % 256) = ((r % 256 : Nat) : Int) by omega, show (128 : Int) = ((128 : Nat) : Int) from rfl, h]
  simp only at h2
  rw [h2, UInt8.toNat_ofNat']
  omega

theorem zig_bits (n : Int) (hn : -9223372036854775808 ≤ n ∧ n ≤ 9223372036854775807) :
    bits BinOp.xor IntKind.u64 (IntKind.u64.wrap (wrap64 (n * 2))) (IntKind.u64.wrap (n / 9223372036854775808)) = ((zig n : Nat) : Int) := by
  have hx : ∀ x : Nat, x < 18446744073709551616 → x ^^^ 18446744073709551615 = 18446744073709551615 - x := fun x h => by
    have h1 : (BitVec.ofNat 64 x ^^^ BitVec.allOnes 64).toNat = (~~~ BitVec.ofNat 64 x).toNat := by rw [BitVec.xor_allOnes]
    rw [BitVec.toNat_xor, BitVec.toNat_not, BitVec.toNat_allOnes, BitVec.toNat_ofNat, Nat.mod_eq_of_lt h] at h1
    exact h1
  rw [IntKind.wrap_u64, IntKind.wrap_u64]
  by_cases h0 : n < 0
  · have e1 : n / 9223372036854775808 % 18446744073709551616 = ((18446744073709551615 : Nat) : Int) := by omega
    have e2 : wrap64 (n * 2) % 18446744073709551616 = (((2 * n + 18446744073709551616).toNat : Nat) : Int) := by unfold wrap64; omega
    rw [e1, e2, u64_xor_nat _ _ (by omega) (by omega), hx _ (by omega), zig, if_pos h0]
    omega
  · have e1 : n / 9223372036854775808 % 18446744073709551616 = ((0 : Nat) : Int) := by omega
    have e2 : wrap64 (n * 2) % 18446744073709551616 = (((2 * n).toNat : Nat) : Int) := by unfold wrap64; omega
    rw [e1, e2, u64_xor_nat _ _ (by omega) (by omega), Nat.xor_zero, zig, if_neg h0]

end Go.Proofs.YtfblolkkajppcaaGreatDoor
namespace Go.Proofs.YtfblolkkajppcaaGreatDoor
open Go.RowKit M

theorem isLong_i (s : ByteArray) (w : World) : Gives Tryz.prog 33 #[.string s] w (.bool (decide (8000 < s.size))) := by
  unfold Gives
  go_enter Tryz.func33, Tryz.ntmps33
  go_wp2
  go_ret
  refine ⟨?_, Below.refl _ _⟩
  show Ending.returned (Value.bool (decide ((8000 : Int) < s.size))) = _
  rw [decide_eq_decide.2 (by omega : (8000 : Int) < s.size ↔ 8000 < s.size)]

/-! ### the statement's own helpers -/
end Go.Proofs.YtfblolkkajppcaaGreatDoor
namespace Go.Proofs.YtfblolkkajppcaaGreatDoor
open Go.RowKit M

theorem byte_get (s : ByteArray) (i : Nat) (h : i < s.size) (h' : i < s.data.toList.length) : s.data.toList[i] = s[i] := rfl

theorem pow56 {k : Nat} (h : k ≤ 8) : 2 ^ (7 * k) ≤ 72057594037927936 := by
  have := Nat.pow_le_pow_right (n := 2) (by omega) (show 7 * k ≤ 56 by omega)
  simpa using this
theorem shift_lt {k x : Nat} (hk : k ≤ 9) (hx : x < 128) (h9 : k = 9 → x ≤ 1) : x * 2 ^ (7 * k) < 18446744073709551616 := by
  by_cases h : k ≤ 8
  · have h1 := pow56 h
    have h2 : x * 2 ^ (7 * k) ≤ 127 * 72057594037927936 := Nat.mul_le_mul (by omega) h1
    omega
  · obtain rfl : k = 9 := by omega
    have := h9 rfl
    have h2 : x * 2 ^ (7 * 9) ≤ 1 * 2 ^ (7 * 9) := Nat.mul_le_mul_right _ this
    have h3 : (2 : Nat) ^ (7 * 9) = 9223372036854775808 := by decide
    omega
theorem acc_lt {k u x : Nat} (hk : k ≤ 9) (hu : u < 2 ^ (7 * k)) (hx : x < 128) (h9 : k = 9 → x ≤ 1) : u + x * 2 ^ (7 * k) < 18446744073709551616 := by
  by_cases h : k ≤ 8
  · have h1 := pow56 h
    have h2 : x * 2 ^ (7 * k) ≤ 127 * 72057594037927936 := Nat.mul_le_mul (by omega) h1
    omega
  · obtain rfl : k = 9 := by omega
    have := h9 rfl
    have h2 : x * 2 ^ (7 * 9) ≤ 1 * 2 ^ (7 * 9) := Nat.mul_le_mul_right _ this
    have h3 : (2 : Nat) ^ (7 * 9) = 9223372036854775808 := by decide
    omega
theorem shl_nat {k x : Nat} (hk : k ≤ 9) (hx : x < 128) (h9 : k = 9 → x ≤ 1) : IntKind.u64.wrap ((x : Int) * 2 ^ (7 * k)) = ((x * 2 ^ (7 * k) : Nat) : Int) := by
  have h := shift_lt hk hx h9
  have e : (x : Int) * 2 ^ (7 * k) = ((x * 2 ^ (7 * k) : Nat) : Int) := by simp [Int.natCast_mul, Int.natCast_pow]
  rw [e, IntKind.wrap_u64]
  omega
theorem or_shift {k u x : Nat} (hk : k ≤ 9) (hu : u < 2 ^ (7 * k)) (hx : x < 128) (h9 : k = 9 → x ≤ 1) :
    bits .or .u64 (u : Int) (IntKind.u64.wrap ((x : Int) * 2 ^ (7 * k))) = ((u + x * 2 ^ (7 * k) : Nat) : Int) := by
  have h1 := shift_lt hk hx h9
  have h2 := acc_lt hk hu hx h9
  rw [shl_nat hk hx h9, u64_or_nat _ _ (by omega) h1]
  have h3 := Nat.shiftLeft_add_eq_or_of_lt hu x
  rw [Nat.shiftLeft_eq] at h3
  rw [Nat.or_comm, ← h3, Nat.add_comm]

theorem xor_neg (y : Nat) (h : y < 9223372036854775808) : bits BinOp.xor IntKind.i64 (-1) (y : Int) = -(y : Int) - 1 := by
  have h1 : (BitVec.ofInt 64 (-1) ^^^ BitVec.ofInt 64 (y : Int)).toNat = 18446744073709551615 - y := by
    have e1 : BitVec.ofInt 64 (-1) = BitVec.allOnes 64 := by decide
    have e2 : BitVec.ofInt 64 (y : Int) = BitVec.ofNat 64 y := rfl
    rw [e1, e2, BitVec.allOnes_xor, BitVec.toNat_not, BitVec.toNat_ofNat, Nat.mod_eq_of_lt (by omega)]
  show IntKind.i64.wrap (((BitVec.ofInt 64 (-1) ^^^ BitVec.ofInt 64 (y : Int)).toNat : Nat) : Int) = _
  rw [h1, IntKind.wrap_i64]
  omega

theorem num_odd {t : Bs} {a y : Nat} {z : Int} (hF : numAt t a = (unzig y, z, 0)) (hy : y < 18446744073709551616) (ho : (y : Int) % 2 = 1) :
    Ending.returned (.agg #[.int .i64 (bits BinOp.xor IntKind.i64 (-1) ((y : Int) / 2)), .int .i64 z, .int .i64 0]) = .returned (.agg #[.int .i64 (numAt t a).1, .int .i64 (numAt t a).2.1, .int .i64 (numAt t a).2.2]) := by
  rw [hF, show ((y : Int) / 2) = ((y / 2 : Nat) : Int) by omega, xor_neg _ (by omega)]
  unfold unzig
  rw [if_pos (by omega)]
theorem num_even {t : Bs} {a y : Nat} {z : Int} (hF : numAt t a = (unzig y, z, 0)) (ho : (y : Int) % 2 ≠ 1) :
    Ending.returned (.agg #[.int .i64 ((y : Int) / 2), .int .i64 z, .int .i64 0]) = .returned (.agg #[.int .i64 (numAt t a).1, .int .i64 (numAt t a).2.1, .int .i64 (numAt t a).2.2]) := by
  rw [hF]
  unfold unzig
  rw [if_neg (by omega), show ((y : Int) / 2) = ((y / 2 : Nat) : Int) by omega]

end Go.Proofs.YtfblolkkajppcaaGreatDoor
namespace Go.Proofs.YtfblolkkajppcaaGreatDoor
open Go.RowKit M

theorem getNum_long {t : Bs} {a : Int} (h : 8000 < t.length) : getNum t a = (0, 0, 2) := by unfold getNum; rw [if_pos h]
theorem getNum_neg {t : Bs} {a : Int} (h : ¬ 8000 < t.length) (ha : a < 0) : getNum t a = (0, 0, 1) := by unfold getNum; rw [if_neg h, if_pos ha]
theorem getNum_at {t : Bs} {a : Int} (h : ¬ 8000 < t.length) (ha : ¬ a < 0) : getNum t a = numAt t a.toNat := by unfold getNum; rw [if_neg h, if_neg ha]
theorem numAt_end {t : Bs} {a : Nat} (h : t.length ≤ a) : numAt t a = (0, 0, 4) := numAt_bad (gnum_end h) (by decide)

theorem add_shift {k u x : Nat} (hk : k ≤ 9) (hu : u < 2 ^ (7 * k)) (hx : x < 128) (h9 : k = 9 → x ≤ 1) :
    IntKind.u64.wrap ((u : Int) + IntKind.u64.wrap ((x : Int) * 2 ^ (7 * k))) = ((u + x * 2 ^ (7 * k) : Nat) : Int) := by
  have h2 := acc_lt hk hu hx h9
  rw [shl_nat hk hx h9, IntKind.wrap_u64]
  omega
theorem num_odd_s {t : Bs} {a y : Nat} {z : Int} (hF : numAt t a = (unzig y, z, 0)) (ho : (y : Int) % 2 = 1) :
    Ending.returned (.agg #[.int .i64 (-((y : Int) / 2) - 1), .int .i64 z, .int .i64 0]) = .returned (.agg #[.int .i64 (numAt t a).1, .int .i64 (numAt t a).2.1, .int .i64 (numAt t a).2.2]) := by
  rw [hF]
  unfold unzig
  rw [if_pos (by omega), show ((y : Int) / 2) = ((y / 2 : Nat) : Int) by omega]

end Go.Proofs.YtfblolkkajppcaaGreatDoor
namespace Go.Proofs.YtfblolkkajppcaaGreatDoor.M
theorem unzig_range {y : Nat} (h : y < 18446744073709551616) : -9223372036854775808 ≤ unzig y ∧ unzig y ≤ 9223372036854775807 := by
  unfold unzig; split <;> omega
theorem gnum_range : ∀ (f : Nat) (l : Bs) (k u : Nat), k + f = 10 → u < 2 ^ (7 * k) →
    (gnum f l k u).2.2 ≠ 0 ∧ 3 ≤ (gnum f l k u).2.2 ∧ (gnum f l k u).2.2 ≤ 4 ∨
    (gnum f l k u).2.2 = 0 ∧ k + 1 ≤ (gnum f l k u).2.1 ∧ (gnum f l k u).2.1 ≤ k + l.length ∧ -9223372036854775808 ≤ (gnum f l k u).1 ∧ (gnum f l k u).1 ≤ 9223372036854775807
  | 0, _, _, _, _, _ => by left; simp [gnum]
  | f + 1, [], _, _, _, _ => by left; simp [gnum]
  | f + 1, b :: l, k, u, hk, hu => by
    unfold gnum
    by_cases h1 : k = 9 ∧ 1 < b.toNat
    · rw [if_pos h1]; left; simp
    · rw [if_neg h1]
      by_cases h2 : 128 ≤ b.toNat
      · rw [if_pos h2]
        have := gnum_range f l (k + 1) (u + b.toNat % 128 * 2 ^ (7 * k)) (by omega) (pow7 hu (by omega))
        rcases this with h | ⟨h, h3, h4, h5⟩
        · left; exact h
        · right; refine ⟨h, by omega, ?_, h5⟩; simp only [List.length_cons]; omega
      · rw [if_neg h2]
        by_cases h3 : b.toNat = 0 ∧ 0 < k
        · rw [if_pos h3]; left; simp
        · rw [if_neg h3]
          right
          refine ⟨rfl, Nat.le_refl _, by simp, ?_⟩
          refine unzig_range ?_
          by_cases h9 : k = 9
          · subst h9
            have : b.toNat % 128 * 2 ^ (7 * 9) ≤ 1 * 2 ^ (7 * 9) := Nat.mul_le_mul_right _ (by omega)
            have h3 : (2 : Nat) ^ (7 * 9) = 9223372036854775808 := by decide
            omega
          · have h := pow7 (b := b.toNat % 128) hu (by omega)
            have h2 := Nat.pow_le_pow_right (n := 2) (by omega) (show 7 * (k + 1) ≤ 63 by omega)
            have h3 : (2 : Nat) ^ 63 = 9223372036854775808 := by decide
            omega
theorem numAt_range (t : Bs) (a : Nat) :
    (numAt t a).1 = 0 ∧ (numAt t a).2.1 = 0 ∧ (3 ≤ (numAt t a).2.2 ∧ (numAt t a).2.2 ≤ 4) ∨
    (numAt t a).2.2 = 0 ∧ (a : Int) + 1 ≤ (numAt t a).2.1 ∧ (numAt t a).2.1 ≤ t.length ∧ -9223372036854775808 ≤ (numAt t a).1 ∧ (numAt t a).1 ≤ 9223372036854775807 := by
  have h := gnum_range 10 (t.drop a) 0 0 (by omega) (by omega)
  unfold numAt
  rcases h with ⟨h, h3⟩ | ⟨h, h3, h4, h5⟩
  · rw [if_neg h]; left; exact ⟨rfl, rfl, h3⟩
  · rw [if_pos h]; right
    rw [List.length_drop] at h4
    refine ⟨rfl, ?_, ?_, h5⟩
    · show (a : Int) + 1 ≤ ((a + _ : Nat) : Int)
      omega
    · show ((a + _ : Nat) : Int) ≤ _
      omega
theorem getNum_range (t : Bs) (a : Int) :
    (getNum t a).1 = 0 ∧ (getNum t a).2.1 = 0 ∧ (1 ≤ (getNum t a).2.2 ∧ (getNum t a).2.2 ≤ 4) ∨
    (getNum t a).2.2 = 0 ∧ t.length ≤ 8000 ∧ 0 ≤ a ∧ a + 1 ≤ (getNum t a).2.1 ∧ (getNum t a).2.1 ≤ t.length ∧ -9223372036854775808 ≤ (getNum t a).1 ∧ (getNum t a).1 ≤ 9223372036854775807 := by
  unfold getNum
  by_cases h1 : 8000 < t.length
  · rw [if_pos h1]; left; simp
  · rw [if_neg h1]
    by_cases h2 : a < 0
    · rw [if_pos h2]; left; simp
    · rw [if_neg h2]
      rcases numAt_range t a.toNat with ⟨h3, h4, h5⟩ | ⟨h3, h4, h5⟩
      · left; exact ⟨h3, h4, by omega⟩
      · right; exact ⟨h3, by omega, by omega, by omega, h5⟩

/-! ### texts read -/
/-- text, place behind it, code -/
abbrev TextOut := Bs × Int × Int
def getText (t : Bs) (a : Int) : TextOut :=
  if (getNum t a).2.2 ≠ 0 then ([], 0, (getNum t a).2.2)
  else if (getNum t a).1 < 0 ∨ 8000 < (getNum t a).1 then ([], 0, 3)
  else if (t.length : Int) < (getNum t a).2.1 + (getNum t a).1 then ([], 0, 4)
  else ((t.drop (getNum t a).2.1.toNat).take (getNum t a).1.toNat, (getNum t a).2.1 + (getNum t a).1, 0)
def unseal_ (t : Bs) : TextOut :=
  if 8000 < t.length then ([], 0, 2) else if t.length < 4 then ([], 0, 4)
  else if crcFour (t.take (t.length - 4)) = t.drop (t.length - 4) then (t.take (t.length - 4), 0, 0) else ([], 0, 5)
def four4 (a b c d : Nat) : Int := ((a + b * 256 + c * 65536 + d * 16777216 : Nat) : Int)
/-- the number that the first four bytes tell -/
def ofFour (t : Bs) : Int := four4 (t[0]?.getD 0).toNat (t[1]?.getD 0).toNat (t[2]?.getD 0).toNat (t[3]?.getD 0).toNat
/-- number, text, place behind, code -/
abbrev FrameOut := Int × Bs × Int × Int
def frameRead (t : Bs) (a : Int) : FrameOut :=
  if (getText t a).2.2 ≠ 0 then (0, [], 0, (getText t a).2.2)
  else if (unseal_ (getText t a).1).2.2 ≠ 0 then (0, [], 0, (unseal_ (getText t a).1).2.2)
  else if (unseal_ (getText t a).1).1.length < 4 then (0, [], 0, 3)
  else if frameOk (ofFour (unseal_ (getText t a).1).1) ((unseal_ (getText t a).1).1.drop 4) then (ofFour (unseal_ (getText t a).1).1, (unseal_ (getText t a).1).1.drop 4, (getText t a).2.1, 0)
  else (0, [], 0, 3)
theorem extract_bs (s : ByteArray) (a b : Nat) : s.extract a b = bs ((s.data.toList.drop a).take (b - a)) := by
  apply ByteArray.ext
  simp [bs, ByteArray.data_extract]
  rw [← Array.toList_inj]
  simp [Array.toList_extract, List.extract]
end Go.Proofs.YtfblolkkajppcaaGreatDoor.M
namespace Go.Proofs.YtfblolkkajppcaaGreatDoor
open Go.RowKit M

theorem getText_eq (t : Bs) (a : Int) : getText t a = if (getNum t a).2.2 ≠ 0 then ([], 0, (getNum t a).2.2)
  else if (getNum t a).1 < 0 ∨ 8000 < (getNum t a).1 then ([], 0, 3)
  else if (t.length : Int) < (getNum t a).2.1 + (getNum t a).1 then ([], 0, 4)
  else ((t.drop (getNum t a).2.1.toNat).take (getNum t a).1.toNat, (getNum t a).2.1 + (getNum t a).1, 0) := rfl

theorem add_facts {a b : Nat} (h : a + b ≤ 1000000) : IntKind.i64.wrap ((a : Int) + b) = (a : Int) + b ∧ 0 ≤ (a : Int) + b ∧ ((a : Int) + b).toNat = a + b := by
  refine ⟨?_, by omega, by omega⟩
  rw [IntKind.wrap_i64]; omega

def encTO (x : TextOut) : Value := .agg #[.string (bs x.1), .int .i64 x.2.1, .int .i64 x.2.2]

end Go.Proofs.YtfblolkkajppcaaGreatDoor
