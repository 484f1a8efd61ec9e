/-
  Words that all walks of this seat share. Plain theorems; nothing of the program is named.
-/
import Derived.WalkKit
import Derived.Deep.QuietTactic
import Derived.BigQuiet
import Derived.Below
import Derived.Outline
import Derived.WalkLawsBesides
import Derived.WalkSpells
import Derived.Lib.Hide
import Derived.Deep.Draws
import Derived.Lib.Strings
import Derived.Laws.BitsAllLaws
import Derived.Test.YtpfdhfchgnnpiaaGreatProg
import Derived.Deep.AppendLies
import Derived.BigRegion
set_option linter.unusedSimpArgs false
set_option linter.unusedVariables false
namespace Go.Proofs.YtpfdhfchgnnpiaaGreat
open Go.RowKit

/-- A call that gives a plain value and touches nothing that was there. -/
def Gives (P : Program) (f : FuncId) (args : Array Value) (w : World) (v : Value) : Prop :=
  Calls P f args w fun e w' => e = .returned v ∧ Below w.heap.size w w'

theorem Gives.use {P : Program} {f : FuncId} {args : Array Value} {w : World} {v : Value} (h : Gives P f args w v) :
    Calls P f args w fun e w' => e = .returned v ∧ Below w.heap.size w w' := h

theorem bcell {W w1 : World} (hb : Below W.heap.size W w1) : (∀ b o, b < W.heap.size → w1.cell? ⟨b, o, none⟩ = W.cell? ⟨b, o, none⟩) ∧ (∀ b o, b < W.heap.size → w1.frozen? ⟨b, o, none⟩ = W.frozen? ⟨b, o, none⟩) :=
  ⟨fun b o h => hb.cell (p := ⟨b, o, none⟩) h, fun b o h => hb.frozen (p := ⟨b, o, none⟩) h⟩

theorem bthen {a b c : World} (h : Below a.heap.size a b) (h2 : Below b.heap.size b c) : Below a.heap.size a c := h.trans (h2.mono h.size)
theorem bnew (w : World) (o : Obj) : Below w.heap.size w (w.alloc o) := (Below.refl _ _).alloc (Nat.le_refl _) o
theorem bset {a b : World} (h : Below a.heap.size a b) {p : Addr} (hp : a.heap.size ≤ p.block) (u : Value) : Below a.heap.size a (b.setCell p u) := h.setCell hp u

/-- The worlds that agree with 'w' on all that 'w' holds. -/
structure Later (w : World) where
  now : World
  ok : Below w.heap.size w now
instance laterInst (w : World) : Nonempty (Later w) := ⟨⟨w, Below.refl _ _⟩⟩

theorem Gives.later {P : Program} {f : FuncId} {args : Array Value} {w : World} {v : Value} (x : Later w) (h : Gives P f args x.now v) :
    Calls P f args x.now fun e w' => e = .returned v ∧ ∃ y : Later w, w' = y.now :=
  h.mono fun _ w' ⟨he, hb⟩ => ⟨he, ⟨w', x.ok.trans (hb.mono x.ok.size)⟩, rfl⟩

theorem bcell1 {w w1 : World} {o : Obj} (hb : Below (w.alloc o).heap.size (w.alloc o) w1) :
    (∀ b o', b < (w.alloc o).heap.size → w1.cell? ⟨b, o', none⟩ = (w.alloc o).cell? ⟨b, o', none⟩) ∧
    (∀ b o', b < (w.alloc o).heap.size → w1.frozen? ⟨b, o', none⟩ = (w.alloc o).frozen? ⟨b, o', none⟩) ∧ w.heap.size < w1.heap.size :=
  ⟨(bcell hb).1, (bcell hb).2, by have := hb.size; simp at this; omega⟩
theorem balloc {a b : World} (h : Below a.heap.size a b) (o : Obj) : Below a.heap.size a (b.alloc o) := bthen h (bnew _ _)
theorem bdrew {a b : World} (h : Below a.heap.size a b) : Below a.heap.size a b.drew := h.drew

/-- A slice that reads as 'n' elements of 's' cells, the cells being 'xs'. -/
def Rd (w : World) (s : Nat) (v : Value) (n : Nat) (xs : List Value) : Prop :=
  xs.length = n * s ∧ ∃ A cap, v = .slice A n cap ∧ n ≤ cap ∧ cap ≤ maxLen ∧
    (0 < n → ∃ b off, A = some ⟨b, off, none⟩ ∧ ∀ j u, xs[j]? = some u → w.cell? ⟨b, off + j, none⟩ = some u)

section
variable {w w' : World} {s n : Nat} {v : Value} {xs : List Value}
theorem Rd.below {B : Nat} (h : Rd w s v n xs) (hB : w.heap.size ≤ B) (hb : Below B w w') : Rd w' s v n xs := by
  obtain ⟨hl, A, cap, e, h1, h2, hc⟩ := h
  refine ⟨hl, A, cap, e, h1, h2, fun hn => ?_⟩
  obtain ⟨b, off, hA, hc⟩ := hc hn
  refine ⟨b, off, hA, fun j u hu => ?_⟩
  have := hc j u hu
  have hlt : b < w.heap.size := World.block_lt_of_cell? w _ this
  rw [hb.cell (p := ⟨b, off + j, none⟩) (by show b < B; omega)]
  exact this
theorem Rd.later (h : Rd w s v n xs) (hb : Below w.heap.size w w') : Rd w' s v n xs := h.below (Nat.le_refl _) hb
theorem Rd.nil (w : World) (s : Nat) : Rd w s (.slice none 0 0) 0 [] := ⟨by simp, none, 0, rfl, Nat.le_refl _, Nat.zero_le _, fun h => absurd h (by omega)⟩
/-- What a walk is told of a slice: its form, and how its cells read. -/
theorem Rd.form (h : Rd w s v n xs) : ∃ A cap, v = .slice A n cap ∧ n ≤ cap ∧ cap ≤ maxLen ∧
    (0 < n → ∃ b off, A = some ⟨b, off, none⟩ ∧ ∀ j u, xs[j]? = some u → w.cell? ⟨b, off + j, none⟩ = some u) := h.2
end

/-- flat cells of a list of structs -/
def flat {α : Type} (enc : α → List Value) (l : List α) : List Value := (l.map enc).flatten
theorem flat_length {α : Type} {enc : α → List Value} {s : Nat} (hs : ∀ a, (enc a).length = s) (l : List α) : (flat enc l).length = l.length * s := by
  induction l with
  | nil => simp [flat]
  | cons a l ih => simp [flat] at ih ⊢; rw [hs a]; rw [ih, Nat.succ_mul]; omega
theorem flat_get {α : Type} {enc : α → List Value} {s : Nat} (hs : ∀ a, (enc a).length = s) : ∀ (l : List α) (k j : Nat) (a : α), l[k]? = some a → j < s → (flat enc l)[k * s + j]? = (enc a)[j]?
  | [], k, j, a, h, _ => by simp at h
  | b :: l, 0, j, a, h, hj => by
    simp at h; subst h
    show (enc b ++ flat enc l)[0 * s + j]? = _
    rw [Nat.zero_mul, Nat.zero_add, List.getElem?_append_left (by rw [hs]; exact hj)]
  | b :: l, k + 1, j, a, h, hj => by
    show (enc b ++ flat enc l)[(k + 1) * s + j]? = _
    rw [List.getElem?_append_right (by rw [hs, Nat.succ_mul]; omega), hs]
    have : (k + 1) * s + j - s = k * s + j := by rw [Nat.succ_mul]; omega
    rw [this]
    exact flat_get hs l k j a (by simpa using h) hj
theorem flat_append {α : Type} (enc : α → List Value) (l r : List α) : flat enc (l ++ r) = flat enc l ++ flat enc r := by
  simp [flat]
theorem flat_cons {α : Type} (enc : α → List Value) (a : α) (r : List α) : flat enc (a :: r) = enc a ++ flat enc r := by
  simp [flat]

end Go.Proofs.YtpfdhfchgnnpiaaGreat
namespace Go.Proofs.YtpfdhfchgnnpiaaGreat.M

abbrev Bs := List UInt8
/-- the string of some bytes -/
def bs (l : Bs) : ByteArray := ⟨l.toArray⟩
theorem bs_data (s : ByteArray) : bs s.data.toList = s := Lib.mk_data s
@[go_sem] theorem data_bs (l : Bs) : (bs l).data.toList = l := rfl
@[go_sem] theorem data_app (a b : ByteArray) : (a ++ b).data.toList = a.data.toList ++ b.data.toList := by simp [ByteArray.data_append]
@[go_sem] theorem size_bs (l : Bs) : (bs l).size = l.length := rfl
theorem bs_append (a b : Bs) : bs a ++ bs b = bs (a ++ b) := by
  apply ByteArray.ext
  simp [bs]
/-! ### numbers -/
def zig (n : Int) : Nat := if n < 0 then (2 * (-(n + 1)) + 1).toNat else (2 * n).toNat
def putU : Nat → Nat → Bs
  | 0, u => [UInt8.ofNat u]
  | f + 1, u => if u < 128 then [UInt8.ofNat u] else UInt8.ofNat (u % 128 + 128) :: putU f (u / 128)
def putNum (n : Int) : Bs := putU 10 (zig n)
theorem putU_lt {f u : Nat} (h : u < 128) : putU f u = [UInt8.ofNat u] := by
  cases f <;> simp [putU, h]
theorem putU_ge {f u : Nat} (h : 128 ≤ u) : putU (f + 1) u = UInt8.ofNat (u % 128 + 128) :: putU f (u / 128) := by
  simp [putU, Nat.not_lt.2 h]
theorem zig_lt {n : Int} (h : -9223372036854775808 ≤ n ∧ n ≤ 9223372036854775807) : zig n < 18446744073709551616 := by
  unfold zig; split <;> omega
theorem putU_length : ∀ f u, 1 ≤ (putU f u).length ∧ (putU f u).length ≤ f + 1
  | 0, u => by simp [putU]
  | f + 1, u => by
    unfold putU
    split
    · simp
    · have := putU_length f (u / 128); simp; omega
theorem putNum_length (n : Int) : 1 ≤ (putNum n).length ∧ (putNum n).length ≤ 11 := putU_length 10 _

/-! ### CRC -/
def crcBit (x : Nat) : Nat := if x % 2 = 1 then (x / 2) ^^^ 3988292384 else x / 2
def crcBits : Nat → Nat → Nat
  | 0, x => x
  | n + 1, x => crcBits n (crcBit x)
def crcByte (x : Nat) (b : UInt8) : Nat := crcBits 8 (x ^^^ b.toNat)
def crcList (x : Nat) (l : Bs) : Nat := l.foldl crcByte x
/-- the checksum of some bytes that goes on from a checksum -/
def crcMore (c : Nat) (l : Bs) : Nat := 4294967295 - crcList (4294967295 - c) l

def four (n : Int) : Bs := [UInt8.ofNat (n % 256).toNat, UInt8.ofNat (n / 256 % 256).toNat, UInt8.ofNat (n / 65536 % 256).toNat, UInt8.ofNat (n / 16777216 % 256).toNat]
def crcFour (l : Bs) : Bs := four (crcMore 0 l)
def putText (l : Bs) : Bs := if l.length ≤ 8000 then putNum l.length ++ l else []


@[go_sem] theorem four_length (n : Int) : (four n).length = 4 := rfl
@[go_sem] theorem crcFour_length (l : Bs) : (crcFour l).length = 4 := rfl
theorem size_data (s : ByteArray) : s.data.toList.length = s.size := by rw [Array.length_toList]; rfl
/-! ### numbers read -/
end Go.Proofs.YtpfdhfchgnnpiaaGreat.M
namespace Go.Proofs.YtpfdhfchgnnpiaaGreat
open Go.RowKit M

theorem within_i (n lo hi : Int) (w : World) : Gives Tryz.prog 20 #[.int .i64 n, .int .i64 lo, .int .i64 hi] w (.bool (decide (lo ≤ n) && decide (n ≤ hi))) := by
  unfold Gives
  go_enter Tryz.func20, Tryz.ntmps20
  go_wp2
  all_goals go_ret
  all_goals refine ⟨?_, Below.refl _ _⟩
  all_goals simp [*]
  all_goals omega
theorem is_s (n lo hi : Int) (w : World) : Gives Tryz.prog 115 #[.int .i64 n, .int .i64 lo, .int .i64 hi] w (.bool (decide (lo ≤ n) && decide (n ≤ hi))) := by
  unfold Gives
  go_enter Tryz.func115, Tryz.ntmps115
  go_wp2
  all_goals go_ret
  all_goals refine ⟨?_, Below.refl _ _⟩
  all_goals simp [*]
  all_goals omega

end Go.Proofs.YtpfdhfchgnnpiaaGreat
namespace Go.Proofs.YtpfdhfchgnnpiaaGreat
open Go.RowKit M

theorem ret_int {k : IntKind} {a b : Int} (h : a = b) : Ending.returned (.int k a) = .returned (.int k b) := by rw [h]

theorem info_u8 : (Tryz.prog.info? 5).map (fun i => (i.zero, i.size, i.bytes)) = some (some (.int .u8 0), 1, 1) := by kernel_rfl

/-- bytes as cells -/
def cb (l : Bs) : List Value := l.map fun b => Value.int .u8 b.toNat
theorem cb_append (a b : Bs) : cb a ++ cb b = cb (a ++ b) := by simp [cb]
/-- 'string(b)' of a row of the call's own -/
theorem conv_own (w : World) (base : Nat) (v : Value) (l : Bs) (h : w.ownsRow base 5 1 v l.length (cb l)) :
    (convert 149 9 v).run Tryz.prog w = .ok (.string (bs l)) w := by
  rcases h.2 with ⟨rfl, h0⟩ | ⟨g, cap, cur, rfl, _, hg, hn, hc, hs, ht⟩
  · obtain rfl : l = [] := List.eq_nil_of_length_eq_zero h0
    exact run_convert_bytes_nil (P := Tryz.prog) w 149 5 Tryz.underlying149 Tryz.underlying5 0 0 9 Tryz.underlying9
  · refine run_convert_bytes_back (P := Tryz.prog) w 149 9 5 ⟨g, 0, none⟩ cap l Tryz.underlying149 Tryz.underlying5 Tryz.underlying9 ?_
    intro j hj
    exact h.cells (g := g) rfl j _ (by simp [cb, hj])

theorem or128 (r : Nat) : bits .or .u8 ((r : Int) % 256) 128 = (((UInt8.ofNat (r % 128 + 128)).toNat : Nat) : Int) := by
  have h := u8_or_nat (r % 256) 128 (by omega) (by omega)
  have hd : ∀ x : Fin 256, x.val ||| 128 = x.val % 128 + 128 := by decide +kernel
  have h2 := hd ⟨r % 256, by omega⟩
  rw [show ((r : Int) % 256) = ((r % 256 : Nat) : Int) by omega, show (128 : Int) = ((128 : Nat) : Int) from rfl, h]
  simp only at h2
  rw [h2, UInt8.toNat_ofNat']
  omega

theorem zig_bits (n : Int) (hn : -9223372036854775808 ≤ n ∧ n ≤ 9223372036854775807) :
    bits BinOp.xor IntKind.u64 (IntKind.u64.wrap (wrap64 (n * 2))) (IntKind.u64.wrap (n / 9223372036854775808)) = ((zig n : Nat) : Int) := by
  have hx : ∀ x : Nat, x < 18446744073709551616 → x ^^^ 18446744073709551615 = 18446744073709551615 - x := fun x h => by
    have h1 : (BitVec.ofNat 64 x ^^^ BitVec.allOnes 64).toNat = (~~~ BitVec.ofNat 64 x).toNat := by rw [BitVec.xor_allOnes]
    rw [BitVec.toNat_xor, BitVec.toNat_not, BitVec.toNat_allOnes, BitVec.toNat_ofNat, Nat.mod_eq_of_lt h] at h1
    exact h1
  rw [IntKind.wrap_u64, IntKind.wrap_u64]
  by_cases h0 : n < 0
  · have e1 : n / 9223372036854775808 % 18446744073709551616 = ((18446744073709551615 : Nat) : Int) := by omega
    have e2 : wrap64 (n * 2) % 18446744073709551616 = (((2 * n + 18446744073709551616).toNat : Nat) : Int) := by unfold wrap64; omega
    rw [e1, e2, u64_xor_nat _ _ (by omega) (by omega), hx _ (by omega), zig, if_pos h0]
    omega
  · have e1 : n / 9223372036854775808 % 18446744073709551616 = ((0 : Nat) : Int) := by omega
    have e2 : wrap64 (n * 2) % 18446744073709551616 = (((2 * n).toNat : Nat) : Int) := by unfold wrap64; omega
    rw [e1, e2, u64_xor_nat _ _ (by omega) (by omega), Nat.xor_zero, zig, if_neg h0]

set_option maxHeartbeats 400000 in
theorem putNum_i (n : Int) (hn : -9223372036854775808 ≤ n ∧ n ≤ 9223372036854775807) (w : World) : Gives Tryz.prog 51 #[.int .i64 n] w (.string (bs (putNum n))) := by
  unfold Gives
  obtain ⟨i0, hi, hz0, hz1, hz2⟩ := info_parts info_u8
  have HZ := Lib.hid (zig_bits n hn)
  have hzl := zig_lt hn
  go_enter Tryz.func51, Tryz.ntmps51
  go_wp2
  rw [HZ.out]
  go_loopw [3, 4] (fun v x wr => ∃ (acc : Bs) (f r : Nat), acc.length + f = 10 ∧ r < 18446744073709551616 ∧ r < 128 ^ (f + 1) ∧ Hid (acc ++ putU f r = putNum n) ∧ wr.ownsRow w.heap.size 5 1 v acc.length (cb acc) ∧ Below w.heap.size w wr ∧ x = .int .u64 r) (fun _ x _ => (intOf x).toNat)
  case atStart => exact ⟨[], 10, zig n, rfl, hzl, by omega, Lib.hid rfl, World.ownsRow_made w #[] 0 (Nat.le_refl _) (by decide) rfl, (Below.refl _ _).alloc (Nat.le_refl _) _, rfl⟩
  case round =>
    obtain ⟨acc, f, r, hf, hr, hrf, HP, hown, hbel, rfl⟩ := hrel
    have hbs := hbel.size
    by_cases hge : (128 : Int) ≤ r
    · have HO := Lib.hid (or128 r)
      go_wp2_with (at_builtin; refine wpList_append_own _ rfl _ _ 149 rfl w.heap.size 5 i0 (.int .u8 0) 1 1 Tryz.underlying149 hi hz0 hz1 hz2 rfl (by decide) _ _ _ rfl (hown.alloc _) ⟨wr.heap.size, 0, none⟩ 1 1 [.int .u8 (bits .or .u8 ((r : Int) % 256) 128)] rfl rfl ?c1 ?c2 ?c3 ?c4 ?c5 ?_)
      case c1 => exact cell_one_new _ _ _
      case c2 => first | rfl | (intro u hu; simp at hu; subst hu; rfl)
      case c3 => simp [maxLen]; omega
      case c4 => omega
      case c5 => first | omega | (simp; omega)
      intro v' w1 hown1 hg1 _
      go_wp2
      go_roundw
      have hf1 : 1 ≤ f := by
        rcases Nat.eq_zero_or_pos f with h | h
        · subst h; omega
        · exact h
      case rel =>
        obtain ⟨f', rfl⟩ : ∃ f', f = f' + 1 := ⟨f - 1, by omega⟩
        rw [HO.out] at hown1
        refine ⟨acc ++ [UInt8.ofNat (r % 128 + 128)], f', r / 128, by simp; omega, by omega, ?_, Lib.hid ?_, ?_, ?_, rfl⟩
        · have h1 := hrf
          rw [Nat.pow_succ] at h1
          exact Nat.div_lt_of_lt_mul (by rw [Nat.mul_comm]; exact h1)
        · rw [← HP.out, putU_ge (by omega)]; simp
        · rw [← cb_append]; simpa [cb] using hown1
        · exact (hbel.alloc hbs _).grown hg1 (by simp; omega) (fun k hk => (hown.lt k hk).1)
      case measure => simp [intOf]; omega
    · have HO : Hid ((r : Int) = (((UInt8.ofNat r).toNat : Nat) : Int)) := by
        rw [UInt8.toNat_ofNat']; exact Lib.hid (by omega)
      go_wp2_with (at_builtin; refine wpList_append_own _ rfl _ _ 149 rfl w.heap.size 5 i0 (.int .u8 0) 1 1 Tryz.underlying149 hi hz0 hz1 hz2 rfl (by decide) _ _ _ rfl (hown.alloc _) ⟨wr.heap.size, 0, none⟩ 1 1 [.int .u8 (r : Int)] rfl rfl ?c1 ?c2 ?c3 ?c4 ?c5 ?_)
      case c2 => first | rfl | (intro u hu; simp at hu; subst hu; rfl)
      case c3 => simp [maxLen]; omega
      case c4 => omega
      case c5 => first | omega | (simp; omega)
      intro v' w1 hown1 hg1 _
      rw [show [Value.int .u8 (r : Int)] = cb [UInt8.ofNat r] by simp only [cb, List.map_cons, List.map_nil, ← HO.out], cb_append] at hown1
      have hc := conv_own w1 w.heap.size v' (acc ++ [UInt8.ofNat r]) (by simpa using hown1)
      go_wp2
      go_ret
      refine ⟨?_, (hbel.alloc hbs _).grown hg1 (by simp; omega) (fun k hk => (hown.lt k hk).1)⟩
      show Ending.returned (Value.string (bs (acc ++ [UInt8.ofNat r]))) = _
      rw [← HP.out, putU_lt (by omega)]

theorem fold_s (n : Int) (hn : -9223372036854775808 ≤ n ∧ n ≤ 9223372036854775807) (w : World) : Gives Tryz.prog 73 #[.int .i64 n] w (.int .u64 (zig n)) := by
  unfold Gives
  by_cases h0 : n < 0
  · have hz : Hid (zig n = (2 * (-(n + 1)) + 1).toNat) := by unfold zig; rw [if_pos h0]; exact Lib.hid rfl
    go_enter Tryz.func73, Tryz.ntmps73
    go_wp2
    go_ret
    refine ⟨?_, Below.refl _ _⟩
    rw [hz.out]
    exact ret_int (by omega)
  · have hz : Hid (zig n = (2 * n).toNat) := by unfold zig; rw [if_neg h0]; exact Lib.hid rfl
    go_enter Tryz.func73, Tryz.ntmps73
    go_wp2
    go_ret
    refine ⟨?_, Below.refl _ _⟩
    rw [hz.out]
    exact ret_int (by omega)

set_option maxHeartbeats 400000 in
theorem putNum_s (n : Int) (hn : -9223372036854775808 ≤ n ∧ n ≤ 9223372036854775807) (w : World) : Gives Tryz.prog 33 #[.int .i64 n] w (.string (bs (putNum n))) := by
  unfold Gives
  obtain ⟨i0, hi, hz0, hz1, hz2⟩ := info_parts info_u8
  have hzl := zig_lt hn
  go_enter Tryz.func33, Tryz.ntmps33
  go_wp2_with (go_at_call 73; refine (fold_s _ hn _).use.mono ?_; rintro e w1 ⟨rfl, hb1⟩)
  have hs1 := hb1.size
  go_loopw [3, 4] (fun x v wr => ∃ (acc : Bs) (f r : Nat), acc.length + f = 10 ∧ r < 18446744073709551616 ∧ r < 128 ^ (f + 1) ∧ Hid (acc ++ putU f r = putNum n) ∧ wr.ownsRow w.heap.size 5 1 v acc.length (cb acc) ∧ Below w.heap.size w wr ∧ x = .int .u64 r) (fun x _ _ => (intOf x).toNat)
  case atStart => exact ⟨[], 10, zig n, rfl, hzl, by omega, Lib.hid rfl, World.ownsRow_made w1 #[] 0 hs1 (by decide) rfl, hb1.alloc hs1 _, rfl⟩
  case round =>
    obtain ⟨acc, f, r, hf, hr, hrf, HP, hown, hbel, rfl⟩ := hrel
    have hbs := hbel.size
    by_cases hge : (128 : Int) ≤ r
    · have HO : Hid ((r : Int) % 128 + 128 = (((UInt8.ofNat (r % 128 + 128)).toNat : Nat) : Int)) := by
        rw [UInt8.toNat_ofNat']; exact Lib.hid (by omega)
      go_wp2_with (at_builtin; refine wpList_append_own _ rfl _ _ 149 rfl w.heap.size 5 i0 (.int .u8 0) 1 1 Tryz.underlying149 hi hz0 hz1 hz2 rfl (by decide) _ _ _ rfl (hown.alloc _) ⟨wr.heap.size, 0, none⟩ 1 1 [.int .u8 ((r : Int) % 128 + 128)] rfl rfl ?c1 ?c2 ?c3 ?c4 ?c5 ?_)
      case c1 => exact cell_one_new _ _ _
      case c2 => first | rfl | (intro u hu; simp at hu; subst hu; rfl)
      case c3 => simp [maxLen]; omega
      case c4 => omega
      case c5 => first | omega | (simp; omega)
      intro v' w1 hown1 hg1 _
      go_wp2
      go_roundw
      have hf1 : 1 ≤ f := by
        rcases Nat.eq_zero_or_pos f with h | h
        · subst h; omega
        · exact h
      case rel =>
        obtain ⟨f', rfl⟩ : ∃ f', f = f' + 1 := ⟨f - 1, by omega⟩
        rw [HO.out] at hown1
        refine ⟨acc ++ [UInt8.ofNat (r % 128 + 128)], f', r / 128, by simp; omega, by omega, ?_, Lib.hid ?_, ?_, ?_, rfl⟩
        · have h1 := hrf
          rw [Nat.pow_succ] at h1
          exact Nat.div_lt_of_lt_mul (by rw [Nat.mul_comm]; exact h1)
        · rw [← HP.out, putU_ge (by omega)]; simp
        · rw [← cb_append]; simpa [cb] using hown1
        · exact (hbel.alloc hbs _).grown hg1 (by simp; omega) (fun k hk => (hown.lt k hk).1)
      case measure => simp [intOf]; omega
    · have HO : Hid ((r : Int) = (((UInt8.ofNat r).toNat : Nat) : Int)) := by
        rw [UInt8.toNat_ofNat']; exact Lib.hid (by omega)
      go_wp2_with (at_builtin; refine wpList_append_own _ rfl _ _ 149 rfl w.heap.size 5 i0 (.int .u8 0) 1 1 Tryz.underlying149 hi hz0 hz1 hz2 rfl (by decide) _ _ _ rfl (hown.alloc _) ⟨wr.heap.size, 0, none⟩ 1 1 [.int .u8 (r : Int)] rfl rfl ?c1 ?c2 ?c3 ?c4 ?c5 ?_)
      case c2 => first | rfl | (intro u hu; simp at hu; subst hu; rfl)
      case c3 => simp [maxLen]; omega
      case c4 => omega
      case c5 => first | omega | (simp; omega)
      intro v' w1 hown1 hg1 _
      rw [show [Value.int .u8 (r : Int)] = cb [UInt8.ofNat r] by simp only [cb, List.map_cons, List.map_nil, ← HO.out], cb_append] at hown1
      have hc := conv_own w1 w.heap.size v' (acc ++ [UInt8.ofNat r]) (by simpa using hown1)
      go_wp2
      go_ret
      refine ⟨?_, (hbel.alloc hbs _).grown hg1 (by simp; omega) (fun k hk => (hown.lt k hk).1)⟩
      show Ending.returned (Value.string (bs (acc ++ [UInt8.ofNat r]))) = _
      rw [← HP.out, putU_lt (by omega)]
end Go.Proofs.YtpfdhfchgnnpiaaGreat
namespace Go.Proofs.YtpfdhfchgnnpiaaGreat
open Go.RowKit M

theorem isLong_i (s : ByteArray) (w : World) : Gives Tryz.prog 168 #[.string s] w (.bool (decide (8000 < s.size))) := by
  unfold Gives
  go_enter Tryz.func168, Tryz.ntmps168
  go_wp2
  go_ret
  refine ⟨?_, Below.refl _ _⟩
  show Ending.returned (Value.bool (decide ((8000 : Int) < s.size))) = _
  rw [decide_eq_decide.2 (by omega : (8000 : Int) < s.size ↔ 8000 < s.size)]

theorem putText_i (s : ByteArray) (hs : s.size ≤ maxLen) (w : World) : Gives Tryz.prog 103 #[.string s] w (.string (bs (putText s.data.toList))) := by
  unfold Gives
  have hsz := size_data s
  by_cases h : s.size ≤ 8000
  · have HS : Hid (putText s.data.toList = putNum s.size ++ s.data.toList) := by unfold putText; rw [if_pos (by omega), hsz]; exact Lib.hid rfl
    have h' : decide (8000 < s.size) = false := by simp; omega
    have hpl := (putNum_length s.size).2
    clear hsz
    go_enter Tryz.func103, Tryz.ntmps103
    go_wp2_with (first
      | (go_at_call 168; refine (isLong_i _ _).use.mono ?_; rintro e w1 ⟨rfl, hb1⟩)
      | (go_at_call 51; refine (putNum_i _ (by omega) _).use.mono ?_; rintro e w2 ⟨rfl, hb2⟩))
    go_ret
    refine ⟨?_, hb1.trans (hb2.mono hb1.size)⟩
    rw [HS.out, ← bs_append, bs_data]; rfl
  · have HS : Hid (putText s.data.toList = []) := by unfold putText; rw [if_neg (by omega)]; exact Lib.hid rfl
    have h' : decide (8000 < s.size) = true := by simp; omega
    clear hsz
    go_enter Tryz.func103, Tryz.ntmps103
    go_wp2_with (go_at_call 168; refine (isLong_i _ _).use.mono ?_; rintro e w1 ⟨rfl, hb1⟩)
    go_ret
    exact ⟨by rw [HS.out]; rfl, hb1⟩
theorem putText_s (s : ByteArray) (hs : s.size ≤ maxLen) (w : World) : Gives Tryz.prog 36 #[.string s] w (.string (bs (putText s.data.toList))) := by
  unfold Gives
  have hsz := size_data s
  by_cases h : s.size ≤ 8000
  · have HS : Hid (putText s.data.toList = putNum s.size ++ s.data.toList) := by unfold putText; rw [if_pos (by omega), hsz]; exact Lib.hid rfl
    have h' : ¬ (8000 : Int) < s.size := by omega
    have hpl := (putNum_length s.size).2
    clear hsz
    go_enter Tryz.func36, Tryz.ntmps36
    go_wp2_with (go_at_call 33; refine (putNum_s _ (by omega) _).use.mono ?_; rintro e w2 ⟨rfl, hb2⟩)
    go_ret
    refine ⟨?_, hb2⟩
    rw [HS.out, ← bs_append, bs_data]; rfl
  · have HS : Hid (putText s.data.toList = []) := by unfold putText; rw [if_neg (by omega)]; exact Lib.hid rfl
    have h' : (8000 : Int) < s.size := by omega
    clear hsz
    go_enter Tryz.func36, Tryz.ntmps36
    go_wp2
    go_ret
    exact ⟨by rw [HS.out]; rfl, Below.refl _ _⟩

/-! ### the statement's own helpers -/
end Go.Proofs.YtpfdhfchgnnpiaaGreat
namespace Go.Proofs.YtpfdhfchgnnpiaaGreat
open Go.RowKit M

end Go.Proofs.YtpfdhfchgnnpiaaGreat
namespace Go.Proofs.YtpfdhfchgnnpiaaGreat
open Go.RowKit M

end Go.Proofs.YtpfdhfchgnnpiaaGreat
namespace Go.Proofs.YtpfdhfchgnnpiaaGreat.M
/-! ### texts read -/
/-- text, place behind it, code -/
abbrev TextOut := Bs × Int × Int
/-- number, text, place behind, code -/
abbrev FrameOut := Int × Bs × Int × Int
end Go.Proofs.YtpfdhfchgnnpiaaGreat.M
namespace Go.Proofs.YtpfdhfchgnnpiaaGreat
open Go.RowKit M

end Go.Proofs.YtpfdhfchgnnpiaaGreat
