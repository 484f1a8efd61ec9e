import Derived.Test.YtnehiflandjkoaaB1
import Derived.Deep.AppendLies
set_option linter.unusedSimpArgs false
set_option linter.unusedVariables false
namespace Go.Proofs.Ytnehiflandjkoaa
open Go.RowKit M

theorem ret_bool {a b : Bool} (h : a = b) : Ending.returned (.bool a) = .returned (.bool b) := by rw [h]
theorem ret_int {k : IntKind} {a b : Int} (h : a = b) : Ending.returned (.int k a) = .returned (.int k b) := by rw [h]

theorem info_u8 : (Try.prog.info? 5).map (fun i => (i.zero, i.size, i.bytes)) = some (some (.int .u8 0), 1, 1) := by kernel_rfl

/-- bytes as cells -/
def cb (l : Bs) : List Value := l.map fun b => Value.int .u8 b.toNat
theorem cb_length (l : Bs) : (cb l).length = l.length := by simp [cb]
theorem cb_append (a b : Bs) : cb a ++ cb b = cb (a ++ b) := by simp [cb]
theorem cb_one (l : Bs) : ∀ u ∈ cb l, u.oneCell' = true := by
  intro u hu
  simp only [cb, List.mem_map] at hu
  obtain ⟨b, _, rfl⟩ := hu
  rfl

/-- 'string(b)' of a row of the call's own -/
theorem conv_own (w : World) (base : Nat) (v : Value) (l : Bs) (h : w.ownsRow base 5 1 v l.length (cb l)) :
    (convert 22 9 v).run Try.prog w = .ok (.string (bs l)) w := by
  rcases h.2 with ⟨rfl, h0⟩ | ⟨g, cap, cur, rfl, _, hg, hn, hc, hs, ht⟩
  · obtain rfl : l = [] := List.eq_nil_of_length_eq_zero h0
    exact run_convert_bytes_nil (P := Try.prog) w 22 5 Try.underlying22 Try.underlying5 0 0 9 Try.underlying9
  · refine run_convert_bytes_back (P := Try.prog) w 22 9 5 ⟨g, 0, none⟩ cap l Try.underlying22 Try.underlying5 Try.underlying9 ?_
    intro j hj
    exact h.cells (g := g) rfl j _ (by simp [cb, hj])

theorem or128 (r : Nat) : bits .or .u8 ((r : Int) % 256) 128 = (((UInt8.ofNat (r % 128 + 128)).toNat : Nat) : Int) := by
  have h := u8_or_nat (r % 256) 128 (by omega) (by omega)
  have hd : ∀ x : Fin 256, x.val ||| 128 = x.val % 128 + 128 := by decide +kernel
  have h2 := hd ⟨r % 256, by omega⟩
  rw [show ((r : Int) % 256) = ((r % 256 : Nat) : Int) by omega, show (128 : Int) = ((128 : Nat) : Int) from rfl, h]
  simp only at h2
  rw [h2, UInt8.toNat_ofNat']
  omega

theorem zig_bits (n : Int) (hn : -9223372036854775808 ≤ n ∧ n ≤ 9223372036854775807) :
    bits BinOp.xor IntKind.u64 (IntKind.u64.wrap (wrap64 (n * 2))) (IntKind.u64.wrap (n / 9223372036854775808)) = ((zig n : Nat) : Int) := by
  have hx : ∀ x : Nat, x < 18446744073709551616 → x ^^^ 18446744073709551615 = 18446744073709551615 - x := fun x h => by
    have h1 : (BitVec.ofNat 64 x ^^^ BitVec.allOnes 64).toNat = (~~~ BitVec.ofNat 64 x).toNat := by rw [BitVec.xor_allOnes]
    rw [BitVec.toNat_xor, BitVec.toNat_not, BitVec.toNat_allOnes, BitVec.toNat_ofNat, Nat.mod_eq_of_lt h] at h1
    exact h1
  rw [IntKind.wrap_u64, IntKind.wrap_u64]
  by_cases h0 : n < 0
  · have e1 : n / 9223372036854775808 % 18446744073709551616 = ((18446744073709551615 : Nat) : Int) := by omega
    have e2 : wrap64 (n * 2) % 18446744073709551616 = (((2 * n + 18446744073709551616).toNat : Nat) : Int) := by unfold wrap64; omega
    rw [e1, e2, u64_xor_nat _ _ (by omega) (by omega), hx _ (by omega), zig, if_pos h0]
    omega
  · have e1 : n / 9223372036854775808 % 18446744073709551616 = ((0 : Nat) : Int) := by omega
    have e2 : wrap64 (n * 2) % 18446744073709551616 = (((2 * n).toNat : Nat) : Int) := by unfold wrap64; omega
    rw [e1, e2, u64_xor_nat _ _ (by omega) (by omega), Nat.xor_zero, zig, if_neg h0]

set_option maxHeartbeats 400000 in
theorem putNum_i (n : Int) (hn : -9223372036854775808 ≤ n ∧ n ≤ 9223372036854775807) (w : World) : Gives Try.prog 77 #[.int .i64 n] w (.string (bs (putNum n))) := by
  unfold Gives
  obtain ⟨i0, hi, hz0, hz1, hz2⟩ := info_parts info_u8
  have HZ := Lib.hid (zig_bits n hn)
  have hzl := zig_lt hn
  go_enter Try.func77, Try.ntmps77
  go_wp2
  rw [HZ.out]
  go_loopw [3, 4] (fun v x wr => ∃ (acc : Bs) (f r : Nat), acc.length + f = 10 ∧ r < 18446744073709551616 ∧ r < 128 ^ (f + 1) ∧ Hid (acc ++ putU f r = putNum n) ∧ wr.ownsRow w.heap.size 5 1 v acc.length (cb acc) ∧ Below w.heap.size w wr ∧ x = .int .u64 r) (fun _ x _ => (intOf x).toNat)
  case atStart => exact ⟨[], 10, zig n, rfl, hzl, by omega, Lib.hid rfl, World.ownsRow_made w #[] 0 (Nat.le_refl _) (by decide) rfl, (Below.refl _ _).alloc (Nat.le_refl _) _, rfl⟩
  case round =>
    obtain ⟨acc, f, r, hf, hr, hrf, HP, hown, hbel, rfl⟩ := hrel
    have hbs := hbel.size
    by_cases hge : (128 : Int) ≤ r
    · have HO := Lib.hid (or128 r)
      go_wp2_with (at_builtin; refine wpList_append_own _ rfl _ _ 22 rfl w.heap.size 5 i0 (.int .u8 0) 1 1 Try.underlying22 hi hz0 hz1 hz2 rfl (by decide) _ _ _ rfl (hown.alloc _) ⟨wr.heap.size, 0, none⟩ 1 1 [.int .u8 (bits .or .u8 ((r : Int) % 256) 128)] rfl rfl ?c1 ?c2 ?c3 ?c4 ?c5 ?_)
      case c1 => exact cell_one_new _ _ _
      case c2 => first | rfl | (intro u hu; simp at hu; subst hu; rfl)
      case c3 => simp [maxLen]; omega
      case c4 => omega
      case c5 => first | omega | (simp; omega)
      intro v' w1 hown1 hg1 _
      go_wp2
      go_roundw
      have hf1 : 1 ≤ f := by
        rcases Nat.eq_zero_or_pos f with h | h
        · subst h; omega
        · exact h
      case rel =>
        obtain ⟨f', rfl⟩ : ∃ f', f = f' + 1 := ⟨f - 1, by omega⟩
        rw [HO.out] at hown1
        refine ⟨acc ++ [UInt8.ofNat (r % 128 + 128)], f', r / 128, by simp; omega, by omega, ?_, Lib.hid ?_, ?_, ?_, rfl⟩
        · have h1 := hrf
          rw [Nat.pow_succ] at h1
          exact Nat.div_lt_of_lt_mul (by rw [Nat.mul_comm]; exact h1)
        · rw [← HP.out, putU_ge (by omega)]; simp
        · rw [← cb_append]; simpa [cb] using hown1
        · exact (hbel.alloc hbs _).grown hg1 (by simp; omega) (fun k hk => (hown.lt k hk).1)
      case measure => simp [intOf]; omega
    · have HO : Hid ((r : Int) = (((UInt8.ofNat r).toNat : Nat) : Int)) := by
        rw [UInt8.toNat_ofNat']; exact Lib.hid (by omega)
      go_wp2_with (at_builtin; refine wpList_append_own _ rfl _ _ 22 rfl w.heap.size 5 i0 (.int .u8 0) 1 1 Try.underlying22 hi hz0 hz1 hz2 rfl (by decide) _ _ _ rfl (hown.alloc _) ⟨wr.heap.size, 0, none⟩ 1 1 [.int .u8 (r : Int)] rfl rfl ?c1 ?c2 ?c3 ?c4 ?c5 ?_)
      case c2 => first | rfl | (intro u hu; simp at hu; subst hu; rfl)
      case c3 => simp [maxLen]; omega
      case c4 => omega
      case c5 => first | omega | (simp; omega)
      intro v' w1 hown1 hg1 _
      rw [show [Value.int .u8 (r : Int)] = cb [UInt8.ofNat r] by simp only [cb, List.map_cons, List.map_nil, ← HO.out], cb_append] at hown1
      have hc := conv_own w1 w.heap.size v' (acc ++ [UInt8.ofNat r]) (by simpa using hown1)
      go_wp2
      go_ret
      refine ⟨?_, (hbel.alloc hbs _).grown hg1 (by simp; omega) (fun k hk => (hown.lt k hk).1)⟩
      show Ending.returned (Value.string (bs (acc ++ [UInt8.ofNat r]))) = _
      rw [← HP.out, putU_lt (by omega)]

theorem fold_s (n : Int) (hn : -9223372036854775808 ≤ n ∧ n ≤ 9223372036854775807) (w : World) : Gives Try.prog 88 #[.int .i64 n] w (.int .u64 (zig n)) := by
  unfold Gives
  by_cases h0 : n < 0
  · have hz : Hid (zig n = (2 * (-(n + 1)) + 1).toNat) := by unfold zig; rw [if_pos h0]; exact Lib.hid rfl
    go_enter Try.func88, Try.ntmps88
    go_wp2
    go_ret
    refine ⟨?_, Below.refl _ _⟩
    rw [hz.out]
    exact ret_int (by omega)
  · have hz : Hid (zig n = (2 * n).toNat) := by unfold zig; rw [if_neg h0]; exact Lib.hid rfl
    go_enter Try.func88, Try.ntmps88
    go_wp2
    go_ret
    refine ⟨?_, Below.refl _ _⟩
    rw [hz.out]
    exact ret_int (by omega)

set_option maxHeartbeats 400000 in
theorem putNum_s (n : Int) (hn : -9223372036854775808 ≤ n ∧ n ≤ 9223372036854775807) (w : World) : Gives Try.prog 81 #[.int .i64 n] w (.string (bs (putNum n))) := by
  unfold Gives
  obtain ⟨i0, hi, hz0, hz1, hz2⟩ := info_parts info_u8
  have hzl := zig_lt hn
  go_enter Try.func81, Try.ntmps81
  go_wp2_with (go_at_call 88; refine (fold_s _ hn _).use.mono ?_; rintro e w1 ⟨rfl, hb1⟩)
  have hs1 := hb1.size
  go_loopw [3, 4] (fun x v wr => ∃ (acc : Bs) (f r : Nat), acc.length + f = 10 ∧ r < 18446744073709551616 ∧ r < 128 ^ (f + 1) ∧ Hid (acc ++ putU f r = putNum n) ∧ wr.ownsRow w.heap.size 5 1 v acc.length (cb acc) ∧ Below w.heap.size w wr ∧ x = .int .u64 r) (fun x _ _ => (intOf x).toNat)
  case atStart => exact ⟨[], 10, zig n, rfl, hzl, by omega, Lib.hid rfl, World.ownsRow_made w1 #[] 0 hs1 (by decide) rfl, hb1.alloc hs1 _, rfl⟩
  case round =>
    obtain ⟨acc, f, r, hf, hr, hrf, HP, hown, hbel, rfl⟩ := hrel
    have hbs := hbel.size
    by_cases hge : (128 : Int) ≤ r
    · have HO : Hid ((r : Int) % 128 + 128 = (((UInt8.ofNat (r % 128 + 128)).toNat : Nat) : Int)) := by
        rw [UInt8.toNat_ofNat']; exact Lib.hid (by omega)
      go_wp2_with (at_builtin; refine wpList_append_own _ rfl _ _ 22 rfl w.heap.size 5 i0 (.int .u8 0) 1 1 Try.underlying22 hi hz0 hz1 hz2 rfl (by decide) _ _ _ rfl (hown.alloc _) ⟨wr.heap.size, 0, none⟩ 1 1 [.int .u8 ((r : Int) % 128 + 128)] rfl rfl ?c1 ?c2 ?c3 ?c4 ?c5 ?_)
      case c1 => exact cell_one_new _ _ _
      case c2 => first | rfl | (intro u hu; simp at hu; subst hu; rfl)
      case c3 => simp [maxLen]; omega
      case c4 => omega
      case c5 => first | omega | (simp; omega)
      intro v' w1 hown1 hg1 _
      go_wp2
      go_roundw
      have hf1 : 1 ≤ f := by
        rcases Nat.eq_zero_or_pos f with h | h
        · subst h; omega
        · exact h
      case rel =>
        obtain ⟨f', rfl⟩ : ∃ f', f = f' + 1 := ⟨f - 1, by omega⟩
        rw [HO.out] at hown1
        refine ⟨acc ++ [UInt8.ofNat (r % 128 + 128)], f', r / 128, by simp; omega, by omega, ?_, Lib.hid ?_, ?_, ?_, rfl⟩
        · have h1 := hrf
          rw [Nat.pow_succ] at h1
          exact Nat.div_lt_of_lt_mul (by rw [Nat.mul_comm]; exact h1)
        · rw [← HP.out, putU_ge (by omega)]; simp
        · rw [← cb_append]; simpa [cb] using hown1
        · exact (hbel.alloc hbs _).grown hg1 (by simp; omega) (fun k hk => (hown.lt k hk).1)
      case measure => simp [intOf]; omega
    · have HO : Hid ((r : Int) = (((UInt8.ofNat r).toNat : Nat) : Int)) := by
        rw [UInt8.toNat_ofNat']; exact Lib.hid (by omega)
      go_wp2_with (at_builtin; refine wpList_append_own _ rfl _ _ 22 rfl w.heap.size 5 i0 (.int .u8 0) 1 1 Try.underlying22 hi hz0 hz1 hz2 rfl (by decide) _ _ _ rfl (hown.alloc _) ⟨wr.heap.size, 0, none⟩ 1 1 [.int .u8 (r : Int)] rfl rfl ?c1 ?c2 ?c3 ?c4 ?c5 ?_)
      case c2 => first | rfl | (intro u hu; simp at hu; subst hu; rfl)
      case c3 => simp [maxLen]; omega
      case c4 => omega
      case c5 => first | omega | (simp; omega)
      intro v' w1 hown1 hg1 _
      rw [show [Value.int .u8 (r : Int)] = cb [UInt8.ofNat r] by simp only [cb, List.map_cons, List.map_nil, ← HO.out], cb_append] at hown1
      have hc := conv_own w1 w.heap.size v' (acc ++ [UInt8.ofNat r]) (by simpa using hown1)
      go_wp2
      go_ret
      refine ⟨?_, (hbel.alloc hbs _).grown hg1 (by simp; omega) (fun k hk => (hown.lt k hk).1)⟩
      show Ending.returned (Value.string (bs (acc ++ [UInt8.ofNat r]))) = _
      rw [← HP.out, putU_lt (by omega)]
end Go.Proofs.Ytnehiflandjkoaa
