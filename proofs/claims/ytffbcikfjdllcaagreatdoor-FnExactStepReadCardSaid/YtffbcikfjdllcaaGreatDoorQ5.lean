/-
  OpRead of the program: the walk.
-/
import Derived.Test.YtffbcikfjdllcaaGreatDoorQ4
import Derived.Test.YtffbcikfjdllcaaGreatDoorQP
import Derived.Test.YtffbcikfjdllcaaGreatDoorP6
set_option linter.unusedSimpArgs false
set_option linter.unusedVariables false
namespace Go.Proofs.YtffbcikfjdllcaaGreatDoor
open Go.RowKit M
namespace M
theorem cut_len : ∀ (r acc : Bs), ∀ x ∈ cut acc r, x.length ≤ acc.length + r.length
  | [], acc, x, hx => by
    obtain rfl := List.mem_singleton.1 hx
    omega
  | c :: r, acc, x, hx => by
    rw [cut] at hx
    split at hx
    · rcases List.mem_cons.1 hx with rfl | hx
      · simp
      · have := cut_len r [] x hx
        simp at this ⊢; omega
    · have := cut_len r (acc ++ [c]) x hx
      simp at this ⊢; omega
theorem getW_len {ws : List Bs} {n : Nat} (h : ∀ x ∈ ws, x.length ≤ n) (k : Nat) : (getW ws k).length ≤ n := by
  unfold getW
  rw [List.getD_eq_getElem?_getD]
  cases hk : ws[k]? with
  | none => simp
  | some x => exact h x (List.mem_of_getElem? hk)
theorem cut_count (acc r : Bs) : (cut acc r).length ≤ r.length + 1 := by
  induction r generalizing acc with
  | nil => simp [cut]
  | cons c r ih =>
    rw [cut]
    split
    · simp; exact ih _
    · have := ih (acc ++ [c]); simp; omega
theorem strs_at {ws : List Bs} {k : Nat} {x : Bs} (h : ws[k]? = some x) : (strs ws)[k]? = some (.string (bs x)) := by
  unfold strs
  rw [List.getElem?_map, h]; rfl
theorem getW_at {ws : List Bs} {k : Nat} (h : k < ws.length) : ws[k]? = some (getW ws k) := by
  unfold getW
  rw [List.getD_eq_getElem?_getD, List.getElem?_eq_getElem h]; rfl
theorem strs_at2 {ws : List Bs} {k : Nat} {x : Bs} (h : ws[k]? = some x) : (strs ws).toArray[k]? = some (.string (bs x)) := by simpa using strs_at h
theorem words_at {k : Nat} {x : ByteArray} (h : words[k]? = some x) : ((words.map Value.string).toArray)[k]? = some (.string x) := by
  rw [List.getElem?_toArray, List.getElem?_map, h]; rfl
theorem sys_list : (bs sysW).toList = [115, 121, 115] := by decide +kernel
theorem aft_list : (bs aftW).toList = [97, 102, 116, 101, 114] := by decide +kernel
theorem bs_nil : bs [] = (⟨#[]⟩ : ByteArray) := rfl
theorem states_at {k : Nat} {x : ByteArray} (h : states[k]? = some x) : (#[.string (bs []), .string (bs [117, 112]), .string (bs [100, 114, 97, 105, 110]), .string (bs [100, 111, 119, 110])] : Array Value)[k]? = some (.string x) := by
  have e : (#[.string (bs []), .string (bs [117, 112]), .string (bs [100, 114, 97, 105, 110]), .string (bs [100, 111, 119, 110])] : Array Value) = (states.map Value.string).toArray := rfl
  rw [e, List.getElem?_toArray, List.getElem?_map, h]; rfl
/-- the numbers that j rounds have laid -/
def fN (ws : List Bs) (at_ j i : Nat) : Int := if i < j then numI (getW ws (at_ + i)) else 0
theorem nI_fN {k : Int} {M : Nat} (h : many k = M) (ws : List Bs) (i : Nat) : nI k ws i = fN ws (atK k) M i := by
  unfold nI fN
  rw [h]
  by_cases hi : i < M
  · rw [if_pos hi, if_pos (by omega)]
  · rw [if_neg hi, if_neg (by omega)]
end M
theorem st_field {P : Program} {R : Nat → Prop} {w0 w : World} {L : List Hl} {a : Act} {ops : Array Oper} {Q : Exit → Act → World → Prop} {rest : List Oper} {dst : Option Tmp} {T ty : TypeId} {x : Operand} {pos : String} {aft : Array Edge} {i : Nat} {v : Value} (H : Hs R w0 L w)
    (h : OpOk P [] ⟨dst, .field T x i, ty, pos, aft, none⟩ a w (tV v)) (k : ∀ w', Hs R w0 L w' → wpList P ops Q rest (a.put dst v) w') : wpList P ops Q (⟨dst, .field T x i, ty, pos, aft, none⟩ :: rest) a w := st_v H rfl h k
theorem field_lo (a b c : Value) (w : World) : (Instr.field 67 (.agg #[a, b, c]) 0).run Tryz.prog w = .ok (.agg #[a, b]) w := by kernel_rfl
theorem fF {P : Prop} (h : P := by unfold OpOk; go_simp; (try simp only [field_lo, Result.andThen_ok]); exact now_v) : P := h
theorem word_n (ws : List Bs) (n : Int) (k : Nat) (e : n = k) (hk : k ≤ 1000) (b g : Nat) (w : World) (hb : w.cell? ⟨b, 0, none⟩ = some (.slice (some ⟨g, 0, none⟩) ws.length ws.length)) (hw : ∀ x, ws[k]? = some x → w.cell? ⟨g, k, none⟩ = some (.string (bs x))) :
    Gives Tryz.prog 43 #[.int .i64 n, .pointer (some ⟨b, 0, none⟩)] w (.string (bs (getW ws k))) := by
  subst e
  exact word_i ws k hk b g w hb hw
theorem wF {P : Prop} (h : P := by first
  | exact word_n ws _ 2 (by first | rfl | omega) (by decide) b3 g _ (H.cell iF rfl) (fun x hx => H.cell iF (strs_at2 hx))
  | exact word_n ws _ 3 (by first | rfl | omega) (by decide) b3 g _ (H.cell iF rfl) (fun x hx => H.cell iF (strs_at2 hx))
  | exact word_n ws _ 4 (by first | rfl | omega) (by decide) b3 g _ (H.cell iF rfl) (fun x hx => H.cell iF (strs_at2 hx))
  | exact word_n ws _ 5 (by first | rfl | omega) (by decide) b3 g _ (H.cell iF rfl) (fun x hx => H.cell iF (strs_at2 hx))
  | exact word_n ws _ 6 (by first | rfl | omega) (by decide) b3 g _ (H.cell iF rfl) (fun x hx => H.cell iF (strs_at2 hx))
  | exact word_n ws _ 7 (by first | rfl | omega) (by decide) b3 g _ (H.cell iF rfl) (fun x hx => H.cell iF (strs_at2 hx))
  | exact word_n ws _ 8 (by first | rfl | omega) (by decide) b3 g _ (H.cell iF rfl) (fun x hx => H.cell iF (strs_at2 hx))
  | exact word_n ws _ 9 (by first | rfl | omega) (by decide) b3 g _ (H.cell iF rfl) (fun x hx => H.cell iF (strs_at2 hx))) : P := h
end Go.Proofs.YtffbcikfjdllcaaGreatDoor
