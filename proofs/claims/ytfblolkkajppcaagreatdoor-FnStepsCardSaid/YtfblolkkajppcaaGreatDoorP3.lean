/-
  The words of an operation: the walks' small parts, strings.Join.
-/
import Derived.Test.YtfblolkkajppcaaGreatDoorP2b
import Derived.Test.YtfblolkkajppcaaGreatDoorT0
import Derived.Test.YtfblolkkajppcaaGreatDoorO7
set_option linter.unusedSimpArgs false
set_option linter.unusedVariables false
namespace Go.Proofs.YtfblolkkajppcaaGreatDoor
open Go.RowKit M

namespace M
theorem isIn_spec {n lo hi : Int} (h : isIn n lo hi = true) : lo ≤ n ∧ n ≤ hi := by unfold isIn at h; simpa using h
theorem numOk_rng {k i n : Int} (h : numOk k i n = true) : 0 ≤ n ∧ n ≤ 9999999 := by
  unfold numOk at h
  rw [Bool.and_eq_true] at h
  exact isIn_spec h.1
structure OpFacts (sys : Bool) (l1 l2 k : Int) (ow : ByteArray) (a b c d m1 m2 af : Int) : Prop where
  k1 : 1 ≤ k
  k17 : k ≤ 17
  a0 : 0 ≤ a ∧ a ≤ 9999999
  b0 : 0 ≤ b ∧ b ≤ 9999999
  c0 : 0 ≤ c ∧ c ≤ 9999999
  d0 : 0 ≤ d ∧ d ≤ 9999999
  af0 : 0 ≤ af ∧ af ≤ 9999999
  s : (sys = true ∧ 12 ≤ k ∧ l1 = 0 ∧ l2 = 0) ∨ (sys = false ∧ k < 12)
  u : k ≠ 1 → af = 0
  n : k = 13 → 1 ≤ b ∧ b ≤ 3
  o : k = 1 → ow.size ≤ 20
  lab : sys = false → labelOk l1 l2 = true
theorem opFacts {sys : Bool} {l1 l2 k : Int} {ow : ByteArray} {a b c d m1 m2 af : Int} (h : opOk sys l1 l2 k ow a b c d m1 m2 af = true) : OpFacts sys l1 l2 k ow a b c d m1 m2 af := by
  unfold opOk at h
  rw [Bool.and_eq_true, Bool.and_eq_true] at h
  obtain ⟨⟨h1, h2⟩, h3⟩ := h
  unfold headOk at h1
  unfold numsOk at h2
  simp only [Bool.and_eq_true] at h1 h2
  obtain ⟨⟨⟨⟨hk, hs⟩, hl⟩, hz⟩, haf⟩ := h1
  obtain ⟨⟨⟨ha, hb⟩, hc⟩, hd⟩ := h2
  have hk := isIn_spec hk
  refine ⟨hk.1, hk.2, numOk_rng ha, numOk_rng hb, numOk_rng hc, numOk_rng hd, isIn_spec haf, ?_, ?_, ?_, ?_, fun _ => hl⟩
  · cases sys
    · right
      refine ⟨rfl, ?_⟩
      simp at hs
      omega
    · left
      simp at hs hz
      exact ⟨rfl, hs, hz.1, hz.2⟩
  · intro hk1
    unfold tailOk at h3
    rw [if_neg hk1] at h3
    split at h3
    · simp at h3; exact h3.2
    · split at h3
      · simp at h3; exact h3.1.2
      · simp at h3; exact h3.2
  · intro hk1
    unfold tailOk at h3
    rw [if_neg (by omega), if_neg (by omega), if_pos hk1] at h3
    simp only [Bool.and_eq_true] at h3
    exact isIn_spec h3.2
  · intro hk1
    unfold tailOk at h3
    rw [if_pos hk1] at h3
    simp only [Bool.and_eq_true] at h3
    have := h3.1.1
    unfold nameOk at this
    simp only [Bool.and_eq_true, decide_eq_true_eq] at this
    have h2 := this.1.1.2
    rw [Array.length_toList] at h2
    exact h2
end M
theorem bsys : (⟨#[115, 121, 115]⟩ : ByteArray) = bs [115, 121, 115] := rfl
theorem baft : (⟨#[97, 102, 116, 101, 114]⟩ : ByteArray) = bs [97, 102, 116, 101, 114] := rfl
namespace M
theorem wordOf_len (k : Int) : (wordOf k).data.toList.length ≤ 100 := by
  unfold wordOf
  split
  · rename_i h
    rcases kinds h with rfl | rfl | rfl | rfl | rfl | rfl | rfl | rfl | rfl | rfl | rfl | rfl | rfl | rfl | rfl | rfl | rfl <;> decide +kernel
  · decide
theorem stateWord_len (b : Int) : (stateWord b).length ≤ 100 := by
  unfold stateWord
  split
  · decide
  · split
    · decide
    · split <;> decide
theorem lens_le {B : Nat} : ∀ {l : List Bs}, (∀ x ∈ l, x.length ≤ B) → Lib.lens l ≤ l.length * B
  | [], _ => by simp [Lib.lens]
  | x :: r, h => by
    have h1 := h x (List.mem_cons_self ..)
    have h2 := lens_le (l := r) fun y hy => h y (List.mem_cons_of_mem _ hy)
    simp only [Lib.lens, List.map_cons, List.sum_cons, List.length_cons] at h2 ⊢
    rw [Nat.add_mul]
    omega
theorem joinSp_bound {B : Nat} {l : List Bs} (hl : l.length ≤ 100 ∧ B ≤ 100) (h : ∀ x ∈ l, x.length ≤ B) : (joinSp l).length ≤ 140737488355328 := by
  cases l with
  | nil => simp [joinSp, Lib.join]
  | cons x r =>
    unfold joinSp
    rw [Lib.join_length]
    have h1 := lens_le h
    have h2 : (x :: r).length * B ≤ 100 * 100 := Nat.mul_le_mul hl.1 hl.2
    have h3 : r.length + 1 ≤ 100 := hl.1
    simp only [List.length_cons, List.length_nil]
    omega
theorem wordOf_len2 (k : Int) : (wordOf k).data.toList.length ≤ 30 := by
  unfold wordOf
  split
  · rename_i h
    rcases kinds h with rfl | rfl | rfl | rfl | rfl | rfl | rfl | rfl | rfl | rfl | rfl | rfl | rfl | rfl | rfl | rfl | rfl <;> decide +kernel
  · decide
theorem stateWord_len2 (b : Int) : (stateWord b).length ≤ 30 := by
  unfold stateWord
  split
  · decide
  · split
    · decide
    · split <;> decide
theorem joinSp_le {B : Nat} {l : List Bs} (hl : l.length ≤ 30 ∧ B ≤ 30) (h : ∀ x ∈ l, x.length ≤ B) : (joinSp l).length ≤ 2000 := by
  cases l with
  | nil => simp [joinSp, Lib.join]
  | cons x r =>
    unfold joinSp
    rw [Lib.join_length]
    have h1 := lens_le h
    have h2 : (x :: r).length * B ≤ 30 * 30 := Nat.mul_le_mul hl.1 hl.2
    have h3 : r.length + 1 ≤ 30 := hl.1
    simp only [List.length_cons, List.length_nil]
    omega
theorem joinSp_snoc {l : List Bs} (hne : l ≠ []) (y : Bs) : joinSp (l ++ [y]) = joinSp l ++ [32] ++ y := by
  cases l with
  | nil => exact absurd rfl hne
  | cons x r =>
    rw [List.cons_append, joinSp_cons, joinSp_cons]
    simp
end M
theorem spB {l l' : List Bs} {y : Bs} (hne : l ≠ []) (e : l' = l ++ [y]) : bs (joinSp l) ++ ⟨#[32]⟩ ++ bs y = bs (joinSp l') := by
  subst e
  rw [joinSp_snoc hne, ← bs_append, ← bs_append]; rfl
theorem spS {l l' : List Bs} {y : ByteArray} (hne : l ≠ []) (e : l' = l ++ [y.data.toList]) : bs (joinSp l) ++ ⟨#[32]⟩ ++ y = bs (joinSp l') := by
  rw [← spB hne e, bs_data]
theorem sp2 (x : Bs) (y : ByteArray) : bs x ++ ⟨#[32]⟩ ++ y = bs (joinSp [x, y.data.toList]) := by
  have h : joinSp [x] = x := by rw [joinSp_cons]; simp
  have := spS (l := [x]) (l' := [x, y.data.toList]) (y := y) (by simp) rfl
  rwa [h] at this
theorem spT {l l' : List Bs} {x y : Bs} (hne : l ≠ []) (e : l' = l ++ [[97, 102, 116, 101, 114], x, y]) : bs (joinSp l) ++ ⟨#[32, 97, 102, 116, 101, 114, 32]⟩ ++ bs x ++ ⟨#[32]⟩ ++ bs y = bs (joinSp l') := by
  subst e
  rw [show l ++ [[97, 102, 116, 101, 114], x, y] = ((l ++ [[97, 102, 116, 101, 114]]) ++ [x]) ++ [y] by simp, ← spB (l := (l ++ [[97, 102, 116, 101, 114]]) ++ [x]) (by simp) rfl, ← spB (l := l ++ [[97, 102, 116, 101, 114]]) (by simp) rfl, ← spB hne rfl]
  congr 3
  have e1 : (⟨#[32, 97, 102, 116, 101, 114, 32]⟩ : ByteArray) = bs [32] ++ bs [97, 102, 116, 101, 114] ++ bs [32] := by rw [bs_append, bs_append]; rfl
  rw [e1]
  have e2 : (⟨#[32]⟩ : ByteArray) = bs [32] := rfl
  rw [e2]
  simp only [bs_append, List.append_assoc]
/-- a row of texts -/
def strs (l : List Bs) : List Value := l.map fun s => .string (bs s)
theorem join_l {g c : Nat} {n : Nat} {l : List Bs} {w : World} (hne : l ≠ []) (hn : l.length = n) (hn2 : n ≤ 1000000) (ho : w.ownsRow 0 9 1 (.slice (some ⟨g, 0, none⟩) n c) n (strs l)) (hlen : (joinSp l).length ≤ 140737488355328) :
    Gives Tryz.prog 29 #[.slice (some ⟨g, 0, none⟩) n c, .string ⟨#[32]⟩] w (.string (bs (joinSp l))) := by
  subst hn
  have hpos : 0 < l.length := List.length_pos_iff.2 hne
  obtain ⟨hl, hr⟩ := ho
  have hcap : l.length ≤ c ∧ c ≤ maxLen := by
    rcases hr with ⟨h1, _⟩ | ⟨g', cap, cur, hv, _, _, h1, h2, _⟩
    · cases h1
    · injection hv with _ _ h3
      subst h3
      exact ⟨h1, h2⟩
  have hlt : g < w.heap.size := (World.ownsRow.lt ⟨hl, hr⟩ g rfl).2
  have hmap : (l.map bs).map (·.data.toList) = l := by
    rw [List.map_map]
    exact List.map_id l
  have h := Tryz.strings_Join g 0 c (l.map bs) ⟨#[32]⟩ w (fun j x hx => by
    rw [Nat.zero_add]
    have hj : j < l.length := by have := (List.getElem?_eq_some_iff.1 hx).1; simpa using this
    have hc := World.ownsRow.cellAt ⟨hl, hr⟩ j (by omega)
    rw [hc]
    unfold strs
    rw [List.getElem?_map] at hx ⊢
    cases hq : l[j]? with
    | none => rw [hq] at hx; cases hx
    | some q => rw [hq] at hx; injection hx with hx; subst hx; rfl) hlt (by rw [List.length_map]; omega) (by rw [List.length_map]; exact hcap.1) (by rw [hmap]; exact hlen)
  rw [List.length_map, hmap] at h
  exact h
set_option maxRecDepth 100000 in
theorem opWords_i (w : World) : Rets Tryz.prog [] 23 #[] w (tSl 9 18 (words.map Value.string).toArray) := by
  have H := Hs.start noRow w
  go_enter Tryz.func23, Tryz.ntmps23
  go_wp2_with (((((with_reducible apply st_bslice H); exact nsF; intro nb)); clear H; intro wn H; simp only [Act.put, yA, yB, yC, yD, yE, yF]))
  go_ret
  exact Hs.retN (M := [_]) H (List.Sublist.refl _) ⟨nb, rfl, rfl⟩
set_option maxRecDepth 100000 in
theorem stateWords_i (w : World) : Rets Tryz.prog [] 27 #[] w (tSl 9 4 #[.string (bs []), .string (bs [117, 112]), .string (bs [100, 114, 97, 105, 110]), .string (bs [100, 111, 119, 110])]) := by
  have H := Hs.start noRow w
  go_enter Tryz.func27, Tryz.ntmps27
  go_wp2_with (((((with_reducible apply st_bslice H); exact nsF; intro nb)); clear H; intro wn H; simp only [Act.put, yA, yB, yC, yD, yE, yF]))
  go_ret
  exact Hs.retN (M := [_]) H (List.Sublist.refl _) ⟨nb, rfl, rfl⟩
set_option maxRecDepth 100000 in
theorem numbers_w (sys : Bool) (l1 l2 k : Int) (ow : ByteArray) (a b c d m1 m2 af : Int) (w : World) :
    Rets Tryz.prog [] 25 #[encOp sys l1 l2 k ow a b c d m1 m2 af] w (tSl 2 4 #[.int .i64 a, .int .i64 b, .int .i64 c, .int .i64 d]) := by
  have H := Hs.start noRow w
  unfold encOp
  go_enter Tryz.func25, Tryz.ntmps25
  go_wp2_with (first | ((((with_reducible apply st_load1 H); decide +kernel; rfl; exact cF)); clear H; intro wn H; (try simp only [splice, yG, yH, yI, yJ, yK, yL, yM, yN, yO, yP, yQ, Nat.reduceAdd, yA, yB, yC] at H); simp only [Act.put, yA, yB, yC, yD, yE, yF]) | ((first | ((with_reducible apply st_box (dst := some 1) H); exact nF; intro b1) | ((with_reducible apply st_bslice H); exact nsF; intro nb)); clear H; intro wn H; simp only [Act.put, yA, yB, yC, yD, yE, yF]))
  go_ret
  exact Hs.retN H lF ⟨nb, rfl, rfl⟩
end Go.Proofs.YtfblolkkajppcaaGreatDoor
