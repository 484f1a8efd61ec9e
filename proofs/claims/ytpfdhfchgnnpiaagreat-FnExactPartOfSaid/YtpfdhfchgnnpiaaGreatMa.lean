/-
  The audit of mail, in the reference and in the program: the walks.
-/
import Derived.Test.YtpfdhfchgnnpiaaGreatG9
set_option linter.unusedSimpArgs false
set_option linter.unusedVariables false
namespace Go.Proofs.YtpfdhfchgnnpiaaGreat
open Go.RowKit M
theorem rd_two {w : World} {g : Nat} {t E : TypeId} {x y : Int} (h : Blk w g t #[.int .i64 x, .int .i64 y]) : (Ty.sl E tyNum).rd w [.slice (some ⟨g, 0, none⟩) 2 2] [x, y] := by
  refine ⟨_, [.int .i64 x, .int .i64 y], rfl, ⟨rfl, some ⟨g, 0, none⟩, 2, rfl, Nat.le_refl _, by unfold maxLen; omega, fun _ => ⟨g, 0, rfl, At.blk h fun j u hu => ?_⟩⟩, ?_⟩
  · rw [Nat.zero_add, ← hu]
    match j with
    | 0 => rfl
    | 1 => rfl
    | j + 2 => rfl
  · exact .cons (cs := [.int .i64 x]) rfl (.cons (cs := [.int .i64 y]) rfl .nil)
set_option maxRecDepth 100000 in
set_option maxHeartbeats 4000000 in
theorem putNums_i (v : Value) (l : List Int) (hl : l.length ≤ 100) (hb : ∀ x ∈ l, bd x) (w : World) (hr : (Ty.sl 2 tyNum).rd w [v] l) : Gives Tryz.prog 52 #[v] w (.string (bs (l.map putNum).flatten)) := by
  obtain ⟨A, c, rfl, hlc, hcm⟩ := sl_form hr
  have HR := Lib.hid hr
  have HB := Lib.hid hb
  obtain ⟨n, hn⟩ : ∃ n, n = l.length := ⟨_, rfl⟩
  rw [← hn] at HR hl ⊢
  have HN := Lib.hid hn
  obtain ⟨f, hf⟩ : ∃ f : Nat → Bs, f = fun i => ((l[i]?).map putNum).getD [] := ⟨_, rfl⟩
  have HF := Lib.hid hf
  have hfl : ∀ i, (f i).length ≤ 11 := fun i => by
    rw [hf]
    simp only
    cases l[i]? with
    | none => simp
    | some x => exact (putNum_length x).2
  have hfin : (l.map putNum).flatten = catTo f n := by
    unfold catTo
    congr 1
    apply List.ext_getElem?
    intro i
    rw [List.getElem?_map, List.getElem?_map, hf]
    by_cases hi : i < n
    · rw [List.getElem?_range hi, List.getElem?_eq_getElem (show i < l.length by omega)]
      simp [List.getElem?_eq_getElem (show i < l.length by omega)]
    · rw [List.getElem?_eq_none (by omega), List.getElem?_eq_none (by simp; omega)]
      rfl
  have HL := Lib.hid hfl
  rw [hfin]
  obtain ⟨tz, htz⟩ : ∃ t, t = bs (catTo f n) := ⟨_, rfl⟩
  rw [← htz]
  have HZ := Lib.hid htz
  clear hr hn hb hlc hcm hf hfl hfin htz
  have H := Hs.start noRow w
  unfold Gives
  go_enter Tryz.func52, Tryz.ntmps52
  go_wp2_with (fail)
  go_loopg [3, 8] n (fun m tv iv wr => ∃ (i : Nat) (t : ByteArray), i + m = n ∧ iv = .int .i64 i ∧ tv = .string t ∧ Hid (t = bs (catTo f i)) ∧ Hs noRow w [] wr)
  case atStart => exact ⟨0, _, by omega, rfl, rfl, Lib.hid rfl, H⟩
  case round =>
    clear H
    obtain ⟨i, t, hi, rfl, rfl, HT, H⟩ := hrel
    by_cases hlt : i < n
    · obtain ⟨x, hx⟩ : ∃ x, l[i]? = some x := ⟨l[i]'(by rw [← HN.out]; exact hlt), List.getElem?_eq_getElem (by rw [← HN.out]; exact hlt)⟩
      have hs := sl_at (by have := HR.out; rw [HN.out] at this; exact this) hx
      rw [← HN.out] at hs
      obtain ⟨b, off, c', cs, hv, hcs, hA⟩ := hs
      injection hv with hv1 hv2 hv3
      subst hv1 hv3
      obtain rfl : cs = encNum x := hcs
      have h0 : w.cell? ⟨b, off + i, none⟩ = some (.int .i64 x) := by have h := hA.head (u := .int .i64 x) rfl; rw [show i * tyNum.s = i from Nat.mul_one i] at h; exact h
      have c1 := fun w1 => putNum_i x (HB.out x (List.mem_of_getElem? hx)) w1
      have hfi : f i = putNum x := by rw [HF.out]; simp only [hx]; rfl
      obtain ⟨q, hq⟩ : ∃ q, q = bs (putNum x) := ⟨_, rfl⟩
      rw [← hq] at c1
      have hqs : q.size ≤ 11 := by rw [hq]; exact (putNum_length x).2
      have hts : t.size ≤ 1100 := by rw [HT.out, zsize_bs]; have := catTo_len HL.out i; omega
      have HT2 : Hid (t ++ q = bs (catTo f (i + 1))) := Lib.hid (by rw [HT.out, hq, bs_append, catTo_succ, hfi])
      have hlt1 : (i : Int) < n := by omega
      clear hx hv2 hA hfi hq
      go_wp2_with (first | ((((with_reducible apply st_load1 H); decide +kernel; rfl; exact cF)); clear H; intro wn H; (try simp only [splice, yG, yH, yI, yJ, yK, yL, yM, yN, yO, yP, yQ, Nat.reduceAdd, yA, yB, yC] at H); simp only [Act.put, yA, yB, yC, yD, yE, yF]) | (((go_at_call 51; refine gvF (c1 _) H ?_)); clear H; intro wn H))
      go_roundg (n - (i + 1))
      case measure => omega
      case rel => exact ⟨i + 1, _, by omega, by go_num, rfl, HT2, H⟩
    · obtain rfl : i = n := by omega
      have hlt1 : ¬ (i : Int) < i := by omega
      go_wp2_with (fail)
      go_ret
      exact ⟨by rw [HZ.out, HT.out]; rfl, H.below⟩
theorem putNums_two (x y : Int) (q : ByteArray) (hq : q = bs (putNum x ++ putNum y)) (hx : bd x) (hy : bd y) (g t : Nat) (w : World) (hb : Blk w g t #[.int .i64 x, .int .i64 y]) : Gives Tryz.prog 52 #[.slice (some ⟨g, 0, none⟩) 2 2] w (.string q) := by
  have h := putNums_i _ [x, y] (by simp) (by intro z hz; simp only [List.mem_cons, List.not_mem_nil, or_false] at hz; rcases hz with rfl | rfl <;> assumption) w (rd_two hb)
  rw [hq]
  simpa using h
end Go.Proofs.YtpfdhfchgnnpiaaGreat
