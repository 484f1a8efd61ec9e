import Derived.Test.YtnehiflandjkoaaB2
set_option linter.unusedSimpArgs false
set_option linter.unusedVariables false
namespace Go.Proofs.Ytnehiflandjkoaa
open Go.RowKit M

theorem isTime_i (n : Int) (w : World) : Gives Try.prog 76 #[.int .i64 n] w (.bool (isTime n)) := by
  unfold Gives
  go_enter Try.func76, Try.ntmps76
  go_wp2_with (go_at_call 65; refine (within_i _ _ _ _).use.mono ?_; rintro e w1 ⟨rfl, hb1⟩)
  go_ret
  exact ⟨rfl, hb1⟩
theorem isTime_s (n : Int) (w : World) : Gives Try.prog 82 #[.int .i64 n] w (.bool (isTime n)) := by
  unfold Gives
  go_enter Try.func82, Try.ntmps82
  go_wp2_with (go_at_call 68; refine (is_s _ _ _ _).use.mono ?_; rintro e w1 ⟨rfl, hb1⟩)
  go_ret
  exact ⟨rfl, hb1⟩
theorem isLong_i (s : ByteArray) (w : World) : Gives Try.prog 55 #[.string s] w (.bool (decide (8000 < s.size))) := by
  unfold Gives
  go_enter Try.func55, Try.ntmps55
  go_wp2
  go_ret
  refine ⟨?_, Below.refl _ _⟩
  show Ending.returned (Value.bool (decide ((8000 : Int) < s.size))) = _
  rw [decide_eq_decide.2 (by omega : (8000 : Int) < s.size ↔ 8000 < s.size)]

theorem sumOf_i (s : ByteArray) (hs : s.size ≤ maxLen) (w : World) : Gives Try.prog 78 #[.string s] w (.string (bs (crcFour s.data.toList))) := by
  unfold Gives
  go_enter Try.func78, Try.ntmps78
  go_wp2_with (first
    | (go_at_call 87; refine (sumMore_i 0 (by omega) _ _ hs).use.mono ?_; rintro e w1 ⟨rfl, hb1⟩)
    | (go_at_call 41; refine (four_i _ _).use.mono ?_; rintro e w2 ⟨rfl, hb2⟩))
  go_ret
  exact ⟨rfl, hb1.trans (hb2.mono hb1.size)⟩

theorem seal_i (s : ByteArray) (hs : s.size ≤ maxLen) (w : World) : Gives Try.prog 40 #[.string s] w (.string (bs (seal_ s.data.toList))) := by
  unfold Gives
  have hsz := size_data s
  by_cases h : s.size ≤ 7996
  · have HS : Hid (seal_ s.data.toList = s.data.toList ++ crcFour s.data.toList) := by unfold seal_; rw [if_pos (by omega)]; exact Lib.hid rfl
    have h' : ¬ (7996 : Int) < s.size := by omega
    clear hsz
    go_enter Try.func40, Try.ntmps40
    go_wp2_with (go_at_call 78; refine (sumOf_i _ hs _).use.mono ?_; rintro e w1 ⟨rfl, hb1⟩)
    go_ret
    refine ⟨?_, hb1⟩
    rw [HS.out, ← bs_append, bs_data]; rfl
  · have HS : Hid (seal_ s.data.toList = []) := by unfold seal_; rw [if_neg (by omega)]; exact Lib.hid rfl
    have h' : (7996 : Int) < s.size := by omega
    clear hsz
    go_enter Try.func40, Try.ntmps40
    go_wp2
    go_ret
    exact ⟨by rw [HS.out]; rfl, Below.refl _ _⟩
theorem seal_s (s : ByteArray) (hs : s.size ≤ maxLen) (w : World) : Gives Try.prog 47 #[.string s] w (.string (bs (seal_ s.data.toList))) := by
  unfold Gives
  have hsz := size_data s
  by_cases h : s.size ≤ 7996
  · have HS : Hid (seal_ s.data.toList = s.data.toList ++ crcFour s.data.toList) := by unfold seal_; rw [if_pos (by omega)]; exact Lib.hid rfl
    have h' : ¬ (7996 : Int) < s.size := by omega
    clear hsz
    go_enter Try.func47, Try.ntmps47
    go_wp2_with (first
      | (go_at_call 79; refine (crc_s 0 (by omega) _ _ hs).use.mono ?_; rintro e w1 ⟨rfl, hb1⟩)
      | (go_at_call 51; refine (four_s _ _).use.mono ?_; rintro e w2 ⟨rfl, hb2⟩))
    go_ret
    refine ⟨?_, hb1.trans (hb2.mono hb1.size)⟩
    rw [HS.out, ← bs_append, bs_data]; rfl
  · have HS : Hid (seal_ s.data.toList = []) := by unfold seal_; rw [if_neg (by omega)]; exact Lib.hid rfl
    have h' : (7996 : Int) < s.size := by omega
    clear hsz
    go_enter Try.func47, Try.ntmps47
    go_wp2
    go_ret
    exact ⟨by rw [HS.out]; rfl, Below.refl _ _⟩

theorem putText_i (s : ByteArray) (hs : s.size ≤ maxLen) (w : World) : Gives Try.prog 39 #[.string s] w (.string (bs (putText s.data.toList))) := by
  unfold Gives
  have hsz := size_data s
  by_cases h : s.size ≤ 8000
  · have HS : Hid (putText s.data.toList = putNum s.size ++ s.data.toList) := by unfold putText; rw [if_pos (by omega), hsz]; exact Lib.hid rfl
    have h' : decide (8000 < s.size) = false := by simp; omega
    have hpl := (putNum_length s.size).2
    clear hsz
    go_enter Try.func39, Try.ntmps39
    go_wp2_with (first
      | (go_at_call 55; refine (isLong_i _ _).use.mono ?_; rintro e w1 ⟨rfl, hb1⟩)
      | (go_at_call 77; refine (putNum_i _ (by omega) _).use.mono ?_; rintro e w2 ⟨rfl, hb2⟩))
    go_ret
    refine ⟨?_, hb1.trans (hb2.mono hb1.size)⟩
    rw [HS.out, ← bs_append, bs_data]; rfl
  · have HS : Hid (putText s.data.toList = []) := by unfold putText; rw [if_neg (by omega)]; exact Lib.hid rfl
    have h' : decide (8000 < s.size) = true := by simp; omega
    clear hsz
    go_enter Try.func39, Try.ntmps39
    go_wp2_with (go_at_call 55; refine (isLong_i _ _).use.mono ?_; rintro e w1 ⟨rfl, hb1⟩)
    go_ret
    exact ⟨by rw [HS.out]; rfl, hb1⟩
theorem putText_s (s : ByteArray) (hs : s.size ≤ maxLen) (w : World) : Gives Try.prog 46 #[.string s] w (.string (bs (putText s.data.toList))) := by
  unfold Gives
  have hsz := size_data s
  by_cases h : s.size ≤ 8000
  · have HS : Hid (putText s.data.toList = putNum s.size ++ s.data.toList) := by unfold putText; rw [if_pos (by omega), hsz]; exact Lib.hid rfl
    have h' : ¬ (8000 : Int) < s.size := by omega
    have hpl := (putNum_length s.size).2
    clear hsz
    go_enter Try.func46, Try.ntmps46
    go_wp2_with (go_at_call 81; refine (putNum_s _ (by omega) _).use.mono ?_; rintro e w2 ⟨rfl, hb2⟩)
    go_ret
    refine ⟨?_, hb2⟩
    rw [HS.out, ← bs_append, bs_data]; rfl
  · have HS : Hid (putText s.data.toList = []) := by unfold putText; rw [if_neg (by omega)]; exact Lib.hid rfl
    have h' : (8000 : Int) < s.size := by omega
    clear hsz
    go_enter Try.func46, Try.ntmps46
    go_wp2
    go_ret
    exact ⟨by rw [HS.out]; rfl, Below.refl _ _⟩

theorem frameRight_i (q : Int) (t : ByteArray) (w : World) : Gives Try.prog 38 #[.agg #[.int .i64 q, .string t]] w (.bool (frameOk q t.data.toList)) := by
  unfold Gives
  have hd : decide ((t.size : Int) ≤ 2980) = decide (t.data.toList.length ≤ 2980) := by rw [size_data, decide_eq_decide]; omega
  cases hq : isTime q
  · have HQ : Hid (frameOk q t.data.toList = false) := by unfold frameOk; rw [hq]; exact Lib.hid rfl
    have hq' := Lib.hid hq
    clear hq hd
    go_enter Try.func38, Try.ntmps38
    go_wp2_with (go_at_call 76; refine (isTime_i _ _).use.mono ?_; rw [hq'.out]; rintro e w1 ⟨rfl, hb1⟩)
    go_ret
    refine ⟨by rw [HQ.out]; rfl, ?_⟩
    exact ((Below.refl _ _).alloc (Nat.le_refl _) _).trans (hb1.mono (by simp))
  · have HQ : Hid (frameOk q t.data.toList = decide ((t.size : Int) ≤ 2980)) := by unfold frameOk; rw [hq, hd]; exact Lib.hid rfl
    have hq' := Lib.hid hq
    clear hq hd
    go_enter Try.func38, Try.ntmps38
    go_wp2_with (go_at_call 76; refine (isTime_i _ _).use.mono ?_; rw [hq'.out]; rintro e w1 ⟨rfl, hb1⟩; obtain ⟨hc, hf⟩ := bcell hb1)
    go_ret
    refine ⟨by rw [HQ.out]; rfl, ?_⟩
    exact ((Below.refl _ _).alloc (Nat.le_refl _) _).trans (hb1.mono (by simp))

theorem frameRight_s (q : Int) (t : ByteArray) (w : World) : Gives Try.prog 50 #[.agg #[.int .i64 q, .string t]] w (.bool (frameOk q t.data.toList)) := by
  unfold Gives
  have hd : decide ((t.size : Int) ≤ 2980) = decide (t.data.toList.length ≤ 2980) := by rw [size_data, decide_eq_decide]; omega
  cases hq : isTime q
  · have HQ : Hid (frameOk q t.data.toList = false) := by unfold frameOk; rw [hq]; exact Lib.hid rfl
    have hq' := Lib.hid hq
    clear hq hd
    go_enter Try.func50, Try.ntmps50
    go_wp2_with (go_at_call 82; refine (isTime_s _ _).use.mono ?_; rw [hq'.out]; rintro e w1 ⟨rfl, hb1⟩)
    go_ret
    refine ⟨by rw [HQ.out]; rfl, ?_⟩
    exact ((Below.refl _ _).alloc (Nat.le_refl _) _).trans (hb1.mono (by simp))
  · have HQ : Hid (frameOk q t.data.toList = decide ((t.size : Int) ≤ 2980)) := by unfold frameOk; rw [hq, hd]; exact Lib.hid rfl
    have hq' := Lib.hid hq
    clear hq hd
    go_enter Try.func50, Try.ntmps50
    go_wp2_with (go_at_call 82; refine (isTime_s _ _).use.mono ?_; rw [hq'.out]; rintro e w1 ⟨rfl, hb1⟩; obtain ⟨hc, hf⟩ := bcell hb1)
    go_ret
    refine ⟨by rw [HQ.out]; rfl, ?_⟩
    exact ((Below.refl _ _).alloc (Nat.le_refl _) _).trans (hb1.mono (by simp))

theorem frameBytes_i (q : Int) (t : ByteArray) (w : World) : Gives Try.prog 7 #[.agg #[.int .i64 q, .string t]] w (.string (bs (frameBytes q t.data.toList))) := by
  unfold Gives
  cases hq : frameOk q t.data.toList
  · have HQ : Hid (frameBytes q t.data.toList = []) := by unfold frameBytes; rw [hq]; exact Lib.hid rfl
    have hq' := Lib.hid hq
    clear hq
    go_enter Try.func7, Try.ntmps7
    go_wp2_with (go_at_call 38; refine (frameRight_i _ _ _).use.mono ?_; rw [hq'.out]; rintro e w1 ⟨rfl, hb1⟩)
    go_ret
    refine ⟨by rw [HQ.out]; rfl, ?_⟩
    exact ((Below.refl _ _).alloc (Nat.le_refl _) _).trans (hb1.mono (by simp))
  · have HQ : Hid (frameBytes q t.data.toList = putText (seal_ (four q ++ t.data.toList))) := by unfold frameBytes; rw [hq]; exact Lib.hid rfl
    have hsz := size_data t
    have ht : t.size ≤ 2980 := by
      unfold frameOk at hq
      simp at hq
      omega
    have hsl := seal_length (four q ++ t.data.toList)
    rw [List.length_append, four_length, hsz] at hsl
    have hq' := Lib.hid hq
    clear hq hsz
    go_enter Try.func7, Try.ntmps7
    go_wp2_with (go_at_call 38; refine (frameRight_i _ _ _).use.mono ?_; rw [hq'.out]; rintro e w1 ⟨rfl, hb1⟩; obtain ⟨hc, hf⟩ := bcell hb1)
    have g0 : ∀ x : Later w1, x.now.cell? ⟨w.heap.size, 0, none⟩ = some (.int .i64 q) := fun x => by
      have hs1 := hb1.size
      rw [x.ok.cell (p := ⟨w.heap.size, 0, none⟩) (by simp at hs1 ⊢; omega), hc _ _ (by simp)]
      simp [World.cell?_alloc_new]
    have g1 : ∀ x : Later w1, x.now.cell? ⟨w.heap.size, 1, none⟩ = some (.string t) := fun x => by
      have hs1 := hb1.size
      rw [x.ok.cell (p := ⟨w.heap.size, 1, none⟩) (by simp at hs1 ⊢; omega), hc _ _ (by simp)]
      simp [World.cell?_alloc_new]
    refine wp_region_later (by kernel_rfl) (by kernel_rfl) ?_
    repeat (go_big_quiet_step (first
      | (go_at_call 41; exact Gives.later _ (four_i _ _))
      | (go_at_call 40; exact Gives.later _ (seal_i _ (by simp [go_sem, maxLen]; omega) _))
      | (go_at_call 39; exact Gives.later _ (putText_i _ (by simp only [go_sem, maxLen]; omega) _))))
    refine wpQuiet_nil ?_
    rintro _ ⟨x, rfl⟩
    have hx := x.ok
    go_wp2
    go_ret
    exact ⟨by rw [HQ.out]; rfl, bthen (bnew _ _) (bthen hb1 hx)⟩
theorem frameBytes_s (q : Int) (t : ByteArray) (w : World) : Gives Try.prog 9 #[.agg #[.int .i64 q, .string t]] w (.string (bs (frameBytes q t.data.toList))) := by
  unfold Gives
  cases hq : frameOk q t.data.toList
  · have HQ : Hid (frameBytes q t.data.toList = []) := by unfold frameBytes; rw [hq]; exact Lib.hid rfl
    have hq' := Lib.hid hq
    clear hq
    go_enter Try.func9, Try.ntmps9
    go_wp2_with (go_at_call 50; refine (frameRight_s _ _ _).use.mono ?_; rw [hq'.out]; rintro e w1 ⟨rfl, hb1⟩)
    go_ret
    refine ⟨by rw [HQ.out]; rfl, ?_⟩
    exact ((Below.refl _ _).alloc (Nat.le_refl _) _).trans (hb1.mono (by simp))
  · have HQ : Hid (frameBytes q t.data.toList = putText (seal_ (four q ++ t.data.toList))) := by unfold frameBytes; rw [hq]; exact Lib.hid rfl
    have hsz := size_data t
    have ht : t.size ≤ 2980 := by
      unfold frameOk at hq
      simp at hq
      omega
    have hsl := seal_length (four q ++ t.data.toList)
    rw [List.length_append, four_length, hsz] at hsl
    have hq' := Lib.hid hq
    clear hq hsz
    go_enter Try.func9, Try.ntmps9
    go_wp2_with (go_at_call 50; refine (frameRight_s _ _ _).use.mono ?_; rw [hq'.out]; rintro e w1 ⟨rfl, hb1⟩; obtain ⟨hc, hf⟩ := bcell hb1)
    have g0 : ∀ x : Later w1, x.now.cell? ⟨w.heap.size, 0, none⟩ = some (.int .i64 q) := fun x => by
      have hs1 := hb1.size
      rw [x.ok.cell (p := ⟨w.heap.size, 0, none⟩) (by simp at hs1 ⊢; omega), hc _ _ (by simp)]
      simp [World.cell?_alloc_new]
    have g1 : ∀ x : Later w1, x.now.cell? ⟨w.heap.size, 1, none⟩ = some (.string t) := fun x => by
      have hs1 := hb1.size
      rw [x.ok.cell (p := ⟨w.heap.size, 1, none⟩) (by simp at hs1 ⊢; omega), hc _ _ (by simp)]
      simp [World.cell?_alloc_new]
    refine wp_region_later (by kernel_rfl) (by kernel_rfl) ?_
    repeat (go_big_quiet_step (first
      | (go_at_call 51; exact Gives.later _ (four_s _ _))
      | (go_at_call 47; exact Gives.later _ (seal_s _ (by simp [go_sem, maxLen]; omega) _))
      | (go_at_call 46; exact Gives.later _ (putText_s _ (by simp only [go_sem, maxLen]; omega) _))))
    refine wpQuiet_nil ?_
    rintro _ ⟨x, rfl⟩
    have hx := x.ok
    go_wp2
    go_ret
    exact ⟨by rw [HQ.out]; rfl, bthen (bnew _ _) (bthen hb1 hx)⟩

/-! ### the statement's own helpers -/
end Go.Proofs.Ytnehiflandjkoaa
