import Derived.Test.YtoggdaiibmjkkaaB2
namespace Go.Proofs.Ytoggdaiibmjkkaa
open Go.RowKit M

theorem isTime_i (n : Int) (w : World) : Gives Try.prog 72 #[.int .i64 n] w (.bool (isTime n)) := by
  unfold Gives
  go_enter Try.func72, Try.ntmps72
  go_wp2_with (go_at_call 32; refine (within_i _ _ _ _).use.mono ?_; rintro e w1 ⟨rfl, hb1⟩)
  go_ret
  exact ⟨rfl, hb1⟩
theorem isTime_s (n : Int) (w : World) : Gives Try.prog 69 #[.int .i64 n] w (.bool (isTime n)) := by
  unfold Gives
  go_enter Try.func69, Try.ntmps69
  go_wp2_with (go_at_call 31; refine (is_s _ _ _ _).use.mono ?_; rintro e w1 ⟨rfl, hb1⟩)
  go_ret
  exact ⟨rfl, hb1⟩
theorem isLong_i (s : ByteArray) (w : World) : Gives Try.prog 73 #[.string s] w (.bool (decide (8000 < s.size))) := by
  unfold Gives
  go_enter Try.func73, Try.ntmps73
  go_wp2
  go_ret
  refine ⟨?_, Below.refl _ _⟩
  show Ending.returned (Value.bool (decide ((8000 : Int) < s.size))) = _
  rw [decide_eq_decide.2 (by omega : (8000 : Int) < s.size ↔ 8000 < s.size)]

theorem sumOf_i (s : ByteArray) (hs : s.size ≤ maxLen) (w : World) : Gives Try.prog 75 #[.string s] w (.string (bs (crcFour s.data.toList))) := by
  unfold Gives
  go_enter Try.func75, Try.ntmps75
  go_wp2_with (first
    | (go_at_call 82; refine (sumMore_i 0 (by omega) _ _ hs).use.mono ?_; rintro e w1 ⟨rfl, hb1⟩)
    | (go_at_call 43; refine (four_i _ _).use.mono ?_; rintro e w2 ⟨rfl, hb2⟩))
  go_ret
  exact ⟨rfl, hb1.trans (hb2.mono hb1.size)⟩

theorem seal_i (s : ByteArray) (hs : s.size ≤ maxLen) (w : World) : Gives Try.prog 42 #[.string s] w (.string (bs (seal_ s.data.toList))) := by
  unfold Gives
  have hsz := size_data s
  by_cases h : s.size ≤ 7996
  · have HS : Hid (seal_ s.data.toList = s.data.toList ++ crcFour s.data.toList) := by unfold seal_; rw [if_pos (by omega)]; exact Lib.hid rfl
    have h' : ¬ (7996 : Int) < s.size := by omega
    clear hsz
    go_enter Try.func42, Try.ntmps42
    go_wp2_with (go_at_call 75; refine (sumOf_i _ hs _).use.mono ?_; rintro e w1 ⟨rfl, hb1⟩)
    go_ret
    refine ⟨?_, hb1⟩
    rw [HS.out, ← bs_append, bs_data]; rfl
  · have HS : Hid (seal_ s.data.toList = []) := by unfold seal_; rw [if_neg (by omega)]; exact Lib.hid rfl
    have h' : (7996 : Int) < s.size := by omega
    clear hsz
    go_enter Try.func42, Try.ntmps42
    go_wp2
    go_ret
    exact ⟨by rw [HS.out]; rfl, Below.refl _ _⟩
theorem seal_s (s : ByteArray) (hs : s.size ≤ maxLen) (w : World) : Gives Try.prog 38 #[.string s] w (.string (bs (seal_ s.data.toList))) := by
  unfold Gives
  have hsz := size_data s
  by_cases h : s.size ≤ 7996
  · have HS : Hid (seal_ s.data.toList = s.data.toList ++ crcFour s.data.toList) := by unfold seal_; rw [if_pos (by omega)]; exact Lib.hid rfl
    have h' : ¬ (7996 : Int) < s.size := by omega
    clear hsz
    go_enter Try.func38, Try.ntmps38
    go_wp2_with (first
      | (go_at_call 71; refine (crc_s 0 (by omega) _ _ hs).use.mono ?_; rintro e w1 ⟨rfl, hb1⟩)
      | (go_at_call 39; refine (four_s _ _).use.mono ?_; rintro e w2 ⟨rfl, hb2⟩))
    go_ret
    refine ⟨?_, hb1.trans (hb2.mono hb1.size)⟩
    rw [HS.out, ← bs_append, bs_data]; rfl
  · have HS : Hid (seal_ s.data.toList = []) := by unfold seal_; rw [if_neg (by omega)]; exact Lib.hid rfl
    have h' : (7996 : Int) < s.size := by omega
    clear hsz
    go_enter Try.func38, Try.ntmps38
    go_wp2
    go_ret
    exact ⟨by rw [HS.out]; rfl, Below.refl _ _⟩

theorem putText_i (s : ByteArray) (hs : s.size ≤ maxLen) (w : World) : Gives Try.prog 41 #[.string s] w (.string (bs (putText s.data.toList))) := by
  unfold Gives
  have hsz := size_data s
  by_cases h : s.size ≤ 8000
  · have HS : Hid (putText s.data.toList = putNum s.size ++ s.data.toList) := by unfold putText; rw [if_pos (by omega), hsz]; exact Lib.hid rfl
    have h' : decide (8000 < s.size) = false := by simp; omega
    have hpl := (putNum_length s.size).2
    clear hsz
    go_enter Try.func41, Try.ntmps41
    go_wp2_with (first
      | (go_at_call 73; refine (isLong_i _ _).use.mono ?_; rintro e w1 ⟨rfl, hb1⟩)
      | (go_at_call 74; refine (putNum_i _ (by omega) _).use.mono ?_; rintro e w2 ⟨rfl, hb2⟩))
    go_ret
    refine ⟨?_, hb1.trans (hb2.mono hb1.size)⟩
    rw [HS.out, ← bs_append, bs_data]; rfl
  · have HS : Hid (putText s.data.toList = []) := by unfold putText; rw [if_neg (by omega)]; exact Lib.hid rfl
    have h' : decide (8000 < s.size) = true := by simp; omega
    clear hsz
    go_enter Try.func41, Try.ntmps41
    go_wp2_with (go_at_call 73; refine (isLong_i _ _).use.mono ?_; rintro e w1 ⟨rfl, hb1⟩)
    go_ret
    exact ⟨by rw [HS.out]; rfl, hb1⟩
theorem putText_s (s : ByteArray) (hs : s.size ≤ maxLen) (w : World) : Gives Try.prog 37 #[.string s] w (.string (bs (putText s.data.toList))) := by
  unfold Gives
  have hsz := size_data s
  by_cases h : s.size ≤ 8000
  · have HS : Hid (putText s.data.toList = putNum s.size ++ s.data.toList) := by unfold putText; rw [if_pos (by omega), hsz]; exact Lib.hid rfl
    have h' : ¬ (8000 : Int) < s.size := by omega
    have hpl := (putNum_length s.size).2
    clear hsz
    go_enter Try.func37, Try.ntmps37
    go_wp2_with (go_at_call 70; refine (putNum_s _ (by omega) _).use.mono ?_; rintro e w2 ⟨rfl, hb2⟩)
    go_ret
    refine ⟨?_, hb2⟩
    rw [HS.out, ← bs_append, bs_data]; rfl
  · have HS : Hid (putText s.data.toList = []) := by unfold putText; rw [if_neg (by omega)]; exact Lib.hid rfl
    have h' : (8000 : Int) < s.size := by omega
    clear hsz
    go_enter Try.func37, Try.ntmps37
    go_wp2
    go_ret
    exact ⟨by rw [HS.out]; rfl, Below.refl _ _⟩

theorem frameRight_i (q : Int) (t : ByteArray) (w : World) : Gives Try.prog 40 #[.agg #[.int .i64 q, .string t]] w (.bool (frameOk q t.data.toList)) := by
  unfold Gives
  have hd : decide ((t.size : Int) ≤ 2980) = decide (t.data.toList.length ≤ 2980) := by rw [size_data, decide_eq_decide]; omega
  cases hq : isTime q
  · have HQ : Hid (frameOk q t.data.toList = false) := by unfold frameOk; rw [hq]; exact Lib.hid rfl
    have hq' := Lib.hid hq
    clear hq hd
    go_enter Try.func40, Try.ntmps40
    go_wp2_with (go_at_call 72; refine (isTime_i _ _).use.mono ?_; rw [hq'.out]; rintro e w1 ⟨rfl, hb1⟩)
    go_ret
    refine ⟨by rw [HQ.out]; rfl, ?_⟩
    exact ((Below.refl _ _).alloc (Nat.le_refl _) _).trans (hb1.mono (by simp))
  · have HQ : Hid (frameOk q t.data.toList = decide ((t.size : Int) ≤ 2980)) := by unfold frameOk; rw [hq, hd]; exact Lib.hid rfl
    have hq' := Lib.hid hq
    clear hq hd
    go_enter Try.func40, Try.ntmps40
    go_wp2_with (go_at_call 72; refine (isTime_i _ _).use.mono ?_; rw [hq'.out]; rintro e w1 ⟨rfl, hb1⟩; obtain ⟨hc, hf⟩ := bcell hb1)
    go_ret
    refine ⟨by rw [HQ.out]; rfl, ?_⟩
    exact ((Below.refl _ _).alloc (Nat.le_refl _) _).trans (hb1.mono (by simp))

theorem frameRight_s (q : Int) (t : ByteArray) (w : World) : Gives Try.prog 36 #[.agg #[.int .i64 q, .string t]] w (.bool (frameOk q t.data.toList)) := by
  unfold Gives
  have hd : decide ((t.size : Int) ≤ 2980) = decide (t.data.toList.length ≤ 2980) := by rw [size_data, decide_eq_decide]; omega
  cases hq : isTime q
  · have HQ : Hid (frameOk q t.data.toList = false) := by unfold frameOk; rw [hq]; exact Lib.hid rfl
    have hq' := Lib.hid hq
    clear hq hd
    go_enter Try.func36, Try.ntmps36
    go_wp2_with (go_at_call 69; refine (isTime_s _ _).use.mono ?_; rw [hq'.out]; rintro e w1 ⟨rfl, hb1⟩)
    go_ret
    refine ⟨by rw [HQ.out]; rfl, ?_⟩
    exact ((Below.refl _ _).alloc (Nat.le_refl _) _).trans (hb1.mono (by simp))
  · have HQ : Hid (frameOk q t.data.toList = decide ((t.size : Int) ≤ 2980)) := by unfold frameOk; rw [hq, hd]; exact Lib.hid rfl
    have hq' := Lib.hid hq
    clear hq hd
    go_enter Try.func36, Try.ntmps36
    go_wp2_with (go_at_call 69; refine (isTime_s _ _).use.mono ?_; rw [hq'.out]; rintro e w1 ⟨rfl, hb1⟩; obtain ⟨hc, hf⟩ := bcell hb1)
    go_ret
    refine ⟨by rw [HQ.out]; rfl, ?_⟩
    exact ((Below.refl _ _).alloc (Nat.le_refl _) _).trans (hb1.mono (by simp))

theorem frameBytes_i (q : Int) (t : ByteArray) (w : World) : Gives Try.prog 17 #[.agg #[.int .i64 q, .string t]] w (.string (bs (frameBytes q t.data.toList))) := by
  unfold Gives
  cases hq : frameOk q t.data.toList
  · have HQ : Hid (frameBytes q t.data.toList = []) := by unfold frameBytes; rw [hq]; exact Lib.hid rfl
    have hq' := Lib.hid hq
    clear hq
    go_enter Try.func17, Try.ntmps17
    go_wp2_with (go_at_call 40; refine (frameRight_i _ _ _).use.mono ?_; rw [hq'.out]; rintro e w1 ⟨rfl, hb1⟩)
    go_ret
    refine ⟨by rw [HQ.out]; rfl, ?_⟩
    exact ((Below.refl _ _).alloc (Nat.le_refl _) _).trans (hb1.mono (by simp))
  · have HQ : Hid (frameBytes q t.data.toList = putText (seal_ (four q ++ t.data.toList))) := by unfold frameBytes; rw [hq]; exact Lib.hid rfl
    have hsz := size_data t
    have ht : t.size ≤ 2980 := by
      unfold frameOk at hq
      simp at hq
      omega
    have hsl := seal_length (four q ++ t.data.toList)
    rw [List.length_append, four_length, hsz] at hsl
    have hq' := Lib.hid hq
    clear hq hsz
    go_enter Try.func17, Try.ntmps17
    go_wp2_with (go_at_call 40; refine (frameRight_i _ _ _).use.mono ?_; rw [hq'.out]; rintro e w1 ⟨rfl, hb1⟩; obtain ⟨hc, hf⟩ := bcell hb1)
    have g0 : ∀ x : Later w1, x.now.cell? ⟨w.heap.size, 0, none⟩ = some (.int .i64 q) := fun x => by
      have hs1 := hb1.size
      rw [x.ok.cell (p := ⟨w.heap.size, 0, none⟩) (by simp at hs1 ⊢; omega), hc _ _ (by simp)]
      simp [World.cell?_alloc_new]
    have g1 : ∀ x : Later w1, x.now.cell? ⟨w.heap.size, 1, none⟩ = some (.string t) := fun x => by
      have hs1 := hb1.size
      rw [x.ok.cell (p := ⟨w.heap.size, 1, none⟩) (by simp at hs1 ⊢; omega), hc _ _ (by simp)]
      simp [World.cell?_alloc_new]
    refine wp_region_later (by kernel_rfl) (by kernel_rfl) ?_
    repeat (go_big_quiet_step (first
      | (go_at_call 43; exact Gives.later _ (four_i _ _))
      | (go_at_call 42; exact Gives.later _ (seal_i _ (by simp [go_sem, maxLen]; omega) _))
      | (go_at_call 41; exact Gives.later _ (putText_i _ (by simp only [go_sem, maxLen]; omega) _))))
    refine wpQuiet_nil ?_
    rintro _ ⟨x, rfl⟩
    have hx := x.ok
    go_wp2
    go_ret
    exact ⟨by rw [HQ.out]; rfl, bthen (bnew _ _) (bthen hb1 hx)⟩
theorem frameBytes_s (q : Int) (t : ByteArray) (w : World) : Gives Try.prog 15 #[.agg #[.int .i64 q, .string t]] w (.string (bs (frameBytes q t.data.toList))) := by
  unfold Gives
  cases hq : frameOk q t.data.toList
  · have HQ : Hid (frameBytes q t.data.toList = []) := by unfold frameBytes; rw [hq]; exact Lib.hid rfl
    have hq' := Lib.hid hq
    clear hq
    go_enter Try.func15, Try.ntmps15
    go_wp2_with (go_at_call 36; refine (frameRight_s _ _ _).use.mono ?_; rw [hq'.out]; rintro e w1 ⟨rfl, hb1⟩)
    go_ret
    refine ⟨by rw [HQ.out]; rfl, ?_⟩
    exact ((Below.refl _ _).alloc (Nat.le_refl _) _).trans (hb1.mono (by simp))
  · have HQ : Hid (frameBytes q t.data.toList = putText (seal_ (four q ++ t.data.toList))) := by unfold frameBytes; rw [hq]; exact Lib.hid rfl
    have hsz := size_data t
    have ht : t.size ≤ 2980 := by
      unfold frameOk at hq
      simp at hq
      omega
    have hsl := seal_length (four q ++ t.data.toList)
    rw [List.length_append, four_length, hsz] at hsl
    have hq' := Lib.hid hq
    clear hq hsz
    go_enter Try.func15, Try.ntmps15
    go_wp2_with (go_at_call 36; refine (frameRight_s _ _ _).use.mono ?_; rw [hq'.out]; rintro e w1 ⟨rfl, hb1⟩; obtain ⟨hc, hf⟩ := bcell hb1)
    have g0 : ∀ x : Later w1, x.now.cell? ⟨w.heap.size, 0, none⟩ = some (.int .i64 q) := fun x => by
      have hs1 := hb1.size
      rw [x.ok.cell (p := ⟨w.heap.size, 0, none⟩) (by simp at hs1 ⊢; omega), hc _ _ (by simp)]
      simp [World.cell?_alloc_new]
    have g1 : ∀ x : Later w1, x.now.cell? ⟨w.heap.size, 1, none⟩ = some (.string t) := fun x => by
      have hs1 := hb1.size
      rw [x.ok.cell (p := ⟨w.heap.size, 1, none⟩) (by simp at hs1 ⊢; omega), hc _ _ (by simp)]
      simp [World.cell?_alloc_new]
    refine wp_region_later (by kernel_rfl) (by kernel_rfl) ?_
    repeat (go_big_quiet_step (first
      | (go_at_call 39; exact Gives.later _ (four_s _ _))
      | (go_at_call 38; exact Gives.later _ (seal_s _ (by simp [go_sem, maxLen]; omega) _))
      | (go_at_call 37; exact Gives.later _ (putText_s _ (by simp only [go_sem, maxLen]; omega) _))))
    refine wpQuiet_nil ?_
    rintro _ ⟨x, rfl⟩
    have hx := x.ok
    go_wp2
    go_ret
    exact ⟨by rw [HQ.out]; rfl, bthen (bnew _ _) (bthen hb1 hx)⟩

/-! ### the statement's own helpers -/
theorem toFrame_l (q : Int) (t : ByteArray) (w : World) : Gives Try.prog 16 #[.agg #[.int .i64 q, .string t]] w (.agg #[.int .i64 q, .string t]) := by
  unfold Gives
  go_enter Try.func16, Try.ntmps16
  go_wp2
  exact bodyPost_ret (v := .agg #[.int .i64 q, .string t]) (by simp [results, Try.results16, go_sem]) rfl ⟨rfl, bthen (bnew _ _) (bthen (bnew _ _) (bnew _ _))⟩
theorem szFrame_l (q : Int) (t : ByteArray) (m : Int) (hm : 0 ≤ m ∧ m ≤ 1048576) (ht : t.size ≤ maxLen) (w : World) : Gives Try.prog 14 #[.agg #[.int .i64 q, .string t], .int .i64 m] w (.int .i64 (if m < t.size then -1 else m - t.size)) := by
  unfold Gives
  unfold maxLen at ht
  by_cases h : m < t.size
  · rw [if_pos h]
    go_enter Try.func14, Try.ntmps14
    go_wp2
    go_ret
    exact ⟨rfl, bnew _ _⟩
  · rw [if_neg h]
    go_enter Try.func14, Try.ntmps14
    go_wp2
    go_ret
    exact ⟨rfl, bnew _ _⟩

theorem law_FrameBytes (q : Int) (t : ByteArray) (ht : t.size ≤ maxLen) (w : World) : Gives Try.prog 4 #[.agg #[.int .i64 q, .string t]] w (.bool true) := by
  unfold Gives
  by_cases h : (1048576 : Int) < t.size
  · have HS : Hid ((if (1048576 : Int) < t.size then (-1 : Int) else 1048576 - t.size) = -1) := by rw [if_pos h]; exact Lib.hid rfl
    clear h
    go_enter Try.func4, Try.ntmps4
    go_wp2_with (go_at_call 14; refine (szFrame_l _ _ _ (by omega) ht _).use.mono ?_; rw [HS.out]; rintro e w1 ⟨rfl, hb1⟩)
    go_ret
    exact ⟨rfl, bthen (bnew _ _) hb1⟩
  · have HS : Hid ((if (1048576 : Int) < t.size then (-1 : Int) else 1048576 - t.size) = 1048576 - t.size) := by rw [if_neg h]; exact Lib.hid rfl
    have h' : (t.size : Int) ≤ 1048576 := by omega
    clear h
    go_enter Try.func4, Try.ntmps4
    go_wp2_with (go_at_call 14; refine (szFrame_l _ _ _ (by omega) ht _).use.mono ?_; rw [HS.out]; rintro e w1 ⟨rfl, hb1⟩; obtain ⟨hc1, hf1⟩ := bcell hb1)
    go_wp2_with (first
      | (go_at_call 16; refine (toFrame_l _ _ _).use.mono ?_; rintro e w2 ⟨rfl, hb2⟩)
      | (go_at_call 15; refine (frameBytes_s _ _ _).use.mono ?_; rintro e w3 ⟨rfl, hb3⟩; obtain ⟨hc3, hf3⟩ := bcell (bthen hb1 (bthen hb2 hb3)); have hb4 := bthen hb1 (bthen hb2 hb3); clear hb1 hb2 hb3 hc1 hf1)
      | (go_at_call 17; refine (frameBytes_i _ _ _).use.mono ?_; rintro e w5 ⟨rfl, hb5⟩))
    go_ret
    exact ⟨rfl, bthen (bnew _ _) (bthen hb4 (bthen hb2 hb5))⟩
end Go.Proofs.Ytoggdaiibmjkkaa
