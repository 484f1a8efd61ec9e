/-
  Frames and logs in plain words: what is read is the encoding of what was read; a log is read frame by frame.
-/
import Derived.Test.YthkebpgkhblcjaaG1
import Derived.Deep.RegionHeld3
import Derived.Deep.RegionWith
import Derived.Test.YthkebpgkhblcjaaJB
import Derived.Deep.LoopGhost
set_option linter.unusedSimpArgs false
set_option linter.unusedVariables false
namespace Go.Proofs.Ythkebpgkhblcjaa
open Go.RowKit M

theorem unseal_long {t : Bs} (h : 8000 < t.length) : unseal_ t = ([], 0, 2) := by unfold unseal_; rw [if_pos h]
theorem unseal_short {t : Bs} (h : t.length < 4) : unseal_ t = ([], 0, 4) := by unfold unseal_; rw [if_neg (by omega), if_pos h]
theorem unseal_mid {t : Bs} (h : ¬ 8000 < t.length) (h4 : ¬ t.length < 4) : unseal_ t = if crcFour (t.take (t.length - 4)) = t.drop (t.length - 4) then (t.take (t.length - 4), 0, 0) else ([], 0, 5) := by unfold unseal_; rw [if_neg h, if_neg h4]
theorem beq_bs (a b : Bs) : ((bs a).toList == (bs b).toList) = decide (a = b) := by
  rw [str_beq, decide_eq_decide, bs_inj]

set_option maxRecDepth 100000 in
set_option maxHeartbeats 1000000 in
theorem unseal_s (s : ByteArray) (hs : s.size ≤ maxLen) (w : World) :
    Gives Try.prog 31 #[.string s] w (encTO (unseal_ s.data.toList)) := by
  unfold Gives
  have hsz := size_data s
  by_cases hl : 8000 < s.size
  · have HR := Lib.hid (unseal_long (t := s.data.toList) (by omega))
    have hl' : (8000 : Int) < s.size := by omega
    clear hsz hs
    go_enter Try.func31, Try.ntmps31
    go_wp2
    refine bodyPost_ret (v := .agg #[.string ⟨#[]⟩, .int .i64 0, .int .i64 2]) (by simp [results, Try.results31, go_sem]) rfl ⟨by rw [HR.out]; rfl, ?_⟩
    (repeat (first | (with_reducible refine bset ?_ (by first | (simp; done) | (simp; omega)) _) | (with_reducible refine balloc ?_ _) | (with_reducible refine bdrew ?_) | with_reducible exact Below.refl _ _ | (refine bthen ?_ (by with_reducible assumption)) | (refine bthen ?_ (by assumption)) | exact Below.refl _ _))
  · have hl' : ¬ (8000 : Int) < s.size := by omega
    by_cases h4 : s.size < 4
    · have HR := Lib.hid (unseal_short (t := s.data.toList) (by omega))
      have h4' : (s.size : Int) < 4 := by omega
      clear hsz hs
      go_enter Try.func31, Try.ntmps31
      go_wp2
      refine bodyPost_ret (v := .agg #[.string ⟨#[]⟩, .int .i64 0, .int .i64 4]) (by simp [results, Try.results31, go_sem]) rfl ⟨by rw [HR.out]; rfl, ?_⟩
      (repeat (first | (with_reducible refine bset ?_ (by first | (simp; done) | (simp; omega)) _) | (with_reducible refine balloc ?_ _) | (with_reducible refine bdrew ?_) | with_reducible exact Below.refl _ _ | (refine bthen ?_ (by with_reducible assumption)) | (refine bthen ?_ (by assumption)) | exact Below.refl _ _))
    · have HR := unseal_mid (t := s.data.toList) (by omega) (by omega)
      rw [hsz] at HR
      obtain ⟨n, hn⟩ : ∃ n, s.size = n + 4 := ⟨s.size - 4, by omega⟩
      have hn' : (s.size : Int) - 4 = n := by omega
      have hn4 : ¬ (n : Int) + 4 < 4 := by omega
      rw [show s.size - 4 = n by omega] at HR
      have hx1 : s.extract 0 n = bs (s.data.toList.take n) := by rw [extract_bs, Nat.sub_zero, List.drop_zero]
      have hx2 : s.extract n (n + 4) = bs (s.data.toList.drop n) := by rw [extract_bs, List.take_of_length_le (by rw [List.length_drop]; omega)]
      have hd := beq_bs (crcFour (s.data.toList.take n)) (s.data.toList.drop n)
      have hC : ∀ w, Gives Try.prog 39 #[.int .i64 0, .string (bs (s.data.toList.take n))] w (.int .i64 (crcMore 0 (s.data.toList.take n))) := fun w => crc_s 0 (by omega) _ _ (by rw [size_bs, List.length_take]; unfold maxLen at *; omega)
      have hC2 : ∀ w, Gives Try.prog 35 #[.int .i64 (crcMore 0 (s.data.toList.take n))] w (.string (bs (crcFour (s.data.toList.take n)))) := fun w => four_s _ _
      have hp : (n : Int) ≤ (n : Int) + 4 := by omega
      by_cases hc : crcFour (s.data.toList.take n) = s.data.toList.drop n
      · rw [if_pos hc] at HR
        have HR := Lib.hid HR
        rw [decide_eq_true hc] at hd
        clear hc hsz hs
        go_enter Try.func31, Try.ntmps31
        go_wp2
        refine wp_region_later (by kernel_rfl) (by kernel_rfl) ?_
        repeat (go_big_quiet_step (first
          | (go_at_call 39; exact Gives.later _ (hC _))
          | (go_at_call 35; exact Gives.later _ (hC2 _))))
        refine wpQuiet_nil ?_
        rintro _ ⟨x, rfl⟩
        have hx := x.ok
        obtain ⟨hcx, hfx⟩ := bcell hx
        go_wp2
        refine bodyPost_ret (v := .agg #[.string (bs (s.data.toList.take n)), .int .i64 0, .int .i64 0]) (by simp [results, Try.results31, go_sem, hcx]) rfl ⟨by rw [HR.out]; rfl, ?_⟩
        (repeat (first | (with_reducible refine bset ?_ (by first | (simp; done) | (simp; omega)) _) | (with_reducible refine balloc ?_ _) | (with_reducible refine bdrew ?_) | with_reducible exact Below.refl _ _ | (refine bthen ?_ (by with_reducible assumption)) | (refine bthen ?_ (by assumption)) | exact Below.refl _ _))
      · rw [if_neg hc] at HR
        have HR := Lib.hid HR
        rw [decide_eq_false hc] at hd
        clear hc hsz hs
        go_enter Try.func31, Try.ntmps31
        go_wp2
        refine wp_region_later (by kernel_rfl) (by kernel_rfl) ?_
        repeat (go_big_quiet_step (first
          | (go_at_call 39; exact Gives.later _ (hC _))
          | (go_at_call 35; exact Gives.later _ (hC2 _))))
        refine wpQuiet_nil ?_
        rintro _ ⟨x, rfl⟩
        have hx := x.ok
        obtain ⟨hcx, hfx⟩ := bcell hx
        go_wp2
        refine bodyPost_ret (v := .agg #[.string ⟨#[]⟩, .int .i64 0, .int .i64 5]) (by simp [results, Try.results31, go_sem, hcx]) rfl ⟨by rw [HR.out]; rfl, ?_⟩
        (repeat (first | (with_reducible refine bset ?_ (by first | (simp; done) | (simp; omega)) _) | (with_reducible refine balloc ?_ _) | (with_reducible refine bdrew ?_) | with_reducible exact Below.refl _ _ | (refine bthen ?_ (by with_reducible assumption)) | (refine bthen ?_ (by assumption)) | exact Below.refl _ _))
end Go.Proofs.Ythkebpgkhblcjaa
namespace Go.Proofs.Ythkebpgkhblcjaa
open Go.RowKit M

theorem set2 {w : World} {a b : Addr} {v : Value} (h : w.cell? b = some v) (hne : a.block ≠ b.block) (u : Value) : (w.setCell a u).cell? b = some v := by
  rw [World.cell?_setCell_other (h := fun e => hne (by rw [e]))]; exact h
theorem ofFour_get (s : ByteArray) (h : 4 ≤ s.size) : ofFour s.data.toList = four4 s[0].toNat s[1].toNat s[2].toNat s[3].toNat := by
  have hz := size_data s
  unfold ofFour
  rw [List.getElem?_eq_getElem (show 0 < s.data.toList.length by omega), List.getElem?_eq_getElem (show 1 < s.data.toList.length by omega), List.getElem?_eq_getElem (show 2 < s.data.toList.length by omega), List.getElem?_eq_getElem (show 3 < s.data.toList.length by omega)]
  rfl

def encFO (x : FrameOut) : Value := .agg #[.int .i64 x.1, .string (bs x.2.1), .int .i64 x.2.2.1, .int .i64 x.2.2.2]
theorem getText_range (t : Bs) (a : Int) :
    (getText t a).1 = [] ∧ (getText t a).2.1 = 0 ∧ (1 ≤ (getText t a).2.2 ∧ (getText t a).2.2 ≤ 4) ∨
    (getText t a).2.2 = 0 ∧ t.length ≤ 8000 ∧ 0 ≤ a ∧ a + 1 ≤ (getText t a).2.1 ∧ (getText t a).2.1 ≤ t.length ∧ (getText t a).1.length ≤ 8000 := by
  rw [getText_eq]
  rcases getNum_range t a with ⟨h1, h2, h3⟩ | ⟨h1, h2, h3, h4, h5, h6⟩
  · rw [if_pos (by omega)]; left; exact ⟨rfl, rfl, h3⟩
  · rw [if_neg (by omega)]
    by_cases h7 : (getNum t a).1 < 0 ∨ 8000 < (getNum t a).1
    · rw [if_pos h7]; left; simp
    · rw [if_neg h7]
      by_cases h8 : (t.length : Int) < (getNum t a).2.1 + (getNum t a).1
      · rw [if_pos h8]; left; simp
      · rw [if_neg h8]; right
        refine ⟨rfl, h2, h3, by dsimp only; omega, by dsimp only; omega, ?_⟩
        dsimp only
        rw [List.length_take]; omega
theorem unseal_range (t : Bs) : (unseal_ t).1 = [] ∧ (unseal_ t).2.1 = 0 ∧ (1 ≤ (unseal_ t).2.2 ∧ (unseal_ t).2.2 ≤ 5) ∨ (unseal_ t).2.1 = 0 ∧ (unseal_ t).2.2 = 0 ∧ t.length ≤ 8000 ∧ (unseal_ t).1.length + 4 = t.length := by
  unfold unseal_
  by_cases h1 : 8000 < t.length
  · rw [if_pos h1]; left; simp
  · rw [if_neg h1]
    by_cases h2 : t.length < 4
    · rw [if_pos h2]; left; simp
    · rw [if_neg h2]
      by_cases h3 : crcFour (t.take (t.length - 4)) = t.drop (t.length - 4)
      · rw [if_pos h3]; right
        refine ⟨rfl, rfl, by omega, ?_⟩
        dsimp only
        rw [List.length_take]; omega
      · rw [if_neg h3]; left; simp
/-- what FrameRead makes of a text -/
def frameOf (x y : TextOut) : FrameOut :=
  if x.2.2 ≠ 0 then (0, [], 0, x.2.2)
  else if y.2.2 ≠ 0 then (0, [], 0, y.2.2)
  else if y.1.length < 4 then (0, [], 0, 3)
  else if frameOk (ofFour y.1) (y.1.drop 4) then (ofFour y.1, y.1.drop 4, x.2.1, 0)
  else (0, [], 0, 3)
theorem frameRead_eq (t : Bs) (a : Int) : frameRead t a = frameOf (getText t a) (unseal_ (getText t a).1) := rfl
end Go.Proofs.Ythkebpgkhblcjaa
namespace Go.Proofs.Ythkebpgkhblcjaa
open Go.RowKit M

theorem ncell2 {w : World} {F n i : Nat} {u v : Value} (h : n < F) : ((w.setCell ⟨F, 0, none⟩ u).setCell ⟨F, 1, none⟩ v).cell? ⟨n, i, none⟩ = w.cell? ⟨n, i, none⟩ := by
  have hne : ∀ o, (⟨F, o, none⟩ : Addr) ≠ ⟨n, i, none⟩ := fun o e => by injection e; omega
  rw [World.cell?_setCell_other (h := hne 1), World.cell?_setCell_other (h := hne 0)]
theorem scell2 {w : World} {F : Nat} {u v a b : Value} (h0 : w.cell? ⟨F, 0, none⟩ = some a) (h1 : w.cell? ⟨F, 1, none⟩ = some b) :
    ((w.setCell ⟨F, 0, none⟩ u).setCell ⟨F, 1, none⟩ v).cell? ⟨F, 0, none⟩ = some u ∧ ((w.setCell ⟨F, 0, none⟩ u).setCell ⟨F, 1, none⟩ v).cell? ⟨F, 1, none⟩ = some v := by
  have hne : (⟨F, 1, none⟩ : Addr) ≠ ⟨F, 0, none⟩ := fun e => by injection e; omega
  have hne' : (⟨F, 0, none⟩ : Addr) ≠ ⟨F, 1, none⟩ := fun e => by injection e; omega
  refine ⟨?_, ?_⟩
  · rw [World.cell?_setCell_other (h := hne), World.cell?_setCell_same' (h := by rw [h0]; rfl)]
  · rw [World.cell?_setCell_same' (h := by rw [World.cell?_setCell_other (h := hne'), h1]; rfl)]

end Go.Proofs.Ythkebpgkhblcjaa
namespace Go.Proofs.Ythkebpgkhblcjaa
open Go.RowKit M

set_option maxRecDepth 100000 in
set_option maxHeartbeats 1000000 in
theorem frameRead_s (s : ByteArray) (a : Int) (ha : a ≤ 9223372036854775807) (hs : s.size ≤ maxLen) (w : World) :
    Gives Try.prog 21 #[.string s, .int .i64 a] w (encFO (frameRead s.data.toList a)) := by
  unfold Gives
  have hr := getText_range s.data.toList a
  have hN : ∀ w, Gives Try.prog 30 #[.string s, .int .i64 a] w _ := getText_s s a ha hs
  have HG := frameRead_eq s.data.toList a
  generalize getText s.data.toList a = x at *
  obtain ⟨t, z, c⟩ := x
  dsimp only at hr HG
  unfold encTO at hN
  dsimp only at hN
  rcases hr with ⟨rfl, rfl, hc⟩ | ⟨rfl, hl, h0, h1, h2, h3⟩
  · have hc' : (c == 0) = false := by simp; omega
    have HR : Hid (frameRead s.data.toList a = (0, [], 0, c)) := by rw [HG]; unfold frameOf; rw [if_pos (show c ≠ 0 by omega)]; exact Lib.hid rfl
    clear HG hs
    go_enter Try.func21, Try.ntmps21
    go_wp2_with (go_at_call 30; refine (hN _).use.mono ?_; rintro e w1 ⟨rfl, hb1⟩; obtain ⟨hc1, hf1, hs1⟩ := bcell1 hb1)
    refine bodyPost_ret (v := .agg #[.int .i64 0, .string ⟨#[]⟩, .int .i64 0, .int .i64 c]) (by simp [results, Try.results21, go_sem, hc1, hs1]) rfl ⟨by rw [HR.out]; rfl, ?_⟩
    (repeat (first | (with_reducible refine bset ?_ (by first | (simp; done) | (simp; omega)) _) | (with_reducible refine balloc ?_ _) | (with_reducible refine bdrew ?_) | with_reducible exact Below.refl _ _ | (refine bthen ?_ (by with_reducible assumption)) | (refine bthen ?_ (by assumption)) | exact Below.refl _ _))
  · have hr2 := unseal_range t
    have hU : ∀ w, Gives Try.prog 31 #[.string (bs t)] w _ := unseal_s (bs t) (by rw [size_bs]; unfold maxLen; omega)
    rw [data_bs] at hU
    generalize unseal_ t = y at *
    obtain ⟨b, z2, c2⟩ := y
    dsimp only at hr2
    unfold encTO at hU
    dsimp only at hU
    rcases hr2 with ⟨rfl, rfl, hc⟩ | ⟨rfl, rfl, hl2, hb⟩
    · have hc' : (c2 == 0) = false := by simp; omega
      have HR : Hid (frameRead s.data.toList a = (0, [], 0, c2)) := by rw [HG]; unfold frameOf; rw [if_neg (by simp), if_pos (show c2 ≠ 0 by omega)]; exact Lib.hid rfl
      clear HG hs
      go_enter Try.func21, Try.ntmps21
      go_wp2_with (first
        | (go_at_call 30; refine (hN _).use.mono ?_; rintro e w1 ⟨rfl, hb1⟩; obtain ⟨hc1, hf1, hs1⟩ := bcell1 hb1)
        | ((go_at_call 31; refine (hU _).use.mono ?_; rintro e w2 ⟨rfl, hb2⟩; obtain ⟨hc2, hf2, hs2⟩ := bcell1 hb2); have hs02 := Nat.lt_trans hs1 hs2; have k := kept2 hb2 hs1))
      refine bodyPost_ret (v := .agg #[.int .i64 0, .string ⟨#[]⟩, .int .i64 0, .int .i64 c2]) (by simp [results, Try.results21, go_sem, hc1, k, hs1, hs02]) rfl ⟨by rw [HR.out]; rfl, ?_⟩
      (repeat (first | (with_reducible refine bset ?_ (by first | (simp; done) | (simp; omega)) _) | (with_reducible refine balloc ?_ _) | (with_reducible refine bdrew ?_) | with_reducible exact Below.refl _ _ | (refine bthen ?_ (by with_reducible assumption)) | (refine bthen ?_ (by assumption)) | exact Below.refl _ _))
    · unfold frameOf at HG
      rw [if_neg (by simp), if_neg (by simp)] at HG
      dsimp only at HG
      by_cases h4 : b.length < 4
      · rw [if_pos h4] at HG
        have HR := Lib.hid HG
        have h4' : (b.length : Int) < 4 := by omega
        clear HG hs
        go_enter Try.func21, Try.ntmps21
        go_wp2_with (first
          | (go_at_call 30; refine (hN _).use.mono ?_; rintro e w1 ⟨rfl, hb1⟩; obtain ⟨hc1, hf1, hs1⟩ := bcell1 hb1)
          | ((go_at_call 31; refine (hU _).use.mono ?_; rintro e w2 ⟨rfl, hb2⟩; obtain ⟨hc2, hf2, hs2⟩ := bcell1 hb2); have hs02 := Nat.lt_trans hs1 hs2; have k := kept2 hb2 hs1))
        refine bodyPost_ret (v := .agg #[.int .i64 0, .string ⟨#[]⟩, .int .i64 0, .int .i64 3]) (by simp [results, Try.results21, go_sem, hc1, k, hs1, hs02]) rfl ⟨by rw [HR.out]; rfl, ?_⟩
        (repeat (first | (with_reducible refine bset ?_ (by first | (simp; done) | (simp; omega)) _) | (with_reducible refine balloc ?_ _) | (with_reducible refine bdrew ?_) | with_reducible exact Below.refl _ _ | (refine bthen ?_ (by with_reducible assumption)) | (refine bthen ?_ (by assumption)) | exact Below.refl _ _))
      · rw [if_neg h4] at HG
        have h4' : ¬ (b.length : Int) < 4 := by omega
        have h4'' : 4 ≤ (bs b).size := by rw [size_bs]; omega
        have hx2 : (bs b).extract 4 b.length = bs (b.drop 4) := by rw [extract_bs, List.take_of_length_le (by rw [List.length_drop, data_bs]; omega), data_bs]
        have hK : ∀ w, Gives Try.prog 32 #[.agg #[.int .i64 (ofFour b), .string (bs (b.drop 4))]] w (.bool (frameOk (ofFour b) (b.drop 4))) := frameRight_s _ (bs (b.drop 4))
        have hq4 := ofFour_get (bs b) h4''
        rw [data_bs] at hq4
        have b0 : (bs b)[0].toNat < 256 := (bs b)[0].toNat_lt
        have b1 : (bs b)[1].toNat < 256 := (bs b)[1].toNat_lt
        have b2 : (bs b)[2].toNat < 256 := (bs b)[2].toNat_lt
        have b3 : (bs b)[3].toNat < 256 := (bs b)[3].toNat_lt
        have i3 : (3 : Int) < (bs b).size := by omega
        have i2 : (2 : Int) < (bs b).size := by omega
        have i1 : (1 : Int) < (bs b).size := by omega
        have j0 : 0 < (bs b).size := by omega
        have l3 : (3 : Int) < b.length := by omega
        have l2 : (2 : Int) < b.length := by omega
        have l1 : (1 : Int) < b.length := by omega
        have l0 : 0 < b.length := by omega
        by_cases hq : frameOk (ofFour b) (b.drop 4) = true
        · rw [if_pos hq] at HG
          rw [hq] at hK
          have HR := Lib.hid HG
          have hq4' := Lib.hid hq4
          clear HG hs hq4
          go_enter Try.func21, Try.ntmps21
          go_wp2_with (first
            | (go_at_call 30; refine (hN _).use.mono ?_; rintro e w1 ⟨rfl, hb1⟩; obtain ⟨hc1, hf1, hs1⟩ := bcell1 hb1)
            | ((go_at_call 31; refine (hU _).use.mono ?_; rintro e w2 ⟨rfl, hb2⟩; obtain ⟨hc2, hf2, hs2⟩ := bcell1 hb2); have hs02 := Nat.lt_trans hs1 hs2; have k := kept2 hb2 hs1))
          have e0 : (w2.alloc (.cells #[.string (bs b), .int .i64 0, .int .i64 0] 62)).cell? ⟨w2.heap.size, 0, none⟩ = some (.string (bs b)) := by simp [World.cell?_alloc_new]
          have s3 : w2.heap.size < (w2.alloc (.cells #[.string (bs b), .int .i64 0, .int .i64 0] 62)).heap.size := by simp
          have B3 := bthen (bthen (bnew _ _) hb1) (bthen (bnew _ _) hb2)
          have B3 := balloc B3 (.cells #[.string (bs b), .int .i64 0, .int .i64 0] 62)
          have k0 : ∀ i, (w2.alloc (.cells #[.string (bs b), .int .i64 0, .int .i64 0] 62)).cell? ⟨w.heap.size, i, none⟩ = (#[Value.int .i64 0, .string ⟨#[]⟩, .int .i64 0, .int .i64 0] : Array Value)[i]? := fun i => by simp [go_sem, hs02, k, hc1]
          have k1 : ∀ i, (w2.alloc (.cells #[.string (bs b), .int .i64 0, .int .i64 0] 62)).cell? ⟨w1.heap.size, i, none⟩ = (#[Value.string (bs t), .int .i64 z, .int .i64 0] : Array Value)[i]? := fun i => by simp [go_sem, hs2, hc2]
          have z0 : ∀ i, (w2.alloc (.cells #[.string (bs b), .int .i64 0, .int .i64 0] 62)).frozen? ⟨w.heap.size, i, none⟩ = false := fun i => by simp [go_sem, hs02, hs1, Nat.le_of_lt hs1, hf2, hf1]
          generalize w2.alloc (.cells #[.string (bs b), .int .i64 0, .int .i64 0] 62) = w3 at *
          clear hc1 hf1 hc2 hf2 k hb1 hb2
          have s0 : w.heap.size < w3.heap.size := Nat.lt_trans hs02 s3
          have s1 : w1.heap.size < w3.heap.size := Nat.lt_trans hs2 s3
          go_loopw [7, 8] (fun n i wr => ((i = .int .i64 (3) ∧ n = .int .i64 (0)) ∨ (i = .int .i64 (2) ∧ n = .int .i64 (((bs b)[3].toNat : Int))) ∨ (i = .int .i64 (1) ∧ n = .int .i64 (((bs b)[3].toNat : Int) * 256 + ((bs b)[2].toNat : Int))) ∨ (i = .int .i64 (0) ∧ n = .int .i64 ((((bs b)[3].toNat : Int) * 256 + ((bs b)[2].toNat : Int)) * 256 + ((bs b)[1].toNat : Int))) ∨ (i = .int .i64 (-1) ∧ n = .int .i64 (((((bs b)[3].toNat : Int) * 256 + ((bs b)[2].toNat : Int)) * 256 + ((bs b)[1].toNat : Int)) * 256 + ((bs b)[0].toNat : Int)))) ∧ wr = w3) (fun _ i _ => (intOf i + 1).toNat)
          case atStart => exact ⟨Or.inl ⟨rfl, rfl⟩, rfl⟩
          case round =>
            obtain ⟨hh, rfl⟩ := hrel
            rcases hh with ⟨rfl, rfl⟩ | ⟨rfl, rfl⟩ | ⟨rfl, rfl⟩ | ⟨rfl, rfl⟩ | ⟨rfl, rfl⟩
            · go_wp2
              exact ⟨⟨Or.inr (Or.inl ⟨rfl, by simp⟩), trivial⟩, by simp [intOf]⟩
            · go_wp2
              exact ⟨⟨Or.inr (Or.inr (Or.inl ⟨rfl, rfl⟩)), trivial⟩, by simp [intOf]⟩
            · go_wp2
              exact ⟨⟨Or.inr (Or.inr (Or.inr (Or.inl ⟨rfl, rfl⟩))), trivial⟩, by simp [intOf]⟩
            · go_wp2
              exact ⟨⟨Or.inr (Or.inr (Or.inr (Or.inr ⟨rfl, rfl⟩))), trivial⟩, by simp [intOf]⟩
            · have hv : ((((bs b)[3].toNat : Int) * 256 + ((bs b)[2].toNat : Int)) * 256 + ((bs b)[1].toNat : Int)) * 256 + ((bs b)[0].toNat : Int) = ofFour b := by
                rw [hq4'.out]; unfold four4; omega
              rw [hv]
              clear hv hq4'
              go_wp2_with (go_at_call 32; refine (hK _).use.mono ?_; rintro e w5 ⟨rfl, hb5⟩; obtain ⟨hc5, hf5⟩ := bcell hb5)
              all_goals (first | go_region | skip)
              all_goals go_wp2
              have kk : ∀ i, w5.cell? ⟨w.heap.size, i, none⟩ = wr.cell? ⟨w.heap.size, i, none⟩ := kept2 hb5 s0
              refine bodyPost_ret (v := .agg #[.int .i64 (ofFour b), .string (bs (b.drop 4)), .int .i64 z, .int .i64 0]) (by simp [results, Try.results21, go_sem, kk, k0]) rfl ⟨by rw [HR.out]; rfl, ?_⟩
              (repeat (first | (with_reducible refine bset ?_ (by first | (simp; done) | (simp; omega)) _) | (with_reducible refine balloc ?_ _) | (with_reducible refine bdrew ?_) | with_reducible exact Below.refl _ _ | (refine bthen ?_ (by with_reducible assumption)) | (refine bthen ?_ (by assumption)) | exact Below.refl _ _))
        · rw [if_neg hq] at HG
          rw [show frameOk (ofFour b) (b.drop 4) = false by simpa using hq] at hK
          have HR := Lib.hid HG
          have hq4' := Lib.hid hq4
          clear HG hs hq4
          go_enter Try.func21, Try.ntmps21
          go_wp2_with (first
            | (go_at_call 30; refine (hN _).use.mono ?_; rintro e w1 ⟨rfl, hb1⟩; obtain ⟨hc1, hf1, hs1⟩ := bcell1 hb1)
            | ((go_at_call 31; refine (hU _).use.mono ?_; rintro e w2 ⟨rfl, hb2⟩; obtain ⟨hc2, hf2, hs2⟩ := bcell1 hb2); have hs02 := Nat.lt_trans hs1 hs2; have k := kept2 hb2 hs1))
          have e0 : (w2.alloc (.cells #[.string (bs b), .int .i64 0, .int .i64 0] 62)).cell? ⟨w2.heap.size, 0, none⟩ = some (.string (bs b)) := by simp [World.cell?_alloc_new]
          have s3 : w2.heap.size < (w2.alloc (.cells #[.string (bs b), .int .i64 0, .int .i64 0] 62)).heap.size := by simp
          have B3 := bthen (bthen (bnew _ _) hb1) (bthen (bnew _ _) hb2)
          have B3 := balloc B3 (.cells #[.string (bs b), .int .i64 0, .int .i64 0] 62)
          have k0 : ∀ i, (w2.alloc (.cells #[.string (bs b), .int .i64 0, .int .i64 0] 62)).cell? ⟨w.heap.size, i, none⟩ = (#[Value.int .i64 0, .string ⟨#[]⟩, .int .i64 0, .int .i64 0] : Array Value)[i]? := fun i => by simp [go_sem, hs02, k, hc1]
          have k1 : ∀ i, (w2.alloc (.cells #[.string (bs b), .int .i64 0, .int .i64 0] 62)).cell? ⟨w1.heap.size, i, none⟩ = (#[Value.string (bs t), .int .i64 z, .int .i64 0] : Array Value)[i]? := fun i => by simp [go_sem, hs2, hc2]
          have z0 : ∀ i, (w2.alloc (.cells #[.string (bs b), .int .i64 0, .int .i64 0] 62)).frozen? ⟨w.heap.size, i, none⟩ = false := fun i => by simp [go_sem, hs02, hs1, Nat.le_of_lt hs1, hf2, hf1]
          generalize w2.alloc (.cells #[.string (bs b), .int .i64 0, .int .i64 0] 62) = w3 at *
          clear hc1 hf1 hc2 hf2 k hb1 hb2
          have s0 : w.heap.size < w3.heap.size := Nat.lt_trans hs02 s3
          have s1 : w1.heap.size < w3.heap.size := Nat.lt_trans hs2 s3
          go_loopw [7, 8] (fun n i wr => ((i = .int .i64 (3) ∧ n = .int .i64 (0)) ∨ (i = .int .i64 (2) ∧ n = .int .i64 (((bs b)[3].toNat : Int))) ∨ (i = .int .i64 (1) ∧ n = .int .i64 (((bs b)[3].toNat : Int) * 256 + ((bs b)[2].toNat : Int))) ∨ (i = .int .i64 (0) ∧ n = .int .i64 ((((bs b)[3].toNat : Int) * 256 + ((bs b)[2].toNat : Int)) * 256 + ((bs b)[1].toNat : Int))) ∨ (i = .int .i64 (-1) ∧ n = .int .i64 (((((bs b)[3].toNat : Int) * 256 + ((bs b)[2].toNat : Int)) * 256 + ((bs b)[1].toNat : Int)) * 256 + ((bs b)[0].toNat : Int)))) ∧ wr = w3) (fun _ i _ => (intOf i + 1).toNat)
          case atStart => exact ⟨Or.inl ⟨rfl, rfl⟩, rfl⟩
          case round =>
            obtain ⟨hh, rfl⟩ := hrel
            rcases hh with ⟨rfl, rfl⟩ | ⟨rfl, rfl⟩ | ⟨rfl, rfl⟩ | ⟨rfl, rfl⟩ | ⟨rfl, rfl⟩
            · go_wp2
              exact ⟨⟨Or.inr (Or.inl ⟨rfl, by simp⟩), trivial⟩, by simp [intOf]⟩
            · go_wp2
              exact ⟨⟨Or.inr (Or.inr (Or.inl ⟨rfl, rfl⟩)), trivial⟩, by simp [intOf]⟩
            · go_wp2
              exact ⟨⟨Or.inr (Or.inr (Or.inr (Or.inl ⟨rfl, rfl⟩))), trivial⟩, by simp [intOf]⟩
            · go_wp2
              exact ⟨⟨Or.inr (Or.inr (Or.inr (Or.inr ⟨rfl, rfl⟩))), trivial⟩, by simp [intOf]⟩
            · have hv : ((((bs b)[3].toNat : Int) * 256 + ((bs b)[2].toNat : Int)) * 256 + ((bs b)[1].toNat : Int)) * 256 + ((bs b)[0].toNat : Int) = ofFour b := by
                rw [hq4'.out]; unfold four4; omega
              rw [hv]
              clear hv hq4'
              go_wp2_with (go_at_call 32; refine (hK _).use.mono ?_; rintro e w5 ⟨rfl, hb5⟩; obtain ⟨hc5, hf5⟩ := bcell hb5)
              have kk : ∀ i, w5.cell? ⟨w.heap.size, i, none⟩ = wr.cell? ⟨w.heap.size, i, none⟩ := kept2 hb5 s0
              refine bodyPost_ret (v := .agg #[.int .i64 0, .string ⟨#[]⟩, .int .i64 0, .int .i64 3]) (by simp [results, Try.results21, go_sem, kk, k0]) rfl ⟨by rw [HR.out]; rfl, ?_⟩
              (repeat (first | (with_reducible refine bset ?_ (by first | (simp; done) | (simp; omega)) _) | (with_reducible refine balloc ?_ _) | (with_reducible refine bdrew ?_) | with_reducible exact Below.refl _ _ | (refine bthen ?_ (by with_reducible assumption)) | (refine bthen ?_ (by assumption)) | exact Below.refl _ _))
end Go.Proofs.Ythkebpgkhblcjaa
namespace Go.Proofs.Ythkebpgkhblcjaa
open Go.RowKit M

end Go.Proofs.Ythkebpgkhblcjaa
namespace Go.Proofs.Ythkebpgkhblcjaa.M
theorem zig_unzig (y : Nat) : zig (unzig y) = y := by
  unfold zig unzig
  by_cases h : y % 2 = 1
  · rw [if_pos h, if_pos (by omega)]; omega
  · rw [if_neg h, if_neg (by omega)]; omega
theorem gnum_put : ∀ (f : Nat) (l : Bs) (k u : Nat) (n : Int) (j : Nat), gnum f l k u = (n, j, 0) →
    ∃ y : Nat, n = unzig (u + y * 2 ^ (7 * k)) ∧ k + 1 ≤ j ∧ j ≤ k + l.length ∧ putU f y = l.take (j - k) ∧ (0 < k → 1 ≤ y)
  | 0, l, k, u, n, j, h => by simp [gnum] at h
  | f + 1, [], k, u, n, j, h => by simp [gnum] at h
  | f + 1, b :: l, k, u, n, j, h => by
    unfold gnum at h
    have hb := b.toNat_lt
    by_cases h1 : k = 9 ∧ 1 < b.toNat
    · rw [if_pos h1] at h; simp at h
    · rw [if_neg h1] at h
      by_cases h2 : 128 ≤ b.toNat
      · rw [if_pos h2] at h
        obtain ⟨y, e1, e2, e3, e4, e5⟩ := gnum_put f l (k + 1) _ n j h
        have hy := e5 (by omega)
        refine ⟨b.toNat % 128 + 128 * y, ?_, by omega, by simp only [List.length_cons]; omega, ?_, fun _ => by omega⟩
        · rw [e1]
          congr 1
          have : (2 : Nat) ^ (7 * (k + 1)) = 128 * 2 ^ (7 * k) := by rw [show 7 * (k + 1) = 7 + 7 * k by omega, Nat.pow_add]
          rw [this, Nat.add_mul, Nat.add_assoc]
          congr 2
          rw [Nat.mul_comm 128 y, Nat.mul_assoc]
        · rw [putU_ge (by omega), show j - k = (j - (k + 1)) + 1 by omega, List.take_succ_cons]
          congr 1
          · apply UInt8.toNat_inj.1
            rw [UInt8.toNat_ofNat']
            omega
          · rw [← e4]; congr 1; omega
      · rw [if_neg h2] at h
        by_cases h3 : b.toNat = 0 ∧ 0 < k
        · rw [if_pos h3] at h; simp at h
        · rw [if_neg h3] at h
          simp only [Prod.mk.injEq] at h
          obtain ⟨e1, e2, _⟩ := h
          refine ⟨b.toNat, ?_, by omega, by simp only [List.length_cons]; omega, ?_, fun _ => by omega⟩
          · rw [← e1, Nat.mod_eq_of_lt (by omega)]
          · rw [putU_lt (by omega), show j - k = 1 by omega]
            simp
theorem numAt_put {t : Bs} {a : Nat} {n z : Int} (h : numAt t a = (n, z, 0)) : ∃ j : Nat, z = ((a + j : Nat) : Int) ∧ 1 ≤ j ∧ a + j ≤ t.length ∧ putNum n = (t.drop a).take j := by
  unfold numAt at h
  rcases hg : gnum 10 (t.drop a) 0 0 with ⟨n', j, c⟩
  rw [hg] at h
  by_cases hc : c = 0
  · subst hc
    simp only [if_true, Prod.mk.injEq] at h
    obtain ⟨rfl, rfl, _⟩ := h
    obtain ⟨y, e1, e2, e3, e4, _⟩ := gnum_put 10 _ 0 0 n' j hg
    refine ⟨j, rfl, by omega, by rw [List.length_drop] at e3; omega, ?_⟩
    unfold putNum
    rw [e1, Nat.zero_add, Nat.mul_zero, Nat.pow_zero, Nat.mul_one, zig_unzig, e4]
    rfl
  · rw [if_neg (by simpa using hc)] at h
    simp only [Prod.mk.injEq] at h
    exact absurd h.2.2 hc
theorem take_take_drop (t : Bs) (a j n : Nat) : (t.drop a).take j ++ (t.drop (a + j)).take n = (t.drop a).take (j + n) := by
  rw [List.take_add, List.drop_drop]
theorem getText_put {t : Bs} {a : Int} {x : Bs} {z : Int} (h : getText t a = (x, z, 0)) : ∃ i j : Nat, a = i ∧ z = ((i + j : Nat) : Int) ∧ 1 ≤ j ∧ i + j ≤ t.length ∧ t.length ≤ 8000 ∧ putText x = (t.drop i).take j := by
  unfold getText at h
  by_cases h1 : (getNum t a).2.2 ≠ 0
  · rw [if_pos h1] at h; simp only [Prod.mk.injEq] at h; exact absurd h.2.2 h1
  · rw [if_neg h1] at h
    by_cases h2 : (getNum t a).1 < 0 ∨ 8000 < (getNum t a).1
    · rw [if_pos h2] at h; simp at h
    · rw [if_neg h2] at h
      by_cases h3 : (t.length : Int) < (getNum t a).2.1 + (getNum t a).1
      · rw [if_pos h3] at h; simp at h
      · rw [if_neg h3] at h
        simp only [Prod.mk.injEq] at h
        rcases getNum_range t a with ⟨_, _, h4, _⟩ | ⟨h4, h5, h6, _⟩
        · omega
        · obtain ⟨i, rfl⟩ := Int.eq_ofNat_of_zero_le h6
          have hg : numAt t i = getNum t i := by
            unfold getNum; rw [if_neg (by omega), if_neg (by omega)]; rfl
          rcases hn : getNum t i with ⟨n, z1, c⟩
          simp only [hn] at h h1 h2 h3 h4
          obtain rfl : c = 0 := by omega
          obtain ⟨j, e1, e2, e3, e4⟩ := numAt_put (hg.trans hn)
          obtain ⟨m, rfl⟩ : ∃ m : Nat, n = m := ⟨n.toNat, by omega⟩
          subst e1
          simp only [Int.toNat_natCast] at h
          have hx : x.length = m := by rw [← h.1, List.length_take, List.length_drop]; omega
          refine ⟨i, j + m, rfl, by rw [← h.2.1]; omega, by omega, by omega, h5, ?_⟩
          unfold putText
          rw [if_pos (by omega), hx, e4, ← h.1, ← take_take_drop]
theorem unseal_put {t x : Bs} {z : Int} (h : unseal_ t = (x, z, 0)) : seal_ x = t := by
  unfold unseal_ at h
  by_cases h1 : 8000 < t.length
  · rw [if_pos h1] at h; simp at h
  · rw [if_neg h1] at h
    by_cases h2 : t.length < 4
    · rw [if_pos h2] at h; simp at h
    · rw [if_neg h2] at h
      by_cases h3 : crcFour (t.take (t.length - 4)) = t.drop (t.length - 4)
      · rw [if_pos h3] at h
        simp only [Prod.mk.injEq] at h
        unfold seal_
        rw [← h.1, if_pos (by rw [List.length_take]; omega), h3, List.take_append_drop]
      · rw [if_neg h3] at h; simp at h
theorem four_ofFour {b : Bs} (h : 4 ≤ b.length) : four (ofFour b) = b.take 4 := by
  match b, h with
  | a :: b :: c :: d :: l, _ =>
    have ha := a.toNat_lt
    have hb := b.toNat_lt
    have hc := c.toNat_lt
    have hd := d.toNat_lt
    simp only [four, ofFour, four4, List.getElem?_cons_zero, List.getElem?_cons_succ, Option.getD_some, List.take_succ_cons, List.take_zero]
    simp only [List.cons.injEq, and_true]
    refine ⟨?_, ?_, ?_, ?_⟩ <;> (apply UInt8.toNat_inj.1; rw [UInt8.toNat_ofNat']; omega)
/-- what a frame was read from is its encoding -/
theorem frameRead_put {t : Bs} {a q z : Int} {x : Bs} (h : frameRead t a = (q, x, z, 0)) :
    ∃ i j : Nat, a = i ∧ z = ((i + j : Nat) : Int) ∧ 1 ≤ j ∧ i + j ≤ t.length ∧ t.length ≤ 8000 ∧ frameOk q x = true ∧ frameBytes q x = (t.drop i).take j := by
  rw [frameRead_eq] at h
  rcases hg : getText t a with ⟨y, z1, c⟩
  rw [hg] at h
  dsimp only at h
  unfold frameOf at h
  dsimp only at h
  by_cases h1 : c ≠ 0
  · rw [if_pos h1] at h; simp only [Prod.mk.injEq] at h; exact absurd h.2.2.2 h1
  · rw [if_neg h1] at h
    obtain rfl : c = 0 := by omega
    rcases hu : unseal_ y with ⟨b, z2, c2⟩
    rw [hu] at h
    dsimp only at h
    by_cases h2 : c2 ≠ 0
    · rw [if_pos h2] at h; simp only [Prod.mk.injEq] at h; exact absurd h.2.2.2 h2
    · rw [if_neg h2] at h
      obtain rfl : c2 = 0 := by omega
      by_cases h3 : b.length < 4
      · rw [if_pos h3] at h; simp at h
      · rw [if_neg h3] at h
        by_cases h4 : frameOk (ofFour b) (b.drop 4) = true
        · rw [if_pos h4] at h
          simp only [Prod.mk.injEq] at h
          obtain ⟨rfl, rfl, rfl, _⟩ := h
          obtain ⟨i, j, e1, e2, e3, e4, e5, e6⟩ := getText_put hg
          refine ⟨i, j, e1, e2, e3, e4, e5, h4, ?_⟩
          unfold frameBytes
          rw [if_pos h4, four_ofFour (by omega), List.take_append_drop, unseal_put hu, e6]
        · rw [if_neg h4] at h; simp at h
theorem frameRead_bad {t : Bs} {a : Int} (h : (frameRead t a).2.2.2 ≠ 0) : frameRead t a = (0, [], 0, (frameRead t a).2.2.2) ∧ 1 ≤ (frameRead t a).2.2.2 ∧ (frameRead t a).2.2.2 ≤ 5 := by
  rw [frameRead_eq] at *
  have r1 := getText_range t a
  have r2 := unseal_range (getText t a).1
  unfold frameOf at *
  by_cases h1 : (getText t a).2.2 ≠ 0
  · simp only [if_pos h1] at *
    refine ⟨trivial, ?_⟩
    rcases r1 with ⟨_, _, r⟩ | ⟨r, _⟩
    · omega
    · exact absurd r h1
  · simp only [if_neg h1] at *
    by_cases h2 : (unseal_ (getText t a).1).2.2 ≠ 0
    · simp only [if_pos h2] at *
      refine ⟨trivial, ?_⟩
      rcases r2 with ⟨_, _, r⟩ | ⟨_, r, _⟩
      · omega
      · exact absurd r h2
    · simp only [if_neg h2] at *
      by_cases h3 : (unseal_ (getText t a).1).1.length < 4
      · simp only [if_pos h3] at *; refine ⟨?_, ?_, ?_⟩ <;> first | trivial | decide
      · simp only [if_neg h3] at *
        by_cases h4 : frameOk (ofFour (unseal_ (getText t a).1).1) ((unseal_ (getText t a).1).1.drop 4) = true
        · simp only [if_pos h4] at h; exact absurd rfl h
        · simp only [if_neg h4] at *; refine ⟨?_, ?_, ?_⟩ <;> first | trivial | decide
theorem frameRead_end {t : Bs} {a : Int} (h : (t.length : Int) ≤ a) : (frameRead t a).2.2.2 ≠ 0 := by
  intro hc
  rcases hf : frameRead t a with ⟨q, x, z, c⟩
  rw [hf] at hc
  dsimp only at hc
  subst hc
  obtain ⟨i, j, e1, e2, e3, e4, _⟩ := frameRead_put hf
  omega

/-! ### logs -/
abbrev Frm := Int × ByteArray
def notUp (fs : List Frm) (q : Int) : Bool := match fs.getLast? with
  | some f => decide (q ≤ f.1)
  | none => false
def logGo (t : Bs) : Nat → Int → List Frm → List Frm × Int
  | 0, a, fs => (fs, a)
  | n + 1, a, fs => if (frameRead t a).2.2.2 ≠ 0 ∨ notUp fs (frameRead t a).1 = true then (fs, a) else logGo t n (frameRead t a).2.2.1 (fs ++ [((frameRead t a).1, bs (frameRead t a).2.1)])
/-- frames, size, code -/
def logRead (t : Bs) : List Frm × Int × Int := if 8000 < t.length then ([], 0, 2) else ((logGo t (t.length + 1) 0 []).1, (logGo t (t.length + 1) 0 []).2, 0)
theorem logGo_end {t : Bs} {a : Int} {fs : List Frm} (n : Nat) (h : (frameRead t a).2.2.2 ≠ 0 ∨ notUp fs (frameRead t a).1 = true) : logGo t n a fs = (fs, a) := by
  cases n with
  | zero => rfl
  | succ n => rw [logGo, if_pos h]
theorem logGo_range (t : Bs) : ∀ (n : Nat) (a : Int) (fs : List Frm), 0 ≤ a → a ≤ t.length → fs.length ≤ a → 0 ≤ (logGo t n a fs).2 ∧ (logGo t n a fs).2 ≤ t.length ∧ ((logGo t n a fs).1.length : Int) ≤ (logGo t n a fs).2
  | 0, a, fs, h0, h1, h2 => ⟨h0, h1, h2⟩
  | n + 1, a, fs, h0, h1, h2 => by
    rw [logGo]
    by_cases h : (frameRead t a).2.2.2 ≠ 0 ∨ notUp fs (frameRead t a).1 = true
    · rw [if_pos h]; exact ⟨h0, h1, h2⟩
    · rw [if_neg h]
      have hc : (frameRead t a).2.2.2 = 0 := by
        by_cases hc : (frameRead t a).2.2.2 = 0
        · exact hc
        · exact absurd (.inl hc) h
      rcases hf : frameRead t a with ⟨q, x, z, c⟩
      rw [hf] at hc
      dsimp only at hc ⊢
      subst hc
      obtain ⟨i, j, rfl, rfl, e3, e4, _⟩ := frameRead_put hf
      exact logGo_range t n _ _ (by omega) (by omega) (by simp; omega)
theorem logRead_range (t : Bs) : 0 ≤ (logRead t).2.1 ∧ (logRead t).2.1 ≤ t.length ∧ (logRead t).1.length ≤ 8000 := by
  unfold logRead
  by_cases h : 8000 < t.length
  · rw [if_pos h]; simp
  · rw [if_neg h]
    have := logGo_range t (t.length + 1) 0 [] (Int.le_refl _) (by omega) (by simp)
    dsimp only
    omega
/-- a slot that holds a frame: read at its head, to its end -/
theorem held_iff {t x : Bs} {q z : Int} (h : frameRead t 0 = (q, x, z, 0)) : frameBytes q x = t ↔ z = t.length := by
  obtain ⟨i, j, e1, rfl, e3, e4, _, _, e5⟩ := frameRead_put h
  obtain rfl : i = 0 := by omega
  rw [e5, List.drop_zero, Nat.zero_add]
  constructor
  · intro e
    have := congrArg List.length e
    rw [List.length_take] at this
    omega
  · intro e
    exact List.take_of_length_le (by omega)
end Go.Proofs.Ythkebpgkhblcjaa.M
namespace Go.Proofs.Ythkebpgkhblcjaa
open Go.RowKit M

theorem own_far {w : World} {base e s n : Nat} {v : Value} {xs : List Value} (h : w.ownsRow base e s v n xs) {b j : Nat} (hb : v.ownBlock ≠ some b) (u : Value) : (w.setCell ⟨b, j, none⟩ u).ownsRow base e s v n xs :=
  h.kept (grown_set (World.grownBy.refl w _) u) (.inr hb)

/-! ### lists of frames: compared, marked -/
def encFrm (f : Frm) : List Value := [.int .i64 f.1, .string f.2]
theorem encFrm_len (f : Frm) : (encFrm f).length = 2 := rfl
theorem info_Frame : (Try.prog.info? 30).map (fun i => (i.zero, i.size, i.bytes)) = some (some (.agg #[.int .i64 0, .string ⟨#[]⟩]), 2, 24) := by kernel_rfl

def fmark (k j : Nat) : Value := if j % 2 = 0 then .int .i64 (k + j : Nat) else .string (bs (mtext (k + j)))
def fmarks (k m : Nat) : List Value := (List.range m).map (fmark k)
theorem fmarks_length (k m : Nat) : (fmarks k m).length = m := by simp [fmarks]
theorem fmarks_get {k m i : Nat} (h : i < m) : (fmarks k m)[i]? = some (fmark k i) := by simp [fmarks, h]
def fmarking (k m : Nat) (xs : List Value) : List Value := fmarks k m ++ xs.drop m
theorem fmarking_length {k m : Nat} {xs : List Value} (h : m ≤ xs.length) : (fmarking k m xs).length = xs.length := by simp [fmarking, fmarks_length]; omega
theorem fmarking_set {k m : Nat} {xs : List Value} (h : m < xs.length) : (fmarking k m xs).set m (fmark k m) = fmarking k (m + 1) xs := by
  unfold fmarking
  rw [List.set_append_right _ _ (by simp [fmarks_length]), fmarks_length, Nat.sub_self]
  rw [List.drop_eq_getElem_cons h]
  simp only [fmarks, List.range_succ, List.map_append, List.map_cons, List.map_nil, List.append_assoc, List.cons_append, List.nil_append]
  rfl
theorem fmarking_zero (k : Nat) (xs : List Value) : fmarking k 0 xs = xs := by simp [fmarking, fmarks]
theorem fmarking_all {k m : Nat} {xs : List Value} (h : xs.length = m) : fmarking k m xs = fmarks k m := by
  unfold fmarking; rw [List.drop_eq_nil_of_le (by omega), List.append_nil]
theorem fmark_even (k j : Nat) : fmark k (j * 2) = .int .i64 (k + j * 2 : Nat) := by unfold fmark; rw [if_pos (by omega)]
theorem fmark_odd (k j : Nat) : fmark k (j * 2 + 1) = .string (bs (mtext (k + (j * 2 + 1)))) := by unfold fmark; rw [if_neg (by omega)]
theorem fmark_step {w wr w1 : World} {base e s g n cap k m : Nat} {xs : List Value} (HO : wr.ownsRow base e s (.slice (some ⟨g, 0, none⟩) n cap) n (fmarking k m xs)) (HG : w.grownBy wr (some g))
    (hb1 : Below wr.heap.size wr w1) (hl : xs.length = n * s) (hm : m < n * s) :
    (∃ u, w1.cell? ⟨g, m, none⟩ = some u) ∧ w1.frozen? ⟨g, m, none⟩ = false ∧
    (∀ u, u = fmark k m → (w1.setCell ⟨g, m, none⟩ u).ownsRow base e s (.slice (some ⟨g, 0, none⟩) n cap) n (fmarking k (m + 1) xs) ∧
      w.grownBy (w1.setCell ⟨g, m, none⟩ u) (some g)) := by
  have O1 := own_keep HO hb1
  refine ⟨?_, O1.frozenAt m, ?_⟩
  · rw [O1.cellAt m hm]
    exact ⟨_, List.getElem?_eq_getElem (by rw [fmarking_length (by omega)]; omega)⟩
  · rintro u rfl
    have h := (O1.stored m (fmark k m)).1
    rw [fmarking_set (by omega)] at h
    exact ⟨h, grown_set (grown_below HG hb1) _⟩

end Go.Proofs.Ythkebpgkhblcjaa
namespace Go.Proofs.Ythkebpgkhblcjaa
open Go.RowKit M

/-- a result of frames, size and code, the frames in memory that the call made -/
def NewLog (w : World) (e : Ending) (w' : World) (x : List Frm × Int × Int) : Prop :=
  ∃ A cap, e = .returned (.agg #[.slice A x.1.length cap, .int .i64 x.2.1, .int .i64 x.2.2]) ∧ w'.ownsRow w.heap.size 30 2 (.slice A x.1.length cap) x.1.length (flat encFrm x.1) ∧ Below w.heap.size w w'
theorem flatF_one (fs : List Frm) : ∀ u ∈ flat encFrm fs, u.oneCell' = true := by
  intro u hu
  simp only [flat, List.mem_flatten, List.mem_map] at hu
  obtain ⟨l, ⟨r, _, rfl⟩, hu⟩ := hu
  simp only [encFrm, List.mem_cons, List.not_mem_nil, or_false] at hu
  rcases hu with rfl | rfl <;> rfl
theorem logRead_long {t : Bs} (h : 8000 < t.length) : logRead t = ([], 0, 2) := if_pos h
theorem logRead_mid {t : Bs} {x : List Frm × Int} (h : ¬ 8000 < t.length) (hx : logGo t (t.length + 1) 0 [] = x) : logRead t = (x.1, x.2, 0) := by unfold logRead; rw [if_neg h, hx]
theorem own_apart_blk {w : World} {g t : Nat} {cs : Array Value} {base e s n g' c : Nat} {xs : List Value} (h : w.ownsRow base e s (.slice (some ⟨g', 0, none⟩) n c) n xs) (hg : Blk w g t cs) (hne : e ≠ t) : g' ≠ g := fun he => by
  have := own_blk_ne h hg hne
  simp [Value.ownBlock, he] at this
/-- the last frame's number, in the row -/
theorem last_cell {w : World} {base g c : Nat} {fs : List Frm} {f : Frm} (h : w.ownsRow base 30 2 (.slice (some ⟨g, 0, none⟩) fs.length c) fs.length (flat encFrm fs)) (hl : fs.getLast? = some f) :
    w.cell? ⟨g, (fs.length - 1) * 2, none⟩ = some (.int .i64 f.1) := by
  have hn : 0 < fs.length := by
    cases fs with
    | nil => simp at hl
    | cons a l => simp
  rw [h.cellAt _ (by omega)]
  have := flat_get encFrm_len fs (fs.length - 1) 0 f (by rw [← hl, List.getLast?_eq_getElem?]) (by omega)
  rw [Nat.add_zero] at this
  rw [this]
  rfl

/-- what a loop over a log keeps -/
structure LogRel (t : Bs) (R : List Frm × Int) (w : World) (B n : Nat) (wr : World) (a : Int) (fs : List Frm) (A : Option Addr) (c : Nat) : Prop where
  lo : 0 ≤ a
  hi : a ≤ t.length
  few : (fs.length : Int) ≤ a
  more : (t.length : Int) < n + a
  go : logGo t n a fs = R
  box : Blk wr B 36 #[.slice A fs.length c, .int .i64 a, .int .i64 0]
  res : Blk wr w.heap.size 36 #[.slice none 0 0, .int .i64 0, .int .i64 0]
  own : wr.ownsRow w.heap.size 30 2 (.slice A fs.length c) fs.length (flat encFrm fs)
  old : Below w.heap.size w wr
  ne : w.heap.size < B

set_option maxRecDepth 100000 in
set_option maxHeartbeats 4000000 in
theorem logRead_s (s : ByteArray) (hs : s.size ≤ maxLen) (w : World) :
    Calls Try.prog 11 #[.string s] w fun e w' => NewLog w e w' (logRead s.data.toList) := by
  have hsz := size_data s
  by_cases hl : 8000 < s.size
  · have HR := Lib.hid (logRead_long (t := s.data.toList) (by omega))
    have hl' : (8000 : Int) < s.size := by omega
    clear hsz hs hl
    go_enter Try.func11, Try.ntmps11
    go_wp2
    refine bodyPost_ret (v := .agg #[.slice none 0 0, .int .i64 0, .int .i64 2]) (by simp [results, Try.results11, go_sem]) rfl ?_
    rw [HR.out]
    exact ⟨none, 0, rfl, World.ownsRow_nil _ _ _ _, by (repeat (first | (with_reducible refine bset ?_ (by first | (simp; done) | (simp; omega)) _) | (with_reducible refine balloc ?_ _) | (with_reducible refine bdrew ?_) | with_reducible exact Below.refl _ _ | (refine bthen ?_ (by with_reducible assumption)) | (refine bthen ?_ (by assumption)) | exact Below.refl _ _))⟩
  · have hl' : ¬ (8000 : Int) < s.size := by omega
    obtain ⟨R, hR⟩ : ∃ R, logGo s.data.toList (s.data.toList.length + 1) 0 [] = R := ⟨_, rfl⟩
    have HR := Lib.hid (logRead_mid (t := s.data.toList) (by omega) hR)
    have HG := Lib.hid hR
    have HF := Lib.hid (frameRead_s s)
    have hS := Lib.hid hs
    have hZ := Lib.hid hsz
    have hn8 : s.size ≤ 8000 := by omega
    clear hR hsz hs
    obtain ⟨i0, hi, hz0, hz1, hz2⟩ := info_parts info_Frame
    go_enter Try.func11, Try.ntmps11
    go_wp2
    go_loopg [4] (s.size + 1) (fun n _ wr => ∃ a fs A c, Hid (LogRel s.data.toList R w (w.heap.size + 1) n wr a fs A c))
    case atStart =>
      refine ⟨0, [], none, 0, Lib.hid ⟨Int.le_refl _, by omega, by simp, by rw [hZ.out]; omega, ?_, ?_, ?_, World.ownsRow_nil _ _ _ _, by (repeat (first | (with_reducible refine bset ?_ (by first | (simp; done) | (simp; omega)) _) | (with_reducible refine balloc ?_ _) | (with_reducible refine bdrew ?_) | with_reducible exact Below.refl _ _ | (refine bthen ?_ (by with_reducible assumption)) | (refine bthen ?_ (by assumption)) | exact Below.refl _ _)), by omega⟩⟩
      · have h := HG.out
        rw [hZ.out] at h
        exact h
      · show Blk _ (w.heap.size + 1) 36 #[.slice none 0 0, .int .i64 0, .int .i64 0]
        (repeat (first | with_reducible assumption | ((with_reducible apply Blk.new'); first | rfl | (simp; done)) | with_reducible apply Blk.set_ | (with_reducible apply Blk.far' (by first | (simp; done) | (simp; omega))) | with_reducible apply Blk.alloc | with_reducible apply Blk.drew))
      · (repeat (first | with_reducible assumption | ((with_reducible apply Blk.new'); first | rfl | (simp; done)) | with_reducible apply Blk.set_ | (with_reducible apply Blk.far' (by first | (simp; done) | (simp; omega))) | with_reducible apply Blk.alloc | with_reducible apply Blk.drew))
    case round =>
      obtain ⟨a, fs, A, c, HL⟩ := hrel
      have X := HL.out
      have B0 := X.box
      have Z0 := X.res
      have O0 := Lib.hid X.own
      have BB := X.old
      have lo := X.lo
      have hi' := X.hi
      have few := X.few
      have more := X.more
      have HGo := Lib.hid X.go
      rw [hZ.out] at hi' more
      clear X HL HG
      have B0c := B0.cell
      have B0f := B0.frozen
      have B0s := B0.lt
      have Z0c := Z0.cell
      have Z0f := Z0.frozen
      have Z0s := Z0.lt
      by_cases ha : a < s.size
      · have hfr := HF.out a (by omega) hS.out
        have hgo1 : gk = gk - 1 + 1 := by omega
        have HGo' := HGo.out
        rw [hgo1, logGo] at HGo'
        have hput : ∀ q x z, frameRead s.data.toList a = (q, x, z, 0) → a < z ∧ z ≤ s.size := fun q x z h => by
          obtain ⟨i, j, e1, e2, e3, e4, _⟩ := frameRead_put h
          rw [hZ.out] at e4
          omega
        have hend := fun h => logGo_end (t := s.data.toList) (a := a) (fs := fs) gk h
        rcases hx : frameRead s.data.toList a with ⟨q, x, z, c0⟩
        rw [hx] at hfr HGo' hput hend
        dsimp only at HGo' hend
        unfold encFO at hfr
        dsimp only at hfr
        have HGo2 := Lib.hid HGo'
        have HEnd := Lib.hid hend
        have HFr := Lib.hid hfr
        clear hx hend hfr HGo' hgo1
        by_cases hc0 : c0 = 0
        · subst hc0
          obtain ⟨hz1', hz2'⟩ := hput q x z rfl
          clear hput
          cases hlast : fs.getLast? with
          | none =>
            have hfs : fs = [] := by simpa using hlast
            subst hfs
            have hpos : ¬ ((0 : Nat) : Int) > 0 := by omega
            have HNext : Hid (logGo s.data.toList (gk - 1) z ([] ++ [(q, bs x)]) = R) := by
              have h := HGo2.out
              rw [if_neg (by simp [notUp])] at h
              exact Lib.hid h
            clear HGo2 HEnd HGo
            simp only [List.length_nil] at *
            go_wp2_with (go_at_call 21; refine (HFr.out _).use.mono ?_; rintro e w1 ⟨rfl, hb1⟩; (apply Blk.use (w := w1) (g := w.heap.size + 1); (focus (apply Blk.lat hb1; (repeat (first | with_reducible assumption | ((with_reducible apply Blk.new'); first | rfl | (simp; done)) | with_reducible apply Blk.set_ | (with_reducible apply Blk.far' (by first | (simp; done) | (simp; omega))) | with_reducible apply Blk.alloc | with_reducible apply Blk.drew)))); intro B1; (try simp only [List.setIfInBounds_toArray, List.set_cons_zero, List.set_cons_succ] at B1); have B1c := B1.cell; have B1f := B1.frozen; have B1s := B1.lt); (apply Blk.use (w := w1) (g := w.heap.size); (focus (apply Blk.lat hb1; (repeat (first | with_reducible assumption | ((with_reducible apply Blk.new'); first | rfl | (simp; done)) | with_reducible apply Blk.set_ | (with_reducible apply Blk.far' (by first | (simp; done) | (simp; omega))) | with_reducible apply Blk.alloc | with_reducible apply Blk.drew)))); intro Z1; (try simp only [List.setIfInBounds_toArray, List.set_cons_zero, List.set_cons_succ] at Z1); have Z1c := Z1.cell; have Z1f := Z1.frozen; have Z1s := Z1.lt))
            refine wp_world ?_
            intro w2 hw2
            (apply Blk.use (w := w2) (g := w.heap.size + 1); (focus (rw [hw2]; (repeat (first | with_reducible assumption | ((with_reducible apply Blk.new'); first | rfl | (simp; done)) | with_reducible apply Blk.set_ | (with_reducible apply Blk.far' (by first | (simp; done) | (simp; omega))) | with_reducible apply Blk.alloc | with_reducible apply Blk.drew)))); intro B2; (try simp only [List.setIfInBounds_toArray, List.set_cons_zero, List.set_cons_succ] at B2); have B2c := B2.cell; have B2f := B2.frozen; have B2s := B2.lt)
            (apply Blk.use (w := w2) (g := w.heap.size); (focus (rw [hw2]; (repeat (first | with_reducible assumption | ((with_reducible apply Blk.new'); first | rfl | (simp; done)) | with_reducible apply Blk.set_ | (with_reducible apply Blk.far' (by first | (simp; done) | (simp; omega))) | with_reducible apply Blk.alloc | with_reducible apply Blk.drew)))); intro Z2; (try simp only [List.setIfInBounds_toArray, List.set_cons_zero, List.set_cons_succ] at Z2); have Z2c := Z2.cell; have Z2f := Z2.frozen; have Z2s := Z2.lt)
            (apply Blk.use (w := w2) (g := w1.heap.size); (focus (rw [hw2]; (repeat (first | with_reducible assumption | ((with_reducible apply Blk.new'); first | rfl | (simp; done)) | with_reducible apply Blk.set_ | (with_reducible apply Blk.far' (by first | (simp; done) | (simp; omega))) | with_reducible apply Blk.alloc | with_reducible apply Blk.drew)))); intro F2; (try simp only [List.setIfInBounds_toArray, List.set_cons_zero, List.set_cons_succ] at F2); have F2c := F2.cell; have F2f := F2.frozen; have F2s := F2.lt)
            have O1 := own_keep O0.out hb1
            have O2 : Hid (w2.ownsRow w.heap.size 30 2 (.slice A 0 c) 0 (flat encFrm ([] : List Frm))) := Lib.hid (by rw [hw2]; (repeat (first | with_reducible assumption | (with_reducible refine own_set ?_ (by first | (simp; done) | (simp; omega)) _) | (with_reducible refine own_alloc ?_ _))))
            have BB2 : Below w.heap.size w w2 := by rw [hw2]; (repeat (first | (with_reducible refine bset ?_ (by first | (simp; done) | (simp; omega)) _) | (with_reducible refine balloc ?_ _) | (with_reducible refine bdrew ?_) | with_reducible exact Below.refl _ _ | (refine bthen ?_ (by with_reducible assumption)) | (refine bthen ?_ (by assumption)) | exact Below.refl _ _))
            clear hw2 O1 hb1 B1 B1c B1f B1s Z1 Z1c Z1f Z1s B0 B0c B0f B0s Z0 Z0c Z0f Z0s BB O0
            have g3 := fun x => F2.atL (i := 3) rfl x
            have GS := fun x => B2.atL (i := 0) rfl x
            refine wp_region_later (by kernel_rfl) (by kernel_rfl) ?_
            repeat (go_big_quiet_step (fail "no call"))
            refine wpQuiet_nil ?_
            rintro _ ⟨y, rfl⟩
            have hy := y.ok
            clear g3 GS
            generalize y.now = w3 at *
            (apply Blk.use (w := w3) (g := w.heap.size + 1); (focus (apply Blk.lat hy; (repeat (first | with_reducible assumption | ((with_reducible apply Blk.new'); first | rfl | (simp; done)) | with_reducible apply Blk.set_ | (with_reducible apply Blk.far' (by first | (simp; done) | (simp; omega))) | with_reducible apply Blk.alloc | with_reducible apply Blk.drew)))); intro B3; (try simp only [List.setIfInBounds_toArray, List.set_cons_zero, List.set_cons_succ] at B3); have B3c := B3.cell; have B3f := B3.frozen; have B3s := B3.lt)
            (apply Blk.use (w := w3) (g := w.heap.size); (focus (apply Blk.lat hy; (repeat (first | with_reducible assumption | ((with_reducible apply Blk.new'); first | rfl | (simp; done)) | with_reducible apply Blk.set_ | (with_reducible apply Blk.far' (by first | (simp; done) | (simp; omega))) | with_reducible apply Blk.alloc | with_reducible apply Blk.drew)))); intro Z3; (try simp only [List.setIfInBounds_toArray, List.set_cons_zero, List.set_cons_succ] at Z3); have Z3c := Z3.cell; have Z3f := Z3.frozen; have Z3s := Z3.lt)
            (apply Blk.use (w := w3) (g := w1.heap.size); (focus (apply Blk.lat hy; (repeat (first | with_reducible assumption | ((with_reducible apply Blk.new'); first | rfl | (simp; done)) | with_reducible apply Blk.set_ | (with_reducible apply Blk.far' (by first | (simp; done) | (simp; omega))) | with_reducible apply Blk.alloc | with_reducible apply Blk.drew)))); intro F3; (try simp only [List.setIfInBounds_toArray, List.set_cons_zero, List.set_cons_succ] at F3); have F3c := F3.cell; have F3f := F3.frozen; have F3s := F3.lt)
            have O3 := own_keep O2.out hy
            have BB3 : Below w.heap.size w w3 := by (repeat (first | (with_reducible refine bset ?_ (by first | (simp; done) | (simp; omega)) _) | (with_reducible refine balloc ?_ _) | (with_reducible refine bdrew ?_) | with_reducible exact Below.refl _ _ | (refine bthen ?_ (by with_reducible assumption)) | (refine bthen ?_ (by assumption)) | exact Below.refl _ _))
            clear hy O2 B2 B2c B2f B2s Z2 Z2c Z2f Z2s F2 F2c F2f F2s BB2
            have hs3 : w.heap.size + 1 < w3.heap.size := B3s
            have hs3' : w1.heap.size < w3.heap.size := F3s
            have O3' := Lib.hid O3
            clear O3
            go_wp2_with (at_builtin; refine wpList_append_lies _ rfl _ _ _ (by rfl) w.heap.size 30 i0 _ 2 24 Try.underlying26 hi hz0 hz1 hz2 (by rfl) (by omega) (.slice A 0 c) 0 (flat encFrm ([] : List Frm)) (by rfl) (O3'.out.alloc _) ⟨w3.heap.size, 0, none⟩ 1 1 [.int .i64 q, .string (bs x)] (by rfl) (by rfl) (World.news_of_block (heap_alloc_new w3 _)) (by intro u hu; simp at hu; rcases hu with rfl | rfl <;> rfl) (by omega) (by unfold maxLen; omega) (by omega) (by simp; omega) (w3.heap.size + 1) (by simp) ?_; intro g cap w4 hown4 hgrow4 hat4 hlt4; (apply Blk.use (w := w4) (g := w.heap.size + 1); (focus (apply Blk.marked (O3'.out.alloc _) hgrow4; (repeat (first | with_reducible assumption | ((with_reducible apply Blk.new'); first | rfl | (simp; done)) | with_reducible apply Blk.set_ | (with_reducible apply Blk.far' (by first | (simp; done) | (simp; omega))) | with_reducible apply Blk.alloc | with_reducible apply Blk.drew)); decide)); intro B4; have B4c := B4.cell; have B4f := B4.frozen; have B4s := B4.lt); (apply Blk.use (w := w4) (g := w.heap.size); (focus (apply Blk.marked (O3'.out.alloc _) hgrow4; (repeat (first | with_reducible assumption | ((with_reducible apply Blk.new'); first | rfl | (simp; done)) | with_reducible apply Blk.set_ | (with_reducible apply Blk.far' (by first | (simp; done) | (simp; omega))) | with_reducible apply Blk.alloc | with_reducible apply Blk.drew)); decide)); intro Z4); (apply Blk.use (w := w4) (g := w1.heap.size); (focus (apply Blk.marked (O3'.out.alloc _) hgrow4; (repeat (first | with_reducible assumption | ((with_reducible apply Blk.new'); first | rfl | (simp; done)) | with_reducible apply Blk.set_ | (with_reducible apply Blk.far' (by first | (simp; done) | (simp; omega))) | with_reducible apply Blk.alloc | with_reducible apply Blk.drew)); decide)); intro F4; have F4c := F4.cell); have BB4 : Below w.heap.size w w4 := (balloc BB3 _).grown hgrow4 (by simp; omega) (fun k hk => by have := O3'.out.lt k hk; omega); have O4 := Lib.hid hown4; clear hown4 hgrow4 hat4 B3 B3c B3f B3s Z3 Z3c Z3f Z3s F3 F3c F3f F3s)
            have hne := own_blk_ne O4.out B4 (by decide)
            go_roundg (gk - 1)
            case measure => omega
            case rel =>
              refine ⟨z, ([] : List Frm) ++ [(q, bs x)], some ⟨g, 0, none⟩, cap, Lib.hid ⟨by omega, by rw [hZ.out]; omega, by simp; omega, by rw [hZ.out]; omega, HNext.out, ?_, ?_, ?_, by (repeat (first | (with_reducible refine bset ?_ (by first | (simp; done) | (simp; omega)) _) | (with_reducible refine balloc ?_ _) | (with_reducible refine bdrew ?_) | with_reducible exact Below.refl _ _ | (refine bthen ?_ (by with_reducible assumption)) | (refine bthen ?_ (by assumption)) | exact Below.refl _ _)), by omega⟩⟩
              · rw [List.length_append]
                exact (B4.set_ 0 _).set_ 1 _
              · exact (Z4.far' (by simp)).far' (by simp)
              · rw [flat_append, List.length_append]
                exact own_far (own_far O4.out hne _) hne _
          | some f =>
            have hn0 : 0 < fs.length := by
              cases fs with
              | nil => simp at hlast
              | cons a l => simp
            have hn0' : (0 : Int) < fs.length := by omega
            obtain ⟨g0, hA, _, _⟩ := own_slice O0.out hn0
            subst hA
            have hidx : (fs.length : Int) - 1 = ((fs.length - 1 : Nat) : Int) := by omega
            have hix : ((fs.length - 1 : Nat) : Int) < fs.length := by omega
            have HLast := Lib.hid hlast
            have hup : notUp fs q = decide (q ≤ f.1) := by unfold notUp; rw [hlast]
            clear hlast
            by_cases hq : q ≤ f.1
            · have HE : Hid (R = (fs, a)) := Lib.hid (HGo.out.symm.trans (HEnd.out (.inr (by rw [hup]; simpa using hq))))
              clear HGo2 HEnd HGo hup
              go_wp2_with (go_at_call 21; refine (HFr.out _).use.mono ?_; rintro e w1 ⟨rfl, hb1⟩; (apply Blk.use (w := w1) (g := w.heap.size + 1); (focus (apply Blk.lat hb1; (repeat (first | with_reducible assumption | ((with_reducible apply Blk.new'); first | rfl | (simp; done)) | with_reducible apply Blk.set_ | (with_reducible apply Blk.far' (by first | (simp; done) | (simp; omega))) | with_reducible apply Blk.alloc | with_reducible apply Blk.drew)))); intro B1; (try simp only [List.setIfInBounds_toArray, List.set_cons_zero, List.set_cons_succ] at B1); have B1c := B1.cell; have B1f := B1.frozen; have B1s := B1.lt); (apply Blk.use (w := w1) (g := w.heap.size); (focus (apply Blk.lat hb1; (repeat (first | with_reducible assumption | ((with_reducible apply Blk.new'); first | rfl | (simp; done)) | with_reducible apply Blk.set_ | (with_reducible apply Blk.far' (by first | (simp; done) | (simp; omega))) | with_reducible apply Blk.alloc | with_reducible apply Blk.drew)))); intro Z1; (try simp only [List.setIfInBounds_toArray, List.set_cons_zero, List.set_cons_succ] at Z1); have Z1c := Z1.cell; have Z1f := Z1.frozen; have Z1s := Z1.lt))
              refine wp_world ?_
              intro w2 hw2
              (apply Blk.use (w := w2) (g := w.heap.size + 1); (focus (rw [hw2]; (repeat (first | with_reducible assumption | ((with_reducible apply Blk.new'); first | rfl | (simp; done)) | with_reducible apply Blk.set_ | (with_reducible apply Blk.far' (by first | (simp; done) | (simp; omega))) | with_reducible apply Blk.alloc | with_reducible apply Blk.drew)))); intro B2; (try simp only [List.setIfInBounds_toArray, List.set_cons_zero, List.set_cons_succ] at B2); have B2c := B2.cell; have B2f := B2.frozen; have B2s := B2.lt)
              (apply Blk.use (w := w2) (g := w.heap.size); (focus (rw [hw2]; (repeat (first | with_reducible assumption | ((with_reducible apply Blk.new'); first | rfl | (simp; done)) | with_reducible apply Blk.set_ | (with_reducible apply Blk.far' (by first | (simp; done) | (simp; omega))) | with_reducible apply Blk.alloc | with_reducible apply Blk.drew)))); intro Z2; (try simp only [List.setIfInBounds_toArray, List.set_cons_zero, List.set_cons_succ] at Z2); have Z2c := Z2.cell; have Z2f := Z2.frozen; have Z2s := Z2.lt)
              (apply Blk.use (w := w2) (g := w1.heap.size); (focus (rw [hw2]; (repeat (first | with_reducible assumption | ((with_reducible apply Blk.new'); first | rfl | (simp; done)) | with_reducible apply Blk.set_ | (with_reducible apply Blk.far' (by first | (simp; done) | (simp; omega))) | with_reducible apply Blk.alloc | with_reducible apply Blk.drew)))); intro F2; (try simp only [List.setIfInBounds_toArray, List.set_cons_zero, List.set_cons_succ] at F2); have F2c := F2.cell; have F2f := F2.frozen; have F2s := F2.lt)
              have O1 := own_keep O0.out hb1
              have O2 : Hid (w2.ownsRow w.heap.size 30 2 (.slice (some ⟨g0, 0, none⟩) fs.length c) fs.length (flat encFrm fs)) := Lib.hid (by rw [hw2]; (repeat (first | with_reducible assumption | (with_reducible refine own_set ?_ (by first | (simp; done) | (simp; omega)) _) | (with_reducible refine own_alloc ?_ _))))
              have BB2 : Below w.heap.size w w2 := by rw [hw2]; (repeat (first | (with_reducible refine bset ?_ (by first | (simp; done) | (simp; omega)) _) | (with_reducible refine balloc ?_ _) | (with_reducible refine bdrew ?_) | with_reducible exact Below.refl _ _ | (refine bthen ?_ (by with_reducible assumption)) | (refine bthen ?_ (by assumption)) | exact Below.refl _ _))
              clear hw2 O1 hb1 B1 B1c B1f B1s Z1 Z1c Z1f Z1s B0 B0c B0f B0s Z0 Z0c Z0f Z0s BB O0
              have g3 := fun x => F2.atL (i := 3) rfl x
              have GS := fun x => B2.atL (i := 0) rfl x
              have G0 := fun x => F2.atL (i := 0) rfl x
              have GL : ∀ y : Later w2, y.now.cell? ⟨g0, (fs.length - 1) * 2, none⟩ = some (.int .i64 f.1) := fun y => last_cell (own_keep O2.out y.ok) HLast.out
              refine wp_region_later (by kernel_rfl) (by kernel_rfl) ?_
              repeat (go_big_quiet_step (fail "no call"))
              refine wpQuiet_nil ?_
              rintro _ ⟨y, rfl⟩
              have hy := y.ok
              clear g3 GS G0 GL
              generalize y.now = w3 at *
              (apply Blk.use (w := w3) (g := w.heap.size + 1); (focus (apply Blk.lat hy; (repeat (first | with_reducible assumption | ((with_reducible apply Blk.new'); first | rfl | (simp; done)) | with_reducible apply Blk.set_ | (with_reducible apply Blk.far' (by first | (simp; done) | (simp; omega))) | with_reducible apply Blk.alloc | with_reducible apply Blk.drew)))); intro B3; (try simp only [List.setIfInBounds_toArray, List.set_cons_zero, List.set_cons_succ] at B3); have B3c := B3.cell; have B3f := B3.frozen; have B3s := B3.lt)
              (apply Blk.use (w := w3) (g := w.heap.size); (focus (apply Blk.lat hy; (repeat (first | with_reducible assumption | ((with_reducible apply Blk.new'); first | rfl | (simp; done)) | with_reducible apply Blk.set_ | (with_reducible apply Blk.far' (by first | (simp; done) | (simp; omega))) | with_reducible apply Blk.alloc | with_reducible apply Blk.drew)))); intro Z3; (try simp only [List.setIfInBounds_toArray, List.set_cons_zero, List.set_cons_succ] at Z3); have Z3c := Z3.cell; have Z3f := Z3.frozen; have Z3s := Z3.lt)
              (apply Blk.use (w := w3) (g := w1.heap.size); (focus (apply Blk.lat hy; (repeat (first | with_reducible assumption | ((with_reducible apply Blk.new'); first | rfl | (simp; done)) | with_reducible apply Blk.set_ | (with_reducible apply Blk.far' (by first | (simp; done) | (simp; omega))) | with_reducible apply Blk.alloc | with_reducible apply Blk.drew)))); intro F3; (try simp only [List.setIfInBounds_toArray, List.set_cons_zero, List.set_cons_succ] at F3); have F3c := F3.cell; have F3f := F3.frozen; have F3s := F3.lt)
              have O3 := own_keep O2.out hy
              have BB3 : Below w.heap.size w w3 := by (repeat (first | (with_reducible refine bset ?_ (by first | (simp; done) | (simp; omega)) _) | (with_reducible refine balloc ?_ _) | (with_reducible refine bdrew ?_) | with_reducible exact Below.refl _ _ | (refine bthen ?_ (by with_reducible assumption)) | (refine bthen ?_ (by assumption)) | exact Below.refl _ _))
              clear hy O2 B2 B2c B2f B2s Z2 Z2c Z2f Z2s F2 F2c F2f F2s BB2
              go_wp2
              refine bp_world ?_
              intro w9 hw9
              (apply Blk.use (w := w9) (g := w.heap.size); (focus (rw [hw9]; (repeat (first | with_reducible assumption | ((with_reducible apply Blk.new'); first | rfl | (simp; done)) | with_reducible apply Blk.set_ | (with_reducible apply Blk.far' (by first | (simp; done) | (simp; omega))) | with_reducible apply Blk.alloc | with_reducible apply Blk.drew)))); intro Z9; (try simp only [List.setIfInBounds_toArray, List.set_cons_zero, List.set_cons_succ] at Z9); have Z9c := Z9.cell; have Z9f := Z9.frozen; have Z9s := Z9.lt)
              have O9 : w9.ownsRow w.heap.size 30 2 (.slice (some ⟨g0, 0, none⟩) fs.length c) fs.length (flat encFrm fs) := by
                rw [hw9]
                have hne := own_blk_ne O3 Z3 (by decide)
                exact own_far (own_far (own_far O3 hne _) hne _) hne _
              have B9 : Below w.heap.size w w9 := by rw [hw9]; (repeat (first | (with_reducible refine bset ?_ (by first | (simp; done) | (simp; omega)) _) | (with_reducible refine balloc ?_ _) | (with_reducible refine bdrew ?_) | with_reducible exact Below.refl _ _ | (refine bthen ?_ (by with_reducible assumption)) | (refine bthen ?_ (by assumption)) | exact Below.refl _ _))
              clear hw9 B3 B3c B3f B3s Z3 Z3c Z3f Z3s O3
              refine bodyPost_ret (v := .agg #[.slice (some ⟨g0, 0, none⟩) fs.length c, .int .i64 a, .int .i64 0]) (by simp [results, Try.results11, go_sem, Z9c]) rfl ?_
              rw [HR.out, HE.out]
              exact ⟨some ⟨g0, 0, none⟩, c, rfl, O9, B9⟩
            · have HNext : Hid (logGo s.data.toList (gk - 1) z (fs ++ [(q, bs x)]) = R) := by
                have h := HGo2.out
                rw [if_neg (by rw [hup]; simpa using hq)] at h
                exact Lib.hid h
              clear HGo2 HEnd HGo hup
              go_wp2_with (go_at_call 21; refine (HFr.out _).use.mono ?_; rintro e w1 ⟨rfl, hb1⟩; (apply Blk.use (w := w1) (g := w.heap.size + 1); (focus (apply Blk.lat hb1; (repeat (first | with_reducible assumption | ((with_reducible apply Blk.new'); first | rfl | (simp; done)) | with_reducible apply Blk.set_ | (with_reducible apply Blk.far' (by first | (simp; done) | (simp; omega))) | with_reducible apply Blk.alloc | with_reducible apply Blk.drew)))); intro B1; (try simp only [List.setIfInBounds_toArray, List.set_cons_zero, List.set_cons_succ] at B1); have B1c := B1.cell; have B1f := B1.frozen; have B1s := B1.lt); (apply Blk.use (w := w1) (g := w.heap.size); (focus (apply Blk.lat hb1; (repeat (first | with_reducible assumption | ((with_reducible apply Blk.new'); first | rfl | (simp; done)) | with_reducible apply Blk.set_ | (with_reducible apply Blk.far' (by first | (simp; done) | (simp; omega))) | with_reducible apply Blk.alloc | with_reducible apply Blk.drew)))); intro Z1; (try simp only [List.setIfInBounds_toArray, List.set_cons_zero, List.set_cons_succ] at Z1); have Z1c := Z1.cell; have Z1f := Z1.frozen; have Z1s := Z1.lt))
              refine wp_world ?_
              intro w2 hw2
              (apply Blk.use (w := w2) (g := w.heap.size + 1); (focus (rw [hw2]; (repeat (first | with_reducible assumption | ((with_reducible apply Blk.new'); first | rfl | (simp; done)) | with_reducible apply Blk.set_ | (with_reducible apply Blk.far' (by first | (simp; done) | (simp; omega))) | with_reducible apply Blk.alloc | with_reducible apply Blk.drew)))); intro B2; (try simp only [List.setIfInBounds_toArray, List.set_cons_zero, List.set_cons_succ] at B2); have B2c := B2.cell; have B2f := B2.frozen; have B2s := B2.lt)
              (apply Blk.use (w := w2) (g := w.heap.size); (focus (rw [hw2]; (repeat (first | with_reducible assumption | ((with_reducible apply Blk.new'); first | rfl | (simp; done)) | with_reducible apply Blk.set_ | (with_reducible apply Blk.far' (by first | (simp; done) | (simp; omega))) | with_reducible apply Blk.alloc | with_reducible apply Blk.drew)))); intro Z2; (try simp only [List.setIfInBounds_toArray, List.set_cons_zero, List.set_cons_succ] at Z2); have Z2c := Z2.cell; have Z2f := Z2.frozen; have Z2s := Z2.lt)
              (apply Blk.use (w := w2) (g := w1.heap.size); (focus (rw [hw2]; (repeat (first | with_reducible assumption | ((with_reducible apply Blk.new'); first | rfl | (simp; done)) | with_reducible apply Blk.set_ | (with_reducible apply Blk.far' (by first | (simp; done) | (simp; omega))) | with_reducible apply Blk.alloc | with_reducible apply Blk.drew)))); intro F2; (try simp only [List.setIfInBounds_toArray, List.set_cons_zero, List.set_cons_succ] at F2); have F2c := F2.cell; have F2f := F2.frozen; have F2s := F2.lt)
              have O1 := own_keep O0.out hb1
              have O2 : Hid (w2.ownsRow w.heap.size 30 2 (.slice (some ⟨g0, 0, none⟩) fs.length c) fs.length (flat encFrm fs)) := Lib.hid (by rw [hw2]; (repeat (first | with_reducible assumption | (with_reducible refine own_set ?_ (by first | (simp; done) | (simp; omega)) _) | (with_reducible refine own_alloc ?_ _))))
              have BB2 : Below w.heap.size w w2 := by rw [hw2]; (repeat (first | (with_reducible refine bset ?_ (by first | (simp; done) | (simp; omega)) _) | (with_reducible refine balloc ?_ _) | (with_reducible refine bdrew ?_) | with_reducible exact Below.refl _ _ | (refine bthen ?_ (by with_reducible assumption)) | (refine bthen ?_ (by assumption)) | exact Below.refl _ _))
              clear hw2 O1 hb1 B1 B1c B1f B1s Z1 Z1c Z1f Z1s B0 B0c B0f B0s Z0 Z0c Z0f Z0s BB O0
              have g3 := fun x => F2.atL (i := 3) rfl x
              have GS := fun x => B2.atL (i := 0) rfl x
              have G0 := fun x => F2.atL (i := 0) rfl x
              have GL : ∀ y : Later w2, y.now.cell? ⟨g0, (fs.length - 1) * 2, none⟩ = some (.int .i64 f.1) := fun y => last_cell (own_keep O2.out y.ok) HLast.out
              refine wp_region_later (by kernel_rfl) (by kernel_rfl) ?_
              repeat (go_big_quiet_step (fail "no call"))
              refine wpQuiet_nil ?_
              rintro _ ⟨y, rfl⟩
              have hy := y.ok
              clear g3 GS G0 GL
              generalize y.now = w3 at *
              (apply Blk.use (w := w3) (g := w.heap.size + 1); (focus (apply Blk.lat hy; (repeat (first | with_reducible assumption | ((with_reducible apply Blk.new'); first | rfl | (simp; done)) | with_reducible apply Blk.set_ | (with_reducible apply Blk.far' (by first | (simp; done) | (simp; omega))) | with_reducible apply Blk.alloc | with_reducible apply Blk.drew)))); intro B3; (try simp only [List.setIfInBounds_toArray, List.set_cons_zero, List.set_cons_succ] at B3); have B3c := B3.cell; have B3f := B3.frozen; have B3s := B3.lt)
              (apply Blk.use (w := w3) (g := w.heap.size); (focus (apply Blk.lat hy; (repeat (first | with_reducible assumption | ((with_reducible apply Blk.new'); first | rfl | (simp; done)) | with_reducible apply Blk.set_ | (with_reducible apply Blk.far' (by first | (simp; done) | (simp; omega))) | with_reducible apply Blk.alloc | with_reducible apply Blk.drew)))); intro Z3; (try simp only [List.setIfInBounds_toArray, List.set_cons_zero, List.set_cons_succ] at Z3); have Z3c := Z3.cell; have Z3f := Z3.frozen; have Z3s := Z3.lt)
              (apply Blk.use (w := w3) (g := w1.heap.size); (focus (apply Blk.lat hy; (repeat (first | with_reducible assumption | ((with_reducible apply Blk.new'); first | rfl | (simp; done)) | with_reducible apply Blk.set_ | (with_reducible apply Blk.far' (by first | (simp; done) | (simp; omega))) | with_reducible apply Blk.alloc | with_reducible apply Blk.drew)))); intro F3; (try simp only [List.setIfInBounds_toArray, List.set_cons_zero, List.set_cons_succ] at F3); have F3c := F3.cell; have F3f := F3.frozen; have F3s := F3.lt)
              have O3 := own_keep O2.out hy
              have BB3 : Below w.heap.size w w3 := by (repeat (first | (with_reducible refine bset ?_ (by first | (simp; done) | (simp; omega)) _) | (with_reducible refine balloc ?_ _) | (with_reducible refine bdrew ?_) | with_reducible exact Below.refl _ _ | (refine bthen ?_ (by with_reducible assumption)) | (refine bthen ?_ (by assumption)) | exact Below.refl _ _))
              clear hy O2 B2 B2c B2f B2s Z2 Z2c Z2f Z2s F2 F2c F2f F2s BB2
              have hs3 : w.heap.size + 1 < w3.heap.size := B3s
              have hs3' : w1.heap.size < w3.heap.size := F3s
              have O3' := Lib.hid O3
              clear O3
              go_wp2_with (at_builtin; refine wpList_append_lies _ rfl _ _ _ (by rfl) w.heap.size 30 i0 _ 2 24 Try.underlying26 hi hz0 hz1 hz2 (by rfl) (by omega) (.slice (some ⟨g0, 0, none⟩) fs.length c) fs.length (flat encFrm fs) (by rfl) (O3'.out.alloc _) ⟨w3.heap.size, 0, none⟩ 1 1 [.int .i64 q, .string (bs x)] (by rfl) (by rfl) (World.news_of_block (heap_alloc_new w3 _)) (by intro u hu; simp at hu; rcases hu with rfl | rfl <;> rfl) (by omega) (by unfold maxLen; omega) (by omega) (by simp; omega) (w3.heap.size + 1) (by simp) ?_; intro g cap w4 hown4 hgrow4 hat4 hlt4; (apply Blk.use (w := w4) (g := w.heap.size + 1); (focus (apply Blk.marked (O3'.out.alloc _) hgrow4; (repeat (first | with_reducible assumption | ((with_reducible apply Blk.new'); first | rfl | (simp; done)) | with_reducible apply Blk.set_ | (with_reducible apply Blk.far' (by first | (simp; done) | (simp; omega))) | with_reducible apply Blk.alloc | with_reducible apply Blk.drew)); decide)); intro B4; have B4c := B4.cell; have B4f := B4.frozen; have B4s := B4.lt); (apply Blk.use (w := w4) (g := w.heap.size); (focus (apply Blk.marked (O3'.out.alloc _) hgrow4; (repeat (first | with_reducible assumption | ((with_reducible apply Blk.new'); first | rfl | (simp; done)) | with_reducible apply Blk.set_ | (with_reducible apply Blk.far' (by first | (simp; done) | (simp; omega))) | with_reducible apply Blk.alloc | with_reducible apply Blk.drew)); decide)); intro Z4); (apply Blk.use (w := w4) (g := w1.heap.size); (focus (apply Blk.marked (O3'.out.alloc _) hgrow4; (repeat (first | with_reducible assumption | ((with_reducible apply Blk.new'); first | rfl | (simp; done)) | with_reducible apply Blk.set_ | (with_reducible apply Blk.far' (by first | (simp; done) | (simp; omega))) | with_reducible apply Blk.alloc | with_reducible apply Blk.drew)); decide)); intro F4; have F4c := F4.cell); have BB4 : Below w.heap.size w w4 := (balloc BB3 _).grown hgrow4 (by simp; omega) (fun k hk => by have := O3'.out.lt k hk; omega); have O4 := Lib.hid hown4; clear hown4 hgrow4 hat4 B3 B3c B3f B3s Z3 Z3c Z3f Z3s F3 F3c F3f F3s)
              have hne := own_blk_ne O4.out B4 (by decide)
              go_roundg (gk - 1)
              case measure => omega
              case rel =>
                refine ⟨z, fs ++ [(q, bs x)], some ⟨g, 0, none⟩, cap, Lib.hid ⟨by omega, by rw [hZ.out]; omega, by simp; omega, by rw [hZ.out]; omega, HNext.out, ?_, ?_, ?_, by (repeat (first | (with_reducible refine bset ?_ (by first | (simp; done) | (simp; omega)) _) | (with_reducible refine balloc ?_ _) | (with_reducible refine bdrew ?_) | with_reducible exact Below.refl _ _ | (refine bthen ?_ (by with_reducible assumption)) | (refine bthen ?_ (by assumption)) | exact Below.refl _ _)), by omega⟩⟩
                · rw [List.length_append]
                  exact (B4.set_ 0 _).set_ 1 _
                · exact (Z4.far' (by simp)).far' (by simp)
                · rw [flat_append, List.length_append]
                  exact own_far (own_far O4.out hne _) hne _
        · have hc : (c0 != 0) = true := by simpa using hc0
          have HE : Hid (R = (fs, a)) := Lib.hid (HGo.out.symm.trans (HEnd.out (.inl hc0)))
          clear hput HGo2 HEnd HGo hc0
          go_wp2_with (go_at_call 21; refine (HFr.out _).use.mono ?_; rintro e w1 ⟨rfl, hb1⟩; (apply Blk.use (w := w1) (g := w.heap.size + 1); (focus (apply Blk.lat hb1; (repeat (first | with_reducible assumption | ((with_reducible apply Blk.new'); first | rfl | (simp; done)) | with_reducible apply Blk.set_ | (with_reducible apply Blk.far' (by first | (simp; done) | (simp; omega))) | with_reducible apply Blk.alloc | with_reducible apply Blk.drew)))); intro B1; (try simp only [List.setIfInBounds_toArray, List.set_cons_zero, List.set_cons_succ] at B1); have B1c := B1.cell; have B1f := B1.frozen; have B1s := B1.lt); (apply Blk.use (w := w1) (g := w.heap.size); (focus (apply Blk.lat hb1; (repeat (first | with_reducible assumption | ((with_reducible apply Blk.new'); first | rfl | (simp; done)) | with_reducible apply Blk.set_ | (with_reducible apply Blk.far' (by first | (simp; done) | (simp; omega))) | with_reducible apply Blk.alloc | with_reducible apply Blk.drew)))); intro Z1; (try simp only [List.setIfInBounds_toArray, List.set_cons_zero, List.set_cons_succ] at Z1); have Z1c := Z1.cell; have Z1f := Z1.frozen; have Z1s := Z1.lt))
          refine wp_world ?_
          intro w2 hw2
          (apply Blk.use (w := w2) (g := w.heap.size + 1); (focus (rw [hw2]; (repeat (first | with_reducible assumption | ((with_reducible apply Blk.new'); first | rfl | (simp; done)) | with_reducible apply Blk.set_ | (with_reducible apply Blk.far' (by first | (simp; done) | (simp; omega))) | with_reducible apply Blk.alloc | with_reducible apply Blk.drew)))); intro B2; (try simp only [List.setIfInBounds_toArray, List.set_cons_zero, List.set_cons_succ] at B2); have B2c := B2.cell; have B2f := B2.frozen; have B2s := B2.lt)
          (apply Blk.use (w := w2) (g := w.heap.size); (focus (rw [hw2]; (repeat (first | with_reducible assumption | ((with_reducible apply Blk.new'); first | rfl | (simp; done)) | with_reducible apply Blk.set_ | (with_reducible apply Blk.far' (by first | (simp; done) | (simp; omega))) | with_reducible apply Blk.alloc | with_reducible apply Blk.drew)))); intro Z2; (try simp only [List.setIfInBounds_toArray, List.set_cons_zero, List.set_cons_succ] at Z2); have Z2c := Z2.cell; have Z2f := Z2.frozen; have Z2s := Z2.lt)
          (apply Blk.use (w := w2) (g := w1.heap.size); (focus (rw [hw2]; (repeat (first | with_reducible assumption | ((with_reducible apply Blk.new'); first | rfl | (simp; done)) | with_reducible apply Blk.set_ | (with_reducible apply Blk.far' (by first | (simp; done) | (simp; omega))) | with_reducible apply Blk.alloc | with_reducible apply Blk.drew)))); intro F2; (try simp only [List.setIfInBounds_toArray, List.set_cons_zero, List.set_cons_succ] at F2); have F2c := F2.cell; have F2f := F2.frozen; have F2s := F2.lt)
          have O1 := own_keep O0.out hb1
          have O2 : Hid (w2.ownsRow w.heap.size 30 2 (.slice A fs.length c) fs.length (flat encFrm fs)) := Lib.hid (by rw [hw2]; (repeat (first | with_reducible assumption | (with_reducible refine own_set ?_ (by first | (simp; done) | (simp; omega)) _) | (with_reducible refine own_alloc ?_ _))))
          have BB2 : Below w.heap.size w w2 := by rw [hw2]; (repeat (first | (with_reducible refine bset ?_ (by first | (simp; done) | (simp; omega)) _) | (with_reducible refine balloc ?_ _) | (with_reducible refine bdrew ?_) | with_reducible exact Below.refl _ _ | (refine bthen ?_ (by with_reducible assumption)) | (refine bthen ?_ (by assumption)) | exact Below.refl _ _))
          clear hw2 O1 hb1 B1 B1c B1f B1s Z1 Z1c Z1f Z1s B0 B0c B0f B0s Z0 Z0c Z0f Z0s BB O0
          have g3 := fun x => F2.atL (i := 3) rfl x
          refine wp_region_later (by kernel_rfl) (by kernel_rfl) ?_
          repeat (go_big_quiet_step (fail "no call"))
          refine wpQuiet_nil ?_
          rintro _ ⟨y, rfl⟩
          have hy := y.ok
          clear g3
          generalize y.now = w3 at *
          (apply Blk.use (w := w3) (g := w.heap.size + 1); (focus (apply Blk.lat hy; (repeat (first | with_reducible assumption | ((with_reducible apply Blk.new'); first | rfl | (simp; done)) | with_reducible apply Blk.set_ | (with_reducible apply Blk.far' (by first | (simp; done) | (simp; omega))) | with_reducible apply Blk.alloc | with_reducible apply Blk.drew)))); intro B3; (try simp only [List.setIfInBounds_toArray, List.set_cons_zero, List.set_cons_succ] at B3); have B3c := B3.cell; have B3f := B3.frozen; have B3s := B3.lt)
          (apply Blk.use (w := w3) (g := w.heap.size); (focus (apply Blk.lat hy; (repeat (first | with_reducible assumption | ((with_reducible apply Blk.new'); first | rfl | (simp; done)) | with_reducible apply Blk.set_ | (with_reducible apply Blk.far' (by first | (simp; done) | (simp; omega))) | with_reducible apply Blk.alloc | with_reducible apply Blk.drew)))); intro Z3; (try simp only [List.setIfInBounds_toArray, List.set_cons_zero, List.set_cons_succ] at Z3); have Z3c := Z3.cell; have Z3f := Z3.frozen; have Z3s := Z3.lt)
          have O3 := own_keep O2.out hy
          have BB3 : Below w.heap.size w w3 := by (repeat (first | (with_reducible refine bset ?_ (by first | (simp; done) | (simp; omega)) _) | (with_reducible refine balloc ?_ _) | (with_reducible refine bdrew ?_) | with_reducible exact Below.refl _ _ | (refine bthen ?_ (by with_reducible assumption)) | (refine bthen ?_ (by assumption)) | exact Below.refl _ _))
          clear hy O2 B2 B2c B2f B2s Z2 Z2c Z2f Z2s F2 F2c F2f F2s BB2
          go_wp2
          refine bp_world ?_
          intro w9 hw9
          (apply Blk.use (w := w9) (g := w.heap.size); (focus (rw [hw9]; (repeat (first | with_reducible assumption | ((with_reducible apply Blk.new'); first | rfl | (simp; done)) | with_reducible apply Blk.set_ | (with_reducible apply Blk.far' (by first | (simp; done) | (simp; omega))) | with_reducible apply Blk.alloc | with_reducible apply Blk.drew)))); intro Z9; (try simp only [List.setIfInBounds_toArray, List.set_cons_zero, List.set_cons_succ] at Z9); have Z9c := Z9.cell; have Z9f := Z9.frozen; have Z9s := Z9.lt)
          have O9 : w9.ownsRow w.heap.size 30 2 (.slice A fs.length c) fs.length (flat encFrm fs) := by
            rw [hw9]
            have hne := own_blk_ne O3 Z3 (by decide)
            exact own_far (own_far (own_far O3 hne _) hne _) hne _
          have B9 : Below w.heap.size w w9 := by rw [hw9]; (repeat (first | (with_reducible refine bset ?_ (by first | (simp; done) | (simp; omega)) _) | (with_reducible refine balloc ?_ _) | (with_reducible refine bdrew ?_) | with_reducible exact Below.refl _ _ | (refine bthen ?_ (by with_reducible assumption)) | (refine bthen ?_ (by assumption)) | exact Below.refl _ _))
          clear hw9 B3 B3c B3f B3s Z3 Z3c Z3f Z3s O3
          refine bodyPost_ret (v := .agg #[.slice A fs.length c, .int .i64 a, .int .i64 0]) (by simp [results, Try.results11, go_sem, Z9c]) rfl ?_
          rw [HR.out, HE.out]
          exact ⟨A, c, rfl, O9, B9⟩
      · have HE : Hid (R = (fs, a)) := Lib.hid (HGo.out.symm.trans (logGo_end gk (.inl (frameRead_end (by rw [hZ.out]; omega)))))
        clear HGo
        go_wp2
        refine bp_world ?_
        intro w9 hw9
        (apply Blk.use (w := w9) (g := w.heap.size); (focus (rw [hw9]; (repeat (first | with_reducible assumption | ((with_reducible apply Blk.new'); first | rfl | (simp; done)) | with_reducible apply Blk.set_ | (with_reducible apply Blk.far' (by first | (simp; done) | (simp; omega))) | with_reducible apply Blk.alloc | with_reducible apply Blk.drew)))); intro Z9; (try simp only [List.setIfInBounds_toArray, List.set_cons_zero, List.set_cons_succ] at Z9); have Z9c := Z9.cell; have Z9f := Z9.frozen; have Z9s := Z9.lt)
        have O9 : w9.ownsRow w.heap.size 30 2 (.slice A fs.length c) fs.length (flat encFrm fs) := by
          rw [hw9]
          have hne := own_blk_ne O0.out Z0 (by decide)
          exact own_far (own_far (own_far O0.out hne _) hne _) hne _
        have B9 : Below w.heap.size w w9 := by rw [hw9]; (repeat (first | (with_reducible refine bset ?_ (by first | (simp; done) | (simp; omega)) _) | (with_reducible refine balloc ?_ _) | (with_reducible refine bdrew ?_) | with_reducible exact Below.refl _ _ | (refine bthen ?_ (by with_reducible assumption)) | (refine bthen ?_ (by assumption)) | exact Below.refl _ _))
        clear hw9 B0 B0c B0f B0s Z0 Z0c Z0f Z0s O0
        refine bodyPost_ret (v := .agg #[.slice A fs.length c, .int .i64 a, .int .i64 0]) (by simp [results, Try.results11, go_sem, Z9c]) rfl ?_
        rw [HR.out, HE.out]
        exact ⟨A, c, rfl, O9, B9⟩
end Go.Proofs.Ythkebpgkhblcjaa
