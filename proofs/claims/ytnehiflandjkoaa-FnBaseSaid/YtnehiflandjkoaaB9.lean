import Derived.Test.YtnehiflandjkoaaB7
import Derived.Deep.RegionHeld3
import Derived.Deep.RegionWith
set_option linter.unusedSimpArgs false
set_option linter.unusedVariables false
namespace Go.Proofs.Ytnehiflandjkoaa
open Go.RowKit M

theorem ncell2 {w : World} {F n i : Nat} {u v : Value} (h : n < F) : ((w.setCell ⟨F, 0, none⟩ u).setCell ⟨F, 1, none⟩ v).cell? ⟨n, i, none⟩ = w.cell? ⟨n, i, none⟩ := by
  have hne : ∀ o, (⟨F, o, none⟩ : Addr) ≠ ⟨n, i, none⟩ := fun o e => by injection e; omega
  rw [World.cell?_setCell_other (h := hne 1), World.cell?_setCell_other (h := hne 0)]
theorem scell2 {w : World} {F : Nat} {u v a b : Value} (h0 : w.cell? ⟨F, 0, none⟩ = some a) (h1 : w.cell? ⟨F, 1, none⟩ = some b) :
    ((w.setCell ⟨F, 0, none⟩ u).setCell ⟨F, 1, none⟩ v).cell? ⟨F, 0, none⟩ = some u ∧ ((w.setCell ⟨F, 0, none⟩ u).setCell ⟨F, 1, none⟩ v).cell? ⟨F, 1, none⟩ = some v := by
  have hne : (⟨F, 1, none⟩ : Addr) ≠ ⟨F, 0, none⟩ := fun e => by injection e; omega
  have hne' : (⟨F, 0, none⟩ : Addr) ≠ ⟨F, 1, none⟩ := fun e => by injection e; omega
  refine ⟨?_, ?_⟩
  · rw [World.cell?_setCell_other (h := hne), World.cell?_setCell_same' (h := by rw [h0]; rfl)]
  · rw [World.cell?_setCell_same' (h := by rw [World.cell?_setCell_other (h := hne'), h1]; rfl)]

set_option maxRecDepth 100000 in
set_option maxHeartbeats 1000000 in
theorem frameRead_i (s : ByteArray) (a : Int) (hs : s.size ≤ maxLen) (w : World) :
    Gives Try.prog 10 #[.string s, .int .i64 a] w (encFO (frameRead s.data.toList a)) := by
  unfold Gives
  have hr := getText_range s.data.toList a
  have hN : ∀ w, Gives Try.prog 52 #[.string s, .int .i64 a] w _ := getText_i s a hs
  have HG := frameRead_eq s.data.toList a
  generalize getText s.data.toList a = x at *
  obtain ⟨t, z, c⟩ := x
  dsimp only at hr HG
  unfold encTO at hN
  dsimp only at hN
  rcases hr with ⟨rfl, rfl, hc⟩ | ⟨rfl, hl, h0, h1, h2, h3⟩
  · have hc' : (c == 0) = false := by simp; omega
    have HR : Hid (frameRead s.data.toList a = (0, [], 0, c)) := by rw [HG]; unfold frameOf; rw [if_pos (show c ≠ 0 by omega)]; exact Lib.hid rfl
    clear HG hs
    go_enter Try.func10, Try.ntmps10
    go_wp2_with (go_at_call 52; refine (hN _).use.mono ?_; rintro e w1 ⟨rfl, hb1⟩; obtain ⟨hc1, hf1, hs1⟩ := bcell1 hb1)
    refine bodyPost_ret (v := .agg #[.int .i64 0, .string ⟨#[]⟩, .int .i64 0, .int .i64 c]) (by simp [results, Try.results10, go_sem, hc1, hs1]) rfl ⟨by rw [HR.out]; rfl, ?_⟩
    (repeat (first | (with_reducible refine bset ?_ (by first | (simp; done) | (simp; omega)) _) | (with_reducible refine balloc ?_ _) | (with_reducible refine bdrew ?_) | with_reducible exact Below.refl _ _ | (refine bthen ?_ (by with_reducible assumption)) | (refine bthen ?_ (by assumption)) | exact Below.refl _ _))
  · have hr2 := unseal_range t
    have hU : ∀ w, Gives Try.prog 53 #[.string (bs t)] w _ := unseal_i (bs t) (by rw [size_bs]; unfold maxLen; omega)
    rw [data_bs] at hU
    generalize unseal_ t = y at *
    obtain ⟨b, z2, c2⟩ := y
    dsimp only at hr2
    unfold encTO at hU
    dsimp only at hU
    rcases hr2 with ⟨rfl, rfl, hc⟩ | ⟨rfl, rfl, hl2, hb⟩
    · have hc' : (c2 == 0) = false := by simp; omega
      have HR : Hid (frameRead s.data.toList a = (0, [], 0, c2)) := by rw [HG]; unfold frameOf; rw [if_neg (by simp), if_pos (show c2 ≠ 0 by omega)]; exact Lib.hid rfl
      clear HG hs
      go_enter Try.func10, Try.ntmps10
      go_wp2_with (first
        | (go_at_call 52; refine (hN _).use.mono ?_; rintro e w1 ⟨rfl, hb1⟩; obtain ⟨hc1, hf1, hs1⟩ := bcell1 hb1)
        | ((go_at_call 53; refine (hU _).use.mono ?_; rintro e w2 ⟨rfl, hb2⟩; obtain ⟨hc2, hf2, hs2⟩ := bcell1 hb2); have hs02 := Nat.lt_trans hs1 hs2; have k := kept2 hb2 hs1))
      refine bodyPost_ret (v := .agg #[.int .i64 0, .string ⟨#[]⟩, .int .i64 0, .int .i64 c2]) (by simp [results, Try.results10, go_sem, hc1, k, hs1, hs02]) rfl ⟨by rw [HR.out]; rfl, ?_⟩
      (repeat (first | (with_reducible refine bset ?_ (by first | (simp; done) | (simp; omega)) _) | (with_reducible refine balloc ?_ _) | (with_reducible refine bdrew ?_) | with_reducible exact Below.refl _ _ | (refine bthen ?_ (by with_reducible assumption)) | (refine bthen ?_ (by assumption)) | exact Below.refl _ _))
    · unfold frameOf at HG
      rw [if_neg (by simp), if_neg (by simp)] at HG
      dsimp only at HG
      by_cases h4 : b.length < 4
      · rw [if_pos h4] at HG
        have HR := Lib.hid HG
        have h4' : (b.length : Int) < 4 := by omega
        clear HG hs
        go_enter Try.func10, Try.ntmps10
        go_wp2_with (first
          | (go_at_call 52; refine (hN _).use.mono ?_; rintro e w1 ⟨rfl, hb1⟩; obtain ⟨hc1, hf1, hs1⟩ := bcell1 hb1)
          | ((go_at_call 53; refine (hU _).use.mono ?_; rintro e w2 ⟨rfl, hb2⟩; obtain ⟨hc2, hf2, hs2⟩ := bcell1 hb2); have hs02 := Nat.lt_trans hs1 hs2; have k := kept2 hb2 hs1))
        refine bodyPost_ret (v := .agg #[.int .i64 0, .string ⟨#[]⟩, .int .i64 0, .int .i64 3]) (by simp [results, Try.results10, go_sem, hc1, k, hs1, hs02]) rfl ⟨by rw [HR.out]; rfl, ?_⟩
        (repeat (first | (with_reducible refine bset ?_ (by first | (simp; done) | (simp; omega)) _) | (with_reducible refine balloc ?_ _) | (with_reducible refine bdrew ?_) | with_reducible exact Below.refl _ _ | (refine bthen ?_ (by with_reducible assumption)) | (refine bthen ?_ (by assumption)) | exact Below.refl _ _))
      · rw [if_neg h4] at HG
        have h4' : ¬ (b.length : Int) < 4 := by omega
        have h4'' : 4 ≤ b.length := by omega
        have hx2 : (bs b).extract 4 b.length = bs (b.drop 4) := by rw [extract_bs, List.take_of_length_le (by rw [List.length_drop, data_bs]; omega), data_bs]
        have hF : ∀ w, Gives Try.prog 54 #[.string (bs b)] w (.int .i64 (ofFour b)) := ofFour_i (bs b) (by rw [size_bs]; omega)
        have hK : ∀ w, Gives Try.prog 38 #[.agg #[.int .i64 (ofFour b), .string (bs (b.drop 4))]] w (.bool (frameOk (ofFour b) (b.drop 4))) := frameRight_i _ (bs (b.drop 4))
        generalize ofFour b = q at *
        by_cases hq : frameOk q (b.drop 4) = true
        · rw [if_pos hq] at HG
          rw [hq] at hK
          have HR := Lib.hid HG
          clear HG hs
          go_enter Try.func10, Try.ntmps10
          go_wp2_with (first
            | (go_at_call 52; refine (hN _).use.mono ?_; rintro e w1 ⟨rfl, hb1⟩; obtain ⟨hc1, hf1, hs1⟩ := bcell1 hb1)
            | ((go_at_call 53; refine (hU _).use.mono ?_; rintro e w2 ⟨rfl, hb2⟩; obtain ⟨hc2, hf2, hs2⟩ := bcell1 hb2); have hs02 := Nat.lt_trans hs1 hs2; have k := kept2 hb2 hs1))
          have e0 : (w2.alloc (.cells #[.string (bs b), .int .i64 0, .int .i64 0] 71)).cell? ⟨w2.heap.size, 0, none⟩ = some (.string (bs b)) := by simp [World.cell?_alloc_new]
          have s3 : w2.heap.size < (w2.alloc (.cells #[.string (bs b), .int .i64 0, .int .i64 0] 71)).heap.size := by simp
          have B3 := bthen (bthen (bnew _ _) hb1) (bthen (bnew _ _) hb2)
          have B3 := balloc B3 (.cells #[.string (bs b), .int .i64 0, .int .i64 0] 71)
          have k0 : ∀ i, (w2.alloc (.cells #[.string (bs b), .int .i64 0, .int .i64 0] 71)).cell? ⟨w.heap.size, i, none⟩ = (#[Value.int .i64 0, .string ⟨#[]⟩, .int .i64 0, .int .i64 0] : Array Value)[i]? := fun i => by simp [go_sem, hs02, k, hc1]
          have k1 : ∀ i, (w2.alloc (.cells #[.string (bs b), .int .i64 0, .int .i64 0] 71)).cell? ⟨w1.heap.size, i, none⟩ = (#[Value.string (bs t), .int .i64 z, .int .i64 0] : Array Value)[i]? := fun i => by simp [go_sem, hs2, hc2]
          have z0 : ∀ i, (w2.alloc (.cells #[.string (bs b), .int .i64 0, .int .i64 0] 71)).frozen? ⟨w.heap.size, i, none⟩ = false := fun i => by simp [go_sem, hs02, hs1, Nat.le_of_lt hs1, hf2, hf1]
          generalize w2.alloc (.cells #[.string (bs b), .int .i64 0, .int .i64 0] 71) = w3 at *
          clear hc1 hf1 hc2 hf2 k hb1 hb2
          have s0 : w.heap.size < w3.heap.size := Nat.lt_trans hs02 s3
          have s1 : w1.heap.size < w3.heap.size := Nat.lt_trans hs2 s3
          go_region_held3 (fun w' => w'.cell? ⟨w2.heap.size, 0, none⟩ = some (.string (bs b))) (first | exact qq | exact e0 | exact (World.cell?_alloc_some _ _ _ (by rw [qq]; rfl)).trans qq | exact set2 (set2 qq (by exact Nat.ne_of_gt s3) _) (by exact Nat.ne_of_gt s3) _ | exact set2 (set2 ((World.cell?_alloc_some _ _ _ (by rw [qq]; rfl)).trans qq) (by exact Nat.ne_of_gt s24) _) (by exact Nat.ne_of_gt s24) _ | (simp [go_sem, e0, s3]) | (trace_state; fail)) (first | (go_at_call 54; refine (hF _).use.mono ?_; rintro e w4 ⟨rfl, hb4⟩; obtain ⟨hc4, hf4⟩ := bcell hb4; have s4 := hb4.size; have s24 : w2.heap.size < w4.heap.size := (by simp at s4; omega); have qq : w4.cell? ⟨w2.heap.size, 0, none⟩ = some (.string (bs b)) := (by rw [(bcell hb4).1 _ _ (by simp; omega)]; simp [go_sem, e0, s3])))
          · have r0 : ∀ i, (w4.alloc (.cells #[.int .i64 q, .string (bs (b.drop 4))] 24)).cell? ⟨w.heap.size, i, none⟩ = (#[Value.int .i64 0, .string ⟨#[]⟩, .int .i64 0, .int .i64 0] : Array Value)[i]? := fun i => by
              rw [World.cell?_alloc_past (hn := by simp at s4; omega), hc4 _ _ (by simp; omega), ← k0 i]; rfl
            have r1 : ∀ i, (w4.alloc (.cells #[.int .i64 q, .string (bs (b.drop 4))] 24)).cell? ⟨w1.heap.size, i, none⟩ = (#[Value.string (bs t), .int .i64 z, .int .i64 0] : Array Value)[i]? := fun i => by
              rw [World.cell?_alloc_past (hn := by simp at s4; omega), hc4 _ _ (by simp; omega), ← k1 i]; rfl
            have y0 : ∀ i, (w4.alloc (.cells #[.int .i64 q, .string (bs (b.drop 4))] 24)).frozen? ⟨w.heap.size, i, none⟩ = false := fun i => by
              rw [World.frozen?_alloc_old (h := by simp at s4 ⊢; omega), hf4 _ _ (by simp; omega), ← z0 i]; rfl
            have f0 : (w4.alloc (.cells #[.int .i64 q, .string (bs (b.drop 4))] 24)).cell? ⟨w4.heap.size, 0, none⟩ = some (.int .i64 q) := by simp [World.cell?_alloc_new]
            have f1 : (w4.alloc (.cells #[.int .i64 q, .string (bs (b.drop 4))] 24)).cell? ⟨w4.heap.size, 1, none⟩ = some (.string (bs (b.drop 4))) := by simp [World.cell?_alloc_new]
            have sF : w4.heap.size < (w4.alloc (.cells #[.int .i64 q, .string (bs (b.drop 4))] 24)).heap.size := by simp
            have sf0 : w.heap.size < w4.heap.size := by simp at s4; omega
            have sf1 : w1.heap.size < w4.heap.size := by simp at s4; omega
            have sW0 : w.heap.size < (w4.alloc (.cells #[.int .i64 q, .string (bs (b.drop 4))] 24)).heap.size := by simp at s4 ⊢; omega
            have sW1 : w1.heap.size < (w4.alloc (.cells #[.int .i64 q, .string (bs (b.drop 4))] 24)).heap.size := by simp at s4 ⊢; omega
            have B4 := balloc (bthen (bdrew B3) hb4) (.cells #[.int .i64 q, .string (bs (b.drop 4))] 24)
            generalize w4.alloc (.cells #[.int .i64 q, .string (bs (b.drop 4))] 24) = W at *
            clear hc4 hf4 hb4 qq s4 s24
            generalize w4.heap.size = F at *
            go_wp2_with (go_at_call 38; refine (hK _).use.mono ?_; rintro e w5 ⟨rfl, hb5⟩; obtain ⟨hc5, hf5⟩ := bcell hb5)
            first | go_region | skip
            all_goals go_wp2
            refine bodyPost_ret (v := .agg #[.int .i64 q, .string (bs (b.drop 4)), .int .i64 z, .int .i64 0]) (by simp [results, Try.results10, go_sem, hc5, r0, sW0]) rfl ⟨by rw [HR.out]; rfl, ?_⟩
            (repeat (first | (with_reducible refine bset ?_ (by first | (simp; done) | (simp; omega)) _) | (with_reducible refine balloc ?_ _) | (with_reducible refine bdrew ?_) | with_reducible exact Below.refl _ _ | (refine bthen ?_ (by with_reducible assumption)) | (refine bthen ?_ (by assumption)) | exact Below.refl _ _))
          · have c0 : w4.cell? ⟨w3.heap.size, 0, none⟩ = some (.int .i64 0) := by rw [hc4 _ _ (by simp)]; simp [go_sem]
            have c1 : w4.cell? ⟨w3.heap.size, 1, none⟩ = some (.string ⟨#[]⟩) := by rw [hc4 _ _ (by simp)]; simp [go_sem]
            have r0 : ∀ i, ((w4.setCell ⟨w3.heap.size, 0, none⟩ (.int .i64 q)).setCell ⟨w3.heap.size, 1, none⟩ (.string (bs (b.drop 4)))).cell? ⟨w.heap.size, i, none⟩ = (#[Value.int .i64 0, .string ⟨#[]⟩, .int .i64 0, .int .i64 0] : Array Value)[i]? := fun i => by
              rw [ncell2 s0, hc4 _ _ (by simp; omega), ← k0 i]; simp [go_sem, s0]
            have r1 : ∀ i, ((w4.setCell ⟨w3.heap.size, 0, none⟩ (.int .i64 q)).setCell ⟨w3.heap.size, 1, none⟩ (.string (bs (b.drop 4)))).cell? ⟨w1.heap.size, i, none⟩ = (#[Value.string (bs t), .int .i64 z, .int .i64 0] : Array Value)[i]? := fun i => by
              rw [ncell2 s1, hc4 _ _ (by simp; omega), ← k1 i]; simp [go_sem, s1]
            have y0 : ∀ i, ((w4.setCell ⟨w3.heap.size, 0, none⟩ (.int .i64 q)).setCell ⟨w3.heap.size, 1, none⟩ (.string (bs (b.drop 4)))).frozen? ⟨w.heap.size, i, none⟩ = false := fun i => by
              have h : w4.frozen? ⟨w.heap.size, i, none⟩ = false := by rw [hf4 _ _ (by simp; omega), ← z0 i]; simp [go_sem, s0]
              simpa [go_sem] using h
            have f0 : ((w4.setCell ⟨w3.heap.size, 0, none⟩ (.int .i64 q)).setCell ⟨w3.heap.size, 1, none⟩ (.string (bs (b.drop 4)))).cell? ⟨w3.heap.size, 0, none⟩ = some (.int .i64 q) := (scell2 c0 c1).1
            have f1 : ((w4.setCell ⟨w3.heap.size, 0, none⟩ (.int .i64 q)).setCell ⟨w3.heap.size, 1, none⟩ (.string (bs (b.drop 4)))).cell? ⟨w3.heap.size, 1, none⟩ = some (.string (bs (b.drop 4))) := (scell2 c0 c1).2
            have sF : w3.heap.size < ((w4.setCell ⟨w3.heap.size, 0, none⟩ (.int .i64 q)).setCell ⟨w3.heap.size, 1, none⟩ (.string (bs (b.drop 4)))).heap.size := by simp at s4 ⊢; omega
            have sf0 : w.heap.size < w3.heap.size := s0
            have sf1 : w1.heap.size < w3.heap.size := s1
            have sW0 : w.heap.size < ((w4.setCell ⟨w3.heap.size, 0, none⟩ (.int .i64 q)).setCell ⟨w3.heap.size, 1, none⟩ (.string (bs (b.drop 4)))).heap.size := by simp at s4 ⊢; omega
            have sW1 : w1.heap.size < ((w4.setCell ⟨w3.heap.size, 0, none⟩ (.int .i64 q)).setCell ⟨w3.heap.size, 1, none⟩ (.string (bs (b.drop 4)))).heap.size := by simp at s4 ⊢; omega
            have B4 := bset (bset (bthen (bdrew (balloc B3 (.cells #[.int .i64 0, .string ⟨#[]⟩] 24))) hb4) (p := ⟨w3.heap.size, 0, none⟩) (Nat.le_of_lt s0) (.int .i64 q)) (p := ⟨w3.heap.size, 1, none⟩) (Nat.le_of_lt s0) (.string (bs (b.drop 4)))
            generalize ((w4.setCell ⟨w3.heap.size, 0, none⟩ (.int .i64 q)).setCell ⟨w3.heap.size, 1, none⟩ (.string (bs (b.drop 4)))) = W at *
            clear hc4 hf4 hb4 qq s4 s24 c0 c1 k0 k1 z0
            generalize w3.heap.size = F at *
            go_wp2_with (go_at_call 38; refine (hK _).use.mono ?_; rintro e w5 ⟨rfl, hb5⟩; obtain ⟨hc5, hf5⟩ := bcell hb5)
            first | go_region | skip
            all_goals go_wp2
            refine bodyPost_ret (v := .agg #[.int .i64 q, .string (bs (b.drop 4)), .int .i64 z, .int .i64 0]) (by simp [results, Try.results10, go_sem, hc5, r0, sW0]) rfl ⟨by rw [HR.out]; rfl, ?_⟩
            (repeat (first | (with_reducible refine bset ?_ (by first | (simp; done) | (simp; omega)) _) | (with_reducible refine balloc ?_ _) | (with_reducible refine bdrew ?_) | with_reducible exact Below.refl _ _ | (refine bthen ?_ (by with_reducible assumption)) | (refine bthen ?_ (by assumption)) | exact Below.refl _ _))
        · rw [if_neg hq] at HG
          rw [show frameOk q (b.drop 4) = false by simpa using hq] at hK
          have HR := Lib.hid HG
          clear HG hs
          go_enter Try.func10, Try.ntmps10
          go_wp2_with (first
            | (go_at_call 52; refine (hN _).use.mono ?_; rintro e w1 ⟨rfl, hb1⟩; obtain ⟨hc1, hf1, hs1⟩ := bcell1 hb1)
            | ((go_at_call 53; refine (hU _).use.mono ?_; rintro e w2 ⟨rfl, hb2⟩; obtain ⟨hc2, hf2, hs2⟩ := bcell1 hb2); have hs02 := Nat.lt_trans hs1 hs2; have k := kept2 hb2 hs1))
          have e0 : (w2.alloc (.cells #[.string (bs b), .int .i64 0, .int .i64 0] 71)).cell? ⟨w2.heap.size, 0, none⟩ = some (.string (bs b)) := by simp [World.cell?_alloc_new]
          have s3 : w2.heap.size < (w2.alloc (.cells #[.string (bs b), .int .i64 0, .int .i64 0] 71)).heap.size := by simp
          have B3 := bthen (bthen (bnew _ _) hb1) (bthen (bnew _ _) hb2)
          have B3 := balloc B3 (.cells #[.string (bs b), .int .i64 0, .int .i64 0] 71)
          have k0 : ∀ i, (w2.alloc (.cells #[.string (bs b), .int .i64 0, .int .i64 0] 71)).cell? ⟨w.heap.size, i, none⟩ = (#[Value.int .i64 0, .string ⟨#[]⟩, .int .i64 0, .int .i64 0] : Array Value)[i]? := fun i => by simp [go_sem, hs02, k, hc1]
          have k1 : ∀ i, (w2.alloc (.cells #[.string (bs b), .int .i64 0, .int .i64 0] 71)).cell? ⟨w1.heap.size, i, none⟩ = (#[Value.string (bs t), .int .i64 z, .int .i64 0] : Array Value)[i]? := fun i => by simp [go_sem, hs2, hc2]
          have z0 : ∀ i, (w2.alloc (.cells #[.string (bs b), .int .i64 0, .int .i64 0] 71)).frozen? ⟨w.heap.size, i, none⟩ = false := fun i => by simp [go_sem, hs02, hs1, Nat.le_of_lt hs1, hf2, hf1]
          generalize w2.alloc (.cells #[.string (bs b), .int .i64 0, .int .i64 0] 71) = w3 at *
          clear hc1 hf1 hc2 hf2 k hb1 hb2
          have s0 : w.heap.size < w3.heap.size := Nat.lt_trans hs02 s3
          have s1 : w1.heap.size < w3.heap.size := Nat.lt_trans hs2 s3
          go_region_held3 (fun w' => w'.cell? ⟨w2.heap.size, 0, none⟩ = some (.string (bs b))) (first | exact qq | exact e0 | exact (World.cell?_alloc_some _ _ _ (by rw [qq]; rfl)).trans qq | exact set2 (set2 qq (by exact Nat.ne_of_gt s3) _) (by exact Nat.ne_of_gt s3) _ | exact set2 (set2 ((World.cell?_alloc_some _ _ _ (by rw [qq]; rfl)).trans qq) (by exact Nat.ne_of_gt s24) _) (by exact Nat.ne_of_gt s24) _ | (simp [go_sem, e0, s3]) | (trace_state; fail)) (first | (go_at_call 54; refine (hF _).use.mono ?_; rintro e w4 ⟨rfl, hb4⟩; obtain ⟨hc4, hf4⟩ := bcell hb4; have s4 := hb4.size; have s24 : w2.heap.size < w4.heap.size := (by simp at s4; omega); have qq : w4.cell? ⟨w2.heap.size, 0, none⟩ = some (.string (bs b)) := (by rw [(bcell hb4).1 _ _ (by simp; omega)]; simp [go_sem, e0, s3])))
          · have r0 : ∀ i, (w4.alloc (.cells #[.int .i64 q, .string (bs (b.drop 4))] 24)).cell? ⟨w.heap.size, i, none⟩ = (#[Value.int .i64 0, .string ⟨#[]⟩, .int .i64 0, .int .i64 0] : Array Value)[i]? := fun i => by
              rw [World.cell?_alloc_past (hn := by simp at s4; omega), hc4 _ _ (by simp; omega), ← k0 i]; rfl
            have r1 : ∀ i, (w4.alloc (.cells #[.int .i64 q, .string (bs (b.drop 4))] 24)).cell? ⟨w1.heap.size, i, none⟩ = (#[Value.string (bs t), .int .i64 z, .int .i64 0] : Array Value)[i]? := fun i => by
              rw [World.cell?_alloc_past (hn := by simp at s4; omega), hc4 _ _ (by simp; omega), ← k1 i]; rfl
            have y0 : ∀ i, (w4.alloc (.cells #[.int .i64 q, .string (bs (b.drop 4))] 24)).frozen? ⟨w.heap.size, i, none⟩ = false := fun i => by
              rw [World.frozen?_alloc_old (h := by simp at s4 ⊢; omega), hf4 _ _ (by simp; omega), ← z0 i]; rfl
            have f0 : (w4.alloc (.cells #[.int .i64 q, .string (bs (b.drop 4))] 24)).cell? ⟨w4.heap.size, 0, none⟩ = some (.int .i64 q) := by simp [World.cell?_alloc_new]
            have f1 : (w4.alloc (.cells #[.int .i64 q, .string (bs (b.drop 4))] 24)).cell? ⟨w4.heap.size, 1, none⟩ = some (.string (bs (b.drop 4))) := by simp [World.cell?_alloc_new]
            have sF : w4.heap.size < (w4.alloc (.cells #[.int .i64 q, .string (bs (b.drop 4))] 24)).heap.size := by simp
            have sf0 : w.heap.size < w4.heap.size := by simp at s4; omega
            have sf1 : w1.heap.size < w4.heap.size := by simp at s4; omega
            have sW0 : w.heap.size < (w4.alloc (.cells #[.int .i64 q, .string (bs (b.drop 4))] 24)).heap.size := by simp at s4 ⊢; omega
            have sW1 : w1.heap.size < (w4.alloc (.cells #[.int .i64 q, .string (bs (b.drop 4))] 24)).heap.size := by simp at s4 ⊢; omega
            have B4 := balloc (bthen (bdrew B3) hb4) (.cells #[.int .i64 q, .string (bs (b.drop 4))] 24)
            generalize w4.alloc (.cells #[.int .i64 q, .string (bs (b.drop 4))] 24) = W at *
            clear hc4 hf4 hb4 qq s4 s24
            generalize w4.heap.size = F at *
            go_wp2_with (go_at_call 38; refine (hK _).use.mono ?_; rintro e w5 ⟨rfl, hb5⟩; obtain ⟨hc5, hf5⟩ := bcell hb5)
            refine bodyPost_ret (v := .agg #[.int .i64 0, .string ⟨#[]⟩, .int .i64 0, .int .i64 3]) (by simp [results, Try.results10, go_sem, hc5, r0, sW0]) rfl ⟨by rw [HR.out]; rfl, ?_⟩
            (repeat (first | (with_reducible refine bset ?_ (by first | (simp; done) | (simp; omega)) _) | (with_reducible refine balloc ?_ _) | (with_reducible refine bdrew ?_) | with_reducible exact Below.refl _ _ | (refine bthen ?_ (by with_reducible assumption)) | (refine bthen ?_ (by assumption)) | exact Below.refl _ _))
          · have c0 : w4.cell? ⟨w3.heap.size, 0, none⟩ = some (.int .i64 0) := by rw [hc4 _ _ (by simp)]; simp [go_sem]
            have c1 : w4.cell? ⟨w3.heap.size, 1, none⟩ = some (.string ⟨#[]⟩) := by rw [hc4 _ _ (by simp)]; simp [go_sem]
            have r0 : ∀ i, ((w4.setCell ⟨w3.heap.size, 0, none⟩ (.int .i64 q)).setCell ⟨w3.heap.size, 1, none⟩ (.string (bs (b.drop 4)))).cell? ⟨w.heap.size, i, none⟩ = (#[Value.int .i64 0, .string ⟨#[]⟩, .int .i64 0, .int .i64 0] : Array Value)[i]? := fun i => by
              rw [ncell2 s0, hc4 _ _ (by simp; omega), ← k0 i]; simp [go_sem, s0]
            have r1 : ∀ i, ((w4.setCell ⟨w3.heap.size, 0, none⟩ (.int .i64 q)).setCell ⟨w3.heap.size, 1, none⟩ (.string (bs (b.drop 4)))).cell? ⟨w1.heap.size, i, none⟩ = (#[Value.string (bs t), .int .i64 z, .int .i64 0] : Array Value)[i]? := fun i => by
              rw [ncell2 s1, hc4 _ _ (by simp; omega), ← k1 i]; simp [go_sem, s1]
            have y0 : ∀ i, ((w4.setCell ⟨w3.heap.size, 0, none⟩ (.int .i64 q)).setCell ⟨w3.heap.size, 1, none⟩ (.string (bs (b.drop 4)))).frozen? ⟨w.heap.size, i, none⟩ = false := fun i => by
              have h : w4.frozen? ⟨w.heap.size, i, none⟩ = false := by rw [hf4 _ _ (by simp; omega), ← z0 i]; simp [go_sem, s0]
              simpa [go_sem] using h
            have f0 : ((w4.setCell ⟨w3.heap.size, 0, none⟩ (.int .i64 q)).setCell ⟨w3.heap.size, 1, none⟩ (.string (bs (b.drop 4)))).cell? ⟨w3.heap.size, 0, none⟩ = some (.int .i64 q) := (scell2 c0 c1).1
            have f1 : ((w4.setCell ⟨w3.heap.size, 0, none⟩ (.int .i64 q)).setCell ⟨w3.heap.size, 1, none⟩ (.string (bs (b.drop 4)))).cell? ⟨w3.heap.size, 1, none⟩ = some (.string (bs (b.drop 4))) := (scell2 c0 c1).2
            have sF : w3.heap.size < ((w4.setCell ⟨w3.heap.size, 0, none⟩ (.int .i64 q)).setCell ⟨w3.heap.size, 1, none⟩ (.string (bs (b.drop 4)))).heap.size := by simp at s4 ⊢; omega
            have sf0 : w.heap.size < w3.heap.size := s0
            have sf1 : w1.heap.size < w3.heap.size := s1
            have sW0 : w.heap.size < ((w4.setCell ⟨w3.heap.size, 0, none⟩ (.int .i64 q)).setCell ⟨w3.heap.size, 1, none⟩ (.string (bs (b.drop 4)))).heap.size := by simp at s4 ⊢; omega
            have sW1 : w1.heap.size < ((w4.setCell ⟨w3.heap.size, 0, none⟩ (.int .i64 q)).setCell ⟨w3.heap.size, 1, none⟩ (.string (bs (b.drop 4)))).heap.size := by simp at s4 ⊢; omega
            have B4 := bset (bset (bthen (bdrew (balloc B3 (.cells #[.int .i64 0, .string ⟨#[]⟩] 24))) hb4) (p := ⟨w3.heap.size, 0, none⟩) (Nat.le_of_lt s0) (.int .i64 q)) (p := ⟨w3.heap.size, 1, none⟩) (Nat.le_of_lt s0) (.string (bs (b.drop 4)))
            generalize ((w4.setCell ⟨w3.heap.size, 0, none⟩ (.int .i64 q)).setCell ⟨w3.heap.size, 1, none⟩ (.string (bs (b.drop 4)))) = W at *
            clear hc4 hf4 hb4 qq s4 s24 c0 c1 k0 k1 z0
            generalize w3.heap.size = F at *
            go_wp2_with (go_at_call 38; refine (hK _).use.mono ?_; rintro e w5 ⟨rfl, hb5⟩; obtain ⟨hc5, hf5⟩ := bcell hb5)
            refine bodyPost_ret (v := .agg #[.int .i64 0, .string ⟨#[]⟩, .int .i64 0, .int .i64 3]) (by simp [results, Try.results10, go_sem, hc5, r0, sW0]) rfl ⟨by rw [HR.out]; rfl, ?_⟩
            (repeat (first | (with_reducible refine bset ?_ (by first | (simp; done) | (simp; omega)) _) | (with_reducible refine balloc ?_ _) | (with_reducible refine bdrew ?_) | with_reducible exact Below.refl _ _ | (refine bthen ?_ (by with_reducible assumption)) | (refine bthen ?_ (by assumption)) | exact Below.refl _ _))
end Go.Proofs.Ytnehiflandjkoaa
