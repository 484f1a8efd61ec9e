import Derived.Test.YtnehiflandjkoaaB9
set_option linter.unusedSimpArgs false
set_option linter.unusedVariables false
namespace Go.Proofs.Ytnehiflandjkoaa
open Go.RowKit M

set_option maxRecDepth 100000 in
set_option maxHeartbeats 1000000 in
theorem frameRead_s (s : ByteArray) (a : Int) (ha : a ≤ 9223372036854775807) (hs : s.size ≤ maxLen) (w : World) :
    Gives Try.prog 11 #[.string s, .int .i64 a] w (encFO (frameRead s.data.toList a)) := by
  unfold Gives
  have hr := getText_range s.data.toList a
  have hN : ∀ w, Gives Try.prog 45 #[.string s, .int .i64 a] w _ := getText_s s a ha hs
  have HG := frameRead_eq s.data.toList a
  generalize getText s.data.toList a = x at *
  obtain ⟨t, z, c⟩ := x
  dsimp only at hr HG
  unfold encTO at hN
  dsimp only at hN
  rcases hr with ⟨rfl, rfl, hc⟩ | ⟨rfl, hl, h0, h1, h2, h3⟩
  · have hc' : (c == 0) = false := by simp; omega
    have HR : Hid (frameRead s.data.toList a = (0, [], 0, c)) := by rw [HG]; unfold frameOf; rw [if_pos (show c ≠ 0 by omega)]; exact Lib.hid rfl
    clear HG hs
    go_enter Try.func11, Try.ntmps11
    go_wp2_with (go_at_call 45; refine (hN _).use.mono ?_; rintro e w1 ⟨rfl, hb1⟩; obtain ⟨hc1, hf1, hs1⟩ := bcell1 hb1)
    refine bodyPost_ret (v := .agg #[.int .i64 0, .string ⟨#[]⟩, .int .i64 0, .int .i64 c]) (by simp [results, Try.results11, go_sem, hc1, hs1]) rfl ⟨by rw [HR.out]; rfl, ?_⟩
    (repeat (first | (with_reducible refine bset ?_ (by first | (simp; done) | (simp; omega)) _) | (with_reducible refine balloc ?_ _) | (with_reducible refine bdrew ?_) | with_reducible exact Below.refl _ _ | (refine bthen ?_ (by with_reducible assumption)) | (refine bthen ?_ (by assumption)) | exact Below.refl _ _))
  · have hr2 := unseal_range t
    have hU : ∀ w, Gives Try.prog 44 #[.string (bs t)] w _ := unseal_s (bs t) (by rw [size_bs]; unfold maxLen; omega)
    rw [data_bs] at hU
    generalize unseal_ t = y at *
    obtain ⟨b, z2, c2⟩ := y
    dsimp only at hr2
    unfold encTO at hU
    dsimp only at hU
    rcases hr2 with ⟨rfl, rfl, hc⟩ | ⟨rfl, rfl, hl2, hb⟩
    · have hc' : (c2 == 0) = false := by simp; omega
      have HR : Hid (frameRead s.data.toList a = (0, [], 0, c2)) := by rw [HG]; unfold frameOf; rw [if_neg (by simp), if_pos (show c2 ≠ 0 by omega)]; exact Lib.hid rfl
      clear HG hs
      go_enter Try.func11, Try.ntmps11
      go_wp2_with (first
        | (go_at_call 45; refine (hN _).use.mono ?_; rintro e w1 ⟨rfl, hb1⟩; obtain ⟨hc1, hf1, hs1⟩ := bcell1 hb1)
        | ((go_at_call 44; refine (hU _).use.mono ?_; rintro e w2 ⟨rfl, hb2⟩; obtain ⟨hc2, hf2, hs2⟩ := bcell1 hb2); have hs02 := Nat.lt_trans hs1 hs2; have k := kept2 hb2 hs1))
      refine bodyPost_ret (v := .agg #[.int .i64 0, .string ⟨#[]⟩, .int .i64 0, .int .i64 c2]) (by simp [results, Try.results11, go_sem, hc1, k, hs1, hs02]) rfl ⟨by rw [HR.out]; rfl, ?_⟩
      (repeat (first | (with_reducible refine bset ?_ (by first | (simp; done) | (simp; omega)) _) | (with_reducible refine balloc ?_ _) | (with_reducible refine bdrew ?_) | with_reducible exact Below.refl _ _ | (refine bthen ?_ (by with_reducible assumption)) | (refine bthen ?_ (by assumption)) | exact Below.refl _ _))
    · unfold frameOf at HG
      rw [if_neg (by simp), if_neg (by simp)] at HG
      dsimp only at HG
      by_cases h4 : b.length < 4
      · rw [if_pos h4] at HG
        have HR := Lib.hid HG
        have h4' : (b.length : Int) < 4 := by omega
        clear HG hs
        go_enter Try.func11, Try.ntmps11
        go_wp2_with (first
          | (go_at_call 45; refine (hN _).use.mono ?_; rintro e w1 ⟨rfl, hb1⟩; obtain ⟨hc1, hf1, hs1⟩ := bcell1 hb1)
          | ((go_at_call 44; refine (hU _).use.mono ?_; rintro e w2 ⟨rfl, hb2⟩; obtain ⟨hc2, hf2, hs2⟩ := bcell1 hb2); have hs02 := Nat.lt_trans hs1 hs2; have k := kept2 hb2 hs1))
        refine bodyPost_ret (v := .agg #[.int .i64 0, .string ⟨#[]⟩, .int .i64 0, .int .i64 3]) (by simp [results, Try.results11, go_sem, hc1, k, hs1, hs02]) rfl ⟨by rw [HR.out]; rfl, ?_⟩
        (repeat (first | (with_reducible refine bset ?_ (by first | (simp; done) | (simp; omega)) _) | (with_reducible refine balloc ?_ _) | (with_reducible refine bdrew ?_) | with_reducible exact Below.refl _ _ | (refine bthen ?_ (by with_reducible assumption)) | (refine bthen ?_ (by assumption)) | exact Below.refl _ _))
      · rw [if_neg h4] at HG
        have h4' : ¬ (b.length : Int) < 4 := by omega
        have h4'' : 4 ≤ (bs b).size := by rw [size_bs]; omega
        have hx2 : (bs b).extract 4 b.length = bs (b.drop 4) := by rw [extract_bs, List.take_of_length_le (by rw [List.length_drop, data_bs]; omega), data_bs]
        have hK : ∀ w, Gives Try.prog 50 #[.agg #[.int .i64 (ofFour b), .string (bs (b.drop 4))]] w (.bool (frameOk (ofFour b) (b.drop 4))) := frameRight_s _ (bs (b.drop 4))
        have hq4 := ofFour_get (bs b) h4''
        rw [data_bs] at hq4
        have b0 : (bs b)[0].toNat < 256 := (bs b)[0].toNat_lt
        have b1 : (bs b)[1].toNat < 256 := (bs b)[1].toNat_lt
        have b2 : (bs b)[2].toNat < 256 := (bs b)[2].toNat_lt
        have b3 : (bs b)[3].toNat < 256 := (bs b)[3].toNat_lt
        have i3 : (3 : Int) < (bs b).size := by omega
        have i2 : (2 : Int) < (bs b).size := by omega
        have i1 : (1 : Int) < (bs b).size := by omega
        have j0 : 0 < (bs b).size := by omega
        have l3 : (3 : Int) < b.length := by omega
        have l2 : (2 : Int) < b.length := by omega
        have l1 : (1 : Int) < b.length := by omega
        have l0 : 0 < b.length := by omega
        by_cases hq : frameOk (ofFour b) (b.drop 4) = true
        · rw [if_pos hq] at HG
          rw [hq] at hK
          have HR := Lib.hid HG
          have hq4' := Lib.hid hq4
          clear HG hs hq4
          go_enter Try.func11, Try.ntmps11
          go_wp2_with (first
            | (go_at_call 45; refine (hN _).use.mono ?_; rintro e w1 ⟨rfl, hb1⟩; obtain ⟨hc1, hf1, hs1⟩ := bcell1 hb1)
            | ((go_at_call 44; refine (hU _).use.mono ?_; rintro e w2 ⟨rfl, hb2⟩; obtain ⟨hc2, hf2, hs2⟩ := bcell1 hb2); have hs02 := Nat.lt_trans hs1 hs2; have k := kept2 hb2 hs1))
          have e0 : (w2.alloc (.cells #[.string (bs b), .int .i64 0, .int .i64 0] 71)).cell? ⟨w2.heap.size, 0, none⟩ = some (.string (bs b)) := by simp [World.cell?_alloc_new]
          have s3 : w2.heap.size < (w2.alloc (.cells #[.string (bs b), .int .i64 0, .int .i64 0] 71)).heap.size := by simp
          have B3 := bthen (bthen (bnew _ _) hb1) (bthen (bnew _ _) hb2)
          have B3 := balloc B3 (.cells #[.string (bs b), .int .i64 0, .int .i64 0] 71)
          have k0 : ∀ i, (w2.alloc (.cells #[.string (bs b), .int .i64 0, .int .i64 0] 71)).cell? ⟨w.heap.size, i, none⟩ = (#[Value.int .i64 0, .string ⟨#[]⟩, .int .i64 0, .int .i64 0] : Array Value)[i]? := fun i => by simp [go_sem, hs02, k, hc1]
          have k1 : ∀ i, (w2.alloc (.cells #[.string (bs b), .int .i64 0, .int .i64 0] 71)).cell? ⟨w1.heap.size, i, none⟩ = (#[Value.string (bs t), .int .i64 z, .int .i64 0] : Array Value)[i]? := fun i => by simp [go_sem, hs2, hc2]
          have z0 : ∀ i, (w2.alloc (.cells #[.string (bs b), .int .i64 0, .int .i64 0] 71)).frozen? ⟨w.heap.size, i, none⟩ = false := fun i => by simp [go_sem, hs02, hs1, Nat.le_of_lt hs1, hf2, hf1]
          generalize w2.alloc (.cells #[.string (bs b), .int .i64 0, .int .i64 0] 71) = w3 at *
          clear hc1 hf1 hc2 hf2 k hb1 hb2
          have s0 : w.heap.size < w3.heap.size := Nat.lt_trans hs02 s3
          have s1 : w1.heap.size < w3.heap.size := Nat.lt_trans hs2 s3
          go_loopw [7, 8] (fun n i wr => ((i = .int .i64 (3) ∧ n = .int .i64 (0)) ∨ (i = .int .i64 (2) ∧ n = .int .i64 (((bs b)[3].toNat : Int))) ∨ (i = .int .i64 (1) ∧ n = .int .i64 (((bs b)[3].toNat : Int) * 256 + ((bs b)[2].toNat : Int))) ∨ (i = .int .i64 (0) ∧ n = .int .i64 ((((bs b)[3].toNat : Int) * 256 + ((bs b)[2].toNat : Int)) * 256 + ((bs b)[1].toNat : Int))) ∨ (i = .int .i64 (-1) ∧ n = .int .i64 (((((bs b)[3].toNat : Int) * 256 + ((bs b)[2].toNat : Int)) * 256 + ((bs b)[1].toNat : Int)) * 256 + ((bs b)[0].toNat : Int)))) ∧ wr = w3) (fun _ i _ => (intOf i + 1).toNat)
          case atStart => exact ⟨Or.inl ⟨rfl, rfl⟩, rfl⟩
          case round =>
            obtain ⟨hh, rfl⟩ := hrel
            rcases hh with ⟨rfl, rfl⟩ | ⟨rfl, rfl⟩ | ⟨rfl, rfl⟩ | ⟨rfl, rfl⟩ | ⟨rfl, rfl⟩
            · go_wp2
              exact ⟨⟨Or.inr (Or.inl ⟨rfl, by simp⟩), trivial⟩, by simp [intOf]⟩
            · go_wp2
              exact ⟨⟨Or.inr (Or.inr (Or.inl ⟨rfl, rfl⟩)), trivial⟩, by simp [intOf]⟩
            · go_wp2
              exact ⟨⟨Or.inr (Or.inr (Or.inr (Or.inl ⟨rfl, rfl⟩))), trivial⟩, by simp [intOf]⟩
            · go_wp2
              exact ⟨⟨Or.inr (Or.inr (Or.inr (Or.inr ⟨rfl, rfl⟩))), trivial⟩, by simp [intOf]⟩
            · have hv : ((((bs b)[3].toNat : Int) * 256 + ((bs b)[2].toNat : Int)) * 256 + ((bs b)[1].toNat : Int)) * 256 + ((bs b)[0].toNat : Int) = ofFour b := by
                rw [hq4'.out]; unfold four4; omega
              rw [hv]
              clear hv hq4'
              go_wp2_with (go_at_call 50; refine (hK _).use.mono ?_; rintro e w5 ⟨rfl, hb5⟩; obtain ⟨hc5, hf5⟩ := bcell hb5)
              all_goals (first | go_region | skip)
              all_goals go_wp2
              have kk : ∀ i, w5.cell? ⟨w.heap.size, i, none⟩ = wr.cell? ⟨w.heap.size, i, none⟩ := kept2 hb5 s0
              refine bodyPost_ret (v := .agg #[.int .i64 (ofFour b), .string (bs (b.drop 4)), .int .i64 z, .int .i64 0]) (by simp [results, Try.results11, go_sem, kk, k0]) rfl ⟨by rw [HR.out]; rfl, ?_⟩
              (repeat (first | (with_reducible refine bset ?_ (by first | (simp; done) | (simp; omega)) _) | (with_reducible refine balloc ?_ _) | (with_reducible refine bdrew ?_) | with_reducible exact Below.refl _ _ | (refine bthen ?_ (by with_reducible assumption)) | (refine bthen ?_ (by assumption)) | exact Below.refl _ _))
        · rw [if_neg hq] at HG
          rw [show frameOk (ofFour b) (b.drop 4) = false by simpa using hq] at hK
          have HR := Lib.hid HG
          have hq4' := Lib.hid hq4
          clear HG hs hq4
          go_enter Try.func11, Try.ntmps11
          go_wp2_with (first
            | (go_at_call 45; refine (hN _).use.mono ?_; rintro e w1 ⟨rfl, hb1⟩; obtain ⟨hc1, hf1, hs1⟩ := bcell1 hb1)
            | ((go_at_call 44; refine (hU _).use.mono ?_; rintro e w2 ⟨rfl, hb2⟩; obtain ⟨hc2, hf2, hs2⟩ := bcell1 hb2); have hs02 := Nat.lt_trans hs1 hs2; have k := kept2 hb2 hs1))
          have e0 : (w2.alloc (.cells #[.string (bs b), .int .i64 0, .int .i64 0] 71)).cell? ⟨w2.heap.size, 0, none⟩ = some (.string (bs b)) := by simp [World.cell?_alloc_new]
          have s3 : w2.heap.size < (w2.alloc (.cells #[.string (bs b), .int .i64 0, .int .i64 0] 71)).heap.size := by simp
          have B3 := bthen (bthen (bnew _ _) hb1) (bthen (bnew _ _) hb2)
          have B3 := balloc B3 (.cells #[.string (bs b), .int .i64 0, .int .i64 0] 71)
          have k0 : ∀ i, (w2.alloc (.cells #[.string (bs b), .int .i64 0, .int .i64 0] 71)).cell? ⟨w.heap.size, i, none⟩ = (#[Value.int .i64 0, .string ⟨#[]⟩, .int .i64 0, .int .i64 0] : Array Value)[i]? := fun i => by simp [go_sem, hs02, k, hc1]
          have k1 : ∀ i, (w2.alloc (.cells #[.string (bs b), .int .i64 0, .int .i64 0] 71)).cell? ⟨w1.heap.size, i, none⟩ = (#[Value.string (bs t), .int .i64 z, .int .i64 0] : Array Value)[i]? := fun i => by simp [go_sem, hs2, hc2]
          have z0 : ∀ i, (w2.alloc (.cells #[.string (bs b), .int .i64 0, .int .i64 0] 71)).frozen? ⟨w.heap.size, i, none⟩ = false := fun i => by simp [go_sem, hs02, hs1, Nat.le_of_lt hs1, hf2, hf1]
          generalize w2.alloc (.cells #[.string (bs b), .int .i64 0, .int .i64 0] 71) = w3 at *
          clear hc1 hf1 hc2 hf2 k hb1 hb2
          have s0 : w.heap.size < w3.heap.size := Nat.lt_trans hs02 s3
          have s1 : w1.heap.size < w3.heap.size := Nat.lt_trans hs2 s3
          go_loopw [7, 8] (fun n i wr => ((i = .int .i64 (3) ∧ n = .int .i64 (0)) ∨ (i = .int .i64 (2) ∧ n = .int .i64 (((bs b)[3].toNat : Int))) ∨ (i = .int .i64 (1) ∧ n = .int .i64 (((bs b)[3].toNat : Int) * 256 + ((bs b)[2].toNat : Int))) ∨ (i = .int .i64 (0) ∧ n = .int .i64 ((((bs b)[3].toNat : Int) * 256 + ((bs b)[2].toNat : Int)) * 256 + ((bs b)[1].toNat : Int))) ∨ (i = .int .i64 (-1) ∧ n = .int .i64 (((((bs b)[3].toNat : Int) * 256 + ((bs b)[2].toNat : Int)) * 256 + ((bs b)[1].toNat : Int)) * 256 + ((bs b)[0].toNat : Int)))) ∧ wr = w3) (fun _ i _ => (intOf i + 1).toNat)
          case atStart => exact ⟨Or.inl ⟨rfl, rfl⟩, rfl⟩
          case round =>
            obtain ⟨hh, rfl⟩ := hrel
            rcases hh with ⟨rfl, rfl⟩ | ⟨rfl, rfl⟩ | ⟨rfl, rfl⟩ | ⟨rfl, rfl⟩ | ⟨rfl, rfl⟩
            · go_wp2
              exact ⟨⟨Or.inr (Or.inl ⟨rfl, by simp⟩), trivial⟩, by simp [intOf]⟩
            · go_wp2
              exact ⟨⟨Or.inr (Or.inr (Or.inl ⟨rfl, rfl⟩)), trivial⟩, by simp [intOf]⟩
            · go_wp2
              exact ⟨⟨Or.inr (Or.inr (Or.inr (Or.inl ⟨rfl, rfl⟩))), trivial⟩, by simp [intOf]⟩
            · go_wp2
              exact ⟨⟨Or.inr (Or.inr (Or.inr (Or.inr ⟨rfl, rfl⟩))), trivial⟩, by simp [intOf]⟩
            · have hv : ((((bs b)[3].toNat : Int) * 256 + ((bs b)[2].toNat : Int)) * 256 + ((bs b)[1].toNat : Int)) * 256 + ((bs b)[0].toNat : Int) = ofFour b := by
                rw [hq4'.out]; unfold four4; omega
              rw [hv]
              clear hv hq4'
              go_wp2_with (go_at_call 50; refine (hK _).use.mono ?_; rintro e w5 ⟨rfl, hb5⟩; obtain ⟨hc5, hf5⟩ := bcell hb5)
              have kk : ∀ i, w5.cell? ⟨w.heap.size, i, none⟩ = wr.cell? ⟨w.heap.size, i, none⟩ := kept2 hb5 s0
              refine bodyPost_ret (v := .agg #[.int .i64 0, .string ⟨#[]⟩, .int .i64 0, .int .i64 3]) (by simp [results, Try.results11, go_sem, kk, k0]) rfl ⟨by rw [HR.out]; rfl, ?_⟩
              (repeat (first | (with_reducible refine bset ?_ (by first | (simp; done) | (simp; omega)) _) | (with_reducible refine balloc ?_ _) | (with_reducible refine bdrew ?_) | with_reducible exact Below.refl _ _ | (refine bthen ?_ (by with_reducible assumption)) | (refine bthen ?_ (by assumption)) | exact Below.refl _ _))
end Go.Proofs.Ytnehiflandjkoaa
namespace Go.Proofs.Ytnehiflandjkoaa
open Go.RowKit M

end Go.Proofs.Ytnehiflandjkoaa
