/-
  Draws: texts of operations and steps: the walks. Printed by gegen.py.
-/
import Derived.Test.YtfblolkkajppcaaGreatDoorGe
import Derived.Test.YtfblolkkajppcaaGreatDoorP7
set_option linter.unusedSimpArgs false
set_option linter.unusedVariables false
namespace Go.Proofs.YtfblolkkajppcaaGreatDoor
open Go.RowKit M
theorem opTexts : ∀ t ∈ ([⟨#[]⟩, ⟨#[115, 121, 115]⟩, ⟨#[48, 58]⟩, ⟨#[48, 58, 32, 115, 117, 98, 109, 105, 116, 32, 97, 110, 110, 32, 49, 32, 50, 32, 51, 32, 52, 32, 97, 102, 116, 101, 114, 32, 48, 58, 32, 48]⟩, ⟨#[115, 121, 115, 32, 110, 111, 100, 101, 32, 49, 32, 97, 119, 97, 121]⟩, ⟨#[48, 58, 32, 116, 105, 99, 107]⟩, ⟨#[115, 121, 115, 32, 116, 97, 115, 107, 115]⟩, ⟨#[115, 121, 115, 32, 116, 105, 99, 107, 32]⟩, ⟨#[48, 58, 32, 115, 117, 98, 109, 105, 116, 32, 97, 110, 110, 32, 49, 32, 50, 32, 51]⟩, ⟨#[48, 58, 32, 99, 97, 110, 99, 101, 108, 32, 48, 49]⟩, ⟨#[49, 58, 98, 32, 115, 101, 110, 100, 32, 48, 58, 32, 57, 57, 57, 57, 57, 57, 57]⟩, ⟨#[49, 58, 98, 32, 115, 101, 110, 100, 32, 48, 58, 32, 49, 48, 48, 48, 48, 48, 48, 48]⟩, ⟨#[115, 121, 115, 32, 110, 111, 100, 101, 32, 48, 32, 100, 114, 97, 105, 110]⟩, ⟨#[115, 121, 115, 32, 115, 121, 115, 32, 49]⟩, ⟨#[48, 58, 32, 115, 117, 98, 109, 105, 116, 32, 97, 110, 110, 32, 49, 32, 50, 32, 51, 32, 52, 32, 97, 102, 116, 101, 114, 32, 49, 58, 97, 98, 99, 32, 49, 50]⟩] : List ByteArray), t.size ≤ 200 := by
  intro t ht
  simp only [List.mem_cons, List.not_mem_nil, or_false] at ht
  rcases ht with rfl | rfl | rfl | rfl | rfl | rfl | rfl | rfl | rfl | rfl | rfl | rfl | rfl | rfl | rfl <;> decide
set_option maxRecDepth 100000 in
set_option maxHeartbeats 8000000 in
theorem drawOpRead_w (v : Value) (l : List UInt8) (hlen : l.length ≤ 1048576) (w : World) (hr : Rd w 1 v l.length (cb l)) : Rets Tryz.prog [] 7 #[v] w (tB fun t => t.size ≤ 9000) := by
  have HR := Lib.hid hr
  have H := Hs.start noRow w
  obtain ⟨A0, ca0, rfl, _, _⟩ : ∃ A c, v = .slice A l.length c ∧ l.length ≤ c ∧ c ≤ maxLen := by obtain ⟨A, c, h, a, b, _⟩ := hr.form; exact ⟨A, c, h, a, b⟩
  clear hr
  refine Rets.of ?_
  go_enter Tryz.func7, Tryz.ntmps7
  go_wp2_with (fail)
  refine (Rets.use (source_w2 _ l hlen _ (HR.out.later H.below))).mono ?_; rintro e wn ⟨_, _, rfl, ⟨g, sz, rfl, rfl⟩, hkk⟩; have Hn := H.moreK (by intro k hk; first | exact absurd hk List.not_mem_nil | (obtain rfl := List.mem_singleton.1 hk; exact In.mem iF)) hkk; clear hkk; clear H; have H := Hn; clear Hn; (try simp only [yT, yV] at H)
  go_wp2_with (fail)
  refine (Rets.use (l17Any_w (Src.ofNew HR.out hlen H iF))).mono ?_; rintro e wn ⟨_, _, rfl, ⟨⟨sys, l1, l2, k, ow, a, b, c, d, m1, m2, af, rfl, how⟩, rfl⟩, hkk⟩; have Hn := H.moreK (by intro k hk; first | exact absurd hk List.not_mem_nil | (obtain rfl := List.mem_singleton.1 hk; exact In.mem iF)) hkk; clear hkk; clear H; have H := Hn; clear Hn; (try simp only [yT, yV] at H)
  have c1 := fun w1 => opText_s sys l1 l2 k ow a b c d m1 m2 af (by unfold maxLen; omega) w1
  have hln := opText_len sys l1 l2 k ow a b c d m1 m2 af
  generalize opText sys l1 l2 k ow a b c d m1 m2 af = X at *
  have hbs : (bs X).size ≤ 8000 := by rw [size_bs]; omega
  generalize bs X = t0 at *
  go_wp2_with ((((go_at_call 10; refine gvF (c1 _) H ?_)); clear H; intro wn H))
  refine (Rets.use (n_w 4 (by omega) (Src.ofNew HR.out hlen H iF))).mono ?_; rintro e wn ⟨_, _, rfl, ⟨⟨q, rfl, qa, qb⟩, rfl⟩, hkk⟩; have Hn := H.moreK (by intro k hk; first | exact absurd hk List.not_mem_nil | (obtain rfl := List.mem_singleton.1 hk; exact In.mem iF)) hkk; clear hkk; clear H; have H := Hn; clear Hn; (try simp only [yT, yV] at H)
  have q2 : q = 0 ∨ q = 1 ∨ (¬ q = 0 ∧ ¬ q = 1) := by omega
  clear qa qb c1
  rcases q2 with rfl | rfl | ⟨z0, z1⟩
  · go_wp2_with (fail)
    refine (Rets.use (Drawn.rets (spoil_s g _ l sz t0 (by omega) _ (Src.ofNew HR.out hlen H iF)))).mono ?_; rintro e wn ⟨_, _, rfl, ⟨⟨t1, rfl, ht1⟩, rfl⟩, hkk⟩; have Hn := H.moreK (by intro k hk; first | exact absurd hk List.not_mem_nil | (obtain rfl := List.mem_singleton.1 hk; exact In.mem iF)) hkk; clear hkk; clear H; have H := Hn; clear Hn; (try simp only [yT, yV] at H)
    go_wp2_with (fail)
    go_ret
    exact Hs.retd H (List.nil_sublist _) ⟨⟨_, rfl, by omega⟩, rfl⟩
  · go_wp2_with (((((with_reducible apply st_bslice H); exact nsF; intro nb)); clear H; intro wn H; simp only [Act.put, yA, yB, yC, yD, yE, yF]))
    refine (Rets.use (pick_w (Src.ofNew HR.out hlen H iF) nb 15 9 #[.string ⟨#[]⟩, .string ⟨#[115, 121, 115]⟩, .string ⟨#[48, 58]⟩, .string ⟨#[48, 58, 32, 115, 117, 98, 109, 105, 116, 32, 97, 110, 110, 32, 49, 32, 50, 32, 51, 32, 52, 32, 97, 102, 116, 101, 114, 32, 48, 58, 32, 48]⟩, .string ⟨#[115, 121, 115, 32, 110, 111, 100, 101, 32, 49, 32, 97, 119, 97, 121]⟩, .string ⟨#[48, 58, 32, 116, 105, 99, 107]⟩, .string ⟨#[115, 121, 115, 32, 116, 97, 115, 107, 115]⟩, .string ⟨#[115, 121, 115, 32, 116, 105, 99, 107, 32]⟩, .string ⟨#[48, 58, 32, 115, 117, 98, 109, 105, 116, 32, 97, 110, 110, 32, 49, 32, 50, 32, 51]⟩, .string ⟨#[48, 58, 32, 99, 97, 110, 99, 101, 108, 32, 48, 49]⟩, .string ⟨#[49, 58, 98, 32, 115, 101, 110, 100, 32, 48, 58, 32, 57, 57, 57, 57, 57, 57, 57]⟩, .string ⟨#[49, 58, 98, 32, 115, 101, 110, 100, 32, 48, 58, 32, 49, 48, 48, 48, 48, 48, 48, 48]⟩, .string ⟨#[115, 121, 115, 32, 110, 111, 100, 101, 32, 48, 32, 100, 114, 97, 105, 110]⟩, .string ⟨#[115, 121, 115, 32, 115, 121, 115, 32, 49]⟩, .string ⟨#[48, 58, 32, 115, 117, 98, 109, 105, 116, 32, 97, 110, 110, 32, 49, 32, 50, 32, 51, 32, 52, 32, 97, 102, 116, 101, 114, 32, 49, 58, 97, 98, 99, 32, 49, 50]⟩] [⟨#[]⟩, ⟨#[115, 121, 115]⟩, ⟨#[48, 58]⟩, ⟨#[48, 58, 32, 115, 117, 98, 109, 105, 116, 32, 97, 110, 110, 32, 49, 32, 50, 32, 51, 32, 52, 32, 97, 102, 116, 101, 114, 32, 48, 58, 32, 48]⟩, ⟨#[115, 121, 115, 32, 110, 111, 100, 101, 32, 49, 32, 97, 119, 97, 121]⟩, ⟨#[48, 58, 32, 116, 105, 99, 107]⟩, ⟨#[115, 121, 115, 32, 116, 97, 115, 107, 115]⟩, ⟨#[115, 121, 115, 32, 116, 105, 99, 107, 32]⟩, ⟨#[48, 58, 32, 115, 117, 98, 109, 105, 116, 32, 97, 110, 110, 32, 49, 32, 50, 32, 51]⟩, ⟨#[48, 58, 32, 99, 97, 110, 99, 101, 108, 32, 48, 49]⟩, ⟨#[49, 58, 98, 32, 115, 101, 110, 100, 32, 48, 58, 32, 57, 57, 57, 57, 57, 57, 57]⟩, ⟨#[49, 58, 98, 32, 115, 101, 110, 100, 32, 48, 58, 32, 49, 48, 48, 48, 48, 48, 48, 48]⟩, ⟨#[115, 121, 115, 32, 110, 111, 100, 101, 32, 48, 32, 100, 114, 97, 105, 110]⟩, ⟨#[115, 121, 115, 32, 115, 121, 115, 32, 49]⟩, ⟨#[48, 58, 32, 115, 117, 98, 109, 105, 116, 32, 97, 110, 110, 32, 49, 32, 50, 32, 51, 32, 52, 32, 97, 102, 116, 101, 114, 32, 49, 58, 97, 98, 99, 32, 49, 50]⟩] (H.sel (M := [Hl.blk nb 9 #[.string ⟨#[]⟩, .string ⟨#[115, 121, 115]⟩, .string ⟨#[48, 58]⟩, .string ⟨#[48, 58, 32, 115, 117, 98, 109, 105, 116, 32, 97, 110, 110, 32, 49, 32, 50, 32, 51, 32, 52, 32, 97, 102, 116, 101, 114, 32, 48, 58, 32, 48]⟩, .string ⟨#[115, 121, 115, 32, 110, 111, 100, 101, 32, 49, 32, 97, 119, 97, 121]⟩, .string ⟨#[48, 58, 32, 116, 105, 99, 107]⟩, .string ⟨#[115, 121, 115, 32, 116, 97, 115, 107, 115]⟩, .string ⟨#[115, 121, 115, 32, 116, 105, 99, 107, 32]⟩, .string ⟨#[48, 58, 32, 115, 117, 98, 109, 105, 116, 32, 97, 110, 110, 32, 49, 32, 50, 32, 51]⟩, .string ⟨#[48, 58, 32, 99, 97, 110, 99, 101, 108, 32, 48, 49]⟩, .string ⟨#[49, 58, 98, 32, 115, 101, 110, 100, 32, 48, 58, 32, 57, 57, 57, 57, 57, 57, 57]⟩, .string ⟨#[49, 58, 98, 32, 115, 101, 110, 100, 32, 48, 58, 32, 49, 48, 48, 48, 48, 48, 48, 48]⟩, .string ⟨#[115, 121, 115, 32, 110, 111, 100, 101, 32, 48, 32, 100, 114, 97, 105, 110]⟩, .string ⟨#[115, 121, 115, 32, 115, 121, 115, 32, 49]⟩, .string ⟨#[48, 58, 32, 115, 117, 98, 109, 105, 116, 32, 97, 110, 110, 32, 49, 32, 50, 32, 51, 32, 52, 32, 97, 102, 116, 101, 114, 32, 49, 58, 97, 98, 99, 32, 49, 50]⟩], Hl.src g (.slice A0 l.length ca0) l.length sz]) sF).head1 rfl rfl (by omega) (by omega) (apart2 (H.sel (M := [Hl.blk nb 9 #[.string ⟨#[]⟩, .string ⟨#[115, 121, 115]⟩, .string ⟨#[48, 58]⟩, .string ⟨#[48, 58, 32, 115, 117, 98, 109, 105, 116, 32, 97, 110, 110, 32, 49, 32, 50, 32, 51, 32, 52, 32, 97, 102, 116, 101, 114, 32, 48, 58, 32, 48]⟩, .string ⟨#[115, 121, 115, 32, 110, 111, 100, 101, 32, 49, 32, 97, 119, 97, 121]⟩, .string ⟨#[48, 58, 32, 116, 105, 99, 107]⟩, .string ⟨#[115, 121, 115, 32, 116, 97, 115, 107, 115]⟩, .string ⟨#[115, 121, 115, 32, 116, 105, 99, 107, 32]⟩, .string ⟨#[48, 58, 32, 115, 117, 98, 109, 105, 116, 32, 97, 110, 110, 32, 49, 32, 50, 32, 51]⟩, .string ⟨#[48, 58, 32, 99, 97, 110, 99, 101, 108, 32, 48, 49]⟩, .string ⟨#[49, 58, 98, 32, 115, 101, 110, 100, 32, 48, 58, 32, 57, 57, 57, 57, 57, 57, 57]⟩, .string ⟨#[49, 58, 98, 32, 115, 101, 110, 100, 32, 48, 58, 32, 49, 48, 48, 48, 48, 48, 48, 48]⟩, .string ⟨#[115, 121, 115, 32, 110, 111, 100, 101, 32, 48, 32, 100, 114, 97, 105, 110]⟩, .string ⟨#[115, 121, 115, 32, 115, 121, 115, 32, 49]⟩, .string ⟨#[48, 58, 32, 115, 117, 98, 109, 105, 116, 32, 97, 110, 110, 32, 49, 32, 50, 32, 51, 32, 52, 32, 97, 102, 116, 101, 114, 32, 49, 58, 97, 98, 99, 32, 49, 50]⟩], Hl.src g (.slice A0 l.length ca0) l.length sz]) sF)) opTexts)).mono ?_; rintro e wn ⟨_, _, rfl, ⟨⟨t1, rfl, ht1⟩, rfl⟩, hkk⟩; have Hn := H.moreK (by intro k hk; first | exact absurd hk List.not_mem_nil | (obtain rfl := List.mem_singleton.1 hk; exact In.mem iF)) hkk; clear hkk; clear H; have H := Hn; clear Hn; (try simp only [yT, yV] at H)
    go_wp2_with (fail)
    go_ret
    exact Hs.retd H (List.nil_sublist _) ⟨⟨_, rfl, by omega⟩, rfl⟩
  · have e0 : (q == 0) = false := by simpa using z0
    have e1 : (q == 1) = false := by simpa using z1
    go_wp2_with (fail)
    go_ret
    exact Hs.retd H (List.nil_sublist _) ⟨⟨_, rfl, by omega⟩, rfl⟩
end Go.Proofs.YtfblolkkajppcaaGreatDoor
