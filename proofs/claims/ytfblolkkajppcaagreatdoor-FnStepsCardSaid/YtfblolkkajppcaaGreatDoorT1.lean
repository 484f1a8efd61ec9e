/-
  The source of the draws as a piece of memory.
-/
import Derived.Test.YtfblolkkajppcaaGreatDoorEng
import Derived.Test.YtfblolkkajppcaaGreatDoorK1
set_option linter.unusedSimpArgs false
set_option linter.unusedVariables false
namespace Go.Proofs.YtfblolkkajppcaaGreatDoor
open Go.RowKit M

section
variable {P : Program} {R : Nat → Prop} {w0 w : World} {L : List Hl} {K : List Hl} {ops l : List Oper} {Rest : List Oper → Act → World → Prop} {ss : List Spec} {vs : Nat → Value} {Ls : Nat → List Hl} {n k : Nat} {M : List Hl} {o : Oper} {a : Act}
/-- as wpH_D, with the facts of what lies before -/
theorem wpH_DK {u : (Nat → Value) → Value} (j : Nat) (e : spec ss k = .V u) (hw : Region.wanted o (yielded ops.toArray a.tmps) = true) (hj : ancB ops k j = true) (hjk : j < k)
    (h1 : (∀ i, ancB ops k i = true → i < k → (spec ss i).ok vs Ls i) → (spec ss j).ok vs Ls j → ∀ w, Hs R w0 ((spec ss j).hls vs Ls j ++ L) w → OpOk P K o a w (tV (u vs))) (h2 : wpH P K ops R w0 L Rest ss vs Ls n l (k + 1) M (a.put o.dst (u vs))) :
    wpH P K ops R w0 L Rest ss vs Ls (n + 1) (o :: l) k M a := by
  refine ⟨fun hok => .inl ⟨hw, ?_⟩, ?_⟩
  · rw [e]
    intro w h
    refine h1 hok (hok j hj hjk) w (h.sub ((?_ : List.Sublist _ _).append (List.Sublist.refl _)))
    have hm : [j].Sublist (ancs ops k) := List.singleton_sublist.2 (List.mem_filter.2 ⟨List.mem_range.2 hjk, hj⟩)
    have := flatMap_sublist (fun i => (spec ss i).hls vs Ls i) hm
    simpa using this
  · rw [e]; simp only [Spec.hls, Spec.val, List.append_nil]; exact h2
end
/-- the source over a code of n bytes -/
def Hl.src (g : Nat) (v : Value) (n : Nat) (sz : Int) : Hl :=
  ⟨(· = g), fun w => SrcB w g v n sz, fun w w' ⟨a, m, h1, h2, h3, h4⟩ e => ⟨a, m, h1, h2, h3, (e g rfl).trans h4⟩, fun w ⟨_, _, _, _, _, h⟩ b e => by subst e; exact h.lt⟩
section
variable {R : Nat → Prop} {w0 w w' : World} {L M : List Hl} {g : Nat} {v : Value} {l : List UInt8} {sz : Int}
/-- a draw in a walk: the code's bytes lie in old memory, apart from the source -/
structure Code (w0 : World) (g : Nat) (v : Value) (l : List UInt8) : Prop where
  rd : Rd w0 1 v l.length (cb l)
  far : 0 < l.length → ∀ b off n c, v = .slice (some ⟨b, off, none⟩) n c → b ≠ g
  len : l.length ≤ 1048576
theorem Src.of (C : Code w0 g v l) (H : Hs (· = g) w0 L w) (i : In (Hl.src g v l.length sz) L) : Src w g v l sz :=
  ⟨H.ok _ i.mem, C.rd.grown H.grow.grownBy C.far, C.far, C.len⟩
theorem Src.ofNew (hr : Rd w0 1 v l.length (cb l)) (hl : l.length ≤ 1048576) (H : Hs noRow w0 L w) (i : In (Hl.src g v l.length sz) L) : Src w g v l sz := by
  refine ⟨H.ok _ i.mem, hr.later H.below, fun hn b off n c hv => ?_, hl⟩
  obtain ⟨A, cap, e, _, _, hc⟩ := hr.form
  obtain ⟨b', off', hA, hc⟩ := hc hn
  rw [e, hA] at hv
  injection hv with h1 _ _
  injection h1 with h1
  injection h1 with h1 _
  obtain ⟨u, hu⟩ : ∃ u, (cb l)[0]? = some u := ⟨_, List.getElem?_eq_getElem (by have := hr.1; rw [this]; omega)⟩
  have hlt := World.block_lt_of_cell? w0 _ (hc 0 u hu)
  rcases H.own _ i.mem g rfl with h | h
  · show b ≠ g
    have : b' < w0.heap.size := hlt
    omega
  · exact h.elim
theorem Src.code (h : Src w g v l sz) : Code w g v l := ⟨h.rd, h.far, h.len⟩
theorem Hs.src (h : Src w g v l sz) : Hs (· = g) w [Hl.src g v l.length sz] w :=
  ⟨Grow.refl _ _, fun k hk => by obtain rfl := List.mem_singleton.1 hk; exact h.blk, fun k hk b hb => by obtain rfl := List.mem_singleton.1 hk; exact .inr hb, List.pairwise_singleton _ _⟩
theorem hk_src (hb : SrcB w' g v l.length sz) (hg : w.grownBy w' (some g)) : Hk [Hl.src g v l.length sz] w [] w' :=
  ⟨⟨hg.os, hg.tape, hg.output, hg.size, fun k hk hr => hg.block k hk (fun e => hr ⟨_, List.mem_singleton.2 rfl, by injection e⟩)⟩,
   fun _ k hk => by obtain rfl := List.mem_singleton.1 hk; exact hb, by simp, by simp, List.Pairwise.nil⟩
/-- the draws' contracts, in a walk's words -/
theorem Drawn.rets {f : FuncId} {args : Array Value} {Φ : Value → Prop} (h : Calls Tryz.prog f args w (Drawn w g v l sz Φ)) : Rets Tryz.prog [Hl.src g v l.length sz] f args w (tP Φ) :=
  h.mono fun _ _ ⟨r, he, hp, hs, hg⟩ => ⟨r, [], he, ⟨hp, rfl⟩, hk_src hs.blk hg⟩
/-- a function over the source, in a caller's words -/
theorem Hs.ret {T : Value → List Hl → Prop} {r : Value} (H : Hs (· = g) w0 (Hl.src g v l.length sz :: M) w) (hT : T r M) : ∃ v' M', Ending.returned r = .returned v' ∧ T v' M' ∧ Hk [Hl.src g v l.length sz] w0 M' w := by
  have hsep := List.pairwise_cons.1 H.sep
  refine ⟨r, M, rfl, hT, ⟨H.grow.mono fun b hb => ⟨_, List.mem_singleton.2 rfl, hb⟩, fun _ k hk => by obtain rfl := List.mem_singleton.1 hk; exact H.ok _ (List.mem_cons_self ..),
    fun k hk => H.ok k (List.mem_cons_of_mem _ hk), fun k hk b hb => ?_, hsep.2⟩⟩
  rcases H.own k (List.mem_cons_of_mem _ hk) b hb with h | h
  · exact h
  · exact absurd hb (hsep.1 k hk b h)
theorem Hs.ret2 {T : Value → List Hl → Prop} {r : Value} {k : Hl} (H : Hs (· = g) w0 L w) (hs : [k, Hl.src g v l.length sz].Sublist L) (hT : T r [k]) : ∃ v' M', Ending.returned r = .returned v' ∧ T v' M' ∧ Hk [Hl.src g v l.length sz] w0 M' w :=
  Hs.ret ((H.sub hs).perm (List.Perm.swap ..)) hT
end
section
variable {w : World} {g : Nat} {v : Value} {l : List UInt8} {sz : Int}
/-- n, one: with the walk's own words -/
theorem n_w (most : Int) (hm : most ≤ 9223372036854775807) (hs : Src w g v l sz) :
    Rets Tryz.prog [Hl.src g v l.length sz] 30 #[.pointer (some ⟨g, 0, none⟩), .int .i64 most] w (tI fun n => 0 ≤ n ∧ (n < most ∨ n = 0)) :=
  (Drawn.rets (n_s g v l sz most hm w hs))
theorem one_w (most : Int) (hm : most ≤ 9223372036854775807) (hs : Src w g v l sz) :
    Rets Tryz.prog [Hl.src g v l.length sz] 39 #[.pointer (some ⟨g, 0, none⟩), .int .i64 most] w (tP fun r => ∃ b, r = .bool b) :=
  (Drawn.rets (one_s g v l sz most hm w hs))
end
end Go.Proofs.YtfblolkkajppcaaGreatDoor
