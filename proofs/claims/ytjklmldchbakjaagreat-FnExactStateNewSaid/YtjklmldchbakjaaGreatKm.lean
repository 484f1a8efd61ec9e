/-
  Mail copied, in the program and in the reference: the walks.
-/
import Derived.Test.YtjklmldchbakjaaGreatKl
import Derived.Test.YtjklmldchbakjaaGreatHf
set_option linter.unusedSimpArgs false
set_option linter.unusedVariables false
namespace Go.Proofs.YtjklmldchbakjaaGreat
open Go.RowKit M
namespace M
def fitsBo (b : Bo) : Prop := b.1.length ≤ 1000000 ∧ b.2.1.length ≤ 1000000 ∧ b.2.2.length ≤ 1000000
end M
theorem Hs.join4 {R : Nat → Prop} {w0 w : World} {a b c : Hl} {M N L : List Hl} (H : Hs R w0 (a :: b :: c :: Hl.all N :: Hl.all M :: L) w) : Hs R w0 (a :: b :: c :: Hl.all (N ++ M) :: L) w := by
  have h1 : Hs R w0 (Hl.all N :: Hl.all M :: a :: b :: c :: L) w := H.up3.reperm (by
    refine List.Perm.cons _ ?_
    exact ((List.Perm.cons _ ((List.Perm.cons _ (List.Perm.swap ..)).trans (List.Perm.swap ..))).trans (List.Perm.swap ..)))
  exact h1.join.reperm ((List.Perm.swap ..).trans (List.Perm.cons _ ((List.Perm.swap ..).trans (List.Perm.cons _ (List.Perm.swap ..)))))
theorem Hk.pack1 {w w' : World} {h : Hl} (k : Hk [] w [h] w') : Hk [] w [Hl.all [h]] w' :=
  ⟨k.grow, fun _ _ hk => absurd hk List.not_mem_nil, fun x hx => by
    obtain rfl := List.mem_singleton.1 hx
    exact ⟨k.ok, List.pairwise_singleton _ _⟩, fun x hx b hb => by
    obtain rfl := List.mem_singleton.1 hx
    obtain ⟨y, hy, hyb⟩ := hb
    exact k.own y hy b hyb, List.pairwise_singleton _ _⟩
/-- a slice appended to an empty one without room: a row of its own -/
theorem ok_append0 {α : Type} {s : Nat} {enc : α → List Value} {hl : ∀ a, (enc a).length = s} {h1 : ∀ a, ∀ u ∈ enc a, u.oneCell' = true} {P : Program} {a : Act} {w : World} {dst : Option Tmp} {ty : TypeId} {pos : String} {aft : Array Edge} {g : Option (Nat × Bool)}
    {xo yo : Operand} {t E : TypeId} {A : Option Addr} {src : Value} {l : List α} (hs : a.eval xo = .slice A 0 0) (hx : a.eval yo = src)
    (hT : appT P t E s = true) (hr : Rd w s src l.length (flat enc l)) (hm : l.length ≤ 1000000) :
    OpOk P [] ⟨dst, .call ⟨.builtin .append, #[xo, yo], #[t, t]⟩, ty, pos, aft, g⟩ a w (tSli (Ty.sl E (Ty.flat s enc hl h1)) l) := by
  obtain ⟨v', w', hrun, ho', hg, hb⟩ := run_append_row (P := P) (ty := ty) hT (rowOk.none E s A) hr (fun u hu => List.all_eq_true.1 (flat_ones h1 l) u hu) (by omega)
  rw [Nat.zero_add, List.nil_append] at ho'
  obtain ⟨B, c, rfl, _⟩ := ho'.slice
  unfold OpOk execOp
  simp only [resolve, invoke, builtin, Sem.run_bind, Sem.run_pure, Result.andThen_ok, List.map_toArray, List.map_cons, List.map_nil, hs, hx, hrun]
  refine ⟨[Hl.all [Hl.row E s (.slice B l.length c) l.length (flat enc l)]], ⟨B, c, [Hl.row E s (.slice B l.length c) l.length (flat enc l)], rfl, ⟨_, flat enc l, [], rfl, ownL_flat l, rfl, rfl⟩, rfl⟩, Hk.pack1 ⟨?_, fun _ _ hk => absurd hk List.not_mem_nil, ?_, ?_, List.pairwise_singleton _ _⟩⟩
  · exact hg.mono (fun b hb => by cases A <;> cases hb)
  · intro x hx
    obtain rfl := List.mem_singleton.1 hx
    exact ho'
  · intro x hx b hxb
    obtain rfl := List.mem_singleton.1 hx
    rcases hb b hxb with h | h
    · cases A <;> cases h
    · exact h
end Go.Proofs.YtjklmldchbakjaaGreat
