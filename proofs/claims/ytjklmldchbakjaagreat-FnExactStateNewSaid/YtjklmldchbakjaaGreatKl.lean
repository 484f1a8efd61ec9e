/-
  Slices cloned, mail copied: the walks.
-/
import Derived.Test.YtjklmldchbakjaaGreatCg
set_option linter.unusedSimpArgs false
set_option linter.unusedVariables false
namespace Go.Proofs.YtjklmldchbakjaaGreat
open Go.RowKit M
/-- the result of a slice -/
def tSli {α : Type} (T : Ty (List α)) (l : List α) : Value → List Hl → Prop := fun v M => ∃ A c N, v = .slice A l.length c ∧ T.own [.slice A l.length c] l N ∧ M = [Hl.all N]
theorem tSli.form {α : Type} {T : Ty (List α)} {l : List α} {v : Value} {M : List Hl} (h : tSli T l v M) : ∃ A n c, v = .slice A n c := by
  obtain ⟨A, c, _, e, _⟩ := h
  exact ⟨A, _, c, e⟩
/-- a walk's end: a row of structs that hold no memory -/
theorem ret_flatS {α : Type} {s s' n : Nat} {enc : α → List Value} {hl : ∀ a, (enc a).length = s} {h1 : ∀ a, ∀ u ∈ enc a, u.oneCell' = true} {E : TypeId} {w w' : World} {v : Value} {xs : List Value} {l : List α} {L : List Hl} (H : Hs noRow w (Hl.row E s' v n xs :: L) w') (hx : xs = flat enc l) (hn : n = l.length) (hs : s' = s := by rfl) :
    RPost [] w (tSli (Ty.sl E (Ty.flat s enc hl h1)) l) (.returned v) w' := by
  obtain ⟨A, c, e, _, _⟩ := (H.rows .here).slice
  subst hn e
  obtain ⟨v', M, e, ⟨N, k1, k2, _⟩, hk⟩ := ret_flat (hl := hl) (h1 := h1) H hx rfl hs
  injection e with e
  subst e
  exact ⟨_, M, rfl, ⟨A, c, N, rfl, k1, k2⟩, hk⟩
theorem rd_none {α : Type} {T : Ty α} {E : TypeId} {w : World} {n c : Nat} {l : List α} (h : (Ty.sl E T).rd w [.slice none n c] l) : l = [] := by
  obtain ⟨v, xs, e, hr, hL⟩ := h
  injection e with e; subst e
  obtain ⟨A', c', hv, hn, hc, hf⟩ := hr.form
  injection hv with h1 h2 h3
  subst h1 h2 h3
  by_cases h0 : 0 < l.length
  · obtain ⟨b, off, hA, _⟩ := hf h0
    cases hA
  · exact List.eq_nil_of_length_eq_zero (by omega)
theorem run_nilS {P : Program} {T t : TypeId} (hT : P.underlying T = some (.slice t)) (A : Option Addr) (n c : Nat) (w : World) : (binOp .eql T (.slice A n c) (.slice none 0 0)).run P w = .ok (.bool A.isNone) w := by
  have hu := run_underlying hT
  show (do pure (Value.bool (← Op.equal T (.slice A n c) (.slice none 0 0))) : Sem Value).run P w = _
  unfold Op.equal Op.maxDepth
  rw [Op.equalIn]
  cases A <;> (simp only [Sem.run_bind, hu, Result.andThen_ok, Sem.run_pure]) <;> rfl
section
variable {P : Program} {R : Nat → Prop} {w0 w : World} {L : List Hl} {a : Act} {ops : Array Oper} {Q : Exit → Act → World → Prop} {rest : List Oper} {dst : Option Tmp} {ty T t : TypeId} {x y : Operand} {pos : String} {aft : Array Edge} {A : Option Addr} {p : Addr} {n c : Nat}
theorem st_nilS (H : Hs R w0 L w) (hx : a.eval x = .slice A n c) (hy : a.eval y = .slice none 0 0) (hT : P.underlying T = some (.slice t)) (k : ∀ w', Hs R w0 L w' → wpList P ops Q rest (a.put dst (.bool A.isNone)) w') :
    wpList P ops Q (⟨dst, .binOp .eql T x y T, ty, pos, aft, none⟩ :: rest) a w := by
  refine st_v H rfl ?_ k
  unfold OpOk execOp
  simp only [hx, hy]
  go_simp
  rw [run_nilS hT]
  exact now_v
theorem st_nil0 (H : Hs R w0 L w) (hx : a.eval x = .slice none n c) (hy : a.eval y = .slice none 0 0) (hT : P.underlying T = some (.slice t)) (k : ∀ w', Hs R w0 L w' → wpList P ops Q rest (a.put dst (.bool true)) w') :
    wpList P ops Q (⟨dst, .binOp .eql T x y T, ty, pos, aft, none⟩ :: rest) a w := st_nilS H hx hy hT k
theorem st_nil1 (H : Hs R w0 L w) (hx : a.eval x = .slice (some p) n c) (hy : a.eval y = .slice none 0 0) (hT : P.underlying T = some (.slice t)) (k : ∀ w', Hs R w0 L w' → wpList P ops Q rest (a.put dst (.bool false)) w') :
    wpList P ops Q (⟨dst, .binOp .eql T x y T, ty, pos, aft, none⟩ :: rest) a w := st_nilS H hx hy hT k
end
end Go.Proofs.YtjklmldchbakjaaGreat
