/-
  Rows of rows of labels, configurations: what the statements do with them: the walks.
-/
import Derived.Test.YtpkoeeafepgphaaCg
set_option linter.unusedSimpArgs false
set_option linter.unusedVariables false
namespace Go.Proofs.Ytpkoeeafepgphaa
open Go.RowKit M
namespace M
/-- how many elements in all -/
def total {α : Type} (l : List (List α)) : Nat := l.length + l.flatten.length
theorem total_at {α : Type} {l : List (List α)} {i : Nat} {x : List α} (h : l[i]? = some x) : (l.take i).flatten.length + x.length ≤ l.flatten.length := by
  have h1 := flatten_take_le l (i + 1)
  rw [flatten_take h, List.length_append] at h1
  exact h1
end M
theorem Hs.take2 {R : Nat → Prop} {w0 w : World} {L M N K : List Hl} {h : Hl} (H : Hs R w0 (h :: Hl.all N :: Hl.all (M ++ K) :: L) w) : Hs R w0 (Hl.all M :: h :: Hl.all N :: Hl.all K :: L) w := by
  have h1 : Hs R w0 (Hl.all (M ++ K) :: h :: Hl.all N :: L) w := H.reperm (by
    refine (List.Perm.cons h (List.Perm.swap ..)).trans (List.Perm.swap ..))
  have h2 := h1.part
  refine h2.reperm (List.Perm.cons _ ?_)
  exact (List.Perm.swap ..).trans (List.Perm.cons h (List.Perm.swap ..))
theorem Hs.give2 {R : Nat → Prop} {w0 w : World} {L M N K : List Hl} {h : Hl} (H : Hs R w0 (Hl.all M :: h :: Hl.all N :: Hl.all K :: L) w) : Hs R w0 (h :: Hl.all (N ++ M) :: Hl.all K :: L) w := by
  have h1 : Hs R w0 (Hl.all N :: Hl.all M :: h :: Hl.all K :: L) w := H.reperm ((List.Perm.cons _ (List.Perm.swap ..)).trans (List.Perm.swap ..))
  exact h1.join.reperm (List.Perm.swap ..)
section
variable {R : Nat → Prop} {w0 w : World} {L A B C : List Hl}
theorem Hs.up1 {a b : Hl} (H : Hs R w0 (a :: b :: L) w) : Hs R w0 (b :: a :: L) w := H.reperm (List.Perm.swap ..)
theorem Hs.up2 {a b c : Hl} (H : Hs R w0 (a :: b :: c :: L) w) : Hs R w0 (c :: a :: b :: L) w := H.reperm ((List.Perm.cons _ (List.Perm.swap ..)).trans (List.Perm.swap ..))
theorem Hs.up3 {a b c d : Hl} (H : Hs R w0 (a :: b :: c :: d :: L) w) : Hs R w0 (d :: a :: b :: c :: L) w := H.reperm ((List.Perm.cons _ ((List.Perm.cons _ (List.Perm.swap ..)).trans (List.Perm.swap ..))).trans (List.Perm.swap ..))
theorem Hs.off {a b : Hl} (H : Hs R w0 (a :: b :: L) w) : Hs R w0 (a :: L) w := H.sub (List.Sublist.cons_cons _ (List.sublist_cons_self _ _))
theorem Hs.off1 {a : Hl} (H : Hs R w0 (a :: L) w) : Hs R w0 L w := H.sub (List.sublist_cons_self _ _)
theorem Hs.join3 (H : Hs R w0 (Hl.all A :: Hl.all B :: Hl.all C :: L) w) : Hs R w0 (Hl.all (A ++ (B ++ C)) :: L) w := by
  have h1 : Hs R w0 (Hl.all B :: Hl.all C :: Hl.all A :: L) w := H.reperm ((List.Perm.swap ..).trans (List.Perm.cons _ (List.Perm.swap ..)))
  exact (h1.join.reperm (List.Perm.swap ..)).join
theorem Hs.part3 (H : Hs R w0 (Hl.all (A ++ (B ++ C)) :: L) w) : Hs R w0 (Hl.all A :: Hl.all B :: Hl.all C :: L) w := by
  have h1 := H.part
  have h2 : Hs R w0 (Hl.all (B ++ C) :: Hl.all A :: L) w := h1.reperm (List.Perm.swap ..)
  exact h2.part.reperm ((List.Perm.cons _ (List.Perm.swap ..)).trans (List.Perm.swap ..))
/-- a struct's result: data in memory of their own -/
def tAgg {α : Type} (T : Ty α) (a : α) : Value → List Hl → Prop := fun v M => ∃ cs N, v = .agg cs.toArray ∧ T.own cs a N ∧ M = [Hl.all N]
end
theorem RdL.cast {α : Type} {T U : Ty α} {w : World} (h : ∀ cs a, T.rd w cs a → U.rd w cs a) {xs : List Value} {l : List α} (hl : RdL T w xs l) : RdL U w xs l := by
  induction hl with
  | nil => exact .nil
  | cons h1 _ ih => exact .cons (h _ _ h1) ih
theorem sl_cast {α : Type} {T U : Ty α} {E F : TypeId} {w : World} {cs : List Value} {l : List α} (hs : T.s = U.s) (h : ∀ cs a, T.rd w cs a → U.rd w cs a) (hr : (Ty.sl E T).rd w cs l) : (Ty.sl F U).rd w cs l := by
  obtain ⟨v, xs, e, h1, h2⟩ := hr
  exact ⟨v, xs, e, by rw [← hs]; exact h1, h2.cast h⟩
end Go.Proofs.Ytpkoeeafepgphaa
