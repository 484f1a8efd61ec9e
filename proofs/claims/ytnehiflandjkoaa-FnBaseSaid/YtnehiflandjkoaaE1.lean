import Derived.Test.YtnehiflandjkoaaC9
import Derived.Test.YtnehiflandjkoaaMod3
import Derived.Test.YtnehiflandjkoaaB10
set_option linter.unusedSimpArgs false
set_option linter.unusedVariables false
namespace Go.Proofs.Ytnehiflandjkoaa
open Go.RowKit M

theorem own_far {w : World} {base e s n : Nat} {v : Value} {xs : List Value} (h : w.ownsRow base e s v n xs) {b j : Nat} (hb : v.ownBlock ≠ some b) (u : Value) : (w.setCell ⟨b, j, none⟩ u).ownsRow base e s v n xs :=
  h.kept (grown_set (World.grownBy.refl w _) u) (.inr hb)

/-! ### lists of frames: compared, marked -/
def encFrm (f : Frm) : List Value := [.int .i64 f.1, .string f.2]
theorem encFrm_len (f : Frm) : (encFrm f).length = 2 := rfl
theorem info_Frame : (Try.prog.info? 24).map (fun i => (i.zero, i.size, i.bytes)) = some (some (.agg #[.int .i64 0, .string ⟨#[]⟩]), 2, 24) := by kernel_rfl

def fmark (k j : Nat) : Value := if j % 2 = 0 then .int .i64 (k + j : Nat) else .string (bs (mtext (k + j)))
def fmarks (k m : Nat) : List Value := (List.range m).map (fmark k)
theorem fmarks_length (k m : Nat) : (fmarks k m).length = m := by simp [fmarks]
theorem fmarks_get {k m i : Nat} (h : i < m) : (fmarks k m)[i]? = some (fmark k i) := by simp [fmarks, h]
def fmarking (k m : Nat) (xs : List Value) : List Value := fmarks k m ++ xs.drop m
theorem fmarking_length {k m : Nat} {xs : List Value} (h : m ≤ xs.length) : (fmarking k m xs).length = xs.length := by simp [fmarking, fmarks_length]; omega
theorem fmarking_set {k m : Nat} {xs : List Value} (h : m < xs.length) : (fmarking k m xs).set m (fmark k m) = fmarking k (m + 1) xs := by
  unfold fmarking
  rw [List.set_append_right _ _ (by simp [fmarks_length]), fmarks_length, Nat.sub_self]
  rw [List.drop_eq_getElem_cons h]
  simp only [fmarks, List.range_succ, List.map_append, List.map_cons, List.map_nil, List.append_assoc, List.cons_append, List.nil_append]
  rfl
theorem fmarking_zero (k : Nat) (xs : List Value) : fmarking k 0 xs = xs := by simp [fmarking, fmarks]
theorem fmarking_all {k m : Nat} {xs : List Value} (h : xs.length = m) : fmarking k m xs = fmarks k m := by
  unfold fmarking; rw [List.drop_eq_nil_of_le (by omega), List.append_nil]
theorem fmark_even (k j : Nat) : fmark k (j * 2) = .int .i64 (k + j * 2 : Nat) := by unfold fmark; rw [if_pos (by omega)]
theorem fmark_odd (k j : Nat) : fmark k (j * 2 + 1) = .string (bs (mtext (k + (j * 2 + 1)))) := by unfold fmark; rw [if_neg (by omega)]
theorem fmark_step {w wr w1 : World} {base e s g n cap k m : Nat} {xs : List Value} (HO : wr.ownsRow base e s (.slice (some ⟨g, 0, none⟩) n cap) n (fmarking k m xs)) (HG : w.grownBy wr (some g))
    (hb1 : Below wr.heap.size wr w1) (hl : xs.length = n * s) (hm : m < n * s) :
    (∃ u, w1.cell? ⟨g, m, none⟩ = some u) ∧ w1.frozen? ⟨g, m, none⟩ = false ∧
    (∀ u, u = fmark k m → (w1.setCell ⟨g, m, none⟩ u).ownsRow base e s (.slice (some ⟨g, 0, none⟩) n cap) n (fmarking k (m + 1) xs) ∧
      w.grownBy (w1.setCell ⟨g, m, none⟩ u) (some g)) := by
  have O1 := own_keep HO hb1
  refine ⟨?_, O1.frozenAt m, ?_⟩
  · rw [O1.cellAt m hm]
    exact ⟨_, List.getElem?_eq_getElem (by rw [fmarking_length (by omega)]; omega)⟩
  · rintro u rfl
    have h := (O1.stored m (fmark k m)).1
    rw [fmarking_set (by omega)] at h
    exact ⟨h, grown_set (grown_below HG hb1) _⟩

end Go.Proofs.Ytnehiflandjkoaa
