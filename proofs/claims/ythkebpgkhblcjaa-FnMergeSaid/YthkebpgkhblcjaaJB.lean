/-
  Disks that may be so, in the program and in the reference: the walks.
-/
import Derived.Test.YthkebpgkhblcjaaC1
import Derived.Deep.AppendLies
import Derived.Deep.RegionHeld3
import Derived.Deep.RegionWith
import Derived.Test.YthkebpgkhblcjaaG3
import Derived.ArgAppend
import Derived.Deep.RegionLawGrows
import Derived.Deep.MidRow
set_option linter.unusedSimpArgs false
set_option linter.unusedVariables false
namespace Go.Proofs.Ythkebpgkhblcjaa
open Go.RowKit M

def noReg : Reg := (⟨#[]⟩, ⟨#[]⟩, ⟨#[]⟩)
theorem made_regs (n : Nat) : (madeCells #[.string ⟨#[]⟩, .string ⟨#[]⟩, .string ⟨#[]⟩] (n * 3)).toList = flat encReg (List.replicate n noReg) := by
  apply List.ext_getElem?
  intro j
  by_cases hj : j < n * 3
  · have h2 := flat_get encReg_len (List.replicate n noReg) (j / 3) (j % 3) noReg (by rw [List.getElem?_replicate, if_pos (by omega)]) (by omega)
    rw [show j / 3 * 3 + j % 3 = j by omega] at h2
    rw [h2]
    have h3 : j % 3 < 3 := by omega
    simp only [madeCells, Array.getElem?_toList, Array.getElem?_map, Array.getElem?_range, hj, if_pos, Option.map_some]
    rw [show (#[Value.string ⟨#[]⟩, Value.string ⟨#[]⟩, Value.string ⟨#[]⟩] : Array Value).size = 3 from rfl]
    generalize j % 3 = m at h3
    match m, h3 with
    | 0, _ => rfl
    | 1, _ => rfl
    | 2, _ => rfl
  · rw [List.getElem?_eq_none (by rw [Array.length_toList, size_madeCells]; omega), List.getElem?_eq_none (by rw [flat_length encReg_len]; simp; omega)]

def diskNewRs (n : Int) : List Reg := if 1 ≤ n ∧ n ≤ 13 then List.replicate n.toNat noReg else []
def diskNewP (n : Int) : Int := if 1 ≤ n ∧ n ≤ 13 then -1 else 0

end Go.Proofs.Ythkebpgkhblcjaa
namespace Go.Proofs.Ythkebpgkhblcjaa
open Go.RowKit M

theorem reg_cells {w wr : World} {b off : Nat} {rs : List Reg} (h : ∀ j u, (flat encReg rs)[j]? = some u → w.cell? ⟨b, off + j, none⟩ = some u) (hb : Below w.heap.size w wr) (k : Nat) (hk : k < rs.length) (x : Later wr) :
    x.now.cell? ⟨b, off + k * 3, none⟩ = some (.string rs[k].1) ∧ x.now.cell? ⟨b, off + k * 3 + 1, none⟩ = some (.string rs[k].2.1) ∧ x.now.cell? ⟨b, off + k * 3 + 2, none⟩ = some (.string rs[k].2.2) := by
  have g : ∀ j u, j < 3 → (encReg rs[k])[j]? = some u → x.now.cell? ⟨b, off + k * 3 + j, none⟩ = some u := fun j u hj hu => by
    rw [Nat.add_assoc]; exact Rd.at_ (n := 0) (s := 0) (cap := 0) h hb _ u (by rw [flat_get encReg_len rs k j rs[k] (by simp [hk]) hj]; exact hu) x
  exact ⟨g 0 _ (by omega) rfl, g 1 _ (by omega) rfl, g 2 _ (by omega) rfl⟩
theorem undrew {w w' : World} (h : Below w.drew.heap.size w.drew w') : Below w.heap.size w w' := ⟨h.os, h.tape, h.output, h.size, h.block⟩
def now (w : World) : Later w := ⟨w, Below.refl _ _⟩

def regOk (r : Reg) : Bool := decide (r.1.size ≤ 3000) && (decide (r.2.1.size ≤ 3000) && decide (r.2.2.size ≤ 3000))
def diskOk (rs : List Reg) (p : Int) : Bool := (decide (1 ≤ rs.length) && decide (rs.length ≤ 13)) && ((decide (-1 ≤ p) && decide (p ≤ 1000000)) && rs.all regOk)

theorem regOk_cases (r : Reg) : (regOk r = true ∧ ¬ (3000 : Int) < r.1.size ∧ ¬ (3000 : Int) < r.2.1.size ∧ ¬ (3000 : Int) < r.2.2.size) ∨
    (regOk r = false ∧ ((3000 : Int) < r.1.size ∨ (¬ (3000 : Int) < r.1.size ∧ (3000 : Int) < r.2.1.size) ∨ (¬ (3000 : Int) < r.1.size ∧ ¬ (3000 : Int) < r.2.1.size ∧ (3000 : Int) < r.2.2.size))) := by
  unfold regOk
  cases h : (decide (r.1.size ≤ 3000) && (decide (r.2.1.size ≤ 3000) && decide (r.2.2.size ≤ 3000)))
  · refine .inr ⟨rfl, ?_⟩
    rw [Bool.eq_false_iff] at h
    simp only [ne_eq, Bool.and_eq_true, decide_eq_true_eq] at h
    omega
  · refine .inl ⟨rfl, ?_⟩
    simp only [Bool.and_eq_true, decide_eq_true_eq] at h
    omega
theorem diskOk_len {rs : List Reg} {p : Int} (h : ¬ (1 ≤ rs.length ∧ rs.length ≤ 13)) : diskOk rs p = false := by
  unfold diskOk; rw [Bool.eq_false_iff]; simp; omega
theorem diskOk_pow {rs : List Reg} {p : Int} (h : (decide (-1 ≤ p) && decide (p ≤ 1000000)) = false) : diskOk rs p = false := by
  unfold diskOk; rw [h]; simp
theorem diskOk_all {rs : List Reg} {p : Int} (h : 1 ≤ rs.length ∧ rs.length ≤ 13) (hp : (decide (-1 ≤ p) && decide (p ≤ 1000000)) = true) : diskOk rs p = rs.all regOk := by
  unfold diskOk; rw [hp]; simp [h]
theorem all_take {rs : List Reg} (h : ∀ r ∈ rs, regOk r = true) : rs.all regOk = true := List.all_eq_true.2 h
theorem all_not {rs : List Reg} {r : Reg} (h : r ∈ rs) (hr : regOk r = false) : rs.all regOk = false := by
  rw [Bool.eq_false_iff]; intro he; have := List.all_eq_true.1 he r h; rw [hr] at this; cases this

/-- the first that fails -/
def firstBad (rs : List Reg) : Int := match rs.findIdx? (fun r => !regOk r) with | some k => k | none => -1
theorem firstBad_none {rs : List Reg} (h : ∀ r ∈ rs, regOk r = true) : firstBad rs = -1 := by
  have : rs.findIdx? (fun r => !regOk r) = none := by rw [List.findIdx?_eq_none_iff]; intro x hx; simp [h x hx]
  unfold firstBad; rw [this]
theorem firstBad_some {rs : List Reg} {k : Nat} (hk : k < rs.length) (h : ∀ r ∈ rs.take k, regOk r = true) (hb : regOk rs[k] = false) : firstBad rs = k := by
  have : rs.findIdx? (fun r => !regOk r) = some k := by
    rw [List.findIdx?_eq_some_iff_getElem]
    refine ⟨hk, by simp [hb], fun j hj => ?_⟩
    have := h rs[j] (by rw [List.mem_take_iff_getElem]; exact ⟨j, by omega, rfl⟩)
    simp [this]
  unfold firstBad; rw [this]

theorem firstBad_ge (rs : List Reg) : decide (0 ≤ firstBad rs) = !rs.all regOk := by
  unfold firstBad
  cases h : rs.findIdx? (fun r => !regOk r) with
  | none =>
    rw [List.findIdx?_eq_none_iff] at h
    have : rs.all regOk = true := List.all_eq_true.2 fun x hx => by simpa using h x hx
    rw [this]; rfl
  | some k =>
    rw [List.findIdx?_eq_some_iff_getElem] at h
    obtain ⟨hk, hb, _⟩ := h
    have : rs.all regOk = false := all_not (List.getElem_mem hk) (by simpa using hb)
    rw [this]; simp
end Go.Proofs.Ythkebpgkhblcjaa
namespace Go.Proofs.Ythkebpgkhblcjaa
open Go.RowKit M


/-- what a measuring function says: too long (-1), or what is left, and then 'Q' -/
def SzOut (w : World) (Q : Prop) (e : Ending) (w' : World) : Prop :=
  Below w.heap.size w w' ∧ ∃ r : Int, e = .returned (.int .i64 r) ∧ (r = -1 ∨ (0 ≤ r ∧ r ≤ 1048576 ∧ Q))

def szOne (m : Int) (s : ByteArray) : Int := m - s.size
def okSizes (rs : List Reg) : Prop := ∀ r ∈ rs, r.1.size ≤ maxLen ∧ r.2.1.size ≤ maxLen ∧ r.2.2.size ≤ maxLen

theorem own_base {w : World} {b b' e s n : Nat} {v : Value} {xs : List Value} (h : w.ownsRow b e s v n xs) (hb : b' ≤ b) : w.ownsRow b' e s v n xs := by
  refine ⟨h.1, ?_⟩
  rcases h.2 with h0 | ⟨g, cap, cur, e1, h1, h2⟩
  · exact .inl h0
  · exact .inr ⟨g, cap, cur, e1, Nat.le_trans hb h1, h2⟩

/-- the first k of 'xs', the rest as made -/
def copying (rs : List Reg) (k : Nat) : List Value := flat encReg (rs.take k ++ List.replicate (rs.length - k) noReg)

theorem flat_set3 (l1 l2 : List Reg) (x y : Reg) (k : Nat) (hk : l1.length = k) : ((((flat encReg (l1 ++ x :: l2)).set (k * 3) (.string y.1)).set (k * 3 + 1) (.string y.2.1)).set (k * 3 + 2) (.string y.2.2)) = flat encReg (l1 ++ y :: l2) := by
  subst hk
  have hl := flat_length encReg_len l1
  rw [flat_append, flat_append, flat_cons, flat_cons]
  rw [List.set_append_right _ _ (by omega), List.set_append_right _ _ (by omega), List.set_append_right _ _ (by omega), hl, Nat.sub_self]
  rw [show l1.length * 3 + 1 - l1.length * 3 = 1 by omega, show l1.length * 3 + 2 - l1.length * 3 = 2 by omega]
  rfl
theorem copying_zero (rs : List Reg) : copying rs 0 = flat encReg (List.replicate rs.length noReg) := by simp [copying]
theorem copying_all (rs : List Reg) : copying rs rs.length = flat encReg rs := by simp [copying]
theorem copying_length (rs : List Reg) (k : Nat) (hk : k ≤ rs.length) : (copying rs k).length = rs.length * 3 := by
  unfold copying; rw [flat_length encReg_len]; simp; omega
theorem copying_step (rs : List Reg) (k : Nat) (hk : k < rs.length) : ((((copying rs k).set (k * 3) (.string rs[k].1)).set (k * 3 + 1) (.string rs[k].2.1)).set (k * 3 + 2) (.string rs[k].2.2)) = copying rs (k + 1) := by
  unfold copying
  have e : List.replicate (rs.length - k) noReg = noReg :: List.replicate (rs.length - (k + 1)) noReg := by
    rw [show rs.length - k = (rs.length - (k + 1)) + 1 by omega, List.replicate_succ]
  rw [e, flat_set3 (rs.take k) _ noReg rs[k] k (by simp; omega)]
  congr 1
  rw [List.take_succ_eq_append_getElem hk, List.append_assoc]
  rfl

/-! ### DiskRight -/
end Go.Proofs.Ythkebpgkhblcjaa
namespace Go.Proofs.Ythkebpgkhblcjaa
open Go.RowKit M
end Go.Proofs.Ythkebpgkhblcjaa
namespace Go.Proofs.Ythkebpgkhblcjaa
open Go.RowKit M

/-! ### copies of a disk -/
theorem flat_one (rs : List Reg) : ∀ u ∈ flat encReg rs, u.oneCell' = true := by
  intro u hu
  simp only [flat, List.mem_flatten, List.mem_map] at hu
  obtain ⟨l, ⟨r, _, rfl⟩, hu⟩ := hu
  simp only [encReg, List.mem_cons, List.not_mem_nil, or_false] at hu
  rcases hu with rfl | rfl | rfl <;> rfl
theorem own_set {w : World} {base e s n : Nat} {v : Value} {xs : List Value} (h : w.ownsRow base e s v n xs) {p : Addr} (hp : p.block < base) (u : Value) : (w.setCell p u).ownsRow base e s v n xs := ownsRow_setCell_below h hp u
theorem own_alloc {w : World} {base e s n : Nat} {v : Value} {xs : List Value} (h : w.ownsRow base e s v n xs) (o : Obj) : (w.alloc o).ownsRow base e s v n xs := h.alloc o
theorem own_below {w w' : World} {base e s n : Nat} {v : Value} {xs : List Value} (h : w.ownsRow base e s v n xs) (hb : Below w.heap.size w w') : w'.ownsRow base e s v n xs := own_keep h hb
theorem below_of_grown {b c : World} (hg : b.grownBy c none) : Below b.heap.size b c := ⟨hg.os, hg.tape, hg.output, hg.size, fun k hk => hg.block k hk (by simp)⟩
theorem cell_add {w w' : World} {b off : Nat} {xs : List Value} (hc : ∀ j u, xs[j]? = some u → w.cell? ⟨b, off + j, none⟩ = some u) (hb : Below w.heap.size w w') (j : Nat) (u : Value) (hu : xs[j]? = some u) : w'.cell? ((⟨b, off, none⟩ : Addr).add j) = some u := by
  have h := hc j u hu
  rw [Addr.add_mid, (bcell hb).1 _ _ (World.block_lt_of_cell? w _ h)]
  exact h
theorem below_grown {a b c : World} (h : Below a.heap.size a b) (hg : b.grownBy c none) : Below a.heap.size a c :=
  bthen h ⟨hg.os, hg.tape, hg.output, hg.size, fun k hk => hg.block k hk (by simp)⟩

/-! ### what a disk refuses -/
namespace M
def stage (rs : List Reg) (p r : Int) : Int := if diskOk rs p = false then 1 else if 0 ≤ r ∧ r < rs.length then (if p = 0 then 12 else 0) else 6
end M
theorem diskOk_len' {rs : List Reg} {p : Int} (h : diskOk rs p = true) : 1 ≤ rs.length ∧ rs.length ≤ 13 := by
  unfold diskOk at h; simp at h; omega
theorem stage_bad {rs : List Reg} {p r : Int} (h : diskOk rs p = false) : stage rs p r = 1 := if_pos h
theorem stage_none {rs : List Reg} {p r : Int} (h : diskOk rs p = true) (hr : ¬ (0 ≤ r ∧ r < rs.length)) : stage rs p r = 6 := by unfold stage; rw [h]; simp only [Bool.true_eq_false, if_false]; rw [if_neg hr]
theorem stage_down {rs : List Reg} {r : Int} (h : diskOk rs 0 = true) (hr : 0 ≤ r ∧ r < rs.length) : stage rs 0 r = 12 := by unfold stage; simp [h, hr.1, hr.2]
theorem stage_ok {rs : List Reg} {p r : Int} (h : diskOk rs p = true) (hr : 0 ≤ r ∧ r < rs.length) (hp : p ≠ 0) : stage rs p r = 0 := by unfold stage; rw [h]; simp only [Bool.true_eq_false, if_false]; rw [if_pos hr, if_neg hp]

end Go.Proofs.Ythkebpgkhblcjaa
namespace Go.Proofs.Ythkebpgkhblcjaa
open Go.RowKit M

theorem own_slice {w : World} {base e s n c : Nat} {A : Option Addr} {xs : List Value} (h : w.ownsRow base e s (.slice A n c) n xs) (hn : 0 < n) : ∃ g, A = some ⟨g, 0, none⟩ ∧ base ≤ g ∧ g < w.heap.size := by
  obtain ⟨g, cap', hv, h1, h2⟩ := h.form hn
  injection hv with hv1 hv2 hv3
  exact ⟨g, hv1, h1, h2⟩
theorem flat_setj : ∀ (rs : List Reg) (k j : Nat) (x y : Reg) (v : Value), rs[k]? = some x → j < 3 → (encReg x).set j v = encReg y → (flat encReg rs).set (k * 3 + j) v = flat encReg (rs.set k y)
  | [], k, j, x, y, v, h, _, _ => by simp at h
  | a :: l, 0, j, x, y, v, h, hj, he => by
    simp at h; subst h
    show (encReg a ++ flat encReg l).set (0 * 3 + j) v = encReg y ++ flat encReg l
    rw [Nat.zero_mul, Nat.zero_add, List.set_append_left _ _ (by rw [encReg_len]; exact hj), he]
  | a :: l, k + 1, j, x, y, v, h, hj, he => by
    show (encReg a ++ flat encReg l).set ((k + 1) * 3 + j) v = encReg a ++ flat encReg (l.set k y)
    rw [List.set_append_right _ _ (by rw [encReg_len]; omega), encReg_len, show (k + 1) * 3 + j - 3 = k * 3 + j by omega, flat_setj l k j x y v (by simpa using h) hj he]
/-- cells of an own row: there, not frozen, and stored -/
theorem own_at {w : World} {base e s n c g m : Nat} {xs : List Value} (h : w.ownsRow base e s (.slice (some ⟨g, 0, none⟩) n c) n xs) (hm : m < n * s) :
    (∃ u, w.cell? ⟨g, m, none⟩ = some u) ∧ w.frozen? ⟨g, m, none⟩ = false ∧ ∀ u, (w.setCell ⟨g, m, none⟩ u).ownsRow base e s (.slice (some ⟨g, 0, none⟩) n c) n (xs.set m u) :=
  ⟨⟨_, by rw [h.cellAt m hm]; exact List.getElem?_eq_getElem (by rw [h.1]; exact hm)⟩, h.frozenAt m, fun u => (h.stored m u).1⟩
namespace M
def setLog (rs : List Reg) (k : Nat) (t : ByteArray) : List Reg := rs.set k ((rs.getD k noReg).1, (rs.getD k noReg).2.1, t)
def illRs (rs : List Reg) (c : Int) : List Reg := if c = 12 then rs else []
def illP (p c : Int) : Int := if c = 12 then p else 0
end M
theorem setLog_len (rs : List Reg) (k : Nat) (t : ByteArray) : (setLog rs k t).length = rs.length := by simp [setLog]
theorem flat_log (rs : List Reg) (k : Nat) (t : ByteArray) (hk : k < rs.length) : (flat encReg rs).set (k * 3 + 2) (.string t) = flat encReg (setLog rs k t) := by
  have h : rs[k]? = some rs[k] := List.getElem?_eq_getElem hk
  have h2 : rs.getD k noReg = rs[k] := by rw [List.getD_eq_getElem?_getD, h]; rfl
  unfold setLog
  rw [h2]
  exact flat_setj rs k 2 _ _ _ h (by omega) rfl
theorem stage_zero {rs : List Reg} {p r : Int} (h : stage rs p r = 0) : diskOk rs p = true ∧ (0 ≤ r ∧ r < rs.length) ∧ p ≠ 0 := by
  cases h1 : diskOk rs p
  · rw [stage_bad h1] at h; omega
  · by_cases hq : 0 ≤ r ∧ r < rs.length
    · by_cases hp : p = 0
      · subst hp; rw [stage_down h1 hq] at h; omega
      · exact ⟨rfl, hq, hp⟩
    · rw [stage_none h1 hq] at h; omega

/-! ### the reference's refusals -/
end Go.Proofs.Ythkebpgkhblcjaa
namespace Go.Proofs.Ythkebpgkhblcjaa
open Go.RowKit M

namespace M
def wipeRs (rs : List Reg) (p r : Int) : List Reg := if stage rs p r = 0 then setLog rs r.toNat ⟨#[]⟩ else illRs rs (stage rs p r)
def doneP (rs : List Reg) (p r : Int) : Int := if stage rs p r = 0 then p else illP p (stage rs p r)
end M

end Go.Proofs.Ythkebpgkhblcjaa
namespace Go.Proofs.Ythkebpgkhblcjaa
open Go.RowKit M

/-! ### results of disk and code: compared, marked -/
theorem grown_alloc {a b : World} {o : Obj} {row : Option Nat} (hg : (a.alloc o).grownBy b row) : a.grownBy b row :=
  ⟨hg.os, hg.tape, hg.output, Nat.le_trans (by simp) hg.size, fun i hi hr => (hg.block i (by simp; omega) hr).trans (Below.heap_alloc _ _ _ hi)⟩
end Go.Proofs.Ythkebpgkhblcjaa
namespace Go.Proofs.Ythkebpgkhblcjaa
open Go.RowKit M

theorem own_blk_ne {w : World} {g t : Nat} {cs : Array Value} {base e s n : Nat} {v : Value} {xs : List Value} (h : w.ownsRow base e s v n xs) (hg : Blk w g t cs) (hne : e ≠ t) : v.ownBlock ≠ some g := by
  rcases h.2 with ⟨rfl, _⟩ | ⟨g', cap, cur, rfl, _, hh, _⟩
  · simp [Value.ownBlock]
  · intro he
    have : g' = g := by simpa [Value.ownBlock] using he
    subst this
    unfold Blk at hg
    rw [hh] at hg
    injection hg with hg
    injection hg with _ ht
    exact hne ht
theorem Blk.marked {w w' : World} {g t : Nat} {cs : Array Value} {base e s n : Nat} {v : Value} {xs : List Value} (ho : w.ownsRow base e s v n xs) (hg : w.grownBy w' v.ownBlock) (h : Blk w g t cs) (hne : e ≠ t) : Blk w' g t cs :=
  (hg.block g h.lt (fun e' => own_blk_ne ho h hne e'.symm)).trans h
theorem own_apart {v1 v2 : Value} {N : Nat} (h1 : ∀ k, v1.ownBlock = some k → N ≤ k) (h2 : ∀ k, v2.ownBlock = some k → k < N) : v1.ownBlock = none ∨ v1.ownBlock ≠ v2.ownBlock := by
  cases e : v1.ownBlock with
  | none => exact .inl rfl
  | some k =>
    refine .inr fun h => ?_
    have a := h1 k e
    have b := h2 k h.symm
    omega

theorem wipe_len (rs : List Reg) (p r : Int) : (wipeRs rs p r).length ≤ rs.length := by
  unfold wipeRs illRs
  split
  · rw [setLog_len]; exact Nat.le_refl _
  · split <;> simp
theorem wipe_len13 (rs : List Reg) (p r : Int) : (wipeRs rs p r).length ≤ 13 := by
  by_cases h : diskOk rs p = true
  · exact Nat.le_trans (wipe_len rs p r) (diskOk_len' h).2
  · have h' : diskOk rs p = false := by simpa using h
    unfold wipeRs illRs
    rw [stage_bad h']
    simp
end Go.Proofs.Ythkebpgkhblcjaa
