/-
  Operations read from texts: the plain words. No program in sight.
-/
import Derived.Test.YtfblolkkajppcaaGreatDoorP3
import Derived.Test.YtfblolkkajppcaaGreatDoorO8
import Derived.Lib.SplitLaws
import Derived.Lib.ParseIntBTie
import Derived.Test.YtfblolkkajppcaaGreatDoorSh
import Derived.Test.YtfblolkkajppcaaGreatDoorP6
set_option linter.unusedSimpArgs false
set_option linter.unusedVariables false
namespace Go.Proofs.YtfblolkkajppcaaGreatDoor
namespace M
/-! ### a text cut at its spaces -/
def cut (acc : Bs) : Bs → List Bs
  | [] => [acc]
  | c :: r => if c = 32 then acc :: cut [] r else cut (acc ++ [c]) r
theorem cut_app : ∀ {x : Bs}, (∀ c ∈ x, c ≠ 32) → ∀ acc r : Bs, cut acc (x ++ r) = cut (acc ++ x) r
  | [], _, acc, r => by simp
  | c :: x, h, acc, r => by
    have hc : c ≠ 32 := h c (List.mem_cons_self ..)
    rw [List.cons_append, cut, if_neg hc, cut_app (fun d hd => h d (List.mem_cons_of_mem _ hd))]
    simp
theorem cut_none {x : Bs} (h : ∀ c ∈ x, c ≠ 32) : cut [] x = [x] := by
  have := cut_app h [] []
  rw [List.append_nil] at this
  rw [this]; rfl
theorem cut_flat : ∀ {r : List Bs}, (∀ x ∈ r, ∀ c ∈ x, c ≠ 32) → ∀ acc : Bs, cut acc ((r.map ([32] ++ ·)).flatten) = acc :: r
  | [], _, acc => rfl
  | y :: r, h, acc => by
    rw [List.map_cons, List.flatten_cons, List.append_assoc, List.singleton_append, cut, if_pos rfl, cut_app (h y (List.mem_cons_self ..)), List.nil_append,
      cut_flat fun x hx => h x (List.mem_cons_of_mem _ hx)]
theorem cut_join {l : List Bs} (hne : l ≠ []) (h : ∀ x ∈ l, ∀ c ∈ x, c ≠ 32) : cut [] (joinSp l) = l := by
  cases l with
  | nil => exact absurd rfl hne
  | cons x r => rw [joinSp_cons, cut_app (h x (List.mem_cons_self ..)), List.nil_append, cut_flat fun y hy => h y (List.mem_cons_of_mem _ hy)]
theorem cut_ne (acc r : Bs) : cut acc r ≠ [] := by
  induction r generalizing acc with
  | nil => simp [cut]
  | cons c r ih => rw [cut]; split; exact List.cons_ne_nil _ _; exact ih _
theorem index_hit : ∀ {x : Bs}, (∀ c ∈ x, c ≠ 32) → ∀ r : Bs, Lib.index (x ++ 32 :: r) [32] = x.length
  | [], _, r => by rw [List.nil_append, Lib.index]; simp [List.isPrefixOf]
  | c :: x, h, r => by
    have hc : c ≠ 32 := h c (List.mem_cons_self ..)
    have hp : ([32] : Bs).isPrefixOf (c :: (x ++ 32 :: r)) = false := by simp [List.isPrefixOf, Ne.symm hc]
    rw [List.cons_append, Lib.index, hp, index_hit fun d hd => h d (List.mem_cons_of_mem _ hd)]
    have : ((x.length : Int) == -1) = false := by simp
    rw [this]
    simp
theorem index_miss : ∀ {x : Bs}, (∀ c ∈ x, c ≠ 32) → Lib.index x [32] = -1
  | [], _ => by rw [Lib.index]; simp
  | c :: x, h => by
    have hc : c ≠ 32 := h c (List.mem_cons_self ..)
    have hp : ([32] : Bs).isPrefixOf (c :: x) = false := by simp [List.isPrefixOf, Ne.symm hc]
    rw [Lib.index, hp, index_miss fun d hd => h d (List.mem_cons_of_mem _ hd)]
    simp
theorem first_space : ∀ s : Bs, (∀ c ∈ s, c ≠ 32) ∨ ∃ x r, s = x ++ 32 :: r ∧ ∀ c ∈ x, c ≠ 32
  | [] => .inl fun _ h => absurd h List.not_mem_nil
  | c :: s => by
    by_cases hc : c = 32
    · subst hc; exact .inr ⟨[], s, rfl, fun _ h => absurd h List.not_mem_nil⟩
    · rcases first_space s with h | ⟨x, r, rfl, h⟩
      · exact .inl fun d hd => by rcases List.mem_cons.1 hd with rfl | hd; exact hc; exact h d hd
      · exact .inr ⟨c :: x, r, rfl, fun d hd => by rcases List.mem_cons.1 hd with rfl | hd; exact hc; exact h d hd⟩
theorem splitK_cut : ∀ (n : Nat) (s : Bs), s.length ≤ n → Lib.splitK [32] 0 (Lib.count s [32]) s = cut [] s
  | n, s, hn => by
    rw [Lib.count_one]
    rcases first_space s with h | ⟨x, r, rfl, h⟩
    · rw [List.count_eq_zero_of_not_mem fun hm => h 32 hm rfl, cut_none h]; rfl
    · have e : (x ++ 32 :: r).count 32 = r.count 32 + 1 := by
        rw [List.count_append, List.count_eq_zero_of_not_mem fun hm => h 32 hm rfl, List.count_cons_self]; omega
      rw [e, Lib.splitK, index_hit h]
      have h0 : ((x.length : Int) == -1) = false := by simp
      rw [h0, cut_app h, List.nil_append, cut, if_pos rfl]
      simp only [Bool.false_eq_true, if_false, Int.toNat_natCast, Nat.add_zero, List.length_singleton]
      rw [List.take_left' rfl]
      have hd : (x ++ 32 :: r).drop (x.length + 1) = r := by
        rw [← List.drop_drop, List.drop_left' rfl]; rfl
      rw [hd]
      cases n with
      | zero => simp at hn
      | succ n =>
        have := splitK_cut n r (by simp at hn; omega)
        rw [Lib.count_one] at this
        rw [this]
theorem split_cut (s : ByteArray) : (Lib.splitB ⟨#[32]⟩ 0 (Lib.countB s ⟨#[32]⟩) s).map Value.string = strs (cut [] s.data.toList) := by
  have h := Lib.splitB_data ⟨#[32]⟩ 0 (Lib.countB s ⟨#[32]⟩) s
  have e : Lib.countB s ⟨#[32]⟩ = Lib.count s.data.toList [32] := rfl
  rw [e] at h ⊢
  rw [splitK_cut _ _ (Nat.le_refl _)] at h
  unfold strs
  rw [← h, List.map_map]
  apply List.map_congr_left
  intro x _
  show Value.string x = Value.string (bs x.data.toList)
  rw [bs_data]
theorem count_cut (s : ByteArray) : Lib.countB s ⟨#[32]⟩ + 1 = (cut [] s.data.toList).length := by
  have h := Lib.splitB_all ⟨#[32]⟩ (by decide) 0 _ s rfl
  have h2 := congrArg List.length (split_cut s)
  rw [List.length_map, h] at h2
  unfold strs at h2
  rw [List.length_map] at h2
  exact h2
/-! ### numbers -/
theorem digs : ∀ (n : Nat), ∀ c ∈ Lib.decDigits n, 48 ≤ c.toNat ∧ c.toNat ≤ 57 := by
  intro n
  induction n using Nat.strongRecOn with
  | _ n ih =>
    have one : ∀ m, m < 10 → 48 ≤ (UInt8.ofNat (48 + m)).toNat ∧ (UInt8.ofNat (48 + m)).toNat ≤ 57 := fun m hm => by
      rw [UInt8.toNat_ofNat', Nat.mod_eq_of_lt (by omega)]; omega
    by_cases h : n < 10
    · rw [digits_small h]; intro c hc; obtain rfl := List.mem_singleton.1 hc; exact one n h
    · rw [digits_big h]; intro c hc
      rcases List.mem_append.1 hc with hc | hc
      · exact ih _ (by omega) c hc
      · obtain rfl := List.mem_singleton.1 hc; exact one _ (by omega)
theorem digs_ne (n : Nat) : Lib.decDigits n ≠ [] := by
  by_cases h : n < 10
  · rw [digits_small h]; simp
  · rw [digits_big h]; simp
theorem digs_head (n : Nat) (h0 : 1 ≤ n) : (Lib.decDigits n).head? ≠ some 48 := by
  induction n using Nat.strongRecOn with
  | _ n ih =>
    by_cases h : n < 10
    · rw [digits_small h]
      intro e
      have e := congrArg UInt8.toNat (Option.some.inj e)
      rw [UInt8.toNat_ofNat', Nat.mod_eq_of_lt (by omega)] at e
      have : (48 : UInt8).toNat = 48 := rfl
      omega
    · rw [digits_big h]
      have := ih (n / 10) (by omega) (by omega)
      have hne := digs_ne (n / 10)
      cases hd : Lib.decDigits (n / 10) with
      | nil => exact absurd hd hne
      | cons a l => rw [hd] at this; exact this
/-- the program's number: what strconv.ParseInt gives, the error left out -/
def numI (l : Bs) : Int := match Lib.parseIntB 64 l with | .ok v => v | .«syntax» => 0 | .range => Lib.intSat 64 l
theorem parse_snoc (M : Nat) (c : UInt8) (hc : 48 ≤ c.toNat ∧ c.toNat ≤ 57) : ∀ (l : Bs) (acc u : Nat), Lib.parseUintM M acc l = .ok u → u < 1844674407370955162 → u * 10 + (c.toNat - 48) ≤ M → Lib.parseUintM M acc (l ++ [c]) = .ok (u * 10 + (c.toNat - 48))
  | [], acc, u, h, h1, h2 => by
    have : acc = u := by simpa [Lib.parseUintM] using h
    subst this
    rw [List.nil_append, Lib.parseUintM, if_pos hc, if_neg (by omega), if_neg (by omega), Lib.parseUintM]
  | d :: l, acc, u, h, h1, h2 => by
    rw [List.cons_append, Lib.parseUintM] at *
    split at h
    · rename_i hd
      rw [if_pos hd]
      split at h
      · cases h
      · rename_i ha
        rw [if_neg ha]
        split at h
        · cases h
        · rename_i hb
          rw [if_neg hb]
          exact parse_snoc M c hc l _ u h h1 h2
    · cases h
theorem parse_digs (M : Nat) (hM : 10000000 ≤ M) : ∀ n : Nat, n ≤ 9999999 → Lib.parseUintM M 0 (Lib.decDigits n) = .ok n := by
  intro n
  induction n using Nat.strongRecOn with
  | _ n ih =>
    intro hn
    have one : ∀ m, m < 10 → (UInt8.ofNat (48 + m)).toNat = 48 + m := fun m hm => by
      rw [UInt8.toNat_ofNat', Nat.mod_eq_of_lt (by omega)]
    by_cases h : n < 10
    · rw [digits_small h, Lib.parseUintM, one n h, if_pos (by omega), if_neg (by omega), if_neg (by omega), Lib.parseUintM]
      congr 1; omega
    · have h2 := ih (n / 10) (by omega) (by omega)
      have hc := one (n % 10) (by omega)
      have h3 := parse_snoc M (UInt8.ofNat (48 + n % 10)) (by omega) _ _ _ h2 (by omega) (by omega)
      rw [digits_big h, h3, hc]
      congr 1; omega
theorem numI_dec {n : Int} (h : 0 ≤ n ∧ n ≤ 9999999) : numI (dec n) = n := by
  obtain ⟨k, rfl⟩ := Int.eq_ofNat_of_zero_le h.1
  have hk : k ≤ 9999999 := by omega
  have h1 := parse_digs (2 ^ 64 - 1) (by decide) k hk
  have hd := digs k
  have hne := digs_ne k
  rw [dec_nat]
  unfold numI
  cases hl : Lib.decDigits k with
  | nil => exact absurd hl hne
  | cons c r =>
    rw [hl] at h1 hd
    have hc := hd c (List.mem_cons_self ..)
    rw [Lib.parseIntB_plain 64 c r (by omega) (by omega)]
    have e : Lib.parseUintB 64 (c :: r) = .ok k := by
      unfold Lib.parseUintB; rw [if_neg (by simp)]; exact h1
    rw [e]
    simp only [Lib.signlessC]
    rw [if_neg (by have : (2 : Nat) ^ (64 - 1) = 9223372036854775808 := by decide
                   omega)]
theorem numI_nil : numI [] = 0 := rfl
theorem numI_rng (l : Bs) : -9223372036854775808 ≤ numI l ∧ numI l ≤ 9223372036854775807 := by
  unfold numI
  have e : (2 : Nat) ^ (64 - 1) = 9223372036854775808 := by decide
  cases h : Lib.parseIntB 64 l with
  | ok v => have := Lib.parseIntB_bounds h; rw [e] at this; simp only; omega
  | «syntax» => simp
  | range => simp only [Lib.intSat, e]; split <;> omega
/-- the reference's number of at most nine digits -/
def foldS (n : Int) : Bs → Int
  | [] => n
  | c :: r => if 48 ≤ c.toNat ∧ c.toNat ≤ 57 then foldS (10 * n + ((c.toNat : Int) - 48)) r else -1
def num9 (l : Bs) : Int := if l.length < 1 ∨ 9 < l.length ∨ (1 < l.length ∧ l.head? = some 48) then -1 else foldS 0 l
def num7 (l : Bs) : Int := if 9999999 < num9 l then -1 else num9 l
theorem foldS_app : ∀ {l : Bs}, (∀ c ∈ l, 48 ≤ c.toNat ∧ c.toNat ≤ 57) → ∀ (n : Int) (m : Bs), foldS n (l ++ m) = foldS (foldS n l) m
  | [], _, n, m => rfl
  | c :: l, h, n, m => by
    have hc := h c (List.mem_cons_self ..)
    rw [List.cons_append, foldS, if_pos hc, foldS, if_pos hc, foldS_app fun d hd => h d (List.mem_cons_of_mem _ hd)]
theorem foldS_digs : ∀ n : Nat, foldS 0 (Lib.decDigits n) = n := by
  intro n
  induction n using Nat.strongRecOn with
  | _ n ih =>
    have one : ∀ m, m < 10 → (UInt8.ofNat (48 + m)).toNat = 48 + m := fun m hm => by
      rw [UInt8.toNat_ofNat', Nat.mod_eq_of_lt (by omega)]
    by_cases h : n < 10
    · rw [digits_small h, foldS, one n h, if_pos (by omega), foldS]; omega
    · rw [digits_big h, foldS_app (digs _), ih (n / 10) (by omega), foldS, one (n % 10) (by omega), if_pos (by omega), foldS]; omega
theorem num9_nat (k : Nat) (hl : (Lib.decDigits k).length ≤ 9) : num9 (Lib.decDigits k) = k := by
  unfold num9
  rw [if_neg, foldS_digs]
  rintro (h | h | ⟨h1, h2⟩)
  · have := digs_ne k
    cases hd : Lib.decDigits k with
    | nil => exact this hd
    | cons a l => rw [hd] at h; simp at h
  · omega
  · by_cases h0 : k = 0
    · subst h0; rw [digits_small (by omega)] at h1; simp at h1
    · exact digs_head k (by omega) h2
theorem num7_dec {n : Int} (h : 0 ≤ n ∧ n ≤ 9999999) : num7 (dec n) = n := by
  have hl := dec_len h
  obtain ⟨k, rfl⟩ := Int.eq_ofNat_of_zero_le h.1
  rw [dec_nat] at hl ⊢
  unfold num7
  rw [num9_nat k (by omega), if_neg (by omega)]
/-! ### labels -/
def labs : List (Int × Int) := [(0, 0), (0, 1), (0, 2), (0, 3), (0, 4), (0, 5), (0, 6), (0, 7), (1, 0), (1, 1), (1, 2), (1, 3), (1, 4), (1, 5), (1, 6), (1, 7), (2, 0), (2, 1), (2, 2), (2, 3), (2, 4), (2, 5), (2, 6), (2, 7), (3, 0), (3, 1), (3, 2), (3, 3), (3, 4), (3, 5), (3, 6), (3, 7)]
def labFind (t : Bs) : Option (Int × Int) := labs.find? fun p => labelText p.1 p.2 == t
def lab (t : Bs) : Int × Int := (labFind t).getD (0, 0)
theorem labs_all : (labs.all fun p => labFind (labelText p.1 p.2) == some p) = true := by decide +kernel
theorem lab_text {a b : Int} (h : labelOk a b = true) : lab (labelText a b) = (a, b) := by
  obtain ⟨⟨a0, a3⟩, b0, b7⟩ := labelOk_spec h
  have hm : (a, b) ∈ labs := by
    have ha : a = 0 ∨ a = 1 ∨ a = 2 ∨ a = 3 := by omega
    have hb : b = 0 ∨ b = 1 ∨ b = 2 ∨ b = 3 ∨ b = 4 ∨ b = 5 ∨ b = 6 ∨ b = 7 := by omega
    rcases ha with rfl | rfl | rfl | rfl <;> rcases hb with rfl | rfl | rfl | rfl | rfl | rfl | rfl | rfl <;> decide
  have := List.all_eq_true.1 labs_all _ hm
  have := eq_of_beq this
  unfold lab
  rw [this]; rfl
theorem lab_nil : lab [] = (0, 0) := by decide +kernel
theorem labels_plain : (labs.all fun p => (labelText p.1 p.2).all fun c => c != 32) = true := by decide +kernel
/-! ### words -/
def idxIn (l : List ByteArray) (w : Bs) : Nat := go 0 l
where go (i : Nat) : List ByteArray → Nat
  | [] => 0
  | x :: r => if x = bs w then i else go (i + 1) r
def states : List ByteArray := [bs [], bs [117, 112], bs [100, 114, 97, 105, 110], bs [100, 111, 119, 110]]
def kindOf (w : Bs) : Int := idxIn words w
def stateOf (w : Bs) : Int := idxIn states w
def getW (ws : List Bs) (k : Nat) : Bs := ws.getD k []
/-! ### what the two parsers make of the words -/
def sysW : Bs := [115, 121, 115]
def aftW : Bs := [97, 102, 116, 101, 114]
def atK (k : Int) : Nat := if k = 1 ∨ k = 7 then 3 else 2
def nI (k : Int) (ws : List Bs) (i : Nat) : Int := if (i : Int) < many k then numI (getW ws (atK k + i)) else 0
def nS (k : Int) (ws : List Bs) (i : Nat) : Int := if (i : Int) < many k ∧ atK k + i < ws.length then num7 (getW ws (atK k + i)) else 0
def aftB (ws : List Bs) : Bool := getW ws 7 == aftW
def candI (ws : List Bs) : Opr :=
  let k := kindOf (getW ws 1)
  { sys := getW ws 0 == sysW, l1 := (lab (getW ws 0)).1, l2 := (lab (getW ws 0)).2, k := k, ow := if k = 1 then bs (getW ws 2) else bs [],
    a := nI k ws 0, b := if k = 13 then stateOf (getW ws 3) else nI k ws 1, c := nI k ws 2, d := nI k ws 3,
    m1 := if k = 1 then (if aftB ws then (lab (getW ws 8)).1 else 0) else if k = 7 then (lab (getW ws 2)).1 else 0,
    m2 := if k = 1 then (if aftB ws then (lab (getW ws 8)).2 else 0) else if k = 7 then (lab (getW ws 2)).2 else 0,
    af := if k = 1 then (if aftB ws then numI (getW ws 9) else 0) else 0 }
def candS (ws : List Bs) : Opr :=
  let k := kindOf (getW ws 1)
  { sys := getW ws 0 == sysW, l1 := if getW ws 0 == sysW then 0 else (lab (getW ws 0)).1, l2 := if getW ws 0 == sysW then 0 else (lab (getW ws 0)).2, k := k, ow := if k = 1 then bs (getW ws 2) else bs [],
    a := nS k ws 0, b := if k = 13 then stateOf (getW ws 3) else nS k ws 1, c := nS k ws 2, d := nS k ws 3,
    m1 := if k = 1 then (if ws.length = 10 then (lab (getW ws 8)).1 else 0) else if k = 7 then (lab (getW ws 2)).1 else 0,
    m2 := if k = 1 then (if ws.length = 10 then (lab (getW ws 8)).2 else 0) else if k = 7 then (lab (getW ws 2)).2 else 0,
    af := if k = 1 then (if ws.length = 10 then num7 (getW ws 9) else 0) else 0 }
def Opr.ok (o : Opr) : Bool := opOk o.sys o.l1 o.l2 o.k o.ow o.a o.b o.c o.d o.m1 o.m2 o.af
def Opr.text (o : Opr) : Bs := opText o.sys o.l1 o.l2 o.k o.ow o.a o.b o.c o.d o.m1 o.m2 o.af
def Opr.words (o : Opr) : List Bs := opWords o.sys o.l1 o.l2 o.k o.ow o.a o.b o.c o.d o.m1 o.m2 o.af
def zeroO : Opr := ⟨false, 0, 0, 0, bs [], 0, 0, 0, 0, 0, 0, 0⟩
def readI (t : Bs) : Opr × Int := if 8000 < t.length then (zeroO, 2) else if (candI (cut [] t)).ok && (candI (cut [] t)).text == t then (candI (cut [] t), 0) else (zeroO, 3)
def readS (t : Bs) : Opr × Int := if 8000 < t.length then (zeroO, 2) else if (candS (cut [] t)).text != t || t == [] then (zeroO, 3) else (candS (cut [] t), 0)
end M
end Go.Proofs.YtfblolkkajppcaaGreatDoor
namespace Go.Proofs.YtfblolkkajppcaaGreatDoor
namespace M
theorem kindOf_word : (((List.range 17).map fun i => (i + 1 : Nat)).all fun k => kindOf (wordOf (k : Int)).data.toList == (k : Int)) = true := by decide +kernel
theorem kindOf_of {k : Int} (h : 1 ≤ k ∧ k ≤ 17) : kindOf (wordOf k).data.toList = k := by
  rcases kinds h with rfl | rfl | rfl | rfl | rfl | rfl | rfl | rfl | rfl | rfl | rfl | rfl | rfl | rfl | rfl | rfl | rfl <;> decide +kernel
theorem stateOf_of {b : Int} (h : 1 ≤ b ∧ b ≤ 3) : stateOf (stateWord b) = b := by
  have hb : b = 1 ∨ b = 2 ∨ b = 3 := by omega
  rcases hb with rfl | rfl | rfl <;> decide +kernel
theorem label_not_sys {a b : Int} (h : labelOk a b = true) : (labelText a b == sysW) = false := by
  obtain ⟨⟨a0, a3⟩, b0, b7⟩ := labelOk_spec h
  rw [labelText_ok h, dec_dig ⟨a0, by omega⟩]
  have ha : a = 0 ∨ a = 1 ∨ a = 2 ∨ a = 3 := by omega
  rcases ha with rfl | rfl | rfl | rfl <;> rfl
theorem label_plain {a b : Int} (h : labelOk a b = true) : ∀ c ∈ labelText a b, c ≠ 32 := by
  obtain ⟨⟨a0, a3⟩, b0, b7⟩ := labelOk_spec h
  have hm : (a, b) ∈ labs := by
    have ha : a = 0 ∨ a = 1 ∨ a = 2 ∨ a = 3 := by omega
    have hb : b = 0 ∨ b = 1 ∨ b = 2 ∨ b = 3 ∨ b = 4 ∨ b = 5 ∨ b = 6 ∨ b = 7 := by omega
    rcases ha with rfl | rfl | rfl | rfl <;> rcases hb with rfl | rfl | rfl | rfl | rfl | rfl | rfl | rfl <;> decide
  have := List.all_eq_true.1 labels_plain _ hm
  intro c hc
  simpa using List.all_eq_true.1 this c hc
theorem dec_plain {n : Int} (h : 0 ≤ n) : ∀ c ∈ dec n, c ≠ 32 := by
  obtain ⟨k, rfl⟩ := Int.eq_ofNat_of_zero_le h
  rw [dec_nat]
  intro c hc e
  have := digs k c hc
  subst e
  have : (32 : UInt8).toNat = 32 := rfl
  omega
theorem word_plain (k : Int) : ∀ c ∈ (wordOf k).data.toList, c ≠ 32 := by
  by_cases h : 1 ≤ k ∧ k ≤ 17
  · have : (wordOf k).data.toList.all (· != 32) = true := by
      rcases kinds h with rfl | rfl | rfl | rfl | rfl | rfl | rfl | rfl | rfl | rfl | rfl | rfl | rfl | rfl | rfl | rfl | rfl <;> decide +kernel
    intro c hc
    simpa using List.all_eq_true.1 this c hc
  · unfold wordOf
    rw [if_neg h]
    intro c hc
    exact absurd hc List.not_mem_nil
theorem state_plain (b : Int) : ∀ c ∈ stateWord b, c ≠ 32 := by
  have : (stateWord b).all (· != 32) = true := by
    unfold stateWord
    split
    · decide
    · split
      · decide
      · split <;> decide
  intro c hc
  simpa using List.all_eq_true.1 this c hc
theorem name_plain {s : ByteArray} (h : nameOk s.data.toList = true) : ∀ c ∈ s.data.toList, c ≠ 32 := by
  unfold nameOk at h
  simp only [Bool.and_eq_true] at h
  intro c hc e
  have := List.all_eq_true.1 h.2 c hc
  subst e
  exact absurd this (by decide)
structure OpMore (o : Opr) : Prop where
  nm : o.k = 1 → nameOk o.ow.data.toList = true
  un : (o.k = 1 ∨ o.k = 7) → labelOk o.m1 o.m2 = true
  ow0 : o.k ≠ 1 → o.ow = bs []
  m0 : o.k ≠ 1 → o.k ≠ 7 → o.m1 = 0 ∧ o.m2 = 0
  u1 : o.k = 1 → o.af = 0 → o.m1 = 0 ∧ o.m2 = 0
  za : ¬ 0 < many o.k → o.a = 0
  zb : ¬ 1 < many o.k → o.b = 0
  zc : ¬ 2 < many o.k → o.c = 0
  zd : ¬ 3 < many o.k → o.d = 0
theorem num_zero {k i n : Int} (h : numOk k i n = true) (hk : ¬ i < many k) : n = 0 := by
  unfold numOk at h
  rw [decide_eq_false hk, Bool.and_eq_true] at h
  simpa using h.2
theorem opMore {o : Opr} (h : o.ok = true) : OpMore o := by
  obtain ⟨sys, l1, l2, k, ow, a, b, c, d, m1, m2, af⟩ := o
  unfold Opr.ok opOk at h
  rw [Bool.and_eq_true, Bool.and_eq_true] at h
  obtain ⟨⟨_, h2⟩, h3⟩ := h
  unfold numsOk at h2
  simp only [Bool.and_eq_true] at h2
  obtain ⟨⟨⟨ha, hb⟩, hc⟩, hd⟩ := h2
  unfold tailOk at h3
  refine ⟨?_, ?_, ?_, ?_, ?_, num_zero ha, num_zero hb, num_zero hc, num_zero hd⟩
  · intro hk; simp only at hk h3; rw [if_pos hk] at h3; simp only [Bool.and_eq_true] at h3; exact h3.1.1
  · intro hk
    simp only at hk h3 ⊢
    by_cases h1 : k = 1
    · rw [if_pos h1] at h3; simp only [Bool.and_eq_true] at h3; exact h3.1.2
    · have h7 : k = 7 := by omega
      rw [if_neg h1, if_pos h7] at h3; simp only [Bool.and_eq_true] at h3; exact h3.1.2
  · intro h1
    simp only at h1 h3 ⊢
    rw [if_neg h1] at h3
    split at h3
    · simp only [Bool.and_eq_true, decide_eq_true_eq] at h3; exact h3.1.1
    · split at h3
      · simp only [Bool.and_eq_true, decide_eq_true_eq] at h3; exact h3.1.1.1.1
      · simp only [Bool.and_eq_true, decide_eq_true_eq] at h3; exact h3.1.1.1
  · intro h1 h7
    simp only at h1 h7 h3 ⊢
    rw [if_neg h1, if_neg h7] at h3
    split at h3
    · simp only [Bool.and_eq_true, beq_iff_eq] at h3; exact ⟨h3.1.1.1.2, h3.1.1.2⟩
    · simp only [Bool.and_eq_true, beq_iff_eq] at h3; exact ⟨h3.1.1.2, h3.1.2⟩
  · intro h1 h0
    simp only at h1 h0 h3 ⊢
    rw [if_pos h1, h0, Bool.and_eq_true] at h3
    simpa using h3.2
theorem words_plain {o : Opr} (h : o.ok = true) : ∀ x ∈ o.words, ∀ c ∈ x, c ≠ 32 := by
  have F := opFacts (sys := o.sys) (l1 := o.l1) (l2 := o.l2) (k := o.k) (ow := o.ow) (a := o.a) (b := o.b) (c := o.c) (d := o.d) (m1 := o.m1) (m2 := o.m2) (af := o.af) h
  have G := opMore h
  intro x hx
  unfold Opr.words opWords at hx
  simp only [List.mem_cons, List.mem_append] at hx
  rcases hx with rfl | rfl | (hx | hx) | hx
  · split
    · decide
    · rename_i hs
      exact label_plain (F.lab (by simpa using hs))
  · exact word_plain _
  · split at hx
    · rename_i hk
      obtain rfl := List.mem_singleton.1 hx
      exact name_plain (G.nm hk)
    · split at hx
      · rename_i hk
        obtain rfl := List.mem_singleton.1 hx
        exact label_plain (G.un (.inr hk))
      · simp at hx
  · split at hx
    · simp only [List.mem_cons, List.not_mem_nil, or_false] at hx
      rcases hx with rfl | rfl
      · exact dec_plain F.a0.1
      · exact state_plain _
    · unfold numWords at hx
      obtain ⟨n, hn, rfl⟩ := List.mem_map.1 hx
      have hn := List.mem_of_mem_take hn
      simp only [List.mem_cons, List.not_mem_nil, or_false] at hn
      rcases hn with rfl | rfl | rfl | rfl
      · exact dec_plain F.a0.1
      · exact dec_plain F.b0.1
      · exact dec_plain F.c0.1
      · exact dec_plain F.d0.1
  · split at hx
    · simp at hx
    · rename_i haf
      simp only [List.mem_cons, List.not_mem_nil, or_false] at hx
      rcases hx with rfl | rfl | rfl
      · decide
      · have hk : o.k = 1 := by
          by_cases hk : o.k = 1
          · exact hk
          · exact absurd (F.u hk) haf
        exact label_plain (G.un (.inl hk))
      · exact dec_plain F.af0.1
theorem cut_words {o : Opr} (h : o.ok = true) : cut [] o.text = o.words := by
  have e : o.text = joinSp o.words := opText_ok h
  rw [e]
  exact cut_join (by unfold Opr.words opWords; simp) (words_plain h)
theorem text_ne {o : Opr} (h : o.ok = true) : o.text ≠ [] := by
  have e : o.text = joinSp o.words := opText_ok h
  rw [e]
  unfold Opr.words opWords
  rw [joinSp_cons, List.map_cons, List.flatten_cons]
  simp
set_option maxHeartbeats 2000000 in
/-- both parsers give an operation back out of its words -/
theorem cand_words {o : Opr} (h : o.ok = true) : candI o.words = o ∧ candS o.words = o := by
  have F := opFacts (sys := o.sys) (l1 := o.l1) (l2 := o.l2) (k := o.k) (ow := o.ow) (a := o.a) (b := o.b) (c := o.c) (d := o.d) (m1 := o.m1) (m2 := o.m2) (af := o.af) h
  have G := opMore h
  obtain ⟨sys, l1, l2, k, ow, a, b, c, d, m1, m2, af⟩ := o
  have hk := kindOf_of ⟨F.k1, F.k17⟩
  have na := numI_dec F.a0
  have nb := numI_dec F.b0
  have nc := numI_dec F.c0
  have nd := numI_dec F.d0
  have nf := numI_dec F.af0
  have sa := num7_dec F.a0
  have sb := num7_dec F.b0
  have sc := num7_dec F.c0
  have sd := num7_dec F.d0
  have sf := num7_dec F.af0
  have hst : k = 13 → stateOf (stateWord b) = b := fun e => stateOf_of (F.n e)
  have hun : (k = 1 ∨ k = 7) → lab (labelText m1 m2) = (m1, m2) := fun e => lab_text (G.un e)
  have hss : (sysW == sysW) = true := by decide
  have haa : (aftW == aftW) = true := by decide
  have hen : ([] == aftW : Bool) = false := by decide
  have hsys : [115, 121, 115] = sysW := rfl
  have haft : ([97, 102, 116, 101, 114] : Bs) = aftW := rfl
  have hlsys : lab sysW = (0, 0) := by decide +kernel
  have hlab : sys = false → lab (labelText l1 l2) = (l1, l2) ∧ (labelText l1 l2 == sysW) = false := fun e => ⟨lab_text (F.lab e), label_not_sys (F.lab e)⟩
  have g0 := G.nm
  have g1 := G.ow0
  have g2 := G.m0
  have g3 := G.u1
  have g4 := G.za
  have g5 := G.zb
  have g6 := G.zc
  have g7 := G.zd
  have hu := F.u
  have hkk := kinds ⟨F.k1, F.k17⟩
  have hs := F.s
  clear F G h
  simp only [Opr.words, opWords, hsys, haft] at *
  rcases hs with ⟨rfl, h12, rfl, rfl⟩ | ⟨rfl, h12⟩
  · rcases hkk with rfl | rfl | rfl | rfl | rfl | rfl | rfl | rfl | rfl | rfl | rfl | rfl | rfl | rfl | rfl | rfl | rfl
    all_goals first | omega | skip
    all_goals
      obtain rfl := hu (by decide)
      obtain ⟨rfl, rfl⟩ := g2 (by decide) (by decide)
      obtain rfl := g1 (by decide)
      simp_all [candI, candS, getW, numWords, many, nI, nS, atK, aftB, List.getD_cons_zero, List.getD_cons_succ, bs_data]
  · obtain ⟨hl1, hl2⟩ := hlab rfl
    rcases hkk with rfl | rfl | rfl | rfl | rfl | rfl | rfl | rfl | rfl | rfl | rfl | rfl | rfl | rfl | rfl | rfl | rfl
    all_goals first | omega | skip
    · by_cases haf : af = 0
      · subst haf
        obtain ⟨rfl, rfl⟩ := g3 rfl rfl
        simp_all [candI, candS, getW, numWords, many, nI, nS, atK, aftB, List.getD_cons_zero, List.getD_cons_succ, bs_data]
      · simp_all [candI, candS, getW, numWords, many, nI, nS, atK, aftB, List.getD_cons_zero, List.getD_cons_succ, bs_data]
    iterate 5
      · obtain rfl := hu (by decide)
        obtain ⟨rfl, rfl⟩ := g2 (by decide) (by decide)
        obtain rfl := g1 (by decide)
        simp_all [candI, candS, getW, numWords, many, nI, nS, atK, aftB, List.getD_cons_zero, List.getD_cons_succ, bs_data]
    · obtain rfl := hu (by decide)
      obtain rfl := g1 (by decide)
      simp_all [candI, candS, getW, numWords, many, nI, nS, atK, aftB, List.getD_cons_zero, List.getD_cons_succ, bs_data]
    all_goals
      obtain rfl := hu (by decide)
      obtain ⟨rfl, rfl⟩ := g2 (by decide) (by decide)
      obtain rfl := g1 (by decide)
      simp_all [candI, candS, getW, numWords, many, nI, nS, atK, aftB, List.getD_cons_zero, List.getD_cons_succ, bs_data]
theorem read_same (t : Bs) : readI t = readS t := by
  unfold readI readS
  by_cases hl : 8000 < t.length
  · rw [if_pos hl, if_pos hl]
  rw [if_neg hl, if_neg hl]
  by_cases hI : ((candI (cut [] t)).ok && (candI (cut [] t)).text == t) = true
  · rw [if_pos hI]
    rw [Bool.and_eq_true, beq_iff_eq] at hI
    obtain ⟨h1, h2⟩ := hI
    have hc := cut_words h1
    rw [h2] at hc
    obtain ⟨e1, e2⟩ := cand_words h1
    rw [← hc] at e2
    rw [e2]
    have hne := text_ne h1
    rw [h2] at hne
    rw [if_neg]
    simp [h2, hne]
  · rw [if_neg hI]
    by_cases hS : ((candS (cut [] t)).text != t || t == []) = true
    · rw [if_pos hS]
    · exfalso
      simp only [Bool.or_eq_true, bne_iff_ne, beq_iff_eq, not_or, Decidable.not_not] at hS
      obtain ⟨h2, hne⟩ := hS
      have h1 : (candS (cut [] t)).ok = true := by
        cases h : (candS (cut [] t)).ok
        · have : (candS (cut [] t)).text = [] := opText_bad h
          rw [this] at h2
          exact absurd h2.symm hne
        · rfl
      have hc := cut_words h1
      rw [h2] at hc
      obtain ⟨e1, e2⟩ := cand_words h1
      rw [← hc] at e1
      rw [e1] at hI
      apply hI
      rw [h1, h2]
      simp
end M
end Go.Proofs.YtfblolkkajppcaaGreatDoor
namespace Go.Proofs.YtfblolkkajppcaaGreatDoor
open Go.RowKit M

/-- what a walk asks of the library's variables -/
structure Env (w : World) : Prop where
  tab : Tab w
  e1 : ∃ ev, w.cell? ⟨2, 0, none⟩ = some ev ∧ (ev = .nilIface ∨ ∃ te pe, ev = .iface te pe)
  e2 : ∃ ev, w.cell? ⟨3, 0, none⟩ = some ev ∧ (ev = .nilIface ∨ ∃ te pe, ev = .iface te pe)
  mx : ∃ m, w.cell? ⟨0, 0, none⟩ = some (.int .i64 m)
theorem cell_later {w w' : World} {a : Addr} {v : Value} (h : w.cell? a = some v) (hb : Below w.heap.size w w') : w'.cell? a = some v :=
  (hb.cell (World.block_lt_of_cell? w a h)).trans h
theorem Env.later {w w' : World} (h : Env w) (hb : Below w.heap.size w w') : Env w' where
  tab := h.tab.later hb
  e1 := let ⟨ev, h1, h2⟩ := h.e1; ⟨ev, cell_later h1 hb, h2⟩
  e2 := let ⟨ev, h1, h2⟩ := h.e2; ⟨ev, cell_later h1 hb, h2⟩
  mx := let ⟨m, h1⟩ := h.mx; ⟨m, cell_later h1 hb⟩
/-- strings.Split at a space: the words in a new block -/
theorem split_l (t : ByteArray) (ht : t.size ≤ 8000) (w : World) (hE : Env w) :
    Rets Tryz.prog [] 34 #[.string t, .string ⟨#[32]⟩] w (tSl 9 (cut [] t.data.toList).length (strs (cut [] t.data.toList)).toArray) := by
  obtain ⟨m, hm⟩ := hE.mx
  have h := Any.strings_Split { Tryz.laysM146 with } Tryz.laysM146.i9 t ⟨#[32]⟩ m w (by omega) hm (by decide)
  rw [count_cut, split_cut] at h
  exact h.mono fun e w' ⟨he, hw⟩ => ⟨_, _, he, ⟨w.heap.size, rfl, rfl⟩, by subst hw; exact (Hs.newblk w _ _).hk⟩
theorem parse_ok (l : Bs) (hl : l.length ≤ 8000) (w : World) (hE : Env w) :
    Calls Tryz.prog 72 #[.string (bs l), .int .i64 10, .int .i64 64] w fun e w' => ∃ ev, e = .returned (.tuple #[.int .i64 (numI l), ev]) ∧ Below w.heap.size w w' := by
  obtain ⟨e1, h1, h1'⟩ := hE.e1
  obtain ⟨e2, h2, h2'⟩ := hE.e2
  have hz : (bs l).size = l.length := rfl
  unfold numI
  cases hp : Lib.parseIntB 64 l with
  | ok v =>
    exact (Any.strconv_ParseInt_10_at64_ok Tryz.laysC174 (bs l) (by omega) v hp w).mono fun e w' ⟨he, hw⟩ => ⟨_, he, by
      rcases hw with rfl | ⟨t, rfl⟩
      · exact Below.refl _ _
      · exact Lib.bytesWorld_below _ _ _⟩
  | «syntax» =>
    exact (Any.strconv_ParseInt_10_at64_syntax Tryz.laysC174 (bs l) (by omega) hp e1 w h1 h1').mono fun e w' ⟨N, he, _, _, hw⟩ => ⟨_, he, hw⟩
  | range =>
    exact (Any.strconv_ParseInt_10_at64_range Tryz.laysC174 (bs l) (by omega) hp e2 w h2 h2').mono fun e w' ⟨N, he, _, _, hw⟩ => ⟨_, he, hw⟩
theorem number_i (l : Bs) (hl : l.length ≤ 8000) (w : World) (hE : Env w) : Gives Tryz.prog 38 #[.string (bs l)] w (.int .i64 (numI l)) := by
  unfold Gives
  have H := Hs.start noRow w
  have hP := parse_ok l hl w hE
  generalize numI l = n at *
  clear hE
  go_enter Tryz.func38, Tryz.ntmps38
  go_wp2_with (go_at_call 72; refine hP.mono ?_; rintro e w1 ⟨ev, rfl, hb⟩)
  go_wp2
  go_ret
  exact ⟨rfl, hb⟩
theorem word_i (ws : List Bs) (k : Nat) (hk : k ≤ 1000) (b g : Nat) (w : World) (hb : w.cell? ⟨b, 0, none⟩ = some (.slice (some ⟨g, 0, none⟩) ws.length ws.length)) (hw : ∀ x, ws[k]? = some x → w.cell? ⟨g, k, none⟩ = some (.string (bs x))) :
    Gives Tryz.prog 35 #[.int .i64 k, .pointer (some ⟨b, 0, none⟩)] w (.string (bs (getW ws k))) := by
  unfold Gives
  have H := Hs.start noRow w
  by_cases hl : k < ws.length
  · obtain ⟨x, hx⟩ : ∃ x, ws[k]? = some x := ⟨ws[k], List.getElem?_eq_getElem hl⟩
    have hc := hw x hx
    have hg : getW ws k = x := by unfold getW; rw [List.getD_eq_getElem?_getD, hx]; rfl
    rw [hg]
    have hl1 : (k : Int) < ws.length := by omega
    clear hw hx hg
    generalize ws.length = n at *
    go_enter Tryz.func35, Tryz.ntmps35
    go_wp2_with (((((with_reducible apply st_load1 H); decide +kernel; rfl; exact cF)); clear H; intro wn H; (try simp only [splice, yG, yH, yI, yJ, yK, yL, yM, yN, yO, yP, yQ, Nat.reduceAdd, yA, yB, yC] at H); simp only [Act.put, yA, yB, yC, yD, yE, yF]))
    go_ret
    exact ⟨rfl, H.below⟩
  · have hg : getW ws k = [] := by unfold getW; rw [List.getD_eq_getElem?_getD, List.getElem?_eq_none (by omega)]; rfl
    rw [hg]
    have hl1 : ¬ (k : Int) < ws.length := by omega
    clear hw hg
    generalize ws.length = n at *
    go_enter Tryz.func35, Tryz.ntmps35
    go_wp2_with (((((with_reducible apply st_load1 H); decide +kernel; rfl; exact cF)); clear H; intro wn H; (try simp only [splice, yG, yH, yI, yJ, yK, yL, yM, yN, yO, yP, yQ, Nat.reduceAdd, yA, yB, yC] at H); simp only [Act.put, yA, yB, yC, yD, yE, yF]))
    go_ret
    exact ⟨rfl, H.below⟩
theorem idx_i (l : List ByteArray) (wd : Bs) (g : Nat) (w : World) (hl : l.length ≤ 100) (hc : ∀ k x, l[k]? = some x → w.cell? ⟨g, k, none⟩ = some (.string x)) :
    Gives Tryz.prog 37 #[.slice (some ⟨g, 0, none⟩) l.length l.length, .string (bs wd)] w (.int .i64 (idxIn l wd)) := by
  unfold Gives
  have H := Hs.start noRow w
  have HC := Lib.hid hc
  obtain ⟨n, hn⟩ : ∃ n, n = l.length := ⟨_, rfl⟩
  rw [← hn]
  have hN := Lib.hid hn
  have hn1 : n ≤ 100 := by rw [hn]; exact hl
  clear hc hn hl
  go_enter Tryz.func37, Tryz.ntmps37
  go_wp2_with (fail)
  go_loopg [5, 6, 9] n (fun m _ _ iv wr => ∃ j : Nat, j + m = n ∧ iv = .int .i64 j ∧ Hid (idxIn.go wd j (l.drop j) = idxIn l wd) ∧ Hs noRow w [] wr)
  case atStart => exact ⟨0, by omega, rfl, Lib.hid rfl, H⟩
  case round =>
    clear H
    obtain ⟨j, hj, rfl, HI, H⟩ := hrel
    by_cases hlt : j < n
    · have hlt1 : (j : Int) < n := by omega
      obtain ⟨x, hx⟩ : ∃ x, l[j]? = some x := ⟨l[j]'(by rw [← hN.out]; exact hlt), List.getElem?_eq_getElem (by rw [← hN.out]; exact hlt)⟩
      have hcj := HC.out j x hx
      have hd : l.drop j = x :: l.drop (j + 1) := by
        obtain ⟨h1, h2⟩ := List.getElem?_eq_some_iff.1 hx
        rw [← h2]; exact List.drop_eq_getElem_cons h1
      have HJ := HI.out
      rw [hd, idxIn.go] at HJ
      clear HI hx hd
      by_cases hxe : x = bs wd
      · rw [if_pos hxe] at HJ
        have HR := Lib.hid HJ
        have hq : (x.toList == (bs wd).toList) = true := by rw [str_beq, hxe]; simp
        clear hxe HJ
        go_wp2_with (((((with_reducible apply st_load1 H); decide +kernel; rfl; exact cF)); clear H; intro wn H; (try simp only [splice, yG, yH, yI, yJ, yK, yL, yM, yN, yO, yP, yQ, Nat.reduceAdd, yA, yB, yC] at H); simp only [Act.put, yA, yB, yC, yD, yE, yF]))
        go_ret
        exact ⟨by rw [HR.out]; rfl, H.below⟩
      · rw [if_neg hxe] at HJ
        have HR := Lib.hid HJ
        have hq : (x.toList == (bs wd).toList) = false := by rw [str_beq]; simpa using hxe
        clear hxe HJ
        go_wp2_with (((((with_reducible apply st_load1 H); decide +kernel; rfl; exact cF)); clear H; intro wn H; (try simp only [splice, yG, yH, yI, yJ, yK, yL, yM, yN, yO, yP, yQ, Nat.reduceAdd, yA, yB, yC] at H); simp only [Act.put, yA, yB, yC, yD, yE, yF]))
        go_roundg (n - (j + 1))
        case measure => omega
        case rel => exact ⟨j + 1, by omega, by go_num, HR, H⟩
    · obtain rfl : j = n := by omega
      have hlt1 : ¬ (j : Int) < j := by omega
      have HR : Hid (idxIn l wd = 0) := Lib.hid (by rw [← HI.out, List.drop_of_length_le (by rw [← hN.out]; exact Nat.le_refl _)]; rfl)
      go_wp2_with (fail)
      go_ret
      exact ⟨by rw [HR.out]; rfl, H.below⟩
end Go.Proofs.YtfblolkkajppcaaGreatDoor
namespace Go.Proofs.YtfblolkkajppcaaGreatDoor
open Go.RowKit M

namespace M
theorem foldS_bad {c : UInt8} {r : Bs} {n : Int} (h : ¬ (48 ≤ c.toNat ∧ c.toNat ≤ 57)) : foldS n (c :: r) = -1 := by rw [foldS, if_neg h]
theorem foldS_good {c : UInt8} {r : Bs} {n : Int} (h : 48 ≤ c.toNat ∧ c.toNat ≤ 57) : foldS n (c :: r) = foldS (10 * n + ((c.toNat : Int) - 48)) r := by rw [foldS, if_pos h]
def seg (T : Bs) (f i : Nat) : Bs := (T.drop f).take (i - f)
theorem seg_nil (T : Bs) (i : Nat) : seg T i i = [] := by unfold seg; rw [Nat.sub_self, List.take_zero]
theorem seg_snoc {T : Bs} {f i : Nat} {c : UInt8} (hf : f ≤ i) (h : T[i]? = some c) : seg T f (i + 1) = seg T f i ++ [c] := by
  unfold seg
  rw [show i + 1 - f = (i - f) + 1 by omega, List.take_add_one, List.getElem?_drop, show f + (i - f) = i by omega, h]; rfl
theorem seg_end {T : Bs} {f i : Nat} (hi : T.length ≤ i) : seg T f i = T.drop f := by
  unfold seg
  rw [List.take_of_length_le (by rw [List.length_drop]; omega)]
end M
theorem Hs.retX {T : Value → List Hl → Prop} {r : Value} {w0 w : World} {L M : List Hl} (H : Hs noRow w0 L w) (hs : M.Sublist L) (hT : T r M) : ∃ v', Ending.returned r = .returned v' ∧ ∃ M', T v' M' ∧ Hk [] w0 M' w := ⟨r, rfl, M, hT, (H.sub hs).hk⟩
/-- a row of texts of one's own -/
def tRowQ (ws : List Bs) (v : Value) (M : List Hl) : Prop := ∃ g c, v = .slice (some ⟨g, 0, none⟩) ws.length c ∧ M = [Hl.own 9 1 v ws.length (strs ws)]
set_option maxRecDepth 100000 in
set_option maxHeartbeats 4000000 in
theorem l08Num_s (s : ByteArray) (hs : s.size ≤ 8000) (w : World) : Gives Tryz.prog 63 #[.string s] w (.int .i64 (num9 s.data.toList)) := by
  unfold Gives
  have H := Hs.start noRow w
  have hsz := size_data s
  by_cases h1 : s.size < 1
  · have HE : Hid (num9 s.data.toList = -1) := Lib.hid (by unfold num9; rw [if_pos (by omega)])
    have g1 : (s.size : Int) < 1 := by omega
    clear h1
    go_enter Tryz.func63, Tryz.ntmps63
    go_wp2_with (fail)
    go_ret
    exact ⟨by rw [HE.out]; rfl, H.below⟩
  have g1 : ¬ (s.size : Int) < 1 := by omega
  by_cases h9 : 9 < s.size
  · have HE : Hid (num9 s.data.toList = -1) := Lib.hid (by unfold num9; rw [if_pos (by omega)])
    have g9 : (9 : Int) < s.size := by omega
    clear h9 h1
    go_enter Tryz.func63, Tryz.ntmps63
    go_wp2_with (((with_reducible refine' st_guard ?_ ?_ ?_); rotate_left; rfl; (all_goals (intro hgd; cases hgd)); (try simp only [Act.put, yA, yB, yC, yD, yE, yF])))
    go_ret
    exact ⟨by rw [HE.out]; rfl, H.below⟩
  have g9 : ¬ (9 : Int) < s.size := by omega
  have p0 : 0 < s.size := by omega
  have b0 : s.data.toList[0]? = some s[0] := List.getElem?_eq_getElem (by omega)
  have q0 : s.data.toList.head? = some s[0] := by rw [List.head?_eq_getElem?, b0]
  by_cases hz : 1 < s.size ∧ s[0].toNat = 48
  · have HE : Hid (num9 s.data.toList = -1) := Lib.hid (by
      unfold num9
      rw [if_pos (.inr (.inr ⟨by omega, by rw [q0]; congr 1; exact UInt8.toNat_inj.1 hz.2⟩))])
    have g2 : (1 : Int) < s.size := by omega
    have g3 : ((s[0].toNat : Int) == 48) = true := by rw [hz.2]; rfl
    have i0 : (0 : Int) < s.size := by omega
    clear hz b0 q0 h1 h9
    go_enter Tryz.func63, Tryz.ntmps63
    go_wp2_with (((with_reducible refine' st_guard ?_ ?_ ?_); rotate_left; rfl; (all_goals (intro hgd; cases hgd)); (try simp only [Act.put, yA, yB, yC, yD, yE, yF])))
    go_ret
    exact ⟨by rw [HE.out]; rfl, H.below⟩
  have HE : Hid (num9 s.data.toList = foldS 0 s.data.toList) := Lib.hid (by
    unfold num9
    rw [if_neg]
    rintro (h | h | ⟨h, h'⟩)
    · omega
    · omega
    · rw [q0] at h'
      exact hz ⟨by omega, by rw [Option.some.inj h']; rfl⟩)
  have hloop : ∀ (R : Int), R = foldS 0 s.data.toList → num9 s.data.toList = R := fun R h => by rw [HE.out, h]
  have HL := Lib.hid hloop
  have HSZ := Lib.hid hsz
  have i0 : (0 : Int) < s.size := by omega
  have hcase : ¬ (1 : Int) < s.size ∨ ((1 : Int) < s.size ∧ ((s[0].toNat : Int) == 48) = false) := by
    by_cases h : 1 < s.size
    · exact .inr ⟨by omega, by have : ¬ s[0].toNat = 48 := fun e => hz ⟨h, e⟩
                               simp; omega⟩
    · exact .inl (by omega)
  clear hz b0 q0 h1 h9 HE hloop hsz
  rcases hcase with g2 | ⟨g2, g3⟩
  all_goals
    go_enter Tryz.func63, Tryz.ntmps63
    go_wp2_with (((with_reducible refine' st_guard ?_ ?_ ?_); rotate_left; rfl; (all_goals (intro hgd; cases hgd)); (try simp only [Act.put, yA, yB, yC, yD, yE, yF])))
  all_goals clear g2
  all_goals try clear g3
  all_goals
    go_loopg [3, 4] s.size (fun m nv iv wr => ∃ (k : Nat) (a : Int), k + m = s.size ∧ nv = .int .i64 a ∧ iv = .int .i64 k ∧ 0 ≤ a ∧ Hid (a < 10 ^ k) ∧ Hid (foldS a (s.data.toList.drop k) = foldS 0 s.data.toList) ∧ Hs noRow w [] wr)
  all_goals try (case atStart => exact ⟨0, 0, by omega, rfl, rfl, by omega, Lib.hid (by decide), Lib.hid (by rw [List.drop_zero]), H⟩)
  all_goals
    case round =>
      clear H
      obtain ⟨k, a, hk, rfl, rfl, ha, HA, HI, H⟩ := hrel
      have hk9 : k ≤ 9 := by omega
      by_cases hlt : k < s.size
      · have l1 : (k : Int) < s.size := by omega
        have hb : s.data.toList[k]? = some s[k] := List.getElem?_eq_getElem (by rw [HSZ.out]; exact hlt)
        have hd : s.data.toList.drop k = s[k] :: s.data.toList.drop (k + 1) := by
          obtain ⟨e1, e2⟩ := List.getElem?_eq_some_iff.1 hb
          rw [← e2]; exact List.drop_eq_getElem_cons e1
        have HJ := HI.out
        rw [hd] at HJ
        have hp : 10 * a + 9 ≤ 999999999 := by
          have h1 := HA.out
          have h2 : (10 : Int) ^ k ≤ 10 ^ 8 := by
            have : (10 : Nat) ^ k ≤ 10 ^ 8 := Nat.pow_le_pow_right (by omega) (by omega)
            exact_mod_cast this
          have h3 : (10 : Int) ^ 8 = 100000000 := by decide
          omega
        have HP : Hid (∀ d : Int, d ≤ 9 → 10 * a + d < 10 ^ (k + 1)) := Lib.hid (fun d hd => by
          have h1 := HA.out
          have h2 : (10 : Int) ^ (k + 1) = 10 ^ k * 10 := Int.pow_succ ..
          omega)
        clear hb hd HI HA
        generalize hc : s[k] = c at *
        by_cases hdg : 48 ≤ c.toNat ∧ c.toNat ≤ 57
        · rw [foldS_good hdg] at HJ
          have HK := Lib.hid HJ
          have c1 : ¬ (c.toNat : Int) < 48 := by omega
          have c2 : ¬ (57 : Int) < c.toNat := by omega
          have c3 : 48 ≤ c.toNat := hdg.1
          have c4 : c.toNat ≤ 57 := hdg.2
          clear HJ hdg
          go_wp2_with (((with_reducible refine' st_guard ?_ ?_ ?_); rotate_left; rfl; (all_goals (intro hgd; cases hgd)); (try simp only [Act.put, yA, yB, yC, yD, yE, yF])))
          go_roundg (s.size - (k + 1))
          case measure => omega
          case rel => exact ⟨k + 1, 10 * a + ((c.toNat : Int) - 48), by omega, by first | rfl | (congr 1; omega), by first | rfl | (congr 1; omega), by omega, Lib.hid (HP.out _ (by omega)), HK, H⟩
        · rw [foldS_bad hdg] at HJ
          have HK := Lib.hid HJ
          have hcc : (c.toNat : Int) < 48 ∨ (¬ (c.toNat : Int) < 48 ∧ (57 : Int) < c.toNat) := by omega
          clear HJ hdg HP
          rcases hcc with c1 | ⟨c1, c2⟩
          all_goals (
            go_wp2_with (((with_reducible refine' st_guard ?_ ?_ ?_); rotate_left; rfl; (all_goals (intro hgd; cases hgd)); (try simp only [Act.put, yA, yB, yC, yD, yE, yF])))
            go_ret
            exact ⟨by rw [HL.out _ HK.out]; rfl, H.below⟩
          )
      · have l1 : ¬ (k : Int) < s.size := by omega
        have HK : Hid (foldS 0 s.data.toList = a) := Lib.hid (by rw [← HI.out, List.drop_of_length_le (by rw [HSZ.out]; omega)]; rfl)
        clear HI HA
        go_wp2_with (fail)
        go_ret
        exact ⟨by rw [HL.out _ HK.out.symm]; rfl, H.below⟩
theorem l17Num_s (l : Bs) (hl : l.length ≤ 8000) (w : World) : Gives Tryz.prog 46 #[.string (bs l)] w (.int .i64 (num7 l)) := by
  have h9 := l08Num_s (bs l) hl
  have e : (bs l).data.toList = l := rfl
  rw [e] at h9
  unfold num7
  generalize num9 l = n at *
  unfold Gives
  have H := Hs.start noRow w
  by_cases h : 9999999 < n
  · rw [if_pos h]
    go_enter Tryz.func46, Tryz.ntmps46
    go_wp2_with ((((go_at_call 63; refine gvF (h9 _) H ?_)); clear H; intro wn H))
    go_ret
    exact ⟨rfl, H.below⟩
  · rw [if_neg h]
    go_enter Tryz.func46, Tryz.ntmps46
    go_wp2_with ((((go_at_call 63; refine gvF (h9 _) H ?_)); clear H; intro wn H))
    go_ret
    exact ⟨rfl, H.below⟩
set_option maxRecDepth 100000 in
set_option maxHeartbeats 4000000 in
theorem l01Split_s (t : ByteArray) (ht : t.size ≤ 8000) (w : World) :
    Rets Tryz.prog [] 42 #[.string t, .int .u8 32] w (tRowQ (cut [] t.data.toList)) := by
  have H := Hs.start noRow w
  have hsz := size_data t
  have HSZ := Lib.hid hsz
  clear hsz
  go_enter Tryz.func42, Tryz.ntmps42
  go_wp2_with (((((with_reducible apply st_bslice H); exact nsF; intro nb)); clear H; intro wn H; simp only [Act.put, yA, yB, yC, yD, yE, yF]))
  have Hn := H.toOwn (g := nb) (E := 9) 1 0 uF rfl (by decide); clear H; have H := Hn; clear Hn
  go_loopg [5, 6, 7] t.size (fun m ov fv iv wr => ∃ (i f : Nat) (v : Value) (xs : List Bs), i + m = t.size ∧ f ≤ i ∧ iv = .int .i64 i ∧ fv = .int .i64 f ∧ ov = v ∧ xs.length ≤ i ∧ Hid (xs ++ cut (seg t.data.toList f i) (t.data.toList.drop i) = cut [] t.data.toList) ∧ Hs noRow w [Hl.own 9 1 v xs.length (strs xs)] wr)
  case atStart => exact ⟨0, 0, _, [], by omega, by omega, rfl, rfl, rfl, by simp, Lib.hid (by rw [seg_nil]; rfl), H⟩
  case round =>
    clear H
    obtain ⟨i, f, v, xs, hi, hf, rfl, rfl, rfl, hx, HI, H⟩ := hrel
    by_cases hlt : i < t.size
    · have l1 : (i : Int) < t.size := by omega
      have hb : t.data.toList[i]? = some t[i] := List.getElem?_eq_getElem (by rw [HSZ.out]; exact hlt)
      have hd : t.data.toList.drop i = t[i] :: t.data.toList.drop (i + 1) := by
        obtain ⟨e1, e2⟩ := List.getElem?_eq_some_iff.1 hb
        rw [← e2]; exact List.drop_eq_getElem_cons e1
      have hsg := seg_snoc hf hb
      have HJ := HI.out
      rw [hd, cut] at HJ
      have HX : Hid (t.extract f i = bs (seg t.data.toList f i)) := Lib.hid (extract_bs t f i)
      clear hb hd HI
      generalize hc : t[i] = c at *
      have f1 : (f : Int) ≤ i := by omega
      have f2 : (i : Int) ≤ t.size := by omega
      by_cases h32 : c = 32
      · rw [if_pos h32] at HJ
        have HK : Hid ((xs ++ [seg t.data.toList f i]) ++ cut (seg t.data.toList (i + 1) (i + 1)) (t.data.toList.drop (i + 1)) = cut [] t.data.toList) := Lib.hid (by rw [seg_nil, ← HJ]; simp)
        have g1 : ((c.toNat : Int) == 32) = true := by rw [h32]; rfl
        have HS : Hid (strs xs ++ [Value.string (t.extract f i)] = strs (xs ++ [seg t.data.toList f i])) := Lib.hid (by rw [HX.out]; simp [strs])
        have HLn : Hid (xs.length + 1 = (xs ++ [seg t.data.toList f i]).length) := Lib.hid (by simp)
        have hx1 : xs.length + 1 ≤ i + 1 := by omega
        clear HJ hsg h32 HX
        go_wp2_with (first | ((((with_reducible apply st_bslice H); exact nsF; intro nb)); clear H; intro wn H; simp only [Act.put, yA, yB, yC, yD, yE, yF]) | ((with_reducible apply st_appendb H); (((focus (with_reducible exact dT (dH))); rfl)); rfl; exact iF; kernel_rfl; rfl; rfl; (focus (omega)); clear H; intro vq wn H; (try simp only [yM, yN, yO] at H); simp only [Act.put, yA, yB, yC, yD, yE, yF]))
        go_roundg (t.size - (i + 1))
        case measure => omega
        case rel => exact ⟨i + 1, i + 1, _, xs ++ [seg t.data.toList f i], by omega, by omega, rfl, rfl, rfl, by rw [← HLn.out]; exact hx1, HK, by rw [← HLn.out, ← HS.out]; exact H.sel sF⟩
      · rw [if_neg h32, ← hsg] at HJ
        have HK := Lib.hid HJ
        have g1 : ((c.toNat : Int) == 32) = false := by
          have : ¬ c.toNat = 32 := fun e => h32 (UInt8.toNat_inj.1 e)
          simp; omega
        clear HJ hsg h32 HX
        go_wp2_with (fail)
        go_roundg (t.size - (i + 1))
        case measure => omega
        case rel => exact ⟨i + 1, f, _, xs, by omega, by omega, rfl, rfl, rfl, by omega, HK, H.sel sF⟩
    · obtain rfl : i = t.size := by omega
      have l1 : ¬ (t.size : Int) < t.size := by omega
      have hw : xs ++ [seg t.data.toList f t.size] = cut [] t.data.toList := by
        have := HI.out
        rw [List.drop_of_length_le (by rw [HSZ.out]; exact Nat.le_refl _)] at this
        exact this
      have HX : Hid (t.extract f t.size = bs (seg t.data.toList f t.size)) := Lib.hid (extract_bs t f t.size)
      have HS : Hid (strs xs ++ [Value.string (t.extract f t.size)] = strs (cut [] t.data.toList)) := Lib.hid (by rw [HX.out, ← hw]; simp [strs])
      have HLn : Hid (xs.length + 1 = (cut [] t.data.toList).length) := Lib.hid (by rw [← hw]; simp)
      have f1 : (f : Int) ≤ t.size := by omega
      clear hw HI HX
      go_wp2_with (first | ((((with_reducible apply st_bslice H); exact nsF; intro nb)); clear H; intro wn H; simp only [Act.put, yA, yB, yC, yD, yE, yF]) | ((with_reducible apply st_appendb H); (((focus (with_reducible exact dT (dH))); rfl)); rfl; exact iF; kernel_rfl; rfl; rfl; (focus (omega)); clear H; intro vq wn H; (try simp only [yM, yN, yO] at H); simp only [Act.put, yA, yB, yC, yD, yE, yF]))
      rw [HS.out, HLn.out] at H
      have hpos : 0 < (cut [] t.data.toList).length := by rw [← HLn.out]; omega
      obtain ⟨gj, cj, rfl, _, _⟩ := (H.owns iF).form hpos
      go_ret
      exact Hs.retX (T := tRowQ (cut [] t.data.toList)) (M := [Hl.own 9 1 (.slice (some ⟨gj, 0, none⟩) (cut [] t.data.toList).length cj) (cut [] t.data.toList).length (strs (cut [] t.data.toList))]) H lF ⟨gj, cj, rfl, rfl⟩
end Go.Proofs.YtfblolkkajppcaaGreatDoor
namespace Go.Proofs.YtfblolkkajppcaaGreatDoor
open Go.RowKit M

namespace M
def labCells (n : Nat) : List Value := (labs.take n).flatMap fun p => [.int .i64 p.1, .int .i64 p.2]
theorem labCells_step {i j : Nat} (hi : i < 4) (hj : j < 8) : labCells (8 * i + j) ++ [.int .i64 i, .int .i64 j] = labCells (8 * i + (j + 1)) := by
  have hi : i = 0 ∨ i = 1 ∨ i = 2 ∨ i = 3 := by omega
  have hj : j = 0 ∨ j = 1 ∨ j = 2 ∨ j = 3 ∨ j = 4 ∨ j = 5 ∨ j = 6 ∨ j = 7 := by omega
  rcases hi with rfl | rfl | rfl | rfl <;> rcases hj with rfl | rfl | rfl | rfl | rfl | rfl | rfl | rfl <;> rfl
theorem labs_at : ∀ k : Nat, k < 32 → ∃ a b : Nat, a < 4 ∧ b < 8 ∧ k = 8 * a + b ∧ labs[k]? = some ((a : Int), (b : Int)) ∧ (labCells 32)[k * 2]? = some (.int .i64 a) ∧ (labCells 32)[k * 2 + 1]? = some (.int .i64 b) := by
  intro k hk
  refine ⟨k / 8, k % 8, by omega, by omega, by omega, ?_⟩
  have hk : k = 0 ∨ k = 1 ∨ k = 2 ∨ k = 3 ∨ k = 4 ∨ k = 5 ∨ k = 6 ∨ k = 7 ∨ k = 8 ∨ k = 9 ∨ k = 10 ∨ k = 11 ∨ k = 12 ∨ k = 13 ∨ k = 14 ∨ k = 15 ∨ k = 16 ∨ k = 17 ∨ k = 18 ∨ k = 19 ∨ k = 20 ∨ k = 21 ∨ k = 22 ∨ k = 23 ∨ k = 24 ∨ k = 25 ∨ k = 26 ∨ k = 27 ∨ k = 28 ∨ k = 29 ∨ k = 30 ∨ k = 31 := by omega
  rcases hk with rfl | rfl | rfl | rfl | rfl | rfl | rfl | rfl | rfl | rfl | rfl | rfl | rfl | rfl | rfl | rfl | rfl | rfl | rfl | rfl | rfl | rfl | rfl | rfl | rfl | rfl | rfl | rfl | rfl | rfl | rfl | rfl <;> exact ⟨rfl, rfl, rfl⟩
def labCode (t : Bs) : Int := if labFind t = none then 3 else 0
/-- the search goes on behind k labels -/
def labFrom (t : Bs) (k : Nat) : Option (Int × Int) := (labs.drop k).find? fun p => labelText p.1 p.2 == t
theorem labFrom_step {t : Bs} {k : Nat} {a b : Int} (h : labs[k]? = some (a, b)) : labFrom t k = if labelText a b == t then some (a, b) else labFrom t (k + 1) := by
  unfold labFrom
  obtain ⟨h1, h2⟩ := List.getElem?_eq_some_iff.1 h
  rw [List.drop_eq_getElem_cons h1, List.find?_cons, h2]
  cases labelText a b == t <;> rfl
theorem labFrom_end (t : Bs) : labFrom t 32 = none := rfl
theorem lab_some {t : Bs} {a b : Int} (h : labFind t = some (a, b)) : lab t = (a, b) ∧ labCode t = 0 := by unfold lab labCode; rw [h]; exact ⟨rfl, rfl⟩
theorem lab_none {t : Bs} (h : labFind t = none) : lab t = (0, 0) ∧ labCode t = 3 := by unfold lab labCode; rw [h]; exact ⟨rfl, rfl⟩
end M
theorem bs_beq (x y : Bs) : ((bs x).toList == (bs y).toList) = (x == y) := by
  rw [str_beq]
  by_cases h : x = y
  · subst h; simp
  · have : bs x ≠ bs y := fun e => h (bs_inj.1 e)
    simp [this, h]
/-- the row of all labels -/
def tLabsQ (v : Value) (M : List Hl) : Prop := ∃ g c, v = .slice (some ⟨g, 0, none⟩) 32 c ∧ M = [Hl.own 24 2 v 32 (labCells 32)]
set_option maxRecDepth 100000 in
set_option maxHeartbeats 4000000 in
theorem allLabels_i (w : World) : Rets Tryz.prog [] 71 #[] w tLabsQ := by
  have H := Hs.start noRow w
  go_enter Tryz.func71, Tryz.ntmps71
  go_wp2_with (((((with_reducible apply st_bslice H); exact nsF; intro nb)); clear H; intro wn H; simp only [Act.put, yA, yB, yC, yD, yE, yF]))
  have Hn := H.toOwn (g := nb) (E := 24) 2 0 uF rfl (by decide); clear H; have H := Hn; clear Hn
  go_loopg [1, 2, 3, 5] 4 (fun m ov _ _ iv wr => ∃ (i : Nat) (v : Value), i + m = 4 ∧ iv = .int .i64 i ∧ ov = v ∧ Hs noRow w [Hl.own 24 2 v (8 * i + 0) (labCells (8 * i + 0))] wr)
  case atStart => exact ⟨0, _, by omega, rfl, rfl, H⟩
  case round =>
    clear H
    obtain ⟨i, v, hi, rfl, rfl, H⟩ := hrel
    by_cases hlt : i < 4
    · have l1 : (i : Int) < 4 := by omega
      go_wp2_with (fail)
      go_loopg [1, 3, 8] 8 (fun m ov _ jv wr => ∃ (j : Nat) (v : Value), j + m = 8 ∧ jv = .int .i64 j ∧ ov = v ∧ Hs noRow w [Hl.own 24 2 v (8 * i + j) (labCells (8 * i + j))] wr)
      case atStart => exact ⟨0, _, by omega, rfl, rfl, H⟩
      case round =>
        clear H
        obtain ⟨j, v, hj, rfl, rfl, H⟩ := hrel
        by_cases hlj : j < 8
        · have l2 : (j : Int) < 8 := by omega
          have HK := Lib.hid (labCells_step hlt hlj)
          go_wp2_with (first | ((((with_reducible apply st_bslice H); exact nsF; intro nb)); clear H; intro wn H; simp only [Act.put, yA, yB, yC, yD, yE, yF]) | ((with_reducible apply st_appendb H); (((focus (with_reducible exact dT (dH))); rfl)); rfl; exact iF; kernel_rfl; rfl; rfl; (focus (omega)); clear H; intro vq wn H; (try simp only [yM, yN, yO] at H); simp only [Act.put, yA, yB, yC, yD, yE, yF]))
          go_roundg (8 - (j + 1))
          case measure => omega
          case rel => exact ⟨j + 1, _, by omega, by go_num, rfl, by rw [← HK.out, show 8 * i + (j + 1) = 8 * i + j + 1 from rfl]; exact H.sel sF⟩
        · obtain rfl : j = 8 := by omega
          go_wp2_with (fail)
          go_roundg (4 - (i + 1))
          case measure => omega
          case rel => exact ⟨i + 1, _, by omega, by go_num, rfl, by rw [show 8 * (i + 1) + 0 = 8 * i + 8 by omega]; exact H.sel sF⟩
    · obtain rfl : i = 4 := by omega
      go_wp2_with (fail)
      obtain ⟨gj, cj, rfl, _, _⟩ := (H.owns iF).form (by decide)
      go_ret
      exact Hs.retN (T := tLabsQ) (M := [Hl.own 24 2 (.slice (some ⟨gj, 0, none⟩) 32 cj) 32 (labCells 32)]) H lF ⟨gj, cj, rfl, rfl⟩
set_option maxRecDepth 100000 in
set_option maxHeartbeats 4000000 in
theorem labelRead_s (l : Bs) (hl : l.length ≤ 8000) (w : World) : Gives Tryz.prog 43 #[.string (bs l)] w (.agg #[.int .i64 (lab l).1, .int .i64 (lab l).2, .int .i64 (labCode l)]) := by
  unfold Gives
  have H := Hs.start noRow w
  have hsz : (bs l).size = l.length := rfl
  have hl1 : ¬ (8000 : Int) < (bs l).size := by omega
  clear hsz
  go_enter Tryz.func43, Tryz.ntmps43
  go_wp2_with (((((with_reducible apply st_alloc (dst := some 2) H); exact nF; intro b2)); clear H; intro wn H; simp only [Act.put, yA, yB, yC, yD, yE, yF]))
  go_loopg [3, 4, 5] 4 (fun m av _ _ wr => ∃ (i : Nat), i + m = 4 ∧ av = .int .i64 i ∧ Hid (labFrom l (8 * i) = labFind l) ∧ Hs noRow w [Hl.blk b2 60 #[.int .i64 0, .int .i64 0, .int .i64 0]] wr)
  case atStart => exact ⟨0, by omega, rfl, Lib.hid rfl, H.sel sF⟩
  case round =>
    clear H
    obtain ⟨i, hi, rfl, HI, H⟩ := hrel
    by_cases hlt : i < 4
    · have l1 : (i : Int) ≤ 3 := by omega
      go_wp2_with (fail)
      go_loopg [4, 5] 8 (fun m bv _ wr => ∃ (j : Nat), j + m = 8 ∧ bv = .int .i64 j ∧ Hid (labFrom l (8 * i + j) = labFind l) ∧ Hs noRow w [Hl.blk b2 60 #[.int .i64 0, .int .i64 0, .int .i64 0]] wr)
      case atStart => exact ⟨0, by omega, rfl, Lib.hid HI.out, H.sel sF⟩
      case round =>
        clear H HI
        obtain ⟨j, hj, rfl, HI, H⟩ := hrel
        by_cases hlj : j < 8
        · have l2 : (j : Int) < 8 := by omega
          obtain ⟨a, b, ha, hb, hab, hla, _, _⟩ := labs_at (8 * i + j) (by omega)
          obtain rfl : a = i := by omega
          obtain rfl : b = j := by omega
          have HS := labFrom_step (t := l) hla
          rw [HI.out] at HS
          clear hla hab HI ha hb
          cases hq : labelText (a : Int) (b : Int) == l
          · rw [hq] at HS
            have hB : ((bs (labelText (a : Int) (b : Int))).toList == (bs l).toList) = false := by rw [bs_beq]; exact hq
            have HK : Hid (labFrom l (8 * a + (b + 1)) = labFind l) := Lib.hid HS.symm
            clear hq HS
            go_wp2_with (first | ((first | ((with_reducible apply st_loads H); decide +kernel; rfl; exact iF; exact zF; rfl) | ((with_reducible apply st_store H); rfl; exact eF; (focus (exact cells_agg _)); exact uF; kernel_rfl; (focus (exact Nat.le_of_ble_eq_true (by rfl))); (focus (rfl)))); clear H; intro wn H; (try simp only [splice, yG, yH, yI, yJ, yK, yL, yM, yN, yO, yP, yQ, Nat.reduceAdd, yA, yB, yC] at H); simp only [Act.put, yA, yB, yC, yD, yE, yF]) | ((((with_reducible apply st_alloc (dst := some 5) H); exact nF; intro b5)); clear H; intro wn H; simp only [Act.put, yA, yB, yC, yD, yE, yF]) | (((go_at_call 73; refine gvF (labelText_s _ _ _) H ?_)); clear H; intro wn H))
            go_roundg (8 - (b + 1))
            case measure => omega
            case rel => exact ⟨b + 1, by omega, by go_num, HK, H.sel sF⟩
          · rw [hq] at HS
            have hB : ((bs (labelText (a : Int) (b : Int))).toList == (bs l).toList) = true := by rw [bs_beq]; exact hq
            have HK := Lib.hid (lab_some HS)
            clear hq HS
            go_wp2_with (first | ((first | ((with_reducible apply st_loads H); decide +kernel; rfl; exact iF; exact zF; rfl) | ((with_reducible apply st_store H); rfl; exact eF; (focus (exact cells_agg _)); exact uF; kernel_rfl; (focus (exact Nat.le_of_ble_eq_true (by rfl))); (focus (rfl)))); clear H; intro wn H; (try simp only [splice, yG, yH, yI, yJ, yK, yL, yM, yN, yO, yP, yQ, Nat.reduceAdd, yA, yB, yC] at H); simp only [Act.put, yA, yB, yC, yD, yE, yF]) | ((((with_reducible apply st_alloc (dst := some 5) H); exact nF; intro b5)); clear H; intro wn H; simp only [Act.put, yA, yB, yC, yD, yE, yF]) | (((go_at_call 73; refine gvF (labelText_s _ _ _) H ?_)); clear H; intro wn H))
            refine bp_cell H rfl rfl iF (by kernel_rfl) (by kernel_rfl) rfl (by first | exact .inl rfl | exact .inr rfl) ?_
            rw [HK.out.1, HK.out.2]
            exact ⟨rfl, H.below⟩
        · obtain rfl : j = 8 := by omega
          go_wp2_with (fail)
          go_roundg (4 - (i + 1))
          case measure => omega
          case rel => exact ⟨i + 1, by omega, by go_num, HI, H.sel sF⟩
    · obtain rfl : i = 4 := by omega
      have HK := Lib.hid (lab_none (t := l) HI.out.symm)
      go_wp2_with (((((with_reducible apply st_store H); rfl; exact eF; (focus (exact cells_agg _)); exact uF; kernel_rfl; (focus (exact Nat.le_of_ble_eq_true (by rfl))); (focus (rfl)))); clear H; intro wn H; (try simp only [splice, yG, yH, yI, yJ, yK, yL, yM, yN, yO, yP, yQ, Nat.reduceAdd, yA, yB, yC] at H); simp only [Act.put, yA, yB, yC, yD, yE, yF]))
      refine bp_cell H rfl rfl iF (by kernel_rfl) (by kernel_rfl) rfl (by first | exact .inl rfl | exact .inr rfl) ?_
      rw [HK.out.1, HK.out.2]
      exact ⟨rfl, H.below⟩
set_option maxRecDepth 100000 in
set_option maxHeartbeats 4000000 in
theorem labelRead_i (l : Bs) (hl : l.length ≤ 8000) (w : World) : Gives Tryz.prog 36 #[.string (bs l)] w (.agg #[.int .i64 (lab l).1, .int .i64 (lab l).2, .int .i64 (labCode l)]) := by
  unfold Gives
  have H := Hs.start noRow w
  have hsz : (bs l).size = l.length := rfl
  have hL : ∀ w, Gives Tryz.prog 33 #[.string (bs l)] w (.bool false) := fun w => by
    have := isLong_i (bs l) w
    rwa [decide_eq_false (by omega)] at this
  clear hsz
  go_enter Tryz.func36, Tryz.ntmps36
  go_wp2_with (first | ((((with_reducible apply st_alloc (dst := some 2) H); exact nF; intro b2)); clear H; intro wn H; simp only [Act.put, yA, yB, yC, yD, yE, yF]) | (((go_at_call 33; refine gvF (hL _) H ?_)); clear H; intro wn H))
  refine (Rets.use (allLabels_i _)).mono ?_; rintro e wn ⟨_, _, rfl, ⟨g, c, rfl, rfl⟩, hkk⟩; have Hn := H.moreK (by intro k hk; first | exact absurd hk List.not_mem_nil | (obtain rfl := List.mem_singleton.1 hk; exact In.mem iF)) hkk; clear hkk; clear H; have H := Hn; clear Hn; (try simp only [yT, yV] at H)
  go_wp2_with (fail)
  go_loopg [4, 10] 32 (fun m _ kv wr => ∃ (k : Nat), k + m = 32 ∧ kv = .int .i64 k ∧ Hid (labFrom l k = labFind l) ∧ Hs noRow w [Hl.own 24 2 (.slice (some ⟨g, 0, none⟩) 32 c) 32 (labCells 32), Hl.blk b2 60 #[.int .i64 0, .int .i64 0, .int .i64 0]] wr)
  case atStart => exact ⟨0, by omega, rfl, Lib.hid rfl, H.sel sF⟩
  case round =>
    clear H
    obtain ⟨k, hk, rfl, HI, H⟩ := hrel
    by_cases hlt : k < 32
    · have l1 : (k : Int) < 32 := by omega
      obtain ⟨a, b, ha, hb, hab, hla, hc1, hc2⟩ := labs_at k hlt
      have HS := labFrom_step (t := l) hla
      rw [HI.out] at HS
      clear hla hab HI ha hb
      have hd1 : wr.cell? ⟨g, k * 2, none⟩ = some (.int .i64 a) := H.ownCell iF hc1
      have hd2 : wr.cell? ⟨g, k * 2 + 1, none⟩ = some (.int .i64 b) := H.ownCell iF hc2
      clear hc1 hc2
      cases hq : labelText (a : Int) (b : Int) == l
      · rw [hq] at HS
        have hB : ((bs (labelText (a : Int) (b : Int))).toList == (bs l).toList) = false := by rw [bs_beq]; exact hq
        have HK : Hid (labFrom l (k + 1) = labFind l) := Lib.hid HS.symm
        clear hq HS
        go_wp2_with (first | ((first | ((with_reducible apply st_loads H); decide +kernel; rfl; exact iF; exact zF; rfl) | ((with_reducible apply st_store H); rfl; exact eF; (focus (exact cells_agg _)); exact uF; kernel_rfl; (focus (exact Nat.le_of_ble_eq_true (by rfl))); (focus (rfl)))); clear H; intro wn H; (try simp only [splice, yG, yH, yI, yJ, yK, yL, yM, yN, yO, yP, yQ, Nat.reduceAdd, yA, yB, yC] at H); simp only [Act.put, yA, yB, yC, yD, yE, yF]) | ((((with_reducible apply st_alloc (dst := some 4) H); exact nF; intro b4)); clear H; intro wn H; simp only [Act.put, yA, yB, yC, yD, yE, yF]) | (((go_at_call 24; refine gvF (labelText_i _ _ _) H ?_)); clear H; intro wn H))
        go_roundg (32 - (k + 1))
        case measure => omega
        case rel => exact ⟨k + 1, by omega, by go_num, HK, H.sel sF⟩
      · rw [hq] at HS
        have hB : ((bs (labelText (a : Int) (b : Int))).toList == (bs l).toList) = true := by rw [bs_beq]; exact hq
        have HK := Lib.hid (lab_some HS)
        clear hq HS
        go_wp2_with (first | ((first | ((with_reducible apply st_loads H); decide +kernel; rfl; exact iF; exact zF; rfl) | ((with_reducible apply st_store H); rfl; exact eF; (focus (exact cells_agg _)); exact uF; kernel_rfl; (focus (exact Nat.le_of_ble_eq_true (by rfl))); (focus (rfl)))); clear H; intro wn H; (try simp only [splice, yG, yH, yI, yJ, yK, yL, yM, yN, yO, yP, yQ, Nat.reduceAdd, yA, yB, yC] at H); simp only [Act.put, yA, yB, yC, yD, yE, yF]) | ((((with_reducible apply st_alloc (dst := some 4) H); exact nF; intro b4)); clear H; intro wn H; simp only [Act.put, yA, yB, yC, yD, yE, yF]) | (((go_at_call 24; refine gvF (labelText_i _ _ _) H ?_)); clear H; intro wn H))
        refine bp_cell H rfl rfl iF (by kernel_rfl) (by kernel_rfl) rfl (by first | exact .inl rfl | exact .inr rfl) ?_
        rw [HK.out.1, HK.out.2]
        exact ⟨rfl, H.below⟩
    · obtain rfl : k = 32 := by omega
      have HK := Lib.hid (lab_none (t := l) (HI.out.symm.trans (labFrom_end l)))
      go_wp2_with (((((with_reducible apply st_store H); rfl; exact eF; (focus (exact cells_agg _)); exact uF; kernel_rfl; (focus (exact Nat.le_of_ble_eq_true (by rfl))); (focus (rfl)))); clear H; intro wn H; (try simp only [splice, yG, yH, yI, yJ, yK, yL, yM, yN, yO, yP, yQ, Nat.reduceAdd, yA, yB, yC] at H); simp only [Act.put, yA, yB, yC, yD, yE, yF]))
      refine bp_cell H rfl rfl iF (by kernel_rfl) (by kernel_rfl) rfl (by first | exact .inl rfl | exact .inr rfl) ?_
      rw [HK.out.1, HK.out.2]
      exact ⟨rfl, H.below⟩
end Go.Proofs.YtfblolkkajppcaaGreatDoor
namespace Go.Proofs.YtfblolkkajppcaaGreatDoor
open Go.RowKit M
def encOut (o : Opr) (e : Int) : Value :=
  .agg #[.bool o.sys, .int .i64 o.l1, .int .i64 o.l2, .int .i64 o.k, .string o.ow, .int .i64 o.a, .int .i64 o.b, .int .i64 o.c, .int .i64 o.d, .int .i64 o.m1, .int .i64 o.m2, .int .i64 o.af, .int .i64 e]
end Go.Proofs.YtfblolkkajppcaaGreatDoor
namespace Go.Proofs.YtfblolkkajppcaaGreatDoor
open Go.RowKit M
namespace M
theorem cut_len : ∀ (r acc : Bs), ∀ x ∈ cut acc r, x.length ≤ acc.length + r.length
  | [], acc, x, hx => by
    obtain rfl := List.mem_singleton.1 hx
    omega
  | c :: r, acc, x, hx => by
    rw [cut] at hx
    split at hx
    · rcases List.mem_cons.1 hx with rfl | hx
      · simp
      · have := cut_len r [] x hx
        simp at this ⊢; omega
    · have := cut_len r (acc ++ [c]) x hx
      simp at this ⊢; omega
theorem getW_len {ws : List Bs} {n : Nat} (h : ∀ x ∈ ws, x.length ≤ n) (k : Nat) : (getW ws k).length ≤ n := by
  unfold getW
  rw [List.getD_eq_getElem?_getD]
  cases hk : ws[k]? with
  | none => simp
  | some x => exact h x (List.mem_of_getElem? hk)
theorem cut_count (acc r : Bs) : (cut acc r).length ≤ r.length + 1 := by
  induction r generalizing acc with
  | nil => simp [cut]
  | cons c r ih =>
    rw [cut]
    split
    · simp; exact ih _
    · have := ih (acc ++ [c]); simp; omega
theorem strs_at {ws : List Bs} {k : Nat} {x : Bs} (h : ws[k]? = some x) : (strs ws)[k]? = some (.string (bs x)) := by
  unfold strs
  rw [List.getElem?_map, h]; rfl
theorem getW_at {ws : List Bs} {k : Nat} (h : k < ws.length) : ws[k]? = some (getW ws k) := by
  unfold getW
  rw [List.getD_eq_getElem?_getD, List.getElem?_eq_getElem h]; rfl
theorem strs_at2 {ws : List Bs} {k : Nat} {x : Bs} (h : ws[k]? = some x) : (strs ws).toArray[k]? = some (.string (bs x)) := by simpa using strs_at h
theorem words_at {k : Nat} {x : ByteArray} (h : words[k]? = some x) : ((words.map Value.string).toArray)[k]? = some (.string x) := by
  rw [List.getElem?_toArray, List.getElem?_map, h]; rfl
theorem sys_list : (bs sysW).toList = [115, 121, 115] := by decide +kernel
theorem aft_list : (bs aftW).toList = [97, 102, 116, 101, 114] := by decide +kernel
theorem bs_nil : bs [] = (⟨#[]⟩ : ByteArray) := rfl
theorem states_at {k : Nat} {x : ByteArray} (h : states[k]? = some x) : (#[.string (bs []), .string (bs [117, 112]), .string (bs [100, 114, 97, 105, 110]), .string (bs [100, 111, 119, 110])] : Array Value)[k]? = some (.string x) := by
  have e : (#[.string (bs []), .string (bs [117, 112]), .string (bs [100, 114, 97, 105, 110]), .string (bs [100, 111, 119, 110])] : Array Value) = (states.map Value.string).toArray := rfl
  rw [e, List.getElem?_toArray, List.getElem?_map, h]; rfl
/-- the numbers that j rounds have laid -/
def fN (ws : List Bs) (at_ j i : Nat) : Int := if i < j then numI (getW ws (at_ + i)) else 0
theorem nI_fN {k : Int} {M : Nat} (h : many k = M) (ws : List Bs) (i : Nat) : nI k ws i = fN ws (atK k) M i := by
  unfold nI fN
  rw [h]
  by_cases hi : i < M
  · rw [if_pos hi, if_pos (by omega)]
  · rw [if_neg hi, if_neg (by omega)]
end M
theorem st_field {P : Program} {R : Nat → Prop} {w0 w : World} {L : List Hl} {a : Act} {ops : Array Oper} {Q : Exit → Act → World → Prop} {rest : List Oper} {dst : Option Tmp} {T ty : TypeId} {x : Operand} {pos : String} {aft : Array Edge} {i : Nat} {v : Value} (H : Hs R w0 L w)
    (h : OpOk P [] ⟨dst, .field T x i, ty, pos, aft, none⟩ a w (tV v)) (k : ∀ w', Hs R w0 L w' → wpList P ops Q rest (a.put dst v) w') : wpList P ops Q (⟨dst, .field T x i, ty, pos, aft, none⟩ :: rest) a w := st_v H rfl h k
theorem field_lo (a b c : Value) (w : World) : (Instr.field 60 (.agg #[a, b, c]) 0).run Tryz.prog w = .ok (.agg #[a, b]) w := by kernel_rfl
theorem fF {P : Prop} (h : P := by unfold OpOk; go_simp; (try simp only [field_lo, Result.andThen_ok]); exact now_v) : P := h
theorem word_n (ws : List Bs) (n : Int) (k : Nat) (e : n = k) (hk : k ≤ 1000) (b g : Nat) (w : World) (hb : w.cell? ⟨b, 0, none⟩ = some (.slice (some ⟨g, 0, none⟩) ws.length ws.length)) (hw : ∀ x, ws[k]? = some x → w.cell? ⟨g, k, none⟩ = some (.string (bs x))) :
    Gives Tryz.prog 35 #[.int .i64 n, .pointer (some ⟨b, 0, none⟩)] w (.string (bs (getW ws k))) := by
  subst e
  exact word_i ws k hk b g w hb hw
theorem wF {P : Prop} (h : P := by first
  | exact word_n ws _ 2 (by first | rfl | omega) (by decide) b3 g _ (H.cell iF rfl) (fun x hx => H.cell iF (strs_at2 hx))
  | exact word_n ws _ 3 (by first | rfl | omega) (by decide) b3 g _ (H.cell iF rfl) (fun x hx => H.cell iF (strs_at2 hx))
  | exact word_n ws _ 4 (by first | rfl | omega) (by decide) b3 g _ (H.cell iF rfl) (fun x hx => H.cell iF (strs_at2 hx))
  | exact word_n ws _ 5 (by first | rfl | omega) (by decide) b3 g _ (H.cell iF rfl) (fun x hx => H.cell iF (strs_at2 hx))
  | exact word_n ws _ 6 (by first | rfl | omega) (by decide) b3 g _ (H.cell iF rfl) (fun x hx => H.cell iF (strs_at2 hx))
  | exact word_n ws _ 7 (by first | rfl | omega) (by decide) b3 g _ (H.cell iF rfl) (fun x hx => H.cell iF (strs_at2 hx))
  | exact word_n ws _ 8 (by first | rfl | omega) (by decide) b3 g _ (H.cell iF rfl) (fun x hx => H.cell iF (strs_at2 hx))
  | exact word_n ws _ 9 (by first | rfl | omega) (by decide) b3 g _ (H.cell iF rfl) (fun x hx => H.cell iF (strs_at2 hx))) : P := h
end Go.Proofs.YtfblolkkajppcaaGreatDoor
