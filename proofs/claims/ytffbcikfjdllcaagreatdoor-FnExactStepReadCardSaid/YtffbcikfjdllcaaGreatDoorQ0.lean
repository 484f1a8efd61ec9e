/-
  Operations read from texts: the plain words. No program in sight.
-/
import Derived.Test.YtffbcikfjdllcaaGreatDoorP3
import Derived.Test.YtffbcikfjdllcaaGreatDoorO8
import Derived.Lib.SplitLaws
import Derived.Lib.ParseIntBTie
set_option linter.unusedSimpArgs false
set_option linter.unusedVariables false
namespace Go.Proofs.YtffbcikfjdllcaaGreatDoor
namespace M
/-! ### a text cut at its spaces -/
def cut (acc : Bs) : Bs → List Bs
  | [] => [acc]
  | c :: r => if c = 32 then acc :: cut [] r else cut (acc ++ [c]) r
theorem cut_app : ∀ {x : Bs}, (∀ c ∈ x, c ≠ 32) → ∀ acc r : Bs, cut acc (x ++ r) = cut (acc ++ x) r
  | [], _, acc, r => by simp
  | c :: x, h, acc, r => by
    have hc : c ≠ 32 := h c (List.mem_cons_self ..)
    rw [List.cons_append, cut, if_neg hc, cut_app (fun d hd => h d (List.mem_cons_of_mem _ hd))]
    simp
theorem cut_none {x : Bs} (h : ∀ c ∈ x, c ≠ 32) : cut [] x = [x] := by
  have := cut_app h [] []
  rw [List.append_nil] at this
  rw [this]; rfl
theorem cut_flat : ∀ {r : List Bs}, (∀ x ∈ r, ∀ c ∈ x, c ≠ 32) → ∀ acc : Bs, cut acc ((r.map ([32] ++ ·)).flatten) = acc :: r
  | [], _, acc => rfl
  | y :: r, h, acc => by
    rw [List.map_cons, List.flatten_cons, List.append_assoc, List.singleton_append, cut, if_pos rfl, cut_app (h y (List.mem_cons_self ..)), List.nil_append,
      cut_flat fun x hx => h x (List.mem_cons_of_mem _ hx)]
theorem cut_join {l : List Bs} (hne : l ≠ []) (h : ∀ x ∈ l, ∀ c ∈ x, c ≠ 32) : cut [] (joinSp l) = l := by
  cases l with
  | nil => exact absurd rfl hne
  | cons x r => rw [joinSp_cons, cut_app (h x (List.mem_cons_self ..)), List.nil_append, cut_flat fun y hy => h y (List.mem_cons_of_mem _ hy)]
theorem cut_ne (acc r : Bs) : cut acc r ≠ [] := by
  induction r generalizing acc with
  | nil => simp [cut]
  | cons c r ih => rw [cut]; split; exact List.cons_ne_nil _ _; exact ih _
theorem index_hit : ∀ {x : Bs}, (∀ c ∈ x, c ≠ 32) → ∀ r : Bs, Lib.index (x ++ 32 :: r) [32] = x.length
  | [], _, r => by rw [List.nil_append, Lib.index]; simp [List.isPrefixOf]
  | c :: x, h, r => by
    have hc : c ≠ 32 := h c (List.mem_cons_self ..)
    have hp : ([32] : Bs).isPrefixOf (c :: (x ++ 32 :: r)) = false := by simp [List.isPrefixOf, Ne.symm hc]
    rw [List.cons_append, Lib.index, hp, index_hit fun d hd => h d (List.mem_cons_of_mem _ hd)]
    have : ((x.length : Int) == -1) = false := by simp
    rw [this]
    simp
theorem index_miss : ∀ {x : Bs}, (∀ c ∈ x, c ≠ 32) → Lib.index x [32] = -1
  | [], _ => by rw [Lib.index]; simp
  | c :: x, h => by
    have hc : c ≠ 32 := h c (List.mem_cons_self ..)
    have hp : ([32] : Bs).isPrefixOf (c :: x) = false := by simp [List.isPrefixOf, Ne.symm hc]
    rw [Lib.index, hp, index_miss fun d hd => h d (List.mem_cons_of_mem _ hd)]
    simp
theorem first_space : ∀ s : Bs, (∀ c ∈ s, c ≠ 32) ∨ ∃ x r, s = x ++ 32 :: r ∧ ∀ c ∈ x, c ≠ 32
  | [] => .inl fun _ h => absurd h List.not_mem_nil
  | c :: s => by
    by_cases hc : c = 32
    · subst hc; exact .inr ⟨[], s, rfl, fun _ h => absurd h List.not_mem_nil⟩
    · rcases first_space s with h | ⟨x, r, rfl, h⟩
      · exact .inl fun d hd => by rcases List.mem_cons.1 hd with rfl | hd; exact hc; exact h d hd
      · exact .inr ⟨c :: x, r, rfl, fun d hd => by rcases List.mem_cons.1 hd with rfl | hd; exact hc; exact h d hd⟩
theorem splitK_cut : ∀ (n : Nat) (s : Bs), s.length ≤ n → Lib.splitK [32] 0 (Lib.count s [32]) s = cut [] s
  | n, s, hn => by
    rw [Lib.count_one]
    rcases first_space s with h | ⟨x, r, rfl, h⟩
    · rw [List.count_eq_zero_of_not_mem fun hm => h 32 hm rfl, cut_none h]; rfl
    · have e : (x ++ 32 :: r).count 32 = r.count 32 + 1 := by
        rw [List.count_append, List.count_eq_zero_of_not_mem fun hm => h 32 hm rfl, List.count_cons_self]; omega
      rw [e, Lib.splitK, index_hit h]
      have h0 : ((x.length : Int) == -1) = false := by simp
      rw [h0, cut_app h, List.nil_append, cut, if_pos rfl]
      simp only [Bool.false_eq_true, if_false, Int.toNat_natCast, Nat.add_zero, List.length_singleton]
      rw [List.take_left' rfl]
      have hd : (x ++ 32 :: r).drop (x.length + 1) = r := by
        rw [← List.drop_drop, List.drop_left' rfl]; rfl
      rw [hd]
      cases n with
      | zero => simp at hn
      | succ n =>
        have := splitK_cut n r (by simp at hn; omega)
        rw [Lib.count_one] at this
        rw [this]
theorem split_cut (s : ByteArray) : (Lib.splitB ⟨#[32]⟩ 0 (Lib.countB s ⟨#[32]⟩) s).map Value.string = strs (cut [] s.data.toList) := by
  have h := Lib.splitB_data ⟨#[32]⟩ 0 (Lib.countB s ⟨#[32]⟩) s
  have e : Lib.countB s ⟨#[32]⟩ = Lib.count s.data.toList [32] := rfl
  rw [e] at h ⊢
  rw [splitK_cut _ _ (Nat.le_refl _)] at h
  unfold strs
  rw [← h, List.map_map]
  apply List.map_congr_left
  intro x _
  show Value.string x = Value.string (bs x.data.toList)
  rw [bs_data]
theorem count_cut (s : ByteArray) : Lib.countB s ⟨#[32]⟩ + 1 = (cut [] s.data.toList).length := by
  have h := Lib.splitB_all ⟨#[32]⟩ (by decide) 0 _ s rfl
  have h2 := congrArg List.length (split_cut s)
  rw [List.length_map, h] at h2
  unfold strs at h2
  rw [List.length_map] at h2
  exact h2
/-! ### numbers -/
theorem digs : ∀ (n : Nat), ∀ c ∈ Lib.decDigits n, 48 ≤ c.toNat ∧ c.toNat ≤ 57 := by
  intro n
  induction n using Nat.strongRecOn with
  | _ n ih =>
    have one : ∀ m, m < 10 → 48 ≤ (UInt8.ofNat (48 + m)).toNat ∧ (UInt8.ofNat (48 + m)).toNat ≤ 57 := fun m hm => by
      rw [UInt8.toNat_ofNat', Nat.mod_eq_of_lt (by omega)]; omega
    by_cases h : n < 10
    · rw [digits_small h]; intro c hc; obtain rfl := List.mem_singleton.1 hc; exact one n h
    · rw [digits_big h]; intro c hc
      rcases List.mem_append.1 hc with hc | hc
      · exact ih _ (by omega) c hc
      · obtain rfl := List.mem_singleton.1 hc; exact one _ (by omega)
theorem digs_ne (n : Nat) : Lib.decDigits n ≠ [] := by
  by_cases h : n < 10
  · rw [digits_small h]; simp
  · rw [digits_big h]; simp
theorem digs_head (n : Nat) (h0 : 1 ≤ n) : (Lib.decDigits n).head? ≠ some 48 := by
  induction n using Nat.strongRecOn with
  | _ n ih =>
    by_cases h : n < 10
    · rw [digits_small h]
      intro e
      have e := congrArg UInt8.toNat (Option.some.inj e)
      rw [UInt8.toNat_ofNat', Nat.mod_eq_of_lt (by omega)] at e
      have : (48 : UInt8).toNat = 48 := rfl
      omega
    · rw [digits_big h]
      have := ih (n / 10) (by omega) (by omega)
      have hne := digs_ne (n / 10)
      cases hd : Lib.decDigits (n / 10) with
      | nil => exact absurd hd hne
      | cons a l => rw [hd] at this; exact this
/-- the program's number: what strconv.ParseInt gives, the error left out -/
def numI (l : Bs) : Int := match Lib.parseIntB 64 l with | .ok v => v | .«syntax» => 0 | .range => Lib.intSat 64 l
theorem parse_snoc (M : Nat) (c : UInt8) (hc : 48 ≤ c.toNat ∧ c.toNat ≤ 57) : ∀ (l : Bs) (acc u : Nat), Lib.parseUintM M acc l = .ok u → u < 1844674407370955162 → u * 10 + (c.toNat - 48) ≤ M → Lib.parseUintM M acc (l ++ [c]) = .ok (u * 10 + (c.toNat - 48))
  | [], acc, u, h, h1, h2 => by
    have : acc = u := by simpa [Lib.parseUintM] using h
    subst this
    rw [List.nil_append, Lib.parseUintM, if_pos hc, if_neg (by omega), if_neg (by omega), Lib.parseUintM]
  | d :: l, acc, u, h, h1, h2 => by
    rw [List.cons_append, Lib.parseUintM] at *
    split at h
    · rename_i hd
      rw [if_pos hd]
      split at h
      · cases h
      · rename_i ha
        rw [if_neg ha]
        split at h
        · cases h
        · rename_i hb
          rw [if_neg hb]
          exact parse_snoc M c hc l _ u h h1 h2
    · cases h
theorem parse_digs (M : Nat) (hM : 10000000 ≤ M) : ∀ n : Nat, n ≤ 9999999 → Lib.parseUintM M 0 (Lib.decDigits n) = .ok n := by
  intro n
  induction n using Nat.strongRecOn with
  | _ n ih =>
    intro hn
    have one : ∀ m, m < 10 → (UInt8.ofNat (48 + m)).toNat = 48 + m := fun m hm => by
      rw [UInt8.toNat_ofNat', Nat.mod_eq_of_lt (by omega)]
    by_cases h : n < 10
    · rw [digits_small h, Lib.parseUintM, one n h, if_pos (by omega), if_neg (by omega), if_neg (by omega), Lib.parseUintM]
      congr 1; omega
    · have h2 := ih (n / 10) (by omega) (by omega)
      have hc := one (n % 10) (by omega)
      have h3 := parse_snoc M (UInt8.ofNat (48 + n % 10)) (by omega) _ _ _ h2 (by omega) (by omega)
      rw [digits_big h, h3, hc]
      congr 1; omega
theorem numI_dec {n : Int} (h : 0 ≤ n ∧ n ≤ 9999999) : numI (dec n) = n := by
  obtain ⟨k, rfl⟩ := Int.eq_ofNat_of_zero_le h.1
  have hk : k ≤ 9999999 := by omega
  have h1 := parse_digs (2 ^ 64 - 1) (by decide) k hk
  have hd := digs k
  have hne := digs_ne k
  rw [dec_nat]
  unfold numI
  cases hl : Lib.decDigits k with
  | nil => exact absurd hl hne
  | cons c r =>
    rw [hl] at h1 hd
    have hc := hd c (List.mem_cons_self ..)
    rw [Lib.parseIntB_plain 64 c r (by omega) (by omega)]
    have e : Lib.parseUintB 64 (c :: r) = .ok k := by
      unfold Lib.parseUintB; rw [if_neg (by simp)]; exact h1
    rw [e]
    simp only [Lib.signlessC]
    rw [if_neg (by have : (2 : Nat) ^ (64 - 1) = 9223372036854775808 := by decide
                   omega)]
theorem numI_nil : numI [] = 0 := rfl
theorem numI_rng (l : Bs) : -9223372036854775808 ≤ numI l ∧ numI l ≤ 9223372036854775807 := by
  unfold numI
  have e : (2 : Nat) ^ (64 - 1) = 9223372036854775808 := by decide
  cases h : Lib.parseIntB 64 l with
  | ok v => have := Lib.parseIntB_bounds h; rw [e] at this; simp only; omega
  | «syntax» => simp
  | range => simp only [Lib.intSat, e]; split <;> omega
/-- the reference's number of at most nine digits -/
def foldS (n : Int) : Bs → Int
  | [] => n
  | c :: r => if 48 ≤ c.toNat ∧ c.toNat ≤ 57 then foldS (10 * n + ((c.toNat : Int) - 48)) r else -1
def num9 (l : Bs) : Int := if l.length < 1 ∨ 9 < l.length ∨ (1 < l.length ∧ l.head? = some 48) then -1 else foldS 0 l
def num7 (l : Bs) : Int := if 9999999 < num9 l then -1 else num9 l
theorem foldS_app : ∀ {l : Bs}, (∀ c ∈ l, 48 ≤ c.toNat ∧ c.toNat ≤ 57) → ∀ (n : Int) (m : Bs), foldS n (l ++ m) = foldS (foldS n l) m
  | [], _, n, m => rfl
  | c :: l, h, n, m => by
    have hc := h c (List.mem_cons_self ..)
    rw [List.cons_append, foldS, if_pos hc, foldS, if_pos hc, foldS_app fun d hd => h d (List.mem_cons_of_mem _ hd)]
theorem foldS_digs : ∀ n : Nat, foldS 0 (Lib.decDigits n) = n := by
  intro n
  induction n using Nat.strongRecOn with
  | _ n ih =>
    have one : ∀ m, m < 10 → (UInt8.ofNat (48 + m)).toNat = 48 + m := fun m hm => by
      rw [UInt8.toNat_ofNat', Nat.mod_eq_of_lt (by omega)]
    by_cases h : n < 10
    · rw [digits_small h, foldS, one n h, if_pos (by omega), foldS]; omega
    · rw [digits_big h, foldS_app (digs _), ih (n / 10) (by omega), foldS, one (n % 10) (by omega), if_pos (by omega), foldS]; omega
theorem num9_nat (k : Nat) (hl : (Lib.decDigits k).length ≤ 9) : num9 (Lib.decDigits k) = k := by
  unfold num9
  rw [if_neg, foldS_digs]
  rintro (h | h | ⟨h1, h2⟩)
  · have := digs_ne k
    cases hd : Lib.decDigits k with
    | nil => exact this hd
    | cons a l => rw [hd] at h; simp at h
  · omega
  · by_cases h0 : k = 0
    · subst h0; rw [digits_small (by omega)] at h1; simp at h1
    · exact digs_head k (by omega) h2
theorem num7_dec {n : Int} (h : 0 ≤ n ∧ n ≤ 9999999) : num7 (dec n) = n := by
  have hl := dec_len h
  obtain ⟨k, rfl⟩ := Int.eq_ofNat_of_zero_le h.1
  rw [dec_nat] at hl ⊢
  unfold num7
  rw [num9_nat k (by omega), if_neg (by omega)]
/-! ### labels -/
def labs : List (Int × Int) := [(0, 0), (0, 1), (0, 2), (0, 3), (0, 4), (0, 5), (0, 6), (0, 7), (1, 0), (1, 1), (1, 2), (1, 3), (1, 4), (1, 5), (1, 6), (1, 7), (2, 0), (2, 1), (2, 2), (2, 3), (2, 4), (2, 5), (2, 6), (2, 7), (3, 0), (3, 1), (3, 2), (3, 3), (3, 4), (3, 5), (3, 6), (3, 7)]
def labFind (t : Bs) : Option (Int × Int) := labs.find? fun p => labelText p.1 p.2 == t
def lab (t : Bs) : Int × Int := (labFind t).getD (0, 0)
theorem labs_all : (labs.all fun p => labFind (labelText p.1 p.2) == some p) = true := by decide +kernel
theorem lab_text {a b : Int} (h : labelOk a b = true) : lab (labelText a b) = (a, b) := by
  obtain ⟨⟨a0, a3⟩, b0, b7⟩ := labelOk_spec h
  have hm : (a, b) ∈ labs := by
    have ha : a = 0 ∨ a = 1 ∨ a = 2 ∨ a = 3 := by omega
    have hb : b = 0 ∨ b = 1 ∨ b = 2 ∨ b = 3 ∨ b = 4 ∨ b = 5 ∨ b = 6 ∨ b = 7 := by omega
    rcases ha with rfl | rfl | rfl | rfl <;> rcases hb with rfl | rfl | rfl | rfl | rfl | rfl | rfl | rfl <;> decide
  have := List.all_eq_true.1 labs_all _ hm
  have := eq_of_beq this
  unfold lab
  rw [this]; rfl
theorem lab_nil : lab [] = (0, 0) := by decide +kernel
theorem labels_plain : (labs.all fun p => (labelText p.1 p.2).all fun c => c != 32) = true := by decide +kernel
/-! ### words -/
def idxIn (l : List ByteArray) (w : Bs) : Nat := go 0 l
where go (i : Nat) : List ByteArray → Nat
  | [] => 0
  | x :: r => if x = bs w then i else go (i + 1) r
def states : List ByteArray := [bs [], bs [117, 112], bs [100, 114, 97, 105, 110], bs [100, 111, 119, 110]]
def kindOf (w : Bs) : Int := idxIn words w
def stateOf (w : Bs) : Int := idxIn states w
def getW (ws : List Bs) (k : Nat) : Bs := ws.getD k []
/-! ### what the two parsers make of the words -/
def sysW : Bs := [115, 121, 115]
def aftW : Bs := [97, 102, 116, 101, 114]
def atK (k : Int) : Nat := if k = 1 ∨ k = 7 then 3 else 2
def nI (k : Int) (ws : List Bs) (i : Nat) : Int := if (i : Int) < many k then numI (getW ws (atK k + i)) else 0
def nS (k : Int) (ws : List Bs) (i : Nat) : Int := if (i : Int) < many k ∧ atK k + i < ws.length then num7 (getW ws (atK k + i)) else 0
def aftB (ws : List Bs) : Bool := getW ws 7 == aftW
def candI (ws : List Bs) : Opr :=
  let k := kindOf (getW ws 1)
  { sys := getW ws 0 == sysW, l1 := (lab (getW ws 0)).1, l2 := (lab (getW ws 0)).2, k := k, ow := if k = 1 then bs (getW ws 2) else bs [],
    a := nI k ws 0, b := if k = 13 then stateOf (getW ws 3) else nI k ws 1, c := nI k ws 2, d := nI k ws 3,
    m1 := if k = 1 then (if aftB ws then (lab (getW ws 8)).1 else 0) else if k = 7 then (lab (getW ws 2)).1 else 0,
    m2 := if k = 1 then (if aftB ws then (lab (getW ws 8)).2 else 0) else if k = 7 then (lab (getW ws 2)).2 else 0,
    af := if k = 1 then (if aftB ws then numI (getW ws 9) else 0) else 0 }
def candS (ws : List Bs) : Opr :=
  let k := kindOf (getW ws 1)
  { sys := getW ws 0 == sysW, l1 := if getW ws 0 == sysW then 0 else (lab (getW ws 0)).1, l2 := if getW ws 0 == sysW then 0 else (lab (getW ws 0)).2, k := k, ow := if k = 1 then bs (getW ws 2) else bs [],
    a := nS k ws 0, b := if k = 13 then stateOf (getW ws 3) else nS k ws 1, c := nS k ws 2, d := nS k ws 3,
    m1 := if k = 1 then (if ws.length = 10 then (lab (getW ws 8)).1 else 0) else if k = 7 then (lab (getW ws 2)).1 else 0,
    m2 := if k = 1 then (if ws.length = 10 then (lab (getW ws 8)).2 else 0) else if k = 7 then (lab (getW ws 2)).2 else 0,
    af := if k = 1 then (if ws.length = 10 then num7 (getW ws 9) else 0) else 0 }
def Opr.ok (o : Opr) : Bool := opOk o.sys o.l1 o.l2 o.k o.ow o.a o.b o.c o.d o.m1 o.m2 o.af
def Opr.text (o : Opr) : Bs := opText o.sys o.l1 o.l2 o.k o.ow o.a o.b o.c o.d o.m1 o.m2 o.af
def Opr.words (o : Opr) : List Bs := opWords o.sys o.l1 o.l2 o.k o.ow o.a o.b o.c o.d o.m1 o.m2 o.af
def zeroO : Opr := ⟨false, 0, 0, 0, bs [], 0, 0, 0, 0, 0, 0, 0⟩
def readI (t : Bs) : Opr × Int := if 8000 < t.length then (zeroO, 2) else if (candI (cut [] t)).ok && (candI (cut [] t)).text == t then (candI (cut [] t), 0) else (zeroO, 3)
def readS (t : Bs) : Opr × Int := if 8000 < t.length then (zeroO, 2) else if (candS (cut [] t)).text != t || t == [] then (zeroO, 3) else (candS (cut [] t), 0)
end M
end Go.Proofs.YtffbcikfjdllcaaGreatDoor
