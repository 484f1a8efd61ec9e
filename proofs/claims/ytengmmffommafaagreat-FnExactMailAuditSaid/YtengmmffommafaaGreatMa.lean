/-
  The audit of mail, in the reference and in the program: the walks.
-/
import Derived.Test.YtengmmffommafaaGreatCp
set_option linter.unusedSimpArgs false
set_option linter.unusedVariables false
namespace Go.Proofs.YtengmmffommafaaGreat
open Go.RowKit M
namespace M
def bd (n : Int) : Prop := -9223372036854775808 ≤ n ∧ n ≤ 9223372036854775807
def audNotes (l : List Nt) : Bs := (l.map fun x => putNum x.1 ++ putNum x.2).flatten
def audAt (pr : List Pr) (m : List Bo) (lab : Lab) (i : Nat) : Bs := match pr[i]? with
  | some p => match m[i]? with
    | some b => if belowB p.1 lab then putNum i ++ (putNum b.2.2.length ++ audNotes b.2.2) else []
    | none => []
  | none => []
def catTo (f : Nat → Bs) (i : Nat) : Bs := ((List.range i).map f).flatten
theorem catTo_succ (f : Nat → Bs) (i : Nat) : catTo f (i + 1) = catTo f i ++ f i := by
  unfold catTo
  rw [List.range_succ, List.map_append, List.flatten_append]
  simp
theorem audNotes_len (l : List Nt) : (audNotes l).length ≤ 22 * l.length := by
  unfold audNotes
  induction l with
  | nil => simp
  | cons x l ih =>
    have h1 := (putNum_length x.1).2
    have h2 := (putNum_length x.2).2
    simp only [List.map_cons, List.flatten_cons, List.length_append, List.length_cons] at ih ⊢
    omega
theorem audNotes_take {l : List Nt} {k : Nat} {x : Nt} (h : l[k]? = some x) : audNotes (l.take (k + 1)) = audNotes (l.take k) ++ (putNum x.1 ++ putNum x.2) := by
  obtain ⟨hlt, rfl⟩ := List.getElem?_eq_some_iff.1 h
  unfold audNotes
  rw [List.take_succ_eq_append_getElem hlt, List.map_append, List.flatten_append]
  simp
theorem catTo_len {f : Nat → Bs} {b : Nat} (h : ∀ i, (f i).length ≤ b) (i : Nat) : (catTo f i).length ≤ b * i := by
  induction i with
  | zero => simp [catTo]
  | succ i ih =>
    rw [catTo_succ, List.length_append, Nat.mul_succ]
    have := h i
    omega
theorem pair_ok {c : Cfg} {i : Nat} {p : Pr} (h : cfgOk c = true) (hp : c.2.1[i]? = some p) : okL p.1 = true ∧ okL p.2.1 = true := by
  unfold cfgOk pairsOk allFrom at h
  simp only [Bool.and_eq_true, List.all_eq_true] at h
  have h1 := h.2.2.2.1.1 i (by rw [List.mem_range'_1]; have := (List.getElem?_eq_some_iff.1 hp).1; omega)
  unfold pairIn at h1
  rw [hp] at h1
  simp only [Bool.and_eq_true] at h1
  exact ⟨labels_ok _ h1.2.1, labels_ok _ h1.2.2.1⟩
theorem mail_facts {c : Cfg} {m : List Bo} (h : mailOk c m = true) : cfgOk c = true ∧ m.length = c.2.1.length ∧ c.2.1.length ≤ 4 ∧ ∀ (i : Nat) (b : Bo), m[i]? = some b → b.2.2.length ≤ 12 := by
  unfold mailOk at h
  simp only [Bool.and_eq_true, decide_eq_true_eq] at h
  obtain ⟨h1, h2, h3⟩ := h
  refine ⟨h1, h2, ?_, fun i b hb => ?_⟩
  · unfold cfgOk pairsOk at h1
    simp only [Bool.and_eq_true, decide_eq_true_eq] at h1
    exact h1.2.2.2.1.2
  · unfold allFrom at h3
    rw [List.all_eq_true] at h3
    have hlt := (List.getElem?_eq_some_iff.1 hb).1
    have h4 := h3 i (by rw [List.mem_range'_1]; omega)
    unfold boxIn at h4
    rw [hb] at h4
    obtain ⟨p, hp⟩ : ∃ p, c.2.1[i]? = some p := ⟨c.2.1[i]'(by omega), List.getElem?_eq_getElem _⟩
    rw [hp] at h4
    unfold boxOk notesOk at h4
    simp only [Bool.and_eq_true, decide_eq_true_eq] at h4
    exact h4.2.2.2
def mailAud (c : Cfg) (m : List Bo) (lab : Lab) : Bs := if mailOk c m && okL lab then catTo (audAt c.2.1 m lab) c.2.1.length else []
theorem audAt_len {pr : List Pr} {m : List Bo} {lab : Lab} (h : ∀ (i : Nat) (b : Bo), m[i]? = some b → b.2.2.length ≤ 12) (i : Nat) : (audAt pr m lab i).length ≤ 286 := by
  unfold audAt
  split
  · split
    · rename_i b hb
      split
      · have h1 := h i b hb
        have h2 := audNotes_len b.2.2
        have h3 := (putNum_length (i : Int)).2
        have h4 := (putNum_length (b.2.2.length : Int)).2
        simp only [List.length_append]
        omega
      · simp
    · simp
  · simp
end M
theorem rd_two {w : World} {g : Nat} {t E : TypeId} {x y : Int} (h : Blk w g t #[.int .i64 x, .int .i64 y]) : (Ty.sl E tyNum).rd w [.slice (some ⟨g, 0, none⟩) 2 2] [x, y] := by
  refine ⟨_, [.int .i64 x, .int .i64 y], rfl, ⟨rfl, some ⟨g, 0, none⟩, 2, rfl, Nat.le_refl _, by unfold maxLen; omega, fun _ => ⟨g, 0, rfl, At.blk h fun j u hu => ?_⟩⟩, ?_⟩
  · rw [Nat.zero_add, ← hu]
    match j with
    | 0 => rfl
    | 1 => rfl
    | j + 2 => rfl
  · exact .cons (cs := [.int .i64 x]) rfl (.cons (cs := [.int .i64 y]) rfl .nil)
set_option maxRecDepth 100000 in
set_option maxHeartbeats 4000000 in
theorem putNums_i (v : Value) (l : List Int) (hl : l.length ≤ 100) (hb : ∀ x ∈ l, bd x) (w : World) (hr : (Ty.sl 2 tyNum).rd w [v] l) : Gives Tryz.prog 58 #[v] w (.string (bs (l.map putNum).flatten)) := by
  obtain ⟨A, c, rfl, hlc, hcm⟩ := sl_form hr
  have HR := Lib.hid hr
  have HB := Lib.hid hb
  obtain ⟨n, hn⟩ : ∃ n, n = l.length := ⟨_, rfl⟩
  rw [← hn] at HR hl ⊢
  have HN := Lib.hid hn
  obtain ⟨f, hf⟩ : ∃ f : Nat → Bs, f = fun i => ((l[i]?).map putNum).getD [] := ⟨_, rfl⟩
  have HF := Lib.hid hf
  have hfl : ∀ i, (f i).length ≤ 11 := fun i => by
    rw [hf]
    simp only
    cases l[i]? with
    | none => simp
    | some x => exact (putNum_length x).2
  have hfin : (l.map putNum).flatten = catTo f n := by
    unfold catTo
    congr 1
    apply List.ext_getElem?
    intro i
    rw [List.getElem?_map, List.getElem?_map, hf]
    by_cases hi : i < n
    · rw [List.getElem?_range hi, List.getElem?_eq_getElem (show i < l.length by omega)]
      simp [List.getElem?_eq_getElem (show i < l.length by omega)]
    · rw [List.getElem?_eq_none (by omega), List.getElem?_eq_none (by simp; omega)]
      rfl
  have HL := Lib.hid hfl
  rw [hfin]
  obtain ⟨tz, htz⟩ : ∃ t, t = bs (catTo f n) := ⟨_, rfl⟩
  rw [← htz]
  have HZ := Lib.hid htz
  clear hr hn hb hlc hcm hf hfl hfin htz
  have H := Hs.start noRow w
  unfold Gives
  go_enter Tryz.func58, Tryz.ntmps58
  go_wp2_with (first | ((first | ((with_reducible refine st_gwT ?_ ?_); rfl) | ((with_reducible refine st_gwF ?_ ?_); rfl) | ((with_reducible refine st_gsT ?_ ?_); rfl) | ((with_reducible refine st_gsF ?_ ?_); rfl)); (try simp only [Act.put, yA, yB, yC, yD, yE, yF])) | ((with_reducible refine' st_guard ?_ ?_ ?_); rotate_left; rfl; (all_goals (intro hgd; cases hgd)); (try simp only [Act.put, yA, yB, yC, yD, yE, yF])) | ((with_reducible apply st_want); rfl) | ((with_reducible refine st_skip ?_ ?_); rfl; simp only [Act.put, yA, yB, yC, yD, yE, yF]) | ((first | ((with_reducible apply st_load1 H); decide +kernel; rfl; exact cF) | ((with_reducible apply st_loads H); decide +kernel; rfl; exact iF; exact zF; rfl) | ((with_reducible apply st_store H); rfl; exact eF; (focus (exact cells_agg _)); exact uF; kernel_rfl; (focus (exact Nat.le_of_ble_eq_true (by rfl))); (focus (first | rfl | simp))) | ((with_reducible apply st_storeown H); rfl; exact eF; (focus (exact (rfl : _ = [_]))); exact uF; (focus omega); kernel_rfl; rfl)); clear H; intro wn H; (try simp only [splice, yG, yH, yI, yJ, yK, yL, yM, yN, yO, yP, yQ, Nat.reduceAdd, yA, yB, yC] at H); simp only [Act.put, yA, yB, yC, yD, yE, yF]) | ((first | ((with_reducible apply st_strsum H); rfl; rfl; exact szF; kernel_rfl)); clear H; intro wn H; simp only [Act.put, yA, yB, yC, yD, yE, yF]) | ((with_reducible apply st_loadat H); decide +kernel; rfl; exact aF; exact zF; rfl; clear H; intro wn H; simp only [Act.put, yA, yB, yC, yD, yE, yF]) | fail)
  go_loopg [3, 8] n (fun m tv iv wr => ∃ (i : Nat) (t : ByteArray), i + m = n ∧ iv = .int .i64 i ∧ tv = .string t ∧ Hid (t = bs (catTo f i)) ∧ Hs noRow w [] wr)
  case atStart => exact ⟨0, _, by omega, rfl, rfl, Lib.hid rfl, H⟩
  case round =>
    clear H
    obtain ⟨i, t, hi, rfl, rfl, HT, H⟩ := hrel
    by_cases hlt : i < n
    · obtain ⟨x, hx⟩ : ∃ x, l[i]? = some x := ⟨l[i]'(by rw [← HN.out]; exact hlt), List.getElem?_eq_getElem (by rw [← HN.out]; exact hlt)⟩
      have hs := sl_at (by have := HR.out; rw [HN.out] at this; exact this) hx
      rw [← HN.out] at hs
      obtain ⟨b, off, c', cs, hv, hcs, hA⟩ := hs
      injection hv with hv1 hv2 hv3
      subst hv1 hv3
      obtain rfl : cs = encNum x := hcs
      have h0 : w.cell? ⟨b, off + i, none⟩ = some (.int .i64 x) := by have h := hA.head (u := .int .i64 x) rfl; rw [show i * tyNum.s = i from Nat.mul_one i] at h; exact h
      have c1 := fun w1 => putNum_i x (HB.out x (List.mem_of_getElem? hx)) w1
      have hfi : f i = putNum x := by rw [HF.out]; simp only [hx]; rfl
      obtain ⟨q, hq⟩ : ∃ q, q = bs (putNum x) := ⟨_, rfl⟩
      rw [← hq] at c1
      have hqs : q.size ≤ 11 := by rw [hq]; exact (putNum_length x).2
      have hts : t.size ≤ 1100 := by rw [HT.out, zsize_bs]; have := catTo_len HL.out i; omega
      have HT2 : Hid (t ++ q = bs (catTo f (i + 1))) := Lib.hid (by rw [HT.out, hq, bs_append, catTo_succ, hfi])
      have hlt1 : (i : Int) < n := by omega
      clear hx hv2 hA hfi hq
      go_wp2_with (first | ((first | ((with_reducible refine st_gwT ?_ ?_); rfl) | ((with_reducible refine st_gwF ?_ ?_); rfl) | ((with_reducible refine st_gsT ?_ ?_); rfl) | ((with_reducible refine st_gsF ?_ ?_); rfl)); (try simp only [Act.put, yA, yB, yC, yD, yE, yF])) | ((with_reducible refine' st_guard ?_ ?_ ?_); rotate_left; rfl; (all_goals (intro hgd; cases hgd)); (try simp only [Act.put, yA, yB, yC, yD, yE, yF])) | ((with_reducible apply st_want); rfl) | ((with_reducible refine st_skip ?_ ?_); rfl; simp only [Act.put, yA, yB, yC, yD, yE, yF]) | ((first | ((with_reducible apply st_load1 H); decide +kernel; rfl; exact cF) | ((with_reducible apply st_loads H); decide +kernel; rfl; exact iF; exact zF; rfl) | ((with_reducible apply st_store H); rfl; exact eF; (focus (exact cells_agg _)); exact uF; kernel_rfl; (focus (exact Nat.le_of_ble_eq_true (by rfl))); (focus (first | rfl | simp))) | ((with_reducible apply st_storeown H); rfl; exact eF; (focus (exact (rfl : _ = [_]))); exact uF; (focus omega); kernel_rfl; rfl)); clear H; intro wn H; (try simp only [splice, yG, yH, yI, yJ, yK, yL, yM, yN, yO, yP, yQ, Nat.reduceAdd, yA, yB, yC] at H); simp only [Act.put, yA, yB, yC, yD, yE, yF]) | ((first | ((with_reducible apply st_strsum H); rfl; rfl; exact szF; kernel_rfl)); clear H; intro wn H; simp only [Act.put, yA, yB, yC, yD, yE, yF]) | ((with_reducible apply st_loadat H); decide +kernel; rfl; exact aF; exact zF; rfl; clear H; intro wn H; simp only [Act.put, yA, yB, yC, yD, yE, yF]) | ((first | (go_at_call 100; refine gvF (c1 _) H ?_)); clear H; intro wn H) | fail)
      go_roundg (n - (i + 1))
      case measure => omega
      case rel => exact ⟨i + 1, _, by omega, by go_num, rfl, HT2, H⟩
    · obtain rfl : i = n := by omega
      have hlt1 : ¬ (i : Int) < i := by omega
      go_wp2_with (first | ((first | ((with_reducible refine st_gwT ?_ ?_); rfl) | ((with_reducible refine st_gwF ?_ ?_); rfl) | ((with_reducible refine st_gsT ?_ ?_); rfl) | ((with_reducible refine st_gsF ?_ ?_); rfl)); (try simp only [Act.put, yA, yB, yC, yD, yE, yF])) | ((with_reducible refine' st_guard ?_ ?_ ?_); rotate_left; rfl; (all_goals (intro hgd; cases hgd)); (try simp only [Act.put, yA, yB, yC, yD, yE, yF])) | ((with_reducible apply st_want); rfl) | ((with_reducible refine st_skip ?_ ?_); rfl; simp only [Act.put, yA, yB, yC, yD, yE, yF]) | ((first | ((with_reducible apply st_load1 H); decide +kernel; rfl; exact cF) | ((with_reducible apply st_loads H); decide +kernel; rfl; exact iF; exact zF; rfl) | ((with_reducible apply st_store H); rfl; exact eF; (focus (exact cells_agg _)); exact uF; kernel_rfl; (focus (exact Nat.le_of_ble_eq_true (by rfl))); (focus (first | rfl | simp))) | ((with_reducible apply st_storeown H); rfl; exact eF; (focus (exact (rfl : _ = [_]))); exact uF; (focus omega); kernel_rfl; rfl)); clear H; intro wn H; (try simp only [splice, yG, yH, yI, yJ, yK, yL, yM, yN, yO, yP, yQ, Nat.reduceAdd, yA, yB, yC] at H); simp only [Act.put, yA, yB, yC, yD, yE, yF]) | ((first | ((with_reducible apply st_strsum H); rfl; rfl; exact szF; kernel_rfl)); clear H; intro wn H; simp only [Act.put, yA, yB, yC, yD, yE, yF]) | ((with_reducible apply st_loadat H); decide +kernel; rfl; exact aF; exact zF; rfl; clear H; intro wn H; simp only [Act.put, yA, yB, yC, yD, yE, yF]) | ((first | (go_at_call 100; refine gvF (c1 _) H ?_)); clear H; intro wn H) | fail)
      go_ret
      exact ⟨by rw [HZ.out, HT.out]; rfl, H.below⟩
theorem putNums_two (x y : Int) (q : ByteArray) (hq : q = bs (putNum x ++ putNum y)) (hx : bd x) (hy : bd y) (g t : Nat) (w : World) (hb : Blk w g t #[.int .i64 x, .int .i64 y]) : Gives Tryz.prog 58 #[.slice (some ⟨g, 0, none⟩) 2 2] w (.string q) := by
  have h := putNums_i _ [x, y] (by simp) (by intro z hz; simp only [List.mem_cons, List.not_mem_nil, or_false] at hz; rcases hz with rfl | rfl <;> assumption) w (rd_two hb)
  rw [hq]
  simpa using h
set_option maxRecDepth 100000 in
set_option maxHeartbeats 4000000 in
theorem mailAudit_i (c : Cfg) (cs : List Value) (v : Value) (l : List Bo) (lab : Lab) (hk : ∀ b ∈ l, ∀ x ∈ b.2.2, bd x.1 ∧ bd x.2) (w : World) (hrc : tyCfg.rd w cs c) (hr : (Ty.sl 101 tyBo).rd w [v] l) :
    Gives Tryz.prog 20 #[.agg cs.toArray, .agg #[v], .agg #[.int .i64 lab.1, .int .i64 lab.2]] w (.string (bs (mailAud c l lab))) := by
  have c1 := fun w1 hb => mailRight_i c cs v l w1 (Ty.below _ hrc hb) (Ty.below _ hr hb)
  have c2 := fun w1 => labelRight_i lab.1 lab.2 w1
  have hmf := @mail_facts c l
  have hpo := fun i p => @pair_ok c i p
  obtain ⟨v1, v2, v3, rfl, h1, h2, h3⟩ := cfg_form hrc
  obtain ⟨nd, pr, qt, hf⟩ := c
  obtain ⟨a1, a2⟩ := lab
  simp only at h1 h2 h3 c2 hpo
  rw [show labelOk a1 a2 = okL (a1, a2) from rfl] at c2
  show Gives Tryz.prog _ #[.agg #[v1, v2, v3, .int .i64 hf], .agg #[v], .agg #[.int .i64 a1, .int .i64 a2]] w _
  replace c1 : ∀ w1, Below w.heap.size w w1 → Gives Tryz.prog 55 #[.agg #[v1, v2, v3, .int .i64 hf], .agg #[v]] w1 (.bool (mailOk (nd, pr, qt, hf) l)) := c1
  obtain ⟨tz, htz⟩ : ∃ t, t = bs (mailAud (nd, pr, qt, hf) l (a1, a2)) := ⟨_, rfl⟩
  rw [← htz]
  have htz2 : tz = bs (if mailOk (nd, pr, qt, hf) l && okL (a1, a2) then catTo (audAt pr l (a1, a2)) pr.length else []) := htz
  clear htz
  obtain ⟨A, ca, rfl, hlc, hcm⟩ := sl_form hr
  obtain ⟨B, cb, rfl, hlb, hbm⟩ := sl_form h2
  have HR := Lib.hid hr
  have HP := Lib.hid h2
  have HK := Lib.hid hk
  have HPO := Lib.hid hpo
  obtain ⟨n, hn⟩ : ∃ n, n = l.length := ⟨_, rfl⟩
  obtain ⟨m, hm⟩ : ∃ m, m = pr.length := ⟨_, rfl⟩
  rw [← hn] at HR c1 ⊢
  rw [← hm] at HP c1 htz2 ⊢
  simp only at hmf
  rw [← hn, ← hm] at hmf
  have HN := Lib.hid hn
  have HM := Lib.hid hm
  have HOK := Lib.hid (show okL (a1, a2) = okL (a1, a2) from rfl)
  clear hr h1 h2 h3 hrc hlc hcm hlb hbm hn hm hk hpo HOK
  obtain ⟨z1, hz1⟩ : ∃ z, z = mailOk (nd, pr, qt, hf) l := ⟨_, rfl⟩
  obtain ⟨z2, hz2⟩ : ∃ z, z = okL (a1, a2) := ⟨_, rfl⟩
  rw [← hz1] at c1 htz2 hmf
  rw [← hz2] at c2 htz2
  have HZ2 := Lib.hid hz2
  clear hz1 hz2
  have H := Hs.start noRow w
  unfold Gives
  cases z1
  case false =>
    have HI2 : Hid (tz = bs []) := Lib.hid (by rw [htz2, if_neg (by simp)])
    clear htz2 hmf
    go_enter Tryz.func20, Tryz.ntmps20
    go_wp2_with (first | ((first | ((with_reducible refine st_gwT ?_ ?_); rfl) | ((with_reducible refine st_gwF ?_ ?_); rfl) | ((with_reducible refine st_gsT ?_ ?_); rfl) | ((with_reducible refine st_gsF ?_ ?_); rfl)); (try simp only [Act.put, yA, yB, yC, yD, yE, yF])) | ((with_reducible refine' st_guard ?_ ?_ ?_); rotate_left; rfl; (all_goals (intro hgd; cases hgd)); (try simp only [Act.put, yA, yB, yC, yD, yE, yF])) | ((with_reducible apply st_want); rfl) | ((with_reducible refine st_skip ?_ ?_); rfl; simp only [Act.put, yA, yB, yC, yD, yE, yF]) | ((first | ((with_reducible apply st_load1 H); decide +kernel; rfl; exact cF) | ((with_reducible apply st_loads H); decide +kernel; rfl; exact iF; exact zF; rfl) | ((with_reducible apply st_store H); rfl; exact eF; (focus (exact cells_agg _)); exact uF; kernel_rfl; (focus (exact Nat.le_of_ble_eq_true (by rfl))); (focus (first | rfl | simp))) | ((with_reducible apply st_storeown H); rfl; exact eF; (focus (exact (rfl : _ = [_]))); exact uF; (focus omega); kernel_rfl; rfl)); clear H; intro wn H; (try simp only [splice, yG, yH, yI, yJ, yK, yL, yM, yN, yO, yP, yQ, Nat.reduceAdd, yA, yB, yC] at H); simp only [Act.put, yA, yB, yC, yD, yE, yF]) | ((first | ((with_reducible apply st_box (dst := some 3) H); exact nF; intro b3) | ((with_reducible apply st_box (dst := some 4) H); exact nF; intro b4) | ((with_reducible apply st_box (dst := some 5) H); exact nF; intro b5) | ((with_reducible apply st_alloc (dst := some 9) H); exact nF; intro b9) | ((with_reducible apply st_alloc (dst := some 11) H); exact nF; intro b11) | ((with_reducible apply st_strsum H); rfl; rfl; exact szF; kernel_rfl) | ((with_reducible apply st_bslice H); exact nsF; intro nb)); clear H; intro wn H; simp only [Act.put, yA, yB, yC, yD, yE, yF]) | ((with_reducible apply st_loadat H); decide +kernel; rfl; exact aF; exact zF; rfl; clear H; intro wn H; simp only [Act.put, yA, yB, yC, yD, yE, yF]) | ((with_reducible apply st_storerow H); rfl; exact eF; (first | exact cells_agg _ | exact cellI | exact cellS | exact cellB | exact (rfl : _ = [_])); exact uF; kernel_rfl; exact Nat.succ_pos _; exact fitF; rfl; clear H; intro wn H; simp only [Act.put, yA, yB, yC, yD, yE, yF]) | ((first | (go_at_call 55; refine gvF (c1 _ H.below) H ?_) | (go_at_call 56; refine gvF (c2 _) H ?_) | (go_at_call 57; refine gvF (c3 _) H ?_)); clear H; intro wn H) | fail)
    go_ret
    exact ⟨by rw [HI2.out]; rfl, H.below⟩
  cases z2
  case false =>
    have HI2 : Hid (tz = bs []) := Lib.hid (by rw [htz2, if_neg (by simp)])
    clear htz2 hmf
    go_enter Tryz.func20, Tryz.ntmps20
    go_wp2_with (first | ((first | ((with_reducible refine st_gwT ?_ ?_); rfl) | ((with_reducible refine st_gwF ?_ ?_); rfl) | ((with_reducible refine st_gsT ?_ ?_); rfl) | ((with_reducible refine st_gsF ?_ ?_); rfl)); (try simp only [Act.put, yA, yB, yC, yD, yE, yF])) | ((with_reducible refine' st_guard ?_ ?_ ?_); rotate_left; rfl; (all_goals (intro hgd; cases hgd)); (try simp only [Act.put, yA, yB, yC, yD, yE, yF])) | ((with_reducible apply st_want); rfl) | ((with_reducible refine st_skip ?_ ?_); rfl; simp only [Act.put, yA, yB, yC, yD, yE, yF]) | ((first | ((with_reducible apply st_load1 H); decide +kernel; rfl; exact cF) | ((with_reducible apply st_loads H); decide +kernel; rfl; exact iF; exact zF; rfl) | ((with_reducible apply st_store H); rfl; exact eF; (focus (exact cells_agg _)); exact uF; kernel_rfl; (focus (exact Nat.le_of_ble_eq_true (by rfl))); (focus (first | rfl | simp))) | ((with_reducible apply st_storeown H); rfl; exact eF; (focus (exact (rfl : _ = [_]))); exact uF; (focus omega); kernel_rfl; rfl)); clear H; intro wn H; (try simp only [splice, yG, yH, yI, yJ, yK, yL, yM, yN, yO, yP, yQ, Nat.reduceAdd, yA, yB, yC] at H); simp only [Act.put, yA, yB, yC, yD, yE, yF]) | ((first | ((with_reducible apply st_box (dst := some 3) H); exact nF; intro b3) | ((with_reducible apply st_box (dst := some 4) H); exact nF; intro b4) | ((with_reducible apply st_box (dst := some 5) H); exact nF; intro b5) | ((with_reducible apply st_alloc (dst := some 9) H); exact nF; intro b9) | ((with_reducible apply st_alloc (dst := some 11) H); exact nF; intro b11) | ((with_reducible apply st_strsum H); rfl; rfl; exact szF; kernel_rfl) | ((with_reducible apply st_bslice H); exact nsF; intro nb)); clear H; intro wn H; simp only [Act.put, yA, yB, yC, yD, yE, yF]) | ((with_reducible apply st_loadat H); decide +kernel; rfl; exact aF; exact zF; rfl; clear H; intro wn H; simp only [Act.put, yA, yB, yC, yD, yE, yF]) | ((with_reducible apply st_storerow H); rfl; exact eF; (first | exact cells_agg _ | exact cellI | exact cellS | exact cellB | exact (rfl : _ = [_])); exact uF; kernel_rfl; exact Nat.succ_pos _; exact fitF; rfl; clear H; intro wn H; simp only [Act.put, yA, yB, yC, yD, yE, yF]) | ((first | (go_at_call 55; refine gvF (c1 _ H.below) H ?_) | (go_at_call 56; refine gvF (c2 _) H ?_) | (go_at_call 57; refine gvF (c3 _) H ?_)); clear H; intro wn H) | fail)
    go_ret
    exact ⟨by rw [HI2.out]; rfl, H.below⟩
  obtain ⟨hcfg, hnm, hm4, h12⟩ := hmf rfl
  subst hnm
  obtain ⟨f, hf'⟩ : ∃ f, f = audAt pr l (a1, a2) := ⟨_, rfl⟩
  rw [← hf'] at htz2
  have HF := Lib.hid hf'
  have HFL := Lib.hid (show ∀ i, (f i).length ≤ 286 by rw [hf']; exact audAt_len h12)
  have H12 := Lib.hid h12
  have HCF := Lib.hid hcfg
  have HZ : Hid (tz = bs (catTo f n)) := Lib.hid (by rw [htz2, if_pos (by rfl)])
  clear htz2 hf' hcfg h12
  go_enter Tryz.func20, Tryz.ntmps20
  go_wp2_with (first | ((first | ((with_reducible refine st_gwT ?_ ?_); rfl) | ((with_reducible refine st_gwF ?_ ?_); rfl) | ((with_reducible refine st_gsT ?_ ?_); rfl) | ((with_reducible refine st_gsF ?_ ?_); rfl)); (try simp only [Act.put, yA, yB, yC, yD, yE, yF])) | ((with_reducible refine' st_guard ?_ ?_ ?_); rotate_left; rfl; (all_goals (intro hgd; cases hgd)); (try simp only [Act.put, yA, yB, yC, yD, yE, yF])) | ((with_reducible apply st_want); rfl) | ((with_reducible refine st_skip ?_ ?_); rfl; simp only [Act.put, yA, yB, yC, yD, yE, yF]) | ((first | ((with_reducible apply st_load1 H); decide +kernel; rfl; exact cF) | ((with_reducible apply st_loads H); decide +kernel; rfl; exact iF; exact zF; rfl) | ((with_reducible apply st_store H); rfl; exact eF; (focus (exact cells_agg _)); exact uF; kernel_rfl; (focus (exact Nat.le_of_ble_eq_true (by rfl))); (focus (first | rfl | simp))) | ((with_reducible apply st_storeown H); rfl; exact eF; (focus (exact (rfl : _ = [_]))); exact uF; (focus omega); kernel_rfl; rfl)); clear H; intro wn H; (try simp only [splice, yG, yH, yI, yJ, yK, yL, yM, yN, yO, yP, yQ, Nat.reduceAdd, yA, yB, yC] at H); simp only [Act.put, yA, yB, yC, yD, yE, yF]) | ((first | ((with_reducible apply st_box (dst := some 3) H); exact nF; intro b3) | ((with_reducible apply st_box (dst := some 4) H); exact nF; intro b4) | ((with_reducible apply st_box (dst := some 5) H); exact nF; intro b5) | ((with_reducible apply st_alloc (dst := some 9) H); exact nF; intro b9) | ((with_reducible apply st_alloc (dst := some 11) H); exact nF; intro b11) | ((with_reducible apply st_strsum H); rfl; rfl; exact szF; kernel_rfl) | ((with_reducible apply st_bslice H); exact nsF; intro nb)); clear H; intro wn H; simp only [Act.put, yA, yB, yC, yD, yE, yF]) | ((with_reducible apply st_loadat H); decide +kernel; rfl; exact aF; exact zF; rfl; clear H; intro wn H; simp only [Act.put, yA, yB, yC, yD, yE, yF]) | ((with_reducible apply st_storerow H); rfl; exact eF; (first | exact cells_agg _ | exact cellI | exact cellS | exact cellB | exact (rfl : _ = [_])); exact uF; kernel_rfl; exact Nat.succ_pos _; exact fitF; rfl; clear H; intro wn H; simp only [Act.put, yA, yB, yC, yD, yE, yF]) | ((first | (go_at_call 55; refine gvF (c1 _ H.below) H ?_) | (go_at_call 56; refine gvF (c2 _) H ?_) | (go_at_call 57; refine gvF (c3 _) H ?_)); clear H; intro wn H) | fail)
  go_loopg [7, 24] n (fun m tv iv wr => ∃ (i : Nat) (t : ByteArray), i + m = n ∧ iv = .int .i64 i ∧ tv = .string t ∧ Hid (t = bs (catTo f i)) ∧ Hs noRow w [Hl.blk b3 35 #[v1, .slice B n cb, v3, .int .i64 hf], Hl.blk b4 51 #[.slice A n ca], Hl.blk b5 53 #[.int .i64 a1, .int .i64 a2]] wr)
  case atStart => exact ⟨0, _, by omega, rfl, rfl, Lib.hid rfl, H.sel sF⟩
  case round =>
    clear H
    obtain ⟨i, t, hi, rfl, rfl, HT, H⟩ := hrel
    by_cases hlt : i < n
    · obtain ⟨x, hx⟩ : ∃ x, l[i]? = some x := ⟨l[i]'(by rw [← HN.out]; exact hlt), List.getElem?_eq_getElem (by rw [← HN.out]; exact hlt)⟩
      obtain ⟨p, hp⟩ : ∃ p, pr[i]? = some p := ⟨pr[i]'(by rw [← HM.out]; exact hlt), List.getElem?_eq_getElem (by rw [← HM.out]; exact hlt)⟩
      have hs := sl_at (by have := HR.out; rw [HN.out] at this; exact this) hx
      rw [← HN.out] at hs
      obtain ⟨b, off, c', cs, hv, hcs, hA⟩ := hs
      injection hv with hv1 hv2 hv3
      subst hv1 hv3
      obtain ⟨u1, u2, u3, hu, g1, g2, g3⟩ := bo_form hcs
      subst hu
      have hs2 := sl_at (by have := HP.out; rw [HM.out] at this; exact this) hp
      rw [← HM.out] at hs2
      obtain ⟨d, dff, c2, cs2, hw, hcs2, hB⟩ := hs2
      injection hw with hw1 hw2 hw3
      subst hw1 hw3
      obtain rfl : cs2 = encPr p := hcs2
      have hop := (HPO.out i p HCF.out hp).1
      have hn12 := H12.out i x hx
      have hbdx := HK.out x (List.mem_of_getElem? hx)
      have hfi : f i = if belowB p.1 (a1, a2) then putNum i ++ (putNum x.2.2.length ++ audNotes x.2.2) else [] := by rw [HF.out]; unfold audAt; rw [hp, hx]
      obtain ⟨⟨p1, p2⟩, ⟨p3, p4⟩, r⟩ := p
      obtain ⟨x1, x2, x3⟩ := x
      simp only at hfi g1 g2 g3 hop hn12 hbdx
      have c3 := fun w1 => below_i (p1, p2) (a1, a2) hop HZ2.out.symm w1
      unfold encPr at hB
      simp only at hB c3
      obtain ⟨A3, d3, rfl, hl3, hm3⟩ := sl_form g3
      have HR3 := Lib.hid g3
      have h5 : w.cell? ⟨b, off + i * 3 + 2, none⟩ = some (.slice A3 x3.length d3) := hA 2 _ rfl
      obtain ⟨n3, hn3⟩ : ∃ n3, n3 = x3.length := ⟨_, rfl⟩
      rw [← hn3] at hfi HR3 h5 hn12
      have HN3 := Lib.hid hn3
      have hts : t.size ≤ 1144 := by rw [HT.out, zsize_bs]; have := catTo_len HFL.out i; omega
      have hlt1 : (i : Int) < n := by omega
      have HBD := Lib.hid hbdx
      clear hx hp hv2 hw2 hcs g1 g2 g3 hA hop hl3 hm3 hn3 hbdx
      generalize belowB (p1, p2) (a1, a2) = z3 at *
      cases z3
      case false =>
        have HT2 : Hid (t = bs (catTo f (i + 1))) := Lib.hid (by rw [HT.out, catTo_succ, hfi]; simp)
        clear hfi
        go_wp2_with (first | ((first | ((with_reducible refine st_gwT ?_ ?_); rfl) | ((with_reducible refine st_gwF ?_ ?_); rfl) | ((with_reducible refine st_gsT ?_ ?_); rfl) | ((with_reducible refine st_gsF ?_ ?_); rfl)); (try simp only [Act.put, yA, yB, yC, yD, yE, yF])) | ((with_reducible refine' st_guard ?_ ?_ ?_); rotate_left; rfl; (all_goals (intro hgd; cases hgd)); (try simp only [Act.put, yA, yB, yC, yD, yE, yF])) | ((with_reducible apply st_want); rfl) | ((with_reducible refine st_skip ?_ ?_); rfl; simp only [Act.put, yA, yB, yC, yD, yE, yF]) | ((first | ((with_reducible apply st_load1 H); decide +kernel; rfl; exact cF) | ((with_reducible apply st_loads H); decide +kernel; rfl; exact iF; exact zF; rfl) | ((with_reducible apply st_store H); rfl; exact eF; (focus (exact cells_agg _)); exact uF; kernel_rfl; (focus (exact Nat.le_of_ble_eq_true (by rfl))); (focus (first | rfl | simp))) | ((with_reducible apply st_storeown H); rfl; exact eF; (focus (exact (rfl : _ = [_]))); exact uF; (focus omega); kernel_rfl; rfl)); clear H; intro wn H; (try simp only [splice, yG, yH, yI, yJ, yK, yL, yM, yN, yO, yP, yQ, Nat.reduceAdd, yA, yB, yC] at H); simp only [Act.put, yA, yB, yC, yD, yE, yF]) | ((first | ((with_reducible apply st_box (dst := some 3) H); exact nF; intro b3) | ((with_reducible apply st_box (dst := some 4) H); exact nF; intro b4) | ((with_reducible apply st_box (dst := some 5) H); exact nF; intro b5) | ((with_reducible apply st_alloc (dst := some 9) H); exact nF; intro b9) | ((with_reducible apply st_alloc (dst := some 11) H); exact nF; intro b11) | ((with_reducible apply st_strsum H); rfl; rfl; exact szF; kernel_rfl) | ((with_reducible apply st_bslice H); exact nsF; intro nb)); clear H; intro wn H; simp only [Act.put, yA, yB, yC, yD, yE, yF]) | ((with_reducible apply st_loadat H); decide +kernel; rfl; exact aF; exact zF; rfl; clear H; intro wn H; simp only [Act.put, yA, yB, yC, yD, yE, yF]) | ((with_reducible apply st_storerow H); rfl; exact eF; (first | exact cells_agg _ | exact cellI | exact cellS | exact cellB | exact (rfl : _ = [_])); exact uF; kernel_rfl; exact Nat.succ_pos _; exact fitF; rfl; clear H; intro wn H; simp only [Act.put, yA, yB, yC, yD, yE, yF]) | ((first | (go_at_call 55; refine gvF (c1 _ H.below) H ?_) | (go_at_call 56; refine gvF (c2 _) H ?_) | (go_at_call 57; refine gvF (c3 _) H ?_)); clear H; intro wn H) | fail)
        go_roundg (n - (i + 1))
        case measure => omega
        case rel => exact ⟨i + 1, t, by omega, by go_num, rfl, HT2, H.sel sF⟩
      case true =>
        have HFI : Hid (f i = putNum i ++ (putNum n3 ++ audNotes x3)) := Lib.hid (by rw [hfi, if_pos rfl])
        clear hfi
        go_wp2_with (first | ((first | ((with_reducible refine st_gwT ?_ ?_); rfl) | ((with_reducible refine st_gwF ?_ ?_); rfl) | ((with_reducible refine st_gsT ?_ ?_); rfl) | ((with_reducible refine st_gsF ?_ ?_); rfl)); (try simp only [Act.put, yA, yB, yC, yD, yE, yF])) | ((with_reducible refine' st_guard ?_ ?_ ?_); rotate_left; rfl; (all_goals (intro hgd; cases hgd)); (try simp only [Act.put, yA, yB, yC, yD, yE, yF])) | ((with_reducible apply st_want); rfl) | ((with_reducible refine st_skip ?_ ?_); rfl; simp only [Act.put, yA, yB, yC, yD, yE, yF]) | ((first | ((with_reducible apply st_load1 H); decide +kernel; rfl; exact cF) | ((with_reducible apply st_loads H); decide +kernel; rfl; exact iF; exact zF; rfl) | ((with_reducible apply st_store H); rfl; exact eF; (focus (exact cells_agg _)); exact uF; kernel_rfl; (focus (exact Nat.le_of_ble_eq_true (by rfl))); (focus (first | rfl | simp))) | ((with_reducible apply st_storeown H); rfl; exact eF; (focus (exact (rfl : _ = [_]))); exact uF; (focus omega); kernel_rfl; rfl)); clear H; intro wn H; (try simp only [splice, yG, yH, yI, yJ, yK, yL, yM, yN, yO, yP, yQ, Nat.reduceAdd, yA, yB, yC] at H); simp only [Act.put, yA, yB, yC, yD, yE, yF]) | ((first | ((with_reducible apply st_box (dst := some 3) H); exact nF; intro b3) | ((with_reducible apply st_box (dst := some 4) H); exact nF; intro b4) | ((with_reducible apply st_box (dst := some 5) H); exact nF; intro b5) | ((with_reducible apply st_alloc (dst := some 9) H); exact nF; intro b9) | ((with_reducible apply st_alloc (dst := some 11) H); exact nF; intro b11) | ((with_reducible apply st_strsum H); rfl; rfl; exact szF; kernel_rfl) | ((with_reducible apply st_bslice H); exact nsF; intro nb)); clear H; intro wn H; simp only [Act.put, yA, yB, yC, yD, yE, yF]) | ((with_reducible apply st_loadat H); decide +kernel; rfl; exact aF; exact zF; rfl; clear H; intro wn H; simp only [Act.put, yA, yB, yC, yD, yE, yF]) | ((with_reducible apply st_storerow H); rfl; exact eF; (first | exact cells_agg _ | exact cellI | exact cellS | exact cellB | exact (rfl : _ = [_])); exact uF; kernel_rfl; exact Nat.succ_pos _; exact fitF; rfl; clear H; intro wn H; simp only [Act.put, yA, yB, yC, yD, yE, yF]) | ((first | (go_at_call 55; refine gvF (c1 _ H.below) H ?_) | (go_at_call 56; refine gvF (c2 _) H ?_) | (go_at_call 57; refine gvF (c3 _) H ?_)); clear H; intro wn H) | fail)
        have hbi : bd i := ⟨by omega, by omega⟩
        have hbn : bd n3 := ⟨by omega, by omega⟩
        obtain ⟨q, hq⟩ : ∃ q, q = bs (putNum i ++ putNum n3) := ⟨_, rfl⟩
        have hqs : q.size ≤ 22 := by rw [hq, zsize_bs, List.length_append]; have h1 := (putNum_length (i : Int)).2; have h2 := (putNum_length (n3 : Int)).2; omega
        refine gvF (putNums_two i n3 q hq hbi hbn _ _ _ (H.blk iF)) H ?_; clear H; intro wn H
        have HT1 : Hid (t ++ q = bs (catTo f i ++ ((putNum i ++ putNum n3) ++ audNotes (x3.take 0)))) := Lib.hid (by rw [HT.out, hq, bs_append, show audNotes (x3.take 0) = [] from rfl, List.append_nil])
        clear hq HT hbi hbn
        go_wp2_with (first | ((first | ((with_reducible refine st_gwT ?_ ?_); rfl) | ((with_reducible refine st_gwF ?_ ?_); rfl) | ((with_reducible refine st_gsT ?_ ?_); rfl) | ((with_reducible refine st_gsF ?_ ?_); rfl)); (try simp only [Act.put, yA, yB, yC, yD, yE, yF])) | ((with_reducible refine' st_guard ?_ ?_ ?_); rotate_left; rfl; (all_goals (intro hgd; cases hgd)); (try simp only [Act.put, yA, yB, yC, yD, yE, yF])) | ((with_reducible apply st_want); rfl) | ((with_reducible refine st_skip ?_ ?_); rfl; simp only [Act.put, yA, yB, yC, yD, yE, yF]) | ((first | ((with_reducible apply st_load1 H); decide +kernel; rfl; exact cF) | ((with_reducible apply st_loads H); decide +kernel; rfl; exact iF; exact zF; rfl) | ((with_reducible apply st_store H); rfl; exact eF; (focus (exact cells_agg _)); exact uF; kernel_rfl; (focus (exact Nat.le_of_ble_eq_true (by rfl))); (focus (first | rfl | simp))) | ((with_reducible apply st_storeown H); rfl; exact eF; (focus (exact (rfl : _ = [_]))); exact uF; (focus omega); kernel_rfl; rfl)); clear H; intro wn H; (try simp only [splice, yG, yH, yI, yJ, yK, yL, yM, yN, yO, yP, yQ, Nat.reduceAdd, yA, yB, yC] at H); simp only [Act.put, yA, yB, yC, yD, yE, yF]) | ((first | ((with_reducible apply st_box (dst := some 3) H); exact nF; intro b3) | ((with_reducible apply st_box (dst := some 4) H); exact nF; intro b4) | ((with_reducible apply st_box (dst := some 5) H); exact nF; intro b5) | ((with_reducible apply st_alloc (dst := some 9) H); exact nF; intro b9) | ((with_reducible apply st_alloc (dst := some 11) H); exact nF; intro b11) | ((with_reducible apply st_strsum H); rfl; rfl; exact szF; kernel_rfl) | ((with_reducible apply st_bslice H); exact nsF; intro nb)); clear H; intro wn H; simp only [Act.put, yA, yB, yC, yD, yE, yF]) | ((with_reducible apply st_loadat H); decide +kernel; rfl; exact aF; exact zF; rfl; clear H; intro wn H; simp only [Act.put, yA, yB, yC, yD, yE, yF]) | ((with_reducible apply st_storerow H); rfl; exact eF; (first | exact cells_agg _ | exact cellI | exact cellS | exact cellB | exact (rfl : _ = [_])); exact uF; kernel_rfl; exact Nat.succ_pos _; exact fitF; rfl; clear H; intro wn H; simp only [Act.put, yA, yB, yC, yD, yE, yF]) | ((first | (go_at_call 55; refine gvF (c1 _ H.below) H ?_) | (go_at_call 56; refine gvF (c2 _) H ?_) | (go_at_call 57; refine gvF (c3 _) H ?_)); clear H; intro wn H) | fail)
        go_loopg [7, 53] n3 (fun m tv iv wr => ∃ (k : Nat) (t : ByteArray), k + m = n3 ∧ iv = .int .i64 k ∧ tv = .string t ∧ Hid (t = bs (catTo f i ++ ((putNum i ++ putNum n3) ++ audNotes (x3.take k)))) ∧ Hs noRow w [Hl.blk b3 35 #[v1, .slice (some ⟨d, dff, none⟩) n cb, v3, .int .i64 hf], Hl.blk b4 51 #[.slice (some ⟨b, off, none⟩) n ca], Hl.blk b5 53 #[.int .i64 a1, .int .i64 a2]] wr)
        case atStart => exact ⟨0, _, by omega, rfl, rfl, HT1, H.sel sF⟩
        case round =>
          clear H HT1 hts hqs
          obtain ⟨k, t, hk, rfl, rfl, HT, H⟩ := hrel
          by_cases hlk : k < n3
          · obtain ⟨y, hy⟩ : ∃ y, x3[k]? = some y := ⟨x3[k]'(by rw [← HN3.out]; exact hlk), List.getElem?_eq_getElem (by rw [← HN3.out]; exact hlk)⟩
            have hs := sl_at (by have := HR3.out; rw [HN3.out] at this; exact this) hy
            rw [← HN3.out] at hs
            obtain ⟨e, eff, c7, cs7, hv, hcs, hA⟩ := hs
            injection hv with hv1 hv2 hv3
            subst hv1 hv3
            obtain rfl : cs7 = encNt y := hcs
            have hby := HBD.out y (List.mem_of_getElem? hy)
            have HT2 := audNotes_take hy
            obtain ⟨y1, y2⟩ := y
            simp only at hby HT2
            unfold encNt at hA
            simp only at hA
            obtain ⟨q, hq⟩ : ∃ q, q = bs (putNum y1 ++ putNum y2) := ⟨_, rfl⟩
            have hqs : q.size ≤ 22 := by rw [hq, zsize_bs, List.length_append]; have h1 := (putNum_length y1).2; have h2 := (putNum_length y2).2; omega
            have hts : t.size ≤ 2000 := by
              rw [HT.out, zsize_bs]
              have h1 := catTo_len HFL.out i
              have h2 := audNotes_len (x3.take k)
              have h3 := (putNum_length (i : Int)).2
              have h4 := (putNum_length (n3 : Int)).2
              have h5 : (x3.take k).length ≤ 12 := by rw [List.length_take]; omega
              simp only [List.length_append]
              omega
            have HT3 : Hid (t ++ q = bs (catTo f i ++ ((putNum i ++ putNum n3) ++ audNotes (x3.take (k + 1))))) := Lib.hid (by rw [HT.out, hq, bs_append, HT2]; simp only [List.append_assoc])
            have hlk1 : (k : Int) < n3 := by omega
            clear hy hv2 HT2
            go_wp2_with (first | ((first | ((with_reducible refine st_gwT ?_ ?_); rfl) | ((with_reducible refine st_gwF ?_ ?_); rfl) | ((with_reducible refine st_gsT ?_ ?_); rfl) | ((with_reducible refine st_gsF ?_ ?_); rfl)); (try simp only [Act.put, yA, yB, yC, yD, yE, yF])) | ((with_reducible refine' st_guard ?_ ?_ ?_); rotate_left; rfl; (all_goals (intro hgd; cases hgd)); (try simp only [Act.put, yA, yB, yC, yD, yE, yF])) | ((with_reducible apply st_want); rfl) | ((with_reducible refine st_skip ?_ ?_); rfl; simp only [Act.put, yA, yB, yC, yD, yE, yF]) | ((first | ((with_reducible apply st_load1 H); decide +kernel; rfl; exact cF) | ((with_reducible apply st_loads H); decide +kernel; rfl; exact iF; exact zF; rfl) | ((with_reducible apply st_store H); rfl; exact eF; (focus (exact cells_agg _)); exact uF; kernel_rfl; (focus (exact Nat.le_of_ble_eq_true (by rfl))); (focus (first | rfl | simp))) | ((with_reducible apply st_storeown H); rfl; exact eF; (focus (exact (rfl : _ = [_]))); exact uF; (focus omega); kernel_rfl; rfl)); clear H; intro wn H; (try simp only [splice, yG, yH, yI, yJ, yK, yL, yM, yN, yO, yP, yQ, Nat.reduceAdd, yA, yB, yC] at H); simp only [Act.put, yA, yB, yC, yD, yE, yF]) | ((first | ((with_reducible apply st_box (dst := some 3) H); exact nF; intro b3) | ((with_reducible apply st_box (dst := some 4) H); exact nF; intro b4) | ((with_reducible apply st_box (dst := some 5) H); exact nF; intro b5) | ((with_reducible apply st_alloc (dst := some 9) H); exact nF; intro b9) | ((with_reducible apply st_alloc (dst := some 11) H); exact nF; intro b11) | ((with_reducible apply st_strsum H); rfl; rfl; exact szF; kernel_rfl) | ((with_reducible apply st_bslice H); exact nsF; intro nb)); clear H; intro wn H; simp only [Act.put, yA, yB, yC, yD, yE, yF]) | ((with_reducible apply st_loadat H); decide +kernel; rfl; exact aF; exact zF; rfl; clear H; intro wn H; simp only [Act.put, yA, yB, yC, yD, yE, yF]) | ((with_reducible apply st_storerow H); rfl; exact eF; (first | exact cells_agg _ | exact cellI | exact cellS | exact cellB | exact (rfl : _ = [_])); exact uF; kernel_rfl; exact Nat.succ_pos _; exact fitF; rfl; clear H; intro wn H; simp only [Act.put, yA, yB, yC, yD, yE, yF]) | ((first | (go_at_call 55; refine gvF (c1 _ H.below) H ?_) | (go_at_call 56; refine gvF (c2 _) H ?_) | (go_at_call 57; refine gvF (c3 _) H ?_)); clear H; intro wn H) | fail)
            refine gvF (putNums_two y1 y2 q hq hby.1 hby.2 _ _ _ (H.blk iF)) H ?_; clear H; intro wn H
            clear hq
            go_wp2_with (first | ((first | ((with_reducible refine st_gwT ?_ ?_); rfl) | ((with_reducible refine st_gwF ?_ ?_); rfl) | ((with_reducible refine st_gsT ?_ ?_); rfl) | ((with_reducible refine st_gsF ?_ ?_); rfl)); (try simp only [Act.put, yA, yB, yC, yD, yE, yF])) | ((with_reducible refine' st_guard ?_ ?_ ?_); rotate_left; rfl; (all_goals (intro hgd; cases hgd)); (try simp only [Act.put, yA, yB, yC, yD, yE, yF])) | ((with_reducible apply st_want); rfl) | ((with_reducible refine st_skip ?_ ?_); rfl; simp only [Act.put, yA, yB, yC, yD, yE, yF]) | ((first | ((with_reducible apply st_load1 H); decide +kernel; rfl; exact cF) | ((with_reducible apply st_loads H); decide +kernel; rfl; exact iF; exact zF; rfl) | ((with_reducible apply st_store H); rfl; exact eF; (focus (exact cells_agg _)); exact uF; kernel_rfl; (focus (exact Nat.le_of_ble_eq_true (by rfl))); (focus (first | rfl | simp))) | ((with_reducible apply st_storeown H); rfl; exact eF; (focus (exact (rfl : _ = [_]))); exact uF; (focus omega); kernel_rfl; rfl)); clear H; intro wn H; (try simp only [splice, yG, yH, yI, yJ, yK, yL, yM, yN, yO, yP, yQ, Nat.reduceAdd, yA, yB, yC] at H); simp only [Act.put, yA, yB, yC, yD, yE, yF]) | ((first | ((with_reducible apply st_box (dst := some 3) H); exact nF; intro b3) | ((with_reducible apply st_box (dst := some 4) H); exact nF; intro b4) | ((with_reducible apply st_box (dst := some 5) H); exact nF; intro b5) | ((with_reducible apply st_alloc (dst := some 9) H); exact nF; intro b9) | ((with_reducible apply st_alloc (dst := some 11) H); exact nF; intro b11) | ((with_reducible apply st_strsum H); rfl; rfl; exact szF; kernel_rfl) | ((with_reducible apply st_bslice H); exact nsF; intro nb)); clear H; intro wn H; simp only [Act.put, yA, yB, yC, yD, yE, yF]) | ((with_reducible apply st_loadat H); decide +kernel; rfl; exact aF; exact zF; rfl; clear H; intro wn H; simp only [Act.put, yA, yB, yC, yD, yE, yF]) | ((with_reducible apply st_storerow H); rfl; exact eF; (first | exact cells_agg _ | exact cellI | exact cellS | exact cellB | exact (rfl : _ = [_])); exact uF; kernel_rfl; exact Nat.succ_pos _; exact fitF; rfl; clear H; intro wn H; simp only [Act.put, yA, yB, yC, yD, yE, yF]) | ((first | (go_at_call 55; refine gvF (c1 _ H.below) H ?_) | (go_at_call 56; refine gvF (c2 _) H ?_) | (go_at_call 57; refine gvF (c3 _) H ?_)); clear H; intro wn H) | fail)
            go_roundg (n3 - (k + 1))
            case measure => omega
            case rel => exact ⟨k + 1, _, by omega, by go_num, rfl, HT3, H.sel sF⟩
          · obtain rfl : k = n3 := by omega
            have hlk1 : ¬ (k : Int) < k := by omega
            have HT2 : Hid (t = bs (catTo f (i + 1))) := Lib.hid (by rw [HT.out, catTo_succ, HFI.out, List.take_of_length_le (by rw [← HN3.out]; exact Nat.le_refl _)]; simp only [List.append_assoc])
            clear HT
            go_wp2_with (first | ((first | ((with_reducible refine st_gwT ?_ ?_); rfl) | ((with_reducible refine st_gwF ?_ ?_); rfl) | ((with_reducible refine st_gsT ?_ ?_); rfl) | ((with_reducible refine st_gsF ?_ ?_); rfl)); (try simp only [Act.put, yA, yB, yC, yD, yE, yF])) | ((with_reducible refine' st_guard ?_ ?_ ?_); rotate_left; rfl; (all_goals (intro hgd; cases hgd)); (try simp only [Act.put, yA, yB, yC, yD, yE, yF])) | ((with_reducible apply st_want); rfl) | ((with_reducible refine st_skip ?_ ?_); rfl; simp only [Act.put, yA, yB, yC, yD, yE, yF]) | ((first | ((with_reducible apply st_load1 H); decide +kernel; rfl; exact cF) | ((with_reducible apply st_loads H); decide +kernel; rfl; exact iF; exact zF; rfl) | ((with_reducible apply st_store H); rfl; exact eF; (focus (exact cells_agg _)); exact uF; kernel_rfl; (focus (exact Nat.le_of_ble_eq_true (by rfl))); (focus (first | rfl | simp))) | ((with_reducible apply st_storeown H); rfl; exact eF; (focus (exact (rfl : _ = [_]))); exact uF; (focus omega); kernel_rfl; rfl)); clear H; intro wn H; (try simp only [splice, yG, yH, yI, yJ, yK, yL, yM, yN, yO, yP, yQ, Nat.reduceAdd, yA, yB, yC] at H); simp only [Act.put, yA, yB, yC, yD, yE, yF]) | ((first | ((with_reducible apply st_box (dst := some 3) H); exact nF; intro b3) | ((with_reducible apply st_box (dst := some 4) H); exact nF; intro b4) | ((with_reducible apply st_box (dst := some 5) H); exact nF; intro b5) | ((with_reducible apply st_alloc (dst := some 9) H); exact nF; intro b9) | ((with_reducible apply st_alloc (dst := some 11) H); exact nF; intro b11) | ((with_reducible apply st_strsum H); rfl; rfl; exact szF; kernel_rfl) | ((with_reducible apply st_bslice H); exact nsF; intro nb)); clear H; intro wn H; simp only [Act.put, yA, yB, yC, yD, yE, yF]) | ((with_reducible apply st_loadat H); decide +kernel; rfl; exact aF; exact zF; rfl; clear H; intro wn H; simp only [Act.put, yA, yB, yC, yD, yE, yF]) | ((with_reducible apply st_storerow H); rfl; exact eF; (first | exact cells_agg _ | exact cellI | exact cellS | exact cellB | exact (rfl : _ = [_])); exact uF; kernel_rfl; exact Nat.succ_pos _; exact fitF; rfl; clear H; intro wn H; simp only [Act.put, yA, yB, yC, yD, yE, yF]) | ((first | (go_at_call 55; refine gvF (c1 _ H.below) H ?_) | (go_at_call 56; refine gvF (c2 _) H ?_) | (go_at_call 57; refine gvF (c3 _) H ?_)); clear H; intro wn H) | fail)
            go_roundg (n - (i + 1))
            case measure => omega
            case rel => exact ⟨i + 1, t, by omega, by go_num, rfl, HT2, H.sel sF⟩
    · obtain rfl : i = n := by omega
      have hlt1 : ¬ (i : Int) < i := by omega
      go_wp2_with (first | ((first | ((with_reducible refine st_gwT ?_ ?_); rfl) | ((with_reducible refine st_gwF ?_ ?_); rfl) | ((with_reducible refine st_gsT ?_ ?_); rfl) | ((with_reducible refine st_gsF ?_ ?_); rfl)); (try simp only [Act.put, yA, yB, yC, yD, yE, yF])) | ((with_reducible refine' st_guard ?_ ?_ ?_); rotate_left; rfl; (all_goals (intro hgd; cases hgd)); (try simp only [Act.put, yA, yB, yC, yD, yE, yF])) | ((with_reducible apply st_want); rfl) | ((with_reducible refine st_skip ?_ ?_); rfl; simp only [Act.put, yA, yB, yC, yD, yE, yF]) | ((first | ((with_reducible apply st_load1 H); decide +kernel; rfl; exact cF) | ((with_reducible apply st_loads H); decide +kernel; rfl; exact iF; exact zF; rfl) | ((with_reducible apply st_store H); rfl; exact eF; (focus (exact cells_agg _)); exact uF; kernel_rfl; (focus (exact Nat.le_of_ble_eq_true (by rfl))); (focus (first | rfl | simp))) | ((with_reducible apply st_storeown H); rfl; exact eF; (focus (exact (rfl : _ = [_]))); exact uF; (focus omega); kernel_rfl; rfl)); clear H; intro wn H; (try simp only [splice, yG, yH, yI, yJ, yK, yL, yM, yN, yO, yP, yQ, Nat.reduceAdd, yA, yB, yC] at H); simp only [Act.put, yA, yB, yC, yD, yE, yF]) | ((first | ((with_reducible apply st_box (dst := some 3) H); exact nF; intro b3) | ((with_reducible apply st_box (dst := some 4) H); exact nF; intro b4) | ((with_reducible apply st_box (dst := some 5) H); exact nF; intro b5) | ((with_reducible apply st_alloc (dst := some 9) H); exact nF; intro b9) | ((with_reducible apply st_alloc (dst := some 11) H); exact nF; intro b11) | ((with_reducible apply st_strsum H); rfl; rfl; exact szF; kernel_rfl) | ((with_reducible apply st_bslice H); exact nsF; intro nb)); clear H; intro wn H; simp only [Act.put, yA, yB, yC, yD, yE, yF]) | ((with_reducible apply st_loadat H); decide +kernel; rfl; exact aF; exact zF; rfl; clear H; intro wn H; simp only [Act.put, yA, yB, yC, yD, yE, yF]) | ((with_reducible apply st_storerow H); rfl; exact eF; (first | exact cells_agg _ | exact cellI | exact cellS | exact cellB | exact (rfl : _ = [_])); exact uF; kernel_rfl; exact Nat.succ_pos _; exact fitF; rfl; clear H; intro wn H; simp only [Act.put, yA, yB, yC, yD, yE, yF]) | ((first | (go_at_call 55; refine gvF (c1 _ H.below) H ?_) | (go_at_call 56; refine gvF (c2 _) H ?_) | (go_at_call 57; refine gvF (c3 _) H ?_)); clear H; intro wn H) | fail)
      go_ret
      exact ⟨by rw [HZ.out, HT.out]; rfl, H.below⟩
set_option maxRecDepth 100000 in
set_option maxHeartbeats 4000000 in
theorem mailAudit_s (c : Cfg) (cs : List Value) (v : Value) (l : List Bo) (lab : Lab) (hk : ∀ b ∈ l, ∀ x ∈ b.2.2, bd x.1 ∧ bd x.2) (w : World) (hrc : tyCfg.rd w cs c) (hr : (Ty.sl 101 tyBo).rd w [v] l) :
    Gives Tryz.prog 17 #[.agg cs.toArray, .agg #[v], .agg #[.int .i64 lab.1, .int .i64 lab.2]] w (.string (bs (mailAud c l lab))) := by
  have c1 := fun w1 hb => mailRight_s c cs v l w1 (Ty.below _ hrc hb) (Ty.below _ hr hb)
  have c2 := fun w1 => labelRight_s lab.1 lab.2 w1
  have hmf := @mail_facts c l
  have hpo := fun i p => @pair_ok c i p
  obtain ⟨v1, v2, v3, rfl, h1, h2, h3⟩ := cfg_form hrc
  obtain ⟨nd, pr, qt, hf⟩ := c
  obtain ⟨a1, a2⟩ := lab
  simp only at h1 h2 h3 c2 hpo
  rw [show labelOk a1 a2 = okL (a1, a2) from rfl] at c2
  show Gives Tryz.prog _ #[.agg #[v1, v2, v3, .int .i64 hf], .agg #[v], .agg #[.int .i64 a1, .int .i64 a2]] w _
  replace c1 : ∀ w1, Below w.heap.size w w1 → Gives Tryz.prog 50 #[.agg #[v1, v2, v3, .int .i64 hf], .agg #[v]] w1 (.bool (mailOk (nd, pr, qt, hf) l)) := c1
  obtain ⟨tz, htz⟩ : ∃ t, t = bs (mailAud (nd, pr, qt, hf) l (a1, a2)) := ⟨_, rfl⟩
  rw [← htz]
  have htz2 : tz = bs (if mailOk (nd, pr, qt, hf) l && okL (a1, a2) then catTo (audAt pr l (a1, a2)) pr.length else []) := htz
  clear htz
  obtain ⟨A, ca, rfl, hlc, hcm⟩ := sl_form hr
  obtain ⟨B, cb, rfl, hlb, hbm⟩ := sl_form h2
  have HR := Lib.hid hr
  have HP := Lib.hid h2
  have HK := Lib.hid hk
  have HPO := Lib.hid hpo
  obtain ⟨n, hn⟩ : ∃ n, n = l.length := ⟨_, rfl⟩
  obtain ⟨m, hm⟩ : ∃ m, m = pr.length := ⟨_, rfl⟩
  rw [← hn] at HR c1 ⊢
  rw [← hm] at HP c1 htz2 ⊢
  simp only at hmf
  rw [← hn, ← hm] at hmf
  have HN := Lib.hid hn
  have HM := Lib.hid hm
  have HOK := Lib.hid (show okL (a1, a2) = okL (a1, a2) from rfl)
  clear hr h1 h2 h3 hrc hlc hcm hlb hbm hn hm hk hpo HOK
  obtain ⟨z1, hz1⟩ : ∃ z, z = mailOk (nd, pr, qt, hf) l := ⟨_, rfl⟩
  obtain ⟨z2, hz2⟩ : ∃ z, z = okL (a1, a2) := ⟨_, rfl⟩
  rw [← hz1] at c1 htz2 hmf
  rw [← hz2] at c2 htz2
  have HZ2 := Lib.hid hz2
  clear hz1 hz2
  have H := Hs.start noRow w
  unfold Gives
  cases z1
  case false =>
    have HI2 : Hid (tz = bs []) := Lib.hid (by rw [htz2, if_neg (by simp)])
    clear htz2 hmf
    go_enter Tryz.func17, Tryz.ntmps17
    go_wp2_with (first | ((first | ((with_reducible refine st_gwT ?_ ?_); rfl) | ((with_reducible refine st_gwF ?_ ?_); rfl) | ((with_reducible refine st_gsT ?_ ?_); rfl) | ((with_reducible refine st_gsF ?_ ?_); rfl)); (try simp only [Act.put, yA, yB, yC, yD, yE, yF])) | ((with_reducible refine' st_guard ?_ ?_ ?_); rotate_left; rfl; (all_goals (intro hgd; cases hgd)); (try simp only [Act.put, yA, yB, yC, yD, yE, yF])) | ((with_reducible apply st_want); rfl) | ((with_reducible refine st_skip ?_ ?_); rfl; simp only [Act.put, yA, yB, yC, yD, yE, yF]) | ((first | ((with_reducible apply st_load1 H); decide +kernel; rfl; exact cF) | ((with_reducible apply st_loads H); decide +kernel; rfl; exact iF; exact zF; rfl) | ((with_reducible apply st_store H); rfl; exact eF; (focus (exact cells_agg _)); exact uF; kernel_rfl; (focus (exact Nat.le_of_ble_eq_true (by rfl))); (focus (first | rfl | simp))) | ((with_reducible apply st_storeown H); rfl; exact eF; (focus (exact (rfl : _ = [_]))); exact uF; (focus omega); kernel_rfl; rfl)); clear H; intro wn H; (try simp only [splice, yG, yH, yI, yJ, yK, yL, yM, yN, yO, yP, yQ, Nat.reduceAdd, yA, yB, yC] at H); simp only [Act.put, yA, yB, yC, yD, yE, yF]) | ((first | ((with_reducible apply st_box (dst := some 3) H); exact nF; intro b3) | ((with_reducible apply st_box (dst := some 4) H); exact nF; intro b4) | ((with_reducible apply st_box (dst := some 5) H); exact nF; intro b5) | ((with_reducible apply st_strsum H); rfl; rfl; exact szF; kernel_rfl)); clear H; intro wn H; simp only [Act.put, yA, yB, yC, yD, yE, yF]) | ((with_reducible apply st_loadat H); decide +kernel; rfl; exact aF; exact zF; rfl; clear H; intro wn H; simp only [Act.put, yA, yB, yC, yD, yE, yF]) | ((first | (go_at_call 50; refine gvF (c1 _ H.below) H ?_) | (go_at_call 51; refine gvF (c2 _) H ?_) | (go_at_call 52; refine gvF (c3 _) H ?_) | (go_at_call 53; refine gvF (c5 _ (by assumption) _) H ?_)); clear H; intro wn H) | ((with_reducible apply wp_region_hq (id := 7) H); kernel_rfl; kernel_rfl; (iterate 8 (all_goals ((with_reducible refine' hq_step ?_ ?_ ?_); rotate_left; rfl; (focus (intro w1 H1; first | (first | exact qF | exact qAF | exact qRF) | (unfold QOk; go_simp; exact q_call (c3 _)) | (exact qVF))); (try simp only [yG, yH, yJ, yK]); simp only [Act.put, yA, yB, yC, yD, yE, yF]))); all_goals (refine wpQuiet_nil ?_; clear H; intro wn H)) | ((with_reducible apply wp_region_hq (id := 8) H); kernel_rfl; kernel_rfl; (iterate 3 (all_goals ((with_reducible refine' hq_step ?_ ?_ ?_); rotate_left; rfl; (focus (intro w1 H1; first | (unfold QOk; go_simp; exact q_call (c5 _ (by assumption) _)) | (exact qVF))); (try simp only [yG, yH, yJ, yK]); simp only [Act.put, yA, yB, yC, yD, yE, yF]))); (all_goals ((with_reducible refine' hq_step ?_ ?_ ?_); rotate_left; rfl; (focus (intro w1 H1; first | exact qSF | exact qWF | exact qVF)); (try simp only [yG, yH, yJ, yK]); simp only [Act.put, yA, yB, yC, yD, yE, yF])); (iterate 8 (all_goals ((with_reducible refine' hq_step ?_ ?_ ?_); rotate_left; rfl; (focus (intro w1 H1; first | (first | exact qF | exact qAF | exact qRF) | (unfold QOk; go_simp; exact q_call (c5 _ (by assumption) _)) | (exact qVF))); (try simp only [yG, yH, yJ, yK]); simp only [Act.put, yA, yB, yC, yD, yE, yF]))); (all_goals ((with_reducible refine' hq_step ?_ ?_ ?_); rotate_left; rfl; (focus (intro w1 H1; first | exact qSF | exact qWF | exact qVF)); (try simp only [yG, yH, yJ, yK]); simp only [Act.put, yA, yB, yC, yD, yE, yF])); (iterate 1 (all_goals ((with_reducible refine' hq_step ?_ ?_ ?_); rotate_left; rfl; (focus (intro w1 H1; exact qVF)); (try simp only [yG, yH, yJ, yK]); simp only [Act.put, yA, yB, yC, yD, yE, yF]))); all_goals (refine wpQuiet_nil ?_; clear H; intro wn H)) | ((with_reducible apply wp_region_hq (id := 12) H); kernel_rfl; kernel_rfl; (iterate 12 (all_goals ((with_reducible refine' hq_step ?_ ?_ ?_); rotate_left; rfl; (focus (intro w1 H1; first | (first | exact qF | exact qAF | exact qRF) | (unfold QOk; go_simp; exact q_call (c5 _ (by assumption) _)) | (exact qVF))); (try simp only [yG, yH, yJ, yK]); simp only [Act.put, yA, yB, yC, yD, yE, yF]))); (all_goals ((with_reducible refine' hq_step ?_ ?_ ?_); rotate_left; rfl; (focus (intro w1 H1; first | exact qSF | exact qWF | exact qVF)); (try simp only [yG, yH, yJ, yK]); simp only [Act.put, yA, yB, yC, yD, yE, yF])); (iterate 11 (all_goals ((with_reducible refine' hq_step ?_ ?_ ?_); rotate_left; rfl; (focus (intro w1 H1; first | (first | exact qF | exact qAF | exact qRF) | (unfold QOk; go_simp; exact q_call (c5 _ (by assumption) _)) | (exact qVF))); (try simp only [yG, yH, yJ, yK]); simp only [Act.put, yA, yB, yC, yD, yE, yF]))); (all_goals ((with_reducible refine' hq_step ?_ ?_ ?_); rotate_left; rfl; (focus (intro w1 H1; first | exact qSF | exact qWF | exact qVF)); (try simp only [yG, yH, yJ, yK]); simp only [Act.put, yA, yB, yC, yD, yE, yF])); (iterate 1 (all_goals ((with_reducible refine' hq_step ?_ ?_ ?_); rotate_left; rfl; (focus (intro w1 H1; exact qVF)); (try simp only [yG, yH, yJ, yK]); simp only [Act.put, yA, yB, yC, yD, yE, yF]))); all_goals (refine wpQuiet_nil ?_; clear H; intro wn H)) | fail)
    go_ret
    exact ⟨by rw [HI2.out]; rfl, H.below⟩
  cases z2
  case false =>
    have HI2 : Hid (tz = bs []) := Lib.hid (by rw [htz2, if_neg (by simp)])
    clear htz2 hmf
    go_enter Tryz.func17, Tryz.ntmps17
    go_wp2_with (first | ((first | ((with_reducible refine st_gwT ?_ ?_); rfl) | ((with_reducible refine st_gwF ?_ ?_); rfl) | ((with_reducible refine st_gsT ?_ ?_); rfl) | ((with_reducible refine st_gsF ?_ ?_); rfl)); (try simp only [Act.put, yA, yB, yC, yD, yE, yF])) | ((with_reducible refine' st_guard ?_ ?_ ?_); rotate_left; rfl; (all_goals (intro hgd; cases hgd)); (try simp only [Act.put, yA, yB, yC, yD, yE, yF])) | ((with_reducible apply st_want); rfl) | ((with_reducible refine st_skip ?_ ?_); rfl; simp only [Act.put, yA, yB, yC, yD, yE, yF]) | ((first | ((with_reducible apply st_load1 H); decide +kernel; rfl; exact cF) | ((with_reducible apply st_loads H); decide +kernel; rfl; exact iF; exact zF; rfl) | ((with_reducible apply st_store H); rfl; exact eF; (focus (exact cells_agg _)); exact uF; kernel_rfl; (focus (exact Nat.le_of_ble_eq_true (by rfl))); (focus (first | rfl | simp))) | ((with_reducible apply st_storeown H); rfl; exact eF; (focus (exact (rfl : _ = [_]))); exact uF; (focus omega); kernel_rfl; rfl)); clear H; intro wn H; (try simp only [splice, yG, yH, yI, yJ, yK, yL, yM, yN, yO, yP, yQ, Nat.reduceAdd, yA, yB, yC] at H); simp only [Act.put, yA, yB, yC, yD, yE, yF]) | ((first | ((with_reducible apply st_box (dst := some 3) H); exact nF; intro b3) | ((with_reducible apply st_box (dst := some 4) H); exact nF; intro b4) | ((with_reducible apply st_box (dst := some 5) H); exact nF; intro b5) | ((with_reducible apply st_strsum H); rfl; rfl; exact szF; kernel_rfl)); clear H; intro wn H; simp only [Act.put, yA, yB, yC, yD, yE, yF]) | ((with_reducible apply st_loadat H); decide +kernel; rfl; exact aF; exact zF; rfl; clear H; intro wn H; simp only [Act.put, yA, yB, yC, yD, yE, yF]) | ((first | (go_at_call 50; refine gvF (c1 _ H.below) H ?_) | (go_at_call 51; refine gvF (c2 _) H ?_) | (go_at_call 52; refine gvF (c3 _) H ?_) | (go_at_call 53; refine gvF (c5 _ (by assumption) _) H ?_)); clear H; intro wn H) | ((with_reducible apply wp_region_hq (id := 7) H); kernel_rfl; kernel_rfl; (iterate 8 (all_goals ((with_reducible refine' hq_step ?_ ?_ ?_); rotate_left; rfl; (focus (intro w1 H1; first | (first | exact qF | exact qAF | exact qRF) | (unfold QOk; go_simp; exact q_call (c3 _)) | (exact qVF))); (try simp only [yG, yH, yJ, yK]); simp only [Act.put, yA, yB, yC, yD, yE, yF]))); all_goals (refine wpQuiet_nil ?_; clear H; intro wn H)) | ((with_reducible apply wp_region_hq (id := 8) H); kernel_rfl; kernel_rfl; (iterate 3 (all_goals ((with_reducible refine' hq_step ?_ ?_ ?_); rotate_left; rfl; (focus (intro w1 H1; first | (unfold QOk; go_simp; exact q_call (c5 _ (by assumption) _)) | (exact qVF))); (try simp only [yG, yH, yJ, yK]); simp only [Act.put, yA, yB, yC, yD, yE, yF]))); (all_goals ((with_reducible refine' hq_step ?_ ?_ ?_); rotate_left; rfl; (focus (intro w1 H1; first | exact qSF | exact qWF | exact qVF)); (try simp only [yG, yH, yJ, yK]); simp only [Act.put, yA, yB, yC, yD, yE, yF])); (iterate 8 (all_goals ((with_reducible refine' hq_step ?_ ?_ ?_); rotate_left; rfl; (focus (intro w1 H1; first | (first | exact qF | exact qAF | exact qRF) | (unfold QOk; go_simp; exact q_call (c5 _ (by assumption) _)) | (exact qVF))); (try simp only [yG, yH, yJ, yK]); simp only [Act.put, yA, yB, yC, yD, yE, yF]))); (all_goals ((with_reducible refine' hq_step ?_ ?_ ?_); rotate_left; rfl; (focus (intro w1 H1; first | exact qSF | exact qWF | exact qVF)); (try simp only [yG, yH, yJ, yK]); simp only [Act.put, yA, yB, yC, yD, yE, yF])); (iterate 1 (all_goals ((with_reducible refine' hq_step ?_ ?_ ?_); rotate_left; rfl; (focus (intro w1 H1; exact qVF)); (try simp only [yG, yH, yJ, yK]); simp only [Act.put, yA, yB, yC, yD, yE, yF]))); all_goals (refine wpQuiet_nil ?_; clear H; intro wn H)) | ((with_reducible apply wp_region_hq (id := 12) H); kernel_rfl; kernel_rfl; (iterate 12 (all_goals ((with_reducible refine' hq_step ?_ ?_ ?_); rotate_left; rfl; (focus (intro w1 H1; first | (first | exact qF | exact qAF | exact qRF) | (unfold QOk; go_simp; exact q_call (c5 _ (by assumption) _)) | (exact qVF))); (try simp only [yG, yH, yJ, yK]); simp only [Act.put, yA, yB, yC, yD, yE, yF]))); (all_goals ((with_reducible refine' hq_step ?_ ?_ ?_); rotate_left; rfl; (focus (intro w1 H1; first | exact qSF | exact qWF | exact qVF)); (try simp only [yG, yH, yJ, yK]); simp only [Act.put, yA, yB, yC, yD, yE, yF])); (iterate 11 (all_goals ((with_reducible refine' hq_step ?_ ?_ ?_); rotate_left; rfl; (focus (intro w1 H1; first | (first | exact qF | exact qAF | exact qRF) | (unfold QOk; go_simp; exact q_call (c5 _ (by assumption) _)) | (exact qVF))); (try simp only [yG, yH, yJ, yK]); simp only [Act.put, yA, yB, yC, yD, yE, yF]))); (all_goals ((with_reducible refine' hq_step ?_ ?_ ?_); rotate_left; rfl; (focus (intro w1 H1; first | exact qSF | exact qWF | exact qVF)); (try simp only [yG, yH, yJ, yK]); simp only [Act.put, yA, yB, yC, yD, yE, yF])); (iterate 1 (all_goals ((with_reducible refine' hq_step ?_ ?_ ?_); rotate_left; rfl; (focus (intro w1 H1; exact qVF)); (try simp only [yG, yH, yJ, yK]); simp only [Act.put, yA, yB, yC, yD, yE, yF]))); all_goals (refine wpQuiet_nil ?_; clear H; intro wn H)) | fail)
    go_ret
    exact ⟨by rw [HI2.out]; rfl, H.below⟩
  obtain ⟨hcfg, hnm, hm4, h12⟩ := hmf rfl
  subst hnm
  obtain ⟨f, hf'⟩ : ∃ f, f = audAt pr l (a1, a2) := ⟨_, rfl⟩
  rw [← hf'] at htz2
  have HF := Lib.hid hf'
  have HFL := Lib.hid (show ∀ i, (f i).length ≤ 286 by rw [hf']; exact audAt_len h12)
  have H12 := Lib.hid h12
  have HCF := Lib.hid hcfg
  have HZ : Hid (tz = bs (catTo f n)) := Lib.hid (by rw [htz2, if_pos (by rfl)])
  clear htz2 hf' hcfg h12
  obtain ⟨pn, hpn⟩ : ∃ pn : Int → ByteArray, pn = fun z => bs (putNum z) := ⟨_, rfl⟩
  have c5 : ∀ z, bd z → ∀ w1, Gives Tryz.prog 53 #[.int .i64 z] w1 (.string (pn z)) := fun z hz w1 => by rw [hpn]; exact putNum_s z hz w1
  have HPN : Hid (∀ z, pn z = bs (putNum z) ∧ (pn z).size ≤ 11) := Lib.hid (fun z => by rw [hpn]; exact ⟨rfl, (putNum_length z).2⟩)
  clear hpn
  go_enter Tryz.func17, Tryz.ntmps17
  go_wp2_with (first | ((first | ((with_reducible refine st_gwT ?_ ?_); rfl) | ((with_reducible refine st_gwF ?_ ?_); rfl) | ((with_reducible refine st_gsT ?_ ?_); rfl) | ((with_reducible refine st_gsF ?_ ?_); rfl)); (try simp only [Act.put, yA, yB, yC, yD, yE, yF])) | ((with_reducible refine' st_guard ?_ ?_ ?_); rotate_left; rfl; (all_goals (intro hgd; cases hgd)); (try simp only [Act.put, yA, yB, yC, yD, yE, yF])) | ((with_reducible apply st_want); rfl) | ((with_reducible refine st_skip ?_ ?_); rfl; simp only [Act.put, yA, yB, yC, yD, yE, yF]) | ((first | ((with_reducible apply st_load1 H); decide +kernel; rfl; exact cF) | ((with_reducible apply st_loads H); decide +kernel; rfl; exact iF; exact zF; rfl) | ((with_reducible apply st_store H); rfl; exact eF; (focus (exact cells_agg _)); exact uF; kernel_rfl; (focus (exact Nat.le_of_ble_eq_true (by rfl))); (focus (first | rfl | simp))) | ((with_reducible apply st_storeown H); rfl; exact eF; (focus (exact (rfl : _ = [_]))); exact uF; (focus omega); kernel_rfl; rfl)); clear H; intro wn H; (try simp only [splice, yG, yH, yI, yJ, yK, yL, yM, yN, yO, yP, yQ, Nat.reduceAdd, yA, yB, yC] at H); simp only [Act.put, yA, yB, yC, yD, yE, yF]) | ((first | ((with_reducible apply st_box (dst := some 3) H); exact nF; intro b3) | ((with_reducible apply st_box (dst := some 4) H); exact nF; intro b4) | ((with_reducible apply st_box (dst := some 5) H); exact nF; intro b5) | ((with_reducible apply st_strsum H); rfl; rfl; exact szF; kernel_rfl)); clear H; intro wn H; simp only [Act.put, yA, yB, yC, yD, yE, yF]) | ((with_reducible apply st_loadat H); decide +kernel; rfl; exact aF; exact zF; rfl; clear H; intro wn H; simp only [Act.put, yA, yB, yC, yD, yE, yF]) | ((first | (go_at_call 50; refine gvF (c1 _ H.below) H ?_) | (go_at_call 51; refine gvF (c2 _) H ?_) | (go_at_call 52; refine gvF (c3 _) H ?_) | (go_at_call 53; refine gvF (c5 _ (by assumption) _) H ?_)); clear H; intro wn H) | ((with_reducible apply wp_region_hq (id := 7) H); kernel_rfl; kernel_rfl; (iterate 8 (all_goals ((with_reducible refine' hq_step ?_ ?_ ?_); rotate_left; rfl; (focus (intro w1 H1; first | (first | exact qF | exact qAF | exact qRF) | (unfold QOk; go_simp; exact q_call (c3 _)) | (exact qVF))); (try simp only [yG, yH, yJ, yK]); simp only [Act.put, yA, yB, yC, yD, yE, yF]))); all_goals (refine wpQuiet_nil ?_; clear H; intro wn H)) | ((with_reducible apply wp_region_hq (id := 8) H); kernel_rfl; kernel_rfl; (iterate 3 (all_goals ((with_reducible refine' hq_step ?_ ?_ ?_); rotate_left; rfl; (focus (intro w1 H1; first | (unfold QOk; go_simp; exact q_call (c5 _ (by assumption) _)) | (exact qVF))); (try simp only [yG, yH, yJ, yK]); simp only [Act.put, yA, yB, yC, yD, yE, yF]))); (all_goals ((with_reducible refine' hq_step ?_ ?_ ?_); rotate_left; rfl; (focus (intro w1 H1; first | exact qSF | exact qWF | exact qVF)); (try simp only [yG, yH, yJ, yK]); simp only [Act.put, yA, yB, yC, yD, yE, yF])); (iterate 8 (all_goals ((with_reducible refine' hq_step ?_ ?_ ?_); rotate_left; rfl; (focus (intro w1 H1; first | (first | exact qF | exact qAF | exact qRF) | (unfold QOk; go_simp; exact q_call (c5 _ (by assumption) _)) | (exact qVF))); (try simp only [yG, yH, yJ, yK]); simp only [Act.put, yA, yB, yC, yD, yE, yF]))); (all_goals ((with_reducible refine' hq_step ?_ ?_ ?_); rotate_left; rfl; (focus (intro w1 H1; first | exact qSF | exact qWF | exact qVF)); (try simp only [yG, yH, yJ, yK]); simp only [Act.put, yA, yB, yC, yD, yE, yF])); (iterate 1 (all_goals ((with_reducible refine' hq_step ?_ ?_ ?_); rotate_left; rfl; (focus (intro w1 H1; exact qVF)); (try simp only [yG, yH, yJ, yK]); simp only [Act.put, yA, yB, yC, yD, yE, yF]))); all_goals (refine wpQuiet_nil ?_; clear H; intro wn H)) | ((with_reducible apply wp_region_hq (id := 12) H); kernel_rfl; kernel_rfl; (iterate 12 (all_goals ((with_reducible refine' hq_step ?_ ?_ ?_); rotate_left; rfl; (focus (intro w1 H1; first | (first | exact qF | exact qAF | exact qRF) | (unfold QOk; go_simp; exact q_call (c5 _ (by assumption) _)) | (exact qVF))); (try simp only [yG, yH, yJ, yK]); simp only [Act.put, yA, yB, yC, yD, yE, yF]))); (all_goals ((with_reducible refine' hq_step ?_ ?_ ?_); rotate_left; rfl; (focus (intro w1 H1; first | exact qSF | exact qWF | exact qVF)); (try simp only [yG, yH, yJ, yK]); simp only [Act.put, yA, yB, yC, yD, yE, yF])); (iterate 11 (all_goals ((with_reducible refine' hq_step ?_ ?_ ?_); rotate_left; rfl; (focus (intro w1 H1; first | (first | exact qF | exact qAF | exact qRF) | (unfold QOk; go_simp; exact q_call (c5 _ (by assumption) _)) | (exact qVF))); (try simp only [yG, yH, yJ, yK]); simp only [Act.put, yA, yB, yC, yD, yE, yF]))); (all_goals ((with_reducible refine' hq_step ?_ ?_ ?_); rotate_left; rfl; (focus (intro w1 H1; first | exact qSF | exact qWF | exact qVF)); (try simp only [yG, yH, yJ, yK]); simp only [Act.put, yA, yB, yC, yD, yE, yF])); (iterate 1 (all_goals ((with_reducible refine' hq_step ?_ ?_ ?_); rotate_left; rfl; (focus (intro w1 H1; exact qVF)); (try simp only [yG, yH, yJ, yK]); simp only [Act.put, yA, yB, yC, yD, yE, yF]))); all_goals (refine wpQuiet_nil ?_; clear H; intro wn H)) | fail)
  go_loopg [7, 8] n (fun m tv iv wr => ∃ (i : Nat) (t : ByteArray), i + m = n ∧ iv = .int .i64 i ∧ tv = .string t ∧ Hid (t = bs (catTo f i)) ∧ Hs noRow w [Hl.blk b3 35 #[v1, .slice B n cb, v3, .int .i64 hf], Hl.blk b4 51 #[.slice A n ca], Hl.blk b5 53 #[.int .i64 a1, .int .i64 a2]] wr)
  case atStart => exact ⟨0, _, by omega, rfl, rfl, Lib.hid rfl, H.sel sF⟩
  case round =>
    clear H
    obtain ⟨i, t, hi, rfl, rfl, HT, H⟩ := hrel
    by_cases hlt : i < n
    · obtain ⟨x, hx⟩ : ∃ x, l[i]? = some x := ⟨l[i]'(by rw [← HN.out]; exact hlt), List.getElem?_eq_getElem (by rw [← HN.out]; exact hlt)⟩
      obtain ⟨p, hp⟩ : ∃ p, pr[i]? = some p := ⟨pr[i]'(by rw [← HM.out]; exact hlt), List.getElem?_eq_getElem (by rw [← HM.out]; exact hlt)⟩
      have hs := sl_at (by have := HR.out; rw [HN.out] at this; exact this) hx
      rw [← HN.out] at hs
      obtain ⟨b, off, c', cs, hv, hcs, hA⟩ := hs
      injection hv with hv1 hv2 hv3
      subst hv1 hv3
      obtain ⟨u1, u2, u3, hu, g1, g2, g3⟩ := bo_form hcs
      subst hu
      have hs2 := sl_at (by have := HP.out; rw [HM.out] at this; exact this) hp
      rw [← HM.out] at hs2
      obtain ⟨d, dff, c2, cs2, hw, hcs2, hB⟩ := hs2
      injection hw with hw1 hw2 hw3
      subst hw1 hw3
      obtain rfl : cs2 = encPr p := hcs2
      have hop := (HPO.out i p HCF.out hp).1
      have hn12 := H12.out i x hx
      have hbdx := HK.out x (List.mem_of_getElem? hx)
      have hfi : f i = if belowB p.1 (a1, a2) then putNum i ++ (putNum x.2.2.length ++ audNotes x.2.2) else [] := by rw [HF.out]; unfold audAt; rw [hp, hx]
      obtain ⟨⟨p1, p2⟩, ⟨p3, p4⟩, r⟩ := p
      obtain ⟨x1, x2, x3⟩ := x
      simp only at hfi g1 g2 g3 hop hn12 hbdx
      have c3 := fun w1 => below_s (p1, p2) (a1, a2) hop HZ2.out.symm w1
      unfold encPr at hB
      simp only at hB c3
      have hB1 : At w d (dff + i * 5) [.int .i64 p1, .int .i64 p2] := At.pre (us := [.int .i64 p3, .int .i64 p4, .int .i64 r]) hB
      obtain ⟨A3, d3, rfl, hl3, hm3⟩ := sl_form g3
      have HR3 := Lib.hid g3
      have h5 : w.cell? ⟨b, off + i * 3 + 2, none⟩ = some (.slice A3 x3.length d3) := hA 2 _ rfl
      obtain ⟨n3, hn3⟩ : ∃ n3, n3 = x3.length := ⟨_, rfl⟩
      rw [← hn3] at hfi HR3 h5 hn12
      have HN3 := Lib.hid hn3
      have hts : t.size ≤ 1144 := by rw [HT.out, zsize_bs]; have := catTo_len HFL.out i; omega
      have hlt1 : (i : Int) < n := by omega
      have HBD := Lib.hid hbdx
      clear hx hp hv2 hw2 hcs g1 g2 g3 hA hop hl3 hm3 hn3 hbdx
      generalize belowB (p1, p2) (a1, a2) = z3 at *
      cases z3
      case false =>
        have HT2 : Hid (t = bs (catTo f (i + 1))) := Lib.hid (by rw [HT.out, catTo_succ, hfi]; simp)
        clear hfi
        go_wp2_with (first | ((first | ((with_reducible refine st_gwT ?_ ?_); rfl) | ((with_reducible refine st_gwF ?_ ?_); rfl) | ((with_reducible refine st_gsT ?_ ?_); rfl) | ((with_reducible refine st_gsF ?_ ?_); rfl)); (try simp only [Act.put, yA, yB, yC, yD, yE, yF])) | ((with_reducible refine' st_guard ?_ ?_ ?_); rotate_left; rfl; (all_goals (intro hgd; cases hgd)); (try simp only [Act.put, yA, yB, yC, yD, yE, yF])) | ((with_reducible apply st_want); rfl) | ((with_reducible refine st_skip ?_ ?_); rfl; simp only [Act.put, yA, yB, yC, yD, yE, yF]) | ((first | ((with_reducible apply st_load1 H); decide +kernel; rfl; exact cF) | ((with_reducible apply st_loads H); decide +kernel; rfl; exact iF; exact zF; rfl) | ((with_reducible apply st_store H); rfl; exact eF; (focus (exact cells_agg _)); exact uF; kernel_rfl; (focus (exact Nat.le_of_ble_eq_true (by rfl))); (focus (first | rfl | simp))) | ((with_reducible apply st_storeown H); rfl; exact eF; (focus (exact (rfl : _ = [_]))); exact uF; (focus omega); kernel_rfl; rfl)); clear H; intro wn H; (try simp only [splice, yG, yH, yI, yJ, yK, yL, yM, yN, yO, yP, yQ, Nat.reduceAdd, yA, yB, yC] at H); simp only [Act.put, yA, yB, yC, yD, yE, yF]) | ((first | ((with_reducible apply st_box (dst := some 3) H); exact nF; intro b3) | ((with_reducible apply st_box (dst := some 4) H); exact nF; intro b4) | ((with_reducible apply st_box (dst := some 5) H); exact nF; intro b5) | ((with_reducible apply st_strsum H); rfl; rfl; exact szF; kernel_rfl)); clear H; intro wn H; simp only [Act.put, yA, yB, yC, yD, yE, yF]) | ((with_reducible apply st_loadat H); decide +kernel; rfl; exact aF; exact zF; rfl; clear H; intro wn H; simp only [Act.put, yA, yB, yC, yD, yE, yF]) | ((first | (go_at_call 50; refine gvF (c1 _ H.below) H ?_) | (go_at_call 51; refine gvF (c2 _) H ?_) | (go_at_call 52; refine gvF (c3 _) H ?_) | (go_at_call 53; refine gvF (c5 _ (by assumption) _) H ?_)); clear H; intro wn H) | ((with_reducible apply wp_region_hq (id := 7) H); kernel_rfl; kernel_rfl; (iterate 8 (all_goals ((with_reducible refine' hq_step ?_ ?_ ?_); rotate_left; rfl; (focus (intro w1 H1; first | (first | exact qF | exact qAF | exact qRF) | (unfold QOk; go_simp; exact q_call (c3 _)) | (exact qVF))); (try simp only [yG, yH, yJ, yK]); simp only [Act.put, yA, yB, yC, yD, yE, yF]))); all_goals (refine wpQuiet_nil ?_; clear H; intro wn H)) | ((with_reducible apply wp_region_hq (id := 8) H); kernel_rfl; kernel_rfl; (iterate 3 (all_goals ((with_reducible refine' hq_step ?_ ?_ ?_); rotate_left; rfl; (focus (intro w1 H1; first | (unfold QOk; go_simp; exact q_call (c5 _ (by assumption) _)) | (exact qVF))); (try simp only [yG, yH, yJ, yK]); simp only [Act.put, yA, yB, yC, yD, yE, yF]))); (all_goals ((with_reducible refine' hq_step ?_ ?_ ?_); rotate_left; rfl; (focus (intro w1 H1; first | exact qSF | exact qWF | exact qVF)); (try simp only [yG, yH, yJ, yK]); simp only [Act.put, yA, yB, yC, yD, yE, yF])); (iterate 8 (all_goals ((with_reducible refine' hq_step ?_ ?_ ?_); rotate_left; rfl; (focus (intro w1 H1; first | (first | exact qF | exact qAF | exact qRF) | (unfold QOk; go_simp; exact q_call (c5 _ (by assumption) _)) | (exact qVF))); (try simp only [yG, yH, yJ, yK]); simp only [Act.put, yA, yB, yC, yD, yE, yF]))); (all_goals ((with_reducible refine' hq_step ?_ ?_ ?_); rotate_left; rfl; (focus (intro w1 H1; first | exact qSF | exact qWF | exact qVF)); (try simp only [yG, yH, yJ, yK]); simp only [Act.put, yA, yB, yC, yD, yE, yF])); (iterate 1 (all_goals ((with_reducible refine' hq_step ?_ ?_ ?_); rotate_left; rfl; (focus (intro w1 H1; exact qVF)); (try simp only [yG, yH, yJ, yK]); simp only [Act.put, yA, yB, yC, yD, yE, yF]))); all_goals (refine wpQuiet_nil ?_; clear H; intro wn H)) | ((with_reducible apply wp_region_hq (id := 12) H); kernel_rfl; kernel_rfl; (iterate 12 (all_goals ((with_reducible refine' hq_step ?_ ?_ ?_); rotate_left; rfl; (focus (intro w1 H1; first | (first | exact qF | exact qAF | exact qRF) | (unfold QOk; go_simp; exact q_call (c5 _ (by assumption) _)) | (exact qVF))); (try simp only [yG, yH, yJ, yK]); simp only [Act.put, yA, yB, yC, yD, yE, yF]))); (all_goals ((with_reducible refine' hq_step ?_ ?_ ?_); rotate_left; rfl; (focus (intro w1 H1; first | exact qSF | exact qWF | exact qVF)); (try simp only [yG, yH, yJ, yK]); simp only [Act.put, yA, yB, yC, yD, yE, yF])); (iterate 11 (all_goals ((with_reducible refine' hq_step ?_ ?_ ?_); rotate_left; rfl; (focus (intro w1 H1; first | (first | exact qF | exact qAF | exact qRF) | (unfold QOk; go_simp; exact q_call (c5 _ (by assumption) _)) | (exact qVF))); (try simp only [yG, yH, yJ, yK]); simp only [Act.put, yA, yB, yC, yD, yE, yF]))); (all_goals ((with_reducible refine' hq_step ?_ ?_ ?_); rotate_left; rfl; (focus (intro w1 H1; first | exact qSF | exact qWF | exact qVF)); (try simp only [yG, yH, yJ, yK]); simp only [Act.put, yA, yB, yC, yD, yE, yF])); (iterate 1 (all_goals ((with_reducible refine' hq_step ?_ ?_ ?_); rotate_left; rfl; (focus (intro w1 H1; exact qVF)); (try simp only [yG, yH, yJ, yK]); simp only [Act.put, yA, yB, yC, yD, yE, yF]))); all_goals (refine wpQuiet_nil ?_; clear H; intro wn H)) | fail)
        go_roundg (n - (i + 1))
        case measure => omega
        case rel => exact ⟨i + 1, t, by omega, by go_num, rfl, HT2, H.sel sF⟩
      case true =>
        have HFI : Hid (f i = putNum i ++ (putNum n3 ++ audNotes x3)) := Lib.hid (by rw [hfi, if_pos rfl])
        clear hfi
        have hbi : bd i := ⟨by omega, by omega⟩
        have hbn : bd n3 := ⟨by omega, by omega⟩
        have hqs := (HPN.out i).2
        have hqs' := (HPN.out n3).2
        have HT1 : Hid (t ++ pn i ++ pn n3 = bs (catTo f i ++ ((putNum i ++ putNum n3) ++ audNotes (x3.take 0)))) := Lib.hid (by rw [HT.out, (HPN.out i).1, (HPN.out n3).1, bs_append, bs_append, show audNotes (x3.take 0) = [] from rfl, List.append_nil, List.append_assoc])
        clear HT
        go_wp2_with (first | ((first | ((with_reducible refine st_gwT ?_ ?_); rfl) | ((with_reducible refine st_gwF ?_ ?_); rfl) | ((with_reducible refine st_gsT ?_ ?_); rfl) | ((with_reducible refine st_gsF ?_ ?_); rfl)); (try simp only [Act.put, yA, yB, yC, yD, yE, yF])) | ((with_reducible refine' st_guard ?_ ?_ ?_); rotate_left; rfl; (all_goals (intro hgd; cases hgd)); (try simp only [Act.put, yA, yB, yC, yD, yE, yF])) | ((with_reducible apply st_want); rfl) | ((with_reducible refine st_skip ?_ ?_); rfl; simp only [Act.put, yA, yB, yC, yD, yE, yF]) | ((first | ((with_reducible apply st_load1 H); decide +kernel; rfl; exact cF) | ((with_reducible apply st_loads H); decide +kernel; rfl; exact iF; exact zF; rfl) | ((with_reducible apply st_store H); rfl; exact eF; (focus (exact cells_agg _)); exact uF; kernel_rfl; (focus (exact Nat.le_of_ble_eq_true (by rfl))); (focus (first | rfl | simp))) | ((with_reducible apply st_storeown H); rfl; exact eF; (focus (exact (rfl : _ = [_]))); exact uF; (focus omega); kernel_rfl; rfl)); clear H; intro wn H; (try simp only [splice, yG, yH, yI, yJ, yK, yL, yM, yN, yO, yP, yQ, Nat.reduceAdd, yA, yB, yC] at H); simp only [Act.put, yA, yB, yC, yD, yE, yF]) | ((first | ((with_reducible apply st_box (dst := some 3) H); exact nF; intro b3) | ((with_reducible apply st_box (dst := some 4) H); exact nF; intro b4) | ((with_reducible apply st_box (dst := some 5) H); exact nF; intro b5) | ((with_reducible apply st_strsum H); rfl; rfl; exact szF; kernel_rfl)); clear H; intro wn H; simp only [Act.put, yA, yB, yC, yD, yE, yF]) | ((with_reducible apply st_loadat H); decide +kernel; rfl; exact aF; exact zF; rfl; clear H; intro wn H; simp only [Act.put, yA, yB, yC, yD, yE, yF]) | ((first | (go_at_call 50; refine gvF (c1 _ H.below) H ?_) | (go_at_call 51; refine gvF (c2 _) H ?_) | (go_at_call 52; refine gvF (c3 _) H ?_) | (go_at_call 53; refine gvF (c5 _ (by assumption) _) H ?_)); clear H; intro wn H) | ((with_reducible apply wp_region_hq (id := 7) H); kernel_rfl; kernel_rfl; (iterate 8 (all_goals ((with_reducible refine' hq_step ?_ ?_ ?_); rotate_left; rfl; (focus (intro w1 H1; first | (first | exact qF | exact qAF | exact qRF) | (unfold QOk; go_simp; exact q_call (c3 _)) | (exact qVF))); (try simp only [yG, yH, yJ, yK]); simp only [Act.put, yA, yB, yC, yD, yE, yF]))); all_goals (refine wpQuiet_nil ?_; clear H; intro wn H)) | ((with_reducible apply wp_region_hq (id := 8) H); kernel_rfl; kernel_rfl; (iterate 3 (all_goals ((with_reducible refine' hq_step ?_ ?_ ?_); rotate_left; rfl; (focus (intro w1 H1; first | (unfold QOk; go_simp; exact q_call (c5 _ (by assumption) _)) | (exact qVF))); (try simp only [yG, yH, yJ, yK]); simp only [Act.put, yA, yB, yC, yD, yE, yF]))); (all_goals ((with_reducible refine' hq_step ?_ ?_ ?_); rotate_left; rfl; (focus (intro w1 H1; first | exact qSF | exact qWF | exact qVF)); (try simp only [yG, yH, yJ, yK]); simp only [Act.put, yA, yB, yC, yD, yE, yF])); (iterate 8 (all_goals ((with_reducible refine' hq_step ?_ ?_ ?_); rotate_left; rfl; (focus (intro w1 H1; first | (first | exact qF | exact qAF | exact qRF) | (unfold QOk; go_simp; exact q_call (c5 _ (by assumption) _)) | (exact qVF))); (try simp only [yG, yH, yJ, yK]); simp only [Act.put, yA, yB, yC, yD, yE, yF]))); (all_goals ((with_reducible refine' hq_step ?_ ?_ ?_); rotate_left; rfl; (focus (intro w1 H1; first | exact qSF | exact qWF | exact qVF)); (try simp only [yG, yH, yJ, yK]); simp only [Act.put, yA, yB, yC, yD, yE, yF])); (iterate 1 (all_goals ((with_reducible refine' hq_step ?_ ?_ ?_); rotate_left; rfl; (focus (intro w1 H1; exact qVF)); (try simp only [yG, yH, yJ, yK]); simp only [Act.put, yA, yB, yC, yD, yE, yF]))); all_goals (refine wpQuiet_nil ?_; clear H; intro wn H)) | ((with_reducible apply wp_region_hq (id := 12) H); kernel_rfl; kernel_rfl; (iterate 12 (all_goals ((with_reducible refine' hq_step ?_ ?_ ?_); rotate_left; rfl; (focus (intro w1 H1; first | (first | exact qF | exact qAF | exact qRF) | (unfold QOk; go_simp; exact q_call (c5 _ (by assumption) _)) | (exact qVF))); (try simp only [yG, yH, yJ, yK]); simp only [Act.put, yA, yB, yC, yD, yE, yF]))); (all_goals ((with_reducible refine' hq_step ?_ ?_ ?_); rotate_left; rfl; (focus (intro w1 H1; first | exact qSF | exact qWF | exact qVF)); (try simp only [yG, yH, yJ, yK]); simp only [Act.put, yA, yB, yC, yD, yE, yF])); (iterate 11 (all_goals ((with_reducible refine' hq_step ?_ ?_ ?_); rotate_left; rfl; (focus (intro w1 H1; first | (first | exact qF | exact qAF | exact qRF) | (unfold QOk; go_simp; exact q_call (c5 _ (by assumption) _)) | (exact qVF))); (try simp only [yG, yH, yJ, yK]); simp only [Act.put, yA, yB, yC, yD, yE, yF]))); (all_goals ((with_reducible refine' hq_step ?_ ?_ ?_); rotate_left; rfl; (focus (intro w1 H1; first | exact qSF | exact qWF | exact qVF)); (try simp only [yG, yH, yJ, yK]); simp only [Act.put, yA, yB, yC, yD, yE, yF])); (iterate 1 (all_goals ((with_reducible refine' hq_step ?_ ?_ ?_); rotate_left; rfl; (focus (intro w1 H1; exact qVF)); (try simp only [yG, yH, yJ, yK]); simp only [Act.put, yA, yB, yC, yD, yE, yF]))); all_goals (refine wpQuiet_nil ?_; clear H; intro wn H)) | fail)
        clear hqs hqs' hbi hbn
        go_loopg [7, 9] n3 (fun m tv iv wr => ∃ (k : Nat) (t : ByteArray), k + m = n3 ∧ iv = .int .i64 k ∧ tv = .string t ∧ Hid (t = bs (catTo f i ++ ((putNum i ++ putNum n3) ++ audNotes (x3.take k)))) ∧ Hs noRow w [Hl.blk b3 35 #[v1, .slice (some ⟨d, dff, none⟩) n cb, v3, .int .i64 hf], Hl.blk b4 51 #[.slice (some ⟨b, off, none⟩) n ca], Hl.blk b5 53 #[.int .i64 a1, .int .i64 a2]] wr)
        case atStart => exact ⟨0, _, by omega, rfl, rfl, HT1, H.sel sF⟩
        case round =>
          clear H HT1 hts
          obtain ⟨k, t, hk, rfl, rfl, HT, H⟩ := hrel
          by_cases hlk : k < n3
          · obtain ⟨y, hy⟩ : ∃ y, x3[k]? = some y := ⟨x3[k]'(by rw [← HN3.out]; exact hlk), List.getElem?_eq_getElem (by rw [← HN3.out]; exact hlk)⟩
            have hs := sl_at (by have := HR3.out; rw [HN3.out] at this; exact this) hy
            rw [← HN3.out] at hs
            obtain ⟨e, eff, c7, cs7, hv, hcs, hA⟩ := hs
            injection hv with hv1 hv2 hv3
            subst hv1 hv3
            obtain rfl : cs7 = encNt y := hcs
            have hby := HBD.out y (List.mem_of_getElem? hy)
            have HT2 := audNotes_take hy
            obtain ⟨y1, y2⟩ := y
            simp only at hby HT2
            unfold encNt at hA
            simp only at hA
            have hqs := (HPN.out y1).2
            have hqs' := (HPN.out y2).2
            have hbi := hby.1
            have hbn := hby.2
            have h6 : w.cell? ⟨e, eff + k * 2, none⟩ = some (.int .i64 y1) := hA.head (u := .int .i64 y1) rfl
            have h7 : w.cell? ⟨e, eff + k * 2 + 1, none⟩ = some (.int .i64 y2) := hA 1 _ rfl
            have hts : t.size ≤ 2000 := by
              rw [HT.out, zsize_bs]
              have h1 := catTo_len HFL.out i
              have h2 := audNotes_len (x3.take k)
              have h3 := (putNum_length (i : Int)).2
              have h4 := (putNum_length (n3 : Int)).2
              have h5 : (x3.take k).length ≤ 12 := by rw [List.length_take]; omega
              simp only [List.length_append]
              omega
            have HT3 : Hid (t ++ pn y1 ++ pn y2 = bs (catTo f i ++ ((putNum i ++ putNum n3) ++ audNotes (x3.take (k + 1))))) := Lib.hid (by rw [HT.out, (HPN.out y1).1, (HPN.out y2).1, bs_append, bs_append, HT2]; simp only [List.append_assoc])
            have hlk1 : (k : Int) < n3 := by omega
            clear hy hv2 HT2 hA hby
            go_wp2_with (first | ((first | ((with_reducible refine st_gwT ?_ ?_); rfl) | ((with_reducible refine st_gwF ?_ ?_); rfl) | ((with_reducible refine st_gsT ?_ ?_); rfl) | ((with_reducible refine st_gsF ?_ ?_); rfl)); (try simp only [Act.put, yA, yB, yC, yD, yE, yF])) | ((with_reducible refine' st_guard ?_ ?_ ?_); rotate_left; rfl; (all_goals (intro hgd; cases hgd)); (try simp only [Act.put, yA, yB, yC, yD, yE, yF])) | ((with_reducible apply st_want); rfl) | ((with_reducible refine st_skip ?_ ?_); rfl; simp only [Act.put, yA, yB, yC, yD, yE, yF]) | ((first | ((with_reducible apply st_load1 H); decide +kernel; rfl; exact cF) | ((with_reducible apply st_loads H); decide +kernel; rfl; exact iF; exact zF; rfl) | ((with_reducible apply st_store H); rfl; exact eF; (focus (exact cells_agg _)); exact uF; kernel_rfl; (focus (exact Nat.le_of_ble_eq_true (by rfl))); (focus (first | rfl | simp))) | ((with_reducible apply st_storeown H); rfl; exact eF; (focus (exact (rfl : _ = [_]))); exact uF; (focus omega); kernel_rfl; rfl)); clear H; intro wn H; (try simp only [splice, yG, yH, yI, yJ, yK, yL, yM, yN, yO, yP, yQ, Nat.reduceAdd, yA, yB, yC] at H); simp only [Act.put, yA, yB, yC, yD, yE, yF]) | ((first | ((with_reducible apply st_box (dst := some 3) H); exact nF; intro b3) | ((with_reducible apply st_box (dst := some 4) H); exact nF; intro b4) | ((with_reducible apply st_box (dst := some 5) H); exact nF; intro b5) | ((with_reducible apply st_strsum H); rfl; rfl; exact szF; kernel_rfl)); clear H; intro wn H; simp only [Act.put, yA, yB, yC, yD, yE, yF]) | ((with_reducible apply st_loadat H); decide +kernel; rfl; exact aF; exact zF; rfl; clear H; intro wn H; simp only [Act.put, yA, yB, yC, yD, yE, yF]) | ((first | (go_at_call 50; refine gvF (c1 _ H.below) H ?_) | (go_at_call 51; refine gvF (c2 _) H ?_) | (go_at_call 52; refine gvF (c3 _) H ?_) | (go_at_call 53; refine gvF (c5 _ (by assumption) _) H ?_)); clear H; intro wn H) | ((with_reducible apply wp_region_hq (id := 7) H); kernel_rfl; kernel_rfl; (iterate 8 (all_goals ((with_reducible refine' hq_step ?_ ?_ ?_); rotate_left; rfl; (focus (intro w1 H1; first | (first | exact qF | exact qAF | exact qRF) | (unfold QOk; go_simp; exact q_call (c3 _)) | (exact qVF))); (try simp only [yG, yH, yJ, yK]); simp only [Act.put, yA, yB, yC, yD, yE, yF]))); all_goals (refine wpQuiet_nil ?_; clear H; intro wn H)) | ((with_reducible apply wp_region_hq (id := 8) H); kernel_rfl; kernel_rfl; (iterate 3 (all_goals ((with_reducible refine' hq_step ?_ ?_ ?_); rotate_left; rfl; (focus (intro w1 H1; first | (unfold QOk; go_simp; exact q_call (c5 _ (by assumption) _)) | (exact qVF))); (try simp only [yG, yH, yJ, yK]); simp only [Act.put, yA, yB, yC, yD, yE, yF]))); (all_goals ((with_reducible refine' hq_step ?_ ?_ ?_); rotate_left; rfl; (focus (intro w1 H1; first | exact qSF | exact qWF | exact qVF)); (try simp only [yG, yH, yJ, yK]); simp only [Act.put, yA, yB, yC, yD, yE, yF])); (iterate 8 (all_goals ((with_reducible refine' hq_step ?_ ?_ ?_); rotate_left; rfl; (focus (intro w1 H1; first | (first | exact qF | exact qAF | exact qRF) | (unfold QOk; go_simp; exact q_call (c5 _ (by assumption) _)) | (exact qVF))); (try simp only [yG, yH, yJ, yK]); simp only [Act.put, yA, yB, yC, yD, yE, yF]))); (all_goals ((with_reducible refine' hq_step ?_ ?_ ?_); rotate_left; rfl; (focus (intro w1 H1; first | exact qSF | exact qWF | exact qVF)); (try simp only [yG, yH, yJ, yK]); simp only [Act.put, yA, yB, yC, yD, yE, yF])); (iterate 1 (all_goals ((with_reducible refine' hq_step ?_ ?_ ?_); rotate_left; rfl; (focus (intro w1 H1; exact qVF)); (try simp only [yG, yH, yJ, yK]); simp only [Act.put, yA, yB, yC, yD, yE, yF]))); all_goals (refine wpQuiet_nil ?_; clear H; intro wn H)) | ((with_reducible apply wp_region_hq (id := 12) H); kernel_rfl; kernel_rfl; (iterate 12 (all_goals ((with_reducible refine' hq_step ?_ ?_ ?_); rotate_left; rfl; (focus (intro w1 H1; first | (first | exact qF | exact qAF | exact qRF) | (unfold QOk; go_simp; exact q_call (c5 _ (by assumption) _)) | (exact qVF))); (try simp only [yG, yH, yJ, yK]); simp only [Act.put, yA, yB, yC, yD, yE, yF]))); (all_goals ((with_reducible refine' hq_step ?_ ?_ ?_); rotate_left; rfl; (focus (intro w1 H1; first | exact qSF | exact qWF | exact qVF)); (try simp only [yG, yH, yJ, yK]); simp only [Act.put, yA, yB, yC, yD, yE, yF])); (iterate 11 (all_goals ((with_reducible refine' hq_step ?_ ?_ ?_); rotate_left; rfl; (focus (intro w1 H1; first | (first | exact qF | exact qAF | exact qRF) | (unfold QOk; go_simp; exact q_call (c5 _ (by assumption) _)) | (exact qVF))); (try simp only [yG, yH, yJ, yK]); simp only [Act.put, yA, yB, yC, yD, yE, yF]))); (all_goals ((with_reducible refine' hq_step ?_ ?_ ?_); rotate_left; rfl; (focus (intro w1 H1; first | exact qSF | exact qWF | exact qVF)); (try simp only [yG, yH, yJ, yK]); simp only [Act.put, yA, yB, yC, yD, yE, yF])); (iterate 1 (all_goals ((with_reducible refine' hq_step ?_ ?_ ?_); rotate_left; rfl; (focus (intro w1 H1; exact qVF)); (try simp only [yG, yH, yJ, yK]); simp only [Act.put, yA, yB, yC, yD, yE, yF]))); all_goals (refine wpQuiet_nil ?_; clear H; intro wn H)) | fail)
            go_roundg (n3 - (k + 1))
            case measure => omega
            case rel => exact ⟨k + 1, _, by omega, by go_num, rfl, HT3, H.sel sF⟩
          · obtain rfl : k = n3 := by omega
            have hlk1 : ¬ (k : Int) < k := by omega
            have HT2 : Hid (t = bs (catTo f (i + 1))) := Lib.hid (by rw [HT.out, catTo_succ, HFI.out, List.take_of_length_le (by rw [← HN3.out]; exact Nat.le_refl _)]; simp only [List.append_assoc])
            clear HT
            go_wp2_with (first | ((first | ((with_reducible refine st_gwT ?_ ?_); rfl) | ((with_reducible refine st_gwF ?_ ?_); rfl) | ((with_reducible refine st_gsT ?_ ?_); rfl) | ((with_reducible refine st_gsF ?_ ?_); rfl)); (try simp only [Act.put, yA, yB, yC, yD, yE, yF])) | ((with_reducible refine' st_guard ?_ ?_ ?_); rotate_left; rfl; (all_goals (intro hgd; cases hgd)); (try simp only [Act.put, yA, yB, yC, yD, yE, yF])) | ((with_reducible apply st_want); rfl) | ((with_reducible refine st_skip ?_ ?_); rfl; simp only [Act.put, yA, yB, yC, yD, yE, yF]) | ((first | ((with_reducible apply st_load1 H); decide +kernel; rfl; exact cF) | ((with_reducible apply st_loads H); decide +kernel; rfl; exact iF; exact zF; rfl) | ((with_reducible apply st_store H); rfl; exact eF; (focus (exact cells_agg _)); exact uF; kernel_rfl; (focus (exact Nat.le_of_ble_eq_true (by rfl))); (focus (first | rfl | simp))) | ((with_reducible apply st_storeown H); rfl; exact eF; (focus (exact (rfl : _ = [_]))); exact uF; (focus omega); kernel_rfl; rfl)); clear H; intro wn H; (try simp only [splice, yG, yH, yI, yJ, yK, yL, yM, yN, yO, yP, yQ, Nat.reduceAdd, yA, yB, yC] at H); simp only [Act.put, yA, yB, yC, yD, yE, yF]) | ((first | ((with_reducible apply st_box (dst := some 3) H); exact nF; intro b3) | ((with_reducible apply st_box (dst := some 4) H); exact nF; intro b4) | ((with_reducible apply st_box (dst := some 5) H); exact nF; intro b5) | ((with_reducible apply st_strsum H); rfl; rfl; exact szF; kernel_rfl)); clear H; intro wn H; simp only [Act.put, yA, yB, yC, yD, yE, yF]) | ((with_reducible apply st_loadat H); decide +kernel; rfl; exact aF; exact zF; rfl; clear H; intro wn H; simp only [Act.put, yA, yB, yC, yD, yE, yF]) | ((first | (go_at_call 50; refine gvF (c1 _ H.below) H ?_) | (go_at_call 51; refine gvF (c2 _) H ?_) | (go_at_call 52; refine gvF (c3 _) H ?_) | (go_at_call 53; refine gvF (c5 _ (by assumption) _) H ?_)); clear H; intro wn H) | ((with_reducible apply wp_region_hq (id := 7) H); kernel_rfl; kernel_rfl; (iterate 8 (all_goals ((with_reducible refine' hq_step ?_ ?_ ?_); rotate_left; rfl; (focus (intro w1 H1; first | (first | exact qF | exact qAF | exact qRF) | (unfold QOk; go_simp; exact q_call (c3 _)) | (exact qVF))); (try simp only [yG, yH, yJ, yK]); simp only [Act.put, yA, yB, yC, yD, yE, yF]))); all_goals (refine wpQuiet_nil ?_; clear H; intro wn H)) | ((with_reducible apply wp_region_hq (id := 8) H); kernel_rfl; kernel_rfl; (iterate 3 (all_goals ((with_reducible refine' hq_step ?_ ?_ ?_); rotate_left; rfl; (focus (intro w1 H1; first | (unfold QOk; go_simp; exact q_call (c5 _ (by assumption) _)) | (exact qVF))); (try simp only [yG, yH, yJ, yK]); simp only [Act.put, yA, yB, yC, yD, yE, yF]))); (all_goals ((with_reducible refine' hq_step ?_ ?_ ?_); rotate_left; rfl; (focus (intro w1 H1; first | exact qSF | exact qWF | exact qVF)); (try simp only [yG, yH, yJ, yK]); simp only [Act.put, yA, yB, yC, yD, yE, yF])); (iterate 8 (all_goals ((with_reducible refine' hq_step ?_ ?_ ?_); rotate_left; rfl; (focus (intro w1 H1; first | (first | exact qF | exact qAF | exact qRF) | (unfold QOk; go_simp; exact q_call (c5 _ (by assumption) _)) | (exact qVF))); (try simp only [yG, yH, yJ, yK]); simp only [Act.put, yA, yB, yC, yD, yE, yF]))); (all_goals ((with_reducible refine' hq_step ?_ ?_ ?_); rotate_left; rfl; (focus (intro w1 H1; first | exact qSF | exact qWF | exact qVF)); (try simp only [yG, yH, yJ, yK]); simp only [Act.put, yA, yB, yC, yD, yE, yF])); (iterate 1 (all_goals ((with_reducible refine' hq_step ?_ ?_ ?_); rotate_left; rfl; (focus (intro w1 H1; exact qVF)); (try simp only [yG, yH, yJ, yK]); simp only [Act.put, yA, yB, yC, yD, yE, yF]))); all_goals (refine wpQuiet_nil ?_; clear H; intro wn H)) | ((with_reducible apply wp_region_hq (id := 12) H); kernel_rfl; kernel_rfl; (iterate 12 (all_goals ((with_reducible refine' hq_step ?_ ?_ ?_); rotate_left; rfl; (focus (intro w1 H1; first | (first | exact qF | exact qAF | exact qRF) | (unfold QOk; go_simp; exact q_call (c5 _ (by assumption) _)) | (exact qVF))); (try simp only [yG, yH, yJ, yK]); simp only [Act.put, yA, yB, yC, yD, yE, yF]))); (all_goals ((with_reducible refine' hq_step ?_ ?_ ?_); rotate_left; rfl; (focus (intro w1 H1; first | exact qSF | exact qWF | exact qVF)); (try simp only [yG, yH, yJ, yK]); simp only [Act.put, yA, yB, yC, yD, yE, yF])); (iterate 11 (all_goals ((with_reducible refine' hq_step ?_ ?_ ?_); rotate_left; rfl; (focus (intro w1 H1; first | (first | exact qF | exact qAF | exact qRF) | (unfold QOk; go_simp; exact q_call (c5 _ (by assumption) _)) | (exact qVF))); (try simp only [yG, yH, yJ, yK]); simp only [Act.put, yA, yB, yC, yD, yE, yF]))); (all_goals ((with_reducible refine' hq_step ?_ ?_ ?_); rotate_left; rfl; (focus (intro w1 H1; first | exact qSF | exact qWF | exact qVF)); (try simp only [yG, yH, yJ, yK]); simp only [Act.put, yA, yB, yC, yD, yE, yF])); (iterate 1 (all_goals ((with_reducible refine' hq_step ?_ ?_ ?_); rotate_left; rfl; (focus (intro w1 H1; exact qVF)); (try simp only [yG, yH, yJ, yK]); simp only [Act.put, yA, yB, yC, yD, yE, yF]))); all_goals (refine wpQuiet_nil ?_; clear H; intro wn H)) | fail)
            go_roundg (n - (i + 1))
            case measure => omega
            case rel => exact ⟨i + 1, t, by omega, by go_num, rfl, HT2, H.sel sF⟩
    · obtain rfl : i = n := by omega
      have hlt1 : ¬ (i : Int) < i := by omega
      go_wp2_with (first | ((first | ((with_reducible refine st_gwT ?_ ?_); rfl) | ((with_reducible refine st_gwF ?_ ?_); rfl) | ((with_reducible refine st_gsT ?_ ?_); rfl) | ((with_reducible refine st_gsF ?_ ?_); rfl)); (try simp only [Act.put, yA, yB, yC, yD, yE, yF])) | ((with_reducible refine' st_guard ?_ ?_ ?_); rotate_left; rfl; (all_goals (intro hgd; cases hgd)); (try simp only [Act.put, yA, yB, yC, yD, yE, yF])) | ((with_reducible apply st_want); rfl) | ((with_reducible refine st_skip ?_ ?_); rfl; simp only [Act.put, yA, yB, yC, yD, yE, yF]) | ((first | ((with_reducible apply st_load1 H); decide +kernel; rfl; exact cF) | ((with_reducible apply st_loads H); decide +kernel; rfl; exact iF; exact zF; rfl) | ((with_reducible apply st_store H); rfl; exact eF; (focus (exact cells_agg _)); exact uF; kernel_rfl; (focus (exact Nat.le_of_ble_eq_true (by rfl))); (focus (first | rfl | simp))) | ((with_reducible apply st_storeown H); rfl; exact eF; (focus (exact (rfl : _ = [_]))); exact uF; (focus omega); kernel_rfl; rfl)); clear H; intro wn H; (try simp only [splice, yG, yH, yI, yJ, yK, yL, yM, yN, yO, yP, yQ, Nat.reduceAdd, yA, yB, yC] at H); simp only [Act.put, yA, yB, yC, yD, yE, yF]) | ((first | ((with_reducible apply st_box (dst := some 3) H); exact nF; intro b3) | ((with_reducible apply st_box (dst := some 4) H); exact nF; intro b4) | ((with_reducible apply st_box (dst := some 5) H); exact nF; intro b5) | ((with_reducible apply st_strsum H); rfl; rfl; exact szF; kernel_rfl)); clear H; intro wn H; simp only [Act.put, yA, yB, yC, yD, yE, yF]) | ((with_reducible apply st_loadat H); decide +kernel; rfl; exact aF; exact zF; rfl; clear H; intro wn H; simp only [Act.put, yA, yB, yC, yD, yE, yF]) | ((first | (go_at_call 50; refine gvF (c1 _ H.below) H ?_) | (go_at_call 51; refine gvF (c2 _) H ?_) | (go_at_call 52; refine gvF (c3 _) H ?_) | (go_at_call 53; refine gvF (c5 _ (by assumption) _) H ?_)); clear H; intro wn H) | ((with_reducible apply wp_region_hq (id := 7) H); kernel_rfl; kernel_rfl; (iterate 8 (all_goals ((with_reducible refine' hq_step ?_ ?_ ?_); rotate_left; rfl; (focus (intro w1 H1; first | (first | exact qF | exact qAF | exact qRF) | (unfold QOk; go_simp; exact q_call (c3 _)) | (exact qVF))); (try simp only [yG, yH, yJ, yK]); simp only [Act.put, yA, yB, yC, yD, yE, yF]))); all_goals (refine wpQuiet_nil ?_; clear H; intro wn H)) | ((with_reducible apply wp_region_hq (id := 8) H); kernel_rfl; kernel_rfl; (iterate 3 (all_goals ((with_reducible refine' hq_step ?_ ?_ ?_); rotate_left; rfl; (focus (intro w1 H1; first | (unfold QOk; go_simp; exact q_call (c5 _ (by assumption) _)) | (exact qVF))); (try simp only [yG, yH, yJ, yK]); simp only [Act.put, yA, yB, yC, yD, yE, yF]))); (all_goals ((with_reducible refine' hq_step ?_ ?_ ?_); rotate_left; rfl; (focus (intro w1 H1; first | exact qSF | exact qWF | exact qVF)); (try simp only [yG, yH, yJ, yK]); simp only [Act.put, yA, yB, yC, yD, yE, yF])); (iterate 8 (all_goals ((with_reducible refine' hq_step ?_ ?_ ?_); rotate_left; rfl; (focus (intro w1 H1; first | (first | exact qF | exact qAF | exact qRF) | (unfold QOk; go_simp; exact q_call (c5 _ (by assumption) _)) | (exact qVF))); (try simp only [yG, yH, yJ, yK]); simp only [Act.put, yA, yB, yC, yD, yE, yF]))); (all_goals ((with_reducible refine' hq_step ?_ ?_ ?_); rotate_left; rfl; (focus (intro w1 H1; first | exact qSF | exact qWF | exact qVF)); (try simp only [yG, yH, yJ, yK]); simp only [Act.put, yA, yB, yC, yD, yE, yF])); (iterate 1 (all_goals ((with_reducible refine' hq_step ?_ ?_ ?_); rotate_left; rfl; (focus (intro w1 H1; exact qVF)); (try simp only [yG, yH, yJ, yK]); simp only [Act.put, yA, yB, yC, yD, yE, yF]))); all_goals (refine wpQuiet_nil ?_; clear H; intro wn H)) | ((with_reducible apply wp_region_hq (id := 12) H); kernel_rfl; kernel_rfl; (iterate 12 (all_goals ((with_reducible refine' hq_step ?_ ?_ ?_); rotate_left; rfl; (focus (intro w1 H1; first | (first | exact qF | exact qAF | exact qRF) | (unfold QOk; go_simp; exact q_call (c5 _ (by assumption) _)) | (exact qVF))); (try simp only [yG, yH, yJ, yK]); simp only [Act.put, yA, yB, yC, yD, yE, yF]))); (all_goals ((with_reducible refine' hq_step ?_ ?_ ?_); rotate_left; rfl; (focus (intro w1 H1; first | exact qSF | exact qWF | exact qVF)); (try simp only [yG, yH, yJ, yK]); simp only [Act.put, yA, yB, yC, yD, yE, yF])); (iterate 11 (all_goals ((with_reducible refine' hq_step ?_ ?_ ?_); rotate_left; rfl; (focus (intro w1 H1; first | (first | exact qF | exact qAF | exact qRF) | (unfold QOk; go_simp; exact q_call (c5 _ (by assumption) _)) | (exact qVF))); (try simp only [yG, yH, yJ, yK]); simp only [Act.put, yA, yB, yC, yD, yE, yF]))); (all_goals ((with_reducible refine' hq_step ?_ ?_ ?_); rotate_left; rfl; (focus (intro w1 H1; first | exact qSF | exact qWF | exact qVF)); (try simp only [yG, yH, yJ, yK]); simp only [Act.put, yA, yB, yC, yD, yE, yF])); (iterate 1 (all_goals ((with_reducible refine' hq_step ?_ ?_ ?_); rotate_left; rfl; (focus (intro w1 H1; exact qVF)); (try simp only [yG, yH, yJ, yK]); simp only [Act.put, yA, yB, yC, yD, yE, yF]))); all_goals (refine wpQuiet_nil ?_; clear H; intro wn H)) | fail)
      go_ret
      exact ⟨by rw [HZ.out, HT.out]; rfl, H.below⟩
end Go.Proofs.YtengmmffommafaaGreat
