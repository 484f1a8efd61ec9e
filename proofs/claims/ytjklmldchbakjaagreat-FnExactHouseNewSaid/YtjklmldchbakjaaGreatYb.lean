/-
  New nodes, new mail, in the program and in the reference: the walks.
-/
import Derived.Test.YtjklmldchbakjaaGreatYa
import Derived.Test.YtjklmldchbakjaaGreatSh
import Derived.Laws.IdiomCopy
import Derived.Laws.CopyRow
set_option linter.unusedSimpArgs false
set_option linter.unusedVariables false
namespace Go.Proofs.YtjklmldchbakjaaGreat
open Go.RowKit M

/-! ### zeros, and pieces that need no memory -/
theorem made_rep (c : Array Value) (h : 0 < c.size) : ∀ n, (madeCells c (n * c.size)).toList = (List.replicate n c.toList).flatten
  | 0 => by simp [madeCells]
  | n + 1 => by
    rw [List.replicate_succ, List.flatten_cons, ← made_rep c h n]
    unfold madeCells
    simp only [Array.toList_map, Array.toList_range]
    rw [show (n + 1) * c.size = c.size + n * c.size by rw [Nat.succ_mul]; omega, List.range_add, List.map_append, List.map_map]
    congr 1
    · apply List.ext_getElem?
      intro j
      by_cases hj : j < c.size
      · simp [hj, Nat.mod_eq_of_lt hj]
      · rw [List.getElem?_eq_none (by simp; omega), List.getElem?_eq_none (by simp; omega)]
    · apply List.map_congr_left
      intro j _
      simp [Nat.add_mod_left]
def Free (K : List Hl) : Prop := ∀ (R : Nat → Prop) (w0 : World) (L : List Hl) (w : World), Hs R w0 L w → Hs R w0 (K ++ L) w
theorem Free.nil : Free [] := fun _ _ _ _ h => h
theorem Free.row {K : List Hl} (E : TypeId) (s : Nat) (A : Option Addr) (h : Free K) : Free (Hl.row E s (.slice A 0 0) 0 [] :: K) := fun R w0 L w H => (h R w0 L w H).putRow E s A
theorem Free.app {K K' : List Hl} (h : Free K) (h' : Free K') : Free (K ++ K') := fun R w0 L w H => by rw [List.append_assoc]; exact h _ _ _ _ (h' _ _ _ _ H)
theorem Free.rep {K : List Hl} (h : Free K) : ∀ n, Free (List.replicate n K).flatten
  | 0 => Free.nil
  | n + 1 => by rw [List.replicate_succ, List.flatten_cons]; exact h.app (Free.rep h n)
theorem own_rep {α : Type} {T : Ty α} {cs : List Value} {a : α} {K : List Hl} (h : T.own cs a K) : ∀ n, OwnL T (List.replicate n cs).flatten (List.replicate n a) (List.replicate n K).flatten
  | 0 => .nil
  | n + 1 => by
    rw [List.replicate_succ, List.replicate_succ, List.replicate_succ, List.flatten_cons, List.flatten_cons]
    exact .cons h (own_rep h n)
theorem own_none {α : Type} {T : Ty α} (E : TypeId) : (Ty.sl E T).own [.slice none 0 0] [] [Hl.row E T.s (.slice none 0 0) 0 []] := ⟨_, [], [], rfl, .nil, rfl, rfl⟩
namespace M
def newNd : Nd := (1, [])
def newBo : Bo := ([], [], [])
end M
def cellNd : List Value := [.int .i64 1, .slice none 0 0]
def cellBo : List Value := [.slice none 0 0, .slice none 0 0, .slice none 0 0]
def rowNd : List Hl := [Hl.row 195 2 (.slice none 0 0) 0 []]
theorem own_newNd : tyNd.own cellNd newNd rowNd := ⟨[.int .i64 1], [.slice none 0 0], [], _, rfl, rfl, ⟨rfl, rfl⟩, own_none _⟩
theorem free_Nd : Free rowNd := Free.nil.row _ _ _
def rowBo : List Hl := [Hl.row 2 1 (.slice none 0 0) 0 [], Hl.row 2 1 (.slice none 0 0) 0 [], Hl.row 198 2 (.slice none 0 0) 0 []]
theorem own_newBo : tyBo.own cellBo newBo rowBo := ⟨[_], [_, _], [_], [_, _], rfl, rfl, own_none _, [_], [_], [_], [_], rfl, rfl, own_none _, own_none _⟩
theorem free_Bo : Free rowBo := ((Free.nil.row _ _ _).row _ _ _).row _ _ _
/-- a row of equal elements, their memory laid beside it -/
theorem rep_row {α : Type} {T : Ty α} {R : Nat → Prop} {w0 w : World} {L : List Hl} {E : TypeId} {v : Value} {n s : Nat} {cs : List Value} {a : α} {K : List Hl} (H : Hs R w0 (Hl.row E s v n (List.replicate n cs).flatten :: L) w) (h : T.own cs a K) (hK : Free K) (hs : s = T.s := by rfl) :
    ∃ N, (Ty.sl E T).own [v] (List.replicate n a) N ∧ Hs R w0 (Hl.all N :: L) w := by
  have H1 := (hK.rep n) _ _ _ _ H
  have H2 : Hs R w0 (Hl.all (List.replicate n K).flatten :: Hl.row E s v n (List.replicate n cs).flatten :: L) w := H1.pack
  exact own_close (own_rep h n) H2.up1 (by simp) hs

/-! ### copy within a row -/
theorem run_copyrow {P : Program} {dT sT ty E : TypeId} {w : World} {g off s n c dLen dCap sLen sCap : Nat} {ad : Addr} {xs vs : List Value} (ho : rowOk w E s (.slice (some ⟨g, 0, none⟩) n c) n xs)
    (hu : P.underlying dT = some (.slice E)) (hs : (P.info? E).map (·.size) = some s) (hn : vs.length = Nat.min sLen dLen * s) (hsrc : ∀ j v, vs[j]? = some v → w.cell? (ad.add j) = some v)
    (hp : 0 < vs.length) (hl : off + vs.length ≤ xs.length) (h1 : ∀ v ∈ vs, v.oneCell' = true) :
    ∃ w', (Builtin.copy_ #[dT, sT] ty #[.slice (some ⟨g, off, none⟩) dLen dCap, .slice (some ad) sLen sCap]).run P w = .ok (goInt (Nat.min sLen dLen)) w' ∧ rowOk w' E s (.slice (some ⟨g, 0, none⟩) n c) n (spl xs off vs) ∧ Grow (fun b => rowBlock (.slice (some ⟨g, 0, none⟩) n c) = some b) w w' := by
  rcases ho with ⟨_, rfl, _⟩ | ⟨g', c', hv', ho⟩
  · rw [List.length_nil] at hl; omega
  · injection hv' with e1 _ e3
    injection e1 with e1; injection e1 with e1 _ _
    subst e1 e3
    rcases ho.2 with ⟨h, _⟩ | ⟨g2, cap, cur, hv2, hb, hg, hnc, hcm, hcs, htake⟩
    · cases h
    · injection hv2 with e1 _ e3
      injection e1 with e1; injection e1 with e1 _ _
      subst e1 e3
      have hle : n * s ≤ cur.size := by rw [hcs]; exact Nat.mul_le_mul_right _ hnc
      have hll := run_loadCells_list (P := P) w ad vs hsrc
      have hst := run_storeCells_at P g off E vs 0 cur w hg (by have := ho.1; omega) h1
      have hr : (Builtin.copy_ #[dT, sT] ty #[.slice (some ⟨g, off, none⟩) dLen dCap, .slice (some ad) sLen sCap]).run P w = .ok (goInt (Nat.min sLen dLen)) (w.setRow g (splice cur off vs)) := by
        cases hq : P.info? E with
        | none => simp [hq] at hs
        | some i =>
          have hi : i.size = s := by simpa [hq] using hs
          rw [hn] at hll
          simp [Builtin.copy_, run_underlying hu, Builtin.lenOf, Builtin.firstCells, sizeOf, typeInfo, hq, hi, hll, hst, splice]
      have hlen : (spl xs off vs).length = n * s := by unfold spl; simp only [List.length_append, List.length_take, List.length_drop]; have := ho.1; omega
      refine ⟨_, hr, .inr ⟨g, c', rfl, hlen, .inr ⟨g, c' + 1, _, rfl, hb, setRow_heap w g cur _ E _ hg, hnc, hcm, ?_, splice_take htake ho.1 (by have := ho.1; omega)⟩⟩, (Grow.setRow w g _).mono (fun b hb => by subst hb; rfl)⟩
      unfold splice
      simp only [List.size_toArray, List.length_append, List.length_take, List.length_drop, Array.length_toList]
      have := ho.1
      omega
theorem st_copyrow {P : Program} {R : Nat → Prop} {w0 w : World} {L M : List Hl} {a : Act} {ops : Array Oper} {Q : Exit → Act → World → Prop} {rest : List Oper} {dT sT E ty : TypeId} {x y : Operand} {pos : String} {aft : Array Edge} {dst : Option Tmp}
    {g off s n c dLen dCap sLen sCap m : Nat} {ad : Addr} {xs vs : List Value} (H : Hs R w0 L w) (hx : a.eval x = .slice (some ⟨g, off, none⟩) dLen dCap) (hy : a.eval y = .slice (some ad) sLen sCap)
    (up : Upd (Hl.row E s (.slice (some ⟨g, 0, none⟩) n c) n xs) (Hl.row E s (.slice (some ⟨g, 0, none⟩) n c) n (spl xs off vs)) L M)
    (hu : P.underlying dT = some (.slice E)) (hs : (P.info? E).map (·.size) = some s) (hm : Nat.min sLen dLen = m) (hn : vs.length = m * s) (hsrc : ∀ j v, vs[j]? = some v → w.cell? (ad.add j) = some v)
    (hp : 0 < vs.length) (hl : off + vs.length ≤ xs.length) (h1 : ∀ v ∈ vs, v.oneCell' = true)
    (k : ∀ w', Hs R w0 M w' → wpList P ops Q rest (a.put dst (.int .i64 (m : Int))) w') : wpList P ops Q (⟨dst, .call ⟨.builtin .copy, #[x, y], #[dT, sT]⟩, ty, pos, aft, none⟩ :: rest) a w := by
  refine wpList_plain rfl fun K hK => ?_
  subst hm
  obtain ⟨w', hr, ho, hg⟩ := run_copyrow (P := P) (sT := sT) (ty := ty) (dCap := dCap) (sCap := sCap) (H.rows up.inL) hu hs hn hsrc hp hl h1
  unfold Oper.wp execOp
  simp only [resolve, invoke, builtin, Sem.run_bind, Sem.run_pure, Result.andThen_ok, List.map_toArray, List.map_cons, List.map_nil, hx, hy, hr]
  exact hK _ _ (k _ (H.turn up hg ho (fun b hb => .inl hb)))
def tCopy (m : Nat) (h : Hl) : Value → List Hl → Prop := fun v M => v = .int .i64 (m : Int) ∧ M = [h]
theorem copy_W {P : Program} {R : Nat → Prop} {w0 w : World} {N : List Hl} {a : Act} {dT sT E ty : TypeId} {x y : Operand} {pos : String} {aft : Array Edge} {dst : Option Tmp} {gd : Option (Nat × Bool)}
    {g off s n c dLen dCap sLen sCap m : Nat} {ad : Addr} {xs vs : List Value} (H : Hs R w0 (Hl.row E s (.slice (some ⟨g, 0, none⟩) n c) n xs :: N) w) (hx : a.eval x = .slice (some ⟨g, off, none⟩) dLen dCap) (hy : a.eval y = .slice (some ad) sLen sCap)
    (hu : P.underlying dT = some (.slice E)) (hs : (P.info? E).map (·.size) = some s) (hm : Nat.min sLen dLen = m) (hn : vs.length = m * s) (hsrc : ∀ j v, vs[j]? = some v → w.cell? (ad.add j) = some v)
    (hp : 0 < vs.length) (hl : off + vs.length ≤ xs.length) (h1 : ∀ v ∈ vs, v.oneCell' = true) :
    ∃ v' M w', (execOp a.eval ⟨dst, .call ⟨.builtin .copy, #[x, y], #[dT, sT]⟩, ty, pos, aft, gd⟩).run P w = .ok (.value v') w' ∧ tCopy m (Hl.row E s (.slice (some ⟨g, 0, none⟩) n c) n (spl xs off vs)) v' M ∧ Hs R w0 (M ++ N) w' := by
  subst hm
  obtain ⟨w', hr, ho, hg⟩ := run_copyrow (P := P) (sT := sT) (ty := ty) (dCap := dCap) (sCap := sCap) (H.ok _ (List.mem_cons_self ..)) hu hs hn hsrc hp hl h1
  refine ⟨_, [_], w', ?_, ⟨rfl, rfl⟩, H.turn Upd.here hg ho (fun b hb => .inl hb)⟩
  unfold execOp
  simp only [resolve, invoke, builtin, Sem.run_bind, Sem.run_pure, Result.andThen_ok, List.map_toArray, List.map_cons, List.map_nil, hx, hy, hr]
  rfl
theorem rep_len (cs : List Value) (n : Nat) : (List.replicate n cs).flatten.length = n * cs.length := by
  induction n with
  | zero => simp
  | succ n ih => rw [List.replicate_succ, List.flatten_cons, List.length_append, ih, Nat.succ_mul]; omega
theorem rep_add (cs : List Value) (m n : Nat) : (List.replicate (m + n) cs).flatten = (List.replicate m cs).flatten ++ (List.replicate n cs).flatten := by
  rw [← List.replicate_append_replicate, List.flatten_append]
theorem rep_ones {cs : List Value} (h : ∀ v ∈ cs, v.oneCell' = true) (n : Nat) : ∀ v ∈ (List.replicate n cs).flatten, v.oneCell' = true := by
  intro v hv
  obtain ⟨l, hl, hv⟩ := List.mem_flatten.1 hv
  rw [List.eq_of_mem_replicate hl] at hv
  exact h v hv
theorem mul_one_l (n : Nat) (h : n ≤ 6) (w : World) : Gives Tryz.prog 119 #[.int .u64 1, .int .u64 n] w (.tuple #[.int .u64 0, .int .u64 n]) := by
  unfold Gives
  refine (Tryz.bits_Mul 1 n (by decide) (by omega) w).mono ?_
  rintro e w' ⟨rfl, rfl⟩
  refine ⟨?_, Below.refl _ _⟩
  rw [Nat.one_mul, Nat.div_eq_of_lt (by omega), Nat.mod_eq_of_lt (by omega)]
  rfl
set_option maxRecDepth 100000 in
set_option maxHeartbeats 4000000 in
theorem repeat_Nd (v : Value) (cs : List Value) (h1 : ∀ u ∈ cs, u.oneCell' = true) (n : Nat) (hn0 : 0 < n) (hn6 : n ≤ 6) (w : World) (hr : Rd w 2 v 1 cs) :
    Rets Tryz.prog [] 85 #[v, .int .i64 n] w (tRow 126 2 n (List.replicate n cs).flatten) := by
  have hlen := hr.1
  obtain ⟨A, c, rfl, hc1, hcm, hf⟩ := hr.form
  obtain ⟨xb, xo, rfl, hcell⟩ := hf (by omega)
  have f1 : ¬ (n : Int) < 0 := by omega
  have f2 : ¬ (9223372036854775807 : Int) < n := by omega
  have H := Hs.start noRow w
  refine Rets.of ?_
  go_enter Tryz.func85, Tryz.ntmps85
  go_wp2_with (first | ((with_reducible apply st_copyrow (E := 126) (s := 2) (m := 1) (vs := cs) H); rfl; rfl; exact uF; (focus exact Tryz.underlying33); decide +kernel; (focus exact Nat.min_eq_left hn0); exact hlen; (focus (intro j u hu; rw [Addr.add_mid]; exact H.oldN (hcell j u hu))); (focus omega); (focus omega); exact h1; clear H; intro wn H; simp only [Act.put, yA, yB, yC, yD, yE, yF]) | ((first | ((with_reducible refine st_gwT ?_ ?_); rfl) | ((with_reducible refine st_gwF ?_ ?_); rfl) | ((with_reducible refine st_gsT ?_ ?_); rfl) | ((with_reducible refine st_gsF ?_ ?_); rfl)); (try simp only [Act.put, yA, yB, yC, yD, yE, yF])) | ((with_reducible refine' st_guard ?_ ?_ ?_); rotate_left; rfl; (all_goals (intro hgd; cases hgd)); (try simp only [Act.put, yA, yB, yC, yD, yE, yF])) | ((with_reducible apply st_want); rfl) | ((with_reducible refine st_skip ?_ ?_); rfl; simp only [Act.put, yA, yB, yC, yD, yE, yF]) | ((first | ((with_reducible apply st_load1 H); decide +kernel; rfl; exact cF) | ((with_reducible apply st_loads H); decide +kernel; rfl; exact iF; exact zF; rfl)); clear H; intro wn H; (try simp only [splice, yG, yH, yI, yJ, yK, yL, yM, yN, yO, yP, yQ, Nat.reduceAdd, yA, yB, yC] at H); simp only [Act.put, yA, yB, yC, yD, yE, yF]) | ((first | ((with_reducible apply st_strsum H); rfl; rfl; exact szF; kernel_rfl) | ((with_reducible apply st_conv1 H); rfl; exact iF; (focus omega); (focus omega); kernel_rfl; kernel_rfl; kernel_rfl)); clear H; intro wn H; simp only [Act.put, yA, yB, yC, yD, yE, yF]) | ((first | (go_at_call 119; refine gvF (mul_one_l n hn6 _) H ?_)); clear H; intro wn H) | ((with_reducible apply st_makerow (E := 126) (s := 2) H); rfl; rfl; decide +kernel; (focus omega); clear H; intro g zs wn hz0 hz1 H; simp only [Act.put, yA, yB, yC, yD, yE, yF]) | fail)
  have hspl : spl zs 0 cs = (List.replicate 1 cs).flatten ++ zs.drop 2 := by
    have h := spl_mid [] (zs.take 2) (zs.drop 2) cs (off := 0) rfl (by rw [List.length_take, hlen]; omega)
    rw [List.nil_append, List.take_append_drop] at h
    rw [h]
    simp
  rw [hspl] at H
  clear hf hr hz1 hcell hspl f1 f2
  go_loopg [8] (n - 1) (fun m cv wr => ∃ (k : Nat) (ys : List Value), k + m = n ∧ 0 < k ∧ cv = .int .i64 k ∧ ys.length = m * 2 ∧ Hs noRow w [Hl.row 126 2 (.slice (some ⟨g, 0, none⟩) n n) n ((List.replicate k cs).flatten ++ ys)] wr)
  case atStart => exact ⟨1, zs.drop 2, by omega, by omega, by go_num, by rw [List.length_drop, hz0]; omega, H.sel sF⟩
  case round =>
    clear H
    obtain ⟨k, ys, hk, hk0, rfl, hys, H⟩ := hrel
    have hrl := rep_len cs k
    by_cases hlt : k < n
    · obtain ⟨m, hm⟩ : ∃ m, m = Nat.min k (n - k) := ⟨_, rfl⟩
      have hm1 : 0 < m := by rw [hm]; simp [Nat.min_def]; split <;> omega
      have hmk : m ≤ k := by rw [hm]; exact Nat.min_le_left _ _
      have hmn : m ≤ n - k := by rw [hm]; exact Nat.min_le_right _ _
      have hlt1 : (k : Int) < n := by omega
      have hlt2 : (k : Int) ≤ n := by omega
      have hlt3 : k ≤ n := by omega
      have hvl := rep_len cs m
      have hspl : spl ((List.replicate k cs).flatten ++ ys) (k * 2) (List.replicate m cs).flatten = (List.replicate (k + m) cs).flatten ++ ys.drop (m * 2) := by
        have h := spl_mid (List.replicate k cs).flatten (ys.take (m * 2)) (ys.drop (m * 2)) (List.replicate m cs).flatten (off := k * 2) (by rw [hrl, hlen]) (by rw [List.length_take, hvl, hlen]; omega)
        rw [List.take_append_drop] at h
        rw [h, rep_add, List.append_assoc]
      have hseg : ∀ j u, (List.replicate m cs).flatten[j]? = some u → ((List.replicate k cs).flatten ++ ys)[j]? = some u := fun j u hu => by
        have e : (List.replicate k cs).flatten = (List.replicate m cs).flatten ++ (List.replicate (k - m) cs).flatten := by rw [← rep_add]; congr 2; omega
        have hj := (List.getElem?_eq_some_iff.1 hu).1
        rw [e, List.append_assoc, List.getElem?_append_left hj]
        exact hu
      go_wp2_with (first | ((with_reducible apply st_copyrow (E := 126) (s := 2) (m := 1) (vs := cs) H); rfl; rfl; exact uF; (focus exact Tryz.underlying33); decide +kernel; (focus exact Nat.min_eq_left hn0); exact hlen; (focus (intro j u hu; rw [Addr.add_mid]; exact H.oldN (hcell j u hu))); (focus omega); (focus omega); exact h1; clear H; intro wn H; simp only [Act.put, yA, yB, yC, yD, yE, yF]) | ((first | ((with_reducible refine st_gwT ?_ ?_); rfl) | ((with_reducible refine st_gwF ?_ ?_); rfl) | ((with_reducible refine st_gsT ?_ ?_); rfl) | ((with_reducible refine st_gsF ?_ ?_); rfl)); (try simp only [Act.put, yA, yB, yC, yD, yE, yF])) | ((with_reducible refine' st_guard ?_ ?_ ?_); rotate_left; rfl; (all_goals (intro hgd; cases hgd)); (try simp only [Act.put, yA, yB, yC, yD, yE, yF])) | ((with_reducible apply st_want); rfl) | ((with_reducible refine st_skip ?_ ?_); rfl; simp only [Act.put, yA, yB, yC, yD, yE, yF]) | ((first | ((with_reducible apply st_load1 H); decide +kernel; rfl; exact cF) | ((with_reducible apply st_loads H); decide +kernel; rfl; exact iF; exact zF; rfl)); clear H; intro wn H; (try simp only [splice, yG, yH, yI, yJ, yK, yL, yM, yN, yO, yP, yQ, Nat.reduceAdd, yA, yB, yC] at H); simp only [Act.put, yA, yB, yC, yD, yE, yF]) | ((first | ((with_reducible apply st_strsum H); rfl; rfl; exact szF; kernel_rfl) | ((with_reducible apply st_conv1 H); rfl; exact iF; (focus omega); (focus omega); kernel_rfl; kernel_rfl; kernel_rfl)); clear H; intro wn H; simp only [Act.put, yA, yB, yC, yD, yE, yF]) | ((first | (go_at_call 119; refine gvF (mul_one_l n hn6 _) H ?_)); clear H; intro wn H) | ((with_reducible apply st_makerow (E := 126) (s := 2) H); rfl; rfl; decide +kernel; (focus omega); clear H; intro g zs wn hz0 hz1 H; simp only [Act.put, yA, yB, yC, yD, yE, yF]) | fail)
      have Hn := H.tk (Tk.cons (k := (Hl.row 126 2 (.slice (some ⟨g, 0, none⟩) n n) n ((List.replicate k cs).flatten ++ ys))) dF (Tk.nil)); clear H; have H := Hn; clear Hn; apply wp_region_hs (K := []) (Spec.V _ :: Spec.V _ :: Spec.V _ :: Spec.V _ :: Spec.V _ :: Spec.V _ :: Spec.V _ :: Spec.W ((Hl.row 126 2 (.slice (some ⟨g, 0, none⟩) n n) n ((List.replicate k cs).flatten ++ ys))) _ :: Spec.V _ :: []) 9 H rfl (by simp) (by kernel_rfl) (by kernel_rfl); intro vs Ls; (iterate 7 ((with_reducible apply wpH_V); (focus rfl); (focus rfl); (focus (intro w1 H1; exact oF)); simp only [Act.put, yA, yB, yC, yD, yE, yF]; (try simp only [yG, yH, yJ, yK]))); (with_reducible apply wpH_W); (focus rfl); (focus rfl); (focus (intro hok N w1 H1 H2; exact copy_W (m := m) (vs := (List.replicate m cs).flatten) H1 rfl rfl Tryz.underlying33 (by decide +kernel) hm.symm (by rw [hvl, hlen]) (fun j u hu => by rw [Addr.add_mid, Nat.zero_add]; exact H1.rowCell .here (hseg j u hu)) (by rw [hvl, hlen]; omega) (by rw [hvl, List.length_append, hrl, hlen, hys]; omega) (rep_ones h1 m))); simp only [Act.put, yA, yB, yC, yD, yE, yF]; (with_reducible apply wpH_VK); (focus rfl); (focus rfl); (focus (intro hk w1 H1; have q7 := okW (hk 7 (by decide +kernel) (by decide)) rfl; obtain ⟨e7', _⟩ := q7; unfold OpOk; (try simp only [e7']); go_simp; (try rw [wrap_id (by omega) (by omega)]); exact now_v)); simp only [Act.put, yA, yB, yC, yD, yE, yF]; refine wpH_0 ?_; intro hok wn Hn; (try simp only [yT, yU, yV, yW] at Hn); clear H; have H := Hn; clear Hn; have ht7 := okW (hok 7 (by decide)) rfl; clear hok; obtain ⟨e7, l7⟩ := ht7; simp only [e7, l7, yT, yU, yV] at H ⊢; clear e7 l7; (try simp only [cells_agg, cellI, cellS, cellB] at H); (try simp only [splice, yG, yH, yI, yJ, yK, yL, yM, yN, yO, yP, yQ, Nat.reduceAdd, yA, yB, yC] at H); rotate_left; (focus (refine locs ?_; intro vs1 vs2; (iterate 9 (refine all_lt_succ ?_ (by first | exact (fun _ => rfl) | exact (fun _ => ⟨rfl, rfl⟩) | (intro h; simp only [spec, Spec.same, yR, yS, Option.getD_some]; (try rw [h 7 (by decide +kernel)]); (first | done | exact ⟨rfl, rfl⟩ | exact ⟨trivial, rfl⟩ | exact ⟨rfl, trivial⟩))))); exact (fun k hk => absurd hk (Nat.not_lt_zero k))))
      rw [hspl] at H
      clear hspl hseg hvl hrl
      go_wp2_with (first | ((with_reducible apply st_copyrow (E := 126) (s := 2) (m := 1) (vs := cs) H); rfl; rfl; exact uF; (focus exact Tryz.underlying33); decide +kernel; (focus exact Nat.min_eq_left hn0); exact hlen; (focus (intro j u hu; rw [Addr.add_mid]; exact H.oldN (hcell j u hu))); (focus omega); (focus omega); exact h1; clear H; intro wn H; simp only [Act.put, yA, yB, yC, yD, yE, yF]) | ((first | ((with_reducible refine st_gwT ?_ ?_); rfl) | ((with_reducible refine st_gwF ?_ ?_); rfl) | ((with_reducible refine st_gsT ?_ ?_); rfl) | ((with_reducible refine st_gsF ?_ ?_); rfl)); (try simp only [Act.put, yA, yB, yC, yD, yE, yF])) | ((with_reducible refine' st_guard ?_ ?_ ?_); rotate_left; rfl; (all_goals (intro hgd; cases hgd)); (try simp only [Act.put, yA, yB, yC, yD, yE, yF])) | ((with_reducible apply st_want); rfl) | ((with_reducible refine st_skip ?_ ?_); rfl; simp only [Act.put, yA, yB, yC, yD, yE, yF]) | ((first | ((with_reducible apply st_load1 H); decide +kernel; rfl; exact cF) | ((with_reducible apply st_loads H); decide +kernel; rfl; exact iF; exact zF; rfl)); clear H; intro wn H; (try simp only [splice, yG, yH, yI, yJ, yK, yL, yM, yN, yO, yP, yQ, Nat.reduceAdd, yA, yB, yC] at H); simp only [Act.put, yA, yB, yC, yD, yE, yF]) | ((first | ((with_reducible apply st_strsum H); rfl; rfl; exact szF; kernel_rfl) | ((with_reducible apply st_conv1 H); rfl; exact iF; (focus omega); (focus omega); kernel_rfl; kernel_rfl; kernel_rfl)); clear H; intro wn H; simp only [Act.put, yA, yB, yC, yD, yE, yF]) | ((first | (go_at_call 119; refine gvF (mul_one_l n hn6 _) H ?_)); clear H; intro wn H) | ((with_reducible apply st_makerow (E := 126) (s := 2) H); rfl; rfl; decide +kernel; (focus omega); clear H; intro g zs wn hz0 hz1 H; simp only [Act.put, yA, yB, yC, yD, yE, yF]) | fail)
      go_roundg (n - (k + m))
      case measure => omega
      case rel => exact ⟨k + m, ys.drop (m * 2), by omega, by omega, by go_num, by rw [List.length_drop, hys]; omega, H.sel sF⟩
    · obtain rfl : k = n := by omega
      have hlt1 : ¬ (k : Int) < k := by omega
      obtain rfl : gk = 0 := by omega
      obtain rfl : ys = [] := List.eq_nil_of_length_eq_zero (by omega)
      rw [List.append_nil] at H
      go_wp2_with (first | ((with_reducible apply st_copyrow (E := 126) (s := 2) (m := 1) (vs := cs) H); rfl; rfl; exact uF; (focus exact Tryz.underlying33); decide +kernel; (focus exact Nat.min_eq_left hn0); exact hlen; (focus (intro j u hu; rw [Addr.add_mid]; exact H.oldN (hcell j u hu))); (focus omega); (focus omega); exact h1; clear H; intro wn H; simp only [Act.put, yA, yB, yC, yD, yE, yF]) | ((first | ((with_reducible refine st_gwT ?_ ?_); rfl) | ((with_reducible refine st_gwF ?_ ?_); rfl) | ((with_reducible refine st_gsT ?_ ?_); rfl) | ((with_reducible refine st_gsF ?_ ?_); rfl)); (try simp only [Act.put, yA, yB, yC, yD, yE, yF])) | ((with_reducible refine' st_guard ?_ ?_ ?_); rotate_left; rfl; (all_goals (intro hgd; cases hgd)); (try simp only [Act.put, yA, yB, yC, yD, yE, yF])) | ((with_reducible apply st_want); rfl) | ((with_reducible refine st_skip ?_ ?_); rfl; simp only [Act.put, yA, yB, yC, yD, yE, yF]) | ((first | ((with_reducible apply st_load1 H); decide +kernel; rfl; exact cF) | ((with_reducible apply st_loads H); decide +kernel; rfl; exact iF; exact zF; rfl)); clear H; intro wn H; (try simp only [splice, yG, yH, yI, yJ, yK, yL, yM, yN, yO, yP, yQ, Nat.reduceAdd, yA, yB, yC] at H); simp only [Act.put, yA, yB, yC, yD, yE, yF]) | ((first | ((with_reducible apply st_strsum H); rfl; rfl; exact szF; kernel_rfl) | ((with_reducible apply st_conv1 H); rfl; exact iF; (focus omega); (focus omega); kernel_rfl; kernel_rfl; kernel_rfl)); clear H; intro wn H; simp only [Act.put, yA, yB, yC, yD, yE, yF]) | ((first | (go_at_call 119; refine gvF (mul_one_l n hn6 _) H ?_)); clear H; intro wn H) | ((with_reducible apply st_makerow (E := 126) (s := 2) H); rfl; rfl; decide +kernel; (focus omega); clear H; intro g zs wn hz0 hz1 H; simp only [Act.put, yA, yB, yC, yD, yE, yF]) | fail)
      go_ret
      exact Hs.retd H (List.Sublist.refl _) ⟨_, _, rfl, rfl⟩
end Go.Proofs.YtjklmldchbakjaaGreat
