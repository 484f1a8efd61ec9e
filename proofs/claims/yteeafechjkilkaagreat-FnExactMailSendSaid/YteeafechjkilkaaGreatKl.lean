/-
  Slices cloned, mail copied: the walks.
-/
import Derived.Test.YteeafechjkilkaaGreatCg
set_option linter.unusedSimpArgs false
set_option linter.unusedVariables false
namespace Go.Proofs.YteeafechjkilkaaGreat
open Go.RowKit M
/-- the result of a slice -/
def tSli {α : Type} (T : Ty (List α)) (l : List α) : Value → List Hl → Prop := fun v M => ∃ A c N, v = .slice A l.length c ∧ T.own [.slice A l.length c] l N ∧ M = [Hl.all N]
theorem tSli.form {α : Type} {T : Ty (List α)} {l : List α} {v : Value} {M : List Hl} (h : tSli T l v M) : ∃ A n c, v = .slice A n c := by
  obtain ⟨A, c, _, e, _⟩ := h
  exact ⟨A, _, c, e⟩
/-- a walk's end: a row of structs that hold no memory -/
theorem ret_flatS {α : Type} {s s' n : Nat} {enc : α → List Value} {hl : ∀ a, (enc a).length = s} {h1 : ∀ a, ∀ u ∈ enc a, u.oneCell' = true} {E : TypeId} {w w' : World} {v : Value} {xs : List Value} {l : List α} {L : List Hl} (H : Hs noRow w (Hl.row E s' v n xs :: L) w') (hx : xs = flat enc l) (hn : n = l.length) (hs : s' = s := by rfl) :
    RPost [] w (tSli (Ty.sl E (Ty.flat s enc hl h1)) l) (.returned v) w' := by
  obtain ⟨A, c, e, _, _⟩ := (H.rows .here).slice
  subst hn e
  obtain ⟨v', M, e, ⟨N, k1, k2, _⟩, hk⟩ := ret_flat (hl := hl) (h1 := h1) H hx rfl hs
  injection e with e
  subst e
  exact ⟨_, M, rfl, ⟨A, c, N, rfl, k1, k2⟩, hk⟩
theorem rd_none {α : Type} {T : Ty α} {E : TypeId} {w : World} {n c : Nat} {l : List α} (h : (Ty.sl E T).rd w [.slice none n c] l) : l = [] := by
  obtain ⟨v, xs, e, hr, hL⟩ := h
  injection e with e; subst e
  obtain ⟨A', c', hv, hn, hc, hf⟩ := hr.form
  injection hv with h1 h2 h3
  subst h1 h2 h3
  by_cases h0 : 0 < l.length
  · obtain ⟨b, off, hA, _⟩ := hf h0
    cases hA
  · exact List.eq_nil_of_length_eq_zero (by omega)
theorem run_nilS {P : Program} {T t : TypeId} (hT : P.underlying T = some (.slice t)) (A : Option Addr) (n c : Nat) (w : World) : (binOp .eql T (.slice A n c) (.slice none 0 0)).run P w = .ok (.bool A.isNone) w := by
  have hu := run_underlying hT
  show (do pure (Value.bool (← Op.equal T (.slice A n c) (.slice none 0 0))) : Sem Value).run P w = _
  unfold Op.equal Op.maxDepth
  rw [Op.equalIn]
  cases A <;> (simp only [Sem.run_bind, hu, Result.andThen_ok, Sem.run_pure]) <;> rfl
section
variable {P : Program} {R : Nat → Prop} {w0 w : World} {L : List Hl} {a : Act} {ops : Array Oper} {Q : Exit → Act → World → Prop} {rest : List Oper} {dst : Option Tmp} {ty T t : TypeId} {x y : Operand} {pos : String} {aft : Array Edge} {A : Option Addr} {p : Addr} {n c : Nat}
theorem st_nilS (H : Hs R w0 L w) (hx : a.eval x = .slice A n c) (hy : a.eval y = .slice none 0 0) (hT : P.underlying T = some (.slice t)) (k : ∀ w', Hs R w0 L w' → wpList P ops Q rest (a.put dst (.bool A.isNone)) w') :
    wpList P ops Q (⟨dst, .binOp .eql T x y T, ty, pos, aft, none⟩ :: rest) a w := by
  refine st_v H rfl ?_ k
  unfold OpOk execOp
  simp only [hx, hy]
  go_simp
  rw [run_nilS hT]
  exact now_v
theorem st_nil0 (H : Hs R w0 L w) (hx : a.eval x = .slice none n c) (hy : a.eval y = .slice none 0 0) (hT : P.underlying T = some (.slice t)) (k : ∀ w', Hs R w0 L w' → wpList P ops Q rest (a.put dst (.bool true)) w') :
    wpList P ops Q (⟨dst, .binOp .eql T x y T, ty, pos, aft, none⟩ :: rest) a w := st_nilS H hx hy hT k
theorem st_nil1 (H : Hs R w0 L w) (hx : a.eval x = .slice (some p) n c) (hy : a.eval y = .slice none 0 0) (hT : P.underlying T = some (.slice t)) (k : ∀ w', Hs R w0 L w' → wpList P ops Q rest (a.put dst (.bool false)) w') :
    wpList P ops Q (⟨dst, .binOp .eql T x y T, ty, pos, aft, none⟩ :: rest) a w := st_nilS H hx hy hT k
end
theorem encNum_ones : ∀ (a : Int), ∀ u ∈ encNum a, u.oneCell' = true := fun a u hu => tyNum.one (w := default) (show tyNum.rd default (encNum a) a from rfl) u hu
set_option maxRecDepth 100000 in
set_option maxHeartbeats 4000000 in
theorem clone_Int (v : Value) (l : List Int) (hl : l.length ≤ 1000000) (w : World) (hr : (Ty.sl 2 tyNum).rd w [v] l) : Rets Tryz.prog [] 119 #[v] w (tSli (Ty.sl 2 tyNum) l) := by
  obtain ⟨A, c, rfl, hlc, hcm⟩ := sl_form hr
  have H := Hs.start noRow w
  have hRd := sl_rd hr
  have hone := flat_ones encNum_ones l
  cases A with
  | none =>
    obtain rfl := rd_none hr
    clear hr hRd hone
    refine Rets.of ?_
    go_enter Tryz.func119, Tryz.ntmps119
    go_wp2_with (first | ((first | ((with_reducible apply st_load1 H); decide +kernel; rfl; exact cF) | ((with_reducible apply st_loads H); decide +kernel; rfl; exact iF; exact zF; rfl)); clear H; intro wn H; (try simp only [splice, yG, yH, yI, yJ, yK, yL, yM, yN, yO, yP, yQ, Nat.reduceAdd, yA, yB, yC] at H); simp only [Act.put, yA, yB, yC, yD, yE, yF]) | ((first | ((with_reducible apply st_strsum H); rfl; rfl; exact szF; kernel_rfl) | ((with_reducible apply st_bslice H); exact nsF; intro nb) | ((first | ((with_reducible apply st_eqLabz H); rfl; rfl; (focus assumption)) | ((with_reducible apply st_neLabz H); rfl; rfl; (focus assumption)) | ((with_reducible apply st_eqLab H); rfl; rfl) | ((with_reducible apply st_neLab H); rfl; rfl)))); clear H; intro wn H; simp only [Act.put, yA, yB, yC, yD, yE, yF]) | ((with_reducible apply st_appendb H); (first | ((focus (with_reducible exact dH)); rfl) | ((focus (with_reducible exact dT (dH))); rfl) | ((focus (with_reducible exact dT (dT (dH)))); rfl) | ((focus (with_reducible exact dT (dT (dT (dH))))); rfl) | ((focus (with_reducible exact dT (dT (dT (dT (dH)))))); rfl) | ((focus (with_reducible exact dT (dT (dT (dT (dT (dH))))))); rfl) | ((focus (with_reducible exact dT (dT (dT (dT (dT (dT (dH)))))))); rfl)); rfl; exact iF; kernel_rfl; rfl; rfl; (focus (first | omega | (simp; done) | (simp; omega))); clear H; intro vq wn H; (try simp only [yM, yN, yO] at H); simp only [Act.put, yA, yB, yC, yD, yE, yF]) | ((with_reducible apply st_appendrb H); (first | ((focus (with_reducible exact dH)); rfl) | ((focus (with_reducible exact dT (dH))); rfl) | ((focus (with_reducible exact dT (dT (dH)))); rfl) | ((focus (with_reducible exact dT (dT (dT (dH))))); rfl) | ((focus (with_reducible exact dT (dT (dT (dT (dH)))))); rfl) | ((focus (with_reducible exact dT (dT (dT (dT (dT (dH))))))); rfl) | ((focus (with_reducible exact dT (dT (dT (dT (dT (dT (dH)))))))); rfl)); rfl; exact iF; kernel_rfl; rfl; rfl; (focus (first | omega | (simp; done) | (simp; omega))); clear H; intro vq wn H; (try simp only [yM, yN, yO] at H); simp only [Act.put, yA, yB, yC, yD, yE, yF]) | ((first | ((with_reducible apply st_nil0 H); rfl; rfl; (focus exact Tryz.underlying111)) | ((with_reducible apply st_nil1 H); rfl; rfl; (focus exact Tryz.underlying111))); clear H; intro wn H; simp only [Act.put, yA, yB, yC, yD, yE, yF]) | (have Hn := H.putRow 2 1 (some ⟨nb, 0, none⟩); (with_reducible apply st_appendr Hn); (focus (with_reducible exact dH)); rfl; rfl; kernel_rfl; (focus exact (hRd.later H.below)); exact hone; (focus omega); clear Hn; clear H; intro vq wn H; simp only [Act.put, yA, yB, yC, yD, yE, yF]) | fail)
    go_ret
    exact ret_flatS (H.putRow 2 1 none) rfl rfl
  | some p =>
    obtain ⟨n, hn⟩ : ∃ n, n = l.length := ⟨_, rfl⟩
    rw [← hn] at hRd hl ⊢
    have HN := Lib.hid hn
    clear hr hlc hcm hn
    refine Rets.of ?_
    go_enter Tryz.func119, Tryz.ntmps119
    go_wp2_with (first | ((first | ((with_reducible apply st_load1 H); decide +kernel; rfl; exact cF) | ((with_reducible apply st_loads H); decide +kernel; rfl; exact iF; exact zF; rfl)); clear H; intro wn H; (try simp only [splice, yG, yH, yI, yJ, yK, yL, yM, yN, yO, yP, yQ, Nat.reduceAdd, yA, yB, yC] at H); simp only [Act.put, yA, yB, yC, yD, yE, yF]) | ((first | ((with_reducible apply st_strsum H); rfl; rfl; exact szF; kernel_rfl) | ((with_reducible apply st_bslice H); exact nsF; intro nb) | ((first | ((with_reducible apply st_eqLabz H); rfl; rfl; (focus assumption)) | ((with_reducible apply st_neLabz H); rfl; rfl; (focus assumption)) | ((with_reducible apply st_eqLab H); rfl; rfl) | ((with_reducible apply st_neLab H); rfl; rfl)))); clear H; intro wn H; simp only [Act.put, yA, yB, yC, yD, yE, yF]) | ((with_reducible apply st_appendb H); (first | ((focus (with_reducible exact dH)); rfl) | ((focus (with_reducible exact dT (dH))); rfl) | ((focus (with_reducible exact dT (dT (dH)))); rfl) | ((focus (with_reducible exact dT (dT (dT (dH))))); rfl) | ((focus (with_reducible exact dT (dT (dT (dT (dH)))))); rfl) | ((focus (with_reducible exact dT (dT (dT (dT (dT (dH))))))); rfl) | ((focus (with_reducible exact dT (dT (dT (dT (dT (dT (dH)))))))); rfl)); rfl; exact iF; kernel_rfl; rfl; rfl; (focus (first | omega | (simp; done) | (simp; omega))); clear H; intro vq wn H; (try simp only [yM, yN, yO] at H); simp only [Act.put, yA, yB, yC, yD, yE, yF]) | ((with_reducible apply st_appendrb H); (first | ((focus (with_reducible exact dH)); rfl) | ((focus (with_reducible exact dT (dH))); rfl) | ((focus (with_reducible exact dT (dT (dH)))); rfl) | ((focus (with_reducible exact dT (dT (dT (dH))))); rfl) | ((focus (with_reducible exact dT (dT (dT (dT (dH)))))); rfl) | ((focus (with_reducible exact dT (dT (dT (dT (dT (dH))))))); rfl) | ((focus (with_reducible exact dT (dT (dT (dT (dT (dT (dH)))))))); rfl)); rfl; exact iF; kernel_rfl; rfl; rfl; (focus (first | omega | (simp; done) | (simp; omega))); clear H; intro vq wn H; (try simp only [yM, yN, yO] at H); simp only [Act.put, yA, yB, yC, yD, yE, yF]) | ((first | ((with_reducible apply st_nil0 H); rfl; rfl; (focus exact Tryz.underlying111)) | ((with_reducible apply st_nil1 H); rfl; rfl; (focus exact Tryz.underlying111))); clear H; intro wn H; simp only [Act.put, yA, yB, yC, yD, yE, yF]) | (have Hn := H.putRow 2 1 (some ⟨nb, 0, none⟩); (with_reducible apply st_appendr Hn); (focus (with_reducible exact dH)); rfl; rfl; kernel_rfl; (focus exact (hRd.later H.below)); exact hone; (focus omega); clear Hn; clear H; intro vq wn H; simp only [Act.put, yA, yB, yC, yD, yE, yF]) | fail)
    go_ret
    exact ret_flatS H (by rw [List.nil_append]) (by rw [Nat.zero_add]; exact HN.out)
theorem encNt_ones : ∀ (a : Nt), ∀ u ∈ encNt a, u.oneCell' = true := fun a u hu => tyNt.one (w := default) (show tyNt.rd default (encNt a) a from rfl) u hu
set_option maxRecDepth 100000 in
set_option maxHeartbeats 4000000 in
theorem clone_Note (v : Value) (l : List Nt) (hl : l.length ≤ 1000000) (w : World) (hr : (Ty.sl 116 tyNt).rd w [v] l) : Rets Tryz.prog [] 120 #[v] w (tSli (Ty.sl 116 tyNt) l) := by
  obtain ⟨A, c, rfl, hlc, hcm⟩ := sl_form hr
  have H := Hs.start noRow w
  have hRd := sl_rd hr
  have hone := flat_ones encNt_ones l
  cases A with
  | none =>
    obtain rfl := rd_none hr
    clear hr hRd hone
    refine Rets.of ?_
    go_enter Tryz.func120, Tryz.ntmps120
    go_wp2_with (first | ((first | ((with_reducible apply st_load1 H); decide +kernel; rfl; exact cF) | ((with_reducible apply st_loads H); decide +kernel; rfl; exact iF; exact zF; rfl)); clear H; intro wn H; (try simp only [splice, yG, yH, yI, yJ, yK, yL, yM, yN, yO, yP, yQ, Nat.reduceAdd, yA, yB, yC] at H); simp only [Act.put, yA, yB, yC, yD, yE, yF]) | ((first | ((with_reducible apply st_strsum H); rfl; rfl; exact szF; kernel_rfl) | ((with_reducible apply st_bslice H); exact nsF; intro nb) | ((first | ((with_reducible apply st_eqLabz H); rfl; rfl; (focus assumption)) | ((with_reducible apply st_neLabz H); rfl; rfl; (focus assumption)) | ((with_reducible apply st_eqLab H); rfl; rfl) | ((with_reducible apply st_neLab H); rfl; rfl)))); clear H; intro wn H; simp only [Act.put, yA, yB, yC, yD, yE, yF]) | ((with_reducible apply st_appendb H); (first | ((focus (with_reducible exact dH)); rfl) | ((focus (with_reducible exact dT (dH))); rfl) | ((focus (with_reducible exact dT (dT (dH)))); rfl) | ((focus (with_reducible exact dT (dT (dT (dH))))); rfl) | ((focus (with_reducible exact dT (dT (dT (dT (dH)))))); rfl) | ((focus (with_reducible exact dT (dT (dT (dT (dT (dH))))))); rfl) | ((focus (with_reducible exact dT (dT (dT (dT (dT (dT (dH)))))))); rfl)); rfl; exact iF; kernel_rfl; rfl; rfl; (focus (first | omega | (simp; done) | (simp; omega))); clear H; intro vq wn H; (try simp only [yM, yN, yO] at H); simp only [Act.put, yA, yB, yC, yD, yE, yF]) | ((with_reducible apply st_appendrb H); (first | ((focus (with_reducible exact dH)); rfl) | ((focus (with_reducible exact dT (dH))); rfl) | ((focus (with_reducible exact dT (dT (dH)))); rfl) | ((focus (with_reducible exact dT (dT (dT (dH))))); rfl) | ((focus (with_reducible exact dT (dT (dT (dT (dH)))))); rfl) | ((focus (with_reducible exact dT (dT (dT (dT (dT (dH))))))); rfl) | ((focus (with_reducible exact dT (dT (dT (dT (dT (dT (dH)))))))); rfl)); rfl; exact iF; kernel_rfl; rfl; rfl; (focus (first | omega | (simp; done) | (simp; omega))); clear H; intro vq wn H; (try simp only [yM, yN, yO] at H); simp only [Act.put, yA, yB, yC, yD, yE, yF]) | ((first | ((with_reducible apply st_nil0 H); rfl; rfl; (focus exact Tryz.underlying111)) | ((with_reducible apply st_nil1 H); rfl; rfl; (focus exact Tryz.underlying111))); clear H; intro wn H; simp only [Act.put, yA, yB, yC, yD, yE, yF]) | (have Hn := H.putRow 2 1 (some ⟨nb, 0, none⟩); (with_reducible apply st_appendr Hn); (focus (with_reducible exact dH)); rfl; rfl; kernel_rfl; (focus exact (hRd.later H.below)); exact hone; (focus omega); clear Hn; clear H; intro vq wn H; simp only [Act.put, yA, yB, yC, yD, yE, yF]) | ((first | ((with_reducible apply st_nil0 H); rfl; rfl; (focus exact Tryz.underlying112)) | ((with_reducible apply st_nil1 H); rfl; rfl; (focus exact Tryz.underlying112))); clear H; intro wn H; simp only [Act.put, yA, yB, yC, yD, yE, yF]) | (have Hn := H.putRow 116 2 (some ⟨nb, 0, none⟩); (with_reducible apply st_appendr Hn); (focus (with_reducible exact dH)); rfl; rfl; kernel_rfl; (focus exact (hRd.later H.below)); exact hone; (focus omega); clear Hn; clear H; intro vq wn H; simp only [Act.put, yA, yB, yC, yD, yE, yF]) | fail)
    go_ret
    exact ret_flatS (H.putRow 116 2 none) rfl rfl
  | some p =>
    obtain ⟨n, hn⟩ : ∃ n, n = l.length := ⟨_, rfl⟩
    rw [← hn] at hRd hl ⊢
    have HN := Lib.hid hn
    clear hr hlc hcm hn
    refine Rets.of ?_
    go_enter Tryz.func120, Tryz.ntmps120
    go_wp2_with (first | ((first | ((with_reducible apply st_load1 H); decide +kernel; rfl; exact cF) | ((with_reducible apply st_loads H); decide +kernel; rfl; exact iF; exact zF; rfl)); clear H; intro wn H; (try simp only [splice, yG, yH, yI, yJ, yK, yL, yM, yN, yO, yP, yQ, Nat.reduceAdd, yA, yB, yC] at H); simp only [Act.put, yA, yB, yC, yD, yE, yF]) | ((first | ((with_reducible apply st_strsum H); rfl; rfl; exact szF; kernel_rfl) | ((with_reducible apply st_bslice H); exact nsF; intro nb) | ((first | ((with_reducible apply st_eqLabz H); rfl; rfl; (focus assumption)) | ((with_reducible apply st_neLabz H); rfl; rfl; (focus assumption)) | ((with_reducible apply st_eqLab H); rfl; rfl) | ((with_reducible apply st_neLab H); rfl; rfl)))); clear H; intro wn H; simp only [Act.put, yA, yB, yC, yD, yE, yF]) | ((with_reducible apply st_appendb H); (first | ((focus (with_reducible exact dH)); rfl) | ((focus (with_reducible exact dT (dH))); rfl) | ((focus (with_reducible exact dT (dT (dH)))); rfl) | ((focus (with_reducible exact dT (dT (dT (dH))))); rfl) | ((focus (with_reducible exact dT (dT (dT (dT (dH)))))); rfl) | ((focus (with_reducible exact dT (dT (dT (dT (dT (dH))))))); rfl) | ((focus (with_reducible exact dT (dT (dT (dT (dT (dT (dH)))))))); rfl)); rfl; exact iF; kernel_rfl; rfl; rfl; (focus (first | omega | (simp; done) | (simp; omega))); clear H; intro vq wn H; (try simp only [yM, yN, yO] at H); simp only [Act.put, yA, yB, yC, yD, yE, yF]) | ((with_reducible apply st_appendrb H); (first | ((focus (with_reducible exact dH)); rfl) | ((focus (with_reducible exact dT (dH))); rfl) | ((focus (with_reducible exact dT (dT (dH)))); rfl) | ((focus (with_reducible exact dT (dT (dT (dH))))); rfl) | ((focus (with_reducible exact dT (dT (dT (dT (dH)))))); rfl) | ((focus (with_reducible exact dT (dT (dT (dT (dT (dH))))))); rfl) | ((focus (with_reducible exact dT (dT (dT (dT (dT (dT (dH)))))))); rfl)); rfl; exact iF; kernel_rfl; rfl; rfl; (focus (first | omega | (simp; done) | (simp; omega))); clear H; intro vq wn H; (try simp only [yM, yN, yO] at H); simp only [Act.put, yA, yB, yC, yD, yE, yF]) | ((first | ((with_reducible apply st_nil0 H); rfl; rfl; (focus exact Tryz.underlying111)) | ((with_reducible apply st_nil1 H); rfl; rfl; (focus exact Tryz.underlying111))); clear H; intro wn H; simp only [Act.put, yA, yB, yC, yD, yE, yF]) | (have Hn := H.putRow 2 1 (some ⟨nb, 0, none⟩); (with_reducible apply st_appendr Hn); (focus (with_reducible exact dH)); rfl; rfl; kernel_rfl; (focus exact (hRd.later H.below)); exact hone; (focus omega); clear Hn; clear H; intro vq wn H; simp only [Act.put, yA, yB, yC, yD, yE, yF]) | ((first | ((with_reducible apply st_nil0 H); rfl; rfl; (focus exact Tryz.underlying112)) | ((with_reducible apply st_nil1 H); rfl; rfl; (focus exact Tryz.underlying112))); clear H; intro wn H; simp only [Act.put, yA, yB, yC, yD, yE, yF]) | (have Hn := H.putRow 116 2 (some ⟨nb, 0, none⟩); (with_reducible apply st_appendr Hn); (focus (with_reducible exact dH)); rfl; rfl; kernel_rfl; (focus exact (hRd.later H.below)); exact hone; (focus omega); clear Hn; clear H; intro vq wn H; simp only [Act.put, yA, yB, yC, yD, yE, yF]) | fail)
    go_ret
    exact ret_flatS H (by rw [List.nil_append]) (by rw [Nat.zero_add]; exact HN.out)
end Go.Proofs.YteeafechjkilkaaGreat
