/-
  The library at lists of frames: the walks. Printed by kgen.py.
-/
import Derived.Test.YthkebpgkhblcjaaFh
import Derived.Test.YthkebpgkhblcjaaJ1
set_option linter.unusedSimpArgs false
set_option linter.unusedVariables false
namespace Go.Proofs.Ythkebpgkhblcjaa
open Go.RowKit M
set_option maxRecDepth 100000 in
set_option maxHeartbeats 4000000 in
theorem indexFunc_Fms (v : Value) (l : List (List Fm)) (p : List Fm → Bool) (g : Nat) (lb : Array Value) (w : World) (eg : ∀ args w, (callFunc g args).run Try.prog w = .ok (.enter g args) w) (hr : (Ty.sl 26 (Ty.sl 30 tyFm)).rd w [v] l) (hp : ∀ w1, Below w.heap.size w w1 → ∀ (i : Nat) (x : List Fm) (u : Value), l[i]? = some x → (Ty.sl 30 tyFm).rd w1 [u] x → Gives Try.prog g (#[u] ++ lb) w1 (.bool (p x))) :
    Gives Try.prog 26 #[v, .func (.func g) #[] lb] w (.int .i64 (idxF p 0 l)) := by
  obtain ⟨A, c, rfl, hlc, hcm⟩ := sl_form hr
  unfold maxLen at *
  have HR := Lib.hid hr
  have HP := Lib.hid hp
  have H := Hs.start noRow w
  obtain ⟨n, hn⟩ : ∃ n, n = l.length := ⟨_, rfl⟩
  have hnl : n ≤ 9223372036854775807 := by omega
  rw [← hn] at HR ⊢
  have HN := Lib.hid hn
  obtain ⟨z, hz⟩ : ∃ z, z = idxF p 0 l := ⟨_, rfl⟩
  rw [← hz]
  have HZ := Lib.hid hz
  clear hr hn hlc hcm hp hz
  unfold Gives
  go_enter Try.func26, Try.ntmps26
  go_wp2_with (first | ((first | ((with_reducible apply st_load1 H); decide +kernel; rfl; exact cF) | ((with_reducible apply st_loads H); decide +kernel; rfl; exact iF; exact zF; rfl)); clear H; intro wn H; (try simp only [splice, yG, yH, yI, yJ, yK, yL, yM, yN, yO, yP, yQ, Nat.reduceAdd, yA, yB, yC] at H); simp only [Act.put, yA, yB, yC, yD, yE, yF]) | ((first | ((with_reducible apply st_strsum H); rfl; rfl; exact szF; kernel_rfl) | ((with_reducible apply st_loadat H); decide +kernel; rfl; exact aF; exact zF; rfl)); clear H; intro wn H; simp only [Act.put, yA, yB, yC, yD, yE, yF]) | (go_at_fn g; refine gvF (hP' _ H.below) H ?_; clear H; intro wn H) | fail)
  go_loopg [4, 5, 8] n (fun m _ _ iv wr => ∃ (i : Nat), i + m = n ∧ iv = .int .i64 i ∧ Hid (z = idxF p i (l.drop i)) ∧ Hs noRow w [] wr)
  case atStart => exact ⟨0, by omega, rfl, HZ, H⟩
  case round =>
    clear H
    obtain ⟨i, hi, rfl, HI, H⟩ := hrel
    by_cases hlt : i < n
    · obtain ⟨x, hx⟩ : ∃ x, l[i]? = some x := ⟨l[i]'(by rw [← HN.out]; exact hlt), List.getElem?_eq_getElem (by rw [← HN.out]; exact hlt)⟩
      have hs := sl_at (by have := HR.out; rw [HN.out] at this; exact this) hx
      rw [← HN.out] at hs
      obtain ⟨b, off, c', cs, hv, hcs, hA⟩ := hs
      injection hv with hv1 hv2 hv3
      subst hv1 hv3
      obtain ⟨u, hu⟩ : ∃ u, cs = [u] := by obtain ⟨u, _, rfl, _⟩ := hcs; exact ⟨u, rfl⟩
      subst hu
      have h0 : w.cell? ⟨b, off + i, none⟩ = some u := by have h := hA.head (u := u) rfl; rw [show i * Ty.s _ = i from Nat.mul_one i] at h; exact h
      have hP := fun w1 hb => HP.out w1 hb i x u hx (Ty.below _ hcs hb)
      have hstep := HI.out
      rw [idxF_drop hx] at hstep
      have hlt1 : (i : Int) < n := by omega
      clear hx hv2 HI
      cases hpx : p x
      · rw [hpx] at hP hstep
        have hP' := hP
        have HI := Lib.hid (show z = idxF p (i + 1) (l.drop (i + 1)) from hstep)
        clear hP hstep hpx
        go_wp2_with (first | ((first | ((with_reducible apply st_load1 H); decide +kernel; rfl; exact cF) | ((with_reducible apply st_loads H); decide +kernel; rfl; exact iF; exact zF; rfl)); clear H; intro wn H; (try simp only [splice, yG, yH, yI, yJ, yK, yL, yM, yN, yO, yP, yQ, Nat.reduceAdd, yA, yB, yC] at H); simp only [Act.put, yA, yB, yC, yD, yE, yF]) | ((first | ((with_reducible apply st_strsum H); rfl; rfl; exact szF; kernel_rfl) | ((with_reducible apply st_loadat H); decide +kernel; rfl; exact aF; exact zF; rfl)); clear H; intro wn H; simp only [Act.put, yA, yB, yC, yD, yE, yF]) | (go_at_fn g; refine gvF (hP' _ H.below) H ?_; clear H; intro wn H) | fail)
        go_roundg (n - (i + 1))
        case measure => omega
        case rel => exact ⟨i + 1, by omega, by go_num, HI, H⟩
      · rw [hpx] at hP hstep
        have hP' := hP
        have HI := Lib.hid (show z = (i : Int) from hstep)
        clear hP hstep hpx
        go_wp2_with (first | ((first | ((with_reducible apply st_load1 H); decide +kernel; rfl; exact cF) | ((with_reducible apply st_loads H); decide +kernel; rfl; exact iF; exact zF; rfl)); clear H; intro wn H; (try simp only [splice, yG, yH, yI, yJ, yK, yL, yM, yN, yO, yP, yQ, Nat.reduceAdd, yA, yB, yC] at H); simp only [Act.put, yA, yB, yC, yD, yE, yF]) | ((first | ((with_reducible apply st_strsum H); rfl; rfl; exact szF; kernel_rfl) | ((with_reducible apply st_loadat H); decide +kernel; rfl; exact aF; exact zF; rfl)); clear H; intro wn H; simp only [Act.put, yA, yB, yC, yD, yE, yF]) | (go_at_fn g; refine gvF (hP' _ H.below) H ?_; clear H; intro wn H) | fail)
        go_ret
        exact ⟨by rw [HI.out]; rfl, H.below⟩
    · obtain rfl : i = n := by omega
      have hlt1 : ¬ (i : Int) < i := by omega
      have hz : z = -1 := by rw [HI.out, List.drop_of_length_le (by rw [← HN.out]; exact Nat.le_refl _)]; rfl
      have HI2 := Lib.hid hz
      clear hz HI HZ
      go_wp2_with (first | ((first | ((with_reducible apply st_load1 H); decide +kernel; rfl; exact cF) | ((with_reducible apply st_loads H); decide +kernel; rfl; exact iF; exact zF; rfl)); clear H; intro wn H; (try simp only [splice, yG, yH, yI, yJ, yK, yL, yM, yN, yO, yP, yQ, Nat.reduceAdd, yA, yB, yC] at H); simp only [Act.put, yA, yB, yC, yD, yE, yF]) | ((first | ((with_reducible apply st_strsum H); rfl; rfl; exact szF; kernel_rfl) | ((with_reducible apply st_loadat H); decide +kernel; rfl; exact aF; exact zF; rfl)); clear H; intro wn H; simp only [Act.put, yA, yB, yC, yD, yE, yF]) | (go_at_fn g; refine gvF (hP' _ H.below) H ?_; clear H; intro wn H) | fail)
      go_ret
      exact ⟨by rw [HI2.out]; rfl, H.below⟩
set_option maxRecDepth 100000 in
set_option maxHeartbeats 4000000 in
theorem containsFunc_Fms (v : Value) (l : List (List Fm)) (p : List Fm → Bool) (g : Nat) (lb : Array Value) (w : World) (eg : ∀ args w, (callFunc g args).run Try.prog w = .ok (.enter g args) w) (hr : (Ty.sl 26 (Ty.sl 30 tyFm)).rd w [v] l) (hp : ∀ w1, Below w.heap.size w w1 → ∀ (i : Nat) (x : List Fm) (u : Value), l[i]? = some x → (Ty.sl 30 tyFm).rd w1 [u] x → Gives Try.prog g (#[u] ++ lb) w1 (.bool (p x))) :
    Gives Try.prog 15 #[v, .func (.func g) #[] lb] w (.bool (l.any p)) := by
  have hI := fun w1 hb => indexFunc_Fms v l p g lb w1 eg (Ty.below _ hr hb) (fun w2 hb2 => hp w2 (hb.trans (hb2.mono hb.size)))
  have hz := idxF_ge p l 0
  obtain ⟨A, c, rfl, hlc, hcm⟩ := sl_form hr
  have H := Hs.start noRow w
  generalize idxF p 0 l = z at *
  generalize l.length = n at *
  rw [← hz]
  clear hr hp hz
  unfold Gives
  go_enter Try.func15, Try.ntmps15
  go_wp2_with (first | ((first | ((with_reducible apply st_load1 H); decide +kernel; rfl; exact cF) | ((with_reducible apply st_loads H); decide +kernel; rfl; exact iF; exact zF; rfl)); clear H; intro wn H; (try simp only [splice, yG, yH, yI, yJ, yK, yL, yM, yN, yO, yP, yQ, Nat.reduceAdd, yA, yB, yC] at H); simp only [Act.put, yA, yB, yC, yD, yE, yF]) | ((first | ((with_reducible apply st_strsum H); rfl; rfl; exact szF; kernel_rfl)); clear H; intro wn H; simp only [Act.put, yA, yB, yC, yD, yE, yF]) | ((first | (go_at_call 26; refine gvF (hI _ H.below) H ?_)); clear H; intro wn H) | (go_at_fn g; refine gvF (hP' _ H.below) H ?_; clear H; intro wn H) | fail)
  go_ret
  exact ⟨rfl, H.below⟩
set_option maxRecDepth 100000 in
set_option maxHeartbeats 4000000 in
theorem grow_Fm (n : Nat) (h0 : 0 < n) (hn : n ≤ 1000000000) (w : World) : Rets Try.prog [] 27 #[.slice none 0 0, .int .i64 (n : Int)] w (tRoom 30 2) := by
  have H := Hs.start noRow w
  have h1 : ¬ (n : Int) < 0 := by omega
  have h2 : (0 : Int) < n := by omega
  refine Rets.of ?_
  go_enter Try.func27, Try.ntmps27
  go_wp2_with (first | ((first | ((with_reducible apply st_load1 H); decide +kernel; rfl; exact cF) | ((with_reducible apply st_loads H); decide +kernel; rfl; exact iF; exact zF; rfl)); clear H; intro wn H; (try simp only [splice, yG, yH, yI, yJ, yK, yL, yM, yN, yO, yP, yQ, Nat.reduceAdd, yA, yB, yC] at H); simp only [Act.put, yA, yB, yC, yD, yE, yF]) | ((first | ((with_reducible apply st_strsum H); rfl; rfl; exact szF; kernel_rfl)); clear H; intro wn H; simp only [Act.put, yA, yB, yC, yD, yE, yF]) | ((with_reducible apply st_appendb H); (first | ((focus (with_reducible exact dH)); rfl) | ((focus (with_reducible exact dT (dH))); rfl) | ((focus (with_reducible exact dT (dT (dH)))); rfl) | ((focus (with_reducible exact dT (dT (dT (dH))))); rfl) | ((focus (with_reducible exact dT (dT (dT (dT (dH)))))); rfl) | ((focus (with_reducible exact dT (dT (dT (dT (dT (dH))))))); rfl) | ((focus (with_reducible exact dT (dT (dT (dT (dT (dT (dH)))))))); rfl)); rfl; exact iF; kernel_rfl; rfl; rfl; (focus (first | omega | (simp; done) | (simp; omega))); clear H; intro vq wn H; (try simp only [yM, yN, yO] at H); simp only [Act.put, yA, yB, yC, yD, yE, yF]) | ((with_reducible apply st_appendrb H); (first | ((focus (with_reducible exact dH)); rfl) | ((focus (with_reducible exact dT (dH))); rfl) | ((focus (with_reducible exact dT (dT (dH)))); rfl) | ((focus (with_reducible exact dT (dT (dT (dH))))); rfl) | ((focus (with_reducible exact dT (dT (dT (dT (dH)))))); rfl) | ((focus (with_reducible exact dT (dT (dT (dT (dT (dH))))))); rfl) | ((focus (with_reducible exact dT (dT (dT (dT (dT (dT (dH)))))))); rfl)); rfl; exact iF; kernel_rfl; rfl; rfl; (focus (first | omega | (simp; done) | (simp; omega))); clear H; intro vq wn H; (try simp only [yM, yN, yO] at H); simp only [Act.put, yA, yB, yC, yD, yE, yF]) | (go_at_fn g; refine gvF (hP' _ H.below) H ?_; clear H; intro wn H) | ((with_reducible apply st_grow0 (E := 30) (s := 2) H); rfl; rfl; kernel_rfl; kernel_rfl; (focus assumption); (focus assumption); clear H; intro gg cc zs wn hcc H; simp only [Act.put, yA, yB, yC, yD, yE, yF]) | fail)
  have Hn : Hs noRow w [Hl.row 30 2 (.slice (some ⟨gg, 0, none⟩) 0 cc) 0 (zs.take (0 * 2))] _ := H.shrink uF (Nat.zero_le _)
  rw [Nat.zero_mul, List.take_zero] at Hn
  go_ret
  exact Hs.retd (M := [Hl.row 30 2 (.slice (some ⟨gg, 0, none⟩) 0 cc) 0 []]) Hn (List.Sublist.refl _) ⟨gg, cc, rfl, rfl⟩
set_option maxRecDepth 100000 in
set_option maxHeartbeats 4000000 in
theorem concat_Fm (v : Value) (l : List (List Fm)) (h0 : 0 < l.flatten.length) (hb : l.flatten.length ≤ 1000000) (w : World) (hr : (Ty.sl 26 (Ty.sl 30 tyFm)).rd w [v] l) :
    Rets Try.prog [] 17 #[v] w (tOwn (Ty.sl 30 tyFm) l.flatten) := by
  obtain ⟨A, c, rfl, hlc, hcm⟩ := sl_form hr
  unfold maxLen at *
  have HR := Lib.hid hr
  obtain ⟨n, hn⟩ : ∃ n, n = l.length := ⟨_, rfl⟩
  have hnl : n ≤ 9223372036854775807 := by omega
  rw [← hn] at HR ⊢
  have HN := Lib.hid hn
  obtain ⟨tot, ht⟩ : ∃ t, t = l.flatten.length := ⟨_, rfl⟩
  rw [← ht] at h0 hb
  have HT := Lib.hid ht
  clear hr hn hlc hcm ht
  have H := Hs.start noRow w
  refine Rets.of ?_
  go_enter Try.func17, Try.ntmps17
  go_wp2_with (first | ((first | ((with_reducible apply st_load1 H); decide +kernel; rfl; exact cF) | ((with_reducible apply st_loads H); decide +kernel; rfl; exact iF; exact zF; rfl)); clear H; intro wn H; (try simp only [splice, yG, yH, yI, yJ, yK, yL, yM, yN, yO, yP, yQ, Nat.reduceAdd, yA, yB, yC] at H); simp only [Act.put, yA, yB, yC, yD, yE, yF]) | ((first | ((with_reducible apply st_strsum H); rfl; rfl; exact szF; kernel_rfl) | ((with_reducible apply st_loadat H); decide +kernel; rfl; exact aF; exact zF; rfl)); clear H; intro wn H; simp only [Act.put, yA, yB, yC, yD, yE, yF]) | ((with_reducible apply st_appendb H); (first | ((focus (with_reducible exact dH)); rfl) | ((focus (with_reducible exact dT (dH))); rfl) | ((focus (with_reducible exact dT (dT (dH)))); rfl) | ((focus (with_reducible exact dT (dT (dT (dH))))); rfl) | ((focus (with_reducible exact dT (dT (dT (dT (dH)))))); rfl) | ((focus (with_reducible exact dT (dT (dT (dT (dT (dH))))))); rfl) | ((focus (with_reducible exact dT (dT (dT (dT (dT (dT (dH)))))))); rfl)); rfl; exact iF; kernel_rfl; rfl; rfl; (focus (first | omega | (simp; done) | (simp; omega))); clear H; intro vq wn H; (try simp only [yM, yN, yO] at H); simp only [Act.put, yA, yB, yC, yD, yE, yF]) | ((with_reducible apply st_appendrb H); (first | ((focus (with_reducible exact dH)); rfl) | ((focus (with_reducible exact dT (dH))); rfl) | ((focus (with_reducible exact dT (dT (dH)))); rfl) | ((focus (with_reducible exact dT (dT (dT (dH))))); rfl) | ((focus (with_reducible exact dT (dT (dT (dT (dH)))))); rfl) | ((focus (with_reducible exact dT (dT (dT (dT (dT (dH))))))); rfl) | ((focus (with_reducible exact dT (dT (dT (dT (dT (dT (dH)))))))); rfl)); rfl; exact iF; kernel_rfl; rfl; rfl; (focus (first | omega | (simp; done) | (simp; omega))); clear H; intro vq wn H; (try simp only [yM, yN, yO] at H); simp only [Act.put, yA, yB, yC, yD, yE, yF]) | (go_at_fn g; refine gvF (hP' _ H.below) H ?_; clear H; intro wn H) | ((with_reducible apply st_grow0 (E := 30) (s := 2) H); rfl; rfl; kernel_rfl; kernel_rfl; (focus assumption); (focus assumption); clear H; intro gg cc zs wn hcc H; simp only [Act.put, yA, yB, yC, yD, yE, yF]) | fail)
  go_loopg [3, 5, 11] n (fun m sv _ iv wr => ∃ (i s : Nat), i + m = n ∧ iv = .int .i64 i ∧ sv = .int .i64 s ∧ s ≤ tot ∧ Hid (s = (l.take i).flatten.length) ∧ Hs noRow w [] wr)
  case atStart => exact ⟨0, 0, by omega, rfl, rfl, by omega, Lib.hid rfl, H⟩
  case round =>
    clear H
    obtain ⟨i, s, hi, rfl, rfl, hst, HI, H⟩ := hrel
    by_cases hlt : i < n
    · obtain ⟨x, hx⟩ : ∃ x, l[i]? = some x := ⟨l[i]'(by rw [← HN.out]; exact hlt), List.getElem?_eq_getElem (by rw [← HN.out]; exact hlt)⟩
      have hs := sl_at (by have := HR.out; rw [HN.out] at this; exact this) hx
      rw [← HN.out] at hs
      obtain ⟨b, off, c', cs, hv, hcs, hA⟩ := hs
      injection hv with hv1 hv2 hv3
      subst hv1 hv3
      obtain ⟨u, hu⟩ : ∃ u, cs = [u] := by obtain ⟨u, _, rfl, _⟩ := hcs; exact ⟨u, rfl⟩
      subst hu
      have h1 : w.cell? ⟨b, off + i, none⟩ = some u := by have h := hA.head (u := u) rfl; rw [show i * Ty.s _ = i from Nat.mul_one i] at h; exact h
      obtain ⟨Ax, cx, rfl, _, _⟩ := sl_form hcs
      have hle := flatten_take_le l (i + 1)
      rw [flatten_take hx, List.length_append, ← HI.out, ← HT.out] at hle
      have HI2 : Hid (s + x.length = (l.take (i + 1)).flatten.length) := Lib.hid (by rw [flatten_take hx, List.length_append, ← HI.out])
      have hlt1 : (i : Int) < n := by omega
      have hneg : ¬ (s : Int) + x.length < 0 := by omega
      clear hx hv2 hA HI hcs
      generalize x.length = xn at *
      go_wp2_with (first | ((first | ((with_reducible apply st_load1 H); decide +kernel; rfl; exact cF) | ((with_reducible apply st_loads H); decide +kernel; rfl; exact iF; exact zF; rfl)); clear H; intro wn H; (try simp only [splice, yG, yH, yI, yJ, yK, yL, yM, yN, yO, yP, yQ, Nat.reduceAdd, yA, yB, yC] at H); simp only [Act.put, yA, yB, yC, yD, yE, yF]) | ((first | ((with_reducible apply st_strsum H); rfl; rfl; exact szF; kernel_rfl) | ((with_reducible apply st_loadat H); decide +kernel; rfl; exact aF; exact zF; rfl)); clear H; intro wn H; simp only [Act.put, yA, yB, yC, yD, yE, yF]) | ((with_reducible apply st_appendb H); (first | ((focus (with_reducible exact dH)); rfl) | ((focus (with_reducible exact dT (dH))); rfl) | ((focus (with_reducible exact dT (dT (dH)))); rfl) | ((focus (with_reducible exact dT (dT (dT (dH))))); rfl) | ((focus (with_reducible exact dT (dT (dT (dT (dH)))))); rfl) | ((focus (with_reducible exact dT (dT (dT (dT (dT (dH))))))); rfl) | ((focus (with_reducible exact dT (dT (dT (dT (dT (dT (dH)))))))); rfl)); rfl; exact iF; kernel_rfl; rfl; rfl; (focus (first | omega | (simp; done) | (simp; omega))); clear H; intro vq wn H; (try simp only [yM, yN, yO] at H); simp only [Act.put, yA, yB, yC, yD, yE, yF]) | ((with_reducible apply st_appendrb H); (first | ((focus (with_reducible exact dH)); rfl) | ((focus (with_reducible exact dT (dH))); rfl) | ((focus (with_reducible exact dT (dT (dH)))); rfl) | ((focus (with_reducible exact dT (dT (dT (dH))))); rfl) | ((focus (with_reducible exact dT (dT (dT (dT (dH)))))); rfl) | ((focus (with_reducible exact dT (dT (dT (dT (dT (dH))))))); rfl) | ((focus (with_reducible exact dT (dT (dT (dT (dT (dT (dH)))))))); rfl)); rfl; exact iF; kernel_rfl; rfl; rfl; (focus (first | omega | (simp; done) | (simp; omega))); clear H; intro vq wn H; (try simp only [yM, yN, yO] at H); simp only [Act.put, yA, yB, yC, yD, yE, yF]) | (go_at_fn g; refine gvF (hP' _ H.below) H ?_; clear H; intro wn H) | ((with_reducible apply st_grow0 (E := 30) (s := 2) H); rfl; rfl; kernel_rfl; kernel_rfl; (focus assumption); (focus assumption); clear H; intro gg cc zs wn hcc H; simp only [Act.put, yA, yB, yC, yD, yE, yF]) | fail)
      go_roundg (n - (i + 1))
      case measure => omega
      case rel => exact ⟨i + 1, s + xn, by omega, by go_num, by go_num, by omega, HI2, H⟩
    · obtain rfl : i = n := by omega
      have hlt1 : ¬ (i : Int) < i := by omega
      have hs : s = tot := by rw [HI.out, HT.out, List.take_of_length_le (by rw [← HN.out]; exact Nat.le_refl _)]
      subst hs
      clear HI
      go_wp2_with (first | ((first | ((with_reducible apply st_load1 H); decide +kernel; rfl; exact cF) | ((with_reducible apply st_loads H); decide +kernel; rfl; exact iF; exact zF; rfl)); clear H; intro wn H; (try simp only [splice, yG, yH, yI, yJ, yK, yL, yM, yN, yO, yP, yQ, Nat.reduceAdd, yA, yB, yC] at H); simp only [Act.put, yA, yB, yC, yD, yE, yF]) | ((first | ((with_reducible apply st_strsum H); rfl; rfl; exact szF; kernel_rfl) | ((with_reducible apply st_loadat H); decide +kernel; rfl; exact aF; exact zF; rfl)); clear H; intro wn H; simp only [Act.put, yA, yB, yC, yD, yE, yF]) | ((with_reducible apply st_appendb H); (first | ((focus (with_reducible exact dH)); rfl) | ((focus (with_reducible exact dT (dH))); rfl) | ((focus (with_reducible exact dT (dT (dH)))); rfl) | ((focus (with_reducible exact dT (dT (dT (dH))))); rfl) | ((focus (with_reducible exact dT (dT (dT (dT (dH)))))); rfl) | ((focus (with_reducible exact dT (dT (dT (dT (dT (dH))))))); rfl) | ((focus (with_reducible exact dT (dT (dT (dT (dT (dT (dH)))))))); rfl)); rfl; exact iF; kernel_rfl; rfl; rfl; (focus (first | omega | (simp; done) | (simp; omega))); clear H; intro vq wn H; (try simp only [yM, yN, yO] at H); simp only [Act.put, yA, yB, yC, yD, yE, yF]) | ((with_reducible apply st_appendrb H); (first | ((focus (with_reducible exact dH)); rfl) | ((focus (with_reducible exact dT (dH))); rfl) | ((focus (with_reducible exact dT (dT (dH)))); rfl) | ((focus (with_reducible exact dT (dT (dT (dH))))); rfl) | ((focus (with_reducible exact dT (dT (dT (dT (dH)))))); rfl) | ((focus (with_reducible exact dT (dT (dT (dT (dT (dH))))))); rfl) | ((focus (with_reducible exact dT (dT (dT (dT (dT (dT (dH)))))))); rfl)); rfl; exact iF; kernel_rfl; rfl; rfl; (focus (first | omega | (simp; done) | (simp; omega))); clear H; intro vq wn H; (try simp only [yM, yN, yO] at H); simp only [Act.put, yA, yB, yC, yD, yE, yF]) | (go_at_fn g; refine gvF (hP' _ H.below) H ?_; clear H; intro wn H) | ((with_reducible apply st_grow0 (E := 30) (s := 2) H); rfl; rfl; kernel_rfl; kernel_rfl; (focus assumption); (focus assumption); clear H; intro gg cc zs wn hcc H; simp only [Act.put, yA, yB, yC, yD, yE, yF]) | fail)
      refine (Rets.use (grow_Fm s (by omega) (by omega) _)).mono ?_; rintro e wn ⟨_, _, rfl, ⟨g, c2, rfl, rfl⟩, hkk⟩; have Hn := H.moreK (by intro k hk; first | exact absurd hk List.not_mem_nil | (obtain rfl := List.mem_singleton.1 hk; exact In.mem iF)) hkk; clear hkk; clear H; have H := Hn; clear Hn; (try simp only [yT, yV] at H)
      go_wp2_with (first | ((first | ((with_reducible apply st_load1 H); decide +kernel; rfl; exact cF) | ((with_reducible apply st_loads H); decide +kernel; rfl; exact iF; exact zF; rfl)); clear H; intro wn H; (try simp only [splice, yG, yH, yI, yJ, yK, yL, yM, yN, yO, yP, yQ, Nat.reduceAdd, yA, yB, yC] at H); simp only [Act.put, yA, yB, yC, yD, yE, yF]) | ((first | ((with_reducible apply st_strsum H); rfl; rfl; exact szF; kernel_rfl) | ((with_reducible apply st_loadat H); decide +kernel; rfl; exact aF; exact zF; rfl)); clear H; intro wn H; simp only [Act.put, yA, yB, yC, yD, yE, yF]) | ((with_reducible apply st_appendb H); (first | ((focus (with_reducible exact dH)); rfl) | ((focus (with_reducible exact dT (dH))); rfl) | ((focus (with_reducible exact dT (dT (dH)))); rfl) | ((focus (with_reducible exact dT (dT (dT (dH))))); rfl) | ((focus (with_reducible exact dT (dT (dT (dT (dH)))))); rfl) | ((focus (with_reducible exact dT (dT (dT (dT (dT (dH))))))); rfl) | ((focus (with_reducible exact dT (dT (dT (dT (dT (dT (dH)))))))); rfl)); rfl; exact iF; kernel_rfl; rfl; rfl; (focus (first | omega | (simp; done) | (simp; omega))); clear H; intro vq wn H; (try simp only [yM, yN, yO] at H); simp only [Act.put, yA, yB, yC, yD, yE, yF]) | ((with_reducible apply st_appendrb H); (first | ((focus (with_reducible exact dH)); rfl) | ((focus (with_reducible exact dT (dH))); rfl) | ((focus (with_reducible exact dT (dT (dH)))); rfl) | ((focus (with_reducible exact dT (dT (dT (dH))))); rfl) | ((focus (with_reducible exact dT (dT (dT (dT (dH)))))); rfl) | ((focus (with_reducible exact dT (dT (dT (dT (dT (dH))))))); rfl) | ((focus (with_reducible exact dT (dT (dT (dT (dT (dT (dH)))))))); rfl)); rfl; exact iF; kernel_rfl; rfl; rfl; (focus (first | omega | (simp; done) | (simp; omega))); clear H; intro vq wn H; (try simp only [yM, yN, yO] at H); simp only [Act.put, yA, yB, yC, yD, yE, yF]) | (go_at_fn g; refine gvF (hP' _ H.below) H ?_; clear H; intro wn H) | ((with_reducible apply st_grow0 (E := 30) (s := 2) H); rfl; rfl; kernel_rfl; kernel_rfl; (focus assumption); (focus assumption); clear H; intro gg cc zs wn hcc H; simp only [Act.put, yA, yB, yC, yD, yE, yF]) | fail)
      go_loopg [6, 8, 27] i (fun m ov _ iv wr => ∃ (j t : Nat) (v : Value) (xs : List Value), j + m = i ∧ t ≤ s ∧ iv = .int .i64 j ∧ v = ov ∧ Hid (t = (l.take j).flatten.length ∧ xs = flat encFm (l.take j).flatten) ∧ Hs noRow w [Hl.row 30 2 v t xs] wr)
      case atStart => exact ⟨0, 0, _, [], by omega, by omega, rfl, rfl, Lib.hid ⟨rfl, rfl⟩, H.sel sF⟩
      case round =>
        clear H
        obtain ⟨j, t, v, xs, hj, hts, rfl, rfl, HX, H⟩ := hrel
        by_cases hlt : j < i
        · obtain ⟨x, hx⟩ : ∃ x, l[j]? = some x := ⟨l[j]'(by rw [← HN.out]; exact hlt), List.getElem?_eq_getElem (by rw [← HN.out]; exact hlt)⟩
          have hs := sl_at (by have := HR.out; rw [HN.out] at this; exact this) hx
          rw [← HN.out] at hs
          obtain ⟨b, off, c', cs, hv, hcs, hA⟩ := hs
          injection hv with hv1 hv2 hv3
          subst hv1 hv3
          obtain ⟨u, hu⟩ : ∃ u, cs = [u] := by obtain ⟨u, _, rfl, _⟩ := hcs; exact ⟨u, rfl⟩
          subst hu
          have h1 : w.cell? ⟨b, off + j, none⟩ = some u := by have h := hA.head (u := u) rfl; rw [show j * Ty.s _ = j from Nat.mul_one j] at h; exact h
          have hRd := sl_rd hcs
          have hone := flat_ones encFm_one x
          have hle := flatten_take_le l (j + 1)
          rw [flatten_take hx, List.length_append, ← HX.out.1, ← HT.out] at hle
          have HX2 : Hid (t + x.length = (l.take (j + 1)).flatten.length ∧ xs ++ flat encFm x = flat encFm (l.take (j + 1)).flatten) := Lib.hid ⟨by rw [flatten_take hx, List.length_append, ← HX.out.1], by rw [flatten_take hx, flat_append, ← HX.out.2]⟩
          have hlt2 : (j : Int) < i := by omega
          clear hx hv2 hA HX hcs
          generalize x.length = xn at *
          generalize flat encFm x = xx at *
          go_wp2_with (first | ((first | ((with_reducible apply st_load1 H); decide +kernel; rfl; exact cF) | ((with_reducible apply st_loads H); decide +kernel; rfl; exact iF; exact zF; rfl)); clear H; intro wn H; (try simp only [splice, yG, yH, yI, yJ, yK, yL, yM, yN, yO, yP, yQ, Nat.reduceAdd, yA, yB, yC] at H); simp only [Act.put, yA, yB, yC, yD, yE, yF]) | ((first | ((with_reducible apply st_strsum H); rfl; rfl; exact szF; kernel_rfl) | ((with_reducible apply st_loadat H); decide +kernel; rfl; exact aF; exact zF; rfl)); clear H; intro wn H; simp only [Act.put, yA, yB, yC, yD, yE, yF]) | ((with_reducible apply st_appendb H); (first | ((focus (with_reducible exact dH)); rfl) | ((focus (with_reducible exact dT (dH))); rfl) | ((focus (with_reducible exact dT (dT (dH)))); rfl) | ((focus (with_reducible exact dT (dT (dT (dH))))); rfl) | ((focus (with_reducible exact dT (dT (dT (dT (dH)))))); rfl) | ((focus (with_reducible exact dT (dT (dT (dT (dT (dH))))))); rfl) | ((focus (with_reducible exact dT (dT (dT (dT (dT (dT (dH)))))))); rfl)); rfl; exact iF; kernel_rfl; rfl; rfl; (focus (first | omega | (simp; done) | (simp; omega))); clear H; intro vq wn H; (try simp only [yM, yN, yO] at H); simp only [Act.put, yA, yB, yC, yD, yE, yF]) | ((with_reducible apply st_appendrb H); (first | ((focus (with_reducible exact dH)); rfl) | ((focus (with_reducible exact dT (dH))); rfl) | ((focus (with_reducible exact dT (dT (dH)))); rfl) | ((focus (with_reducible exact dT (dT (dT (dH))))); rfl) | ((focus (with_reducible exact dT (dT (dT (dT (dH)))))); rfl) | ((focus (with_reducible exact dT (dT (dT (dT (dT (dH))))))); rfl) | ((focus (with_reducible exact dT (dT (dT (dT (dT (dT (dH)))))))); rfl)); rfl; exact iF; kernel_rfl; rfl; rfl; (focus (first | omega | (simp; done) | (simp; omega))); clear H; intro vq wn H; (try simp only [yM, yN, yO] at H); simp only [Act.put, yA, yB, yC, yD, yE, yF]) | (go_at_fn g; refine gvF (hP' _ H.below) H ?_; clear H; intro wn H) | ((with_reducible apply st_grow0 (E := 30) (s := 2) H); rfl; rfl; kernel_rfl; kernel_rfl; (focus assumption); (focus assumption); clear H; intro gg cc zs wn hcc H; simp only [Act.put, yA, yB, yC, yD, yE, yF]) | ((with_reducible apply st_appendr H); (first | ((focus (with_reducible exact dH)); rfl) | ((focus (with_reducible exact dT (dH))); rfl)); rfl; kernel_rfl; (focus exact (hRd.later H.below)); exact hone; (focus omega); clear H; intro vq wn H; simp only [Act.put, yA, yB, yC, yD, yE, yF]) | fail)
          go_roundg (i - (j + 1))
          case measure => omega
          case rel => exact ⟨j + 1, t + xn, _, _, by omega, by omega, by go_num, rfl, HX2, H.sel sF⟩
        · obtain rfl : j = i := by omega
          have hlt2 : ¬ (j : Int) < j := by omega
          go_wp2_with (first | ((first | ((with_reducible apply st_load1 H); decide +kernel; rfl; exact cF) | ((with_reducible apply st_loads H); decide +kernel; rfl; exact iF; exact zF; rfl)); clear H; intro wn H; (try simp only [splice, yG, yH, yI, yJ, yK, yL, yM, yN, yO, yP, yQ, Nat.reduceAdd, yA, yB, yC] at H); simp only [Act.put, yA, yB, yC, yD, yE, yF]) | ((first | ((with_reducible apply st_strsum H); rfl; rfl; exact szF; kernel_rfl) | ((with_reducible apply st_loadat H); decide +kernel; rfl; exact aF; exact zF; rfl)); clear H; intro wn H; simp only [Act.put, yA, yB, yC, yD, yE, yF]) | ((with_reducible apply st_appendb H); (first | ((focus (with_reducible exact dH)); rfl) | ((focus (with_reducible exact dT (dH))); rfl) | ((focus (with_reducible exact dT (dT (dH)))); rfl) | ((focus (with_reducible exact dT (dT (dT (dH))))); rfl) | ((focus (with_reducible exact dT (dT (dT (dT (dH)))))); rfl) | ((focus (with_reducible exact dT (dT (dT (dT (dT (dH))))))); rfl) | ((focus (with_reducible exact dT (dT (dT (dT (dT (dT (dH)))))))); rfl)); rfl; exact iF; kernel_rfl; rfl; rfl; (focus (first | omega | (simp; done) | (simp; omega))); clear H; intro vq wn H; (try simp only [yM, yN, yO] at H); simp only [Act.put, yA, yB, yC, yD, yE, yF]) | ((with_reducible apply st_appendrb H); (first | ((focus (with_reducible exact dH)); rfl) | ((focus (with_reducible exact dT (dH))); rfl) | ((focus (with_reducible exact dT (dT (dH)))); rfl) | ((focus (with_reducible exact dT (dT (dT (dH))))); rfl) | ((focus (with_reducible exact dT (dT (dT (dT (dH)))))); rfl) | ((focus (with_reducible exact dT (dT (dT (dT (dT (dH))))))); rfl) | ((focus (with_reducible exact dT (dT (dT (dT (dT (dT (dH)))))))); rfl)); rfl; exact iF; kernel_rfl; rfl; rfl; (focus (first | omega | (simp; done) | (simp; omega))); clear H; intro vq wn H; (try simp only [yM, yN, yO] at H); simp only [Act.put, yA, yB, yC, yD, yE, yF]) | (go_at_fn g; refine gvF (hP' _ H.below) H ?_; clear H; intro wn H) | ((with_reducible apply st_grow0 (E := 30) (s := 2) H); rfl; rfl; kernel_rfl; kernel_rfl; (focus assumption); (focus assumption); clear H; intro gg cc zs wn hcc H; simp only [Act.put, yA, yB, yC, yD, yE, yF]) | ((with_reducible apply st_appendr H); (first | ((focus (with_reducible exact dH)); rfl) | ((focus (with_reducible exact dT (dH))); rfl)); rfl; kernel_rfl; (focus exact (hRd.later H.below)); exact hone; (focus omega); clear H; intro vq wn H; simp only [Act.put, yA, yB, yC, yD, yE, yF]) | fail)
          go_ret
          have e : l.take j = l := List.take_of_length_le (by rw [← HN.out]; exact Nat.le_refl _)
          have h1 := HX.out
          rw [e] at h1
          exact ret_flat H h1.2 h1.1
set_option maxRecDepth 100000 in
set_option maxHeartbeats 4000000 in
theorem grow0_Fm (w : World) : Gives Try.prog 27 #[.slice none 0 0, .int .i64 0] w (.slice none 0 0) := by
  have H := Hs.start noRow w
  unfold Gives
  go_enter Try.func27, Try.ntmps27
  go_wp2_with (first | ((first | ((with_reducible apply st_load1 H); decide +kernel; rfl; exact cF) | ((with_reducible apply st_loads H); decide +kernel; rfl; exact iF; exact zF; rfl)); clear H; intro wn H; (try simp only [splice, yG, yH, yI, yJ, yK, yL, yM, yN, yO, yP, yQ, Nat.reduceAdd, yA, yB, yC] at H); simp only [Act.put, yA, yB, yC, yD, yE, yF]) | ((first | ((with_reducible apply st_strsum H); rfl; rfl; exact szF; kernel_rfl)); clear H; intro wn H; simp only [Act.put, yA, yB, yC, yD, yE, yF]) | ((with_reducible apply st_appendb H); (first | ((focus (with_reducible exact dH)); rfl) | ((focus (with_reducible exact dT (dH))); rfl) | ((focus (with_reducible exact dT (dT (dH)))); rfl) | ((focus (with_reducible exact dT (dT (dT (dH))))); rfl) | ((focus (with_reducible exact dT (dT (dT (dT (dH)))))); rfl) | ((focus (with_reducible exact dT (dT (dT (dT (dT (dH))))))); rfl) | ((focus (with_reducible exact dT (dT (dT (dT (dT (dT (dH)))))))); rfl)); rfl; exact iF; kernel_rfl; rfl; rfl; (focus (first | omega | (simp; done) | (simp; omega))); clear H; intro vq wn H; (try simp only [yM, yN, yO] at H); simp only [Act.put, yA, yB, yC, yD, yE, yF]) | ((with_reducible apply st_appendrb H); (first | ((focus (with_reducible exact dH)); rfl) | ((focus (with_reducible exact dT (dH))); rfl) | ((focus (with_reducible exact dT (dT (dH)))); rfl) | ((focus (with_reducible exact dT (dT (dT (dH))))); rfl) | ((focus (with_reducible exact dT (dT (dT (dT (dH)))))); rfl) | ((focus (with_reducible exact dT (dT (dT (dT (dT (dH))))))); rfl) | ((focus (with_reducible exact dT (dT (dT (dT (dT (dT (dH)))))))); rfl)); rfl; exact iF; kernel_rfl; rfl; rfl; (focus (first | omega | (simp; done) | (simp; omega))); clear H; intro vq wn H; (try simp only [yM, yN, yO] at H); simp only [Act.put, yA, yB, yC, yD, yE, yF]) | (go_at_fn g; refine gvF (hP' _ H.below) H ?_; clear H; intro wn H) | ((with_reducible apply st_grow0 (E := 30) (s := 2) H); rfl; rfl; kernel_rfl; kernel_rfl; (focus assumption); (focus assumption); clear H; intro gg cc zs wn hcc H; simp only [Act.put, yA, yB, yC, yD, yE, yF]) | ((with_reducible apply st_appendr H); (first | ((focus (with_reducible exact dH)); rfl) | ((focus (with_reducible exact dT (dH))); rfl)); rfl; kernel_rfl; (focus exact (hRd.later H.below)); exact hone; (focus omega); clear H; intro vq wn H; simp only [Act.put, yA, yB, yC, yD, yE, yF]) | fail)
  go_ret
  exact ⟨rfl, H.below⟩
set_option maxRecDepth 100000 in
set_option maxHeartbeats 4000000 in
theorem concat0_Fm (v : Value) (l : List (List Fm)) (h0 : l.flatten.length = 0) (w : World) (hr : (Ty.sl 26 (Ty.sl 30 tyFm)).rd w [v] l) :
    Rets Try.prog [] 17 #[v] w (tOwn (Ty.sl 30 tyFm) l.flatten) := by
  obtain ⟨A, c, rfl, hlc, hcm⟩ := sl_form hr
  unfold maxLen at *
  have HR := Lib.hid hr
  obtain ⟨n, hn⟩ : ∃ n, n = l.length := ⟨_, rfl⟩
  have hnl : n ≤ 9223372036854775807 := by omega
  rw [← hn] at HR ⊢
  have HN := Lib.hid hn
  obtain ⟨tot, ht⟩ : ∃ t, t = l.flatten.length := ⟨_, rfl⟩
  rw [← ht] at h0
  have hb : tot ≤ 1000000 := by omega
  have HT := Lib.hid ht
  clear hr hn hlc hcm ht
  have H := Hs.start noRow w
  refine Rets.of ?_
  go_enter Try.func17, Try.ntmps17
  go_wp2_with (first | ((first | ((with_reducible apply st_load1 H); decide +kernel; rfl; exact cF) | ((with_reducible apply st_loads H); decide +kernel; rfl; exact iF; exact zF; rfl)); clear H; intro wn H; (try simp only [splice, yG, yH, yI, yJ, yK, yL, yM, yN, yO, yP, yQ, Nat.reduceAdd, yA, yB, yC] at H); simp only [Act.put, yA, yB, yC, yD, yE, yF]) | ((first | ((with_reducible apply st_strsum H); rfl; rfl; exact szF; kernel_rfl) | ((with_reducible apply st_loadat H); decide +kernel; rfl; exact aF; exact zF; rfl)); clear H; intro wn H; simp only [Act.put, yA, yB, yC, yD, yE, yF]) | ((with_reducible apply st_appendb H); (first | ((focus (with_reducible exact dH)); rfl) | ((focus (with_reducible exact dT (dH))); rfl) | ((focus (with_reducible exact dT (dT (dH)))); rfl) | ((focus (with_reducible exact dT (dT (dT (dH))))); rfl) | ((focus (with_reducible exact dT (dT (dT (dT (dH)))))); rfl) | ((focus (with_reducible exact dT (dT (dT (dT (dT (dH))))))); rfl) | ((focus (with_reducible exact dT (dT (dT (dT (dT (dT (dH)))))))); rfl)); rfl; exact iF; kernel_rfl; rfl; rfl; (focus (first | omega | (simp; done) | (simp; omega))); clear H; intro vq wn H; (try simp only [yM, yN, yO] at H); simp only [Act.put, yA, yB, yC, yD, yE, yF]) | ((with_reducible apply st_appendrb H); (first | ((focus (with_reducible exact dH)); rfl) | ((focus (with_reducible exact dT (dH))); rfl) | ((focus (with_reducible exact dT (dT (dH)))); rfl) | ((focus (with_reducible exact dT (dT (dT (dH))))); rfl) | ((focus (with_reducible exact dT (dT (dT (dT (dH)))))); rfl) | ((focus (with_reducible exact dT (dT (dT (dT (dT (dH))))))); rfl) | ((focus (with_reducible exact dT (dT (dT (dT (dT (dT (dH)))))))); rfl)); rfl; exact iF; kernel_rfl; rfl; rfl; (focus (first | omega | (simp; done) | (simp; omega))); clear H; intro vq wn H; (try simp only [yM, yN, yO] at H); simp only [Act.put, yA, yB, yC, yD, yE, yF]) | (go_at_fn g; refine gvF (hP' _ H.below) H ?_; clear H; intro wn H) | ((with_reducible apply st_grow0 (E := 30) (s := 2) H); rfl; rfl; kernel_rfl; kernel_rfl; (focus assumption); (focus assumption); clear H; intro gg cc zs wn hcc H; simp only [Act.put, yA, yB, yC, yD, yE, yF]) | ((with_reducible apply st_appendr H); (first | ((focus (with_reducible exact dH)); rfl) | ((focus (with_reducible exact dT (dH))); rfl)); rfl; kernel_rfl; (focus exact (hRd.later H.below)); exact hone; (focus omega); clear H; intro vq wn H; simp only [Act.put, yA, yB, yC, yD, yE, yF]) | fail)
  go_loopg [3, 5, 11] n (fun m sv _ iv wr => ∃ (i s : Nat), i + m = n ∧ iv = .int .i64 i ∧ sv = .int .i64 s ∧ s ≤ tot ∧ Hid (s = (l.take i).flatten.length) ∧ Hs noRow w [] wr)
  case atStart => exact ⟨0, 0, by omega, rfl, rfl, by omega, Lib.hid rfl, H⟩
  case round =>
    clear H
    obtain ⟨i, s, hi, rfl, rfl, hst, HI, H⟩ := hrel
    by_cases hlt : i < n
    · obtain ⟨x, hx⟩ : ∃ x, l[i]? = some x := ⟨l[i]'(by rw [← HN.out]; exact hlt), List.getElem?_eq_getElem (by rw [← HN.out]; exact hlt)⟩
      have hs := sl_at (by have := HR.out; rw [HN.out] at this; exact this) hx
      rw [← HN.out] at hs
      obtain ⟨b, off, c', cs, hv, hcs, hA⟩ := hs
      injection hv with hv1 hv2 hv3
      subst hv1 hv3
      obtain ⟨u, hu⟩ : ∃ u, cs = [u] := by obtain ⟨u, _, rfl, _⟩ := hcs; exact ⟨u, rfl⟩
      subst hu
      have h1 : w.cell? ⟨b, off + i, none⟩ = some u := by have h := hA.head (u := u) rfl; rw [show i * Ty.s _ = i from Nat.mul_one i] at h; exact h
      obtain ⟨Ax, cx, rfl, _, _⟩ := sl_form hcs
      have hle := flatten_take_le l (i + 1)
      rw [flatten_take hx, List.length_append, ← HI.out, ← HT.out] at hle
      have HI2 : Hid (s + x.length = (l.take (i + 1)).flatten.length) := Lib.hid (by rw [flatten_take hx, List.length_append, ← HI.out])
      have hlt1 : (i : Int) < n := by omega
      have hneg : ¬ (s : Int) + x.length < 0 := by omega
      clear hx hv2 hA HI hcs
      generalize x.length = xn at *
      go_wp2_with (first | ((first | ((with_reducible apply st_load1 H); decide +kernel; rfl; exact cF) | ((with_reducible apply st_loads H); decide +kernel; rfl; exact iF; exact zF; rfl)); clear H; intro wn H; (try simp only [splice, yG, yH, yI, yJ, yK, yL, yM, yN, yO, yP, yQ, Nat.reduceAdd, yA, yB, yC] at H); simp only [Act.put, yA, yB, yC, yD, yE, yF]) | ((first | ((with_reducible apply st_strsum H); rfl; rfl; exact szF; kernel_rfl) | ((with_reducible apply st_loadat H); decide +kernel; rfl; exact aF; exact zF; rfl)); clear H; intro wn H; simp only [Act.put, yA, yB, yC, yD, yE, yF]) | ((with_reducible apply st_appendb H); (first | ((focus (with_reducible exact dH)); rfl) | ((focus (with_reducible exact dT (dH))); rfl) | ((focus (with_reducible exact dT (dT (dH)))); rfl) | ((focus (with_reducible exact dT (dT (dT (dH))))); rfl) | ((focus (with_reducible exact dT (dT (dT (dT (dH)))))); rfl) | ((focus (with_reducible exact dT (dT (dT (dT (dT (dH))))))); rfl) | ((focus (with_reducible exact dT (dT (dT (dT (dT (dT (dH)))))))); rfl)); rfl; exact iF; kernel_rfl; rfl; rfl; (focus (first | omega | (simp; done) | (simp; omega))); clear H; intro vq wn H; (try simp only [yM, yN, yO] at H); simp only [Act.put, yA, yB, yC, yD, yE, yF]) | ((with_reducible apply st_appendrb H); (first | ((focus (with_reducible exact dH)); rfl) | ((focus (with_reducible exact dT (dH))); rfl) | ((focus (with_reducible exact dT (dT (dH)))); rfl) | ((focus (with_reducible exact dT (dT (dT (dH))))); rfl) | ((focus (with_reducible exact dT (dT (dT (dT (dH)))))); rfl) | ((focus (with_reducible exact dT (dT (dT (dT (dT (dH))))))); rfl) | ((focus (with_reducible exact dT (dT (dT (dT (dT (dT (dH)))))))); rfl)); rfl; exact iF; kernel_rfl; rfl; rfl; (focus (first | omega | (simp; done) | (simp; omega))); clear H; intro vq wn H; (try simp only [yM, yN, yO] at H); simp only [Act.put, yA, yB, yC, yD, yE, yF]) | (go_at_fn g; refine gvF (hP' _ H.below) H ?_; clear H; intro wn H) | ((with_reducible apply st_grow0 (E := 30) (s := 2) H); rfl; rfl; kernel_rfl; kernel_rfl; (focus assumption); (focus assumption); clear H; intro gg cc zs wn hcc H; simp only [Act.put, yA, yB, yC, yD, yE, yF]) | ((with_reducible apply st_appendr H); (first | ((focus (with_reducible exact dH)); rfl) | ((focus (with_reducible exact dT (dH))); rfl)); rfl; kernel_rfl; (focus exact (hRd.later H.below)); exact hone; (focus omega); clear H; intro vq wn H; simp only [Act.put, yA, yB, yC, yD, yE, yF]) | fail)
      go_roundg (n - (i + 1))
      case measure => omega
      case rel => exact ⟨i + 1, s + xn, by omega, by go_num, by go_num, by omega, HI2, H⟩
    · obtain rfl : i = n := by omega
      have hlt1 : ¬ (i : Int) < i := by omega
      have hs : s = tot := by rw [HI.out, HT.out, List.take_of_length_le (by rw [← HN.out]; exact Nat.le_refl _)]
      subst hs
      clear HI
      have hs0 : (s : Int) = 0 := by omega
      go_wp2_with (first | ((first | ((with_reducible apply st_load1 H); decide +kernel; rfl; exact cF) | ((with_reducible apply st_loads H); decide +kernel; rfl; exact iF; exact zF; rfl)); clear H; intro wn H; (try simp only [splice, yG, yH, yI, yJ, yK, yL, yM, yN, yO, yP, yQ, Nat.reduceAdd, yA, yB, yC] at H); simp only [Act.put, yA, yB, yC, yD, yE, yF]) | ((first | ((with_reducible apply st_strsum H); rfl; rfl; exact szF; kernel_rfl) | ((with_reducible apply st_loadat H); decide +kernel; rfl; exact aF; exact zF; rfl)); clear H; intro wn H; simp only [Act.put, yA, yB, yC, yD, yE, yF]) | ((with_reducible apply st_appendb H); (first | ((focus (with_reducible exact dH)); rfl) | ((focus (with_reducible exact dT (dH))); rfl) | ((focus (with_reducible exact dT (dT (dH)))); rfl) | ((focus (with_reducible exact dT (dT (dT (dH))))); rfl) | ((focus (with_reducible exact dT (dT (dT (dT (dH)))))); rfl) | ((focus (with_reducible exact dT (dT (dT (dT (dT (dH))))))); rfl) | ((focus (with_reducible exact dT (dT (dT (dT (dT (dT (dH)))))))); rfl)); rfl; exact iF; kernel_rfl; rfl; rfl; (focus (first | omega | (simp; done) | (simp; omega))); clear H; intro vq wn H; (try simp only [yM, yN, yO] at H); simp only [Act.put, yA, yB, yC, yD, yE, yF]) | ((with_reducible apply st_appendrb H); (first | ((focus (with_reducible exact dH)); rfl) | ((focus (with_reducible exact dT (dH))); rfl) | ((focus (with_reducible exact dT (dT (dH)))); rfl) | ((focus (with_reducible exact dT (dT (dT (dH))))); rfl) | ((focus (with_reducible exact dT (dT (dT (dT (dH)))))); rfl) | ((focus (with_reducible exact dT (dT (dT (dT (dT (dH))))))); rfl) | ((focus (with_reducible exact dT (dT (dT (dT (dT (dT (dH)))))))); rfl)); rfl; exact iF; kernel_rfl; rfl; rfl; (focus (first | omega | (simp; done) | (simp; omega))); clear H; intro vq wn H; (try simp only [yM, yN, yO] at H); simp only [Act.put, yA, yB, yC, yD, yE, yF]) | (go_at_fn g; refine gvF (hP' _ H.below) H ?_; clear H; intro wn H) | ((with_reducible apply st_grow0 (E := 30) (s := 2) H); rfl; rfl; kernel_rfl; kernel_rfl; (focus assumption); (focus assumption); clear H; intro gg cc zs wn hcc H; simp only [Act.put, yA, yB, yC, yD, yE, yF]) | ((with_reducible apply st_appendr H); (first | ((focus (with_reducible exact dH)); rfl) | ((focus (with_reducible exact dT (dH))); rfl)); rfl; kernel_rfl; (focus exact (hRd.later H.below)); exact hone; (focus omega); clear H; intro vq wn H; simp only [Act.put, yA, yB, yC, yD, yE, yF]) | fail)
      refine gvF (grow0_Fm _) H ?_; clear H; intro wn H
      have Hq := H.putRow 30 2 none
      clear H
      have H := Hq
      clear Hq
      go_wp2_with (first | ((first | ((with_reducible apply st_load1 H); decide +kernel; rfl; exact cF) | ((with_reducible apply st_loads H); decide +kernel; rfl; exact iF; exact zF; rfl)); clear H; intro wn H; (try simp only [splice, yG, yH, yI, yJ, yK, yL, yM, yN, yO, yP, yQ, Nat.reduceAdd, yA, yB, yC] at H); simp only [Act.put, yA, yB, yC, yD, yE, yF]) | ((first | ((with_reducible apply st_strsum H); rfl; rfl; exact szF; kernel_rfl) | ((with_reducible apply st_loadat H); decide +kernel; rfl; exact aF; exact zF; rfl)); clear H; intro wn H; simp only [Act.put, yA, yB, yC, yD, yE, yF]) | ((with_reducible apply st_appendb H); (first | ((focus (with_reducible exact dH)); rfl) | ((focus (with_reducible exact dT (dH))); rfl) | ((focus (with_reducible exact dT (dT (dH)))); rfl) | ((focus (with_reducible exact dT (dT (dT (dH))))); rfl) | ((focus (with_reducible exact dT (dT (dT (dT (dH)))))); rfl) | ((focus (with_reducible exact dT (dT (dT (dT (dT (dH))))))); rfl) | ((focus (with_reducible exact dT (dT (dT (dT (dT (dT (dH)))))))); rfl)); rfl; exact iF; kernel_rfl; rfl; rfl; (focus (first | omega | (simp; done) | (simp; omega))); clear H; intro vq wn H; (try simp only [yM, yN, yO] at H); simp only [Act.put, yA, yB, yC, yD, yE, yF]) | ((with_reducible apply st_appendrb H); (first | ((focus (with_reducible exact dH)); rfl) | ((focus (with_reducible exact dT (dH))); rfl) | ((focus (with_reducible exact dT (dT (dH)))); rfl) | ((focus (with_reducible exact dT (dT (dT (dH))))); rfl) | ((focus (with_reducible exact dT (dT (dT (dT (dH)))))); rfl) | ((focus (with_reducible exact dT (dT (dT (dT (dT (dH))))))); rfl) | ((focus (with_reducible exact dT (dT (dT (dT (dT (dT (dH)))))))); rfl)); rfl; exact iF; kernel_rfl; rfl; rfl; (focus (first | omega | (simp; done) | (simp; omega))); clear H; intro vq wn H; (try simp only [yM, yN, yO] at H); simp only [Act.put, yA, yB, yC, yD, yE, yF]) | (go_at_fn g; refine gvF (hP' _ H.below) H ?_; clear H; intro wn H) | ((with_reducible apply st_grow0 (E := 30) (s := 2) H); rfl; rfl; kernel_rfl; kernel_rfl; (focus assumption); (focus assumption); clear H; intro gg cc zs wn hcc H; simp only [Act.put, yA, yB, yC, yD, yE, yF]) | ((with_reducible apply st_appendr H); (first | ((focus (with_reducible exact dH)); rfl) | ((focus (with_reducible exact dT (dH))); rfl)); rfl; kernel_rfl; (focus exact (hRd.later H.below)); exact hone; (focus omega); clear H; intro vq wn H; simp only [Act.put, yA, yB, yC, yD, yE, yF]) | fail)
      go_loopg [6, 8, 27] i (fun m ov _ iv wr => ∃ (j t : Nat) (v : Value) (xs : List Value), j + m = i ∧ t ≤ s ∧ iv = .int .i64 j ∧ v = ov ∧ Hid (t = (l.take j).flatten.length ∧ xs = flat encFm (l.take j).flatten) ∧ Hs noRow w [Hl.row 30 2 v t xs] wr)
      case atStart => exact ⟨0, 0, _, [], by omega, by omega, rfl, rfl, Lib.hid ⟨rfl, rfl⟩, H.sel sF⟩
      case round =>
        clear H
        obtain ⟨j, t, v, xs, hj, hts, rfl, rfl, HX, H⟩ := hrel
        by_cases hlt : j < i
        · obtain ⟨x, hx⟩ : ∃ x, l[j]? = some x := ⟨l[j]'(by rw [← HN.out]; exact hlt), List.getElem?_eq_getElem (by rw [← HN.out]; exact hlt)⟩
          have hs := sl_at (by have := HR.out; rw [HN.out] at this; exact this) hx
          rw [← HN.out] at hs
          obtain ⟨b, off, c', cs, hv, hcs, hA⟩ := hs
          injection hv with hv1 hv2 hv3
          subst hv1 hv3
          obtain ⟨u, hu⟩ : ∃ u, cs = [u] := by obtain ⟨u, _, rfl, _⟩ := hcs; exact ⟨u, rfl⟩
          subst hu
          have h1 : w.cell? ⟨b, off + j, none⟩ = some u := by have h := hA.head (u := u) rfl; rw [show j * Ty.s _ = j from Nat.mul_one j] at h; exact h
          have hRd := sl_rd hcs
          have hone := flat_ones encFm_one x
          have hle := flatten_take_le l (j + 1)
          rw [flatten_take hx, List.length_append, ← HX.out.1, ← HT.out] at hle
          have HX2 : Hid (t + x.length = (l.take (j + 1)).flatten.length ∧ xs ++ flat encFm x = flat encFm (l.take (j + 1)).flatten) := Lib.hid ⟨by rw [flatten_take hx, List.length_append, ← HX.out.1], by rw [flatten_take hx, flat_append, ← HX.out.2]⟩
          have hlt2 : (j : Int) < i := by omega
          clear hx hv2 hA HX hcs
          generalize x.length = xn at *
          generalize flat encFm x = xx at *
          go_wp2_with (first | ((first | ((with_reducible apply st_load1 H); decide +kernel; rfl; exact cF) | ((with_reducible apply st_loads H); decide +kernel; rfl; exact iF; exact zF; rfl)); clear H; intro wn H; (try simp only [splice, yG, yH, yI, yJ, yK, yL, yM, yN, yO, yP, yQ, Nat.reduceAdd, yA, yB, yC] at H); simp only [Act.put, yA, yB, yC, yD, yE, yF]) | ((first | ((with_reducible apply st_strsum H); rfl; rfl; exact szF; kernel_rfl) | ((with_reducible apply st_loadat H); decide +kernel; rfl; exact aF; exact zF; rfl)); clear H; intro wn H; simp only [Act.put, yA, yB, yC, yD, yE, yF]) | ((with_reducible apply st_appendb H); (first | ((focus (with_reducible exact dH)); rfl) | ((focus (with_reducible exact dT (dH))); rfl) | ((focus (with_reducible exact dT (dT (dH)))); rfl) | ((focus (with_reducible exact dT (dT (dT (dH))))); rfl) | ((focus (with_reducible exact dT (dT (dT (dT (dH)))))); rfl) | ((focus (with_reducible exact dT (dT (dT (dT (dT (dH))))))); rfl) | ((focus (with_reducible exact dT (dT (dT (dT (dT (dT (dH)))))))); rfl)); rfl; exact iF; kernel_rfl; rfl; rfl; (focus (first | omega | (simp; done) | (simp; omega))); clear H; intro vq wn H; (try simp only [yM, yN, yO] at H); simp only [Act.put, yA, yB, yC, yD, yE, yF]) | ((with_reducible apply st_appendrb H); (first | ((focus (with_reducible exact dH)); rfl) | ((focus (with_reducible exact dT (dH))); rfl) | ((focus (with_reducible exact dT (dT (dH)))); rfl) | ((focus (with_reducible exact dT (dT (dT (dH))))); rfl) | ((focus (with_reducible exact dT (dT (dT (dT (dH)))))); rfl) | ((focus (with_reducible exact dT (dT (dT (dT (dT (dH))))))); rfl) | ((focus (with_reducible exact dT (dT (dT (dT (dT (dT (dH)))))))); rfl)); rfl; exact iF; kernel_rfl; rfl; rfl; (focus (first | omega | (simp; done) | (simp; omega))); clear H; intro vq wn H; (try simp only [yM, yN, yO] at H); simp only [Act.put, yA, yB, yC, yD, yE, yF]) | (go_at_fn g; refine gvF (hP' _ H.below) H ?_; clear H; intro wn H) | ((with_reducible apply st_grow0 (E := 30) (s := 2) H); rfl; rfl; kernel_rfl; kernel_rfl; (focus assumption); (focus assumption); clear H; intro gg cc zs wn hcc H; simp only [Act.put, yA, yB, yC, yD, yE, yF]) | ((with_reducible apply st_appendr H); (first | ((focus (with_reducible exact dH)); rfl) | ((focus (with_reducible exact dT (dH))); rfl)); rfl; kernel_rfl; (focus exact (hRd.later H.below)); exact hone; (focus omega); clear H; intro vq wn H; simp only [Act.put, yA, yB, yC, yD, yE, yF]) | ((with_reducible apply st_appendr H); (first | ((focus (with_reducible exact dH)); rfl) | ((focus (with_reducible exact dT (dH))); rfl)); rfl; kernel_rfl; (focus exact (hRd.later H.below)); exact hone; (focus omega); clear H; intro vq wn H; simp only [Act.put, yA, yB, yC, yD, yE, yF]) | fail)
          go_roundg (i - (j + 1))
          case measure => omega
          case rel => exact ⟨j + 1, t + xn, _, _, by omega, by omega, by go_num, rfl, HX2, H.sel sF⟩
        · obtain rfl : j = i := by omega
          have hlt2 : ¬ (j : Int) < j := by omega
          go_wp2_with (first | ((first | ((with_reducible apply st_load1 H); decide +kernel; rfl; exact cF) | ((with_reducible apply st_loads H); decide +kernel; rfl; exact iF; exact zF; rfl)); clear H; intro wn H; (try simp only [splice, yG, yH, yI, yJ, yK, yL, yM, yN, yO, yP, yQ, Nat.reduceAdd, yA, yB, yC] at H); simp only [Act.put, yA, yB, yC, yD, yE, yF]) | ((first | ((with_reducible apply st_strsum H); rfl; rfl; exact szF; kernel_rfl) | ((with_reducible apply st_loadat H); decide +kernel; rfl; exact aF; exact zF; rfl)); clear H; intro wn H; simp only [Act.put, yA, yB, yC, yD, yE, yF]) | ((with_reducible apply st_appendb H); (first | ((focus (with_reducible exact dH)); rfl) | ((focus (with_reducible exact dT (dH))); rfl) | ((focus (with_reducible exact dT (dT (dH)))); rfl) | ((focus (with_reducible exact dT (dT (dT (dH))))); rfl) | ((focus (with_reducible exact dT (dT (dT (dT (dH)))))); rfl) | ((focus (with_reducible exact dT (dT (dT (dT (dT (dH))))))); rfl) | ((focus (with_reducible exact dT (dT (dT (dT (dT (dT (dH)))))))); rfl)); rfl; exact iF; kernel_rfl; rfl; rfl; (focus (first | omega | (simp; done) | (simp; omega))); clear H; intro vq wn H; (try simp only [yM, yN, yO] at H); simp only [Act.put, yA, yB, yC, yD, yE, yF]) | ((with_reducible apply st_appendrb H); (first | ((focus (with_reducible exact dH)); rfl) | ((focus (with_reducible exact dT (dH))); rfl) | ((focus (with_reducible exact dT (dT (dH)))); rfl) | ((focus (with_reducible exact dT (dT (dT (dH))))); rfl) | ((focus (with_reducible exact dT (dT (dT (dT (dH)))))); rfl) | ((focus (with_reducible exact dT (dT (dT (dT (dT (dH))))))); rfl) | ((focus (with_reducible exact dT (dT (dT (dT (dT (dT (dH)))))))); rfl)); rfl; exact iF; kernel_rfl; rfl; rfl; (focus (first | omega | (simp; done) | (simp; omega))); clear H; intro vq wn H; (try simp only [yM, yN, yO] at H); simp only [Act.put, yA, yB, yC, yD, yE, yF]) | (go_at_fn g; refine gvF (hP' _ H.below) H ?_; clear H; intro wn H) | ((with_reducible apply st_grow0 (E := 30) (s := 2) H); rfl; rfl; kernel_rfl; kernel_rfl; (focus assumption); (focus assumption); clear H; intro gg cc zs wn hcc H; simp only [Act.put, yA, yB, yC, yD, yE, yF]) | ((with_reducible apply st_appendr H); (first | ((focus (with_reducible exact dH)); rfl) | ((focus (with_reducible exact dT (dH))); rfl)); rfl; kernel_rfl; (focus exact (hRd.later H.below)); exact hone; (focus omega); clear H; intro vq wn H; simp only [Act.put, yA, yB, yC, yD, yE, yF]) | ((with_reducible apply st_appendr H); (first | ((focus (with_reducible exact dH)); rfl) | ((focus (with_reducible exact dT (dH))); rfl)); rfl; kernel_rfl; (focus exact (hRd.later H.below)); exact hone; (focus omega); clear H; intro vq wn H; simp only [Act.put, yA, yB, yC, yD, yE, yF]) | fail)
          go_ret
          have e : l.take j = l := List.take_of_length_le (by rw [← HN.out]; exact Nat.le_refl _)
          have h1 := HX.out
          rw [e] at h1
          exact ret_flat H h1.2 h1.1
end Go.Proofs.Ythkebpgkhblcjaa
