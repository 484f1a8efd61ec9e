/-
  The library's searches in slices of nodes, tasks, uses, notes, boxes, numbers. Printed by igen2.py.
-/
import Derived.Test.YtpfdhfchgnnpiaaGreatHv
import Derived.Test.YtpfdhfchgnnpiaaGreatGA
import Derived.Test.YtpfdhfchgnnpiaaGreatG5
set_option linter.unusedSimpArgs false
set_option linter.unusedVariables false
namespace Go.Proofs.YtpfdhfchgnnpiaaGreat
open Go.RowKit M
set_option maxRecDepth 100000 in
set_option maxHeartbeats 4000000 in
theorem indexFunc_Nd (v : Value) (l : List (Nd)) (p : Nd → Bool) (g : Nat) (lb : Array Value) (w : World) (eg : ∀ args w, (callFunc g args).run Tryz.prog w = .ok (.enter g args) w) (hr : (Ty.sl 92 tyNd).rd w [v] l) (hp : ∀ w1, Below w.heap.size w w1 → ∀ (i : Nat) (x : Nd) (cs : List Value), l[i]? = some x → tyNd.rd w1 cs x → Gives Tryz.prog g (#[.agg cs.toArray] ++ lb) w1 (.bool (p x))) :
    Gives Tryz.prog 187 #[v, .func (.func g) #[] lb] w (.int .i64 (idxF p 0 l)) := by
  obtain ⟨A, c, rfl, hlc, hcm⟩ := sl_form hr
  unfold maxLen at *
  have HR := Lib.hid hr
  have HP := Lib.hid hp
  have H := Hs.start noRow w
  obtain ⟨n, hn⟩ : ∃ n, n = l.length := ⟨_, rfl⟩
  have hnl : n ≤ 9223372036854775807 := by omega
  rw [← hn] at HR ⊢
  have HN := Lib.hid hn
  obtain ⟨z, hz⟩ : ∃ z, z = idxF p 0 l := ⟨_, rfl⟩
  rw [← hz]
  have HZ := Lib.hid hz
  clear hr hn hlc hcm hp hz
  unfold Gives
  go_enter Tryz.func187, Tryz.ntmps187
  go_wp2_with (fail)
  go_loopg [4, 5, 8] n (fun m _ _ iv wr => ∃ (i : Nat), i + m = n ∧ iv = .int .i64 i ∧ Hid (z = idxF p i (l.drop i)) ∧ Hs noRow w [] wr)
  case atStart => exact ⟨0, by omega, rfl, HZ, H⟩
  case round =>
    clear H
    obtain ⟨i, hi, rfl, HI, H⟩ := hrel
    by_cases hlt : i < n
    · obtain ⟨x, hx⟩ : ∃ x, l[i]? = some x := ⟨l[i]'(by rw [← HN.out]; exact hlt), List.getElem?_eq_getElem (by rw [← HN.out]; exact hlt)⟩
      have hs := sl_at (by have := HR.out; rw [HN.out] at this; exact this) hx
      rw [← HN.out] at hs
      obtain ⟨b, off, c', cs, hv, hcs, hA⟩ := hs
      injection hv with hv1 hv2 hv3
      subst hv1 hv3
      have hP := fun w1 hb => HP.out w1 hb i x cs hx (Ty.below _ hcs hb)
      obtain ⟨r1, r2, r3, hu, _⟩ := Nd_form hcs
      subst hu
      have hstep := HI.out
      rw [idxF_drop hx] at hstep
      have hlt1 : (i : Int) < n := by omega
      clear hx hv2 HI
      cases hpx : p x
      · rw [hpx] at hP hstep
        have hP' := hP
        have HI := Lib.hid (show z = idxF p (i + 1) (l.drop (i + 1)) from hstep)
        clear hP hstep hpx
        go_wp2_with (first | ((((with_reducible apply st_loadat H); decide +kernel; rfl; exact aF; exact zF; rfl)); clear H; intro wn H; simp only [Act.put, yA, yB, yC, yD, yE, yF]) | (go_at_fn g; refine gvF (hP' _ H.below) H ?_; clear H; intro wn H))
        go_roundg (n - (i + 1))
        case measure => omega
        case rel => exact ⟨i + 1, by omega, by go_num, HI, H⟩
      · rw [hpx] at hP hstep
        have hP' := hP
        have HI := Lib.hid (show z = (i : Int) from hstep)
        clear hP hstep hpx
        go_wp2_with (first | ((((with_reducible apply st_loadat H); decide +kernel; rfl; exact aF; exact zF; rfl)); clear H; intro wn H; simp only [Act.put, yA, yB, yC, yD, yE, yF]) | (go_at_fn g; refine gvF (hP' _ H.below) H ?_; clear H; intro wn H))
        go_ret
        exact ⟨by rw [HI.out]; rfl, H.below⟩
    · obtain rfl : i = n := by omega
      have hlt1 : ¬ (i : Int) < i := by omega
      have hz : z = -1 := by rw [HI.out, List.drop_of_length_le (by rw [← HN.out]; exact Nat.le_refl _)]; rfl
      have HI2 := Lib.hid hz
      clear hz HI HZ
      go_wp2_with (fail)
      go_ret
      exact ⟨by rw [HI2.out]; rfl, H.below⟩
set_option maxRecDepth 100000 in
set_option maxHeartbeats 4000000 in
theorem containsFunc_Nd (v : Value) (l : List (Nd)) (p : Nd → Bool) (g : Nat) (lb : Array Value) (w : World) (eg : ∀ args w, (callFunc g args).run Tryz.prog w = .ok (.enter g args) w) (hr : (Ty.sl 92 tyNd).rd w [v] l) (hp : ∀ w1, Below w.heap.size w w1 → ∀ (i : Nat) (x : Nd) (cs : List Value), l[i]? = some x → tyNd.rd w1 cs x → Gives Tryz.prog g (#[.agg cs.toArray] ++ lb) w1 (.bool (p x))) :
    Gives Tryz.prog 143 #[v, .func (.func g) #[] lb] w (.bool (l.any p)) := by
  have hI := fun w1 hb => indexFunc_Nd v l p g lb w1 eg (Ty.below _ hr hb) (fun w2 hb2 => hp w2 (hb.trans (hb2.mono hb.size)))
  have hz := idxF_ge p l 0
  obtain ⟨A, c, rfl, hlc, hcm⟩ := sl_form hr
  have H := Hs.start noRow w
  generalize idxF p 0 l = z at *
  generalize l.length = n at *
  rw [← hz]
  clear hr hp hz
  unfold Gives
  go_enter Tryz.func143, Tryz.ntmps143
  go_wp2_with ((((go_at_call 187; refine gvF (hI _ H.below) H ?_)); clear H; intro wn H))
  go_ret
  exact ⟨rfl, H.below⟩
set_option maxRecDepth 100000 in
set_option maxHeartbeats 4000000 in
theorem indexFunc_Ta (v : Value) (l : List (Ta)) (p : Ta → Bool) (g : Nat) (lb : Array Value) (w : World) (eg : ∀ args w, (callFunc g args).run Tryz.prog w = .ok (.enter g args) w) (hr : (Ty.sl 97 tyTa).rd w [v] l) (hp : ∀ w1, Below w.heap.size w w1 → ∀ (i : Nat) (x : Ta) (cs : List Value), l[i]? = some x → tyTa.rd w1 cs x → Gives Tryz.prog g (#[.agg cs.toArray] ++ lb) w1 (.bool (p x))) :
    Gives Tryz.prog 193 #[v, .func (.func g) #[] lb] w (.int .i64 (idxF p 0 l)) := by
  obtain ⟨A, c, rfl, hlc, hcm⟩ := sl_form hr
  unfold maxLen at *
  have HR := Lib.hid hr
  have HP := Lib.hid hp
  have H := Hs.start noRow w
  obtain ⟨n, hn⟩ : ∃ n, n = l.length := ⟨_, rfl⟩
  have hnl : n ≤ 9223372036854775807 := by omega
  rw [← hn] at HR ⊢
  have HN := Lib.hid hn
  obtain ⟨z, hz⟩ : ∃ z, z = idxF p 0 l := ⟨_, rfl⟩
  rw [← hz]
  have HZ := Lib.hid hz
  clear hr hn hlc hcm hp hz
  unfold Gives
  go_enter Tryz.func193, Tryz.ntmps193
  go_wp2_with (fail)
  go_loopg [4, 5, 8] n (fun m _ _ iv wr => ∃ (i : Nat), i + m = n ∧ iv = .int .i64 i ∧ Hid (z = idxF p i (l.drop i)) ∧ Hs noRow w [] wr)
  case atStart => exact ⟨0, by omega, rfl, HZ, H⟩
  case round =>
    clear H
    obtain ⟨i, hi, rfl, HI, H⟩ := hrel
    by_cases hlt : i < n
    · obtain ⟨x, hx⟩ : ∃ x, l[i]? = some x := ⟨l[i]'(by rw [← HN.out]; exact hlt), List.getElem?_eq_getElem (by rw [← HN.out]; exact hlt)⟩
      have hs := sl_at (by have := HR.out; rw [HN.out] at this; exact this) hx
      rw [← HN.out] at hs
      obtain ⟨b, off, c', cs, hv, hcs, hA⟩ := hs
      injection hv with hv1 hv2 hv3
      subst hv1 hv3
      have hP := fun w1 hb => HP.out w1 hb i x cs hx (Ty.below _ hcs hb)
      obtain ⟨r1, r2, r3, hu, _⟩ := Ta_form hcs
      subst hu
      have hstep := HI.out
      rw [idxF_drop hx] at hstep
      have hlt1 : (i : Int) < n := by omega
      clear hx hv2 HI
      cases hpx : p x
      · rw [hpx] at hP hstep
        have hP' := hP
        have HI := Lib.hid (show z = idxF p (i + 1) (l.drop (i + 1)) from hstep)
        clear hP hstep hpx
        go_wp2_with (first | ((((with_reducible apply st_loadat H); decide +kernel; rfl; exact aF; exact zF; rfl)); clear H; intro wn H; simp only [Act.put, yA, yB, yC, yD, yE, yF]) | (go_at_fn g; refine gvF (hP' _ H.below) H ?_; clear H; intro wn H))
        go_roundg (n - (i + 1))
        case measure => omega
        case rel => exact ⟨i + 1, by omega, by go_num, HI, H⟩
      · rw [hpx] at hP hstep
        have hP' := hP
        have HI := Lib.hid (show z = (i : Int) from hstep)
        clear hP hstep hpx
        go_wp2_with (first | ((((with_reducible apply st_loadat H); decide +kernel; rfl; exact aF; exact zF; rfl)); clear H; intro wn H; simp only [Act.put, yA, yB, yC, yD, yE, yF]) | (go_at_fn g; refine gvF (hP' _ H.below) H ?_; clear H; intro wn H))
        go_ret
        exact ⟨by rw [HI.out]; rfl, H.below⟩
    · obtain rfl : i = n := by omega
      have hlt1 : ¬ (i : Int) < i := by omega
      have hz : z = -1 := by rw [HI.out, List.drop_of_length_le (by rw [← HN.out]; exact Nat.le_refl _)]; rfl
      have HI2 := Lib.hid hz
      clear hz HI HZ
      go_wp2_with (fail)
      go_ret
      exact ⟨by rw [HI2.out]; rfl, H.below⟩
set_option maxRecDepth 100000 in
set_option maxHeartbeats 4000000 in
theorem indexFunc_Us (v : Value) (l : List (Us)) (p : Us → Bool) (g : Nat) (lb : Array Value) (w : World) (eg : ∀ args w, (callFunc g args).run Tryz.prog w = .ok (.enter g args) w) (hr : (Ty.sl 100 tyUs).rd w [v] l) (hp : ∀ w1, Below w.heap.size w w1 → ∀ (i : Nat) (x : Us), l[i]? = some x → Gives Tryz.prog g (#[.agg (encUs x).toArray] ++ lb) w1 (.bool (p x))) :
    Gives Tryz.prog 161 #[v, .func (.func g) #[] lb] w (.int .i64 (idxF p 0 l)) := by
  obtain ⟨A, c, rfl, hlc, hcm⟩ := sl_form hr
  unfold maxLen at *
  have HR := Lib.hid hr
  have HP := Lib.hid hp
  have H := Hs.start noRow w
  obtain ⟨n, hn⟩ : ∃ n, n = l.length := ⟨_, rfl⟩
  have hnl : n ≤ 9223372036854775807 := by omega
  rw [← hn] at HR ⊢
  have HN := Lib.hid hn
  obtain ⟨z, hz⟩ : ∃ z, z = idxF p 0 l := ⟨_, rfl⟩
  rw [← hz]
  have HZ := Lib.hid hz
  clear hr hn hlc hcm hp hz
  unfold Gives
  go_enter Tryz.func161, Tryz.ntmps161
  go_wp2_with (fail)
  go_loopg [4, 5, 8] n (fun m _ _ iv wr => ∃ (i : Nat), i + m = n ∧ iv = .int .i64 i ∧ Hid (z = idxF p i (l.drop i)) ∧ Hs noRow w [] wr)
  case atStart => exact ⟨0, by omega, rfl, HZ, H⟩
  case round =>
    clear H
    obtain ⟨i, hi, rfl, HI, H⟩ := hrel
    by_cases hlt : i < n
    · obtain ⟨x, hx⟩ : ∃ x, l[i]? = some x := ⟨l[i]'(by rw [← HN.out]; exact hlt), List.getElem?_eq_getElem (by rw [← HN.out]; exact hlt)⟩
      have hs := sl_at (by have := HR.out; rw [HN.out] at this; exact this) hx
      rw [← HN.out] at hs
      obtain ⟨b, off, c', cs, hv, hcs, hA⟩ := hs
      injection hv with hv1 hv2 hv3
      subst hv1 hv3
      obtain rfl : cs = encUs x := hcs
      have hP := fun w1 hb => HP.out w1 hb i x hx
      have hstep := HI.out
      rw [idxF_drop hx] at hstep
      have hlt1 : (i : Int) < n := by omega
      clear hx hv2 HI
      cases hpx : p x
      · rw [hpx] at hP hstep
        have hP' := hP
        have HI := Lib.hid (show z = idxF p (i + 1) (l.drop (i + 1)) from hstep)
        clear hP hstep hpx
        unfold encUs at *
        go_wp2_with (first | ((((with_reducible apply st_loadat H); decide +kernel; rfl; exact aF; exact zF; rfl)); clear H; intro wn H; simp only [Act.put, yA, yB, yC, yD, yE, yF]) | (go_at_fn g; refine gvF (hP' _ H.below) H ?_; clear H; intro wn H))
        go_roundg (n - (i + 1))
        case measure => omega
        case rel => exact ⟨i + 1, by omega, by go_num, HI, H⟩
      · rw [hpx] at hP hstep
        have hP' := hP
        have HI := Lib.hid (show z = (i : Int) from hstep)
        clear hP hstep hpx
        unfold encUs at *
        go_wp2_with (first | ((((with_reducible apply st_loadat H); decide +kernel; rfl; exact aF; exact zF; rfl)); clear H; intro wn H; simp only [Act.put, yA, yB, yC, yD, yE, yF]) | (go_at_fn g; refine gvF (hP' _ H.below) H ?_; clear H; intro wn H))
        go_ret
        exact ⟨by rw [HI.out]; rfl, H.below⟩
    · obtain rfl : i = n := by omega
      have hlt1 : ¬ (i : Int) < i := by omega
      have hz : z = -1 := by rw [HI.out, List.drop_of_length_le (by rw [← HN.out]; exact Nat.le_refl _)]; rfl
      have HI2 := Lib.hid hz
      clear hz HI HZ
      go_wp2_with (fail)
      go_ret
      exact ⟨by rw [HI2.out]; rfl, H.below⟩
set_option maxRecDepth 100000 in
set_option maxHeartbeats 4000000 in
theorem containsFunc_Us (v : Value) (l : List (Us)) (p : Us → Bool) (g : Nat) (lb : Array Value) (w : World) (eg : ∀ args w, (callFunc g args).run Tryz.prog w = .ok (.enter g args) w) (hr : (Ty.sl 100 tyUs).rd w [v] l) (hp : ∀ w1, Below w.heap.size w w1 → ∀ (i : Nat) (x : Us), l[i]? = some x → Gives Tryz.prog g (#[.agg (encUs x).toArray] ++ lb) w1 (.bool (p x))) :
    Gives Tryz.prog 92 #[v, .func (.func g) #[] lb] w (.bool (l.any p)) := by
  have hI := fun w1 hb => indexFunc_Us v l p g lb w1 eg (Ty.below _ hr hb) (fun w2 hb2 => hp w2 (hb.trans (hb2.mono hb.size)))
  have hz := idxF_ge p l 0
  obtain ⟨A, c, rfl, hlc, hcm⟩ := sl_form hr
  have H := Hs.start noRow w
  generalize idxF p 0 l = z at *
  generalize l.length = n at *
  rw [← hz]
  clear hr hp hz
  unfold Gives
  go_enter Tryz.func92, Tryz.ntmps92
  go_wp2_with ((((go_at_call 161; refine gvF (hI _ H.below) H ?_)); clear H; intro wn H))
  go_ret
  exact ⟨rfl, H.below⟩
set_option maxRecDepth 100000 in
set_option maxHeartbeats 4000000 in
theorem indexFunc_Nt (v : Value) (l : List (Nt)) (p : Nt → Bool) (g : Nat) (lb : Array Value) (w : World) (eg : ∀ args w, (callFunc g args).run Tryz.prog w = .ok (.enter g args) w) (hr : (Ty.sl 87 tyNt).rd w [v] l) (hp : ∀ w1, Below w.heap.size w w1 → ∀ (i : Nat) (x : Nt), l[i]? = some x → Gives Tryz.prog g (#[.agg (encNt x).toArray] ++ lb) w1 (.bool (p x))) :
    Gives Tryz.prog 97 #[v, .func (.func g) #[] lb] w (.int .i64 (idxF p 0 l)) := by
  obtain ⟨A, c, rfl, hlc, hcm⟩ := sl_form hr
  unfold maxLen at *
  have HR := Lib.hid hr
  have HP := Lib.hid hp
  have H := Hs.start noRow w
  obtain ⟨n, hn⟩ : ∃ n, n = l.length := ⟨_, rfl⟩
  have hnl : n ≤ 9223372036854775807 := by omega
  rw [← hn] at HR ⊢
  have HN := Lib.hid hn
  obtain ⟨z, hz⟩ : ∃ z, z = idxF p 0 l := ⟨_, rfl⟩
  rw [← hz]
  have HZ := Lib.hid hz
  clear hr hn hlc hcm hp hz
  unfold Gives
  go_enter Tryz.func97, Tryz.ntmps97
  go_wp2_with (fail)
  go_loopg [4, 5, 8] n (fun m _ _ iv wr => ∃ (i : Nat), i + m = n ∧ iv = .int .i64 i ∧ Hid (z = idxF p i (l.drop i)) ∧ Hs noRow w [] wr)
  case atStart => exact ⟨0, by omega, rfl, HZ, H⟩
  case round =>
    clear H
    obtain ⟨i, hi, rfl, HI, H⟩ := hrel
    by_cases hlt : i < n
    · obtain ⟨x, hx⟩ : ∃ x, l[i]? = some x := ⟨l[i]'(by rw [← HN.out]; exact hlt), List.getElem?_eq_getElem (by rw [← HN.out]; exact hlt)⟩
      have hs := sl_at (by have := HR.out; rw [HN.out] at this; exact this) hx
      rw [← HN.out] at hs
      obtain ⟨b, off, c', cs, hv, hcs, hA⟩ := hs
      injection hv with hv1 hv2 hv3
      subst hv1 hv3
      obtain rfl : cs = encNt x := hcs
      have hP := fun w1 hb => HP.out w1 hb i x hx
      have hstep := HI.out
      rw [idxF_drop hx] at hstep
      have hlt1 : (i : Int) < n := by omega
      clear hx hv2 HI
      cases hpx : p x
      · rw [hpx] at hP hstep
        have hP' := hP
        have HI := Lib.hid (show z = idxF p (i + 1) (l.drop (i + 1)) from hstep)
        clear hP hstep hpx
        unfold encNt at *
        go_wp2_with (first | ((((with_reducible apply st_loadat H); decide +kernel; rfl; exact aF; exact zF; rfl)); clear H; intro wn H; simp only [Act.put, yA, yB, yC, yD, yE, yF]) | (go_at_fn g; refine gvF (hP' _ H.below) H ?_; clear H; intro wn H))
        go_roundg (n - (i + 1))
        case measure => omega
        case rel => exact ⟨i + 1, by omega, by go_num, HI, H⟩
      · rw [hpx] at hP hstep
        have hP' := hP
        have HI := Lib.hid (show z = (i : Int) from hstep)
        clear hP hstep hpx
        unfold encNt at *
        go_wp2_with (first | ((((with_reducible apply st_loadat H); decide +kernel; rfl; exact aF; exact zF; rfl)); clear H; intro wn H; simp only [Act.put, yA, yB, yC, yD, yE, yF]) | (go_at_fn g; refine gvF (hP' _ H.below) H ?_; clear H; intro wn H))
        go_ret
        exact ⟨by rw [HI.out]; rfl, H.below⟩
    · obtain rfl : i = n := by omega
      have hlt1 : ¬ (i : Int) < i := by omega
      have hz : z = -1 := by rw [HI.out, List.drop_of_length_le (by rw [← HN.out]; exact Nat.le_refl _)]; rfl
      have HI2 := Lib.hid hz
      clear hz HI HZ
      go_wp2_with (fail)
      go_ret
      exact ⟨by rw [HI2.out]; rfl, H.below⟩
set_option maxRecDepth 100000 in
set_option maxHeartbeats 4000000 in
theorem containsFunc_Nt (v : Value) (l : List (Nt)) (p : Nt → Bool) (g : Nat) (lb : Array Value) (w : World) (eg : ∀ args w, (callFunc g args).run Tryz.prog w = .ok (.enter g args) w) (hr : (Ty.sl 87 tyNt).rd w [v] l) (hp : ∀ w1, Below w.heap.size w w1 → ∀ (i : Nat) (x : Nt), l[i]? = some x → Gives Tryz.prog g (#[.agg (encNt x).toArray] ++ lb) w1 (.bool (p x))) :
    Gives Tryz.prog 46 #[v, .func (.func g) #[] lb] w (.bool (l.any p)) := by
  have hI := fun w1 hb => indexFunc_Nt v l p g lb w1 eg (Ty.below _ hr hb) (fun w2 hb2 => hp w2 (hb.trans (hb2.mono hb.size)))
  have hz := idxF_ge p l 0
  obtain ⟨A, c, rfl, hlc, hcm⟩ := sl_form hr
  have H := Hs.start noRow w
  generalize idxF p 0 l = z at *
  generalize l.length = n at *
  rw [← hz]
  clear hr hp hz
  unfold Gives
  go_enter Tryz.func46, Tryz.ntmps46
  go_wp2_with ((((go_at_call 97; refine gvF (hI _ H.below) H ?_)); clear H; intro wn H))
  go_ret
  exact ⟨rfl, H.below⟩
set_option maxRecDepth 100000 in
set_option maxHeartbeats 4000000 in
theorem indexFunc_Bo (v : Value) (l : List (Bo)) (p : Bo → Bool) (g : Nat) (lb : Array Value) (w : World) (eg : ∀ args w, (callFunc g args).run Tryz.prog w = .ok (.enter g args) w) (hr : (Ty.sl 71 tyBo).rd w [v] l) (hp : ∀ w1, Below w.heap.size w w1 → ∀ (i : Nat) (x : Bo) (cs : List Value), l[i]? = some x → tyBo.rd w1 cs x → Gives Tryz.prog g (#[.agg cs.toArray] ++ lb) w1 (.bool (p x))) :
    Gives Tryz.prog 96 #[v, .func (.func g) #[] lb] w (.int .i64 (idxF p 0 l)) := by
  obtain ⟨A, c, rfl, hlc, hcm⟩ := sl_form hr
  unfold maxLen at *
  have HR := Lib.hid hr
  have HP := Lib.hid hp
  have H := Hs.start noRow w
  obtain ⟨n, hn⟩ : ∃ n, n = l.length := ⟨_, rfl⟩
  have hnl : n ≤ 9223372036854775807 := by omega
  rw [← hn] at HR ⊢
  have HN := Lib.hid hn
  obtain ⟨z, hz⟩ : ∃ z, z = idxF p 0 l := ⟨_, rfl⟩
  rw [← hz]
  have HZ := Lib.hid hz
  clear hr hn hlc hcm hp hz
  unfold Gives
  go_enter Tryz.func96, Tryz.ntmps96
  go_wp2_with (fail)
  go_loopg [4, 5, 8] n (fun m _ _ iv wr => ∃ (i : Nat), i + m = n ∧ iv = .int .i64 i ∧ Hid (z = idxF p i (l.drop i)) ∧ Hs noRow w [] wr)
  case atStart => exact ⟨0, by omega, rfl, HZ, H⟩
  case round =>
    clear H
    obtain ⟨i, hi, rfl, HI, H⟩ := hrel
    by_cases hlt : i < n
    · obtain ⟨x, hx⟩ : ∃ x, l[i]? = some x := ⟨l[i]'(by rw [← HN.out]; exact hlt), List.getElem?_eq_getElem (by rw [← HN.out]; exact hlt)⟩
      have hs := sl_at (by have := HR.out; rw [HN.out] at this; exact this) hx
      rw [← HN.out] at hs
      obtain ⟨b, off, c', cs, hv, hcs, hA⟩ := hs
      injection hv with hv1 hv2 hv3
      subst hv1 hv3
      have hP := fun w1 hb => HP.out w1 hb i x cs hx (Ty.below _ hcs hb)
      obtain ⟨r1, r2, r3, hu, _⟩ := bo_form hcs
      subst hu
      have hstep := HI.out
      rw [idxF_drop hx] at hstep
      have hlt1 : (i : Int) < n := by omega
      clear hx hv2 HI
      cases hpx : p x
      · rw [hpx] at hP hstep
        have hP' := hP
        have HI := Lib.hid (show z = idxF p (i + 1) (l.drop (i + 1)) from hstep)
        clear hP hstep hpx
        go_wp2_with (first | ((((with_reducible apply st_loadat H); decide +kernel; rfl; exact aF; exact zF; rfl)); clear H; intro wn H; simp only [Act.put, yA, yB, yC, yD, yE, yF]) | (go_at_fn g; refine gvF (hP' _ H.below) H ?_; clear H; intro wn H))
        go_roundg (n - (i + 1))
        case measure => omega
        case rel => exact ⟨i + 1, by omega, by go_num, HI, H⟩
      · rw [hpx] at hP hstep
        have hP' := hP
        have HI := Lib.hid (show z = (i : Int) from hstep)
        clear hP hstep hpx
        go_wp2_with (first | ((((with_reducible apply st_loadat H); decide +kernel; rfl; exact aF; exact zF; rfl)); clear H; intro wn H; simp only [Act.put, yA, yB, yC, yD, yE, yF]) | (go_at_fn g; refine gvF (hP' _ H.below) H ?_; clear H; intro wn H))
        go_ret
        exact ⟨by rw [HI.out]; rfl, H.below⟩
    · obtain rfl : i = n := by omega
      have hlt1 : ¬ (i : Int) < i := by omega
      have hz : z = -1 := by rw [HI.out, List.drop_of_length_le (by rw [← HN.out]; exact Nat.le_refl _)]; rfl
      have HI2 := Lib.hid hz
      clear hz HI HZ
      go_wp2_with (fail)
      go_ret
      exact ⟨by rw [HI2.out]; rfl, H.below⟩
set_option maxRecDepth 100000 in
set_option maxHeartbeats 4000000 in
theorem containsFunc_Bo (v : Value) (l : List (Bo)) (p : Bo → Bool) (g : Nat) (lb : Array Value) (w : World) (eg : ∀ args w, (callFunc g args).run Tryz.prog w = .ok (.enter g args) w) (hr : (Ty.sl 71 tyBo).rd w [v] l) (hp : ∀ w1, Below w.heap.size w w1 → ∀ (i : Nat) (x : Bo) (cs : List Value), l[i]? = some x → tyBo.rd w1 cs x → Gives Tryz.prog g (#[.agg cs.toArray] ++ lb) w1 (.bool (p x))) :
    Gives Tryz.prog 44 #[v, .func (.func g) #[] lb] w (.bool (l.any p)) := by
  have hI := fun w1 hb => indexFunc_Bo v l p g lb w1 eg (Ty.below _ hr hb) (fun w2 hb2 => hp w2 (hb.trans (hb2.mono hb.size)))
  have hz := idxF_ge p l 0
  obtain ⟨A, c, rfl, hlc, hcm⟩ := sl_form hr
  have H := Hs.start noRow w
  generalize idxF p 0 l = z at *
  generalize l.length = n at *
  rw [← hz]
  clear hr hp hz
  unfold Gives
  go_enter Tryz.func44, Tryz.ntmps44
  go_wp2_with ((((go_at_call 96; refine gvF (hI _ H.below) H ?_)); clear H; intro wn H))
  go_ret
  exact ⟨rfl, H.below⟩
set_option maxRecDepth 100000 in
set_option maxHeartbeats 4000000 in
theorem indexFunc_Num (v : Value) (l : List (Int)) (p : Int → Bool) (g : Nat) (lb : Array Value) (w : World) (eg : ∀ args w, (callFunc g args).run Tryz.prog w = .ok (.enter g args) w) (hr : (Ty.sl 2 tyNum).rd w [v] l) (hp : ∀ w1, Below w.heap.size w w1 → ∀ (i : Nat) (x : Int), l[i]? = some x → Gives Tryz.prog g (#[.int .i64 x] ++ lb) w1 (.bool (p x))) :
    Gives Tryz.prog 196 #[v, .func (.func g) #[] lb] w (.int .i64 (idxF p 0 l)) := by
  obtain ⟨A, c, rfl, hlc, hcm⟩ := sl_form hr
  unfold maxLen at *
  have HR := Lib.hid hr
  have HP := Lib.hid hp
  have H := Hs.start noRow w
  obtain ⟨n, hn⟩ : ∃ n, n = l.length := ⟨_, rfl⟩
  have hnl : n ≤ 9223372036854775807 := by omega
  rw [← hn] at HR ⊢
  have HN := Lib.hid hn
  obtain ⟨z, hz⟩ : ∃ z, z = idxF p 0 l := ⟨_, rfl⟩
  rw [← hz]
  have HZ := Lib.hid hz
  clear hr hn hlc hcm hp hz
  unfold Gives
  go_enter Tryz.func196, Tryz.ntmps196
  go_wp2_with (fail)
  go_loopg [4, 5, 8] n (fun m _ _ iv wr => ∃ (i : Nat), i + m = n ∧ iv = .int .i64 i ∧ Hid (z = idxF p i (l.drop i)) ∧ Hs noRow w [] wr)
  case atStart => exact ⟨0, by omega, rfl, HZ, H⟩
  case round =>
    clear H
    obtain ⟨i, hi, rfl, HI, H⟩ := hrel
    by_cases hlt : i < n
    · obtain ⟨x, hx⟩ : ∃ x, l[i]? = some x := ⟨l[i]'(by rw [← HN.out]; exact hlt), List.getElem?_eq_getElem (by rw [← HN.out]; exact hlt)⟩
      have hs := sl_at (by have := HR.out; rw [HN.out] at this; exact this) hx
      rw [← HN.out] at hs
      obtain ⟨b, off, c', cs, hv, hcs, hA⟩ := hs
      injection hv with hv1 hv2 hv3
      subst hv1 hv3
      obtain rfl : cs = encNum x := hcs
      have hP := fun w1 hb => HP.out w1 hb i x hx
      have h0 : w.cell? ⟨b, off + i, none⟩ = some (.int .i64 x) := by have h := hA.head (u := .int .i64 x) rfl; rw [show i * tyNum.s = i from Nat.mul_one i] at h; exact h
      have hstep := HI.out
      rw [idxF_drop hx] at hstep
      have hlt1 : (i : Int) < n := by omega
      clear hx hv2 HI
      cases hpx : p x
      · rw [hpx] at hP hstep
        have hP' := hP
        have HI := Lib.hid (show z = idxF p (i + 1) (l.drop (i + 1)) from hstep)
        clear hP hstep hpx
        unfold encNum at *
        go_wp2_with (first | ((((with_reducible apply st_load1 H); decide +kernel; rfl; exact cF)); clear H; intro wn H; (try simp only [splice, yG, yH, yI, yJ, yK, yL, yM, yN, yO, yP, yQ, Nat.reduceAdd, yA, yB, yC] at H); simp only [Act.put, yA, yB, yC, yD, yE, yF]) | (go_at_fn g; refine gvF (hP' _ H.below) H ?_; clear H; intro wn H))
        go_roundg (n - (i + 1))
        case measure => omega
        case rel => exact ⟨i + 1, by omega, by go_num, HI, H⟩
      · rw [hpx] at hP hstep
        have hP' := hP
        have HI := Lib.hid (show z = (i : Int) from hstep)
        clear hP hstep hpx
        unfold encNum at *
        go_wp2_with (first | ((((with_reducible apply st_load1 H); decide +kernel; rfl; exact cF)); clear H; intro wn H; (try simp only [splice, yG, yH, yI, yJ, yK, yL, yM, yN, yO, yP, yQ, Nat.reduceAdd, yA, yB, yC] at H); simp only [Act.put, yA, yB, yC, yD, yE, yF]) | (go_at_fn g; refine gvF (hP' _ H.below) H ?_; clear H; intro wn H))
        go_ret
        exact ⟨by rw [HI.out]; rfl, H.below⟩
    · obtain rfl : i = n := by omega
      have hlt1 : ¬ (i : Int) < i := by omega
      have hz : z = -1 := by rw [HI.out, List.drop_of_length_le (by rw [← HN.out]; exact Nat.le_refl _)]; rfl
      have HI2 := Lib.hid hz
      clear hz HI HZ
      go_wp2_with (fail)
      go_ret
      exact ⟨by rw [HI2.out]; rfl, H.below⟩
set_option maxRecDepth 100000 in
set_option maxHeartbeats 4000000 in
theorem containsFunc_Num (v : Value) (l : List (Int)) (p : Int → Bool) (g : Nat) (lb : Array Value) (w : World) (eg : ∀ args w, (callFunc g args).run Tryz.prog w = .ok (.enter g args) w) (hr : (Ty.sl 2 tyNum).rd w [v] l) (hp : ∀ w1, Below w.heap.size w w1 → ∀ (i : Nat) (x : Int), l[i]? = some x → Gives Tryz.prog g (#[.int .i64 x] ++ lb) w1 (.bool (p x))) :
    Gives Tryz.prog 154 #[v, .func (.func g) #[] lb] w (.bool (l.any p)) := by
  have hI := fun w1 hb => indexFunc_Num v l p g lb w1 eg (Ty.below _ hr hb) (fun w2 hb2 => hp w2 (hb.trans (hb2.mono hb.size)))
  have hz := idxF_ge p l 0
  obtain ⟨A, c, rfl, hlc, hcm⟩ := sl_form hr
  have H := Hs.start noRow w
  generalize idxF p 0 l = z at *
  generalize l.length = n at *
  rw [← hz]
  clear hr hp hz
  unfold Gives
  go_enter Tryz.func154, Tryz.ntmps154
  go_wp2_with ((((go_at_call 196; refine gvF (hI _ H.below) H ?_)); clear H; intro wn H))
  go_ret
  exact ⟨rfl, H.below⟩
end Go.Proofs.YtpfdhfchgnnpiaaGreat
