import Derived.Test.YtcabgibdkmgdlaaGreatVo
import Derived.Test.YtcabgibdkmgdlaaGreatJ4
set_option linter.unusedSimpArgs false
set_option linter.unusedVariables false
set_option maxRecDepth 100000
set_option maxHeartbeats 4000000
namespace Go.Proofs.YtcabgibdkmgdlaaGreat
open Go.RowKit M
namespace M
theorem z7e{nd:List (List Lab)}{a:Lab}(h:clearOk nd=true):hasL (labelsOf nd) a = !decide ((clearL nd a).length=0):=by
 rw[Bool.eq_iff_iff,hasL_iff]
 have e:(!decide ((clearL nd a).length=0))=true↔clearL nd a ≠ []:=by
  rw[Bool.not_eq_true',decide_eq_false_iff_not,List.length_eq_zero_iff]
 rw[e]
 unfold labelsOf
 rw[List.mem_filter,List.any_eq_true]
 unfold clearL clearTo
 constructor
 ·rintro ⟨_,y,hy,hxy⟩ h0
  obtain⟨i,hi,rfl⟩:=List.getElem_of_mem hy
  have h1:((i:Nat):Int) ∈ (((List.range nd.length).filter (clearB nd a)).map fun(i:Nat)=>(i:Int)):=List.mem_map.2 ⟨i,List.mem_filter.2 ⟨List.mem_range.2 hi,by unfold clearB;rw[List.getElem?_eq_getElem hi];exact hxy⟩,rfl⟩
  rw[h0] at h1
  cases h1
 ·intro h0
  obtain⟨x,hx⟩:=List.exists_mem_of_ne_nil _ h0
  obtain⟨i,hi,rfl⟩:=List.mem_map.1 hx
  have h1:=(List.mem_filter.1 hi).2
  unfold clearB at h1
  cases hg:nd[i]? with
  | none=>rw[hg] at h1;cases h1
  | some y=>
   rw[hg] at h1
   have h2:hasL y a=true:=h1
   have hm:=List.mem_of_getElem? hg
   exact⟨labsAll_mem (clear_labs h a (List.mem_flatten.2 ⟨y,hm,hasL_iff.1 h2⟩)),y,hm,h2⟩
theorem z2k{c:Cfg}(h:cfgOk c=true):clearOk c.1=true:=by
 unfold cfgOk at h
 simp only[Bool.and_eq_true] at h
 exact h.1
end M
theorem z6l(c:Cfg)(cs:List Value)(a:Lab)(hok:cfgOk c=true)(w:World)(hr:tyCfg.rd w cs c):Gives Tryz.prog 200 #[.agg cs.toArray,.agg #[.int .i64 a.1,.int .i64 a.2]] w (.int .i64 (quotaOf c a)):=by
 have c1:=fun w1 hb=>configRight_i c cs w1 (Ty.below _ hr hb)
 have c2:=fun w1 hb=>clearFor_i c cs a (cfg_nodes hok).2 w1 (Ty.below _ hr hb)
 rw[hok] at c1
 obtain⟨v1,v2,v3,rfl,h1,h2,h3⟩:=cfg_form hr
 obtain⟨nd,pr,qt,hf⟩:=c
 obtain⟨a1,a2⟩:=a
 simp only at h1 h2 h3 c1 c2
 obtain⟨A,k1,rfl,_,_⟩:=sl_form h1
 obtain⟨B,k2,rfl,_,_⟩:=sl_form h2
 obtain⟨D,k3,rfl,hl3,hm3⟩:=sl_form h3
 unfold maxLen at hm3
 have HR:=hY h3
 obtain⟨z,hz⟩:=nm (quotaOf (nd,pr,qt,hf) (a1,a2))
 rw[←hz]
 have HZ:Hid (z=if (clearL nd (a1,a2)).length=0 then 0 else quotaL (a1,a2) (qt.drop 0)):=hY hz
 obtain⟨n,hn⟩:=nm qt.length
 have hnl:n≤9223372036854775807:=by omega
 rw[←hn] at c1 c2 ⊢
 have HN:=hY hn
 generalize nd.length=m1 at *
 generalize pr.length=m2 at *
 clear hr h1 h2 h3 hn hl3 hm3 hz hok
 generalize clearL nd (a1,a2)=cl at *
 replace c1:∀w1,Below w.heap.size w w1→Gives Tryz.prog 191 #[.agg #[.slice A m1 k1,.slice B m2 k2,.slice D n k3,.int .i64 hf]] w1 (.bool true):=c1
 have H:=Hs.start noRow w
 unfold Gives
 show Calls _ _ #[.agg #[.slice A m1 k1,.slice B m2 k2,.slice D n k3,.int .i64 hf],.agg #[.int .i64 a1,.int .i64 a2]] _ _
 go_enter Tryz.func200,Tryz.ntmps200
 go_wp2_with (first|((((with_reducible refine st_gwF ?_ ?_);rfl));(try refine zp ?_))|((first|refine zM ?_|(refine zB 2 ?_;intro b2)|(refine zB 3 ?_;intro b3)|(go_at_call 191;refine gvF (c1 _ H.below) H ?_));clear H;intro wn H))
 refine(Rets.use (c2 _ H.below)).mono ?_;rintro e wn ⟨_,_,rfl,⟨N,hN,rfl,hone⟩,hkk⟩;refine zK ?_;clear H hkk;intro H
 have hN2:=own_single hN hone rfl
 clear hN hone c1 c2
 obtain⟨E,ce,rfl,hlc,hcm⟩:=sl_form (own_rd H .here hN2)
 unfold maxLen at hcm
 have hcl:cl.length≤9223372036854775807:=by omega
 clear hN2 hlc hcm
 generalize cl.length=kk at *
 by_cases h0:kk=0
 ·subst h0
  have HE:Hid (z=0):=hY (by rw[HZ.out,if_pos rfl])
  go_wp2_with ((((with_reducible refine st_gwF ?_ ?_);rfl));(try refine zp ?_))
  go_ret
  exact⟨congrArg (fun z:Int=>Ending.returned (.int .i64 z)) HE.out.symm,H.below⟩
 ·have h01:((kk:Int)==0)=false:=beq_eq_false_iff_ne.2 (by omega)
  have HI:Hid (z=quotaL (a1,a2) (qt.drop 0)):=hY (by rw[HZ.out,if_neg h0])
  clear HZ
  go_wp2_with (first|((((with_reducible refine st_gwF ?_ ?_);rfl));(try refine zp ?_))|(refine zL ?_;clear H;intro wn H))
  go_loopg [6,20] n (fun m _ iv wr=>∃(i:Nat),i+m=n∧iv = .int .i64 i∧Hid (z=quotaL (a1,a2) (qt.drop i))∧Hs noRow w [Hl.blk b2 47 #[.slice A m1 k1,.slice B m2 k2,.slice D n k3,.int .i64 hf],Hl.blk b3 123 #[.int .i64 a1,.int .i64 a2]] wr)
  case atStart=>exact⟨0,by omega,rfl,HI,H.sel sF⟩
  case round=>
   clear H HI
   obtain⟨i,hi,rfl,HI,H⟩:=hrel
   by_cases hlt:i<n
   ·obtain ⟨x,hx⟩:=atE HN hlt
    have hs:=sl_at HR.out hx
    rw[←HN.out] at hs
    obtain⟨b,off,c',cs,hv,hcs,hA⟩:=hs
    injection hv with hv1 hv2 hv3
    subst hv1 hv3
    obtain rfl:cs=encQt x:=hcs
    have hstep:=HI.out
    rw[quotaL_at hx] at hstep
    obtain⟨⟨x1,x2⟩,x3⟩:=x
    have hA:At w b (off+i*3) [.int .i64 x1,.int .i64 x2,.int .i64 x3]:=hA
    have hlt1:(i:Int)<n:=by omega
    clear hx hv2 HI
    simp only at hstep
    cases hp:eqB (x1,x2) (a1,a2)
    ·rw[hp] at hstep
     have HI2:Hid (z=quotaL (a1,a2) (qt.drop (i+1))):=hY hstep
     clear hstep
     go_wp2_with ((first|refine zU ?_|(refine zA 6 ?_;intro b6));clear H;intro wn H)
     go_roundg (n-(i+1))
     case measure=>omega
     case rel=>exact⟨i+1,by omega,by go_num,HI2,H.sel sF⟩
    ·rw[hp] at hstep
     have HI2:Hid (z=x3):=hY hstep
     clear hstep
     go_wp2_with ((first|refine zU ?_|(refine zA 6 ?_;intro b6));clear H;intro wn H)
     go_ret
     exact⟨congrArg (fun z:Int=>Ending.returned (.int .i64 z)) HI2.out.symm,H.below⟩
   ·obtain rfl:i=n:=by omega
    have hlt1:=nlt i
    have HI2:Hid (z=6):=hY (by rw[HI.out,(drl HN)];rfl)
    clear HI
    go_wp2_with (fail)
    go_ret
    exact⟨congrArg (fun z:Int=>Ending.returned (.int .i64 z)) HI2.out.symm,H.below⟩
theorem z6f(c:Cfg)(cs:List Value)(hok:cfgOk c=true)(w:World)(hr:tyCfg.rd w cs c):Rets Tryz.prog [] 256 #[.agg cs.toArray] w (tOwn (Ty.sl 123 tyLab) (labelsOf c.1)):=by
 have c0:=fun w1 hb=>configRight_s c cs w1 (Ty.below _ hr hb)
 rw[hok] at c0
 obtain⟨v1,v2,v3,rfl,h1,h2,h3⟩:=cfg_form hr
 have c1:=fun w1 hb=>labels_s v1 c.1 w1 (Ty.below _ h1 hb)
 obtain⟨nd,pr,qt,hf⟩:=c
 simp only at h1 h2 h3 c1
 obtain⟨A,k1,rfl,_,_⟩:=sl_form h1
 obtain⟨B,k2,rfl,_,_⟩:=sl_form h2
 obtain⟨D,k3,rfl,_,_⟩:=sl_form h3
 generalize nd.length=m1 at *
 generalize pr.length=m2 at *
 generalize qt.length=m3 at *
 clear hr h1 h2 h3 hok
 replace c0:∀w1,Below w.heap.size w w1→Gives Tryz.prog 172 #[.agg #[.slice A m1 k1,.slice B m2 k2,.slice D m3 k3,.int .i64 hf]] w1 (.bool true):=c0
 have H:=Hs.start noRow w
 refine Rets.of ?_
 show Calls _ _ #[.agg #[.slice A m1 k1,.slice B m2 k2,.slice D m3 k3,.int .i64 hf]] _ _
 go_enter Tryz.func256,Tryz.ntmps256
 go_wp2_with ((first|refine zU ?_|(refine zB 1 ?_;intro b1)|(go_at_call 172;refine gvF (c0 _ H.below) H ?_));clear H;intro wn H)
 refine(Rets.use (c1 _ H.below)).mono ?_;rintro e wn ⟨_,_,rfl,⟨N,hN,rfl,hone⟩,hkk⟩;refine zK ?_;clear H hkk;intro H
 go_wp2_with (fail)
 go_ret
 exact Hs.retd H (List.Sublist.cons_cons _ (List.nil_sublist _)) ⟨N,hN,rfl,hone⟩
def tSu{α:Type}(T:Ty α)(a:α):Value→List Hl→Prop:=fun v M=>∃u N,v=u∧T.own [u] a N∧M = [Hl.all N]
theorem z9x{α:Type}{T:Ty α}(hs:T.s=1){a:α}(v:Value)(M:List Hl)(h:tOwn T a v M):tSu T a v M:=by
 obtain⟨N,ho,rfl,h1⟩:=h
 exact⟨v,N,rfl,own_single ho h1 hs,rfl⟩
theorem z7a(c:Cfg)(cs:List Value)(a:Lab)(hok:cfgOk c=true)(w:World)(hr:tyCfg.rd w cs c):Gives Tryz.prog 178 #[.agg cs.toArray,.agg #[.int .i64 a.1,.int .i64 a.2]] w (.int .i64 (quotaOf c a)):=by
 have c1:=fun w1 hb=>z6f c cs hok w1 (Ty.below _ hr hb)
 obtain⟨v1,v2,v3,rfl,h1,h2,h3⟩:=cfg_form hr
 have ch:=z7e (a:=a) (z2k hok)
 obtain⟨nd,pr,qt,hf⟩:=c
 obtain⟨a1,a2⟩:=a
 simp only at h1 h2 h3 c1 ch
 obtain⟨A,k1,rfl,_,_⟩:=sl_form h1
 obtain⟨B,k2,rfl,_,_⟩:=sl_form h2
 obtain⟨D,k3,rfl,hl3,hm3⟩:=sl_form h3
 unfold maxLen at hm3
 have HR:=hY h3
 obtain⟨z,hz⟩:=nm (quotaOf (nd,pr,qt,hf) (a1,a2))
 rw[←hz]
 have HZ:Hid (z=if hasL (labelsOf nd) (a1,a2) then quotaL (a1,a2) (qt.drop 0) else 0):=hY (by
  rw[ch,hz]
  show (if (clearL nd (a1,a2)).length=0 then (0:Int) else quotaL (a1,a2) qt)=_
  by_cases h:(clearL nd (a1,a2)).length=0
  ·rw[if_pos h,decide_eq_true h];rfl
  ·rw[if_neg h,decide_eq_false h];rfl)
 obtain⟨n,hn⟩:=nm qt.length
 have hnl:n≤9223372036854775807:=by omega
 rw[←hn] at c1 ⊢
 have HN:=hY hn
 generalize nd.length=m1 at *
 generalize pr.length=m2 at *
 clear hr h1 h2 h3 hn hl3 hm3 hz hok ch
 have c2:=fun v w1 h=>cleared_s v (labelsOf nd) (a1,a2) w1 h
 simp only at c2
 generalize hasL (labelsOf nd) (a1,a2)=hq at *
 generalize labelsOf nd=lb at *
 replace c1:∀w1,Below w.heap.size w w1→Rets Tryz.prog [] 256 #[.agg #[.slice A m1 k1,.slice B m2 k2,.slice D n k3,.int .i64 hf]] w1 (tSu (Ty.sl 123 tyLab) lb):=fun w1 hb=>Rets.weak (c1 w1 hb) (z9x rfl)
 have H:=Hs.start noRow w
 unfold Gives
 show Calls _ _ #[.agg #[.slice A m1 k1,.slice B m2 k2,.slice D n k3,.int .i64 hf],.agg #[.int .i64 a1,.int .i64 a2]] _ _
 go_enter Tryz.func178,Tryz.ntmps178
 go_wp2_with ((first|(refine zB 2 ?_;intro b2)|(refine zB 3 ?_;intro b3));clear H;intro wn H)
 apply wp_region_hss (K:=[]) (Spec.V _::Spec.T _::Spec.V _::Spec.V _::Spec.V _ :: []) 5 rfl H rfl (by simp) (by kernel_rfl) (by kernel_rfl);intro vs Ls;(iterate 1 (refine zhv ?_));(with_reducible apply wpH_T);(focus rfl);(focus rfl);(focus(intro hk w1 H1;unfold OpOk;go_simp;exact now_call (c1 _ H1.below)));refine zp ?_;(iterate 1 (refine zhv ?_));(with_reducible apply(wpH_E 1));(focus rfl);(focus rfl);(focus rfl);(focus decide +kernel);(focus decide);(focus(intro kk1 w1 H1;obtain⟨a1',M1,e1,o1,l1⟩:=kk1;simp only[e1,l1,yT,yU,yV] at H1 ⊢;unfold OpOk;(try simp only[e1]);go_simp;exact now_call (Gives.rets (c2 _ _ (own_rd H1 iF o1)))));refine zp ?_;(iterate 1 (refine zhv ?_));refine wpH_0 ?_;intro hok wn Hn;(try simp only[yT,yU,yV,yW] at Hn);clear H;have H:=Hn;clear Hn;have ht1:=okT (hok 1 (by decide)) rfl;clear hok;obtain⟨a1',M1,e1,o1,l1⟩:=ht1;simp only[e1,l1,yT,yU,yV] at H ⊢;clear e1 l1;rotate_left;exact lcG
 cases hq
 ·have HE:Hid (z=0):=hY (by rw[HZ.out];rfl)
  go_wp2_with (fail)
  go_ret
  exact⟨congrArg (fun z:Int=>Ending.returned (.int .i64 z)) HE.out.symm,H.below⟩
 ·have HI:Hid (z=quotaL (a1,a2) (qt.drop 0)):=hY (by rw[HZ.out];rfl)
  clear HZ
  go_wp2_with (fail)
  go_loopg [5] n (fun m iv wr=>∃(i:Nat),i+m=n∧iv = .int .i64 i∧Hid (z=quotaL (a1,a2) (qt.drop i))∧Hs noRow w [Hl.blk b2 47 #[.slice A m1 k1,.slice B m2 k2,.slice D n k3,.int .i64 hf],Hl.blk b3 123 #[.int .i64 a1,.int .i64 a2]] wr)
  case atStart=>exact⟨0,by omega,rfl,HI,H.sel sF⟩
  case round=>
   clear H HI
   obtain⟨i,hi,rfl,HI,H⟩:=hrel
   by_cases hlt:i<n
   ·obtain ⟨x,hx⟩:=atE HN hlt
    have hs:=sl_at HR.out hx
    rw[←HN.out] at hs
    obtain⟨b,off,c',cs,hv,hcs,hA⟩:=hs
    injection hv with hv1 hv2 hv3
    subst hv1 hv3
    obtain rfl:cs=encQt x:=hcs
    have hstep:=HI.out
    rw[quotaL_at hx] at hstep
    obtain⟨⟨x1,x2⟩,x3⟩:=x
    have hA:At w b (off+i*3) [.int .i64 x1,.int .i64 x2,.int .i64 x3]:=hA
    have hA1:At w b (off+i*3) [.int .i64 x1,.int .i64 x2]:=At.pre (us:=[.int .i64 x3]) hA
    have h0:w.cell? ⟨b,off+i*3+2,none⟩=some (.int .i64 x3):=hA 2 _ rfl
    have hlt1:(i:Int)<n:=by omega
    clear hx hv2 HI hA
    simp only at hstep
    cases hp:eqB (x1,x2) (a1,a2)
    ·rw[hp] at hstep
     have HI2:Hid (z=quotaL (a1,a2) (qt.drop (i+1))):=hY hstep
     clear hstep
     go_wp2_with (first|(refine zL ?_;clear H;intro wn H)|(refine zHq 6 ?_;(iterate 8 (all_goals(refine zhFAEV ?_)));all_goals(refine zHz ?_;clear H;intro wn H)))
     go_roundg (n-(i+1))
     case measure=>omega
     case rel=>exact⟨i+1,by omega,by go_num,HI2,H.sel sF⟩
    ·rw[hp] at hstep
     have HI2:Hid (z=x3):=hY hstep
     clear hstep
     go_wp2_with (first|(refine zL ?_;clear H;intro wn H)|(refine zHq 6 ?_;(iterate 8 (all_goals(refine zhFAEV ?_)));all_goals(refine zHz ?_;clear H;intro wn H)))
     go_ret
     exact⟨congrArg (fun z:Int=>Ending.returned (.int .i64 z)) HI2.out.symm,H.below⟩
   ·obtain rfl:i=n:=by omega
    have hlt1:=nlt i
    have HI2:Hid (z=6):=hY (by rw[HI.out,(drl HN)];rfl)
    clear HI
    go_wp2_with (refine zL ?_;clear H;intro wn H)
    go_ret
    exact⟨congrArg (fun z:Int=>Ending.returned (.int .i64 z)) HI2.out.symm,H.below⟩
end Go.Proofs.YtcabgibdkmgdlaaGreat
namespace Go.Proofs.YtcabgibdkmgdlaaGreat
open Go.RowKit M
namespace M
def z0o(a:Lab)(l:List Us):Nat:=l.countP fun u=>eqB u.1 a
theorem z3c{a:Lab}{l:List Us}{i:Nat}{x:Us}(h:l[i]? = some x):z0o a (l.take (i+1))=z0o a (l.take i)+(if eqB x.1 a then 1 else 0):=by
 unfold z0o
 obtain⟨hlt,rfl⟩:=List.getElem?_eq_some_iff.1 h
 rw[List.take_succ_eq_append_getElem hlt,List.countP_append]
 simp[List.countP_cons]
theorem z7i(a:Lab)(l:List Us):z0o a l≤l.length:=List.countP_le_length
end M
theorem z5w(v:Value)(l:List Us)(p:Lab)(w:World)(hr:(Ty.sl 180 tyUs).rd w [v] l):
  Gives Tryz.prog 277 #[v,.agg #[.int .i64 p.1,.int .i64 p.2]] w (.int .i64 (z0o p l)):=by
 obtain⟨p1,p2⟩:=p
 simp only
 obtain⟨B,cb,rfl,hlb,hbm⟩:=sl_form hr
 unfold maxLen at *
 have HP:=hY hr
 obtain⟨n,hn⟩:=nm l.length
 have hnl:n≤9223372036854775807:=by omega
 rw[←hn] at HP ⊢
 have HN:=hY hn
 have HW:Hid (z0o (p1,p2) (l.take n)=z0o (p1,p2) l):=hY (by rw[hn,List.take_length])
 clear hr hlb hbm hn
 obtain⟨z,hz⟩:=nm (z0o (p1,p2) l)
 rw[←hz]
 have HZ:=hY hz
 clear hz
 have H:=Hs.start noRow w
 unfold Gives
 go_enter Tryz.func277,Tryz.ntmps277
 go_wp2_with (refine zB 3 ?_;clear H;intro b3 wn H)
 go_loopg [10,5] n (fun m iv kv wr=>∃(i k:Nat),i+m=n∧iv = .int .i64 i∧kv = .int .i64 k∧k≤i∧Hid (k=z0o (p1,p2) (l.take i))∧Hs noRow w [Hl.blk b3 123 #[.int .i64 p1,.int .i64 p2]] wr)
 case atStart=>exact⟨0,0,by omega,rfl,rfl,by omega,hY rfl,H.sel sF⟩
 case round=>
  clear H
  obtain⟨i,k,hi,rfl,rfl,hki,HI,H⟩:=hrel
  by_cases hlt:i<n
  ·obtain ⟨x,hx⟩:=atE HN hlt
   have hs:=sl_at (by have:=HP.out;rw[HN.out] at this;exact this) hx
   rw[←HN.out] at hs
   obtain⟨b,off,c',cs,hv,hcs,hB⟩:=hs
   injection hv with hv1 hv2 hv3
   subst hv1 hv3
   obtain rfl:cs=encUs x:=hcs
   have hstep:=z3c (a:=(p1,p2)) hx
   rw[←HI.out] at hstep
   obtain⟨⟨l1,l2⟩,ow,us⟩:=x
   unfold encUs at hB
   simp only at hB hstep
   have hlt1:(i:Int)<n:=by omega
   clear hx hv2 HI
   cases hp1:eqB (l1,l2) (p1,p2)
   ·have HI2:Hid (k=z0o (p1,p2) (l.take (i+1))):=hY (by rw[hstep,hp1];rfl)
    clear hstep
    go_wp2_with ((first|refine zU ?_|(refine zA 7 ?_;intro b7));clear H;intro wn H)
    go_roundg (n-(i+1))
    case measure=>omega
    case rel=>exact⟨i+1,k,by omega,by go_num,rfl,by omega,HI2,H.sel sF⟩
   ·have HI2:Hid (k+1=z0o (p1,p2) (l.take (i+1))):=hY (by rw[hstep,hp1];rfl)
    clear hstep
    go_wp2_with ((first|refine zU ?_|(refine zA 7 ?_;intro b7));clear H;intro wn H)
    go_roundg (n-(i+1))
    case measure=>omega
    case rel=>exact⟨i+1,k+1,by omega,by go_num,by go_num,by omega,HI2,H.sel sF⟩
  ·obtain rfl:i=n:=by omega
   have hlt1:=nlt i
   have HI2:Hid (k=z):=hY (by rw[HI.out,HW.out,HZ.out])
   clear HI HZ
   go_wp2_with (fail)
   go_ret
   exact⟨by rw[HI2.out];rfl,H.below⟩
