import Derived.Test.YtcabgibdkmgdlaaGreatWd
set_option linter.unusedSimpArgs false
set_option linter.unusedVariables false
set_option maxRecDepth 100000
set_option maxHeartbeats 16000000
namespace Go.Proofs.YtcabgibdkmgdlaaGreat
open Go.RowKit M
theorem z7f(a:St)(cs:List Value)(k:Nat)(hok:okSt a)(hbd:∀b ∈ a.2,bdBo b)(hst:z0b a=true)(hk:k<regsOf a.1.1)(w:World)(hr:tySt.rd w cs a):Gives Tryz.prog 23 #[.agg cs.toArray,.int .i64 k] w (.string (bs (z1f a k))):=by
 have h13:=(cfg_labs (z0k hst)).2
 have hp4:=(cfg_fits (z0k hst)).2.2.2
 have hrg:regsOf a.1.1≤13:=by unfold regsOf;omega
 have h:=z8a a cs k ⟨by omega,by omega⟩ hok hbd w hr
 unfold z1o at h
 rw[hst,decide_eq_true (show (0:Int)≤k by omega),decide_eq_true (show (k:Int)≤(regsOf a.1.1:Int)-1 by omega)] at h
 simpa using h
theorem z6x(rs:List Rg)(v:Value)(p:Int)(n:Nat)(hn:rs.length=n)(hl:rs.length≤1000000)(w:World)(hr:Rd w 3 v rs.length (flat encReg rs)):Rets Tryz.prog [] 20 #[.agg #[v,.int .i64 p]] w (tDr rs n p):=by
 subst hn
 exact z5c rs v p hl w hr
theorem z4o(a:Ho)(cs:List Value)(hok:z7z a)(hbd:∀b ∈ a.1.2,bdBo b)(pw:Int)(w:World)(hr:Dz.tyHo.rd w cs a):Rets Tryz.prog [] 5 #[.agg cs.toArray,.int .i64 pw] w (tAgg Dz.tyHO (z0h a pw)):=by
 have c1:=fun w1 hb=>z3t a cs hok w1 (Ty.below _ hr hb)
 have c2:=fun w1=>z9f pw w1
 obtain⟨A1,n1,k1,A2,n2,k2,A3,n3,k3,A4,n4,k4,A5,n5,k5,A6,n6,k6,A7,n7,k7,A8,n8,k8,rfl,g1,g2⟩:=Dz.Ho_form hr
 obtain⟨_,_,_,ed,gd⟩:=Dz.Dk_form g2
 injection ed with e1 ed
 rw[←e1] at gd
 clear ed e1
 have gd2:Rd w 3 (.slice A8 n8 k8) a.2.1.1.length (flat encReg a.2.1.1):=sl_rd gd
 have hn8:=(slN gd).1
 have cD:=fun rs (hl:rs.length≤1000000) v p w1 hr=>z8l rs v p hl w1 hr
 have cD0:=fun (hl:a.2.1.1.length≤1000000) w1 hb=>z8l a.2.1.1 (.slice A8 n8 k8) a.2.1.2 hl w1 (Rd.below gd2 (Nat.le_refl _) hb)
 have cB:=fun w1 hb=>diskBase_s a.2.1.1 (.slice A8 n8 k8) a.2.1.2 w1 (Rd.below gd2 (Nat.le_refl _) hb)
 have cW:=fun (hl:a.2.1.1.length≤1000000) w1 hb=>z6x a.2.1.1 (.slice A8 n8 k8) a.2.1.2 n8 hn8.symm hl w1 (Rd.below gd2 (Nat.le_refl _) hb)
 have cC:=fun hst w1 hb=>(z4q a.1 _ (z2q hst hbd) w1 (Ty.below _ g1 hb)).lit (fun v M w' h hp=>z8o h hp)
 have cP:=fun (hst:z0b a.1=true) (hreg:a.2.1.1.length=regsOf a.1.1.1) (k:Nat) (hk:k<n8) w1 hb=>z7f a.1 _ k hok.1 hbd hst (by omega) w1 (Ty.below _ g1 hb)
 have hpt:=@z1j a
 obtain⟨Z,hZ⟩:=nm (z0h a pw)
 rw[←hZ]
 unfold z0h at hZ
 obtain⟨z1,hz1⟩:=nm (z0z a)
 obtain⟨z2,hz2⟩:=nm (isIn pw (-1) 1000000)
 rw[←hz1] at c1 hZ hpt
 rw[←hz2] at c2 hZ
 have hD:diskOk a.2.1.1 a.2.1.2=true→z2=true→diskOk a.2.1.1 pw=true:=fun h h2=>z3f h (by rw[←hz2];exact h2)
 obtain⟨base,hbase⟩:=nm (baseOf a.2.1.1 a.2.1.2)
 rw[←hbase] at cB
 have hsd:z0x a pw=if base=a.2.2 then (a.2.1.1,pw,0) else z1b a.2.2 base (z1f a.1) n8 0 a.2.1.1 pw:=by
  unfold z0x;rw[hn8,hbase]
 have hes:∀o,z0t a o=if o.2.2=0∧o.2.1≠0 then ((a.1,(z0g n8 0 o.1,-1),a.2.2),(z1h,0)) else z1i o.1:=fun o=>by unfold z0t;rw[hn8]
 obtain⟨rs,hrs⟩:=nm a.2.1.1
 rw[←hrs] at cD0 cW cP hsd hD hpt gd2 hn8 hZ
 have HES:=hY hes
 have HSD:=hY hsd
 have HN8:=hY hn8
 have HGD:=hY gd2
 have HD:=hY hD
 have HPT:=hY hpt
 have HZ:=hY hZ
 obtain⟨hf,hhf⟩:=nm a.1.1.1.2.2.2
 obtain⟨now,hnow⟩:=nm a.1.1.2.2.2.2
 obtain⟨p0,hp0⟩:=nm a.2.1.2
 obtain⟨sq,hsq⟩:=nm a.2.2
 rw[←hhf,←hnow] at c1 cC cP ⊢
 rw[←hp0] at c1 cD0 cB cW HPT HD ⊢
 rw[←hsq] at c1 HSD HES ⊢
 have HSQ:=hY hsq.symm
 clear hr g1 g2 gd gd2 hz1 hz2 hrs hbase hD hsd hes hn8 hpt hhf hnow hp0 hsq hok hbd hZ
 replace c1:∀w1,Below w.heap.size w w1→Gives Tryz.prog 15 #[.agg #[.slice A1 n1 k1,.slice A2 n2 k2,.slice A3 n3 k3,.int .i64 hf,.slice A4 n4 k4,.slice A5 n5 k5,.slice A6 n6 k6,.int .i64 now,.slice A7 n7 k7,.slice A8 n8 k8,.int .i64 p0,.int .i64 sq]] w1 (.bool z1):=c1
 show Rets Tryz.prog [] _ #[.agg #[.slice A1 n1 k1,.slice A2 n2 k2,.slice A3 n3 k3,.int .i64 hf,.slice A4 n4 k4,.slice A5 n5 k5,.slice A6 n6 k6,.int .i64 now,.slice A7 n7 k7,.slice A8 n8 k8,.int .i64 p0,.int .i64 sq],.int .i64 pw] w _
 have H:=Hs.start noRow w
 refine Rets.of ?_
 by_cases hd:z1=true∧z2=true
 rotate_left
 ·have hd2:z1=false∨(z1=true∧z2=false):=by cases z1 <;> cases z2 <;> simp_all
  clear cD cB cW cD0 cC cP hd
  rcases hd2 with rfl|⟨rfl,rfl⟩
  all_goals(
   go_enter Tryz.func5,Tryz.ntmps5
   go_wp2_with (first|((((with_reducible refine st_gwF ?_ ?_);rfl));(try refine zp ?_))|((first|refine zU ?_|(refine zB 2 ?_;intro b2)|(refine zA 4 ?_;intro b4)|(go_at_call 15;refine gvF (c1 _ H.below) H ?_)|(go_at_call 16;refine gvF (c2 _) H ?_)|(go_at_call 17;refine gvF (z9z _ _) H ?_));clear H;intro wn H))
   refine bpF ?_
   have hZ2:=HZ.out
   simp only[Bool.false_and,Bool.and_false,Bool.false_eq_true,if_false] at hZ2
   rw[hZ2]
   exact z4y H 1)
 obtain⟨rfl,rfl⟩:=hd
 obtain⟨hst,hdk0,hreg⟩:=HPT.out rfl
 have hdk:=HD.out hdk0 rfl
 have hl13:=(z0d.1 hdk).1
 replace cD0:=cD0 (by omega)
 replace cW:=cW (by omega)
 replace cC:=cC hst
 replace cP:=cP hst hreg
 have hZ2:=HZ.out
 simp only[Bool.and_self,if_true] at hZ2
 have hn0:0<n8:=by rw[HN8.out];omega
 have hn13:n8≤13:=by rw[HN8.out];omega
 have HDK:=hY hdk
 clear HPT HD HZ hst hdk0 hreg hdk hl13
 by_cases h0:pw=0
 ·have e0:(pw==0)=true:=by simpa using h0
  rw[if_pos h0] at hZ2
  have HZ2:=hY hZ2
  clear h0 hZ2 cB cC cP cW cD
  go_enter Tryz.func5,Tryz.ntmps5
  go_wp2_with (first|((((with_reducible refine st_gwF ?_ ?_);rfl));(try refine zp ?_))|((first|refine zM ?_|(refine zB 2 ?_;intro b2)|(refine zA 4 ?_;intro b4)|(go_at_call 15;refine gvF (c1 _ H.below) H ?_)|(go_at_call 16;refine gvF (c2 _) H ?_));clear H;intro wn H))
  refine(Rets.use (cD0 _ H.below)).mono ?_;rintro e wn ⟨_,_,rfl,⟨ds,J,rfl,o,rfl⟩,hkk⟩;refine zK ?_;clear H hkk;intro H
  obtain⟨PA1,Pn1,Pk1,PA2,Pn2,Pk2,PA3,Pn3,Pk3,PA4,Pn4,Pk4,PA5,Pn5,Pk5,PA6,Pn6,Pk6,PA7,Pn7,Pk7,PA8,Pn8,Pk8,rfl⟩:=Dz.HO_lit (own_rd H .here o)
  go_wp2_with (refine zS ?_;clear H;intro wn H)
  refine bpF ?_
  rw[HZ2.out]
  exact Hs.retd (H.sel (M:=[Hl.all J]) sF) (List.Sublist.refl _) ⟨_,_,rfl,o,rfl⟩
 have e0:(pw==0)=false:=by simpa using h0
 rw[if_neg h0] at hZ2
 have HZ2:=hY hZ2
 have HP0:=hY h0
 clear h0 hZ2 cD0
 obtain⟨bq,hbq⟩:=nm2 ((base != sq))
 have HBQ:=hY hbq
 go_enter Tryz.func5,Tryz.ntmps5
 go_wp2_with (first|((((with_reducible refine st_gwF ?_ ?_);rfl));(try refine zp ?_))|((first|refine zM ?_|(refine zB 2 ?_;intro b2)|(refine zA 4 ?_;intro b4)|(go_at_call 15;refine gvF (c1 _ H.below) H ?_)|(go_at_call 16;refine gvF (c2 _) H ?_)|(go_at_call 19;refine gvF (cB _ H.below) H ?_));clear H;intro wn H))
 refine(Rets.use (cW _ H.below)).mono ?_;rintro e wn ⟨_,_,rfl,⟨D6,k6',rfl,rfl⟩,hkk⟩;refine zK ?_;clear H hkk;intro H
 go_wp2_with ((first|refine zS ?_|(refine zA 6 ?_;intro b6));clear H;intro wn H)
 go_loopg [7] n8 (fun m iv wr=>∃(k:Nat) (rs':List Reg) (p':Int) (A:Option Addr) (c:Nat),k+m=n8∧iv = .int .i64 k∧Hid (rs'.length=n8∧diskOk rs' p'=true∧Z=z0t a (if bq then z1b sq base (z1f a.1) (n8-k) k rs' p' else (rs',p',0)))∧Hs noRow w [Hl.blk b6 60 #[.slice A n8 c,.int .i64 p'],Hl.blk b2 62 #[.slice A1 n1 k1,.slice A2 n2 k2,.slice A3 n3 k3,.int .i64 hf,.slice A4 n4 k4,.slice A5 n5 k5,.slice A6 n6 k6,.int .i64 now,.slice A7 n7 k7,.slice A8 n8 k8,.int .i64 p0,.int .i64 sq],Hl.blk b4 64 #[.slice none 0 0,.slice none 0 0,.slice none 0 0,.int .i64 0,.slice none 0 0,.slice none 0 0,.slice none 0 0,.int .i64 0,.slice none 0 0,.slice none 0 0,.int .i64 0,.int .i64 0,.string ⟨#[]⟩,.int .i64 0],Hl.row 86 3 (.slice A n8 c) n8 (flat encReg rs')] wr)
 case atStart=>
  refine⟨0,rs,pw,D6,k6',by omega,rfl,hY ⟨HN8.out.symm,HDK.out,?_⟩,H.sel sF⟩
  rw[HZ2.out,HSD.out,Nat.sub_zero]
  have hb:=HBQ.out
  cases bq
  ·have:base=sq:=by simpa using hb
   rw[if_pos this];rfl
  ·have:¬base=sq:=by simpa using hb
   rw[if_neg this];rfl
 case round=>
  clear H cB cW
  obtain⟨k,rs',p',A,c,hk,rfl,HI,H⟩:=hrel
  by_cases hgo:k<n8∧bq=true
  ·obtain ⟨hlt,rfl⟩:=hgo
   obtain⟨hl',hdk',hZ'⟩:=HI.out
   rw[show n8-k=(n8-(k+1))+1 by omega] at hZ'
   obtain⟨x,hx,hxd,hxm⟩:=reg_at (rs:=rs') (k:=k) (by omega)
   have hxl:=(reg_max hdk' hxm).1
   have ch:=fun w1=>l16Slot_s x.1 hxl w1
   have hod:z1c rs' base k=((heldOf x.1.data.toList).2.2&&((heldOf x.1.data.toList).1==base)):=by unfold z1c;rw[hxd]
   obtain⟨hh1,hh2⟩:=z6t x.1.data.toList
   rcases hFO:slotFO x.1.data.toList with ⟨fq,ft,fa,fc⟩
   rw[hFO] at ch hh1 hh2
   unfold encFO at ch
   simp only at ch hh1 hh2
   replace hod:z1c rs' base k=((fc==0)&&(fq==base)):=by
    rw[hod,hh1]
    by_cases h:fc=0
    ·rw[hh2 (by rw[hh1];simpa using h)];simp[h]
    ·simp[h]
   obtain⟨hb,hhb⟩:=nm2 ((fc==0))
   obtain⟨zo,hzo⟩:=nm2 ((fq==base))
   rw[hhb,hzo] at hod
   generalize bs ft=ht at ch
   clear hh1 hh2 hFO
   obtain⟨pt,hpt⟩:=nm (bs (z1f a.1 k))
   have cp:=cP k (by omega)
   rw[←hpt] at cp
   have hpd:pt.data.toList=z1f a.1 k:=by rw[hpt,data_bs]
   obtain⟨rs1,p1,c9,he⟩:∃y1 y2 y3,slotOut rs' p' k (z1c rs' base k) (frameBytes sq (z1f a.1 k))=(y1,y2,y3):=⟨_,_,_,rfl⟩
   obtain⟨n9,hn9⟩:=nm2 rs1.length
   have hl9:=z2v (by omega) he
   have hstep:=z2j (m:=n8-(k+1)) (part:=z1f a.1) (base:=base) he
   rw[hstep] at hZ'
   have hkeep:c9=0→diskOk rs1 p1=true∧n8=n9:=fun h=>by
    have:=z3s hdk' (by omega) (h ▸ he)
    exact⟨this.1,by omega⟩
   have cs:∀v w1,Rd w1 3 v rs'.length (flat encReg rs')→Rets Tryz.prog [] 22 #[.agg #[v,.int .i64 p'],.int .i64 k,.bool (z1c rs' base k),.agg #[.int .i64 sq,.string pt]] w1 (tDR rs1 n9 p1 c9):=fun v w1 h=>by
    have h2:=slot_s rs' v p' k (z1c rs' base k) sq pt w1 h
    rw[hpd,he] at h2
    exact NewOut.retD h2 hn9
   rw[hod] at cs
   rw[hl'] at cs
   have HS1:=hY hn9
   have HZ3:=hY hZ'
   have HKP:=hY hkeep
   have HL9:=hY hl9
   obtain⟨gr,cr,hvr,_⟩:=(H.rows iF).form (by omega)
   injection hvr with hv1 hv2 hv3
   subst hv1 hv3
   have hseg:∀j u,[Value.string x.1][j]? = some u→(flat encReg rs')[k*3+j]? = some u:=fun j u hu=>by
    match j,hu with
    | 0,hu=>
     obtain rfl:Value.string x.1=u:=by simpa using hu
     exact flat_get encReg_len rs' k 0 x hx (by omega)
   have hk1:(k:Int)<n8:=by omega
   clear hstep hkeep hZ' he hod hdk' hxd hxm hpd hn9 hl9 hx hv2 hpt hl'
   go_upto_region 12 with (first|((with_reducible apply st_load1 H);decide +kernel;rfl;(focus exact(At.row H iF hseg).head rfl);clear H;intro wn H;refine zp ?_)|refine zgU ?_|((with_reducible refine' st_guard ?_ ?_ ?_);rotate_left;rfl;(all_goals(intro hgd;cases hgd));(try refine zp ?_))|refine zgW ?_|refine zgS ?_|((first|refine zU ?_|(refine zB 2 ?_;intro b2)|(refine zA 4 ?_;intro b4)|(refine zA 6 ?_;intro b6)|(refine zA 8 ?_;intro b8)|(refine zA 11 ?_;intro b11)|(go_at_call 21;refine gvF (ch _) H ?_));clear H;intro wn H))
   cases hb
   ·simp only[Bool.false_and] at cs
    apply wp_region_hs (K:=[]) (Spec.V _::Spec.V _::Spec.V _::Spec.V _::Spec.V _::Spec.V _::Spec.V _::Spec.V _::Spec.V _::Spec.V _::Spec.V _::Spec.V _::Spec.V _::Spec.V _::Spec.V _::Spec.V _::Spec.V _::Spec.V _::Spec.V _::Spec.T _::Spec.N _ _ :: []) 21 H rfl (by simp) (by kernel_rfl) (by kernel_rfl);intro vs Ls;(iterate 6 (refine zhv ?_));(iterate 5 ((with_reducible apply wpH_skip);(focus rfl);(focus rfl);(try refine zp ?_)));(iterate 6 (refine zhv ?_));(with_reducible apply wpH_VK);(focus rfl);(focus rfl);(focus(intro hk w1 H1;unfold OpOk;go_simp;exact now_call (Gives.rets (cp _ H1.below))));refine zp ?_;(iterate 1 (refine zhv ?_));(with_reducible apply wpH_T);(focus rfl);(focus rfl);(focus(intro hk w1 H1;unfold OpOk;go_simp;exact now_call (cs _ _ (H1.rows iF).rd)));refine zp ?_;(with_reducible apply wpH_N);(focus rfl);(focus rfl);(focus(intro w1 H1;exact nF));intro g20 hg20;refine zp ?_;refine wpH_0 ?_;intro hok wn Hn;(try simp only[yT,yU,yV,yW] at Hn);clear H;have H:=Hn;clear Hn;(try simp only[←hg20]);clear hg20;have ht19:=okT (hok 19 (by decide)) rfl;clear hok;obtain⟨A16,k16,e19,l19⟩:=ht19;simp only[e19,l19,yT,yU,yV] at H ⊢;clear e19 l19;rotate_left;exact lcG
    go_upto_if 76 with (first|refine zgU ?_|((with_reducible refine' st_guard ?_ ?_ ?_);rotate_left;rfl;(all_goals(intro hgd;cases hgd));(try refine zp ?_))|refine zgW ?_|refine zgS ?_|((first|refine zU ?_|(refine zB 2 ?_;intro b2)|(refine zA 4 ?_;intro b4)|(refine zA 6 ?_;intro b6)|(refine zA 8 ?_;intro b8)|(refine zA 11 ?_;intro b11));clear H;intro wn H))
    by_cases hc:c9=0
    ·have f9:(c9 != 0)=false:=by simpa using hc
     obtain⟨hd9,rfl⟩:=HKP.out hc
     go_wp2_with (refine zU ?_;clear H;intro wn H)
     go_roundg (n8-(k+1))
     case measure=>omega
     case rel=>exact⟨k+1,rs1,p1,A16,k16,by omega,by go_num,hY ⟨HS1.out,hd9,by have:=HZ3.out;rw[if_pos hc] at this;exact this⟩,H.sel sF⟩
    ·have f9:(c9 != 0)=true:=by simpa using hc
     go_wp2_with (refine zM ?_;clear H;intro wn H)
     refine(Rets.use (cD rs1 (by have:=HL9.out;omega) _ _ _ (by rw[HS1.out];exact(H.rows iF).rd))).mono ?_;rintro e wn ⟨_,_,rfl,⟨ds,J,rfl,o,rfl⟩,hkk⟩;refine zK ?_;clear H hkk;intro H
     obtain⟨PA1,Pn1,Pk1,PA2,Pn2,Pk2,PA3,Pn3,Pk3,PA4,Pn4,Pk4,PA5,Pn5,Pk5,PA6,Pn6,Pk6,PA7,Pn7,Pk7,PA8,Pn8,Pk8,rfl⟩:=Dz.HO_lit (own_rd H .here o)
     go_wp2_with (refine zS ?_;clear H;intro wn H)
     refine bpF ?_
     have hZ4:=HZ3.out
     rw[if_neg hc,HES.out,if_neg (fun h=>hc h.1)] at hZ4
     rw[hZ4]
     exact Hs.retd (H.sel (M:=[Hl.all J]) sF) (List.Sublist.refl _) ⟨_,_,rfl,o,rfl⟩
   ·simp only[Bool.true_and] at cs
    apply wp_region_hs (K:=[]) (Spec.V _::Spec.V _::Spec.V _::Spec.V _::Spec.V _::Spec.V _::Spec.V _::Spec.V _::Spec.V _::Spec.V _::Spec.V _::Spec.V _::Spec.V _::Spec.V _::Spec.V _::Spec.V _::Spec.V _::Spec.V _::Spec.V _::Spec.T _::Spec.N _ _ :: []) 21 H rfl (by simp) (by kernel_rfl) (by kernel_rfl);intro vs Ls;(iterate 17 (refine zhv ?_));(with_reducible apply wpH_VK);(focus rfl);(focus rfl);(focus(intro hk w1 H1;unfold OpOk;go_simp;exact now_call (Gives.rets (cp _ H1.below))));refine zp ?_;(iterate 1 (refine zhv ?_));(with_reducible apply wpH_T);(focus rfl);(focus rfl);(focus(intro hk w1 H1;unfold OpOk;go_simp;exact now_call (cs _ _ (H1.rows iF).rd)));refine zp ?_;(with_reducible apply wpH_N);(focus rfl);(focus rfl);(focus(intro w1 H1;exact nF));intro g20 hg20;refine zp ?_;refine wpH_0 ?_;intro hok wn Hn;(try simp only[yT,yU,yV,yW] at Hn);clear H;have H:=Hn;clear Hn;(try simp only[←hg20]);clear hg20;have ht19:=okT (hok 19 (by decide)) rfl;clear hok;obtain⟨A16,k16,e19,l19⟩:=ht19;simp only[e19,l19,yT,yU,yV] at H ⊢;clear e19 l19;rotate_left;exact lcG
    go_upto_if 76 with (first|refine zgU ?_|((with_reducible refine' st_guard ?_ ?_ ?_);rotate_left;rfl;(all_goals(intro hgd;cases hgd));(try refine zp ?_))|refine zgW ?_|refine zgS ?_|((first|refine zU ?_|(refine zB 2 ?_;intro b2)|(refine zA 4 ?_;intro b4)|(refine zA 6 ?_;intro b6)|(refine zA 8 ?_;intro b8)|(refine zA 11 ?_;intro b11));clear H;intro wn H))
    by_cases hc:c9=0
    ·have f9:(c9 != 0)=false:=by simpa using hc
     obtain⟨hd9,rfl⟩:=HKP.out hc
     go_wp2_with (refine zU ?_;clear H;intro wn H)
     go_roundg (n8-(k+1))
     case measure=>omega
     case rel=>exact⟨k+1,rs1,p1,A16,k16,by omega,by go_num,hY ⟨HS1.out,hd9,by have:=HZ3.out;rw[if_pos hc] at this;exact this⟩,H.sel sF⟩
    ·have f9:(c9 != 0)=true:=by simpa using hc
     go_wp2_with (refine zM ?_;clear H;intro wn H)
     refine(Rets.use (cD rs1 (by have:=HL9.out;omega) _ _ _ (by rw[HS1.out];exact(H.rows iF).rd))).mono ?_;rintro e wn ⟨_,_,rfl,⟨ds,J,rfl,o,rfl⟩,hkk⟩;refine zK ?_;clear H hkk;intro H
     obtain⟨PA1,Pn1,Pk1,PA2,Pn2,Pk2,PA3,Pn3,Pk3,PA4,Pn4,Pk4,PA5,Pn5,Pk5,PA6,Pn6,Pk6,PA7,Pn7,Pk7,PA8,Pn8,Pk8,rfl⟩:=Dz.HO_lit (own_rd H .here o)
     go_wp2_with (refine zS ?_;clear H;intro wn H)
     refine bpF ?_
     have hZ4:=HZ3.out
     rw[if_neg hc,HES.out,if_neg (fun h=>hc h.1)] at hZ4
     rw[hZ4]
     exact Hs.retd (H.sel (M:=[Hl.all J]) sF) (List.Sublist.refl _) ⟨_,_,rfl,o,rfl⟩
  obtain⟨hl',hdk',hZ'⟩:=HI.out
  have hZ6:Z=z0t a (rs',p',0):=by
   rw[hZ']
   cases bq
   ·rfl
   ·have:n8-k=0:=by
     have:¬k<n8:=fun h=>hgo ⟨h,rfl⟩
     omega
    rw[this];rfl
  rw[HES.out] at hZ6
  obtain⟨W,hW⟩:=nm (z0g n8 0 rs')
  have HZ0:Hid (p'=0→Z=z1i rs'):=hY fun h=>by rw[hZ6,if_neg (fun h2=>h2.2 h)]
  have HZ1:Hid (p'≠0→Z=((a.1,(W,-1),sq),(z1h,0))):=hY fun h=>by rw[hZ6,if_pos ⟨rfl,h⟩,hW]
  have HI3:Hid (rs'.length=n8∧diskOk rs' p'=true∧z0g n8 0 rs'=W):=hY ⟨hl',hdk',hW.symm⟩
  clear hZ' hZ6 hdk' hl' HI hW cP
  have hex:(¬(k:Int)<n8)∨((k:Int)<n8∧bq=false):=by
   by_cases h:k<n8
   ·refine .inr ⟨by omega,?_⟩
    cases hb:bq with
    | false=>rfl
    | true=>exact absurd ⟨h,hb⟩ hgo
   ·exact .inl (by omega)
  clear hgo
  rcases hex with hk1|⟨hk1,rfl⟩
  all_goals(
   go_wp2_with (first|((((with_reducible refine st_gwT ?_ ?_);rfl));(try refine zp ?_))|(refine zL ?_;clear H;intro wn H))
   go_loopg [10] n8 (fun m iv wr=>∃(k:Nat) (rs2:List Reg) (A:Option Addr) (c:Nat),k+m=n8∧iv = .int .i64 k∧Hid (rs2.length=n8∧diskOk rs2 p'=true∧(p'≠0→z0g (n8-k) k rs2=W)∧(p'=0→k=0∧rs2=rs'))∧Hs noRow w [Hl.blk b6 60 #[.slice A n8 c,.int .i64 p'],Hl.blk b2 62 #[.slice A1 n1 k1,.slice A2 n2 k2,.slice A3 n3 k3,.int .i64 hf,.slice A4 n4 k4,.slice A5 n5 k5,.slice A6 n6 k6,.int .i64 now,.slice A7 n7 k7,.slice A8 n8 k8,.int .i64 p0,.int .i64 sq],Hl.blk b4 64 #[.slice none 0 0,.slice none 0 0,.slice none 0 0,.int .i64 0,.slice none 0 0,.slice none 0 0,.slice none 0 0,.int .i64 0,.slice none 0 0,.slice none 0 0,.int .i64 0,.int .i64 0,.string ⟨#[]⟩,.int .i64 0],Hl.row 86 3 (.slice A n8 c) n8 (flat encReg rs2)] wr)
   case atStart=>exact⟨0,rs',A,c,by omega,rfl,hY ⟨HI3.out.1,HI3.out.2.1,fun _=>by rw[Nat.sub_zero];exact HI3.out.2.2,fun _=>⟨rfl,rfl⟩⟩,H.sel sF⟩
   case round=>
    clear H HI3 hk1 hk
    obtain⟨k,rs2,A,c,hk,rfl,HI,H⟩:=hrel
    by_cases hlt:k<n8
    ·obtain ⟨hl2,hdk2,hw2,hw3⟩:=HI.out
     have hk1:(k:Int)<n8:=by omega
     by_cases hp:p'=0
     ·have HZD:=hY (HZ0.out hp)
      clear HZ0 HZ1
      subst hp
      obtain⟨rfl,rfl⟩:=hw3 rfl
      have hs0:stage rs2 0 (0:Nat)=12:=stage_down hdk2 ⟨by omega,by omega⟩
      have cw:∀v w1,Rd w1 3 v rs2.length (flat encReg rs2)→Rets Tryz.prog [] 24 #[.agg #[v,.int .i64 0],.int .i64 (0:Nat)] w1 (tDR rs2 n8 0 12):=fun v w1 h=>by
       have h2:=wipe_s rs2 v 0 (0:Nat) w1 h
       have e1:wipeRs rs2 0 (0:Nat)=rs2:=by unfold wipeRs;rw[hs0];rfl
       have e2:doneP rs2 0 (0:Nat)=0:=by unfold doneP;rw[hs0];rfl
       rw[e1,e2,hs0] at h2
       exact NewOut.retD h2 hl2
      rw[hl2] at cw
      have HL9:=hY hl2
      clear hl2 hdk2 hw2 hw3 hs0 HI cC
      go_wp2_with (refine zU ?_;clear H;intro wn H)
      refine(Rets.use (cw _ _ (H.rows iF).rd)).mono ?_;rintro e wn ⟨_,_,rfl,⟨A9,k9,rfl,rfl⟩,hkk⟩;refine zK ?_;clear H hkk;intro H
      go_wp2_with ((first|refine zU ?_|(refine zA 11 ?_;intro b11));clear H;intro wn H)
      refine(Rets.use (cD rs2 (by have:=HL9.out;omega) _ _ _ (by rw[HL9.out];exact(H.rows iF).rd))).mono ?_;rintro e wn ⟨_,_,rfl,⟨ds,J,rfl,o,rfl⟩,hkk⟩;refine zK ?_;clear H hkk;intro H
      obtain⟨PA1,Pn1,Pk1,PA2,Pn2,Pk2,PA3,Pn3,Pk3,PA4,Pn4,Pk4,PA5,Pn5,Pk5,PA6,Pn6,Pk6,PA7,Pn7,Pk7,PA8,Pn8,Pk8,rfl⟩:=Dz.HO_lit (own_rd H .here o)
      go_wp2_with (refine zS ?_;clear H;intro wn H)
      refine bpF ?_
      rw[HZD.out]
      exact Hs.retd (H.sel (M:=[Hl.all J]) sF) (List.Sublist.refl _) ⟨_,_,rfl,o,rfl⟩
     rw[show n8-k=(n8-(k+1))+1 by omega] at hw2
     obtain⟨hs0,hs1,hs2,hs3,hs4⟩:=z3p hdk2 (k:=k) (by omega) hp
     have cw:∀v w1,Rd w1 3 v rs2.length (flat encReg rs2)→Rets Tryz.prog [] 24 #[.agg #[v,.int .i64 p'],.int .i64 k] w1 (tDR (setLog rs2 k ⟨#[]⟩) n8 p' 0):=fun v w1 h=>by
      have h2:=wipe_s rs2 v p' k w1 h
      rw[hs1,hs2,hs0] at h2
      exact NewOut.retD h2 (by rw[hs4,hl2])
     rw[hl2] at cw
     have HI4:Hid ((setLog rs2 k ⟨#[]⟩).length=n8∧diskOk (setLog rs2 k ⟨#[]⟩) p'=true∧(p'≠0→z0g (n8-(k+1)) (k+1) (setLog rs2 k ⟨#[]⟩)=W)∧(p'=0→k+1=0∧setLog rs2 k ⟨#[]⟩=rs')):=hY ⟨by rw[hs4,hl2],hs3,fun h=>hw2 h,fun h=>absurd h hp⟩
     generalize setLog rs2 k ⟨#[]⟩=rs3 at *
     clear hl2 hdk2 hw2 hw3 hs0 hs1 hs2 hs3 hs4 HI cC hp
     go_wp2_with (refine zU ?_;clear H;intro wn H)
     refine(Rets.use (cw _ _ (H.rows iF).rd)).mono ?_;rintro e wn ⟨_,_,rfl,⟨A9,k9,rfl,rfl⟩,hkk⟩;refine zK ?_;clear H hkk;intro H
     go_wp2_with ((first|refine zU ?_|(refine zA 11 ?_;intro b11));clear H;intro wn H)
     go_roundg (n8-(k+1))
     case measure=>omega
     case rel=>exact⟨k+1,rs3,A9,k9,by omega,by go_num,HI4,H.sel sF⟩
    ·obtain rfl:k=n8:=by omega
     have hk1:=nlt k
     obtain⟨hl2,hdk2,hw2,hw3⟩:=HI.out
     have hp:p'≠0:=fun h=>by have:=(hw3 h).1;omega
     have hw4:rs2=W:=by have:=hw2 hp;rw[Nat.sub_self] at this;exact this
     subst hw4
     have HL2:=hY hl2
     have HZ3:=hY (HZ1.out hp)
     obtain⟨cAt,F⟩:=z8i
     clear hl2 hdk2 hw2 hw3 HI hp cD
     go_wp2_with (refine zU ?_;clear H;intro wn H)
     apply wp_region_hs (K:=[]) (Spec.V _::Spec.V _::Spec.T _::Spec.V _::Spec.V _::Spec.V _::Spec.V _::Spec.V _ :: []) 8 H rfl (by simp) (by kernel_rfl) (by kernel_rfl);intro vs Ls;(iterate 2 (refine zhv ?_));(with_reducible apply wpH_T);(focus rfl);(focus rfl);(focus(intro hk w1 H1;unfold OpOk;go_simp;exact now_call (cC _ H1.below)));refine zp ?_;(iterate 3 (refine zhv ?_));(with_reducible apply wpH_VK);(focus rfl);(focus rfl);(focus(intro hk w1 H1;have q2:=okT (hk 2 (by decide +kernel) (by decide)) rfl;exact z1t (v1:=vs 2) (v2 := .agg #[.slice A k c,.int .i64 (-1)]) F rfl rfl rfl q2.form ⟨_,_,_,_,rfl⟩));refine zp ?_;((with_reducible apply wpH_V);(focus rfl);(focus rfl);(focus(intro w1 H1;exact z2p rfl));refine zp ?_);refine wpH_0 ?_;intro hok wn Hn;(try simp only[yT,yU,yV,yW] at Hn);clear H;have H:=Hn;clear Hn;have ht2:=okT (hok 2 (by decide)) rfl;clear hok;obtain⟨B1,m1,j1,B2,m2,j2,B3,m3,j3,B4,m4,j4,B5,m5,j5,B6,m6,j6,B7,m7,j7,N2,e2,o2,l2⟩:=ht2;simp only[e2,l2,yT,yU,yV] at H ⊢;clear e2 l2;rotate_left;exact lcG
     simp only[F.a0,F.a1,F.a2,F.a3,F.a4,F.a5,F.a6,F.a7,F.a8,F.d0,F.d1]
     go_wp2_with (refine zS ?_;clear H;intro wn H)
     refine bpF ?_
     rw[HZ3.out]
     exact z3m (H.sel (M:=[Hl.row 86 3 (.slice A k c) k (flat encReg rs2),Hl.all N2]) sF) HL2.out o2)
