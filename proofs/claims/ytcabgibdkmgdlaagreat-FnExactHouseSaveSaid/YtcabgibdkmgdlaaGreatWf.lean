import Derived.Test.YtcabgibdkmgdlaaGreatWe
import Derived.Test.YtcabgibdkmgdlaaGreatJI
set_option linter.unusedSimpArgs false
set_option linter.unusedVariables false
set_option maxRecDepth 100000
set_option maxHeartbeats 8000000
namespace Go.Proofs.YtcabgibdkmgdlaaGreat
open Go.RowKit M
namespace M
theorem z9p(l:List Nd):mkNd.cntl l≤14*szNdl l:=by
 unfold szNdl
 induction l with
 | nil=>exact Nat.zero_le _
 | cons a l ih=>
  show (1+mkSp.cntl a.2)+mkNd.cntl l≤14*((a::l).length+(a.2.length+mzNd.cntl l))
  rw[z0c (K:=mkSp) (s:=2) (fun _=>rfl),List.length_cons]
  omega
theorem z9r(l:List Ta):mkTa.cntl l≤14*szTal l:=by
 unfold szTal
 induction l with
 | nil=>exact Nat.zero_le _
 | cons a l ih=>
  show (13+mkNum.cntl a.2)+mkTa.cntl l≤14*((a::l).length+((ssTf a.1+a.2.length)+mzTa.cntl l))
  rw[z0c (K:=mkNum) (s:=1) (fun _=>rfl),List.length_cons]
  omega
theorem z8e(a:St):mkSt.cnt a≤14*szSt a:=by
 have h1:=z9e a.1.1
 have h2:=z9p a.1.2.1
 have h3:=z9r a.1.2.2.1
 have h4:mkUs.cntl a.1.2.2.2.1=4*a.1.2.2.2.1.length:=z0c (fun _=>rfl) _
 have h5:=z9w a.2
 show (mkCfg.cnt a.1.1+(mkNd.cntl a.1.2.1+(mkTa.cntl a.1.2.2.1+(mkUs.cntl a.1.2.2.2.1+0))))+mkBo.cntl a.2≤14*((szCfg a.1.1+(szNdl a.1.2.1+(szTal a.1.2.2.1+(a.1.2.2.2.1.length+mzUs.cntl a.1.2.2.2.1))))+(a.2.length+mkSz.cntl a.2))
 omega
theorem z9v(a:Ho):mkHo.cnt a≤14*z8m a:=by
 have h1:=z8e a.1
 have h2:mkRg.cntl a.2.1.1=3*a.2.1.1.length:=z0c (fun _=>rfl) _
 show mkSt.cnt a.1+((mkRg.cntl a.2.1.1+0)+0)≤14*(szSt a.1+(a.2.1.1.length+mzRg.cntl a.2.1.1))
 omega
theorem z2h{sq base:Int}{part:Nat→Bs}:∀(m k:Nat) (rs:List Reg) (p:Int),rs.length≤13→(z1b sq base part m k rs p).1.length≤13
 | 0,_,_,_,h=>h
 | m+1,k,rs,p,h=>by
  obtain⟨rs',p',c,e⟩:∃x y z,slotOut rs p k (z1c rs base k) (frameBytes sq (part k))=(x,y,z):=⟨_,_,_,rfl⟩
  rw[z2j e]
  have hl:=z2v h e
  split
  ·exact z2h m (k+1) rs' p' hl
  ·exact hl
theorem z1y:∀(m k:Nat) (rs:List Reg),(z0g m k rs).length=rs.length
 | 0,_,_=>rfl
 | m+1,k,rs=>by
  show (z0g m (k+1) (setLog rs k ⟨#[]⟩)).length=_
  rw[z1y m (k+1),setLog_len]
theorem z5f(st:St)(rs:List Rg)(p q:Int)(t:ByteArray × Int):mkHO.cnt ((st,(rs,p),q),t)=mkSt.cnt st+3*rs.length:=by
 have h2:mkRg.cntl rs=3*rs.length:=z0c (fun _=>rfl) _
 show (mkSt.cnt st+((mkRg.cntl rs+0)+0))+0=_
 rw[h2];omega
theorem z3a(a:Ho)(pw:Int):mkHO.cnt (z0h a pw)≤mkSt.cnt a.1+39:=by
 have hz:mkSt.cnt z3j=0:=rfl
 unfold z0h
 split
 ·rename_i h
  rw[Bool.and_eq_true] at h
  obtain⟨_,hd,_⟩:=z1j h.1
  have hl:=(z0d.1 hd).1.2
  split
  ·unfold z1i;rw[z5f,hz];omega
  ·have h3:(z0x a pw).1.length≤13:=by
    unfold z0x
    split
    ·exact hl
    ·exact z2h _ _ _ _ hl
   unfold z0t
   split
   ·rw[z5f,z1y];omega
   ·unfold z1i;rw[z5f,hz];omega
 ·show mkHO.cnt ((z3j,([],0),0),(z4r,1))≤_
  rw[z5f,hz]
  exact Nat.zero_le _
end M
theorem lw(a:Ho)(cs:List Value)(hk:z7z a ∧ ∀b ∈ a.1.2,bdBo b)(pw:Int)(w:World)(hr:Dz.tyHo.rd w cs a):
  Gives Tryz.prog 3 #[.agg cs.toArray,.int .i64 pw] w (.bool true):=by
 obtain⟨hok,hbd⟩:=hk
 have c1:=fun w1 hb=>Dz.szHouse_l a cs 1048576 (by omega) hok w1 (Ty.below _ hr hb)
 have c3:=fun hs w1 hb=>Dz.toHouse_l a cs hs w1 (Ty.below _ hr hb)
 have c5:=fun ds w1 h=>z4o a ds hok hbd pw w1 h
 have c6:=fun ds w1 h=>z4b a ds hok hbd pw w1 h
 have hms:=z3a a pw
 have hcs:=z8e a.1
 have hch:=z9v a
 have hss:szSt a.1≤z8m a:=Nat.le_add_right _ _
 generalize z0h a pw=so at *
 obtain⟨A1,n1,k1,A2,n2,k2,A3,n3,k3,A4,n4,k4,A5,n5,k5,A6,n6,k6,A7,n7,k7,A8,n8,k8,rfl⟩:=Dz.Ho_lit hr
 obtain⟨hf,hhf⟩:=nm a.1.1.1.2.2.2
 obtain⟨now,hnow⟩:=nm a.1.1.2.2.2.2
 obtain⟨p0,hp0⟩:=nm a.2.1.2
 obtain⟨sq,hsq⟩:=nm a.2.2
 rw[←hhf,←hnow,←hp0,←hsq] at c1 c3 ⊢
 clear hr hhf hnow hp0 hsq hok hbd
 replace c1:∀w1,Below w.heap.size w w1→Gives Tryz.prog 4 #[.agg #[_,_,_,_,_,_,_,_,_,_,_,_],.int .i64 1048576] w1 (.int .i64 (szC 1048576 (z8m a))):=c1
 replace c3:z8m a≤1048576 → ∀w1,Below w.heap.size w w1→Rets Tryz.prog [] 6 #[.agg #[_,_,_,_,_,_,_,_,_,_,_,_]] w1 (tAgg Dz.tyHo a):=c3
 show Gives Tryz.prog _ #[.agg #[_,_,_,_,_,_,_,_,_,_,_,_],.int .i64 pw] w _
 have H:=Hs.start noRow w
 unfold Gives
 by_cases hn1:(1048576:Int)-z8m a<0
 ·rw[szC_neg hn1] at c1
  go_enter Tryz.func3,Tryz.ntmps3
  go_wp2_with ((first|refine zM ?_|(refine zB 2 ?_;intro b2)|(go_at_call 4;refine gvF (c1 _ H.below) H ?_));clear H;intro wn H)
  go_ret
  exact⟨rfl,H.below⟩
 rw[szC_pos hn1] at c1
 have c8:=c3 (by omega)
 clear c3
 have hk1:1+mkHo.cnt a<90000000:=by omega
 have hk3:1+mkHO.cnt so<90000000:=by omega
 clear hms hcs hch hss
 have cM1:=fun ds=>Dz.markHouse_l a ds 1 (by omega)
 obtain⟨k1',hk1e⟩:∃k,k=1+mkHo.cnt a:=⟨_,rfl⟩
 rw[←hk1e] at cM1 hk1
 have cM3:=fun ds=>Dz.markHouseOut_l so ds 1 (by omega)
 have cH:=fun ds w1 h=>Dz.heldHouseOut_l so ds 1 (by omega) w1 h
 obtain⟨k3',hk3e⟩:∃k,k=1+mkHO.cnt so:=⟨_,rfl⟩
 rw[←hk3e] at cM3 cH hk3
 generalize (1048576:Int)-z8m a=s2 at *
 have f2:¬(k1':Int)<0:=by omega
 have f3:¬(k3':Int)<0:=by omega
 have f4:((k3':Int) != (k3':Int))=false:=by simp
 clear hk1e hk3e hk1 hk3
 go_enter Tryz.func3,Tryz.ntmps3
 go_wp2_with ((first|refine zM ?_|(refine zB 2 ?_;intro b2)|(go_at_call 4;refine gvF (c1 _ H.below) H ?_));clear H;intro wn H)
 refine(Rets.use (c8 _ H.below)).mono ?_;rintro e wn ⟨_,_,rfl,⟨a1,M1,rfl,o1,rfl⟩,hkk⟩;refine zK ?_;clear H hkk;intro H
 obtain⟨_,_,_,_,_,_,_,_,_,_,_,_,_,_,_,_,_,_,_,_,_,_,_,_,rfl⟩:=Dz.Ho_lit (own_rd H .here o1)
 go_wp2_with (fail)
 refine(Rets.use (c5 _ _ (own_rd H iF o1))).mono ?_;rintro e wn ⟨_,_,rfl,⟨a4,M4,rfl,o4,rfl⟩,hkk⟩;refine zK ?_;clear H hkk;intro H
 obtain⟨_,_,_,_,_,_,_,_,_,_,_,_,_,_,_,_,_,_,_,_,_,_,_,_,rfl⟩:=Dz.HO_lit (own_rd H .here o4)
 go_wp2_with ((first|refine zU ?_|(refine zA 6 ?_;intro b6));clear H;intro wn H)
 refine(Rets.use (c8 _ H.below)).mono ?_;rintro e wn ⟨_,_,rfl,⟨a2,M2,rfl,o2,rfl⟩,hkk⟩;refine zK ?_;clear H hkk;intro H
 obtain⟨_,_,_,_,_,_,_,_,_,_,_,_,_,_,_,_,_,_,_,_,_,_,_,_,rfl⟩:=Dz.Ho_lit (own_rd H .here o2)
 go_wp2_with ((first|refine zU ?_|(refine zA 7 ?_;intro b7));clear H;intro wn H)
 refine(Rets.use (c6 _ _ (own_rd H iF o2))).mono ?_;rintro e wn ⟨_,_,rfl,⟨a6,M6,rfl,o6,rfl⟩,hkk⟩;refine zK ?_;clear H hkk;intro H
 obtain⟨_,_,_,_,_,_,_,_,_,_,_,_,_,_,_,_,_,_,_,_,_,_,_,_,rfl⟩:=Dz.HO_lit (own_rd H .here o6)
 go_wp2_with ((first|refine zU ?_|(refine zA 8 ?_;intro b8)|(go_at_call 8;refine gvF (Dz.eqHouseOut_l so _ _ _ (own_rd H iF o6) (own_rd H iF o4)) H ?_));clear H;intro wn H)
 apply wp_region_hss (K:=[]) (Spec.V _::Spec.V _::Spec.T _::Spec.V _::Spec.V _ :: []) 5 rfl H rfl (by simp) (by kernel_rfl) (by kernel_rfl);intro vs Ls;(iterate 2 (refine zhv ?_));(with_reducible apply wpH_T);(focus rfl);(focus rfl);(focus(intro hk w1 H1;unfold OpOk;go_simp;exact now_call (c8 _ H1.below)));refine zp ?_;(with_reducible apply(wpH_E 2));(focus rfl);(focus rfl);(focus rfl);(focus decide +kernel);(focus decide);(focus(intro kk2 w1 H1;obtain⟨a7,M7,e2,o7,l2⟩:=kk2;simp only[e2,l2,yT,yU,yV] at H1 ⊢;unfold OpOk;(try simp only[e2]);go_simp;exact now_call (Gives.rets (Dz.eqHouse_l a _ _ _ (own_rd H1 iF o2) (own_rd H1 iF o7)))));refine zp ?_;refine zhv ?_;refine wpH_0 ?_;intro hok wn Hn;(try simp only[yT,yU,yV,yW] at Hn);clear H;have H:=Hn;clear Hn;have ht2:=okT (hok 2 (by decide)) rfl;clear hok;obtain⟨a7,M7,e2,o7,l2⟩:=ht2;simp only[e2,l2,yT,yU,yV] at H ⊢;clear e2 l2;rotate_left;exact lcG
 go_wp2_with (refine zM ?_;clear H;intro wn H)
 refine(cM1 _ _ _ _ _ _ o2 (H.reperm (Del.perm (h:=Hl.all M2) dF))).mono ?_
 clear H
 rintro e wn ⟨rfl,M9,o9,H⟩
 go_wp2_with (first|((((with_reducible refine st_gwF ?_ ?_);rfl));(try refine zp ?_))|((first|refine zM ?_|(go_at_call 8;refine gvF (Dz.eqHouseOut_l so _ _ _ (own_rd H iF o6) (own_rd H iF o4)) H ?_));clear H;intro wn H))
 refine(cM3 _ _ _ _ _ _ o6 (H.reperm (Del.perm (h:=Hl.all M6) dF))).mono ?_
 clear H o6
 rintro e wn ⟨rfl,M11,o11,H⟩
 go_wp2_with (refine zM ?_;clear H;intro wn H)
 refine gvF (cH _ _ (own_rd H iF o11)) H ?_;clear H;intro wn H
 go_wp2_with (refine zM ?_;clear H;intro wn H)
 refine(Rets.use (c8 _ H.below)).mono ?_;rintro e wn ⟨_,_,rfl,⟨a12,M12,rfl,o12,rfl⟩,hkk⟩;refine zK ?_;clear H hkk;intro H
 obtain⟨_,_,_,_,_,_,_,_,_,_,_,_,_,_,_,_,_,_,_,_,_,_,_,_,rfl⟩:=Dz.Ho_lit (own_rd H .here o12)
 go_wp2_with (fail)
 refine(Rets.use (c6 _ _ (own_rd H iF o12))).mono ?_;rintro e wn ⟨_,_,rfl,⟨a14,M14,rfl,o14,rfl⟩,hkk⟩;refine zK ?_;clear H hkk;intro H
 obtain⟨_,_,_,_,_,_,_,_,_,_,_,_,_,_,_,_,_,_,_,_,_,_,_,_,rfl⟩:=Dz.HO_lit (own_rd H .here o14)
 go_wp2_with ((first|refine zU ?_|(refine zA 12 ?_;intro b12));clear H;intro wn H)
 refine gvF (Dz.eqHouseOut_l so _ _ _ (own_rd H iF o14) (own_rd H iF o4)) H ?_;clear H;intro wn H
 go_wp2_with (refine zM ?_;clear H;intro wn H)
 refine gvF (cH _ _ (own_rd H iF o11)) H ?_;clear H;intro wn H
 go_wp2_with (fail)
 go_ret
 exact⟨rfl,H.below⟩
