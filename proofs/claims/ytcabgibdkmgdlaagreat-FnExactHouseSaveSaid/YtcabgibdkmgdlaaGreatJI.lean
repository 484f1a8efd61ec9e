import Derived.Test.YtcabgibdkmgdlaaGreatJH
import Derived.Test.YtcabgibdkmgdlaaGreatJ4
import Derived.Test.YtcabgibdkmgdlaaGreatJ7
import Derived.Test.YtcabgibdkmgdlaaGreatJA
import Derived.Test.YtcabgibdkmgdlaaGreatJF
set_option linter.unusedSimpArgs false
set_option linter.unusedVariables false
set_option maxRecDepth 100000
set_option maxHeartbeats 4000000
namespace Go.Proofs.YtcabgibdkmgdlaaGreat
open Go.RowKit M
theorem z3b(v:Value)(l:List (List Lab))(k:Nat)(hk:k+mkLab.list.cntl l<9223372036854775807):Turn Tryz.prog 228 (Ty.sl 118 (Ty.sl 123 tyLab)) [v] l (mkLab.list.mkl k l) #[v,.int .i64 k] (.int .i64 (k+mkLab.list.cntl l:Nat)):=by
 intro R w0 L w N hO H
 obtain⟨xs,M,A,c,rfl,hO,hcm,H⟩:=own_open hO H
 unfold maxLen at *
 obtain⟨n,hn⟩:=nm l.length
 rw[←hn] at H ⊢
 have hn9:n≤9223372036854775807:=by obtain⟨_,_,h1,h2,h3⟩:=(H.rows .here).slice;injection h1;unfold maxLen at h3;omega
 have HN:=hY hn
 have HK:=hY hk
 have HO:=hY hO
 obtain⟨tot,ht⟩:=nm (k+mkLab.list.cntl l)
 rw[←ht]
 have HT:=hY ht
 have H2:Hs R w0 (Hl.row 118 1 (.slice A n c) n xs::Hl.all []::Hl.all M::L) w:=H.allNil.reperm (List.Perm.swap ..)
 clear H
 have H:=H2
 clear H2
 clear hn hk hO hcm ht
 go_enter Tryz.func228,Tryz.ntmps228
 go_wp2_with (fail)
 go_loopg [1,5] n (fun m kv iv wr=>∃(i k':Nat) (pre post:List Value) (N1 N2:List Hl),i+m=n∧iv = .int .i64 i∧kv = .int .i64 k'∧Hid (k'=k+mkLab.list.cntl (l.take i)∧OwnL (Ty.sl 123 tyLab) pre (mkLab.list.mkl k (l.take i)) N1∧OwnL (Ty.sl 123 tyLab) post (l.drop i) N2)∧Hs R w0 (Hl.row 118 1 (.slice A n c) n (pre++post)::Hl.all N1::Hl.all N2::L) wr)
 case atStart=>exact⟨0,k,[],xs,[],M,by omega,rfl,rfl,hY ⟨rfl,.nil,HO.out⟩,H⟩
 case round=>
  clear H
  obtain⟨i,k',pre,post,N1,N2,hi,rfl,rfl,HI,H⟩:=hrel
  by_cases hlt:i<n
  ·obtain ⟨x,hx⟩:=atE HN hlt
   obtain⟨g,c2,hv,_⟩:=(H.rows .here).form (by omega)
   injection hv with hv1 hv2 hv3
   subst hv1 hv3
   have hk1:=mkLab.list.cnt_at_le hx
   have hk2:=HK.out
   obtain⟨h1,h2,h3⟩:=HI.out
   obtain⟨hlt',e⟩:=List.getElem?_eq_some_iff.1 hx
   rw[List.drop_eq_getElem_cons hlt',e] at h3
   obtain⟨cs,ys,Mi,M3,rfl,rfl,hcs,h4⟩:=h3.un
   obtain⟨u,hu⟩:∃u,cs = [u]:=by obtain⟨u,_,_,rfl,_⟩:=hcs;exact⟨u,rfl⟩
   subst hu
   have hpl:pre.length=i:=by rw[h2.len,Mark.mkl_len,List.length_take,Nat.min_eq_left (Nat.le_of_lt hlt')];exact Nat.mul_one i
   have hseg:Seg (pre++([u]++ys)) i [u]:=seg_mid pre [u] ys hpl
   have hk3:k'+mkLab.cntl x<9223372036854775807:=by have:mkLab.list.cnt x=mkLab.cntl x:=rfl;omega
   have HI2:Hid (k'+mkLab.cntl x=k+mkLab.list.cntl (l.take (i+1))):=hY (by rw[mkLab.list.cntl_step hx,h1];show _=k+(_+mkLab.cntl x);omega)
   have HI3:Hid (∀Mj,(Ty.sl 123 tyLab).own [u] (mkLab.mkl k' x) Mj→OwnL (Ty.sl 123 tyLab) (pre ++ [u]) (mkLab.list.mkl k (l.take (i+1))) (N1++Mj)):=hY (fun Mj hj=>by rw[mkLab.list.mkl_step hx,←h1];exact h2.snoc hj)
   have HI4:=hY h4
   have HCS:=hY hcs
   have hlt1:(i:Int)<n:=by omega
   clear h1 h2 h3 h4 HI hx hk1 hk2 hpl e hv2 hlt' hcs
   go_wp2_with ((with_reducible apply st_load1 H);decide +kernel;rfl;(focus exact(At.row H iF (by assumption)).head rfl);clear H;intro wn H;refine zp ?_)
   refine(markLabelS_l u x k' hk3 _ _ _ _ _ HCS.out H.take2).mono ?_
   rintro e wn ⟨rfl,Mj,hj,Hn⟩
   clear H
   have H:=Hn.give2
   clear Hn
   have HI5:=hY (HI3.out Mj hj)
   clear hj
   go_wp2_with (fail)
   go_roundg (n-(i+1))
   case measure=>omega
   case rel=>exact⟨i+1,k'+mkLab.cntl x,pre ++ [u],ys,N1++Mj,M3,by omega,by go_num,by go_num,hY ⟨HI2.out,HI5.out,HI4.out⟩,by rw[List.append_assoc];exact H⟩
  ·obtain rfl:i=n:=by omega
   have hlt1:=nlt i
   go_wp2_with (fail)
   go_ret
   obtain⟨h1,h2,h3⟩:=HI.out
   rw[(tkl HN)] at h1 h2
   rw[(drl HN)] at h3
   obtain⟨rfl,rfl⟩:=h3.unNil
   rw[List.append_nil] at H
   have H2:=own_close h2 H (by rw[Mark.mkl_len];exact HN.out)
   obtain⟨N,hN,H3⟩:=H2
   exact⟨congrArg (fun z:Nat=>Ending.returned (.int .i64 z)) (h1.trans HT.out.symm),N,hN,H3.sub (List.Sublist.cons_cons _ (List.sublist_cons_self _ _))⟩
theorem z3e(c:Cfg)(cs:List Value)(k:Nat)(hk:k+mkCfg.cnt c<9223372036854775807):Turn Tryz.prog 155 tyCfg cs c (mkCfg.mak k c) #[.agg cs.toArray,.int .i64 k] (.int .i64 (k+mkCfg.cnt c:Nat)):=by
 intro R w0 L w N hO H
 obtain⟨x1,y1,M1,N1,rfl,rfl,h1,x2,y2,M2,N2,rfl,rfl,h2,x3,y3,M3,N3,rfl,rfl,h3,h4,h5⟩:=hO
 obtain⟨v1,hv1⟩:∃v,x1 = [v]:=by obtain⟨v,_,_,rfl,_⟩:=h1;exact⟨v,rfl⟩
 obtain⟨v2,hv2⟩:∃v,x2 = [v]:=by obtain⟨v,_,_,rfl,_⟩:=h2;exact⟨v,rfl⟩
 obtain⟨v3,hv3⟩:∃v,x3 = [v]:=by obtain⟨v,_,_,rfl,_⟩:=h3;exact⟨v,rfl⟩
 subst hv1 hv2 hv3 h4 h5
 obtain⟨l,pr,qt,hf⟩:=c
 simp only at h1 h2 h3
 show Calls Tryz.prog _ #[.agg #[v1,v2,v3,.int .i64 hf],_] w _
 have hk1:k+mkLab.list.cntl l+mkPr.cntl pr+mkQt.cntl qt<9223372036854775807:=by
  have:k+(mkLab.list.cntl l+(mkPr.cntl pr+(mkQt.cntl qt+0)))<9223372036854775807:=hk
  omega
 have c1:=z3b v1 l k (by omega)
 have c2:=markPairS_l v2 pr (k+mkLab.list.cntl l) (by omega)
 have c3:=markQuotaS_l v3 qt (k+mkLab.list.cntl l+mkPr.cntl pr) (by omega)
 have hr:(k+mkCfg.cnt (l,pr,qt,hf):Nat)=k+mkLab.list.cntl l+mkPr.cntl pr+mkQt.cntl qt:=by
  show k+(mkLab.list.cntl l+(mkPr.cntl pr+(mkQt.cntl qt+0)))=_
  omega
 rw[hr]
 have hd:mkCfg.mak k (l,pr,qt,hf)=(mkLab.list.mkl k l,mkPr.mkl (k+mkLab.list.cntl l) pr,mkQt.mkl (k+mkLab.list.cntl l+mkPr.cntl pr) qt,hf):=rfl
 rw[hd]
 clear hk hr hd hk1
 generalize mkLab.list.mkl k l=l' at *
 generalize mkPr.mkl (k+mkLab.list.cntl l) pr=pr' at *
 generalize mkQt.mkl (k+mkLab.list.cntl l+mkPr.cntl pr) qt=qt' at *
 generalize k+mkLab.list.cntl l+mkPr.cntl pr+mkQt.cntl qt=k3 at *
 generalize k+mkLab.list.cntl l+mkPr.cntl pr=k2 at *
 generalize k+mkLab.list.cntl l=k1 at *
 have HH1:=hY h1
 have HH2:=hY h2
 have HH3:=hY h3
 clear h1 h2 h3
 have Hp:=H.part3
 clear H
 have H:=Hp
 clear Hp
 go_enter Tryz.func155,Tryz.ntmps155
 go_wp2_with ((first|refine zL ?_|(refine zB 2 ?_;intro b2));clear H;intro wn H)
 refine(c1 _ _ _ _ _ HH1.out H.up1).mono ?_
 rintro e wn ⟨rfl,J1,j1,Hn⟩
 clear H
 have H:=Hn
 clear Hn
 go_wp2_with (refine zL ?_;clear H;intro wn H)
 refine(c2 _ _ _ _ _ HH2.out H.up2).mono ?_
 rintro e wn ⟨rfl,J2,j2,Hn⟩
 clear H
 have H:=Hn
 clear Hn
 go_wp2_with (refine zL ?_;clear H;intro wn H)
 refine(c3 _ _ _ _ _ HH3.out H.up3).mono ?_
 rintro e wn ⟨rfl,J3,j3,Hn⟩
 clear H
 have H:=Hn
 clear Hn
 go_wp2_with (fail)
 go_ret
 have H2:=H.up2.up2.up1.up3.off1
 rw[←List.append_nil J3] at H2
 exact⟨rfl,_,⟨[v1],[v2,v3,.int .i64 hf],_,_,rfl,rfl,j1,[v2],[v3,.int .i64 hf],_,_,rfl,rfl,j2,[v3],[.int .i64 hf],_,_,rfl,rfl,j3,rfl,rfl⟩,H2.join3⟩
theorem z5n(v:Value)(l:List Bo)(k:Nat)(hk:k+mkBo.cntl l<9223372036854775807):Turn Tryz.prog 159 (Ty.sl 128 tyBo) [v] l (mkBo.mkl k l) #[v,.int .i64 k] (.int .i64 (k+mkBo.cntl l:Nat)):=by
 intro R w0 L w N hO H
 obtain⟨xs,M,A,c,rfl,hO,hcm,H⟩:=own_open hO H
 unfold maxLen at *
 obtain⟨n,hn⟩:=nm l.length
 rw[←hn] at H ⊢
 have hn9:n≤9223372036854775807:=by obtain⟨_,_,h1,h2,h3⟩:=(H.rows .here).slice;injection h1;unfold maxLen at h3;omega
 have HN:=hY hn
 have HK:=hY hk
 have HO:=hY hO
 obtain⟨tot,ht⟩:=nm (k+mkBo.cntl l)
 rw[←ht]
 have HT:=hY ht
 have H2:Hs R w0 (Hl.row 128 3 (.slice A n c) n xs::Hl.all []::Hl.all M::L) w:=H.allNil.reperm (List.Perm.swap ..)
 clear H
 have H:=H2
 clear H2
 clear hn hk hO hcm ht
 go_enter Tryz.func159,Tryz.ntmps159
 go_wp2_with (fail)
 go_loopg [1,5] n (fun m kv iv wr=>∃(i k':Nat) (pre post:List Value) (N1 N2:List Hl),i+m=n∧iv = .int .i64 i∧kv = .int .i64 k'∧Hid (k'=k+mkBo.cntl (l.take i)∧OwnL tyBo pre (mkBo.mkl k (l.take i)) N1∧OwnL tyBo post (l.drop i) N2)∧Hs R w0 (Hl.row 128 3 (.slice A n c) n (pre++post)::Hl.all N1::Hl.all N2::L) wr)
 case atStart=>exact⟨0,k,[],xs,[],M,by omega,rfl,rfl,hY ⟨rfl,.nil,HO.out⟩,H⟩
 case round=>
  clear H
  obtain⟨i,k',pre,post,N1,N2,hi,rfl,rfl,HI,H⟩:=hrel
  by_cases hlt:i<n
  ·obtain ⟨x,hx⟩:=atE HN hlt
   obtain⟨g,c2,hv,_⟩:=(H.rows .here).form (by omega)
   injection hv with hv1 hv2 hv3
   subst hv1 hv3
   have hk1:=mkBo.cnt_at_le hx
   have hk2:=HK.out
   obtain⟨h1,h2,h3⟩:=HI.out
   obtain⟨hlt',e⟩:=List.getElem?_eq_some_iff.1 hx
   rw[List.drop_eq_getElem_cons hlt',e] at h3
   obtain⟨cs,ys,Mi,M3,rfl,rfl,hcs,h4⟩:=h3.un
   obtain⟨a1,q1,M1,P1,rfl,rfl,g1,a2,a3,M2,M4,rfl,rfl,g2,g3⟩:=hcs
   obtain⟨u1,hu1⟩:∃v,a1 = [v]:=by obtain⟨v,_,_,rfl,_⟩:=g1;exact⟨v,rfl⟩
   obtain⟨u2,hu2⟩:∃v,a2 = [v]:=by obtain⟨v,_,_,rfl,_⟩:=g2;exact⟨v,rfl⟩
   obtain⟨u3,hu3⟩:∃v,a3 = [v]:=by obtain⟨v,_,_,rfl,_⟩:=g3;exact⟨v,rfl⟩
   subst hu1 hu2 hu3
   have hpl:pre.length=i*3:=by rw[h2.len,Mark.mkl_len,List.length_take,Nat.min_eq_left (Nat.le_of_lt hlt')];rfl
   have hseg:Seg (pre++(([u1]++([u2] ++ [u3]))++ys)) (i*3) [u1,u2,u3]:=seg_mid pre [u1,u2,u3] ys hpl
   have hs1:Seg (pre++(([u1]++([u2] ++ [u3]))++ys)) (i*3) [u1]:=fun j u hu=>by match j,hu with|0,hu=>exact hseg 0 u hu
   have hs2:Seg (pre++(([u1]++([u2] ++ [u3]))++ys)) (i*3+1) [u2]:=fun j u hu=>by match j,hu with|0,hu=>exact hseg 1 u hu
   have hs3:Seg (pre++(([u1]++([u2] ++ [u3]))++ys)) (i*3+2) [u3]:=fun j u hu=>by match j,hu with|0,hu=>exact hseg 2 u hu
   have hk4:k'+mkNum.cntl x.1+mkNum.cntl x.2.1+mkNt.cntl x.2.2<9223372036854775807:=by have:mkBo.cnt x=mkNum.cntl x.1+(mkNum.cntl x.2.1+mkNt.cntl x.2.2):=rfl;omega
   have HI2:Hid (k'+mkNum.cntl x.1+mkNum.cntl x.2.1+mkNt.cntl x.2.2=k+mkBo.cntl (l.take (i+1))):=hY (by rw[mkBo.cntl_step hx,h1];show _=k+(_+(mkNum.cntl x.1+(mkNum.cntl x.2.1+mkNt.cntl x.2.2)));omega)
   have HI3:Hid (∀J1 J2 J3,(Ty.sl 2 tyNum).own [u1] (mkNum.mkl k' x.1) J1→(Ty.sl 2 tyNum).own [u2] (mkNum.mkl (k'+mkNum.cntl x.1) x.2.1) J2→(Ty.sl 162 tyNt).own [u3] (mkNt.mkl (k'+mkNum.cntl x.1+mkNum.cntl x.2.1) x.2.2) J3→OwnL tyBo (pre++([u1]++([u2] ++ [u3]))) (mkBo.mkl k (l.take (i+1))) (N1++(J1++(J2++J3)))):=hY (fun J1 J2 J3 j1 j2 j3=>by
    rw[mkBo.mkl_step hx,←h1]
    exact h2.snoc ⟨_,_,_,_,rfl,rfl,j1,_,_,_,_,rfl,rfl,j2,j3⟩)
   have HI4:=hY h4
   have HG1:=hY g1
   have HG2:=hY g2
   have HG3:=hY g3
   have c1:=markInt64S_l u1 x.1 k' (by omega)
   have c2:=markInt64S_l u2 x.2.1 (k'+mkNum.cntl x.1) (by omega)
   have c3:=markNoteS_l u3 x.2.2 (k'+mkNum.cntl x.1+mkNum.cntl x.2.1) (by omega)
   have hlt1:(i:Int)<n:=by omega
   obtain⟨x1,x2,x3⟩:=x
   simp only at HI2 HI3 HG1 HG2 HG3 c1 c2 c3
   generalize k'+mkNum.cntl x1+mkNum.cntl x2+mkNt.cntl x3=k4 at *
   generalize k'+mkNum.cntl x1+mkNum.cntl x2=k3 at *
   generalize k'+mkNum.cntl x1=k2 at *
   clear h1 h2 h3 h4 HI hx hk1 hk2 hpl e hv2 hlt' hseg hk4 g1 g2 g3
   have Hq:=H.take2.part3
   clear H
   have H:=Hq
   clear Hq
   go_wp2_with ((with_reducible apply st_load1 H);decide +kernel;rfl;(focus exact(At.row H iF (by assumption)).head rfl);clear H;intro wn H;refine zp ?_)
   refine(c1 _ _ _ _ _ HG1.out H).mono ?_
   rintro e wn ⟨rfl,J1,j1,Hn⟩
   clear H
   have H:=Hn
   clear Hn
   go_wp2_with ((with_reducible apply st_load1 H);decide +kernel;rfl;(focus exact(At.row H iF (by assumption)).head rfl);clear H;intro wn H;refine zp ?_)
   refine(c2 _ _ _ _ _ HG2.out H.up1).mono ?_
   rintro e wn ⟨rfl,J2,j2,Hn⟩
   clear H
   have H:=Hn
   clear Hn
   go_wp2_with ((with_reducible apply st_load1 H);decide +kernel;rfl;(focus exact(At.row H iF (by assumption)).head rfl);clear H;intro wn H;refine zp ?_)
   refine(c3 _ _ _ _ _ HG3.out H.up2).mono ?_
   rintro e wn ⟨rfl,J3,j3,Hn⟩
   clear H
   have H:=Hn.up2.up2.up1.join3.give2
   clear Hn
   have HI5:=hY (HI3.out J1 J2 J3 j1 j2 j3)
   clear j1 j2 j3 c1 c2 c3 HI3
   go_wp2_with (fail)
   go_roundg (n-(i+1))
   case measure=>omega
   case rel=>exact⟨i+1,k4,_,ys,_,M3,by omega,by go_num,by go_num,hY ⟨HI2.out,HI5.out,HI4.out⟩,by rw[List.append_assoc];exact H⟩
  ·obtain rfl:i=n:=by omega
   have hlt1:=nlt i
   go_wp2_with (fail)
   go_ret
   obtain⟨h1,h2,h3⟩:=HI.out
   rw[(tkl HN)] at h1 h2
   rw[(drl HN)] at h3
   obtain⟨rfl,rfl⟩:=h3.unNil
   rw[List.append_nil] at H
   have H2:=own_close h2 H (by rw[Mark.mkl_len];exact HN.out)
   obtain⟨N,hN,H3⟩:=H2
   exact⟨congrArg (fun z:Nat=>Ending.returned (.int .i64 z)) (h1.trans HT.out.symm),N,hN,H3.sub (List.Sublist.cons_cons _ (List.sublist_cons_self _ _))⟩
theorem z5v(v:Value)(l:List Bo)(k:Nat)(hk:k+mkBo.cntl l<9223372036854775807)(w:World)(hr:(Ty.sl 128 tyBo).rd w [v] (mkBo.mkl k l)):Gives Tryz.prog 238 #[v,.int .i64 k] w (.int .i64 (k+mkBo.cntl l:Nat)):=by
 obtain⟨A,c,rfl,hlc,hcm⟩:=sl_form hr
 unfold maxLen at *
 have HR:=hY hr
 have H:=Hs.start noRow w
 have hml:=mkBo.mkl_len k l
 rw[hml] at hlc HR ⊢
 obtain⟨n,hn⟩:=nm l.length
 have hnl:n≤9223372036854775807:=by omega
 rw[←hn] at HR ⊢
 have HN:=hY hn
 have HK:=hY hk
 obtain⟨tot,ht⟩:=nm (k+mkBo.cntl l)
 rw[←ht]
 have HT:=hY ht
 clear hr hn hlc hcm hk hml ht
 unfold Gives
 go_enter Tryz.func238,Tryz.ntmps238
 go_wp2_with (fail)
 go_loopg [1,5] n (fun m kv iv wr=>∃(i k':Nat),i+m=n∧iv = .int .i64 i∧kv = .int .i64 k'∧Hid (k'=k+mkBo.cntl (l.take i))∧Hs noRow w [] wr)
 case atStart=>exact⟨0,k,by omega,rfl,rfl,hY rfl,H⟩
 case round=>
  clear H
  obtain⟨i,k',hi,rfl,rfl,HI,H⟩:=hrel
  by_cases hlt:i<n
  ·obtain ⟨x,hx⟩:=atE HN hlt
   have hs:=sl_at (by have:=HR.out;rw[HN.out,←Mark.mkl_len mkBo k] at this;exact this) (mkBo.mkl_at (k:=k) hx)
   rw[Mark.mkl_len,←HN.out,←HI.out] at hs
   obtain⟨b,off,c',cs,hv,hcs,hA⟩:=hs
   injection hv with hv1 hv2 hv3
   subst hv1 hv3
   obtain⟨u1,u2,u3,hu,g1,g2,g3⟩:=bo_form hcs
   subst hu
   have hk1:=mkBo.cnt_at_le hx
   have hk2:=HK.out
   have hk4:=HI.out
   have hcnt:mkBo.cnt x=mkNum.cntl x.1+(mkNum.cntl x.2.1+mkNt.cntl x.2.2):=rfl
   have hk3:k'+mkNum.cntl x.1+mkNum.cntl x.2.1+mkNt.cntl x.2.2<9223372036854775807:=by omega
   have HI2:Hid (k'+mkNum.cntl x.1+mkNum.cntl x.2.1+mkNt.cntl x.2.2=k+mkBo.cntl (l.take (i+1))):=hY (by rw[mkBo.cntl_step hx,HI.out,hcnt];omega)
   have hlt1:(i:Int)<n:=by omega
   have h0:w.cell? ⟨b,off+i*3,none⟩=some u1:=hA.head (u:=u1) rfl
   have h1:w.cell? ⟨b,off+i*3+1,none⟩=some u2:=hA 1 _ rfl
   have h2:w.cell? ⟨b,off+i*3+2,none⟩=some u3:=hA 2 _ rfl
   obtain⟨x1,x2,x3⟩:=x
   have c1:=fun w1 hb=>heldInt64S_l u1 x1 k' (by simp only at hk3;omega) w1 (Ty.below _ g1 hb)
   have c2:=fun w1 hb=>heldInt64S_l u2 x2 (k'+mkNum.cntl x1) (by simp only at hk3;omega) w1 (Ty.below _ g2 hb)
   have c3:=fun w1 hb=>heldNoteS_l u3 x3 (k'+mkNum.cntl x1+mkNum.cntl x2) (by simp only at hk3;omega) w1 (Ty.below _ (by have h:=g3;rw[show k'+mkNum.cntl x1+mkNum.cntl x2=k'+mkNum.list.cnt x1+mkNum.list.cnt x2 from rfl];exact h) hb)
   simp only at HI2 hk3
   generalize k'+mkNum.cntl x1+mkNum.cntl x2+mkNt.cntl x3=k4 at *
   generalize k'+mkNum.cntl x1+mkNum.cntl x2=k5 at *
   generalize k'+mkNum.cntl x1=k6 at *
   have f1:¬(k6:Int)<0:=by omega
   have f2:¬(k5:Int)<0:=by omega
   have f3:¬(k4:Int)<0:=by omega
   clear hx hv2 hk1 hk2 hk4 hcnt HI hA hcs g1 g2 g3
   go_wp2_with ((first|refine zL ?_|(go_at_call 317;refine gvF (c1 _ H.below) H ?_;clear c1)|(go_at_call 317;refine gvF (c2 _ H.below) H ?_)|(go_at_call 318;refine gvF (c3 _ H.below) H ?_));clear H;intro wn H)
   go_roundg (n-(i+1))
   case measure=>omega
   case rel=>exact⟨i+1,k4,by omega,by go_num,by go_num,HI2,H⟩
  ·obtain rfl:i=n:=by omega
   have hlt1:=nlt i
   go_wp2_with (fail)
   go_ret
   have h1:=HI.out
   rw[(tkl HN)] at h1
   exact⟨congrArg (fun z:Nat=>Ending.returned (.int .i64 z)) (h1.trans HT.out.symm),H.below⟩
theorem z5y(v:Value)(l:List Bo)(k:Nat)(hk:k+mkBo.cntl l<9223372036854775807):Turn Tryz.prog 91 (Ty.sl 128 tyBo) [v] l (mkBo.mkl k l) #[.agg #[v],.int .i64 k] (.int .i64 (k+mkBo.cntl l:Nat)):=by
 intro R w0 L w N hO H
 have c1:=z5n v l k hk
 have HO:=hY hO
 clear hk hO
 generalize mkBo.mkl k l=l' at *
 generalize k+mkBo.cntl l=k2 at *
 go_enter Tryz.func91,Tryz.ntmps91
 go_wp2_with ((first|refine zL ?_|(refine zB 2 ?_;intro b2));clear H;intro wn H)
 refine(c1 _ _ _ _ _ HO.out H.up1).mono ?_
 rintro e wn ⟨rfl,J1,j1,Hn⟩
 clear H
 have H:=Hn
 clear Hn
 go_wp2_with (fail)
 go_ret
 exact⟨rfl,_,j1,H.off⟩
theorem z5u(v:Value)(l:List Bo)(k:Nat)(hk:k+mkBo.cntl l<9223372036854775807)(w:World)(hr:(Ty.sl 128 tyBo).rd w [v] (mkBo.mkl k l)):Gives Tryz.prog 162 #[.agg #[v],.int .i64 k] w (.int .i64 (k+mkBo.cntl l:Nat)):=by
 have c1:=fun w1 hb=>z5v v l k hk w1 (Ty.below _ hr hb)
 clear hr hk
 generalize k+mkBo.cntl l=k2 at *
 have f1:¬(k2:Int)<0:=by omega
 have H:=Hs.start noRow w
 unfold Gives
 go_enter Tryz.func162,Tryz.ntmps162
 go_wp2_with ((first|refine zL ?_|(refine zB 2 ?_;intro b2)|(go_at_call 238;refine gvF (c1 _ H.below) H ?_));clear H;intro wn H)
 go_ret
 exact⟨rfl,H.below⟩
end Go.Proofs.YtcabgibdkmgdlaaGreat
namespace Go.Proofs.YtcabgibdkmgdlaaGreat
open Go.RowKit M
theorem z2z(v:Value)(l:List (List Lab))(k:Nat)(hk:k+mkLab.list.cntl l<9223372036854775807)(w:World)(hr:(Ty.sl 118 (Ty.sl 123 tyLab)).rd w [v] (mkLab.list.mkl k l)):Gives Tryz.prog 313 #[v,.int .i64 k] w (.int .i64 (k+mkLab.list.cntl l:Nat)):=by
 obtain⟨A,c,rfl,hlc,hcm⟩:=sl_form hr
 unfold maxLen at *
 have HR:=hY hr
 have H:=Hs.start noRow w
 have hml:=mkLab.list.mkl_len k l
 rw[hml] at hlc HR ⊢
 obtain⟨n,hn⟩:=nm l.length
 have hnl:n≤9223372036854775807:=by omega
 rw[←hn] at HR ⊢
 have HN:=hY hn
 have HK:=hY hk
 obtain⟨tot,ht⟩:=nm (k+mkLab.list.cntl l)
 rw[←ht]
 have HT:=hY ht
 clear hr hn hlc hcm hk hml ht
 unfold Gives
 go_enter Tryz.func313,Tryz.ntmps313
 go_wp2_with (fail)
 go_loopg [1,5] n (fun m kv iv wr=>∃(i k':Nat),i+m=n∧iv = .int .i64 i∧kv = .int .i64 k'∧Hid (k'=k+mkLab.list.cntl (l.take i))∧Hs noRow w [] wr)
 case atStart=>exact⟨0,k,by omega,rfl,rfl,hY rfl,H⟩
 case round=>
  clear H
  obtain⟨i,k',hi,rfl,rfl,HI,H⟩:=hrel
  by_cases hlt:i<n
  ·obtain ⟨x,hx⟩:=atE HN hlt
   have hs:=sl_at (by have:=HR.out;rw[HN.out,←Mark.mkl_len mkLab.list k] at this;exact this) (mkLab.list.mkl_at (k:=k) hx)
   rw[Mark.mkl_len,←HN.out,←HI.out] at hs
   obtain⟨b,off,c',cs,hv,hcs,hA⟩:=hs
   injection hv with hv1 hv2 hv3
   subst hv1 hv3
   obtain⟨u,hu⟩:∃u,cs = [u]:=by obtain⟨u,_,rfl,_⟩:=hcs;exact⟨u,rfl⟩
   subst hu
   obtain⟨E1,e3,rfl,_,_⟩:=sl_form hcs
   have h0:w.cell? ⟨b,off+i,none⟩=some (.slice E1 (mkLab.list.mak k' x).length e3):=by have h:=hA.head (u := .slice E1 (mkLab.list.mak k' x).length e3) rfl;rw[show i*Ty.s _=i from Nat.mul_one i] at h;exact h
   have hk1:=mkLab.list.cnt_at_le hx
   have hk2:=HK.out
   have hk4:=HI.out
   have hcnt:mkLab.list.cnt x=mkLab.cntl x:=rfl
   have hk3:k'+mkLab.cntl x<9223372036854775807:=by omega
   have HI2:Hid (k'+mkLab.cntl x=k+mkLab.list.cntl (l.take (i+1))):=hY (by rw[mkLab.list.cntl_step hx,HI.out,hcnt];omega)
   have hlt1:(i:Int)<n:=by omega
   have c1:=fun w1 hb=>heldLabelS_l _ x k' (by omega) w1 (Ty.below _ hcs hb)
   generalize (mkLab.list.mak k' x).length=e2 at *
   generalize k'+mkLab.cntl x=k5 at *
   have f3:¬(k5:Int)<0:=by omega
   clear hx hv2 hk1 hk2 hk4 hcnt HI hA hcs
   go_wp2_with ((first|refine zL ?_|(go_at_call 344;refine gvF (c1 _ H.below) H ?_));clear H;intro wn H)
   go_roundg (n-(i+1))
   case measure=>omega
   case rel=>exact⟨i+1,k5,by omega,by go_num,by go_num,HI2,H⟩
  ·obtain rfl:i=n:=by omega
   have hlt1:=nlt i
   go_wp2_with (fail)
   go_ret
   have h1:=HI.out
   rw[(tkl HN)] at h1
   exact⟨congrArg (fun z:Nat=>Ending.returned (.int .i64 z)) (h1.trans HT.out.symm),H.below⟩
theorem z3r(a:Cfg)(cs:List Value)(k:Nat)(hk:k+mkCfg.cnt a<9223372036854775807)(w:World)(hr:tyCfg.rd w cs (mkCfg.mak k a)):Gives Tryz.prog 234 #[.agg cs.toArray,.int .i64 k] w (.int .i64 (k+mkCfg.cnt a:Nat)):=by
 obtain⟨v1,v2,v3,rfl,h1,h2,h3⟩:=cfg_form hr
 obtain⟨a1,a2,a3,a4⟩:=a
 have hk1:k+mkLab.list.cntl a1+mkPr.cntl a2+mkQt.cntl a3<9223372036854775807:=by
  have:k+(mkLab.list.cntl a1+(mkPr.cntl a2+(mkQt.cntl a3+0)))<9223372036854775807:=hk
  omega
 obtain⟨A1,e1,rfl,_,_⟩:=sl_form h1
 obtain⟨A2,e2,rfl,_,_⟩:=sl_form h2
 obtain⟨A3,e3,rfl,_,_⟩:=sl_form h3
 show Gives Tryz.prog _ #[.agg #[.slice A1 _ e1,.slice A2 _ e2,.slice A3 _ e3,.int .i64 a4],_] w _
 have c1:=fun w1 hb=>z2z _ a1 k (by omega) w1 (Ty.below _ h1 hb)
 have c2:=fun w1 hb=>heldPairS_l _ a2 (k+mkLab.list.cntl a1) (by omega) w1 (Ty.below _ h2 hb)
 have c3:=fun w1 hb=>heldQuotaS_l _ a3 (k+mkLab.list.cntl a1+mkPr.cntl a2) (by omega) w1 (Ty.below _ h3 hb)
 have hr2:(k+mkCfg.cnt (a1,a2,a3,a4):Nat)=k+mkLab.list.cntl a1+mkPr.cntl a2+mkQt.cntl a3:=by
  show k+(mkLab.list.cntl a1+(mkPr.cntl a2+(mkQt.cntl a3+0)))=_
  omega
 rw[hr2]
 clear hk hk1 hr hr2 h1 h2 h3
 generalize List.length _=q1 at *
 generalize List.length _=q2 at *
 generalize List.length _=q3 at *
 generalize k+mkLab.list.cntl a1+mkPr.cntl a2+mkQt.cntl a3=kk3 at *
 generalize k+mkLab.list.cntl a1+mkPr.cntl a2=kk2 at *
 generalize k+mkLab.list.cntl a1=kk1 at *
 have f1:¬(kk1:Int)<0:=by omega
 have f2:¬(kk2:Int)<0:=by omega
 have f3:¬(kk3:Int)<0:=by omega
 have H:=Hs.start noRow w
 unfold Gives
 go_enter Tryz.func234,Tryz.ntmps234
 go_wp2_with ((first|refine zL ?_|(refine zB 2 ?_;intro b2)|(go_at_call 313;refine gvF (c1 _ H.below) H ?_)|(go_at_call 314;refine gvF (c2 _ H.below) H ?_)|(go_at_call 315;refine gvF (c3 _ H.below) H ?_));clear H;intro wn H)
 go_ret
 exact⟨rfl,H.below⟩
end Go.Proofs.YtcabgibdkmgdlaaGreat
namespace Go.Proofs.YtcabgibdkmgdlaaGreat
open Go.RowKit M
theorem z5z(a:Yd)(cs:List Value)(k:Nat)(hk:k+mkYd.cnt a<9223372036854775807):Turn Tryz.prog 90 tyYd cs a (mkYd.mak k a) #[.agg cs.toArray,.int .i64 k] (.int .i64 (k+mkYd.cnt a:Nat)):=by
 intro R w0 L w N hO H
 obtain⟨x1,y1,M1,N1,rfl,rfl,h1,x2,y2,M2,N2,rfl,rfl,h2,x3,y3,M3,N3,rfl,rfl,h3,x4,y4,M4,N4,rfl,rfl,h4,hf,hM⟩:=hO
 subst hf hM
 have Hp:Hs R w0 (Hl.all M1::Hl.all M2::Hl.all M3::Hl.all M4::L) w:=Hs.partL [M1,M2,M3,M4] H
 clear H
 have H:=Hp
 clear Hp
 obtain⟨A1,n1,k1,A2,n2,k2,A3,n3,k3,rfl⟩:=cfg_lit (own_rd H iF h1)
 obtain⟨v2,hv2⟩:∃v,x2 = [v]:=by obtain⟨v,_,_,rfl,_⟩:=h2;exact⟨v,rfl⟩
 subst hv2
 obtain⟨A4,k4,rfl,_,_⟩:=sl_form (own_rd H iF h2)
 obtain⟨v3,hv3⟩:∃v,x3 = [v]:=by obtain⟨v,_,_,rfl,_⟩:=h3;exact⟨v,rfl⟩
 subst hv3
 obtain⟨A5,k5,rfl,_,_⟩:=sl_form (own_rd H iF h3)
 obtain⟨v4,hv4⟩:∃v,x4 = [v]:=by obtain⟨v,_,_,rfl,_⟩:=h4;exact⟨v,rfl⟩
 subst hv4
 obtain⟨A6,k6,rfl,_,_⟩:=sl_form (own_rd H iF h4)
 obtain⟨a1,a2,a3,a4,a5⟩:=a
 simp only at h1 h2 h3 h4
 show Calls Tryz.prog _ #[.agg #[.slice A1 n1 k1,.slice A2 n2 k2,.slice A3 n3 k3,.int .i64 a1.2.2.2,.slice A4 a2.length k4,.slice A5 a3.length k5,.slice A6 a4.length k6,.int .i64 a5],_] w _
 have hk1:k+mkCfg.cnt a1+mkNd.cntl a2+mkTa.cntl a3+mkUs.cntl a4<9223372036854775807:=by
  have:k+(mkCfg.cnt a1+(mkNd.cntl a2+(mkTa.cntl a3+(mkUs.cntl a4+(0)))))<9223372036854775807:=hk
  omega
 have c1:=z3e a1 [.slice A1 n1 k1,.slice A2 n2 k2,.slice A3 n3 k3,.int .i64 a1.2.2.2] (k) (by omega)
 have c2:=markNodeS_l (.slice A4 a2.length k4) a2 (k+mkCfg.cnt a1) (by omega)
 have c3:=markTaskS_l (.slice A5 a3.length k5) a3 (k+mkCfg.cnt a1+mkNd.cntl a2) (by omega)
 have c4:=markUseS_l (.slice A6 a4.length k6) a4 (k+mkCfg.cnt a1+mkNd.cntl a2+mkTa.cntl a3) (by omega)
 have hr:(k+mkYd.cnt (a1,a2,a3,a4,a5):Nat)=k+mkCfg.cnt a1+mkNd.cntl a2+mkTa.cntl a3+mkUs.cntl a4:=by
  show k+(mkCfg.cnt a1+(mkNd.cntl a2+(mkTa.cntl a3+(mkUs.cntl a4+(0)))))=_
  omega
 rw[hr]
 have hd:mkYd.mak k (a1,a2,a3,a4,a5)=(mkCfg.mak (k) a1,mkNd.mkl (k+mkCfg.cnt a1) a2,mkTa.mkl (k+mkCfg.cnt a1+mkNd.cntl a2) a3,mkUs.mkl (k+mkCfg.cnt a1+mkNd.cntl a2+mkTa.cntl a3) a4,a5):=rfl
 rw[hd]
 clear hk hr hd hk1
 generalize hln2:a2.length=ln2 at *
 generalize hln3:a3.length=ln3 at *
 generalize hln4:a4.length=ln4 at *
 generalize mkCfg.mak (k) a1=b1' at *
 generalize mkNd.mkl (k+mkCfg.cnt a1) a2=b2' at *
 generalize mkTa.mkl (k+mkCfg.cnt a1+mkNd.cntl a2) a3=b3' at *
 generalize mkUs.mkl (k+mkCfg.cnt a1+mkNd.cntl a2+mkTa.cntl a3) a4=b4' at *
 generalize k+mkCfg.cnt a1+mkNd.cntl a2+mkTa.cntl a3+mkUs.cntl a4=kk4 at *
 generalize k+mkCfg.cnt a1+mkNd.cntl a2+mkTa.cntl a3=kk3 at *
 generalize k+mkCfg.cnt a1+mkNd.cntl a2=kk2 at *
 generalize k+mkCfg.cnt a1=kk1 at *
 have HH1:=hY h1
 have HH2:=hY h2
 have HH3:=hY h3
 have HH4:=hY h4
 clear h1 h2 h3 h4
 go_enter Tryz.func90,Tryz.ntmps90
 go_wp2_with ((first|refine zM ?_|(refine zB 2 ?_;intro b2));clear H;intro wn H)
 have Hn:=H.reperm (Del.perm (h:=Hl.all M1) dF)
 refine(c1 _ _ _ _ _ HH1.out Hn).mono ?_
 rintro e wn ⟨rfl,J1,j1,Hq⟩
 clear H Hn
 have H:=Hq
 clear Hq
 go_wp2_with (refine zL ?_;clear H;intro wn H)
 have Hn:=H.reperm (Del.perm (h:=Hl.all M2) dF)
 refine(c2 _ _ _ _ _ HH2.out Hn).mono ?_
 rintro e wn ⟨rfl,J2,j2,Hq⟩
 clear H Hn
 have H:=Hq
 clear Hq
 go_wp2_with (refine zL ?_;clear H;intro wn H)
 have Hn:=H.reperm (Del.perm (h:=Hl.all M3) dF)
 refine(c3 _ _ _ _ _ HH3.out Hn).mono ?_
 rintro e wn ⟨rfl,J3,j3,Hq⟩
 clear H Hn
 have H:=Hq
 clear Hq
 go_wp2_with (refine zL ?_;clear H;intro wn H)
 have Hn:=H.reperm (Del.perm (h:=Hl.all M4) dF)
 refine(c4 _ _ _ _ _ HH4.out Hn).mono ?_
 rintro e wn ⟨rfl,J4,j4,Hq⟩
 clear H Hn
 have H:=Hq
 clear Hq
 go_wp2_with (fail)
 go_ret
 have G4:=H.reperm (Del.perm (h:=Hl.all J4) dF)
 have G3:=G4.reperm (Del.perm (h:=Hl.all J3) dF)
 have G2:=G3.reperm (Del.perm (h:=Hl.all J2) dF)
 have G1:=G2.reperm (Del.perm (h:=Hl.all J1) dF)
 have HF:=(Hs.joinL [J1,J2,J3,J4] G1).off
 exact⟨rfl,_,⟨[_,_,_,_],[_,_,_,_],_,_,rfl,rfl,j1,[_],[_,_,_],_,_,rfl,rfl,j2,[_],[_,_],_,_,rfl,rfl,j3,[_],[_],_,_,rfl,rfl,j4,⟨rfl,rfl⟩⟩,HF⟩
theorem z6h(a:Yd)(cs:List Value)(k:Nat)(hk:k+mkYd.cnt a<9223372036854775807)(w:World)(hr:tyYd.rd w cs (mkYd.mak k a)):Gives Tryz.prog 161 #[.agg cs.toArray,.int .i64 k] w (.int .i64 (k+mkYd.cnt a:Nat)):=by
 obtain⟨A1,n1,k1,A2,n2,k2,A3,n3,k3,A4,n4,k4,A5,n5,k5,A6,n6,k6,rfl,h1,h2,h3,h4⟩:=Yd_form hr
 obtain⟨a1,a2,a3,a4,a5⟩:=a
 have hk1:k+mkCfg.cnt a1+mkNd.cntl a2+mkTa.cntl a3+mkUs.cntl a4<9223372036854775807:=by
  have:k+(mkCfg.cnt a1+(mkNd.cntl a2+(mkTa.cntl a3+(mkUs.cntl a4+(0)))))<9223372036854775807:=hk
  omega
 show Gives Tryz.prog _ #[.agg #[.slice A1 n1 k1,.slice A2 n2 k2,.slice A3 n3 k3,.int .i64 a1.2.2.2,.slice A4 n4 k4,.slice A5 n5 k5,.slice A6 n6 k6,.int .i64 a5],_] w _
 have g1:tyCfg.rd w [.slice A1 n1 k1,.slice A2 n2 k2,.slice A3 n3 k3,.int .i64 a1.2.2.2] (mkCfg.mak (k) a1):=h1
 have g2:(Ty.sl 172 tyNd).rd w [.slice A4 n4 k4] (mkNd.mkl (k+mkCfg.cnt a1) a2):=h2
 have g3:(Ty.sl 177 tyTa).rd w [.slice A5 n5 k5] (mkTa.mkl (k+mkCfg.cnt a1+mkNd.cntl a2) a3):=h3
 have g4:(Ty.sl 180 tyUs).rd w [.slice A6 n6 k6] (mkUs.mkl (k+mkCfg.cnt a1+mkNd.cntl a2+mkTa.cntl a3) a4):=h4
 have c1:=fun w1 hb=>z3r a1 _ (k) (by omega) w1 (Ty.below _ g1 hb)
 have c2:=fun w1 hb=>heldNodeS_l _ a2 (k+mkCfg.cnt a1) (by omega) w1 (Ty.below _ g2 hb)
 have c3:=fun w1 hb=>heldTaskS_l _ a3 (k+mkCfg.cnt a1+mkNd.cntl a2) (by omega) w1 (Ty.below _ g3 hb)
 have c4:=fun w1 hb=>heldUseS_l _ a4 (k+mkCfg.cnt a1+mkNd.cntl a2+mkTa.cntl a3) (by omega) w1 (Ty.below _ g4 hb)
 have hr2:(k+mkYd.cnt (a1,a2,a3,a4,a5):Nat)=k+mkCfg.cnt a1+mkNd.cntl a2+mkTa.cntl a3+mkUs.cntl a4:=by
  show k+(mkCfg.cnt a1+(mkNd.cntl a2+(mkTa.cntl a3+(mkUs.cntl a4+(0)))))=_
  omega
 rw[hr2]
 clear hk hk1 hr hr2 h1 h2 h3 h4 g1 g2 g3 g4
 generalize k+mkCfg.cnt a1+mkNd.cntl a2+mkTa.cntl a3+mkUs.cntl a4=kk4 at *
 generalize k+mkCfg.cnt a1+mkNd.cntl a2+mkTa.cntl a3=kk3 at *
 generalize k+mkCfg.cnt a1+mkNd.cntl a2=kk2 at *
 generalize k+mkCfg.cnt a1=kk1 at *
 have f1:¬(kk1:Int)<0:=by omega
 have f2:¬(kk2:Int)<0:=by omega
 have f3:¬(kk3:Int)<0:=by omega
 have f4:¬(kk4:Int)<0:=by omega
 have H:=Hs.start noRow w
 unfold Gives
 go_enter Tryz.func161,Tryz.ntmps161
 go_wp2_with ((first|refine zU ?_|(refine zB 2 ?_;intro b2)|(go_at_call 234;refine gvF (c1 _ H.below) H ?_)|(go_at_call 235;refine gvF (c2 _ H.below) H ?_)|(go_at_call 236;refine gvF (c3 _ H.below) H ?_)|(go_at_call 237;refine gvF (c4 _ H.below) H ?_));clear H;intro wn H)
 go_ret
 exact⟨rfl,H.below⟩
theorem z4m(a:St)(cs:List Value)(k:Nat)(hk:k+mkSt.cnt a<9223372036854775807):Turn Tryz.prog 40 tySt cs a (mkSt.mak k a) #[.agg cs.toArray,.int .i64 k] (.int .i64 (k+mkSt.cnt a:Nat)):=by
 intro R w0 L w N hO H
 obtain⟨x1,y1,M1,N1,rfl,rfl,h1,h2⟩:=hO
 rw[show M1++N1 = [M1,N1].flatten by simp] at H
 have Hp:Hs R w0 (Hl.all M1::Hl.all N1::L) w:=Hs.partL [M1,N1] H
 clear H
 have H:=Hp
 clear Hp
 obtain⟨A1,n1,k1,A2,n2,k2,A3,n3,k3,A4,n4,k4,A5,n5,k5,A6,n6,k6,rfl⟩:=Yd_lit (own_rd H iF h1)
 obtain⟨v2,hv2⟩:∃v,y1 = [v]:=by obtain⟨v,_,_,rfl,_⟩:=h2;exact⟨v,rfl⟩
 subst hv2
 obtain⟨A7,k7,rfl,_,_⟩:=sl_form (own_rd H iF h2)
 obtain⟨a1,a2⟩:=a
 simp only at h1 h2
 show Calls Tryz.prog _ #[.agg #[.slice A1 n1 k1,.slice A2 n2 k2,.slice A3 n3 k3,.int .i64 a1.1.2.2.2,.slice A4 n4 k4,.slice A5 n5 k5,.slice A6 n6 k6,.int .i64 a1.2.2.2.2,.slice A7 a2.length k7],_] w _
 have hk1:k+mkYd.cnt a1+mkBo.cntl a2<9223372036854775807:=by
  have:k+(mkYd.cnt a1+(mkBo.cntl a2))<9223372036854775807:=hk
  omega
 have c1:=z5z a1 [.slice A1 n1 k1,.slice A2 n2 k2,.slice A3 n3 k3,.int .i64 a1.1.2.2.2,.slice A4 n4 k4,.slice A5 n5 k5,.slice A6 n6 k6,.int .i64 a1.2.2.2.2] (k) (by omega)
 have c2:=z5y (.slice A7 a2.length k7) a2 (k+mkYd.cnt a1) (by omega)
 have hr:(k+mkSt.cnt (a1,a2):Nat)=k+mkYd.cnt a1+mkBo.cntl a2:=by
  show k+(mkYd.cnt a1+(mkBo.cntl a2))=_
  omega
 rw[hr]
 have hd:mkSt.mak k (a1,a2)=(mkYd.mak (k) a1,mkBo.mkl (k+mkYd.cnt a1) a2):=rfl
 rw[hd]
 clear hk hr hd hk1
 generalize hln2:a2.length=ln2 at *
 generalize mkYd.mak (k) a1=b1' at *
 generalize mkBo.mkl (k+mkYd.cnt a1) a2=b2' at *
 generalize k+mkYd.cnt a1+mkBo.cntl a2=kk2 at *
 generalize k+mkYd.cnt a1=kk1 at *
 have HH1:=hY h1
 have HH2:=hY h2
 clear h1 h2
 go_enter Tryz.func40,Tryz.ntmps40
 go_wp2_with ((first|refine zM ?_|(refine zB 2 ?_;intro b2));clear H;intro wn H)
 have Hn:=H.reperm (Del.perm (h:=Hl.all M1) dF)
 refine(c1 _ _ _ _ _ HH1.out Hn).mono ?_
 rintro e wn ⟨rfl,J1,j1,Hq⟩
 clear H Hn
 have H:=Hq
 clear Hq
 go_wp2_with (refine zM ?_;clear H;intro wn H)
 have Hn:=H.reperm (Del.perm (h:=Hl.all N1) dF)
 refine(c2 _ _ _ _ _ HH2.out Hn).mono ?_
 rintro e wn ⟨rfl,J2,j2,Hq⟩
 clear H Hn
 have H:=Hq
 clear Hq
 go_wp2_with (fail)
 go_ret
 have G2:=H.reperm (Del.perm (h:=Hl.all J2) dF)
 have G1:=G2.reperm (Del.perm (h:=Hl.all J1) dF)
 have HF:=(Hs.joinL [J1,J2] G1).off
 rw[show [J1,J2].flatten=J1++J2 by simp] at HF
 exact⟨rfl,_,⟨[_,_,_,_,_,_,_,_],[_],_,_,rfl,rfl,j1,j2⟩,HF⟩
theorem z4d(a:St)(cs:List Value)(k:Nat)(hk:k+mkSt.cnt a<9223372036854775807)(w:World)(hr:tySt.rd w cs (mkSt.mak k a)):Gives Tryz.prog 93 #[.agg cs.toArray,.int .i64 k] w (.int .i64 (k+mkSt.cnt a:Nat)):=by
 obtain⟨A1,n1,k1,A2,n2,k2,A3,n3,k3,A4,n4,k4,A5,n5,k5,A6,n6,k6,A7,n7,k7,rfl,h1,h2⟩:=St_form hr
 obtain⟨a1,a2⟩:=a
 have hk1:k+mkYd.cnt a1+mkBo.cntl a2<9223372036854775807:=by
  have:k+(mkYd.cnt a1+(mkBo.cntl a2))<9223372036854775807:=hk
  omega
 show Gives Tryz.prog _ #[.agg #[.slice A1 n1 k1,.slice A2 n2 k2,.slice A3 n3 k3,.int .i64 a1.1.2.2.2,.slice A4 n4 k4,.slice A5 n5 k5,.slice A6 n6 k6,.int .i64 a1.2.2.2.2,.slice A7 n7 k7],_] w _
 have g1:tyYd.rd w [.slice A1 n1 k1,.slice A2 n2 k2,.slice A3 n3 k3,.int .i64 a1.1.2.2.2,.slice A4 n4 k4,.slice A5 n5 k5,.slice A6 n6 k6,.int .i64 a1.2.2.2.2] (mkYd.mak (k) a1):=h1
 have g2:(Ty.sl 128 tyBo).rd w [.slice A7 n7 k7] (mkBo.mkl (k+mkYd.cnt a1) a2):=h2
 have c1:=fun w1 hb=>z6h a1 _ (k) (by omega) w1 (Ty.below _ g1 hb)
 have c2:=fun w1 hb=>z5u _ a2 (k+mkYd.cnt a1) (by omega) w1 (Ty.below _ g2 hb)
 have hr2:(k+mkSt.cnt (a1,a2):Nat)=k+mkYd.cnt a1+mkBo.cntl a2:=by
  show k+(mkYd.cnt a1+(mkBo.cntl a2))=_
  omega
 rw[hr2]
 clear hk hk1 hr hr2 h1 h2 g1 g2
 generalize k+mkYd.cnt a1+mkBo.cntl a2=kk2 at *
 generalize k+mkYd.cnt a1=kk1 at *
 have f1:¬(kk1:Int)<0:=by omega
 have f2:¬(kk2:Int)<0:=by omega
 have H:=Hs.start noRow w
 unfold Gives
 go_enter Tryz.func93,Tryz.ntmps93
 go_wp2_with ((first|refine zM ?_|(refine zB 2 ?_;intro b2)|(go_at_call 161;refine gvF (c1 _ H.below) H ?_)|(go_at_call 162;refine gvF (c2 _ H.below) H ?_));clear H;intro wn H)
 go_ret
 exact⟨rfl,H.below⟩
end Go.Proofs.YtcabgibdkmgdlaaGreat
namespace Go.Proofs.YtcabgibdkmgdlaaGreat
open Go.RowKit M
namespace Dz
theorem markRegionS_l(v:Value)(l:List Rg)(k:Nat)(hk:k+mkRg.cntl l<9223372036854775807):Turn Tryz.prog 92 (Ty.sl 86 tyRg) [v] l (mkRg.mkl k l) #[v,.int .i64 k] (.int .i64 (k+mkRg.cntl l:Nat)):=by
 intro R w0 L w N hO H
 obtain⟨xs,M,A,c,rfl,hO,hcm,H⟩:=own_open hO H
 obtain rfl:M = []:=flat_noown hO
 unfold maxLen at *
 obtain⟨n,hn⟩:=nm l.length
 rw[←hn] at H ⊢
 have hn9:n≤9223372036854775807:=by obtain⟨_,_,h1,h2,h3⟩:=(H.rows .here).slice;injection h1;unfold maxLen at h3;omega
 have HN:=hY hn
 have HK:=hY hk
 have HO:=hY hO
 obtain⟨tot,ht⟩:=nm (k+mkRg.cntl l)
 rw[←ht]
 have HT:=hY ht
 clear hn hk hO hcm ht
 go_enter Tryz.func92,Tryz.ntmps92
 go_wp2_with (fail)
 go_loopg [1,5] n (fun m kv iv wr=>∃(i k':Nat) (pre post:List Value),i+m=n∧iv = .int .i64 i∧kv = .int .i64 k'∧Hid (k'=k+mkRg.cntl (l.take i)∧OwnL tyRg pre (mkRg.mkl k (l.take i)) []∧OwnL tyRg post (l.drop i) [])∧Hs R w0 (Hl.row 86 3 (.slice A n c) n (pre++post)::Hl.all []::L) wr)
 case atStart=>exact⟨0,k,[],xs,by omega,rfl,rfl,hY ⟨rfl,.nil,HO.out⟩,H⟩
 case round=>
  clear H
  obtain⟨i,k',pre,post,hi,rfl,rfl,HI,H⟩:=hrel
  by_cases hlt:i<n
  ·obtain ⟨x,hx⟩:=atE HN hlt
   obtain⟨g,c2,hv,_⟩:=(H.rows .here).form (by omega)
   injection hv with hv1 hv2 hv3
   subst hv1 hv3
   have hk1:=mkRg.cnt_at_le hx
   have hk2:=HK.out
   obtain⟨h1,h2,h3⟩:=HI.out
   obtain⟨hlt',e⟩:=List.getElem?_eq_some_iff.1 hx
   rw[List.drop_eq_getElem_cons hlt',e] at h3
   obtain⟨cs,ys,Mi,M3,rfl,hMM,⟨rfl,rfl⟩,h4⟩:=h3.un
   rw[List.nil_append] at hMM
   subst hMM
   have hpl:pre.length=i*3:=by rw[h2.len,Mark.mkl_len,List.length_take,Nat.min_eq_left (Nat.le_of_lt hlt')];rfl
   have hcnt:mkRg.cnt x=3:=rfl
   have hyl:ys.length+3+i*3=n*3:=by
    have:=(H.rows .here).len
    rw[List.length_append,List.length_append,hpl] at this
    have h5:(z0p x).length=3:=rfl
    omega
   have hk3:k'+3<9223372036854775807:=by omega
   have HI2:Hid (k'+3=k+mkRg.cntl (l.take (i+1))∧OwnL tyRg (pre++z0p (mkRg.mak k' x)) (mkRg.mkl k (l.take (i+1))) []∧OwnL tyRg ys (l.drop (i+1)) []):=
    hY ⟨by rw[mkRg.cntl_step hx,h1,hcnt];omega,by rw[mkRg.mkl_step hx,←h1];exact h2.snoc ⟨rfl,rfl⟩,h4⟩
   have HS:Hid (spl (spl (spl (pre++(z0p x++ys)) (i*3) [.string (bs (mtext (k')))]) (i*3+1) [.string (bs (mtext (k'+1)))]) (i*3+2) [.string (bs (mtext (k'+2)))]=pre++z0p (mkRg.mak k' x)++ys):=hY ((splS_at (vs:=[.string (bs (mtext (k'))),.string (bs (mtext (k'+1))),.string (bs (mtext (k'+2)))]) (us:=z0p x) hpl (Nat.le_refl 3)).trans (List.append_assoc ..).symm)
   have hfit:i*3+3≤(pre++(z0p x++ys)).length:=by rw[List.length_append,List.length_append,hpl];show i*3+3≤i*3+(3+ys.length);omega
   have hlt1:(i:Int)<n:=by omega
   clear h1 h2 h3 h4 HI hx hk1 hk2 hcnt hyl hpl e hv2 hlt'
   unfold z0p at *
   go_wp2_with ((first|refine zR ?_|(go_at_call 160;refine gvF (by first|exact markText_at _ (k') (by omega) (by omega) _|exact markText_at _ (k'+1) (by omega) (by omega) _|exact markText_at _ (k'+2) (by omega) (by omega) _) H ?_));clear H;intro wn H)
   go_roundg (n-(i+1))
   case measure=>omega
   case rel=>exact⟨i+1,k'+3,_,ys,by omega,by go_num,by go_num,HI2,by rw[←HS.out];exact H⟩
  ·obtain rfl:i=n:=by omega
   have hlt1:=nlt i
   go_wp2_with (fail)
   go_ret
   obtain⟨h1,h2,h3⟩:=HI.out
   rw[(tkl HN)] at h1 h2
   rw[(drl HN)] at h3
   obtain⟨rfl,_⟩:=h3.unNil
   rw[List.append_nil] at H
   exact⟨congrArg (fun z:Nat=>Ending.returned (.int .i64 z)) (h1.trans HT.out.symm),own_close h2 H (by rw[Mark.mkl_len];exact HN.out)⟩
theorem heldRegionS_l(v:Value)(l:List Rg)(k:Nat)(hk:k+mkRg.cntl l<9223372036854775807)(w:World)(hr:(Ty.sl 86 tyRg).rd w [v] (mkRg.mkl k l)):Gives Tryz.prog 163 #[v,.int .i64 k] w (.int .i64 (k+mkRg.cntl l:Nat)):=by
 obtain⟨A,c,rfl,hlc,hcm⟩:=sl_form hr
 unfold maxLen at *
 have HR:=hY hr
 have H:=Hs.start noRow w
 have hml:=mkRg.mkl_len k l
 rw[hml] at hlc HR ⊢
 obtain⟨n,hn⟩:=nm l.length
 have hnl:n≤9223372036854775807:=by omega
 rw[←hn] at HR ⊢
 have HN:=hY hn
 have HK:=hY hk
 obtain⟨tot,ht⟩:=nm (k+mkRg.cntl l)
 rw[←ht]
 have HT:=hY ht
 clear hr hn hlc hcm hk hml ht
 unfold Gives
 go_enter Tryz.func163,Tryz.ntmps163
 go_wp2_with (fail)
 go_loopg [1,5] n (fun m kv iv wr=>∃(i k':Nat),i+m=n∧iv = .int .i64 i∧kv = .int .i64 k'∧Hid (k'=k+mkRg.cntl (l.take i))∧Hs noRow w [] wr)
 case atStart=>exact⟨0,k,by omega,rfl,rfl,hY rfl,H⟩
 case round=>
  clear H
  obtain⟨i,k',hi,rfl,rfl,HI,H⟩:=hrel
  by_cases hlt:i<n
  ·obtain ⟨x,hx⟩:=atE HN hlt
   have hs:=sl_at (by have:=HR.out;rw[HN.out,←Mark.mkl_len mkRg k] at this;exact this) (mkRg.mkl_at (k:=k) hx)
   rw[Mark.mkl_len,←HN.out,←HI.out] at hs
   obtain⟨b,off,c',cs,hv,hcs,hA⟩:=hs
   injection hv with hv1 hv2 hv3
   subst hv1 hv3
   obtain rfl:cs=z0p (mkRg.mak k' x):=hcs
   have hk1:=mkRg.cnt_at_le hx
   have hk2:=HK.out
   have hk4:=HI.out
   have hcnt:mkRg.cnt x=3:=rfl
   have hk3:k'+3<9223372036854775807:=by omega
   have HI2:Hid (k'+3=k+mkRg.cntl (l.take (i+1))):=hY (by rw[mkRg.cntl_step hx,HI.out,hcnt];omega)
   have hlt1:(i:Int)<n:=by omega
   have h0:w.cell? ⟨b,off+i*3,none⟩=some (.string (bs (mtext (k')))):=hA.head (u := .string (bs (mtext (k')))) rfl
   have h1:w.cell? ⟨b,off+i*3+1,none⟩=some (.string (bs (mtext (k'+1)))):=hA 1 _ rfl
   have h2:w.cell? ⟨b,off+i*3+2,none⟩=some (.string (bs (mtext (k'+2)))):=hA 2 _ rfl
   clear hx hv2 hk1 hk2 hk4 hcnt HI hA
   go_wp2_with (first|(refine zHq 4 ?_;(iterate 6 (all_goals(refine zhFV ?_)));(all_goals(with_reducible refine Qk.mk ?_));(all_goals((with_reducible refine' hq_step ?_ ?_ ?_);rotate_left;rfl;(focus(intro w1 H1;unfold QOk;go_simp;exact q_call (by exact markText_at _ (k') (by omega) (by omega) _)));(try simp only[yG,yH,yJ,yK]);refine zp ?_));(all_goals(with_reducible refine Qk.out ?_));all_goals refine zhV ?_;all_goals(refine zHz ?_;clear H;intro wn H))|(refine zHq 7 ?_;(iterate 6 (all_goals(refine zhFV ?_)));(all_goals(with_reducible refine Qk.mk ?_));(all_goals((with_reducible refine' hq_step ?_ ?_ ?_);rotate_left;rfl;(focus(intro w1 H1;unfold QOk;go_simp;exact q_call (by exact markText_at _ (k'+1) (by omega) (by omega) _)));(try simp only[yG,yH,yJ,yK]);refine zp ?_));(all_goals(with_reducible refine Qk.out ?_));all_goals refine zhV ?_;all_goals(refine zHz ?_;clear H;intro wn H))|(refine zHq 10 ?_;(iterate 6 (all_goals(refine zhFV ?_)));(all_goals(with_reducible refine Qk.mk ?_));(all_goals((with_reducible refine' hq_step ?_ ?_ ?_);rotate_left;rfl;(focus(intro w1 H1;unfold QOk;go_simp;exact q_call (by exact markText_at _ (k'+2) (by omega) (by omega) _)));(try simp only[yG,yH,yJ,yK]);refine zp ?_));(all_goals(with_reducible refine Qk.out ?_));all_goals refine zhV ?_;all_goals(refine zHz ?_;clear H;intro wn H)))
   go_roundg (n-(i+1))
   case measure=>omega
   case rel=>exact⟨i+1,k'+3,by omega,by go_num,by go_num,HI2,H⟩
  ·obtain rfl:i=n:=by omega
   have hlt1:=nlt i
   go_wp2_with (fail)
   go_ret
   have h1:=HI.out
   rw[(tkl HN)] at h1
   exact⟨congrArg (fun z:Nat=>Ending.returned (.int .i64 z)) (h1.trans HT.out.symm),H.below⟩
theorem markDisk_l(a:Dk)(cs:List Value)(k:Nat)(hk:k+mkDk.cnt a<9223372036854775807):Turn Tryz.prog 41 tyDk cs a (mkDk.mak k a) #[.agg cs.toArray,.int .i64 k] (.int .i64 (k+mkDk.cnt a:Nat)):=by
 intro R w0 L w N hO H
 obtain⟨x1,y1,M1,N1,rfl,rfl,h1,hf,hM⟩:=hO
 subst hf hM
 have Hp:Hs R w0 (Hl.all M1::L) w:=Hs.partL [M1] H
 clear H
 have H:=Hp
 clear Hp
 obtain⟨v1,hv1⟩:∃v,x1 = [v]:=by obtain⟨v,_,_,rfl,_⟩:=h1;exact⟨v,rfl⟩
 subst hv1
 obtain⟨A1,k1,rfl,_,_⟩:=sl_form (own_rd H iF h1)
 obtain⟨a1,a2⟩:=a
 simp only at h1
 show Calls Tryz.prog _ #[.agg #[.slice A1 a1.length k1,.int .i64 a2],_] w _
 have hk1:k+mkRg.cntl a1<9223372036854775807:=by
  have:k+(mkRg.cntl a1+(0))<9223372036854775807:=hk
  omega
 have c1:=markRegionS_l (.slice A1 a1.length k1) a1 (k) (by omega)
 have hr:(k+mkDk.cnt (a1,a2):Nat)=k+mkRg.cntl a1:=by
  show k+(mkRg.cntl a1+(0))=_
  omega
 rw[hr]
 have hd:mkDk.mak k (a1,a2)=(mkRg.mkl (k) a1,a2):=rfl
 rw[hd]
 clear hk hr hd hk1
 generalize hln1:a1.length=ln1 at *
 generalize mkRg.mkl (k) a1=b1' at *
 generalize k+mkRg.cntl a1=kk1 at *
 have HH1:=hY h1
 clear h1
 go_enter Tryz.func41,Tryz.ntmps41
 go_wp2_with ((first|refine zL ?_|(refine zB 2 ?_;intro b2));clear H;intro wn H)
 have Hn:=H.reperm (Del.perm (h:=Hl.all M1) dF)
 refine(c1 _ _ _ _ _ HH1.out Hn).mono ?_
 rintro e wn ⟨rfl,J1,j1,Hq⟩
 clear H Hn
 have H:=Hq
 clear Hq
 go_wp2_with (fail)
 go_ret
 have G1:=H.reperm (Del.perm (h:=Hl.all J1) dF)
 have HF:=(Hs.joinL [J1] G1).off
 exact⟨rfl,_,⟨[_],[_],_,_,rfl,rfl,j1,⟨rfl,rfl⟩⟩,HF⟩
theorem heldDisk_l(a:Dk)(cs:List Value)(k:Nat)(hk:k+mkDk.cnt a<9223372036854775807)(w:World)(hr:tyDk.rd w cs (mkDk.mak k a)):Gives Tryz.prog 94 #[.agg cs.toArray,.int .i64 k] w (.int .i64 (k+mkDk.cnt a:Nat)):=by
 obtain⟨A1,n1,k1,rfl,h1⟩:=Dk_form hr
 obtain⟨a1,a2⟩:=a
 have hk1:k+mkRg.cntl a1<9223372036854775807:=by
  have:k+(mkRg.cntl a1+(0))<9223372036854775807:=hk
  omega
 show Gives Tryz.prog _ #[.agg #[.slice A1 n1 k1,.int .i64 a2],_] w _
 have g1:(Ty.sl 86 tyRg).rd w [.slice A1 n1 k1] (mkRg.mkl (k) a1):=h1
 have c1:=fun w1 hb=>heldRegionS_l _ a1 (k) (by omega) w1 (Ty.below _ g1 hb)
 have hr2:(k+mkDk.cnt (a1,a2):Nat)=k+mkRg.cntl a1:=by
  show k+(mkRg.cntl a1+(0))=_
  omega
 rw[hr2]
 clear hk hk1 hr hr2 h1 g1
 generalize k+mkRg.cntl a1=kk1 at *
 have f1:¬(kk1:Int)<0:=by omega
 have H:=Hs.start noRow w
 unfold Gives
 go_enter Tryz.func94,Tryz.ntmps94
 go_wp2_with ((first|refine zL ?_|(refine zB 2 ?_;intro b2)|(go_at_call 163;refine gvF (c1 _ H.below) H ?_));clear H;intro wn H)
 go_ret
 exact⟨rfl,H.below⟩
theorem markHouse_l(a:Ho)(cs:List Value)(k:Nat)(hk:k+mkHo.cnt a<9223372036854775807):Turn Tryz.prog 10 tyHo cs a (mkHo.mak k a) #[.agg cs.toArray,.int .i64 k] (.int .i64 (k+mkHo.cnt a:Nat)):=by
 intro R w0 L w N hO H
 obtain⟨x1,y1,M1,N1,rfl,rfl,h1,x2,y2,M2,N2,rfl,rfl,h2,hf,hM⟩:=hO
 subst hf hM
 have Hp:Hs R w0 (Hl.all M1::Hl.all M2::L) w:=Hs.partL [M1,M2] H
 clear H
 have H:=Hp
 clear Hp
 obtain⟨A1,n1,k1,A2,n2,k2,A3,n3,k3,A4,n4,k4,A5,n5,k5,A6,n6,k6,A7,n7,k7,rfl⟩:=St_lit (own_rd H iF h1)
 obtain⟨A8,n8,k8,rfl⟩:=z6v (own_rd H iF h2)
 obtain⟨a1,a2,a3⟩:=a
 simp only at h1 h2
 show Calls Tryz.prog _ #[.agg #[.slice A1 n1 k1,.slice A2 n2 k2,.slice A3 n3 k3,.int .i64 a1.1.1.2.2.2,.slice A4 n4 k4,.slice A5 n5 k5,.slice A6 n6 k6,.int .i64 a1.1.2.2.2.2,.slice A7 n7 k7,.slice A8 n8 k8,.int .i64 a2.2,.int .i64 a3],_] w _
 have hk1:k+mkSt.cnt a1+mkDk.cnt a2<9223372036854775807:=by
  have:k+(mkSt.cnt a1+(mkDk.cnt a2+(0)))<9223372036854775807:=hk
  omega
 have c1:=z4m a1 [.slice A1 n1 k1,.slice A2 n2 k2,.slice A3 n3 k3,.int .i64 a1.1.1.2.2.2,.slice A4 n4 k4,.slice A5 n5 k5,.slice A6 n6 k6,.int .i64 a1.1.2.2.2.2,.slice A7 n7 k7] (k) (by omega)
 have c2:=markDisk_l a2 [.slice A8 n8 k8,.int .i64 a2.2] (k+mkSt.cnt a1) (by omega)
 have hr:(k+mkHo.cnt (a1,a2,a3):Nat)=k+mkSt.cnt a1+mkDk.cnt a2:=by
  show k+(mkSt.cnt a1+(mkDk.cnt a2+(0)))=_
  omega
 rw[hr]
 have hd:mkHo.mak k (a1,a2,a3)=(mkSt.mak (k) a1,mkDk.mak (k+mkSt.cnt a1) a2,a3):=rfl
 rw[hd]
 clear hk hr hd hk1
 generalize mkSt.mak (k) a1=b1' at *
 generalize mkDk.mak (k+mkSt.cnt a1) a2=b2' at *
 generalize k+mkSt.cnt a1+mkDk.cnt a2=kk2 at *
 generalize k+mkSt.cnt a1=kk1 at *
 have HH1:=hY h1
 have HH2:=hY h2
 clear h1 h2
 go_enter Tryz.func10,Tryz.ntmps10
 go_wp2_with ((first|refine zM ?_|(refine zB 2 ?_;intro b2));clear H;intro wn H)
 have Hn:=H.reperm (Del.perm (h:=Hl.all M1) dF)
 refine(c1 _ _ _ _ _ HH1.out Hn).mono ?_
 rintro e wn ⟨rfl,J1,j1,Hq⟩
 clear H Hn
 have H:=Hq
 clear Hq
 go_wp2_with (refine zM ?_;clear H;intro wn H)
 have Hn:=H.reperm (Del.perm (h:=Hl.all M2) dF)
 refine(c2 _ _ _ _ _ HH2.out Hn).mono ?_
 rintro e wn ⟨rfl,J2,j2,Hq⟩
 clear H Hn
 have H:=Hq
 clear Hq
 go_wp2_with (fail)
 go_ret
 have G2:=H.reperm (Del.perm (h:=Hl.all J2) dF)
 have G1:=G2.reperm (Del.perm (h:=Hl.all J1) dF)
 have HF:=(Hs.joinL [J1,J2] G1).off
 exact⟨rfl,_,⟨[_,_,_,_,_,_,_,_,_],[_,_,_],_,_,rfl,rfl,j1,[_,_],[_],_,_,rfl,rfl,j2,⟨rfl,rfl⟩⟩,HF⟩
theorem z4l(a:Ho)(cs:List Value)(k:Nat)(hk:k+mkHo.cnt a<9223372036854775807)(w:World)(hr:tyHo.rd w cs (mkHo.mak k a)):Gives Tryz.prog 42 #[.agg cs.toArray,.int .i64 k] w (.int .i64 (k+mkHo.cnt a:Nat)):=by
 obtain⟨A1,n1,k1,A2,n2,k2,A3,n3,k3,A4,n4,k4,A5,n5,k5,A6,n6,k6,A7,n7,k7,A8,n8,k8,rfl,h1,h2⟩:=Ho_form hr
 obtain⟨a1,a2,a3⟩:=a
 have hk1:k+mkSt.cnt a1+mkDk.cnt a2<9223372036854775807:=by
  have:k+(mkSt.cnt a1+(mkDk.cnt a2+(0)))<9223372036854775807:=hk
  omega
 show Gives Tryz.prog _ #[.agg #[.slice A1 n1 k1,.slice A2 n2 k2,.slice A3 n3 k3,.int .i64 a1.1.1.2.2.2,.slice A4 n4 k4,.slice A5 n5 k5,.slice A6 n6 k6,.int .i64 a1.1.2.2.2.2,.slice A7 n7 k7,.slice A8 n8 k8,.int .i64 a2.2,.int .i64 a3],_] w _
 have g1:tySt.rd w [.slice A1 n1 k1,.slice A2 n2 k2,.slice A3 n3 k3,.int .i64 a1.1.1.2.2.2,.slice A4 n4 k4,.slice A5 n5 k5,.slice A6 n6 k6,.int .i64 a1.1.2.2.2.2,.slice A7 n7 k7] (mkSt.mak (k) a1):=h1
 have g2:tyDk.rd w [.slice A8 n8 k8,.int .i64 a2.2] (mkDk.mak (k+mkSt.cnt a1) a2):=h2
 have c1:=fun w1 hb=>z4d a1 _ (k) (by omega) w1 (Ty.below _ g1 hb)
 have c2:=fun w1 hb=>heldDisk_l a2 _ (k+mkSt.cnt a1) (by omega) w1 (Ty.below _ g2 hb)
 have hr2:(k+mkHo.cnt (a1,a2,a3):Nat)=k+mkSt.cnt a1+mkDk.cnt a2:=by
  show k+(mkSt.cnt a1+(mkDk.cnt a2+(0)))=_
  omega
 rw[hr2]
 clear hk hk1 hr hr2 h1 h2 g1 g2
 generalize k+mkSt.cnt a1+mkDk.cnt a2=kk2 at *
 generalize k+mkSt.cnt a1=kk1 at *
 have f1:¬(kk1:Int)<0:=by omega
 have f2:¬(kk2:Int)<0:=by omega
 have H:=Hs.start noRow w
 unfold Gives
 go_enter Tryz.func42,Tryz.ntmps42
 go_wp2_with ((first|refine zM ?_|(refine zB 2 ?_;intro b2)|(go_at_call 93;refine gvF (c1 _ H.below) H ?_)|(go_at_call 94;refine gvF (c2 _ H.below) H ?_));clear H;intro wn H)
 go_ret
 exact⟨rfl,H.below⟩
theorem markHouseOut_l(a:HO)(cs:List Value)(k:Nat)(hk:k+mkHO.cnt a<9223372036854775807):Turn Tryz.prog 11 tyHO cs a (mkHO.mak k a) #[.agg cs.toArray,.int .i64 k] (.int .i64 (k+mkHO.cnt a:Nat)):=by
 intro R w0 L w N hO H
 obtain⟨x1,y1,M1,N1,rfl,rfl,h1,hf,hM⟩:=hO
 subst hf hM
 have Hp:Hs R w0 (Hl.all M1::L) w:=Hs.partL [M1] H
 clear H
 have H:=Hp
 clear Hp
 obtain⟨A1,n1,k1,A2,n2,k2,A3,n3,k3,A4,n4,k4,A5,n5,k5,A6,n6,k6,A7,n7,k7,A8,n8,k8,rfl⟩:=Ho_lit (own_rd H iF h1)
 obtain⟨a1,a2⟩:=a
 simp only at h1
 show Calls Tryz.prog _ #[.agg #[.slice A1 n1 k1,.slice A2 n2 k2,.slice A3 n3 k3,.int .i64 a1.1.1.1.2.2.2,.slice A4 n4 k4,.slice A5 n5 k5,.slice A6 n6 k6,.int .i64 a1.1.1.2.2.2.2,.slice A7 n7 k7,.slice A8 n8 k8,.int .i64 a1.2.1.2,.int .i64 a1.2.2,.string a2.1,.int .i64 a2.2],_] w _
 have hk1:k+mkHo.cnt a1<9223372036854775807:=by
  have:k+(mkHo.cnt a1+(0))<9223372036854775807:=hk
  omega
 have c1:=markHouse_l a1 [.slice A1 n1 k1,.slice A2 n2 k2,.slice A3 n3 k3,.int .i64 a1.1.1.1.2.2.2,.slice A4 n4 k4,.slice A5 n5 k5,.slice A6 n6 k6,.int .i64 a1.1.1.2.2.2.2,.slice A7 n7 k7,.slice A8 n8 k8,.int .i64 a1.2.1.2,.int .i64 a1.2.2] (k) (by omega)
 have hr:(k+mkHO.cnt (a1,a2):Nat)=k+mkHo.cnt a1:=by
  show k+(mkHo.cnt a1+(0))=_
  omega
 rw[hr]
 have hd:mkHO.mak k (a1,a2)=(mkHo.mak (k) a1,a2):=rfl
 rw[hd]
 clear hk hr hd hk1
 generalize mkHo.mak (k) a1=b1' at *
 generalize k+mkHo.cnt a1=kk1 at *
 have HH1:=hY h1
 clear h1
 go_enter Tryz.func11,Tryz.ntmps11
 go_wp2_with ((first|refine zM ?_|(refine zB 2 ?_;intro b2));clear H;intro wn H)
 have Hn:=H.reperm (Del.perm (h:=Hl.all M1) dF)
 refine(c1 _ _ _ _ _ HH1.out Hn).mono ?_
 rintro e wn ⟨rfl,J1,j1,Hq⟩
 clear H Hn
 have H:=Hq
 clear Hq
 go_wp2_with (fail)
 go_ret
 have G1:=H.reperm (Del.perm (h:=Hl.all J1) dF)
 have HF:=(Hs.joinL [J1] G1).off
 exact⟨rfl,_,⟨[_,_,_,_,_,_,_,_,_,_,_,_],[_,_],_,_,rfl,rfl,j1,⟨rfl,rfl⟩⟩,HF⟩
theorem heldHouseOut_l(a:HO)(cs:List Value)(k:Nat)(hk:k+mkHO.cnt a<9223372036854775807)(w:World)(hr:tyHO.rd w cs (mkHO.mak k a)):Gives Tryz.prog 12 #[.agg cs.toArray,.int .i64 k] w (.int .i64 (k+mkHO.cnt a:Nat)):=by
 obtain⟨A1,n1,k1,A2,n2,k2,A3,n3,k3,A4,n4,k4,A5,n5,k5,A6,n6,k6,A7,n7,k7,A8,n8,k8,rfl,h1⟩:=z2w hr
 obtain⟨a1,a2⟩:=a
 have hk1:k+mkHo.cnt a1<9223372036854775807:=by
  have:k+(mkHo.cnt a1+(0))<9223372036854775807:=hk
  omega
 show Gives Tryz.prog _ #[.agg #[.slice A1 n1 k1,.slice A2 n2 k2,.slice A3 n3 k3,.int .i64 a1.1.1.1.2.2.2,.slice A4 n4 k4,.slice A5 n5 k5,.slice A6 n6 k6,.int .i64 a1.1.1.2.2.2.2,.slice A7 n7 k7,.slice A8 n8 k8,.int .i64 a1.2.1.2,.int .i64 a1.2.2,.string a2.1,.int .i64 a2.2],_] w _
 have g1:tyHo.rd w [.slice A1 n1 k1,.slice A2 n2 k2,.slice A3 n3 k3,.int .i64 a1.1.1.1.2.2.2,.slice A4 n4 k4,.slice A5 n5 k5,.slice A6 n6 k6,.int .i64 a1.1.1.2.2.2.2,.slice A7 n7 k7,.slice A8 n8 k8,.int .i64 a1.2.1.2,.int .i64 a1.2.2] (mkHo.mak (k) a1):=h1
 have c1:=fun w1 hb=>z4l a1 _ (k) (by omega) w1 (Ty.below _ g1 hb)
 have hr2:(k+mkHO.cnt (a1,a2):Nat)=k+mkHo.cnt a1:=by
  show k+(mkHo.cnt a1+(0))=_
  omega
 rw[hr2]
 clear hk hk1 hr hr2 h1 g1
 generalize k+mkHo.cnt a1=kk1 at *
 have f1:¬(kk1:Int)<0:=by omega
 have H:=Hs.start noRow w
 unfold Gives
 go_enter Tryz.func12,Tryz.ntmps12
 go_wp2_with ((first|refine zM ?_|(refine zB 2 ?_;intro b2)|(go_at_call 42;refine gvF (c1 _ H.below) H ?_));clear H;intro wn H)
 go_ret
 exact⟨rfl,H.below⟩
end Dz
end Go.Proofs.YtcabgibdkmgdlaaGreat
namespace Go.Proofs.YtcabgibdkmgdlaaGreat
open Go.RowKit M
section
variable {P:Program} {R:Nat→Prop} {w0:World} {L:List Hl}
variable {K:List Hl} {ops l:List Oper} {Rest:List Oper→Act→World→Prop} {ss:List Spec} {vs:Nat→Value} {Ls:Nat→List Hl} {n k:Nat} {M:List Hl} {o:Oper} {a:Act}
end
namespace M
theorem z0c{α:Type}{K:Mark α}{s:Nat}(h:∀a,K.cnt a=s)(l:List α):K.cntl l=s*l.length:=by
 induction l with
 | nil=>rfl
 | cons a l ih=>show K.cnt a+K.cntl l=_;rw[h,ih,List.length_cons,Nat.mul_succ];omega
theorem z8c(l:List (List Lab)):mkLab.list.cntl l=2*l.flatten.length:=by
 induction l with
 | nil=>rfl
 | cons a l ih=>
  show mkLab.cntl a+mkLab.list.cntl l=_
  rw[ih,z0c (s:=2) (fun _=>rfl),List.flatten_cons,List.length_append]
  omega
theorem z9e(c:Cfg):mkCfg.cnt c≤5*szCfg c:=by
 show mkLab.list.cntl c.1+(mkPr.cntl c.2.1+(mkQt.cntl c.2.2.1+0))≤5*(total c.1+(c.2.1.length+c.2.2.1.length))
 rw[z8c,z0c (K:=mkPr) (s:=5) (fun _=>rfl),z0c (K:=mkQt) (s:=3) (fun _=>rfl)]
 unfold total
 omega
theorem z9w(l:List Bo):mkBo.cntl l≤2*mkSz.cntl l:=by
 induction l with
 | nil=>exact Nat.le_refl _
 | cons a l ih=>
  show mkNum.cntl a.1+(mkNum.cntl a.2.1+mkNt.cntl a.2.2)+mkBo.cntl l≤2*(szBo a+mkSz.cntl l)
  rw[z0c (K:=mkNum) (s:=1) (fun _=>rfl),z0c (K:=mkNum) (s:=1) (fun _=>rfl),z0c (K:=mkNt) (s:=2) (fun _=>rfl)]
  unfold szBo
  omega
end M
