import Derived.Test.YtcabgibdkmgdlaaGreatJF
import Derived.Test.YtcabgibdkmgdlaaGreatJA
set_option linter.unusedSimpArgs false
set_option linter.unusedVariables false
set_option maxRecDepth 100000
set_option maxHeartbeats 4000000
namespace Go.Proofs.YtcabgibdkmgdlaaGreat
open Go.RowKit M
theorem z5s:∀(a:Sp),∀u ∈ encSp a,u.oneCell'=true:=fun a u hu=>tySp.one (w:=default) (show tySp.rd default (encSp a) a from rfl) u hu
theorem z5q(v:Value)(l:List Sp)(hl:l.length≤1000000)(w:World)(hr:(Ty.sl 174 tySp).rd w [v] l):Rets Tryz.prog [] 219 #[v] w (tSli (Ty.sl 174 tySp) l):=by
 obtain⟨A,c,rfl,hlc,hcm⟩:=sl_form hr
 have H:=Hs.start noRow w
 have hRd:=sl_rd hr
 have hone:=flat_ones z5s l
 cases A with
 | none=>
  obtain rfl:=rd_none hr
  clear hr hRd hone
  refine Rets.of ?_
  go_enter Tryz.func219,Tryz.ntmps219
  go_wp2_with ((((with_reducible apply st_nil0 H);rfl;rfl;(focus exact Tryz.underlying170)));clear H;intro wn H;refine zp ?_)
  go_ret
  exact ret_flatS (H.putRow 174 2 none) rfl rfl
 | some p=>
  obtain⟨n,hn⟩:=nm l.length
  rw[←hn] at hRd hl ⊢
  have HN:=hY hn
  clear hr hlc hcm hn
  refine Rets.of ?_
  go_enter Tryz.func219,Tryz.ntmps219
  go_wp2_with (first|(refine zI ?_;clear H;intro nb wn H)|((((with_reducible apply st_nil1 H);rfl;rfl;(focus exact Tryz.underlying170)));clear H;intro wn H;refine zp ?_)|(have Hn:=H.putRow 174 2 (some ⟨nb,0,none⟩);(with_reducible apply st_appendr Hn);(focus(with_reducible exact dH));rfl;rfl;kernel_rfl;(focus exact(hRd.later H.below));exact hone;(focus omega);clear Hn;clear H;intro vq wn H;refine zp ?_))
  go_ret
  exact ret_flatS H (by rw[List.nil_append]) (by rw[Nat.zero_add];exact HN.out)
theorem z5t:∀(a:Us),∀u ∈ encUs a,u.oneCell'=true:=fun a u hu=>tyUs.one (w:=default) (show tyUs.rd default (encUs a) a from rfl) u hu
theorem z6s(v:Value)(l:List Us)(hl:l.length≤1000000)(w:World)(hr:(Ty.sl 180 tyUs).rd w [v] l):Rets Tryz.prog [] 146 #[v] w (tSli (Ty.sl 180 tyUs) l):=by
 obtain⟨A,c,rfl,hlc,hcm⟩:=sl_form hr
 have H:=Hs.start noRow w
 have hRd:=sl_rd hr
 have hone:=flat_ones z5t l
 cases A with
 | none=>
  obtain rfl:=rd_none hr
  clear hr hRd hone
  refine Rets.of ?_
  go_enter Tryz.func146,Tryz.ntmps146
  go_wp2_with ((((with_reducible apply st_nil0 H);rfl;rfl;(focus exact Tryz.underlying50)));clear H;intro wn H;refine zp ?_)
  go_ret
  exact ret_flatS (H.putRow 180 4 none) rfl rfl
 | some p=>
  obtain⟨n,hn⟩:=nm l.length
  rw[←hn] at hRd hl ⊢
  have HN:=hY hn
  clear hr hlc hcm hn
  refine Rets.of ?_
  go_enter Tryz.func146,Tryz.ntmps146
  go_wp2_with (first|(refine zI ?_;clear H;intro nb wn H)|((((with_reducible apply st_nil1 H);rfl;rfl;(focus exact Tryz.underlying50)));clear H;intro wn H;refine zp ?_)|(have Hn:=H.putRow 180 4 (some ⟨nb,0,none⟩);(with_reducible apply st_appendr Hn);(focus(with_reducible exact dH));rfl;rfl;kernel_rfl;(focus exact(hRd.later H.below));exact hone;(focus omega);clear Hn;clear H;intro vq wn H;refine zp ?_))
  go_ret
  exact ret_flatS H (by rw[List.nil_append]) (by rw[Nat.zero_add];exact HN.out)
theorem z5o:∀(a:Rg),∀u ∈ z0p a,u.oneCell'=true:=fun a u hu=>tyRg.one (w:=default) (show tyRg.rd default (z0p a) a from rfl) u hu
theorem z3o(v:Value)(l:List Rg)(hl:l.length≤1000000)(w:World)(hr:(Ty.sl 86 tyRg).rd w [v] l):Rets Tryz.prog [] 130 #[v] w (tSli (Ty.sl 86 tyRg) l):=by
 obtain⟨A,c,rfl,hlc,hcm⟩:=sl_form hr
 have H:=Hs.start noRow w
 have hRd:=sl_rd hr
 have hone:=flat_ones z5o l
 cases A with
 | none=>
  obtain rfl:=rd_none hr
  clear hr hRd hone
  refine Rets.of ?_
  go_enter Tryz.func130,Tryz.ntmps130
  go_wp2_with ((((with_reducible apply st_nil0 H);rfl;rfl;(focus exact Tryz.underlying58)));clear H;intro wn H;refine zp ?_)
  go_ret
  exact ret_flatS (H.putRow 86 3 none) rfl rfl
 | some p=>
  obtain⟨n,hn⟩:=nm l.length
  rw[←hn] at hRd hl ⊢
  have HN:=hY hn
  clear hr hlc hcm hn
  refine Rets.of ?_
  go_enter Tryz.func130,Tryz.ntmps130
  go_wp2_with (first|(refine zI ?_;clear H;intro nb wn H)|((((with_reducible apply st_nil1 H);rfl;rfl;(focus exact Tryz.underlying58)));clear H;intro wn H;refine zp ?_)|(have Hn:=H.putRow 86 3 (some ⟨nb,0,none⟩);(with_reducible apply st_appendr Hn);(focus(with_reducible exact dH));rfl;rfl;kernel_rfl;(focus exact(hRd.later H.below));exact hone;(focus omega);clear Hn;clear H;intro vq wn H;refine zp ?_))
  go_ret
  exact ret_flatS H (by rw[List.nil_append]) (by rw[Nat.zero_add];exact HN.out)
theorem z2n{K:List Hl}{a:Act}{w:World}{dst:Option Tmp}{ty:TypeId}{pos:String}{aft:Array Edge}{g:Option (Nat × Bool)}{x y:Nat}{v:Value}{k:Int}
  (hx:a.eval (.tmp x) = .int .i64 k) (hy:a.eval (.tmp y)=v) (h1:∃A n c,v = .slice A n c) :
  OpOk Tryz.prog K ⟨dst,.build 172 #[(0,.tmp x),(1,.tmp y)],ty,pos,aft,g⟩ a w (tV (.agg #[.int .i64 k,v])):=by
 obtain⟨A1,n1,c1,rfl⟩:=h1
 have hx2:a.tmps[x]?.getD undef = .int .i64 k:=by rw[←hx];simp[Act.eval]
 have hy2:a.tmps[y]?.getD undef = .slice A1 n1 c1:=by rw[←hy];simp[Act.eval]
 unfold OpOk execOp
 go_simp
 (try simp only[hx2,hy2])
 (try go_simp)
 exact now_v
theorem z4a(v:Value)(l:List Nd)(hl:l.length≤1000)(hf:∀x ∈ l,x.2.length≤1000000)(w:World)(hr:(Ty.sl 172 tyNd).rd w [v] l):Rets Tryz.prog [] 144 #[v] w (tSli (Ty.sl 172 tyNd) l):=by
 obtain⟨A,c,rfl,hlc,hcm⟩:=sl_form hr
 have HR:=hY hr
 have HFT:=hY hf
 obtain⟨n,hn⟩:=nm l.length
 rw[←hn] at HR hl ⊢
 have HN:=hY hn
 clear hr hf hlc hcm hn
 have H:=Hs.start noRow w
 refine Rets.of ?_
 go_enter Tryz.func144,Tryz.ntmps144
 go_wp2_with (refine zI ?_;clear H;intro nb wn H)
 have Hn:=H.putRow 172 2 (some ⟨nb,0,none⟩)
 clear H
 have H:=Hn
 clear Hn
 go_loopg [3,9] n (fun m sv iv wr=>∃(i:Nat) (ov:Value) (xs:List Value) (N:List Hl),i+m=n∧iv = .int .i64 i∧sv=ov∧Hid (OwnL tyNd xs (l.take i) N)∧Hs noRow w [Hl.row 172 2 ov i xs,Hl.all N] wr)
 case atStart=>exact⟨0,_,[],[],by omega,rfl,rfl,hY .nil,(H.sel (M:=[Hl.row 172 2 _ 0 []]) sF).allNil.reperm (List.Perm.swap ..)⟩
 case round=>
  clear H
  obtain⟨i,ov,xs,N,hi,rfl,rfl,HO,H⟩:=hrel
  obtain⟨A9,c9,rfl,hn9,hm9⟩:=(H.rows .here).slice
  by_cases hlt:i<n
  ·obtain ⟨x,b,off,cs,hx,rfl,hv2,hcs,hA⟩:=slE HR HN hlt
   have hfx:=HFT.out x (List.mem_of_getElem? hx)
   have HI3:Hid (∀J k,(Ty.sl 174 tySp).own [k] x.2 J→OwnL tyNd (xs ++ [.int .i64 x.1,k]) (l.take (i+1)) (N++J)):=hY (fun J k j=>by
    obtain⟨hlt',e⟩:=List.getElem?_eq_some_iff.1 hx
    rw[List.take_succ_eq_append_getElem hlt',e]
    exact HO.out.snoc ⟨[_],[_],[],J,rfl,rfl,⟨rfl,rfl⟩,j⟩)
   obtain⟨E1,m1,e3,rfl,g1⟩:=Nd_form hcs
   obtain⟨x1,x2⟩:=x
   simp only at hfx g1 HI3 hA
   have c1:=fun w1 hb=>z5q _ x2 hfx w1 (Ty.below _ g1 hb)
   clear g1 hfx
   have hlt1:(i:Int)<n:=by omega
   clear hx hv2 hcs HO
   go_wp2_with ((first|refine zU ?_|(refine zA 5 ?_;intro b5));clear H;intro wn H)
   apply wp_region_hs (K:=[]) (Spec.V _::Spec.V _::Spec.V _::Spec.V _::Spec.V _::Spec.T _::Spec.V _::Spec.S _ _ _ :: []) 8 H rfl (by simp) (by kernel_rfl) (by kernel_rfl);intro vs Ls;(iterate 5 (refine zhv ?_));(with_reducible apply wpH_T);(focus rfl);(focus rfl);(focus(intro hk w1 H1;unfold OpOk;go_simp;exact now_call (c1 _ H1.below)));refine zp ?_;(with_reducible apply wpH_VK);(focus rfl);(focus rfl);(focus(intro hk w1 H1;have q5:=okT (hk 5 (by decide +kernel) (by decide)) rfl;exact z2n rfl rfl q5.form));refine zp ?_;(with_reducible apply wpH_S);(focus rfl);(focus rfl);(focus(intro hk w1 H1;unfold OpOk;go_simp;exact now_sl));intro g7 hg7;refine zp ?_;refine wpH_0 ?_;intro hok wn Hn;(try simp only[yT,yU,yV,yW] at Hn);clear H;have H:=Hn;clear Hn;(try simp only[←hg7]);clear hg7;have ht5:=okT (hok 5 (by decide)) rfl;clear hok;obtain⟨A5,c5,J1,e5,o1,l5⟩:=ht5;simp only[e5,l5,yT,yU,yV] at H ⊢;clear e5 l5;rotate_left;exact lcG
   have HO2:=hY (HI3.out J1 _ o1)
   clear o1 HI3 c1
   go_wp2_with ((with_reducible apply st_appendrb H);(((focus(with_reducible exact dT (dT (dT (dH)))));rfl));rfl;exact iF;kernel_rfl;rfl;rfl;(focus(omega));clear H;intro vq wn H;obtain⟨Aq,cq,hvq,_,_⟩:=(H.rows .here).slice;subst hvq;refine zp ?_)
   go_roundg (n-(i+1))
   case measure=>omega
   case rel=>exact⟨i+1,.slice Aq (i+1) cq,_,_,by omega,by go_num,rfl,HO2,(Hs.join (H.sel (M:=[Hl.all N,Hl.all J1,Hl.row 172 2 (.slice Aq (i+1) cq) (i+1) _]) sF)).reperm (List.Perm.swap ..)⟩
  ·obtain rfl:i=n:=by omega
   have hlt1:=nlt i
   have ho:=HO.out
   rw[(tkl HN)] at ho
   go_wp2_with (fail)
   go_ret
   exact ret_slS H ho HN.out
theorem z4u(v:Value)(l:List Nd)(hl:l.length≤1000)(hf:∀x ∈ l,x.2.length≤1000000)(w:World)(hr:(Ty.sl 172 tyNd).rd w [v] l):Rets Tryz.prog [] 114 #[v] w (tSli (Ty.sl 172 tyNd) l):=by
 obtain⟨A,c,rfl,hlc,hcm⟩:=sl_form hr
 have HR:=hY hr
 have HFT:=hY hf
 obtain⟨n,hn⟩:=nm l.length
 rw[←hn] at HR hl ⊢
 have HN:=hY hn
 clear hr hf hlc hcm hn
 have H:=Hs.start noRow w
 refine Rets.of ?_
 go_enter Tryz.func114,Tryz.ntmps114
 go_wp2_with (refine zI ?_;clear H;intro nb wn H)
 have Hn:=H.putRow 172 2 (some ⟨nb,0,none⟩)
 clear H
 have H:=Hn
 clear Hn
 go_loopg [3,4] n (fun m sv iv wr=>∃(i:Nat) (ov:Value) (xs:List Value) (N:List Hl),i+m=n∧iv = .int .i64 i∧sv=ov∧Hid (OwnL tyNd xs (l.take i) N)∧Hs noRow w [Hl.row 172 2 ov i xs,Hl.all N] wr)
 case atStart=>exact⟨0,_,[],[],by omega,rfl,rfl,hY .nil,(H.sel (M:=[Hl.row 172 2 _ 0 []]) sF).allNil.reperm (List.Perm.swap ..)⟩
 case round=>
  clear H
  obtain⟨i,ov,xs,N,hi,rfl,rfl,HO,H⟩:=hrel
  obtain⟨A9,c9,rfl,hn9,hm9⟩:=(H.rows .here).slice
  by_cases hlt:i<n
  ·obtain ⟨x,b,off,cs,hx,rfl,hv2,hcs,hA⟩:=slE HR HN hlt
   have hfx:=HFT.out x (List.mem_of_getElem? hx)
   have HI3:Hid (∀J k,(Ty.sl 174 tySp).own [k] x.2 J→OwnL tyNd (xs ++ [.int .i64 x.1,k]) (l.take (i+1)) (N++J)):=hY (fun J k j=>by
    obtain⟨hlt',e⟩:=List.getElem?_eq_some_iff.1 hx
    rw[List.take_succ_eq_append_getElem hlt',e]
    exact HO.out.snoc ⟨[_],[_],[],J,rfl,rfl,⟨rfl,rfl⟩,j⟩)
   obtain⟨E1,m1,e3,rfl,g1⟩:=Nd_form hcs
   obtain⟨x1,x2⟩:=x
   simp only at hfx g1 HI3 hA
   have c1:=sl_rd g1
   clear g1
   have hlt1:(i:Int)<n:=by omega
   clear hx hv2 hcs HO
   have hAi:At w b (off+i*2) [.int .i64 x1]:=fun j u hu=>by
    match j,hu with
    | 0,hu=>exact hA 0 u hu
   have hAs:w.cell? ⟨b,off+i*2+1,none⟩=some (.slice E1 m1 e3):=hA 1 _ rfl
   clear hA
   go_wp2_with (fail)
   apply wp_region_hs (K:=[]) (Spec.V _::Spec.V _::Spec.V _::Spec.V _::Spec.V _::Spec.V _::Spec.S _ _ _::Spec.V _::Spec.V _::Spec.V _::Spec.V _::Spec.V _::Spec.T _::Spec.V _::Spec.S _ _ _ :: []) 15 H rfl (by simp) (by kernel_rfl) (by kernel_rfl);intro vs Ls;(iterate 5 (refine zhv ?_));((with_reducible apply wpH_V);(focus rfl);(focus rfl);(focus(intro w1 H1;(with_reducible apply ok_load1);(focus rfl);(focus decide +kernel);(focus exact(At.old hAi H1).head rfl)));refine zp ?_);(with_reducible apply wpH_S);(focus rfl);(focus rfl);(focus(intro hk w1 H1;unfold OpOk;go_simp;exact now_sl));intro g6 hg6;refine zp ?_;(iterate 5 (refine zhv ?_));(with_reducible apply wpH_T);(focus rfl);(focus rfl);(focus(intro hk w1 H1;(exact(show OpOk _ _ _ _ _ (tSli (Ty.sl 174 tySp) x2) from ok_append0 rfl rfl (by kernel_rfl) (c1.later H1.below) hfx))));refine zp ?_;(with_reducible apply wpH_VK);(focus rfl);(focus rfl);(focus(intro hk w1 H1;have q12:=okT (hk 12 (by decide +kernel) (by decide)) rfl;exact z2n rfl rfl q12.form));refine zp ?_;(with_reducible apply wpH_S);(focus rfl);(focus rfl);(focus(intro hk w1 H1;unfold OpOk;go_simp;exact now_sl));intro g14 hg14;refine zp ?_;refine wpH_0 ?_;intro hok wn Hn;(try simp only[yT,yU,yV,yW] at Hn);clear H;have H:=Hn;clear Hn;(try simp only[←hg6,←hg14]);clear hg6;clear hg14;have ht12:=okT (hok 12 (by decide)) rfl;clear hok;obtain⟨A5,c5,J1,e12,o1,l12⟩:=ht12;simp only[e12,l12,yT,yU,yV] at H ⊢;clear e12 l12;rotate_left;exact lcG
   have HO2:=hY (HI3.out J1 _ o1)
   clear o1 HI3 c1 hfx
   go_wp2_with ((with_reducible apply st_appendrb H);(((focus(with_reducible exact dT (dT (dT (dH)))));rfl));rfl;exact iF;kernel_rfl;rfl;rfl;(focus(omega));clear H;intro vq wn H;obtain⟨Aq,cq,hvq,_,_⟩:=(H.rows .here).slice;subst hvq;refine zp ?_)
   go_roundg (n-(i+1))
   case measure=>omega
   case rel=>exact⟨i+1,.slice Aq (i+1) cq,_,_,by omega,by go_num,rfl,HO2,(Hs.join (H.sel (M:=[Hl.all N,Hl.all J1,Hl.row 172 2 (.slice Aq (i+1) cq) (i+1) _]) sF)).reperm (List.Perm.swap ..)⟩
  ·obtain rfl:i=n:=by omega
   have hlt1:=nlt i
   have ho:=HO.out
   rw[(tkl HN)] at ho
   go_wp2_with (fail)
   go_ret
   exact ret_slS H ho HN.out
theorem z6e(a:Ta)(cs:List Value)(hf:a.2.length≤1000000)(w:World)(hr:tyTa.rd w cs a):Rets Tryz.prog [] 220 #[.agg cs.toArray] w (tAgg tyTa a):=by
 obtain⟨A,n,k,rfl,h1⟩:=Ta_form hr
 obtain⟨⟨⟨l1,l2⟩,id,ow,need,long,prio,⟨u1,u2⟩,aft,born,st,start⟩,nodes⟩:=a
 simp only at h1 hf ⊢
 have c1:=fun w1 hb=>clone_Int _ nodes hf w1 (Ty.below _ h1 hb)
 clear hr h1 hf
 have H:=Hs.start noRow w
 refine Rets.of ?_
 show Calls _ _ #[.agg #[.int .i64 l1,.int .i64 l2,.int .i64 id,.string ow,.int .i64 need,.int .i64 long,.int .i64 prio,.int .i64 u1,.int .i64 u2,.int .i64 aft,.int .i64 born,.int .i64 st,.int .i64 start,.slice A n k]] _ _
 go_enter Tryz.func220,Tryz.ntmps220
 go_wp2_with ((first|refine zL ?_|(refine zB 1 ?_;intro b1)|(refine zA 2 ?_;intro b2));clear H;intro wn H)
 refine(Rets.use (c1 _ H.below)).mono ?_;rintro e wn ⟨_,_,rfl,⟨A4,c4,J1,rfl,o1,rfl⟩,hkk⟩;refine zK ?_;clear H hkk;intro H
 go_wp2_with (refine zU ?_;clear H;intro wn H)
 refine bpF ?_
 have H2:=H.sel (M:=[Hl.all J1]) sF
 exact Hs.retd H2 (List.Sublist.refl _) ⟨[_,_,_,_,_,_,_,_,_,_,_,_,_,_],J1,rfl,⟨[_,_,_,_,_,_,_,_,_,_,_,_,_],[_],[],J1,rfl,rfl,⟨rfl,rfl⟩,o1⟩,rfl⟩
theorem z5x(a:Ta)(cs:List Value)(hf:a.2.length≤1000000)(w:World)(hr:tyTa.rd w cs a):Rets Tryz.prog [] 183 #[.agg cs.toArray] w (tAgg tyTa a):=by
 obtain⟨A,n,k,rfl,h1⟩:=Ta_form hr
 obtain⟨⟨⟨l1,l2⟩,id,ow,need,long,prio,⟨u1,u2⟩,aft,born,st,start⟩,nodes⟩:=a
 simp only at h1 hf ⊢
 have hRd:=sl_rd h1
 have hone:=flat_ones encNum_ones nodes
 obtain⟨n0,hn0⟩:=nm nodes.length
 rw[←hn0] at hRd hf
 have HN:=hY hn0
 clear hr h1 hn0
 have H:=Hs.start noRow w
 refine Rets.of ?_
 show Calls _ _ #[.agg #[.int .i64 l1,.int .i64 l2,.int .i64 id,.string ow,.int .i64 need,.int .i64 long,.int .i64 prio,.int .i64 u1,.int .i64 u2,.int .i64 aft,.int .i64 born,.int .i64 st,.int .i64 start,.slice A n k]] _ _
 go_enter Tryz.func183,Tryz.ntmps183
 go_wp2_with (first|((first|refine zU ?_|(refine zB 1 ?_;intro b1)|(refine zA 2 ?_;intro b2)|(refine zI ?_;intro nb));clear H;intro wn H)|(have Hn:=H.putRow 2 1 (some ⟨nb,0,none⟩);(with_reducible apply st_appendr Hn);(focus(with_reducible exact dH));rfl;rfl;kernel_rfl;(focus exact(hRd.later H.below));exact hone;(focus omega);clear Hn;clear H;intro vq wn H;(simp only[Nat.zero_add,List.nil_append] at H);obtain⟨Aq,cq,hvq,_,_⟩:=(H.rows .here).slice;subst hvq;refine zp ?_))
 refine bpF ?_
 have H2:=Hs.pack (M:=[Hl.row 2 1 (.slice Aq n0 cq) n0 (flat encNum nodes)]) (H.sel (M:=[Hl.row 2 1 (.slice Aq n0 cq) n0 (flat encNum nodes)]) sF)
 exact Hs.retd H2 (List.Sublist.refl _) ⟨[_,_,_,_,_,_,_,_,_,_,_,_,_,_],_,rfl,⟨[_,_,_,_,_,_,_,_,_,_,_,_,_],[_],[],_,rfl,rfl,⟨rfl,rfl⟩,⟨_,flat encNum nodes,[],rfl,ownL_flat nodes,by rw[←HN.out];rfl,rfl⟩⟩,rfl⟩
theorem z4g(v:Value)(l:List Ta)(hl:l.length≤1000)(hf:∀x ∈ l,x.2.length≤1000000)(w:World)(hr:(Ty.sl 177 tyTa).rd w [v] l):Rets Tryz.prog [] 145 #[v] w (tSli (Ty.sl 177 tyTa) l):=by
 obtain⟨A,c,rfl,hlc,hcm⟩:=sl_form hr
 have HR:=hY hr
 have HFT:=hY hf
 obtain⟨n,hn⟩:=nm l.length
 rw[←hn] at HR hl ⊢
 have HN:=hY hn
 clear hr hf hlc hcm hn
 have H:=Hs.start noRow w
 refine Rets.of ?_
 go_enter Tryz.func145,Tryz.ntmps145
 go_wp2_with (refine zI ?_;clear H;intro nb wn H)
 have Hn:=H.putRow 177 14 (some ⟨nb,0,none⟩)
 clear H
 have H:=Hn
 clear Hn
 go_loopg [3,9] n (fun m sv iv wr=>∃(i:Nat) (ov:Value) (xs:List Value) (N:List Hl),i+m=n∧iv = .int .i64 i∧sv=ov∧Hid (OwnL tyTa xs (l.take i) N)∧Hs noRow w [Hl.row 177 14 ov i xs,Hl.all N] wr)
 case atStart=>exact⟨0,_,[],[],by omega,rfl,rfl,hY .nil,(H.sel (M:=[Hl.row 177 14 _ 0 []]) sF).allNil.reperm (List.Perm.swap ..)⟩
 case round=>
  clear H
  obtain⟨i,ov,xs,N,hi,rfl,rfl,HO,H⟩:=hrel
  obtain⟨A9,c9,rfl,hn9,hm9⟩:=(H.rows .here).slice
  by_cases hlt:i<n
  ·obtain ⟨x,b,off,cs,hx,rfl,hv2,hcs,hA⟩:=slE HR HN hlt
   have hfx:=HFT.out x (List.mem_of_getElem? hx)
   have HI3:Hid (∀J cs,tyTa.own cs x J→OwnL tyTa (xs++cs) (l.take (i+1)) (N++J)):=hY (fun J k j=>by
    obtain⟨hlt',e⟩:=List.getElem?_eq_some_iff.1 hx
    rw[List.take_succ_eq_append_getElem hlt',e]
    exact HO.out.snoc j)
   have c1:=fun w1 hb=>z6e x _ hfx w1 (Ty.below _ hcs hb)
   obtain⟨E1,m1,e3,rfl,g1⟩:=Ta_form hcs
   clear g1 hfx
   obtain⟨⟨⟨l1,l2⟩,id,ow,need,long,prio,⟨u1,u2⟩,aft,born,st,start⟩,nodes⟩:=x
   simp only at c1 HI3 hA
   replace c1:∀w1,Below w.heap.size w w1→Rets Tryz.prog [] 220 #[.agg #[.int .i64 l1,.int .i64 l2,.int .i64 id,.string ow,.int .i64 need,.int .i64 long,.int .i64 prio,.int .i64 u1,.int .i64 u2,.int .i64 aft,.int .i64 born,.int .i64 st,.int .i64 start,.slice E1 m1 e3]] w1 (tAgg tyTa (((l1,l2),id,ow,need,long,prio,(u1,u2),aft,born,st,start),nodes)):=c1
   have hlt1:(i:Int)<n:=by omega
   clear hx hv2 hcs HO
   go_wp2_with ((first|refine zU ?_|(refine zA 5 ?_;intro b5));clear H;intro wn H)
   refine(Rets.use (c1 _ H.below)).mono ?_;rintro e wn ⟨_,_,rfl,⟨cs1,J1,rfl,o1,rfl⟩,hkk⟩;refine zK ?_;clear H hkk;intro H
   obtain⟨F1,f2,f3,rfl,_⟩:=Ta_form (own_rd H .here o1)
   have HO2:=hY (HI3.out J1 _ o1)
   clear o1 HI3 c1
   go_wp2_with (first|((with_reducible apply st_appendrb H);(((focus(with_reducible exact dT (dT (dT (dH)))));rfl));rfl;exact iF;kernel_rfl;rfl;rfl;(focus(omega));clear H;intro vq wn H;obtain⟨Aq,cq,hvq,_,_⟩:=(H.rows .here).slice;subst hvq;refine zp ?_)|(refine zI ?_;clear H;intro nb wn H))
   go_roundg (n-(i+1))
   case measure=>omega
   case rel=>exact⟨i+1,.slice Aq (i+1) cq,_,_,by omega,by go_num,rfl,HO2,(Hs.join (H.sel (M:=[Hl.all N,Hl.all J1,Hl.row 177 14 (.slice Aq (i+1) cq) (i+1) _]) sF)).reperm (List.Perm.swap ..)⟩
  ·obtain rfl:i=n:=by omega
   have hlt1:=nlt i
   have ho:=HO.out
   rw[(tkl HN)] at ho
   go_wp2_with (fail)
   go_ret
   exact ret_slS H ho HN.out
theorem z4s(v:Value)(l:List Ta)(hl:l.length≤1000)(hf:∀x ∈ l,x.2.length≤1000000)(w:World)(hr:(Ty.sl 177 tyTa).rd w [v] l):Rets Tryz.prog [] 115 #[v] w (tSli (Ty.sl 177 tyTa) l):=by
 obtain⟨A,c,rfl,hlc,hcm⟩:=sl_form hr
 have HR:=hY hr
 have HFT:=hY hf
 obtain⟨n,hn⟩:=nm l.length
 rw[←hn] at HR hl ⊢
 have HN:=hY hn
 clear hr hf hlc hcm hn
 have H:=Hs.start noRow w
 refine Rets.of ?_
 go_enter Tryz.func115,Tryz.ntmps115
 go_wp2_with (refine zI ?_;clear H;intro nb wn H)
 have Hn:=H.putRow 177 14 (some ⟨nb,0,none⟩)
 clear H
 have H:=Hn
 clear Hn
 go_loopg [3,4] n (fun m sv iv wr=>∃(i:Nat) (ov:Value) (xs:List Value) (N:List Hl),i+m=n∧iv = .int .i64 i∧sv=ov∧Hid (OwnL tyTa xs (l.take i) N)∧Hs noRow w [Hl.row 177 14 ov i xs,Hl.all N] wr)
 case atStart=>exact⟨0,_,[],[],by omega,rfl,rfl,hY .nil,(H.sel (M:=[Hl.row 177 14 _ 0 []]) sF).allNil.reperm (List.Perm.swap ..)⟩
 case round=>
  clear H
  obtain⟨i,ov,xs,N,hi,rfl,rfl,HO,H⟩:=hrel
  obtain⟨A9,c9,rfl,hn9,hm9⟩:=(H.rows .here).slice
  by_cases hlt:i<n
  ·obtain ⟨x,b,off,cs,hx,rfl,hv2,hcs,hA⟩:=slE HR HN hlt
   have hfx:=HFT.out x (List.mem_of_getElem? hx)
   have HI3:Hid (∀J cs,tyTa.own cs x J→OwnL tyTa (xs++cs) (l.take (i+1)) (N++J)):=hY (fun J k j=>by
    obtain⟨hlt',e⟩:=List.getElem?_eq_some_iff.1 hx
    rw[List.take_succ_eq_append_getElem hlt',e]
    exact HO.out.snoc j)
   have c1:=fun w1 hb=>z5x x _ hfx w1 (Ty.below _ hcs hb)
   obtain⟨E1,m1,e3,rfl,g1⟩:=Ta_form hcs
   clear g1 hfx
   obtain⟨⟨⟨l1,l2⟩,id,ow,need,long,prio,⟨u1,u2⟩,aft,born,st,start⟩,nodes⟩:=x
   simp only at c1 HI3 hA
   replace c1:∀w1,Below w.heap.size w w1→Rets Tryz.prog [] 183 #[.agg #[.int .i64 l1,.int .i64 l2,.int .i64 id,.string ow,.int .i64 need,.int .i64 long,.int .i64 prio,.int .i64 u1,.int .i64 u2,.int .i64 aft,.int .i64 born,.int .i64 st,.int .i64 start,.slice E1 m1 e3]] w1 (tAgg tyTa (((l1,l2),id,ow,need,long,prio,(u1,u2),aft,born,st,start),nodes)):=c1
   have hlt1:(i:Int)<n:=by omega
   clear hx hv2 hcs HO
   go_wp2_with (refine zP ?_;clear H;intro wn H)
   refine(Rets.use (c1 _ H.below)).mono ?_;rintro e wn ⟨_,_,rfl,⟨cs1,J1,rfl,o1,rfl⟩,hkk⟩;refine zK ?_;clear H hkk;intro H
   obtain⟨F1,f2,f3,rfl,_⟩:=Ta_form (own_rd H .here o1)
   have HO2:=hY (HI3.out J1 _ o1)
   clear o1 HI3 c1
   go_wp2_with (first|((with_reducible apply st_appendrb H);(((focus(with_reducible exact dT (dT (dH))));rfl));rfl;exact iF;kernel_rfl;rfl;rfl;(focus(omega));clear H;intro vq wn H;obtain⟨Aq,cq,hvq,_,_⟩:=(H.rows .here).slice;subst hvq;refine zp ?_)|(refine zI ?_;clear H;intro nb wn H))
   go_roundg (n-(i+1))
   case measure=>omega
   case rel=>exact⟨i+1,.slice Aq (i+1) cq,_,_,by omega,by go_num,rfl,HO2,(Hs.join (H.sel (M:=[Hl.all N,Hl.all J1,Hl.row 177 14 (.slice Aq (i+1) cq) (i+1) _]) sF)).reperm (List.Perm.swap ..)⟩
  ·obtain rfl:i=n:=by omega
   have hlt1:=nlt i
   have ho:=HO.out
   rw[(tkl HN)] at ho
   go_wp2_with (fail)
   go_ret
   exact ret_slS H ho HN.out
