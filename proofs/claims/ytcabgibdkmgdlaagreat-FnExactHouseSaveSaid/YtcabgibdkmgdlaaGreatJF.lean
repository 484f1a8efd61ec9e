import Derived.Test.YtcabgibdkmgdlaaGreatJ9
import Derived.Test.YtcabgibdkmgdlaaGreatJ4
import Derived.Test.YtcabgibdkmgdlaaGreatJ7
set_option linter.unusedSimpArgs false
set_option linter.unusedVariables false
set_option maxRecDepth 100000
set_option maxHeartbeats 4000000
namespace Go.Proofs.YtcabgibdkmgdlaaGreat
open Go.RowKit M
namespace M
def fitsBo(b:Bo):Prop:=b.1.length≤1000000∧b.2.1.length≤1000000∧b.2.2.length≤1000000
end M
theorem Hs.join4{R:Nat→Prop}{w0 w:World}{a b c:Hl}{M N L:List Hl}(H:Hs R w0 (a::b::c::Hl.all N::Hl.all M::L) w):Hs R w0 (a::b::c::Hl.all (N++M)::L) w:=by
 have h1:Hs R w0 (Hl.all N::Hl.all M::a::b::c::L) w:=H.up3.reperm (by
  refine List.Perm.cons _ ?_
  exact((List.Perm.cons _ ((List.Perm.cons _ (List.Perm.swap ..)).trans (List.Perm.swap ..))).trans (List.Perm.swap ..)))
 exact h1.join.reperm ((List.Perm.swap ..).trans (List.Perm.cons _ ((List.Perm.swap ..).trans (List.Perm.cons _ (List.Perm.swap ..)))))
theorem Hk.pack1{w w':World}{h:Hl}(k:Hk [] w [h] w'):Hk [] w [Hl.all [h]] w':=
 ⟨k.grow,fun _ _ hk=>absurd hk List.not_mem_nil,fun x hx=>by
  obtain rfl:=List.mem_singleton.1 hx
  exact⟨k.ok,List.pairwise_singleton _ _⟩,fun x hx b hb=>by
  obtain rfl:=List.mem_singleton.1 hx
  obtain⟨y,hy,hyb⟩:=hb
  exact k.own y hy b hyb,List.pairwise_singleton _ _⟩
theorem ok_append0{α:Type}{s:Nat}{enc:α→List Value}{hl:∀a,(enc a).length=s}{h1:∀a,∀u ∈ enc a,u.oneCell'=true}{P:Program}{a:Act}{w:World}{dst:Option Tmp}{ty:TypeId}{pos:String}{aft:Array Edge}{g:Option (Nat × Bool)}
  {xo yo:Operand} {t E:TypeId} {A:Option Addr} {src:Value} {l:List α} (hs:a.eval xo = .slice A 0 0) (hx:a.eval yo=src)
  (hT:appT P t E s=true) (hr:Rd w s src l.length (flat enc l)) (hm:l.length≤1000000) :
  OpOk P [] ⟨dst,.call ⟨.builtin .append,#[xo,yo],#[t,t]⟩,ty,pos,aft,g⟩ a w (tSli (Ty.sl E (Ty.flat s enc hl h1)) l):=by
 obtain⟨v',w',hrun,ho',hg,hb⟩:=run_append_row (P:=P) (ty:=ty) hT (rowOk.none E s A) hr (fun u hu=>List.all_eq_true.1 (flat_ones h1 l) u hu) (by omega)
 rw[Nat.zero_add,List.nil_append] at ho'
 obtain⟨B,c,rfl,_⟩:=ho'.slice
 unfold OpOk execOp
 simp only[resolve,invoke,builtin,Sem.run_bind,Sem.run_pure,Result.andThen_ok,List.map_toArray,List.map_cons,List.map_nil,hs,hx,hrun]
 refine⟨[Hl.all [Hl.row E s (.slice B l.length c) l.length (flat enc l)]],⟨B,c,[Hl.row E s (.slice B l.length c) l.length (flat enc l)],rfl,⟨_,flat enc l,[],rfl,ownL_flat l,rfl,rfl⟩,rfl⟩,Hk.pack1 ⟨?_,fun _ _ hk=>absurd hk List.not_mem_nil,?_,?_,List.pairwise_singleton _ _⟩⟩
 ·exact hg.mono (fun b hb=>by cases A <;> cases hb)
 ·intro x hx
  obtain rfl:=List.mem_singleton.1 hx
  exact ho'
 ·intro x hx b hxb
  obtain rfl:=List.mem_singleton.1 hx
  rcases hb b hxb with h|h
  ·cases A <;> cases h
  ·exact h
theorem ok_buildBox{K:List Hl}{a:Act}{w:World}{dst:Option Tmp}{ty:TypeId}{pos:String}{aft:Array Edge}{g:Option (Nat × Bool)}{x y z:Nat}{v1 v2 v3:Value}
  (hx:a.eval (.tmp x)=v1) (hy:a.eval (.tmp y)=v2) (hz:a.eval (.tmp z)=v3) (h1:∃A n c,v1 = .slice A n c) (h2:∃A n c,v2 = .slice A n c) (h3:∃A n c,v3 = .slice A n c) :
  OpOk Tryz.prog K ⟨dst,.build 128 #[(0,.tmp x),(1,.tmp y),(2,.tmp z)],ty,pos,aft,g⟩ a w (tV (.agg #[v1,v2,v3])):=by
 obtain⟨A1,n1,c1,rfl⟩:=h1
 obtain⟨A2,n2,c2,rfl⟩:=h2
 obtain⟨A3,n3,c3,rfl⟩:=h3
 have hx2:a.tmps[x]?.getD undef = .slice A1 n1 c1:=by rw[←hx];simp[Act.eval]
 have hy2:a.tmps[y]?.getD undef = .slice A2 n2 c2:=by rw[←hy];simp[Act.eval]
 have hz2:a.tmps[z]?.getD undef = .slice A3 n3 c3:=by rw[←hz];simp[Act.eval]
 unfold OpOk execOp
 go_simp
 (try simp only[hx2,hy2,hz2])
 (try go_simp)
 exact now_v
theorem copyMail_i(v:Value)(l:List Bo)(hl:l.length≤1000)(hf:∀b ∈ l,fitsBo b)(w:World)(hr:(Ty.sl 128 tyBo).rd w [v] l):Rets Tryz.prog [] 86 #[.agg #[v]] w (tOne (Ty.sl 128 tyBo) l):=by
 obtain⟨A,c,rfl,hlc,hcm⟩:=sl_form hr
 have HR:=hY hr
 have HFT:=hY hf
 obtain⟨n,hn⟩:=nm l.length
 rw[←hn] at HR hl ⊢
 have HN:=hY hn
 clear hr hf hlc hcm hn
 have H:=Hs.start noRow w
 refine Rets.of ?_
 go_enter Tryz.func86,Tryz.ntmps86
 go_wp2_with ((first|refine zU ?_|(refine zB 1 ?_;intro b1)|(refine zA 2 ?_;intro b2)|(refine zA 3 ?_;intro b3));clear H;intro wn H)
 have Hn:=H.putRow 128 3 none
 clear H
 have H:=Hn
 clear Hn
 go_loopg [10] n (fun m iv wr=>∃(i:Nat) (ov:Value) (xs:List Value) (N:List Hl),i+m=n∧iv = .int .i64 i∧Hid (OwnL tyBo xs (l.take i) N)∧Hs noRow w [Hl.row 128 3 ov i xs,Hl.blk b3 55 #[ov],Hl.blk b2 55 #[.slice none 0 0],Hl.all N] wr)
 case atStart=>exact⟨0,_,[],[],by omega,rfl,hY .nil,(H.sel (M:=[Hl.row 128 3 _ 0 [],Hl.blk b3 55 #[_],Hl.blk b2 55 #[.slice none 0 0]]) sF).allNil.reperm (by exact(List.perm_append_singleton (Hl.all []) _).symm)⟩
 case round=>
  clear H
  obtain⟨i,ov,xs,N,hi,rfl,HO,H⟩:=hrel
  obtain⟨A9,c9,rfl,hn9,hm9⟩:=(H.rows .here).slice
  by_cases hlt:i<n
  ·obtain ⟨x,b,off,cs,hx,rfl,hv2,hcs,hA⟩:=slE HR HN hlt
   obtain⟨u1,u2,u3,hu,g1,g2,g3⟩:=bo_form hcs
   subst hu
   have hfx:=HFT.out x (List.mem_of_getElem? hx)
   have HI3:Hid (∀J1 J2 J3 k1 k2 k3,(Ty.sl 2 tyNum).own [k1] x.1 J1→(Ty.sl 2 tyNum).own [k2] x.2.1 J2→(Ty.sl 162 tyNt).own [k3] x.2.2 J3→OwnL tyBo (xs ++ [k1,k2,k3]) (l.take (i+1)) (N++(J1++(J2++J3)))):=hY (fun J1 J2 J3 k1 k2 k3 j1 j2 j3=>by
    obtain⟨hlt',e⟩:=List.getElem?_eq_some_iff.1 hx
    rw[List.take_succ_eq_append_getElem hlt',e]
    exact HO.out.snoc ⟨[k1],[k2,k3],_,_,rfl,rfl,j1,[k2],[k3],_,_,rfl,rfl,j2,j3⟩)
   obtain⟨x1,x2,x3⟩:=x
   obtain⟨f1,f2,f3⟩:=hfx
   simp only at g1 g2 g3 f1 f2 f3 HI3
   have c1:=fun w1 hb=>clone_Int u1 x1 f1 w1 (Ty.below _ g1 hb)
   have c2:=fun w1 hb=>clone_Int u2 x2 f2 w1 (Ty.below _ g2 hb)
   have c3:=fun w1 hb=>clone_Note u3 x3 f3 w1 (Ty.below _ g3 hb)
   obtain⟨D1,d1,rfl,_,_⟩:=sl_form g1
   obtain⟨D2,d2,rfl,_,_⟩:=sl_form g2
   obtain⟨D3,d3,rfl,_,_⟩:=sl_form g3
   have hlt1:(i:Int)<n:=by omega
   clear hx hv2 hcs g1 g2 g3 f1 f2 f3 HO
   go_wp2_with ((first|refine zU ?_|(refine zA 5 ?_;intro b5));clear H;intro wn H)
   apply wp_region_hs (K:=[]) (Spec.V _::Spec.V _::Spec.V _::Spec.V _::Spec.T _::Spec.V _::Spec.V _::Spec.T _::Spec.V _::Spec.V _::Spec.T _::Spec.V _::Spec.S _ _ _ :: []) 13 H rfl (by simp) (by kernel_rfl) (by kernel_rfl);intro vs Ls;(iterate 4 (refine zhv ?_));(with_reducible apply wpH_T);(focus rfl);(focus rfl);(focus(intro hk w1 H1;unfold OpOk;go_simp;exact now_call (c1 _ H1.below)));refine zp ?_;(iterate 2 (refine zhv ?_));(with_reducible apply wpH_T);(focus rfl);(focus rfl);(focus(intro hk w1 H1;unfold OpOk;go_simp;exact now_call (c2 _ H1.below)));refine zp ?_;(iterate 2 (refine zhv ?_));(with_reducible apply wpH_T);(focus rfl);(focus rfl);(focus(intro hk w1 H1;unfold OpOk;go_simp;exact now_call (c3 _ H1.below)));refine zp ?_;(with_reducible apply wpH_VK);(focus rfl);(focus rfl);(focus(intro hk w1 H1;have q4:=okT (hk 4 (by decide +kernel) (by decide)) rfl;have q7:=okT (hk 7 (by decide +kernel) (by decide)) rfl;have q10:=okT (hk 10 (by decide +kernel) (by decide)) rfl;exact ok_buildBox rfl rfl rfl q4.form q7.form q10.form));refine zp ?_;(with_reducible apply wpH_S);(focus rfl);(focus rfl);(focus(intro hk w1 H1;unfold OpOk;go_simp;exact now_sl));intro g12 hg12;refine zp ?_;refine wpH_0 ?_;intro hok wn Hn;(try simp only[yT,yU,yV,yW] at Hn);clear H;have H:=Hn;clear Hn;(try simp only[←hg12]);clear hg12;have ht4:=okT (hok 4 (by decide)) rfl;have ht7:=okT (hok 7 (by decide)) rfl;have ht10:=okT (hok 10 (by decide)) rfl;clear hok;obtain⟨A4,c4,J1,e4,o1,l4⟩:=ht4;simp only[e4,l4,yT,yU,yV] at H ⊢;clear e4 l4;obtain⟨A7,c7,J2,e7,o2,l7⟩:=ht7;simp only[e7,l7,yT,yU,yV] at H ⊢;clear e7 l7;obtain⟨A10,c10,J3,e10,o3,l10⟩:=ht10;simp only[e10,l10,yT,yU,yV] at H ⊢;clear e10 l10;rotate_left;exact lcG
   have HO2:=hY (HI3.out J1 J2 J3 _ _ _ o1 o2 o3)
   clear o1 o2 o3 HI3 c1 c2 c3
   go_wp2_with (first|((with_reducible apply st_appendrb H);(((focus(with_reducible exact dT (dT (dT (dT (dT (dH)))))));rfl));rfl;exact iF;kernel_rfl;rfl;rfl;(focus(omega));clear H;intro vq wn H;obtain⟨Aq,cq,hvq,_,_⟩:=(H.rows .here).slice;subst hvq;refine zp ?_)|(refine zS ?_;clear H;intro wn H))
   go_roundg (n-(i+1))
   case measure=>omega
   case rel=>
    have H2:=(H.sel (M:=[Hl.all J1,Hl.all J2,Hl.all J3,Hl.row 128 3 (.slice Aq (i+1) cq) (i+1) _,Hl.blk b3 55 #[.slice Aq (i+1) cq],Hl.blk b2 55 #[.slice none 0 0],Hl.all N]) sF).join3
    exact⟨i+1,.slice Aq (i+1) cq,_,_,by omega,by go_num,HO2,(H2.reperm ((List.Perm.swap ..).trans (List.Perm.cons _ ((List.Perm.swap ..).trans (List.Perm.cons _ ((List.Perm.swap ..).trans (List.Perm.cons _ (List.Perm.swap ..)))))) )).reperm (List.Perm.refl _) |> fun h=>h.join4⟩
  ·obtain rfl:i=n:=by omega
   have hlt1:=nlt i
   have ho:=HO.out
   rw[(tkl HN)] at ho
   have HO2:=hY ho
   clear ho HO
   go_wp2_with (refine zU ?_;clear H;intro wn H)
   refine bpF ?_
   have H2:=H.sel (M:=[Hl.row 128 3 (.slice A9 i c9) i xs,Hl.all N]) sF
   obtain⟨N2,hN2,H3⟩:=own_close HO2.out H2 HN.out
   exact Hs.retd H3 (List.Sublist.refl _) ⟨_,_,rfl,hN2,rfl⟩
theorem copyMail_s(v:Value)(l:List Bo)(hl:l.length≤1000)(hf:∀b ∈ l,fitsBo b)(w:World)(hr:(Ty.sl 128 tyBo).rd w [v] l):Rets Tryz.prog [] 63 #[.agg #[v]] w (tOne (Ty.sl 128 tyBo) l):=by
 obtain⟨A,c,rfl,hlc,hcm⟩:=sl_form hr
 have HR:=hY hr
 have HFT:=hY hf
 obtain⟨n,hn⟩:=nm l.length
 rw[←hn] at HR hl ⊢
 have HN:=hY hn
 clear hr hf hlc hcm hn
 have H:=Hs.start noRow w
 refine Rets.of ?_
 go_enter Tryz.func63,Tryz.ntmps63
 go_wp2_with ((first|refine zS ?_|(refine zB 1 ?_;intro b1)|(refine zA 2 ?_;intro b2)|(refine zA 3 ?_;intro b3));clear H;intro wn H)
 have Hn:=H.putRow 128 3 none
 clear H
 have H:=Hn
 clear Hn
 go_loopg [4] n (fun m iv wr=>∃(i:Nat) (ov:Value) (xs:List Value) (N:List Hl),i+m=n∧iv = .int .i64 i∧Hid (OwnL tyBo xs (l.take i) N)∧Hs noRow w [Hl.row 128 3 ov i xs,Hl.blk b3 55 #[ov],Hl.blk b2 55 #[.slice none 0 0],Hl.all N,Hl.blk b1 55 #[.slice A n c]] wr)
 case atStart=>exact⟨0,_,[],[],by omega,rfl,hY .nil,((H.sel (M:=[Hl.row 128 3 _ 0 [],Hl.blk b3 55 #[_],Hl.blk b2 55 #[.slice none 0 0],Hl.blk b1 55 #[.slice A n c]]) sF).allNil.reperm ((List.Perm.swap ..).trans (List.Perm.cons _ ((List.Perm.swap ..).trans (List.Perm.cons _ (List.Perm.swap ..))))))⟩
 case round=>
  clear H
  obtain⟨i,ov,xs,N,hi,rfl,HO,H⟩:=hrel
  obtain⟨A9,c9,rfl,hn9,hm9⟩:=(H.rows .here).slice
  by_cases hlt:i<n
  ·obtain ⟨x,b,off,cs,hx,rfl,hv2,hcs,hA⟩:=slE HR HN hlt
   obtain⟨u1,u2,u3,hu,g1,g2,g3⟩:=bo_form hcs
   subst hu
   have hfx:=HFT.out x (List.mem_of_getElem? hx)
   have HI3:Hid (∀J1 J2 J3 k1 k2 k3,(Ty.sl 2 tyNum).own [k1] x.1 J1→(Ty.sl 2 tyNum).own [k2] x.2.1 J2→(Ty.sl 162 tyNt).own [k3] x.2.2 J3→OwnL tyBo (xs ++ [k1,k2,k3]) (l.take (i+1)) (N++(J1++(J2++J3)))):=hY (fun J1 J2 J3 k1 k2 k3 j1 j2 j3=>by
    obtain⟨hlt',e⟩:=List.getElem?_eq_some_iff.1 hx
    rw[List.take_succ_eq_append_getElem hlt',e]
    exact HO.out.snoc ⟨[k1],[k2,k3],_,_,rfl,rfl,j1,[k2],[k3],_,_,rfl,rfl,j2,j3⟩)
   obtain⟨x1,x2,x3⟩:=x
   obtain⟨f1,f2,f3⟩:=hfx
   simp only at g1 g2 g3 f1 f2 f3 HI3
   have c1:=sl_rd g1
   have c2:=sl_rd g2
   have c3:=sl_rd g3
   obtain⟨D1,d1,rfl,_,_⟩:=sl_form g1
   obtain⟨D2,d2,rfl,_,_⟩:=sl_form g2
   obtain⟨D3,d3,rfl,_,_⟩:=sl_form g3
   have hlt1:(i:Int)<n:=by omega
   clear hx hv2 hcs g1 g2 g3 HO
   go_wp2_with ((first|refine zU ?_|(refine zA 5 ?_;intro b5));clear H;intro wn H)
   apply wp_region_hs (K:=[]) (Spec.V _::Spec.V _::Spec.S _ _ _::Spec.V _::Spec.V _::Spec.T _::Spec.S _ _ _::Spec.V _::Spec.V _::Spec.T _::Spec.S _ _ _::Spec.V _::Spec.V _::Spec.T _::Spec.V _::Spec.S _ _ _ :: []) 16 H rfl (by simp) (by kernel_rfl) (by kernel_rfl);intro vs Ls;(iterate 2 (refine zhv ?_));(with_reducible apply wpH_S);(focus rfl);(focus rfl);(focus(intro hk w1 H1;unfold OpOk;go_simp;exact now_sl));intro g2 hg2;refine zp ?_;(iterate 2 (refine zhv ?_));(with_reducible apply wpH_T);(focus rfl);(focus rfl);(focus(intro hk w1 H1;(exact(show OpOk _ _ _ _ _ (tSli (Ty.sl 2 tyNum) x1) from ok_append0 rfl rfl (by kernel_rfl) (c1.later H1.below) f1))));refine zp ?_;(with_reducible apply wpH_S);(focus rfl);(focus rfl);(focus(intro hk w1 H1;unfold OpOk;go_simp;exact now_sl));intro g6 hg6;refine zp ?_;(iterate 2 (refine zhv ?_));(with_reducible apply wpH_T);(focus rfl);(focus rfl);(focus(intro hk w1 H1;(exact(show OpOk _ _ _ _ _ (tSli (Ty.sl 2 tyNum) x2) from ok_append0 rfl rfl (by kernel_rfl) (c2.later H1.below) f2))));refine zp ?_;(with_reducible apply wpH_S);(focus rfl);(focus rfl);(focus(intro hk w1 H1;unfold OpOk;go_simp;exact now_sl));intro g10 hg10;refine zp ?_;(iterate 2 (refine zhv ?_));(with_reducible apply wpH_T);(focus rfl);(focus rfl);(focus(intro hk w1 H1;(exact(show OpOk _ _ _ _ _ (tSli (Ty.sl 162 tyNt) x3) from ok_append0 rfl rfl (by kernel_rfl) (c3.later H1.below) f3))));refine zp ?_;(with_reducible apply wpH_VK);(focus rfl);(focus rfl);(focus(intro hk w1 H1;have q5:=okT (hk 5 (by decide +kernel) (by decide)) rfl;have q9:=okT (hk 9 (by decide +kernel) (by decide)) rfl;have q13:=okT (hk 13 (by decide +kernel) (by decide)) rfl;exact ok_buildBox rfl rfl rfl q5.form q9.form q13.form));refine zp ?_;(with_reducible apply wpH_S);(focus rfl);(focus rfl);(focus(intro hk w1 H1;unfold OpOk;go_simp;exact now_sl));intro g15 hg15;refine zp ?_;refine wpH_0 ?_;intro hok wn Hn;(try simp only[yT,yU,yV,yW] at Hn);clear H;have H:=Hn;clear Hn;(try simp only[←hg2,←hg6,←hg10,←hg15]);clear hg2;clear hg6;clear hg10;clear hg15;have ht5:=okT (hok 5 (by decide)) rfl;have ht9:=okT (hok 9 (by decide)) rfl;have ht13:=okT (hok 13 (by decide)) rfl;clear hok;obtain⟨A4,c4,J1,e5,o1,l5⟩:=ht5;simp only[e5,l5,yT,yU,yV] at H ⊢;clear e5 l5;obtain⟨A7,c7,J2,e9,o2,l9⟩:=ht9;simp only[e9,l9,yT,yU,yV] at H ⊢;clear e9 l9;obtain⟨A10,c10,J3,e13,o3,l13⟩:=ht13;simp only[e13,l13,yT,yU,yV] at H ⊢;clear e13 l13;rotate_left;exact lcG
   have HO2:=hY (HI3.out J1 J2 J3 _ _ _ o1 o2 o3)
   clear o1 o2 o3 HI3 c1 c2 c3 f1 f2 f3
   have Hn:=H.sel (M:=[Hl.row 128 3 (.slice A9 i c9) i xs,Hl.blk b3 55 #[.slice A9 i c9],Hl.blk g15 128 #[.slice A4 x1.length c4,.slice A7 x2.length c7,.slice A10 x3.length c10],Hl.all J1,Hl.all J2,Hl.all J3,Hl.blk b2 55 #[.slice none 0 0],Hl.all N,Hl.blk b1 55 #[.slice (some ⟨b,off,none⟩) n c]]) sF
   clear H
   have H:=Hn
   clear Hn
   go_wp2_with (first|((with_reducible apply st_appendrb H);(((focus(with_reducible exact dH));rfl));rfl;exact iF;kernel_rfl;rfl;rfl;(focus(omega));clear H;intro vq wn H;obtain⟨Aq,cq,hvq,_,_⟩:=(H.rows .here).slice;subst hvq;refine zp ?_)|(refine zS ?_;clear H;intro wn H))
   go_roundg (n-(i+1))
   case measure=>omega
   case rel=>
    have H2:=(H.sel (M:=[Hl.all J1,Hl.all J2,Hl.all J3,Hl.row 128 3 (.slice Aq (i+1) cq) (i+1) _,Hl.blk b3 55 #[.slice Aq (i+1) cq],Hl.blk b2 55 #[.slice none 0 0],Hl.all N,Hl.blk b1 55 #[.slice (some ⟨b,off,none⟩) n c]]) sF).join3
    exact⟨i+1,.slice Aq (i+1) cq,_,_,by omega,by go_num,HO2,(H2.reperm ((List.Perm.swap ..).trans (List.Perm.cons _ ((List.Perm.swap ..).trans (List.Perm.cons _ ((List.Perm.swap ..).trans (List.Perm.cons _ (List.Perm.swap ..)))))) )).reperm (List.Perm.refl _) |> fun h=>h.join4⟩
  ·obtain rfl:i=n:=by omega
   have hlt1:=nlt i
   have ho:=HO.out
   rw[(tkl HN)] at ho
   have HO2:=hY ho
   clear ho HO
   go_wp2_with (refine zU ?_;clear H;intro wn H)
   refine bpF ?_
   have H2:=H.sel (M:=[Hl.row 128 3 (.slice A9 i c9) i xs,Hl.all N]) sF
   obtain⟨N2,hN2,H3⟩:=own_close HO2.out H2 HN.out
   exact Hs.retd H3 (List.Sublist.refl _) ⟨_,_,rfl,hN2,rfl⟩
end Go.Proofs.YtcabgibdkmgdlaaGreat
namespace Go.Proofs.YtcabgibdkmgdlaaGreat
open Go.RowKit M
theorem encPr_onez:∀(a:Pr),∀u ∈ encPr a,u.oneCell'=true:=fun a u hu=>tyPr.one (w:=default) (show tyPr.rd default (encPr a) a from rfl) u hu
theorem clone_Pair(v:Value)(l:List Pr)(hl:l.length≤1000000)(w:World)(hr:(Ty.sl 182 tyPr).rd w [v] l):Rets Tryz.prog [] 217 #[v] w (tSli (Ty.sl 182 tyPr) l):=by
 obtain⟨A,c,rfl,hlc,hcm⟩:=sl_form hr
 have H:=Hs.start noRow w
 have hRd:=sl_rd hr
 have hone:=flat_ones encPr_onez l
 cases A with
 | none=>
  obtain rfl:=rd_none hr
  clear hr hRd hone
  refine Rets.of ?_
  go_enter Tryz.func217,Tryz.ntmps217
  go_wp2_with ((((with_reducible apply st_nil0 H);rfl;rfl;(focus exact Tryz.underlying44)));clear H;intro wn H;refine zp ?_)
  go_ret
  exact ret_flatS (H.putRow 182 5 none) rfl rfl
 | some p=>
  obtain⟨n,hn⟩:=nm l.length
  rw[←hn] at hRd hl ⊢
  have HN:=hY hn
  clear hr hlc hcm hn
  refine Rets.of ?_
  go_enter Tryz.func217,Tryz.ntmps217
  go_wp2_with (first|(refine zI ?_;clear H;intro nb wn H)|((((with_reducible apply st_nil1 H);rfl;rfl;(focus exact Tryz.underlying44)));clear H;intro wn H;refine zp ?_)|(have Hn:=H.putRow 182 5 (some ⟨nb,0,none⟩);(with_reducible apply st_appendr Hn);(focus(with_reducible exact dH));rfl;rfl;kernel_rfl;(focus exact(hRd.later H.below));exact hone;(focus omega);clear Hn;clear H;intro vq wn H;refine zp ?_))
  go_ret
  exact ret_flatS H (by rw[List.nil_append]) (by rw[Nat.zero_add];exact HN.out)
theorem encQt_onez:∀(a:Qt),∀u ∈ encQt a,u.oneCell'=true:=fun a u hu=>tyQt.one (w:=default) (show tyQt.rd default (encQt a) a from rfl) u hu
theorem clone_Quota(v:Value)(l:List Qt)(hl:l.length≤1000000)(w:World)(hr:(Ty.sl 279 tyQt).rd w [v] l):Rets Tryz.prog [] 218 #[v] w (tSli (Ty.sl 279 tyQt) l):=by
 obtain⟨A,c,rfl,hlc,hcm⟩:=sl_form hr
 have H:=Hs.start noRow w
 have hRd:=sl_rd hr
 have hone:=flat_ones encQt_onez l
 cases A with
 | none=>
  obtain rfl:=rd_none hr
  clear hr hRd hone
  refine Rets.of ?_
  go_enter Tryz.func218,Tryz.ntmps218
  go_wp2_with ((((with_reducible apply st_nil0 H);rfl;rfl;(focus exact Tryz.underlying45)));clear H;intro wn H;refine zp ?_)
  go_ret
  exact ret_flatS (H.putRow 279 3 none) rfl rfl
 | some p=>
  obtain⟨n,hn⟩:=nm l.length
  rw[←hn] at hRd hl ⊢
  have HN:=hY hn
  clear hr hlc hcm hn
  refine Rets.of ?_
  go_enter Tryz.func218,Tryz.ntmps218
  go_wp2_with (first|(refine zI ?_;clear H;intro nb wn H)|((((with_reducible apply st_nil1 H);rfl;rfl;(focus exact Tryz.underlying45)));clear H;intro wn H;refine zp ?_)|(have Hn:=H.putRow 279 3 (some ⟨nb,0,none⟩);(with_reducible apply st_appendr Hn);(focus(with_reducible exact dH));rfl;rfl;kernel_rfl;(focus exact(hRd.later H.below));exact hone;(focus omega);clear Hn;clear H;intro vq wn H;refine zp ?_))
  go_ret
  exact ret_flatS H (by rw[List.nil_append]) (by rw[Nat.zero_add];exact HN.out)
theorem encLab_onez:∀(a:Lab),∀u ∈ encLab a,u.oneCell'=true:=fun a u hu=>tyLab.one (w:=default) (show tyLab.rd default (encLab a) a from rfl) u hu
theorem clone_Label(v:Value)(l:List Lab)(hl:l.length≤1000000)(w:World)(hr:(Ty.sl 123 tyLab).rd w [v] l):Rets Tryz.prog [] 304 #[v] w (tSli (Ty.sl 123 tyLab) l):=by
 obtain⟨A,c,rfl,hlc,hcm⟩:=sl_form hr
 have H:=Hs.start noRow w
 have hRd:=sl_rd hr
 have hone:=flat_ones encLab_onez l
 cases A with
 | none=>
  obtain rfl:=rd_none hr
  clear hr hRd hone
  refine Rets.of ?_
  go_enter Tryz.func304,Tryz.ntmps304
  go_wp2_with ((((with_reducible apply st_nil0 H);rfl;rfl;(focus exact Tryz.underlying118)));clear H;intro wn H;refine zp ?_)
  go_ret
  exact ret_flatS (H.putRow 123 2 none) rfl rfl
 | some p=>
  obtain⟨n,hn⟩:=nm l.length
  rw[←hn] at hRd hl ⊢
  have HN:=hY hn
  clear hr hlc hcm hn
  refine Rets.of ?_
  go_enter Tryz.func304,Tryz.ntmps304
  go_wp2_with (first|(refine zI ?_;clear H;intro nb wn H)|((((with_reducible apply st_nil1 H);rfl;rfl;(focus exact Tryz.underlying118)));clear H;intro wn H;refine zp ?_)|(have Hn:=H.putRow 123 2 (some ⟨nb,0,none⟩);(with_reducible apply st_appendr Hn);(focus(with_reducible exact dH));rfl;rfl;kernel_rfl;(focus exact(hRd.later H.below));exact hone;(focus omega);clear Hn;clear H;intro vq wn H;refine zp ?_))
  go_ret
  exact ret_flatS H (by rw[List.nil_append]) (by rw[Nat.zero_add];exact HN.out)
namespace M
end M
theorem ret_slS{α:Type}{T:Ty α}{E:TypeId}{w w':World}{v:Value}{xs:List Value}{l:List α}{N L:List Hl}{n s:Nat}(H:Hs noRow w (Hl.row E s v n xs::Hl.all N::L) w')(h:OwnL T xs l N)(hn:n=l.length)(hs:s=T.s:=by rfl):
  RPost [] w (tSli (Ty.sl E T) l) (.returned v) w':=by
 obtain⟨A,c,e,_,_⟩:=(H.rows .here).slice
 subst e
 obtain⟨N2,hN,H3⟩:=own_close h H hn hs
 subst hn
 exact Hs.retd H3 (List.Sublist.cons_cons _ (List.nil_sublist _)) ⟨A,c,N2,rfl,hN,rfl⟩
theorem ok_buildCfg{K:List Hl}{a:Act}{w:World}{dst:Option Tmp}{ty:TypeId}{pos:String}{aft:Array Edge}{g:Option (Nat × Bool)}{x y z u:Nat}{v1 v2 v3:Value}{k:Int}
  (hx:a.eval (.tmp x)=v1) (hy:a.eval (.tmp y)=v2) (hz:a.eval (.tmp z)=v3) (hu:a.eval (.tmp u) = .int .i64 k) (h1:∃A n c,v1 = .slice A n c) (h2:∃A n c,v2 = .slice A n c) (h3:∃A n c,v3 = .slice A n c) :
  OpOk Tryz.prog K ⟨dst,.build 47 #[(0,.tmp x),(1,.tmp y),(2,.tmp z),(3,.tmp u)],ty,pos,aft,g⟩ a w (tV (.agg #[v1,v2,v3,.int .i64 k])):=by
 obtain⟨A1,n1,c1,rfl⟩:=h1
 obtain⟨A2,n2,c2,rfl⟩:=h2
 obtain⟨A3,n3,c3,rfl⟩:=h3
 have hx2:a.tmps[x]?.getD undef = .slice A1 n1 c1:=by rw[←hx];simp[Act.eval]
 have hy2:a.tmps[y]?.getD undef = .slice A2 n2 c2:=by rw[←hy];simp[Act.eval]
 have hz2:a.tmps[z]?.getD undef = .slice A3 n3 c3:=by rw[←hz];simp[Act.eval]
 have hu2:a.tmps[u]?.getD undef = .int .i64 k:=by rw[←hu];simp[Act.eval]
 unfold OpOk execOp
 go_simp
 (try simp only[hx2,hy2,hz2,hu2])
 (try go_simp)
 exact now_v
theorem ok_bsl1{K:List Hl}{a:Act}{w:World}{dst:Option Tmp}{ty:TypeId}{pos:String}{aft:Array Edge}{g:Option (Nat × Bool)}{x:Nat}{v:Value}
  (hx:a.eval (.tmp x)=v) (h1:∃A n c,v = .slice A n c) :
  OpOk Tryz.prog K ⟨dst,.buildSlice 43 1 #[(0,.tmp x)],ty,pos,aft,g⟩ a w (tSl 118 1 #[v]):=by
 obtain⟨A,n,c,rfl⟩:=h1
 have hx2:a.tmps[x]?.getD undef = .slice A n c:=by rw[←hx];simp[Act.eval]
 unfold OpOk execOp
 go_simp
 (try simp only[hx2])
 (try go_simp)
 exact now_sl
theorem copyClear_i(v:Value)(l:List (List Lab))(hl:l.length≤1000)(hf:∀x ∈ l,x.length≤1000000)(w:World)(hr:(Ty.sl 118 (Ty.sl 123 tyLab)).rd w [v] l):Rets Tryz.prog [] 216 #[v] w (tSli (Ty.sl 118 (Ty.sl 123 tyLab)) l):=by
 obtain⟨A,c,rfl,hlc,hcm⟩:=sl_form hr
 have HR:=hY hr
 have HFT:=hY hf
 obtain⟨n,hn⟩:=nm l.length
 rw[←hn] at HR hl ⊢
 have HN:=hY hn
 clear hr hf hlc hcm hn
 have H:=Hs.start noRow w
 refine Rets.of ?_
 go_enter Tryz.func216,Tryz.ntmps216
 go_wp2_with (refine zI ?_;clear H;intro nb wn H)
 have Hn:=H.putRow 118 1 (some ⟨nb,0,none⟩)
 clear H
 have H:=Hn
 clear Hn
 go_loopg [3,9] n (fun m sv iv wr=>∃(i:Nat) (ov:Value) (xs:List Value) (N:List Hl),i+m=n∧iv = .int .i64 i∧sv=ov∧Hid (OwnL (Ty.sl 123 tyLab) xs (l.take i) N)∧Hs noRow w [Hl.row 118 1 ov i xs,Hl.all N] wr)
 case atStart=>exact⟨0,_,[],[],by omega,rfl,rfl,hY .nil,(H.sel (M:=[Hl.row 118 1 _ 0 []]) sF).allNil.reperm (List.Perm.swap ..)⟩
 case round=>
  clear H
  obtain⟨i,ov,xs,N,hi,rfl,rfl,HO,H⟩:=hrel
  obtain⟨A9,c9,rfl,hn9,hm9⟩:=(H.rows .here).slice
  by_cases hlt:i<n
  ·obtain ⟨x,b,off,cs,hx,rfl,hv2,hcs,hA⟩:=slE HR HN hlt
   obtain⟨u,hu⟩:∃u,cs = [u]:=by obtain⟨u,_,rfl,_⟩:=hcs;exact⟨u,rfl⟩
   subst hu
   have hfx:=HFT.out x (List.mem_of_getElem? hx)
   have c1:=fun w1 hb=>clone_Label u x hfx w1 (Ty.below _ hcs hb)
   obtain⟨E1,e3,rfl,_,_⟩:=sl_form hcs
   have h0:w.cell? ⟨b,off+i,none⟩=some (.slice E1 x.length e3):=by have h:=hA.head (u := .slice E1 x.length e3) rfl;rw[show i*Ty.s _=i from Nat.mul_one i] at h;exact h
   have HI3:Hid (∀J k,(Ty.sl 123 tyLab).own [k] x J→OwnL (Ty.sl 123 tyLab) (xs ++ [k]) (l.take (i+1)) (N++J)):=hY (fun J k j=>by
    obtain⟨hlt',e⟩:=List.getElem?_eq_some_iff.1 hx
    rw[List.take_succ_eq_append_getElem hlt',e]
    exact HO.out.snoc j)
   have hlt1:(i:Int)<n:=by omega
   clear hx hv2 hcs hA hfx HO
   go_wp2_with (refine zL ?_;clear H;intro wn H)
   refine(Rets.use (c1 _ H.below)).mono ?_;rintro e wn ⟨_,_,rfl,⟨A4,c4,J1,rfl,o1,rfl⟩,hkk⟩;refine zK ?_;clear H hkk;intro H
   have HO2:=hY (HI3.out J1 _ o1)
   clear o1 HI3 c1
   go_wp2_with (first|((with_reducible apply st_appendrb H);(((focus(with_reducible exact dT (dT (dH))));rfl));rfl;exact iF;kernel_rfl;rfl;rfl;(focus(omega));clear H;intro vq wn H;obtain⟨Aq,cq,hvq,_,_⟩:=(H.rows .here).slice;subst hvq;refine zp ?_)|(refine zI ?_;clear H;intro nb wn H))
   go_roundg (n-(i+1))
   case measure=>omega
   case rel=>exact⟨i+1,.slice Aq (i+1) cq,_,_,by omega,by go_num,rfl,HO2,(Hs.join (H.sel (M:=[Hl.all N,Hl.all J1,Hl.row 118 1 (.slice Aq (i+1) cq) (i+1) _]) sF)).reperm (List.Perm.swap ..)⟩
  ·obtain rfl:i=n:=by omega
   have hlt1:=nlt i
   have ho:=HO.out
   rw[(tkl HN)] at ho
   go_wp2_with (fail)
   go_ret
   exact ret_slS H ho HN.out
theorem copyConfig_i(a:Cfg)(cs:List Value)(hf:fitsCfg a)(w:World)(hr:tyCfg.rd w cs a):Rets Tryz.prog [] 143 #[.agg cs.toArray] w (tAgg tyCfg a):=by
 obtain⟨v1,v2,v3,rfl,h1,h2,h3⟩:=cfg_form hr
 obtain⟨nd,pr,qt,hfv⟩:=a
 obtain⟨f1,f2,f3,f4⟩:=hf
 simp only at h1 h2 h3 f1 f2 f3 f4
 have c1:=fun w1 hb=>copyClear_i v1 nd f1 f2 w1 (Ty.below _ h1 hb)
 have c2:=fun w1 hb=>clone_Pair v2 pr f3 w1 (Ty.below _ h2 hb)
 have c3:=fun w1 hb=>clone_Quota v3 qt f4 w1 (Ty.below _ h3 hb)
 show Rets Tryz.prog [] _ #[.agg #[v1,v2,v3,.int .i64 hfv]] w _
 obtain⟨D1,d1,rfl,_,_⟩:=sl_form h1
 obtain⟨D2,d2,rfl,_,_⟩:=sl_form h2
 obtain⟨D3,d3,rfl,_,_⟩:=sl_form h3
 clear hr h1 h2 h3 f1 f2 f3 f4
 have H:=Hs.start noRow w
 refine Rets.of ?_
 go_enter Tryz.func143,Tryz.ntmps143
 go_wp2_with ((first|(refine zB 1 ?_;intro b1)|(refine zA 2 ?_;intro b2));clear H;intro wn H)
 apply wp_region_hs (K:=[]) (Spec.V _::Spec.V _::Spec.T _::Spec.V _::Spec.V _::Spec.T _::Spec.V _::Spec.V _::Spec.T _::Spec.V _::Spec.V _::Spec.V _ :: []) 12 H rfl (by simp) (by kernel_rfl) (by kernel_rfl);intro vs Ls;(iterate 2 (refine zhv ?_));(with_reducible apply wpH_T);(focus rfl);(focus rfl);(focus(intro hk w1 H1;unfold OpOk;go_simp;exact now_call (c1 _ H1.below)));refine zp ?_;(iterate 2 (refine zhv ?_));(with_reducible apply wpH_T);(focus rfl);(focus rfl);(focus(intro hk w1 H1;unfold OpOk;go_simp;exact now_call (c2 _ H1.below)));refine zp ?_;(iterate 2 (refine zhv ?_));(with_reducible apply wpH_T);(focus rfl);(focus rfl);(focus(intro hk w1 H1;unfold OpOk;go_simp;exact now_call (c3 _ H1.below)));refine zp ?_;(iterate 2 (refine zhv ?_));(with_reducible apply wpH_VK);(focus rfl);(focus rfl);(focus(intro hk w1 H1;have q2:=okT (hk 2 (by decide +kernel) (by decide)) rfl;have q5:=okT (hk 5 (by decide +kernel) (by decide)) rfl;have q8:=okT (hk 8 (by decide +kernel) (by decide)) rfl;exact ok_buildCfg rfl rfl rfl rfl q2.form q5.form q8.form));refine zp ?_;refine wpH_0 ?_;intro hok wn Hn;(try simp only[yT,yU,yV,yW] at Hn);clear H;have H:=Hn;clear Hn;have ht2:=okT (hok 2 (by decide)) rfl;have ht5:=okT (hok 5 (by decide)) rfl;have ht8:=okT (hok 8 (by decide)) rfl;clear hok;obtain⟨A4,c4,J1,e2,o1,l2⟩:=ht2;simp only[e2,l2,yT,yU,yV] at H ⊢;clear e2 l2;obtain⟨A7,c7,J2,e5,o2,l5⟩:=ht5;simp only[e5,l5,yT,yU,yV] at H ⊢;clear e5 l5;obtain⟨A10,c10,J3,e8,o3,l8⟩:=ht8;simp only[e8,l8,yT,yU,yV] at H ⊢;clear e8 l8;rotate_left;exact lcG
 clear c1 c2 c3
 go_wp2_with (refine zS ?_;clear H;intro wn H)
 refine bpF ?_
 have H2:=H.sel (M:=[Hl.all J1,Hl.all J2,Hl.all J3]) sF
 rw[←List.append_nil J3] at H2
 exact Hs.retd H2.join3 (List.Sublist.refl _) ⟨[_,_,_,_],_,rfl,⟨[_],[_,_,_],_,_,rfl,rfl,o1,[_],[_,_],_,_,rfl,rfl,o2,[_],[_],_,_,rfl,rfl,o3,rfl,rfl⟩,rfl⟩
theorem copyConfig_s(a:Cfg)(cs:List Value)(hf:fitsCfg a)(w:World)(hr:tyCfg.rd w cs a):Rets Tryz.prog [] 113 #[.agg cs.toArray] w (tAgg tyCfg a):=by
 obtain⟨v1,v2,v3,rfl,h1,h2,h3⟩:=cfg_form hr
 obtain⟨l,pr,qt,hfv⟩:=a
 obtain⟨f1,f2,f3,f4⟩:=hf
 simp only at h1 h2 h3 f1 f2 f3 f4
 show Rets Tryz.prog [] _ #[.agg #[v1,v2,v3,.int .i64 hfv]] w _
 have hRP:=sl_rd h2
 have hRQ:=sl_rd h3
 have hP1:=flat_ones encPr_onez pr
 have hQ1:=flat_ones encQt_onez qt
 obtain⟨A,c,rfl,hlc,hcm⟩:=sl_form h1
 obtain⟨D2,d2,rfl,_,_⟩:=sl_form h2
 obtain⟨D3,d3,rfl,_,_⟩:=sl_form h3
 have HR:=hY h1
 have HFT:=hY f2
 obtain⟨n,hn⟩:=nm l.length
 rw[←hn] at HR f1 ⊢
 have HN:=hY hn
 clear hr h1 h2 h3 f2 hlc hcm hn
 have H:=Hs.start noRow w
 refine Rets.of ?_
 go_enter Tryz.func113,Tryz.ntmps113
 go_wp2_with ((first|refine zU ?_|(refine zB 1 ?_;intro b1)|(refine zA 2 ?_;intro b2)|(refine zA 3 ?_;intro b3));clear H;intro wn H)
 have Hn:=H.putRow 118 1 none
 clear H
 have H:=Hn
 clear Hn
 go_loopg [4] n (fun m iv wr=>∃(i:Nat) (ov:Value) (xs:List Value) (N:List Hl),i+m=n∧iv = .int .i64 i∧Hid (OwnL (Ty.sl 123 tyLab) xs (l.take i) N)∧Hs noRow w [Hl.row 118 1 ov i xs,Hl.blk b3 47 #[ov,.slice none 0 0,.slice none 0 0,.int .i64 hfv],Hl.blk b2 47 #[.slice none 0 0,.slice none 0 0,.slice none 0 0,.int .i64 0],Hl.all N,Hl.blk b1 47 #[.slice A n c,.slice D2 pr.length d2,.slice D3 qt.length d3,.int .i64 hfv]] wr)
 case atStart=>exact⟨0,_,[],[],by omega,rfl,hY .nil,((H.sel (M:=[Hl.row 118 1 _ 0 [],Hl.blk b3 47 _,Hl.blk b2 47 _,Hl.blk b1 47 _]) sF).allNil.reperm ((List.Perm.swap ..).trans (List.Perm.cons _ ((List.Perm.swap ..).trans (List.Perm.cons _ (List.Perm.swap ..))))))⟩
 case round=>
  clear H
  obtain⟨i,ov,xs,N,hi,rfl,HO,H⟩:=hrel
  obtain⟨A9,c9,rfl,hn9,hm9⟩:=(H.rows .here).slice
  by_cases hlt:i<n
  ·obtain ⟨x,b,off,cs,hx,rfl,hv2,hcs,hA⟩:=slE HR HN hlt
   obtain⟨u,hu⟩:∃u,cs = [u]:=by obtain⟨u,_,rfl,_⟩:=hcs;exact⟨u,rfl⟩
   subst hu
   have hfx:=HFT.out x (List.mem_of_getElem? hx)
   have c1:=sl_rd hcs
   obtain⟨E1,e3,rfl,_,_⟩:=sl_form hcs
   have h0:w.cell? ⟨b,off+i,none⟩=some (.slice E1 x.length e3):=by have h:=hA.head (u := .slice E1 x.length e3) rfl;rw[show i*Ty.s _=i from Nat.mul_one i] at h;exact h
   have HI3:Hid (∀J k,(Ty.sl 123 tyLab).own [k] x J→OwnL (Ty.sl 123 tyLab) (xs ++ [k]) (l.take (i+1)) (N++J)):=hY (fun J k j=>by
    obtain⟨hlt',e⟩:=List.getElem?_eq_some_iff.1 hx
    rw[List.take_succ_eq_append_getElem hlt',e]
    exact HO.out.snoc j)
   have hlt1:(i:Int)<n:=by omega
   clear hx hv2 hcs hA HO
   go_wp2_with (refine zL ?_;clear H;intro wn H)
   apply wp_region_hs (K:=[]) (Spec.V _::Spec.V _::Spec.S _ _ _::Spec.V _::Spec.V _::Spec.V _::Spec.V _::Spec.V _::Spec.T _::Spec.S _ _ _ :: []) 10 H rfl (by simp) (by kernel_rfl) (by kernel_rfl);intro vs Ls;(iterate 2 (refine zhv ?_));(with_reducible apply wpH_S);(focus rfl);(focus rfl);(focus(intro hk w1 H1;unfold OpOk;go_simp;exact now_sl));intro g2 hg2;refine zp ?_;(iterate 5 (refine zhv ?_));(with_reducible apply wpH_T);(focus rfl);(focus rfl);(focus(intro hk w1 H1;(exact(show OpOk _ _ _ _ _ (tSli (Ty.sl 123 tyLab) x) from ok_append0 rfl rfl (by kernel_rfl) (c1.later H1.below) hfx))));refine zp ?_;(with_reducible apply wpH_S);(focus rfl);(focus rfl);(focus(intro hk w1 H1;have q8:=okT (hk 8 (by decide +kernel) (by decide)) rfl;exact ok_bsl1 rfl q8.form));intro g9 hg9;refine zp ?_;refine wpH_0 ?_;intro hok wn Hn;(try simp only[yT,yU,yV,yW] at Hn);clear H;have H:=Hn;clear Hn;(try simp only[←hg2,←hg9]);clear hg2;clear hg9;have ht8:=okT (hok 8 (by decide)) rfl;clear hok;obtain⟨A4,c4,J1,e8,o1,l8⟩:=ht8;simp only[e8,l8,yT,yU,yV] at H ⊢;clear e8 l8;rotate_left;exact lcG
   have HO2:=hY (HI3.out J1 _ o1)
   clear o1 HI3 c1 hfx
   have Hn:=H.sel (M:=[Hl.row 118 1 (.slice A9 i c9) i xs,Hl.blk b3 47 #[.slice A9 i c9,.slice none 0 0,.slice none 0 0,.int .i64 hfv],Hl.blk g9 118 #[.slice A4 x.length c4],Hl.all J1,Hl.blk b2 47 #[.slice none 0 0,.slice none 0 0,.slice none 0 0,.int .i64 0],Hl.all N,Hl.blk b1 47 #[.slice (some ⟨b,off,none⟩) n c,.slice D2 pr.length d2,.slice D3 qt.length d3,.int .i64 hfv]]) sF
   clear H
   have H:=Hn
   clear Hn
   go_wp2_with (first|((with_reducible apply st_appendrb H);(((focus(with_reducible exact dH));rfl));rfl;exact iF;kernel_rfl;rfl;rfl;(focus(omega));clear H;intro vq wn H;obtain⟨Aq,cq,hvq,_,_⟩:=(H.rows .here).slice;subst hvq;refine zp ?_)|(refine zS ?_;clear H;intro wn H))
   go_roundg (n-(i+1))
   case measure=>omega
   case rel=>
    have H2:=(H.sel (M:=[Hl.all N,Hl.all J1,Hl.row 118 1 (.slice Aq (i+1) cq) (i+1) _,Hl.blk b3 47 #[.slice Aq (i+1) cq,.slice none 0 0,.slice none 0 0,.int .i64 hfv],Hl.blk b2 47 #[.slice none 0 0,.slice none 0 0,.slice none 0 0,.int .i64 0],Hl.blk b1 47 #[.slice (some ⟨b,off,none⟩) n c,.slice D2 pr.length d2,.slice D3 qt.length d3,.int .i64 hfv]]) sF).join
    exact⟨i+1,.slice Aq (i+1) cq,_,_,by omega,by go_num,HO2,H2.reperm ((List.Perm.swap ..).trans (List.Perm.cons _ ((List.Perm.swap ..).trans (List.Perm.cons _ (List.Perm.swap ..)))))⟩
  ·obtain rfl:i=n:=by omega
   have hlt1:=nlt i
   have ho:=HO.out
   rw[(tkl HN)] at ho
   have HO2:=hY ho
   clear ho HO
   go_wp2_with (first|(refine zU ?_;clear H;intro wn H)|(have Hn:=H.putRow 182 5 none;(with_reducible apply st_appendr Hn);(focus(with_reducible exact dH));rfl;rfl;kernel_rfl;(focus exact(hRP.later H.below));exact hP1;(focus omega);clear Hn;clear H;intro vq wn H;obtain⟨Ap,cp,hvq,_,_⟩:=(H.rows .here).slice;subst hvq;refine zp ?_)|(have Hn:=H.putRow 279 3 none;(with_reducible apply st_appendr Hn);(focus(with_reducible exact dH));rfl;rfl;kernel_rfl;(focus exact(hRQ.later H.below));exact hQ1;(focus omega);clear Hn;clear H;intro vq wn H;obtain⟨Aw,cw,hvq,_,_⟩:=(H.rows .here).slice;subst hvq;refine zp ?_))
   refine bpF ?_
   simp only[Nat.zero_add] at H ⊢
   have H2:=H.sel (M:=[Hl.row 118 1 (.slice A9 i c9) i xs,Hl.all N,Hl.row 182 5 (.slice Ap pr.length cp) pr.length (flat encPr pr),Hl.row 279 3 (.slice Aw qt.length cw) qt.length (flat encQt qt)]) sF
   obtain⟨N2,hN2,H3⟩:=own_close HO2.out H2 HN.out
   have H5:=Hs.pack (M:=[Hl.row 182 5 (.slice Ap pr.length cp) pr.length (flat encPr pr)]) H3.up1
   have H7:=Hs.pack (M:=[Hl.row 279 3 (.slice Aw qt.length cw) qt.length (flat encQt qt)]) H5.up2
   have H9:=Hs.joinL [N2,[Hl.row 182 5 (.slice Ap pr.length cp) pr.length (flat encPr pr)],[Hl.row 279 3 (.slice Aw qt.length cw) qt.length (flat encQt qt)]] (L:=[]) H7.up1.up2
   exact Hs.retd H9 (List.Sublist.refl _) ⟨[_,_,_,_],_,rfl,⟨[_],[_,_,_],_,_,rfl,rfl,hN2,[_],[_,_],_,_,rfl,rfl,⟨_,flat encPr pr,[],rfl,ownL_flat pr,rfl,rfl⟩,[_],[_],_,_,rfl,rfl,⟨_,flat encQt qt,[],rfl,ownL_flat qt,rfl,rfl⟩,rfl,rfl⟩,rfl⟩
