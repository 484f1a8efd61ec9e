import Derived.Test.YtcabgibdkmgdlaaGreatJG
import Derived.Deep.DeepCutAuto
set_option linter.unusedSimpArgs false
set_option linter.unusedVariables false
set_option maxRecDepth 100000
set_option maxHeartbeats 16000000
namespace Go.Proofs.YtcabgibdkmgdlaaGreat
open Go.RowKit M
theorem z9d(p:Int)(w:World):Gives Tryz.prog 29 #[.int .i64 p] w (.bool (isIn p (-1) 1000000)):=by
 unfold Gives
 have H:=Hs.start noRow w
 go_enter Tryz.func29,Tryz.ntmps29
 go_wp2_with (((go_at_call 71;refine gvF (within_i _ _ _ _) H ?_));clear H;intro wn H)
 go_ret
 exact⟨rfl,H.below⟩
theorem z9f(p:Int)(w:World):Gives Tryz.prog 16 #[.int .i64 p] w (.bool (isIn p (-1) 1000000)):=by
 unfold Gives
 have H:=Hs.start noRow w
 go_enter Tryz.func16,Tryz.ntmps16
 go_wp2_with (((go_at_call 50;refine gvF (is_s _ _ _ _) H ?_));clear H;intro wn H)
 go_ret
 exact⟨rfl,H.below⟩
structure SAt (f:Value→Nat→Value):Prop where
 a0:∀a0 a1 a2 a3 a4 a5 a6 a7 a8,f (.agg #[a0,a1,a2,a3,a4,a5,a6,a7,a8]) 0=a0
 a1:∀a0 a1 a2 a3 a4 a5 a6 a7 a8,f (.agg #[a0,a1,a2,a3,a4,a5,a6,a7,a8]) 1=a1
 a2:∀a0 a1 a2 a3 a4 a5 a6 a7 a8,f (.agg #[a0,a1,a2,a3,a4,a5,a6,a7,a8]) 2=a2
 a3:∀a0 a1 a2 a3 a4 a5 a6 a7 a8,f (.agg #[a0,a1,a2,a3,a4,a5,a6,a7,a8]) 3=a3
 a4:∀a0 a1 a2 a3 a4 a5 a6 a7 a8,f (.agg #[a0,a1,a2,a3,a4,a5,a6,a7,a8]) 4=a4
 a5:∀a0 a1 a2 a3 a4 a5 a6 a7 a8,f (.agg #[a0,a1,a2,a3,a4,a5,a6,a7,a8]) 5=a5
 a6:∀a0 a1 a2 a3 a4 a5 a6 a7 a8,f (.agg #[a0,a1,a2,a3,a4,a5,a6,a7,a8]) 6=a6
 a7:∀a0 a1 a2 a3 a4 a5 a6 a7 a8,f (.agg #[a0,a1,a2,a3,a4,a5,a6,a7,a8]) 7=a7
 a8:∀a0 a1 a2 a3 a4 a5 a6 a7 a8,f (.agg #[a0,a1,a2,a3,a4,a5,a6,a7,a8]) 8=a8
 d0:∀a0 a1,f (.agg #[a0,a1]) 0=a0
 d1:∀a0 a1,f (.agg #[a0,a1]) 1=a1
theorem z8i:∃f,SAt f:=⟨fun v i=>(v.cells.toList[i]?).getD undef,fun _ _ _ _ _ _ _ _ _=>rfl,fun _ _ _ _ _ _ _ _ _=>rfl,fun _ _ _ _ _ _ _ _ _=>rfl,fun _ _ _ _ _ _ _ _ _=>rfl,fun _ _ _ _ _ _ _ _ _=>rfl,fun _ _ _ _ _ _ _ _ _=>rfl,fun _ _ _ _ _ _ _ _ _=>rfl,fun _ _ _ _ _ _ _ _ _=>rfl,fun _ _ _ _ _ _ _ _ _=>rfl,fun _ _=>rfl,fun _ _=>rfl⟩
section
variable {K:List Hl} {a:Act} {w:World} {dst:Option Tmp} {ty:TypeId} {pos:String} {aft:Array Edge} {g:Option (Nat × Bool)} {x y z:Nat} {v1 v2 a0 a1 a2 a3 a4 a5 a6 a7 a8 a9 a10 a11:Value}
theorem z1t{cAt:Value→Nat→Value}{q:Int}(F:SAt cAt)(hx:a.eval (.tmp x)=v1)(hy:a.eval (.tmp y)=v2)(hz:a.eval (.tmp z) = .int .i64 q)
  (h1:∃A1 n1 k1 A2 n2 k2 A3 n3 k3 A4 n4 k4 A5 n5 k5 A6 n6 k6 A7 n7 k7 q q',v1 = .agg #[.slice A1 n1 k1,.slice A2 n2 k2,.slice A3 n3 k3,.int .i64 q,.slice A4 n4 k4,.slice A5 n5 k5,.slice A6 n6 k6,.int .i64 q',.slice A7 n7 k7]) (h2:∃A n k q,v2 = .agg #[.slice A n k,.int .i64 q]) :
  OpOk Tryz.prog K ⟨dst,.build 62 #[(0,.tmp x),(1,.tmp y),(2,.tmp z)],ty,pos,aft,g⟩ a w (tV (.agg #[cAt v1 0,cAt v1 1,cAt v1 2,cAt v1 3,cAt v1 4,cAt v1 5,cAt v1 6,cAt v1 7,cAt v1 8,cAt v2 0,cAt v2 1,.int .i64 q])):=by
 obtain⟨A1,n1,k1,A2,n2,k2,A3,n3,k3,A4,n4,k4,A5,n5,k5,A6,n6,k6,A7,n7,k7,q1,q2,rfl⟩:=h1
 obtain⟨A,n,k,q3,rfl⟩:=h2
 rw[F.a0,F.a1,F.a2,F.a3,F.a4,F.a5,F.a6,F.a7,F.a8,F.d0,F.d1]
 have hx2:a.tmps[x]?.getD undef = .agg #[.slice A1 n1 k1,.slice A2 n2 k2,.slice A3 n3 k3,.int .i64 q1,.slice A4 n4 k4,.slice A5 n5 k5,.slice A6 n6 k6,.int .i64 q2,.slice A7 n7 k7]:=by rw[←hx];simp[Act.eval]
 have hy2:a.tmps[y]?.getD undef = .agg #[.slice A n k,.int .i64 q3]:=by rw[←hy];simp[Act.eval]
 have hz2:a.tmps[z]?.getD undef = .int .i64 q:=by rw[←hz];simp[Act.eval]
 unfold OpOk execOp
 go_simp
 (try simp only[hx2,hy2,hz2])
 (try go_simp)
 exact now_v
theorem z2p{t:ByteArray}(hx:a.eval (.tmp x) = .agg #[a0,a1,a2,a3,a4,a5,a6,a7,a8,a9,a10,a11]):
  OpOk Tryz.prog K ⟨dst,.build 64 #[(0,.tmp x),(1,.const (.string t))],ty,pos,aft,g⟩ a w (tV (.agg #[a0,a1,a2,a3,a4,a5,a6,a7,a8,a9,a10,a11,.string t,.int .i64 0])):=by
 have hx2:a.tmps[x]?.getD undef = .agg #[a0,a1,a2,a3,a4,a5,a6,a7,a8,a9,a10,a11]:=by rw[←hx];simp[Act.eval]
 unfold OpOk execOp
 go_simp
 (try simp only[hx2])
 (try go_simp)
 exact now_v
end
theorem z7q{P:Program}{R:Nat→Prop}{w0 w:World}{L:List Hl}{a:Act}{ops:Array Oper}{Q:Exit→Act→World→Prop}{rest:List Oper}{dst:Option Tmp}{T ty:TypeId}{x:Operand}{pos:String}{aft:Array Edge}{i:Nat}{v:Value}(H:Hs R w0 L w)
  (h:OpOk P [] ⟨dst,.field T x i,ty,pos,aft,none⟩ a w (tV v)) (k:∀w',Hs R w0 L w'→wpList P ops Q rest (a.put dst v) w'):wpList P ops Q (⟨dst,.field T x i,ty,pos,aft,none⟩::rest) a w:=st_v H rfl h k
theorem z7u(a b c:Value)(w:World):(Instr.field 88 (.agg #[a,b,c]) 0).run Tryz.prog w = .ok (.agg #[a,b]) w:=by kernel_rfl
theorem z2q{a:Ho}(h:z0b a.1=true)(hb:∀b ∈ a.1.2,bdBo b):z7d a.1:=by
 have hf:=z2g h hb
 have hc:=cfg_fits (z0k h)
 have h1:=hf.nodes
 have h2:=hf.tasks
 have h3:=hf.uses
 have h4:=hf.boxes
 have h5:=hf.pairs
 refine⟨⟨hc.1,⟨by omega,fun x hx=>?_⟩,⟨by omega,fun x hx=>?_⟩,by omega⟩,by omega,fun b hb=>?_⟩
 ·have:=(z1r (hf.node x hx)).2.1
  omega
 ·obtain ⟨⟨⟨l1,l2⟩,id,ow,need,long,prio,⟨u1,u2⟩,aft,born,st,start⟩,nodes⟩:=x
  have:=(z1s (hf.task _ hx)).2.2.2.1
  show nodes.length≤_
  omega
 ·have:=(hf.box b hb).2
  exact⟨by omega,by omega,by omega⟩
theorem z3m{w w':World}{L:List Hl}{a:Ho}{rs:List Rg}{A:Option Addr}{n k:Nat}{B1 B2 B3 B4 B5 B6 B7:Option Addr}{m1 j1 m2 j2 m3 j3 m4 j4 m5 j5 m6 j6 m7 j7:Nat}{N:List Hl}
  (H:Hs noRow w (Hl.row 86 3 (.slice A n k) n (flat encReg rs)::Hl.all N::L) w') (hn:rs.length=n)
  (ho:tySt.own [.slice B1 m1 j1,.slice B2 m2 j2,.slice B3 m3 j3,.int .i64 a.1.1.1.2.2.2,.slice B4 m4 j4,.slice B5 m5 j5,.slice B6 m6 j6,.int .i64 a.1.1.2.2.2.2,.slice B7 m7 j7] a.1 N) {sq:Int} :
  RPost [] w (tAgg Dz.tyHO ((a.1,(rs,-1),sq),(z1h,0))) (.returned (.agg #[.slice B1 m1 j1,.slice B2 m2 j2,.slice B3 m3 j3,.int .i64 a.1.1.1.2.2.2,.slice B4 m4 j4,.slice B5 m5 j5,.slice B6 m6 j6,.int .i64 a.1.1.2.2.2.2,.slice B7 m7 j7,.slice A n k,.int .i64 (-1),.int .i64 sq,.string ⟨#[115,97,118,101,100]⟩,.int .i64 0])) w':=by
 have H0:Hs noRow w [Hl.row 86 3 (.slice A n k) n (flat encReg rs),Hl.all N] w':=H.sel (by exact .cons .here (.cons .here .nil))
 have H4:=Hs.pack (M:=[Hl.row 86 3 (.slice A n k) n (flat encReg rs)]) H0
 have H5:Hs noRow w [Hl.all N,Hl.all [Hl.row 86 3 (.slice A n k) n (flat encReg rs)]] w':=H4.reperm (List.Perm.swap ..)
 have H6:=H5.join
 rw[←List.append_nil (N++_)] at H6
 exact Hs.retd H6 (List.Sublist.refl _) ⟨[_,_,_,_,_,_,_,_,_,_,_,_,_,_],_,rfl,⟨[_,_,_,_,_,_,_,_,_,_,_,_],[_,_],_,[],rfl,rfl,⟨[_,_,_,_,_,_,_,_,_],[_,_,_],N,_,rfl,rfl,ho,[_,_],[_],[_],[],rfl,rfl,⟨[_],[_],[_],[],rfl,rfl,z8r hn,rfl,rfl⟩,rfl,rfl⟩,rfl,rfl⟩,rfl⟩
theorem z4b(a:Ho)(cs:List Value)(hok:z7z a)(hbd:∀b ∈ a.1.2,bdBo b)(pw:Int)(w:World)(hr:Dz.tyHo.rd w cs a):Rets Tryz.prog [] 7 #[.agg cs.toArray,.int .i64 pw] w (tAgg Dz.tyHO (z0h a pw)):=by
 have c1:=fun w1 hb=>z3q a cs hok w1 (Ty.below _ hr hb)
 have c2:=fun w1=>z9d pw w1
 obtain⟨A1,n1,k1,A2,n2,k2,A3,n3,k3,A4,n4,k4,A5,n5,k5,A6,n6,k6,A7,n7,k7,A8,n8,k8,rfl,g1,g2⟩:=Dz.Ho_form hr
 obtain⟨_,_,_,ed,gd⟩:=Dz.Dk_form g2
 injection ed with e1 ed
 rw[←e1] at gd
 clear ed e1
 have gd2:Rd w 3 (.slice A8 n8 k8) a.2.1.1.length (flat encReg a.2.1.1):=sl_rd gd
 have hn8:=(slN gd).1
 have cD:=fun rs (hl:rs.length≤1000000) v p w1 hr=>z8j rs v p hl w1 hr
 have cD0:=fun (hl:a.2.1.1.length≤1000000) w1 hb=>z8j a.2.1.1 (.slice A8 n8 k8) a.2.1.2 hl w1 (Rd.below gd2 (Nat.le_refl _) hb)
 have cB:=fun w1 hb=>diskBase_i a.2.1.1 (.slice A8 n8 k8) a.2.1.2 w1 (Rd.below gd2 (Nat.le_refl _) hb)
 have cW:=fun (hl:a.2.1.1.length≤1000000) w1 hb=>z2a a.2.1.1 (.slice A8 n8 k8) a.2.1.2 pw n8 hn8.symm hl w1 (Rd.below gd2 (Nat.le_refl _) hb)
 have cC:=fun hst w1 hb=>(z4w a.1 _ (z2q hst hbd) w1 (Ty.below _ g1 hb)).lit (fun v M w' h hp=>z8o h hp)
 have cP:=fun (hst:z0b a.1=true) (hreg:a.2.1.1.length=regsOf a.1.1.1) (k:Nat) (hk:k<n8) w1 hb=>z8b a.1 _ k (z2g hst hbd) (cfg_labs (z0k hst)).1 (cfg_labs (z0k hst)).2 (by omega) w1 (Ty.below _ g1 hb)
 have hpt:=@z1j a
 obtain⟨Z,hZ⟩:=nm (z0h a pw)
 rw[←hZ]
 unfold z0h at hZ
 obtain⟨z1,hz1⟩:=nm (z0z a)
 obtain⟨z2,hz2⟩:=nm (isIn pw (-1) 1000000)
 rw[←hz1] at c1 hZ hpt
 rw[←hz2] at c2 hZ
 have hD:diskOk a.2.1.1 a.2.1.2=true→z2=true→diskOk a.2.1.1 pw=true:=fun h h2=>z3f h (by rw[←hz2];exact h2)
 obtain⟨base,hbase⟩:=nm (baseOf a.2.1.1 a.2.1.2)
 rw[←hbase] at cB
 have hsd:z0x a pw=if base=a.2.2 then (a.2.1.1,pw,0) else z1b a.2.2 base (z1f a.1) n8 0 a.2.1.1 pw:=by
  unfold z0x;rw[hn8,hbase]
 have hes:∀o,z0t a o=if o.2.2=0∧o.2.1≠0 then ((a.1,(z0g n8 0 o.1,-1),a.2.2),(z1h,0)) else z1i o.1:=fun o=>by unfold z0t;rw[hn8]
 obtain⟨rs,hrs⟩:=nm a.2.1.1
 rw[←hrs] at cD0 cW cP hsd hD hpt gd2 hn8 hZ
 have HES:=hY hes
 have HSD:=hY hsd
 have HN8:=hY hn8
 have HGD:=hY gd2
 have HD:=hY hD
 have HPT:=hY hpt
 have HZ:=hY hZ
 obtain⟨hf,hhf⟩:=nm a.1.1.1.2.2.2
 obtain⟨now,hnow⟩:=nm a.1.1.2.2.2.2
 obtain⟨p0,hp0⟩:=nm a.2.1.2
 obtain⟨sq,hsq⟩:=nm a.2.2
 rw[←hhf,←hnow] at c1 cC cP ⊢
 rw[←hp0] at c1 cD0 cB cW HPT HD ⊢
 rw[←hsq] at c1 HSD HES ⊢
 have HSQ:=hY hsq.symm
 clear hr g1 g2 gd gd2 hz1 hz2 hrs hbase hD hsd hes hn8 hpt hhf hnow hp0 hsq hok hbd hZ
 replace c1:∀w1,Below w.heap.size w w1→Gives Tryz.prog 28 #[.agg #[.slice A1 n1 k1,.slice A2 n2 k2,.slice A3 n3 k3,.int .i64 hf,.slice A4 n4 k4,.slice A5 n5 k5,.slice A6 n6 k6,.int .i64 now,.slice A7 n7 k7,.slice A8 n8 k8,.int .i64 p0,.int .i64 sq]] w1 (.bool z1):=c1
 show Rets Tryz.prog [] _ #[.agg #[.slice A1 n1 k1,.slice A2 n2 k2,.slice A3 n3 k3,.int .i64 hf,.slice A4 n4 k4,.slice A5 n5 k5,.slice A6 n6 k6,.int .i64 now,.slice A7 n7 k7,.slice A8 n8 k8,.int .i64 p0,.int .i64 sq],.int .i64 pw] w _
 have H:=Hs.start noRow w
 refine Rets.of ?_
 by_cases hd:z1=true∧z2=true
 rotate_left
 ·have hd2:z1=false∨(z1=true∧z2=false):=by cases z1 <;> cases z2 <;> simp_all
  clear cD cB cW cD0 cC cP hd
  rcases hd2 with rfl|⟨rfl,rfl⟩
  all_goals(
   go_enter Tryz.func7,Tryz.ntmps7
   go_wp2_with (first|((((with_reducible refine st_gwF ?_ ?_);rfl));(try refine zp ?_))|((first|refine zU ?_|(refine zB 2 ?_;intro b2)|(refine zA 4 ?_;intro b4)|(go_at_call 28;refine gvF (c1 _ H.below) H ?_)|(go_at_call 29;refine gvF (c2 _) H ?_));clear H;intro wn H))
   refine bpF ?_
   have hZ2:=HZ.out
   simp only[Bool.false_and,Bool.and_false,Bool.false_eq_true,if_false] at hZ2
   rw[hZ2]
   exact z4y H 1)
 obtain⟨rfl,rfl⟩:=hd
 obtain⟨hst,hdk0,hreg⟩:=HPT.out rfl
 have hdk:=HD.out hdk0 rfl
 have hl13:=(z0d.1 hdk).1
 replace cD0:=cD0 (by omega)
 replace cW:=cW (by omega)
 replace cC:=cC hst
 replace cP:=cP hst hreg
 have hZ2:=HZ.out
 simp only[Bool.and_self,if_true] at hZ2
 have hn0:0<n8:=by rw[HN8.out];omega
 have hn13:n8≤13:=by rw[HN8.out];omega
 have HDK:=hY hdk
 clear HPT HD HZ hst hdk0 hreg hdk hl13
 by_cases h0:pw=0
 ·have e0:(pw==0)=true:=by simpa using h0
  rw[if_pos h0] at hZ2
  have HZ2:=hY hZ2
  clear h0 hZ2 cB cC cP cW cD
  go_enter Tryz.func7,Tryz.ntmps7
  go_wp2_with (first|((((with_reducible refine st_gwF ?_ ?_);rfl));(try refine zp ?_))|((first|refine zM ?_|(refine zB 2 ?_;intro b2)|(refine zA 4 ?_;intro b4)|(go_at_call 28;refine gvF (c1 _ H.below) H ?_)|(go_at_call 29;refine gvF (c2 _) H ?_));clear H;intro wn H))
  refine(Rets.use (cD0 _ H.below)).mono ?_;rintro e wn ⟨_,_,rfl,⟨ds,J,rfl,o,rfl⟩,hkk⟩;refine zK ?_;clear H hkk;intro H
  obtain⟨PA1,Pn1,Pk1,PA2,Pn2,Pk2,PA3,Pn3,Pk3,PA4,Pn4,Pk4,PA5,Pn5,Pk5,PA6,Pn6,Pk6,PA7,Pn7,Pk7,PA8,Pn8,Pk8,rfl⟩:=Dz.HO_lit (own_rd H .here o)
  go_wp2_with (refine zS ?_;clear H;intro wn H)
  refine bpF ?_
  rw[HZ2.out]
  exact Hs.retd (H.sel (M:=[Hl.all J]) sF) (List.Sublist.refl _) ⟨_,_,rfl,o,rfl⟩
 have e0:(pw==0)=false:=by simpa using h0
 rw[if_neg h0] at hZ2
 have HZ2:=hY hZ2
 have HP0:=hY h0
 clear h0 hZ2 cD0
 obtain⟨bq,hbq⟩:=nm2 ((base != sq))
 have HBQ:=hY hbq
 go_enter Tryz.func7,Tryz.ntmps7
 go_wp2_with (first|((((with_reducible refine st_gwF ?_ ?_);rfl));(try refine zp ?_))|((first|refine zM ?_|(refine zB 2 ?_;intro b2)|(refine zA 4 ?_;intro b4)|(go_at_call 28;refine gvF (c1 _ H.below) H ?_)|(go_at_call 29;refine gvF (c2 _) H ?_));clear H;intro wn H))
 apply wp_region_hs (K:=[]) (Spec.V _::Spec.V _::Spec.V _::Spec.V _::Spec.V _::Spec.V _::Spec.T _::Spec.N _ _::Spec.V _ :: []) 9 H rfl (by simp) (by kernel_rfl) (by kernel_rfl);intro vs Ls;(iterate 2 (refine zhv ?_));(with_reducible apply wpH_VK);(focus rfl);(focus rfl);(focus(intro hk w1 H1;unfold OpOk;go_simp;exact now_call (Gives.rets (cB _ H1.below))));refine zp ?_;(iterate 3 (refine zhv ?_));(with_reducible apply wpH_T);(focus rfl);(focus rfl);(focus(intro hk w1 H1;unfold OpOk;go_simp;exact now_call (cW _ H1.below)));refine zp ?_;(with_reducible apply wpH_N);(focus rfl);(focus rfl);(focus(intro w1 H1;exact nF));intro g7 hg7;refine zp ?_;(iterate 1 (refine zhv ?_));refine wpH_0 ?_;intro hok wn Hn;(try simp only[yT,yU,yV,yW] at Hn);clear H;have H:=Hn;clear Hn;(try simp only[←hg7]);clear hg7;have ht6:=okT (hok 6 (by decide)) rfl;clear hok;obtain⟨D6,k6',e6,l6⟩:=ht6;simp only[e6,l6,yT,yU,yV] at H ⊢;clear e6 l6;rotate_left;exact lcG
 go_upto_if 38 with (first|refine zgU ?_|((with_reducible refine' st_guard ?_ ?_ ?_);rotate_left;rfl;(all_goals(intro hgd;cases hgd));(try refine zp ?_))|refine zgW ?_|refine zgS ?_|((first|refine zU ?_|(refine zB 2 ?_;intro b2)|(refine zA 4 ?_;intro b4)|(refine zA 8 ?_;intro b8)|(go_at_call 28;refine gvF (c1 _ H.below) H ?_)|(go_at_call 29;refine gvF (c2 _) H ?_)|(go_at_call 33;refine gvF (ch _) H ?_));clear H;intro wn H))
 go_cut [] (fun wr=>∃(rs':List Reg) (p':Int) (A:Option Addr) (c:Nat),Hid (rs'.length=n8∧diskOk rs' p'=true∧Z=z0t a (rs',p',0))∧Hs noRow w [Hl.blk g7 60 #[.slice A n8 c,.int .i64 p'],Hl.blk b2 62 #[.slice A1 n1 k1,.slice A2 n2 k2,.slice A3 n3 k3,.int .i64 hf,.slice A4 n4 k4,.slice A5 n5 k5,.slice A6 n6 k6,.int .i64 now,.slice A7 n7 k7,.slice A8 n8 k8,.int .i64 p0,.int .i64 sq],Hl.blk b4 64 #[.slice none 0 0,.slice none 0 0,.slice none 0 0,.int .i64 0,.slice none 0 0,.slice none 0 0,.slice none 0 0,.int .i64 0,.slice none 0 0,.slice none 0 0,.int .i64 0,.int .i64 0,.string ⟨#[]⟩,.int .i64 0],Hl.row 86 3 (.slice A n8 c) n8 (flat encReg rs')] wr)
 case first=>
  cases bq
  ·have hb0:base=sq:=by have:=HBQ.out;simpa using this
   have HB0:=hY hb0
   clear hb0 cD cC cP
   go_wp2_with (fail)
   go_meet
   case rel=>exact⟨rs,pw,D6,k6',hY ⟨HN8.out.symm,HDK.out,by rw[HZ2.out,HSD.out,if_pos HB0.out]⟩,H.sel sF⟩
  have hb0:¬base=sq:=by have:=HBQ.out;simpa using this
  have HB0:=hY hb0
  clear hb0 cC cW cB
  go_wp2_with (refine zL ?_;clear H;intro wn H)
  go_loopg [42] n8 (fun m iv wr=>∃(k:Nat) (rs':List Reg) (p':Int) (A:Option Addr) (c:Nat),k+m=n8∧iv = .int .i64 k∧Hid (rs'.length=n8∧diskOk rs' p'=true∧Z=z0t a (z1b sq base (z1f a.1) (n8-k) k rs' p'))∧Hs noRow w [Hl.blk g7 60 #[.slice A n8 c,.int .i64 p'],Hl.blk b2 62 #[.slice A1 n1 k1,.slice A2 n2 k2,.slice A3 n3 k3,.int .i64 hf,.slice A4 n4 k4,.slice A5 n5 k5,.slice A6 n6 k6,.int .i64 now,.slice A7 n7 k7,.slice A8 n8 k8,.int .i64 p0,.int .i64 sq],Hl.blk b4 64 #[.slice none 0 0,.slice none 0 0,.slice none 0 0,.int .i64 0,.slice none 0 0,.slice none 0 0,.slice none 0 0,.int .i64 0,.slice none 0 0,.slice none 0 0,.int .i64 0,.int .i64 0,.string ⟨#[]⟩,.int .i64 0],Hl.row 86 3 (.slice A n8 c) n8 (flat encReg rs')] wr)
  case atStart=>exact⟨0,rs,pw,D6,k6',by omega,rfl,hY ⟨HN8.out.symm,HDK.out,by rw[HZ2.out,HSD.out,if_neg HB0.out,Nat.sub_zero]⟩,H.sel sF⟩
  case round=>
   clear H
   obtain⟨k,rs',p',A,c,hk,rfl,HI,H⟩:=hrel
   by_cases hlt:k<n8
   rotate_left
   ·obtain rfl:k=n8:=by omega
    have hk1:=nlt k
    clear cP cD
    go_wp2_with (fail)
    go_meet
    case rel=>exact⟨rs',p',A,c,hY ⟨HI.out.1,HI.out.2.1,by have:=HI.out.2.2;rw[Nat.sub_self] at this;exact this⟩,H.sel sF⟩
   obtain⟨hl',hdk',hZ'⟩:=HI.out
   rw[show n8-k=(n8-(k+1))+1 by omega] at hZ'
   obtain⟨x,hx,hxd,hxm⟩:=reg_at (rs:=rs') (k:=k) (by omega)
   have hxl:=(reg_max hdk' hxm).1
   have ch:=fun w1=>held_i x.1 hxl w1
   have hod:z1c rs' base k=((heldOf x.1.data.toList).2.2&&((heldOf x.1.data.toList).1==base)):=by unfold z1c;rw[hxd]
   obtain⟨hb,hhb⟩:=nm ((heldOf x.1.data.toList).2.2)
   obtain⟨hq,hhq⟩:=nm ((heldOf x.1.data.toList).1)
   rw[←hhb,←hhq] at ch hod
   obtain⟨zo,hzo⟩:=nm2 ((hq==base))
   rw[hzo] at hod
   generalize bs (heldOf x.1.data.toList).2.1=ht at ch
   clear hhb hhq
   obtain⟨pt,hpt⟩:=nm (bs (z1f a.1 k))
   have cp:=cP k (by omega)
   rw[←hpt] at cp
   have hpd:pt.data.toList=z1f a.1 k:=by rw[hpt,data_bs]
   obtain⟨rs1,p1,c9,he⟩:∃y1 y2 y3,slotOut rs' p' k (z1c rs' base k) (frameBytes sq (z1f a.1 k))=(y1,y2,y3):=⟨_,_,_,rfl⟩
   obtain⟨n9,hn9⟩:=nm2 rs1.length
   have hl9:=z2v (by omega) he
   have hstep:=z2j (m:=n8-(k+1)) (part:=z1f a.1) (base:=base) he
   rw[hstep] at hZ'
   have hkeep:c9=0→diskOk rs1 p1=true∧n8=n9:=fun h=>by
    have:=z3s hdk' (by omega) (h ▸ he)
    exact⟨this.1,by omega⟩
   have cs:∀v w1,Rd w1 3 v rs'.length (flat encReg rs')→Rets Tryz.prog [] 34 #[.agg #[v,.int .i64 p'],.int .i64 k,.bool (z1c rs' base k),.agg #[.int .i64 sq,.string pt]] w1 (tDR rs1 n9 p1 c9):=fun v w1 h=>by
    have h2:=slot_i rs' v p' k (z1c rs' base k) sq pt w1 h
    rw[hpd,he] at h2
    exact NewOut.retD h2 hn9
   rw[hod] at cs
   rw[hl'] at cs
   have HS1:=hY hn9
   have HZ3:=hY hZ'
   have HKP:=hY hkeep
   have HL9:=hY hl9
   obtain⟨gr,cr,hvr,_⟩:=(H.rows iF).form (by omega)
   injection hvr with hv1 hv2 hv3
   subst hv1 hv3
   have hseg:∀j u,[Value.string x.1][j]? = some u→(flat encReg rs')[k*3+j]? = some u:=fun j u hu=>by
    match j,hu with
    | 0,hu=>
     obtain rfl:Value.string x.1=u:=by simpa using hu
     exact flat_get encReg_len rs' k 0 x hx (by omega)
   have hk1:(k:Int)<n8:=by omega
   clear hstep hkeep hZ' he hod hdk' hxd hxm hpd hn9 hl9 hx hv2 hpt hl'
   go_upto_region 11 with (first|((with_reducible apply st_load1 H);decide +kernel;rfl;(focus exact(At.row H iF hseg).head rfl);clear H;intro wn H;refine zp ?_)|refine zgU ?_|((with_reducible refine' st_guard ?_ ?_ ?_);rotate_left;rfl;(all_goals(intro hgd;cases hgd));(try refine zp ?_))|refine zgW ?_|refine zgS ?_|((first|refine zU ?_|(refine zB 2 ?_;intro b2)|(refine zA 4 ?_;intro b4)|(refine zA 8 ?_;intro b8)|(go_at_call 28;refine gvF (c1 _ H.below) H ?_)|(go_at_call 29;refine gvF (c2 _) H ?_)|(go_at_call 33;refine gvF (ch _) H ?_));clear H;intro wn H))
   cases hb
   ·simp only[Bool.false_and] at cs
    apply wp_region_hs (K:=[]) (Spec.V _::Spec.V _::Spec.V _::Spec.V _::Spec.V _::Spec.V _::Spec.V _::Spec.V _::Spec.V _::Spec.V _::Spec.V _::Spec.V _::Spec.V _::Spec.V _::Spec.V _::Spec.V _::Spec.T _::Spec.N _ _ :: []) 18 H rfl (by simp) (by kernel_rfl) (by kernel_rfl);intro vs Ls;(iterate 4 (refine zhv ?_));(iterate 4 ((with_reducible apply wpH_skip);(focus rfl);(focus rfl);(try refine zp ?_)));(iterate 6 (refine zhv ?_));(with_reducible apply wpH_VK);(focus rfl);(focus rfl);(focus(intro hk w1 H1;unfold OpOk;go_simp;exact now_call (Gives.rets (cp _ H1.below))));refine zp ?_;(iterate 1 (refine zhv ?_));(with_reducible apply wpH_T);(focus rfl);(focus rfl);(focus(intro hk w1 H1;unfold OpOk;go_simp;exact now_call (cs _ _ (H1.rows iF).rd)));refine zp ?_;(with_reducible apply wpH_N);(focus rfl);(focus rfl);(focus(intro w1 H1;exact nF));intro g17 hg17;refine zp ?_;refine wpH_0 ?_;intro hok wn Hn;(try simp only[yT,yU,yV,yW] at Hn);clear H;have H:=Hn;clear Hn;(try simp only[←hg17]);clear hg17;have ht16:=okT (hok 16 (by decide)) rfl;clear hok;obtain⟨A16,k16,e16,l16⟩:=ht16;simp only[e16,l16,yT,yU,yV] at H ⊢;clear e16 l16;rotate_left;exact lcG
    go_upto_if 76 with (first|refine zgU ?_|((with_reducible refine' st_guard ?_ ?_ ?_);rotate_left;rfl;(all_goals(intro hgd;cases hgd));(try refine zp ?_))|refine zgW ?_|refine zgS ?_|((first|refine zU ?_|(refine zB 2 ?_;intro b2)|(refine zA 4 ?_;intro b4)|(refine zA 8 ?_;intro b8));clear H;intro wn H))
    by_cases hc:c9=0
    ·have f9:(c9 != 0)=false:=by simpa using hc
     obtain⟨hd9,rfl⟩:=HKP.out hc
     go_wp2_with (fail)
     go_roundg (n8-(k+1))
     case measure=>omega
     case rel=>exact⟨k+1,rs1,p1,A16,k16,by omega,by go_num,hY ⟨HS1.out,hd9,by have:=HZ3.out;rw[if_pos hc] at this;exact this⟩,H.sel sF⟩
    ·have f9:(c9 != 0)=true:=by simpa using hc
     go_wp2_with (refine zM ?_;clear H;intro wn H)
     refine(Rets.use (cD rs1 (by have:=HL9.out;omega) _ _ _ (by rw[HS1.out];exact(H.rows iF).rd))).mono ?_;rintro e wn ⟨_,_,rfl,⟨ds,J,rfl,o,rfl⟩,hkk⟩;refine zK ?_;clear H hkk;intro H
     obtain⟨PA1,Pn1,Pk1,PA2,Pn2,Pk2,PA3,Pn3,Pk3,PA4,Pn4,Pk4,PA5,Pn5,Pk5,PA6,Pn6,Pk6,PA7,Pn7,Pk7,PA8,Pn8,Pk8,rfl⟩:=Dz.HO_lit (own_rd H .here o)
     go_wp2_with (refine zS ?_;clear H;intro wn H)
     refine bpF ?_
     have hZ4:=HZ3.out
     rw[if_neg hc,HES.out,if_neg (fun h=>hc h.1)] at hZ4
     rw[hZ4]
     exact Hs.retd (H.sel (M:=[Hl.all J]) sF) (List.Sublist.refl _) ⟨_,_,rfl,o,rfl⟩
   ·simp only[Bool.true_and] at cs
    apply wp_region_hs (K:=[]) (Spec.V _::Spec.V _::Spec.V _::Spec.V _::Spec.V _::Spec.V _::Spec.V _::Spec.V _::Spec.V _::Spec.V _::Spec.V _::Spec.V _::Spec.V _::Spec.V _::Spec.V _::Spec.V _::Spec.T _::Spec.N _ _ :: []) 18 H rfl (by simp) (by kernel_rfl) (by kernel_rfl);intro vs Ls;(iterate 14 (refine zhv ?_));(with_reducible apply wpH_VK);(focus rfl);(focus rfl);(focus(intro hk w1 H1;unfold OpOk;go_simp;exact now_call (Gives.rets (cp _ H1.below))));refine zp ?_;(iterate 1 (refine zhv ?_));(with_reducible apply wpH_T);(focus rfl);(focus rfl);(focus(intro hk w1 H1;unfold OpOk;go_simp;exact now_call (cs _ _ (H1.rows iF).rd)));refine zp ?_;(with_reducible apply wpH_N);(focus rfl);(focus rfl);(focus(intro w1 H1;exact nF));intro g17 hg17;refine zp ?_;refine wpH_0 ?_;intro hok wn Hn;(try simp only[yT,yU,yV,yW] at Hn);clear H;have H:=Hn;clear Hn;(try simp only[←hg17]);clear hg17;have ht16:=okT (hok 16 (by decide)) rfl;clear hok;obtain⟨A16,k16,e16,l16⟩:=ht16;simp only[e16,l16,yT,yU,yV] at H ⊢;clear e16 l16;rotate_left;exact lcG
    go_upto_if 76 with (first|refine zgU ?_|((with_reducible refine' st_guard ?_ ?_ ?_);rotate_left;rfl;(all_goals(intro hgd;cases hgd));(try refine zp ?_))|refine zgW ?_|refine zgS ?_|((first|refine zU ?_|(refine zB 2 ?_;intro b2)|(refine zA 4 ?_;intro b4)|(refine zA 8 ?_;intro b8));clear H;intro wn H))
    by_cases hc:c9=0
    ·have f9:(c9 != 0)=false:=by simpa using hc
     obtain⟨hd9,rfl⟩:=HKP.out hc
     go_wp2_with (fail)
     go_roundg (n8-(k+1))
     case measure=>omega
     case rel=>exact⟨k+1,rs1,p1,A16,k16,by omega,by go_num,hY ⟨HS1.out,hd9,by have:=HZ3.out;rw[if_pos hc] at this;exact this⟩,H.sel sF⟩
    ·have f9:(c9 != 0)=true:=by simpa using hc
     go_wp2_with (refine zM ?_;clear H;intro wn H)
     refine(Rets.use (cD rs1 (by have:=HL9.out;omega) _ _ _ (by rw[HS1.out];exact(H.rows iF).rd))).mono ?_;rintro e wn ⟨_,_,rfl,⟨ds,J,rfl,o,rfl⟩,hkk⟩;refine zK ?_;clear H hkk;intro H
     obtain⟨PA1,Pn1,Pk1,PA2,Pn2,Pk2,PA3,Pn3,Pk3,PA4,Pn4,Pk4,PA5,Pn5,Pk5,PA6,Pn6,Pk6,PA7,Pn7,Pk7,PA8,Pn8,Pk8,rfl⟩:=Dz.HO_lit (own_rd H .here o)
     go_wp2_with (refine zS ?_;clear H;intro wn H)
     refine bpF ?_
     have hZ4:=HZ3.out
     rw[if_neg hc,HES.out,if_neg (fun h=>hc h.1)] at hZ4
     rw[hZ4]
     exact Hs.retd (H.sel (M:=[Hl.all J]) sF) (List.Sublist.refl _) ⟨_,_,rfl,o,rfl⟩
 case rest=>
  clear H cB cW cP
  obtain⟨rs',p',A,c,HI,H⟩:=hcut
  obtain⟨hl',hdk',hZ'⟩:=HI.out
  rw[HES.out] at hZ'
  by_cases hp:p'=0
  ·have e9:(p'==0)=true:=by simpa using hp
   rw[if_neg (fun h=>h.2 hp)] at hZ'
   have HZ3:=hY hZ'
   have HL9:=hY hl'
   clear hZ' hp hdk' hl' HI cC
   go_wp2_with (refine zU ?_;clear H;intro wn H)
   refine(Rets.use (cD rs' (by have:=HL9.out;omega) _ _ _ (by rw[HL9.out];exact(H.rows iF).rd))).mono ?_;rintro e wn ⟨_,_,rfl,⟨ds,J,rfl,o,rfl⟩,hkk⟩;refine zK ?_;clear H hkk;intro H
   obtain⟨PA1,Pn1,Pk1,PA2,Pn2,Pk2,PA3,Pn3,Pk3,PA4,Pn4,Pk4,PA5,Pn5,Pk5,PA6,Pn6,Pk6,PA7,Pn7,Pk7,PA8,Pn8,Pk8,rfl⟩:=Dz.HO_lit (own_rd H .here o)
   go_wp2_with (refine zS ?_;clear H;intro wn H)
   refine bpF ?_
   rw[HZ3.out]
   exact Hs.retd (H.sel (M:=[Hl.all J]) sF) (List.Sublist.refl _) ⟨_,_,rfl,o,rfl⟩
  have e9:(p'==0)=false:=by simpa using hp
  rw[if_pos ⟨rfl,hp⟩] at hZ'
  obtain⟨W,hW⟩:=nm (z0g n8 0 rs')
  have hZ5:Z=((a.1,(W,-1),sq),(z1h,0)):=by rw[hW];exact hZ'
  have HZ3:=hY hZ5
  have HI3:Hid (rs'.length=n8∧diskOk rs' p'=true∧z0g (n8-0) 0 rs'=W):=hY ⟨hl',hdk',by rw[Nat.sub_zero];exact hW.symm⟩
  have HPP:=hY hp
  clear hZ' hZ5 hp hdk' hl' HI cD hW
  go_wp2_with (refine zL ?_;clear H;intro wn H)
  go_loopg [88] n8 (fun m iv wr=>∃(k:Nat) (rs2:List Reg) (A:Option Addr) (c:Nat),k+m=n8∧iv = .int .i64 k∧Hid (rs2.length=n8∧diskOk rs2 p'=true∧z0g (n8-k) k rs2=W)∧Hs noRow w [Hl.blk g7 60 #[.slice A n8 c,.int .i64 p'],Hl.blk b2 62 #[.slice A1 n1 k1,.slice A2 n2 k2,.slice A3 n3 k3,.int .i64 hf,.slice A4 n4 k4,.slice A5 n5 k5,.slice A6 n6 k6,.int .i64 now,.slice A7 n7 k7,.slice A8 n8 k8,.int .i64 p0,.int .i64 sq],Hl.blk b4 64 #[.slice none 0 0,.slice none 0 0,.slice none 0 0,.int .i64 0,.slice none 0 0,.slice none 0 0,.slice none 0 0,.int .i64 0,.slice none 0 0,.slice none 0 0,.int .i64 0,.int .i64 0,.string ⟨#[]⟩,.int .i64 0],Hl.row 86 3 (.slice A n8 c) n8 (flat encReg rs2)] wr)
  case atStart=>exact⟨0,rs',A,c,by omega,rfl,HI3,H.sel sF⟩
  case round=>
   clear H HI3
   obtain⟨k,rs2,A,c,hk,rfl,HI,H⟩:=hrel
   by_cases hlt:k<n8
   ·obtain ⟨hl2,hdk2,hw2⟩:=HI.out
    rw[show n8-k=(n8-(k+1))+1 by omega] at hw2
    obtain⟨hs0,hs1,hs2,hs3,hs4⟩:=z3p hdk2 (k:=k) (by omega) HPP.out
    have cw:∀v w1,Rd w1 3 v rs2.length (flat encReg rs2)→Rets Tryz.prog [] 36 #[.agg #[v,.int .i64 p'],.int .i64 k] w1 (tDR (setLog rs2 k ⟨#[]⟩) n8 p' 0):=fun v w1 h=>by
     have h2:=wipe_i rs2 v p' k w1 h
     rw[hs1,hs2,hs0] at h2
     exact NewOut.retD h2 (by rw[hs4,hl2])
    rw[hl2] at cw
    have HI4:Hid ((setLog rs2 k ⟨#[]⟩).length=n8∧diskOk (setLog rs2 k ⟨#[]⟩) p'=true∧z0g (n8-(k+1)) (k+1) (setLog rs2 k ⟨#[]⟩)=W):=hY ⟨by rw[hs4,hl2],hs3,hw2⟩
    generalize setLog rs2 k ⟨#[]⟩=rs3 at *
    have hk1:(k:Int)<n8:=by omega
    clear hl2 hdk2 hw2 hs0 hs1 hs2 hs3 hs4 HI cC
    go_wp2_with (refine zM ?_;clear H;intro wn H)
    refine(Rets.use (cw _ _ (H.rows iF).rd)).mono ?_;rintro e wn ⟨_,_,rfl,⟨A9,k9,rfl,rfl⟩,hkk⟩;refine zK ?_;clear H hkk;intro H
    go_wp2_with (first|((with_reducible apply z7q H);(focus(unfold OpOk;go_simp;(try simp only[z7u,Result.andThen_ok]);exact now_v));clear H;intro wn H;refine zp ?_)|(refine zS ?_;clear H;intro wn H))
    go_roundg (n8-(k+1))
    case measure=>omega
    case rel=>exact⟨k+1,rs3,A9,k9,by omega,by go_num,HI4,H.sel sF⟩
   ·obtain rfl:k=n8:=by omega
    have hk1:=nlt k
    obtain⟨hl2,hdk2,hw2⟩:=HI.out
    have hw3:rs2=W:=by rw[Nat.sub_self] at hw2;exact hw2
    subst hw3
    have cW3:∀v w1,Rd w1 3 v k (flat encReg rs2)→Rets Tryz.prog [] 32 #[.agg #[v,.int .i64 p'],.int .i64 (-1)] w1 (tDr rs2 k (-1)):=fun v w1 h=>z2a rs2 v p' (-1) k hl2 (by omega) w1 (by rw[hl2];exact h)
    have HL2:=hY hl2
    obtain⟨cAt,F⟩:=z8i
    clear hl2 hdk2 hw2 HI
    go_wp2_with (fail)
    apply wp_region_hs (K:=[]) (Spec.V _::Spec.V _::Spec.T _::Spec.V _::Spec.T _::Spec.V _::Spec.V _::Spec.V _::Spec.V _ :: []) 9 H rfl (by simp) (by kernel_rfl) (by kernel_rfl);intro vs Ls;(iterate 2 (refine zhv ?_));(with_reducible apply wpH_T);(focus rfl);(focus rfl);(focus(intro hk w1 H1;unfold OpOk;go_simp;exact now_call (cC _ H1.below)));refine zp ?_;(iterate 1 (refine zhv ?_));(with_reducible apply wpH_T);(focus rfl);(focus rfl);(focus(intro hk w1 H1;unfold OpOk;go_simp;exact now_call (cW3 _ _ (H1.rows iF).rd)));refine zp ?_;(iterate 2 (refine zhv ?_));(with_reducible apply wpH_VK);(focus rfl);(focus rfl);(focus(intro hk w1 H1;have q2:=okT (hk 2 (by decide +kernel) (by decide)) rfl;have q4:=okT (hk 4 (by decide +kernel) (by decide)) rfl;exact z1t (v1:=vs 2) (v2:=vs 4) F rfl rfl rfl q2.form q4.form));refine zp ?_;((with_reducible apply wpH_V);(focus rfl);(focus rfl);(focus(intro w1 H1;exact z2p rfl));refine zp ?_);refine wpH_0 ?_;intro hok wn Hn;(try simp only[yT,yU,yV,yW] at Hn);clear H;have H:=Hn;clear Hn;have ht2:=okT (hok 2 (by decide)) rfl;have ht4:=okT (hok 4 (by decide)) rfl;clear hok;obtain⟨B1,m1,j1,B2,m2,j2,B3,m3,j3,B4,m4,j4,B5,m5,j5,B6,m6,j6,B7,m7,j7,N2,e2,o2,l2⟩:=ht2;simp only[e2,l2,yT,yU,yV] at H ⊢;clear e2 l2;obtain⟨A4',k4',e4,l4⟩:=ht4;simp only[e4,l4,yT,yU,yV] at H ⊢;clear e4 l4;rotate_left;exact lcG
    simp only[F.a0,F.a1,F.a2,F.a3,F.a4,F.a5,F.a6,F.a7,F.a8,F.d0,F.d1]
    go_wp2_with (refine zS ?_;clear H;intro wn H)
    refine bpF ?_
    rw[HZ3.out]
    exact z3m (H.sel (M:=[Hl.row 86 3 (.slice A4' k k4') k (flat encReg rs2),Hl.all N2]) sF) HL2.out o2
