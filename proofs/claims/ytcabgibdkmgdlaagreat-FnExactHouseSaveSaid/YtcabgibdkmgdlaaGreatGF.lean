import Derived.Test.YtcabgibdkmgdlaaGreatPd
import Derived.Test.YtcabgibdkmgdlaaGreatPe
import Derived.Test.YtcabgibdkmgdlaaGreatJ9
import Derived.Test.YtcabgibdkmgdlaaGreatGE
import Derived.Test.YtcabgibdkmgdlaaGreatGH
set_option linter.unusedSimpArgs false
set_option linter.unusedVariables false
set_option maxRecDepth 100000
set_option maxHeartbeats 8000000
namespace Go.Proofs.YtcabgibdkmgdlaaGreat
open Go.RowKit M
namespace M
def z1f(a:St)(r:Nat):Bs:=
 if r=0 then z5g a.1
 else if r≤(labelsOf a.1.1.1).length then (match (labelsOf a.1.1.1)[r-1]? with
  | some l=>z3z a l
  | none=>[])
 else match a.2[r-1-(labelsOf a.1.1.1).length]? with
  | some b=>z1e b.1
  | none=>[]
end M
theorem z8b(a:St)(cs:List Value)(r:Nat)(hfit:Fit a)(hcl:clearOk a.1.1.1=true)(h8:(labelsOf a.1.1.1).length≤8)(hr9:r<regsOf a.1.1)(w:World)(hr:tySt.rd w cs a):Gives Tryz.prog 35 #[.agg cs.toArray,.int .i64 r] w (.string (bs (z1f a r))):=by
 have c1:=fun w1 hb=>z4k a cs hfit.now hfit.nodes hfit.node w1 (Ty.below _ hr hb)
 have c2:=fun l w1 hb=>z4h a cs l hfit w1 (Ty.below _ hr hb)
 have hbox:=hfit.box
 have hbl:=hfit.boxes
 have hpp:=hfit.pairs
 obtain⟨A1,n1,k1,A2,n2,k2,A3,n3,k3,A4,n4,k4,A5,n5,k5,A6,n6,k6,A7,n7,k7,rfl,g1,g7⟩:=St_form hr
 obtain⟨_,_,_,_,_,_,_,_,_,_,_,_,_,_,_,_,_,_,ey,gc,_,_,_⟩:=Yd_form g1
 injection ey with e1 ey;injection ey with e2 ey;injection ey with e3 ey
 rw[←e1,←e2,←e3] at gc
 clear ey e1 e2 e3 g1 hr hfit
 obtain⟨_,_,_,ec,gl,_,_⟩:=cfg_form gc
 injection ec with e1 ec
 rw[←e1] at gl
 clear ec e1 gc
 have hn7:=(slN g7).1
 have hn1:=(slN gl).1
 have c3:=fun w1 hb=>labels_i (.slice A1 n1 k1) A2 A3 n2 k2 n3 k3 a.1.1.2.2.2 a.1.1.1 hcl w1 (Ty.below _ gl hb)
 have hrr:r<1+(labelsOf a.1.1.1).length+a.1.1.2.1.length:=hr9
 have HG7:=hY g7
 have HN7:=hY hn7
 have HB:=hY hbox
 obtain⟨z,hz⟩:=nm (bs (z1f a r))
 have HZ:Hid (z=bs (if r=0 then z5g a.1
  else if r≤(labelsOf a.1.1.1).length then (match (labelsOf a.1.1.1)[r-1]? with
   | some l=>z3z a l
   | none=>[])
  else match a.2[r-1-(labelsOf a.1.1.1).length]? with
   | some b=>z1e b.1
   | none=>[])):=hY hz
 rw[←hz]
 have hpl:a.1.1.2.1.length=n7:=by omega
 have hn74:n7≤4:=by omega
 rw[hpl] at hrr
 clear hz hcl g7 gl hn7 hn1 hbox hbl hpl hr9 hpp
 generalize a.1.1.2.2.2=hf at *
 generalize a.1.2.2.2.2=now at *
 generalize hls:labelsOf a.1.1.1=ls at *
 clear hls
 replace c1:∀w1,Below w.heap.size w w1→Gives Tryz.prog 81 #[.agg #[.slice A1 n1 k1,.slice A2 n2 k2,.slice A3 n3 k3,.int .i64 hf,.slice A4 n4 k4,.slice A5 n5 k5,.slice A6 n6 k6,.int .i64 now,.slice A7 n7 k7]] w1 (.string (bs (z5g a.1))):=c1
 replace c2:∀(l:Lab) w1,Below w.heap.size w w1→Gives Tryz.prog 82 #[.agg #[.slice A1 n1 k1,.slice A2 n2 k2,.slice A3 n3 k3,.int .i64 hf,.slice A4 n4 k4,.slice A5 n5 k5,.slice A6 n6 k6,.int .i64 now,.slice A7 n7 k7],.agg #[.int .i64 l.1,.int .i64 l.2]] w1 (.string (bs (z3z a l))):=c2
 have H:=Hs.start noRow w
 unfold Gives
 show Calls _ _ #[.agg #[.slice A1 n1 k1,.slice A2 n2 k2,.slice A3 n3 k3,.int .i64 hf,.slice A4 n4 k4,.slice A5 n5 k5,.slice A6 n6 k6,.int .i64 now,.slice A7 n7 k7],.int .i64 r] _ _
 go_enter Tryz.func35,Tryz.ntmps35
 go_wp2_with ((first|refine zM ?_|(refine zB 2 ?_;intro b2));clear H;intro wn H)
 refine(Rets.use (c3 _ H.below)).mono ?_;rintro e wn ⟨_,_,rfl,⟨N,hN,rfl,hone⟩,hkk⟩;refine zK ?_;clear H hkk;intro H
 have hN2:=own_single hN hone rfl
 clear hN hone c3
 obtain⟨xs,M,B,cb,rfl,hO,_,Hn⟩:=own_open hN2 H
 clear H hN2
 have H:Hs noRow w (Hl.row 123 2 (.slice B ls.length cb) ls.length xs::Hl.all M::_) _:=Hn
 clear Hn
 have HOO:=hY hO
 clear hO
 obtain⟨kl,hkl⟩:=nm ls.length
 rw[←hkl] at HZ hrr h8
 simp only[←hkl] at H ⊢
 have HKL:=hY hkl
 clear hkl
 rcases Nat.eq_zero_or_pos r with rfl|hpos
 ·have HE:Hid (z=bs (z5g a.1)):=hY (by rw[HZ.out,if_pos rfl])
  clear HZ c2
  go_wp2_with ((first|refine zM ?_|(go_at_call 81;refine gvF (c1 _ H.below) H ?_));clear H;intro wn H)
  go_ret
  exact⟨by rw[HE.out] <;> rfl,H.below⟩
 obtain⟨p,rfl⟩:∃p,r=p+1:=⟨r-1,by omega⟩
 have hr0:(((p+1:Nat):Int)==0)=false:=beq_eq_false_iff_ne.2 (by omega)
 have hr1:(((p:Int)+1)==0)=false:=beq_eq_false_iff_ne.2 (by omega)
 have hr2:¬(p:Int)+1=0:=by omega
 by_cases hle:p+1≤kl
 ·have hle1:(p:Int)+1≤kl:=by omega
  have hpl:p<kl:=by omega
  have hpl1:(p:Int)<kl:=by omega
  have hpl2:(p:Int)+1-1<kl:=by omega
  obtain⟨x,hx⟩:=atE HKL hpl
  have HE:Hid (z=bs (z3z a x)):=hY (by rw[HZ.out,if_neg (by omega),if_pos hle,show p+1-1=p from rfl,hx])
  obtain⟨y1,cs,y2,M1,Mi,M2,hxs,_,hyl,_,hcs,_⟩:=HOO.out.at_ hx
  obtain rfl:cs=encLab x:=hcs.1
  obtain⟨x1,x2⟩:=x
  have c2':=fun w1 hb=>c2 (x1,x2) w1 hb
  have hseg:Seg xs (p*2) [.int .i64 x1,.int .i64 x2]:=by rw[hxs];exact seg_mid y1 (encLab (x1,x2)) y2 hyl
  have hbb:∃gl,B=some ⟨gl,0,none⟩:=by
   obtain⟨gl,cl,e,_⟩:=(H.rows .here).form (by omega)
   injection e with e1
   exact⟨gl,e1⟩
  obtain⟨gl,rfl⟩:=hbb
  simp only at c2'
  obtain⟨q,hq⟩:=nm (bs (z3z a (x1,x2)))
  have HQ9:=hY hq
  rw[←hq] at c2'
  clear hx hxs hyl hcs c2 c1 HZ hq
  go_upto_region 5 with ((first|refine zU ?_|(refine zB 2 ?_;intro b2)|(go_at_call 81;refine gvF (c1 _ H.below) H ?_)|(go_at_call 83;refine gvF (c5 _) H ?_)|(go_at_call 84;refine gvF (c6 _ H.below) H ?_));clear H;intro wn H)
  have Hq:=H.sel (M:=[Hl.row 123 2 (.slice (some ⟨gl,0,none⟩) kl cb) kl xs,Hl.blk b2 57 #[.slice A1 n1 k1,.slice A2 n2 k2,.slice A3 n3 k3,.int .i64 hf,.slice A4 n4 k4,.slice A5 n5 k5,.slice A6 n6 k6,.int .i64 now,.slice A7 n7 k7]]) sF
  clear H
  have H:=Hq
  clear Hq
  apply wp_region_hq H (by kernel_rfl) (by kernel_rfl);(iterate 3 ((with_reducible refine' hq_step ?_ ?_ ?_);rotate_left;(focus rfl);(focus(intro w1 H1;exact qLF));refine zp ?_;(try simp only[yG,yH,yJ,yK])));(with_reducible refine' hq_step ?_ ?_ ?_);rotate_left;(focus rfl);(focus(intro w1 H1;exact qWF));refine zp ?_;(iterate 1 ((with_reducible refine' hq_step ?_ ?_ ?_);rotate_left;(focus rfl);(focus(intro w1 H1;exact qLF));refine zp ?_;(try simp only[yG,yH,yJ,yK])));(with_reducible refine' hq_step ?_ ?_ ?_);rotate_left;(focus rfl);(focus(intro w1 H1;exact qRF));refine zp ?_;(with_reducible refine' hq_step ?_ ?_ ?_);rotate_left;(focus rfl);(focus(intro w1 H1;unfold QOk;go_simp;exact q_call (c2' _ @H1.below)));refine zp ?_;(iterate 1 ((with_reducible refine' hq_step ?_ ?_ ?_);rotate_left;(focus rfl);(focus(intro w1 H1;exact qLF));refine zp ?_;(try simp only[yG,yH,yJ,yK])));refine wpQuiet_nil ?_;clear H;intro wn H
  go_wp2_with (fail)
  go_ret
  exact⟨by rw[HE.out,HQ9.out] <;> rfl,H.below⟩
 ·have hle1:¬(p:Int)+1≤kl:=by omega
  obtain⟨d,rfl⟩:∃d,p=kl+d:=⟨p-kl,by omega⟩
  have hd:d<n7:=by omega
  have hd1:(d:Int)<n7:=by omega
  obtain⟨x,hx⟩:=atE HN7 hd
  have HE:Hid (z=bs (z1e x.1)):=hY (by rw[HZ.out,if_neg (by omega),if_neg hle,show kl+d+1-1-kl=d by omega,hx])
  have hs:=sl_at HG7.out hx
  rw[←HN7.out] at hs
  obtain⟨b,bff,c',cs,hv,hcs,hA⟩:=hs
  injection hv with hv1 hv2 hv3
  subst hv1 hv3
  clear hv2
  obtain⟨⟨xb1,_,_⟩,xl,_,_⟩:=HB.out x (List.mem_of_getElem? hx)
  obtain⟨u1,u2,u3,rfl,f1,f2,f3⟩:=bo_form hcs
  have c6:=fun w1 hb=>z1d _ x.1 (by omega) xb1 w1 (Ty.below _ f1 hb)
  obtain⟨F1,m1,rfl,_,_⟩:=sl_form f1
  obtain⟨F2,m2,rfl,_,_⟩:=sl_form f2
  obtain⟨F3,m3,rfl,_,_⟩:=sl_form f3
  have h0:w.cell? ⟨b,bff+d*3,none⟩=some (.slice F1 x.1.length m1):=hA.head rfl
  obtain⟨q,hq⟩:=nm (bs (cat putNum x.1))
  replace c6:∀w1,Below w.heap.size w w1→Gives Tryz.prog 84 #[.slice F1 x.1.length m1] w1 (.string q):=fun w1 hb=>by rw[hq];exact c6 w1 hb
  obtain⟨nh,hnh⟩:=nm x.1.length
  rw[←hnh] at h0 c6
  obtain⟨q2,hq2⟩:=nm (bs (putNum (nh:Int)))
  have c5:∀w1,Gives Tryz.prog 83 #[.int .i64 nh] w1 (.string q2):=fun w1=>by rw[hq2];exact putNum_i nh ⟨by omega,by omega⟩ w1
  have s1:q.size≤33:=by
   rw[hq,zsize_bs]
   have:=z0r (f:=putNum) (b:=11) (l:=x.1) fun n _=>(putNum_length n).2
   omega
  have s2:q2.size≤11:=by rw[hq2,zsize_bs];exact(putNum_length _).2
  have HE2:Hid (z=q2++q):=hY (by rw[HE.out,hq2,hq,hnh,bs_append];rfl)
  have he1:(kl:Int)+d-kl=d:=by omega
  clear hx hcs hA f1 f2 f3 HZ HE hq hq2 hnh xb1 xl c1 c2
  go_wp2_with (first|((with_reducible apply st_v H);rfl;(focus(unfold OpOk;go_simp;rw[wrap_id (by omega) (by omega)];(try rw[he1]);exact now_v));clear H;intro wn H;refine zp ?_)|((first|refine zL ?_|(go_at_call 83;refine gvF (c5 _) H ?_)|(go_at_call 84;refine gvF (c6 _ H.below) H ?_));clear H;intro wn H))
  go_ret
  exact⟨by rw[HE2.out] <;> rfl,H.below⟩
end Go.Proofs.YtcabgibdkmgdlaaGreat
namespace Go.Proofs.YtcabgibdkmgdlaaGreat
open Go.RowKit M
namespace M
theorem z7x{l:List Us}(h:z0m l=true):l.length≤48 ∧ ∀x ∈ l,x.2.1.size≤20∧bd x.2.2:=by
 unfold z0m at h
 rw[Bool.and_eq_true,allFrom_iff l.length 0 (by omega),decide_eq_true_eq] at h
 refine⟨h.2,fun x hx=>?_⟩
 obtain⟨i,hi,rfl⟩:=List.getElem_of_mem hx
 have h1:=h.1 i (by omega) hi
 unfold z3u at h1
 rw[List.getElem?_eq_getElem hi] at h1
 simp only[Bool.and_eq_true] at h1
 have h2:=h1.1
 unfold z0l nameOk isIn at h2
 simp only[Bool.and_eq_true,decide_eq_true_eq] at h2
 obtain⟨_,⟨⟨⟨_,a⟩,_⟩,_⟩,b,c⟩:=h2
 exact⟨by simpa using a,⟨by omega,by omega⟩⟩
theorem z2g{s:St}(h:z0b s=true)(hb:∀b ∈ s.2,(∀n ∈ b.1,bd n)∧(∀n ∈ b.2.1,bd n) ∧ ∀x ∈ b.2.2,bd x.1∧bd x.2):Fit s:=by
 unfold z0b z0j at h
 simp only[Bool.and_eq_true] at h
 obtain⟨⟨hc,hl,hn,ht,hu,hw,_⟩,hm,_⟩:=h
 have hu2:=z7x hu
 have hm0:=hm
 unfold mailOk at hm
 simp only[Bool.and_eq_true,decide_eq_true_eq] at hm
 obtain⟨_,hml,hma⟩:=hm
 rw[allFrom_iff s.2.length 0 (by omega)] at hma
 unfold cfgOk at hc
 simp only[Bool.and_eq_true,decide_eq_true_eq] at hc
 obtain⟨_,_,_,hp,_⟩:=hc
 unfold pairsOk at hp
 rw[Bool.and_eq_true,allFrom_iff s.1.1.2.1.length 0 (by omega),decide_eq_true_eq] at hp
 unfold nodesOk at hn
 simp only[Bool.and_eq_true,decide_eq_true_eq] at hn
 unfold isIn at hw
 simp only[Bool.and_eq_true,decide_eq_true_eq] at hw
 have ht2:=ht
 unfold tasksOk at ht2
 simp only[Bool.and_eq_true,decide_eq_true_eq] at ht2
 refine⟨⟨by omega,by omega⟩,hn.2.1,fun x hx=>List.all_eq_true.1 hn.2.2 x hx,fun x hx=>?_,ht2.1,hu2.2,hu2.1,hp.2,hml,fun b hbm=>?_⟩
 ·obtain ⟨i,hi,rfl⟩:=List.getElem_of_mem hx
  exact z2c ht i _ (List.getElem?_eq_getElem hi)
 ·obtain ⟨i,hi,rfl⟩:=List.getElem_of_mem hbm
  refine⟨hb _ hbm,?_⟩
  have h1:=hma i (by omega) hi
  have hip:i<s.1.1.2.1.length:=by omega
  have h2:=hp.1 i (by omega) hip
  unfold boxIn at h1
  unfold pairIn at h2
  rw[List.getElem?_eq_getElem hi,List.getElem?_eq_getElem hip] at h1
  rw[List.getElem?_eq_getElem hip] at h2
  unfold boxOk notesOk at h1
  unfold isIn at h2
  simp only[Bool.and_eq_true,decide_eq_true_eq] at h1 h2
  obtain⟨r1,r2,_,r3⟩:=h1
  have r4:=h2.2.2.2.2.2
  exact⟨by omega,by omega,r3⟩
end M
end Go.Proofs.YtcabgibdkmgdlaaGreat
namespace Go.Proofs.YtcabgibdkmgdlaaGreat
open Go.RowKit M
namespace M
def z1o(a:St)(r:Int):Bs:=if z0b a&&(decide (0≤r)&&decide (r≤(regsOf a.1.1:Int)-1)) then z1f a r.toNat else []
end M
theorem z8a(a:St)(cs:List Value)(r:Int)(hb1:bd r)(hok:okSt a)(hbd:∀b ∈ a.2,bdBo b)(w:World)(hr:tySt.rd w cs a):Gives Tryz.prog 23 #[.agg cs.toArray,.int .i64 r] w (.string (bs (z1o a r))):=by
 have c1:=fun w1 hb=>z1q a cs hok w1 (Ty.below _ hr hb)
 by_cases hs0:z0b a=false
 ·have e:z1o a r = []:=by unfold z1o;rw[hs0];rfl
  rw[e]
  rw[hs0] at c1
  obtain⟨A1,n1,k1,A2,n2,k2,A3,n3,k3,A4,n4,k4,A5,n5,k5,A6,n6,k6,A7,n7,k7,rfl,g1,g7⟩:=St_form hr
  obtain⟨_,_,_,_,_,_,_,_,_,_,_,_,_,_,_,_,_,_,ey,gc,_,_,_⟩:=Yd_form g1
  injection ey with e1 ey;injection ey with e2 ey;injection ey with e3 ey
  rw[←e1,←e2,←e3] at gc
  clear ey e1 e2 e3
  clear hr g1 g7 gc hs0 e hok hbd
  generalize a.1.1.2.2.2=hf at *
  generalize a.1.2.2.2.2=now at *
  replace c1:∀w1,Below w.heap.size w w1→Gives Tryz.prog 46 #[.agg #[.slice A1 n1 k1,.slice A2 n2 k2,.slice A3 n3 k3,.int .i64 hf,.slice A4 n4 k4,.slice A5 n5 k5,.slice A6 n6 k6,.int .i64 now,.slice A7 n7 k7]] w1 (.bool false):=c1
  have H:=Hs.start noRow w
  unfold Gives
  show Calls _ _ #[.agg #[.slice A1 n1 k1,.slice A2 n2 k2,.slice A3 n3 k3,.int .i64 hf,.slice A4 n4 k4,.slice A5 n5 k5,.slice A6 n6 k6,.int .i64 now,.slice A7 n7 k7],.int .i64 r] _ _
  go_enter Tryz.func23,Tryz.ntmps23
  go_wp2_with ((first|refine zM ?_|(refine zB 2 ?_;intro b2)|(go_at_call 46;refine gvF (c1 _ H.below) H ?_));clear H;intro wn H)
  go_ret
  exact⟨rfl,H.below⟩
 have hs:z0b a=true:=by simpa using hs0
 rw[hs] at c1
 have hfit:=z2g hs hbd
 have hcf:=z0k hs
 have hcl:=(cfg_labs hcf).1
 have h8:=(cfg_labs hcf).2
 have hpp:=(cfg_fits hcf).2.2.2
 have hbox:=hfit.box
 have hbl:=hfit.boxes
 have c6:=fun l w1 hb=>z7n a cs l hfit w1 (Ty.below _ hr hb)
 obtain⟨A1,n1,k1,A2,n2,k2,A3,n3,k3,A4,n4,k4,A5,n5,k5,A6,n6,k6,A7,n7,k7,rfl,g1,g7⟩:=St_form hr
 obtain⟨_,_,_,_,_,_,_,_,_,_,_,_,_,_,_,_,_,_,ey,gc,_,_,_⟩:=Yd_form g1
 injection ey with e1 ey;injection ey with e2 ey;injection ey with e3 ey
 rw[←e1,←e2,←e3] at gc
 clear ey e1 e2 e3
 have c2:=fun w1 hb=>regs_s a.1.1 _ hcf w1 (Ty.below _ gc hb)
 have c5:=fun w1 hb=>z7s a.1 _ hfit.now hfit.nodes hfit.node w1 (Ty.below _ g1 hb)
 obtain⟨_,_,_,ec,gl,_,_⟩:=cfg_form gc
 injection ec with e1 ec
 rw[←e1] at gl
 clear ec e1
 have c3:=fun w1 hb=>labels_s (.slice A1 n1 k1) a.1.1.1 w1 (Ty.below _ gl hb)
 have hn7:=(slN g7).1
 have HG7:=hY g7
 have HN7:=hY hn7
 have HB:=hY hbox
 obtain⟨z,hz⟩:=nm (bs (z1o a r))
 have HZ:Hid (z=bs (if decide (0≤r)&&decide (r≤(regsOf a.1.1:Int)-1) then (if r.toNat=0 then z5g a.1
  else if r.toNat≤(labelsOf a.1.1.1).length then (match (labelsOf a.1.1.1)[r.toNat-1]? with
   | some l=>z3z a l
   | none=>[])
  else match a.2[r.toNat-1-(labelsOf a.1.1.1).length]? with
   | some b=>z1e b.1
   | none=>[]) else [])):=hY (by rw[hz];unfold z1o;rw[hs];rfl)
 rw[←hz]
 have hrg:regsOf a.1.1=1+(labelsOf a.1.1.1).length+n7:=by unfold regsOf;omega
 have hn74:n7≤4:=by omega
 rw[hrg] at HZ c2
 clear hz hcl hn7 hbox hbl hpp hrg hs hs0 hfit hcf gl gc g1 g7 hr hok hbd
 generalize a.1.1.2.2.2=hf at *
 generalize a.1.2.2.2.2=now at *
 generalize hls:labelsOf a.1.1.1=ls at *
 clear hls
 replace c1:∀w1,Below w.heap.size w w1→Gives Tryz.prog 46 #[.agg #[.slice A1 n1 k1,.slice A2 n2 k2,.slice A3 n3 k3,.int .i64 hf,.slice A4 n4 k4,.slice A5 n5 k5,.slice A6 n6 k6,.int .i64 now,.slice A7 n7 k7]] w1 (.bool true):=c1
 replace c5:∀w1,Below w.heap.size w w1→Gives Tryz.prog 59 #[.agg #[.slice A1 n1 k1,.slice A2 n2 k2,.slice A3 n3 k3,.int .i64 hf,.slice A4 n4 k4,.slice A5 n5 k5,.slice A6 n6 k6,.int .i64 now]] w1 (.string (bs (z5g a.1))):=c5
 replace c6:∀(l:Lab) w1,Below w.heap.size w w1→Gives Tryz.prog 60 #[.agg #[.slice A1 n1 k1,.slice A2 n2 k2,.slice A3 n3 k3,.int .i64 hf,.slice A4 n4 k4,.slice A5 n5 k5,.slice A6 n6 k6,.int .i64 now,.slice A7 n7 k7],.agg #[.int .i64 l.1,.int .i64 l.2]] w1 (.string (bs (z3z a l))):=c6
 replace c2:∀w1,Below w.heap.size w w1→Gives Tryz.prog 48 #[.agg #[.slice A1 n1 k1,.slice A2 n2 k2,.slice A3 n3 k3,.int .i64 hf]] w1 (.int .i64 ((1+ls.length+n7:Nat):Int)):=c2
 have H:=Hs.start noRow w
 unfold Gives
 show Calls _ _ #[.agg #[.slice A1 n1 k1,.slice A2 n2 k2,.slice A3 n3 k3,.int .i64 hf,.slice A4 n4 k4,.slice A5 n5 k5,.slice A6 n6 k6,.int .i64 now,.slice A7 n7 k7],.int .i64 r] _ _
 go_enter Tryz.func23,Tryz.ntmps23
 go_wp2_with ((first|refine zU ?_|(refine zB 2 ?_;intro b2)|(go_at_call 46;refine gvF (c1 _ H.below) H ?_));clear H;intro wn H)
 refine(Rets.use (c3 _ H.below)).mono ?_;rintro e wn ⟨_,_,rfl,⟨N,hN,rfl,hone⟩,hkk⟩;refine zK ?_;clear H hkk;intro H
 have hN2:=own_single hN hone rfl
 clear hN hone c3 c1
 obtain⟨xs,M,B,cb,rfl,hO,_,Hn⟩:=own_open hN2 H
 clear H hN2
 have H:Hs noRow w (Hl.row 123 2 (.slice B ls.length cb) ls.length xs::Hl.all M::_) _:=Hn
 clear Hn
 have HOO:=hY hO
 clear hO
 obtain⟨kl,hkl⟩:=nm ls.length
 rw[←hkl] at HZ h8 c2
 simp only[←hkl] at H ⊢
 have HKL:=hY hkl
 clear hkl
 generalize hrg:1+kl+n7=rg at *
 have hrg9:rg≤13:=by omega
 by_cases h0:r<0
 ·have HE:Hid (z=bs []):=hY (by rw[HZ.out,if_neg (by simp;omega)])
  clear HZ c5 c6 c2
  go_wp2_with (fail)
  go_ret
  exact⟨by rw[HE.out];rfl,H.below⟩
 obtain⟨ρ,rfl⟩:∃m:Nat,r=(m:Int):=⟨r.toNat,by omega⟩
 have h00:¬(ρ:Int)<0:=by omega
 have h01:decide ((ρ:Int)<0)=false:=decide_eq_false h00
 clear h0
 by_cases hge:rg≤ρ
 ·have HE:Hid (z=bs []):=hY (by rw[HZ.out,if_neg (by simp;omega)])
  have hge1:(rg:Int)≤ρ:=by omega
  clear HZ c5 c6
  go_wp2_with (first|((((with_reducible refine st_gwF ?_ ?_);rfl));(try refine zp ?_))|((first|refine zM ?_|(go_at_call 48;refine gvF (c2 _ H.below) H ?_));clear H;intro wn H))
  go_ret
  exact⟨by rw[HE.out];rfl,H.below⟩
 have hge1:¬(rg:Int)≤ρ:=by omega
 have HZ2:Hid (z=bs (if ρ=0 then z5g a.1
  else if ρ≤kl then (match ls[ρ - 1]? with
   | some l=>z3z a l
   | none=>[])
  else match a.2[ρ - 1-kl]? with
   | some b=>z1e b.1
   | none=>[])):=hY (by rw[HZ.out,if_pos (by simp;omega),Int.toNat_natCast])
 clear HZ
 rcases Nat.eq_zero_or_pos ρ with rfl|hpos
 ·have HE:Hid (z=bs (z5g a.1)):=hY (by rw[HZ2.out,if_pos rfl])
  clear HZ2 c6
  go_wp2_with (first|((((with_reducible refine st_gwF ?_ ?_);rfl));(try refine zp ?_))|((first|refine zM ?_|(go_at_call 48;refine gvF (c2 _ H.below) H ?_)|(go_at_call 59;refine gvF (c5 _ H.below) H ?_));clear H;intro wn H))
  go_ret
  exact⟨by rw[HE.out] <;> rfl,H.below⟩
 obtain⟨p,rfl⟩:∃p,ρ=p+1:=⟨ρ - 1,by omega⟩
 have hr1:(((p:Int)+1)==0)=false:=beq_eq_false_iff_ne.2 (by omega)
 have hr2:¬(p:Int)+1=0:=by omega
 have hr3:¬(p:Int)+1<0:=by omega
 have hr4:¬(rg:Int)≤(p:Int)+1:=by omega
 by_cases hle:p+1≤kl
 ·have hle1:(p:Int)+1≤kl:=by omega
  have hpl:p<kl:=by omega
  have hpl1:(p:Int)<kl:=by omega
  have hpl2:(p:Int)+1-1<kl:=by omega
  obtain⟨x,hx⟩:=atE HKL hpl
  have HE:Hid (z=bs (z3z a x)):=hY (by rw[HZ2.out,if_neg (by omega),if_pos hle,show p+1-1=p from rfl,hx])
  obtain⟨y1,cs,y2,M1,Mi,M2,hxs,_,hyl,_,hcs,_⟩:=HOO.out.at_ hx
  obtain rfl:cs=encLab x:=hcs.1
  obtain⟨x1,x2⟩:=x
  have c6':=fun w1 hb=>c6 (x1,x2) w1 hb
  have hseg:Seg xs (p*2) [.int .i64 x1,.int .i64 x2]:=by rw[hxs];exact seg_mid y1 (encLab (x1,x2)) y2 hyl
  have hbb:∃gl,B=some ⟨gl,0,none⟩:=by
   obtain⟨gl,cl,e,_⟩:=(H.rows .here).form (by omega)
   injection e with e1
   exact⟨gl,e1⟩
  obtain⟨gl,rfl⟩:=hbb
  simp only at c6'
  obtain⟨q,hq⟩:=nm (bs (z3z a (x1,x2)))
  have HQ9:=hY hq
  rw[←hq] at c6'
  clear hx hxs hyl hcs c6 c5 HZ2 hq
  go_upto_region 10 with (first|refine zgU ?_|((with_reducible refine' st_guard ?_ ?_ ?_);rotate_left;rfl;(all_goals(intro hgd;cases hgd));(try refine zp ?_))|refine zgW ?_|refine zgS ?_|((first|refine zU ?_|(refine zB 2 ?_;intro b2)|(go_at_call 46;refine gvF (c1 _ H.below) H ?_)|(go_at_call 48;refine gvF (c2 _ H.below) H ?_)|(go_at_call 59;refine gvF (c5 _ H.below) H ?_)|(go_at_call 61;refine gvF (c7 _ H.below) H ?_));clear H;intro wn H))
  have Hq:=H.sel (M:=[Hl.row 123 2 (.slice (some ⟨gl,0,none⟩) kl cb) kl xs,Hl.blk b2 57 #[.slice A1 n1 k1,.slice A2 n2 k2,.slice A3 n3 k3,.int .i64 hf,.slice A4 n4 k4,.slice A5 n5 k5,.slice A6 n6 k6,.int .i64 now,.slice A7 n7 k7]]) sF
  clear H
  have H:=Hq
  clear Hq
  apply wp_region_hq H (by kernel_rfl) (by kernel_rfl);(iterate 3 ((with_reducible refine' hq_step ?_ ?_ ?_);rotate_left;(focus rfl);(focus(intro w1 H1;exact qLF));refine zp ?_;(try simp only[yG,yH,yJ,yK])));(with_reducible refine' hq_step ?_ ?_ ?_);rotate_left;(focus rfl);(focus(intro w1 H1;exact qWF));refine zp ?_;(iterate 1 ((with_reducible refine' hq_step ?_ ?_ ?_);rotate_left;(focus rfl);(focus(intro w1 H1;exact qLF));refine zp ?_;(try simp only[yG,yH,yJ,yK])));(with_reducible refine' hq_step ?_ ?_ ?_);rotate_left;(focus rfl);(focus(intro w1 H1;exact qRF));refine zp ?_;(with_reducible refine' hq_step ?_ ?_ ?_);rotate_left;(focus rfl);(focus(intro w1 H1;unfold QOk;go_simp;exact q_call (c6' _ @H1.below)));refine zp ?_;(iterate 1 ((with_reducible refine' hq_step ?_ ?_ ?_);rotate_left;(focus rfl);(focus(intro w1 H1;exact qLF));refine zp ?_;(try simp only[yG,yH,yJ,yK])));refine wpQuiet_nil ?_;clear H;intro wn H
  go_wp2_with (fail)
  go_ret
  exact⟨by rw[HE.out,HQ9.out] <;> rfl,H.below⟩
 ·have hle1:¬(p:Int)+1≤kl:=by omega
  obtain⟨d,rfl⟩:∃d,p=kl+d:=⟨p-kl,by omega⟩
  have hd:d<n7:=by omega
  have hd1:(d:Int)<n7:=by omega
  obtain⟨x,hx⟩:=atE HN7 hd
  have HE:Hid (z=bs (z1e x.1)):=hY (by rw[HZ2.out,if_neg (by omega),if_neg hle,show kl+d+1-1-kl=d by omega,hx])
  have hs:=sl_at HG7.out hx
  rw[←HN7.out] at hs
  obtain⟨b,bff,c',cs,hv,hcs,hA⟩:=hs
  injection hv with hv1 hv2 hv3
  subst hv1 hv3
  clear hv2
  obtain⟨⟨xb1,_,_⟩,xl,_,_⟩:=HB.out x (List.mem_of_getElem? hx)
  obtain⟨u1,u2,u3,rfl,f1,f2,f3⟩:=bo_form hcs
  have c7:=fun w1 hb=>z5e _ x.1 (by omega) xb1 w1 (Ty.below _ f1 hb)
  obtain⟨F1,m1,rfl,_,_⟩:=sl_form f1
  obtain⟨F2,m2,rfl,_,_⟩:=sl_form f2
  obtain⟨F3,m3,rfl,_,_⟩:=sl_form f3
  have h0:w.cell? ⟨b,bff+d*3,none⟩=some (.slice F1 x.1.length m1):=hA.head rfl
  obtain⟨q,hq⟩:=nm (bs (z1e x.1))
  have HE2:Hid (z=q):=hY (by rw[HE.out,hq])
  rw[←hq] at c7
  have he1:(kl:Int)+d-kl=d:=by omega
  clear hx hcs hA f1 f2 f3 HZ2 HE hq xb1 xl c5 c6
  go_wp2_with (first|((with_reducible apply st_v H);rfl;(focus(unfold OpOk;go_simp;rw[wrap_id (by omega) (by omega)];(try rw[he1]);exact now_v));clear H;intro wn H;refine zp ?_)|((((with_reducible refine st_gwF ?_ ?_);rfl));(try refine zp ?_))|((first|refine zU ?_|(go_at_call 48;refine gvF (c2 _ H.below) H ?_)|(go_at_call 61;refine gvF (c7 _ H.below) H ?_));clear H;intro wn H))
  go_ret
  exact⟨by rw[HE2.out] <;> rfl,H.below⟩
end Go.Proofs.YtcabgibdkmgdlaaGreat
namespace Go.Proofs.YtcabgibdkmgdlaaGreat
open Go.RowKit M
