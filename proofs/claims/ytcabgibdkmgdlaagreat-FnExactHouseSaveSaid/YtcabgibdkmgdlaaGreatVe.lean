import Derived.Test.YtcabgibdkmgdlaaGreatJ6
set_option linter.unusedSimpArgs false
set_option linter.unusedVariables false
set_option maxRecDepth 100000
set_option maxHeartbeats 16000000
namespace Go.Proofs.YtcabgibdkmgdlaaGreat
open Go.RowKit M
theorem taskRight_s(t:Ta)(cs:List Value)(hs:t.1.2.2.1.size≤maxLen)(w:World)(hr:tyTa.rd w cs t):Gives Tryz.prog 182 #[.agg cs.toArray] w (.bool (taskOk t)):=by
 obtain⟨A,n,k,rfl,h1⟩:=Ta_form hr
 obtain⟨⟨⟨l1,l2⟩,id,ow,need,long,prio,⟨u1,u2⟩,aft,born,st,start⟩,nodes⟩:=t
 simp only at h1 hs
 have hn:n=nodes.length∧n≤9223372036854775807:=by obtain⟨_,_,e,h,h'⟩:=sl_form h1;injection e;unfold maxLen at h';omega
 show Gives Tryz.prog _ #[.agg #[.int .i64 l1,.int .i64 l2,.int .i64 id,.string ow,.int .i64 need,.int .i64 long,.int .i64 prio,.int .i64 u1,.int .i64 u2,.int .i64 aft,.int .i64 born,.int .i64 st,.int .i64 start,.slice A n k]] w _
 rw[taskF_eq]
 have c1:=fun w1=>labelRight_s l1 l2 w1
 have c2:=fun w1=>nameRight_s ow hs w1
 have c4:=fun w1=>now_s born w1
 have c5:=fun w1=>Below_s (u1,u2) (l1,l2) w1
 have c6:=fun w1=>tim_s start w1
 have c7:=fun w1 hb=>nums_s _ nodes w1 (Ty.below _ h1 hb)
 rw[←hn.1]
 simp only at c5
 have hnl:=hn.2
 clear h1 hr hs hn
 generalize labelOk l1 l2=zl at *
 generalize nameOk ow.data.toList=zn at *
 generalize isIn born 0 999900=zb at *
 generalize (okL (u1,u2)&&(okL (l1,l2)&&belowB (u1,u2) (l1,l2)))=zB at *
 generalize isIn start 0 1000000=zT at *
 generalize numsOk nodes=zM at *
 have ei:isIn id 1 12=(decide ((1:Int)≤id)&&decide (id≤12)):=rfl
 have es:isIn st 1 6=(decide ((1:Int)≤st)&&decide (st≤6)):=rfl
 have ea:isIn aft 1 12=(decide ((1:Int)≤aft)&&decide (aft≤12)):=rfl
 have hza:(aft != 0)=false→(decide ((1:Int)≤aft)&&decide (aft≤12))=false:=by
  intro h
  have h0:aft=0:=by simpa using h
  subst h0
  rfl
 have ew:workOk need long prio=((decide ((1:Int)≤need)&&decide (need≤6))&&((decide ((1:Int)≤long)&&decide (long≤20))&&(decide ((0:Int)≤prio)&&decide (prio≤9)))):=rfl
 have ed:decide ((n:Int)=need)=((n:Int)==need):=by by_cases h:(n:Int)=need <;> simp[h]
 have en:(aft==0) = !(aft != 0):=by show (aft==0) = !(!(aft==0));rw[Bool.not_not]
 rw[ei,es,ea,ew,ed]
 obtain⟨y1,hy1⟩:∃z,(decide ((1:Int)≤need)&&decide (need≤6))=z:=⟨_,rfl⟩
 obtain⟨y2,hy2⟩:∃z,(decide ((1:Int)≤long)&&decide (long≤20))=z:=⟨_,rfl⟩
 obtain⟨y3,hy3⟩:∃z,(decide ((0:Int)≤prio)&&decide (prio≤9))=z:=⟨_,rfl⟩
 obtain⟨zE,hzE⟩:∃z,((n:Int)==need)=z:=⟨_,rfl⟩
 rw[hy1,hy2,hy3,hzE]
 clear ew ed
 obtain⟨zi,hi⟩:∃z,(decide ((1:Int)≤id)&&decide (id≤12))=z:=⟨_,rfl⟩
 obtain⟨zs,hs⟩:∃z,(decide ((1:Int)≤st)&&decide (st≤6))=z:=⟨_,rfl⟩
 obtain⟨za,ha⟩:∃z,(decide ((1:Int)≤aft)&&decide (aft≤12))=z:=⟨_,rfl⟩
 obtain⟨ma,hma⟩:∃z,(aft != 0)=z:=⟨_,rfl⟩
 obtain⟨mu,hmu⟩:∃z,eqB (u1,u2) (0,0)=z:=⟨_,rfl⟩
 obtain⟨ze,hze⟩:∃z,eqB (u1,u2) (l1,l2)=z:=⟨_,rfl⟩
 obtain⟨mg,hmg⟩:∃z,decide (id≤aft)=z:=⟨_,rfl⟩
 obtain⟨s2,hs2⟩:∃z,(st==2)=z:=⟨_,rfl⟩
 obtain⟨s1,hs1⟩:∃z,(st==1)=z:=⟨_,rfl⟩
 obtain⟨pl,hpl⟩:∃z,decide (0<n)=z:=⟨_,rfl⟩
 obtain⟨t0,ht0⟩:∃z,(start==0)=z:=⟨_,rfl⟩
 rw[hi,hs,ha,hma,hmu,hze,hmg,hs2,hs1,hpl,ht0]
 rw[ha,hma] at hza
 rw[hma] at en
 obtain⟨z,hz⟩:∃z,z=taskF zl zi zn (y1&&(y2&&y3)) zb zs ma mu za zB ze mg s2 s1 pl zT (zM&&zE) t0:=⟨_,rfl⟩
 rw[←hz]
 have HZ:=Lib.hid hz
 clear hz ei es ea
 have H:=Hs.start noRow w
 unfold Gives
 rcases zl with _|_
 rotate_left
 rcases zi with _|_
 rotate_left
 rcases zn with _|_
 rotate_left
 rcases y1 with _|_
 rotate_left
 rcases y2 with _|_
 rotate_left
 rcases y3 with _|_
 rotate_left
 rcases zb with _|_
 rotate_left
 rcases zs with _|_
 rotate_left
 have hd:((ma=false∧mu=true)∨(ma=true∧za=true∧zB=true∧ze=false)∨(ma=true∧za=true∧zB=true∧ze=true∧mg=false))∨((ma=true∧za=false)∨(ma=false∧mu=false∧za=false)∨(ma=true∧za=true∧zB=false)∨(ma=true∧za=true∧zB=true∧ze=true∧mg=true)):=by
  revert hza
  cases ma <;> cases mu <;> cases za <;> cases zB <;> cases ze <;> cases mg <;> simp
 clear hza
 rcases hd with hd|hd
 ·have hp:(s2=true∧zT=false)∨(s2=true∧zT=true∧zE=false)∨(s2=true∧zT=true∧zE=true)∨(s2=false∧s1=true∧pl=true∧zT=false)∨(s2=false∧s1=true∧pl=true∧zT=true∧zE=false)∨(s2=false∧s1=true∧pl=true∧zT=true∧zE=true)∨(s2=false∧s1=true∧pl=false∧t0=false)∨(s2=false∧s1=true∧pl=false∧t0=true)∨(s2=false∧s1=false∧t0=false)∨(s2=false∧s1=false∧t0=true∧pl=false)∨(s2=false∧s1=false∧t0=true∧pl=true):=by
   cases s2 <;> cases s1 <;> cases pl <;> cases zT <;> cases zE <;> cases t0 <;> simp
  have hnf:(pl=false→((n:Int)==0)=true)∧(pl=true→((n:Int)==0)=false):=by
   rw[←hpl]
   refine⟨fun h=>?_,fun h=>?_⟩ <;> simp at h ⊢ <;> omega
  rcases hd with ⟨rfl,rfl⟩|⟨rfl,rfl,rfl,rfl⟩|⟨rfl,rfl,rfl,rfl,rfl⟩
  all_goals rcases hp with ⟨rfl,rfl⟩|⟨rfl,rfl,rfl⟩|⟨rfl,rfl,rfl⟩|⟨rfl,rfl,rfl,rfl⟩|⟨rfl,rfl,rfl,rfl,rfl⟩|⟨rfl,rfl,rfl,rfl,rfl⟩|⟨rfl,rfl,rfl,rfl⟩|⟨rfl,rfl,rfl,rfl⟩|⟨rfl,rfl,rfl⟩|⟨rfl,rfl,rfl,rfl⟩|⟨rfl,rfl,rfl,rfl⟩
  all_goals(try have hn1:=hnf.1 rfl)
  all_goals(try have hn2:=hnf.2 rfl)
  all_goals clear hnf
  all_goals(
   as_aux_lemma=>
    go_enter Tryz.func182,Tryz.ntmps182
    go_wp2_with (first|((first|((with_reducible refine st_gwT ?_ ?_);rfl)|((with_reducible refine st_gwF ?_ ?_);rfl)|((with_reducible refine st_gsT ?_ ?_);rfl)|((with_reducible refine st_gsF ?_ ?_);rfl));(try simp only[Act.put,yA,yB,yC,yD,yE,yF]))|((first|((with_reducible apply st_load1 H);decide +kernel;rfl;exact cF)|((with_reducible apply st_loads H);decide +kernel;rfl;exact iF;exact zF;rfl));clear H;intro wn H;(try simp only[splice,yG,yH,yI,yJ,yK,yL,yM,yN,yO,yP,yQ,Nat.reduceAdd,yA,yB,yC] at H);simp only[Act.put,yA,yB,yC,yD,yE,yF])|((first|((with_reducible apply st_box (dst:=some 1) H);exact nF;intro b1)|((first|((with_reducible apply st_eqLabz H);rfl;rfl;(focus assumption))|((with_reducible apply st_neLabz H);rfl;rfl;(focus assumption)))));clear H;intro wn H;simp only[Act.put,yA,yB,yC,yD,yE,yF])|((first|(go_at_call 250;refine gvF (c1 _) H ?_)|(go_at_call 50;refine gvF (is_s _ _ _ _) H ?_)|(go_at_call 251;refine gvF (c2 _) H ?_)|(go_at_call 171;refine gvF (c4 _) H ?_)|(go_at_call 257;refine gvF (c5 _) H ?_)|(go_at_call 49;refine gvF (c6 _) H ?_)|(go_at_call 258;refine gvF (c7 _ H.below) H ?_));clear H;intro wn H))
    go_ret
    exact⟨by rw[HZ.out];(first|rfl|(cases zM <;> rfl)),H.below⟩)
 rcases hd with ⟨rfl,rfl⟩|⟨rfl,rfl,rfl⟩|⟨rfl,rfl,rfl⟩|⟨rfl,rfl,rfl,rfl,rfl⟩
 all_goals(
  as_aux_lemma=>
   go_enter Tryz.func182,Tryz.ntmps182
   go_wp2_with (first|((first|((with_reducible refine st_gwT ?_ ?_);rfl)|((with_reducible refine st_gwF ?_ ?_);rfl)|((with_reducible refine st_gsT ?_ ?_);rfl)|((with_reducible refine st_gsF ?_ ?_);rfl));(try simp only[Act.put,yA,yB,yC,yD,yE,yF]))|((first|((with_reducible apply st_load1 H);decide +kernel;rfl;exact cF)|((with_reducible apply st_loads H);decide +kernel;rfl;exact iF;exact zF;rfl));clear H;intro wn H;(try simp only[splice,yG,yH,yI,yJ,yK,yL,yM,yN,yO,yP,yQ,Nat.reduceAdd,yA,yB,yC] at H);simp only[Act.put,yA,yB,yC,yD,yE,yF])|((first|((with_reducible apply st_box (dst:=some 1) H);exact nF;intro b1)|((first|((with_reducible apply st_eqLabz H);rfl;rfl;(focus assumption))|((with_reducible apply st_neLabz H);rfl;rfl;(focus assumption)))));clear H;intro wn H;simp only[Act.put,yA,yB,yC,yD,yE,yF])|((first|(go_at_call 250;refine gvF (c1 _) H ?_)|(go_at_call 50;refine gvF (is_s _ _ _ _) H ?_)|(go_at_call 251;refine gvF (c2 _) H ?_)|(go_at_call 171;refine gvF (c4 _) H ?_)|(go_at_call 257;refine gvF (c5 _) H ?_));clear H;intro wn H))
   go_ret
   exact⟨by rw[HZ.out];(first|rfl|(cases zM <;> rfl)),H.below⟩)
