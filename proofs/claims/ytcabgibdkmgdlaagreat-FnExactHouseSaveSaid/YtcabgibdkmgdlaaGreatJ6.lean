import Derived.Test.YtcabgibdkmgdlaaGreatJ5
import Derived.Test.YtcabgibdkmgdlaaGreatG7
import Derived.Test.YtcabgibdkmgdlaaGreatJ4
import Derived.Test.YtcabgibdkmgdlaaGreatJ3
import Derived.Test.YtcabgibdkmgdlaaGreatG4
set_option linter.unusedSimpArgs false
set_option linter.unusedVariables false
set_option maxRecDepth 100000
set_option maxHeartbeats 16000000
namespace Go.Proofs.YtcabgibdkmgdlaaGreat
open Go.RowKit M
namespace M
def taskF(zl zi zn zw zb zs ma mu za zB ze mg s2 s1 pl zT zP t0:Bool):Bool:=
 (zl&&(zi&&(zn&&(zw&&(zb&&zs)))))&&((if (!ma&&mu) then true else (za&&zB) && !(ze&&mg))&&(if (s2 || (s1&&pl)) then zT&&zP else t0 && !pl))
theorem taskF_eq(l1 l2 id:Int)(ow:ByteArray)(need long prio u1 u2 aft born st start:Int)(nodes:List Int):
  taskOk (((l1,l2),id,ow,need,long,prio,(u1,u2),aft,born,st,start),nodes)=taskF (labelOk l1 l2) (isIn id 1 12) (nameOk ow.data.toList) (workOk need long prio) (isIn born 0 999900) (isIn st 1 6)
   (aft != 0) (eqB (u1,u2) (0,0)) (isIn aft 1 12) (okL (u1,u2)&&(okL (l1,l2)&&belowB (u1,u2) (l1,l2))) (eqB (u1,u2) (l1,l2)) (decide (id≤aft)) (st==2) (st==1) (decide (0<nodes.length)) (isIn start 0 1000000) (numsOk nodes&&decide ((nodes.length:Int)=need)) (start==0):=by
 unfold taskOk taskF taskHead taskDep taskPlace
 have e1:(!(aft != 0)&&eqB (u1,u2) (0,0))=decide (aft=0∧u1=0∧u2=0):=by
  unfold eqB
  by_cases h1:aft=0 <;> by_cases h2:u1=0 <;> by_cases h3:u2=0 <;> simp[h1,h2,h3]
 have e2:((st==2) || ((st==1)&&decide (0<nodes.length)))=decide (st=2∨(st=1∧0<nodes.length)):=by
  by_cases h1:st=2 <;> by_cases h2:st=1 <;> by_cases h3:0<nodes.length <;> simp[h1,h2,h3]
 have e3:(decide (start=0)&&decide (nodes.length=0))=((start==0) && !decide (0<nodes.length)):=by
  by_cases h1:start=0 <;> by_cases h3:nodes.length=0 <;> simp[h1,h3]
  try omega
 rw[e1,e2]
 simp only[decide_eq_true_eq,e3]
end M
theorem hasPlace_i(l1 l2 id:Int)(ow:ByteArray)(need long prio u1 u2 aft born st start:Int)(A:Option Addr)(n k:Nat)(hn:n≤9223372036854775807)(w:World):
  Gives Tryz.prog 283 #[.agg #[.int .i64 l1,.int .i64 l2,.int .i64 id,.string ow,.int .i64 need,.int .i64 long,.int .i64 prio,.int .i64 u1,.int .i64 u2,.int .i64 aft,.int .i64 born,.int .i64 st,.int .i64 start,.slice A n k]] w (.bool (decide (0<n))):=by
 have H:=Hs.start noRow w
 unfold Gives
 go_enter Tryz.func283,Tryz.ntmps283
 go_wp2_with (first|((((with_reducible apply st_load1 H);decide +kernel;rfl;exact cF));clear H;intro wn H;(try simp only[splice,yG,yH,yI,yJ,yK,yL,yM,yN,yO,yP,yQ,Nat.reduceAdd,yA,yB,yC] at H);simp only[Act.put,yA,yB,yC,yD,yE,yF])|((((with_reducible apply st_box (dst:=some 1) H);exact nF;intro b1));clear H;intro wn H;simp only[Act.put,yA,yB,yC,yD,yE,yF]))
 go_ret
 exact⟨rfl,H.below⟩
theorem taskRight_i(t:Ta)(cs:List Value)(hs:t.1.2.2.1.size≤maxLen)(w:World)(hr:tyTa.rd w cs t):Gives Tryz.prog 215 #[.agg cs.toArray] w (.bool (taskOk t)):=by
 obtain⟨A,n,k,rfl,h1⟩:=Ta_form hr
 obtain⟨⟨⟨l1,l2⟩,id,ow,need,long,prio,⟨u1,u2⟩,aft,born,st,start⟩,nodes⟩:=t
 simp only at h1 hs
 have hn:n=nodes.length∧n≤9223372036854775807:=by obtain⟨_,_,e,h,h'⟩:=sl_form h1;injection e;unfold maxLen at h';omega
 show Gives Tryz.prog _ #[.agg #[.int .i64 l1,.int .i64 l2,.int .i64 id,.string ow,.int .i64 need,.int .i64 long,.int .i64 prio,.int .i64 u1,.int .i64 u2,.int .i64 aft,.int .i64 born,.int .i64 st,.int .i64 start,.slice A n k]] w _
 rw[taskF_eq]
 have c1:=fun w1=>labelRight_i l1 l2 w1
 have c2:=fun w1=>nameRight_i ow hs w1
 have c3:=fun w1=>isWork_i need long prio w1
 have c4:=fun w1=>isNow_i born w1
 have c5:=fun w1=>Below_i (u1,u2) (l1,l2) w1
 have c6:=fun w1=>tim_i start w1
 have c7:=fun w1 hb=>nums_i _ nodes need w1 (Ty.below _ h1 hb)
 have c8:=fun w1=>hasPlace_i l1 l2 id ow need long prio u1 u2 aft born st start A n k hn.2 w1
 rw[←hn.1] at c7 ⊢
 simp only at c5
 clear h1 hr hs hn
 generalize labelOk l1 l2=zl at *
 generalize nameOk ow.data.toList=zn at *
 generalize workOk need long prio=zw at *
 generalize isIn born 0 999900=zb at *
 generalize (okL (u1,u2)&&(okL (l1,l2)&&belowB (u1,u2) (l1,l2)))=zB at *
 generalize isIn start 0 1000000=zT at *
 generalize (numsOk nodes&&decide ((n:Int)=need))=zP at *
 have ei:isIn id 1 12=(decide ((1:Int)≤id)&&decide (id≤12)):=rfl
 have es:isIn st 1 6=(decide ((1:Int)≤st)&&decide (st≤6)):=rfl
 have ea:isIn aft 1 12=(decide ((1:Int)≤aft)&&decide (aft≤12)):=rfl
 have hza:(aft != 0)=false→(decide ((1:Int)≤aft)&&decide (aft≤12))=false:=by
  intro h
  have h0:aft=0:=by simpa using h
  subst h0
  rfl
 rw[ei,es,ea]
 obtain⟨zi,hi⟩:∃z,(decide ((1:Int)≤id)&&decide (id≤12))=z:=⟨_,rfl⟩
 obtain⟨zs,hs⟩:∃z,(decide ((1:Int)≤st)&&decide (st≤6))=z:=⟨_,rfl⟩
 obtain⟨za,ha⟩:∃z,(decide ((1:Int)≤aft)&&decide (aft≤12))=z:=⟨_,rfl⟩
 obtain⟨ma,hma⟩:∃z,(aft != 0)=z:=⟨_,rfl⟩
 obtain⟨mu,hmu⟩:∃z,eqB (u1,u2) (0,0)=z:=⟨_,rfl⟩
 obtain⟨ze,hze⟩:∃z,eqB (u1,u2) (l1,l2)=z:=⟨_,rfl⟩
 obtain⟨mg,hmg⟩:∃z,decide (id≤aft)=z:=⟨_,rfl⟩
 obtain⟨s2,hs2⟩:∃z,(st==2)=z:=⟨_,rfl⟩
 obtain⟨s1,hs1⟩:∃z,(st==1)=z:=⟨_,rfl⟩
 obtain⟨pl,hpl⟩:∃z,decide (0<n)=z:=⟨_,rfl⟩
 obtain⟨t0,ht0⟩:∃z,(start==0)=z:=⟨_,rfl⟩
 rw[hi,hs,ha,hma,hmu,hze,hmg,hs2,hs1,hpl,ht0]
 rw[ha,hma] at hza
 rw[hpl] at c8
 obtain⟨z,hz⟩:∃z,z=taskF zl zi zn zw zb zs ma mu za zB ze mg s2 s1 pl zT zP t0:=⟨_,rfl⟩
 rw[←hz]
 have HZ:=Lib.hid hz
 clear hz ei es ea
 have H:=Hs.start noRow w
 unfold Gives
 rcases zl with _|_
 rotate_left
 rcases zi with _|_
 rotate_left
 rcases zn with _|_
 rotate_left
 rcases zw with _|_
 rotate_left
 rcases zb with _|_
 rotate_left
 rcases zs with _|_
 rotate_left
 have hd:((ma=false∧mu=true)∨(ma=true∧za=true∧zB=true∧ze=false)∨(ma=true∧za=true∧zB=true∧ze=true∧mg=false))∨((ma=true∧za=false)∨(ma=false∧mu=false∧za=false)∨(ma=true∧za=true∧zB=false)∨(ma=true∧za=true∧zB=true∧ze=true∧mg=true)):=by
  revert hza
  cases ma <;> cases mu <;> cases za <;> cases zB <;> cases ze <;> cases mg <;> simp
 clear hza
 rcases hd with hd|hd
 ·have hp:(s2=true∧zT=false)∨(s2=true∧zT=true)∨(s2=false∧s1=true∧pl=true∧zT=false)∨(s2=false∧s1=true∧pl=true∧zT=true)∨(s2=false∧s1=true∧pl=false∧t0=false)∨(s2=false∧s1=true∧pl=false∧t0=true)∨(s2=false∧s1=false∧t0=false)∨(s2=false∧s1=false∧t0=true):=by
   cases s2 <;> cases s1 <;> cases pl <;> cases zT <;> cases t0 <;> simp
  rcases hd with ⟨rfl,rfl⟩|⟨rfl,rfl,rfl,rfl⟩|⟨rfl,rfl,rfl,rfl,rfl⟩
  all_goals rcases hp with ⟨rfl,rfl⟩|⟨rfl,rfl⟩|⟨rfl,rfl,rfl,rfl⟩|⟨rfl,rfl,rfl,rfl⟩|⟨rfl,rfl,rfl,rfl⟩|⟨rfl,rfl,rfl,rfl⟩|⟨rfl,rfl,rfl⟩|⟨rfl,rfl,rfl⟩
  all_goals(
   go_enter Tryz.func215,Tryz.ntmps215
   go_wp2_with (first|((first|((with_reducible refine st_gwT ?_ ?_);rfl)|((with_reducible refine st_gwF ?_ ?_);rfl)|((with_reducible refine st_gsT ?_ ?_);rfl)|((with_reducible refine st_gsF ?_ ?_);rfl));(try simp only[Act.put,yA,yB,yC,yD,yE,yF]))|((first|((with_reducible apply st_load1 H);decide +kernel;rfl;exact cF)|((with_reducible apply st_loads H);decide +kernel;rfl;exact iF;exact zF;rfl));clear H;intro wn H;(try simp only[splice,yG,yH,yI,yJ,yK,yL,yM,yN,yO,yP,yQ,Nat.reduceAdd,yA,yB,yC] at H);simp only[Act.put,yA,yB,yC,yD,yE,yF])|((first|((with_reducible apply st_box (dst:=some 1) H);exact nF;intro b1)|((first|((with_reducible apply st_eqLabz H);rfl;rfl;(focus assumption))|((with_reducible apply st_neLabz H);rfl;rfl;(focus assumption)))));clear H;intro wn H;simp only[Act.put,yA,yB,yC,yD,yE,yF])|((first|(go_at_call 274;refine gvF (c1 _) H ?_)|(go_at_call 71;refine gvF (within_i _ _ _ _) H ?_)|(go_at_call 275;refine gvF (c2 _) H ?_)|(go_at_call 301;refine gvF (c3 _) H ?_)|(go_at_call 195;refine gvF (c4 _) H ?_)|(go_at_call 302;refine gvF (c5 _) H ?_)|(go_at_call 283;refine gvF (c8 _) H ?_)|(go_at_call 70;refine gvF (c6 _) H ?_)|(go_at_call 303;refine gvF (c7 _ H.below) H ?_));clear H;intro wn H))
   go_ret
   exact⟨by rw[HZ.out];rfl,H.below⟩)
 rcases hd with ⟨rfl,rfl⟩|⟨rfl,rfl,rfl⟩|⟨rfl,rfl,rfl⟩|⟨rfl,rfl,rfl,rfl,rfl⟩
 all_goals(
  go_enter Tryz.func215,Tryz.ntmps215
  go_wp2_with (first|((first|((with_reducible refine st_gwT ?_ ?_);rfl)|((with_reducible refine st_gwF ?_ ?_);rfl)|((with_reducible refine st_gsF ?_ ?_);rfl));(try simp only[Act.put,yA,yB,yC,yD,yE,yF]))|((first|((with_reducible apply st_load1 H);decide +kernel;rfl;exact cF)|((with_reducible apply st_loads H);decide +kernel;rfl;exact iF;exact zF;rfl));clear H;intro wn H;(try simp only[splice,yG,yH,yI,yJ,yK,yL,yM,yN,yO,yP,yQ,Nat.reduceAdd,yA,yB,yC] at H);simp only[Act.put,yA,yB,yC,yD,yE,yF])|((first|((with_reducible apply st_box (dst:=some 1) H);exact nF;intro b1)|((first|((with_reducible apply st_eqLabz H);rfl;rfl;(focus assumption))|((with_reducible apply st_neLabz H);rfl;rfl;(focus assumption)))));clear H;intro wn H;simp only[Act.put,yA,yB,yC,yD,yE,yF])|((first|(go_at_call 274;refine gvF (c1 _) H ?_)|(go_at_call 71;refine gvF (within_i _ _ _ _) H ?_)|(go_at_call 275;refine gvF (c2 _) H ?_)|(go_at_call 301;refine gvF (c3 _) H ?_)|(go_at_call 195;refine gvF (c4 _) H ?_)|(go_at_call 302;refine gvF (c5 _) H ?_));clear H;intro wn H))
  go_ret
  exact⟨by rw[HZ.out];rfl,H.below⟩)
end Go.Proofs.YtcabgibdkmgdlaaGreat
namespace Go.Proofs.YtcabgibdkmgdlaaGreat
open Go.RowKit M
namespace M
def taskNo(l:List Ta)(i:Nat)(x:Ta):Bool:=match i with
 | 0=>x.1.2.1==1
 | j+1=>match l[j]? with
  | some y=>decide (cmpL y.1.1 x.1.1≤0)&&x.1.2.1==(if cmpL y.1.1 x.1.1=0 then y.1.2.1+1 else 1)
  | none=>true
def tkUnd(x:Ta):Lab:=x.1.2.2.2.2.2.2.1
def tkAft(x:Ta):Int:=x.1.2.2.2.2.2.2.2.1
def taskIn(l:List Ta)(i:Nat):Bool:=match l[i]? with
 | some x=>taskOk x&&(taskNo l i x&&(!(tkAft x != 0) || !decide (idxF (tkEq (tkUnd x) (tkAft x)) 0 l<0)))
 | none=>true
def tasksOk(l:List Ta):Bool:=decide (l.length≤96)&&allFrom (taskIn l) l.length 0
theorem taskOk_id{x:Ta}(h:taskOk x=true):1≤x.1.2.1∧x.1.2.1≤12:=by
 obtain⟨⟨⟨l1,l2⟩,id,ow,need,long,prio,⟨u1,u2⟩,aft,born,st,start⟩,nodes⟩:=x
 unfold taskOk taskHead isIn at h
 simp only[Bool.and_eq_true,decide_eq_true_eq] at h
 exact h.1.2.1
end M
theorem tasksRight_i(v:Value)(l:List Ta)(hs:∀(i:Nat) (x:Ta),l[i]? = some x→x.1.2.2.1.size≤maxLen)(w:World)(hr:(Ty.sl 177 tyTa).rd w [v] l):Gives Tryz.prog 193 #[v] w (.bool (tasksOk l)):=by
 have HR0:=Lib.hid hr
 obtain⟨A,c,rfl,hlc,hcm⟩:=sl_form hr
 have HS:=Lib.hid hs
 clear hs
 unfold maxLen at hcm
 have HR:=Lib.hid hr
 obtain⟨n,hn⟩:∃n,n=l.length:=⟨_,rfl⟩
 have hnl:n≤9223372036854775807:=by omega
 rw[←hn] at HR HR0 ⊢
 have HN:=Lib.hid hn
 obtain⟨z,hz⟩:∃z,z=tasksOk l:=⟨_,rfl⟩
 rw[←hz]
 have hz':z=(decide (n≤96)&&allFrom (taskIn l) n 0):=by rw[hz,hn];rfl
 obtain⟨f,hf'⟩:∃f,f=taskIn l:=⟨_,rfl⟩
 rw[←hf'] at hz'
 have HF:=Lib.hid hf'
 clear hr hn hlc hcm hz hf'
 have H:=Hs.start noRow w
 unfold Gives
 by_cases hm:96<n
 ·have HZ:Hid (z=false):=Lib.hid (by rw[hz'];simp;omega)
  have hm':(96:Int)<(n:Int):=by omega
  clear hz'
  go_enter Tryz.func193,Tryz.ntmps193
  go_wp2_with (fail)
  go_ret
  exact⟨by rw[HZ.out];rfl,H.below⟩
 have HZ:Hid (z=allFrom f n 0):=Lib.hid (by rw[hz'];simp;omega)
 have hm':¬(96:Int)<(n:Int):=by omega
 clear hz'
 go_enter Tryz.func193,Tryz.ntmps193
 go_wp2_with (fail)
 go_loopg [12] n (fun m iv wr=>∃(i:Nat),i+m=n∧iv = .int .i64 i∧Hid (z=allFrom f n i)∧Hid (∀j y,j<i→l[j]? = some y→taskOk y=true)∧Hs noRow w [] wr)
 case atStart=>exact⟨0,by omega,rfl,HZ,Lib.hid (fun j y h=>by omega),H⟩
 case round=>
  clear H HZ
  obtain⟨i,hi,rfl,HI,HT,H⟩:=hrel
  by_cases hlt:i<n
  ·obtain ⟨x,hx⟩:∃x,l[i]? = some x:=⟨l[i]'(by rw[←HN.out];exact hlt),List.getElem?_eq_getElem (by rw[←HN.out];exact hlt)⟩
   have hs:=sl_at (by have:=HR.out;rw[HN.out] at this;exact this) hx
   rw[←HN.out] at hs
   obtain⟨b,off,c',cs,hv,hcs,hA⟩:=hs
   injection hv with hv1 hv2 hv3
   subst hv1 hv3
   have c1:=fun w1 hb=>taskRight_i x cs (HS.out i x hx) w1 (Ty.below _ hcs hb)
   obtain⟨A9,m9,j9,rfl,_⟩:=Ta_form hcs
   have hstep:=HI.out
   have hfi:f i=(taskOk x&&(taskNo l i x&&(!(tkAft x != 0) || !decide (idxF (tkEq (tkUnd x) (tkAft x)) 0 l<0)))):=by rw[HF.out];unfold taskIn;rw[hx]
   rw[allFrom_step hlt,hfi] at hstep
   clear hfi
   have hlt1:(i:Int)<n:=by omega
   obtain⟨z1,hz1⟩:∃z1,taskOk x=z1:=⟨_,rfl⟩
   rw[hz1] at hstep c1
   have HT2:z1=true→Hid (∀j y,j<i+1→l[j]? = some y→taskOk y=true):=fun hzt=>Lib.hid (fun j y hj hy=>by
    by_cases h:j<i
    ·exact HT.out j y h hy
    ·obtain rfl:j=i:=by omega
     rw[hx] at hy
     injection hy with hy
     subst hy
     rw[hz1,hzt])
   clear hz1
   have c2:=fun w1 hb=>taskAt_i _ l (tkUnd x) (tkAft x) w1 (Ty.below _ HR0.out hb)
   obtain⟨⟨⟨l1,l2⟩,id,ow,need,long,prio,⟨u1,u2⟩,aft,born,st,start⟩,nodes⟩:=x
   unfold tkUnd tkAft at c2 hstep
   simp only at c1 c2 hA hstep
   generalize idxF (tkEq (u1,u2) aft) 0 l=q at *
   obtain⟨m2,hm2⟩:∃m,(aft != 0)=m:=⟨_,rfl⟩
   obtain⟨m3,hm3⟩:∃m,decide (q<0)=m:=⟨_,rfl⟩
   rw[hm2,hm3] at hstep
   clear hx hv2 hcs
   cases z1
   case false=>
    have HI2:Hid (z=false):=Lib.hid (by rw[hstep];simp)
    clear hstep
    go_wp2_with (first|((first|((with_reducible apply st_loads H);decide +kernel;rfl;exact iF;exact zF;rfl)|((with_reducible apply st_store H);rfl;exact eF;(focus(exact cells_agg _));exact uF;kernel_rfl;(focus(exact Nat.le_of_ble_eq_true (by rfl)));(focus(rfl))));clear H;intro wn H;(try simp only[splice,yG,yH,yI,yJ,yK,yL,yM,yN,yO,yP,yQ,Nat.reduceAdd,yA,yB,yC] at H);simp only[Act.put,yA,yB,yC,yD,yE,yF])|((first|((with_reducible apply st_alloc (dst:=some 4) H);exact nF;intro b4)|((with_reducible apply st_loadat H);decide +kernel;rfl;exact aF;exact zF;rfl));clear H;intro wn H;simp only[Act.put,yA,yB,yC,yD,yE,yF])|(((go_at_call 215;refine gvF (c1 _ H.below) H ?_));clear H;intro wn H))
    go_ret
    exact⟨by rw[HI2.out];rfl,H.below⟩
   have HT3:=HT2 rfl
   clear HT2 HT
   cases i with
   | zero=>
    have hno:taskNo l 0 (((l1,l2),id,ow,need,long,prio,(u1,u2),aft,born,st,start),nodes) = !(id != 1):=by unfold taskNo;show (id==1) = !(!(id==1));rw[Bool.not_not]
    rw[hno] at hstep
    clear hno
    obtain⟨m1,hm1⟩:∃m,(id != 1)=m:=⟨_,rfl⟩
    rw[hm1] at hstep
    have hd:(m1=true∨(m1=false∧m2=true∧m3=true))∨((m1=false∧m2=false)∨(m1=false∧m2=true∧m3=false)):=by cases m1 <;> cases m2 <;> cases m3 <;> simp
    rcases hd with hd|hd
    ·rcases hd with rfl|⟨rfl,rfl,rfl⟩
     all_goals(
      have HI2:Hid (z=false):=Lib.hid (by rw[hstep];simp)
      clear hstep
      go_wp2_with (first|((first|((with_reducible refine st_gwT ?_ ?_);rfl)|((with_reducible refine st_gwF ?_ ?_);rfl)|((with_reducible refine st_gsF ?_ ?_);rfl));(try simp only[Act.put,yA,yB,yC,yD,yE,yF]))|((first|((with_reducible apply st_load1 H);decide +kernel;rfl;exact cF)|((with_reducible apply st_loads H);decide +kernel;rfl;exact iF;exact zF;rfl)|((with_reducible apply st_store H);rfl;exact eF;(focus(exact cells_agg _));exact uF;kernel_rfl;(focus(exact Nat.le_of_ble_eq_true (by rfl)));(focus(rfl))));clear H;intro wn H;(try simp only[splice,yG,yH,yI,yJ,yK,yL,yM,yN,yO,yP,yQ,Nat.reduceAdd,yA,yB,yC] at H);simp only[Act.put,yA,yB,yC,yD,yE,yF])|((first|((with_reducible apply st_alloc (dst:=some 4) H);exact nF;intro b4)|((with_reducible apply st_loadat H);decide +kernel;rfl;exact aF;exact zF;rfl));clear H;intro wn H;simp only[Act.put,yA,yB,yC,yD,yE,yF])|((first|(go_at_call 215;refine gvF (c1 _ H.below) H ?_)|(go_at_call 273;refine gvF (c2 _ H.below) H ?_));clear H;intro wn H))
      go_ret
      exact⟨by rw[HI2.out];rfl,H.below⟩)
    ·rcases hd with ⟨rfl,rfl⟩|⟨rfl,rfl,rfl⟩
     all_goals(
      have HI2:Hid (z=allFrom f n (0+1)):=Lib.hid (by rw[hstep];simp)
      clear hstep
      go_wp2_with (first|((first|((with_reducible refine st_gwT ?_ ?_);rfl)|((with_reducible refine st_gwF ?_ ?_);rfl));(try simp only[Act.put,yA,yB,yC,yD,yE,yF]))|((first|((with_reducible apply st_load1 H);decide +kernel;rfl;exact cF)|((with_reducible apply st_loads H);decide +kernel;rfl;exact iF;exact zF;rfl)|((with_reducible apply st_store H);rfl;exact eF;(focus(exact cells_agg _));exact uF;kernel_rfl;(focus(exact Nat.le_of_ble_eq_true (by rfl)));(focus(rfl))));clear H;intro wn H;(try simp only[splice,yG,yH,yI,yJ,yK,yL,yM,yN,yO,yP,yQ,Nat.reduceAdd,yA,yB,yC] at H);simp only[Act.put,yA,yB,yC,yD,yE,yF])|((first|((with_reducible apply st_alloc (dst:=some 4) H);exact nF;intro b4)|((with_reducible apply st_loadat H);decide +kernel;rfl;exact aF;exact zF;rfl));clear H;intro wn H;simp only[Act.put,yA,yB,yC,yD,yE,yF])|((first|(go_at_call 215;refine gvF (c1 _ H.below) H ?_)|(go_at_call 273;refine gvF (c2 _ H.below) H ?_));clear H;intro wn H))
      go_roundg (n-(0+1))
      case measure=>omega
      case rel=>exact⟨0+1,by omega,by go_num,HI2,HT3,H.sel sF⟩)
   | succ j=>
    obtain⟨y,hy⟩:∃y,l[j]? = some y:=⟨l[j]'(by rw[←HN.out];omega),List.getElem?_eq_getElem (by rw[←HN.out];omega)⟩
    have hs2:=sl_at (by have:=HR.out;rw[HN.out] at this;exact this) hy
    rw[←HN.out] at hs2
    obtain⟨b3,off3,c3,cs3,hw,hcs3,hB⟩:=hs2
    injection hw with hw1 hw2 hw3
    injection hw1 with hw1
    injection hw1 with hw4 hw5
    subst hw3 hw4 hw5
    obtain⟨A8,m8,j8,rfl,_⟩:=Ta_form hcs3
    have hyo:=taskOk_id (HT3.out j y (by omega) hy)
    unfold taskNo at hstep
    simp only[hy] at hstep
    obtain⟨⟨⟨k1,k2⟩,yid,yr⟩,yn⟩:=y
    simp only at hyo hB hstep
    obtain⟨hy1,hy2⟩:=hyo
    have hB1:At w b (off+j*14) [.int .i64 k1,.int .i64 k2]:=At.pre hB
    have hB2:w.cell? ⟨b,off+j*14+2,none⟩=some (.int .i64 yid):=hB 2 _ rfl
    have c5:=fun w1=>compareLabels_i (k1,k2) (l1,l2) w1
    simp only at c5
    generalize cmpL (k1,k2) (l1,l2)=g at *
    have hlt2:(j:Int)<n:=by omega
    have hlt3:j<n:=by omega
    have hpos:(0:Int)<(j:Int)+1:=by omega
    have hlt4:(j:Int)+1<n:=by omega
    clear hB hy hw2 hcs3
    by_cases hg:0<g
    ·have HI2:Hid (z=false):=Lib.hid (by rw[hstep];simp;omega)
     clear hstep hm2 hm3
     go_wp2_with (first|((first|((with_reducible apply st_loads H);decide +kernel;rfl;exact iF;exact zF;rfl)|((with_reducible apply st_store H);rfl;exact eF;(focus(exact cells_agg _));exact uF;kernel_rfl;(focus(exact Nat.le_of_ble_eq_true (by rfl)));(focus(rfl))));clear H;intro wn H;(try simp only[splice,yG,yH,yI,yJ,yK,yL,yM,yN,yO,yP,yQ,Nat.reduceAdd,yA,yB,yC] at H);simp only[Act.put,yA,yB,yC,yD,yE,yF])|((first|((with_reducible apply st_alloc (dst:=some 4) H);exact nF;intro b4)|((with_reducible apply st_loadat H);decide +kernel;rfl;exact aF;exact zF;rfl));clear H;intro wn H;simp only[Act.put,yA,yB,yC,yD,yE,yF])|(((go_at_call 215;refine gvF (c1 _ H.below) H ?_));clear H;intro wn H)|((with_reducible apply wp_region_hq (id:=10) H);kernel_rfl;kernel_rfl;(iterate 2 (all_goals((with_reducible refine' hq_step ?_ ?_ ?_);rotate_left;rfl;(focus(intro w1 H1;exact qVF));(try simp only[yG,yH,yJ,yK]);simp only[Act.put,yA,yB,yC,yD,yE,yF])));(all_goals((with_reducible refine' hq_step ?_ ?_ ?_);rotate_left;rfl;(focus(intro w1 H1;exact qWF));(try simp only[yG,yH,yJ,yK]);simp only[Act.put,yA,yB,yC,yD,yE,yF]));(iterate 5 (all_goals((with_reducible refine' hq_step ?_ ?_ ?_);rotate_left;rfl;(focus(intro w1 H1;first|(first|exact qF|exact qAF)|(exact qVF)));(try simp only[yG,yH,yJ,yK]);simp only[Act.put,yA,yB,yC,yD,yE,yF])));(all_goals((with_reducible refine' hq_step ?_ ?_ ?_);rotate_left;rfl;(focus(intro w1 H1;unfold QOk;go_simp;exact q_call (c5 _)));(try simp only[yG,yH,yJ,yK]);simp only[Act.put,yA,yB,yC,yD,yE,yF]));(iterate 1 (all_goals((with_reducible refine' hq_step ?_ ?_ ?_);rotate_left;rfl;(focus(intro w1 H1;exact qVF));(try simp only[yG,yH,yJ,yK]);simp only[Act.put,yA,yB,yC,yD,yE,yF])));all_goals(refine wpQuiet_nil ?_;clear H;intro wn H)))
     go_ret
     exact⟨by rw[HI2.out];rfl,H.below⟩
    by_cases hg0:g=0
    ·subst hg0
     have hno:(decide ((0:Int)≤0)&&id==(if (0:Int)=0 then yid+1 else 1)) = !(id != yid+1):=by rw[if_pos rfl];show (id==yid+1) = !(!(id==yid+1));rw[Bool.not_not]
     rw[hno] at hstep
     clear hno
     obtain⟨m1,hm1⟩:∃m,(id != yid+1)=m:=⟨_,rfl⟩
     rw[hm1] at hstep
     have hd:(m1=true∨(m1=false∧m2=true∧m3=true))∨((m1=false∧m2=false)∨(m1=false∧m2=true∧m3=false)):=by cases m1 <;> cases m2 <;> cases m3 <;> simp
     rcases hd with hd|hd
     ·rcases hd with rfl|⟨rfl,rfl,rfl⟩
      all_goals(
       have HI2:Hid (z=false):=Lib.hid (by rw[hstep];simp)
       clear hstep
       go_wp2_with (first|((first|((with_reducible refine st_gwT ?_ ?_);rfl)|((with_reducible refine st_gwF ?_ ?_);rfl)|((with_reducible refine st_gsF ?_ ?_);rfl));(try simp only[Act.put,yA,yB,yC,yD,yE,yF]))|((first|((with_reducible apply st_load1 H);decide +kernel;rfl;exact cF)|((with_reducible apply st_loads H);decide +kernel;rfl;exact iF;exact zF;rfl)|((with_reducible apply st_store H);rfl;exact eF;(focus(exact cells_agg _));exact uF;kernel_rfl;(focus(exact Nat.le_of_ble_eq_true (by rfl)));(focus(rfl))));clear H;intro wn H;(try simp only[splice,yG,yH,yI,yJ,yK,yL,yM,yN,yO,yP,yQ,Nat.reduceAdd,yA,yB,yC] at H);simp only[Act.put,yA,yB,yC,yD,yE,yF])|((first|((with_reducible apply st_alloc (dst:=some 4) H);exact nF;intro b4)|((with_reducible apply st_loadat H);decide +kernel;rfl;exact aF;exact zF;rfl));clear H;intro wn H;simp only[Act.put,yA,yB,yC,yD,yE,yF])|((first|(go_at_call 215;refine gvF (c1 _ H.below) H ?_)|(go_at_call 273;refine gvF (c2 _ H.below) H ?_));clear H;intro wn H)|((with_reducible apply wp_region_hq (id:=10) H);kernel_rfl;kernel_rfl;(iterate 2 (all_goals((with_reducible refine' hq_step ?_ ?_ ?_);rotate_left;rfl;(focus(intro w1 H1;exact qVF));(try simp only[yG,yH,yJ,yK]);simp only[Act.put,yA,yB,yC,yD,yE,yF])));(all_goals((with_reducible refine' hq_step ?_ ?_ ?_);rotate_left;rfl;(focus(intro w1 H1;exact qWF));(try simp only[yG,yH,yJ,yK]);simp only[Act.put,yA,yB,yC,yD,yE,yF]));(iterate 5 (all_goals((with_reducible refine' hq_step ?_ ?_ ?_);rotate_left;rfl;(focus(intro w1 H1;first|(first|exact qF|exact qAF)|(exact qVF)));(try simp only[yG,yH,yJ,yK]);simp only[Act.put,yA,yB,yC,yD,yE,yF])));(all_goals((with_reducible refine' hq_step ?_ ?_ ?_);rotate_left;rfl;(focus(intro w1 H1;unfold QOk;go_simp;exact q_call (c5 _)));(try simp only[yG,yH,yJ,yK]);simp only[Act.put,yA,yB,yC,yD,yE,yF]));(iterate 1 (all_goals((with_reducible refine' hq_step ?_ ?_ ?_);rotate_left;rfl;(focus(intro w1 H1;exact qVF));(try simp only[yG,yH,yJ,yK]);simp only[Act.put,yA,yB,yC,yD,yE,yF])));all_goals(refine wpQuiet_nil ?_;clear H;intro wn H)))
       go_ret
       exact⟨by rw[HI2.out];rfl,H.below⟩)
     ·rcases hd with ⟨rfl,rfl⟩|⟨rfl,rfl,rfl⟩
      all_goals(
       have HI2:Hid (z=allFrom f n (j+1+1)):=Lib.hid (by rw[hstep];simp)
       clear hstep
       go_wp2_with (first|((first|((with_reducible refine st_gwT ?_ ?_);rfl)|((with_reducible refine st_gwF ?_ ?_);rfl));(try simp only[Act.put,yA,yB,yC,yD,yE,yF]))|((first|((with_reducible apply st_load1 H);decide +kernel;rfl;exact cF)|((with_reducible apply st_loads H);decide +kernel;rfl;exact iF;exact zF;rfl)|((with_reducible apply st_store H);rfl;exact eF;(focus(exact cells_agg _));exact uF;kernel_rfl;(focus(exact Nat.le_of_ble_eq_true (by rfl)));(focus(rfl))));clear H;intro wn H;(try simp only[splice,yG,yH,yI,yJ,yK,yL,yM,yN,yO,yP,yQ,Nat.reduceAdd,yA,yB,yC] at H);simp only[Act.put,yA,yB,yC,yD,yE,yF])|((first|((with_reducible apply st_alloc (dst:=some 4) H);exact nF;intro b4)|((with_reducible apply st_loadat H);decide +kernel;rfl;exact aF;exact zF;rfl));clear H;intro wn H;simp only[Act.put,yA,yB,yC,yD,yE,yF])|((first|(go_at_call 215;refine gvF (c1 _ H.below) H ?_)|(go_at_call 273;refine gvF (c2 _ H.below) H ?_));clear H;intro wn H)|((with_reducible apply wp_region_hq (id:=10) H);kernel_rfl;kernel_rfl;(iterate 2 (all_goals((with_reducible refine' hq_step ?_ ?_ ?_);rotate_left;rfl;(focus(intro w1 H1;exact qVF));(try simp only[yG,yH,yJ,yK]);simp only[Act.put,yA,yB,yC,yD,yE,yF])));(all_goals((with_reducible refine' hq_step ?_ ?_ ?_);rotate_left;rfl;(focus(intro w1 H1;exact qWF));(try simp only[yG,yH,yJ,yK]);simp only[Act.put,yA,yB,yC,yD,yE,yF]));(iterate 5 (all_goals((with_reducible refine' hq_step ?_ ?_ ?_);rotate_left;rfl;(focus(intro w1 H1;first|(first|exact qF|exact qAF)|(exact qVF)));(try simp only[yG,yH,yJ,yK]);simp only[Act.put,yA,yB,yC,yD,yE,yF])));(all_goals((with_reducible refine' hq_step ?_ ?_ ?_);rotate_left;rfl;(focus(intro w1 H1;unfold QOk;go_simp;exact q_call (c5 _)));(try simp only[yG,yH,yJ,yK]);simp only[Act.put,yA,yB,yC,yD,yE,yF]));(iterate 1 (all_goals((with_reducible refine' hq_step ?_ ?_ ?_);rotate_left;rfl;(focus(intro w1 H1;exact qVF));(try simp only[yG,yH,yJ,yK]);simp only[Act.put,yA,yB,yC,yD,yE,yF])));all_goals(refine wpQuiet_nil ?_;clear H;intro wn H)))
       go_roundg (n-(j+1+1))
       case measure=>omega
       case rel=>exact⟨j+1+1,by omega,by go_num,HI2,HT3,H.sel sF⟩)
    ·have hg1:(g==0)=false:=by simp[hg0]
     have hno:(decide (g≤0)&&id==(if g=0 then yid+1 else 1)) = !(id != 1):=by rw[if_neg hg0,decide_eq_true (by omega),Bool.true_and];show (id==1) = !(!(id==1));rw[Bool.not_not]
     rw[hno] at hstep
     clear hno
     obtain⟨m1,hm1⟩:∃m,(id != 1)=m:=⟨_,rfl⟩
     rw[hm1] at hstep
     have hd:(m1=true∨(m1=false∧m2=true∧m3=true))∨((m1=false∧m2=false)∨(m1=false∧m2=true∧m3=false)):=by cases m1 <;> cases m2 <;> cases m3 <;> simp
     rcases hd with hd|hd
     ·rcases hd with rfl|⟨rfl,rfl,rfl⟩
      all_goals(
       have HI2:Hid (z=false):=Lib.hid (by rw[hstep];simp)
       clear hstep
       go_wp2_with (first|((first|((with_reducible refine st_gwT ?_ ?_);rfl)|((with_reducible refine st_gwF ?_ ?_);rfl)|((with_reducible refine st_gsF ?_ ?_);rfl));(try simp only[Act.put,yA,yB,yC,yD,yE,yF]))|((first|((with_reducible apply st_load1 H);decide +kernel;rfl;exact cF)|((with_reducible apply st_loads H);decide +kernel;rfl;exact iF;exact zF;rfl)|((with_reducible apply st_store H);rfl;exact eF;(focus(exact cells_agg _));exact uF;kernel_rfl;(focus(exact Nat.le_of_ble_eq_true (by rfl)));(focus(rfl))));clear H;intro wn H;(try simp only[splice,yG,yH,yI,yJ,yK,yL,yM,yN,yO,yP,yQ,Nat.reduceAdd,yA,yB,yC] at H);simp only[Act.put,yA,yB,yC,yD,yE,yF])|((first|((with_reducible apply st_alloc (dst:=some 4) H);exact nF;intro b4)|((with_reducible apply st_loadat H);decide +kernel;rfl;exact aF;exact zF;rfl));clear H;intro wn H;simp only[Act.put,yA,yB,yC,yD,yE,yF])|((first|(go_at_call 215;refine gvF (c1 _ H.below) H ?_)|(go_at_call 273;refine gvF (c2 _ H.below) H ?_));clear H;intro wn H)|((with_reducible apply wp_region_hq (id:=10) H);kernel_rfl;kernel_rfl;(iterate 2 (all_goals((with_reducible refine' hq_step ?_ ?_ ?_);rotate_left;rfl;(focus(intro w1 H1;exact qVF));(try simp only[yG,yH,yJ,yK]);simp only[Act.put,yA,yB,yC,yD,yE,yF])));(all_goals((with_reducible refine' hq_step ?_ ?_ ?_);rotate_left;rfl;(focus(intro w1 H1;exact qWF));(try simp only[yG,yH,yJ,yK]);simp only[Act.put,yA,yB,yC,yD,yE,yF]));(iterate 5 (all_goals((with_reducible refine' hq_step ?_ ?_ ?_);rotate_left;rfl;(focus(intro w1 H1;first|(first|exact qF|exact qAF)|(exact qVF)));(try simp only[yG,yH,yJ,yK]);simp only[Act.put,yA,yB,yC,yD,yE,yF])));(all_goals((with_reducible refine' hq_step ?_ ?_ ?_);rotate_left;rfl;(focus(intro w1 H1;unfold QOk;go_simp;exact q_call (c5 _)));(try simp only[yG,yH,yJ,yK]);simp only[Act.put,yA,yB,yC,yD,yE,yF]));(iterate 1 (all_goals((with_reducible refine' hq_step ?_ ?_ ?_);rotate_left;rfl;(focus(intro w1 H1;exact qVF));(try simp only[yG,yH,yJ,yK]);simp only[Act.put,yA,yB,yC,yD,yE,yF])));all_goals(refine wpQuiet_nil ?_;clear H;intro wn H)))
       go_ret
       exact⟨by rw[HI2.out];rfl,H.below⟩)
     ·rcases hd with ⟨rfl,rfl⟩|⟨rfl,rfl,rfl⟩
      all_goals(
       have HI2:Hid (z=allFrom f n (j+1+1)):=Lib.hid (by rw[hstep];simp)
       clear hstep
       go_wp2_with (first|((first|((with_reducible refine st_gwT ?_ ?_);rfl)|((with_reducible refine st_gwF ?_ ?_);rfl));(try simp only[Act.put,yA,yB,yC,yD,yE,yF]))|((first|((with_reducible apply st_load1 H);decide +kernel;rfl;exact cF)|((with_reducible apply st_loads H);decide +kernel;rfl;exact iF;exact zF;rfl)|((with_reducible apply st_store H);rfl;exact eF;(focus(exact cells_agg _));exact uF;kernel_rfl;(focus(exact Nat.le_of_ble_eq_true (by rfl)));(focus(rfl))));clear H;intro wn H;(try simp only[splice,yG,yH,yI,yJ,yK,yL,yM,yN,yO,yP,yQ,Nat.reduceAdd,yA,yB,yC] at H);simp only[Act.put,yA,yB,yC,yD,yE,yF])|((first|((with_reducible apply st_alloc (dst:=some 4) H);exact nF;intro b4)|((with_reducible apply st_loadat H);decide +kernel;rfl;exact aF;exact zF;rfl));clear H;intro wn H;simp only[Act.put,yA,yB,yC,yD,yE,yF])|((first|(go_at_call 215;refine gvF (c1 _ H.below) H ?_)|(go_at_call 273;refine gvF (c2 _ H.below) H ?_));clear H;intro wn H)|((with_reducible apply wp_region_hq (id:=10) H);kernel_rfl;kernel_rfl;(iterate 2 (all_goals((with_reducible refine' hq_step ?_ ?_ ?_);rotate_left;rfl;(focus(intro w1 H1;exact qVF));(try simp only[yG,yH,yJ,yK]);simp only[Act.put,yA,yB,yC,yD,yE,yF])));(all_goals((with_reducible refine' hq_step ?_ ?_ ?_);rotate_left;rfl;(focus(intro w1 H1;exact qWF));(try simp only[yG,yH,yJ,yK]);simp only[Act.put,yA,yB,yC,yD,yE,yF]));(iterate 5 (all_goals((with_reducible refine' hq_step ?_ ?_ ?_);rotate_left;rfl;(focus(intro w1 H1;first|(first|exact qF|exact qAF)|(exact qVF)));(try simp only[yG,yH,yJ,yK]);simp only[Act.put,yA,yB,yC,yD,yE,yF])));(all_goals((with_reducible refine' hq_step ?_ ?_ ?_);rotate_left;rfl;(focus(intro w1 H1;unfold QOk;go_simp;exact q_call (c5 _)));(try simp only[yG,yH,yJ,yK]);simp only[Act.put,yA,yB,yC,yD,yE,yF]));(iterate 1 (all_goals((with_reducible refine' hq_step ?_ ?_ ?_);rotate_left;rfl;(focus(intro w1 H1;exact qVF));(try simp only[yG,yH,yJ,yK]);simp only[Act.put,yA,yB,yC,yD,yE,yF])));all_goals(refine wpQuiet_nil ?_;clear H;intro wn H)))
       go_roundg (n-(j+1+1))
       case measure=>omega
       case rel=>exact⟨j+1+1,by omega,by go_num,HI2,HT3,H.sel sF⟩)
  ·obtain rfl:i=n:=by omega
   have hlt1:¬(i:Int)<i:=by omega
   have hz:=HI.out
   rw[allFrom_end (Nat.le_refl _)] at hz
   have HI2:=Lib.hid hz
   clear hz HI
   go_wp2_with (fail)
   go_ret
   exact⟨by rw[HI2.out];rfl,H.below⟩
end Go.Proofs.YtcabgibdkmgdlaaGreat
namespace Go.Proofs.YtcabgibdkmgdlaaGreat
open Go.RowKit M
namespace M
def taskNoS(l:List Ta)(i:Nat)(x:Ta):Bool:=match i with
 | 0=>x.1.2.1==1
 | j+1=>match l[j]? with
  | some y=>if ordL y.1.1<ordL x.1.1 then x.1.2.1==1 else eqB y.1.1 x.1.1&&y.1.2.1+1==x.1.2.1
  | none=>true
def taskInS(l:List Ta)(i:Nat):Bool:=match l[i]? with
 | some x=>taskOk x&&(taskNoS l i x&&(!(tkAft x != 0) || !decide (idxF (tkEq (tkUnd x) (tkAft x)) 0 (l.take i)<0)))
 | none=>true
def tasksOkS(l:List Ta):Bool:=decide (l.length≤96)&&allFrom (taskInS l) l.length 0
theorem taskOk_lab{x:Ta}(h:taskOk x=true):okL x.1.1=true:=by
 obtain⟨⟨⟨l1,l2⟩,id,ow,need,long,prio,⟨u1,u2⟩,aft,born,st,start⟩,nodes⟩:=x
 unfold taskOk taskHead at h
 simp only[Bool.and_eq_true] at h
 exact h.1.1
theorem below_ord:∀a ∈ labsAll,∀b ∈ labsAll,belowB a b=true→ordL a≤ordL b:=by decide +kernel
theorem taskOk_dep{x:Ta}(h:taskOk x=true)(h0:tkAft x≠0):1≤tkAft x∧tkAft x≤12∧ordL (tkUnd x)*100+tkAft x<ordL x.1.1*100+x.1.2.1:=by
 have hid:=taskOk_id h
 have hl:=taskOk_lab h
 obtain⟨⟨⟨l1,l2⟩,id,ow,need,long,prio,⟨u1,u2⟩,aft,born,st,start⟩,nodes⟩:=x
 unfold tkAft tkUnd at *
 unfold taskOk taskDep at h
 simp only at h h0 hid hl ⊢
 rw[if_neg (by rintro⟨h1,_⟩;exact h0 h1)] at h
 unfold isIn at h
 simp only[Bool.and_eq_true,decide_eq_true_eq,Bool.not_eq_true',Bool.and_eq_false_iff,decide_eq_false_iff_not] at h
 obtain⟨_,⟨⟨⟨h1,h2⟩,h3,_,h4⟩,h5⟩,_⟩:=h
 have h6:=below_ord _ (labsAll_mem h3) _ (labsAll_mem hl) h4
 refine⟨h1,h2,?_⟩
 have b1:=okL_bd h3
 have b2:=okL_bd hl
 simp only[ordL] at h6 ⊢
 simp only at b1 b2
 rcases h5 with h5|h5
 ·have h7:¬((u1,u2):Lab)=(l1,l2):=fun e=>by rw[eqB_iff.2 e] at h5;cases h5
  have h8:¬(u1=l1∧u2=l2):=fun ⟨e1,e2⟩=>h7 (by rw[e1,e2])
  omega
 ·omega
theorem allFrom_iff{f:Nat→Bool}{n:Nat}:∀m i,i+m=n→(allFrom f n i=true ↔ ∀j,i≤j→j<n→f j=true):=by
 intro m
 induction m with
 | zero=>intro i h;rw[allFrom_end (by omega)];simp;intro j h1 h2;omega
 | succ m ih=>
  intro i h
  rw[allFrom_step (by omega),Bool.and_eq_true,ih (i+1) (by omega)]
  constructor
  ·rintro ⟨h1,h2⟩ j h3 h4
   rcases Nat.lt_or_ge i j with h5|h5
   ·exact h2 j h5 h4
   ·obtain rfl:j=i:=by omega
    exact h1
  ·intro h1
   exact⟨h1 i (by omega) (by omega),fun j h2 h3=>h1 j (by omega) h3⟩
theorem cmp_ord{a b:Lab}(ha:okL a=true)(hb:okL b=true):(cmpL a b≤0↔ordL a≤ordL b)∧(cmpL a b=0↔ordL a=ordL b)∧(ordL a=ordL b↔eqB a b=true):=by
 have b1:=okL_bd ha
 have b2:=okL_bd hb
 obtain⟨a1,a2⟩:=a
 obtain⟨c1,c2⟩:=b
 rw[eqB_iff,Prod.mk.injEq]
 simp only at b1 b2
 unfold cmpL ordL
 simp only
 repeat' split
 all_goals omega
theorem taskNo_same{l:List Ta}{i:Nat}{x:Ta}(hx:taskOk x=true)(hy:∀j y,i=j+1→l[j]? = some y→taskOk y=true):taskNo l i x=taskNoS l i x:=by
 cases i with
 | zero=>rfl
 | succ j=>
  unfold taskNo taskNoS
  cases h:l[j]? with
  | none=>first|rfl|simp only[h]|simp[h]
  | some y=>
   try simp only[h]
   obtain⟨g1,g2,g3⟩:=cmp_ord (taskOk_lab (hy j y rfl h)) (taskOk_lab hx)
   by_cases e:ordL y.1.1<ordL x.1.1
   ·rw[if_pos e,decide_eq_true (g1.2 (by omega)),if_neg (fun k=>by have:=g2.1 k;omega),Bool.true_and]
   ·rw[if_neg e]
    by_cases e2:ordL y.1.1=ordL x.1.1
    ·rw[decide_eq_true (g1.2 (by omega)),if_pos (g2.2 e2),g3.1 e2,Bool.true_and,Bool.true_and]
     rw[Bool.eq_iff_iff]
     exact⟨fun e=>beq_iff_eq.2 (beq_iff_eq.1 e).symm,fun e=>beq_iff_eq.2 (beq_iff_eq.1 e).symm⟩
    ·rw[decide_eq_false (fun k=>by have:=g1.1 k;omega),Bool.eq_false_iff.2 (fun k=>e2 (g3.2 k))]
     rfl
def keyT(x:Ta):Int:=ordL x.1.1*100+x.1.2.1
theorem key_step{l:List Ta}{j:Nat}{x y:Ta}(hx:taskOk x=true)(hyo:taskOk y=true)(h:taskNoS l (j+1) x=true)(hy:l[j]? = some y):keyT y<keyT x:=by
 have i1:=taskOk_id hx
 have i2:=taskOk_id hyo
 unfold taskNoS at h
 simp only[hy] at h
 unfold keyT
 by_cases g:ordL y.1.1<ordL x.1.1
 ·omega
 ·rw[if_neg g,Bool.and_eq_true] at h
  have e:=eqB_iff.1 h.1
  have e2:y.1.2.1+1=x.1.2.1:=by simpa using h.2
  rw[e]
  omega
theorem any_take{p:Ta→Bool}{l:List Ta}{i:Nat}(h:(l.take i).any p=true):l.any p=true:=by
 rw[List.any_eq_true] at h ⊢
 obtain⟨x,h1,h2⟩:=h
 exact⟨x,List.mem_of_mem_take h1,h2⟩
theorem aft_dec{p:Ta→Bool}{l:List Ta}:(!decide (idxF p 0 l<0))=l.any p:=by
 rw[←idxF_ge p l 0]
 by_cases h:(0:Int)≤idxF p 0 l
 ·simp[h];try omega
 ·simp[h];try omega
theorem tasks_same(l:List Ta):tasksOk l=tasksOkS l:=by
 unfold tasksOk tasksOkS
 congr 1
 rw[Bool.eq_iff_iff,allFrom_iff l.length 0 (by omega),allFrom_iff l.length 0 (by omega)]
 constructor
 ·intro h
  have hok:∀(j:Nat) (x:Ta),l[j]? = some x→taskOk x=true:=fun j x hx=>by
   have:=h j (by omega) (List.getElem?_eq_some_iff.1 hx).1
   unfold taskIn at this
   simp only[hx,Bool.and_eq_true] at this
   exact this.1
  have hno:∀(j:Nat) (x:Ta),l[j]? = some x→taskNoS l j x=true:=fun j x hx=>by
   have:=h j (by omega) (List.getElem?_eq_some_iff.1 hx).1
   unfold taskIn at this
   simp only[hx,Bool.and_eq_true] at this
   rw[←taskNo_same (hok j x hx) (fun k y _ hy=>hok k y hy)]
   exact this.2.1
  have hkey:∀(m j:Nat) (x y:Ta),l[j]? = some x→l[j+m]? = some y→keyT x≤keyT y:=by
   intro m
   induction m with
   | zero=>intro j x y hx hy;rw[Nat.add_zero,hx] at hy;injection hy with hy;subst hy;exact Int.le_refl _
   | succ m ih=>
    intro j x y hx hy
    have hlt:=(List.getElem?_eq_some_iff.1 hy).1
    obtain⟨v,hv⟩:∃v,l[j+m]? = some v:=⟨l[j+m]'(by omega),List.getElem?_eq_getElem (by omega)⟩
    have h1:=ih j x v hx hv
    have h2:=key_step (hok _ _ hy) (hok _ _ hv) (hno _ _ hy) hv
    omega
  intro i _ hi
  obtain⟨x,hx⟩:∃x,l[i]? = some x:=⟨l[i],List.getElem?_eq_getElem hi⟩
  have hin:=h i (by omega) hi
  unfold taskIn at hin
  unfold taskInS
  simp only[hx] at hin ⊢
  rw[aft_dec] at hin ⊢
  simp only[Bool.and_eq_true,Bool.or_eq_true] at hin ⊢
  refine⟨hin.1,hno i x hx,?_⟩
  rcases hin.2.2 with h1|h1
  ·exact Or.inl h1
  by_cases h0:tkAft x=0
  ·left;simp[h0]
  right
  rw[List.any_eq_true] at h1 ⊢
  obtain⟨y,hy,hyp⟩:=h1
  obtain⟨k,hk⟩:=List.getElem?_of_mem hy
  have hd:=taskOk_dep (hok i x hx) h0
  unfold tkEq at hyp
  rw[Bool.and_eq_true] at hyp
  have e1:=eqB_iff.1 hyp.1
  have e2:y.1.2.1=tkAft x:=by simpa using hyp.2
  have hki:k<i:=by
   refine Nat.lt_of_not_le fun hle=>?_
   have:=hkey (k-i) i x y hx (by rw[show i+(k-i)=k by omega];exact hk)
   unfold keyT at this
   rw[e1,e2] at this
   omega
  refine⟨y,?_,by unfold tkEq;rw[Bool.and_eq_true];exact hyp⟩
  exact List.mem_of_getElem? (i:=k) (by rw[List.getElem?_take_of_lt hki];exact hk)
 ·intro h
  have hok:∀(j:Nat) (x:Ta),l[j]? = some x→taskOk x=true:=fun j x hx=>by
   have:=h j (by omega) (List.getElem?_eq_some_iff.1 hx).1
   unfold taskInS at this
   simp only[hx,Bool.and_eq_true] at this
   exact this.1
  intro i _ hi
  obtain⟨x,hx⟩:∃x,l[i]? = some x:=⟨l[i],List.getElem?_eq_getElem hi⟩
  have hin:=h i (by omega) hi
  unfold taskInS at hin
  unfold taskIn
  simp only[hx] at hin ⊢
  rw[aft_dec] at hin ⊢
  simp only[Bool.and_eq_true,Bool.or_eq_true] at hin ⊢
  refine⟨hin.1,?_,hin.2.2.imp id any_take⟩
  rw[taskNo_same (hok i x hx) (fun k y _ hy=>hok k y hy)]
  exact hin.2.1
end M
