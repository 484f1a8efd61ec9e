import Derived.Test.YtcabgibdkmgdlaaGreatJ6
import Derived.Test.YtcabgibdkmgdlaaGreatVe
set_option linter.unusedSimpArgs false
set_option linter.unusedVariables false
set_option maxRecDepth 100000
set_option maxHeartbeats 80000000
namespace Go.Proofs.YtcabgibdkmgdlaaGreat
open Go.RowKit M
theorem tasksRight_s(v:Value)(l:List Ta)(hs:∀(i:Nat) (x:Ta),l[i]? = some x→x.1.2.2.1.size≤maxLen)(w:World)(hr:(Ty.sl 177 tyTa).rd w [v] l):Gives Tryz.prog 174 #[v] w (.bool (tasksOkS l)):=by
 have HR0:=hY hr
 obtain⟨A,c,rfl,hlc,hcm⟩:=sl_form hr
 have HS:=hY hs
 clear hs
 unfold maxLen at hcm
 have HR:=hY hr
 obtain⟨n,hn⟩:=nm l.length
 have hnl:n≤9223372036854775807:=by omega
 have hnc:n≤c:=by omega
 rw[←hn] at HR HR0 ⊢
 have HN:=hY hn
 obtain⟨z,hz⟩:=nm (tasksOkS l)
 rw[←hz]
 have hz':z=(decide (n≤96)&&allFrom (taskInS l) n 0):=by rw[hz,hn];rfl
 obtain⟨f,hf'⟩:∃f,f=taskInS l:=⟨_,rfl⟩
 rw[←hf'] at hz'
 have HF:=hY hf'
 clear hr hn hlc hcm hz hf'
 have H:=Hs.start noRow w
 unfold Gives
 by_cases hm:96<n
 ·have HZ:Hid (z=false):=hY (by rw[hz'];simp;omega)
  have hm':(96:Int)<(n:Int):=by omega
  clear hz'
  go_enter Tryz.func174,Tryz.ntmps174
  go_wp2_with (fail)
  go_ret
  exact⟨by rw[HZ.out];rfl,H.below⟩
 have HZ:Hid (z=allFrom f n 0):=hY (by rw[hz'];simp;omega)
 have hm':¬(96:Int)<(n:Int):=by omega
 clear hz'
 go_enter Tryz.func174,Tryz.ntmps174
 go_wp2_with (fail)
 go_loopg [3] n (fun m iv wr=>∃(i:Nat),i+m=n∧iv = .int .i64 i∧Hid (z=allFrom f n i)∧Hid (∀j y,j<i→l[j]? = some y→taskOk y=true)∧Hs noRow w [] wr)
 case atStart=>exact⟨0,by omega,rfl,HZ,hY (fun j y h=>by omega),H⟩
 case round=>
  clear H HZ
  obtain⟨i,hi,rfl,HI,HT,H⟩:=hrel
  by_cases hlt:i<n
  ·obtain ⟨x,b,off,cs,hx,rfl,hv2,hcs,hA⟩:=slE HR HN hlt
   have c1:=fun w1 hb=>taskRight_s x cs (HS.out i x hx) w1 (Ty.below _ hcs hb)
   obtain⟨A9,m9,j9,rfl,_⟩:=Ta_form hcs
   have hstep:=HI.out
   have hfi:f i=(taskOk x&&(taskNoS l i x&&(!(tkAft x != 0) || !decide (idxF (tkEq (tkUnd x) (tkAft x)) 0 (l.take i)<0)))):=by rw[HF.out];unfold taskInS;rw[hx]
   rw[allFrom_step hlt,hfi] at hstep
   clear hfi
   have hlt1:(i:Int)<n:=by omega
   obtain⟨z1,hz1⟩:=nm2 (taskOk x)
   rw[hz1] at hstep c1
   have HT2:z1=true→Hid (∀j y,j<i+1→l[j]? = some y→taskOk y=true):=fun hzt=>hY (fun j y hj hy=>by
    by_cases h:j<i
    ·exact HT.out j y h hy
    ·obtain rfl:j=i:=by omega
     rw[hx] at hy
     injection hy with hy
     subst hy
     rw[hz1,hzt])
   have hox:z1=true→okL x.1.1=true:=fun h=>taskOk_lab (hz1.trans h)
   clear hz1
   have hT:=sl_take HR.out (i:=i) (by rw[←HN.out];omega)
   have hit1:(i:Int)≤n:=by omega
   have hit2:(i:Int)≤c:=by omega
   have hit3:i≤c:=by omega
   have hit4:i≤n:=by omega
   have c2:=fun w1 hb=>l12At_s _ (l.take i) (tkUnd x) (tkAft x) w1 (Ty.below _ hT hb)
   obtain⟨⟨⟨l1,l2⟩,id,ow,need,long,prio,⟨u1,u2⟩,aft,born,st,start⟩,nodes⟩:=x
   unfold tkUnd tkAft at c2 hstep
   simp only at c1 c2 hA hstep hox
   clear hT
   generalize idxF (tkEq (u1,u2) aft) 0 (l.take i)=q at *
   obtain⟨m2,hm2⟩:=nm2 ((aft != 0))
   obtain⟨m3,hm3⟩:=nm2 (decide (q<0))
   rw[hm2,hm3] at hstep
   clear hx hv2 hcs
   cases z1
   case false=>
    have HI2:Hid (z=false):=hY (by rw[hstep];simp)
    clear hstep
    go_wp2_with ((first|refine zU ?_|(refine zA 4 ?_;intro b4)|(go_at_call 182;refine gvF (c1 _ H.below) H ?_));clear H;intro wn H)
    go_ret
    exact⟨by rw[HI2.out];rfl,H.below⟩
   have HT3:=HT2 rfl
   have hox:=hox rfl
   clear HT2 HT
   cases i with
   | zero=>
    have hno:taskNoS l 0 (((l1,l2),id,ow,need,long,prio,(u1,u2),aft,born,st,start),nodes) = !(id != 1):=by unfold taskNoS;show (id==1) = !(!(id==1));rw[Bool.not_not]
    rw[hno] at hstep
    clear hno
    obtain⟨m1,hm1⟩:=nm2 ((id != 1))
    rw[hm1] at hstep
    have hd:(m1=true∨(m1=false∧m2=true∧m3=true))∨((m1=false∧m2=false)∨(m1=false∧m2=true∧m3=false)):=by cases m1 <;> cases m2 <;> cases m3 <;> simp
    rcases hd with hd|hd
    ·rcases hd with rfl|⟨rfl,rfl,rfl⟩
     all_goals(
      have HI2:Hid (z=false):=hY (by rw[hstep];simp)
      clear hstep
      go_wp2_with (first|((first|refine zU ?_|(refine zA 4 ?_;intro b4)|(go_at_call 182;refine gvF (c1 _ H.below) H ?_));clear H;intro wn H)|(refine zHq 9 ?_;(iterate 16 (all_goals((first|refine zhSF ?_|refine zhV ?_))));all_goals(refine zHz ?_;clear H;intro wn H))|(refine zHq 10 ?_;(iterate 33 (all_goals((first|((first|refine zhGT ?_|refine zhGF ?_);refine zhFV ?_)|refine zhSF ?_|refine zhST ?_|refine zhSk ?_|refine zhV ?_))));all_goals(refine zHz ?_;clear H;intro wn H))|(refine zHq 12 ?_;(iterate 11 (all_goals((first|(refine zhGT ?_;refine zhFV ?_)|refine zhFV ?_))));all_goals(refine zhGT ?_;refine zHk (fun w1 H1=>c2 _ H1.below) ?_);(iterate 2 (all_goals((first|(refine zhGT ?_;refine zhV ?_)|refine zhV ?_))));all_goals(refine zHz ?_;clear H;intro wn H)))
      go_ret
      exact⟨by rw[HI2.out];rfl,H.below⟩)
    ·rcases hd with ⟨rfl,rfl⟩|⟨rfl,rfl,rfl⟩
     all_goals(
      have HI2:Hid (z=allFrom f n (0+1)):=hY (by rw[hstep];simp)
      clear hstep
      go_wp2_with (first|((first|refine zU ?_|(refine zA 4 ?_;intro b4)|(go_at_call 182;refine gvF (c1 _ H.below) H ?_));clear H;intro wn H)|(refine zHq 9 ?_;(iterate 16 (all_goals((first|refine zhSF ?_|refine zhV ?_))));all_goals(refine zHz ?_;clear H;intro wn H))|(refine zHq 10 ?_;(iterate 33 (all_goals((first|((first|refine zhGT ?_|refine zhGF ?_);refine zhFV ?_)|refine zhST ?_|refine zhSk ?_|refine zhV ?_))));all_goals(refine zHz ?_;clear H;intro wn H))|(refine zHq 12 ?_;(iterate 11 (all_goals((first|(refine zhGT ?_;refine zhFV ?_)|refine zhST ?_|refine zhFV ?_))));all_goals(first|(refine zhGT ?_;refine zHk (fun w1 H1=>c2 _ H1.below) ?_)|refine zhST ?_);(iterate 2 (all_goals((first|(refine zhGT ?_;refine zhV ?_)|refine zhST ?_|refine zhV ?_))));all_goals(refine zHz ?_;clear H;intro wn H)))
      go_roundg (n-(0+1))
      case measure=>omega
      case rel=>exact⟨0+1,by omega,by go_num,HI2,HT3,H.sel sF⟩)
   | succ j=>
    obtain⟨y,hy⟩:=atE (i:=j) HN (by omega)
    have hs2:=sl_at (by have:=HR.out;rw[HN.out] at this;exact this) hy
    rw[←HN.out] at hs2
    obtain⟨b3,off3,c3,cs3,hw,hcs3,hB⟩:=hs2
    injection hw with hw1 hw2 hw3
    injection hw1 with hw1
    injection hw1 with hw4 hw5
    subst hw3 hw4 hw5
    obtain⟨A8,m8,j8,rfl,_⟩:=Ta_form hcs3
    have hyo:=taskOk_id (HT3.out j y (by omega) hy)
    have hoy:=taskOk_lab (HT3.out j y (by omega) hy)
    unfold taskNoS at hstep
    simp only[hy] at hstep
    obtain⟨⟨⟨k1,k2⟩,yid,yr⟩,yn⟩:=y
    simp only at hyo hoy hB hstep
    obtain⟨hy1,hy2⟩:=hyo
    have hB1:At w b (off+j*14) [.int .i64 k1,.int .i64 k2]:=At.pre hB
    have hB2:w.cell? ⟨b,off+j*14+2,none⟩=some (.int .i64 yid):=hB 2 _ rfl
    have c5:=fun w1=>ord_s (k1,k2) hoy w1
    have c6:=fun w1=>ord_s (l1,l2) hox w1
    simp only at c5 c6
    clear hoy hox
    generalize ordL (k1,k2)=g at *
    generalize ordL (l1,l2)=g' at *
    have hlt2:(j:Int)<n:=by omega
    have hlt3:j<n:=by omega
    have hpos:(0:Int)<(j:Int)+1:=by omega
    have hlt4:(j:Int)+1<n:=by omega
    have hlt5:j+1<n:=by omega
    have hj0:((j:Int)+1==0)=false:=by simp;omega
    have hit5:(j:Int)+1≤n:=by omega
    have hit6:(j:Int)+1≤c:=by omega
    clear hit1 hit2
    clear hB hy hw2 hcs3
    by_cases hg:g<g'
    ·have hgd:decide (g<g')=true:=decide_eq_true hg
     rw[if_pos hg,show (id==1) = !(id != 1) by show (id==1) = !(!(id==1));rw[Bool.not_not]] at hstep
     clear hg
     obtain⟨m1,hm1⟩:=nm2 ((id != 1))
     rw[hm1] at hstep
     have hd:(m1=true∨(m1=false∧m2=true∧m3=true))∨((m1=false∧m2=false)∨(m1=false∧m2=true∧m3=false)):=by cases m1 <;> cases m2 <;> cases m3 <;> simp
     rcases hd with hd|hd
     ·rcases hd with rfl|⟨rfl,rfl,rfl⟩
      all_goals(
       have HI2:Hid (z=false):=hY (by rw[hstep];simp)
       clear hstep
       go_wp2_with (first|((first|refine zU ?_|(refine zA 4 ?_;intro b4)|(go_at_call 182;refine gvF (c1 _ H.below) H ?_));clear H;intro wn H)|(refine zHq 9 ?_;(iterate 9 (all_goals((first|(refine zhGF ?_;refine zhAWV ?_)|refine zhV ?_))));(all_goals(with_reducible refine Qk.mk ?_));all_goals(((with_reducible refine hq_gwF ?_ ?_);rfl;((with_reducible refine' hq_step ?_ ?_ ?_);rotate_left;rfl;(focus(intro w1 H1;unfold QOk;go_simp;exact q_call ((by exact c5 _))));(try simp only[yG,yH,yJ,yK]);refine zp ?_)));(all_goals(with_reducible refine Qk.out ?_));(iterate 2 (all_goals(refine zhGF ?_;refine zhFV ?_)));(all_goals(with_reducible refine Qk.mk ?_));all_goals(((with_reducible refine hq_gwF ?_ ?_);rfl;((with_reducible refine' hq_step ?_ ?_ ?_);rotate_left;rfl;(focus(intro w1 H1;unfold QOk;go_simp;exact q_call ((by exact c6 _))));(try simp only[yG,yH,yJ,yK]);refine zp ?_)));(all_goals(with_reducible refine Qk.out ?_));(iterate 3 (all_goals((first|(refine zhGF ?_;refine zhV ?_)|refine zhV ?_))));all_goals(refine zHz ?_;clear H;intro wn H))|(refine zHq 10 ?_;(iterate 33 (all_goals((first|((first|refine zhGT ?_|refine zhGF ?_);refine zhFV ?_)|refine zhSF ?_|refine zhST ?_|refine zhSk ?_|refine zhV ?_))));all_goals(refine zHz ?_;clear H;intro wn H))|(refine zHq 12 ?_;(iterate 11 (all_goals((first|(refine zhGT ?_;refine zhFV ?_)|refine zhFV ?_))));all_goals(refine zhGT ?_;refine zHk (fun w1 H1=>c2 _ H1.below) ?_);(iterate 2 (all_goals((first|(refine zhGT ?_;refine zhV ?_)|refine zhV ?_))));all_goals(refine zHz ?_;clear H;intro wn H)))
       go_ret
       exact⟨by rw[HI2.out];rfl,H.below⟩)
     ·rcases hd with ⟨rfl,rfl⟩|⟨rfl,rfl,rfl⟩
      all_goals(
       have HI2:Hid (z=allFrom f n (j+1+1)):=hY (by rw[hstep];simp)
       clear hstep
       go_wp2_with (first|((first|refine zU ?_|(refine zA 4 ?_;intro b4)|(go_at_call 182;refine gvF (c1 _ H.below) H ?_));clear H;intro wn H)|(refine zHq 9 ?_;(iterate 9 (all_goals((first|(refine zhGF ?_;refine zhAWV ?_)|refine zhV ?_))));(all_goals(with_reducible refine Qk.mk ?_));all_goals(((with_reducible refine hq_gwF ?_ ?_);rfl;((with_reducible refine' hq_step ?_ ?_ ?_);rotate_left;rfl;(focus(intro w1 H1;unfold QOk;go_simp;exact q_call ((by exact c5 _))));(try simp only[yG,yH,yJ,yK]);refine zp ?_)));(all_goals(with_reducible refine Qk.out ?_));(iterate 2 (all_goals(refine zhGF ?_;refine zhFV ?_)));(all_goals(with_reducible refine Qk.mk ?_));all_goals(((with_reducible refine hq_gwF ?_ ?_);rfl;((with_reducible refine' hq_step ?_ ?_ ?_);rotate_left;rfl;(focus(intro w1 H1;unfold QOk;go_simp;exact q_call ((by exact c6 _))));(try simp only[yG,yH,yJ,yK]);refine zp ?_)));(all_goals(with_reducible refine Qk.out ?_));(iterate 3 (all_goals((first|(refine zhGF ?_;refine zhV ?_)|refine zhV ?_))));all_goals(refine zHz ?_;clear H;intro wn H))|(refine zHq 10 ?_;(iterate 33 (all_goals((first|((first|refine zhGT ?_|refine zhGF ?_);refine zhFV ?_)|refine zhST ?_|refine zhSk ?_|refine zhV ?_))));all_goals(refine zHz ?_;clear H;intro wn H))|(refine zHq 12 ?_;(iterate 11 (all_goals((first|(refine zhGT ?_;refine zhFV ?_)|refine zhST ?_|refine zhFV ?_))));all_goals(first|(refine zhGT ?_;refine zHk (fun w1 H1=>c2 _ H1.below) ?_)|refine zhST ?_);(iterate 2 (all_goals((first|(refine zhGT ?_;refine zhV ?_)|refine zhST ?_|refine zhV ?_))));all_goals(refine zHz ?_;clear H;intro wn H)))
       go_roundg (n-(j+1+1))
       case measure=>omega
       case rel=>exact⟨j+1+1,by omega,by go_num,HI2,HT3,H.sel sF⟩)
    have hgd:decide (g<g')=false:=decide_eq_false hg
    rw[if_neg hg] at hstep
    clear hg
    obtain⟨e1,he1⟩:=nm2 (eqB (k1,k2) (l1,l2))
    rw[he1] at hstep
    cases e1
    case false=>
     have HI2:Hid (z=false):=hY (by rw[hstep];simp)
     clear hstep hm2 hm3
     go_wp2_with (first|((first|refine zU ?_|(refine zA 4 ?_;intro b4)|(go_at_call 182;refine gvF (c1 _ H.below) H ?_));clear H;intro wn H)|(refine zHq 9 ?_;(iterate 9 (all_goals((first|(refine zhGF ?_;refine zhAWV ?_)|refine zhV ?_))));(all_goals(with_reducible refine Qk.mk ?_));all_goals(((with_reducible refine hq_gwF ?_ ?_);rfl;((with_reducible refine' hq_step ?_ ?_ ?_);rotate_left;rfl;(focus(intro w1 H1;unfold QOk;go_simp;exact q_call ((by exact c5 _))));(try simp only[yG,yH,yJ,yK]);refine zp ?_)));(all_goals(with_reducible refine Qk.out ?_));(iterate 2 (all_goals(refine zhGF ?_;refine zhFV ?_)));(all_goals(with_reducible refine Qk.mk ?_));all_goals(((with_reducible refine hq_gwF ?_ ?_);rfl;((with_reducible refine' hq_step ?_ ?_ ?_);rotate_left;rfl;(focus(intro w1 H1;unfold QOk;go_simp;exact q_call ((by exact c6 _))));(try simp only[yG,yH,yJ,yK]);refine zp ?_)));(all_goals(with_reducible refine Qk.out ?_));(iterate 3 (all_goals((first|(refine zhGF ?_;refine zhV ?_)|refine zhV ?_))));all_goals(refine zHz ?_;clear H;intro wn H))|(refine zHq 10 ?_;(iterate 33 (all_goals((first|((first|refine zhGF ?_|refine zhGT ?_);refine zhFAEWV ?_)|refine zhST ?_|refine zhSF ?_|refine zhV ?_))));all_goals(refine zHz ?_;clear H;intro wn H)))
     go_ret
     exact⟨by rw[HI2.out];rfl,H.below⟩
    rw[show (yid+1==id) = !(yid+1 != id) by show _ = !(!(yid+1==id));rw[Bool.not_not]] at hstep
    obtain⟨m1,hm1⟩:=nm2 ((yid+1 != id))
    rw[hm1] at hstep
    have hd:(m1=true∨(m1=false∧m2=true∧m3=true))∨((m1=false∧m2=false)∨(m1=false∧m2=true∧m3=false)):=by cases m1 <;> cases m2 <;> cases m3 <;> simp
    rcases hd with hd|hd
    ·rcases hd with rfl|⟨rfl,rfl,rfl⟩
     all_goals(
      have HI2:Hid (z=false):=hY (by rw[hstep];simp)
      clear hstep
      go_wp2_with (first|((first|refine zU ?_|(refine zA 4 ?_;intro b4)|(go_at_call 182;refine gvF (c1 _ H.below) H ?_));clear H;intro wn H)|(refine zHq 9 ?_;(iterate 9 (all_goals((first|(refine zhGF ?_;refine zhAWV ?_)|refine zhV ?_))));(all_goals(with_reducible refine Qk.mk ?_));all_goals(((with_reducible refine hq_gwF ?_ ?_);rfl;((with_reducible refine' hq_step ?_ ?_ ?_);rotate_left;rfl;(focus(intro w1 H1;unfold QOk;go_simp;exact q_call ((by exact c5 _))));(try simp only[yG,yH,yJ,yK]);refine zp ?_)));(all_goals(with_reducible refine Qk.out ?_));(iterate 2 (all_goals(refine zhGF ?_;refine zhFV ?_)));(all_goals(with_reducible refine Qk.mk ?_));all_goals(((with_reducible refine hq_gwF ?_ ?_);rfl;((with_reducible refine' hq_step ?_ ?_ ?_);rotate_left;rfl;(focus(intro w1 H1;unfold QOk;go_simp;exact q_call ((by exact c6 _))));(try simp only[yG,yH,yJ,yK]);refine zp ?_)));(all_goals(with_reducible refine Qk.out ?_));(iterate 3 (all_goals((first|(refine zhGF ?_;refine zhV ?_)|refine zhV ?_))));all_goals(refine zHz ?_;clear H;intro wn H))|(refine zHq 10 ?_;(iterate 33 (all_goals((first|((first|refine zhGF ?_|refine zhGT ?_);refine zhFAEWV ?_)|refine zhST ?_|refine zhV ?_))));all_goals(refine zHz ?_;clear H;intro wn H))|(refine zHq 12 ?_;(iterate 11 (all_goals((first|(refine zhGT ?_;refine zhFV ?_)|refine zhFV ?_))));all_goals(refine zhGT ?_;refine zHk (fun w1 H1=>c2 _ H1.below) ?_);(iterate 2 (all_goals((first|(refine zhGT ?_;refine zhV ?_)|refine zhV ?_))));all_goals(refine zHz ?_;clear H;intro wn H)))
      go_ret
      exact⟨by rw[HI2.out];rfl,H.below⟩)
    ·rcases hd with ⟨rfl,rfl⟩|⟨rfl,rfl,rfl⟩
     all_goals(
      have HI2:Hid (z=allFrom f n (j+1+1)):=hY (by rw[hstep];simp)
      clear hstep
      go_wp2_with (first|((first|refine zU ?_|(refine zA 4 ?_;intro b4)|(go_at_call 182;refine gvF (c1 _ H.below) H ?_));clear H;intro wn H)|(refine zHq 9 ?_;(iterate 9 (all_goals((first|(refine zhGF ?_;refine zhAWV ?_)|refine zhV ?_))));(all_goals(with_reducible refine Qk.mk ?_));all_goals(((with_reducible refine hq_gwF ?_ ?_);rfl;((with_reducible refine' hq_step ?_ ?_ ?_);rotate_left;rfl;(focus(intro w1 H1;unfold QOk;go_simp;exact q_call ((by exact c5 _))));(try simp only[yG,yH,yJ,yK]);refine zp ?_)));(all_goals(with_reducible refine Qk.out ?_));(iterate 2 (all_goals(refine zhGF ?_;refine zhFV ?_)));(all_goals(with_reducible refine Qk.mk ?_));all_goals(((with_reducible refine hq_gwF ?_ ?_);rfl;((with_reducible refine' hq_step ?_ ?_ ?_);rotate_left;rfl;(focus(intro w1 H1;unfold QOk;go_simp;exact q_call ((by exact c6 _))));(try simp only[yG,yH,yJ,yK]);refine zp ?_)));(all_goals(with_reducible refine Qk.out ?_));(iterate 3 (all_goals((first|(refine zhGF ?_;refine zhV ?_)|refine zhV ?_))));all_goals(refine zHz ?_;clear H;intro wn H))|(refine zHq 10 ?_;(iterate 33 (all_goals((first|((first|refine zhGF ?_|refine zhGT ?_);refine zhFAEWV ?_)|refine zhST ?_|refine zhV ?_))));all_goals(refine zHz ?_;clear H;intro wn H))|(refine zHq 12 ?_;(iterate 11 (all_goals((first|(refine zhGT ?_;refine zhFV ?_)|refine zhST ?_|refine zhFV ?_))));all_goals(first|(refine zhGT ?_;refine zHk (fun w1 H1=>c2 _ H1.below) ?_)|refine zhST ?_);(iterate 2 (all_goals((first|(refine zhGT ?_;refine zhV ?_)|refine zhST ?_|refine zhV ?_))));all_goals(refine zHz ?_;clear H;intro wn H)))
      go_roundg (n-(j+1+1))
      case measure=>omega
      case rel=>exact⟨j+1+1,by omega,by go_num,HI2,HT3,H.sel sF⟩)
  ·obtain rfl:i=n:=by omega
   have hlt1:=nlt i
   have hz:=HI.out
   rw[allFrom_end (Nat.le_refl _)] at hz
   have HI2:=hY hz
   clear hz HI
   go_wp2_with (fail)
   go_ret
   exact⟨by rw[HI2.out];rfl,H.below⟩
