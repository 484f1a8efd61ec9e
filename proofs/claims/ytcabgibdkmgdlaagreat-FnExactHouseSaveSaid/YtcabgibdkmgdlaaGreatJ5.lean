import Derived.Test.YtcabgibdkmgdlaaGreatJ3
import Derived.Test.YtcabgibdkmgdlaaGreatJ4
set_option linter.unusedSimpArgs false
set_option linter.unusedVariables false
set_option maxRecDepth 100000
set_option maxHeartbeats 4000000
namespace Go.Proofs.YtcabgibdkmgdlaaGreat
open Go.RowKit M
namespace M
def noteAft(l:List Nt)(i:Nat)(x:Nt):Bool:=match i with
 | 0=>true
 | j+1=>match l[j]? with
  | some y=>!decide (x.1<y.1)
  | none=>true
def noteIn(l:List Nt)(i:Nat):Bool:=match l[i]? with
 | some x=>isIn x.1 0 999900&&noteAft l i x
 | none=>true
def notesOk(l:List Nt):Bool:=allFrom (noteIn l) l.length 0&&decide (l.length≤12)
def boxOk(r:Int)(b:Bo):Bool:=decide ((b.1.length:Int)≤r)&&(decide ((b.2.1.length:Int)≤r)&&notesOk b.2.2)
def boxIn(pr:List Pr)(m:List Bo)(i:Nat):Bool:=match m[i]? with
 | some b=>match pr[i]? with
  | some p=>boxOk p.2.2 b
  | none=>true
 | none=>true
def mailOk(c:Cfg)(m:List Bo):Bool:=cfgOk c&&(decide (m.length=c.2.1.length)&&allFrom (boxIn c.2.1 m) m.length 0)
end M
theorem isNow_i(n:Int)(w:World):Gives Tryz.prog 195 #[.int .i64 n] w (.bool (isIn n 0 999900)):=by
 have hC:=fun w=>within_i n 0 999900 w
 have H:=Hs.start noRow w
 unfold Gives isIn
 generalize (decide (0≤n)&&decide (n≤999900))=z at *
 go_enter Tryz.func195,Tryz.ntmps195
 go_wp2_with (((go_at_call 71;refine gvF (hC _) H ?_));clear H;intro wn H)
 go_ret
 exact⟨rfl,H.below⟩
theorem now_s(n:Int)(w:World):Gives Tryz.prog 171 #[.int .i64 n] w (.bool (isIn n 0 999900)):=by
 have hC:=fun w=>is_s n 0 999900 w
 have H:=Hs.start noRow w
 unfold Gives isIn
 generalize (decide (0≤n)&&decide (n≤999900))=z at *
 go_enter Tryz.func171,Tryz.ntmps171
 go_wp2_with (((go_at_call 50;refine gvF (hC _) H ?_));clear H;intro wn H)
 go_ret
 exact⟨rfl,H.below⟩
theorem notesRight_i(v:Value)(l:List Nt)(w:World)(hr:(Ty.sl 162 tyNt).rd w [v] l):Gives Tryz.prog 204 #[v] w (.bool (notesOk l)):=by
 obtain⟨A,c,rfl,hlc,hcm⟩:=sl_form hr
 unfold maxLen at *
 have HR:=hY hr
 obtain⟨n,hn⟩:=nm l.length
 have hnl:n≤9223372036854775807:=by omega
 rw[←hn] at HR ⊢
 have HN:=hY hn
 obtain⟨z,hz⟩:=nm (notesOk l)
 rw[←hz]
 obtain⟨f,hf'⟩:∃f,f=noteIn l:=⟨_,rfl⟩
 have HF:=hY hf'
 have HZ:Hid (z=(allFrom f n 0&&decide (n≤12))):=hY (by rw[hz,hf',hn];rfl)
 clear hr hn hlc hcm hz hf'
 have H:=Hs.start noRow w
 unfold Gives
 go_enter Tryz.func204,Tryz.ntmps204
 go_wp2_with (fail)
 go_loopg [7] n (fun m iv wr=>∃(i:Nat),i+m=n∧iv = .int .i64 i∧Hid (z=(allFrom f n i&&decide (n≤12)))∧Hs noRow w [] wr)
 case atStart=>exact⟨0,by omega,rfl,HZ,H⟩
 case round=>
  clear H
  obtain⟨i,hi,rfl,HI,H⟩:=hrel
  by_cases hlt:i<n
  ·obtain ⟨x,b,off,cs,hx,rfl,hv2,hcs,hA⟩:=slE HR HN hlt
   obtain rfl:cs=encNt x:=hcs
   have hstep:=HI.out
   have hfi:f i=(isIn x.1 0 999900&&noteAft l i x):=by rw[HF.out];unfold noteIn;rw[hx]
   rw[allFrom_step hlt,hfi] at hstep
   clear hfi
   have hlt1:(i:Int)<n:=by omega
   clear hx hv2
   obtain⟨x1,x2⟩:=x
   have c1:=fun w1=>isNow_i x1 w1
   unfold encNt at hA
   simp only at hA hstep
   generalize isIn x1 0 999900=z1 at *
   cases z1
   case false=>
    have HI2:Hid (z=false):=hY (by rw[hstep];simp)
    clear hstep
    go_wp2_with (first|((first|refine zU ?_|(refine zA 4 ?_;intro b4));clear H;intro wn H)|(refine zHq 4 ?_;(iterate 2 (all_goals(refine zhFV ?_)));all_goals refine zHk (fun w1 H1=>c1 _) ?_;(iterate 16 (all_goals((first|refine zhSF ?_|refine zhSk ?_|refine zhV ?_))));all_goals(refine zHz ?_;clear H;intro wn H)))
    go_ret
    exact⟨by rw[HI2.out];rfl,H.below⟩
   cases i with
   | zero=>
    have HI2:Hid (z=(allFrom f n 1&&decide (n≤12))):=hY (by rw[hstep];simp[noteAft])
    clear hstep
    go_wp2_with (first|((first|refine zU ?_|(refine zA 4 ?_;intro b4));clear H;intro wn H)|(refine zHq 4 ?_;(iterate 2 (all_goals(refine zhFV ?_)));all_goals refine zHk (fun w1 H1=>c1 _) ?_;(iterate 16 (all_goals((first|(refine zhGF ?_;refine zhV ?_)|refine zhST ?_|refine zhV ?_))));all_goals(refine zHz ?_;clear H;intro wn H)))
    go_roundg (n-1)
    case measure=>omega
    case rel=>exact⟨1,by omega,by go_num,HI2,H.sel sF⟩
   | succ j=>
    obtain⟨y,hy⟩:=atE (i:=j) HN (by omega)
    have hs2:=sl_at (by have:=HR.out;rw[HN.out] at this;exact this) hy
    rw[←HN.out] at hs2
    obtain⟨b3,off3,c3,cs3,hw,hcs3,hB⟩:=hs2
    injection hw with hw1 hw2 hw3
    injection hw1 with hw1
    injection hw1 with hw4 hw5
    subst hw3 hw4 hw5
    obtain rfl:cs3=encNt y:=hcs3
    unfold noteAft at hstep
    simp only[hy] at hstep
    obtain⟨y1,y2⟩:=y
    simp only at hstep
    have h2:w.cell? ⟨b,off+j*2,none⟩=some (.int .i64 y1):=hB.head (u := .int .i64 y1) rfl
    have hlt2:(j:Int)<n:=by omega
    have hlt3:j<n:=by omega
    have hpos:(0:Int)<(j:Int)+1:=by omega
    clear hB hy hw2
    by_cases hq:x1<y1
    ·have HI2:Hid (z=false):=hY (by rw[hstep];simp[hq])
     clear hstep
     go_wp2_with (first|((first|refine zU ?_|(refine zA 4 ?_;intro b4));clear H;intro wn H)|(refine zHq 4 ?_;(iterate 2 (all_goals(refine zhFV ?_)));all_goals refine zHk (fun w1 H1=>c1 _) ?_;(iterate 16 (all_goals((first|((first|refine zhGF ?_|refine zhGT ?_);refine zhFWV ?_)|refine zhV ?_))));all_goals(refine zHz ?_;clear H;intro wn H)))
     go_ret
     exact⟨by rw[HI2.out];rfl,H.below⟩
    ·have HI2:Hid (z=(allFrom f n (j+1+1)&&decide (n≤12))):=hY (by rw[hstep];simp[hq])
     clear hstep
     go_wp2_with (first|((first|refine zU ?_|(refine zA 4 ?_;intro b4));clear H;intro wn H)|(refine zHq 4 ?_;(iterate 2 (all_goals(refine zhFV ?_)));all_goals refine zHk (fun w1 H1=>c1 _) ?_;(iterate 16 (all_goals((first|((first|refine zhGF ?_|refine zhGT ?_);refine zhFWV ?_)|refine zhV ?_))));all_goals(refine zHz ?_;clear H;intro wn H)))
     go_roundg (n-(j+1+1))
     case measure=>omega
     case rel=>exact⟨j+1+1,by omega,by go_num,HI2,H.sel sF⟩
  ·obtain rfl:i=n:=by omega
   have hlt1:=nlt i
   have hz:=HI.out
   rw[allFrom_end (Nat.le_refl _),Bool.true_and] at hz
   have HI2:=hY hz
   clear hz HI HZ
   by_cases h4:i≤12
   ·have h5:(i:Int)≤12:=by omega
    have HI3:Hid (z=true):=hY (by rw[HI2.out];simp[h4])
    go_wp2_with (fail)
    go_ret
    exact⟨by rw[HI3.out];rfl,H.below⟩
   ·have h5:¬(i:Int)≤12:=by omega
    have HI3:Hid (z=false):=hY (by rw[HI2.out];simp[h4])
    go_wp2_with (fail)
    go_ret
    exact⟨by rw[HI3.out];rfl,H.below⟩
theorem mailRight_i(c:Cfg)(cs:List Value)(v:Value)(l:List Bo)(w:World)(hrc:tyCfg.rd w cs c)(hr:(Ty.sl 128 tyBo).rd w [v] l):Gives Tryz.prog 123 #[.agg cs.toArray,.agg #[v]] w (.bool (mailOk c l)):=by
 have c1:=fun w1 hb=>configRight_i c cs w1 (Ty.below _ hrc hb)
 obtain⟨v1,v2,v3,rfl,h1,h2,h3⟩:=cfg_form hrc
 obtain⟨nd,pr,qt,hf⟩:=c
 simp only at h1 h2 h3
 have c1:∀w1,Below w.heap.size w w1→Gives Tryz.prog 191 #[.agg #[v1,v2,v3,.int .i64 hf]] w1 (.bool (cfgOk (nd,pr,qt,hf))):=c1
 show Gives Tryz.prog _ #[.agg #[v1,v2,v3,.int .i64 hf],.agg #[v]] w _
 obtain⟨z,hz⟩:=nm (mailOk (nd,pr,qt,hf) l)
 rw[←hz]
 have hst:z=(cfgOk (nd,pr,qt,hf)&&(decide (l.length=pr.length)&&allFrom (boxIn pr l) l.length 0)):=hz
 obtain⟨A,ca,rfl,hlc,hcm⟩:=sl_form hr
 obtain⟨B,cb,rfl,hlb,hbm⟩:=sl_form h2
 unfold maxLen at *
 have HR:=hY hr
 have HP:=hY h2
 obtain⟨n,hn⟩:=nm l.length
 obtain⟨m,hm⟩:=nm pr.length
 have hnl:n≤9223372036854775807:=by omega
 rw[←hn] at HR hst ⊢
 rw[←hm] at HP hst ⊢
 rw[←hm] at c1
 have HN:=hY hn
 have HM:=hY hm
 clear hr h1 h2 h3 hrc hlc hcm hlb hbm hn hm hz
 generalize cfgOk (nd,pr,qt,hf)=z1 at *
 have H:=Hs.start noRow w
 unfold Gives
 cases z1
 case false=>
  have HI2:Hid (z=false):=hY (by rw[hst];simp)
  clear hst
  go_enter Tryz.func123,Tryz.ntmps123
  go_wp2_with (first|((((with_reducible refine st_gsF ?_ ?_);rfl));(try refine zp ?_))|((first|refine zM ?_|(refine zB 2 ?_;intro b2)|(refine zB 3 ?_;intro b3)|(go_at_call 191;refine gvF (c1 _ H.below) H ?_));clear H;intro wn H))
  go_ret
  exact⟨by rw[HI2.out];rfl,H.below⟩
 by_cases hnm:n=m
 case neg=>
  have hnm2:((n:Int)==(m:Int))=false:=by simp;omega
  have HI2:Hid (z=false):=hY (by rw[hst];simp[hnm])
  clear hst
  go_enter Tryz.func123,Tryz.ntmps123
  go_wp2_with (first|((((with_reducible refine st_gwF ?_ ?_);rfl));(try refine zp ?_))|((first|refine zU ?_|(refine zB 2 ?_;intro b2)|(refine zB 3 ?_;intro b3)|(go_at_call 191;refine gvF (c1 _ H.below) H ?_));clear H;intro wn H))
  go_ret
  exact⟨by rw[HI2.out];rfl,H.below⟩
 subst hnm
 obtain⟨f,hf'⟩:∃f,f=boxIn pr l:=⟨_,rfl⟩
 have HF:=hY hf'
 have HZ:Hid (z=allFrom f n 0):=hY (by rw[hst,hf'];simp)
 clear hst hf'
 go_enter Tryz.func123,Tryz.ntmps123
 go_wp2_with (first|((((with_reducible refine st_gwF ?_ ?_);rfl));(try refine zp ?_))|((first|refine zU ?_|(refine zB 2 ?_;intro b2)|(refine zB 3 ?_;intro b3)|(go_at_call 191;refine gvF (c1 _ H.below) H ?_));clear H;intro wn H))
 go_loopg [23] n (fun m iv wr=>∃(i:Nat),i+m=n∧iv = .int .i64 i∧Hid (z=allFrom f n i)∧Hs noRow w [Hl.blk b2 47 #[v1,.slice B n cb,v3,.int .i64 hf],Hl.blk b3 55 #[.slice A n ca]] wr)
 case atStart=>exact⟨0,by omega,rfl,HZ,H.sel sF⟩
 case round=>
  clear H
  obtain⟨i,hi,rfl,HI,H⟩:=hrel
  by_cases hlt:i<n
  ·obtain ⟨x,hx⟩:=atE HN hlt
   obtain⟨p,hp⟩:=atE HM hlt
   have hs:=sl_at (by have:=HR.out;rw[HN.out] at this;exact this) hx
   rw[←HN.out] at hs
   obtain⟨b,off,c',cs,hv,hcs,hA⟩:=hs
   injection hv with hv1 hv2 hv3
   subst hv1 hv3
   obtain⟨u1,u2,u3,hu,g1,g2,g3⟩:=bo_form hcs
   subst hu
   have hs2:=sl_at (by have:=HP.out;rw[HM.out] at this;exact this) hp
   rw[←HM.out] at hs2
   obtain⟨d,dff,c2,cs2,hw,hcs2,hB⟩:=hs2
   injection hw with hw1 hw2 hw3
   subst hw1 hw3
   obtain rfl:cs2=encPr p:=hcs2
   have hfi:f i=boxOk p.2.2 x:=by rw[HF.out];unfold boxIn;rw[hx,hp]
   have hstep:=HI.out
   rw[allFrom_step hlt,hfi] at hstep
   obtain⟨⟨p1,p2⟩,⟨p3,p4⟩,r⟩:=p
   obtain⟨x1,x2,x3⟩:=x
   unfold boxOk at hstep
   simp only at hstep g1 g2 g3
   have h4:w.cell? ⟨d,dff+i*5+4,none⟩=some (.int .i64 r):=hB 4 _ rfl
   have c3:=fun w1 hb=>notesRight_i u3 x3 w1 (Ty.below _ g3 hb)
   obtain⟨A1,d1,rfl,_,_⟩:=sl_form g1
   obtain⟨A2,d2,rfl,_,_⟩:=sl_form g2
   obtain⟨A3,d3,rfl,_,_⟩:=sl_form g3
   generalize x1.length=n1 at *
   generalize x2.length=n2 at *
   generalize x3.length=n3 at *
   generalize notesOk x3=z3 at *
   have hlt1:(i:Int)<n:=by omega
   clear hfi hx hp hv2 hw2 hcs hB g1 g2 g3 HI
   by_cases q1:(n1:Int)≤r
   case neg=>
    have q1':(r:Int)<n1:=by omega
    have HI2:Hid (z=false):=hY (by rw[hstep];simp[q1])
    clear hstep
    go_wp2_with (first|((((with_reducible refine st_gsF ?_ ?_);rfl));(try refine zp ?_))|((first|refine zU ?_|(refine zA 6 ?_;intro b6));clear H;intro wn H))
    go_ret
    exact⟨by rw[HI2.out];rfl,H.below⟩
   have q1':¬(r:Int)<n1:=by omega
   by_cases q2:(n2:Int)≤r
   case neg=>
    have q2':(r:Int)<n2:=by omega
    have HI2:Hid (z=false):=hY (by rw[hstep];simp[q2])
    clear hstep
    go_wp2_with (first|refine zgU ?_|((first|refine zU ?_|(refine zA 6 ?_;intro b6));clear H;intro wn H))
    go_ret
    exact⟨by rw[HI2.out];rfl,H.below⟩
   have q2':¬(r:Int)<n2:=by omega
   cases z3
   case false=>
    have HI2:Hid (z=false):=hY (by rw[hstep];simp)
    clear hstep
    go_wp2_with (first|((((with_reducible refine st_gwF ?_ ?_);rfl));(try refine zp ?_))|((first|refine zU ?_|(refine zA 6 ?_;intro b6)|(go_at_call 204;refine gvF (c3 _ H.below) H ?_));clear H;intro wn H))
    go_ret
    exact⟨by rw[HI2.out];rfl,H.below⟩
   have HI2:Hid (z=allFrom f n (i+1)):=hY (by rw[hstep];simp[q1,q2])
   clear hstep
   go_wp2_with (first|((((with_reducible refine st_gwF ?_ ?_);rfl));(try refine zp ?_))|((first|refine zU ?_|(refine zA 6 ?_;intro b6)|(go_at_call 204;refine gvF (c3 _ H.below) H ?_));clear H;intro wn H))
   go_roundg (n-(i+1))
   case measure=>omega
   case rel=>exact⟨i+1,by omega,by go_num,HI2,H.sel sF⟩
  ·obtain rfl:i=n:=by omega
   have hlt1:=nlt i
   have hz:=HI.out
   rw[allFrom_end (Nat.le_refl _)] at hz
   have HI2:=hY hz
   clear hz HI HZ
   go_wp2_with (fail)
   go_ret
   exact⟨by rw[HI2.out];rfl,H.below⟩
theorem mailRight_s(c:Cfg)(cs:List Value)(v:Value)(l:List Bo)(w:World)(hrc:tyCfg.rd w cs c)(hr:(Ty.sl 128 tyBo).rd w [v] l):Gives Tryz.prog 102 #[.agg cs.toArray,.agg #[v]] w (.bool (mailOk c l)):=by
 have c1:=fun w1 hb=>configRight_s c cs w1 (Ty.below _ hrc hb)
 obtain⟨v1,v2,v3,rfl,h1,h2,h3⟩:=cfg_form hrc
 obtain⟨nd,pr,qt,hf⟩:=c
 simp only at h1 h2 h3
 have c1:∀w1,Below w.heap.size w w1→Gives Tryz.prog 172 #[.agg #[v1,v2,v3,.int .i64 hf]] w1 (.bool (cfgOk (nd,pr,qt,hf))):=c1
 show Gives Tryz.prog _ #[.agg #[v1,v2,v3,.int .i64 hf],.agg #[v]] w _
 obtain⟨z,hz⟩:=nm (mailOk (nd,pr,qt,hf) l)
 rw[←hz]
 have hst:z=(cfgOk (nd,pr,qt,hf)&&(decide (l.length=pr.length)&&allFrom (boxIn pr l) l.length 0)):=hz
 obtain⟨A,ca,rfl,hlc,hcm⟩:=sl_form hr
 obtain⟨B,cb,rfl,hlb,hbm⟩:=sl_form h2
 unfold maxLen at *
 have HR:=hY hr
 have HP:=hY h2
 obtain⟨n,hn⟩:=nm l.length
 obtain⟨m,hm⟩:=nm pr.length
 have hnl:n≤9223372036854775807:=by omega
 rw[←hn] at HR hst ⊢
 rw[←hm] at HP hst ⊢
 rw[←hm] at c1
 have HN:=hY hn
 have HM:=hY hm
 clear hr h1 h2 h3 hrc hlc hcm hlb hbm hn hm hz
 generalize cfgOk (nd,pr,qt,hf)=z1 at *
 have H:=Hs.start noRow w
 unfold Gives
 cases z1
 case false=>
  have HI2:Hid (z=false):=hY (by rw[hst];simp)
  clear hst
  go_enter Tryz.func102,Tryz.ntmps102
  go_wp2_with (first|((((with_reducible refine st_gsF ?_ ?_);rfl));(try refine zp ?_))|((first|refine zM ?_|(refine zB 2 ?_;intro b2)|(refine zB 3 ?_;intro b3)|(go_at_call 172;refine gvF (c1 _ H.below) H ?_));clear H;intro wn H))
  go_ret
  exact⟨by rw[HI2.out];rfl,H.below⟩
 by_cases hnm:n=m
 case neg=>
  have hnm2:((n:Int)==(m:Int))=false:=by simp;omega
  have HI2:Hid (z=false):=hY (by rw[hst];simp[hnm])
  clear hst
  go_enter Tryz.func102,Tryz.ntmps102
  go_wp2_with (first|((((with_reducible refine st_gwF ?_ ?_);rfl));(try refine zp ?_))|((first|refine zU ?_|(refine zB 2 ?_;intro b2)|(refine zB 3 ?_;intro b3)|(go_at_call 172;refine gvF (c1 _ H.below) H ?_));clear H;intro wn H))
  go_ret
  exact⟨by rw[HI2.out];rfl,H.below⟩
 subst hnm
 obtain⟨f,hf'⟩:∃f,f=boxIn pr l:=⟨_,rfl⟩
 have HF:=hY hf'
 have HZ:Hid (z=allFrom f n 0):=hY (by rw[hst,hf'];simp)
 clear hst hf'
 go_enter Tryz.func102,Tryz.ntmps102
 go_wp2_with (first|((((with_reducible refine st_gwF ?_ ?_);rfl));(try refine zp ?_))|((first|refine zU ?_|(refine zB 2 ?_;intro b2)|(refine zB 3 ?_;intro b3)|(go_at_call 172;refine gvF (c1 _ H.below) H ?_));clear H;intro wn H))
 go_loopg [5] n (fun m iv wr=>∃(i:Nat),i+m=n∧iv = .int .i64 i∧Hid (z=allFrom f n i)∧Hs noRow w [Hl.blk b2 47 #[v1,.slice B n cb,v3,.int .i64 hf],Hl.blk b3 55 #[.slice A n ca]] wr)
 case atStart=>exact⟨0,by omega,rfl,HZ,H.sel sF⟩
 case round=>
  clear H
  obtain⟨i,hi,rfl,HI,H⟩:=hrel
  by_cases hlt:i<n
  ·obtain ⟨x,hx⟩:=atE HN hlt
   obtain⟨p,hp⟩:=atE HM hlt
   have hs:=sl_at (by have:=HR.out;rw[HN.out] at this;exact this) hx
   rw[←HN.out] at hs
   obtain⟨b,off,c',cs,hv,hcs,hA⟩:=hs
   injection hv with hv1 hv2 hv3
   subst hv1 hv3
   obtain⟨u1,u2,u3,hu,g1,g2,g3⟩:=bo_form hcs
   subst hu
   have hs2:=sl_at (by have:=HP.out;rw[HM.out] at this;exact this) hp
   rw[←HM.out] at hs2
   obtain⟨d,dff,c2,cs2,hw,hcs2,hB⟩:=hs2
   injection hw with hw1 hw2 hw3
   subst hw1 hw3
   obtain rfl:cs2=encPr p:=hcs2
   have hfi:f i=boxOk p.2.2 x:=by rw[HF.out];unfold boxIn;rw[hx,hp]
   have hstep:=HI.out
   rw[allFrom_step hlt,hfi] at hstep
   obtain⟨⟨p1,p2⟩,⟨p3,p4⟩,r⟩:=p
   obtain⟨x1,x2,x3⟩:=x
   unfold boxOk at hstep
   simp only at hstep g1 g2 g3
   have h4:w.cell? ⟨d,dff+i*5+4,none⟩=some (.int .i64 r):=hB 4 _ rfl
   obtain⟨A1,d1,rfl,_,_⟩:=sl_form g1
   obtain⟨A2,d2,rfl,_,_⟩:=sl_form g2
   obtain⟨A3,d3,rfl,hl3,hm3⟩:=sl_form g3
   unfold maxLen at *
   have HR3:=hY g3
   have hst3:notesOk x3=(allFrom (noteIn x3) x3.length 0&&decide (x3.length≤12)):=rfl
   rw[hst3] at hstep
   generalize x1.length=n1 at *
   generalize x2.length=n2 at *
   obtain⟨n3,hn3⟩:=nm x3.length
   rw[←hn3] at hstep HR3 hA
   have hn39:n3≤9223372036854775807:=by omega
   have HN3:=hY hn3
   obtain⟨h,hh⟩:=nm (noteIn x3)
   rw[←hh] at hstep
   have HH:=hY hh
   clear hl3 hm3 hst3 hn3 hh
   have hlt1:(i:Int)<n:=by omega
   clear hfi hx hp hv2 hw2 hcs hB g1 g2 g3 HI
   by_cases q1:(n1:Int)≤r
   case neg=>
    have q1':(r:Int)<n1:=by omega
    have HI2:Hid (z=false):=hY (by rw[hstep];simp[q1])
    clear hstep
    go_wp2_with (first|((first|refine zU ?_|(refine zA 6 ?_;intro b6));clear H;intro wn H)|(refine zHq 7 ?_;(iterate 28 (all_goals((first|refine zhSF ?_|refine zhFV ?_))));all_goals(refine zHz ?_;clear H;intro wn H)))
    go_ret
    exact⟨by rw[HI2.out];rfl,H.below⟩
   have q1':¬(r:Int)<n1:=by omega
   by_cases q2:(n2:Int)≤r
   case neg=>
    have q2':(r:Int)<n2:=by omega
    have HI2:Hid (z=false):=hY (by rw[hstep];simp[q2])
    clear hstep
    go_wp2_with (first|((first|refine zU ?_|(refine zA 6 ?_;intro b6));clear H;intro wn H)|(refine zHq 7 ?_;(iterate 28 (all_goals((first|(refine zhGF ?_;refine zhFV ?_)|refine zhSF ?_|refine zhFV ?_))));all_goals(refine zHz ?_;clear H;intro wn H)))
    go_ret
    exact⟨by rw[HI2.out];rfl,H.below⟩
   have q2':¬(r:Int)<n2:=by omega
   by_cases q3:n3≤12
   case neg=>
    have q3':(12:Int)<n3:=by omega
    have HI2:Hid (z=false):=hY (by rw[hstep];simp[q3])
    clear hstep
    go_wp2_with (first|((first|refine zU ?_|(refine zA 6 ?_;intro b6));clear H;intro wn H)|(refine zHq 7 ?_;(iterate 28 (all_goals((first|(refine zhGF ?_;refine zhFV ?_)|refine zhFV ?_))));all_goals(refine zHz ?_;clear H;intro wn H)))
    go_ret
    exact⟨by rw[HI2.out];rfl,H.below⟩
   have q3':¬(12:Int)<n3:=by omega
   have HI2:Hid (z=(allFrom h n3 0&&allFrom f n (i+1))):=hY (by rw[hstep];simp[q1,q2,q3])
   clear hstep
   go_wp2_with (first|((first|refine zU ?_|(refine zA 6 ?_;intro b6));clear H;intro wn H)|(refine zHq 7 ?_;(iterate 28 (all_goals((first|(refine zhGF ?_;refine zhFV ?_)|refine zhFV ?_))));all_goals(refine zHz ?_;clear H;intro wn H)))
   go_loopg [7] n3 (fun m kv wr=>∃(k:Nat),k+m=n3∧kv = .int .i64 k∧Hid (z=(allFrom h n3 k&&allFrom f n (i+1)))∧Hs noRow w [Hl.blk b6 128 #[.slice A1 n1 d1,.slice A2 n2 d2,.slice A3 n3 d3],Hl.blk b2 47 #[v1,.slice (some ⟨d,dff,none⟩) n cb,v3,.int .i64 hf],Hl.blk b3 55 #[.slice (some ⟨b,off,none⟩) n ca]] wr)
   case atStart=>exact⟨0,by omega,rfl,HI2,H.sel sF⟩
   case round=>
    clear H HI2
    obtain⟨k,hk,rfl,HI,H⟩:=hrel
    by_cases hlk:k<n3
    ·obtain ⟨y,hy⟩:=atE HN3 hlk
     have hs:=sl_at (by have:=HR3.out;rw[HN3.out] at this;exact this) hy
     rw[←HN3.out] at hs
     obtain⟨e,eff,c7,cs7,hv,hcs,hA⟩:=hs
     injection hv with hv1 hv2 hv3
     subst hv1 hv3
     obtain rfl:cs7=encNt y:=hcs
     have hstep:=HI.out
     have hfi:h k=(isIn y.1 0 999900&&noteAft x3 k y):=by rw[HH.out];unfold noteIn;rw[hy]
     rw[allFrom_step hlk,hfi] at hstep
     clear hfi
     have hlk1:(k:Int)<n3:=by omega
     clear hy hv2
     obtain⟨y1,y2⟩:=y
     have c5:=fun w1=>now_s y1 w1
     simp only at hstep c5
     have h5:w.cell? ⟨e,eff+k*2,none⟩=some (.int .i64 y1):=hA.head (u := .int .i64 y1) rfl
     clear hA
     generalize isIn y1 0 999900=z1 at *
     cases z1
     case false=>
      have HI2:Hid (z=false):=hY (by rw[hstep];simp)
      clear hstep
      go_wp2_with (first|(refine zL ?_;clear H;intro wn H)|(refine zHq 12 ?_;(iterate 6 (all_goals(refine zhFV ?_)));all_goals refine zHk (fun w1 H1=>c5 _) ?_;(iterate 21 (all_goals((first|refine zhSF ?_|refine zhSk ?_|refine zhV ?_))));all_goals(refine zHz ?_;clear H;intro wn H)))
      go_ret
      exact⟨by rw[HI2.out];rfl,H.below⟩
     cases k with
     | zero=>
      have HI2:Hid (z=(allFrom h n3 1&&allFrom f n (i+1))):=hY (by rw[hstep];simp[noteAft])
      clear hstep
      go_wp2_with (first|(refine zL ?_;clear H;intro wn H)|(refine zHq 12 ?_;(iterate 6 (all_goals(refine zhFV ?_)));all_goals refine zHk (fun w1 H1=>c5 _) ?_;(iterate 21 (all_goals((first|(refine zhGF ?_;refine zhV ?_)|refine zhST ?_|refine zhV ?_))));all_goals(refine zHz ?_;clear H;intro wn H)))
      go_roundg (n3-1)
      case measure=>omega
      case rel=>exact⟨1,by omega,by go_num,HI2,H.sel sF⟩
     | succ j=>
      obtain⟨o,ho⟩:=atE (i:=j) HN3 (by omega)
      have hs2:=sl_at (by have:=HR3.out;rw[HN3.out] at this;exact this) ho
      rw[←HN3.out] at hs2
      obtain⟨e3,eff3,c3,cs3,hw,hcs3,hB⟩:=hs2
      injection hw with hw1 hw2 hw3
      injection hw1 with hw1
      injection hw1 with hw4 hw5
      subst hw3 hw4 hw5
      obtain rfl:cs3=encNt o:=hcs3
      unfold noteAft at hstep
      simp only[ho] at hstep
      obtain⟨o1,o2⟩:=o
      simp only at hstep
      have h6:w.cell? ⟨e,eff+j*2,none⟩=some (.int .i64 o1):=hB.head (u := .int .i64 o1) rfl
      have hlk2:(j:Int)<n3:=by omega
      have hlk3:j<n3:=by omega
      have hpos:(0:Int)<(j:Int)+1:=by omega
      clear hB ho hw2
      by_cases hq:y1<o1
      ·have HI2:Hid (z=false):=hY (by rw[hstep];simp[hq])
       clear hstep
       go_wp2_with (first|(refine zL ?_;clear H;intro wn H)|(refine zHq 12 ?_;(iterate 6 (all_goals(refine zhFV ?_)));all_goals refine zHk (fun w1 H1=>c5 _) ?_;(iterate 21 (all_goals((first|((first|refine zhGF ?_|refine zhGT ?_);refine zhFWV ?_)|refine zhV ?_))));all_goals(refine zHz ?_;clear H;intro wn H)))
       go_ret
       exact⟨by rw[HI2.out];rfl,H.below⟩
      ·have HI2:Hid (z=(allFrom h n3 (j+1+1)&&allFrom f n (i+1))):=hY (by rw[hstep];simp[hq])
       clear hstep
       go_wp2_with (first|(refine zL ?_;clear H;intro wn H)|(refine zHq 12 ?_;(iterate 6 (all_goals(refine zhFV ?_)));all_goals refine zHk (fun w1 H1=>c5 _) ?_;(iterate 21 (all_goals((first|((first|refine zhGF ?_|refine zhGT ?_);refine zhFWV ?_)|refine zhV ?_))));all_goals(refine zHz ?_;clear H;intro wn H)))
       go_roundg (n3-(j+1+1))
       case measure=>omega
       case rel=>exact⟨j+1+1,by omega,by go_num,HI2,H.sel sF⟩
    ·obtain rfl:k=n3:=by omega
     have hlk1:=nlt k
     have hz:=HI.out
     rw[allFrom_end (Nat.le_refl _),Bool.true_and] at hz
     have HI2:=hY hz
     clear hz HI
     go_wp2_with (refine zL ?_;clear H;intro wn H)
     go_roundg (n-(i+1))
     case measure=>omega
     case rel=>exact⟨i+1,by omega,by go_num,HI2,H.sel sF⟩
  ·obtain rfl:i=n:=by omega
   have hlt1:=nlt i
   have hz:=HI.out
   rw[allFrom_end (Nat.le_refl _)] at hz
   have HI2:=hY hz
   clear hz HI HZ
   go_wp2_with (refine zL ?_;clear H;intro wn H)
   go_ret
   exact⟨by rw[HI2.out];rfl,H.below⟩
end Go.Proofs.YtcabgibdkmgdlaaGreat
namespace Go.Proofs.YtcabgibdkmgdlaaGreat
open Go.RowKit M
namespace M
def spanOk(x:Sp):Bool:=isIn x.1 0 1000000&&(decide (x.1<x.2)&&decide (x.2≤1000000))
def spanAft(l:List Sp)(i:Nat)(x:Sp):Bool:=match i with
 | 0=>true
 | j+1=>match l[j]? with
  | some y=>!decide (x.1<y.2)
  | none=>true
def spanIn(l:List Sp)(i:Nat):Bool:=match l[i]? with
 | some x=>spanOk x&&spanAft l i x
 | none=>true
def spansOk(l:List Sp):Bool:=allFrom (spanIn l) l.length 0&&decide (l.length≤20)
def nodeOk(x:Nd):Bool:=isIn x.1 1 3&&(decide (x.2.length≤4)&&spansOk x.2)
def nodesOk(l:List Nd):Bool:=decide (1≤l.length)&&(decide (l.length≤6)&&l.all nodeOk)
theorem spanOk_i(x:Sp):(isIn x.1 0 1000000&&(isIn x.2 0 1000000&&decide (x.1<x.2)))=spanOk x:=by
 unfold spanOk isIn
 by_cases h1:0≤x.1 <;> by_cases h2:x.1<x.2 <;> by_cases h3:x.2≤1000000 <;> simp[h1,h2,h3]
 intro;omega
end M
theorem tim_i(n:Int)(w:World):Gives Tryz.prog 70 #[.int .i64 n] w (.bool (isIn n 0 1000000)):=by
 have hC:=fun w=>within_i n 0 1000000 w
 have H:=Hs.start noRow w
 unfold Gives isIn
 generalize (decide (0≤n)&&decide (n≤1000000))=z at *
 go_enter Tryz.func70,Tryz.ntmps70
 go_wp2_with (((go_at_call 71;refine gvF (hC _) H ?_));clear H;intro wn H)
 go_ret
 exact⟨rfl,H.below⟩
theorem tim_s(n:Int)(w:World):Gives Tryz.prog 49 #[.int .i64 n] w (.bool (isIn n 0 1000000)):=by
 have hC:=fun w=>is_s n 0 1000000 w
 have H:=Hs.start noRow w
 unfold Gives isIn
 generalize (decide (0≤n)&&decide (n≤1000000))=z at *
 go_enter Tryz.func49,Tryz.ntmps49
 go_wp2_with (((go_at_call 50;refine gvF (hC _) H ?_));clear H;intro wn H)
 go_ret
 exact⟨rfl,H.below⟩
theorem ndSt_i(n:Int)(w:World):Gives Tryz.prog 271 #[.int .i64 n] w (.bool (isIn n 1 3)):=by
 have hC:=fun w=>within_i n 1 3 w
 have H:=Hs.start noRow w
 unfold Gives isIn
 generalize (decide (1≤n)&&decide (n≤3))=z at *
 go_enter Tryz.func271,Tryz.ntmps271
 go_wp2_with (((go_at_call 71;refine gvF (hC _) H ?_));clear H;intro wn H)
 go_ret
 exact⟨rfl,H.below⟩
theorem ndSt_s(n:Int)(w:World):Gives Tryz.prog 246 #[.int .i64 n] w (.bool (isIn n 1 3)):=by
 have hC:=fun w=>is_s n 1 3 w
 have H:=Hs.start noRow w
 unfold Gives isIn
 generalize (decide (1≤n)&&decide (n≤3))=z at *
 go_enter Tryz.func246,Tryz.ntmps246
 go_wp2_with (((go_at_call 50;refine gvF (hC _) H ?_));clear H;intro wn H)
 go_ret
 exact⟨rfl,H.below⟩
theorem spanRight_i(x:Sp)(w:World):Gives Tryz.prog 331 #[.agg #[.int .i64 x.1,.int .i64 x.2]] w (.bool (spanOk x)):=by
 rw[←spanOk_i]
 obtain⟨a,b⟩:=x
 have c1:=fun w1=>tim_i a w1
 have c2:=fun w1=>tim_i b w1
 simp only
 generalize isIn a 0 1000000=z1 at *
 generalize isIn b 0 1000000=z2 at *
 have H:=Hs.start noRow w
 unfold Gives
 cases z1 <;> cases z2
 all_goals(
  simp only[Bool.true_and,Bool.false_and]
  go_enter Tryz.func331,Tryz.ntmps331
  go_wp2_with (first|refine zgU ?_|((first|refine zL ?_|(refine zB 1 ?_;intro b1)|(go_at_call 70;refine gvF (c1 _) H ?_;clear c1)|(go_at_call 70;refine gvF (c2 _) H ?_));clear H;intro wn H))
  go_ret
  exact⟨rfl,H.below⟩)
theorem spanRight_s(x:Sp)(w:World):Gives Tryz.prog 321 #[.agg #[.int .i64 x.1,.int .i64 x.2]] w (.bool (spanOk x)):=by
 obtain⟨a,b⟩:=x
 have c1:=fun w1=>tim_s a w1
 unfold spanOk
 simp only
 generalize isIn a 0 1000000=z1 at *
 have H:=Hs.start noRow w
 unfold Gives
 cases z1 <;> by_cases h:a<b
 all_goals(
  simp only[Bool.true_and,Bool.false_and,h,decide_true,decide_false]
  go_enter Tryz.func321,Tryz.ntmps321
  go_wp2_with (first|refine zgU ?_|((first|refine zL ?_|(refine zB 1 ?_;intro b1)|(go_at_call 49;refine gvF (c1 _) H ?_));clear H;intro wn H))
  go_ret
  exact⟨rfl,H.below⟩)
theorem spansRight_i(v:Value)(l:List Sp)(w:World)(hr:(Ty.sl 174 tySp).rd w [v] l):Gives Tryz.prog 272 #[v] w (.bool (spansOk l)):=by
 obtain⟨A,c,rfl,hlc,hcm⟩:=sl_form hr
 unfold maxLen at *
 have HR:=hY hr
 obtain⟨n,hn⟩:=nm l.length
 have hnl:n≤9223372036854775807:=by omega
 rw[←hn] at HR ⊢
 have HN:=hY hn
 obtain⟨z,hz⟩:=nm (spansOk l)
 rw[←hz]
 obtain⟨f,hf'⟩:∃f,f=spanIn l:=⟨_,rfl⟩
 have HF:=hY hf'
 have HZ:Hid (z=(allFrom f n 0&&decide (n≤20))):=hY (by rw[hz,hf',hn];rfl)
 clear hr hn hlc hcm hz hf'
 have H:=Hs.start noRow w
 unfold Gives
 go_enter Tryz.func272,Tryz.ntmps272
 go_wp2_with (fail)
 go_loopg [7] n (fun m iv wr=>∃(i:Nat),i+m=n∧iv = .int .i64 i∧Hid (z=(allFrom f n i&&decide (n≤20)))∧Hs noRow w [] wr)
 case atStart=>exact⟨0,by omega,rfl,HZ,H⟩
 case round=>
  clear H
  obtain⟨i,hi,rfl,HI,H⟩:=hrel
  by_cases hlt:i<n
  ·obtain ⟨x,b,off,cs,hx,rfl,hv2,hcs,hA⟩:=slE HR HN hlt
   obtain rfl:cs=encSp x:=hcs
   have hstep:=HI.out
   have hfi:f i=(spanOk x&&spanAft l i x):=by rw[HF.out];unfold spanIn;rw[hx]
   rw[allFrom_step hlt,hfi] at hstep
   clear hfi
   have hlt1:(i:Int)<n:=by omega
   clear hx hv2
   obtain⟨x1,x2⟩:=x
   have c1:=fun w1=>spanRight_i (x1,x2) w1
   unfold encSp at hA
   simp only at hA hstep c1
   generalize spanOk (x1,x2)=z1 at *
   cases z1
   case false=>
    have HI2:Hid (z=false):=hY (by rw[hstep];simp)
    clear hstep
    go_wp2_with (first|((first|refine zU ?_|(refine zA 4 ?_;intro b4));clear H;intro wn H)|(refine zHq 4 ?_;all_goals refine zhF ?_;all_goals refine zHk (fun w1 H1=>c1 _) ?_;(iterate 16 (all_goals((first|refine zhSF ?_|refine zhSk ?_|refine zhV ?_))));all_goals(refine zHz ?_;clear H;intro wn H)))
    go_ret
    exact⟨by rw[HI2.out];rfl,H.below⟩
   cases i with
   | zero=>
    have HI2:Hid (z=(allFrom f n 1&&decide (n≤20))):=hY (by rw[hstep];simp[spanAft])
    clear hstep
    go_wp2_with (first|((first|refine zU ?_|(refine zA 4 ?_;intro b4));clear H;intro wn H)|(refine zHq 4 ?_;all_goals refine zhF ?_;all_goals refine zHk (fun w1 H1=>c1 _) ?_;(iterate 16 (all_goals((first|(refine zhGF ?_;refine zhV ?_)|refine zhST ?_|refine zhV ?_))));all_goals(refine zHz ?_;clear H;intro wn H)))
    go_roundg (n-1)
    case measure=>omega
    case rel=>exact⟨1,by omega,by go_num,HI2,H.sel sF⟩
   | succ j=>
    obtain⟨y,hy⟩:=atE (i:=j) HN (by omega)
    have hs2:=sl_at (by have:=HR.out;rw[HN.out] at this;exact this) hy
    rw[←HN.out] at hs2
    obtain⟨b3,off3,c3,cs3,hw,hcs3,hB⟩:=hs2
    injection hw with hw1 hw2 hw3
    injection hw1 with hw1
    injection hw1 with hw4 hw5
    subst hw3 hw4 hw5
    obtain rfl:cs3=encSp y:=hcs3
    unfold spanAft at hstep
    simp only[hy] at hstep
    obtain⟨y1,y2⟩:=y
    simp only at hstep
    have h2:w.cell? ⟨b,off+j*2+1,none⟩=some (.int .i64 y2):=hB 1 _ rfl
    have hlt2:(j:Int)<n:=by omega
    have hlt3:j<n:=by omega
    have hpos:(0:Int)<(j:Int)+1:=by omega
    clear hB hy hw2
    by_cases hq:x1<y2
    ·have HI2:Hid (z=false):=hY (by rw[hstep];simp[hq])
     clear hstep
     go_wp2_with (first|((first|refine zU ?_|(refine zA 4 ?_;intro b4));clear H;intro wn H)|(refine zHq 4 ?_;all_goals refine zhF ?_;all_goals refine zHk (fun w1 H1=>c1 _) ?_;(iterate 16 (all_goals((first|((first|refine zhGF ?_|refine zhGT ?_);refine zhFWV ?_)|refine zhV ?_))));all_goals(refine zHz ?_;clear H;intro wn H)))
     go_ret
     exact⟨by rw[HI2.out];rfl,H.below⟩
    ·have HI2:Hid (z=(allFrom f n (j+1+1)&&decide (n≤20))):=hY (by rw[hstep];simp[hq])
     clear hstep
     go_wp2_with (first|((first|refine zU ?_|(refine zA 4 ?_;intro b4));clear H;intro wn H)|(refine zHq 4 ?_;all_goals refine zhF ?_;all_goals refine zHk (fun w1 H1=>c1 _) ?_;(iterate 16 (all_goals((first|((first|refine zhGF ?_|refine zhGT ?_);refine zhFWV ?_)|refine zhV ?_))));all_goals(refine zHz ?_;clear H;intro wn H)))
     go_roundg (n-(j+1+1))
     case measure=>omega
     case rel=>exact⟨j+1+1,by omega,by go_num,HI2,H.sel sF⟩
  ·obtain rfl:i=n:=by omega
   have hlt1:=nlt i
   have hz:=HI.out
   rw[allFrom_end (Nat.le_refl _),Bool.true_and] at hz
   have HI2:=hY hz
   clear hz HI HZ
   by_cases h4:i≤20
   ·have h5:(i:Int)≤20:=by omega
    have HI3:Hid (z=true):=hY (by rw[HI2.out];simp[h4])
    go_wp2_with (fail)
    go_ret
    exact⟨by rw[HI3.out];rfl,H.below⟩
   ·have h5:¬(i:Int)≤20:=by omega
    have HI3:Hid (z=false):=hY (by rw[HI2.out];simp[h4])
    go_wp2_with (fail)
    go_ret
    exact⟨by rw[HI3.out];rfl,H.below⟩
theorem spansRight_s(v:Value)(l:List Sp)(w:World)(hr:(Ty.sl 174 tySp).rd w [v] l):Gives Tryz.prog 247 #[v] w (.bool (spansOk l)):=by
 obtain⟨A,c,rfl,hlc,hcm⟩:=sl_form hr
 unfold maxLen at *
 have HR:=hY hr
 obtain⟨n,hn⟩:=nm l.length
 have hnl:n≤9223372036854775807:=by omega
 rw[←hn] at HR ⊢
 have HN:=hY hn
 obtain⟨z,hz⟩:=nm (spansOk l)
 rw[←hz]
 obtain⟨f,hf'⟩:∃f,f=spanIn l:=⟨_,rfl⟩
 have HF:=hY hf'
 have HZ:Hid (z=(allFrom f n 0&&decide (n≤20))):=hY (by rw[hz,hf',hn];rfl)
 clear hr hn hlc hcm hz hf'
 have H:=Hs.start noRow w
 unfold Gives
 go_enter Tryz.func247,Tryz.ntmps247
 go_wp2_with (fail)
 go_loopg [3] n (fun m iv wr=>∃(i:Nat),i+m=n∧iv = .int .i64 i∧Hid (z=(allFrom f n i&&decide (n≤20)))∧Hs noRow w [] wr)
 case atStart=>exact⟨0,by omega,rfl,HZ,H⟩
 case round=>
  clear H
  obtain⟨i,hi,rfl,HI,H⟩:=hrel
  by_cases h20:20<i
  ·have h5:¬(i:Int)≤20:=by omega
   have h6:(20:Int)<i:=by omega
   by_cases hlt:i<n
   ·have hlt1:(i:Int)<n:=by omega
    have h7:¬(n:Int)≤20:=by omega
    have HI3:Hid (z=false):=hY (by rw[HI.out];simp;intro _;omega)
    go_wp2_with ((((with_reducible refine st_gwT ?_ ?_);rfl));(try refine zp ?_))
    go_ret
    exact⟨by rw[HI3.out];rfl,H.below⟩
   ·have hlt1:¬(i:Int)<n:=by omega
    have h7:¬(n:Int)≤20:=by omega
    have HI3:Hid (z=false):=hY (by rw[HI.out];simp;intro _;omega)
    go_wp2_with (fail)
    go_ret
    exact⟨by rw[HI3.out];rfl,H.below⟩
  have h20a:(i:Int)≤20:=by omega
  have h20b:¬(20:Int)<i:=by omega
  by_cases hlt:i<n
  ·obtain ⟨x,b,off,cs,hx,rfl,hv2,hcs,hA⟩:=slE HR HN hlt
   obtain rfl:cs=encSp x:=hcs
   have hstep:=HI.out
   have hfi:f i=(spanOk x&&spanAft l i x):=by rw[HF.out];unfold spanIn;rw[hx]
   rw[allFrom_step hlt,hfi] at hstep
   clear hfi
   have hlt1:(i:Int)<n:=by omega
   clear hx hv2
   obtain⟨x1,x2⟩:=x
   have c1:=fun w1=>spanRight_s (x1,x2) w1
   unfold encSp at hA
   simp only at hA hstep c1
   generalize spanOk (x1,x2)=z1 at *
   cases z1
   case false=>
    have HI2:Hid (z=false):=hY (by rw[hstep];simp)
    clear hstep
    go_wp2_with (first|((((with_reducible refine st_gwT ?_ ?_);rfl));(try refine zp ?_))|(refine zHq 4 ?_;(iterate 4 (all_goals(refine zhAV ?_)));all_goals refine zHk (fun w1 H1=>c1 _) ?_;(iterate 19 (all_goals((first|refine zhSF ?_|refine zhSk ?_|refine zhV ?_))));all_goals(refine zHz ?_;clear H;intro wn H)))
    go_ret
    exact⟨by rw[HI2.out];rfl,H.below⟩
   cases i with
   | zero=>
    have HI2:Hid (z=(allFrom f n 1&&decide (n≤20))):=hY (by rw[hstep];simp[spanAft])
    clear hstep
    go_wp2_with (first|((((with_reducible refine st_gwT ?_ ?_);rfl));(try refine zp ?_))|(refine zHq 4 ?_;(iterate 4 (all_goals(refine zhAV ?_)));all_goals refine zHk (fun w1 H1=>c1 _) ?_;(iterate 19 (all_goals((first|(refine zhGF ?_;refine zhV ?_)|refine zhST ?_|refine zhV ?_))));all_goals(refine zHz ?_;clear H;intro wn H)))
    go_roundg (n-1)
    case measure=>omega
    case rel=>exact⟨1,by omega,by go_num,HI2,H.sel sF⟩
   | succ j=>
    obtain⟨y,hy⟩:=atE (i:=j) HN (by omega)
    have hs2:=sl_at (by have:=HR.out;rw[HN.out] at this;exact this) hy
    rw[←HN.out] at hs2
    obtain⟨b3,off3,c3,cs3,hw,hcs3,hB⟩:=hs2
    injection hw with hw1 hw2 hw3
    injection hw1 with hw1
    injection hw1 with hw4 hw5
    subst hw3 hw4 hw5
    obtain rfl:cs3=encSp y:=hcs3
    unfold spanAft at hstep
    simp only[hy] at hstep
    obtain⟨y1,y2⟩:=y
    simp only at hstep
    have h2:w.cell? ⟨b,off+j*2+1,none⟩=some (.int .i64 y2):=hB 1 _ rfl
    have hlt2:(j:Int)<n:=by omega
    have hlt3:j<n:=by omega
    have hpos:(0:Int)<(j:Int)+1:=by omega
    have h3:w.cell? ⟨b,off+(j+1)*2,none⟩=some (.int .i64 x1):=hA.head (u := .int .i64 x1) rfl
    have hlt4:(j:Int)+1<n:=by omega
    have hlt5:j+1<n:=by omega
    clear hB hy hw2
    by_cases hq:x1<y2
    ·have HI2:Hid (z=false):=hY (by rw[hstep];simp[hq])
     clear hstep
     go_wp2_with (first|((((with_reducible refine st_gwT ?_ ?_);rfl));(try refine zp ?_))|(refine zHq 4 ?_;(iterate 4 (all_goals(refine zhAV ?_)));all_goals refine zHk (fun w1 H1=>c1 _) ?_;(iterate 19 (all_goals((first|((first|refine zhGF ?_|refine zhGT ?_);refine zhFWV ?_)|refine zhV ?_))));all_goals(refine zHz ?_;clear H;intro wn H)))
     go_ret
     exact⟨by rw[HI2.out];rfl,H.below⟩
    ·have HI2:Hid (z=(allFrom f n (j+1+1)&&decide (n≤20))):=hY (by rw[hstep];simp[hq])
     clear hstep
     go_wp2_with (first|((((with_reducible refine st_gwT ?_ ?_);rfl));(try refine zp ?_))|(refine zHq 4 ?_;(iterate 4 (all_goals(refine zhAV ?_)));all_goals refine zHk (fun w1 H1=>c1 _) ?_;(iterate 19 (all_goals((first|((first|refine zhGF ?_|refine zhGT ?_);refine zhFWV ?_)|refine zhV ?_))));all_goals(refine zHz ?_;clear H;intro wn H)))
     go_roundg (n-(j+1+1))
     case measure=>omega
     case rel=>exact⟨j+1+1,by omega,by go_num,HI2,H.sel sF⟩
  ·obtain rfl:i=n:=by omega
   have hlt1:=nlt i
   have hz:=HI.out
   rw[allFrom_end (Nat.le_refl _),Bool.true_and] at hz
   have HI2:=hY hz
   clear hz HI HZ
   have h5:(i:Int)≤20:=by omega
   have HI3:Hid (z=true):=hY (by rw[HI2.out];simp;omega)
   go_wp2_with (fail)
   go_ret
   exact⟨by rw[HI3.out];rfl,H.below⟩
theorem nodeC(x:Nd)(cs:List Value)(w:World)(hx:tyNd.rd w cs x):Gives Tryz.prog 270 (#[.agg cs.toArray] ++ #[]) w (.bool (!nodeOk x)):=by
 obtain⟨A,n,k,rfl,h1⟩:=Nd_form hx
 obtain⟨a,l⟩:=x
 simp only at h1
 show Gives Tryz.prog _ #[.agg #[.int .i64 a,.slice A n k]] w _
 have hn:n=l.length:=by obtain⟨_,_,e,_⟩:=sl_form h1;injection e
 have c1:=fun w1=>ndSt_i a w1
 have c2:=fun w1 hb=>spansRight_i _ l w1 (Ty.below _ h1 hb)
 unfold nodeOk
 simp only
 rw[←hn]
 clear h1 hx hn
 generalize isIn a 1 3=z1 at *
 generalize spansOk l=z2 at *
 have H:=Hs.start noRow w
 unfold Gives
 by_cases h:n≤4
 ·have h6:decide ((4:Int)<(n:Int))=false:=by simp;omega
  have h7:decide (n≤4)=true:=by simp[h]
  clear h
  cases z1 <;> cases z2
  all_goals(
   simp only[h7,Bool.true_and,Bool.and_true,Bool.false_and,Bool.and_false,Bool.not_true,Bool.not_false]
   go_enter Tryz.func270,Tryz.ntmps270
   go_wp2_with (first|refine zgU ?_|((first|refine zL ?_|(refine zB 1 ?_;intro b1)|(go_at_call 271;refine gvF (c1 _) H ?_)|(go_at_call 272;refine gvF (c2 _ H.below) H ?_));clear H;intro wn H))
   go_ret
   exact⟨rfl,H.below⟩)
 ·have h6:decide ((4:Int)<(n:Int))=true:=by simp;omega
  have h7:decide (n≤4)=false:=by simp[h]
  clear h
  cases z1 <;> cases z2
  all_goals(
   simp only[h7,Bool.true_and,Bool.and_true,Bool.false_and,Bool.and_false,Bool.not_true,Bool.not_false]
   go_enter Tryz.func270,Tryz.ntmps270
   go_wp2_with (first|refine zgU ?_|((first|refine zL ?_|(refine zB 1 ?_;intro b1)|(go_at_call 271;refine gvF (c1 _) H ?_));clear H;intro wn H))
   go_ret
   exact⟨rfl,H.below⟩)
theorem nodesRight_i(v:Value)(l:List Nd)(w:World)(hr:(Ty.sl 172 tyNd).rd w [v] l):Gives Tryz.prog 192 #[v] w (.bool (nodesOk l)):=by
 have eg:∀args w,(callFunc 270 args).run Tryz.prog w = .ok (.enter 270 args) w:=enters_of Tryz.func270 (by kernel_rfl) rfl
 have hC:=fun w1 hb=>containsFunc_Nd v l (fun a=>!nodeOk a) 270 #[] w1 eg (Ty.below _ hr hb) (fun w2 _ i x u _ hu=>nodeC x u w2 hu)
 rw[any_not_all (p:=nodeOk) (fun _=>rfl) l] at hC
 obtain⟨A,c,rfl,hlc,hcm⟩:=sl_form hr
 unfold maxLen at *
 have e:nodesOk l=(decide ((1:Int)≤l.length)&&decide ((l.length:Int)≤6)&&l.all nodeOk):=by
  unfold nodesOk
  rw[Bool.and_assoc]
  congr 1
  ·simp;omega
  ·congr 1
   simp;omega
 rw[e]
 have c1:=fun w1=>within_i (l.length:Int) 1 6 w1
 generalize (decide ((1:Int)≤l.length)&&decide ((l.length:Int)≤6))=z1 at *
 generalize l.all nodeOk=z2 at *
 generalize l.length=n at *
 clear e hr
 have H:=Hs.start noRow w
 unfold Gives
 cases z1 <;> cases z2
 all_goals(
  go_enter Tryz.func192,Tryz.ntmps192
  go_wp2_with ((first|(go_at_call 71;refine gvF (c1 _) H ?_)|(go_at_call 269;refine gvF (hC _ H.below) H ?_));clear H;intro wn H)
  go_ret
  exact⟨rfl,H.below⟩)
theorem nodesRight_s(v:Value)(l:List Nd)(w:World)(hr:(Ty.sl 172 tyNd).rd w [v] l):Gives Tryz.prog 173 #[v] w (.bool (nodesOk l)):=by
 obtain⟨A,c,rfl,hlc,hcm⟩:=sl_form hr
 unfold maxLen at *
 have HR:=hY hr
 obtain⟨n,hn⟩:=nm l.length
 have hnl:n≤9223372036854775807:=by omega
 rw[←hn] at HR ⊢
 have HN:=hY hn
 obtain⟨z,hz⟩:=nm (nodesOk l)
 rw[←hz]
 have hst:z=(decide (1≤n)&&(decide (n≤6)&&l.all nodeOk)):=by rw[hz,hn];rfl
 clear hr hn hlc hcm hz
 have H:=Hs.start noRow w
 unfold Gives
 by_cases h1:1≤n
 case neg=>
  have f1:(n:Int)<1:=by omega
  have HI2:Hid (z=false):=hY (by rw[hst];simp[h1])
  clear hst
  go_enter Tryz.func173,Tryz.ntmps173
  go_wp2_with (fail)
  go_ret
  exact⟨by rw[HI2.out];rfl,H.below⟩
 have f1:¬(n:Int)<1:=by omega
 by_cases h6:n≤6
 case neg=>
  have f2:(6:Int)<n:=by omega
  have HI2:Hid (z=false):=hY (by rw[hst];simp[h6])
  clear hst
  go_enter Tryz.func173,Tryz.ntmps173
  go_wp2_with ((((with_reducible refine st_gwF ?_ ?_);rfl));(try refine zp ?_))
  go_ret
  exact⟨by rw[HI2.out];rfl,H.below⟩
 have f2:¬(6:Int)<n:=by omega
 have HZ:Hid (z=(l.drop 0).all nodeOk):=hY (by rw[hst];simp[h1,h6])
 clear hst
 go_enter Tryz.func173,Tryz.ntmps173
 go_wp2_with ((((with_reducible refine st_gwF ?_ ?_);rfl));(try refine zp ?_))
 go_loopg [3] n (fun m iv wr=>∃(i:Nat),i+m=n∧iv = .int .i64 i∧Hid (z=(l.drop i).all nodeOk)∧Hs noRow w [] wr)
 case atStart=>exact⟨0,by omega,rfl,HZ,H⟩
 case round=>
  clear H
  obtain⟨i,hi,rfl,HI,H⟩:=hrel
  by_cases hlt:i<n
  ·obtain ⟨x,b,off,cs,hx,rfl,hv2,hcs,hA⟩:=slE HR HN hlt
   obtain⟨E1,e2,e3,rfl,g1⟩:=Nd_form hcs
   have hstep:=HI.out
   obtain⟨hlt',e⟩:=List.getElem?_eq_some_iff.1 hx
   rw[List.drop_eq_getElem_cons hlt',e,List.all_cons] at hstep
   obtain⟨a,bk⟩:=x
   simp only at g1
   have he2:e2=bk.length:=by obtain⟨_,_,e,_⟩:=sl_form g1;injection e
   have c1:=fun w1=>ndSt_s a w1
   have c2:=fun w1 hb=>spansRight_s _ bk w1 (Ty.below _ g1 hb)
   have h0:w.cell? ⟨b,off+i*2,none⟩=some (.int .i64 a):=hA.head (u := .int .i64 a) rfl
   have h1':w.cell? ⟨b,off+i*2+1,none⟩=some (.slice E1 e2 e3):=hA 1 _ rfl
   have hno:nodeOk (a,bk)=(isIn a 1 3&&(decide (bk.length≤4)&&spansOk bk)):=rfl
   rw[hno,←he2] at hstep
   clear hno
   generalize isIn a 1 3=z1 at *
   generalize spansOk bk=z2 at *
   have hlt1:(i:Int)<n:=by omega
   clear hx hv2 hcs hA g1 he2 e hlt' HI
   have hd:(z=false∧(z1=false∨(z1=true∧(decide ((4:Int)<(e2:Int))=true∨(decide ((4:Int)<(e2:Int))=false∧z2=false)))))∨(z1=true∧decide ((4:Int)<(e2:Int))=false∧z2=true∧z=(l.drop (i+1)).all nodeOk):=by
    cases z1
    ·exact .inl ⟨by rw[hstep];rfl,.inl rfl⟩
    by_cases h4:e2≤4
    ·cases z2
     ·exact .inl ⟨by rw[hstep];simp,.inr ⟨rfl,.inr ⟨by simp;omega,rfl⟩⟩⟩
     ·exact .inr ⟨rfl,by simp;omega,rfl,by rw[hstep];simp[h4]⟩
    ·exact .inl ⟨by rw[hstep];simp[h4],.inr ⟨rfl,.inl (by simp;omega)⟩⟩
   clear hstep
   rcases hd with ⟨hz,hd⟩|⟨rfl,h4,rfl,hz⟩
   ·have HZ2:=hY hz
    clear hz
    rcases hd with rfl|⟨rfl,h4|⟨h4,rfl⟩⟩
    all_goals(
     go_wp2_with (first|((((with_reducible refine st_gwF ?_ ?_);rfl));(try refine zp ?_))|((first|refine zL ?_|(go_at_call 246;refine gvF (c1 _) H ?_)|(go_at_call 247;refine gvF (c2 _ H.below) H ?_));clear H;intro wn H))
     go_ret
     exact⟨by rw[HZ2.out];rfl,H.below⟩)
   ·have HI2:=hY hz
    clear hz
    go_wp2_with (first|((((with_reducible refine st_gwF ?_ ?_);rfl));(try refine zp ?_))|((first|refine zL ?_|(go_at_call 246;refine gvF (c1 _) H ?_)|(go_at_call 247;refine gvF (c2 _ H.below) H ?_));clear H;intro wn H))
    go_roundg (n-(i+1))
    case measure=>omega
    case rel=>exact⟨i+1,by omega,by go_num,HI2,H⟩
  ·obtain rfl:i=n:=by omega
   have hlt1:=nlt i
   have HI2:Hid (z=true):=hY (by rw[HI.out,(drl HN)];rfl)
   clear HI HZ
   go_wp2_with (fail)
   go_ret
   exact⟨by rw[HI2.out];rfl,H.below⟩
end Go.Proofs.YtcabgibdkmgdlaaGreat
namespace Go.Proofs.YtcabgibdkmgdlaaGreat
open Go.RowKit M
namespace M
def workOk(n l p:Int):Bool:=isIn n 1 6&&(isIn l 1 20&&isIn p 0 9)
def numAft(l:List Int)(i:Nat)(x:Int):Bool:=match i with
 | 0=>true
 | j+1=>match l[j]? with
  | some y=>!decide (x≤y)
  | none=>true
def numIn(l:List Int)(i:Nat):Bool:=match l[i]? with
 | some x=>isIn x 0 5&&numAft l i x
 | none=>true
def numsOk(l:List Int):Bool:=allFrom (numIn l) l.length 0
def taskHead(l1 l2 id:Int)(ow:ByteArray)(need long prio born st:Int):Bool:=labelOk l1 l2&&(isIn id 1 12&&(nameOk ow.data.toList&&(workOk need long prio&&(isIn born 0 999900&&isIn st 1 6))))
def taskDep(l1 l2 id u1 u2 aft:Int):Bool:=if aft=0∧u1=0∧u2=0 then true else isIn aft 1 12&&(okL (u1,u2)&&(okL (l1,l2)&&belowB (u1,u2) (l1,l2))) && !(eqB (u1,u2) (l1,l2)&&decide (id≤aft))
def taskPlace(need st start:Int)(nodes:List Int):Bool:=if st=2∨(st=1∧0<nodes.length) then isIn start 0 1000000&&(numsOk nodes&&decide ((nodes.length:Int)=need)) else decide (start=0)&&decide (nodes.length=0)
def taskOk:Ta→Bool
 | (((l1,l2),id,ow,need,long,prio,(u1,u2),aft,born,st,start),nodes)=>taskHead l1 l2 id ow need long prio born st&&(taskDep l1 l2 id u1 u2 aft&&taskPlace need st start nodes)
end M
theorem isWork_i(n l p:Int)(w:World):Gives Tryz.prog 301 #[.int .i64 n,.int .i64 l,.int .i64 p] w (.bool (workOk n l p)):=by
 unfold workOk isIn
 have H:=Hs.start noRow w
 unfold Gives
 cases h1:(decide ((1:Int)≤n)&&decide (n≤6)) <;> cases h2:(decide ((1:Int)≤l)&&decide (l≤20))
 all_goals(
  simp only[Bool.true_and,Bool.false_and]
  go_enter Tryz.func301,Tryz.ntmps301
  go_wp2_with (first|((((with_reducible refine st_gwT ?_ ?_);rfl));(try refine zp ?_))|(((go_at_call 71;refine gvF (within_i _ _ _ _) H ?_));clear H;intro wn H))
  go_ret
  exact⟨rfl,H.below⟩)
theorem nums_i(v:Value)(l:List Int)(need:Int)(w:World)(hr:(Ty.sl 2 tyNum).rd w [v] l):Gives Tryz.prog 303 #[v,.int .i64 need] w (.bool (numsOk l&&decide ((l.length:Int)=need))):=by
 obtain⟨A,c,rfl,hlc,hcm⟩:=sl_form hr
 unfold maxLen at *
 have HR:=hY hr
 obtain⟨n,hn⟩:=nm l.length
 have hnl:n≤9223372036854775807:=by omega
 rw[←hn] at HR ⊢
 have HN:=hY hn
 obtain⟨f,hf'⟩:∃f,f=numIn l:=⟨_,rfl⟩
 have HF:=hY hf'
 obtain⟨z,hz⟩:=nm ((numsOk l&&decide ((n:Int)=need)))
 rw[←hz]
 have HZ:Hid (z=(allFrom f n 0&&decide ((n:Int)=need))):=hY (by rw[hz,hf',hn];rfl)
 clear hr hn hlc hcm hz hf'
 have H:=Hs.start noRow w
 unfold Gives
 go_enter Tryz.func303,Tryz.ntmps303
 go_wp2_with (fail)
 go_loopg [9] n (fun m iv wr=>∃(i:Nat),i+m=n∧iv = .int .i64 i∧Hid (z=(allFrom f n i&&decide ((n:Int)=need)))∧Hs noRow w [] wr)
 case atStart=>exact⟨0,by omega,rfl,HZ,H⟩
 case round=>
  clear H
  obtain⟨i,hi,rfl,HI,H⟩:=hrel
  by_cases hlt:i<n
  ·obtain ⟨x,b,off,cs,hx,rfl,hv2,hcs,hA⟩:=slE HR HN hlt
   obtain rfl:cs=encNum x:=hcs
   have h0:w.cell? ⟨b,off+i,none⟩=some (.int .i64 x):=by have h:=hA.head (u := .int .i64 x) rfl;rw[show i*tyNum.s=i from Nat.mul_one i] at h;exact h
   have hstep:=HI.out
   have hfi:f i=(isIn x 0 5&&numAft l i x):=by rw[HF.out];unfold numIn;rw[hx]
   rw[allFrom_step hlt,hfi] at hstep
   clear hfi
   have hlt1:(i:Int)<n:=by omega
   clear hx hv2 hA
   have c1:=fun w1=>within_i x 0 5 w1
   unfold isIn at hstep
   generalize (decide ((0:Int)≤x)&&decide (x≤5))=z1 at *
   cases z1
   case false=>
    have HI2:Hid (z=false):=hY (by rw[hstep];simp)
    clear hstep
    go_wp2_with ((first|refine zL ?_|(go_at_call 71;refine gvF (c1 _) H ?_));clear H;intro wn H)
    go_ret
    exact⟨by rw[HI2.out];rfl,H.below⟩
   cases i with
   | zero=>
    have HI2:Hid (z=(allFrom f n 1&&decide ((n:Int)=need))):=hY (by rw[hstep];simp[numAft])
    clear hstep
    go_wp2_with (first|((((with_reducible refine st_gwF ?_ ?_);rfl));(try refine zp ?_))|((first|refine zL ?_|(go_at_call 71;refine gvF (c1 _) H ?_));clear H;intro wn H))
    go_roundg (n-1)
    case measure=>omega
    case rel=>exact⟨1,by omega,by go_num,HI2,H.sel sF⟩
   | succ j=>
    obtain⟨y,hy⟩:=atE (i:=j) HN (by omega)
    have hs2:=sl_at (by have:=HR.out;rw[HN.out] at this;exact this) hy
    rw[←HN.out] at hs2
    obtain⟨b3,off3,c3,cs3,hw,hcs3,hB⟩:=hs2
    injection hw with hw1 hw2 hw3
    injection hw1 with hw1
    injection hw1 with hw4 hw5
    subst hw3 hw4 hw5
    obtain rfl:cs3=encNum y:=hcs3
    unfold numAft at hstep
    simp only[hy] at hstep
    have h2:w.cell? ⟨b,off+j,none⟩=some (.int .i64 y):=by have h:=hB.head (u := .int .i64 y) rfl;rw[show j*tyNum.s=j from Nat.mul_one j] at h;exact h
    have hlt2:(j:Int)<n:=by omega
    have hlt3:j<n:=by omega
    have hpos:(0:Int)<(j:Int)+1:=by omega
    have hlt4:(j:Int)+1<n:=by omega
    clear hB hy hw2
    by_cases hq:x≤y
    ·have HI2:Hid (z=false):=hY (by rw[hstep];simp[hq])
     clear hstep
     go_wp2_with (first|refine zgU ?_|((first|refine zL ?_|(go_at_call 71;refine gvF (c1 _) H ?_));clear H;intro wn H))
     go_ret
     exact⟨by rw[HI2.out];rfl,H.below⟩
    ·have HI2:Hid (z=(allFrom f n (j+1+1)&&decide ((n:Int)=need))):=hY (by rw[hstep];simp[hq])
     clear hstep
     go_wp2_with (first|refine zgU ?_|((first|refine zL ?_|(go_at_call 71;refine gvF (c1 _) H ?_));clear H;intro wn H))
     go_roundg (n-(j+1+1))
     case measure=>omega
     case rel=>exact⟨j+1+1,by omega,by go_num,HI2,H.sel sF⟩
  ·obtain rfl:i=n:=by omega
   have hlt1:=nlt i
   have hz:=HI.out
   rw[allFrom_end (Nat.le_refl _),Bool.true_and] at hz
   have HI2:=hY hz
   clear hz HI HZ
   by_cases h4:(i:Int)=need
   ·have HI3:Hid (z=true):=hY (by rw[HI2.out];simp[h4])
    subst h4
    go_wp2_with (fail)
    go_ret
    exact⟨by rw[HI3.out];rfl,H.below⟩
   ·have h5:((i:Int)==need)=false:=by simp[h4]
    have HI3:Hid (z=false):=hY (by rw[HI2.out];simp[h4])
    go_wp2_with (fail)
    go_ret
    exact⟨by rw[HI3.out];rfl,H.below⟩
theorem nums_s(v:Value)(l:List Int)(w:World)(hr:(Ty.sl 2 tyNum).rd w [v] l):Gives Tryz.prog 258 #[v] w (.bool (numsOk l)):=by
 obtain⟨A,c,rfl,hlc,hcm⟩:=sl_form hr
 unfold maxLen at *
 have HR:=hY hr
 obtain⟨n,hn⟩:=nm l.length
 have hnl:n≤9223372036854775807:=by omega
 rw[←hn] at HR ⊢
 have HN:=hY hn
 obtain⟨f,hf'⟩:∃f,f=numIn l:=⟨_,rfl⟩
 have HF:=hY hf'
 obtain⟨z,hz⟩:=nm (numsOk l)
 rw[←hz]
 have HZ:Hid (z=(allFrom f n 0)):=hY (by rw[hz,hf',hn];rfl)
 clear hr hn hlc hcm hz hf'
 have H:=Hs.start noRow w
 unfold Gives
 go_enter Tryz.func258,Tryz.ntmps258
 go_wp2_with (fail)
 go_loopg [3] n (fun m iv wr=>∃(i:Nat),i+m=n∧iv = .int .i64 i∧Hid (z=(allFrom f n i))∧Hs noRow w [] wr)
 case atStart=>exact⟨0,by omega,rfl,HZ,H⟩
 case round=>
  clear H
  obtain⟨i,hi,rfl,HI,H⟩:=hrel
  by_cases hlt:i<n
  ·obtain ⟨x,b,off,cs,hx,rfl,hv2,hcs,hA⟩:=slE HR HN hlt
   obtain rfl:cs=encNum x:=hcs
   have h0:w.cell? ⟨b,off+i,none⟩=some (.int .i64 x):=by have h:=hA.head (u := .int .i64 x) rfl;rw[show i*tyNum.s=i from Nat.mul_one i] at h;exact h
   have hstep:=HI.out
   have hfi:f i=(isIn x 0 5&&numAft l i x):=by rw[HF.out];unfold numIn;rw[hx]
   rw[allFrom_step hlt,hfi] at hstep
   clear hfi
   have hlt1:(i:Int)<n:=by omega
   clear hx hv2 hA
   have c1:=fun w1=>is_s x 0 5 w1
   unfold isIn at hstep
   generalize (decide ((0:Int)≤x)&&decide (x≤5))=z1 at *
   cases z1
   case false=>
    have HI2:Hid (z=false):=hY (by rw[hstep];simp)
    clear hstep
    go_wp2_with (refine zHq 4 ?_;(iterate 4 (all_goals(refine zhFV ?_)));all_goals refine zHk (fun w1 H1=>c1 _) ?_;(iterate 17 (all_goals((first|refine zhSF ?_|refine zhSk ?_|refine zhV ?_))));all_goals(refine zHz ?_;clear H;intro wn H))
    go_ret
    exact⟨by rw[HI2.out];rfl,H.below⟩
   cases i with
   | zero=>
    have HI2:Hid (z=(allFrom f n 1)):=hY (by rw[hstep];simp[numAft])
    clear hstep
    go_wp2_with (refine zHq 4 ?_;(iterate 4 (all_goals(refine zhFV ?_)));all_goals refine zHk (fun w1 H1=>c1 _) ?_;(iterate 17 (all_goals((first|(refine zhGF ?_;refine zhV ?_)|refine zhST ?_|refine zhV ?_))));all_goals(refine zHz ?_;clear H;intro wn H))
    go_roundg (n-1)
    case measure=>omega
    case rel=>exact⟨1,by omega,by go_num,HI2,H.sel sF⟩
   | succ j=>
    obtain⟨y,hy⟩:=atE (i:=j) HN (by omega)
    have hs2:=sl_at (by have:=HR.out;rw[HN.out] at this;exact this) hy
    rw[←HN.out] at hs2
    obtain⟨b3,off3,c3,cs3,hw,hcs3,hB⟩:=hs2
    injection hw with hw1 hw2 hw3
    injection hw1 with hw1
    injection hw1 with hw4 hw5
    subst hw3 hw4 hw5
    obtain rfl:cs3=encNum y:=hcs3
    unfold numAft at hstep
    simp only[hy] at hstep
    have h2:w.cell? ⟨b,off+j,none⟩=some (.int .i64 y):=by have h:=hB.head (u := .int .i64 y) rfl;rw[show j*tyNum.s=j from Nat.mul_one j] at h;exact h
    have hlt2:(j:Int)<n:=by omega
    have hlt3:j<n:=by omega
    have hpos:(0:Int)<(j:Int)+1:=by omega
    have hlt4:(j:Int)+1<n:=by omega
    have hlt5:j+1<n:=by omega
    clear hB hy hw2
    by_cases hq:x≤y
    ·have HI2:Hid (z=false):=hY (by rw[hstep];simp[hq])
     clear hstep
     go_wp2_with (refine zHq 4 ?_;(iterate 4 (all_goals(refine zhFV ?_)));all_goals refine zHk (fun w1 H1=>c1 _) ?_;(iterate 17 (all_goals((first|((first|refine zhGF ?_|refine zhGT ?_);refine zhFWV ?_)|refine zhV ?_))));all_goals(refine zHz ?_;clear H;intro wn H))
     go_ret
     exact⟨by rw[HI2.out];rfl,H.below⟩
    ·have HI2:Hid (z=(allFrom f n (j+1+1))):=hY (by rw[hstep];simp[hq])
     clear hstep
     go_wp2_with (refine zHq 4 ?_;(iterate 4 (all_goals(refine zhFV ?_)));all_goals refine zHk (fun w1 H1=>c1 _) ?_;(iterate 17 (all_goals((first|((first|refine zhGF ?_|refine zhGT ?_);refine zhFWV ?_)|refine zhV ?_))));all_goals(refine zHz ?_;clear H;intro wn H))
     go_roundg (n-(j+1+1))
     case measure=>omega
     case rel=>exact⟨j+1+1,by omega,by go_num,HI2,H.sel sF⟩
  ·obtain rfl:i=n:=by omega
   have hlt1:=nlt i
   have hz:=HI.out
   rw[allFrom_end (Nat.le_refl _)] at hz
   have HI2:=hY hz
   clear hz HI HZ
   go_wp2_with (fail)
   go_ret
   exact⟨by rw[HI2.out];rfl,H.below⟩
theorem Below_i(a b:Lab)(w:World):Gives Tryz.prog 302 #[.agg #[.int .i64 a.1,.int .i64 a.2],.agg #[.int .i64 b.1,.int .i64 b.2]] w (.bool (okL a&&(okL b&&belowB a b))):=by
 obtain⟨a1,a2⟩:=a
 obtain⟨b1,b2⟩:=b
 have c1:=fun w1=>labelRight_i a1 a2 w1
 have c2:=fun w1=>labelRight_i b1 b2 w1
 have c3:=fun ha hb w1=>below_i (a1,a2) (b1,b2) ha hb w1
 have e1:okL (a1,a2)=labelOk a1 a2:=rfl
 have e2:okL (b1,b2)=labelOk b1 b2:=rfl
 rw[e1,e2]
 clear e1 e2
 simp only at c3 ⊢
 generalize labelOk a1 a2=z1 at *
 generalize labelOk b1 b2=z2 at *
 generalize belowB (a1,a2) (b1,b2)=z3 at *
 have H:=Hs.start noRow w
 unfold Gives
 cases z1 <;> cases z2
 all_goals(
  simp only[Bool.true_and,Bool.false_and]
  (try have c4:=c3 rfl rfl)
  clear c3
  go_enter Tryz.func302,Tryz.ntmps302
  go_wp2_with (first|refine zgU ?_|((first|refine zM ?_|(refine zB 2 ?_;intro b2)|(refine zB 3 ?_;intro b3)|(go_at_call 274;refine gvF (c1 _) H ?_;clear c1)|(go_at_call 274;refine gvF (c2 _) H ?_)|(go_at_call 329;refine gvF (c4 _) H ?_));clear H;intro wn H))
  go_ret
  exact⟨rfl,H.below⟩)
theorem Below_s(a b:Lab)(w:World):Gives Tryz.prog 257 #[.agg #[.int .i64 a.1,.int .i64 a.2],.agg #[.int .i64 b.1,.int .i64 b.2]] w (.bool (okL a&&(okL b&&belowB a b))):=by
 obtain⟨a1,a2⟩:=a
 obtain⟨b1,b2⟩:=b
 have c1:=fun w1=>labelRight_s a1 a2 w1
 have c2:=fun w1=>labelRight_s b1 b2 w1
 have c3:=fun ha hb w1=>below_s (a1,a2) (b1,b2) ha hb w1
 have e1:okL (a1,a2)=labelOk a1 a2:=rfl
 have e2:okL (b1,b2)=labelOk b1 b2:=rfl
 rw[e1,e2]
 clear e1 e2
 simp only at c3 ⊢
 generalize labelOk a1 a2=z1 at *
 generalize labelOk b1 b2=z2 at *
 generalize belowB (a1,a2) (b1,b2)=z3 at *
 have H:=Hs.start noRow w
 unfold Gives
 cases z1 <;> cases z2
 all_goals(
  simp only[Bool.true_and,Bool.false_and]
  (try have c4:=c3 rfl rfl)
  clear c3
  go_enter Tryz.func257,Tryz.ntmps257
  go_wp2_with (first|refine zgU ?_|((first|refine zM ?_|(refine zB 2 ?_;intro b2)|(refine zB 3 ?_;intro b3)|(go_at_call 250;refine gvF (c1 _) H ?_;clear c1)|(go_at_call 250;refine gvF (c2 _) H ?_)|(go_at_call 320;refine gvF (c4 _) H ?_));clear H;intro wn H))
  go_ret
  exact⟨rfl,H.below⟩)
