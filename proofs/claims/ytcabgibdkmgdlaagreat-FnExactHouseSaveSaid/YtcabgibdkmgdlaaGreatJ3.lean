import Derived.Test.YtcabgibdkmgdlaaGreatG4
set_option linter.unusedSimpArgs false
set_option linter.unusedVariables false
set_option maxRecDepth 100000
set_option maxHeartbeats 4000000
namespace Go.Proofs.YtcabgibdkmgdlaaGreat
open Go.RowKit M
namespace M
def allFrom(f:Nat→Bool)(n i:Nat):Bool:=(List.range' i (n-i)).all f
theorem allFrom_step{f:Nat→Bool}{n i:Nat}(h:i<n):allFrom f n i=(f i&&allFrom f n (i+1)):=by
 unfold allFrom
 rw[show n-i=(n-(i+1))+1 by omega,List.range'_succ]
 rfl
theorem allFrom_end{f:Nat→Bool}{n i:Nat}(h:n≤i):allFrom f n i=true:=by
 unfold allFrom
 rw[show n-i=0 by omega]
 rfl
def samePr(x y:Pr):Bool:=eqB x.1 y.1&&eqB x.2.1 y.2.1
def pairIn(labels:List Lab)(l:List Pr)(i:Nat):Bool:=match l[i]? with
 | some x=>!(l.take i).any (samePr x)&&(hasL labels x.1&&(hasL labels x.2.1&&(!belowB x.1 x.2.1&&isIn x.2.2 1 3)))
 | none=>true
def pairsOk(labels:List Lab)(l:List Pr):Bool:=allFrom (pairIn labels l) l.length 0&&decide (l.length≤4)
theorem sl_take{α:Type}{T:Ty α}{E:TypeId}{w:World}{A:Option Addr}{n c i:Nat}{l:List α}(h:(Ty.sl E T).rd w [.slice A n c] l)(hi:i≤l.length):(Ty.sl E T).rd w [.slice A i c] (l.take i):=by
 obtain⟨v,xs,e,hr,hL⟩:=h
 injection e with e;subst e
 have hlen:=hL.len
 obtain⟨A',c',hv,hn,hc,hf⟩:=hr.form
 injection hv with h1 h2 h3
 subst h1 h2 h3
 have hle:i*T.s≤l.length*T.s:=Nat.mul_le_mul_right _ hi
 refine⟨_,xs.take (i*T.s),rfl,?_,?_⟩
 ·rw[List.length_take,Nat.min_eq_left hi]
  refine⟨by rw[List.length_take];omega,A,c,rfl,by omega,hc,fun h0=>?_⟩
  obtain⟨b,off,hA,hcell⟩:=hf (by omega)
  refine⟨b,off,hA,fun j u hu=>hcell j u ?_⟩
  rw[List.getElem?_take] at hu
  split at hu
  ·exact hu
  ·cases hu
 ·clear hr hf hn hle hlen
  induction i generalizing l xs with
  | zero=>rw[Nat.zero_mul,List.take_zero,List.take_zero];exact .nil
  | succ i ih=>
   cases hL with
   | nil=>rw[List.take_nil,List.take_nil];exact .nil
   | cons h1 h2=>
    have hl:=T.len h1
    rw[List.take_succ_cons,Nat.succ_mul,Nat.add_comm,List.take_append,hl,Nat.add_sub_cancel_left,List.take_of_length_le (by omega)]
    exact .cons h1 (ih (by simpa using hi) _ h2)
theorem At.blk{w:World}{b off:Nat}{t:TypeId}{cs:Array Value}{vs:List Value}(h:Blk w b t cs)(hs:∀j u,vs[j]? = some u→cs[off+j]? = some u):At w b off vs:=fun j u hu=>by
 rw[h.cell];exact hs j u hu
end M
theorem At.blk2{w:World}{b off:Nat}{t:TypeId}{cs:Array Value}{u v:Value}(h:Blk w b t cs)(h0:cs[off]? = some u)(h1:cs[off+1]? = some v):At w b off [u,v]:=At.blk h fun j x hx=>by
 match j,hx with
 | 0,hx=>exact h0.trans hx
 | 1,hx=>exact h1.trans hx
theorem pairsC(x y:Pr)(b:Nat)(w:World)(h1:At w b 0 (encLab x.1))(h2:At w b 2 (encLab x.2.1)):
  Gives Tryz.prog 328 (#[.agg (encPr y).toArray] ++ #[.pointer (some ⟨b,0,none⟩)]) w (.bool (samePr x y)):=by
 obtain⟨⟨x1,x2⟩,⟨x3,x4⟩,x5⟩:=x
 obtain⟨⟨y1,y2⟩,⟨y3,y4⟩,y5⟩:=y
 unfold encLab at h1 h2
 unfold encPr samePr
 simp only at h1 h2 ⊢
 have H:=Hs.start noRow w
 unfold Gives
 show Calls _ _ #[.agg #[.int .i64 y1,.int .i64 y2,.int .i64 y3,.int .i64 y4,.int .i64 y5],.pointer (some ⟨b,0,none⟩)] _ _
 cases hp1:eqB (x1,x2) (y1,y2)
 ·rw[Bool.false_and]
  go_enter Tryz.func328,Tryz.ntmps328
  go_wp2_with (first|((((with_reducible refine st_gsT ?_ ?_);rfl));(try refine zp ?_))|((first|refine zU ?_|(refine zB 2 ?_;intro b2));clear H;intro wn H))
  go_ret
  exact⟨rfl,H.below⟩
 ·rw[Bool.true_and]
  cases hp2:eqB (x3,x4) (y3,y4)
  all_goals
   go_enter Tryz.func328,Tryz.ntmps328
  all_goals(
   go_wp2_with (first|((((with_reducible refine st_gwT ?_ ?_);rfl));(try refine zp ?_))|((first|refine zU ?_|(refine zB 2 ?_;intro b2));clear H;intro wn H))
   )
  all_goals go_ret
  all_goals exact⟨rfl,H.below⟩
theorem pairsOf_i(nA qA:Option Addr)(nn nc qn qc:Nat)(hf:Int)(v lv:Value)(l:List Pr)(labels:List Lab)(hlab:∀a,hasL labels a=true→okL a=true)(w:World)(hr:(Ty.sl 182 tyPr).rd w [v] l)(hrl:(Ty.sl 123 tyLab).rd w [lv] labels):
  Gives Tryz.prog 267 #[.agg #[.slice nA nn nc,v,.slice qA qn qc,.int .i64 hf],lv] w (.bool (pairsOk labels l)):=by
 have eg:∀args w,(callFunc 328 args).run Tryz.prog w = .ok (.enter 328 args) w:=enters_of Tryz.func328 (by kernel_rfl) rfl
 have EG:=hY eg
 have HLAB:=hY hlab
 have HRL:=hY hrl
 obtain⟨B,bn,hlv⟩:∃B bn,lv = .slice B labels.length bn:=by obtain⟨B,bn,h,_⟩:=sl_form hrl;exact⟨B,bn,h⟩
 subst hlv
 obtain⟨ln,hln⟩:=nm labels.length
 rw[←hln] at HRL ⊢
 obtain⟨A,c,rfl,hlc,hcm⟩:=sl_form hr
 unfold maxLen at *
 have HR:=hY hr
 obtain⟨n,hn⟩:=nm l.length
 have hnl:n≤9223372036854775807:=by omega
 have hnc:n≤c:=by omega
 rw[←hn] at HR ⊢
 have HN:=hY hn
 obtain⟨z,hz⟩:=nm (pairsOk labels l)
 rw[←hz]
 obtain⟨f,hf'⟩:∃f,f=pairIn labels l:=⟨_,rfl⟩
 have HF:=hY hf'
 have HZ:Hid (z=(allFrom f n 0&&decide (n≤4))):=hY (by rw[hz,hf',hn];rfl)
 clear hr hn hlc hcm hrl eg hlab hz hf' hln
 have H:=Hs.start noRow w
 unfold Gives
 go_enter Tryz.func267,Tryz.ntmps267
 go_wp2_with ((first|refine zL ?_|(refine zB 2 ?_;intro b2));clear H;intro wn H)
 go_loopg [11] n (fun m iv wr=>∃(i:Nat),i+m=n∧iv = .int .i64 i∧Hid (z=(allFrom f n i&&decide (n≤4)))∧Hs noRow w [Hl.blk b2 47 #[.slice nA nn nc,.slice A n c,.slice qA qn qc,.int .i64 hf]] wr)
 case atStart=>exact⟨0,by omega,rfl,HZ,H⟩
 case round=>
  clear H
  obtain⟨i,hi,rfl,HI,H⟩:=hrel
  by_cases hlt:i<n
  ·obtain ⟨x,b,off,cs,hx,rfl,hv2,hcs,hA⟩:=slE HR HN hlt
   obtain rfl:cs=encPr x:=hcs
   have hstep:=HI.out
   have hfi:f i=(!(l.take i).any (samePr x)&&(hasL labels x.1&&(hasL labels x.2.1&&(!belowB x.1 x.2.1&&isIn x.2.2 1 3)))):=by rw[HF.out];unfold pairIn;rw[hx]
   rw[allFrom_step hlt,hfi] at hstep
   clear hfi
   have hT:=sl_take HR.out (i:=i) (by rw[←HN.out];omega)
   have hlt1:(i:Int)<n:=by omega
   have hlt2:(i:Int)≤n:=by omega
   have hlt3:(i:Int)≤c:=by omega
   have hlt4:i≤c:=by omega
   have hlt5:i≤n:=by omega
   clear hx hv2
   obtain⟨⟨x1,x2⟩,⟨x3,x4⟩,x5⟩:=x
   have c1:=fun w1 hb=>contains_Lab _ labels (x1,x2) w1 (Ty.below _ HRL.out hb)
   have c2:=fun w1 hb=>contains_Lab _ labels (x3,x4) w1 (Ty.below _ HRL.out hb)
   have c3:hasL labels (x1,x2)=true→hasL labels (x3,x4)=true → ∀w1,Gives Tryz.prog 329 _ w1 _:=fun h1 h2 w1=>below_i (x1,x2) (x3,x4) (HLAB.out _ h1) (HLAB.out _ h2) w1
   have c4:=fun w1=>within_i x5 1 3 w1
   have HP:=fun (b6:Nat) w1 (hb:Below w.heap.size w w1) h1 h2=>containsFunc_Pr _ (l.take i) (samePr ((x1,x2),(x3,x4),x5)) 328 #[.pointer (some ⟨b6,0,none⟩)] w1 EG.out (Ty.below _ hT hb) (fun w2 hb2 _ y _=>pairsC ((x1,x2),(x3,x4),x5) y b6 w2 (At.below h1 hb2) (At.below h2 hb2))
   unfold encPr at hA
   simp only at c1 c2 c3 hA hstep HP
   clear hT
   generalize (l.take i).any (samePr ((x1,x2),(x3,x4),x5))=z0 at *
   generalize hasL labels (x1,x2)=z1 at *
   generalize hasL labels (x3,x4)=z2 at *
   generalize belowB (x1,x2) (x3,x4)=z3 at *
   unfold isIn at hstep
   generalize (decide (1≤x5)&&decide (x5≤3))=z4 at *
   go_wp2_with ((first|refine zU ?_|(refine zA 6 ?_;intro b6));clear H;intro wn H)
   refine gvF (HP _ _ H.below (At.blk2 (H.blk .here) rfl rfl) (At.blk2 (H.blk .here) rfl rfl)) H ?_;clear H;intro wn H
   clear HP
   cases z0
   case true=>
    have HI2:Hid (z=false):=hY (by rw[hstep];simp)
    clear hstep
    go_wp2_with ((((with_reducible refine st_gsF ?_ ?_);rfl));(try refine zp ?_))
    go_ret
    exact⟨by rw[HI2.out];rfl,H.below⟩
   cases z1
   case false=>
    have HI2:Hid (z=false):=hY (by rw[hstep];simp)
    clear hstep
    go_wp2_with (first|refine zgU ?_|((first|refine zM ?_|(go_at_call 203;refine gvF ((by exact c1 _ H.below)) H ?_));clear H;intro wn H))
    go_ret
    exact⟨by rw[HI2.out];rfl,H.below⟩
   cases z2
   case false=>
    have HI2:Hid (z=false):=hY (by rw[hstep];simp)
    clear hstep
    go_wp2_with (first|refine zgU ?_|((first|refine zM ?_|(go_at_call 203;refine gvF ((by first|exact c1 _ H.below|exact c2 _ H.below)) H ?_));clear H;intro wn H))
    go_ret
    exact⟨by rw[HI2.out];rfl,H.below⟩
   have c5:=c3 rfl rfl
   clear c3
   cases z3
   case true=>
    have HI2:Hid (z=false):=hY (by rw[hstep];simp)
    clear hstep
    go_wp2_with (first|refine zgU ?_|((first|refine zM ?_|(go_at_call 203;refine gvF ((by first|exact c1 _ H.below|exact c2 _ H.below)) H ?_)|(go_at_call 329;refine gvF (c5 _) H ?_));clear H;intro wn H))
    go_ret
    exact⟨by rw[HI2.out];rfl,H.below⟩
   cases z4
   case false=>
    have HI2:Hid (z=false):=hY (by rw[hstep];simp)
    clear hstep
    go_wp2_with (first|((((with_reducible refine st_gwF ?_ ?_);rfl));(try refine zp ?_))|((first|refine zU ?_|(go_at_call 203;refine gvF ((by first|exact c1 _ H.below|exact c2 _ H.below)) H ?_)|(go_at_call 329;refine gvF (c5 _) H ?_)|(go_at_call 71;refine gvF (c4 _) H ?_));clear H;intro wn H))
    go_ret
    exact⟨by rw[HI2.out];rfl,H.below⟩
   have HI2:Hid (z=(allFrom f n (i+1)&&decide (n≤4))):=hY (by rw[hstep];simp)
   clear hstep
   go_wp2_with (first|((((with_reducible refine st_gwF ?_ ?_);rfl));(try refine zp ?_))|((first|refine zU ?_|(go_at_call 203;refine gvF ((by first|exact c1 _ H.below|exact c2 _ H.below)) H ?_)|(go_at_call 329;refine gvF (c5 _) H ?_)|(go_at_call 71;refine gvF (c4 _) H ?_));clear H;intro wn H))
   go_roundg (n-(i+1))
   case measure=>omega
   case rel=>exact⟨i+1,by omega,by go_num,HI2,H.sel sF⟩
  ·obtain rfl:i=n:=by omega
   have hlt1:=nlt i
   have hz:=HI.out
   rw[allFrom_end (Nat.le_refl _),Bool.true_and] at hz
   have HI2:=hY hz
   clear hz HI HZ
   by_cases h4:i≤4
   ·have h5:(i:Int)≤4:=by omega
    have HI3:Hid (z=true):=hY (by rw[HI2.out];simp[h4])
    go_wp2_with (refine zL ?_;clear H;intro wn H)
    go_ret
    exact⟨by rw[HI3.out];rfl,H.below⟩
   ·have h5:¬(i:Int)≤4:=by omega
    have HI3:Hid (z=false):=hY (by rw[HI2.out];simp[h4])
    go_wp2_with (refine zL ?_;clear H;intro wn H)
    go_ret
    exact⟨by rw[HI3.out];rfl,H.below⟩
end Go.Proofs.YtcabgibdkmgdlaaGreat
namespace Go.Proofs.YtcabgibdkmgdlaaGreat
open Go.RowKit M
namespace M
def behind(l:List Qt)(i:Nat)(x:Qt):Bool:=match i with
 | 0=>true
 | j+1=>match l[j]? with
  | some y=>!decide (0≤cmpL y.1 x.1)
  | none=>true
def quotaIn(labels:List Lab)(l:List Qt)(i:Nat):Bool:=match l[i]? with
 | some x=>hasL labels x.1&&(isIn x.2 1 9&&behind l i x)
 | none=>true
def quotasOk(labels:List Lab)(l:List Qt):Bool:=allFrom (quotaIn labels l) l.length 0
theorem At.pre{w:World}{b off:Nat}{vs us:List Value}(h:At w b off (vs++us)):At w b off vs:=fun j u hu=>h j u (by rw[List.getElem?_append_left (List.getElem?_eq_some_iff.1 hu).1];exact hu)
end M
theorem quotasOf_i(nA pA:Option Addr)(nn nc pn pc:Nat)(hf:Int)(v lv:Value)(l:List Qt)(labels:List Lab)(w:World)(hr:(Ty.sl 279 tyQt).rd w [v] l)(hrl:(Ty.sl 123 tyLab).rd w [lv] labels):
  Gives Tryz.prog 268 #[.agg #[.slice nA nn nc,.slice pA pn pc,v,.int .i64 hf],lv] w (.bool (quotasOk labels l)):=by
 have HRL:=hY hrl
 obtain⟨B,bn,hlv⟩:∃B bn,lv = .slice B labels.length bn:=by obtain⟨B,bn,h,_⟩:=sl_form hrl;exact⟨B,bn,h⟩
 subst hlv
 obtain⟨ln,hln⟩:=nm labels.length
 rw[←hln] at HRL ⊢
 obtain⟨A,c,rfl,hlc,hcm⟩:=sl_form hr
 unfold maxLen at *
 have HR:=hY hr
 obtain⟨n,hn⟩:=nm l.length
 have hnl:n≤9223372036854775807:=by omega
 rw[←hn] at HR ⊢
 have HN:=hY hn
 obtain⟨z,hz⟩:=nm (quotasOk labels l)
 rw[←hz]
 obtain⟨f,hf'⟩:∃f,f=quotaIn labels l:=⟨_,rfl⟩
 have HF:=hY hf'
 have HZ:Hid (z=allFrom f n 0):=hY (by rw[hz,hf',hn];rfl)
 clear hr hn hlc hcm hrl hz hf' hln
 have H:=Hs.start noRow w
 unfold Gives
 go_enter Tryz.func268,Tryz.ntmps268
 go_wp2_with ((first|refine zL ?_|(refine zB 2 ?_;intro b2));clear H;intro wn H)
 go_loopg [10] n (fun m iv wr=>∃(i:Nat),i+m=n∧iv = .int .i64 i∧Hid (z=allFrom f n i)∧Hs noRow w [Hl.blk b2 47 #[.slice nA nn nc,.slice pA pn pc,.slice A n c,.int .i64 hf]] wr)
 case atStart=>exact⟨0,by omega,rfl,HZ,H⟩
 case round=>
  clear H
  obtain⟨i,hi,rfl,HI,H⟩:=hrel
  by_cases hlt:i<n
  ·obtain ⟨x,b,off,cs,hx,rfl,hv2,hcs,hA⟩:=slE HR HN hlt
   obtain rfl:cs=encQt x:=hcs
   have hstep:=HI.out
   have hfi:f i=(hasL labels x.1&&(isIn x.2 1 9&&behind l i x)):=by rw[HF.out];unfold quotaIn;rw[hx]
   rw[allFrom_step hlt,hfi] at hstep
   clear hfi
   have hlt1:(i:Int)<n:=by omega
   clear hx hv2
   obtain⟨⟨x1,x2⟩,x3⟩:=x
   have c1:=fun w1 hb=>contains_Lab _ labels (x1,x2) w1 (Ty.below _ HRL.out hb)
   have c4:=fun w1=>within_i x3 1 9 w1
   unfold encQt at hA
   simp only at c1 hA hstep
   generalize hasL labels (x1,x2)=z1 at *
   unfold isIn at hstep
   generalize (decide (1≤x3)&&decide (x3≤9))=z4 at *
   cases z1
   case false=>
    have HI2:Hid (z=false):=hY (by rw[hstep];simp)
    clear hstep
    go_wp2_with (first|((first|refine zU ?_|(refine zA 6 ?_;intro b6));clear H;intro wn H)|(refine zHq 4 ?_;(iterate 3 (all_goals(refine zhFV ?_)));all_goals refine zHk (fun w1 H1=>c1 _ H1.below) ?_;(iterate 24 (all_goals((first|refine zhSF ?_|refine zhSk ?_|refine zhV ?_))));all_goals(refine zHz ?_;clear H;intro wn H)))
    go_ret
    exact⟨by rw[HI2.out];rfl,H.below⟩
   cases z4
   case false=>
    have HI2:Hid (z=false):=hY (by rw[hstep];simp)
    clear hstep
    go_wp2_with (first|((first|refine zU ?_|(refine zA 6 ?_;intro b6));clear H;intro wn H)|(refine zHq 4 ?_;(iterate 3 (all_goals(refine zhFV ?_)));all_goals refine zHk (fun w1 H1=>c1 _ H1.below) ?_;(iterate 4 (all_goals((first|(refine zhGF ?_;refine zhFV ?_)|refine zhV ?_))));all_goals(refine zhGF ?_;refine zHk (fun w1 H1=>c4 _) ?_);(iterate 19 (all_goals((first|(refine zhGF ?_;refine zhV ?_)|refine zhSF ?_|refine zhSk ?_|refine zhV ?_))));all_goals(refine zHz ?_;clear H;intro wn H)))
    go_ret
    exact⟨by rw[HI2.out];rfl,H.below⟩
   cases i with
   | zero=>
    have HI2:Hid (z=allFrom f n 1):=hY (by rw[hstep];simp[behind])
    clear hstep
    go_wp2_with (first|((first|refine zU ?_|(refine zA 6 ?_;intro b6));clear H;intro wn H)|(refine zHq 4 ?_;(iterate 3 (all_goals(refine zhFV ?_)));all_goals refine zHk (fun w1 H1=>c1 _ H1.below) ?_;(iterate 4 (all_goals((first|(refine zhGF ?_;refine zhFV ?_)|refine zhV ?_))));all_goals(refine zhGF ?_;refine zHk (fun w1 H1=>c4 _) ?_);(iterate 19 (all_goals((first|(refine zhGF ?_;refine zhV ?_)|refine zhST ?_|refine zhV ?_))));all_goals(refine zHz ?_;clear H;intro wn H)))
    go_roundg (n-1)
    case measure=>omega
    case rel=>exact⟨1,by omega,by go_num,HI2,H.sel sF⟩
   | succ j=>
    obtain⟨y,hy⟩:=atE (i:=j) HN (by omega)
    have hs2:=sl_at (by have:=HR.out;rw[HN.out] at this;exact this) hy
    rw[←HN.out] at hs2
    obtain⟨b3,off3,c3,cs3,hw,hcs3,hB⟩:=hs2
    injection hw with hw1 hw2 hw3
    injection hw1 with hw1
    injection hw1 with hw4 hw5
    subst hw3 hw4 hw5
    obtain rfl:cs3=encQt y:=hcs3
    unfold behind at hstep
    simp only[hy] at hstep
    obtain⟨⟨y1,y2⟩,y3⟩:=y
    have hB2:At w b (off+j*3) [.int .i64 y1,.int .i64 y2]:=At.pre (us:=[.int .i64 y3]) hB
    have c5:=fun w1=>compareLabels_i (y1,y2) (x1,x2) w1
    simp only at c5 hstep
    generalize cmpL (y1,y2) (x1,x2)=q at *
    have hlt2:(j:Int)<n:=by omega
    have hlt3:j<n:=by omega
    have hpos:(0:Int)<(j:Int)+1:=by omega
    clear hB hy hw2
    by_cases hq:0≤q
    ·have HI2:Hid (z=false):=hY (by rw[hstep];simp[hq])
     clear hstep
     go_wp2_with (first|((first|refine zU ?_|(refine zA 6 ?_;intro b6));clear H;intro wn H)|(refine zHq 4 ?_;(iterate 3 (all_goals(refine zhFV ?_)));all_goals refine zHk (fun w1 H1=>c1 _ H1.below) ?_;(iterate 4 (all_goals((first|(refine zhGF ?_;refine zhFV ?_)|refine zhV ?_))));all_goals(refine zhGF ?_;refine zHk (fun w1 H1=>c4 _) ?_);(iterate 15 (all_goals((first|((first|refine zhGF ?_|refine zhGT ?_);refine zhFAWV ?_)|refine zhV ?_))));all_goals(refine zhGT ?_;refine zHk (fun w1 H1=>c5 _) ?_);(iterate 3 (all_goals((first|((first|refine zhGT ?_|refine zhGF ?_);refine zhV ?_)|refine zhV ?_))));all_goals(refine zHz ?_;clear H;intro wn H)))
     go_ret
     exact⟨by rw[HI2.out];rfl,H.below⟩
    ·have HI2:Hid (z=allFrom f n (j+1+1)):=hY (by rw[hstep];simp[hq])
     clear hstep
     go_wp2_with (first|((first|refine zU ?_|(refine zA 6 ?_;intro b6));clear H;intro wn H)|(refine zHq 4 ?_;(iterate 3 (all_goals(refine zhFV ?_)));all_goals refine zHk (fun w1 H1=>c1 _ H1.below) ?_;(iterate 4 (all_goals((first|(refine zhGF ?_;refine zhFV ?_)|refine zhV ?_))));all_goals(refine zhGF ?_;refine zHk (fun w1 H1=>c4 _) ?_);(iterate 15 (all_goals((first|((first|refine zhGF ?_|refine zhGT ?_);refine zhFAWV ?_)|refine zhV ?_))));all_goals(refine zhGT ?_;refine zHk (fun w1 H1=>c5 _) ?_);(iterate 3 (all_goals((first|((first|refine zhGT ?_|refine zhGF ?_);refine zhV ?_)|refine zhV ?_))));all_goals(refine zHz ?_;clear H;intro wn H)))
     go_roundg (n-(j+1+1))
     case measure=>omega
     case rel=>exact⟨j+1+1,by omega,by go_num,HI2,H.sel sF⟩
  ·obtain rfl:i=n:=by omega
   have hlt1:=nlt i
   have hz:=HI.out
   rw[allFrom_end (Nat.le_refl _)] at hz
   have HI2:=hY hz
   clear hz HI HZ
   go_wp2_with (fail)
   go_ret
   exact⟨by rw[HI2.out];rfl,H.below⟩
end Go.Proofs.YtcabgibdkmgdlaaGreat
namespace Go.Proofs.YtcabgibdkmgdlaaGreat
open Go.RowKit M
namespace M
theorem samePr_comm(x y:Pr):samePr x y=(eqB y.1 x.1&&eqB y.2.1 x.2.1):=by unfold samePr;rw[eqB_comm x.1,eqB_comm x.2.1]
end M
theorem pairs_s(v lv:Value)(l:List Pr)(labels:List Lab)(hlab:∀a,hasL labels a=true→okL a=true)(w:World)(hr:(Ty.sl 182 tyPr).rd w [v] l)(hrl:(Ty.sl 123 tyLab).rd w [lv] labels):
  Gives Tryz.prog 244 #[lv,v] w (.bool (pairsOk labels l)):=by
 have HLAB:=hY hlab
 have HRL:=hY hrl
 obtain⟨B,bn,hlv⟩:∃B bn,lv = .slice B labels.length bn:=by obtain⟨B,bn,h,_⟩:=sl_form hrl;exact⟨B,bn,h⟩
 subst hlv
 obtain⟨ln,hln⟩:=nm labels.length
 rw[←hln] at HRL ⊢
 obtain⟨A,c,rfl,hlc,hcm⟩:=sl_form hr
 have HR:=hY hr
 obtain⟨n,hn⟩:=nm l.length
 rw[←hn] at HR ⊢
 have HN:=hY hn
 obtain⟨z,hz⟩:=nm (pairsOk labels l)
 rw[←hz]
 obtain⟨f,hf'⟩:∃f,f=pairIn labels l:=⟨_,rfl⟩
 have HF:=hY hf'
 have HZ:Hid (z=(allFrom f n 0&&decide (n≤4))):=hY (by rw[hz,hf',hn];rfl)
 clear hr hn hlc hcm hrl hlab hz hf' hln
 have H:=Hs.start noRow w
 unfold Gives
 by_cases h4:4<n
 ·have h5:(4:Int)<n:=by omega
  have HI3:Hid (z=false):=hY (by rw[HZ.out,show decide (n≤4)=false by simp;omega];simp)
  go_enter Tryz.func244,Tryz.ntmps244
  go_wp2_with (fail)
  go_ret
  exact⟨by rw[HI3.out];rfl,H.below⟩
 have h5:¬(4:Int)<n:=by omega
 have HZ2:Hid (z=allFrom f n 0):=hY (by rw[HZ.out,show decide (n≤4)=true by simp;omega];simp)
 clear HZ
 go_enter Tryz.func244,Tryz.ntmps244
 go_wp2_with (fail)
 go_loopg [5] n (fun m iv wr=>∃(i:Nat),i+m=n∧iv = .int .i64 i∧Hid (z=allFrom f n i)∧Hs noRow w [] wr)
 case atStart=>exact⟨0,by omega,rfl,HZ2,H⟩
 case round=>
  clear H
  obtain⟨i,hi,rfl,HI,H⟩:=hrel
  by_cases hlt:i<n
  ·obtain ⟨x,b,off,cs,hx,rfl,hv2,hcs,hA⟩:=slE HR HN hlt
   obtain rfl:cs=encPr x:=hcs
   have hstep:=HI.out
   have hfi:f i=(!(l.take i).any (samePr x)&&(hasL labels x.1&&(hasL labels x.2.1&&(!belowB x.1 x.2.1&&isIn x.2.2 1 3)))):=by rw[HF.out];unfold pairIn;rw[hx]
   rw[allFrom_step hlt,hfi] at hstep
   clear hfi
   have hlt1:(i:Int)<n:=by omega
   clear hx hv2
   obtain⟨⟨x1,x2⟩,⟨x3,x4⟩,x5⟩:=x
   have c1:=fun w1 hb=>cleared_s _ labels (x1,x2) w1 (Ty.below _ HRL.out hb)
   have c2:=fun w1 hb=>cleared_s _ labels (x3,x4) w1 (Ty.below _ HRL.out hb)
   have c3:hasL labels (x1,x2)=true→hasL labels (x3,x4)=true → ∀w1,Gives Tryz.prog 320 _ w1 _:=fun h1 h2 w1=>below_s (x1,x2) (x3,x4) (HLAB.out _ h1) (HLAB.out _ h2) w1
   have c4:=fun w1=>is_s x5 1 3 w1
   unfold encPr at hA
   simp only at c1 c2 c3 hA hstep
   obtain⟨zs,hzs⟩:=nm ((l.take i).any (samePr ((x1,x2),(x3,x4),x5)))
   rw[←hzs] at hstep
   have HS:=hY hzs
   clear hzs
   generalize hasL labels (x1,x2)=z1 at *
   generalize hasL labels (x3,x4)=z2 at *
   generalize belowB (x1,x2) (x3,x4)=z3 at *
   unfold isIn at hstep
   generalize (decide (1≤x5)&&decide (x5≤3))=z4 at *
   cases z1
   case false=>
    have HI2:Hid (z=false):=hY (by rw[hstep];simp)
    clear hstep
    go_wp2_with (first|((((with_reducible refine st_gsF ?_ ?_);rfl));(try refine zp ?_))|((first|refine zU ?_|(refine zA 6 ?_;intro b6)|(go_at_call 109;refine gvF (c1 _ H.below) H ?_;clear c1));clear H;intro wn H))
    go_ret
    exact⟨by rw[HI2.out];rfl,H.below⟩
   cases z2
   case false=>
    have HI2:Hid (z=false):=hY (by rw[hstep];simp)
    clear hstep
    go_wp2_with (first|refine zgU ?_|((first|refine zU ?_|(refine zA 6 ?_;intro b6)|(go_at_call 109;refine gvF (c1 _ H.below) H ?_;clear c1)|(go_at_call 109;refine gvF (c2 _ H.below) H ?_));clear H;intro wn H))
    go_ret
    exact⟨by rw[HI2.out];rfl,H.below⟩
   have c5:=c3 rfl rfl
   clear c3
   cases z3
   case true=>
    have HI2:Hid (z=false):=hY (by rw[hstep];simp)
    clear hstep
    go_wp2_with (first|refine zgU ?_|((first|refine zU ?_|(refine zA 6 ?_;intro b6)|(go_at_call 109;refine gvF (c1 _ H.below) H ?_;clear c1)|(go_at_call 109;refine gvF (c2 _ H.below) H ?_)|(go_at_call 320;refine gvF (c5 _) H ?_));clear H;intro wn H))
    go_ret
    exact⟨by rw[HI2.out];rfl,H.below⟩
   cases z4
   case false=>
    have HI2:Hid (z=false):=hY (by rw[hstep];simp)
    clear hstep
    go_wp2_with (first|((((with_reducible refine st_gwF ?_ ?_);rfl));(try refine zp ?_))|((first|refine zU ?_|(refine zA 6 ?_;intro b6)|(go_at_call 109;refine gvF (c1 _ H.below) H ?_;clear c1)|(go_at_call 109;refine gvF (c2 _ H.below) H ?_)|(go_at_call 320;refine gvF (c5 _) H ?_)|(go_at_call 50;refine gvF (c4 _) H ?_));clear H;intro wn H))
    go_ret
    exact⟨by rw[HI2.out];rfl,H.below⟩
   have HI2:Hid (z=(!zs&&allFrom f n (i+1))):=hY (by rw[hstep];simp)
   clear hstep
   go_wp2_with (first|((((with_reducible refine st_gwF ?_ ?_);rfl));(try refine zp ?_))|((first|refine zU ?_|(refine zA 6 ?_;intro b6)|(go_at_call 109;refine gvF (c1 _ H.below) H ?_;clear c1)|(go_at_call 109;refine gvF (c2 _ H.below) H ?_)|(go_at_call 320;refine gvF (c5 _) H ?_)|(go_at_call 50;refine gvF (c4 _) H ?_));clear H;intro wn H))
   go_loopg [7] i (fun m kv wr=>∃(k:Nat),k+m=i∧kv = .int .i64 k∧Hid (zs=((l.take i).drop k).any (samePr ((x1,x2),(x3,x4),x5)))∧Hs noRow w [Hl.blk b6 182 #[.int .i64 x1,.int .i64 x2,.int .i64 x3,.int .i64 x4,.int .i64 x5]] wr)
   case atStart=>exact⟨0,by omega,rfl,HS,H.sel sF⟩
   case round=>
    clear H HS
    obtain⟨k,hk,rfl,HK,H⟩:=hrel
    by_cases hlk:k<i
    ·obtain ⟨y,hy⟩:=atE (i:=k) HN (by omega)
     have hs2:=sl_at (by have:=HR.out;rw[HN.out] at this;exact this) hy
     rw[←HN.out] at hs2
     obtain⟨b9,off9,c9,cs9,hw,hcs9,hB⟩:=hs2
     injection hw with hw1 hw2 hw3
     injection hw1 with hw1
     injection hw1 with hw4 hw5
     subst hw3 hw4 hw5
     obtain rfl:cs9=encPr y:=hcs9
     have hst:=HK.out
     rw[any_drop (i:=k) (a:=y) (by rw[List.getElem?_take,if_pos hlk];exact hy),samePr_comm] at hst
     obtain⟨⟨y1,y2⟩,⟨y3,y4⟩,y5⟩:=y
     unfold encPr at hB
     simp only at hB hst
     have hB1:At w b (off+k*5) [.int .i64 y1,.int .i64 y2]:=At.pre (us:=[.int .i64 y3,.int .i64 y4,.int .i64 y5]) hB
     have hB2:At w b (off+k*5+2) [.int .i64 y3,.int .i64 y4]:=fun j u hu=>by
      match j,hu with
      | 0,hu=>exact hB 2 u hu
      | 1,hu=>exact hB 3 u hu
     have hlk1:(k:Int)<i:=by omega
     have hlk2:(k:Int)<n:=by omega
     have hlk3:k<n:=by omega
     clear hy hw2 HK hA hB
     cases hp1:eqB (y1,y2) (x1,x2)
     ·rw[hp1,Bool.false_and,Bool.false_or] at hst
      have HK2:=hY hst
      clear hst
      go_wp2_with (refine zHq 12 ?_;(iterate 18 (all_goals((first|refine zhST ?_|refine zhFAEV ?_))));all_goals(refine zHz ?_;clear H;intro wn H))
      go_roundg (i-(k+1))
      case measure=>omega
      case rel=>exact⟨k+1,by omega,by go_num,HK2,H.sel sF⟩
     cases hp2:eqB (y3,y4) (x3,x4)
     ·rw[hp1,hp2,Bool.true_and,Bool.false_or] at hst
      have HK2:=hY hst
      clear hst
      go_wp2_with (refine zHq 12 ?_;(iterate 18 (all_goals((first|(refine zhGT ?_;refine zhFAEV ?_)|refine zhFAEV ?_))));all_goals(refine zHz ?_;clear H;intro wn H))
      go_roundg (i-(k+1))
      case measure=>omega
      case rel=>exact⟨k+1,by omega,by go_num,HK2,H.sel sF⟩
     ·rw[hp1,hp2,Bool.true_and,Bool.true_or] at hst
      have HI3:Hid (z=false):=hY (by rw[HI2.out,hst];rfl)
      clear hst HI2
      go_wp2_with (refine zHq 12 ?_;(iterate 18 (all_goals((first|(refine zhGT ?_;refine zhFAEV ?_)|refine zhFAEV ?_))));all_goals(refine zHz ?_;clear H;intro wn H))
      go_ret
      exact⟨by rw[HI3.out];rfl,H.below⟩
    ·obtain rfl:k=i:=by omega
     have hlk1:=nlt k
     have hzs:zs=false:=by rw[HK.out,List.drop_of_length_le (by rw[List.length_take];omega)];rfl
     have HI3:Hid (z=allFrom f n (k+1)):=hY (by rw[HI2.out,hzs];rfl)
     clear hzs HK HI2
     go_wp2_with (fail)
     go_roundg (n-(k+1))
     case measure=>omega
     case rel=>exact⟨k+1,by omega,by go_num,HI3,H.sel sF⟩
  ·obtain rfl:i=n:=by omega
   have hlt1:=nlt i
   have hz:=HI.out
   rw[allFrom_end (Nat.le_refl _)] at hz
   have HI2:=hY hz
   clear hz HI HZ2
   go_wp2_with (fail)
   go_ret
   exact⟨by rw[HI2.out];rfl,H.below⟩
end Go.Proofs.YtcabgibdkmgdlaaGreat
namespace Go.Proofs.YtcabgibdkmgdlaaGreat
open Go.RowKit M
namespace M
theorem okL_bd{a:Lab}(h:okL a=true):(0≤a.1∧a.1≤3)∧(0≤a.2∧a.2≤7):=by
 unfold okL labelOk isIn at h
 simp at h
 omega
def ordL(a:Lab):Int:=8*a.1+a.2
theorem ordL_cmp{a b:Lab}(ha:okL a=true)(hb:okL b=true):0≤cmpL a b↔ordL b≤ordL a:=by
 have h1:=okL_bd ha
 have h2:=okL_bd hb
 unfold cmpL ordL
 split
 ·omega
 split
 ·omega
 split
 ·omega
 split <;> omega
theorem quotas_take{labels:List Lab}{l:List Qt}(hlab:∀a,hasL labels a=true→okL a=true)(h:quotasOk labels l=true):∀(i:Nat) (x:Qt),l[i]? = some x→hasL labels x.1=true∧okL x.1=true∧(∀(j:Nat) (y:Qt),j<i→l[j]? = some y→ordL y.1<ordL x.1):=by
 unfold quotasOk allFrom at h
 rw[List.all_eq_true] at h
 have step:∀(i:Nat) (x:Qt),l[i]? = some x→hasL labels x.1=true∧behind l i x=true:=fun i x hx=>by
  have hlt:=(List.getElem?_eq_some_iff.1 hx).1
  have:=h i (by rw[List.mem_range'_1];omega)
  unfold quotaIn at this
  rw[hx] at this
  simp only[Bool.and_eq_true] at this
  exact⟨this.1,this.2.2⟩
 intro i
 induction i with
 | zero=>intro x hx;exact⟨(step 0 x hx).1,hlab _ (step 0 x hx).1,fun j y hj=>by omega⟩
 | succ i ih=>
  intro x hx
  have h1:=step (i+1) x hx
  refine⟨h1.1,hlab _ h1.1,fun j y hj hy=>?_⟩
  obtain⟨p,hp⟩:∃p,l[i]? = some p:=⟨l[i]'(by have:=(List.getElem?_eq_some_iff.1 hx).1;omega),List.getElem?_eq_getElem _⟩
  have h2:=ih p hp
  have h3:=h1.2
  unfold behind at h3
  simp only[hp] at h3
  have h4:¬ 0≤cmpL p.1 x.1:=by simpa using h3
  rw[ordL_cmp h2.2.1 (hlab _ h1.1)] at h4
  by_cases hji:j=i
  ·subst hji
   rw[hp] at hy
   injection hy with hy
   subst hy
   omega
  ·have:=h2.2.2 j y (by omega) hy
   omega
theorem nodup_len:∀ {l m:List Lab},l.Nodup→(∀a ∈ l,a ∈ m)→l.length≤m.length
 | [],_,_,_=>Nat.zero_le _
 | a::l,m,h,hs=>by
  obtain⟨h1,h2⟩:=List.nodup_cons.1 h
  have ha:=hs a (List.mem_cons_self ..)
  have h3:=nodup_len (m:=m.erase a) h2 fun b hb=>(List.mem_erase_of_ne (by rintro rfl;exact h1 hb)).2 (hs b (List.mem_cons_of_mem _ hb))
  rw[List.length_erase_of_mem ha] at h3
  have:=List.length_pos_of_mem ha
  rw[List.length_cons]
  omega
theorem quotas_len{labels:List Lab}{l:List Qt}(hlab:∀a,hasL labels a=true→okL a=true)(h:quotasOk labels l=true):l.length≤labels.length:=by
 have hk:=quotas_take hlab h
 have hnd:(l.map Prod.fst).Nodup:=by
  refine List.pairwise_iff_getElem.2 fun i j hi hj hij e=>?_
  rw[List.length_map] at hi hj
  rw[List.getElem_map,List.getElem_map] at e
  have:=(hk j _ (List.getElem?_eq_getElem hj)).2.2 i _ hij (List.getElem?_eq_getElem hi)
  rw[e] at this
  omega
 have:=nodup_len hnd (m:=labels) fun a ha=>by
  obtain⟨x,hx,rfl⟩:=List.mem_map.1 ha
  obtain⟨i,hi⟩:=List.getElem?_of_mem hx
  exact hasL_iff.1 (hk i x hi).1
 rw[List.length_map] at this
 exact this
end M
theorem ord_s(a:Lab)(h:okL a=true)(w:World):Gives Tryz.prog 248 #[.agg #[.int .i64 a.1,.int .i64 a.2]] w (.int .i64 (ordL a)):=by
 have hb:=okL_bd h
 obtain⟨a1,a2⟩:=a
 simp only at hb
 obtain⟨⟨h1,h2⟩,h3,h4⟩:=hb
 clear h
 unfold ordL
 simp only
 have H:=Hs.start noRow w
 unfold Gives
 go_enter Tryz.func248,Tryz.ntmps248
 go_wp2_with ((first|refine zL ?_|(refine zB 1 ?_;intro b1));clear H;intro wn H)
 go_ret
 exact⟨by first|rfl|(congr 2;go_num)|go_num,H.below⟩
theorem quotas_s(v lv:Value)(l:List Qt)(labels:List Lab)(hlab:∀a,hasL labels a=true→okL a=true)(w:World)(hr:(Ty.sl 279 tyQt).rd w [v] l)(hrl:(Ty.sl 123 tyLab).rd w [lv] labels):
  Gives Tryz.prog 245 #[lv,v] w (.bool (decide (l.length≤8)&&quotasOk labels l)):=by
 have HLAB:=hY hlab
 have HRL:=hY hrl
 obtain⟨B,bn,hlv⟩:∃B bn,lv = .slice B labels.length bn:=by obtain⟨B,bn,h,_⟩:=sl_form hrl;exact⟨B,bn,h⟩
 subst hlv
 obtain⟨ln,hln⟩:=nm labels.length
 rw[←hln] at HRL ⊢
 obtain⟨A,c,rfl,hlc,hcm⟩:=sl_form hr
 unfold maxLen at *
 have HR:=hY hr
 obtain⟨n,hn⟩:=nm l.length
 have hnl:n≤9223372036854775807:=by omega
 rw[←hn] at HR ⊢
 have HN:=hY hn
 obtain⟨z,hz⟩:=nm ((decide (n≤8)&&quotasOk labels l))
 rw[←hz]
 obtain⟨f,hf'⟩:∃f,f=quotaIn labels l:=⟨_,rfl⟩
 have HF:=hY hf'
 have HZ:Hid (z=(decide (n≤8)&&allFrom f n 0)):=hY (by rw[hz,hf',hn];rfl)
 clear hr hn hlc hcm hrl hz hf' hln hlab
 have H:=Hs.start noRow w
 unfold Gives
 by_cases h8:8<n
 ·have h5:(8:Int)<n:=by omega
  have HI3:Hid (z=false):=hY (by rw[HZ.out,show decide (n≤8)=false by simp;omega];simp)
  go_enter Tryz.func245,Tryz.ntmps245
  go_wp2_with (fail)
  go_ret
  exact⟨by rw[HI3.out];rfl,H.below⟩
 have h5:¬(8:Int)<n:=by omega
 have HZ2:Hid (z=allFrom f n 0):=hY (by rw[HZ.out,show decide (n≤8)=true by simp;omega];simp)
 clear HZ
 go_enter Tryz.func245,Tryz.ntmps245
 go_wp2_with (fail)
 go_loopg [5] n (fun m iv wr=>∃(i:Nat),i+m=n∧iv = .int .i64 i∧Hid (z=allFrom f n i ∧ ∀j y,j<i→l[j]? = some y→okL y.1=true)∧Hs noRow w [] wr)
 case atStart=>exact⟨0,by omega,rfl,hY ⟨HZ2.out,fun j y hj=>by omega⟩,H⟩
 case round=>
  clear H
  obtain⟨i,hi,rfl,HI,H⟩:=hrel
  by_cases hlt:i<n
  ·obtain ⟨x,b,off,cs,hx,rfl,hv2,hcs,hA⟩:=slE HR HN hlt
   obtain rfl:cs=encQt x:=hcs
   have hstep:=HI.out.1
   have hbef:=HI.out.2
   have hfi:f i=(hasL labels x.1&&(isIn x.2 1 9&&behind l i x)):=by rw[HF.out];unfold quotaIn;rw[hx]
   rw[allFrom_step hlt,hfi] at hstep
   clear hfi
   have hlt1:(i:Int)<n:=by omega
   clear hv2
   have hokx:hasL labels x.1=true→okL x.1=true:=HLAB.out _
   have hbef2:hasL labels x.1=true → ∀j y,j<i+1→l[j]? = some y→okL y.1=true:=fun h j y hj hy=>by
    by_cases e:j=i
    ·subst e
     rw[hx] at hy
     injection hy with hy
     subst hy
     exact hokx h
    ·exact hbef j y (by omega) hy
   obtain⟨⟨x1,x2⟩,x3⟩:=x
   have hA2:At w b (off+i*3) [.int .i64 x1,.int .i64 x2]:=At.pre (us:=[.int .i64 x3]) hA
   have h3:w.cell? ⟨b,off+i*3+2,none⟩=some (.int .i64 x3):=hA 2 _ rfl
   have c1:=fun w1 hb=>cleared_s _ labels (x1,x2) w1 (Ty.below _ HRL.out hb)
   have c4:=fun w1=>is_s x3 1 9 w1
   have HX:=hY hx
   clear hA hx
   simp only at c1 hstep hokx hbef2
   generalize hasL labels (x1,x2)=z1 at *
   unfold isIn at hstep
   generalize (decide (1≤x3)&&decide (x3≤9))=z4 at *
   cases z1
   case false=>
    have HI2:Hid (z=false):=hY (by rw[hstep];simp)
    clear hstep hokx hbef hbef2 HI
    go_wp2_with (refine zHq 6 ?_;(iterate 6 (all_goals(refine zhAV ?_)));all_goals refine zHk (fun w1 H1=>c1 _ H1.below) ?_;(iterate 30 (all_goals((first|refine zhSF ?_|refine zhSk ?_|refine zhV ?_))));all_goals(refine zHz ?_;clear H;intro wn H))
    go_ret
    exact⟨by rw[HI2.out];rfl,H.below⟩
   have HB2:=hY (hbef2 rfl)
   have hox:=hokx rfl
   clear hbef2 hokx
   cases z4
   case false=>
    have HI2:Hid (z=false):=hY (by rw[hstep];simp)
    clear hstep hbef HI
    go_wp2_with (refine zHq 6 ?_;(iterate 6 (all_goals(refine zhAV ?_)));all_goals refine zHk (fun w1 H1=>c1 _ H1.below) ?_;(iterate 7 (all_goals((first|(refine zhGF ?_;refine zhFV ?_)|refine zhV ?_))));all_goals(refine zhGF ?_;refine zHk (fun w1 H1=>c4 _) ?_);(iterate 22 (all_goals((first|(refine zhGF ?_;refine zhV ?_)|refine zhSF ?_|refine zhSk ?_|refine zhV ?_))));all_goals(refine zHz ?_;clear H;intro wn H))
    go_ret
    exact⟨by rw[HI2.out];rfl,H.below⟩
   cases i with
   | zero=>
    have HI2:Hid (z=allFrom f n 1):=hY (by rw[hstep];simp[behind])
    clear hstep hbef HI hox
    go_wp2_with (refine zHq 6 ?_;(iterate 6 (all_goals(refine zhAV ?_)));all_goals refine zHk (fun w1 H1=>c1 _ H1.below) ?_;(iterate 7 (all_goals((first|(refine zhGF ?_;refine zhFV ?_)|refine zhV ?_))));all_goals(refine zhGF ?_;refine zHk (fun w1 H1=>c4 _) ?_);(iterate 22 (all_goals((first|(refine zhGF ?_;refine zhV ?_)|refine zhST ?_|refine zhV ?_))));all_goals(refine zHz ?_;clear H;intro wn H))
    go_roundg (n-1)
    case measure=>omega
    case rel=>exact⟨1,by omega,by go_num,hY ⟨HI2.out,HB2.out⟩,H.sel sF⟩
   | succ j=>
    obtain⟨y,hy⟩:=atE (i:=j) HN (by omega)
    have hoy:=hbef j y (by omega) hy
    have hs2:=sl_at (by have:=HR.out;rw[HN.out] at this;exact this) hy
    rw[←HN.out] at hs2
    obtain⟨b3,off3,c3,cs3,hw,hcs3,hB⟩:=hs2
    injection hw with hw1 hw2 hw3
    injection hw1 with hw1
    injection hw1 with hw4 hw5
    subst hw3 hw4 hw5
    obtain rfl:cs3=encQt y:=hcs3
    unfold behind at hstep
    simp only[hy] at hstep
    obtain⟨⟨y1,y2⟩,y3⟩:=y
    have hB2:At w b (off+j*3) [.int .i64 y1,.int .i64 y2]:=At.pre (us:=[.int .i64 y3]) hB
    have c5:=fun w1=>ord_s (y1,y2) hoy w1
    have c6:=fun w1=>ord_s (x1,x2) hox w1
    have hoc:=ordL_cmp hoy hox
    simp only at c5 c6 hstep hoc
    have hst2:z=(!decide (ordL (x1,x2)≤ordL (y1,y2))&&allFrom f n (j+1+1)):=by rw[hstep,show decide (0≤cmpL (y1,y2) (x1,x2))=decide (ordL (x1,x2)≤ordL (y1,y2)) from decide_eq_decide.2 hoc];simp
    clear hstep hoc hbef HI
    generalize ordL (y1,y2)=q1 at *
    generalize ordL (x1,x2)=q2 at *
    have hlt2:(j:Int)<n:=by omega
    have hlt3:j<n:=by omega
    have hpos:(0:Int)<(j:Int)+1:=by omega
    clear hB hy hw2 hoy hox
    by_cases hq:q2≤q1
    ·have HI2:Hid (z=false):=hY (by rw[hst2];simp[hq])
     clear hst2
     go_wp2_with (refine zHq 6 ?_;(iterate 6 (all_goals(refine zhAV ?_)));all_goals refine zHk (fun w1 H1=>c1 _ H1.below) ?_;(iterate 7 (all_goals((first|(refine zhGF ?_;refine zhFV ?_)|refine zhV ?_))));all_goals(refine zhGF ?_;refine zHk (fun w1 H1=>c4 _) ?_);(iterate 12 (all_goals((first|((first|refine zhGF ?_|refine zhGT ?_);refine zhAWV ?_)|refine zhV ?_))));(all_goals(with_reducible refine Qk.mk ?_));all_goals(((with_reducible refine hq_gwT ?_ ?_);rfl;((with_reducible refine' hq_step ?_ ?_ ?_);rotate_left;rfl;(focus(intro w1 H1;unfold QOk;go_simp;exact q_call ((by exact c5 _))));(try simp only[yG,yH,yJ,yK]);refine zp ?_)));(all_goals(with_reducible refine Qk.out ?_));(iterate 5 (all_goals(refine zhGT ?_;refine zhAV ?_)));(all_goals(with_reducible refine Qk.mk ?_));all_goals(((with_reducible refine hq_gwT ?_ ?_);rfl;((with_reducible refine' hq_step ?_ ?_ ?_);rotate_left;rfl;(focus(intro w1 H1;unfold QOk;go_simp;exact q_call ((by exact c6 _))));(try simp only[yG,yH,yJ,yK]);refine zp ?_)));(all_goals(with_reducible refine Qk.out ?_));(iterate 3 (all_goals((first|((first|refine zhGT ?_|refine zhGF ?_);refine zhV ?_)|refine zhV ?_))));all_goals(refine zHz ?_;clear H;intro wn H))
     go_ret
     exact⟨by rw[HI2.out];rfl,H.below⟩
    ·have HI2:Hid (z=allFrom f n (j+1+1)):=hY (by rw[hst2];simp[hq])
     clear hst2
     go_wp2_with (refine zHq 6 ?_;(iterate 6 (all_goals(refine zhAV ?_)));all_goals refine zHk (fun w1 H1=>c1 _ H1.below) ?_;(iterate 7 (all_goals((first|(refine zhGF ?_;refine zhFV ?_)|refine zhV ?_))));all_goals(refine zhGF ?_;refine zHk (fun w1 H1=>c4 _) ?_);(iterate 12 (all_goals((first|((first|refine zhGF ?_|refine zhGT ?_);refine zhAWV ?_)|refine zhV ?_))));(all_goals(with_reducible refine Qk.mk ?_));all_goals(((with_reducible refine hq_gwT ?_ ?_);rfl;((with_reducible refine' hq_step ?_ ?_ ?_);rotate_left;rfl;(focus(intro w1 H1;unfold QOk;go_simp;exact q_call ((by exact c5 _))));(try simp only[yG,yH,yJ,yK]);refine zp ?_)));(all_goals(with_reducible refine Qk.out ?_));(iterate 5 (all_goals(refine zhGT ?_;refine zhAV ?_)));(all_goals(with_reducible refine Qk.mk ?_));all_goals(((with_reducible refine hq_gwT ?_ ?_);rfl;((with_reducible refine' hq_step ?_ ?_ ?_);rotate_left;rfl;(focus(intro w1 H1;unfold QOk;go_simp;exact q_call ((by exact c6 _))));(try simp only[yG,yH,yJ,yK]);refine zp ?_)));(all_goals(with_reducible refine Qk.out ?_));(iterate 3 (all_goals((first|((first|refine zhGT ?_|refine zhGF ?_);refine zhV ?_)|refine zhV ?_))));all_goals(refine zHz ?_;clear H;intro wn H))
     go_roundg (n-(j+1+1))
     case measure=>omega
     case rel=>exact⟨j+1+1,by omega,by go_num,hY ⟨HI2.out,HB2.out⟩,H.sel sF⟩
  ·obtain rfl:i=n:=by omega
   have hlt1:=nlt i
   have hz:=HI.out.1
   rw[allFrom_end (Nat.le_refl _)] at hz
   have HI2:=hY hz
   clear hz HI HZ2
   go_wp2_with (fail)
   go_ret
   exact⟨by rw[HI2.out];rfl,H.below⟩
end Go.Proofs.YtcabgibdkmgdlaaGreat
namespace Go.Proofs.YtcabgibdkmgdlaaGreat
open Go.RowKit M
namespace M
abbrev Cfg:=List (List Lab) × List Pr × List Qt × Int
def cfgOk(c:Cfg):Bool:=clearOk c.1&&(isIn c.2.2.2 1 9&&(decide ((labelsOf c.1).length≤8)&&(pairsOk (labelsOf c.1) c.2.1&&quotasOk (labelsOf c.1) c.2.2.1)))
theorem labs_ok:∀a ∈ labsAll,okL a=true:=by decide
theorem labels_ok{l:List (List Lab)}(a:Lab)(h:hasL (labelsOf l) a=true):okL a=true:=by
 have h1:=hasL_iff.1 h
 unfold labelsOf at h1
 exact labs_ok a (List.mem_filter.1 h1).1
end M
def tyCfg:Ty Cfg:=Ty.pair (Ty.sl 118 (Ty.sl 123 tyLab)) (Ty.pair (Ty.sl 182 tyPr) (Ty.pair (Ty.sl 279 tyQt) tyNum))
theorem cfg_form{w:World}{cs:List Value}{c:Cfg}(h:tyCfg.rd w cs c):∃v1 v2 v3,cs = [v1,v2,v3,.int .i64 c.2.2.2]∧(Ty.sl 118 (Ty.sl 123 tyLab)).rd w [v1] c.1∧(Ty.sl 182 tyPr).rd w [v2] c.2.1∧(Ty.sl 279 tyQt).rd w [v3] c.2.2.1:=by
 obtain⟨x1,y1,rfl,h1,x2,y2,rfl,h2,x3,y3,rfl,h3,h4⟩:=h
 obtain⟨v1,hv1⟩:∃v,x1 = [v]:=by obtain⟨v,_,rfl,_⟩:=h1;exact⟨v,rfl⟩
 obtain⟨v2,hv2⟩:∃v,x2 = [v]:=by obtain⟨v,_,rfl,_⟩:=h2;exact⟨v,rfl⟩
 obtain⟨v3,hv3⟩:∃v,x3 = [v]:=by obtain⟨v,_,rfl,_⟩:=h3;exact⟨v,rfl⟩
 subst hv1 hv2 hv3
 obtain rfl:y3=encNum c.2.2.2:=h4
 exact⟨v1,v2,v3,rfl,h1,h2,h3⟩
theorem configRight_s(c:Cfg)(cs:List Value)(w:World)(hr:tyCfg.rd w cs c):Gives Tryz.prog 172 #[.agg cs.toArray] w (.bool (cfgOk c)):=by
 obtain⟨v1,v2,v3,rfl,h1,h2,h3⟩:=cfg_form hr
 clear hr
 obtain⟨l,pr,qt,hf⟩:=c
 simp only at h1 h2 h3
 show Gives Tryz.prog _ #[.agg #[v1,v2,v3,.int .i64 hf]] w _
 have HR1:=hY h1
 have HR2:=hY h2
 have HR3:=hY h3
 obtain⟨z,hz⟩:=nm (cfgOk (l,pr,qt,hf))
 rw[←hz]
 have HZ:Hid (z=(clearOk l&&(isIn hf 1 9&&(decide ((labelsOf l).length≤8)&&(pairsOk (labelsOf l) pr&&quotasOk (labelsOf l) qt))))):=hY hz
 have c1:=fun w1 hb=>clear_s v1 l w1 (Ty.below _ HR1.out hb)
 have c2:=fun w1=>is_s hf 1 9 w1
 clear hz h1 h2 h3
 have hst:=HZ.out
 unfold isIn at hst
 generalize clearOk l=z1 at *
 generalize (decide (1≤hf)&&decide (hf≤9))=z2 at *
 have H:=Hs.start noRow w
 unfold Gives
 cases z1
 case false=>
  have HI2:Hid (z=false):=hY (by rw[hst];simp)
  clear hst HZ
  go_enter Tryz.func172,Tryz.ntmps172
  go_wp2_with (first|((((with_reducible refine st_gsF ?_ ?_);rfl));(try refine zp ?_))|((first|refine zL ?_|(refine zB 1 ?_;intro b1)|(go_at_call 243;refine gvF (c1 _ H.below) H ?_));clear H;intro wn H))
  go_ret
  exact⟨by rw[HI2.out];rfl,H.below⟩
 cases z2
 case false=>
  have HI2:Hid (z=false):=hY (by rw[hst];simp)
  clear hst HZ
  go_enter Tryz.func172,Tryz.ntmps172
  go_wp2_with (first|((((with_reducible refine st_gwF ?_ ?_);rfl));(try refine zp ?_))|((first|refine zL ?_|(refine zB 1 ?_;intro b1)|(go_at_call 243;refine gvF (c1 _ H.below) H ?_)|(go_at_call 50;refine gvF (c2 _) H ?_));clear H;intro wn H))
  go_ret
  exact⟨by rw[HI2.out];rfl,H.below⟩
 rw[Bool.true_and,Bool.true_and] at hst
 have HZ2:=hY hst
 clear hst HZ
 go_enter Tryz.func172,Tryz.ntmps172
 go_wp2_with (first|((((with_reducible refine st_gwF ?_ ?_);rfl));(try refine zp ?_))|((first|refine zL ?_|(refine zB 1 ?_;intro b1)|(go_at_call 243;refine gvF (c1 _ H.below) H ?_)|(go_at_call 50;refine gvF (c2 _) H ?_));clear H;intro wn H))
 refine(Rets.use (labels_s v1 l _ (Ty.below _ HR1.out H.below))).mono ?_;rintro e wn ⟨_,_,rfl,⟨N,hN,rfl,hone⟩,hkk⟩;refine zK ?_;clear H hkk;intro H
 have hN2:=own_single hN hone rfl
 clear hN hone
 have hlab:∀a,hasL (labelsOf l) a=true→okL a=true:=fun a=>labels_ok a
 obtain⟨A,ca,rfl,hlc,hcm⟩:=sl_form (own_rd H .here hN2)
 generalize labelsOf l=ls at *
 obtain⟨n,hn⟩:=nm ls.length
 have hst:=HZ2.out
 rw[←hn] at hst hN2 ⊢
 have c3:=fun w1 hb hl=>pairs_s v2 (.slice A n ca) pr ls hlab w1 (Ty.below _ HR2.out hb) hl
 have c4:=fun w1 hb hl=>quotas_s v3 (.slice A n ca) qt ls hlab w1 (Ty.below _ HR3.out hb) hl
 have HN2:=hY hN2
 have HLAB:=hY hlab
 have HN:=hY hn
 clear hlab hlc hcm hN2 c1 c2 HZ2
 by_cases h8:n≤8
 ·have h9:(n:Int)≤8:=by omega
  rw[decide_eq_true h8,Bool.true_and] at hst
  cases hp:pairsOk ls pr
  case false=>
   have HI2:Hid (z=false):=hY (by rw[hst,hp];rfl)
   rw[hp] at c3
   clear hst hn c4
   go_wp2_with (first|((((with_reducible refine st_gwT ?_ ?_);rfl));(try refine zp ?_))|((first|refine zL ?_|(go_at_call 244;refine gvF (c3 _ H.below (own_rd H iF HN2.out)) H ?_));clear H;intro wn H))
   go_ret
   exact⟨by rw[HI2.out];rfl,H.below⟩
  case true=>
   rw[hp,Bool.true_and] at hst
   rw[hp] at c3
   have hq8:(decide (qt.length≤8)&&quotasOk ls qt)=quotasOk ls qt:=by
    cases hq:quotasOk ls qt
    ·simp
    ·have:=quotas_len HLAB.out hq
     simp
     omega
   rw[hq8,←hst] at c4
   clear hst hn hq8
   go_wp2_with (first|((((with_reducible refine st_gwT ?_ ?_);rfl));(try refine zp ?_))|((first|refine zL ?_|(go_at_call 244;refine gvF (c3 _ H.below (own_rd H iF HN2.out)) H ?_)|(go_at_call 245;refine gvF (c4 _ H.below (own_rd H iF HN2.out)) H ?_));clear H;intro wn H))
   go_ret
   exact⟨rfl,H.below⟩
 ·have h9:¬(n:Int)≤8:=by omega
  have HI2:Hid (z=false):=hY (by rw[hst];simp[h8])
  clear hst hn c3 c4
  go_wp2_with ((((with_reducible refine st_gsT ?_ ?_);rfl));(try refine zp ?_))
  go_ret
  exact⟨by rw[HI2.out];rfl,H.below⟩
theorem configRight_i(c:Cfg)(cs:List Value)(w:World)(hr:tyCfg.rd w cs c):Gives Tryz.prog 191 #[.agg cs.toArray] w (.bool (cfgOk c)):=by
 obtain⟨v1,v2,v3,rfl,h1,h2,h3⟩:=cfg_form hr
 clear hr
 obtain⟨l,pr,qt,hf⟩:=c
 simp only at h1 h2 h3
 show Gives Tryz.prog _ #[.agg #[v1,v2,v3,.int .i64 hf]] w _
 obtain⟨pA,pc,hv2,_,_⟩:=sl_form h2
 obtain⟨qA,qc,hv3,_,_⟩:=sl_form h3
 obtain⟨pn,hpn⟩:=nm pr.length
 obtain⟨qn,hqn⟩:=nm qt.length
 rw[←hpn] at hv2
 rw[←hqn] at hv3
 subst hv2 hv3
 obtain⟨nA,nc,hv1,_,_⟩:=sl_form h1
 obtain⟨nn,hnn⟩:=nm l.length
 rw[←hnn] at hv1
 subst hv1
 have HR1:=hY h1
 have HR2:=hY h2
 have HR3:=hY h3
 obtain⟨z,hz⟩:=nm (cfgOk (l,pr,qt,hf))
 rw[←hz]
 have HZ:Hid (z=(clearOk l&&(isIn hf 1 9&&(decide ((labelsOf l).length≤8)&&(pairsOk (labelsOf l) pr&&quotasOk (labelsOf l) qt))))):=hY hz
 have c1:=fun w1 hb=>clearRight_i _ l w1 (Ty.below _ HR1.out hb)
 have c2:=fun w1=>within_i hf 1 9 w1
 clear hz h1 h2 h3 hpn hqn hnn
 have hst:=HZ.out
 unfold isIn at hst
 obtain⟨z1,hz1⟩:=nm (clearOk l)
 rw[←hz1] at hst c1
 have HOK0:=hY hz1
 clear hz1
 generalize (decide (1≤hf)&&decide (hf≤9))=z2 at *
 have H:=Hs.start noRow w
 unfold Gives
 cases z1
 case false=>
  have HI2:Hid (z=false):=hY (by rw[hst];simp)
  clear hst HZ
  go_enter Tryz.func191,Tryz.ntmps191
  go_wp2_with (first|((((with_reducible refine st_gsF ?_ ?_);rfl));(try refine zp ?_))|((first|refine zL ?_|(refine zB 1 ?_;intro b1)|(go_at_call 266;refine gvF (c1 _ H.below) H ?_));clear H;intro wn H))
  go_ret
  exact⟨by rw[HI2.out];rfl,H.below⟩
 cases z2
 case false=>
  have HI2:Hid (z=false):=hY (by rw[hst];simp)
  clear hst HZ
  go_enter Tryz.func191,Tryz.ntmps191
  go_wp2_with (first|((((with_reducible refine st_gwF ?_ ?_);rfl));(try refine zp ?_))|((first|refine zL ?_|(refine zB 1 ?_;intro b1)|(go_at_call 266;refine gvF (c1 _ H.below) H ?_)|(go_at_call 71;refine gvF (c2 _) H ?_));clear H;intro wn H))
  go_ret
  exact⟨by rw[HI2.out];rfl,H.below⟩
 rw[Bool.true_and,Bool.true_and] at hst
 have HOK:Hid (clearOk l=true):=hY HOK0.out.symm
 clear HOK0
 have HZ2:=hY hst
 clear hst HZ
 go_enter Tryz.func191,Tryz.ntmps191
 go_wp2_with (first|((((with_reducible refine st_gwF ?_ ?_);rfl));(try refine zp ?_))|((first|refine zU ?_|(refine zB 1 ?_;intro b1)|(go_at_call 266;refine gvF (c1 _ H.below) H ?_)|(go_at_call 71;refine gvF (c2 _) H ?_));clear H;intro wn H))
 refine(Rets.use (labels_i _ pA qA pn pc qn qc hf l HOK.out _ (Ty.below _ HR1.out H.below))).mono ?_;rintro e wn ⟨_,_,rfl,⟨N,hN,rfl,hone⟩,hkk⟩;refine zK ?_;clear H hkk;intro H
 have hN2:=own_single hN hone rfl
 clear hN hone
 have hlab:∀a,hasL (labelsOf l) a=true→okL a=true:=fun a=>labels_ok a
 obtain⟨A,ca,rfl,hlc,hcm⟩:=sl_form (own_rd H .here hN2)
 generalize labelsOf l=ls at *
 obtain⟨n,hn⟩:=nm ls.length
 have hst:=HZ2.out
 rw[←hn] at hst hN2 ⊢
 have c3:=fun w1 hb hl=>pairsOf_i nA qA nn nc qn qc hf _ (.slice A n ca) pr ls hlab w1 (Ty.below _ HR2.out hb) hl
 have c4:=fun w1 hb hl=>quotasOf_i nA pA nn nc pn pc hf _ (.slice A n ca) qt ls w1 (Ty.below _ HR3.out hb) hl
 have HN2:=hY hN2
 have HLAB:=hY hlab
 have HN:=hY hn
 clear hlab hlc hcm hN2 c1 c2 HZ2
 by_cases h8:n≤8
 ·have h9:(n:Int)≤8:=by omega
  rw[decide_eq_true h8,Bool.true_and] at hst
  cases hp:pairsOk ls pr
  case false=>
   have HI2:Hid (z=false):=hY (by rw[hst,hp];rfl)
   rw[hp] at c3
   clear hst hn c4
   go_wp2_with (first|refine zgU ?_|((first|refine zM ?_|(go_at_call 267;refine gvF (c3 _ H.below (own_rd H iF HN2.out)) H ?_));clear H;intro wn H))
   go_ret
   exact⟨by rw[HI2.out];rfl,H.below⟩
  case true=>
   rw[hp,Bool.true_and] at hst
   rw[hp] at c3
   rw[←hst] at c4
   clear hst hn
   go_wp2_with (first|((((with_reducible refine st_gwT ?_ ?_);rfl));(try refine zp ?_))|((first|refine zM ?_|(go_at_call 267;refine gvF (c3 _ H.below (own_rd H iF HN2.out)) H ?_)|(go_at_call 268;refine gvF (c4 _ H.below (own_rd H iF HN2.out)) H ?_));clear H;intro wn H))
   go_ret
   exact⟨rfl,H.below⟩
 ·have h9:¬(n:Int)≤8:=by omega
  have HI2:Hid (z=false):=hY (by rw[hst];simp[h8])
  clear hst hn c3 c4
  go_wp2_with ((((with_reducible refine st_gsT ?_ ?_);rfl));(try refine zp ?_))
  go_ret
  exact⟨by rw[HI2.out];rfl,H.below⟩
