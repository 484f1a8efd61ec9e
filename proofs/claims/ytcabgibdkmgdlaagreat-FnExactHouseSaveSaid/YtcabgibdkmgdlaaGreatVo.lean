import Derived.Test.YtcabgibdkmgdlaaGreatJ7
set_option linter.unusedSimpArgs false
set_option linter.unusedVariables false
set_option maxRecDepth 100000
set_option maxHeartbeats 8000000
namespace Go.Proofs.YtcabgibdkmgdlaaGreat
open Go.RowKit M
namespace M
def z0v(nd:List (List Lab))(a:Lab)(n:Int):Bool:=(clearL nd a).any (· == n)
def z9l(z1 z2 z3 s2 t1 t2 pl zI:Bool):Bool:=!z1&&(!z2&&(!z3&&(if s2 then t1&&t2 else if pl then zI else true)))
def z6j(nd:List (List Lab))(now:Int):Ta→Bool
 | ((lab,_,_,need,long,_,_,_,born,st,start),nodes)=>z9l (decide (((clearL nd lab).length:Int)<need)) (decide (now<born)) (nodes.any fun n=>!z0v nd lab n) (st==2) (decide (start≤now)) (decide (now<start+1+long)) (decide (0<nodes.length)) (isIn start (now+1) (now+40))
theorem z0w{l1 l2 id need long prio u1 u2 aft born st start:Int}{ow:ByteArray}{nodes:List Int}(h:taskOk (((l1,l2),id,ow,need,long,prio,(u1,u2),aft,born,st,start),nodes)=true):
  (1≤long∧long≤20)∧(st=2→0≤start∧start≤1000000)∧(∀n ∈ nodes,0≤n∧n≤5):=by
 unfold taskOk taskHead taskPlace workOk at h
 simp only[Bool.and_eq_true] at h
 obtain⟨⟨_,_,_,⟨_,h3,_⟩,_⟩,_,h4⟩:=h
 unfold isIn at h3
 simp only[Bool.and_eq_true,decide_eq_true_eq] at h3
 refine⟨h3,fun hs=>?_,?_⟩
 ·rw[if_pos (.inl hs)] at h4
  unfold isIn at h4
  simp only[Bool.and_eq_true,decide_eq_true_eq] at h4
  exact h4.1
 ·by_cases hs:st=2∨(st=1∧0<nodes.length)
  ·rw[if_pos hs] at h4
   simp only[Bool.and_eq_true] at h4
   have h5:=h4.2.1
   unfold numsOk at h5
   rw[allFrom_iff nodes.length 0 (by omega)] at h5
   intro n hn
   obtain⟨i,hi,rfl⟩:=List.getElem_of_mem hn
   have:=h5 i (by omega) hi
   unfold numIn at this
   rw[List.getElem?_eq_getElem hi] at this
   simp only[Bool.and_eq_true] at this
   have h6:=this.1
   unfold isIn at h6
   simpa using h6
  ·rw[if_neg hs] at h4
   simp only[Bool.and_eq_true,decide_eq_true_eq] at h4
   obtain rfl:=List.length_eq_zero_iff.1 h4.2
   intro n hn
   cases hn
end M
theorem z7j(v:Value)(l:List Int)(a:Int)(w:World)(hr:(Ty.sl 2 tyNum).rd w [v] l):Gives Tryz.prog 336 #[v,.int .i64 a] w (.int .i64 (idxF (fun x=>a==x) 0 l)):=by
 obtain⟨A,c,rfl,hlc,hcm⟩:=sl_form hr
 unfold maxLen at *
 have HR:=hY hr
 have H:=Hs.start noRow w
 obtain⟨n,hn⟩:=nm l.length
 have hnl:n≤9223372036854775807:=by omega
 rw[←hn] at HR ⊢
 have HN:=hY hn
 obtain⟨p,hp⟩:∃p:Int→Bool,p=fun x=>a==x:=⟨_,rfl⟩
 rw[←hp]
 have HPP:=hY hp
 obtain⟨z,hz⟩:=nm (idxF p 0 l)
 rw[←hz]
 have HZ:=hY hz
 clear hr hn hlc hcm hz hp
 unfold Gives
 go_enter Tryz.func336,Tryz.ntmps336
 go_wp2_with (fail)
 go_loopg [4,5,8] n (fun m _ _ iv wr=>∃(i:Nat),i+m=n∧iv = .int .i64 i∧Hid (z=idxF p i (l.drop i))∧Hs noRow w [] wr)
 case atStart=>exact⟨0,by omega,rfl,HZ,H⟩
 case round=>
  clear H
  obtain⟨i,hi,rfl,HI,H⟩:=hrel
  by_cases hlt:i<n
  ·obtain ⟨x,b,off,cs,hx,rfl,hv2,hcs,hA⟩:=slE HR HN hlt
   obtain rfl:cs=encNum x:=hcs
   have h0:w.cell? ⟨b,off+i,none⟩=some (.int .i64 x):=by have h:=hA.head (u := .int .i64 x) rfl;rw[show i*tyNum.s=i from Nat.mul_one i] at h;exact h
   have hstep:=HI.out
   rw[idxF_drop hx,HPP.out] at hstep
   rw[←HPP.out] at hstep
   have hlt1:(i:Int)<n:=by omega
   clear hx hv2 HI hA
   cases hpx:(a==x)
   ·rw[show p x=(a==x) by rw[HPP.out],hpx] at hstep
    have HI:=hY (show z=idxF p (i+1) (l.drop (i+1)) from hstep)
    clear hstep
    go_wp2_with (refine zL ?_;clear H;intro wn H)
    go_roundg (n-(i+1))
    case measure=>omega
    case rel=>exact⟨i+1,by omega,by go_num,HI,H⟩
   ·rw[show p x=(a==x) by rw[HPP.out],hpx] at hstep
    have HI:=hY (show z=(i:Int) from hstep)
    clear hstep
    go_wp2_with (refine zL ?_;clear H;intro wn H)
    go_ret
    exact⟨by rw[HI.out];rfl,H.below⟩
  ·obtain rfl:i=n:=by omega
   have hlt1:=nlt i
   have hz:z = -1:=by rw[HI.out,(drl HN)];rfl
   have HI2:=hY hz
   clear hz HI HZ
   go_wp2_with (fail)
   go_ret
   exact⟨by rw[HI2.out];rfl,H.below⟩
theorem z3x(v:Value)(l:List Int)(a:Int)(w:World)(hr:(Ty.sl 2 tyNum).rd w [v] l):Gives Tryz.prog 281 #[v,.int .i64 a] w (.bool (l.any (· == a))):=by
 have hI:=fun w1 hb=>z7j v l a w1 (Ty.below _ hr hb)
 have hz:=idxF_ge (fun x=>a==x) l 0
 have e:l.any (· == a)=l.any (fun x=>a==x):=by congr 1;funext b;rw[Bool.eq_iff_iff];exact⟨fun h=>beq_iff_eq.2 (beq_iff_eq.1 h).symm,fun h=>beq_iff_eq.2 (beq_iff_eq.1 h).symm⟩
 rw[e,←hz]
 obtain⟨A,c,rfl,hlc,hcm⟩:=sl_form hr
 have H:=Hs.start noRow w
 generalize idxF (fun x=>a==x) 0 l=z at *
 generalize l.length=n at *
 clear hr hz e
 unfold Gives
 go_enter Tryz.func281,Tryz.ntmps281
 go_wp2_with (((go_at_call 336;refine gvF (hI _ H.below) H ?_));clear H;intro wn H)
 go_ret
 exact⟨rfl,H.below⟩
theorem y0f(l1 l2 id:Int)(ow:ByteArray)(need long prio u1 u2 aft born st start:Int)(A:Option Addr)(n k:Nat)(h0:0≤start∧start≤1000000)(h1:1≤long∧long≤20)(w:World):
  Gives Tryz.prog 282 #[.agg #[.int .i64 l1,.int .i64 l2,.int .i64 id,.string ow,.int .i64 need,.int .i64 long,.int .i64 prio,.int .i64 u1,.int .i64 u2,.int .i64 aft,.int .i64 born,.int .i64 st,.int .i64 start,.slice A n k]] w (.int .i64 (start+1+long)):=by
 have H:=Hs.start noRow w
 unfold Gives
 go_enter Tryz.func282,Tryz.ntmps282
 go_wp2_with ((first|refine zL ?_|(refine zB 1 ?_;intro b1));clear H;intro wn H)
 go_ret
 exact⟨rfl,H.below⟩
theorem y0c(l1 l2 id:Int)(ow:ByteArray)(need long prio u1 u2 aft born st start:Int)(A:Option Addr)(n k:Nat)(h0:0≤start∧start≤1000000)(h1:1≤long∧long≤20)(w:World):
  Gives Tryz.prog 254 #[.agg #[.int .i64 l1,.int .i64 l2,.int .i64 id,.string ow,.int .i64 need,.int .i64 long,.int .i64 prio,.int .i64 u1,.int .i64 u2,.int .i64 aft,.int .i64 born,.int .i64 st,.int .i64 start,.slice A n k]] w (.int .i64 (start+1+long)):=by
 have H:=Hs.start noRow w
 unfold Gives
 go_enter Tryz.func254,Tryz.ntmps254
 go_wp2_with ((first|refine zL ?_|(refine zB 1 ?_;intro b1));clear H;intro wn H)
 go_ret
 exact⟨rfl,H.below⟩
theorem y0i(v:Value)(l:List Int)(x:Int)(b:Nat)(w:World)(h0:w.cell? ⟨b,0,none⟩=some v)(hr:(Ty.sl 2 tyNum).rd w [v] l):Gives Tryz.prog 280 (#[.int .i64 x] ++ #[.pointer (some ⟨b,0,none⟩)]) w (.bool (!l.any (· == x))):=by
 have c1:=fun w1 hb=>z3x v l x w1 (Ty.below _ hr hb)
 obtain⟨A,c,rfl,hlc,hcm⟩:=sl_form hr
 generalize l.any (· == x)=z at *
 generalize l.length=n at *
 clear hr
 have H:=Hs.start noRow w
 unfold Gives
 show Calls _ _ #[.int .i64 x,.pointer (some ⟨b,0,none⟩)] _ _
 go_enter Tryz.func280,Tryz.ntmps280
 go_wp2_with ((first|refine zL ?_|(go_at_call 281;refine gvF (c1 _ H.below) H ?_));clear H;intro wn H)
 go_ret
 exact⟨rfl,H.below⟩
theorem z6d(y:Yd)(ys:List Value)(t:Ta)(ts:List Value)(h6:y.1.1.length≤6)(hok:taskOk t=true)(hnow:0≤y.2.2.2.2∧y.2.2.2.2≤999900)(w:World)(hy:tyYd.rd w ys y)(ht:tyTa.rd w ts t):
  Gives Tryz.prog 196 #[.agg ys.toArray,.agg ts.toArray] w (.bool (z6j y.1.1 y.2.2.2.2 t)):=by
 have eg:∀args w,(callFunc 280 args).run Tryz.prog w = .ok (.enter 280 args) w:=enters_of Tryz.func280 (by kernel_rfl) rfl
 obtain⟨A1,n1,k1,A2,n2,k2,A3,n3,k3,A4,n4,k4,A5,n5,k5,A6,n6,k6,rfl,g1,g2,g3,g4⟩:=Yd_form hy
 obtain⟨A,n,k,rfl,h1⟩:=Ta_form ht
 obtain⟨⟨nd,pr,qt,hf⟩,nds,tks,uss,now⟩:=y
 obtain⟨⟨⟨l1,l2⟩,id,ow,need,long,prio,⟨u1,u2⟩,aft,born,st,start⟩,nodes⟩:=t
 simp only at h1 h6 hnow g1 g2 g3 g4
 have hn:=slN h1
 have hn1:=hn.1
 have hn2:=hn.2
 obtain⟨q1,q2,q3⟩:=z0w hok
 show Gives Tryz.prog _ #[.agg #[.slice A1 n1 k1,.slice A2 n2 k2,.slice A3 n3 k3,.int .i64 hf,.slice A4 n4 k4,.slice A5 n5 k5,.slice A6 n6 k6,.int .i64 now],.agg #[.int .i64 l1,.int .i64 l2,.int .i64 id,.string ow,.int .i64 need,.int .i64 long,.int .i64 prio,.int .i64 u1,.int .i64 u2,.int .i64 aft,.int .i64 born,.int .i64 st,.int .i64 start,.slice A n k]] w (.bool (z9l (decide (((clearL nd (l1,l2)).length:Int)<need)) (decide (now<born)) (nodes.any fun n=>!z0v nd (l1,l2) n) (st==2) (decide (start≤now)) (decide (now<start+1+long)) (decide (0<nodes.length)) (isIn start (now+1) (now+40))))
 have c1:=fun w1 hb=>clearFor_i (nd,pr,qt,hf) _ (l1,l2) h6 w1 (Ty.below _ g1 hb)
 have c2:=fun (v2:Value) (b:Nat) w1 (hb:Below w.heap.size w w1) (k1:w1.cell? ⟨b,0,none⟩=some v2) (k2:(Ty.sl 2 tyNum).rd w1 [v2] (clearL nd (l1,l2)))=>containsFunc_Num (.slice A n k) nodes (fun x=>!z0v nd (l1,l2) x) 280 #[.pointer (some ⟨b,0,none⟩)] w1 eg (Ty.below _ h1 hb) (fun w2 hb2 _ x _=>y0i v2 (clearL nd (l1,l2)) x b w2 ((hb2.cell (World.block_lt_of_cell? w1 _ k1)).trans k1) (Ty.below _ k2 hb2))
 have c3:=fun hs w1=>y0f l1 l2 id ow need long prio u1 u2 aft born st start A n k (q2 hs) q1 w1
 have c4:=fun w1=>hasPlace_i l1 l2 id ow need long prio u1 u2 aft born st start A n k hn2 w1
 have c5:=fun w1=>within_i start (now+1) (now+40) w1
 rw[←hn1] at *
 simp only at c1
 unfold isIn at *
 clear hok hy ht g1 g2 g3 g4 h1 q1 q3 hn h6 eg
 generalize hz3:(nodes.any fun n=>!z0v nd (l1,l2) n)=z3 at *
 have HZ3:=hY hz3
 clear hz3
 generalize (decide (now+1≤start)&&decide (start≤now+40))=zI at *
 obtain⟨z2,hz2⟩:=nm2 (decide (now<born))
 obtain⟨s2,hs2⟩:=nm2 ((st==2))
 obtain⟨t1,ht1⟩:=nm2 (decide (start≤now))
 obtain⟨t2,ht2⟩:=nm2 (decide (now<start+1+long))
 obtain⟨pl,hpl⟩:=nm2 (decide (0<n))
 rw[hz2,hs2,ht1,ht2,hpl]
 rw[hpl] at c4
 have q2':s2=true→st=2:=fun h=>by rw[h] at hs2;simpa using hs2
 generalize start+1+long=e at *
 generalize clearL nd (l1,l2)=cl at *
 obtain⟨z1,hz1⟩:=nm2 (decide ((cl.length:Int)<need))
 rw[hz1]
 obtain⟨z,hz⟩:=nm (z9l z1 z2 z3 s2 t1 t2 pl zI)
 rw[←hz]
 have HZ:=hY hz
 clear hz
 have H:=Hs.start noRow w
 unfold Gives
 go_enter Tryz.func196,Tryz.ntmps196
 go_wp2_with ((first|refine zM ?_|(refine zB 2 ?_;intro b2)|(refine zB 3 ?_;intro b3));clear H;intro wn H)
 refine(Rets.use (c1 _ H.below)).mono ?_;rintro e wn ⟨_,_,rfl,⟨N,hN,rfl,hone⟩,hkk⟩;refine zK ?_;clear H hkk;intro H
 have hN2:=own_single hN hone rfl
 clear hN hone c1
 obtain⟨B,cb,rfl,hlc,hcm⟩:=sl_form (own_rd H .here hN2)
 have HN2:=hY hN2
 have hcl:cl.length≤9223372036854775807:=by unfold maxLen at hcm;omega
 generalize hkk:cl.length=kk at *
 clear hN2 hlc hcm hkk
 have hd:(z1=true∨(z1=false∧z2=true))∨(z1=false∧z2=false):=by cases z1 <;> cases z2 <;> simp
 rcases hd with hd|⟨rfl,rfl⟩
 ·rcases hd with rfl|⟨rfl,rfl⟩
  all_goals(
   clear c2 c3 q2'
   go_wp2_with (first|refine zgU ?_|((first|refine zU ?_|(refine zA 5 ?_;intro b5));clear H;intro wn H))
   go_ret
   exact⟨by rw[HZ.out];rfl,H.below⟩)
 go_wp2_with (first|((((with_reducible refine st_gwF ?_ ?_);rfl));(try refine zp ?_))|((first|refine zU ?_|(refine zA 5 ?_;intro b5));clear H;intro wn H))
 refine gvF (c2 _ _ _ H.below (H.cell iF rfl) (own_rd H iF HN2.out)) H ?_;clear H;intro wn H
 clear c2
 cases z3
 case true=>
  clear c3 q2'
  go_wp2_with (fail)
  go_ret
  exact⟨by rw[HZ.out];rfl,H.below⟩
 cases s2
 ·clear c3 q2'
  cases pl
  all_goals(
   go_wp2_with ((first|refine zU ?_|(go_at_call 283;refine gvF (c4 _) H ?_)|(go_at_call 71;refine gvF (c5 _) H ?_));clear H;intro wn H)
   go_ret
   exact⟨by rw[HZ.out];rfl,H.below⟩)
 ·have c3':=c3 (q2' rfl)
  clear c3 q2'
  cases t1
  all_goals(
   go_wp2_with (first|(refine zL ?_;clear H;intro wn H)|(refine zHq 7 ?_;(iterate 9 (all_goals((first|(refine zhGT ?_;refine zhFV ?_)|refine zhST ?_|refine zhFV ?_))));all_goals(first|(refine zhGT ?_;refine zHk (fun w1 H1=>c3' _) ?_)|refine zhST ?_);(iterate 3 (all_goals((first|(refine zhGT ?_;refine zhV ?_)|refine zhST ?_|refine zhV ?_))));all_goals(refine zHz ?_;clear H;intro wn H)))
   go_ret
   exact⟨by rw[HZ.out];rfl,H.below⟩)
theorem qGE{P:Prop}(h:P:=by unfold QOk;go_simp;(try simp only[eq_true hg3,decide_true]);exact q_v):P:=h
theorem z7o(y:Yd)(ys:List Value)(t:Ta)(ts:List Value)(hlen:y.2.1.length=y.1.1.length)(hok:taskOk t=true)(hnow:0≤y.2.2.2.2∧y.2.2.2.2≤999900)(w:World)(hy:tyYd.rd w ys y)(ht:tyTa.rd w ts t):
  Gives Tryz.prog 176 #[.agg ys.toArray,.agg ts.toArray] w (.bool (z6j y.1.1 y.2.2.2.2 t)):=by
 obtain⟨A1,n1,k1,A2,n2,k2,A3,n3,k3,A4,n4,k4,A5,n5,k5,A6,n6,k6,rfl,g1,g2,g3,g4⟩:=Yd_form hy
 obtain⟨A,n,k,rfl,h1⟩:=Ta_form ht
 obtain⟨⟨nd,pr,qt,hf⟩,nds,tks,uss,now⟩:=y
 obtain⟨⟨⟨l1,l2⟩,id,ow,need,long,prio,⟨u1,u2⟩,aft,born,st,start⟩,nodes⟩:=t
 simp only at h1 hlen hnow g1 g2 g3 g4
 have hn:n=nodes.length∧n≤9223372036854775807:=by obtain⟨_,_,e,h,h'⟩:=sl_form h1;injection e;unfold maxLen at h';omega
 have hn1:=hn.1
 have hn2:=hn.2
 have hn4:n4=nds.length:=by obtain⟨_,_,e,h,h'⟩:=sl_form g2;injection e
 obtain⟨q1,q2,q3⟩:=z0w hok
 have c1:=fun w1 hb=>clear13_s (nd,pr,qt,hf) _ (l1,l2) w1 (Ty.below _ g1 hb)
 obtain⟨w1_,w2_,w3_,e0,g5,_,_⟩:=cfg_form g1
 injection e0 with e1 e2
 injection e2 with e2 e3
 injection e3 with e3 e4
 subst e1 e2 e3
 clear e4
 have hn5:n1=nd.length:=by obtain⟨_,_,e,h,h'⟩:=sl_form g5;injection e
 have hn6:n1≤9223372036854775807:=by obtain⟨_,_,e,h,h'⟩:=sl_form g5;injection e;unfold maxLen at h';omega
 show Gives Tryz.prog _ #[.agg #[.slice A1 n1 k1,.slice A2 n2 k2,.slice A3 n3 k3,.int .i64 hf,.slice A4 n4 k4,.slice A5 n5 k5,.slice A6 n6 k6,.int .i64 now],.agg #[.int .i64 l1,.int .i64 l2,.int .i64 id,.string ow,.int .i64 need,.int .i64 long,.int .i64 prio,.int .i64 u1,.int .i64 u2,.int .i64 aft,.int .i64 born,.int .i64 st,.int .i64 start,.slice A n k]] w (.bool (z9l (decide (((clearL nd (l1,l2)).length:Int)<need)) (decide (now<born)) (nodes.any fun n=>!z0v nd (l1,l2) n) (st==2) (decide (start≤now)) (decide (now<start+1+long)) (decide (0<nodes.length)) (isIn start (now+1) (now+40))))
 have c3:=fun hs w1=>y0c l1 l2 id ow need long prio u1 u2 aft born st start A n k (q2 hs) q1 w1
 have HG:=Lib.hid g5
 have HM:=Lib.hid h1
 have HQ3:=Lib.hid q3
 rw[←hn1]
 obtain rfl:n4=n1:=by omega
 have HN:=Lib.hid hn1
 have HN5:=Lib.hid hn5
 simp only at c1
 unfold isIn
 clear hok hy ht g1 g2 g3 g4 g5 h1 q1 q3 hn hlen hn1 hn4 hn5
 have en:((n:Int)==0) = !decide (0<n):=by
  rcases Nat.eq_zero_or_pos n with h|h
  ·subst h;rfl
  ·have h2:(n:Int)≠0:=by omega
   rw[decide_eq_true h]
   exact beq_eq_false_iff_ne.2 h2
 obtain⟨z3,hz3⟩:∃z,z=(nodes.any fun n=>!z0v nd (l1,l2) n):=⟨_,rfl⟩
 rw[←hz3]
 have HZ3:Hid (z3=(nodes.drop 0).any fun n=>!z0v nd (l1,l2) n):=Lib.hid hz3
 clear hz3
 obtain⟨z2,hz2⟩:∃z,decide (now<born)=z:=⟨_,rfl⟩
 obtain⟨s2,hs2⟩:∃z,(st==2)=z:=⟨_,rfl⟩
 obtain⟨t1,ht1⟩:∃z,decide (start≤now)=z:=⟨_,rfl⟩
 obtain⟨t2,ht2⟩:∃z,decide (now<start+1+long)=z:=⟨_,rfl⟩
 obtain⟨pl,hpl⟩:∃z,decide (0<n)=z:=⟨_,rfl⟩
 obtain⟨i1,hi1⟩:∃z,decide (now<start)=z:=⟨_,rfl⟩
 obtain⟨i2,hi2⟩:∃z,decide (start≤now+40)=z:=⟨_,rfl⟩
 have ei:decide (now+1≤start)=decide (now<start):=rfl
 rw[ei,hz2,hs2,ht1,ht2,hpl,hi1,hi2]
 rw[hpl] at en
 clear ei hpl
 have q2':s2=true→st=2:=fun h=>by rw[h] at hs2;simpa using hs2
 have hkl:((clearL nd (l1,l2)).length:Int)≤n4:=by rw[HN5.out];have:=clearTo_len nd (l1,l2) nd.length;unfold clearL;omega
 generalize start+1+long=e at *
 generalize (clearL nd (l1,l2)).length=kk at *
 obtain⟨z1,hz1⟩:∃z,decide ((kk:Int)<need)=z:=⟨_,rfl⟩
 rw[hz1]
 obtain⟨z,hz⟩:∃z,z=z9l z1 z2 z3 s2 t1 t2 pl (i1&&i2):=⟨_,rfl⟩
 rw[←hz]
 have HZ:=Lib.hid hz
 clear hz
 have H:=Hs.start noRow w
 unfold Gives
 have hd:(z1=true∨(z1=false∧z2=true))∨(z1=false∧z2=false):=by cases z1 <;> cases z2 <;> simp
 rcases hd with hd|⟨rfl,rfl⟩
 ·rcases hd with rfl|⟨rfl,rfl⟩
  all_goals(
   clear c3 q2'
   go_enter Tryz.func176,Tryz.ntmps176
   go_wp2_with (first|((first|((with_reducible apply st_box (dst:=some 2) H);exact nF;intro b2)|((with_reducible apply st_box (dst:=some 3) H);exact nF;intro b3));clear H;intro wn H;simp only[Act.put,yA,yB,yC,yD,yE,yF])|((with_reducible apply wp_region_hq (id:=1) H);kernel_rfl;kernel_rfl;(iterate 4 (all_goals((with_reducible refine' hq_step ?_ ?_ ?_);rotate_left;rfl;(focus(intro w1 H1;first|exact qF|exact qVF));(try simp only[yG,yH,yJ,yK]);(try simp only[Act.put,yA,yB,yC,yD,yE,yF]))));(all_goals((with_reducible refine' hq_step ?_ ?_ ?_);rotate_left;rfl;(focus(intro w1 H1;unfold QOk;go_simp;exact q_call (c1 _ H1.below)));(try simp only[yG,yH,yJ,yK]);simp only[Act.put,yA,yB,yC,yD,yE,yF]));(iterate 10 (all_goals((first|((with_reducible refine hq_gwF ?_ ?_);rfl;(with_reducible refine' hq_step ?_ ?_ ?_);rotate_left;rfl;(focus(intro w1 H1;first|exact qF|exact qVF));(try simp only[yG,yH,yJ,yK]))|((with_reducible refine hq_gsF ?_ ?_);rfl)|((with_reducible refine' hq_step ?_ ?_ ?_);rotate_left;rfl;(focus(intro w1 H1;first|exact qF|exact qVF));(try simp only[yG,yH,yJ,yK])));(try simp only[Act.put,yA,yB,yC,yD,yE,yF]))));all_goals(refine wpQuiet_nil ?_;clear H;intro wn H)))
   go_ret
   exact⟨by rw[HZ.out];rfl,H.below⟩)
 go_enter Tryz.func176,Tryz.ntmps176
 go_wp2_with (first|((first|((with_reducible apply st_box (dst:=some 2) H);exact nF;intro b2)|((with_reducible apply st_box (dst:=some 3) H);exact nF;intro b3));clear H;intro wn H;simp only[Act.put,yA,yB,yC,yD,yE,yF])|((with_reducible apply wp_region_hq (id:=1) H);kernel_rfl;kernel_rfl;(iterate 4 (all_goals((with_reducible refine' hq_step ?_ ?_ ?_);rotate_left;rfl;(focus(intro w1 H1;first|exact qF|exact qVF));(try simp only[yG,yH,yJ,yK]);(try simp only[Act.put,yA,yB,yC,yD,yE,yF]))));(all_goals((with_reducible refine' hq_step ?_ ?_ ?_);rotate_left;rfl;(focus(intro w1 H1;unfold QOk;go_simp;exact q_call (c1 _ H1.below)));(try simp only[yG,yH,yJ,yK]);simp only[Act.put,yA,yB,yC,yD,yE,yF]));(iterate 10 (all_goals((first|((with_reducible refine hq_gwF ?_ ?_);rfl;(with_reducible refine' hq_step ?_ ?_ ?_);rotate_left;rfl;(focus(intro w1 H1;first|exact qF|exact qVF));(try simp only[yG,yH,yJ,yK]))|((with_reducible refine' hq_step ?_ ?_ ?_);rotate_left;rfl;(focus(intro w1 H1;first|exact qF|exact qVF));(try simp only[yG,yH,yJ,yK])));(try simp only[Act.put,yA,yB,yC,yD,yE,yF]))));all_goals(refine wpQuiet_nil ?_;clear H;intro wn H)))
 clear c1
 go_loopg [5] n (fun m iv wr=>∃(i:Nat),i+m=n∧iv = .int .i64 i∧Hid (z3=(nodes.drop i).any fun n=>!z0v nd (l1,l2) n)∧Hs noRow w [Hl.blk b2 52 #[.slice A1 n4 k1,.slice A2 n2 k2,.slice A3 n3 k3,.int .i64 hf,.slice A4 n4 k4,.slice A5 n5 k5,.slice A6 n6 k6,.int .i64 now],Hl.blk b3 177 #[.int .i64 l1,.int .i64 l2,.int .i64 id,.string ow,.int .i64 need,.int .i64 long,.int .i64 prio,.int .i64 u1,.int .i64 u2,.int .i64 aft,.int .i64 born,.int .i64 st,.int .i64 start,.slice A n k]] wr)
 case atStart=>exact⟨0,by omega,rfl,HZ3,H.sel sF⟩
 case round=>
  clear H HZ3
  obtain⟨i,hi,rfl,HI,H⟩:=hrel
  by_cases hlt:i<n
  ·obtain ⟨x,hx⟩:∃x,nodes[i]? = some x:=⟨nodes[i]'(by rw[←HN.out];exact hlt),List.getElem?_eq_getElem (by rw[←HN.out];exact hlt)⟩
   have hs:=sl_at (by have:=HM.out;rw[HN.out] at this;exact this) hx
   rw[←HN.out] at hs
   obtain⟨b,off,c',cs,hv,hcs,hA⟩:=hs
   injection hv with hv1 hv2 hv3
   subst hv1 hv3
   obtain rfl:cs=encNum x:=hcs
   have h0:w.cell? ⟨b,off+i,none⟩=some (.int .i64 x):=by have h:=hA.head (u := .int .i64 x) rfl;rw[show i*tyNum.s=i from Nat.mul_one i] at h;exact h
   have hx5:=HQ3.out x (List.mem_of_getElem? hx)
   have hstep:=HI.out
   obtain⟨hltn,hxe⟩:=List.getElem?_eq_some_iff.1 hx
   rw[List.drop_eq_getElem_cons hltn,hxe,List.any_cons] at hstep
   unfold z0v at hstep
   rw[clearL_mem,decide_eq_true hx5.1,Bool.true_and] at hstep
   obtain⟨x,rfl⟩:∃m:Nat,x=(m:Int):=⟨x.toNat,by omega⟩
   rw[Int.toNat_natCast] at hstep
   have hlt1:(i:Int)<n:=by omega
   clear hx hv2 HI hA hltn hxe
   by_cases hg:x<n4
   ·have hg1:(x:Int)<n4:=by omega
    have hg2:decide ((n4:Int)≤(x:Int))=false:=decide_eq_false (by omega)
    have hg3:¬n4≤x:=by omega
    have hg4:¬(n4:Int)≤x:=by omega
    have hg5:decide (n4≤x)=false:=decide_eq_false (by omega)
    obtain⟨u,hu⟩:∃u,nd[x]? = some u:=⟨nd[x]'(by rw[←HN5.out];exact hg),List.getElem?_eq_getElem (by rw[←HN5.out];exact hg)⟩
    have hs2':=sl_at (by have:=HG.out;rw[HN5.out] at this;exact this) hu
    rw[←HN5.out] at hs2'
    obtain⟨bb,boff,bc,bcs,hbv,hbcs,hbA⟩:=hs2'
    injection hbv with hbv1 hbv2 hbv3
    subst hbv1 hbv3
    obtain⟨uv,huv⟩:∃uv,bcs = [uv]:=by obtain⟨uv,_,rfl,_⟩:=hbcs;exact⟨uv,rfl⟩
    subst huv
    have h7:w.cell? ⟨bb,boff+x,none⟩=some uv:=by have h:=hbA.head (u:=uv) rfl;rw[show x*Ty.s _=x from Nat.mul_one x] at h;exact h
    have c5:=fun w1 hb=>cleared_s uv u (l1,l2) w1 (Ty.below _ hbcs hb)
    unfold clearB at hstep
    rw[hu] at hstep
    simp only at hstep c5
    generalize hasL u (l1,l2)=q at *
    clear hu hbv2 hbA hbcs
    cases q
    ·have HI2:Hid (z3=true):=Lib.hid (by rw[hstep];simp)
     have HZ9:Hid (z=false):=Lib.hid (by rw[HZ.out,HI2.out];rfl)
     clear hstep c3 q2' HI2
     go_wp2_with (first|((((with_reducible apply st_load1 H);decide +kernel;rfl;exact cF));clear H;intro wn H;(try simp only[splice,yG,yH,yI,yJ,yK,yL,yM,yN,yO,yP,yQ,Nat.reduceAdd,yA,yB,yC] at H);simp only[Act.put,yA,yB,yC,yD,yE,yF])|((with_reducible apply wp_region_hq (id:=6) H);kernel_rfl;kernel_rfl;(iterate 22 (all_goals((first|((with_reducible refine hq_gwF ?_ ?_);rfl;(with_reducible refine' hq_step ?_ ?_ ?_);rotate_left;rfl;(focus(intro w1 H1;first|exact qF|exact qVF));(try simp only[yG,yH,yJ,yK]))|((with_reducible refine' hq_step ?_ ?_ ?_);rotate_left;rfl;(focus(intro w1 H1;first|exact qF|exact qVF));(try simp only[yG,yH,yJ,yK])));(try simp only[Act.put,yA,yB,yC,yD,yE,yF]))));all_goals(((with_reducible refine hq_gwF ?_ ?_);rfl;((with_reducible refine' hq_step ?_ ?_ ?_);rotate_left;rfl;(focus(intro w1 H1;unfold QOk;go_simp;exact q_call (c5 _ H1.below)));(try simp only[yG,yH,yJ,yK]);simp only[Act.put,yA,yB,yC,yD,yE,yF])));(iterate 2 (all_goals((first|((with_reducible refine hq_gwF ?_ ?_);rfl;(with_reducible refine' hq_step ?_ ?_ ?_);rotate_left;rfl;(focus(intro w1 H1;exact qVF));(try simp only[yG,yH,yJ,yK]))|((with_reducible refine' hq_step ?_ ?_ ?_);rotate_left;rfl;(focus(intro w1 H1;exact qVF));(try simp only[yG,yH,yJ,yK])));(try simp only[Act.put,yA,yB,yC,yD,yE,yF]))));all_goals(refine wpQuiet_nil ?_;clear H;intro wn H)))
     go_ret
     exact⟨by rw[HZ9.out];rfl,H.below⟩
    ·have HI2:Hid (z3=(nodes.drop (i+1)).any fun n=>!z0v nd (l1,l2) n):=Lib.hid (by rw[hstep];simp;rfl)
     clear hstep
     go_wp2_with (first|((((with_reducible apply st_load1 H);decide +kernel;rfl;exact cF));clear H;intro wn H;(try simp only[splice,yG,yH,yI,yJ,yK,yL,yM,yN,yO,yP,yQ,Nat.reduceAdd,yA,yB,yC] at H);simp only[Act.put,yA,yB,yC,yD,yE,yF])|((with_reducible apply wp_region_hq (id:=6) H);kernel_rfl;kernel_rfl;(iterate 22 (all_goals((first|((with_reducible refine hq_gwF ?_ ?_);rfl;(with_reducible refine' hq_step ?_ ?_ ?_);rotate_left;rfl;(focus(intro w1 H1;first|exact qF|exact qVF));(try simp only[yG,yH,yJ,yK]))|((with_reducible refine' hq_step ?_ ?_ ?_);rotate_left;rfl;(focus(intro w1 H1;first|exact qF|exact qVF));(try simp only[yG,yH,yJ,yK])));(try simp only[Act.put,yA,yB,yC,yD,yE,yF]))));all_goals(((with_reducible refine hq_gwF ?_ ?_);rfl;((with_reducible refine' hq_step ?_ ?_ ?_);rotate_left;rfl;(focus(intro w1 H1;unfold QOk;go_simp;exact q_call (c5 _ H1.below)));(try simp only[yG,yH,yJ,yK]);simp only[Act.put,yA,yB,yC,yD,yE,yF])));(iterate 2 (all_goals((first|((with_reducible refine hq_gwF ?_ ?_);rfl;(with_reducible refine' hq_step ?_ ?_ ?_);rotate_left;rfl;(focus(intro w1 H1;exact qVF));(try simp only[yG,yH,yJ,yK]))|((with_reducible refine' hq_step ?_ ?_ ?_);rotate_left;rfl;(focus(intro w1 H1;exact qVF));(try simp only[yG,yH,yJ,yK])));(try simp only[Act.put,yA,yB,yC,yD,yE,yF]))));all_goals(refine wpQuiet_nil ?_;clear H;intro wn H)))
     go_roundg (n-(i+1))
     case measure=>omega
     case rel=>exact⟨i+1,by omega,by go_num,HI2,H.sel sF⟩
   ·have hg2:decide ((n4:Int)≤(x:Int))=true:=decide_eq_true (by omega)
    have hg3:n4≤x:=by omega
    have hg4:(n4:Int)≤x:=by omega
    have hg5:decide (n4≤x)=true:=decide_eq_true (by omega)
    have hu:nd[x]? = none:=List.getElem?_eq_none (by rw[←HN5.out];omega)
    unfold clearB at hstep
    rw[hu] at hstep
    have HI2:Hid (z3=true):=Lib.hid (by rw[hstep];simp)
    have HZ9:Hid (z=false):=Lib.hid (by rw[HZ.out,HI2.out];rfl)
    clear hstep c3 q2' HI2
    go_upto_region 6 with (first|((first|((with_reducible refine st_gwT ?_ ?_);rfl)|((with_reducible refine st_gwF ?_ ?_);rfl)|((with_reducible refine st_gsT ?_ ?_);rfl)|((with_reducible refine st_gsF ?_ ?_);rfl));(try simp only[Act.put,yA,yB,yC,yD,yE,yF]))|((with_reducible refine' st_guard ?_ ?_ ?_);rotate_left;rfl;(all_goals(intro hgd;cases hgd));(try simp only[Act.put,yA,yB,yC,yD,yE,yF]))|((with_reducible apply st_want);rfl)|((with_reducible refine st_skip ?_ ?_);rfl;simp only[Act.put,yA,yB,yC,yD,yE,yF])|((first|((with_reducible apply st_load1 H);decide +kernel;rfl;exact cF)|((with_reducible apply st_loads H);decide +kernel;rfl;exact iF;exact zF;rfl));clear H;intro wn H;(try simp only[splice,yG,yH,yI,yJ,yK,yL,yM,yN,yO,yP,yQ,Nat.reduceAdd,yA,yB,yC] at H);simp only[Act.put,yA,yB,yC,yD,yE,yF])|((first|((with_reducible apply st_box (dst:=some 2) H);exact nF;intro b2)|((with_reducible apply st_box (dst:=some 3) H);exact nF;intro b3)|((with_reducible apply st_strsum H);rfl;rfl;exact szF;kernel_rfl)|((with_reducible apply st_loadat H);decide +kernel;rfl;exact aF;exact zF;rfl));clear H;intro wn H;simp only[Act.put,yA,yB,yC,yD,yE,yF])|((first|(go_at_call 253;refine gvF (c1 _ H.below) H ?_)|(go_at_call 109;refine gvF (c5 _ H.below) H ?_)|(go_at_call 254;refine gvF (c3' _) H ?_));clear H;intro wn H)|((with_reducible apply wp_region_hq (id:=1) H);kernel_rfl;kernel_rfl;(iterate 4 (all_goals((with_reducible refine' hq_step ?_ ?_ ?_);rotate_left;rfl;(focus(intro w1 H1;first|first|exact qF|exact qAF|exact qRF|exact qNF|exact qVF));(try simp only[yG,yH,yJ,yK]);(try simp only[Act.put,yA,yB,yC,yD,yE,yF]))));(all_goals((with_reducible refine' hq_step ?_ ?_ ?_);rotate_left;rfl;(focus(intro w1 H1;unfold QOk;go_simp;exact q_call (c1 _ H1.below)));(try simp only[yG,yH,yJ,yK]);simp only[Act.put,yA,yB,yC,yD,yE,yF]));(iterate 10 (all_goals((first|((with_reducible refine hq_gwF ?_ ?_);rfl;(with_reducible refine' hq_step ?_ ?_ ?_);rotate_left;rfl;(focus(intro w1 H1;first|first|exact qF|exact qAF|exact qRF|exact qNF|exact qVF));(try simp only[yG,yH,yJ,yK]))|((with_reducible refine hq_gsF ?_ ?_);rfl)|((with_reducible refine hq_skip ?_ ?_);rfl)|((with_reducible refine' hq_step ?_ ?_ ?_);rotate_left;rfl;(focus(intro w1 H1;first|first|exact qF|exact qAF|exact qRF|exact qNF|exact qVF));(try simp only[yG,yH,yJ,yK])));(try simp only[Act.put,yA,yB,yC,yD,yE,yF]))));all_goals(refine wpQuiet_nil ?_;clear H;intro wn H))|((with_reducible apply wp_region_hq (id:=6) H);kernel_rfl;kernel_rfl;(iterate 22 (all_goals((first|((with_reducible refine hq_gwF ?_ ?_);rfl;(with_reducible refine' hq_step ?_ ?_ ?_);rotate_left;rfl;(focus(intro w1 H1;first|first|exact qF|exact qAF|exact qRF|exact qNF|exact qVF));(try simp only[yG,yH,yJ,yK]))|((with_reducible refine hq_gsF ?_ ?_);rfl)|((with_reducible refine hq_skip ?_ ?_);rfl)|((with_reducible refine' hq_step ?_ ?_ ?_);rotate_left;rfl;(focus(intro w1 H1;first|first|exact qF|exact qAF|exact qRF|exact qNF|exact qVF));(try simp only[yG,yH,yJ,yK])));(try simp only[Act.put,yA,yB,yC,yD,yE,yF]))));all_goals(first|((with_reducible refine hq_gwF ?_ ?_);rfl;((with_reducible refine' hq_step ?_ ?_ ?_);rotate_left;rfl;(focus(intro w1 H1;unfold QOk;go_simp;exact q_call (c5 _ H1.below)));(try simp only[yG,yH,yJ,yK]);simp only[Act.put,yA,yB,yC,yD,yE,yF]))|((with_reducible refine hq_gsF ?_ ?_);rfl;(try simp only[Act.put,yA,yB,yC,yD,yE,yF]))|((with_reducible refine hq_skip ?_ ?_);rfl;(try simp only[Act.put,yA,yB,yC,yD,yE,yF])));(iterate 2 (all_goals((first|((with_reducible refine hq_gwF ?_ ?_);rfl;(with_reducible refine' hq_step ?_ ?_ ?_);rotate_left;rfl;(focus(intro w1 H1;exact qVF));(try simp only[yG,yH,yJ,yK]))|((with_reducible refine hq_gsF ?_ ?_);rfl)|((with_reducible refine hq_skip ?_ ?_);rfl)|((with_reducible refine' hq_step ?_ ?_ ?_);rotate_left;rfl;(focus(intro w1 H1;exact qVF));(try simp only[yG,yH,yJ,yK])));(try simp only[Act.put,yA,yB,yC,yD,yE,yF]))));all_goals(refine wpQuiet_nil ?_;clear H;intro wn H))|((with_reducible apply wp_region_hq (id:=9) H);kernel_rfl;kernel_rfl;(iterate 9 (all_goals((first|((with_reducible refine hq_gwT ?_ ?_);rfl;(with_reducible refine' hq_step ?_ ?_ ?_);rotate_left;rfl;(focus(intro w1 H1;first|first|exact qF|exact qAF|exact qRF|exact qNF|exact qVF));(try simp only[yG,yH,yJ,yK]))|((with_reducible refine hq_gsT ?_ ?_);rfl)|((with_reducible refine hq_skip ?_ ?_);rfl)|((with_reducible refine' hq_step ?_ ?_ ?_);rotate_left;rfl;(focus(intro w1 H1;first|first|exact qF|exact qAF|exact qRF|exact qNF|exact qVF));(try simp only[yG,yH,yJ,yK])));(try simp only[Act.put,yA,yB,yC,yD,yE,yF]))));all_goals(first|((with_reducible refine hq_gwT ?_ ?_);rfl;((with_reducible refine' hq_step ?_ ?_ ?_);rotate_left;rfl;(focus(intro w1 H1;unfold QOk;go_simp;exact q_call (c3' _)));(try simp only[yG,yH,yJ,yK]);simp only[Act.put,yA,yB,yC,yD,yE,yF]))|((with_reducible refine hq_gsT ?_ ?_);rfl;(try simp only[Act.put,yA,yB,yC,yD,yE,yF]))|((with_reducible refine hq_skip ?_ ?_);rfl;(try simp only[Act.put,yA,yB,yC,yD,yE,yF])));(iterate 3 (all_goals((first|((with_reducible refine hq_gwT ?_ ?_);rfl;(with_reducible refine' hq_step ?_ ?_ ?_);rotate_left;rfl;(focus(intro w1 H1;exact qVF));(try simp only[yG,yH,yJ,yK]))|((with_reducible refine hq_gsT ?_ ?_);rfl)|((with_reducible refine hq_skip ?_ ?_);rfl)|((with_reducible refine' hq_step ?_ ?_ ?_);rotate_left;rfl;(focus(intro w1 H1;exact qVF));(try simp only[yG,yH,yJ,yK])));(try simp only[Act.put,yA,yB,yC,yD,yE,yF]))));all_goals(refine wpQuiet_nil ?_;clear H;intro wn H))|fail)
    apply wp_region_hq H (by kernel_rfl) (by kernel_rfl);(iterate 8 ((with_reducible refine' hq_step ?_ ?_ ?_);rotate_left;(focus rfl);(focus(intro w1 H1;exact qLF));simp only[Act.put,yA,yB,yC,yD,yE,yF];(try simp only[yG,yH,yJ,yK])));(with_reducible refine' hq_step ?_ ?_ ?_);rotate_left;(focus rfl);(focus(intro w1 H1;exact qGE));simp only[Act.put,yA,yB,yC,yD,yE,yF];(iterate 1 ((with_reducible refine' hq_step ?_ ?_ ?_);rotate_left;(focus rfl);(focus(intro w1 H1;exact qLF));simp only[Act.put,yA,yB,yC,yD,yE,yF];(try simp only[yG,yH,yJ,yK])));(iterate 14 ((first|(with_reducible refine hq_gsT ?_ ?_)|(with_reducible refine hq_gsF ?_ ?_)|(with_reducible refine hq_skip ?_ ?_));(focus rfl);(try simp only[Act.put,yA,yB,yC,yD,yE,yF])));(iterate 1 ((with_reducible refine' hq_step ?_ ?_ ?_);rotate_left;(focus rfl);(focus(intro w1 H1;exact qLF));simp only[Act.put,yA,yB,yC,yD,yE,yF];(try simp only[yG,yH,yJ,yK])));refine wpQuiet_nil ?_;clear H;intro wn H
    go_wp2_with (fail)
    go_ret
    exact⟨by rw[HZ9.out];rfl,H.below⟩
  ·obtain rfl:i=n:=by omega
   have hlt1:¬(i:Int)<i:=by omega
   have HI2:Hid (z3=false):=Lib.hid (by rw[HI.out,List.drop_of_length_le (by rw[←HN.out];exact Nat.le_refl _)];rfl)
   have HZ9:Hid (z=z9l false false false s2 t1 t2 pl (i1&&i2)):=Lib.hid (by rw[HZ.out,HI2.out])
   clear HI HI2
   cases s2
   ·clear c3 q2'
    cases pl
    ·go_wp2_with (first|((((with_reducible refine st_gsF ?_ ?_);rfl));(try simp only[Act.put,yA,yB,yC,yD,yE,yF]))|((((with_reducible apply st_load1 H);decide +kernel;rfl;exact cF));clear H;intro wn H;(try simp only[splice,yG,yH,yI,yJ,yK,yL,yM,yN,yO,yP,yQ,Nat.reduceAdd,yA,yB,yC] at H);simp only[Act.put,yA,yB,yC,yD,yE,yF]))
     go_ret
     exact⟨by rw[HZ9.out];rfl,H.below⟩
    ·cases i1
     all_goals(
      go_wp2_with (first|((first|((with_reducible refine st_gwT ?_ ?_);rfl)|((with_reducible refine st_gwF ?_ ?_);rfl)|((with_reducible refine st_gsT ?_ ?_);rfl));(try simp only[Act.put,yA,yB,yC,yD,yE,yF]))|((((with_reducible apply st_load1 H);decide +kernel;rfl;exact cF));clear H;intro wn H;(try simp only[splice,yG,yH,yI,yJ,yK,yL,yM,yN,yO,yP,yQ,Nat.reduceAdd,yA,yB,yC] at H);simp only[Act.put,yA,yB,yC,yD,yE,yF]))
      go_ret
      exact⟨by rw[HZ9.out];rfl,H.below⟩)
   ·have c3':=c3 (q2' rfl)
    clear c3 q2'
    cases t1
    all_goals(
     go_wp2_with (first|((((with_reducible apply st_load1 H);decide +kernel;rfl;exact cF));clear H;intro wn H;(try simp only[splice,yG,yH,yI,yJ,yK,yL,yM,yN,yO,yP,yQ,Nat.reduceAdd,yA,yB,yC] at H);simp only[Act.put,yA,yB,yC,yD,yE,yF])|((with_reducible apply wp_region_hq (id:=9) H);kernel_rfl;kernel_rfl;(iterate 9 (all_goals((first|((with_reducible refine hq_gwT ?_ ?_);rfl;(with_reducible refine' hq_step ?_ ?_ ?_);rotate_left;rfl;(focus(intro w1 H1;first|exact qF|exact qVF));(try simp only[yG,yH,yJ,yK]))|((with_reducible refine hq_gsT ?_ ?_);rfl)|((with_reducible refine' hq_step ?_ ?_ ?_);rotate_left;rfl;(focus(intro w1 H1;first|exact qF|exact qVF));(try simp only[yG,yH,yJ,yK])));(try simp only[Act.put,yA,yB,yC,yD,yE,yF]))));all_goals(first|((with_reducible refine hq_gwT ?_ ?_);rfl;((with_reducible refine' hq_step ?_ ?_ ?_);rotate_left;rfl;(focus(intro w1 H1;unfold QOk;go_simp;exact q_call (c3' _)));(try simp only[yG,yH,yJ,yK]);simp only[Act.put,yA,yB,yC,yD,yE,yF]))|((with_reducible refine hq_gsT ?_ ?_);rfl;(try simp only[Act.put,yA,yB,yC,yD,yE,yF])));(iterate 3 (all_goals((first|((with_reducible refine hq_gwT ?_ ?_);rfl;(with_reducible refine' hq_step ?_ ?_ ?_);rotate_left;rfl;(focus(intro w1 H1;exact qVF));(try simp only[yG,yH,yJ,yK]))|((with_reducible refine hq_gsT ?_ ?_);rfl)|((with_reducible refine' hq_step ?_ ?_ ?_);rotate_left;rfl;(focus(intro w1 H1;exact qVF));(try simp only[yG,yH,yJ,yK])));(try simp only[Act.put,yA,yB,yC,yD,yE,yF]))));all_goals(refine wpQuiet_nil ?_;clear H;intro wn H)))
     go_ret
     exact⟨by rw[HZ9.out];rfl,H.below⟩)
