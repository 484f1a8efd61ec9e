import Derived.Test.YtcabgibdkmgdlaaGreatVh
import Derived.Test.YtcabgibdkmgdlaaGreatJ3
import Derived.Test.YtcabgibdkmgdlaaGreatHv
import Derived.Test.YtcabgibdkmgdlaaGreatJ4
set_option linter.unusedSimpArgs false
set_option linter.unusedVariables false
set_option maxRecDepth 100000
set_option maxHeartbeats 4000000
namespace Go.Proofs.YtcabgibdkmgdlaaGreat
open Go.RowKit M
namespace M
def clearB(nd:List (List Lab))(a:Lab)(i:Nat):Bool:=match nd[i]? with
 | some l=>hasL l a
 | none=>false
def clearTo(nd:List (List Lab))(a:Lab)(k:Nat):List Int:=((List.range k).filter (clearB nd a)).map fun(i:Nat)=>(i:Int)
def clearL(nd:List (List Lab))(a:Lab):List Int:=clearTo nd a nd.length
theorem clearTo_step{nd:List (List Lab)}{a:Lab}{k:Nat}{x:List Lab}(h:nd[k]? = some x):clearTo nd a (k+1)=clearTo nd a k++if hasL x a then [(k:Int)] else []:=by
 unfold clearTo
 have e:clearB nd a k=hasL x a:=by unfold clearB;rw[h]
 rw[List.range_succ,List.filter_append,List.map_append]
 cases hb:hasL x a <;> simp[e,hb]
theorem clearTo_len(nd:List (List Lab))(a:Lab)(k:Nat):(clearTo nd a k).length≤k:=by
 unfold clearTo
 rw[List.length_map]
 exact Nat.le_trans (List.length_filter_le _ _) (by simp)
theorem clearL_mem{nd:List (List Lab)}{a:Lab}{n:Int}:(clearL nd a).any (· == n)=(decide (0≤n)&&clearB nd a n.toNat):=by
 unfold clearL clearTo
 rw[Bool.eq_iff_iff,List.any_eq_true,Bool.and_eq_true,decide_eq_true_eq]
 constructor
 ·rintro ⟨x,hx,he⟩
  obtain⟨i,hi,rfl⟩:=List.mem_map.1 hx
  obtain rfl:(i:Int)=n:=by simpa using he
  exact⟨by omega,by simpa using (List.mem_filter.1 hi).2⟩
 ·rintro ⟨h0,h1⟩
  have hlt:n.toNat<nd.length:=by
   unfold clearB at h1
   cases h:nd[n.toNat]? with
   | none=>rw[h] at h1;cases h1
   | some l=>exact(List.getElem?_eq_some_iff.1 h).1
  exact⟨n,List.mem_map.2 ⟨n.toNat,List.mem_filter.2 ⟨List.mem_range.2 hlt,h1⟩,by omega⟩,by simp⟩
def tkSt(x:Ta):Int:=x.1.2.2.2.2.2.2.2.2.2.1
def tkLive(a:Lab)(x:Ta):Bool:=eqB x.1.1 a&&isIn (tkSt x) 1 3
def liveN(a:Lab)(l:List Ta):Nat:=l.countP (tkLive a)
theorem liveN_at{a:Lab}{l:List Ta}{i:Nat}{x:Ta}(h:l[i]? = some x):liveN a (l.take (i+1))=liveN a (l.take i)+(if tkLive a x then 1 else 0):=by
 unfold liveN
 obtain⟨hlt,rfl⟩:=List.getElem?_eq_some_iff.1 h
 rw[List.take_succ_eq_append_getElem hlt,List.countP_append]
 simp[List.countP_cons]
def quotaL(a:Lab):List Qt→Int
 | []=>6
 | q::l=>if eqB q.1 a then q.2 else quotaL a l
theorem quotaL_at{a:Lab}{l:List Qt}{i:Nat}{x:Qt}(h:l[i]? = some x):quotaL a (l.drop i)=if eqB x.1 a then x.2 else quotaL a (l.drop (i+1)):=by
 obtain⟨hlt,rfl⟩:=List.getElem?_eq_some_iff.1 h
 rw[List.drop_eq_getElem_cons hlt]
 rfl
def quotaOf(c:Cfg)(a:Lab):Int:=if (clearL c.1 a).length=0 then 0 else quotaL a c.2.2.1
theorem cfg_nodes{c:Cfg}(h:cfgOk c=true):1≤c.1.length∧c.1.length≤6:=by
 unfold cfgOk clearOk at h
 simp only[Bool.and_eq_true,decide_eq_true_eq] at h
 exact h.1.1
end M
theorem clearFor_i(c:Cfg)(cs:List Value)(a:Lab)(h6:c.1.length≤6)(w:World)(hr:tyCfg.rd w cs c):Rets Tryz.prog [] 278 #[.agg cs.toArray,.agg #[.int .i64 a.1,.int .i64 a.2]] w (tOwn (Ty.sl 2 tyNum) (clearL c.1 a)):=by
 obtain⟨v1,v2,v3,rfl,h1,h2,h3⟩:=cfg_form hr
 obtain⟨nd,pr,qt,hf⟩:=c
 obtain⟨a1,a2⟩:=a
 simp only at h1 h2 h3 h6 ⊢
 obtain⟨A,c,rfl,hlc,hcm⟩:=sl_form h1
 obtain⟨B2,c2,rfl,_,_⟩:=sl_form h2
 obtain⟨B3,c3,rfl,_,_⟩:=sl_form h3
 have HR:=hY h1
 have HE:Hid (clearL nd (a1,a2)=clearTo nd (a1,a2) nd.length):=hY rfl
 obtain⟨n,hn⟩:=nm nd.length
 rw[←hn] at HR HE h6 ⊢
 have HN:=hY hn
 rw[HE.out]
 generalize pr.length=m2 at *
 generalize qt.length=m3 at *
 clear hr h1 h2 h3 hn hlc hcm HE
 have H:=Hs.start noRow w
 refine Rets.of ?_
 show Calls _ _ #[.agg #[.slice A n c,.slice B2 m2 c2,.slice B3 m3 c3,.int .i64 hf],.agg #[.int .i64 a1,.int .i64 a2]] _ _
 go_enter Tryz.func278,Tryz.ntmps278
 go_wp2_with ((first|refine zL ?_|(refine zB 2 ?_;intro b2)|(refine zB 3 ?_;intro b3)|(refine zI ?_;intro nb));clear H;intro wn H)
 have Hn:=H.putRow 2 1 (some ⟨nb,0,none⟩)
 clear H
 have H:=Hn
 clear Hn
 go_loopg [5,6,7,12] n (fun m ov _ _ kv wr=>∃(k:Nat) (v:Value) (xs:List Value) (t:Nat),k+m=n∧t≤k∧kv = .int .i64 k∧v=ov∧Hid (xs=flat encNum (clearTo nd (a1,a2) k)∧t=(clearTo nd (a1,a2) k).length)∧Hs noRow w [Hl.row 2 1 v t xs,Hl.blk b2 47 #[.slice A n c,.slice B2 m2 c2,.slice B3 m3 c3,.int .i64 hf],Hl.blk b3 123 #[.int .i64 a1,.int .i64 a2]] wr)
 case atStart=>exact⟨0,_,[],0,by omega,by omega,rfl,rfl,hY ⟨rfl,rfl⟩,H.sel sF⟩
 case round=>
  clear H
  obtain⟨k,v,xs,t,hk,ht,rfl,rfl,HX,H⟩:=hrel
  by_cases hlt:k<n
  ·have hk1:(k:Int)<n:=by omega
   obtain⟨x,b,off,cs,hx,rfl,hv2,hcs,hA⟩:=slE HR HN (by omega)
   obtain⟨u,hu⟩:∃u,cs = [u]:=by obtain⟨u,_,rfl,_⟩:=hcs;exact⟨u,rfl⟩
   subst hu
   have h0:w.cell? ⟨b,off+k,none⟩=some u:=by have h:=hA.head (u:=u) rfl;rw[show k*Ty.s _=k from Nat.mul_one k] at h;exact h
   have hC:=fun w1 hb=>contains_Lab u x (a1,a2) w1 (Ty.below _ hcs hb)
   have HS:=hY (clearTo_step (a:=(a1,a2)) hx)
   simp only at hC
   generalize hasL x (a1,a2)=q at *
   clear hx hv2 hA hcs
   cases q
   ·go_wp2_with ((first|refine zU ?_|(go_at_call 203;refine gvF (hC _ H.below) H ?_));clear H;intro wn H)
    go_roundg (n-(k+1))
    case measure=>omega
    case rel=>
     refine⟨k+1,_,xs,t,by omega,by omega,by go_num,rfl,hY ?_,H.sel sF⟩
     have h1:=HS.out
     rw[h1]
     simpa using HX.out
   ·have ht9:t≤6:=by omega
    go_wp2_with ((first|refine zU ?_|(refine zI ?_;intro nb)|(refine zX1a ?_;intro vq)|(go_at_call 203;refine gvF (hC _ H.below) H ?_));clear H;intro wn H)
    go_roundg (n-(k+1))
    case measure=>omega
    case rel=>
     refine⟨k+1,_,_,t+1,by omega,by omega,by go_num,rfl,hY ?_,H.sel sF⟩
     have h1:=HS.out
     rw[h1,HX.out.1,HX.out.2]
     exact⟨by rw[if_pos trivial,flat_append];rfl,by rw[if_pos trivial,List.length_append];rfl⟩
  ·obtain rfl:k=n:=by omega
   have hk1:=nlt k
   go_wp2_with (fail)
   go_ret
   exact ret_flat H HX.out.1 HX.out.2
theorem clear13_s(c:Cfg)(cs:List Value)(a:Lab)(w:World)(hr:tyCfg.rd w cs c):Gives Tryz.prog 253 #[.agg cs.toArray,.agg #[.int .i64 a.1,.int .i64 a.2]] w (.int .i64 (clearL c.1 a).length):=by
 obtain⟨v1,v2,v3,rfl,h1,h2,h3⟩:=cfg_form hr
 obtain⟨nd,pr,qt,hf⟩:=c
 obtain⟨a1,a2⟩:=a
 simp only at h1 h2 h3 ⊢
 obtain⟨A,c,rfl,hlc,hcm⟩:=sl_form h1
 obtain⟨B2,c2,rfl,_,_⟩:=sl_form h2
 obtain⟨B3,c3,rfl,_,_⟩:=sl_form h3
 have HR:=hY h1
 obtain⟨z,hz⟩:=nm ((clearL nd (a1,a2)).length)
 rw[←hz]
 obtain⟨n,hn⟩:=nm nd.length
 have hnl:n≤9223372036854775807:=by unfold maxLen at hcm;omega
 have HE:Hid (z=(clearTo nd (a1,a2) n).length):=hY (by rw[hz,hn];rfl)
 rw[←hn] at HR ⊢
 have HN:=hY hn
 generalize pr.length=m2 at *
 generalize qt.length=m3 at *
 clear hr h1 h2 h3 hn hlc hcm hz
 have H:=Hs.start noRow w
 unfold Gives
 show Calls _ _ #[.agg #[.slice A n c,.slice B2 m2 c2,.slice B3 m3 c3,.int .i64 hf],.agg #[.int .i64 a1,.int .i64 a2]] _ _
 go_enter Tryz.func253,Tryz.ntmps253
 go_wp2_with ((first|(refine zB 2 ?_;intro b2)|(refine zB 3 ?_;intro b3));clear H;intro wn H)
 go_loopg [5,6] n (fun m tv kv wr=>∃(k t:Nat),k+m=n∧t≤k∧kv = .int .i64 k∧tv = .int .i64 t∧Hid (t=(clearTo nd (a1,a2) k).length)∧Hs noRow w [Hl.blk b2 47 #[.slice A n c,.slice B2 m2 c2,.slice B3 m3 c3,.int .i64 hf],Hl.blk b3 123 #[.int .i64 a1,.int .i64 a2]] wr)
 case atStart=>exact⟨0,0,by omega,by omega,rfl,rfl,hY rfl,H.sel sF⟩
 case round=>
  clear H
  obtain⟨k,t,hk,ht,rfl,rfl,HX,H⟩:=hrel
  by_cases hlt:k<n
  ·have hk1:(k:Int)<n:=by omega
   obtain⟨x,b,off,cs,hx,rfl,hv2,hcs,hA⟩:=slE HR HN (by omega)
   obtain⟨u,hu⟩:∃u,cs = [u]:=by obtain⟨u,_,rfl,_⟩:=hcs;exact⟨u,rfl⟩
   subst hu
   have h0:w.cell? ⟨b,off+k,none⟩=some u:=by have h:=hA.head (u:=u) rfl;rw[show k*Ty.s _=k from Nat.mul_one k] at h;exact h
   have hC:=fun w1 hb=>cleared_s u x (a1,a2) w1 (Ty.below _ hcs hb)
   have HS:=hY (clearTo_step (a:=(a1,a2)) hx)
   simp only at hC
   generalize hasL x (a1,a2)=q at *
   clear hx hv2 hA hcs
   cases q
   ·go_wp2_with (first|(refine zL ?_;clear H;intro wn H)|(refine zHq 5 ?_;(iterate 6 (all_goals(refine zhFV ?_)));all_goals refine zHk (fun w1 H1=>hC _ H1.below) ?_;all_goals(refine zHz ?_;clear H;intro wn H)))
    go_roundg (n-(k+1))
    case measure=>omega
    case rel=>
     refine⟨k+1,t,by omega,by omega,by go_num,rfl,hY ?_,H.sel sF⟩
     rw[HS.out,HX.out]
     simp
   ·go_wp2_with (first|(refine zL ?_;clear H;intro wn H)|(refine zHq 5 ?_;(iterate 6 (all_goals(refine zhFV ?_)));all_goals refine zHk (fun w1 H1=>hC _ H1.below) ?_;all_goals(refine zHz ?_;clear H;intro wn H)))
    go_roundg (n-(k+1))
    case measure=>omega
    case rel=>
     refine⟨k+1,t+1,by omega,by omega,by go_num,by go_num,hY ?_,H.sel sF⟩
     rw[HS.out,HX.out]
     simp
  ·obtain rfl:k=n:=by omega
   have hk1:=nlt k
   have HZ2:Hid (t=z):=hY (by rw[HX.out,HE.out])
   clear HX HE
   go_wp2_with (refine zL ?_;clear H;intro wn H)
   go_ret
   exact⟨by rw[HZ2.out];rfl,H.below⟩
theorem isLive_i(l1 l2 id:Int)(ow:ByteArray)(need long prio u1 u2 aft born st start:Int)(A:Option Addr)(n k:Nat)(w:World):
  Gives Tryz.prog 285 #[.agg #[.int .i64 l1,.int .i64 l2,.int .i64 id,.string ow,.int .i64 need,.int .i64 long,.int .i64 prio,.int .i64 u1,.int .i64 u2,.int .i64 aft,.int .i64 born,.int .i64 st,.int .i64 start,.slice A n k]] w (.bool (isIn st 1 3)):=by
 have hC:=fun w=>within_i st 1 3 w
 have H:=Hs.start noRow w
 unfold Gives isIn
 generalize (decide (1≤st)&&decide (st≤3))=z at *
 go_enter Tryz.func285,Tryz.ntmps285
 go_wp2_with ((first|refine zL ?_|(refine zB 1 ?_;intro b1)|(go_at_call 71;refine gvF (hC _) H ?_));clear H;intro wn H)
 go_ret
 exact⟨rfl,H.below⟩
theorem live_s(st:Int)(w:World):Gives Tryz.prog 255 #[.int .i64 st] w (.bool (isIn st 1 3)):=by
 have e:isIn st 1 3=((st==1) || ((st==2) || (st==3))):=by
  unfold isIn
  by_cases h1:st=1
  ·subst h1;rfl
  by_cases h2:st=2
  ·subst h2;rfl
  by_cases h3:st=3
  ·subst h3;rfl
  have e1:(st==1)=false:=by simpa using h1
  have e2:(st==2)=false:=by simpa using h2
  have e3:(st==3)=false:=by simpa using h3
  rw[e1,e2,e3]
  simp
  omega
 rw[e]
 clear e
 have H:=Hs.start noRow w
 unfold Gives
 obtain⟨z1,h1⟩:=nm2 ((st==1))
 obtain⟨z2,h2⟩:=nm2 ((st==2))
 rw[h1,h2]
 cases z1 <;> cases z2
 all_goals(
  go_enter Tryz.func255,Tryz.ntmps255
  go_wp2_with ((((with_reducible refine st_gwF ?_ ?_);rfl));(try refine zp ?_))
  go_ret
  exact⟨rfl,H.below⟩)
theorem liveOf_i(v:Value)(l:List Ta)(p:Lab)(w:World)(hr:(Ty.sl 177 tyTa).rd w [v] l):
  Gives Tryz.prog 199 #[v,.agg #[.int .i64 p.1,.int .i64 p.2]] w (.int .i64 (liveN p l)):=by
 obtain⟨p1,p2⟩:=p
 simp only
 obtain⟨B,cb,rfl,hlb,hbm⟩:=sl_form hr
 unfold maxLen at *
 have HP:=hY hr
 obtain⟨n,hn⟩:=nm l.length
 have hnl:n≤9223372036854775807:=by omega
 rw[←hn] at HP ⊢
 have HN:=hY hn
 have HW:Hid (liveN (p1,p2) (l.take n)=liveN (p1,p2) l):=hY (by rw[hn,List.take_length])
 clear hr hlb hbm hn
 obtain⟨z,hz⟩:=nm (liveN (p1,p2) l)
 rw[←hz]
 have HZ:=hY hz
 clear hz
 have H:=Hs.start noRow w
 unfold Gives
 go_enter Tryz.func199,Tryz.ntmps199
 go_wp2_with (refine zB 3 ?_;clear H;intro b3 wn H)
 go_loopg [5,10] n (fun m kv iv wr=>∃(i k:Nat),i+m=n∧iv = .int .i64 i∧kv = .int .i64 k∧k≤i∧Hid (k=liveN (p1,p2) (l.take i))∧Hs noRow w [Hl.blk b3 123 #[.int .i64 p1,.int .i64 p2]] wr)
 case atStart=>exact⟨0,0,by omega,rfl,rfl,by omega,hY rfl,H.sel sF⟩
 case round=>
  clear H
  obtain⟨i,k,hi,rfl,rfl,hki,HI,H⟩:=hrel
  by_cases hlt:i<n
  ·obtain ⟨x,hx⟩:=atE HN hlt
   have hs:=sl_at (by have:=HP.out;rw[HN.out] at this;exact this) hx
   rw[←HN.out] at hs
   obtain⟨b,off,c',cs,hv,hcs,hB⟩:=hs
   injection hv with hv1 hv2 hv3
   subst hv1 hv3
   obtain⟨A,m',j',rfl,_⟩:=Ta_form hcs
   have hstep:=liveN_at (a:=(p1,p2)) hx
   rw[←HI.out] at hstep
   obtain⟨⟨⟨l1,l2⟩,id,ow,need,long,prio,⟨u1,u2⟩,aft,born,st,start⟩,nodes⟩:=x
   unfold tkLive tkSt at hstep
   simp only at hB hstep
   have hlt1:(i:Int)<n:=by omega
   have c1:=fun w1=>isLive_i l1 l2 id ow need long prio u1 u2 aft born st start A m' j' w1
   generalize isIn st 1 3=q at *
   clear hx hv2 HI hcs
   cases hp1:eqB (l1,l2) (p1,p2)
   ·have HI2:Hid (k=liveN (p1,p2) (l.take (i+1))):=hY (by rw[hstep,hp1];rfl)
    clear hstep
    go_wp2_with (first|((((with_reducible refine st_gsT ?_ ?_);rfl));(try refine zp ?_))|((first|refine zU ?_|(refine zA 7 ?_;intro b7));clear H;intro wn H))
    go_roundg (n-(i+1))
    case measure=>omega
    case rel=>exact⟨i+1,k,by omega,by go_num,rfl,by omega,HI2,H.sel sF⟩
   cases q
   ·have HI2:Hid (k=liveN (p1,p2) (l.take (i+1))):=hY (by rw[hstep,hp1];rfl)
    clear hstep
    go_wp2_with (first|((((with_reducible refine st_gwT ?_ ?_);rfl));(try refine zp ?_))|((first|refine zU ?_|(refine zA 7 ?_;intro b7)|(go_at_call 285;refine gvF (c1 _) H ?_));clear H;intro wn H))
    go_roundg (n-(i+1))
    case measure=>omega
    case rel=>exact⟨i+1,k,by omega,by go_num,rfl,by omega,HI2,H.sel sF⟩
   ·have HI2:Hid (k+1=liveN (p1,p2) (l.take (i+1))):=hY (by rw[hstep,hp1];rfl)
    clear hstep
    go_wp2_with (first|((((with_reducible refine st_gwT ?_ ?_);rfl));(try refine zp ?_))|((first|refine zU ?_|(refine zA 7 ?_;intro b7)|(go_at_call 285;refine gvF (c1 _) H ?_));clear H;intro wn H))
    go_roundg (n-(i+1))
    case measure=>omega
    case rel=>exact⟨i+1,k+1,by omega,by go_num,by go_num,by omega,HI2,H.sel sF⟩
  ·obtain rfl:i=n:=by omega
   have hlt1:=nlt i
   have HI2:Hid (k=z):=hY (by rw[HI.out,HW.out,HZ.out])
   clear HI HZ
   go_wp2_with (fail)
   go_ret
   exact⟨by rw[HI2.out];rfl,H.below⟩
theorem liveOf_s(v:Value)(l:List Ta)(p:Lab)(hs:∀(i:Nat) (x:Ta),l[i]? = some x→x.1.2.2.1.size≤maxLen)(hok:tasksOkS l=true)(w:World)(hr:(Ty.sl 177 tyTa).rd w [v] l):
  Gives Tryz.prog 177 #[v,.agg #[.int .i64 p.1,.int .i64 p.2]] w (.int .i64 (liveN p l)):=by
 have c0:=fun w1 hb=>tasksRight_s v l hs w1 (Ty.below _ hr hb)
 rw[hok] at c0
 clear hs hok
 obtain⟨p1,p2⟩:=p
 simp only
 obtain⟨B,cb,rfl,hlb,hbm⟩:=sl_form hr
 unfold maxLen at *
 have HP:=hY hr
 obtain⟨n,hn⟩:=nm l.length
 have hnl:n≤9223372036854775807:=by omega
 rw[←hn] at HP c0 ⊢
 have HN:=hY hn
 have HW:Hid (liveN (p1,p2) (l.take n)=liveN (p1,p2) l):=hY (by rw[hn,List.take_length])
 clear hr hlb hbm hn
 obtain⟨z,hz⟩:=nm (liveN (p1,p2) l)
 rw[←hz]
 have HZ:=hY hz
 clear hz
 have H:=Hs.start noRow w
 unfold Gives
 go_enter Tryz.func177,Tryz.ntmps177
 go_wp2_with ((first|(refine zB 3 ?_;intro b3)|(go_at_call 174;refine gvF (c0 _ H.below) H ?_));clear H;intro wn H)
 clear c0
 go_loopg [5,6] n (fun m kv iv wr=>∃(i k:Nat),i+m=n∧iv = .int .i64 i∧kv = .int .i64 k∧k≤i∧Hid (k=liveN (p1,p2) (l.take i))∧Hs noRow w [Hl.blk b3 123 #[.int .i64 p1,.int .i64 p2]] wr)
 case atStart=>exact⟨0,0,by omega,rfl,rfl,by omega,hY rfl,H.sel sF⟩
 case round=>
  clear H
  obtain⟨i,k,hi,rfl,rfl,hki,HI,H⟩:=hrel
  by_cases hlt:i<n
  ·obtain ⟨x,hx⟩:=atE HN hlt
   have hs:=sl_at (by have:=HP.out;rw[HN.out] at this;exact this) hx
   rw[←HN.out] at hs
   obtain⟨b,off,c',cs,hv,hcs,hB⟩:=hs
   injection hv with hv1 hv2 hv3
   subst hv1 hv3
   obtain⟨A,m',j',rfl,_⟩:=Ta_form hcs
   have hstep:=liveN_at (a:=(p1,p2)) hx
   rw[←HI.out] at hstep
   obtain⟨⟨⟨l1,l2⟩,id,ow,need,long,prio,⟨u1,u2⟩,aft,born,st,start⟩,nodes⟩:=x
   unfold tkLive tkSt at hstep
   simp only at hB hstep
   have hlt1:(i:Int)<n:=by omega
   have hB1:At w b (off+i*14) [.int .i64 l1,.int .i64 l2]:=At.pre hB
   have hB2:w.cell? ⟨b,off+i*14+2+1+1+1+1+1+2+1+1,none⟩=some (.int .i64 st):=hB 11 _ rfl
   have c1:=fun w1=>live_s st w1
   generalize isIn st 1 3=q at *
   clear hx hv2 HI hcs hB
   cases hp1:eqB (l1,l2) (p1,p2)
   ·have HI2:Hid (k=liveN (p1,p2) (l.take (i+1))):=hY (by rw[hstep,hp1];rfl)
    clear hstep
    go_wp2_with (refine zHq 7 ?_;(iterate 15 (all_goals((first|refine zhST ?_|refine zhFAEV ?_))));all_goals(refine zHz ?_;clear H;intro wn H))
    go_roundg (n-(i+1))
    case measure=>omega
    case rel=>exact⟨i+1,k,by omega,by go_num,rfl,by omega,HI2,H.sel sF⟩
   cases q
   ·have HI2:Hid (k=liveN (p1,p2) (l.take (i+1))):=hY (by rw[hstep,hp1];rfl)
    clear hstep
    go_wp2_with (refine zHq 7 ?_;(iterate 13 (all_goals((first|(refine zhGT ?_;refine zhFV ?_)|refine zhFAEV ?_))));all_goals(refine zhGT ?_;refine zHk (fun w1 H1=>c1 _) ?_);all_goals refine zhV ?_;all_goals(refine zHz ?_;clear H;intro wn H))
    go_roundg (n-(i+1))
    case measure=>omega
    case rel=>exact⟨i+1,k,by omega,by go_num,rfl,by omega,HI2,H.sel sF⟩
   ·have HI2:Hid (k+1=liveN (p1,p2) (l.take (i+1))):=hY (by rw[hstep,hp1];rfl)
    clear hstep
    go_wp2_with (refine zHq 7 ?_;(iterate 13 (all_goals((first|(refine zhGT ?_;refine zhFV ?_)|refine zhFAEV ?_))));all_goals(refine zhGT ?_;refine zHk (fun w1 H1=>c1 _) ?_);all_goals refine zhV ?_;all_goals(refine zHz ?_;clear H;intro wn H))
    go_roundg (n-(i+1))
    case measure=>omega
    case rel=>exact⟨i+1,k+1,by omega,by go_num,by go_num,by omega,HI2,H.sel sF⟩
  ·obtain rfl:i=n:=by omega
   have hlt1:=nlt i
   have HI2:Hid (k=z):=hY (by rw[HI.out,HW.out,HZ.out])
   clear HI HZ
   go_wp2_with (fail)
   go_ret
   exact⟨by rw[HI2.out];rfl,H.below⟩
end Go.Proofs.YtcabgibdkmgdlaaGreat
namespace Go.Proofs.YtcabgibdkmgdlaaGreat
open Go.RowKit M
namespace M
def encSI(a:ByteArray × Int):List Value:=[.string a.1,.int .i64 a.2]
def tySI:Ty (ByteArray × Int):=Ty.flat 2 encSI (fun _=>rfl) (fun a u hu=>by simp only[encSI,List.mem_cons,List.not_mem_nil,or_false] at hu;rcases hu with rfl|rfl <;> rfl)
end M
section
variable {R:Nat→Prop} {w0 w:World}
theorem Hs.joinL:∀(Ns:List (List Hl)) {L:List Hl},Hs R w0 (Ns.map Hl.all++L) w→Hs R w0 (Hl.all Ns.flatten::L) w
 | [],_,H=>H.allNil
 | N::Ns,L,H=>by
  have h1:Hs R w0 (Ns.map Hl.all++(L ++ [Hl.all N])) w:=H.reperm (by
   rw[←List.append_assoc]
   exact(List.perm_append_singleton _ _).symm)
  have h2:=Hs.joinL Ns h1
  have h3:Hs R w0 (Hl.all N::Hl.all Ns.flatten::L) w:=h2.reperm (by
   refine(List.Perm.cons _ (List.perm_append_singleton _ _)).trans (List.Perm.swap ..))
  exact h3.join
theorem Hs.partL:∀(Ns:List (List Hl)) {L:List Hl},Hs R w0 (Hl.all Ns.flatten::L) w→Hs R w0 (Ns.map Hl.all++L) w
 | [],_,H=>H.off1
 | N::Ns,L,H=>by
  have h1:Hs R w0 (Hl.all N::Hl.all Ns.flatten::L) w:=H.part
  have h2:Hs R w0 (Hl.all Ns.flatten::(L ++ [Hl.all N])) w:=h1.reperm (by
   refine(List.Perm.swap ..).trans (List.Perm.cons _ (List.perm_append_singleton _ _).symm))
  have h3:=Hs.partL Ns h2
  refine h3.reperm ?_
  rw[←List.append_assoc]
  exact List.perm_append_singleton _ _
end
namespace M
def mkFix{α:Type}:Mark α:=⟨fun _=>0,fun _ a=>a⟩
end M
theorem cfg_lit{w:World}{cs:List Value}{a:Cfg}(h:tyCfg.rd w cs a):∃A1 n1 k1 A2 n2 k2 A3 n3 k3,cs = [.slice A1 n1 k1,.slice A2 n2 k2,.slice A3 n3 k3,.int .i64 a.2.2.2]:=by
 obtain⟨v1,v2,v3,rfl,h1,h2,h3⟩:=cfg_form h
 obtain⟨A1,k1,rfl,_,_⟩:=sl_form h1
 obtain⟨A2,k2,rfl,_,_⟩:=sl_form h2
 obtain⟨A3,k3,rfl,_,_⟩:=sl_form h3
 exact⟨A1,_,k1,A2,_,k2,A3,_,k3,rfl⟩
namespace M
abbrev Yd:=Cfg × List Nd × List Ta × List Us × Int
def szYd(a:Yd):Nat:=szCfg a.1+(szNdl a.2.1+(szTal a.2.2.1+(szUsl a.2.2.2.1)))
def okYd(a:Yd):Prop:=(∀x ∈ a.2.2.1,okTa x)∧(∀x ∈ a.2.2.2.1,okUs x)
def mkYd:Mark Yd:=mkCfg.pair (mkNd.list.pair (mkTa.list.pair (mkUs.list.pair (mkFix))))
abbrev YO:=Yd × (Int × Int)
abbrev St:=Yd × List Bo
def szSt(a:St):Nat:=szYd a.1+(szMl a.2)
def okSt(a:St):Prop:=(okYd a.1)
def mkSt:Mark St:=mkYd.pair (mkBo.list)
abbrev SO:=St × (Int × Int)
end M
def tyYd:Ty Yd:=Ty.pair tyCfg (Ty.pair (Ty.sl 172 tyNd) (Ty.pair (Ty.sl 177 tyTa) (Ty.pair (Ty.sl 180 tyUs) (tyNum))))
theorem Yd_form{w:World}{cs:List Value}{a:Yd}(h:tyYd.rd w cs a):∃A1 n1 k1 A2 n2 k2 A3 n3 k3 A4 n4 k4 A5 n5 k5 A6 n6 k6,cs = [.slice A1 n1 k1,.slice A2 n2 k2,.slice A3 n3 k3,.int .i64 a.1.2.2.2,.slice A4 n4 k4,.slice A5 n5 k5,.slice A6 n6 k6,.int .i64 a.2.2.2.2]∧tyCfg.rd w [.slice A1 n1 k1,.slice A2 n2 k2,.slice A3 n3 k3,.int .i64 a.1.2.2.2] a.1∧(Ty.sl 172 tyNd).rd w [.slice A4 n4 k4] a.2.1∧(Ty.sl 177 tyTa).rd w [.slice A5 n5 k5] a.2.2.1∧(Ty.sl 180 tyUs).rd w [.slice A6 n6 k6] a.2.2.2.1:=by
 obtain⟨x1,y1,rfl,h1,x2,y2,rfl,h2,x3,y3,rfl,h3,x4,y4,rfl,h4,h5⟩:=h
 obtain⟨A1,n1,k1,A2,n2,k2,A3,n3,k3,rfl⟩:=cfg_lit h1
 obtain⟨v2,hv2⟩:∃v,x2 = [v]:=by obtain⟨v,_,rfl,_⟩:=h2;exact⟨v,rfl⟩
 subst hv2
 obtain⟨A4,k4,rfl,_,_⟩:=sl_form h2
 obtain⟨v3,hv3⟩:∃v,x3 = [v]:=by obtain⟨v,_,rfl,_⟩:=h3;exact⟨v,rfl⟩
 subst hv3
 obtain⟨A5,k5,rfl,_,_⟩:=sl_form h3
 obtain⟨v4,hv4⟩:∃v,x4 = [v]:=by obtain⟨v,_,rfl,_⟩:=h4;exact⟨v,rfl⟩
 subst hv4
 obtain⟨A6,k6,rfl,_,_⟩:=sl_form h4
 obtain rfl:y4=encNum a.2.2.2.2:=h5
 exact⟨A1,n1,k1,A2,n2,k2,A3,n3,k3,A4,_,k4,A5,_,k5,A6,_,k6,rfl,h1,h2,h3,h4⟩
theorem Yd_lit{w:World}{cs:List Value}{a:Yd}(h:tyYd.rd w cs a):∃A1 n1 k1 A2 n2 k2 A3 n3 k3 A4 n4 k4 A5 n5 k5 A6 n6 k6,cs = [.slice A1 n1 k1,.slice A2 n2 k2,.slice A3 n3 k3,.int .i64 a.1.2.2.2,.slice A4 n4 k4,.slice A5 n5 k5,.slice A6 n6 k6,.int .i64 a.2.2.2.2]:=by
 obtain⟨A1,n1,k1,A2,n2,k2,A3,n3,k3,A4,n4,k4,A5,n5,k5,A6,n6,k6,e,_⟩:=Yd_form h
 exact⟨A1,n1,k1,A2,n2,k2,A3,n3,k3,A4,n4,k4,A5,n5,k5,A6,n6,k6,e⟩
theorem toYard_l(a:Yd)(cs:List Value)(hl:szYd a≤1048576)(w:World)(hr:tyYd.rd w cs a):Rets Tryz.prog [] 64 #[.agg cs.toArray] w (tAgg tyYd a):=by
 obtain⟨A1,n1,k1,A2,n2,k2,A3,n3,k3,A4,n4,k4,A5,n5,k5,A6,n6,k6,rfl,h1,h2,h3,h4⟩:=Yd_form hr
 clear hr
 obtain⟨a1,a2,a3,a4,a5⟩:=a
 simp only at h1 h2 h3 h4
 have hl0:szCfg a1+(szNdl a2+(szTal a3+(szUsl a4)))≤1048576:=hl
 have hl1:szCfg a1≤1048576:=by omega
 have hl2:szNdl a2≤1048576:=by omega
 have hl3:szTal a3≤1048576:=by omega
 have hl4:szUsl a4≤1048576:=by omega
 show Rets Tryz.prog [] _ #[.agg #[.slice A1 n1 k1,.slice A2 n2 k2,.slice A3 n3 k3,.int .i64 a1.2.2.2,.slice A4 n4 k4,.slice A5 n5 k5,.slice A6 n6 k6,.int .i64 a5]] w _
 have c1:=fun w1 hb=>toConfig_l a1 _ hl1 w1 (Ty.below _ h1 hb)
 have c2:=fun w1 hb=>toNodeS_l _ a2 hl2 w1 (Ty.below _ h2 hb)
 have c3:=fun w1 hb=>toTaskS_l _ a3 hl3 w1 (Ty.below _ h3 hb)
 have c4:=fun w1 hb=>toUseS_l _ a4 (by unfold szUsl at hl4;omega) w1 (Ty.below _ h4 hb)
 clear hl hl0 hl1 hl2 hl3 hl4 h1 h2 h3 h4
 have H:=Hs.start noRow w
 refine Rets.of ?_
 go_enter Tryz.func64,Tryz.ntmps64
 go_wp2_with ((first|refine zM ?_|(refine zB 1 ?_;intro b1)|(refine zA 2 ?_;intro b2)|(refine zA 3 ?_;intro b3));clear H;intro wn H)
 refine(Rets.use (c1 _ H.below)).mono ?_;rintro e wn ⟨_,_,rfl,⟨d1,N1,rfl,hA1,rfl⟩,hkk⟩;refine zK ?_;clear H hkk;intro H
 obtain⟨B1_1,m1_1,j1_1,B1_2,m1_2,j1_2,B1_3,m1_3,j1_3,rfl⟩:=cfg_lit (own_rd H .here hA1)
 have HA1:=hY hA1
 clear hA1 c1
 go_wp2_with (refine zU ?_;clear H;intro wn H)
 refine(Rets.use (c2 _ H.below)).mono ?_;rintro e wn ⟨_,_,rfl,⟨N2,hN2,rfl,o2⟩,hkk⟩;refine zK ?_;clear H hkk;intro H
 have hA2:=own_single hN2 o2 rfl
 clear hN2 o2
 obtain⟨B2,j2,rfl,_,_⟩:=sl_form (own_rd H .here hA2)
 have HA2:=hY hA2
 clear hA2 c2
 go_wp2_with (refine zU ?_;clear H;intro wn H)
 refine(Rets.use (c3 _ H.below)).mono ?_;rintro e wn ⟨_,_,rfl,⟨N3,hN3,rfl,o3⟩,hkk⟩;refine zK ?_;clear H hkk;intro H
 have hA3:=own_single hN3 o3 rfl
 clear hN3 o3
 obtain⟨B3,j3,rfl,_,_⟩:=sl_form (own_rd H .here hA3)
 have HA3:=hY hA3
 clear hA3 c3
 go_wp2_with (refine zU ?_;clear H;intro wn H)
 refine(Rets.use (c4 _ H.below)).mono ?_;rintro e wn ⟨_,_,rfl,⟨N4,hN4,rfl,o4⟩,hkk⟩;refine zK ?_;clear H hkk;intro H
 have hA4:=own_single hN4 o4 rfl
 clear hN4 o4
 obtain⟨B4,j4,rfl,_,_⟩:=sl_form (own_rd H .here hA4)
 have HA4:=hY hA4
 clear hA4 c4
 go_wp2_with (refine zU ?_;clear H;intro wn H)
 refine bpF ?_
 have H2:Hs noRow w ([N1,N2,N3,N4].map Hl.all ++ []) _:=H.sel (M:=[Hl.all N1,Hl.all N2,Hl.all N3,Hl.all N4]) sF
 have H3:=Hs.joinL _ H2
 exact Hs.retd H3 (List.Sublist.refl _) ⟨[_,_,_,_,_,_,_,_],_,rfl,⟨[_,_,_,_],[_,_,_,_],_,_,rfl,rfl,HA1.out,[_],[_,_,_],_,_,rfl,rfl,HA2.out,[_],[_,_],_,_,rfl,rfl,HA3.out,[_],[_],_,_,rfl,rfl,HA4.out,⟨rfl,rfl⟩⟩,rfl⟩
theorem eqYard_l(a:Yd)(cs ds:List Value)(w:World)(ha:tyYd.rd w cs a)(hb:tyYd.rd w ds a):Gives Tryz.prog 87 #[.agg cs.toArray,.agg ds.toArray] w (.bool true):=by
 obtain⟨A1,n1,k1,A2,n2,k2,A3,n3,k3,A4,n4,k4,A5,n5,k5,A6,n6,k6,rfl,h1,h2,h3,h4⟩:=Yd_form ha
 obtain⟨eA1,en1,ek1,eA2,en2,ek2,eA3,en3,ek3,eA4,en4,ek4,eA5,en5,ek5,eA6,en6,ek6,rfl,g1,g2,g3,g4⟩:=Yd_form hb
 clear ha hb
 obtain⟨a1,a2,a3,a4,a5⟩:=a
 simp only at h1 h2 h3 h4 g1 g2 g3 g4
 show Gives Tryz.prog _ #[.agg #[.slice A1 n1 k1,.slice A2 n2 k2,.slice A3 n3 k3,.int .i64 a1.2.2.2,.slice A4 n4 k4,.slice A5 n5 k5,.slice A6 n6 k6,.int .i64 a5],.agg #[.slice eA1 en1 ek1,.slice eA2 en2 ek2,.slice eA3 en3 ek3,.int .i64 a1.2.2.2,.slice eA4 en4 ek4,.slice eA5 en5 ek5,.slice eA6 en6 ek6,.int .i64 a5]] w _
 have c1:=fun w1 hb=>eqConfig_l a1 _ _ w1 (Ty.below _ h1 hb) (Ty.below _ g1 hb)
 have c2:=fun w1 hb=>eqNodeS_l _ _ a2 w1 (Ty.below _ h2 hb) (Ty.below _ g2 hb)
 have c3:=fun w1 hb=>eqTaskS_l _ _ a3 w1 (Ty.below _ h3 hb) (Ty.below _ g3 hb)
 have c4:=fun w1 hb=>eqUseS_l _ _ a4 w1 (Ty.below _ h4 hb) (Ty.below _ g4 hb)
 clear h1 h2 h3 h4 g1 g2 g3 g4
 have H:=Hs.start noRow w
 unfold Gives
 go_enter Tryz.func87,Tryz.ntmps87
 go_wp2_with ((first|refine zU ?_|(refine zB 2 ?_;intro b2)|(refine zB 3 ?_;intro b3)|(go_at_call 149;refine gvF (c1 _ H.below) H ?_)|(go_at_call 150;refine gvF (c2 _ H.below) H ?_)|(go_at_call 151;refine gvF (c3 _ H.below) H ?_)|(go_at_call 152;refine gvF (c4 _ H.below) H ?_));clear H;intro wn H)
 go_ret
 exact⟨rfl,H.below⟩
theorem szYard_l(a:Yd)(cs:List Value)(k:Int)(hk:0≤k∧k≤1048576)(ho:okYd a)(w:World)(ha:tyYd.rd w cs a):Gives Tryz.prog 43 #[.agg cs.toArray,.int .i64 k] w (.int .i64 (szC k (szYd a))):=by
 obtain⟨A1,n1,k1,A2,n2,k2,A3,n3,k3,A4,n4,k4,A5,n5,k5,A6,n6,k6,rfl,h1,h2,h3,h4⟩:=Yd_form ha
 clear ha
 unfold okYd at ho
 obtain⟨a1,a2,a3,a4,a5⟩:=a
 simp only at h1 h2 h3 h4 ho
 show Gives Tryz.prog _ #[.agg #[.slice A1 n1 k1,.slice A2 n2 k2,.slice A3 n3 k3,.int .i64 a1.2.2.2,.slice A4 n4 k4,.slice A5 n5 k5,.slice A6 n6 k6,.int .i64 a5],_] w (.int .i64 (szC k (szCfg a1+(szNdl a2+(szTal a3+(szUsl a4))))))
 have d1:=fun k hk w1 hb=>szConfig_l a1 _ k hk w1 (Ty.below _ h1 hb)
 have d2:=fun k hk w1 hb=>szNodeS_l _ a2 k hk w1 (Ty.below _ h2 hb)
 have d3:=fun k hk w1 hb=>szTaskS_l _ a3 k hk (ho.1) w1 (Ty.below _ h3 hb)
 have d4:=fun k hk w1 hb=>szUseS_l _ a4 k hk (ho.2) w1 (Ty.below _ h4 hb)
 clear h1 h2 h3 h4 ho
 generalize szCfg a1=m1 at *
 generalize szNdl a2=m2 at *
 generalize szTal a3=m3 at *
 generalize szUsl a4=m4 at *
 have H:=Hs.start noRow w
 unfold Gives
 have c1:=d1 (k) ⟨by omega,by omega⟩
 clear d1
 by_cases hn1:k-m1<0
 ·rw[szC_neg hn1] at c1
  rw[szC_neg (by omega)]
  go_enter Tryz.func43,Tryz.ntmps43
  go_wp2_with ((first|refine zM ?_|(refine zB 2 ?_;intro b2)|(go_at_call 95;refine gvF (c1 _ H.below) H ?_));clear H;intro wn H)
  go_ret
  exact⟨rfl,H.below⟩
 rw[szC_pos hn1] at c1
 have c2:=d2 (k-m1) ⟨by omega,by omega⟩
 clear d2
 by_cases hn2:k-m1-m2<0
 ·rw[szC_neg hn2] at c2
  rw[szC_neg (by omega)]
  go_enter Tryz.func43,Tryz.ntmps43
  go_wp2_with ((first|refine zU ?_|(refine zB 2 ?_;intro b2)|(go_at_call 95;refine gvF (c1 _ H.below) H ?_)|(go_at_call 96;refine gvF (c2 _ H.below) H ?_));clear H;intro wn H)
  go_ret
  exact⟨rfl,H.below⟩
 rw[szC_pos hn2] at c2
 have c3:=d3 (k-m1-m2) ⟨by omega,by omega⟩
 clear d3
 by_cases hn3:k-m1-m2-m3<0
 ·rw[szC_neg hn3] at c3
  rw[szC_neg (by omega)]
  go_enter Tryz.func43,Tryz.ntmps43
  go_wp2_with ((first|refine zU ?_|(refine zB 2 ?_;intro b2)|(go_at_call 95;refine gvF (c1 _ H.below) H ?_)|(go_at_call 96;refine gvF (c2 _ H.below) H ?_)|(go_at_call 97;refine gvF (c3 _ H.below) H ?_));clear H;intro wn H)
  go_ret
  exact⟨rfl,H.below⟩
 rw[szC_pos hn3] at c3
 have c4:=d4 (k-m1-m2-m3) ⟨by omega,by omega⟩
 clear d4
 by_cases hn4:k-m1-m2-m3-m4<0
 ·rw[szC_neg hn4] at c4
  rw[szC_neg (by omega)]
  go_enter Tryz.func43,Tryz.ntmps43
  go_wp2_with ((first|refine zU ?_|(refine zB 2 ?_;intro b2)|(go_at_call 95;refine gvF (c1 _ H.below) H ?_)|(go_at_call 96;refine gvF (c2 _ H.below) H ?_)|(go_at_call 97;refine gvF (c3 _ H.below) H ?_)|(go_at_call 98;refine gvF (c4 _ H.below) H ?_));clear H;intro wn H)
  go_ret
  exact⟨rfl,H.below⟩
 rw[szC_pos hn4] at c4
 rw[szC_pos (by omega),show k-((m1+(m2+(m3+(m4))):Nat):Int)=k-m1-m2-m3-m4 by omega]
 go_enter Tryz.func43,Tryz.ntmps43
 go_wp2_with ((first|refine zU ?_|(refine zB 2 ?_;intro b2)|(go_at_call 95;refine gvF (c1 _ H.below) H ?_)|(go_at_call 96;refine gvF (c2 _ H.below) H ?_)|(go_at_call 97;refine gvF (c3 _ H.below) H ?_)|(go_at_call 98;refine gvF (c4 _ H.below) H ?_));clear H;intro wn H)
 go_ret
 exact⟨rfl,H.below⟩
def tySt:Ty St:=Ty.pair tyYd ((Ty.sl 128 tyBo))
theorem St_form{w:World}{cs:List Value}{a:St}(h:tySt.rd w cs a):∃A1 n1 k1 A2 n2 k2 A3 n3 k3 A4 n4 k4 A5 n5 k5 A6 n6 k6 A7 n7 k7,cs = [.slice A1 n1 k1,.slice A2 n2 k2,.slice A3 n3 k3,.int .i64 a.1.1.2.2.2,.slice A4 n4 k4,.slice A5 n5 k5,.slice A6 n6 k6,.int .i64 a.1.2.2.2.2,.slice A7 n7 k7]∧tyYd.rd w [.slice A1 n1 k1,.slice A2 n2 k2,.slice A3 n3 k3,.int .i64 a.1.1.2.2.2,.slice A4 n4 k4,.slice A5 n5 k5,.slice A6 n6 k6,.int .i64 a.1.2.2.2.2] a.1∧(Ty.sl 128 tyBo).rd w [.slice A7 n7 k7] a.2:=by
 obtain⟨x1,y1,rfl,h1,h2⟩:=h
 obtain⟨A1,n1,k1,A2,n2,k2,A3,n3,k3,A4,n4,k4,A5,n5,k5,A6,n6,k6,rfl⟩:=Yd_lit h1
 obtain⟨v2,hv2⟩:∃v,y1 = [v]:=by obtain⟨v,_,rfl,_⟩:=h2;exact⟨v,rfl⟩
 subst hv2
 obtain⟨A7,k7,rfl,_,_⟩:=sl_form h2
 exact⟨A1,n1,k1,A2,n2,k2,A3,n3,k3,A4,n4,k4,A5,n5,k5,A6,n6,k6,A7,_,k7,rfl,h1,h2⟩
theorem St_lit{w:World}{cs:List Value}{a:St}(h:tySt.rd w cs a):∃A1 n1 k1 A2 n2 k2 A3 n3 k3 A4 n4 k4 A5 n5 k5 A6 n6 k6 A7 n7 k7,cs = [.slice A1 n1 k1,.slice A2 n2 k2,.slice A3 n3 k3,.int .i64 a.1.1.2.2.2,.slice A4 n4 k4,.slice A5 n5 k5,.slice A6 n6 k6,.int .i64 a.1.2.2.2.2,.slice A7 n7 k7]:=by
 obtain⟨A1,n1,k1,A2,n2,k2,A3,n3,k3,A4,n4,k4,A5,n5,k5,A6,n6,k6,A7,n7,k7,e,_⟩:=St_form h
 exact⟨A1,n1,k1,A2,n2,k2,A3,n3,k3,A4,n4,k4,A5,n5,k5,A6,n6,k6,A7,n7,k7,e⟩
theorem toState_l(a:St)(cs:List Value)(hl:szSt a≤1048576)(w:World)(hr:tySt.rd w cs a):Rets Tryz.prog [] 26 #[.agg cs.toArray] w (tAgg tySt a):=by
 obtain⟨A1,n1,k1,A2,n2,k2,A3,n3,k3,A4,n4,k4,A5,n5,k5,A6,n6,k6,A7,n7,k7,rfl,h1,h2⟩:=St_form hr
 clear hr
 obtain⟨a1,a2⟩:=a
 simp only at h1 h2
 have hl0:szYd a1+(szMl a2)≤1048576:=hl
 have hl1:szYd a1≤1048576:=by omega
 have hl2:szMl a2≤1048576:=by omega
 show Rets Tryz.prog [] _ #[.agg #[.slice A1 n1 k1,.slice A2 n2 k2,.slice A3 n3 k3,.int .i64 a1.1.2.2.2,.slice A4 n4 k4,.slice A5 n5 k5,.slice A6 n6 k6,.int .i64 a1.2.2.2.2,.slice A7 n7 k7]] w _
 have c1:=fun w1 hb=>toYard_l a1 _ hl1 w1 (Ty.below _ h1 hb)
 have c2:=fun w1 hb=>toMail_l _ a2 hl2 w1 (Ty.below _ h2 hb)
 clear hl hl0 hl1 hl2 h1 h2
 have H:=Hs.start noRow w
 refine Rets.of ?_
 go_enter Tryz.func26,Tryz.ntmps26
 go_wp2_with ((first|refine zM ?_|(refine zB 1 ?_;intro b1)|(refine zA 2 ?_;intro b2)|(refine zA 3 ?_;intro b3));clear H;intro wn H)
 refine(Rets.use (c1 _ H.below)).mono ?_;rintro e wn ⟨_,_,rfl,⟨d1,N1,rfl,hA1,rfl⟩,hkk⟩;refine zK ?_;clear H hkk;intro H
 obtain⟨B1_1,m1_1,j1_1,B1_2,m1_2,j1_2,B1_3,m1_3,j1_3,B1_4,m1_4,j1_4,B1_5,m1_5,j1_5,B1_6,m1_6,j1_6,rfl⟩:=Yd_lit (own_rd H .here hA1)
 have HA1:=hY hA1
 clear hA1 c1
 go_wp2_with (refine zU ?_;clear H;intro wn H)
 refine(Rets.use (c2 _ H.below)).mono ?_;rintro e wn ⟨_,_,rfl,⟨v2,N2,rfl,hA2,rfl⟩,hkk⟩;refine zK ?_;clear H hkk;intro H
 obtain⟨B2,j2,rfl,_,_⟩:=sl_form (own_rd H .here hA2)
 have HA2:=hY hA2
 clear hA2 c2
 go_wp2_with (refine zU ?_;clear H;intro wn H)
 refine bpF ?_
 have H2:Hs noRow w ([N1,N2].map Hl.all ++ []) _:=H.sel (M:=[Hl.all N1,Hl.all N2]) sF
 have H3:=Hs.joinL _ H2
 rw[show [N1,N2].flatten=N1++N2 by simp] at H3
 exact Hs.retd H3 (List.Sublist.refl _) ⟨[_,_,_,_,_,_,_,_,_],_,rfl,⟨[_,_,_,_,_,_,_,_],[_],_,_,rfl,rfl,HA1.out,HA2.out⟩,rfl⟩
theorem eqState_l(a:St)(cs ds:List Value)(w:World)(ha:tySt.rd w cs a)(hb:tySt.rd w ds a):Gives Tryz.prog 38 #[.agg cs.toArray,.agg ds.toArray] w (.bool true):=by
 obtain⟨A1,n1,k1,A2,n2,k2,A3,n3,k3,A4,n4,k4,A5,n5,k5,A6,n6,k6,A7,n7,k7,rfl,h1,h2⟩:=St_form ha
 obtain⟨eA1,en1,ek1,eA2,en2,ek2,eA3,en3,ek3,eA4,en4,ek4,eA5,en5,ek5,eA6,en6,ek6,eA7,en7,ek7,rfl,g1,g2⟩:=St_form hb
 clear ha hb
 obtain⟨a1,a2⟩:=a
 simp only at h1 h2 g1 g2
 show Gives Tryz.prog _ #[.agg #[.slice A1 n1 k1,.slice A2 n2 k2,.slice A3 n3 k3,.int .i64 a1.1.2.2.2,.slice A4 n4 k4,.slice A5 n5 k5,.slice A6 n6 k6,.int .i64 a1.2.2.2.2,.slice A7 n7 k7],.agg #[.slice eA1 en1 ek1,.slice eA2 en2 ek2,.slice eA3 en3 ek3,.int .i64 a1.1.2.2.2,.slice eA4 en4 ek4,.slice eA5 en5 ek5,.slice eA6 en6 ek6,.int .i64 a1.2.2.2.2,.slice eA7 en7 ek7]] w _
 have c1:=fun w1 hb=>eqYard_l a1 _ _ w1 (Ty.below _ h1 hb) (Ty.below _ g1 hb)
 have c2:=fun w1 hb=>eqMail_l _ _ a2 w1 (Ty.below _ h2 hb) (Ty.below _ g2 hb)
 clear h1 h2 g1 g2
 have H:=Hs.start noRow w
 unfold Gives
 go_enter Tryz.func38,Tryz.ntmps38
 go_wp2_with ((first|refine zM ?_|(refine zB 2 ?_;intro b2)|(refine zB 3 ?_;intro b3)|(go_at_call 87;refine gvF (c1 _ H.below) H ?_)|(go_at_call 88;refine gvF (c2 _ H.below) H ?_));clear H;intro wn H)
 go_ret
 exact⟨rfl,H.below⟩
theorem szState_l(a:St)(cs:List Value)(k:Int)(hk:0≤k∧k≤1048576)(ho:okSt a)(w:World)(ha:tySt.rd w cs a):Gives Tryz.prog 13 #[.agg cs.toArray,.int .i64 k] w (.int .i64 (szC k (szSt a))):=by
 obtain⟨A1,n1,k1,A2,n2,k2,A3,n3,k3,A4,n4,k4,A5,n5,k5,A6,n6,k6,A7,n7,k7,rfl,h1,h2⟩:=St_form ha
 clear ha
 unfold okSt at ho
 obtain⟨a1,a2⟩:=a
 simp only at h1 h2 ho
 show Gives Tryz.prog _ #[.agg #[.slice A1 n1 k1,.slice A2 n2 k2,.slice A3 n3 k3,.int .i64 a1.1.2.2.2,.slice A4 n4 k4,.slice A5 n5 k5,.slice A6 n6 k6,.int .i64 a1.2.2.2.2,.slice A7 n7 k7],_] w (.int .i64 (szC k (szYd a1+(szMl a2))))
 have d1:=fun k hk w1 hb=>szYard_l a1 _ k hk (ho) w1 (Ty.below _ h1 hb)
 have d2:=fun k hk w1 hb=>szMail_l _ a2 k hk w1 (Ty.below _ h2 hb)
 clear h1 h2 ho
 generalize szYd a1=m1 at *
 generalize szMl a2=m2 at *
 have H:=Hs.start noRow w
 unfold Gives
 have c1:=d1 (k) ⟨by omega,by omega⟩
 clear d1
 by_cases hn1:k-m1<0
 ·rw[szC_neg hn1] at c1
  rw[szC_neg (by omega)]
  go_enter Tryz.func13,Tryz.ntmps13
  go_wp2_with ((first|refine zM ?_|(refine zB 2 ?_;intro b2)|(go_at_call 43;refine gvF (c1 _ H.below) H ?_));clear H;intro wn H)
  go_ret
  exact⟨rfl,H.below⟩
 rw[szC_pos hn1] at c1
 have c2:=d2 (k-m1) ⟨by omega,by omega⟩
 clear d2
 by_cases hn2:k-m1-m2<0
 ·rw[szC_neg hn2] at c2
  rw[szC_neg (by omega)]
  go_enter Tryz.func13,Tryz.ntmps13
  go_wp2_with ((first|refine zM ?_|(refine zB 2 ?_;intro b2)|(go_at_call 43;refine gvF (c1 _ H.below) H ?_)|(go_at_call 44;refine gvF (c2 _ H.below) H ?_));clear H;intro wn H)
  go_ret
  exact⟨rfl,H.below⟩
 rw[szC_pos hn2] at c2
 rw[szC_pos (by omega),show k-((m1+(m2):Nat):Int)=k-m1-m2 by omega]
 go_enter Tryz.func13,Tryz.ntmps13
 go_wp2_with ((first|refine zM ?_|(refine zB 2 ?_;intro b2)|(go_at_call 43;refine gvF (c1 _ H.below) H ?_)|(go_at_call 44;refine gvF (c2 _ H.below) H ?_));clear H;intro wn H)
 go_ret
 exact⟨rfl,H.below⟩
