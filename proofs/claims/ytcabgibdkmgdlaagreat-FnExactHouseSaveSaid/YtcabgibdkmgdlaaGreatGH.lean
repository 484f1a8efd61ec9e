import Derived.Test.YtcabgibdkmgdlaaGreatJ8
import Derived.Test.YtcabgibdkmgdlaaGreatVh
import Derived.Test.YtcabgibdkmgdlaaGreatG4
set_option linter.unusedSimpArgs false
set_option linter.unusedVariables false
set_option maxRecDepth 100000
set_option maxHeartbeats 8000000
namespace Go.Proofs.YtcabgibdkmgdlaaGreat
open Go.RowKit M
namespace M
theorem z3y{α:Type}{l:List α}{p:α→Bool}{i:Nat}{x:α}(h:l[i]? = some x):(l.drop i).all p=(p x&&(l.drop (i+1)).all p):=by
 obtain⟨hlt,rfl⟩:=List.getElem?_eq_some_iff.1 h
 rw[List.drop_eq_getElem_cons hlt]
 rfl
end M
theorem z2b:madeCells (Value.bool false).cells ((6:Int).toNat*1)=z5j (List.replicate 6 false):=by kernel_rfl
theorem z7k(y:Yd)(ys:List Value)(h0:cfgOk y.1=false)(w:World)(hy:tyYd.rd w ys y):Gives Tryz.prog 101 #[.agg ys.toArray] w (.bool false):=by
 obtain⟨A1,n1,k1,A2,n2,k2,A3,n3,k3,A4,n4,k4,A5,n5,k5,A6,n6,k6,rfl,g1,g2,g3,g4⟩:=Yd_form hy
 have c1:=fun w1 hb=>configRight_s y.1 _ w1 (Ty.below _ g1 hb)
 have c5:=fun w1=>now_s y.2.2.2.2 w1
 rw[h0] at c1
 generalize y.1.2.2.2=hf at *
 generalize y.2.2.2.2=now at *
 generalize isIn now 0 999900=z6 at *
 clear hy g1 g2 g3 g4 h0
 replace c1:∀w1,Below w.heap.size w w1→Gives Tryz.prog 172 #[.agg #[.slice A1 n1 k1,.slice A2 n2 k2,.slice A3 n3 k3,.int .i64 hf]] w1 (.bool false):=c1
 have H:=Hs.start noRow w
 unfold Gives
 show Calls _ _ #[.agg #[.slice A1 n1 k1,.slice A2 n2 k2,.slice A3 n3 k3,.int .i64 hf,.slice A4 n4 k4,.slice A5 n5 k5,.slice A6 n6 k6,.int .i64 now]] _ _
 cases z6
 all_goals(
  go_enter Tryz.func101,Tryz.ntmps101
  go_wp2_with (first|refine zgU ?_|((first|refine zU ?_|(refine zB 1 ?_;intro b1)|(go_at_call 171;refine gvF (c5 _) H ?_)|(go_at_call 172;refine gvF (c1 _ H.below) H ?_));clear H;intro wn H))
  go_ret
  exact⟨rfl,H.below⟩)
theorem z6y(y:Yd)(ys:List Value)(hct:cfgOk y.1=true)(hsT:∀(i:Nat) (x:Ta),y.2.2.1[i]? = some x→x.1.2.2.1.size≤maxLen)(hsU:∀(i:Nat) (x:Us),y.2.2.2.1[i]? = some x→x.2.1.size≤maxLen)(w:World)(hy:tyYd.rd w ys y)
  (hno:(decide (y.2.1.length=y.1.1.length)&&(nodesOk y.2.1&&(tasksOk y.2.2.1&&(z0m y.2.2.2.1&&isIn y.2.2.2.2 0 999900))))=false) :
  Gives Tryz.prog 101 #[.agg ys.toArray] w (.bool false):=by
 obtain⟨A1,n1,k1,A2,n2,k2,A3,n3,k3,A4,n4,k4,A5,n5,k5,A6,n6,k6,rfl,g1,g2,g3,g4⟩:=Yd_form hy
 obtain⟨c,nds,tks,uss,now⟩:=y
 simp only at hsT hsU hct g1 g2 g3 g4 hno
 have hn4:=(slN g2).1
 have hn1:n1=c.1.length:=by
  obtain⟨w1_,w2_,w3_,e0,g5,_,_⟩:=cfg_form g1
  injection e0 with e1
  obtain⟨_,_,e,h,h'⟩:=sl_form g5
  rw[←e1] at e
  injection e
 rw[←hn4,←hn1] at hno
 have c1:=fun w1 hb=>configRight_s c _ w1 (Ty.below _ g1 hb)
 have c2:=fun w1 hb=>nodesRight_s _ nds w1 (Ty.below _ g2 hb)
 have c3:=fun w1 hb=>tasksRight_s _ tks hsT w1 (Ty.below _ g3 hb)
 have c4:=fun w1 hb=>z1u _ uss hsU w1 (Ty.below _ g4 hb)
 rw[←tasks_same] at c3
 rw[←z3w] at c4
 have c5:=fun w1=>now_s now w1
 rw[hct] at c1
 generalize nodesOk nds=z3 at *
 generalize tasksOk tks=z4 at *
 generalize z0m uss=z5 at *
 generalize isIn now 0 999900=z6 at *
 show Gives Tryz.prog _ #[.agg #[.slice A1 n1 k1,.slice A2 n2 k2,.slice A3 n3 k3,.int .i64 c.2.2.2,.slice A4 n4 k4,.slice A5 n5 k5,.slice A6 n6 k6,.int .i64 now]] w (.bool false)
 replace c1:∀w1,Below w.heap.size w w1→Gives Tryz.prog 172 #[.agg #[.slice A1 n1 k1,.slice A2 n2 k2,.slice A3 n3 k3,.int .i64 c.2.2.2]] w1 (.bool true):=c1
 clear hy g1 g2 g3 g4 hsT hsU hn1 hn4 hct
 generalize c.2.2.2=hf at *
 have H:=Hs.start noRow w
 unfold Gives
 by_cases hl:n4=n1
 case neg=>
  have hl1:((n4:Int)==(n1:Int))=false:=beq_eq_false_iff_ne.2 (by omega)
  have hl2:¬(n4:Int)=n1:=by omega
  have hl3:((n4:Int) != (n1:Int))=true:=bne_iff_ne.2 (by omega)
  clear hno
  cases z6 <;> cases z3
  all_goals(
   go_enter Tryz.func101,Tryz.ntmps101
   go_wp2_with (first|refine zgU ?_|((first|refine zU ?_|(refine zB 1 ?_;intro b1)|(go_at_call 171;refine gvF (c5 _) H ?_)|(go_at_call 172;refine gvF (c1 _ H.below) H ?_)|(go_at_call 173;refine gvF (c2 _ H.below) H ?_));clear H;intro wn H))
   go_ret
   exact⟨rfl,H.below⟩)
 subst hl
 have hd:(z6=false∨(z6=true∧z3=false)∨(z6=true∧z3=true∧z4=false)∨(z6=true∧z3=true∧z4=true∧z5=false)):=by rw[decide_eq_true rfl] at hno;cases z3 <;> cases z4 <;> cases z5 <;> cases z6 <;> simp_all
 clear hno
 rcases hd with rfl|⟨rfl,rfl⟩|⟨rfl,rfl,rfl⟩|⟨rfl,rfl,rfl,rfl⟩
 all_goals(
  go_enter Tryz.func101,Tryz.ntmps101
  go_wp2_with (first|refine zgU ?_|((first|refine zU ?_|(refine zB 1 ?_;intro b1)|(go_at_call 171;refine gvF (c5 _) H ?_)|(go_at_call 172;refine gvF (c1 _ H.below) H ?_)|(go_at_call 173;refine gvF (c2 _ H.below) H ?_)|(go_at_call 174;refine gvF (c3 _ H.below) H ?_)|(go_at_call 175;refine gvF (c4 _ H.below) H ?_));clear H;intro wn H))
  go_ret
  exact⟨rfl,H.below⟩)
theorem z4i(y:Yd)(ys:List Value)(hsT:∀(i:Nat) (x:Ta),y.2.2.1[i]? = some x→x.1.2.2.1.size≤maxLen)(hsU:∀(i:Nat) (x:Us),y.2.2.2.1[i]? = some x→x.2.1.size≤maxLen)(w:World)(hy:tyYd.rd w ys y):
  Gives Tryz.prog 101 #[.agg ys.toArray] w (.bool (z0j y)):=by
 by_cases hcf:cfgOk y.1=false
 ·have e:z0j y=false:=by unfold z0j;rw[hcf];rfl
  rw[e]
  exact z7k y ys hcf w hy
 have hct:cfgOk y.1=true:=by simpa using hcf
 clear hcf
 by_cases hpre:(decide (y.2.1.length=y.1.1.length)&&(nodesOk y.2.1&&(tasksOk y.2.2.1&&(z0m y.2.2.2.1&&isIn y.2.2.2.2 0 999900))))=false
 ·have e:z0j y=false:=by
   unfold z0j
   generalize decide (y.2.1.length=y.1.1.length)=d1 at *
   generalize nodesOk y.2.1=d2 at *
   generalize tasksOk y.2.2.1=d3 at *
   generalize z0m y.2.2.2.1=d4 at *
   generalize isIn y.2.2.2.2 0 999900=d5 at *
   cases d1 <;> cases d2 <;> cases d3 <;> cases d4 <;> cases d5 <;> simp_all
  rw[e]
  exact z6y y ys hct hsT hsU w hy hpre
 have hpre2:y.2.1.length=y.1.1.length∧nodesOk y.2.1=true∧tasksOk y.2.2.1=true∧z0m y.2.2.2.1=true∧isIn y.2.2.2.2 0 999900=true:=by simpa using hpre
 clear hpre
 have HY:=hY hy
 obtain⟨A1,n1,k1,A2,n2,k2,A3,n3,k3,A4,n4,k4,A5,n5,k5,A6,n6,k6,rfl,g1,g2,g3,g4⟩:=Yd_form hy
 obtain⟨c,nds,tks,uss,now⟩:=y
 simp only at hsT hsU hct g1 g2 g3 g4 hpre2
 obtain⟨hp1,hp2,hp3,hp4,hp5⟩:=hpre2
 have hn4:=(slN g2).1
 have hn5:=slN g3
 have hn6:=slN g4
 have hn1:n1=c.1.length:=by
  obtain⟨w1_,w2_,w3_,e0,g5,_,_⟩:=cfg_form g1
  injection e0 with e1
  obtain⟨_,_,e,h,h'⟩:=sl_form g5
  rw[←e1] at e
  injection e
 have c1:=fun w1 hb=>configRight_s c _ w1 (Ty.below _ g1 hb)
 have c2:=fun w1 hb=>nodesRight_s _ nds w1 (Ty.below _ g2 hb)
 have c3:=fun w1 hb=>tasksRight_s _ tks hsT w1 (Ty.below _ g3 hb)
 have c4:=fun w1 hb=>z1u _ uss hsU w1 (Ty.below _ g4 hb)
 rw[←tasks_same] at c3
 rw[←z3w] at c4
 have c5:=fun w1=>now_s now w1
 have HG1:=hY g1
 have HG3:=hY g3
 have HG4:=hY g4
 have hn51:=hn5.2
 have hn61:=hn6.2
 have HN:=hY hn5.1
 have HN6:=hY hn6.1
 have HST:=hY hsT
 obtain⟨z,hz⟩:=nm (z0j (c,nds,tks,uss,now))
 show Gives Tryz.prog _ #[.agg #[.slice A1 n1 k1,.slice A2 n2 k2,.slice A3 n3 k3,.int .i64 c.2.2.2,.slice A4 n4 k4,.slice A5 n5 k5,.slice A6 n6 k6,.int .i64 now]] w (.bool (z0j (c,nds,tks,uss,now)))
 rw[←hz]
 have HZ:Hid (z=(cfgOk c&&(decide (n4=n1)&&(nodesOk nds&&(tasksOk tks&&(z0m uss&&(isIn now 0 999900&&(z0y c.1 now (List.replicate 6 false) tks&&(z0e c tks&&z0i c uss))))))))):=hY (by rw[hz,hn4,hn1];rfl)
 have HOK:Hid (cfgOk c=true→c.1.length≤6∧clearOk c.1=true):=hY fun h=>⟨(cfg_nodes h).2,z2k h⟩
 have HTA:Hid (tasksOk tks=true → ∀(i:Nat) (x:Ta),tks[i]? = some x→taskOk x=true):=hY z2c
 have HTS:Hid (tasksOk tks=true→tasksOkS tks=true):=hY fun h=>by rw[←tasks_same];exact h
 have HNW:Hid (isIn now 0 999900=true→0≤now∧now≤999900):=hY fun h=>by unfold isIn at h;simpa using h
 have HL0:Hid (n4=n1→nds.length=c.1.length):=hY fun h=>by omega
 obtain⟨z1,hz1⟩:=nm (cfgOk c)
 obtain⟨z3,hz3⟩:=nm (nodesOk nds)
 obtain⟨z4,hz4⟩:=nm (tasksOk tks)
 obtain⟨z5,hz5⟩:=nm (z0m uss)
 obtain⟨z6,hz6⟩:=nm (isIn now 0 999900)
 have HC:Hid (z1=cfgOk c):=hY hz1
 rw[←hz1,←hz3,←hz4,←hz5,←hz6] at HZ
 rw[←hz1] at c1 HOK
 rw[←hz3] at c2
 rw[←hz4] at c3 HTA HTS
 rw[←hz5] at c4
 rw[←hz6] at c5 HNW
 replace c1:∀w1,Below w.heap.size w w1→Gives Tryz.prog 172 #[.agg #[.slice A1 n1 k1,.slice A2 n2 k2,.slice A3 n3 k3,.int .i64 c.2.2.2]] w1 (.bool z1):=c1
 obtain rfl:z1=true:=HC.out.trans hct
 have hl0:n4=n1:=by omega
 have hz30:=hz3.trans hp2
 have hz40:=hz4.trans hp3
 have hz50:=hz5.trans hp4
 have hz60:=hz6.trans hp5
 clear hy hz g1 g2 g3 g4 hsT hsU hn1 hn4 hn5 hn6 hz1 hz3 hz4 hz5 hz6 hct hp1 hp2 hp3 hp4 hp5
 obtain rfl:n4=n1:=hl0
 obtain rfl:z3=true:=hz30
 obtain rfl:z4=true:=hz40
 obtain rfl:z5=true:=hz50
 obtain rfl:z6=true:=hz60
 have H:=Hs.start noRow w
 unfold Gives
 have HZ1:Hid (z=(z0y c.1 now (List.replicate 6 false) (tks.drop 0)&&(z0e c tks&&z0i c uss))):=hY (by rw[HZ.out];simp)
 have HOK2:=hY (HOK.out rfl)
 have HTA2:=hY (HTA.out rfl)
 have HTS2:=hY (HTS.out rfl)
 have HNW2:=hY (HNW.out rfl)
 have HL2:=hY (HL0.out rfl)
 clear HZ HOK HTA HNW HTS HL0
 go_enter Tryz.func101,Tryz.ntmps101
 go_wp2_with (first|((((with_reducible refine st_gwF ?_ ?_);rfl));(try refine zp ?_))|((first|refine zU ?_|(refine zB 1 ?_;intro b1)|(go_at_call 171;refine gvF (c5 _) H ?_)|(go_at_call 172;refine gvF (c1 _ H.below) H ?_)|(go_at_call 173;refine gvF (c2 _ H.below) H ?_)|(go_at_call 174;refine gvF (c3 _ H.below) H ?_)|(go_at_call 175;refine gvF (c4 _ H.below) H ?_));clear H;intro wn H)|((with_reducible apply st_make (E:=4) (z := .bool false) (s:=1) (b:=1) (m:=6) H);rfl;rfl;kernel_rfl;kernel_rfl;(focus decide);(focus decide);(focus decide);clear H;intro gU wn H;rw[z2b] at H;refine zp ?_))
 go_loopg [4,6] n5 (fun m iv _ wr=>∃(i:Nat) (u:List Bool),i+m=n5∧iv = .int .i64 i∧u.length=6∧Hid (z=(z0y c.1 now u (tks.drop i)&&(z0e c tks&&z0i c uss)))∧Hs noRow w [Hl.blk gU 4 (z5j u),Hl.blk b1 52 #[.slice A1 n4 k1,.slice A2 n2 k2,.slice A3 n3 k3,.int .i64 c.2.2.2,.slice A4 n4 k4,.slice A5 n5 k5,.slice A6 n6 k6,.int .i64 now]] wr)
 case atStart=>exact⟨0,List.replicate 6 false,by omega,rfl,rfl,HZ1,H.sel sF⟩
 case round=>
  clear H HZ1
  obtain⟨i,u,hi,rfl,hu6,HI,H⟩:=hrel
  by_cases hlt:i<n5
  ·obtain ⟨x,hx⟩:=atE HN hlt
   have hs:=sl_at HG3.out hx
   rw[←HN.out] at hs
   obtain⟨b,off,c',cs,hv,hcs,hA⟩:=hs
   injection hv with hv1 hv2 hv3
   subst hv1 hv3
   have hto:=HTA2.out i x hx
   have hstep:=HI.out
   rw[z5i hx] at hstep
   have c6:=fun w1 hb=>z7o (c,nds,tks,uss,now) _ x cs HL2.out hto HNW2.out w1 (Ty.below _ HY.out hb) (Ty.below _ hcs hb)
   have hq3:∀n ∈ x.2,0≤n∧n≤5:=by
    obtain⟨⟨⟨l1,l2⟩,id,ow,need,long,prio,⟨u1,u2⟩,aft,born,st,start⟩,nodes⟩:=x
    exact(z0w hto).2.2
   obtain⟨A,nk,kk,rfl,h1⟩:=Ta_form hcs
   have hnk:=slN h1
   have hnk2:=hnk.2
   have HNK:=hY hnk.1
   have HM:=hY h1
   have HQ3:=hY hq3
   have hlt1:(i:Int)<n5:=by omega
   generalize hfz:z6j c.1 now x=fz at *
   obtain⟨⟨⟨l1,l2⟩,id,ow,need,long,prio,⟨u1,u2⟩,aft,born,st,start⟩,nodes⟩:=x
   simp only at hA c6 hstep HNK HM HQ3
   have hA:At w b (off+i*14) [.int .i64 l1,.int .i64 l2,.int .i64 id,.string ow,.int .i64 need,.int .i64 long,.int .i64 prio,.int .i64 u1,.int .i64 u2,.int .i64 aft,.int .i64 born,.int .i64 st,.int .i64 start,.slice A nk kk]:=hA
   replace c6:∀w1,Below w.heap.size w w1→Gives Tryz.prog 176 #[.agg #[.slice A1 n4 k1,.slice A2 n2 k2,.slice A3 n3 k3,.int .i64 c.2.2.2,.slice A4 n4 k4,.slice (some ⟨b,off,none⟩) n5 k5,.slice A6 n6 k6,.int .i64 now],.agg #[.int .i64 l1,.int .i64 l2,.int .i64 id,.string ow,.int .i64 need,.int .i64 long,.int .i64 prio,.int .i64 u1,.int .i64 u2,.int .i64 aft,.int .i64 born,.int .i64 st,.int .i64 start,.slice A nk kk]] w1 (.bool fz):=c6
   clear hx hv2 hto hq3 hcs h1 hnk HI hfz
   cases fz
   ·have HZ9:Hid (z=false):=hY (by rw[hstep];rfl)
    clear hstep
    go_wp2_with ((first|refine zU ?_|(refine zA 5 ?_;intro b5)|(go_at_call 176;refine gvF (c6 _ H.below) H ?_));clear H;intro wn H)
    go_ret
    exact⟨by rw[HZ9.out];rfl,H.below⟩
   obtain⟨run,hrun⟩:=nm2 ((st==2))
   have hstep:z=((match z1m run u (nodes.drop 0) with
    | some u'=>z0y c.1 now u' (tks.drop (i+1))
    | none=>false)&&(z0e c tks&&z0i c uss)):=by rw[hstep,←hrun];rfl
   have HK0:Hid (z=((match z1m run u (nodes.drop 0) with
    | some u'=>z0y c.1 now u' (tks.drop (i+1))
    | none=>false)&&(z0e c tks&&z0i c uss))):=hY hstep
   clear hstep
   cases run
   case false=>
    have HI2:Hid (z=(z0y c.1 now u (tks.drop (i+1))&&(z0e c tks&&z0i c uss))):=hY (by rw[HK0.out,z1z])
    clear HK0
    go_wp2_with ((first|refine zU ?_|(refine zA 5 ?_;intro b5)|(go_at_call 176;refine gvF (c6 _ H.below) H ?_));clear H;intro wn H)
    obtain⟨zk,hzk⟩:=nm (decide ((0:Int)<(nk:Int)))
    go_loopg [6] 0 (fun m kv wr=>m=0∧kv = .int .i64 0∧Hs noRow w [Hl.blk b5 177 #[.int .i64 l1,.int .i64 l2,.int .i64 id,.string ow,.int .i64 need,.int .i64 long,.int .i64 prio,.int .i64 u1,.int .i64 u2,.int .i64 aft,.int .i64 born,.int .i64 st,.int .i64 start,.slice A nk kk],Hl.blk gU 4 (z5j u),Hl.blk b1 52 #[.slice A1 n4 k1,.slice A2 n2 k2,.slice A3 n3 k3,.int .i64 c.2.2.2,.slice A4 n4 k4,.slice (some ⟨b,off,none⟩) n5 k5,.slice A6 n6 k6,.int .i64 now]] wr)
    case atStart=>exact⟨rfl,rfl,H.sel sF⟩
    case round=>
     clear H
     obtain⟨_,rfl,H⟩:=hrel
     by_cases hk0:0<nk
     all_goals(
      have hk1:=hk0
      go_wp2_with (first|refine zgU ?_|(refine zL ?_;clear H;intro wn H))
      go_roundg (n5-(i+1))
      case measure=>omega
      case rel=>exact⟨i+1,u,by omega,by go_num,hu6,HI2,H.sel sF⟩)
   case true=>
    go_wp2_with ((first|refine zU ?_|(refine zA 5 ?_;intro b5)|(go_at_call 176;refine gvF (c6 _ H.below) H ?_));clear H;intro wn H)
    go_loopg [6] nk (fun m kv wr=>∃(k:Nat) (u:List Bool),k+m=nk∧kv = .int .i64 k∧u.length=6∧Hid (z=((match z1m true u (nodes.drop k) with
     | some u'=>z0y c.1 now u' (tks.drop (i+1))
     | none=>false)&&(z0e c tks&&z0i c uss)))∧Hs noRow w [Hl.blk b5 177 #[.int .i64 l1,.int .i64 l2,.int .i64 id,.string ow,.int .i64 need,.int .i64 long,.int .i64 prio,.int .i64 u1,.int .i64 u2,.int .i64 aft,.int .i64 born,.int .i64 st,.int .i64 start,.slice A nk kk],Hl.blk gU 4 (z5j u),Hl.blk b1 52 #[.slice A1 n4 k1,.slice A2 n2 k2,.slice A3 n3 k3,.int .i64 c.2.2.2,.slice A4 n4 k4,.slice (some ⟨b,off,none⟩) n5 k5,.slice A6 n6 k6,.int .i64 now]] wr)
    case atStart=>exact⟨0,u,by omega,rfl,hu6,HK0,H.sel sF⟩
    case round=>
     clear H HK0 hu6
     obtain⟨k,u,hk,rfl,hu6,HK,H⟩:=hrel
     by_cases hltk:k<nk
     ·obtain ⟨n,hn⟩:=atE HNK hltk
      have hs:=sl_at HM.out hn
      rw[←HNK.out] at hs
      obtain⟨bn,offn,c'',cs,hv,hcs,hN⟩:=hs
      injection hv with hv1 hv2 hv3
      subst hv1 hv3
      obtain rfl:cs=encNum n:=hcs
      have hn5:=HQ3.out n (List.mem_of_getElem? hn)
      obtain⟨n,rfl⟩:∃m:Nat,n=(m:Int):=⟨n.toNat,by omega⟩
      have h0:w.cell? ⟨bn,offn+k,none⟩=some (.int .i64 n):=by have h:=hN.head (u := .int .i64 n) rfl;rw[show k*tyNum.s=k from Nat.mul_one k] at h;exact h
      have hnn:n<u.length:=by omega
      have hn6:n<6:=by omega
      have hn7:(n:Int)<6:=by omega
      obtain⟨q,hq⟩:∃q,u[n]? = some q:=⟨u[n],List.getElem?_eq_getElem hnn⟩
      have hstep:=HK.out
      rw[z5l hn hq] at hstep
      have hltk1:(k:Int)<nk:=by omega
      clear hn hv2 hN HK
      cases q
      case true=>
       have HZ9:Hid (z=false):=hY (by rw[hstep];rfl)
       clear hstep
       go_wp2_with (first|((with_reducible apply st_load1 H);decide +kernel;rfl;(focus exact H.cell iF (z1a (by assumption)));clear H;intro wn H;refine zp ?_)|((((with_reducible refine st_gwT ?_ ?_);rfl));(try refine zp ?_))|(refine zL ?_;clear H;intro wn H))
       go_ret
       exact⟨by rw[HZ9.out];rfl,H.below⟩
      case false=>
       have HK2:=hY hstep
       clear hstep
       go_wp2_with (first|((with_reducible apply st_load1 H);decide +kernel;rfl;(focus exact H.cell iF (z1a (by assumption)));clear H;intro wn H;refine zp ?_)|((with_reducible apply st_store H);rfl;exact eF;(focus(exact(rfl:_ = [_])));exact uF;kernel_rfl;(focus exact z1l hnn);rfl;clear H;intro wn H;rw[z0q hnn] at H;refine zp ?_)|((((with_reducible refine st_gwT ?_ ?_);rfl));(try refine zp ?_))|(refine zL ?_;clear H;intro wn H))
       go_roundg (nk-(k+1))
       case measure=>omega
       case rel=>exact⟨k+1,u.set n true,by omega,by go_num,by rw[List.length_set];exact hu6,HK2,H.sel sF⟩
     ·obtain rfl:k=nk:=by omega
      have hltk1:=nlt k
      have HI2:Hid (z=(z0y c.1 now u (tks.drop (i+1))&&(z0e c tks&&z0i c uss))):=hY (by
       rw[HK.out,(drl HNK)]
       rfl)
      clear HK
      go_wp2_with (first|((((with_reducible refine st_gsT ?_ ?_);rfl));(try refine zp ?_))|(refine zL ?_;clear H;intro wn H))
      go_roundg (n5-(i+1))
      case measure=>omega
      case rel=>exact⟨i+1,u,by omega,by go_num,hu6,HI2,H.sel sF⟩
  ·obtain rfl:i=n5:=by omega
   have hlt1:=nlt i
   have HE:Hid (z=(z0e c tks&&z0i c uss)):=hY (by rw[HI.out,(drl HN)];rfl)
   clear HI
   have c10:=fun a w1 hb=>z7a c _ a HC.out.symm w1 (Ty.below _ HG1.out hb)
   have c9:=fun a w1 hb=>liveOf_s _ tks a HST.out HTS2.out w1 (Ty.below _ HG3.out hb)
   obtain⟨_,_,_,e0,g5,_,_⟩:=cfg_form HG1.out
   injection e0 with e1 e0
   injection e0 with e2 e0
   injection e0 with e3 e0
   subst e1 e2 e3
   clear e0
   have c7:=fun w1 hb=>labels_s (.slice A1 n4 k1) c.1 w1 (Ty.below _ g5 hb)
   clear g5 c1 c2 c3 c4 c5
   go_wp2_with (refine zL ?_;clear H;intro wn H)
   refine(Rets.use (c7 _ H.below)).mono ?_;rintro e wn ⟨_,_,rfl,⟨N,hN,rfl,hone⟩,hkk⟩;refine zK ?_;clear H hkk;intro H
   have hN2:=own_single hN hone rfl
   clear hN hone c7
   obtain⟨B,cb,rfl,hlb,hmb⟩:=sl_form (own_rd H .here hN2)
   unfold maxLen at hmb
   obtain⟨kl,hkl⟩:=nm ((labelsOf c.1).length)
   rw[←hkl] at hN2 hlb ⊢
   have HN2:=hY hN2
   clear hN2
   have hkm:kl≤9223372036854775807:=by omega
   have HKL:=hY hkl
   clear hkl hlb hmb
   have HE2:Hid (z=((uss.drop 0).all (fun x=>hasL (labelsOf c.1) x.1)&&z0e c tks)):=hY (by rw[HE.out,Bool.and_comm];rfl)
   clear HE
   go_wp2_with (fail)
   go_loopg [8] n6 (fun m jv wr=>∃(j:Nat),j+m=n6∧jv = .int .i64 j∧Hid (z=((uss.drop j).all (fun x=>hasL (labelsOf c.1) x.1)&&z0e c tks))∧Hs noRow w [Hl.all N,Hl.blk b1 52 #[.slice A1 n4 k1,.slice A2 n2 k2,.slice A3 n3 k3,.int .i64 c.2.2.2,.slice A4 n4 k4,.slice A5 i k5,.slice A6 n6 k6,.int .i64 now]] wr)
   case atStart=>exact⟨0,by omega,rfl,HE2,H.sel sF⟩
   case round=>
    clear H HE2
    obtain⟨j,hj,rfl,HI,H⟩:=hrel
    by_cases hltj:j<n6
    ·obtain ⟨x,hx⟩:=atE HN6 hltj
     have hs:=sl_at HG4.out hx
     rw[←HN6.out] at hs
     obtain⟨b,off,c',cs,hv,hcs,hA⟩:=hs
     injection hv with hv1 hv2 hv3
     subst hv1 hv3
     obtain rfl:cs=encUs x:=hcs
     have hstep:=HI.out
     rw[z3y hx] at hstep
     have c8:=fun w1 h=>cleared_s (.slice B kl cb) (labelsOf c.1) x.1 w1 h
     obtain⟨⟨x1,x2⟩,ow,us⟩:=x
     simp only at c8 hstep
     generalize hasL (labelsOf c.1) (x1,x2)=q at *
     have hA:At w b (off+j*4) [.int .i64 x1,.int .i64 x2,.string ow,.int .i64 us]:=hA
     have hA1:At w b (off+j*4) [.int .i64 x1,.int .i64 x2]:=At.pre (us:=[.string ow,.int .i64 us]) hA
     have hltj1:(j:Int)<n6:=by omega
     clear hx hv2 HI hA c9 c10
     cases q
     ·have HZ9:Hid (z=false):=hY (by rw[hstep];rfl)
      clear hstep
      go_wp2_with ((first|refine zU ?_|(go_at_call 109;refine gvF (c8 _ (own_rd H iF HN2.out)) H ?_));clear H;intro wn H)
      go_ret
      exact⟨by rw[HZ9.out];rfl,H.below⟩
     ·have HK2:=hY hstep
      clear hstep
      go_wp2_with ((first|refine zU ?_|(go_at_call 109;refine gvF (c8 _ (own_rd H iF HN2.out)) H ?_));clear H;intro wn H)
      go_roundg (n6-(j+1))
      case measure=>omega
      case rel=>exact⟨j+1,by omega,by go_num,by simpa using HK2,H.sel sF⟩
    ·obtain rfl:j=n6:=by omega
     have hltj1:=nlt j
     have HE3:Hid (z=((labelsOf c.1).drop 0).all (fun a=>decide ((liveN a tks:Int)≤quotaOf c a))):=hY (by rw[HI.out,(drl HN6)];rfl)
     clear HI
     go_wp2_with (refine zL ?_;clear H;intro wn H)
     have H0:=H.sel (M:=[Hl.all N,Hl.blk b1 52 #[.slice A1 n4 k1,.slice A2 n2 k2,.slice A3 n3 k3,.int .i64 c.2.2.2,.slice A4 n4 k4,.slice A5 i k5,.slice A6 j k6,.int .i64 now]]) sF
     clear H
     obtain⟨xs,M,B',cb',eB,hO,_,H⟩:=own_open HN2.out H0
     injection eB with eB1 eB2 eB3
     subst eB1 eB3
     clear H0 eB2
     replace H:Hs noRow w (Hl.row 123 2 (.slice B kl cb) (labelsOf c.1).length xs::Hl.all M::_) _:=H
     rw[←HKL.out] at H
     have HOO:=hY hO
     clear hO
     have H9:Hs noRow w [Hl.row 123 2 (.slice B kl cb) kl xs,Hl.blk b1 52 #[.slice A1 n4 k1,.slice A2 n2 k2,.slice A3 n3 k3,.int .i64 c.2.2.2,.slice A4 n4 k4,.slice A5 i k5,.slice A6 j k6,.int .i64 now]] _:=H.sel sF
     clear H
     have H:=H9
     clear H9
     go_loopg [9] kl (fun m jv wr=>∃(p:Nat),p+m=kl∧jv = .int .i64 p∧Hid (z=((labelsOf c.1).drop p).all (fun a=>decide ((liveN a tks:Int)≤quotaOf c a)))∧Hs noRow w [Hl.row 123 2 (.slice B kl cb) kl xs,Hl.blk b1 52 #[.slice A1 n4 k1,.slice A2 n2 k2,.slice A3 n3 k3,.int .i64 c.2.2.2,.slice A4 n4 k4,.slice A5 i k5,.slice A6 j k6,.int .i64 now]] wr)
     case atStart=>exact⟨0,by omega,rfl,HE3,H.sel sF⟩
     case round=>
      clear H HE3
      obtain⟨p,hp,rfl,HI,H⟩:=hrel
      by_cases hltp:p<kl
      ·obtain ⟨x,hx⟩:=atE HKL hltp
       obtain⟨y1,cs,y2,M1,Mi,M2,hxs,_,hyl,_,hcs,_⟩:=HOO.out.at_ hx
       obtain rfl:cs=encLab x:=hcs.1
       have hstep:=HI.out
       rw[z3y hx] at hstep
       obtain⟨x1,x2⟩:=x
       have c9':=fun w1 hb=>c9 (x1,x2) w1 hb
       have c10':=fun w1 hb=>c10 (x1,x2) w1 hb
       have hseg:Seg xs (p*2) [.int .i64 x1,.int .i64 x2]:=by rw[hxs];exact seg_mid y1 (encLab (x1,x2)) y2 hyl
       have hbb:∃gl,B=some ⟨gl,0,none⟩:=by
        obtain⟨gl,cl,e,_⟩:=(H.rows .here).form (by omega)
        injection e with e1
        exact⟨gl,e1⟩
       obtain⟨gl,rfl⟩:=hbb
       simp only at c9' c10' hstep
       generalize (liveN (x1,x2) tks:Int)=lv at *
       generalize quotaOf c (x1,x2)=qv at *
       replace c10':∀w1,Below w.heap.size w w1→Gives Tryz.prog 178 #[.agg #[.slice A1 n4 k1,.slice A2 n2 k2,.slice A3 n3 k3,.int .i64 c.2.2.2],.agg #[.int .i64 x1,.int .i64 x2]] w1 (.int .i64 qv):=c10'
       have hltp1:(p:Int)<kl:=by omega
       clear hx HI hxs hyl hcs c9 c10
       obtain⟨q,hq⟩:=nm2 (decide (lv≤qv))
       rw[hq] at hstep
       have hq2:decide (qv<lv) = !q:=by rw[←hq];by_cases h:lv≤qv <;> simp[h] <;> omega
       clear hq
       cases q
       ·have HZ9:Hid (z=false):=hY (by rw[hstep];rfl)
        clear hstep
        go_upto_region 25 with (first|((with_reducible apply st_load1 H);decide +kernel;rfl;(focus exact H.cell iF (z1a (by assumption)));clear H;intro wn H;refine zp ?_)|((with_reducible apply st_store H);rfl;exact eF;(focus(exact(rfl:_ = [_])));exact uF;kernel_rfl;(focus exact z1l hnn);rfl;clear H;intro wn H;rw[z0q hnn] at H;refine zp ?_)|refine zgU ?_|((with_reducible refine' st_guard ?_ ?_ ?_);rotate_left;rfl;(all_goals(intro hgd;cases hgd));(try refine zp ?_))|refine zgW ?_|refine zgS ?_|((first|refine zU ?_|(refine zB 1 ?_;intro b1)|(refine zA 5 ?_;intro b5)|(go_at_call 171;refine gvF (c5 _) H ?_)|(go_at_call 172;refine gvF (c1 _ H.below) H ?_)|(go_at_call 173;refine gvF (c2 _ H.below) H ?_)|(go_at_call 174;refine gvF (c3 _ H.below) H ?_)|(go_at_call 175;refine gvF (c4 _ H.below) H ?_)|(go_at_call 176;refine gvF (c6 _ H.below) H ?_)|(go_at_call 109;refine gvF (c8 _ (own_rd H iF HN2.out)) H ?_));clear H;intro wn H)|((with_reducible apply st_make (E:=4) (z := .bool false) (s:=1) (b:=1) (m:=6) H);rfl;rfl;kernel_rfl;kernel_rfl;(focus decide);(focus decide);(focus decide);clear H;intro gU wn H;rw[z2b] at H;refine zp ?_))
        apply wp_region_hq H (by kernel_rfl) (by kernel_rfl);(iterate 5 ((with_reducible refine' hq_step ?_ ?_ ?_);rotate_left;(focus rfl);(focus(intro w1 H1;exact qLF));refine zp ?_;(try simp only[yG,yH,yJ,yK])));(with_reducible refine' hq_step ?_ ?_ ?_);rotate_left;(focus rfl);(focus(intro w1 H1;exact qRF));refine zp ?_;(with_reducible refine' hq_step ?_ ?_ ?_);rotate_left;(focus rfl);(focus(intro w1 H1;unfold QOk;go_simp;exact q_call (c9' _ @H1.below)));refine zp ?_;(iterate 5 ((with_reducible refine' hq_step ?_ ?_ ?_);rotate_left;(focus rfl);(focus(intro w1 H1;exact qLF));refine zp ?_;(try simp only[yG,yH,yJ,yK])));(with_reducible refine' hq_step ?_ ?_ ?_);rotate_left;(focus rfl);(focus(intro w1 H1;exact qRF));refine zp ?_;(with_reducible refine' hq_step ?_ ?_ ?_);rotate_left;(focus rfl);(focus(intro w1 H1;unfold QOk;go_simp;exact q_call (c10' _ @H1.below)));refine zp ?_;(iterate 1 ((with_reducible refine' hq_step ?_ ?_ ?_);rotate_left;(focus rfl);(focus(intro w1 H1;exact qLF));refine zp ?_;(try simp only[yG,yH,yJ,yK])));refine wpQuiet_nil ?_;clear H;intro wn H
        go_wp2_with (fail)
        go_ret
        exact⟨by rw[HZ9.out];rfl,H.below⟩
       ·have HK2:=hY hstep
        clear hstep
        go_upto_region 25 with (first|((with_reducible apply st_load1 H);decide +kernel;rfl;(focus exact H.cell iF (z1a (by assumption)));clear H;intro wn H;refine zp ?_)|((with_reducible apply st_store H);rfl;exact eF;(focus(exact(rfl:_ = [_])));exact uF;kernel_rfl;(focus exact z1l hnn);rfl;clear H;intro wn H;rw[z0q hnn] at H;refine zp ?_)|refine zgU ?_|((with_reducible refine' st_guard ?_ ?_ ?_);rotate_left;rfl;(all_goals(intro hgd;cases hgd));(try refine zp ?_))|refine zgW ?_|refine zgS ?_|((first|refine zU ?_|(refine zB 1 ?_;intro b1)|(refine zA 5 ?_;intro b5)|(go_at_call 171;refine gvF (c5 _) H ?_)|(go_at_call 172;refine gvF (c1 _ H.below) H ?_)|(go_at_call 173;refine gvF (c2 _ H.below) H ?_)|(go_at_call 174;refine gvF (c3 _ H.below) H ?_)|(go_at_call 175;refine gvF (c4 _ H.below) H ?_)|(go_at_call 176;refine gvF (c6 _ H.below) H ?_)|(go_at_call 109;refine gvF (c8 _ (own_rd H iF HN2.out)) H ?_));clear H;intro wn H)|((with_reducible apply st_make (E:=4) (z := .bool false) (s:=1) (b:=1) (m:=6) H);rfl;rfl;kernel_rfl;kernel_rfl;(focus decide);(focus decide);(focus decide);clear H;intro gU wn H;rw[z2b] at H;refine zp ?_))
        apply wp_region_hq H (by kernel_rfl) (by kernel_rfl);(iterate 5 ((with_reducible refine' hq_step ?_ ?_ ?_);rotate_left;(focus rfl);(focus(intro w1 H1;exact qLF));refine zp ?_;(try simp only[yG,yH,yJ,yK])));(with_reducible refine' hq_step ?_ ?_ ?_);rotate_left;(focus rfl);(focus(intro w1 H1;exact qRF));refine zp ?_;(with_reducible refine' hq_step ?_ ?_ ?_);rotate_left;(focus rfl);(focus(intro w1 H1;unfold QOk;go_simp;exact q_call (c9' _ @H1.below)));refine zp ?_;(iterate 5 ((with_reducible refine' hq_step ?_ ?_ ?_);rotate_left;(focus rfl);(focus(intro w1 H1;exact qLF));refine zp ?_;(try simp only[yG,yH,yJ,yK])));(with_reducible refine' hq_step ?_ ?_ ?_);rotate_left;(focus rfl);(focus(intro w1 H1;exact qRF));refine zp ?_;(with_reducible refine' hq_step ?_ ?_ ?_);rotate_left;(focus rfl);(focus(intro w1 H1;unfold QOk;go_simp;exact q_call (c10' _ @H1.below)));refine zp ?_;(iterate 1 ((with_reducible refine' hq_step ?_ ?_ ?_);rotate_left;(focus rfl);(focus(intro w1 H1;exact qLF));refine zp ?_;(try simp only[yG,yH,yJ,yK])));refine wpQuiet_nil ?_;clear H;intro wn H
        go_wp2_with (fail)
        go_roundg (kl-(p+1))
        case measure=>omega
        case rel=>exact⟨p+1,by omega,by go_num,by simpa using HK2,H.sel sF⟩
      ·obtain rfl:p=kl:=by omega
       have hltp1:=nlt p
       have HZ9:Hid (z=true):=hY (by rw[HI.out,(drl HKL)];rfl)
       clear HI
       go_wp2_with (fail)
       go_ret
       exact⟨by rw[HZ9.out];rfl,H.below⟩
end Go.Proofs.YtcabgibdkmgdlaaGreat
namespace Go.Proofs.YtcabgibdkmgdlaaGreat
open Go.RowKit M
namespace M
def z2l(now:Int)(l:List Nt):Bool:=match l[l.length-1]? with
 | some x=>decide (now<x.1)
 | none=>false
def z2d(now:Int)(m:List Bo):Bool:=m.any fun b=>b.2.2.any fun x=>decide (now<x.1)
def z4z(now:Int)(m:List Bo):Bool:=m.any fun b=>z2l now b.2.2
def z0b(s:St):Bool:=z0j s.1&&(mailOk s.1.1 s.2 && !z2d s.1.2.2.2.2 s.2)
theorem z7l{l:List Nt}(h:notesOk l=true):∀(i:Nat) (x y:Nt),l[i]? = some y→l[i+1]? = some x→y.1≤x.1:=by
 unfold notesOk at h
 rw[Bool.and_eq_true,allFrom_iff l.length 0 (by omega)] at h
 intro i x y hy hx
 have h1:=h.1 (i+1) (by omega) (List.getElem?_eq_some_iff.1 hx).1
 unfold noteIn at h1
 rw[hx] at h1
 unfold noteAft at h1
 simp only[hy,Bool.and_eq_true,Bool.not_eq_true',decide_eq_false_iff_not] at h1
 omega
theorem z5r{l:List Nt}(h:notesOk l=true):∀(d i:Nat) (x y:Nt),l[i]? = some y→l[i+d]? = some x→y.1≤x.1:=by
 intro d
 induction d with
 | zero=>
  intro i x y hy hx
  rw[Nat.add_zero,hy] at hx
  injection hx with hx
  subst hx
  omega
 | succ d ih=>
  intro i x y hy hx
  have hlt:=(List.getElem?_eq_some_iff.1 hx).1
  obtain⟨u,hu⟩:∃u,l[i+d]? = some u:=⟨l[i+d]'(by omega),List.getElem?_eq_getElem (by omega)⟩
  have h1:=ih i u y hy hu
  have h2:=z7l h (i+d) x u hu hx
  omega
theorem z6n{l:List Nt}(h:notesOk l=true)(now:Int):(l.any fun x=>decide (now<x.1))=z2l now l:=by
 rw[Bool.eq_iff_iff,List.any_eq_true]
 constructor
 ·rintro ⟨x,hx,hd⟩
  obtain⟨i,hi,rfl⟩:=List.getElem_of_mem hx
  have hl:l[l.length-1]? = some (l[l.length-1]'(by omega)):=List.getElem?_eq_getElem (by omega)
  have h1:=z5r h (l.length-1-i) i _ _ (List.getElem?_eq_getElem hi) (by rw[show i+(l.length-1-i)=l.length-1 by omega];exact hl)
  unfold z2l
  rw[hl]
  have h2:=of_decide_eq_true hd
  exact decide_eq_true (by omega)
 ·intro hd
  unfold z2l at hd
  cases hl:l[l.length-1]? with
  | none=>rw[hl] at hd;cases hd
  | some x=>
   rw[hl] at hd
   exact⟨x,List.mem_of_getElem? hl,hd⟩
theorem z6i{c:Cfg}{m:List Bo}(h:mailOk c m=true):∀b ∈ m,notesOk b.2.2=true:=by
 unfold mailOk at h
 simp only[Bool.and_eq_true,decide_eq_true_eq] at h
 obtain⟨_,hl,ha⟩:=h
 rw[allFrom_iff m.length 0 (by omega)] at ha
 intro b hb
 obtain⟨i,hi,rfl⟩:=List.getElem_of_mem hb
 have h1:=ha i (by omega) hi
 unfold boxIn at h1
 rw[List.getElem?_eq_getElem hi,List.getElem?_eq_getElem (by omega)] at h1
 unfold boxOk at h1
 simp only[Bool.and_eq_true] at h1
 exact h1.2.2
theorem z5k{α:Type}{p q:α→Bool}:∀ {l:List α},(∀x ∈ l,p x=q x)→l.any p=l.any q
 | [],_=>rfl
 | x::l,h=>by
  rw[List.any_cons,List.any_cons,h x (List.mem_cons_self ..),z5k fun y hy=>h y (List.mem_cons_of_mem _ hy)]
theorem z7g{c:Cfg}{m:List Bo}(h:mailOk c m=true)(now:Int):z2d now m=z4z now m:=
 z5k fun b hb=>z6n (z6i h b hb) now
theorem z8u{α:Type}{l:List α}{p:α→Bool}{i:Nat}{x:α}(h:l[i]? = some x):(l.drop i).any p=(p x || (l.drop (i+1)).any p):=by
 obtain⟨hlt,rfl⟩:=List.getElem?_eq_some_iff.1 h
 rw[List.drop_eq_getElem_cons hlt]
 rfl
theorem z0k{a:St}(h:z0b a=true):cfgOk a.1.1=true:=by
 unfold z0b z0j at h
 simp only[Bool.and_eq_true] at h
 exact h.1.1
theorem z7r{y:Yd}(h:okYd y):(∀(i:Nat) (x:Ta),y.2.2.1[i]? = some x→x.1.2.2.1.size≤maxLen)∧(∀(i:Nat) (x:Us),y.2.2.2.1[i]? = some x→x.2.1.size≤maxLen):=by
 constructor
 ·intro i x hx
  exact(h.1 x (List.mem_of_getElem? hx))
 ·intro i x hx
  exact(h.2 x (List.mem_of_getElem? hx))
end M
theorem z8s(now:Int)(x:Nt)(b:Nat)(w:World)(h7:w.cell? ⟨b,7,none⟩=some (.int .i64 now)):
  Gives Tryz.prog 127 (#[.agg (encNt x).toArray] ++ #[.pointer (some ⟨b,0,none⟩)]) w (.bool (decide (now<x.1))):=by
 obtain⟨x1,x2⟩:=x
 have H:=Hs.start noRow w
 unfold Gives
 show Calls _ _ #[.agg #[.int .i64 x1,.int .i64 x2],.pointer (some ⟨b,0,none⟩)] _ _
 simp only
 go_enter Tryz.func127,Tryz.ntmps127
 go_wp2_with ((first|refine zL ?_|(refine zB 2 ?_;intro b2));clear H;intro wn H)
 go_ret
 exact⟨rfl,H.below⟩
theorem z9i(now:Int)(x:Bo)(cs:List Value)(b:Nat)(w:World)(h7:w.cell? ⟨b,7,none⟩=some (.int .i64 now))(hr:tyBo.rd w cs x):
  Gives Tryz.prog 125 (#[.agg cs.toArray] ++ #[.pointer (some ⟨b,0,none⟩)]) w (.bool (x.2.2.any fun n=>decide (now<n.1))):=by
 have eg1:∀args w,(callFunc 127 args).run Tryz.prog w = .ok (.enter 127 args) w:=enters_of Tryz.func127 (by kernel_rfl) rfl
 obtain⟨v1,v2,v3,rfl,g1,g2,g3⟩:=bo_form hr
 obtain⟨A,k,rfl,_,_⟩:=sl_form g1
 obtain⟨B,k2,rfl,_,_⟩:=sl_form g2
 obtain⟨D,k3,rfl,_,_⟩:=sl_form g3
 have hb7:b<w.heap.size:=World.block_lt_of_cell? _ _ h7
 have c1:=fun w1 (hb:Below w.heap.size w w1)=>containsFunc_Nt _ x.2.2 (fun n=>decide (now<n.1)) 127 #[.pointer (some ⟨b,0,none⟩)] w1 eg1 (Ty.below _ g3 hb) (fun w2 hb2 i y _=>z8s now y b w2 ((hb.trans (hb2.mono hb.size)).cell hb7 |>.trans h7))
 generalize (x.2.2.any fun n=>decide (now<n.1))=z at *
 generalize x.1.length=m1 at *
 generalize x.2.1.length=m2 at *
 generalize x.2.2.length=m3 at *
 clear hr g1 g2 g3 eg1 hb7
 have H:=Hs.start noRow w
 unfold Gives
 show Calls _ _ #[.agg #[.slice A m1 k,.slice B m2 k2,.slice D m3 k3],.pointer (some ⟨b,0,none⟩)] _ _
 go_enter Tryz.func125,Tryz.ntmps125
 go_wp2_with ((first|refine zL ?_|(refine zB 2 ?_;intro b2)|(go_at_call 126;refine gvF (c1 _ H.below) H ?_));clear H;intro wn H)
 go_ret
 exact⟨rfl,H.below⟩
theorem z3v(a:St)(cs:List Value)(hok:okSt a)(w:World)(hr:tySt.rd w cs a):Gives Tryz.prog 67 #[.agg cs.toArray] w (.bool (z0b a)):=by
 have eg1:∀args w,(callFunc 125 args).run Tryz.prog w = .ok (.enter 125 args) w:=enters_of Tryz.func125 (by kernel_rfl) rfl
 obtain⟨A1,n1,k1,A2,n2,k2,A3,n3,k3,A4,n4,k4,A5,n5,k5,A6,n6,k6,A7,n7,k7,rfl,g1,g2⟩:=St_form hr
 have c1:=fun w1 hb=>z4n a.1 _ (z7r hok).1 (z7r hok).2 w1 (Ty.below _ g1 hb)
 obtain⟨_,_,_,_,_,_,_,_,_,_,_,_,_,_,_,_,_,_,ey,gc,_,_,_⟩:=Yd_form g1
 injection ey with e1 ey
 injection ey with e2 ey
 injection ey with e3 ey
 rw[←e1,←e2,←e3] at gc
 clear ey e1 e2 e3
 have c2:=fun w1 hb=>mailRight_i a.1.1 _ _ a.2 w1 (Ty.below _ gc hb) (Ty.below _ g2 hb)
 have HG:=hY g2
 obtain⟨z,hz⟩:=nm (z0b a)
 rw[←hz]
 obtain⟨z1,hz1⟩:=nm (z0j a.1)
 obtain⟨z2,hz2⟩:=nm (mailOk a.1.1 a.2)
 have HZ:Hid (z=(z1&&(z2 && !z2d a.1.2.2.2.2 a.2))):=hY (by rw[hz,hz1,hz2];rfl)
 rw[←hz1] at c1
 rw[←hz2] at c2
 obtain⟨⟨c,nds,tks,uss,now⟩,m⟩:=a
 simp only at c1 c2 HG HZ
 replace c1:∀w1,Below w.heap.size w w1→Gives Tryz.prog 122 #[.agg #[.slice A1 n1 k1,.slice A2 n2 k2,.slice A3 n3 k3,.int .i64 c.2.2.2,.slice A4 n4 k4,.slice A5 n5 k5,.slice A6 n6 k6,.int .i64 now]] w1 (.bool z1):=c1
 replace c2:∀w1,Below w.heap.size w w1→Gives Tryz.prog 123 #[.agg #[.slice A1 n1 k1,.slice A2 n2 k2,.slice A3 n3 k3,.int .i64 c.2.2.2],.agg #[.slice A7 n7 k7]] w1 (.bool z2):=c2
 clear hr g1 g2 gc hz hz1 hz2 hok
 have H:=Hs.start noRow w
 unfold Gives
 show Calls _ _ #[.agg #[.slice A1 n1 k1,.slice A2 n2 k2,.slice A3 n3 k3,.int .i64 c.2.2.2,.slice A4 n4 k4,.slice A5 n5 k5,.slice A6 n6 k6,.int .i64 now,.slice A7 n7 k7]] _ _
 have hd:(z1=false∨(z1=true∧z2=false))∨(z1=true∧z2=true):=by cases z1 <;> cases z2 <;> simp
 rcases hd with hd|⟨rfl,rfl⟩
 ·have HZ9:Hid (z=false):=hY (by rw[HZ.out];rcases hd with rfl|⟨rfl,rfl⟩ <;> simp)
  rcases hd with rfl|⟨rfl,rfl⟩
  all_goals(
   go_enter Tryz.func67,Tryz.ntmps67
   go_wp2_with (first|refine zgU ?_|((first|refine zM ?_|(refine zB 1 ?_;intro b1)|(go_at_call 122;refine gvF (c1 _ H.below) H ?_)|(go_at_call 123;refine gvF (c2 _ H.below) H ?_));clear H;intro wn H))
   go_ret
   exact⟨by rw[HZ9.out];rfl,H.below⟩)
 have HZ9:Hid (z = !z2d now m):=hY (by rw[HZ.out];rfl)
 clear HZ
 go_enter Tryz.func67,Tryz.ntmps67
 go_wp2_with (first|((((with_reducible refine st_gwF ?_ ?_);rfl));(try refine zp ?_))|((first|refine zU ?_|(refine zB 1 ?_;intro b1)|(go_at_call 122;refine gvF (c1 _ H.below) H ?_)|(go_at_call 123;refine gvF (c2 _ H.below) H ?_));clear H;intro wn H))
 refine gvF (containsFunc_Bo _ m (fun b=>b.2.2.any fun x=>decide (now<x.1)) 125 #[.pointer (some ⟨b1,0,none⟩)] _ eg1 (Ty.below _ HG.out H.below) (fun w1 hb _ x cs _ hcs=>z9i now x cs b1 w1 (by have hc:=H.cell (g:=b1) (o:=7) iF rfl;exact(hb.cell (World.block_lt_of_cell? _ _ hc)).trans hc) hcs)) H ?_;clear H;intro wn H
 obtain⟨za,hza⟩:=nm ((m.any fun b=>b.2.2.any fun x=>decide (now<x.1)))
 rw[←hza]
 have HZ8:Hid (z = !za):=hY (by rw[HZ9.out,hza];rfl)
 clear hza HZ9
 go_wp2_with (fail)
 go_ret
 exact⟨by rw[HZ8.out] <;> rfl,H.below⟩
theorem z1q(a:St)(cs:List Value)(hok:okSt a)(w:World)(hr:tySt.rd w cs a):Gives Tryz.prog 46 #[.agg cs.toArray] w (.bool (z0b a)):=by
 obtain⟨A1,n1,k1,A2,n2,k2,A3,n3,k3,A4,n4,k4,A5,n5,k5,A6,n6,k6,A7,n7,k7,rfl,g1,g2⟩:=St_form hr
 have c1:=fun w1 hb=>z4i a.1 _ (z7r hok).1 (z7r hok).2 w1 (Ty.below _ g1 hb)
 obtain⟨_,_,_,_,_,_,_,_,_,_,_,_,_,_,_,_,_,_,ey,gc,_,_,_⟩:=Yd_form g1
 injection ey with e1 ey
 injection ey with e2 ey
 injection ey with e3 ey
 rw[←e1,←e2,←e3] at gc
 clear ey e1 e2 e3
 have c2:=fun w1 hb=>mailRight_s a.1.1 _ _ a.2 w1 (Ty.below _ gc hb) (Ty.below _ g2 hb)
 have hn7:=slN g2
 have hn71:=hn7.2
 have HN:=hY hn7.1
 have HG:=hY g2
 obtain⟨z,hz⟩:=nm (z0b a)
 rw[←hz]
 obtain⟨z1,hz1⟩:=nm (z0j a.1)
 obtain⟨z2,hz2⟩:=nm (mailOk a.1.1 a.2)
 have HZ:Hid (z=(z1&&(z2 && !z4z a.1.2.2.2.2 a.2))):=hY (by
  have e:z=(z1&&(z2 && !z2d a.1.2.2.2.2 a.2)):=by rw[hz,hz1,hz2];rfl
  rw[e]
  cases h:z2
  ·rfl
  ·rw[z7g (hz2.symm.trans h)])
 rw[←hz1] at c1
 rw[←hz2] at c2
 obtain⟨⟨c,nds,tks,uss,now⟩,m⟩:=a
 simp only at c1 c2 HG HZ HN
 replace c1:∀w1,Below w.heap.size w w1→Gives Tryz.prog 101 #[.agg #[.slice A1 n1 k1,.slice A2 n2 k2,.slice A3 n3 k3,.int .i64 c.2.2.2,.slice A4 n4 k4,.slice A5 n5 k5,.slice A6 n6 k6,.int .i64 now]] w1 (.bool z1):=c1
 replace c2:∀w1,Below w.heap.size w w1→Gives Tryz.prog 102 #[.agg #[.slice A1 n1 k1,.slice A2 n2 k2,.slice A3 n3 k3,.int .i64 c.2.2.2],.agg #[.slice A7 n7 k7]] w1 (.bool z2):=c2
 clear hr g1 g2 gc hz hz1 hz2 hok hn7
 have H:=Hs.start noRow w
 unfold Gives
 show Calls _ _ #[.agg #[.slice A1 n1 k1,.slice A2 n2 k2,.slice A3 n3 k3,.int .i64 c.2.2.2,.slice A4 n4 k4,.slice A5 n5 k5,.slice A6 n6 k6,.int .i64 now,.slice A7 n7 k7]] _ _
 have hd:(z1=false∨(z1=true∧z2=false))∨(z1=true∧z2=true):=by cases z1 <;> cases z2 <;> simp
 rcases hd with hd|⟨rfl,rfl⟩
 ·have HZ9:Hid (z=false):=hY (by rw[HZ.out];rcases hd with rfl|⟨rfl,rfl⟩ <;> simp)
  rcases hd with rfl|⟨rfl,rfl⟩
  all_goals(
   go_enter Tryz.func46,Tryz.ntmps46
   go_wp2_with (first|refine zgU ?_|((first|refine zM ?_|(refine zB 1 ?_;intro b1)|(go_at_call 101;refine gvF (c1 _ H.below) H ?_)|(go_at_call 102;refine gvF (c2 _ H.below) H ?_));clear H;intro wn H))
   go_ret
   exact⟨by rw[HZ9.out];rfl,H.below⟩)
 have HZ9:Hid (z = !((m.drop 0).any fun b=>z2l now b.2.2)):=hY (by rw[HZ.out];rfl)
 clear HZ
 go_enter Tryz.func46,Tryz.ntmps46
 go_wp2_with (first|((((with_reducible refine st_gwF ?_ ?_);rfl));(try refine zp ?_))|((first|refine zM ?_|(refine zB 1 ?_;intro b1)|(go_at_call 101;refine gvF (c1 _ H.below) H ?_)|(go_at_call 102;refine gvF (c2 _ H.below) H ?_));clear H;intro wn H))
 go_loopg [3] n7 (fun m' iv wr=>∃(i:Nat),i+m'=n7∧iv = .int .i64 i∧Hid (z = !((m.drop i).any fun b=>z2l now b.2.2))∧Hs noRow w [Hl.blk b1 57 #[.slice A1 n1 k1,.slice A2 n2 k2,.slice A3 n3 k3,.int .i64 c.2.2.2,.slice A4 n4 k4,.slice A5 n5 k5,.slice A6 n6 k6,.int .i64 now,.slice A7 n7 k7]] wr)
 case atStart=>exact⟨0,by omega,rfl,HZ9,H.sel sF⟩
 case round=>
  clear H HZ9
  obtain⟨i,hi,rfl,HI,H⟩:=hrel
  by_cases hlt:i<n7
  ·obtain ⟨x,hx⟩:=atE HN hlt
   have hs:=sl_at HG.out hx
   rw[←HN.out] at hs
   obtain⟨b,off,c',cs,hv,hcs,hA⟩:=hs
   injection hv with hv1 hv2 hv3
   subst hv1 hv3
   obtain⟨v1,v2,v3,rfl,g1,g2,g3⟩:=bo_form hcs
   obtain⟨D,k3',rfl,hl3,hm3⟩:=sl_form g3
   unfold maxLen at hm3
   have hstep:=HI.out
   rw[z8u hx] at hstep
   have h2:w.cell? ⟨b,off+i*3+2,none⟩=some (.slice D x.2.2.length k3'):=hA 2 _ rfl
   obtain⟨nl,hnl⟩:=nm x.2.2.length
   rw[←hnl] at h2 hl3
   have hlt1:(i:Int)<n7:=by omega
   by_cases h0:nl=0
   ·have hq:z2l now x.2.2=false:=by unfold z2l;rw[List.getElem?_eq_none (by omega)]
    rw[hq,Bool.false_or] at hstep
    have HK2:=hY hstep
    subst h0
    clear hstep hq hnl hx hv2 hA hcs g1 g2 g3 HI
    go_wp2_with (first|(refine zL ?_;clear H;intro wn H)|(refine zHq 7 ?_;(iterate 16 (all_goals((first|refine zhST ?_|refine zhV ?_))));all_goals(refine zHz ?_;clear H;intro wn H)))
    go_roundg (n7-(i+1))
    case measure=>omega
    case rel=>exact⟨i+1,by omega,by go_num,HK2,H.sel sF⟩
   ·obtain ⟨m',rfl⟩:∃m',nl=m'+1:=⟨nl-1,by omega⟩
    obtain⟨y,hy⟩:∃y,x.2.2[m']? = some y:=⟨x.2.2[m']'(by omega),List.getElem?_eq_getElem (by omega)⟩
    have hs2:=sl_at g3 hy
    rw[←hnl] at hs2
    obtain⟨bn,offn,cn,csn,hvn,hcsn,hN⟩:=hs2
    injection hvn with hvn1 hvn2 hvn3
    subst hvn1 hvn3
    obtain rfl:csn=encNt y:=hcsn
    have hq:z2l now x.2.2=decide (now<y.1):=by unfold z2l;rw[←hnl,show m'+1-1=m' from rfl,hy]
    rw[hq] at hstep
    obtain⟨y1,y2⟩:=y
    have h3:w.cell? ⟨bn,offn+m'*2,none⟩=some (.int .i64 y1):=hN 0 _ rfl
    have hm0:(0:Int)<(m':Int)+1:=by omega
    have hm1:(m':Int)+1-1<(m':Int)+1:=by omega
    have hm2:(m':Int)<(m':Int)+1:=by omega
    have hm4:m'<m'+1:=by omega
    have hm5:m'+1≤9223372036854775807:=by omega
    obtain⟨q,hqq⟩:=nm2 (decide (now<y1))
    rw[hqq] at hstep
    clear hq hnl hx hv2 hA hcs g1 g2 g3 HI hvn2 hN hy
    cases q
    ·have HK2:=hY hstep
     clear hstep
     go_wp2_with (first|(refine zL ?_;clear H;intro wn H)|(refine zHq 7 ?_;(iterate 16 (all_goals((first|(refine zhGT ?_;refine zhFWV ?_)|refine zhV ?_))));all_goals(refine zHz ?_;clear H;intro wn H)))
     go_roundg (n7-(i+1))
     case measure=>omega
     case rel=>exact⟨i+1,by omega,by go_num,by simpa using HK2,H.sel sF⟩
    ·have HZ9:Hid (z=false):=hY (by rw[hstep];rfl)
     clear hstep
     go_wp2_with (first|(refine zL ?_;clear H;intro wn H)|(refine zHq 7 ?_;(iterate 16 (all_goals((first|(refine zhGT ?_;refine zhFWV ?_)|refine zhV ?_))));all_goals(refine zHz ?_;clear H;intro wn H)))
     go_ret
     exact⟨by rw[HZ9.out];rfl,H.below⟩
  ·obtain rfl:i=n7:=by omega
   have hlt1:=nlt i
   have HZ9:Hid (z=true):=hY (by rw[HI.out,(drl HN)];rfl)
   clear HI
   go_wp2_with (refine zL ?_;clear H;intro wn H)
   go_ret
   exact⟨by rw[HZ9.out];rfl,H.below⟩
