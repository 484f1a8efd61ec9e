import Derived.Test.YtcabgibdkmgdlaaGreatJK
import Derived.Test.YtcabgibdkmgdlaaGreatGB
import Derived.Test.YtcabgibdkmgdlaaGreatJ5
import Derived.Test.YtcabgibdkmgdlaaGreatG7
set_option linter.unusedSimpArgs false
set_option linter.unusedVariables false
set_option maxRecDepth 100000
set_option maxHeartbeats 8000000
namespace Go.Proofs.YtcabgibdkmgdlaaGreat
open Go.RowKit M
namespace M
def z1m(run:Bool):List Bool→List Int→Option (List Bool)
 | u,[]=>some u
 | u,n::l=>if run&&(u[n.toNat]?).getD false then none else z1m run (u.set n.toNat ((u[n.toNat]?).getD false || run)) l
def z0y(nd:List (List Lab))(now:Int):List Bool→List Ta→Bool
 | _,[]=>true
 | u,x::l=>z6j nd now x&&(match z1m (tkSt x==2) u x.2 with
  | some u'=>z0y nd now u' l
  | none=>false)
theorem z1z:∀(l:List Int) (u:List Bool),z1m false u l=some u
 | [],u=>rfl
 | n::l,u=>by
  unfold z1m
  rw[Bool.false_and,if_neg (by simp),Bool.or_false]
  have e:u.set n.toNat ((u[n.toNat]?).getD false)=u:=by
   rcases Nat.lt_or_ge n.toNat u.length with h|h
   ·rw[List.getElem?_eq_getElem h]
    exact List.set_getElem_self h
   ·exact List.set_eq_of_length_le h
  rw[e]
  exact z1z l u
def z5j(u:List Bool):Array Value:=(u.map Value.bool).toArray
theorem z0q{u:List Bool}{n:Nat}{q:Bool}(h:n<u.length):splice (z5j u) n [.bool q]=z5j (u.set n q):=by
 unfold splice z5j
 congr 1
 rw[List.map_set,List.set_eq_take_append_cons_drop,if_pos (by rw[List.length_map];exact h)]
 simp
theorem z1a{u:List Bool}{n:Nat}{q:Bool}(h:u[n]? = some q):(z5j u)[n]? = some (.bool q):=by
 unfold z5j
 rw[List.getElem?_toArray,List.getElem?_map,h]
 rfl
theorem z1l{u:List Bool}{n:Nat}{v:Value}(h:n<u.length):n + [v].length≤(z5j u).size:=by
 unfold z5j
 rw[List.size_toArray,List.length_map]
 exact h
theorem z2c{l:List Ta}(h:tasksOk l=true):∀(i:Nat) (x:Ta),l[i]? = some x→taskOk x=true:=by
 unfold tasksOk at h
 rw[Bool.and_eq_true,allFrom_iff l.length 0 (by omega)] at h
 intro i x hx
 have h1:=h.2 i (by omega) (List.getElem?_eq_some_iff.1 hx).1
 unfold taskIn at h1
 rw[hx] at h1
 simp only[Bool.and_eq_true] at h1
 exact h1.1
theorem z5i{nd:List (List Lab)}{now:Int}{u:List Bool}{l:List Ta}{i:Nat}{x:Ta}(h:l[i]? = some x):z0y nd now u (l.drop i)=(z6j nd now x&&(match z1m (tkSt x==2) u x.2 with
  | some u'=>z0y nd now u' (l.drop (i+1))
  | none=>false)):=by
 obtain⟨hlt,rfl⟩:=List.getElem?_eq_some_iff.1 h
 rw[List.drop_eq_getElem_cons hlt]
 rfl
theorem z5l{run q:Bool}{u:List Bool}{l:List Int}{i:Nat}{n:Nat}(h:l[i]? = some (n:Int))(hq:u[n]? = some q):z1m run u (l.drop i)=if run&&q then none else z1m run (u.set n (q || run)) (l.drop (i+1)):=by
 obtain⟨hlt,e⟩:=List.getElem?_eq_some_iff.1 h
 rw[List.drop_eq_getElem_cons hlt,e]
 show (if run&&(u[(n:Int).toNat]?).getD false then none else z1m run (u.set (n:Int).toNat ((u[(n:Int).toNat]?).getD false || run)) (l.drop (i+1)))=_
 rw[Int.toNat_natCast,hq]
 rfl
def z0e(c:Cfg)(l:List Ta):Bool:=(labelsOf c.1).all fun a=>decide ((liveN a l:Int)≤quotaOf c a)
def z0i(c:Cfg)(l:List Us):Bool:=l.all fun x=>hasL (labelsOf c.1) x.1
def z0j(y:Yd):Bool:=cfgOk y.1&&(decide (y.2.1.length=y.1.1.length)&&(nodesOk y.2.1&&(tasksOk y.2.2.1&&(z0m y.2.2.2.1&&(isIn y.2.2.2.2 0 999900&&(z0y y.1.1 y.2.2.2.2 (List.replicate 6 false) y.2.2.1&&(z0e y.1 y.2.2.1&&z0i y.1 y.2.2.2.1)))))))
end M
theorem z9n(y:Yd)(ys:List Value)(x:Lab)(b:Nat)(hok:cfgOk y.1=true)(w:World)(hy:tyYd.rd w ys y)(hB:At w b 0 ys):
  Gives Tryz.prog 198 (#[.agg #[.int .i64 x.1,.int .i64 x.2]] ++ #[.pointer (some ⟨b,0,none⟩)]) w (.bool (decide (quotaOf y.1 x<(liveN x y.2.2.1:Int)))):=by
 obtain⟨A1,n1,k1,A2,n2,k2,A3,n3,k3,A4,n4,k4,A5,n5,k5,A6,n6,k6,rfl,g1,g2,g3,g4⟩:=Yd_form hy
 have c1:=fun w1 hb=>liveOf_i _ y.2.2.1 x w1 (Ty.below _ g3 hb)
 have c2:=fun w1 hb=>z6l y.1 _ x hok w1 (Ty.below _ g1 hb)
 have hA:At w b 0 [.slice A1 n1 k1,.slice A2 n2 k2,.slice A3 n3 k3,.int .i64 y.1.2.2.2]:=At.pre (us:=[.slice A4 n4 k4,.slice A5 n5 k5,.slice A6 n6 k6,.int .i64 y.2.2.2.2]) hB
 have h5:w.cell? ⟨b,5,none⟩=some (.slice A5 n5 k5):=by have h:=hB 5 (.slice A5 n5 k5) rfl;rw[Nat.zero_add] at h;exact h
 clear hy g1 g2 g3 g4 hB hok
 generalize (liveN x y.2.2.1:Int)=lv at *
 generalize quotaOf y.1 x=qv at *
 generalize y.1.2.2.2=hf at *
 obtain⟨x1,x2⟩:=x
 simp only at c1 c2
 replace c2:∀w1,Below w.heap.size w w1→Gives Tryz.prog 200 #[.agg #[.slice A1 n1 k1,.slice A2 n2 k2,.slice A3 n3 k3,.int .i64 hf],.agg #[.int .i64 x1,.int .i64 x2]] w1 (.int .i64 qv):=c2
 have H:=Hs.start noRow w
 unfold Gives
 show Calls _ _ #[.agg #[.int .i64 x1,.int .i64 x2],.pointer (some ⟨b,0,none⟩)] _ _
 go_enter Tryz.func198,Tryz.ntmps198
 go_wp2_with (first|(refine zB 2 ?_;clear H;intro b2 wn H)|(refine zHq 1 ?_;(iterate 3 (all_goals(refine zhFV ?_)));all_goals refine zHk (fun w1 H1=>c1 _ H1.below) ?_;(iterate 3 (all_goals(refine zhFAV ?_)));all_goals refine zHk (fun w1 H1=>c2 _ H1.below) ?_;(iterate 2 (all_goals(refine zhV ?_)));all_goals(refine zHz ?_;clear H;intro wn H)))
 go_ret
 exact⟨rfl,H.below⟩
theorem z9q(v:Value)(l:List Lab)(x:Us)(b:Nat)(w:World)(h0:w.cell? ⟨b,0,none⟩=some v)(hr:(Ty.sl 123 tyLab).rd w [v] l):
  Gives Tryz.prog 202 (#[.agg #[.int .i64 x.1.1,.int .i64 x.1.2,.string x.2.1,.int .i64 x.2.2]] ++ #[.pointer (some ⟨b,0,none⟩)]) w (.bool (!hasL l x.1)):=by
 have c1:=fun w1 hb=>contains_Lab v l x.1 w1 (Ty.below _ hr hb)
 obtain⟨A,c,rfl,_,_⟩:=sl_form hr
 obtain⟨⟨x1,x2⟩,x3,x4⟩:=x
 simp only at c1
 generalize hasL l (x1,x2)=z at *
 generalize l.length=n at *
 clear hr
 have H:=Hs.start noRow w
 unfold Gives
 show Calls _ _ #[.agg #[.int .i64 x1,.int .i64 x2,.string x3,.int .i64 x4],.pointer (some ⟨b,0,none⟩)] _ _
 go_enter Tryz.func202,Tryz.ntmps202
 go_wp2_with ((first|refine zU ?_|(refine zB 2 ?_;intro b2)|(go_at_call 203;refine gvF (c1 _ H.below) H ?_));clear H;intro wn H)
 go_ret
 exact⟨rfl,H.below⟩
theorem z7w(y:Yd)(ys:List Value)(h0:cfgOk y.1=false)(w:World)(hy:tyYd.rd w ys y):Gives Tryz.prog 122 #[.agg ys.toArray] w (.bool false):=by
 obtain⟨A1,n1,k1,A2,n2,k2,A3,n3,k3,A4,n4,k4,A5,n5,k5,A6,n6,k6,rfl,g1,g2,g3,g4⟩:=Yd_form hy
 have c1:=fun w1 hb=>configRight_i y.1 _ w1 (Ty.below _ g1 hb)
 rw[h0] at c1
 generalize y.1.2.2.2=hf at *
 generalize y.2.2.2.2=now at *
 clear hy g1 g2 g3 g4 h0
 replace c1:∀w1,Below w.heap.size w w1→Gives Tryz.prog 191 #[.agg #[.slice A1 n1 k1,.slice A2 n2 k2,.slice A3 n3 k3,.int .i64 hf]] w1 (.bool false):=c1
 have H:=Hs.start noRow w
 unfold Gives
 show Calls _ _ #[.agg #[.slice A1 n1 k1,.slice A2 n2 k2,.slice A3 n3 k3,.int .i64 hf,.slice A4 n4 k4,.slice A5 n5 k5,.slice A6 n6 k6,.int .i64 now]] _ _
 go_enter Tryz.func122,Tryz.ntmps122
 go_wp2_with (first|((((with_reducible refine st_gsF ?_ ?_);rfl));(try refine zp ?_))|((first|refine zM ?_|(refine zB 1 ?_;intro b1)|(go_at_call 191;refine gvF (c1 _ H.below) H ?_));clear H;intro wn H))
 go_ret
 exact⟨rfl,H.below⟩
theorem z4n(y:Yd)(ys:List Value)(hsT:∀(i:Nat) (x:Ta),y.2.2.1[i]? = some x→x.1.2.2.1.size≤maxLen)(hsU:∀(i:Nat) (x:Us),y.2.2.2.1[i]? = some x→x.2.1.size≤maxLen)(w:World)(hy:tyYd.rd w ys y):
  Gives Tryz.prog 122 #[.agg ys.toArray] w (.bool (z0j y)):=by
 by_cases hcf:cfgOk y.1=false
 ·have e:z0j y=false:=by unfold z0j;rw[hcf];rfl
  rw[e]
  exact z7w y ys hcf w hy
 have hct:cfgOk y.1=true:=by simpa using hcf
 clear hcf
 have eg1:∀args w,(callFunc 198 args).run Tryz.prog w = .ok (.enter 198 args) w:=enters_of Tryz.func198 (by kernel_rfl) rfl
 have eg2:∀args w,(callFunc 202 args).run Tryz.prog w = .ok (.enter 202 args) w:=enters_of Tryz.func202 (by kernel_rfl) rfl
 have HY:=hY hy
 obtain⟨A1,n1,k1,A2,n2,k2,A3,n3,k3,A4,n4,k4,A5,n5,k5,A6,n6,k6,rfl,g1,g2,g3,g4⟩:=Yd_form hy
 obtain⟨c,nds,tks,uss,now⟩:=y
 simp only at hsT hsU hct g1 g2 g3 g4
 have hn4:=(slN g2).1
 have hn5:=slN g3
 have hn1:n1=c.1.length:=by
  obtain⟨w1_,w2_,w3_,e0,g5,_,_⟩:=cfg_form g1
  injection e0 with e1
  obtain⟨_,_,e,h,h'⟩:=sl_form g5
  rw[←e1] at e
  injection e
 have c1:=fun w1 hb=>configRight_i c _ w1 (Ty.below _ g1 hb)
 have c2:=fun w1 hb=>nodesRight_i _ nds w1 (Ty.below _ g2 hb)
 have c3:=fun w1 hb=>tasksRight_i _ tks hsT w1 (Ty.below _ g3 hb)
 have c4:=fun w1 hb=>z4v _ uss hsU w1 (Ty.below _ g4 hb)
 have c5:=fun w1=>isNow_i now w1
 have HG1:=hY g1
 have HG3:=hY g3
 have HG4:=hY g4
 have hn51:=hn5.2
 have HN:=hY hn5.1
 obtain⟨z,hz⟩:=nm (z0j (c,nds,tks,uss,now))
 show Gives Tryz.prog _ #[.agg #[.slice A1 n1 k1,.slice A2 n2 k2,.slice A3 n3 k3,.int .i64 c.2.2.2,.slice A4 n4 k4,.slice A5 n5 k5,.slice A6 n6 k6,.int .i64 now]] w (.bool (z0j (c,nds,tks,uss,now)))
 rw[←hz]
 have HZ:Hid (z=(cfgOk c&&(decide (n4=n1)&&(nodesOk nds&&(tasksOk tks&&(z0m uss&&(isIn now 0 999900&&(z0y c.1 now (List.replicate 6 false) tks&&(z0e c tks&&z0i c uss))))))))):=hY (by rw[hz,hn4,hn1];rfl)
 have HOK:Hid (cfgOk c=true→c.1.length≤6∧clearOk c.1=true):=hY fun h=>⟨(cfg_nodes h).2,z2k h⟩
 have HTA:Hid (tasksOk tks=true → ∀(i:Nat) (x:Ta),tks[i]? = some x→taskOk x=true):=hY z2c
 have HNW:Hid (isIn now 0 999900=true→0≤now∧now≤999900):=hY fun h=>by unfold isIn at h;simpa using h
 obtain⟨z1,hz1⟩:=nm (cfgOk c)
 obtain⟨z3,hz3⟩:=nm (nodesOk nds)
 obtain⟨z4,hz4⟩:=nm (tasksOk tks)
 obtain⟨z5,hz5⟩:=nm (z0m uss)
 obtain⟨z6,hz6⟩:=nm (isIn now 0 999900)
 have HC:Hid (z1=cfgOk c):=hY hz1
 rw[←hz1,←hz3,←hz4,←hz5,←hz6] at HZ
 rw[←hz1] at c1 HOK
 rw[←hz3] at c2
 rw[←hz4] at c3 HTA
 rw[←hz5] at c4
 rw[←hz6] at c5 HNW
 replace c1:∀w1,Below w.heap.size w w1→Gives Tryz.prog 191 #[.agg #[.slice A1 n1 k1,.slice A2 n2 k2,.slice A3 n3 k3,.int .i64 c.2.2.2]] w1 (.bool z1):=c1
 obtain rfl:z1=true:=HC.out.trans hct
 clear hy hz g1 g2 g3 g4 hsT hsU hn1 hn4 hn5 hz1 hz3 hz4 hz5 hz6 hct
 have H:=Hs.start noRow w
 unfold Gives
 by_cases hl:n4=n1
 case neg=>
  have hl1:((n4:Int)==(n1:Int))=false:=beq_eq_false_iff_ne.2 (by omega)
  have hl2:¬(n4:Int)=n1:=by omega
  have hl3:((n4:Int) != (n1:Int))=true:=bne_iff_ne.2 (by omega)
  have HZ9:Hid (z=false):=hY (by rw[HZ.out,decide_eq_false hl];simp)
  go_enter Tryz.func122,Tryz.ntmps122
  go_wp2_with (first|refine zgU ?_|((first|refine zU ?_|(refine zB 1 ?_;intro b1)|(go_at_call 191;refine gvF (c1 _ H.below) H ?_));clear H;intro wn H))
  go_ret
  exact⟨by rw[HZ9.out];rfl,H.below⟩
 subst hl
 have hd:(z3=false∨(z3=true∧z4=false)∨(z3=true∧z4=true∧z5=false)∨(z3=true∧z4=true∧z5=true∧z6=false))∨(z3=true∧z4=true∧z5=true∧z6=true):=by cases z3 <;> cases z4 <;> cases z5 <;> cases z6 <;> simp
 rcases hd with hd|⟨rfl,rfl,rfl,rfl⟩
 ·have HZ9:Hid (z=false):=hY (by rw[HZ.out];rcases hd with rfl|⟨rfl,rfl⟩|⟨rfl,rfl,rfl⟩|⟨rfl,rfl,rfl,rfl⟩ <;> simp)
  rcases hd with rfl|⟨rfl,rfl⟩|⟨rfl,rfl,rfl⟩|⟨rfl,rfl,rfl,rfl⟩
  all_goals(
   go_enter Tryz.func122,Tryz.ntmps122
   go_wp2_with (first|refine zgU ?_|((first|refine zU ?_|(refine zB 1 ?_;intro b1)|(go_at_call 191;refine gvF (c1 _ H.below) H ?_)|(go_at_call 192;refine gvF (c2 _ H.below) H ?_)|(go_at_call 193;refine gvF (c3 _ H.below) H ?_)|(go_at_call 194;refine gvF (c4 _ H.below) H ?_)|(go_at_call 195;refine gvF (c5 _) H ?_));clear H;intro wn H))
   go_ret
   exact⟨by rw[HZ9.out];rfl,H.below⟩)
 have HZ1:Hid (z=(z0y c.1 now (List.replicate 6 false) (tks.drop 0)&&(z0e c tks&&z0i c uss))):=hY (by rw[HZ.out];simp)
 have HOK2:=hY (HOK.out rfl)
 have HTA2:=hY (HTA.out rfl)
 have HNW2:=hY (HNW.out rfl)
 clear HZ HOK HTA HNW
 go_enter Tryz.func122,Tryz.ntmps122
 go_wp2_with (first|((((with_reducible refine st_gwF ?_ ?_);rfl));(try refine zp ?_))|((first|refine zU ?_|(refine zB 1 ?_;intro b1)|(refine zA 3 ?_;intro b3)|(go_at_call 191;refine gvF (c1 _ H.below) H ?_)|(go_at_call 192;refine gvF (c2 _ H.below) H ?_)|(go_at_call 193;refine gvF (c3 _ H.below) H ?_)|(go_at_call 194;refine gvF (c4 _ H.below) H ?_)|(go_at_call 195;refine gvF (c5 _) H ?_));clear H;intro wn H))
 rw[show (#[.bool false,.bool false,.bool false,.bool false,.bool false,.bool false]:Array Value)=z5j (List.replicate 6 false) from rfl] at H
 go_loopg [5,7,51,62] n5 (fun m _ _ iv _ wr=>∃(i:Nat) (u:List Bool),i+m=n5∧iv = .int .i64 i∧u.length=6∧Hid (z=(z0y c.1 now u (tks.drop i)&&(z0e c tks&&z0i c uss)))∧Hs noRow w [Hl.blk b3 261 (z5j u),Hl.blk b1 52 #[.slice A1 n4 k1,.slice A2 n2 k2,.slice A3 n3 k3,.int .i64 c.2.2.2,.slice A4 n4 k4,.slice A5 n5 k5,.slice A6 n6 k6,.int .i64 now]] wr)
 case atStart=>exact⟨0,List.replicate 6 false,by omega,rfl,rfl,HZ1,H.sel sF⟩
 case round=>
  clear H HZ1
  obtain⟨i,u,hi,rfl,hu6,HI,H⟩:=hrel
  by_cases hlt:i<n5
  ·obtain ⟨x,hx⟩:=atE HN hlt
   have hs:=sl_at HG3.out hx
   rw[←HN.out] at hs
   obtain⟨b,off,c',cs,hv,hcs,hA⟩:=hs
   injection hv with hv1 hv2 hv3
   subst hv1 hv3
   have hto:=HTA2.out i x hx
   have hstep:=HI.out
   rw[z5i hx] at hstep
   have c6:=fun w1 hb=>z6d (c,nds,tks,uss,now) _ x cs HOK2.out.1 hto HNW2.out w1 (Ty.below _ HY.out hb) (Ty.below _ hcs hb)
   have hq3:∀n ∈ x.2,0≤n∧n≤5:=by
    obtain⟨⟨⟨l1,l2⟩,id,ow,need,long,prio,⟨u1,u2⟩,aft,born,st,start⟩,nodes⟩:=x
    exact(z0w hto).2.2
   obtain⟨A,nk,kk,rfl,h1⟩:=Ta_form hcs
   have hnk:=slN h1
   have hnk2:=hnk.2
   have HNK:=hY hnk.1
   have HM:=hY h1
   have HQ3:=hY hq3
   have hlt1:(i:Int)<n5:=by omega
   generalize hfz:z6j c.1 now x=fz at *
   obtain⟨⟨⟨l1,l2⟩,id,ow,need,long,prio,⟨u1,u2⟩,aft,born,st,start⟩,nodes⟩:=x
   simp only at hA c6 hstep HNK HM HQ3
   have hA:At w b (off+i*14) [.int .i64 l1,.int .i64 l2,.int .i64 id,.string ow,.int .i64 need,.int .i64 long,.int .i64 prio,.int .i64 u1,.int .i64 u2,.int .i64 aft,.int .i64 born,.int .i64 st,.int .i64 start,.slice A nk kk]:=hA
   replace c6:∀w1,Below w.heap.size w w1→Gives Tryz.prog 196 #[.agg #[.slice A1 n4 k1,.slice A2 n2 k2,.slice A3 n3 k3,.int .i64 c.2.2.2,.slice A4 n4 k4,.slice (some ⟨b,off,none⟩) n5 k5,.slice A6 n6 k6,.int .i64 now],.agg #[.int .i64 l1,.int .i64 l2,.int .i64 id,.string ow,.int .i64 need,.int .i64 long,.int .i64 prio,.int .i64 u1,.int .i64 u2,.int .i64 aft,.int .i64 born,.int .i64 st,.int .i64 start,.slice A nk kk]] w1 (.bool fz):=c6
   clear hx hv2 hto hq3 hcs h1 hnk HI hfz
   cases fz
   ·have HZ9:Hid (z=false):=hY (by rw[hstep];rfl)
    clear hstep
    go_wp2_with ((first|refine zU ?_|(refine zA 5 ?_;intro b5)|(go_at_call 196;refine gvF (c6 _ H.below) H ?_));clear H;intro wn H)
    go_ret
    exact⟨by rw[HZ9.out];rfl,H.below⟩
   obtain⟨run,hrun⟩:=nm2 ((st==2))
   have hstep:z=((match z1m run u (nodes.drop 0) with
    | some u'=>z0y c.1 now u' (tks.drop (i+1))
    | none=>false)&&(z0e c tks&&z0i c uss)):=by rw[hstep,←hrun];rfl
   have HK0:Hid (z=((match z1m run u (nodes.drop 0) with
    | some u'=>z0y c.1 now u' (tks.drop (i+1))
    | none=>false)&&(z0e c tks&&z0i c uss))):=hY hstep
   clear hstep
   go_wp2_with ((first|refine zU ?_|(refine zA 5 ?_;intro b5)|(go_at_call 196;refine gvF (c6 _ H.below) H ?_));clear H;intro wn H)
   go_loopg [7,62] nk (fun m _ kv wr=>∃(k:Nat) (u:List Bool),k+m=nk∧kv = .int .i64 k∧u.length=6∧Hid (z=((match z1m run u (nodes.drop k) with
    | some u'=>z0y c.1 now u' (tks.drop (i+1))
    | none=>false)&&(z0e c tks&&z0i c uss)))∧Hs noRow w [Hl.blk b5 177 #[.int .i64 l1,.int .i64 l2,.int .i64 id,.string ow,.int .i64 need,.int .i64 long,.int .i64 prio,.int .i64 u1,.int .i64 u2,.int .i64 aft,.int .i64 born,.int .i64 st,.int .i64 start,.slice A nk kk],Hl.blk b3 261 (z5j u),Hl.blk b1 52 #[.slice A1 n4 k1,.slice A2 n2 k2,.slice A3 n3 k3,.int .i64 c.2.2.2,.slice A4 n4 k4,.slice (some ⟨b,off,none⟩) n5 k5,.slice A6 n6 k6,.int .i64 now]] wr)
   case atStart=>exact⟨0,u,by omega,rfl,hu6,HK0,H.sel sF⟩
   case round=>
    clear H HK0 hu6
    obtain⟨k,u,hk,rfl,hu6,HK,H⟩:=hrel
    by_cases hltk:k<nk
    ·obtain ⟨n,hn⟩:=atE HNK hltk
     have hs:=sl_at HM.out hn
     rw[←HNK.out] at hs
     obtain⟨bn,offn,c'',cs,hv,hcs,hN⟩:=hs
     injection hv with hv1 hv2 hv3
     subst hv1 hv3
     obtain rfl:cs=encNum n:=hcs
     have hn5:=HQ3.out n (List.mem_of_getElem? hn)
     obtain⟨n,rfl⟩:∃m:Nat,n=(m:Int):=⟨n.toNat,by omega⟩
     have h0:w.cell? ⟨bn,offn+k,none⟩=some (.int .i64 n):=by have h:=hN.head (u := .int .i64 n) rfl;rw[show k*tyNum.s=k from Nat.mul_one k] at h;exact h
     have hnn:n<u.length:=by omega
     have hn6:n<6:=by omega
     have hn7:(n:Int)<6:=by omega
     obtain⟨q,hq⟩:∃q,u[n]? = some q:=⟨u[n],List.getElem?_eq_getElem hnn⟩
     have hstep:=HK.out
     rw[z5l hn hq] at hstep
     have hltk1:(k:Int)<nk:=by omega
     clear hn hv2 hN HK
     cases run
     case true=>
      cases q
      case true=>
       have HZ9:Hid (z=false):=hY (by rw[hstep];rfl)
       clear hstep
       go_wp2_with (first|((with_reducible apply st_load1 H);decide +kernel;rfl;(focus exact H.cell iF (z1a (by assumption)));clear H;intro wn H;refine zp ?_)|((((with_reducible refine st_gwT ?_ ?_);rfl));(try refine zp ?_))|(refine zL ?_;clear H;intro wn H))
       go_ret
       exact⟨by rw[HZ9.out];rfl,H.below⟩
      case false=>
       have HK2:=hY hstep
       clear hstep
       go_wp2_with (first|((with_reducible apply st_load1 H);decide +kernel;rfl;(focus exact H.cell iF (z1a (by assumption)));clear H;intro wn H;refine zp ?_)|((with_reducible apply st_store H);rfl;exact eF;(focus(exact(rfl:_ = [_])));exact uF;kernel_rfl;(focus exact z1l hnn);rfl;clear H;intro wn H;rw[z0q hnn] at H;refine zp ?_)|refine zgU ?_|(refine zL ?_;clear H;intro wn H))
       go_roundg (nk-(k+1))
       case measure=>omega
       case rel=>first|exact⟨k+1,u.set n true,by omega,by go_num,by rw[List.length_set];exact hu6,HK2,H.sel sF⟩|exact⟨k+1,u.set n false,by omega,by go_num,by rw[List.length_set];exact hu6,HK2,H.sel sF⟩
     case false=>
      cases q
      all_goals(
       have HK2:=hY hstep
       clear hstep
       go_wp2_with (first|((with_reducible apply st_load1 H);decide +kernel;rfl;(focus exact H.cell iF (z1a (by assumption)));clear H;intro wn H;refine zp ?_)|((with_reducible apply st_store H);rfl;exact eF;(focus(exact(rfl:_ = [_])));exact uF;kernel_rfl;(focus exact z1l hnn);rfl;clear H;intro wn H;rw[z0q hnn] at H;refine zp ?_)|refine zgU ?_|(refine zL ?_;clear H;intro wn H))
       go_roundg (nk-(k+1))
       case measure=>omega
       case rel=>first|exact⟨k+1,u.set n true,by omega,by go_num,by rw[List.length_set];exact hu6,HK2,H.sel sF⟩|exact⟨k+1,u.set n false,by omega,by go_num,by rw[List.length_set];exact hu6,HK2,H.sel sF⟩)
    ·obtain rfl:k=nk:=by omega
     have hltk1:=nlt k
     have HI2:Hid (z=(z0y c.1 now u (tks.drop (i+1))&&(z0e c tks&&z0i c uss))):=hY (by
      rw[HK.out,(drl HNK)]
      cases run <;> rfl)
     clear HK
     go_wp2_with (fail)
     go_roundg (n5-(i+1))
     case measure=>omega
     case rel=>exact⟨i+1,u,by omega,by go_num,hu6,HI2,H.sel sF⟩
  ·obtain rfl:i=n5:=by omega
   have hlt1:=nlt i
   have HE:Hid (z=(z0e c tks&&z0i c uss)):=hY (by rw[HI.out,(drl HN)];rfl)
   clear HI
   obtain⟨_,_,_,e0,g5,_,_⟩:=cfg_form HG1.out
   injection e0 with e1 e0
   injection e0 with e2 e0
   injection e0 with e3 e0
   subst e1 e2 e3
   clear e0
   have c7:=fun w1 hb=>labels_i (.slice A1 n4 k1) A2 A3 n2 k2 n3 k3 c.2.2.2 c.1 HOK2.out.2 w1 (Ty.below _ g5 hb)
   clear g5 c1 c2 c3 c4 c5
   go_wp2_with (refine zM ?_;clear H;intro wn H)
   refine(Rets.use (c7 _ H.below)).mono ?_;rintro e wn ⟨_,_,rfl,⟨N,hN,rfl,hone⟩,hkk⟩;refine zK ?_;clear H hkk;intro H
   have hN2:=own_single hN hone rfl
   clear hN hone c7
   obtain⟨B,cb,rfl,_,_⟩:=sl_form (own_rd H .here hN2)
   have HN2:=hY hN2
   clear hN2
   generalize (labelsOf c.1).length=kl at *
   go_wp2_with ((first|refine zU ?_|(refine zA 8 ?_;intro b8));clear H;intro wn H)
   refine gvF (containsFunc_Lab _ (labelsOf c.1) (fun a=>decide (quotaOf c a<(liveN a tks:Int))) 198 #[.pointer (some ⟨b1,0,none⟩)] _ eg1 (own_rd H iF HN2.out) (fun w1 hb _ x _=>z9n (c,nds,tks,uss,now) _ x b1 HC.out.symm w1 (Ty.below _ HY.out (H.below.trans (hb.mono H.below.size))) (fun j u hu=>by rw[Nat.zero_add];have hc:=H.cell (g:=b1) (o:=j) (v:=u) iF (by simpa using hu);exact(hb.cell (World.block_lt_of_cell? _ _ hc)).trans hc))) H ?_;clear H;intro wn H
   obtain⟨zl,hzl⟩:=nm ((labelsOf c.1).any (fun a=>decide (quotaOf c a<(liveN a tks:Int))))
   rw[←hzl]
   have HZL:Hid (z0e c tks = !zl):=hY (by
    rw[hzl,any_not_all (p:=fun a=>decide ((liveN a tks:Int)≤quotaOf c a)) (fun a=>by by_cases h:(liveN a tks:Int)≤quotaOf c a <;> simp[h] <;> omega),Bool.not_not]
    rfl)
   clear hzl
   cases zl
   case true=>
    have HZ9:Hid (z=false):=hY (by rw[HE.out,HZL.out];rfl)
    go_wp2_with (fail)
    go_ret
    exact⟨by rw[HZ9.out];rfl,H.below⟩
   case false=>
    have HZ9:Hid (z=z0i c uss):=hY (by rw[HE.out,HZL.out];rfl)
    go_wp2_with (refine zL ?_;clear H;intro wn H)
    refine gvF (containsFunc_Us _ uss (fun x=>!hasL (labelsOf c.1) x.1) 202 #[.pointer (some ⟨b8,0,none⟩)] _ eg2 (Ty.below _ HG4.out H.below) (fun w1 hb _ x _=>z9q _ (labelsOf c.1) x b8 w1 (by have hc:=H.cell (g:=b8) (o:=0) iF rfl;exact(hb.cell (World.block_lt_of_cell? _ _ hc)).trans hc) (Ty.below _ (own_rd H iF HN2.out) hb))) H ?_;clear H;intro wn H
    rw[any_not_all (p:=fun x:Us=>hasL (labelsOf c.1) x.1) (fun _=>rfl) uss]
    rw[show (uss.all fun x:Us=>hasL (labelsOf c.1) x.1)=z from HZ9.out.symm]
    go_wp2_with (fail)
    go_ret
    exact⟨by simp,H.below⟩
end Go.Proofs.YtcabgibdkmgdlaaGreat
namespace Go.Proofs.YtcabgibdkmgdlaaGreat
open Go.RowKit M
theorem z1u(v:Value)(l:List Us)(hs:∀(i:Nat) (x:Us),l[i]? = some x→x.2.1.size≤maxLen)(w:World)(hr:(Ty.sl 180 tyUs).rd w [v] l):Gives Tryz.prog 175 #[v] w (.bool (z2x l)):=by
 obtain⟨A,c,rfl,hlc,hcm⟩:=sl_form hr
 have HS:=hY hs
 clear hs
 unfold maxLen at hcm
 have HR:=hY hr
 obtain⟨n,hn⟩:=nm l.length
 have hnl:n≤9223372036854775807:=by omega
 have hnc:n≤c:=by omega
 rw[←hn] at HR ⊢
 have HN:=hY hn
 obtain⟨f,hf'⟩:∃f,f=z2e l:=⟨_,rfl⟩
 have HF:=hY hf'
 obtain⟨z,hz⟩:=nm (z2x l)
 rw[←hz]
 have HZ:Hid (z=(decide (n≤48)&&allFrom f n 0)):=hY (by rw[hz,hf',hn];rfl)
 clear hr hn hlc hcm hz hf'
 have H:=Hs.start noRow w
 unfold Gives
 by_cases hm:48<n
 ·have HZ2:Hid (z=false):=hY (by rw[HZ.out];simp;omega)
  have hm':(48:Int)<(n:Int):=by omega
  clear HZ
  go_enter Tryz.func175,Tryz.ntmps175
  go_wp2_with (fail)
  go_ret
  exact⟨by rw[HZ2.out];rfl,H.below⟩
 have HZ3:Hid (z=allFrom f n 0):=hY (by rw[HZ.out];simp;omega)
 have hm':¬(48:Int)<(n:Int):=by omega
 clear HZ
 have HZ:=HZ3
 clear HZ3
 go_enter Tryz.func175,Tryz.ntmps175
 go_wp2_with (fail)
 go_loopg [3,4] n (fun m sv iv wr=>∃(i:Nat),i+m=n∧iv = .int .i64 i∧sv = .int .i64 (z3h l i)∧Hid (z=allFrom f n i)∧Hid (∀j x,j<i→l[j]? = some x→okL x.1=true)∧Hs noRow w [] wr)
 case atStart=>exact⟨0,by omega,rfl,rfl,HZ,hY (fun j x h=>by omega),H⟩
 case round=>
  clear H HZ
  obtain⟨i,hi,rfl,rfl,HI,HO,H⟩:=hrel
  have hrn:=z6w l i
  by_cases hlt:i<n
  ·obtain ⟨x,b,off,cs,hx,rfl,hv2,hcs,hA⟩:=slE HR HN hlt
   obtain rfl:cs=encUs x:=hcs
   have hstep:=HI.out
   have hfi:f i=(z0l x&&(z0u l i x && !decide (6<z3h l (i+1)))):=by rw[HF.out];unfold z2e;rw[hx]
   rw[allFrom_step hlt,hfi] at hstep
   clear hfi
   have hlt1:(i:Int)<n:=by omega
   have c2:=fun w1=>nameRight_s x.2.1 (HS.out i x hx) w1
   obtain⟨⟨x1,x2⟩,ow,us⟩:=x
   unfold encUs at hA
   unfold z0l at hstep
   simp only at hA hstep c2
   have c1:=fun w1=>labelRight_s x1 x2 w1
   have c3:=fun w1=>is_s us 1 100000 w1
   have e1:okL (x1,x2)=labelOk x1 x2:=rfl
   have e3:isIn us 1 100000=(decide ((1:Int)≤us)&&decide (us≤100000)):=rfl
   rw[e1,e3] at hstep
   have HO2:labelOk x1 x2=true→Hid (∀j x,j<i+1→l[j]? = some x→okL x.1=true):=fun h=>hY (fun j y hj hy=>by
    by_cases h2:j<i
    ·exact HO.out j y h2 hy
    ·obtain rfl:j=i:=by omega
     rw[hx] at hy
     injection hy with hy
     subst hy
     exact h)
   have hok:labelOk x1 x2=true→okL ((x1,x2):Lab)=true:=fun h=>h
   have HX:=hY hx
   have hB1:AtN 2 w b (off+i*4) [.int .i64 x1,.int .i64 x2]:=⟨At.pre hA,rfl⟩
   have hB2:w.cell? ⟨b,off+i*4+1+1,none⟩=some (.string ow):=hA 2 _ rfl
   have hB3:w.cell? ⟨b,off+i*4+1+1+1,none⟩=some (.int .i64 us):=hA 3 _ rfl
   have hB4:AtN 4 w b (off+i*4) [.int .i64 x1,.int .i64 x2,.string ow,.int .i64 us]:=⟨hA,rfl⟩
   clear hx hv2 HI e1 e3 hA
   generalize labelOk x1 x2=zl at *
   generalize nameOk ow.data.toList=zn at *
   generalize (decide ((1:Int)≤us)&&decide (us≤100000))=zu at *
   have hd:(zl=false∨(zl=true∧zn=false)∨(zl=true∧zn=true∧zu=false))∨(zl=true∧zn=true∧zu=true):=by cases zl <;> cases zn <;> cases zu <;> simp
   rcases hd with hd|⟨rfl,rfl,rfl⟩
   ·rcases hd with rfl|⟨rfl,rfl⟩|⟨rfl,rfl,rfl⟩
    all_goals(
     have HI2:Hid (z=false):=hY (by rw[hstep];simp)
     clear hstep
     go_wp2_with (refine zHq 7 ?_;(iterate 5 (all_goals(refine zhNV ?_)));all_goals refine zHk (fun w1 H1=>c1 _) ?_;(iterate 7 (all_goals((first|(refine zhGF ?_;refine zhFV ?_)|refine zhSF ?_|refine zhV ?_))));all_goals(first|(refine zhGF ?_;refine zHk (fun w1 H1=>c2 _) ?_)|refine zhSF ?_);(iterate 8 (all_goals((first|(refine zhGF ?_;refine zhFV ?_)|refine zhSF ?_|refine zhV ?_))));all_goals(first|(refine zhGF ?_;refine zHk (fun w1 H1=>c3 _) ?_)|refine zhSF ?_);(iterate 19 (all_goals((first|(refine zhGF ?_;refine zhV ?_)|refine zhSF ?_|refine zhSk ?_|refine zhV ?_))));all_goals(refine zHz ?_;clear H;intro wn H))
     go_ret
     exact⟨by rw[HI2.out];rfl,H.below⟩)
   have HO3:=HO2 rfl
   have hok2:=hok rfl
   clear HO2 HO hok
   cases i with
   | zero=>
    rw[show z0u l 0 ((x1,x2),ow,us)=true from rfl,show z3h l (0+1)=1 from rfl] at hstep
    have HI2:Hid (z=allFrom f n (0+1)):=hY (by rw[hstep];simp)
    clear hstep HX hok2
    rw[show z3h l 0=0 from rfl] at *
    go_wp2_with (first|(refine zHq 7 ?_;(iterate 5 (all_goals(refine zhNV ?_)));all_goals refine zHk (fun w1 H1=>c1 _) ?_;(iterate 7 (all_goals((first|(refine zhGF ?_;refine zhFV ?_)|refine zhV ?_))));all_goals(refine zhGF ?_;refine zHk (fun w1 H1=>c2 _) ?_);(iterate 8 (all_goals((first|(refine zhGF ?_;refine zhFV ?_)|refine zhV ?_))));all_goals(refine zhGF ?_;refine zHk (fun w1 H1=>c3 _) ?_);(iterate 19 (all_goals((first|(refine zhGF ?_;refine zhV ?_)|refine zhST ?_|refine zhV ?_))));all_goals(refine zHz ?_;clear H;intro wn H))|(refine zHq 9 ?_;(iterate 16 (all_goals((first|refine zhST ?_|refine zhV ?_))));all_goals(refine zHz ?_;clear H;intro wn H)))
    go_roundg (n-(0+1))
    case measure=>omega
    case rel=>exact⟨0+1,by omega,by go_num,rfl,HI2,HO3,H.sel sF⟩
   | succ j=>
    obtain⟨y,hy⟩:=atE (i:=j) HN (by omega)
    have hs2:=sl_at (by have:=HR.out;rw[HN.out] at this;exact this) hy
    rw[←HN.out] at hs2
    obtain⟨b3,off3,c3',cs3,hw,hcs3,hB⟩:=hs2
    injection hw with hw1 hw2 hw3
    injection hw1 with hw1
    injection hw1 with hw4 hw5
    subst hw3 hw4 hw5
    obtain rfl:cs3=encUs y:=hcs3
    have c5:=fun w1=>z9o y ((x1,x2),ow,us) (HO3.out j y (by omega) hy) hok2 w1
    unfold z0u at hstep
    simp only[hy] at hstep
    have hrun:z3h l (j+1+1)=if eqB y.1 (x1,x2) then z3h l (j+1)+1 else 1:=by
     show z3h l (j+2)=_
     rw[z3h]
     simp only[hy,HX.out]
    rw[hrun] at hstep
    have HRU:=hY hrun
    clear hrun hok2
    obtain⟨⟨y1,y2⟩,yo,yu⟩:=y
    unfold encUs at hB
    simp only at hB hstep c5 HRU
    have hC1:AtN 2 w b (off+j*4) [.int .i64 y1,.int .i64 y2]:=⟨At.pre hB,rfl⟩
    have hC4:AtN 4 w b (off+j*4) [.int .i64 y1,.int .i64 y2,.string yo,.int .i64 yu]:=⟨hB,rfl⟩
    generalize z3i ((y1,y2),yo,yu) ((x1,x2),ow,us)=q at *
    obtain⟨e,he⟩:=nm2 (eqB (y1,y2) (x1,x2))
    rw[he] at hstep HRU
    generalize z3h l (j+1)=rr at *
    have hlt2:(j:Int)<n:=by omega
    have hlt3:j<n:=by omega
    have hpos:(0:Int)<(j:Int)+1:=by omega
    have hlt4:(j:Int)+1<n:=by omega
    have hlt5:j+1<n:=by omega
    clear hy hw2 hB HX
    cases q
    ·have HI2:Hid (z=false):=hY (by rw[hstep];simp)
     clear hstep HRU he
     go_wp2_with (refine zHq 7 ?_;(iterate 5 (all_goals(refine zhNV ?_)));all_goals refine zHk (fun w1 H1=>c1 _) ?_;(iterate 7 (all_goals((first|(refine zhGF ?_;refine zhFV ?_)|refine zhV ?_))));all_goals(refine zhGF ?_;refine zHk (fun w1 H1=>c2 _) ?_);(iterate 8 (all_goals((first|(refine zhGF ?_;refine zhFV ?_)|refine zhV ?_))));all_goals(refine zhGF ?_;refine zHk (fun w1 H1=>c3 _) ?_);(iterate 15 (all_goals((first|((first|refine zhGF ?_|refine zhGT ?_);refine zhNWV ?_)|refine zhV ?_))));all_goals(refine zhGT ?_;refine zHk (fun w1 H1=>c5 _) ?_);(iterate 3 (all_goals((first|((first|refine zhGT ?_|refine zhGF ?_);refine zhV ?_)|refine zhV ?_))));all_goals(refine zHz ?_;clear H;intro wn H))
     go_ret
     exact⟨by rw[HI2.out];rfl,H.below⟩
    cases e
    ·have HI2:Hid (z=allFrom f n (j+1+1)):=hY (by rw[hstep];simp)
     clear hstep
     go_wp2_with (first|(refine zHq 7 ?_;(iterate 5 (all_goals(refine zhNV ?_)));all_goals refine zHk (fun w1 H1=>c1 _) ?_;(iterate 7 (all_goals((first|(refine zhGF ?_;refine zhFV ?_)|refine zhV ?_))));all_goals(refine zhGF ?_;refine zHk (fun w1 H1=>c2 _) ?_);(iterate 8 (all_goals((first|(refine zhGF ?_;refine zhFV ?_)|refine zhV ?_))));all_goals(refine zhGF ?_;refine zHk (fun w1 H1=>c3 _) ?_);(iterate 15 (all_goals((first|((first|refine zhGF ?_|refine zhGT ?_);refine zhNWV ?_)|refine zhV ?_))));all_goals(refine zhGT ?_;refine zHk (fun w1 H1=>c5 _) ?_);(iterate 3 (all_goals((first|((first|refine zhGT ?_|refine zhGF ?_);refine zhV ?_)|refine zhV ?_))));all_goals(refine zHz ?_;clear H;intro wn H))|(refine zHq 9 ?_;(iterate 16 (all_goals((first|(refine zhGT ?_;refine zhNEWV ?_)|refine zhV ?_))));all_goals(refine zHz ?_;clear H;intro wn H)))
     go_roundg (n-(j+1+1))
     case measure=>omega
     case rel=>exact⟨j+1+1,by omega,by go_num,by rw[HRU.out];rfl,HI2,HO3,H.sel sF⟩
    have HRU2:Hid (z3h l (j+1+1)=rr+1):=hY (by rw[HRU.out];simp)
    clear HRU
    by_cases h6:6<rr+1
    ·have HI2:Hid (z=false):=hY (by rw[hstep,if_pos rfl,decide_eq_true h6];simp)
     have h7:(6:Int)<(rr:Int)+1:=by omega
     clear hstep HRU2 h6
     go_wp2_with (first|(refine zHq 7 ?_;(iterate 5 (all_goals(refine zhNV ?_)));all_goals refine zHk (fun w1 H1=>c1 _) ?_;(iterate 7 (all_goals((first|(refine zhGF ?_;refine zhFV ?_)|refine zhV ?_))));all_goals(refine zhGF ?_;refine zHk (fun w1 H1=>c2 _) ?_);(iterate 8 (all_goals((first|(refine zhGF ?_;refine zhFV ?_)|refine zhV ?_))));all_goals(refine zhGF ?_;refine zHk (fun w1 H1=>c3 _) ?_);(iterate 15 (all_goals((first|((first|refine zhGF ?_|refine zhGT ?_);refine zhNWV ?_)|refine zhV ?_))));all_goals(refine zhGT ?_;refine zHk (fun w1 H1=>c5 _) ?_);(iterate 3 (all_goals((first|((first|refine zhGT ?_|refine zhGF ?_);refine zhV ?_)|refine zhV ?_))));all_goals(refine zHz ?_;clear H;intro wn H))|(refine zHq 9 ?_;(iterate 16 (all_goals((first|(refine zhGT ?_;refine zhNEWV ?_)|refine zhV ?_))));all_goals(refine zHz ?_;clear H;intro wn H)))
     go_ret
     exact⟨by rw[HI2.out];rfl,H.below⟩
    ·have HI2:Hid (z=allFrom f n (j+1+1)):=hY (by rw[hstep,if_pos rfl,decide_eq_false h6];simp)
     have h7:¬(6:Int)<(rr:Int)+1:=by omega
     clear hstep h6
     go_wp2_with (first|(refine zHq 7 ?_;(iterate 5 (all_goals(refine zhNV ?_)));all_goals refine zHk (fun w1 H1=>c1 _) ?_;(iterate 7 (all_goals((first|(refine zhGF ?_;refine zhFV ?_)|refine zhV ?_))));all_goals(refine zhGF ?_;refine zHk (fun w1 H1=>c2 _) ?_);(iterate 8 (all_goals((first|(refine zhGF ?_;refine zhFV ?_)|refine zhV ?_))));all_goals(refine zhGF ?_;refine zHk (fun w1 H1=>c3 _) ?_);(iterate 15 (all_goals((first|((first|refine zhGF ?_|refine zhGT ?_);refine zhNWV ?_)|refine zhV ?_))));all_goals(refine zhGT ?_;refine zHk (fun w1 H1=>c5 _) ?_);(iterate 3 (all_goals((first|((first|refine zhGT ?_|refine zhGF ?_);refine zhV ?_)|refine zhV ?_))));all_goals(refine zHz ?_;clear H;intro wn H))|(refine zHq 9 ?_;(iterate 16 (all_goals((first|(refine zhGT ?_;refine zhNEWV ?_)|refine zhV ?_))));all_goals(refine zHz ?_;clear H;intro wn H)))
     go_roundg (n-(j+1+1))
     case measure=>omega
     case rel=>exact⟨j+1+1,by omega,by go_num,by rw[HRU2.out];go_num,HI2,HO3,H.sel sF⟩
  ·obtain rfl:i=n:=by omega
   have hlt1:=nlt i
   have hz:=HI.out
   rw[allFrom_end (Nat.le_refl _)] at hz
   have HI2:=hY hz
   clear hz HI
   go_wp2_with (fail)
   go_ret
   exact⟨by rw[HI2.out];rfl,H.below⟩
