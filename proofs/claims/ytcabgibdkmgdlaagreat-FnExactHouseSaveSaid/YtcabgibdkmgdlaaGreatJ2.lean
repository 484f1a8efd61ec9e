import Derived.Test.YtcabgibdkmgdlaaGreatJ1
import Derived.IntWalk
set_option linter.unusedSimpArgs false
set_option linter.unusedVariables false
set_option maxRecDepth 100000
set_option maxHeartbeats 4000000
namespace Go.Proofs.YtcabgibdkmgdlaaGreat
open Go.RowKit M
namespace M
def eqB(a b:Lab):Bool:=decide (a.1=b.1)&&decide (a.2=b.2)
theorem eqB_iff{a b:Lab}:eqB a b=true↔a=b:=by
 obtain⟨a1,a2⟩:=a;obtain⟨b1,b2⟩:=b
 simp[eqB]
theorem eqB_decide(a b:Lab):eqB a b=decide (a=b):=by
 by_cases h:a=b
 ·rw[eqB_iff.2 h];simp[h]
 ·rw[Bool.eq_false_iff.2 (fun e=>h (eqB_iff.1 e))];simp[h]
end M
section
variable {R:Nat→Prop} {w0 w:World} {L:List Hl} {a:Act} {ops:Array Oper} {Q:Exit→Act→World→Prop} {rest:List Oper} {dst:Option Tmp} {ty:TypeId} {x y:Operand} {pos:String} {aft:Array Edge} {gd:Option (Nat × Bool)} {K:List Hl} {a1 a2 b1 b2:Int}
theorem q_eqLab(hx:a.eval x = .agg #[.int .i64 a1,.int .i64 a2])(hy:a.eval y = .agg #[.int .i64 b1,.int .i64 b2]):
  QOk Tryz.prog ⟨dst,.binOp .eql 123 x y 123,ty,pos,aft,gd⟩ a w (.bool (eqB (a1,a2) (b1,b2))):=by
 unfold QOk execOp
 simp only[hx,hy]
 go_simp
 unfold eqB
 by_cases h1:a1=b1 <;> by_cases h2:a2=b2 <;> simp[h1,h2,qUpon]
theorem q_neLab(hx:a.eval x = .agg #[.int .i64 a1,.int .i64 a2])(hy:a.eval y = .agg #[.int .i64 b1,.int .i64 b2]):
  QOk Tryz.prog ⟨dst,.binOp .neq 123 x y 123,ty,pos,aft,gd⟩ a w (.bool (!eqB (a1,a2) (b1,b2))):=by
 unfold QOk execOp
 simp only[hx,hy]
 go_simp
 unfold eqB
 by_cases h1:a1=b1 <;> by_cases h2:a2=b2 <;> simp[h1,h2,qUpon]
theorem ok_eqLab(hx:a.eval x = .agg #[.int .i64 a1,.int .i64 a2])(hy:a.eval y = .agg #[.int .i64 b1,.int .i64 b2]):
  OpOk Tryz.prog K ⟨dst,.binOp .eql 123 x y 123,ty,pos,aft,gd⟩ a w (tV (.bool (eqB (a1,a2) (b1,b2)))):=by
 unfold OpOk execOp
 simp only[hx,hy]
 go_simp
 unfold eqB
 by_cases h1:a1=b1 <;> by_cases h2:a2=b2 <;> simp only[h1,h2,if_true,if_false,decide_true,decide_false,Bool.and_self,Bool.and_true,Bool.and_false,Bool.true_and,Bool.false_and,Bool.not_true,Bool.not_false] <;> exact now_v
theorem ok_neLab(hx:a.eval x = .agg #[.int .i64 a1,.int .i64 a2])(hy:a.eval y = .agg #[.int .i64 b1,.int .i64 b2]):
  OpOk Tryz.prog K ⟨dst,.binOp .neq 123 x y 123,ty,pos,aft,gd⟩ a w (tV (.bool (!eqB (a1,a2) (b1,b2)))):=by
 unfold OpOk execOp
 simp only[hx,hy]
 go_simp
 unfold eqB
 by_cases h1:a1=b1 <;> by_cases h2:a2=b2 <;> simp only[h1,h2,if_true,if_false,decide_true,decide_false,Bool.and_self,Bool.and_true,Bool.and_false,Bool.true_and,Bool.false_and,Bool.not_true,Bool.not_false] <;> exact now_v
theorem st_eqLab(H:Hs R w0 L w)(hx:a.eval x = .agg #[.int .i64 a1,.int .i64 a2])(hy:a.eval y = .agg #[.int .i64 b1,.int .i64 b2])
  (k:∀w',Hs R w0 L w'→wpList Tryz.prog ops Q rest (a.put dst (.bool (eqB (a1,a2) (b1,b2)))) w'):wpList Tryz.prog ops Q (⟨dst,.binOp .eql 123 x y 123,ty,pos,aft,none⟩::rest) a w:=
 st_v H rfl (ok_eqLab hx hy) k
theorem st_neLab(H:Hs R w0 L w)(hx:a.eval x = .agg #[.int .i64 a1,.int .i64 a2])(hy:a.eval y = .agg #[.int .i64 b1,.int .i64 b2])
  (k:∀w',Hs R w0 L w'→wpList Tryz.prog ops Q rest (a.put dst (.bool (!eqB (a1,a2) (b1,b2)))) w'):wpList Tryz.prog ops Q (⟨dst,.binOp .neq 123 x y 123,ty,pos,aft,none⟩::rest) a w:=
 st_v H rfl (ok_neLab hx hy) k
end
section
variable {R:Nat→Prop} {w0 w:World} {L:List Hl} {a:Act} {ops:Array Oper} {Q:Exit→Act→World→Prop} {rest:List Oper} {dst:Option Tmp} {ty:TypeId} {x y:Operand} {pos:String} {aft:Array Edge} {gd:Option (Nat × Bool)} {K:List Hl} {a1 a2 b1 b2:Int} {z:Bool}
theorem q_eqLabz(hx:a.eval x = .agg #[.int .i64 a1,.int .i64 a2])(hy:a.eval y = .agg #[.int .i64 b1,.int .i64 b2])(hz:eqB (a1,a2) (b1,b2)=z):QOk Tryz.prog ⟨dst,.binOp .eql 123 x y 123,ty,pos,aft,gd⟩ a w (.bool z):=hz ▸ q_eqLab hx hy
theorem q_neLabz(hx:a.eval x = .agg #[.int .i64 a1,.int .i64 a2])(hy:a.eval y = .agg #[.int .i64 b1,.int .i64 b2])(hz:eqB (a1,a2) (b1,b2)=z):QOk Tryz.prog ⟨dst,.binOp .neq 123 x y 123,ty,pos,aft,gd⟩ a w (.bool (!z)):=hz ▸ q_neLab hx hy
theorem st_eqLabz(H:Hs R w0 L w)(hx:a.eval x = .agg #[.int .i64 a1,.int .i64 a2])(hy:a.eval y = .agg #[.int .i64 b1,.int .i64 b2])(hz:eqB (a1,a2) (b1,b2)=z)
  (k:∀w',Hs R w0 L w'→wpList Tryz.prog ops Q rest (a.put dst (.bool z)) w'):wpList Tryz.prog ops Q (⟨dst,.binOp .eql 123 x y 123,ty,pos,aft,none⟩::rest) a w:=
 st_eqLab H hx hy (hz.symm ▸ k)
theorem st_neLabz(H:Hs R w0 L w)(hx:a.eval x = .agg #[.int .i64 a1,.int .i64 a2])(hy:a.eval y = .agg #[.int .i64 b1,.int .i64 b2])(hz:eqB (a1,a2) (b1,b2)=z)
  (k:∀w',Hs R w0 L w'→wpList Tryz.prog ops Q rest (a.put dst (.bool (!z))) w'):wpList Tryz.prog ops Q (⟨dst,.binOp .neq 123 x y 123,ty,pos,aft,none⟩::rest) a w:=
 st_neLab H hx hy (hz.symm ▸ k)
end
theorem qEF{P:Prop}(h:P:=by first|((with_reducible apply q_eqLabz);(focus rfl);(focus rfl);(focus assumption))|((with_reducible apply q_neLabz);(focus rfl);(focus rfl);(focus assumption))|((first|(with_reducible apply q_eqLab)|(with_reducible apply q_neLab));(focus rfl);(focus rfl))):P:=h
def Want(p:Prop):Prop:=p
def Skp(p:Prop):Prop:=p
theorem hq_guard{P:Program}{ops:Array Oper}{R:Nat→Prop}{w0:World}{L:List Hl}{Q:Act→Prop}{rest:List Oper}{a:Act}{dst:Option Tmp}{ty:TypeId}{pos:String}{aft:Array Edge}{op:Op}{j:Nat}{b b':Bool}
  (hy:yielded ops a.tmps j=some b') (k1:Want (b'=b)→wpQuiet P ops (Hs R w0 L) Q (⟨dst,op,ty,pos,aft,none⟩::rest) a) (k0:Skp (b'=(!b))→wpQuiet P ops (Hs R w0 L) Q rest (a.put dst undef)) :
  wpQuiet P ops (Hs R w0 L) Q (⟨dst,op,ty,pos,aft,some (j,b)⟩::rest) a:=by
 by_cases h:b'=b
 ·have k:=k1 h
  unfold wpQuiet at k ⊢
  rw[if_pos (by unfold Region.wanted;rfl)] at k
  rw[if_pos (by simp[Region.wanted,hy,h])]
  exact k
 ·have h2:b'=(!b):=by cases b <;> cases b' <;> simp_all
  refine hq_skip ?_ (k0 h2)
  simp[Region.wanted,hy,h2]
theorem hq_gwT{P:Program}{ops:Array Oper}{R:Nat→Prop}{w0:World}{L:List Hl}{Q:Act→Prop}{rest:List Oper}{a:Act}{dst:Option Tmp}{ty:TypeId}{pos:String}{aft:Array Edge}{op:Op}{j:Nat}
  (hy:yielded ops a.tmps j=some true) (k1:wpQuiet P ops (Hs R w0 L) Q (⟨dst,op,ty,pos,aft,none⟩::rest) a):wpQuiet P ops (Hs R w0 L) Q (⟨dst,op,ty,pos,aft,some (j,true)⟩::rest) a:=
 hq_guard hy (fun _=>k1) (fun h=>absurd h (by unfold Skp;simp))
theorem hq_gsT{P:Program}{ops:Array Oper}{R:Nat→Prop}{w0:World}{L:List Hl}{Q:Act→Prop}{rest:List Oper}{a:Act}{dst:Option Tmp}{ty:TypeId}{pos:String}{aft:Array Edge}{op:Op}{j:Nat}
  (hy:yielded ops a.tmps j=some false) (k0:wpQuiet P ops (Hs R w0 L) Q rest (a.put dst undef)):wpQuiet P ops (Hs R w0 L) Q (⟨dst,op,ty,pos,aft,some (j,true)⟩::rest) a:=
 hq_guard hy (fun h=>absurd h (by unfold Want;simp)) (fun _=>k0)
theorem st_gwT{P:Program}{ops:Array Oper}{w:World}{Q:Exit→Act→World→Prop}{rest:List Oper}{a:Act}{dst:Option Tmp}{ty:TypeId}{pos:String}{aft:Array Edge}{op:Op}{j:Nat}
  (hy:yielded ops a.tmps j=some true) (k1:wpList P ops Q (⟨dst,op,ty,pos,aft,none⟩::rest) a w):wpList P ops Q (⟨dst,op,ty,pos,aft,some (j,true)⟩::rest) a w:=
 st_guard hy (fun _=>k1) (fun h=>absurd h (by simp))
theorem st_gsT{P:Program}{ops:Array Oper}{w:World}{Q:Exit→Act→World→Prop}{rest:List Oper}{a:Act}{dst:Option Tmp}{ty:TypeId}{pos:String}{aft:Array Edge}{op:Op}{j:Nat}
  (hy:yielded ops a.tmps j=some false) (k0:wpList P ops Q rest (a.put dst undef) w):wpList P ops Q (⟨dst,op,ty,pos,aft,some (j,true)⟩::rest) a w:=
 st_guard hy (fun h=>absurd h (by simp)) (fun _=>k0)
theorem hq_gwF{P:Program}{ops:Array Oper}{R:Nat→Prop}{w0:World}{L:List Hl}{Q:Act→Prop}{rest:List Oper}{a:Act}{dst:Option Tmp}{ty:TypeId}{pos:String}{aft:Array Edge}{op:Op}{j:Nat}
  (hy:yielded ops a.tmps j=some false) (k1:wpQuiet P ops (Hs R w0 L) Q (⟨dst,op,ty,pos,aft,none⟩::rest) a):wpQuiet P ops (Hs R w0 L) Q (⟨dst,op,ty,pos,aft,some (j,false)⟩::rest) a:=
 hq_guard hy (fun _=>k1) (fun h=>absurd h (by unfold Skp;simp))
theorem hq_gsF{P:Program}{ops:Array Oper}{R:Nat→Prop}{w0:World}{L:List Hl}{Q:Act→Prop}{rest:List Oper}{a:Act}{dst:Option Tmp}{ty:TypeId}{pos:String}{aft:Array Edge}{op:Op}{j:Nat}
  (hy:yielded ops a.tmps j=some true) (k0:wpQuiet P ops (Hs R w0 L) Q rest (a.put dst undef)):wpQuiet P ops (Hs R w0 L) Q (⟨dst,op,ty,pos,aft,some (j,false)⟩::rest) a:=
 hq_guard hy (fun h=>absurd h (by unfold Want;simp)) (fun _=>k0)
theorem st_gwF{P:Program}{ops:Array Oper}{w:World}{Q:Exit→Act→World→Prop}{rest:List Oper}{a:Act}{dst:Option Tmp}{ty:TypeId}{pos:String}{aft:Array Edge}{op:Op}{j:Nat}
  (hy:yielded ops a.tmps j=some false) (k1:wpList P ops Q (⟨dst,op,ty,pos,aft,none⟩::rest) a w):wpList P ops Q (⟨dst,op,ty,pos,aft,some (j,false)⟩::rest) a w:=
 st_guard hy (fun _=>k1) (fun h=>absurd h (by simp))
theorem st_gsF{P:Program}{ops:Array Oper}{w:World}{Q:Exit→Act→World→Prop}{rest:List Oper}{a:Act}{dst:Option Tmp}{ty:TypeId}{pos:String}{aft:Array Edge}{op:Op}{j:Nat}
  (hy:yielded ops a.tmps j=some true) (k0:wpList P ops Q rest (a.put dst undef) w):wpList P ops Q (⟨dst,op,ty,pos,aft,some (j,false)⟩::rest) a w:=
 st_guard hy (fun h=>absurd h (by simp)) (fun _=>k0)
namespace M
def hasL(l:List Lab)(a:Lab):Bool:=l.any fun b=>eqB b a
theorem hasL_iff{l:List Lab}{a:Lab}:hasL l a=true↔a ∈ l:=by
 unfold hasL
 rw[List.any_eq_true]
 constructor
 ·rintro ⟨b,hb,e⟩
  rw[←eqB_iff.1 e];exact hb
 ·intro h
  exact⟨a,h,eqB_iff.2 rfl⟩
theorem any_drop{α:Type}{p:α→Bool}{l:List α}{i:Nat}{a:α}(h:l[i]? = some a):(l.drop i).any p=(p a || (l.drop (i+1)).any p):=by
 obtain⟨hlt,rfl⟩:=List.getElem?_eq_some_iff.1 h
 rw[List.drop_eq_getElem_cons hlt]
 rfl
theorem eqB_comm(a b:Lab):eqB a b=eqB b a:=by rw[eqB_decide,eqB_decide];congr 1;exact propext ⟨Eq.symm,Eq.symm⟩
end M
theorem cleared_s(v:Value)(l:List Lab)(a:Lab)(w:World)(hr:(Ty.sl 123 tyLab).rd w [v] l):Gives Tryz.prog 109 #[v,.agg #[.int .i64 a.1,.int .i64 a.2]] w (.bool (hasL l a)):=by
 obtain⟨A,c,rfl,hlc,hcm⟩:=sl_form hr
 unfold maxLen at *
 have HR:=hY hr
 have H:=Hs.start noRow w
 obtain⟨a1,a2⟩:=a
 obtain⟨n,hn⟩:=nm l.length
 have hnl:n≤9223372036854775807:=by omega
 rw[←hn] at HR ⊢
 have HN:=hY hn
 obtain⟨z,hz⟩:=nm (hasL l (a1,a2))
 rw[←hz]
 have HZ:=hY hz
 clear hr hn hlc hcm hz
 unfold Gives
 go_enter Tryz.func109,Tryz.ntmps109
 go_wp2_with (refine zB 3 ?_;clear H;intro b3 wn H)
 go_loopg [4,5] n (fun m _ iv wr=>∃(i:Nat),i+m=n∧iv = .int .i64 i∧Hid (z=(l.drop i).any fun b=>eqB b (a1,a2))∧Hs noRow w [Hl.blk b3 123 #[.int .i64 a1,.int .i64 a2]] wr)
 case atStart=>exact⟨0,by omega,rfl,HZ,H⟩
 case round=>
  clear H
  obtain⟨i,hi,rfl,HI,H⟩:=hrel
  by_cases hlt:i<n
  ·obtain ⟨x,b,off,cs,hx,rfl,hv2,hcs,hA⟩:=slE HR HN hlt
   obtain rfl:cs=encLab x:=hcs
   have hstep:=HI.out
   rw[any_drop hx] at hstep
   have hlt1:(i:Int)<n:=by omega
   obtain⟨x1,x2⟩:=x
   clear hx hv2 HI
   cases hpx:eqB (x1,x2) (a1,a2)
   ·rw[hpx,Bool.false_or] at hstep
    have HI:=hY hstep
    clear hstep
    unfold encLab at *
    go_wp2_with (refine zHq 4 ?_;(iterate 6 (all_goals(refine zhFAEV ?_)));all_goals(refine zHz ?_;clear H;intro wn H))
    go_roundg (n-(i+1))
    case measure=>omega
    case rel=>exact⟨i+1,by omega,by go_num,HI,H⟩
   ·rw[hpx,Bool.true_or] at hstep
    have HI:=hY hstep
    clear hstep
    unfold encLab at *
    go_wp2_with (refine zHq 4 ?_;(iterate 6 (all_goals(refine zhFAEV ?_)));all_goals(refine zHz ?_;clear H;intro wn H))
    go_ret
    exact⟨by rw[HI.out];rfl,H.below⟩
  ·obtain rfl:i=n:=by omega
   have hlt1:=nlt i
   have hz:z=false:=by rw[HI.out,(drl HN)];rfl
   have HI2:=hY hz
   clear hz HI HZ
   go_wp2_with (fail)
   go_ret
   exact⟨by rw[HI2.out];rfl,H.below⟩
end Go.Proofs.YtcabgibdkmgdlaaGreat
namespace Go.Proofs.YtcabgibdkmgdlaaGreat
open Go.RowKit M
namespace M
def okL(a:Lab):Bool:=labelOk a.1 a.2
def adjB(a b:Lab):Bool:=!eqB a b&&belowB a b
def chainAdj:List Lab→Bool
 | a::b::r=>adjB a b&&chainAdj (b::r)
 | _=>true
def chainOk(l:List Lab):Bool:=decide (1≤l.length)&&decide (l.length≤4)&&(l.all okL&&chainAdj l)
theorem chainAdj_step{l:List Lab}{i:Nat}{x y:Lab}(h1:l[i]? = some x)(h2:l[i+1]? = some y):chainAdj (l.drop i)=(adjB x y&&chainAdj (l.drop (i+1))):=by
 obtain⟨k1,e1⟩:=List.getElem?_eq_some_iff.1 h1
 obtain⟨k2,e2⟩:=List.getElem?_eq_some_iff.1 h2
 rw[List.drop_eq_getElem_cons k1,List.drop_eq_getElem_cons k2,e1,e2]
 rfl
theorem chainAdj_end{l:List Lab}{i:Nat}(h:l.length≤i+1):chainAdj (l.drop i)=true:=by
 have:(l.drop i).length≤1:=by rw[List.length_drop];omega
 match l.drop i,this with
 | [],_=>rfl
 | [a],_=>rfl
theorem all_at{α:Type}{p:α→Bool}{l:List α}{i:Nat}{a:α}(h:l.all p=true)(hi:l[i]? = some a):p a=true:=List.all_eq_true.1 h a (List.mem_of_getElem? hi)
theorem all_drop{α:Type}{p:α→Bool}{l:List α}{i:Nat}{a:α}(h:l[i]? = some a):(l.drop i).all p=(p a&&(l.drop (i+1)).all p):=by
 obtain⟨hlt,rfl⟩:=List.getElem?_eq_some_iff.1 h
 rw[List.drop_eq_getElem_cons hlt]
 rfl
theorem any_not_all{α:Type}{p q:α→Bool}(h:∀a,q a = !p a)(l:List α):l.any q = !l.all p:=by
 induction l with
 | nil=>rfl
 | cons a l ih=>simp[h,ih]
end M
theorem index_Lab(v:Value)(l:List Lab)(a:Lab)(w:World)(hr:(Ty.sl 123 tyLab).rd w [v] l):Gives Tryz.prog 287 #[v,.agg #[.int .i64 a.1,.int .i64 a.2]] w (.int .i64 (idxF (eqB a) 0 l)):=by
 obtain⟨A,c,rfl,hlc,hcm⟩:=sl_form hr
 unfold maxLen at *
 have HR:=hY hr
 have H:=Hs.start noRow w
 obtain⟨a1,a2⟩:=a
 obtain⟨n,hn⟩:=nm l.length
 have hnl:n≤9223372036854775807:=by omega
 rw[←hn] at HR ⊢
 have HN:=hY hn
 obtain⟨z,hz⟩:=nm (idxF (eqB (a1,a2)) 0 l)
 rw[←hz]
 have HZ:=hY hz
 clear hr hn hlc hcm hz
 unfold Gives
 go_enter Tryz.func287,Tryz.ntmps287
 go_wp2_with (refine zB 3 ?_;clear H;intro b3 wn H)
 go_loopg [4,5,8] n (fun m _ _ iv wr=>∃(i:Nat),i+m=n∧iv = .int .i64 i∧Hid (z=idxF (eqB (a1,a2)) i (l.drop i))∧Hs noRow w [Hl.blk b3 123 #[.int .i64 a1,.int .i64 a2]] wr)
 case atStart=>exact⟨0,by omega,rfl,HZ,H⟩
 case round=>
  clear H
  obtain⟨i,hi,rfl,HI,H⟩:=hrel
  by_cases hlt:i<n
  ·obtain ⟨x,b,off,cs,hx,rfl,hv2,hcs,hA⟩:=slE HR HN hlt
   obtain rfl:cs=encLab x:=hcs
   have hstep:=HI.out
   rw[idxF_drop hx] at hstep
   have hlt1:(i:Int)<n:=by omega
   obtain⟨x1,x2⟩:=x
   clear hx hv2 HI
   cases hpx:eqB (a1,a2) (x1,x2)
   ·rw[hpx] at hstep
    have HI:=hY (show z=idxF (eqB (a1,a2)) (i+1) (l.drop (i+1)) from hstep)
    clear hstep
    unfold encLab at *
    go_wp2_with (refine zHq 4 ?_;(iterate 6 (all_goals(refine zhFAEV ?_)));all_goals(refine zHz ?_;clear H;intro wn H))
    go_roundg (n-(i+1))
    case measure=>omega
    case rel=>exact⟨i+1,by omega,by go_num,HI,H⟩
   ·rw[hpx] at hstep
    have HI:=hY (show z=(i:Int) from hstep)
    clear hstep
    unfold encLab at *
    go_wp2_with (refine zHq 4 ?_;(iterate 6 (all_goals(refine zhFAEV ?_)));all_goals(refine zHz ?_;clear H;intro wn H))
    go_ret
    exact⟨by rw[HI.out];rfl,H.below⟩
  ·obtain rfl:i=n:=by omega
   have hlt1:=nlt i
   have hz:z = -1:=by rw[HI.out,(drl HN)];rfl
   have HI2:=hY hz
   clear hz HI HZ
   go_wp2_with (fail)
   go_ret
   exact⟨by rw[HI2.out];rfl,H.below⟩
theorem contains_Lab(v:Value)(l:List Lab)(a:Lab)(w:World)(hr:(Ty.sl 123 tyLab).rd w [v] l):Gives Tryz.prog 203 #[v,.agg #[.int .i64 a.1,.int .i64 a.2]] w (.bool (hasL l a)):=by
 have hI:=fun w1 hb=>index_Lab v l a w1 (Ty.below _ hr hb)
 have hz:=idxF_ge (eqB a) l 0
 have e:hasL l a=l.any (eqB a):=by unfold hasL;congr 1;funext b;exact eqB_comm b a
 rw[e,←hz]
 obtain⟨A,c,rfl,hlc,hcm⟩:=sl_form hr
 have H:=Hs.start noRow w
 generalize idxF (eqB a) 0 l=z at *
 generalize l.length=n at *
 obtain⟨a1,a2⟩:=a
 clear hr hz e
 unfold Gives
 go_enter Tryz.func203,Tryz.ntmps203
 go_wp2_with ((first|refine zM ?_|(refine zB 3 ?_;intro b3)|(go_at_call 287;refine gvF (hI _ H.below) H ?_));clear H;intro wn H)
 go_ret
 exact⟨rfl,H.below⟩
theorem chainC(a:Lab)(w:World):Gives Tryz.prog 346 (#[.agg (encLab a).toArray] ++ #[]) w (.bool (!okL a)):=by
 have hL:=fun w=>labelRight_i a.1 a.2 w
 have e:okL a=labelOk a.1 a.2:=rfl
 rw[e]
 obtain⟨a1,a2⟩:=a
 unfold encLab
 simp only at hL ⊢
 generalize labelOk a1 a2=z at *
 have H:=Hs.start noRow w
 unfold Gives
 show Calls _ _ #[.agg #[.int .i64 a1,.int .i64 a2]] _ _
 go_enter Tryz.func346,Tryz.ntmps346
 go_wp2_with ((first|refine zM ?_|(refine zB 1 ?_;intro b1)|(go_at_call 274;refine gvF (hL _) H ?_));clear H;intro wn H)
 go_ret
 exact⟨rfl,H.below⟩
theorem chain_i(v:Value)(l:List Lab)(w:World)(hr:(Ty.sl 123 tyLab).rd w [v] l):Gives Tryz.prog 326 #[v] w (.bool (chainOk l)):=by
 have eg:∀args w,(callFunc 346 args).run Tryz.prog w = .ok (.enter 346 args) w:=enters_of Tryz.func346 (by kernel_rfl) rfl
 have hC:=fun w1 hb=>containsFunc_Lab v l (fun a=>!okL a) 346 #[] w1 eg (Ty.below _ hr hb) (fun w2 _ i x _=>chainC x w2)
 rw[any_not_all (p:=okL) (fun _=>rfl) l] at hC
 clear eg
 obtain⟨A,c,rfl,hlc,hcm⟩:=sl_form hr
 unfold maxLen at *
 have H:=Hs.start noRow w
 have HR:=hY hr
 have HC:=hY hC
 clear hr hC
 unfold Gives
 by_cases h1:l.length<1
 ·have e:chainOk l=false:=by unfold chainOk;simp;omega
  rw[e]
  clear e
  generalize l.length=n at *
  have h2:n<1:=h1
  go_enter Tryz.func326,Tryz.ntmps326
  go_wp2_with (fail)
  go_ret
  exact⟨rfl,H.below⟩
 by_cases h2:4<l.length
 ·have e:chainOk l=false:=by unfold chainOk;simp;omega
  rw[e]
  clear e
  generalize l.length=n at *
  go_enter Tryz.func326,Tryz.ntmps326
  go_wp2_with (fail)
  go_ret
  exact⟨rfl,H.below⟩
 have e:chainOk l=(l.all okL&&chainAdj l):=by unfold chainOk;rw[decide_eq_true (by omega),decide_eq_true (by omega)];rfl
 rw[e]
 clear e
 cases hall:l.all okL
 ·have hC:=HC.out
  rw[hall] at hC
  rw[Bool.false_and]
  clear hall HC
  generalize l.length=n at *
  go_enter Tryz.func326,Tryz.ntmps326
  go_wp2_with (((go_at_call 197;refine gvF (hC _ H.below) H ?_));clear H;intro wn H)
  go_ret
  exact⟨rfl,H.below⟩
 ·have hC:=HC.out
  rw[hall] at hC
  rw[Bool.true_and]
  have HALL:=hY hall
  clear hall HC
  obtain⟨n,hn⟩:=nm l.length
  rw[←hn] at h1 h2 hlc HR hC ⊢
  have HN:=hY hn
  obtain⟨z,hz⟩:=nm (chainAdj l)
  rw[←hz]
  have HZ:=hY hz
  clear hz hn
  go_enter Tryz.func326,Tryz.ntmps326
  go_wp2_with (((go_at_call 197;refine gvF (hC _ H.below) H ?_));clear H;intro wn H)
  clear hC
  go_loopg [2,3] (n-1) (fun m _ iv wr=>∃(i:Nat),i+1+m=n∧iv = .int .i64 (i+1:Nat)∧Hid (z=chainAdj (l.drop i))∧Hs noRow w [] wr)
  case atStart=>exact⟨0,by omega,rfl,HZ,H⟩
  case round=>
   clear H
   obtain⟨i,hi,rfl,HI,H⟩:=hrel
   by_cases hlt:i+1<n
   ·obtain ⟨x,hx⟩:=atE (i:=i) HN (by omega)
    obtain⟨y,hy⟩:∃y,l[i+1]? = some y:=⟨l[i+1]'(by rw[←HN.out];omega),List.getElem?_eq_getElem (by rw[←HN.out];omega)⟩
    have hs:=sl_at (by have:=HR.out;rw[HN.out] at this;exact this) hx
    have hs2:=sl_at (by have:=HR.out;rw[HN.out] at this;exact this) hy
    rw[←HN.out] at hs hs2
    obtain⟨b,off,c',cs,hv,hcs,hA⟩:=hs
    injection hv with hv1 hv2 hv3
    subst hv1 hv3
    obtain⟨b2,off2,c2,cs2,hw,hcs2,hB⟩:=hs2
    injection hw with hw1 hw2 hw3
    injection hw1 with hw1
    injection hw1 with hw4 hw5
    subst hw3 hw4 hw5
    obtain rfl:cs=encLab x:=hcs
    obtain rfl:cs2=encLab y:=hcs2
    have hstep:=HI.out
    rw[chainAdj_step hx hy] at hstep
    have hbel:=fun w=>below_i x y (show okL x=true from all_at HALL.out hx) (show okL y=true from all_at HALL.out hy) w
    have hlt1:(i:Int)+1<n:=by omega
    have hlt2:i<n:=by omega
    obtain⟨x1,x2⟩:=x
    obtain⟨y1,y2⟩:=y
    unfold adjB at hstep
    clear hx hy hv2 hw2 HI
    simp only at hbel
    cases hpx:eqB (x1,x2) (y1,y2)
    ·rw[hpx,Bool.not_false,Bool.true_and] at hstep
     generalize belowB (x1,x2) (y1,y2)=q at *
     cases q
     ·rw[Bool.false_and] at hstep
      have HI:=hY hstep
      clear hstep
      unfold encLab at *
      go_wp2_with (refine zHq 6 ?_;(iterate 20 (all_goals((first|(refine zhGF ?_;refine zhAWV ?_)|refine zhAEWV ?_))));all_goals(refine zhGF ?_;refine zHk (fun w1 H1=>hbel _) ?_);(iterate 2 (all_goals((first|(refine zhGF ?_;refine zhV ?_)|refine zhV ?_))));all_goals(refine zHz ?_;clear H;intro wn H))
      go_ret
      exact⟨by rw[HI.out];rfl,H.below⟩
     ·rw[Bool.true_and] at hstep
      have HI:=hY hstep
      clear hstep
      unfold encLab at *
      go_wp2_with (refine zHq 6 ?_;(iterate 20 (all_goals((first|(refine zhGF ?_;refine zhAWV ?_)|refine zhAEWV ?_))));all_goals(refine zhGF ?_;refine zHk (fun w1 H1=>hbel _) ?_);(iterate 2 (all_goals((first|(refine zhGF ?_;refine zhV ?_)|refine zhV ?_))));all_goals(refine zHz ?_;clear H;intro wn H))
      go_roundg (n-(i+1+1))
      case measure=>omega
      case rel=>exact⟨i+1,by omega,by go_num,HI,H⟩
    ·rw[hpx] at hstep
     have HI:=hY (show z=false from hstep)
     clear hstep
     unfold encLab at *
     go_wp2_with (refine zHq 6 ?_;(iterate 23 (all_goals((first|refine zhSF ?_|refine zhAEWV ?_))));all_goals(refine zHz ?_;clear H;intro wn H))
     go_ret
     exact⟨by rw[HI.out];rfl,H.below⟩
   ·have hz:z=true:=by rw[HI.out];exact chainAdj_end (by rw[←HN.out];omega)
    have hlt1:¬(i:Int)+1<n:=by omega
    have HI2:=hY hz
    clear hz HI HZ
    go_wp2_with (fail)
    go_ret
    exact⟨by rw[HI2.out];rfl,H.below⟩
end Go.Proofs.YtcabgibdkmgdlaaGreat
namespace Go.Proofs.YtcabgibdkmgdlaaGreat
open Go.RowKit M
namespace M
def clearOk(l:List (List Lab)):Bool:=decide (1≤l.length)&&decide (l.length≤6)&&l.all chainOk
theorem take_step{α:Type}{p:α→Bool}{l:List α}{i:Nat}{a:α}(h:l[i]? = some a)(h1:(l.take i).all p=true)(h2:p a=true):(l.take (i+1)).all p=true:=by
 obtain⟨hlt,rfl⟩:=List.getElem?_eq_some_iff.1 h
 rw[List.take_succ_eq_append_getElem hlt,List.all_append,h1]
 simp[h2]
theorem take_at{α:Type}{p:α→Bool}{l:List α}{i j:Nat}{a:α}(h:l[j]? = some a)(hj:j<i)(h1:(l.take i).all p=true):p a=true:=
 all_at h1 (i:=j) (by rw[List.getElem?_take,if_pos hj];exact h)
end M
theorem chain_s(v:Value)(l:List Lab)(w:World)(hr:(Ty.sl 123 tyLab).rd w [v] l):Gives Tryz.prog 319 #[v] w (.bool (chainOk l)):=by
 obtain⟨A,c,rfl,hlc,hcm⟩:=sl_form hr
 unfold maxLen at *
 have H:=Hs.start noRow w
 have HR:=hY hr
 clear hr
 unfold Gives
 by_cases h1:l.length<1
 ·have e:chainOk l=false:=by unfold chainOk;simp;omega
  rw[e]
  clear e
  generalize l.length=n at *
  have h2:n<1:=h1
  go_enter Tryz.func319,Tryz.ntmps319
  go_wp2_with (fail)
  go_ret
  exact⟨rfl,H.below⟩
 by_cases h2:4<l.length
 ·have e:chainOk l=false:=by unfold chainOk;simp;omega
  rw[e]
  clear e
  generalize l.length=n at *
  go_enter Tryz.func319,Tryz.ntmps319
  go_wp2_with (fail)
  go_ret
  exact⟨rfl,H.below⟩
 have e:chainOk l=(l.all okL&&chainAdj l):=by unfold chainOk;rw[decide_eq_true (by omega),decide_eq_true (by omega)];rfl
 rw[e]
 clear e
 obtain⟨n,hn⟩:=nm l.length
 rw[←hn] at h1 h2 hlc HR ⊢
 have HN:=hY hn
 obtain⟨z,hz⟩:=nm ((l.all okL&&chainAdj l))
 rw[←hz]
 have HZ:=hY hz
 clear hz hn
 go_enter Tryz.func319,Tryz.ntmps319
 go_wp2_with (fail)
 go_loopg [2,3] n (fun m _ iv wr=>∃(i:Nat),i+m=n∧iv = .int .i64 i∧Hid (z=((l.drop i).all okL&&chainAdj (l.drop (i-1)))∧(l.take i).all okL=true)∧Hs noRow w [] wr)
 case atStart=>exact⟨0,by omega,rfl,hY ⟨HZ.out,rfl⟩,H⟩
 case round=>
  clear H
  obtain⟨i,hi,rfl,HI,H⟩:=hrel
  by_cases hlt:i<n
  ·obtain ⟨x,b,off,cs,hx,rfl,hv2,hcs,hA⟩:=slE HR HN (by omega)
   obtain rfl:cs=encLab x:=hcs
   have hstep:=HI.out.1
   have htake:=HI.out.2
   rw[all_drop hx] at hstep
   have hL:=fun w=>labelRight_s x.1 x.2 w
   rw[show labelOk x.1 x.2=okL x from rfl] at hL
   have hlt1:(i:Int)<n:=by omega
   cases hok:okL x
   ·rw[hok] at hL hstep
    rw[Bool.false_and,Bool.false_and] at hstep
    have HI:=hY hstep
    obtain⟨x1,x2⟩:=x
    clear hstep htake hok hx hv2
    unfold encLab at *
    go_wp2_with (refine zHq 6 ?_;(iterate 4 (all_goals(refine zhAV ?_)));all_goals refine zHk (fun w1 H1=>hL _) ?_;(iterate 30 (all_goals((first|refine zhSF ?_|refine zhSk ?_|refine zhV ?_))));all_goals(refine zHz ?_;clear H;intro wn H))
    go_ret
    exact⟨by rw[HI.out];rfl,H.below⟩
   ·have htake2:=take_step hx htake hok
    rw[hok,Bool.true_and] at hstep
    rw[hok] at hL
    cases i with
    | zero=>
     have HI:=hY (And.intro hstep htake2)
     obtain⟨x1,x2⟩:=x
     have hn0:(0:Nat)<n:=hlt
     clear hstep htake htake2 hok hx hv2
     unfold encLab at *
     go_wp2_with (refine zHq 6 ?_;(iterate 4 (all_goals(refine zhAV ?_)));all_goals refine zHk (fun w1 H1=>hL _) ?_;(iterate 30 (all_goals((first|(refine zhGF ?_;refine zhV ?_)|refine zhST ?_|refine zhSk ?_|refine zhV ?_))));all_goals(refine zHz ?_;clear H;intro wn H))
     go_roundg (n-1)
     case measure=>omega
     case rel=>exact⟨1,by omega,by go_num,HI,H⟩
    | succ k=>
     obtain⟨y,hy⟩:=atE (i:=k) HN (by omega)
     have hs2:=sl_at (by have:=HR.out;rw[HN.out] at this;exact this) hy
     rw[←HN.out] at hs2
     obtain⟨b2,off2,c2,cs2,hw,hcs2,hB⟩:=hs2
     injection hw with hw1 hw2 hw3
     injection hw1 with hw1
     injection hw1 with hw4 hw5
     subst hw3 hw4 hw5
     obtain rfl:cs2=encLab y:=hcs2
     rw[Nat.add_sub_cancel,chainAdj_step hy hx] at hstep
     have hoy:okL y=true:=take_at hy (by omega) htake
     have hbel:=fun w=>below_s y x (show okL y=true from hoy) (show okL x=true from hok) w
     obtain⟨x1,x2⟩:=x
     obtain⟨y1,y2⟩:=y
     unfold adjB at hstep
     have hlt2:k<n:=by omega
     have hk0:(0:Int)<(k:Int)+1:=by omega
     have HT2:=hY htake2
     clear htake htake2 hok hx hy hv2 hw2 hoy HI
     simp only at hbel hL
     generalize belowB (y1,y2) (x1,x2)=q at *
     cases q
     ·rw[Bool.and_false,Bool.false_and,Bool.and_false] at hstep
      have HI:=hY hstep
      clear hstep
      unfold encLab at *
      go_wp2_with (refine zHq 6 ?_;(iterate 4 (all_goals(refine zhAV ?_)));all_goals refine zHk (fun w1 H1=>hL _) ?_;(iterate 14 (all_goals((first|((first|refine zhGF ?_|refine zhGT ?_);refine zhAWV ?_)|refine zhV ?_))));all_goals(refine zhGT ?_;refine zHk (fun w1 H1=>hbel _) ?_);(iterate 15 (all_goals((first|((first|refine zhGT ?_|refine zhGF ?_);refine zhV ?_)|refine zhSF ?_|refine zhV ?_))));all_goals(refine zHz ?_;clear H;intro wn H))
      go_ret
      exact⟨by rw[HI.out];rfl,H.below⟩
     ·cases hpx:eqB (y1,y2) (x1,x2)
      ·rw[hpx,Bool.not_false,Bool.true_and,Bool.true_and] at hstep
       have HI:=hY (And.intro hstep HT2.out)
       clear hstep
       unfold encLab at *
       go_wp2_with (refine zHq 6 ?_;(iterate 4 (all_goals(refine zhAV ?_)));all_goals refine zHk (fun w1 H1=>hL _) ?_;(iterate 14 (all_goals((first|((first|refine zhGF ?_|refine zhGT ?_);refine zhAWV ?_)|refine zhV ?_))));all_goals(refine zhGT ?_;refine zHk (fun w1 H1=>hbel _) ?_);(iterate 15 (all_goals((first|((first|refine zhGT ?_|refine zhGF ?_);refine zhAEWV ?_)|refine zhV ?_))));all_goals(refine zHz ?_;clear H;intro wn H))
       go_roundg (n-(k+1+1))
       case measure=>omega
       case rel=>exact⟨k+1+1,by omega,by go_num,HI,H⟩
      ·rw[hpx,Bool.not_true,Bool.false_and,Bool.false_and,Bool.and_false] at hstep
       have HI:=hY hstep
       clear hstep
       unfold encLab at *
       go_wp2_with (refine zHq 6 ?_;(iterate 4 (all_goals(refine zhAV ?_)));all_goals refine zHk (fun w1 H1=>hL _) ?_;(iterate 14 (all_goals((first|((first|refine zhGF ?_|refine zhGT ?_);refine zhAWV ?_)|refine zhV ?_))));all_goals(refine zhGT ?_;refine zHk (fun w1 H1=>hbel _) ?_);(iterate 15 (all_goals((first|((first|refine zhGT ?_|refine zhGF ?_);refine zhAEWV ?_)|refine zhV ?_))));all_goals(refine zHz ?_;clear H;intro wn H))
       go_ret
       exact⟨by rw[HI.out];rfl,H.below⟩
  ·obtain rfl:i=n:=by omega
   have hz:z=true:=by
    rw[HI.out.1,(drl HN),chainAdj_end (by rw[←HN.out];omega)];rfl
   have hlt1:=nlt i
   have HI2:=hY hz
   clear hz HI HZ
   go_wp2_with (fail)
   go_ret
   exact⟨by rw[HI2.out];rfl,H.below⟩
theorem clearC(a:List Lab)(u:Value)(w:World)(hr:(Ty.sl 123 tyLab).rd w [u] a):Gives Tryz.prog 325 (#[u] ++ #[]) w (.bool (!chainOk a)):=by
 have hL:=fun w1 hb=>chain_i u a w1 (Ty.below _ hr hb)
 obtain⟨A,c,rfl,_⟩:=sl_form hr
 generalize chainOk a=z at *
 generalize a.length=n at *
 clear hr
 have H:=Hs.start noRow w
 unfold Gives
 show Calls _ _ #[Value.slice A n c] _ _
 go_enter Tryz.func325,Tryz.ntmps325
 go_wp2_with (((go_at_call 326;refine gvF (hL _ H.below) H ?_));clear H;intro wn H)
 go_ret
 exact⟨rfl,H.below⟩
theorem clearRight_i(v:Value)(l:List (List Lab))(w:World)(hr:(Ty.sl 118 (Ty.sl 123 tyLab)).rd w [v] l):Gives Tryz.prog 266 #[v] w (.bool (clearOk l)):=by
 have eg:∀args w,(callFunc 325 args).run Tryz.prog w = .ok (.enter 325 args) w:=enters_of Tryz.func325 (by kernel_rfl) rfl
 have hC:=fun w1 hb=>containsFunc_Labs v l (fun a=>!chainOk a) 325 #[] w1 eg (Ty.below _ hr hb) (fun w2 _ i x u _ hu=>clearC x u w2 hu)
 rw[any_not_all (p:=chainOk) (fun _=>rfl) l] at hC
 have hW:=fun w=>within_i l.length 1 6 w
 have e:clearOk l=(decide ((1:Int)≤l.length)&&decide ((l.length:Int)≤6)&&l.all chainOk):=by
  unfold clearOk
  congr 1
  congr 1
  ·simp;omega
  ·simp;omega
 rw[e]
 clear eg e
 obtain⟨A,c,rfl,hlc,hcm⟩:=sl_form hr
 have H:=Hs.start noRow w
 clear hr
 generalize l.all chainOk=q at *
 generalize l.length=n at *
 generalize (decide ((1:Int)≤n)&&decide ((n:Int)≤6))=p at *
 unfold Gives
 cases p <;> cases q
 all_goals
  go_enter Tryz.func266,Tryz.ntmps266
  go_wp2_with (first|((((with_reducible refine st_gwT ?_ ?_);rfl));(try refine zp ?_))|((first|(go_at_call 71;refine gvF (hW _) H ?_)|(go_at_call 324;refine gvF (hC _ H.below) H ?_));clear H;intro wn H))
  go_ret
  exact⟨rfl,H.below⟩
end Go.Proofs.YtcabgibdkmgdlaaGreat
namespace Go.Proofs.YtcabgibdkmgdlaaGreat
open Go.RowKit M
namespace M
def labsAll:List Lab:=[(0,0),(0,1),(0,2),(0,3),(0,4),(0,5),(0,6),(0,7),(1,0),(1,1),(1,2),(1,3),(1,4),(1,5),(1,6),(1,7),(2,0),(2,1),(2,2),(2,3),(2,4),(2,5),(2,6),(2,7),(3,0),(3,1),(3,2),(3,3),(3,4),(3,5),(3,6),(3,7)]
def labelsOf(nodes:List (List Lab)):List Lab:=labsAll.filter fun a=>nodes.any fun l=>hasL l a
theorem labsAll_at:∀k:Nat,k<32→labsAll[k]? = some (((k / 8:Nat):Int),((k%8:Nat):Int)):=by decide +kernel
theorem filter_take{α:Type}{p:α→Bool}{l:List α}{i:Nat}{a:α}(h:l[i]? = some a):(l.take (i+1)).filter p=(l.take i).filter p++if p a then [a] else []:=by
 obtain⟨hlt,rfl⟩:=List.getElem?_eq_some_iff.1 h
 rw[List.take_succ_eq_append_getElem hlt,List.filter_append]
 congr 1
 cases h:p l[i] <;> simp[h]
end M
theorem clear_s(v:Value)(l:List (List Lab))(w:World)(hr:(Ty.sl 118 (Ty.sl 123 tyLab)).rd w [v] l):Gives Tryz.prog 243 #[v] w (.bool (clearOk l)):=by
 obtain⟨A,c,rfl,hlc,hcm⟩:=sl_form hr
 unfold maxLen at *
 have HR:=hY hr
 obtain⟨n,hn⟩:=nm l.length
 have hnl:n≤9223372036854775807:=by omega
 have e:clearOk l=(decide (1≤n)&&decide (n≤6)&&l.all chainOk):=by unfold clearOk;rw[hn]
 rw[e]
 rw[←hn] at HR ⊢
 have HN:=hY hn
 clear hr hn hlc hcm e
 have H:=Hs.start noRow w
 unfold Gives
 ·obtain ⟨sz,hsz⟩:=nm ((decide (1≤n)&&decide (n≤6)))
  rw[←hsz]
  have HSZ:=hY hsz
  obtain⟨z,hz⟩:=nm ((sz&&l.all chainOk))
  rw[←hz]
  have HZ:=hY hz
  clear hz hsz
  go_enter Tryz.func243,Tryz.ntmps243
  go_wp2_with (fail)
  go_loopg [2,3] n (fun m _ iv wr=>∃(i:Nat),i+m=n∧i≤7∧iv = .int .i64 i∧Hid (z=(sz&&(l.drop i).all chainOk))∧Hs noRow w [] wr)
  case atStart=>exact⟨0,by omega,by omega,rfl,HZ,H⟩
  case round=>
   clear H
   obtain⟨i,hi,hi7,rfl,HI,H⟩:=hrel
   by_cases hlt:i<n∧i≤6
   ·obtain ⟨hlt,hi6⟩:=hlt
    obtain⟨x,b,off,cs,hx,rfl,hv2,hcs,hA⟩:=slE HR HN (by omega)
    obtain⟨u,hu⟩:∃u,cs = [u]:=by obtain⟨u,_,rfl,_⟩:=hcs;exact⟨u,rfl⟩
    subst hu
    have h0:w.cell? ⟨b,off+i,none⟩=some u:=by have h:=hA.head (u:=u) rfl;rw[show i*Ty.s _=i from Nat.mul_one i] at h;exact h
    have hC:=fun w1 hb=>chain_s u x w1 (Ty.below _ hcs hb)
    have hstep:=HI.out
    rw[all_drop hx] at hstep
    have hlt1:(i:Int)<n:=by omega
    have hlt2:(i:Int)≤6:=by omega
    clear hx hv2 hA HI hcs
    cases hok:chainOk x
    ·rw[hok] at hC hstep
     rw[Bool.false_and,Bool.and_false] at hstep
     have HI:=hY hstep
     clear hstep hok
     go_wp2_with (first|((((with_reducible refine st_gwT ?_ ?_);rfl));(try refine zp ?_))|((first|refine zL ?_|(go_at_call 319;refine gvF (hC _ H.below) H ?_));clear H;intro wn H))
     go_ret
     exact⟨by rw[HI.out];rfl,H.below⟩
    ·rw[hok] at hC hstep
     rw[Bool.true_and] at hstep
     have HI:=hY hstep
     clear hstep hok
     go_wp2_with (first|((((with_reducible refine st_gwT ?_ ?_);rfl));(try refine zp ?_))|((first|refine zL ?_|(go_at_call 319;refine gvF (hC _ H.below) H ?_));clear H;intro wn H))
     go_roundg (n-(i+1))
     case measure=>omega
     case rel=>exact⟨i+1,by omega,by omega,by go_num,HI,H⟩
   ·have hz:z=sz:=by
     by_cases h7:i<n
     ·have:sz=false:=by rw[HSZ.out];simp;omega
      rw[HI.out,this];rfl
     ·rw[HI.out,List.drop_of_length_le (by rw[←HN.out];omega)];simp
    rw[HSZ.out] at hz
    have HI2:=hY hz
    clear hz HZ HI
    by_cases h7:i<n
    ·have hlt1:(i:Int)<n:=by omega
     have hlt2:¬(i:Int)≤6:=by omega
     have hq1:(1:Int)≤n:=by omega
     have hq2:¬(n:Int)≤6:=by omega
     have HF:Hid (z=false):=hY (by rw[HI2.out];simp;omega)
     go_wp2_with ((((with_reducible refine st_gwT ?_ ?_);rfl));(try refine zp ?_))
     go_ret
     exact⟨by rw[HF.out];rfl,H.below⟩
    ·have hlt1:¬(i:Int)<n:=by omega
     by_cases hq:n<1
     ·have hq1:¬ 1≤n:=by omega
      have HF:Hid (z=false):=hY (by rw[HI2.out];simp;omega)
      have hq3:¬(1:Int)≤n:=by omega
      go_wp2_with (fail)
      go_ret
      exact⟨by rw[HF.out];rfl,H.below⟩
     ·have hq1:(1:Int)≤n:=by omega
      by_cases hq2:n≤6
      ·have hq2':(n:Int)≤6:=by omega
       have HF:Hid (z=true):=hY (by rw[HI2.out];simp;omega)
       go_wp2_with ((((with_reducible refine st_gwT ?_ ?_);rfl));(try refine zp ?_))
       go_ret
       exact⟨by rw[HF.out];rfl,H.below⟩
      ·have hq2':¬(n:Int)≤6:=by omega
       have HF:Hid (z=false):=hY (by rw[HI2.out];simp;omega)
       go_wp2_with ((((with_reducible refine st_gwT ?_ ?_);rfl));(try refine zp ?_))
       go_ret
       exact⟨by rw[HF.out];rfl,H.below⟩
theorem ownL_flat{α:Type}{s:Nat}{enc:α→List Value}{hl:∀a,(enc a).length=s}{h1:∀a,∀u ∈ enc a,u.oneCell'=true}:∀l:List α,OwnL (Ty.flat s enc hl h1) (flat enc l) l []
 | [] => .nil
 | a::l=>OwnL.cons (M:=[]) (N:=[]) ⟨rfl,rfl⟩ (ownL_flat l)
theorem ret_flat{α:Type}{s s' n:Nat}{enc:α→List Value}{hl:∀a,(enc a).length=s}{h1:∀a,∀u ∈ enc a,u.oneCell'=true}{E:TypeId}{w w':World}{v:Value}{xs:List Value}{l:List α}{L:List Hl}(H:Hs noRow w (Hl.row E s' v n xs::L) w')(hx:xs=flat enc l)(hn:n=l.length)(hs:s'=s:=by rfl):
  RPost [] w (tOwn (Ty.sl E (Ty.flat s enc hl h1)) l) (.returned v) w':=by
 subst hx hs
 have H2:Hs noRow w (Hl.row E s' v n (flat enc l ++ [])::Hl.all []::L) w':=by
  rw[List.append_nil]
  exact H.allNil.reperm (List.Perm.swap ..)
 exact ret_sl H2 (ownL_flat l) rfl rfl hn
theorem labels_s(v:Value)(l:List (List Lab))(w:World)(hr:(Ty.sl 118 (Ty.sl 123 tyLab)).rd w [v] l):Rets Tryz.prog [] 58 #[v] w (tOwn (Ty.sl 123 tyLab) (labelsOf l)):=by
 obtain⟨A,c,rfl,hlc,hcm⟩:=sl_form hr
 unfold maxLen at *
 have HR:=hY hr
 obtain⟨n,hn⟩:=nm l.length
 have hnl:n≤9223372036854775807:=by omega
 rw[←hn] at HR ⊢
 have HN:=hY hn
 clear hr hn hlc hcm
 have H:=Hs.start noRow w
 obtain⟨p,hp⟩:∃p:Lab→Bool,p=fun a=>l.any fun x=>hasL x a:=⟨_,rfl⟩
 have HP:=hY hp
 have HQ:Hid (labelsOf l=labsAll.filter p):=hY (by rw[hp];rfl)
 rw[HQ.out]
 clear hp
 refine Rets.of ?_
 go_enter Tryz.func58,Tryz.ntmps58
 go_wp2_with (refine zI ?_;clear H;intro nb wn H)
 have Hn:=H.putRow 123 2 (some ⟨nb,0,none⟩)
 clear H
 have H:=Hn
 clear Hn
 go_loopg [3,4,5,6,7] 32 (fun m ov kv _ _ _ wr=>∃(k:Nat) (v:Value) (xs:List Value) (t:Nat),k+m=32∧t≤k∧kv = .int .i64 k∧v=ov∧Hid (xs=flat encLab ((labsAll.take k).filter p)∧t=((labsAll.take k).filter p).length)∧Hs noRow w [Hl.row 123 2 v t xs] wr)
 case atStart=>exact⟨0,_,[],0,by omega,by omega,rfl,rfl,hY ⟨rfl,rfl⟩,H.sel sF⟩
 case round=>
  clear H
  obtain⟨k,v,xs,t,hk,ht,rfl,rfl,HX,H⟩:=hrel
  by_cases hlt:k<32
  ·have hk1:(k:Int)<32:=by omega
   have hla:=labsAll_at k hlt
   have HS:=hY (filter_take (p:=p) hla)
   have e8:((k / 8:Nat):Int)=(k:Int) / 8:=by omega
   have e9:((k%8:Nat):Int)=(k:Int)%8:=by omega
   rw[e8,e9] at HS
   clear hla e8 e9
   go_wp2_with ((first|refine zS ?_|(refine zA 5 ?_;intro b5));clear H;intro wn H)
   go_loopg [6,7] n (fun m fv iv wr=>∃(i:Nat) (f:Bool),i+m=n∧iv = .int .i64 i∧fv = .bool f∧Hid (f=(l.take i).any fun x=>hasL x ((k:Int) / 8,(k:Int)%8))∧Hs noRow w [Hl.blk b5 123 #[.int .i64 ((k:Int) / 8),.int .i64 ((k:Int)%8)],Hl.row 123 2 v t xs] wr)
   case atStart=>exact⟨0,false,by omega,rfl,rfl,hY rfl,H.sel sF⟩
   case round=>
    clear H
    obtain⟨i,f,hi,rfl,rfl,HF,H⟩:=hrel
    by_cases hli:i<n
    ·have hl1:(i:Int)<n:=by omega
     obtain⟨x,b,off,cs,hx,rfl,hv2,hcs,hA⟩:=slE HR HN (by omega)
     obtain⟨u,hu⟩:∃u,cs = [u]:=by obtain⟨u,_,rfl,_⟩:=hcs;exact⟨u,rfl⟩
     subst hu
     have h0:w.cell? ⟨b,off+i,none⟩=some u:=by have h:=hA.head (u:=u) rfl;rw[show i*Ty.s _=i from Nat.mul_one i] at h;exact h
     have hC:=fun w1 hb=>cleared_s u x ((k:Int) / 8,(k:Int)%8) w1 (Ty.below _ hcs hb)
     have HF2:Hid ((f || hasL x ((k:Int) / 8,(k:Int)%8))=(l.take (i+1)).any fun x=>hasL x ((k:Int) / 8,(k:Int)%8)):=hY (by
      obtain⟨hlt',e⟩:=List.getElem?_eq_some_iff.1 hx
      rw[List.take_succ_eq_append_getElem hlt',List.any_append,←HF.out,e];simp)
     simp only at hC
     generalize hasL x ((k:Int) / 8,(k:Int)%8)=q at *
     clear hx hv2 hA HF hcs
     cases f
     all_goals
      go_wp2_with (refine zHq 10 ?_;(iterate 7 (all_goals((first|(refine zhGF ?_;refine zhFV ?_)|refine zhSF ?_|refine zhV ?_))));all_goals(first|(refine zhGF ?_;refine zHk (fun w1 H1=>hC _ H1.below) ?_)|refine zhSF ?_);(iterate 2 (all_goals(refine zhV ?_)));all_goals(refine zHz ?_;clear H;intro wn H))
      go_roundg (n-(i+1))
      case measure=>omega
      case rel=>exact⟨i+1,_,by omega,by go_num,rfl,hY (by rw[←HF2.out];rfl),H.sel sF⟩
    ·have hl1:¬(i:Int)<n:=by omega
     have HF2:Hid (f=p ((k:Int) / 8,(k:Int)%8)):=hY (by rw[HF.out,HP.out,List.take_of_length_le (by rw[←HN.out];omega)])
     clear HF
     cases f
     ·go_wp2_with (fail)
      go_roundg (32-(k+1))
      case measure=>omega
      case rel=>
       refine⟨k+1,_,xs,t,by omega,by omega,by go_num,rfl,hY ?_,H.sel sF⟩
       have h1:=HS.out
       rw[←HF2.out] at h1
       rw[h1]
       simpa using HX.out
     ·have ht9:t≤32:=by omega
      go_wp2_with ((first|refine zM ?_|(refine zI ?_;intro nb)|(refine zX2a ?_;intro vq));clear H;intro wn H)
      go_roundg (32-(k+1))
      case measure=>omega
      case rel=>
       refine⟨k+1,_,_,t+1,by omega,by omega,by go_num,rfl,hY ?_,H.sel sF⟩
       have h1:=HS.out
       rw[←HF2.out] at h1
       rw[h1,HX.out.1,HX.out.2]
       exact⟨by rw[if_pos rfl,flat_append];rfl,by rw[if_pos rfl,List.length_append];rfl⟩
  ·obtain rfl:k=32:=by omega
   have hk1:=nlt 32
   go_wp2_with (fail)
   go_ret
   exact ret_flat H HX.out.1 HX.out.2
end Go.Proofs.YtcabgibdkmgdlaaGreat
namespace Go.Proofs.YtcabgibdkmgdlaaGreat
open Go.RowKit M
section
variable {P:Program} {w:World}
theorem run_append_zeros{t ty ti E:TypeId}{s n:Nat}{k:IntKind}(hT:appT P t E s=true)(hI:P.underlying ti=some (.int k))(h0:0<n)(hn:n≤1000000000):
  ∃zs c w',(Builtin.append_ #[t,ti] ty #[.slice none 0 0,.int .i64 (n:Int)]).run P w = .ok (.slice (some ⟨w.heap.size,0,none⟩) n c) w'∧n≤c∧w'.ownsRow 0 E s (.slice (some ⟨w.heap.size,0,none⟩) n c) n zs∧Grow noRow w w':=by
 obtain⟨i,z,ht,hi,hz,h2,h3,h4,h5⟩:=appT_spec hT
 subst h2
 have hw:IntKind.i64.wrap (n:Int)=n:=wrap_id (by omega) (by omega)
 have hneg:¬((n:Int)<0):=by omega
 have hb:=bytes_le hn h3
 have hmx:max (n:Int) 0=n:=by omega
 have hle:¬((n:Int)≤0):=by omega
 have hbig:¬((281474976710656:Int)<(n:Int)*(i.bytes:Int)):=by
  have:((n*i.bytes:Nat):Int)=(n:Int)*i.bytes:=Int.natCast_mul ..
  omega
 have hn0:n≠0:=by omega
 have h63':¬(9223372036854775807<(n:Int)):=by omega
 have h48':¬(281474976710656<Builtin.nextslicecap n 0*i.bytes):=by rw[nextslicecap_zero h0];omega
 have hge:=grownCap_ge w n 0 E
 have hcm:grownCap w n 0 E≤maxLen:=grownCap_le_maxLen w n 0 E (by unfold maxLen;omega)
 have hns:¬(n*i.size=0):=by have:=Nat.mul_pos h0 h5;omega
 refine⟨(Builtin.zeroCells z.cells n).toList,grownCap w n 0 E,w.drew.alloc (.cells (Builtin.zeroCells z.cells n++Builtin.zeroCells z.cells (grownCap w n 0 E-n)) E),?_,hge,⟨?_,.inr ⟨w.heap.size,_,_,rfl,Nat.zero_le _,heap_alloc_new w.drew _,hge,hcm,?_,?_⟩⟩,growN (((Below.refl _ w).drew).alloc (Nat.le_refl _) _)⟩
 ·simp[Builtin.append_,run_underlying ht,run_underlying hI,sizeOf,typeInfo,zeroValue,hi,hz,hn0,h63',h48',Question.forced,Builtin.firstCells,newRow,grownCap,asInt,asIntOf,hw,hneg,hbig,hns,hmx,hle]
 ·rw[Array.length_toList,size_zeroCells,h4]
 ·rw[Array.size_append,size_zeroCells,size_zeroCells,h4,←Nat.add_mul]
  congr 1
  omega
 ·rw[Array.toList_append]
  have:(Builtin.zeroCells z.cells n).toList.length=n*i.size:=by rw[Array.length_toList,size_zeroCells,h4]
  rw[←this]
  exact List.take_left
end
theorem st_grow0{P:Program}{R:Nat→Prop}{w0 w:World}{L:List Hl}{a:Act}{ops:Array Oper}{Q:Exit→Act→World→Prop}{rest:List Oper}{dst:Option Tmp}{ty:TypeId}{pos:String}{aft:Array Edge}
  {xo yo:Operand} {t ti E:TypeId} {s n:Nat} (H:Hs R w0 L w) (hs:a.eval xo = .slice none 0 0) (hx:a.eval yo = .int .i64 (n:Int)) (hT:appT P t E s=true) (hI:P.underlying ti=some (.int .i64)) (h0:0<n) (hn:n≤1000000000)
  (k:∀g c zs w',n≤c→Hs R w0 (Hl.own E s (.slice (some ⟨g,0,none⟩) n c) n zs::L) w'→wpList P ops Q rest (a.put dst (.slice (some ⟨g,0,none⟩) n c)) w') :
  wpList P ops Q (⟨dst,.call ⟨.builtin .append,#[xo,yo],#[t,ti]⟩,ty,pos,aft,none⟩::rest) a w:=by
 refine wpList_plain rfl fun K hK=>?_
 obtain⟨zs,c,w',hr,hc,ho,hg⟩:=run_append_zeros (P:=P) (w:=w) (ty:=ty) hT hI h0 hn
 unfold Oper.wp execOp
 simp only[resolve,invoke,builtin,Sem.run_bind,Sem.run_pure,Result.andThen_ok,List.map_toArray,List.map_cons,List.map_nil,hs,hx,hr]
 refine hK _ _ (k _ c zs w' hc (H.more (M:=[_]) ⟨hg,?_,?_,List.pairwise_singleton _ _⟩))
 ·intro h hh
  obtain rfl:=List.mem_singleton.1 hh
  exact ho
 ·intro h hh b hb
  obtain rfl:=List.mem_singleton.1 hh
  have:some w.heap.size=some b:=hb
  injection this with this
  exact .inl (by omega)
theorem Hs.shrink{R:Nat→Prop}{w0 w:World}{L M:List Hl}{E:TypeId}{s n m g c:Nat}{zs:List Value}(H:Hs R w0 L w)(u:Upd (Hl.own E s (.slice (some ⟨g,0,none⟩) n c) n zs) (Hl.row E s (.slice (some ⟨g,0,none⟩) m c) m (zs.take (m*s))) L M)(hm:m≤n):Hs R w0 M w:=by
 have ho:w.ownsRow 0 E s (.slice (some ⟨g,0,none⟩) n c) n zs:=H.ok _ u.inL.mem
 refine H.turn u ((Grow.refl noRow w).mono (fun _ f=>f.elim)) (rowOk_of_own ?_) (fun b hb => .inl (rowBlock_own hb:(Value.slice (some ⟨g,0,none⟩) m c).ownBlock=some b))
 rcases ho.2 with ⟨h,_⟩|⟨g2,cap,cur,hv,hb,hg,hnc,hcm,hcs,htake⟩
 ·cases h
 ·injection hv with e1 _ e3
  injection e1 with e1;injection e1 with e1 _ _
  subst e1 e3
  have hle:m*s≤n*s:=Nat.mul_le_mul_right _ hm
  refine⟨by rw[List.length_take,ho.1];omega,.inr ⟨g,c,cur,rfl,hb,hg,Nat.le_trans hm hnc,hcm,hcs,?_⟩⟩
  rw[←htake,List.take_take,Nat.min_eq_left hle]
def tRoom(E:TypeId)(s:Nat):Value→List Hl→Prop:=fun v M=>∃g c,v = .slice (some ⟨g,0,none⟩) 0 c∧M = [Hl.row E s v 0 []]
theorem grow_Lab(n:Nat)(h0:0<n)(hn:n≤1000000000)(w:World):Rets Tryz.prog [] 210 #[.slice none 0 0,.int .i64 (n:Int)] w (tRoom 123 2):=by
 have H:=Hs.start noRow w
 have h1:¬(n:Int)<0:=by omega
 have h2:(0:Int)<n:=by omega
 refine Rets.of ?_
 go_enter Tryz.func210,Tryz.ntmps210
 go_wp2_with ((with_reducible apply st_grow0 (E:=123) (s:=2) H);rfl;rfl;kernel_rfl;kernel_rfl;(focus assumption);(focus assumption);clear H;intro gg cc zs wn hcc H;refine zp ?_)
 have Hn:Hs noRow w [Hl.row 123 2 (.slice (some ⟨gg,0,none⟩) 0 cc) 0 (zs.take (0*2))] _:=H.shrink uF (Nat.zero_le _)
 rw[Nat.zero_mul,List.take_zero] at Hn
 go_ret
 exact Hs.retd (M:=[Hl.row 123 2 (.slice (some ⟨gg,0,none⟩) 0 cc) 0 []]) Hn (List.Sublist.refl _) ⟨gg,cc,rfl,rfl⟩
namespace M
theorem rdL_flat{α:Type}{s:Nat}{enc:α→List Value}{hl:∀a,(enc a).length=s}{h1:∀a,∀u ∈ enc a,u.oneCell'=true}{w:World}{xs:List Value}{l:List α}(h:RdL (Ty.flat s enc hl h1) w xs l):xs=flat enc l:=by
 induction h with
 | nil=>rfl
 | cons h _ ih=>rw[flat_cons,←ih];rw[show _=_ from h]
theorem sl_rd{α:Type}{s:Nat}{enc:α→List Value}{hl:∀a,(enc a).length=s}{h1:∀a,∀u ∈ enc a,u.oneCell'=true}{E:TypeId}{w:World}{v:Value}{l:List α}(h:(Ty.sl E (Ty.flat s enc hl h1)).rd w [v] l):Rd w s v l.length (flat enc l):=by
 obtain⟨v',xs,e,hr,hL⟩:=h
 injection e with e;subst e
 rw[←rdL_flat hL];exact hr
theorem flat_ones{α:Type}{enc:α→List Value}(h1:∀a,∀u ∈ enc a,u.oneCell'=true)(l:List α):(flat enc l).all (·.oneCell')=true:=by
 rw[List.all_eq_true]
 intro u hu
 simp only[flat,List.mem_flatten,List.mem_map] at hu
 obtain⟨_,⟨a,_,rfl⟩,hu⟩:=hu
 exact h1 a u hu
theorem encLab_one(a:Lab):∀u ∈ encLab a,u.oneCell'=true:=fun u hu=>by
 simp only[encLab,List.mem_cons,List.not_mem_nil,or_false] at hu;rcases hu with rfl|rfl <;> rfl
theorem flatten_take{α:Type}{l:List (List α)}{i:Nat}{x:List α}(h:l[i]? = some x):(l.take (i+1)).flatten=(l.take i).flatten++x:=by
 obtain⟨hlt,rfl⟩:=List.getElem?_eq_some_iff.1 h
 rw[List.take_succ_eq_append_getElem hlt,List.flatten_append]
 simp
theorem flatten_take_le{α:Type}(l:List (List α))(i:Nat):(l.take i).flatten.length≤l.flatten.length:=by
 have:l.flatten=(l.take i).flatten++(l.drop i).flatten:=by rw[←List.flatten_append,List.take_append_drop]
 rw[this,List.length_append];omega
end M
theorem concat_Lab(v:Value)(l:List (List Lab))(h0:0<l.flatten.length)(hb:l.flatten.length≤1000)(w:World)(hr:(Ty.sl 118 (Ty.sl 123 tyLab)).rd w [v] l):
  Rets Tryz.prog [] 138 #[v] w (tOwn (Ty.sl 123 tyLab) l.flatten):=by
 obtain⟨A,c,rfl,hlc,hcm⟩:=sl_form hr
 unfold maxLen at *
 have HR:=hY hr
 obtain⟨n,hn⟩:=nm l.length
 have hnl:n≤9223372036854775807:=by omega
 rw[←hn] at HR ⊢
 have HN:=hY hn
 obtain⟨tot,ht⟩:=nm l.flatten.length
 rw[←ht] at h0 hb
 have HT:=hY ht
 clear hr hn hlc hcm ht
 have H:=Hs.start noRow w
 refine Rets.of ?_
 go_enter Tryz.func138,Tryz.ntmps138
 go_wp2_with (fail)
 go_loopg [3,5,11] n (fun m sv _ iv wr=>∃(i s:Nat),i+m=n∧iv = .int .i64 i∧sv = .int .i64 s∧s≤tot∧Hid (s=(l.take i).flatten.length)∧Hs noRow w [] wr)
 case atStart=>exact⟨0,0,by omega,rfl,rfl,by omega,hY rfl,H⟩
 case round=>
  clear H
  obtain⟨i,s,hi,rfl,rfl,hst,HI,H⟩:=hrel
  by_cases hlt:i<n
  ·obtain ⟨x,b,off,cs,hx,rfl,hv2,hcs,hA⟩:=slE HR HN hlt
   obtain⟨u,hu⟩:∃u,cs = [u]:=by obtain⟨u,_,rfl,_⟩:=hcs;exact⟨u,rfl⟩
   subst hu
   have h1:w.cell? ⟨b,off+i,none⟩=some u:=by have h:=hA.head (u:=u) rfl;rw[show i*Ty.s _=i from Nat.mul_one i] at h;exact h
   obtain⟨Ax,cx,rfl,_,_⟩:=sl_form hcs
   have hle:=flatten_take_le l (i+1)
   rw[flatten_take hx,List.length_append,←HI.out,←HT.out] at hle
   have HI2:Hid (s+x.length=(l.take (i+1)).flatten.length):=hY (by rw[flatten_take hx,List.length_append,←HI.out])
   have hlt1:(i:Int)<n:=by omega
   have hneg:¬(s:Int)+x.length<0:=by omega
   clear hx hv2 hA HI hcs
   generalize x.length=xn at *
   go_wp2_with (refine zL ?_;clear H;intro wn H)
   go_roundg (n-(i+1))
   case measure=>omega
   case rel=>exact⟨i+1,s+xn,by omega,by go_num,by go_num,by omega,HI2,H⟩
  ·obtain rfl:i=n:=by omega
   have hlt1:=nlt i
   have hs:s=tot:=by rw[HI.out,HT.out,(tkl HN)]
   subst hs
   clear HI
   go_wp2_with (fail)
   refine(Rets.use (grow_Lab s (by omega) (by omega) _)).mono ?_;rintro e wn ⟨_,_,rfl,⟨g,c2,rfl,rfl⟩,hkk⟩;refine zK ?_;clear H hkk;intro H
   go_wp2_with (fail)
   go_loopg [6,8,27] i (fun m ov _ iv wr=>∃(j t:Nat) (v:Value) (xs:List Value),j+m=i∧t≤s∧iv = .int .i64 j∧v=ov∧Hid (t=(l.take j).flatten.length∧xs=flat encLab (l.take j).flatten)∧Hs noRow w [Hl.row 123 2 v t xs] wr)
   case atStart=>exact⟨0,0,_,[],by omega,by omega,rfl,rfl,hY ⟨rfl,rfl⟩,H.sel sF⟩
   case round=>
    clear H
    obtain⟨j,t,v,xs,hj,hts,rfl,rfl,HX,H⟩:=hrel
    by_cases hlt:j<i
    ·obtain ⟨x,b,off,cs,hx,rfl,hv2,hcs,hA⟩:=slE HR HN hlt
     obtain⟨u,hu⟩:∃u,cs = [u]:=by obtain⟨u,_,rfl,_⟩:=hcs;exact⟨u,rfl⟩
     subst hu
     have h1:w.cell? ⟨b,off+j,none⟩=some u:=by have h:=hA.head (u:=u) rfl;rw[show j*Ty.s _=j from Nat.mul_one j] at h;exact h
     have hRd:=sl_rd hcs
     have hone:=flat_ones encLab_one x
     have hle:=flatten_take_le l (j+1)
     rw[flatten_take hx,List.length_append,←HX.out.1,←HT.out] at hle
     have HX2:Hid (t+x.length=(l.take (j+1)).flatten.length∧xs++flat encLab x=flat encLab (l.take (j+1)).flatten):=hY ⟨by rw[flatten_take hx,List.length_append,←HX.out.1],by rw[flatten_take hx,flat_append,←HX.out.2]⟩
     have hlt2:(j:Int)<i:=by omega
     clear hx hv2 hA HX hcs
     generalize x.length=xn at *
     generalize flat encLab x=xx at *
     go_wp2_with (first|(refine zL ?_;clear H;intro wn H)|((with_reducible apply st_appendr H);(((focus(with_reducible exact dH));rfl));rfl;kernel_rfl;(focus exact(hRd.later H.below));exact hone;(focus omega);clear H;intro vq wn H;refine zp ?_))
     go_roundg (i-(j+1))
     case measure=>omega
     case rel=>exact⟨j+1,t+xn,_,_,by omega,by omega,by go_num,rfl,HX2,H.sel sF⟩
    ·obtain rfl:j=i:=by omega
     have hlt2:=nlt j
     go_wp2_with (fail)
     go_ret
     have e:l.take j=l:=(tkl HN)
     have h1:=HX.out
     rw[e] at h1
     exact ret_flat H h1.2 h1.1
theorem own_single{α:Type}{T:Ty α}{a:α}{v:Value}{N:List Hl}(h:T.own v.cells.toList a N)(h3:T.s=1→v.oneCell'=true)(hs:T.s=1):T.own [v] a N:=by
 have e:=h3 hs
 cases v <;> first|exact h|cases e
end Go.Proofs.YtcabgibdkmgdlaaGreat
namespace Go.Proofs.YtcabgibdkmgdlaaGreat
open Go.RowKit M
namespace M
def total{α:Type}(l:List (List α)):Nat:=l.length+l.flatten.length
theorem total_at{α:Type}{l:List (List α)}{i:Nat}{x:List α}(h:l[i]? = some x):(l.take i).flatten.length+x.length≤l.flatten.length:=by
 have h1:=flatten_take_le l (i+1)
 rw[flatten_take h,List.length_append] at h1
 exact h1
end M
theorem Hs.take2{R:Nat→Prop}{w0 w:World}{L M N K:List Hl}{h:Hl}(H:Hs R w0 (h::Hl.all N::Hl.all (M++K)::L) w):Hs R w0 (Hl.all M::h::Hl.all N::Hl.all K::L) w:=by
 have h1:Hs R w0 (Hl.all (M++K)::h::Hl.all N::L) w:=H.reperm (by
  refine(List.Perm.cons h (List.Perm.swap ..)).trans (List.Perm.swap ..))
 have h2:=h1.part
 refine h2.reperm (List.Perm.cons _ ?_)
 exact(List.Perm.swap ..).trans (List.Perm.cons h (List.Perm.swap ..))
theorem Hs.give2{R:Nat→Prop}{w0 w:World}{L M N K:List Hl}{h:Hl}(H:Hs R w0 (Hl.all M::h::Hl.all N::Hl.all K::L) w):Hs R w0 (h::Hl.all (N++M)::Hl.all K::L) w:=by
 have h1:Hs R w0 (Hl.all N::Hl.all M::h::Hl.all K::L) w:=H.reperm ((List.Perm.cons _ (List.Perm.swap ..)).trans (List.Perm.swap ..))
 exact h1.join.reperm (List.Perm.swap ..)
section
variable {R:Nat→Prop} {w0 w:World} {L A B C:List Hl}
theorem Hs.up1{a b:Hl}(H:Hs R w0 (a::b::L) w):Hs R w0 (b::a::L) w:=H.reperm (List.Perm.swap ..)
theorem Hs.up2{a b c:Hl}(H:Hs R w0 (a::b::c::L) w):Hs R w0 (c::a::b::L) w:=H.reperm ((List.Perm.cons _ (List.Perm.swap ..)).trans (List.Perm.swap ..))
theorem Hs.up3{a b c d:Hl}(H:Hs R w0 (a::b::c::d::L) w):Hs R w0 (d::a::b::c::L) w:=H.reperm ((List.Perm.cons _ ((List.Perm.cons _ (List.Perm.swap ..)).trans (List.Perm.swap ..))).trans (List.Perm.swap ..))
theorem Hs.off{a b:Hl}(H:Hs R w0 (a::b::L) w):Hs R w0 (a::L) w:=H.sub (List.Sublist.cons_cons _ (List.sublist_cons_self _ _))
theorem Hs.off1{a:Hl}(H:Hs R w0 (a::L) w):Hs R w0 L w:=H.sub (List.sublist_cons_self _ _)
theorem Hs.join3(H:Hs R w0 (Hl.all A::Hl.all B::Hl.all C::L) w):Hs R w0 (Hl.all (A++(B++C))::L) w:=by
 have h1:Hs R w0 (Hl.all B::Hl.all C::Hl.all A::L) w:=H.reperm ((List.Perm.swap ..).trans (List.Perm.cons _ (List.Perm.swap ..)))
 exact(h1.join.reperm (List.Perm.swap ..)).join
theorem Hs.part3(H:Hs R w0 (Hl.all (A++(B++C))::L) w):Hs R w0 (Hl.all A::Hl.all B::Hl.all C::L) w:=by
 have h1:=H.part
 have h2:Hs R w0 (Hl.all (B++C)::Hl.all A::L) w:=h1.reperm (List.Perm.swap ..)
 exact h2.part.reperm ((List.Perm.cons _ (List.Perm.swap ..)).trans (List.Perm.swap ..))
def tAgg{α:Type}(T:Ty α)(a:α):Value→List Hl→Prop:=fun v M=>∃cs N,v = .agg cs.toArray∧T.own cs a N∧M = [Hl.all N]
end
theorem RdL.cast{α:Type}{T U:Ty α}{w:World}(h:∀cs a,T.rd w cs a→U.rd w cs a){xs:List Value}{l:List α}(hl:RdL T w xs l):RdL U w xs l:=by
 induction hl with
 | nil=>exact .nil
 | cons h1 _ ih=>exact .cons (h _ _ h1) ih
theorem sl_cast{α:Type}{T U:Ty α}{E F:TypeId}{w:World}{cs:List Value}{l:List α}(hs:T.s=U.s)(h:∀cs a,T.rd w cs a→U.rd w cs a)(hr:(Ty.sl E T).rd w cs l):(Ty.sl F U).rd w cs l:=by
 obtain⟨v,xs,e,h1,h2⟩:=hr
 exact⟨v,xs,e,by rw[←hs];exact h1,h2.cast h⟩
theorem toLabelSS_l(v:Value)(l:List (List Lab))(hl:total l≤1048576)(w:World)(hr:(Ty.sl 0 (Ty.sl 0 tyLab)).rd w [v] l):Rets Tryz.prog [] 184 #[v] w (tOwn (Ty.sl 118 (Ty.sl 123 tyLab)) l):=by
 obtain⟨A,c,rfl,hlc,hcm⟩:=sl_form hr
 have HR:=hY hr
 have HL:=hY hl
 have H:=Hs.start noRow w
 obtain⟨n,hn⟩:=nm l.length
 have hnl:n≤1048576:=by unfold total at hl;omega
 rw[←hn] at HR ⊢
 have HN:=hY hn
 clear hr hn hl hcm hlc
 refine Rets.of ?_
 go_enter Tryz.func184,Tryz.ntmps184
 go_wp2_with ((with_reducible apply st_makerow (E:=118) (s:=1) H);rfl;rfl;decide +kernel;(focus omega);clear H;intro g zs wn hz0 hz1 H;refine zp ?_)
 go_loopg [4] n (fun m iv wr=>∃(i:Nat) (pre zs:List Value) (N:List Hl),i+m=n∧iv = .int .i64 i∧Hid (OwnL (Ty.sl 123 tyLab) pre (l.take i) N∧zs.length=(n-i)*1)∧Hs noRow w [Hl.row 118 1 (.slice (some ⟨g,0,none⟩) n n) n (pre++zs),Hl.all N] wr)
 case atStart=>exact⟨0,[],zs,[],by omega,rfl,hY ⟨.nil,hz0⟩,by rw[List.nil_append];exact H.allNil.sel sF⟩
 case round=>
  clear H
  obtain⟨i,pre,zs,N,hi,rfl,HO,H⟩:=hrel
  by_cases hlt:i<n
  ·obtain ⟨x,b,off,cs,hx,rfl,hv2,hcs,hA⟩:=slE HR HN hlt
   obtain⟨u,hu⟩:∃u,cs = [u]:=by obtain⟨u,_,rfl,_⟩:=hcs;exact⟨u,rfl⟩
   subst hu
   have h0:w.cell? ⟨b,off+i,none⟩=some u:=by have h:=hA.head (u:=u) rfl;rw[show i*Ty.s _=i from Nat.mul_one i] at h;exact h
   have hxl:x.length≤1048576:=by have h1:=total_at hx;have h2:=HL.out;unfold total at h2;omega
   have hC:=fun w1 hb=>toLabelS_l u x hxl w1 (Ty.below _ hcs hb)
   have hfit:i+1≤(pre++zs).length:=by
    have h1:=HO.out.1.len
    have h2:=HO.out.2
    rw[List.length_append,h1,h2,List.length_take,Nat.min_eq_left (by rw[←HN.out];omega)]
    show i+1≤i*1+(n-i)*1
    omega
   have hlt1:(i:Int)<n:=by omega
   clear hv2 hA hcs
   go_wp2_with (refine zL ?_;clear H;intro wn H)
   refine(Rets.use (hC _ H.below)).mono ?_;rintro e wn ⟨_,_,rfl,⟨N4,hN,rfl,hone⟩,hkk⟩;refine zK ?_;clear H hkk;intro H
   have hN2:=own_single hN hone rfl
   obtain⟨A4,c4,rfl,hl4,hc4⟩:=sl_form (own_rd H .here hN2)
   clear hN hone
   obtain⟨p',z',hp,hsp,hz'⟩:=own_step (m:=n-(i+1)) HO.out.1 hx (by rw[HO.out.2];show (n-i)*1=(n-(i+1)+1)*1;congr 1;omega) hN2
   have HS:Hid (spl (pre++zs) (i) [.slice A4 x.length c4]=p'++z'):=hY (by have h:=hsp;rw[show i*Ty.s _=i from Nat.mul_one i] at h;exact h)
   have HO2:=hY (And.intro hp hz')
   clear hsp hp hz' hx HO hN2
   go_wp2_with (refine zR ?_;clear H;intro wn H)
   go_roundg (n-(i+1))
   case measure=>omega
   case rel=>exact⟨i+1,p',z',_,by omega,by go_num,HO2,by rw[←HS.out];exact(Hs.join (H.sel (M:=[Hl.all N,Hl.all N4,Hl.row 118 1 (.slice (some ⟨g,0,none⟩) n n) n _]) sF)).reperm (List.Perm.swap ..)⟩
  ·obtain rfl:i=n:=by omega
   have hlt1:=nlt i
   go_wp2_with (fail)
   go_ret
   exact ret_sl H HO.out.1 ((tkl HN)) (by rw[HO.out.2,Nat.sub_self,Nat.zero_mul]) HN.out
theorem eqLabelSS_l(va vb:Value)(l:List (List Lab))(w:World)(ha:(Ty.sl 118 (Ty.sl 123 tyLab)).rd w [va] l)(hb:(Ty.sl 118 (Ty.sl 123 tyLab)).rd w [vb] l):Gives Tryz.prog 221 #[va,vb] w (.bool true):=by
 obtain⟨A,c,rfl,hlc,hcm⟩:=sl_form ha
 obtain⟨B,d,rfl,_,_⟩:=sl_form hb
 unfold maxLen at *
 have HA:=hY ha
 have HB:=hY hb
 have H:=Hs.start noRow w
 obtain⟨n,hn⟩:=nm l.length
 have hnl:n≤9223372036854775807:=by omega
 rw[←hn] at HA HB ⊢
 have HN:=hY hn
 clear ha hb hn hcm hlc
 unfold Gives
 go_enter Tryz.func221,Tryz.ntmps221
 go_wp2_with (fail)
 go_loopg [5] n (fun m iv wr=>∃(i:Nat),i+m=n∧iv = .int .i64 i∧Hs noRow w [] wr)
 case atStart=>exact⟨0,by omega,rfl,H⟩
 case round=>
  clear H
  obtain⟨i,hi,rfl,H⟩:=hrel
  by_cases hlt:i<n
  ·obtain ⟨x,hx⟩:=atE HN hlt
   have hs:=sl_at (by have:=HA.out;rw[HN.out] at this;exact this) hx
   have hs2:=sl_at (by have:=HB.out;rw[HN.out] at this;exact this) hx
   rw[←HN.out] at hs hs2
   obtain⟨b,off,c',cs,hv,hcs,hA⟩:=hs
   injection hv with hv1 hv2 hv3
   subst hv1 hv3
   obtain⟨b2,off2,c2',cs2,hw,hcs2,hB⟩:=hs2
   injection hw with hw1 hw2 hw3
   subst hw1 hw3
   obtain⟨u,hu⟩:∃u,cs = [u]:=by obtain⟨u,_,rfl,_⟩:=hcs;exact⟨u,rfl⟩
   obtain⟨u2,hu2⟩:∃u,cs2 = [u]:=by obtain⟨u,_,rfl,_⟩:=hcs2;exact⟨u,rfl⟩
   subst hu hu2
   have h0:w.cell? ⟨b,off+i,none⟩=some u:=by have h:=hA.head (u:=u) rfl;rw[show i*Ty.s _=i from Nat.mul_one i] at h;exact h
   have h1:w.cell? ⟨b2,off2+i,none⟩=some u2:=by have h:=hB.head (u:=u2) rfl;rw[show i*Ty.s _=i from Nat.mul_one i] at h;exact h
   have c1:=fun w1 hb=>eqLabelS_l u u2 x w1 (Ty.below _ hcs hb) (Ty.below _ hcs2 hb)
   have hlt1:(i:Int)<n:=by omega
   clear hx hv2 hw2 hA hB hcs hcs2
   go_wp2_with (refine zHq 6 ?_;(iterate 8 (all_goals(refine zhFV ?_)));all_goals refine zHk (fun w1 H1=>c1 _ H1.below) ?_;all_goals refine zhV ?_;all_goals(refine zHz ?_;clear H;intro wn H))
   go_roundg (n-(i+1))
   case measure=>omega
   case rel=>exact⟨i+1,by omega,by go_num,H⟩
  ·obtain rfl:i=n:=by omega
   have hlt1:=nlt i
   go_wp2_with (fail)
   go_ret
   exact⟨rfl,H.below⟩
theorem szLabelSS_l(v:Value)(l:List (List Lab))(k:Int)(hk:0≤k∧k≤1048576)(w:World)(hr:(Ty.sl 0 (Ty.sl 0 tyLab)).rd w [v] l):Gives Tryz.prog 164 #[v,.int .i64 k] w (.int .i64 (szC k (total l))):=by
 obtain⟨A,c,rfl,hlc,hcm⟩:=sl_form hr
 unfold maxLen at *
 have HR:=hY hr
 have H:=Hs.start noRow w
 obtain⟨n,hn⟩:=nm l.length
 obtain⟨t,ht⟩:=nm l.flatten.length
 rw[show total l=n+t by rw[hn,ht];rfl]
 rw[←hn] at HR ⊢
 have HN:=hY hn
 have HT:=hY ht
 have hnl:n≤9223372036854775807:=by omega
 clear hr hn ht hcm hlc
 unfold Gives
 by_cases h:k-n<0
 ·rw[szC_neg (by omega)]
  go_enter Tryz.func164,Tryz.ntmps164
  go_wp2_with (fail)
  go_ret
  exact⟨rfl,H.below⟩
 obtain⟨z,hz⟩:=nm (szC k (n+t:Nat))
 rw[←hz]
 have HZ:=hY hz
 clear hz
 go_enter Tryz.func164,Tryz.ntmps164
 go_wp2_with (fail)
 go_loopg [1,5] n (fun m kv iv wr=>∃(i s:Nat),i+m=n∧iv = .int .i64 i∧kv = .int .i64 (k-n-s)∧0≤k-n-s∧Hid (s=(l.take i).flatten.length)∧Hs noRow w [] wr)
 case atStart=>exact⟨0,0,by omega,rfl,by go_num,by omega,hY rfl,H⟩
 case round=>
  clear H
  obtain⟨i,s,hi,rfl,rfl,hs0,HI,H⟩:=hrel
  by_cases hlt:i<n
  ·obtain ⟨x,b,off,cs,hx,rfl,hv2,hcs,hA⟩:=slE HR HN hlt
   obtain⟨u,hu⟩:∃u,cs = [u]:=by obtain⟨u,_,rfl,_⟩:=hcs;exact⟨u,rfl⟩
   subst hu
   have h0:w.cell? ⟨b,off+i,none⟩=some u:=by have h:=hA.head (u:=u) rfl;rw[show i*Ty.s _=i from Nat.mul_one i] at h;exact h
   have c1:=fun w1 hb=>szLabelS_l u x (k-n-s) ⟨hs0,by omega⟩ w1 (Ty.below _ hcs hb)
   have hle:=total_at hx
   rw[←HI.out,←HT.out] at hle
   have HI2:Hid (s+x.length=(l.take (i+1)).flatten.length):=hY (by rw[flatten_take hx,List.length_append,←HI.out])
   have hlt1:(i:Int)<n:=by omega
   clear hx hv2 hA hcs
   generalize x.length=xn at *
   by_cases hng:k-n-s-xn<0
   ·rw[szC_neg hng] at c1
    have HZ2:Hid (z = -1):=hY (by rw[HZ.out,szC_neg (by omega)])
    go_wp2_with ((first|refine zL ?_|(go_at_call 239;refine gvF (c1 _ H.below) H ?_));clear H;intro wn H)
    go_ret
    exact⟨by rw[HZ2.out];rfl,H.below⟩
   ·rw[szC_pos hng] at c1
    go_wp2_with ((first|refine zL ?_|(go_at_call 239;refine gvF (c1 _ H.below) H ?_));clear H;intro wn H)
    go_roundg (n-(i+1))
    case measure=>omega
    case rel=>exact⟨i+1,s+xn,by omega,by go_num,by go_num,by omega,HI2,H⟩
  ·obtain rfl:i=n:=by omega
   have hlt1:=nlt i
   have hst:s=t:=by rw[HI.out,HT.out,(tkl HN)]
   subst hst
   have HZ2:Hid (z=k-i-s):=hY (by rw[HZ.out,szC_pos (by omega)];omega)
   go_wp2_with (fail)
   go_ret
   exact⟨by rw[HZ2.out];rfl,H.below⟩
