import Derived.Test.YtcabgibdkmgdlaaGreatJ6
import Derived.Test.YtcabgibdkmgdlaaGreatJK
import Derived.Test.YtcabgibdkmgdlaaGreatSh
import Derived.Test.YtcabgibdkmgdlaaGreatG7
set_option linter.unusedSimpArgs false
set_option linter.unusedVariables false
set_option maxRecDepth 100000
set_option maxHeartbeats 8000000
namespace Go.Proofs.YtcabgibdkmgdlaaGreat
open Go.RowKit M
namespace M
def y0a(a b:ByteArray):Int:=Lib.compareBytes a.data.toList b.data.toList
def z9s(a b:ByteArray):Bool:=Op.bytesLess a.toList b.toList
def z9k(a b:Us):Int:=if cmpL a.1 b.1≠0 then cmpL a.1 b.1 else y0a a.2.1 b.2.1
def z3i(a b:Us):Bool:=if eqB a.1 b.1 then z9s a.2.1 b.2.1 else decide (ordL a.1<ordL b.1)
def z0l(x:Us):Bool:=okL x.1&&(nameOk x.2.1.data.toList&&isIn x.2.2 1 100000)
def z2s(l:List Us)(i:Nat)(x:Us):Bool:=match i with
 | 0=>true
 | j+1=>match l[j]? with
  | some y=>!decide (0≤z9k y x)
  | none=>true
def z3u(l:List Us)(i:Nat):Bool:=match l[i]? with
 | some x=>z0l x&&(z2s l i x && !((z0o x.1 (l.take i):Int)==6))
 | none=>true
def z0m(l:List Us):Bool:=allFrom (z3u l) l.length 0&&decide (l.length≤48)
def z0u(l:List Us)(i:Nat)(x:Us):Bool:=match i with
 | 0=>true
 | j+1=>match l[j]? with
  | some y=>z3i y x
  | none=>true
def z3h(l:List Us):Nat→Nat
 | 0=>0
 | 1=>1
 | j+2=>match l[j]?,l[j+1]? with
  | some y,some x=>if eqB y.1 x.1 then z3h l (j+1)+1 else 1
  | _,_=>1
def z2e(l:List Us)(i:Nat):Bool:=match l[i]? with
 | some x=>z0l x&&(z0u l i x && !decide (6<z3h l (i+1)))
 | none=>true
def z2x(l:List Us):Bool:=decide (l.length≤48)&&allFrom (z2e l) l.length 0
theorem z6w(l:List Us):∀i,z3h l i≤i
 | 0=>Nat.le_refl _
 | 1=>Nat.le_refl _
 | j+2=>by
  have:=z6w l (j+1)
  unfold z3h
  split
  ·split <;> omega
  ·omega
theorem toList_data(a:ByteArray):a.toList=a.data.toList:=ByteArray.toList_eq a
theorem z2u:∀a b:List UInt8,Op.bytesLess a b=decide (Lib.compareBytes a b<0)
 | [],[]=>rfl
 | [],_::_=>rfl
 | _::_,[]=>rfl
 | x::a,y::b=>by
  have ih:=z2u a b
  unfold Op.bytesLess Lib.compareBytes
  by_cases h1:x<y
  ·simp[h1]
  ·by_cases h2:y<x
   ·have h3:(x==y)=false:=by
     rw[beq_eq_false_iff_ne]
     intro e
     subst e
     exact h1 h2
    simp[h1,h2,h3]
   ·have h3:x=y:=UInt8.le_antisymm (UInt8.not_lt.1 h2) (UInt8.not_lt.1 h1)
    subst h3
    simp[ih,h1]
theorem z7m{a b:Us}(ha:okL a.1=true)(hb:okL b.1=true):z3i a b = !decide (0≤z9k a b):=by
 obtain⟨g1,g2,g3⟩:=cmp_ord ha hb
 unfold z3i z9k
 cases h:eqB a.1 b.1 with
 | true=>
  have h0:=g2.2 (g3.2 h)
  rw[if_pos rfl,if_neg (by simp[h0])]
  unfold z9s y0a
  rw[toList_data,toList_data,z2u]
  by_cases h1:Lib.compareBytes a.2.1.data.toList b.2.1.data.toList<0 <;> simp[h1] <;> omega
 | false=>
  have h0:cmpL a.1 b.1≠0:=fun e=>by rw[g3.1 (g2.1 e)] at h;cases h
  have h1:ordL a.1≠ordL b.1:=fun e=>h0 (g2.2 e)
  rw[if_neg (by simp),if_pos h0]
  by_cases h2:ordL a.1<ordL b.1
  ·have:=g1.2 (by omega)
   rw[decide_eq_true h2,decide_eq_false (by omega)];rfl
  ·have:¬cmpL a.1 b.1≤0:=fun e=>by have:=g1.1 e;omega
   rw[decide_eq_false h2,decide_eq_true (by omega)];rfl
theorem z5d{a b:Us}(h:z3i a b=true):ordL a.1≤ordL b.1:=by
 unfold z3i at h
 cases he:eqB a.1 b.1 with
 | true=>rw[eqB_iff.1 he];exact Int.le_refl _
 | false=>
  rw[he,if_neg (by simp)] at h
  have:=of_decide_eq_true h
  omega
theorem z5a{l:List Us}{i:Nat}{x:Us}(hx:okL x.1=true)(hy:∀j y,i=j+1→l[j]? = some y→okL y.1=true):z2s l i x=z0u l i x:=by
 cases i with
 | zero=>rfl
 | succ j=>
  unfold z2s z0u
  cases h:l[j]? with
  | none=>simp only[h]
  | some y=>simp only[h];rw[z7m (hy j y rfl h) hx]
structure UsUp (l:List Us) (i:Nat):Prop where
 ok:∀j x,j<i→l[j]? = some x→z0l x=true
 ord:∀j k x y,j<k→k<i→l[j]? = some x→l[k]? = some y→ordL x.1≤ordL y.1
 run:∀j x,j+1=i→l[j]? = some x→z3h l i=z0o x.1 (l.take i)∧z0o x.1 (l.take i)≤6
theorem z1g{x:Us}(h:z0l x=true):okL x.1=true:=by
 unfold z0l at h
 simp only[Bool.and_eq_true] at h
 exact h.1
theorem z7b{a:Lab}{l:List Us}(h:∀x ∈ l,eqB x.1 a=false):z0o a l=0:=by
 unfold z0o
 exact List.countP_eq_zero.2 fun x hx=>by rw[h x hx];simp
theorem z4t{l:List Us}{i:Nat}{x:Us}(hu:UsUp l i)(hx:l[i]? = some x)(hf:z0l x=true)(ha:z0u l i x=true):z3h l (i+1)=z0o x.1 (l.take i)+1∧z0o x.1 (l.take i)≤6:=by
 cases i with
 | zero=>exact⟨rfl,by simp[z0o]⟩
 | succ j=>
  have hlt:=(List.getElem?_eq_some_iff.1 hx).1
  obtain⟨y,hy⟩:∃y,l[j]? = some y:=⟨l[j]'(by omega),List.getElem?_eq_getElem (by omega)⟩
  obtain⟨r1,r2⟩:=hu.run j y rfl hy
  unfold z0u at ha
  simp only[hy] at ha
  have hyo:=z1g (hu.ok j y (by omega) hy)
  have hxo:=z1g hf
  unfold z3h
  simp only[hy,hx]
  cases he:eqB y.1 x.1 with
  | true=>
   have e:=eqB_iff.1 he
   rw[if_pos rfl,r1,e]
   rw[e] at r2
   exact⟨rfl,r2⟩
  | false=>
   have hlt2:ordL y.1<ordL x.1:=by
    have h1:=z5d ha
    have h2:ordL y.1≠ordL x.1:=fun e=>by rw[(cmp_ord hyo hxo).2.2.1 e] at he;cases he
    omega
   have h0:z0o x.1 (l.take (j+1))=0:=z7b fun u hu'=>by
    obtain⟨k,hk,hku⟩:=List.getElem_of_mem hu'
    have hk1:k<j+1:=by rw[List.length_take] at hk;omega
    have hkl:l[k]? = some u:=by rw[List.getElem_take] at hku;rw[←hku];exact List.getElem?_eq_getElem (by omega)
    have:ordL u.1≤ordL y.1:=by
     rcases Nat.lt_or_ge k j with h|h
     ·exact hu.ord k j u y h (by omega) hkl hy
     ·obtain rfl:k=j:=by omega
      rw[hkl] at hy;injection hy with hy;subst hy;exact Int.le_refl _
    cases h:eqB u.1 x.1 with
    | false=>rfl
    | true=>rw[eqB_iff.1 h] at this;omega
   rw[h0]
   exact⟨rfl,by omega⟩
theorem UsUp.step{l:List Us}{i:Nat}{x:Us}(hu:UsUp l i)(hx:l[i]? = some x)(hf:z0l x=true)(ha:z0u l i x=true)(h6:z0o x.1 (l.take i)≤5):UsUp l (i+1):=by
 obtain⟨r1,_⟩:=z4t hu hx hf ha
 refine⟨fun j y hj hy=>?_,fun j k u v hjk hk hju hkv=>?_,fun j y hj hy=>?_⟩
 ·rcases Nat.lt_or_ge j i with h|h
  ·exact hu.ok j y h hy
  ·obtain rfl:j=i:=by omega
   rw[hx] at hy;injection hy with hy;subst hy;exact hf
 ·rcases Nat.lt_or_ge k i with h|h
  ·exact hu.ord j k u v hjk h hju hkv
  ·obtain rfl:k=i:=by omega
   rw[hx] at hkv;injection hkv with hkv;subst hkv
   cases k with
   | zero=>omega
   | succ q=>
    have hlt:=(List.getElem?_eq_some_iff.1 hx).1
    obtain⟨y,hy⟩:∃y,l[q]? = some y:=⟨l[q]'(by omega),List.getElem?_eq_getElem (by omega)⟩
    unfold z0u at ha
    simp only[hy] at ha
    have h1:=z5d ha
    rcases Nat.lt_or_ge j q with h2|h2
    ·have:=hu.ord j q u y h2 (by omega) hju hy
     omega
    ·obtain rfl:j=q:=by omega
     rw[hju] at hy;injection hy with hy;subst hy;exact h1
 ·obtain rfl:j=i:=by omega
  rw[hx] at hy;injection hy with hy;subst hy
  have hself:eqB x.1 x.1=true:=eqB_iff.2 rfl
  rw[z3c hx,hself,if_pos rfl]
  exact⟨r1,by omega⟩
theorem z3w(l:List Us):z0m l=z2x l:=by
 have e1:∀i,UsUp l i→(∀j,i≤j→j<l.length→z3u l j=true)→(∀j,i≤j→j<l.length→z2e l j=true):=by
  intro i
  generalize hm:l.length-i=m
  induction m generalizing i with
  | zero=>intro _ _ j h1 h2;omega
  | succ m ih=>
   intro hu h j h1 h2
   obtain⟨x,hx⟩:∃x,l[i]? = some x:=⟨l[i]'(by omega),List.getElem?_eq_getElem (by omega)⟩
   have hin:=h i (Nat.le_refl _) (by omega)
   unfold z3u at hin
   simp only[hx,Bool.and_eq_true] at hin
   obtain⟨h3,h4,h5⟩:=hin
   rw[z5a (z1g h3) (fun k y e hy=>z1g (hu.ok k y (by omega) hy))] at h4
   obtain⟨r1,r2⟩:=z4t hu hx h3 h4
   have h6:z0o x.1 (l.take i)≤5:=by
    have:z0o x.1 (l.take i)≠6:=fun e=>by rw[e] at h5;simp at h5
    omega
   rcases Nat.lt_or_ge i j with h7|h7
   ·exact ih (i+1) (by omega) (hu.step hx h3 h4 h6) (fun k hk hk2=>h k (by omega) hk2) j (by omega) h2
   ·obtain rfl:j=i:=by omega
    unfold z2e
    simp only[hx,h3,h4,r1,Bool.true_and]
    simp;omega
 have e2:∀i,UsUp l i→(∀j,i≤j→j<l.length→z2e l j=true)→(∀j,i≤j→j<l.length→z3u l j=true):=by
  intro i
  generalize hm:l.length-i=m
  induction m generalizing i with
  | zero=>intro _ _ j h1 h2;omega
  | succ m ih=>
   intro hu h j h1 h2
   obtain⟨x,hx⟩:∃x,l[i]? = some x:=⟨l[i]'(by omega),List.getElem?_eq_getElem (by omega)⟩
   have hin:=h i (Nat.le_refl _) (by omega)
   unfold z2e at hin
   simp only[hx,Bool.and_eq_true] at hin
   obtain⟨h3,h4,h5⟩:=hin
   obtain⟨r1,r2⟩:=z4t hu hx h3 h4
   rw[r1] at h5
   have h6:z0o x.1 (l.take i)≤5:=by simp at h5;omega
   rcases Nat.lt_or_ge i j with h7|h7
   ·exact ih (i+1) (by omega) (hu.step hx h3 h4 h6) (fun k hk hk2=>h k (by omega) hk2) j (by omega) h2
   ·obtain rfl:j=i:=by omega
    unfold z3u
    have e9:=z5a (l:=l) (i:=j) (z1g h3) (fun k y (e:j=k+1) hy=>z1g (hu.ok k y (by omega) hy))
    simp only[hx,h3,e9,h4,Bool.true_and]
    simp;omega
 have h0:UsUp l 0:=⟨fun j x h=>by omega,fun j k x y h h2=>by omega,fun j x h=>by omega⟩
 unfold z0m z2x
 rw[Bool.and_comm]
 congr 1
 rw[Bool.eq_iff_iff,allFrom_iff l.length 0 (by omega),allFrom_iff l.length 0 (by omega)]
 exact⟨e1 0 h0,e2 0 h0⟩
end M
def AtN(n:Nat)(w:World)(b off:Nat)(vs:List Value):Prop:=At w b off vs∧vs.length=n
section
variable {P:Program} {R:Nat→Prop} {w0 w w':World} {L M:List Hl} {a:Act} {ops:Array Oper} {Q:Exit→Act→World→Prop} {rest:List Oper} {b off n:Nat} {vs:List Value} {dst:Option Tmp} {T ty:TypeId} {x:Operand} {pos:String} {aft:Array Edge} {gd:Option (Nat × Bool)}
theorem AtN.old(h:AtN n w0 b off vs)(H:Hs noRow w0 L w):AtN n w b off vs:=⟨h.1.old H,h.2⟩
theorem z9g(hx:a.eval x = .pointer (some ⟨b,off,none⟩))(hT:aggT P T=some true)(hn:sizeT P T=some n)(hA:AtN n w b off vs):QOk P ⟨dst,.load T x,ty,pos,aft,gd⟩ a w (.agg vs.toArray):=q_loadat hx hT hA.1 hn hA.2
end
theorem qNF{P:Prop}(h:P:=by (with_reducible apply z9g);(focus rfl);(focus decide +kernel);(focus exact zF);(focus(exact AtN.old (by assumption) H1))):P:=h
theorem y0h(a b:Int)(g:Nat)(w:World)(h0:w.cell? ⟨g,0,none⟩=some (.int .i64 a))(h1:w.cell? ⟨g,1,none⟩=some (.int .i64 b)):Gives Tryz.prog 213 #[.slice (some ⟨g,0,none⟩) 2 2] w (.int .i64 (if a≠0 then a else b)):=
 (or_l a b g w h0 h1).mono fun _ _ h=>⟨h.1,by rw[h.2];exact Below.refl _ _⟩
theorem z6c(a b:ByteArray)(w:World):Gives Tryz.prog 334 #[.string a,.string b] w (.int .i64 (y0a a b)):=
 (Tryz.strings_Compare a b w).mono fun _ _ h=>⟨h.1,by rw[h.2];exact Below.refl _ _⟩
theorem z2y(a b:Us)(w:World):Gives Tryz.prog 276 #[.agg #[.int .i64 a.1.1,.int .i64 a.1.2,.string a.2.1,.int .i64 a.2.2],.agg #[.int .i64 b.1.1,.int .i64 b.1.2,.string b.2.1,.int .i64 b.2.2]] w (.int .i64 (z9k a b)):=by
 obtain⟨⟨a1,a2⟩,ao,au⟩:=a
 obtain⟨⟨b1,b2⟩,bo,bu⟩:=b
 unfold z9k
 simp only
 have c1:=fun w1=>compareLabels_i (a1,a2) (b1,b2) w1
 have c2:=fun w1=>z6c ao bo w1
 simp only at c1
 generalize cmpL (a1,a2) (b1,b2)=x at *
 generalize y0a ao bo=y at *
 have hO:=fun g w h0 h1=>y0h x y g w h0 h1
 generalize (if x≠0 then x else y)=z at hO ⊢
 have H:=Hs.start noRow w
 unfold Gives
 go_enter Tryz.func276,Tryz.ntmps276
 go_wp2_with ((first|(refine zB 2 ?_;intro b2)|(refine zB 3 ?_;intro b3));clear H;intro wn H)
 apply wp_region_hs (K:=[]) (Spec.V _::Spec.V _::Spec.V _::Spec.V _::Spec.V _::Spec.V _::Spec.V _::Spec.V _::Spec.V _::Spec.V _::Spec.S _ _ _ :: []) 11 H rfl (by simp) (by kernel_rfl) (by kernel_rfl);intro vs Ls;(iterate 4 (refine zhv ?_));(with_reducible apply wpH_VK);(focus rfl);(focus rfl);(focus(intro hk w1 H1;unfold OpOk;go_simp;exact now_call (Gives.rets (c1 _))));refine zp ?_;(iterate 4 (refine zhv ?_));(with_reducible apply wpH_VK);(focus rfl);(focus rfl);(focus(intro hk w1 H1;unfold OpOk;go_simp;exact now_call (Gives.rets (c2 _))));refine zp ?_;(with_reducible apply wpH_S);(focus rfl);(focus rfl);(focus(intro hk w1 H1;unfold OpOk;go_simp;exact now_sl));intro g10 hg10;refine zp ?_;refine wpH_0 ?_;intro hok wn Hn;(try simp only[yT,yU,yV,yW] at Hn);clear H;have H:=Hn;clear Hn;(try simp only[←hg10]);clear hg10;clear hok;rotate_left;exact lcG
 go_wp2_with (fail)
 refine gvF (hO _ _ (H.cell iF rfl) (H.cell iF rfl)) H ?_;clear H;intro wn H
 go_wp2_with (fail)
 go_ret
 exact⟨rfl,H.below⟩
theorem z9o(a b:Us)(ha:okL a.1=true)(hb:okL b.1=true)(w:World):Gives Tryz.prog 252 #[.agg #[.int .i64 a.1.1,.int .i64 a.1.2,.string a.2.1,.int .i64 a.2.2],.agg #[.int .i64 b.1.1,.int .i64 b.1.2,.string b.2.1,.int .i64 b.2.2]] w (.bool (z3i a b)):=by
 obtain⟨⟨a1,a2⟩,ao,au⟩:=a
 obtain⟨⟨b1,b2⟩,bo,bu⟩:=b
 unfold z3i
 simp only at ha hb ⊢
 have c1:=fun w1=>ord_s (a1,a2) ha w1
 have c2:=fun w1=>ord_s (b1,b2) hb w1
 simp only at c1 c2
 generalize ordL (a1,a2)=x at *
 generalize ordL (b1,b2)=y at *
 clear ha hb
 have H:=Hs.start noRow w
 unfold Gives
 cases he:eqB (a1,a2) (b1,b2)
 ·rw[if_neg (by simp)]
  go_enter Tryz.func252,Tryz.ntmps252
  go_wp2_with (first|((first|refine zU ?_|(refine zB 2 ?_;intro b2)|(refine zB 3 ?_;intro b3));clear H;intro wn H)|(refine zHq 2 ?_;(iterate 2 (all_goals(refine zhFV ?_)));(all_goals(with_reducible refine Qk.mk ?_));(all_goals((with_reducible refine' hq_step ?_ ?_ ?_);rotate_left;rfl;(focus(intro w1 H1;unfold QOk;go_simp;exact q_call ((by exact c1 _))));(try simp only[yG,yH,yJ,yK]);refine zp ?_));(all_goals(with_reducible refine Qk.out ?_));(iterate 2 (all_goals(refine zhFV ?_)));(all_goals(with_reducible refine Qk.mk ?_));(all_goals((with_reducible refine' hq_step ?_ ?_ ?_);rotate_left;rfl;(focus(intro w1 H1;unfold QOk;go_simp;exact q_call ((by exact c2 _))));(try simp only[yG,yH,yJ,yK]);refine zp ?_));(all_goals(with_reducible refine Qk.out ?_));(iterate 2 (all_goals(refine zhV ?_)));all_goals(refine zHz ?_;clear H;intro wn H)))
  go_ret
  exact⟨rfl,H.below⟩
 ·rw[if_pos rfl]
  go_enter Tryz.func252,Tryz.ntmps252
  go_wp2_with ((first|refine zU ?_|(refine zB 2 ?_;intro b2)|(refine zB 3 ?_;intro b3));clear H;intro wn H)
  go_ret
  exact⟨rfl,H.below⟩
end Go.Proofs.YtcabgibdkmgdlaaGreat
namespace Go.Proofs.YtcabgibdkmgdlaaGreat
open Go.RowKit M
theorem z4v(v:Value)(l:List Us)(hs:∀(i:Nat) (x:Us),l[i]? = some x→x.2.1.size≤maxLen)(w:World)(hr:(Ty.sl 180 tyUs).rd w [v] l):Gives Tryz.prog 194 #[v] w (.bool (z0m l)):=by
 obtain⟨A,c,rfl,hlc,hcm⟩:=sl_form hr
 have HS:=hY hs
 clear hs
 unfold maxLen at hcm
 have HR:=hY hr
 obtain⟨n,hn⟩:=nm l.length
 have hnl:n≤9223372036854775807:=by omega
 have hnc:n≤c:=by omega
 rw[←hn] at HR ⊢
 have HN:=hY hn
 obtain⟨f,hf'⟩:∃f,f=z3u l:=⟨_,rfl⟩
 have HF:=hY hf'
 obtain⟨z,hz⟩:=nm (z0m l)
 rw[←hz]
 have HZ:Hid (z=(allFrom f n 0&&decide (n≤48))):=hY (by rw[hz,hf',hn];rfl)
 clear hr hn hlc hcm hz hf'
 have H:=Hs.start noRow w
 unfold Gives
 go_enter Tryz.func194,Tryz.ntmps194
 go_wp2_with (fail)
 go_loopg [7] n (fun m iv wr=>∃(i:Nat),i+m=n∧iv = .int .i64 i∧Hid (z=(allFrom f n i&&decide (n≤48)))∧Hs noRow w [] wr)
 case atStart=>exact⟨0,by omega,rfl,HZ,H⟩
 case round=>
  clear H HZ
  obtain⟨i,hi,rfl,HI,H⟩:=hrel
  by_cases hlt:i<n
  ·obtain ⟨x,b,off,cs,hx,rfl,hv2,hcs,hA⟩:=slE HR HN hlt
   obtain rfl:cs=encUs x:=hcs
   have hT:=sl_take HR.out (i:=i) (by rw[←HN.out];omega)
   have hit1:(i:Int)≤n:=by omega
   have hit2:(i:Int)≤c:=by omega
   have hit3:i≤c:=by omega
   have hit4:i≤n:=by omega
   have hstep:=HI.out
   have hfi:f i=(z0l x&&(z2s l i x && !((z0o x.1 (l.take i):Int)==6))):=by rw[HF.out];unfold z3u;rw[hx]
   rw[allFrom_step hlt,hfi] at hstep
   clear hfi
   have hlt1:(i:Int)<n:=by omega
   have c2:=fun w1=>nameRight_i x.2.1 (HS.out i x hx) w1
   have c4:=fun w1 hb=>z5w _ (l.take i) x.1 w1 (Ty.below _ hT hb)
   obtain⟨⟨x1,x2⟩,ow,us⟩:=x
   unfold encUs at hA
   unfold z0l at hstep
   simp only at hA hstep c2 c4
   have c1:=fun w1=>labelRight_i x1 x2 w1
   have c3:=fun w1=>within_i us 1 100000 w1
   have e1:okL (x1,x2)=labelOk x1 x2:=rfl
   have e3:isIn us 1 100000=(decide ((1:Int)≤us)&&decide (us≤100000)):=rfl
   rw[e1,e3] at hstep
   clear hx hv2 HI hT e1 e3
   generalize labelOk x1 x2=zl at *
   generalize nameOk ow.data.toList=zn at *
   generalize (decide ((1:Int)≤us)&&decide (us≤100000))=zu at *
   generalize z0o (x1,x2) (l.take i)=k at *
   obtain⟨k6,hk6⟩:=nm2 (((k:Int)==6))
   rw[hk6] at hstep
   have hd:(zl=false∨(zl=true∧zn=false)∨(zl=true∧zn=true∧zu=false))∨(zl=true∧zn=true∧zu=true):=by cases zl <;> cases zn <;> cases zu <;> simp
   rcases hd with hd|⟨rfl,rfl,rfl⟩
   ·rcases hd with rfl|⟨rfl,rfl⟩|⟨rfl,rfl,rfl⟩
    all_goals(
     have HI2:Hid (z=false):=hY (by rw[hstep];simp)
     clear hstep
     go_wp2_with (first|((first|refine zU ?_|(refine zA 4 ?_;intro b4));clear H;intro wn H)|(refine zHq 4 ?_;(iterate 2 (all_goals(refine zhFV ?_)));all_goals refine zHk (fun w1 H1=>c1 _) ?_;(iterate 4 (all_goals((first|(refine zhGF ?_;refine zhFV ?_)|refine zhSF ?_|refine zhV ?_))));all_goals(first|(refine zhGF ?_;refine zHk (fun w1 H1=>c2 _) ?_)|refine zhSF ?_);(iterate 5 (all_goals((first|(refine zhGF ?_;refine zhFV ?_)|refine zhSF ?_|refine zhV ?_))));all_goals(first|(refine zhGF ?_;refine zHk (fun w1 H1=>c3 _) ?_)|refine zhSF ?_);(iterate 16 (all_goals((first|(refine zhGF ?_;refine zhV ?_)|refine zhSF ?_|refine zhSk ?_|refine zhV ?_))));all_goals(refine zHz ?_;clear H;intro wn H)))
     go_ret
     exact⟨by rw[HI2.out];rfl,H.below⟩)
   cases i with
   | zero=>
    rw[show z2s l 0 ((x1,x2),ow,us)=true from rfl] at hstep
    cases k6
    ·have HI2:Hid (z=(allFrom f n (0+1)&&decide (n≤48))):=hY (by rw[hstep];simp)
     clear hstep
     go_wp2_with (first|((first|refine zU ?_|(refine zA 4 ?_;intro b4));clear H;intro wn H)|(refine zHq 4 ?_;(iterate 2 (all_goals(refine zhFV ?_)));all_goals refine zHk (fun w1 H1=>c1 _) ?_;(iterate 4 (all_goals((first|(refine zhGF ?_;refine zhFV ?_)|refine zhV ?_))));all_goals(refine zhGF ?_;refine zHk (fun w1 H1=>c2 _) ?_);(iterate 5 (all_goals((first|(refine zhGF ?_;refine zhFV ?_)|refine zhV ?_))));all_goals(refine zhGF ?_;refine zHk (fun w1 H1=>c3 _) ?_);(iterate 16 (all_goals((first|(refine zhGF ?_;refine zhV ?_)|refine zhST ?_|refine zhV ?_))));all_goals(refine zHz ?_;clear H;intro wn H))|(refine zHq 6 ?_;(iterate 5 (all_goals(refine zhFV ?_)));all_goals refine zHk (fun w1 H1=>c4 _ H1.below) ?_;all_goals refine zhV ?_;all_goals(refine zHz ?_;clear H;intro wn H)))
     go_roundg (n-(0+1))
     case measure=>omega
     case rel=>exact⟨0+1,by omega,by go_num,HI2,H.sel sF⟩
    ·have HI2:Hid (z=false):=hY (by rw[hstep];simp)
     clear hstep
     go_wp2_with (first|((first|refine zU ?_|(refine zA 4 ?_;intro b4));clear H;intro wn H)|(refine zHq 4 ?_;(iterate 2 (all_goals(refine zhFV ?_)));all_goals refine zHk (fun w1 H1=>c1 _) ?_;(iterate 4 (all_goals((first|(refine zhGF ?_;refine zhFV ?_)|refine zhV ?_))));all_goals(refine zhGF ?_;refine zHk (fun w1 H1=>c2 _) ?_);(iterate 5 (all_goals((first|(refine zhGF ?_;refine zhFV ?_)|refine zhV ?_))));all_goals(refine zhGF ?_;refine zHk (fun w1 H1=>c3 _) ?_);(iterate 16 (all_goals((first|(refine zhGF ?_;refine zhV ?_)|refine zhST ?_|refine zhV ?_))));all_goals(refine zHz ?_;clear H;intro wn H))|(refine zHq 6 ?_;(iterate 5 (all_goals(refine zhFV ?_)));all_goals refine zHk (fun w1 H1=>c4 _ H1.below) ?_;all_goals refine zhV ?_;all_goals(refine zHz ?_;clear H;intro wn H)))
     go_ret
     exact⟨by rw[HI2.out];rfl,H.below⟩
   | succ j=>
    obtain⟨y,hy⟩:=atE (i:=j) HN (by omega)
    have hs2:=sl_at (by have:=HR.out;rw[HN.out] at this;exact this) hy
    rw[←HN.out] at hs2
    obtain⟨b3,off3,c3',cs3,hw,hcs3,hB⟩:=hs2
    injection hw with hw1 hw2 hw3
    injection hw1 with hw1
    injection hw1 with hw4 hw5
    subst hw3 hw4 hw5
    obtain rfl:cs3=encUs y:=hcs3
    have c5:=fun w1=>z2y y ((x1,x2),ow,us) w1
    unfold z2s at hstep
    simp only[hy] at hstep
    obtain⟨⟨y1,y2⟩,yo,yu⟩:=y
    unfold encUs at hB
    simp only at hB hstep c5
    generalize z9k ((y1,y2),yo,yu) ((x1,x2),ow,us)=q at *
    have hlt2:(j:Int)<n:=by omega
    have hlt3:j<n:=by omega
    have hpos:(0:Int)<(j:Int)+1:=by omega
    have hlt4:(j:Int)+1<n:=by omega
    have hlt5:j+1<n:=by omega
    have hit5:(j:Int)+1≤n:=by omega
    have hit6:(j:Int)+1≤c:=by omega
    clear hit1 hit2
    clear hy hw2
    obtain⟨q0,hq0⟩:=nm2 (decide ((0:Int)≤q))
    rw[hq0] at hstep
    cases q0
    ·cases k6
     ·have HI2:Hid (z=(allFrom f n (j+1+1)&&decide (n≤48))):=hY (by rw[hstep];simp)
      clear hstep
      go_wp2_with (first|((first|refine zU ?_|(refine zA 4 ?_;intro b4));clear H;intro wn H)|(refine zHq 4 ?_;(iterate 2 (all_goals(refine zhFV ?_)));all_goals refine zHk (fun w1 H1=>c1 _) ?_;(iterate 4 (all_goals((first|(refine zhGF ?_;refine zhFV ?_)|refine zhV ?_))));all_goals(refine zhGF ?_;refine zHk (fun w1 H1=>c2 _) ?_);(iterate 5 (all_goals((first|(refine zhGF ?_;refine zhFV ?_)|refine zhV ?_))));all_goals(refine zhGF ?_;refine zHk (fun w1 H1=>c3 _) ?_);(iterate 12 (all_goals((first|((first|refine zhGF ?_|refine zhGT ?_);refine zhFAWV ?_)|refine zhV ?_))));all_goals(refine zhGT ?_;refine zHk (fun w1 H1=>c5 _) ?_);(iterate 3 (all_goals((first|((first|refine zhGT ?_|refine zhGF ?_);refine zhV ?_)|refine zhV ?_))));all_goals(refine zHz ?_;clear H;intro wn H))|(refine zHq 6 ?_;(iterate 5 (all_goals(refine zhFV ?_)));all_goals refine zHk (fun w1 H1=>c4 _ H1.below) ?_;all_goals refine zhV ?_;all_goals(refine zHz ?_;clear H;intro wn H)))
      go_roundg (n-(j+1+1))
      case measure=>omega
      case rel=>exact⟨j+1+1,by omega,by go_num,HI2,H.sel sF⟩
     ·have HI2:Hid (z=false):=hY (by rw[hstep];simp)
      clear hstep
      go_wp2_with (first|((first|refine zU ?_|(refine zA 4 ?_;intro b4));clear H;intro wn H)|(refine zHq 4 ?_;(iterate 2 (all_goals(refine zhFV ?_)));all_goals refine zHk (fun w1 H1=>c1 _) ?_;(iterate 4 (all_goals((first|(refine zhGF ?_;refine zhFV ?_)|refine zhV ?_))));all_goals(refine zhGF ?_;refine zHk (fun w1 H1=>c2 _) ?_);(iterate 5 (all_goals((first|(refine zhGF ?_;refine zhFV ?_)|refine zhV ?_))));all_goals(refine zhGF ?_;refine zHk (fun w1 H1=>c3 _) ?_);(iterate 12 (all_goals((first|((first|refine zhGF ?_|refine zhGT ?_);refine zhFAWV ?_)|refine zhV ?_))));all_goals(refine zhGT ?_;refine zHk (fun w1 H1=>c5 _) ?_);(iterate 3 (all_goals((first|((first|refine zhGT ?_|refine zhGF ?_);refine zhV ?_)|refine zhV ?_))));all_goals(refine zHz ?_;clear H;intro wn H))|(refine zHq 6 ?_;(iterate 5 (all_goals(refine zhFV ?_)));all_goals refine zHk (fun w1 H1=>c4 _ H1.below) ?_;all_goals refine zhV ?_;all_goals(refine zHz ?_;clear H;intro wn H)))
      go_ret
      exact⟨by rw[HI2.out];rfl,H.below⟩
    ·have HI2:Hid (z=false):=hY (by rw[hstep];simp)
     clear hstep
     go_wp2_with (first|((first|refine zU ?_|(refine zA 4 ?_;intro b4));clear H;intro wn H)|(refine zHq 4 ?_;(iterate 2 (all_goals(refine zhFV ?_)));all_goals refine zHk (fun w1 H1=>c1 _) ?_;(iterate 4 (all_goals((first|(refine zhGF ?_;refine zhFV ?_)|refine zhV ?_))));all_goals(refine zhGF ?_;refine zHk (fun w1 H1=>c2 _) ?_);(iterate 5 (all_goals((first|(refine zhGF ?_;refine zhFV ?_)|refine zhV ?_))));all_goals(refine zhGF ?_;refine zHk (fun w1 H1=>c3 _) ?_);(iterate 12 (all_goals((first|((first|refine zhGF ?_|refine zhGT ?_);refine zhFAWV ?_)|refine zhV ?_))));all_goals(refine zhGT ?_;refine zHk (fun w1 H1=>c5 _) ?_);(iterate 3 (all_goals((first|((first|refine zhGT ?_|refine zhGF ?_);refine zhV ?_)|refine zhV ?_))));all_goals(refine zHz ?_;clear H;intro wn H)))
     go_ret
     exact⟨by rw[HI2.out];rfl,H.below⟩
  ·obtain rfl:i=n:=by omega
   have hlt1:=nlt i
   have hz:=HI.out
   rw[allFrom_end (Nat.le_refl _),Bool.true_and] at hz
   have HI2:=hY hz
   clear hz HI
   by_cases h4:i≤48
   ·have h5:(i:Int)≤48:=by omega
    have HI3:Hid (z=true):=hY (by rw[HI2.out];simp[h4])
    go_wp2_with (fail)
    go_ret
    exact⟨by rw[HI3.out];rfl,H.below⟩
   ·have h5:¬(i:Int)≤48:=by omega
    have HI3:Hid (z=false):=hY (by rw[HI2.out];simp[h4])
    go_wp2_with (fail)
    go_ret
    exact⟨by rw[HI3.out];rfl,H.below⟩
