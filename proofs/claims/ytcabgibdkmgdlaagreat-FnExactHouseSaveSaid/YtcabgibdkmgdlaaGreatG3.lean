import Derived.Test.YtcabgibdkmgdlaaGreatG1
import Derived.Laws.OwnMore
import Derived.Laws.Rows
import Derived.Laws.NewBlocks
import Derived.Deep.Cut
import Derived.StillTail
set_option linter.unusedSimpArgs false
set_option linter.unusedVariables false
namespace Go.Proofs.YtcabgibdkmgdlaaGreat
open Go.RowKit
def Blk(w:World)(g:Nat)(t:TypeId)(cs:Array Value):Prop:=w.heap[g]? = some (.cells cs t (0,0))
section
variable {w w':World} {g:Nat} {t:TypeId} {cs:Array Value}
theorem Blk.lt(h:Blk w g t cs):g<w.heap.size:=by
 rcases Nat.lt_or_ge g w.heap.size with hlt|hge
 ·exact hlt
 ·unfold Blk at h;rw[Array.getElem?_eq_none hge] at h;cases h
theorem Blk.cell(h:Blk w g t cs)(i:Nat):w.cell? ⟨g,i,none⟩=cs[i]?:=cell_of_row w g i cs t (0,0) h
theorem Blk.frozen(h:Blk w g t cs)(i:Nat):w.frozen? ⟨g,i,none⟩=false:=by
 unfold Blk at h
 simp[World.frozen?,h]
theorem Blk.new(w:World)(t:TypeId)(cs:Array Value){g:Nat}(hg:g=w.heap.size):Blk (w.alloc (.cells cs t)) g t cs:=hg ▸ heap_alloc_new w _
theorem Blk.drew(h:Blk w g t cs):Blk w.drew g t cs:=h
theorem Blk.alloc(h:Blk w g t cs)(o:Obj):Blk (w.alloc o) g t cs:=(Below.heap_alloc w o g h.lt).trans h
theorem Blk.set_(h:Blk w g t cs)(i:Nat)(u:Value):Blk (w.setCell ⟨g,i,none⟩ u) g t (cs.setIfInBounds i u):=by
 unfold Blk at h ⊢
 simp[World.setCell,Array.getElem?_modify,h]
theorem Blk.far(h:Blk w g t cs){p:Addr}(hp:g≠p.block)(u:Value):Blk (w.setCell p u) g t cs:=(Below.heap_setCell w p u g hp).trans h
theorem Blk.later(h:Blk w g t cs)(hb:Below w.heap.size w w'):Blk w' g t cs:=(hb.block g h.lt).trans h
theorem Blk.at(h:Blk w g t cs){i:Nat}{v:Value}(e:cs[i]? = some v):w.cell? ⟨g,i,none⟩=some v:=(h.cell i).trans e
theorem Blk.atL(h:Blk w g t cs){i:Nat}{v:Value}(e:cs[i]? = some v)(x:Later w):x.now.cell? ⟨g,i,none⟩=some v:=(h.later x.ok).at e
theorem Blk.use{P:Prop}(h:Blk w g t cs)(k:Blk w g t cs→P):P:=k h
theorem Blk.far'{p:Addr}{u:Value}(hp:g≠p.block)(h:Blk w g t cs):Blk (w.setCell p u) g t cs:=Blk.far h hp u
theorem Blk.new'(hg:g=w.heap.size):Blk (w.alloc (.cells cs t)) g t cs:=Blk.new w t cs hg
theorem Blk.lat(hb:Below w.heap.size w w')(h:Blk w g t cs):Blk w' g t cs:=h.later hb
end
theorem wp_world{P:Program}{c:Code}{Q:Exit→Act→World→Prop}{a:Act}{w:World}(h:∀w',w'=w→Code.wp P c Q a w'):Code.wp P c Q a w:=h w rfl
theorem bp_world{P:Program}{f:Func}{R:Ending→World→Prop}{x:Exit}{a:Act}{w:World}(h:∀w',w'=w→bodyPost P f R x a w'):bodyPost P f R x a w:=h w rfl
structure Kp0 (Q:Prop):Prop where
 out:Q
structure Gk (w:World) (g:Nat):Prop
theorem Blk.useK{w:World}{g:Nat}{t:TypeId}{cs:Array Value}{P:Prop}(_:Gk w g)(h:Blk w g t cs)(k:Blk w g t cs→P):P:=k h
theorem kpF{w w1:World}{n:Nat}{P Q:Prop}(g:Nat)(hb:Below n w w1)(k:Q)(h:Gk w1 g→Below n w w1→Kp0 Q→P:=by intro gk hb k;apply Blk.useK gk;(focus(apply Blk.lat hb;exact bkF));intro A;(try simp only[List.setIfInBounds_toArray,List.set_cons_zero,List.set_cons_succ] at A);have Ac:=A.cell;have Af:=A.frozen;have As:=A.lt;revert A Ac Af As;with_reducible exact k.out):P:=h ⟨⟩ hb ⟨k⟩
theorem hdF{w w1:World}{P Q:Prop}(g:Nat)(hb:w1=w)(k:Q)(h:Gk w1 g→w1=w→Kp0 Q→P:=by intro gk hb k;apply Blk.useK gk;(focus(rw[hb];exact bkF));intro A;(try simp only[List.setIfInBounds_toArray,List.set_cons_zero,List.set_cons_succ] at A);have Ac:=A.cell;have Af:=A.frozen;have As:=A.lt;revert A Ac Af As;with_reducible exact k.out):P:=h ⟨⟩ hb ⟨k⟩
end Go.Proofs.YtcabgibdkmgdlaaGreat
namespace Go.Proofs.YtcabgibdkmgdlaaGreat
open Go.RowKit
section
variable {P:Program}
def growUpon(P:Program)(w:World)(Φ : Value→World→Prop):Result Next→Prop
 | .ok (.value u) w'=>Below w.heap.size w w' ∧ Φ u w'
 | .ok .skip w'=>Below w.heap.size w w' ∧ Φ undef w'
 | .ok (.enter f args) w'=>w'=w∧Calls P f args w (fun e w''=>∃v,e = .returned v∧Below w.heap.size w w'' ∧ Φ v w'')
 | _=>False
def growAt(P:Program)(o:Oper)(a:Act)(w:World)(Φ : Value→World→Prop):Prop:=growUpon P w Φ ((execOp a.eval o).run P w)
def known(Φs:List (Value→World→Prop))(i:Nat)(v:Value)(w:World):Prop:=match Φs[i]? with
 | some Φ=>Φ v w
 | none=>True
def deps(o:Oper):List Nat:=(o.after.toList.filter (Region.binds .any)).map (·.on)
def wpInv(P:Program)(C:World→Prop)(Φs:List (Value→World→Prop))(R:Act→World→Prop)(vs:Nat→Value):List Oper→Nat→Act→Prop
 | [],k,a=>∀w,C w→(∀i,i<k→known Φs i (vs i) w)→R a w
 | o::l,k,a=>(∀w,C w→(∀i ∈ deps o,known Φs i (vs i) w)→growAt P o a w (known Φs k))∧wpInv P C Φs R vs l (k+1) (a.put o.dst (vs k))
def lexF(f:Nat→Option Value):List Oper→Nat→Act→Act
 | [],_,a=>a
 | o::l,k,a=>lexF f l (k+1) (match f k with
  | some v=>a.put o.dst v
  | none=>a)
def upd(f:Nat→Option Value)(k:Nat)(v:Value):Nat→Option Value:=fun i=>if i=k then some v else f i
theorem lexF_eval{f g:Nat→Option Value}{t:Tmp}:∀(l:List Oper) (k:Nat) (a b:Act),a.eval (.tmp t)=b.eval (.tmp t)→a.tmps.size=b.tmps.size →
  (∀j o,l[j]? = some o→o.dst=some t→f (k+j)=g (k+j))→(lexF f l k a).eval (.tmp t)=(lexF g l k b).eval (.tmp t)
 | [],_,_,_,h,_,_=>h
 | o::l,k,a,b,h,hs,hd=>by
  have hd':∀j o',l[j]? = some o'→o'.dst=some t→f (k+1+j)=g (k+1+j):=fun j o' h1 h2=>by
   have:=hd (j+1) o' (by simpa using h1) h2
   rwa[show k+(j+1)=k+1+j by omega] at this
  have size_put:∀(a:Act) (d:Option Tmp) (v:Value),(a.put d v).tmps.size=a.tmps.size:=fun a d v=>by cases d <;> simp[Act.put]
  by_cases ht:o.dst=some t
  ·have h0:=hd 0 o rfl ht
   rw[Nat.add_zero] at h0
   refine lexF_eval l (k+1) _ _ ?_ ?_ hd'
   ·rw[h0]
    cases g k with
    | none=>exact h
    | some v=>simp[Act.put,Act.eval,ht,Array.getElem?_setIfInBounds_self,hs]
   ·rw[h0]
    cases g k with
    | none=>exact hs
    | some v=>rw[size_put,size_put];exact hs
  ·have hx:∀d,o.dst=some d→(Operand.tmp t) ≠ .tmp d:=fun d h1 h2=>ht (by rw[h1];injection h2 with h2;rw[h2])
   refine lexF_eval l (k+1) _ _ ?_ ?_ hd'
   ·cases f k <;> cases g k <;> simp only[Act.eval_put hx] <;> exact h
   ·cases f k <;> cases g k <;> simp only[size_put] <;> exact hs
theorem lexF_same{f g:Nat→Option Value}:∀(l:List Oper) (k:Nat) (a:Act),(∀j,j<l.length→f (k+j)=g (k+j))→lexF f l k a=lexF g l k a
 | [],_,_,_=>rfl
 | o::l,k,a,h=>by
  have h0:=h 0 (by simp)
  rw[Nat.add_zero] at h0
  simp only[lexF,h0]
  exact lexF_same l (k+1) _ fun j hj=>by
   have:=h (j+1) (by simp;omega)
   rwa[show k+(j+1)=k+1+j by omega] at this
theorem lexF_take{f:Nat→Option Value}:∀(l:List Oper) (k i:Nat) (a:Act),lexF f (l.take i) k a=lexF (fun j=>if j<k+i then f j else none) l k a
 | [],_,_,_=>by simp[lexF]
 | o::l,k,0,a=>by
  have:∀(l:List Oper) (m:Nat),k≤m→lexF (fun j=>if j<k+0 then f j else none) l m a=a:=by
   intro l
   induction l with
   | nil=>intros;rfl
   | cons o l ih=>
    intro m hm
    have hk:¬m<k+0:=by omega
    simp only[lexF,if_neg hk]
    exact ih (m+1) (by omega)
  rw[this _ _ (Nat.le_refl _)];rfl
 | o::l,k,i+1,a=>by
  have hk:k<k+(i+1):=by omega
  simp only[List.take_succ_cons,lexF,if_pos hk]
  rw[lexF_take l (k+1) i,show k+1+i=k+(i+1) by omega]
theorem lexF_put{f:Nat→Option Value}{d:Option Tmp}{v:Value}:∀(l:List Oper) (k:Nat) (a:Act),(∀o ∈ l,∀t,d=some t→o.dst≠some t)→lexF f l k (a.put d v)=(lexF f l k a).put d v
 | [],_,_,_=>rfl
 | o::l,k,a,h=>by
  simp only[lexF]
  cases f k with
  | none=>exact lexF_put l (k+1) a fun o ho=>h o (List.mem_cons_of_mem _ ho)
  | some u=>
   show lexF f l (k+1) ((a.put d v).put o.dst u)=(lexF f l (k+1) (a.put o.dst u)).put d v
   rw[Act.put_comm a v u (h o (by simp))]
   exact lexF_put l (k+1) _ fun o ho=>h o (List.mem_cons_of_mem _ ho)
theorem lexF_upd{f:Nat→Option Value}{v:Value}{oi:Oper}:∀(l:List Oper) (k j:Nat) (a:Act),l[j]? = some oi→f (k+j)=none →
  (∀p op,l[p]? = some op→p≠j → ∀t,oi.dst=some t→op.dst≠some t)→lexF (upd f (k+j) v) l k a=(lexF f l k a).put oi.dst v
 | [],_,_,_,h,_,_=>by simp at h
 | o::l,k,0,a,h,hf,hd=>by
  have ho:o=oi:=by simpa using h
  subst ho
  rw[Nat.add_zero] at hf ⊢
  have hu:upd f k v k=some v:=by simp[upd]
  simp only[lexF,hf,hu]
  rw[lexF_same (f:=upd f k v) (g:=f) l (k+1) _ fun j _=>by unfold upd;rw[if_neg (by omega)]]
  exact lexF_put l (k+1) a fun o' ho' t ht=>by
   obtain⟨p,hp⟩:=List.mem_iff_getElem?.1 ho'
   exact hd (p+1) o' (by simpa using hp) (by omega) t ht
 | o::l,k,j+1,a,h,hf,hd=>by
  have hu:upd f (k+(j+1)) v k=f k:=by unfold upd;rw[if_neg (by omega)]
  simp only[lexF,hu]
  rw[show k+(j+1)=k+1+j by omega] at hf ⊢
  exact lexF_upd l (k+1) j _ (by simpa using h) hf fun p op hp hne t ht=>hd (p+1) op (by simpa using hp) (by omega) t ht
theorem wpInv_at{C:World→Prop}{Φs:List (Value→World→Prop)}{R:Act→World→Prop}{vs:Nat→Value}:∀(l:List Oper) (k j:Nat) (o:Oper) (a:Act),wpInv P C Φs R vs l k a→l[j]? = some o →
  ∀w,C w→(∀i ∈ deps o,known Φs i (vs i) w)→growAt P o (lexF (fun i=>some (vs i)) (l.take j) k a) w (known Φs (k+j))
 | [],_,_,_,_,_,h=>by simp at h
 | o::l,k,0,o',a,h,ho=>by
  have:o=o':=by simpa using ho
  subst this
  exact h.1
 | o::l,k,j+1,o',a,h,ho=>by
  have:=wpInv_at l (k+1) j o' _ h.2 (by simpa using ho)
  rw[show k+(j+1)=k+1+j by omega]
  exact this
theorem wpInv_end{C:World→Prop}{Φs:List (Value→World→Prop)}{R:Act→World→Prop}{vs:Nat→Value}:∀(l:List Oper) (k:Nat) (a:Act),wpInv P C Φs R vs l k a →
  ∀w,C w→(∀i,i<k+l.length→known Φs i (vs i) w)→R (lexF (fun i=>some (vs i)) l k a) w
 | [],k,a,h=>h
 | o::l,k,a,h=>by
  have:=wpInv_end l (k+1) _ h.2
  rw[show k+(o::l).length=k+1+l.length by simp;omega]
  exact this
def headB(l:List Oper)(n:Nat):Bool:=
 (List.range n).all fun j=>match l[j]? with
  | none=>false
  | some oj=>oj.guard.isNone&&((deps oj).all fun e=>decide (e<j)) &&
   (List.range n).all fun i=>match l[i]? with
    | none=>false
    | some oi=>match oi.dst with
     | none=>true
     | some d=>(decide (i=j) || (oj.dst != some d))&&(!(oj.looksAt l.toArray).contains d || (deps oj).contains i)
theorem headB_spec{l:List Oper}{n j:Nat}(h:headB l n=true)(hj:j<n):∃oj,l[j]? = some oj∧oj.guard=none∧(∀e ∈ deps oj,e<j) ∧
  ∀i oi t,i<n→l[i]? = some oi→oi.dst=some t→(i≠j→oj.dst≠some t)∧(t ∈ oj.looksAt l.toArray→i ∈ deps oj):=by
 have h1:=List.all_eq_true.1 h j (List.mem_range.2 hj)
 cases ho:l[j]? with
 | none=>rw[ho] at h1;cases h1
 | some oj=>
  rw[ho] at h1
  simp only[Bool.and_eq_true] at h1
  obtain⟨⟨h2,h3⟩,h4⟩:=h1
  refine⟨oj,rfl,by simpa using h2,fun e he=>by simpa using List.all_eq_true.1 h3 e he,fun i oi t hi hoi ht=>?_⟩
  have h5:=List.all_eq_true.1 h4 i (List.mem_range.2 hi)
  rw[hoi] at h5
  simp only[ht,Bool.and_eq_true,Bool.or_eq_true,decide_eq_true_eq,Bool.not_eq_true',bne_iff_ne,ne_eq] at h5
  refine⟨fun hne=>h5.1.resolve_left hne,fun hm=>?_⟩
  rcases h5.2 with h6|h6
  ·rw[List.contains_eq_mem] at h6
   simp[hm] at h6
  ·simpa using h6
theorem count_upd{f:Nat→Option Value}{i:Nat}(v:Value)(hf:f i=none):∀l:List Nat,l.Nodup→i ∈ l→l.countP (fun j=>(f j).isNone)=l.countP (fun j=>(upd f i v j).isNone)+1
 | [],_,h=>by simp at h
 | a::l,hn,h=>by
  have hn':=List.nodup_cons.1 hn
  rw[List.countP_cons,List.countP_cons]
  by_cases hia:a=i
  ·subst hia
   have:l.countP (fun j=>(upd f a v j).isNone)=l.countP (fun j=>(f j).isNone):=List.countP_congr fun j hj=>by
    have hne:j≠a:=fun e=>hn'.1 (e ▸ hj)
    unfold upd;rw[if_neg hne]
   rw[this]
   simp[hf,upd]
  ·have hil:i ∈ l:=by
    rcases List.mem_cons.1 h with h|h
    ·exact absurd h.symm hia
    ·exact h
   rw[count_upd v hf l hn'.2 hil]
   have:upd f i v a=f a:=by unfold upd;rw[if_neg hia]
   rw[this]
   omega
theorem first_none{f:Nat→Option Value}{n:Nat}(h:∃i,i<n∧f i=none):∃i,i<n∧f i=none ∧ ∀j,j<i→f j≠none:=by
 obtain⟨i,hi,hf⟩:=h
 induction i using Nat.strongRecOn with
 | _ i ih=>
  by_cases h:∃j,j<i∧f j=none
  ·obtain ⟨j,hj,hfj⟩:=h
   exact ih j hj (by omega) hfj
  ·exact ⟨i,hi,hf,fun j hj hfj=>h ⟨j,hj,hfj⟩⟩
theorem wpAny_of_inv{l:List Oper}{n:Nat}{C:World→Prop}{Φs:List (Value→World→Prop)}{Q:Exit→Act→World→Prop}{a0:Act}
  (hB:headB l n=true) (hsel:Region.noSelect l.toArray=true) (hn:n≤l.length)
  (hwait:∀listed i,HeadInv .any l.toArray n listed→i<n→listed.getD i true=false → ∀t,n≤t→t ∉ Region.ready .any l.toArray listed)
  (hC:∀w w',C w→Below w.heap.size w w'→C w') (hΦ : ∀i v w w',known Φs i v w→Below w.heap.size w w'→known Φs i v w')
  (hend:∀listed a w,HeadInv .any l.toArray n listed→(∀i,i<n→listed.getD i true=true)→wpList P l.toArray Q (l.drop n) a w→wpAny P .any l.toArray Q (l.length-n) listed a w)
  (h:∀vs,wpInv P C Φs (fun a w=>wpList P l.toArray Q (l.drop n) a w) vs (l.take n) 0 a0) :
  ∀(m:Nat) (f:Nat→Option Value) (listed:Array Bool) (w:World),(List.range n).countP (fun j=>(f j).isNone)=m→HeadInv .any l.toArray n listed →
   (∀i,i<n→listed.getD i true=(f i).isSome)→C w→(∀i,i<n → ∀v,f i=some v→known Φs i v w) →
   wpAny P .any l.toArray Q (m+(l.length-n)) listed (lexF f (l.take n) 0 a0) w:=by
 intro m
 induction m with
 | zero=>
  intro f listed w hm inv hl hw hk
  have hall:∀i,i<n→f i=some ((f i).getD undef):=fun i hi=>by
   have h1:=List.countP_eq_zero.1 hm i (List.mem_range.2 hi)
   cases hfi:f i with
   | none=>simp[hfi] at h1
   | some v=>rfl
  rw[Nat.zero_add]
  refine hend listed _ w inv (fun i hi=>by rw[hl i hi,hall i hi];rfl) ?_
  have he:=wpInv_end (l.take n) 0 a0 (h fun i=>(f i).getD undef) w hw (fun i hi=>by
   have hi':i<n:=by simp at hi;omega
   exact hk i hi' _ (hall i hi'))
  rw[lexF_same (f:=f) (g:=fun i=>some ((f i).getD undef)) (l.take n) 0 a0 fun j hj=>by
   rw[Nat.zero_add];exact hall j (by simp at hj;omega)]
  exact he
 | succ m ih=>
  intro f listed w hm inv hl hw hk
  have hex:∃i,i<n∧f i=none:=by
   have:0<(List.range n).countP (fun j=>(f j).isNone):=by omega
   obtain⟨i,hi,hfi⟩:=List.countP_pos_iff.1 this
   exact⟨i,List.mem_range.1 hi,by simpa using hfi⟩
  obtain⟨i0,hi0,hf0,hmin⟩:=first_none hex
  obtain⟨o0,ho0,_,hdep0,_⟩:=headB_spec hB hi0
  have hr0:i0 ∈ Region.ready .any l.toArray listed:=by
   refine mem_ready.2 ⟨by rw[hl i0 hi0,hf0];rfl,o0,by simpa using ho0,fun e he hb=>?_⟩
   have hlt:e.on<i0:=hdep0 e.on (List.mem_map.2 ⟨e,List.mem_filter.2 ⟨by simpa using he,hb⟩,rfl⟩)
   have h1:=hl e.on (by omega)
   have h2:(f e.on).isSome=true:=by
    have:=hmin e.on hlt
    cases hfe:f e.on with
    | none=>exact absurd hfe this
    | some v=>rfl
   rw[h2] at h1
   have hs:e.on<listed.size:=by rw[inv.size];simp;omega
   simp[hs] at h1 ⊢
   exact h1
  rw[show m+1+(l.length-n)=m+(l.length-n)+1 by omega]
  refine⟨fun h0=>(by rw[h0] at hr0;cases hr0),fun i hi=>?_⟩
  have hin:i<n:=by
   rcases Nat.lt_or_ge i n with h|h
   ·exact h
   ·exact absurd hi (hwait listed i0 inv hi0 (by rw[hl i0 hi0,hf0];rfl) i h)
  obtain⟨hun,oi,hoi,hall⟩:=mem_ready.1 hi
  have hfi:f i=none:=by
   rw[hl i hin] at hun
   simpa using hun
  obtain⟨oi',hoi',hg,hdep,hlook⟩:=headB_spec hB hin
  have hoo:l[i]? = some oi:=by simpa using hoi
  obtain rfl:oi'=oi:=Option.some.inj (hoi'.symm.trans hoo)
  have hti:(l.take n)[i]? = some oi':=by rw[List.getElem?_take,if_pos hin];exact hoo
  have hdone:∀e ∈ deps oi',e<n∧f e=some ((f e).getD undef):=fun e he=>by
   have hlt:=hdep e he
   have hen:e<n:=by omega
   refine⟨hen,?_⟩
   obtain⟨ed,hed,rfl⟩:=List.mem_map.1 he
   obtain⟨hed,hb⟩:=List.mem_filter.1 hed
   have h1:=hall ed (by simpa using hed) hb
   have h2:=hl ed.on hen
   have hs:ed.on<listed.size:=by rw[inv.size];simp;omega
   simp only[Array.getD,hs,dite_true] at h1 h2
   rw[h1] at h2
   cases hfe:f ed.on with
   | none=>rw[hfe] at h2;cases h2
   | some v=>rfl
  have hgrow:=wpInv_at (l.take n) 0 i oi' a0 (h fun i=>(f i).getD undef) hti w hw (fun e he=>hk e (hdone e he).1 _ (hdone e he).2)
  have hsame:execOp (lexF (fun i=>some ((f i).getD undef)) ((l.take n).take i) 0 a0).eval oi'=execOp (lexF f (l.take n) 0 a0).eval oi':=by
   refine execOp_congr oi' (fun cs b=>Region.noSelect_spec hsel i oi' cs b hoi) fun x hx=>?_
   cases x with
   | tmp t=>
    rw[lexF_take]
    refine lexF_eval (l.take n) 0 a0 a0 rfl rfl fun j o hj ht=>?_
    have hjn:j<n:=by
     have:=(List.getElem?_eq_some_iff.1 hj).1
     simp at this;omega
    have hj':l[j]? = some o:=by rw[List.getElem?_take,if_pos hjn] at hj;exact hj
    have hm:t ∈ oi'.looksAt l.toArray:=List.mem_append_left _ (List.mem_filterMap.2 ⟨.tmp t,by simpa using hx,rfl⟩)
    have hd:=(hlook j o t hjn hj' ht).2 hm
    rw[Nat.zero_add,Nat.zero_add,if_pos (hdep j hd)]
    exact(hdone j hd).2.symm
   | _=>rfl
  rw[Nat.zero_add] at hgrow
  unfold growAt at hgrow
  rw[hsame] at hgrow
  have hnext:∀v w',C w'→Below w.heap.size w w'→known Φs i v w'→wpAny P .any l.toArray Q (m+(l.length-n)) (listed.setIfInBounds i true) ((lexF f (l.take n) 0 a0).put oi'.dst v) w':=by
   intro v w' hw' hb hv
   have hu:=lexF_upd (f:=f) (v:=v) (l.take n) 0 i a0 hti (by rw[Nat.zero_add];exact hfi) (fun p op hp hne t ht=>by
    have hpn:p<n:=by
     have:=(List.getElem?_eq_some_iff.1 hp).1
     simp at this;omega
    have hp':l[p]? = some op:=by rw[List.getElem?_take,if_pos hpn] at hp;exact hp
    intro hpt
    exact(hlook p op t hpn hp' hpt).1 hne ht)
   rw[Nat.zero_add] at hu
   rw[←hu]
   refine ih (upd f i v) (listed.setIfInBounds i true) w' ?_ (inv.set hi hin) ?_ hw' ?_
   ·have:=count_upd v hfi (List.range n) List.nodup_range (List.mem_range.2 hin)
    omega
   ·intro j hj
    have hs:i<listed.size:=by rw[inv.size];simp;omega
    by_cases hji:j=i
    ·subst hji
     simp[upd,hs]
    ·rw[getD_set_ne true (Ne.symm hji),hl j hj]
     unfold upd;rw[if_neg hji]
   ·intro j hj u hu
    by_cases hji:j=i
    ·subst hji
     have:v=u:=by simpa [upd] using hu
     exact this ▸ hv
    ·unfold upd at hu;rw[if_neg hji] at hu
     exact hΦ j u w w' (hk j hj u hu) hb
  unfold wpOp
  simp only[hoi]
  have hwant:Region.wanted oi' (yielded l.toArray (lexF f (l.take n) 0 a0).tmps)=true:=by
   unfold Region.wanted;rw[hg]
  rw[if_pos hwant]
  refine .inl ?_
  unfold Oper.wp
  generalize (execOp (lexF f (l.take n) 0 a0).eval oi').run P w=r at hgrow ⊢
  cases r with
  | ok nx w'=>
   cases nx <;> simp only[growUpon] at hgrow <;> simp only[Oper.upon]
   case value u=>exact hnext u w' (hC w w' hw hgrow.1) hgrow.1 hgrow.2
   case skip=>exact hnext undef w' (hC w w' hw hgrow.1) hgrow.1 hgrow.2
   case enter g args=>
    obtain⟨rfl,hc⟩:=hgrow
    exact hc.mono fun e w'' ⟨v,he,hb,hv⟩=>by subst he;exact hnext v w'' (hC _ _ hw hb) hb hv
  | halt x w'=>simp only[growUpon] at hgrow
theorem listed_eq{l:List Oper}{n:Nat}{listed:Array Bool}(inv:HeadInv .any l.toArray n listed)(hall:∀i,i<n→listed.getD i true=true)(hn:n≤l.length):
  listed=(List.replicate n true++List.replicate (l.length-n) false).toArray:=by
 apply Array.ext
 ·rw[inv.size];simp;omega
 ·intro i h1 h2
  rcases Nat.lt_or_ge i n with h|h
  ·have:=hall i h
   simp only[Array.getD,h1,dite_true] at this
   simp[List.getElem_append,h]
   exact this
  ·have:=inv.tail i h (by rw[←inv.size];exact h1)
   simp only[Array.getD,h1,dite_true] at this
   simp[List.getElem_append,Nat.not_lt.2 h]
   exact this
def invAllB(l:List Oper):Bool:=headB l l.length&&Region.noSelect l.toArray
theorem inv0(l:List Oper)(n:Nat):HeadInv .any l.toArray n (Array.replicate l.toArray.size false):=
 ⟨by simp,fun j oj _ hl=>(by rw[getD_replicate_false] at hl;cases hl),fun t _ ht=>getD_in (by simpa using ht) (getD_replicate_false _ _)⟩
theorem known_of{Φs:List (Value→World→Prop)}(h:∀ Φ ∈ Φs,∀v w w',Φ v w→Below w.heap.size w w' → Φ v w'):∀i v w w',known Φs i v w→Below w.heap.size w w'→known Φs i v w':=by
 intro i v w w' hk hb
 unfold known at hk ⊢
 cases hi : Φs[i]? with
 | none=>trivial
 | some Φ=>rw[hi] at hk;exact h Φ (List.mem_of_getElem? hi) v w w' hk hb
theorem wp_region_invs{id:Nat}{Q:Exit→Act→World→Prop}{a:Act}{w:World}{l:List Oper}(Φs:List (Value→World→Prop))(hm:P.follows .mixedOrders=true)(hB:invAllB l=true)
  (hΦ : ∀ Φ ∈ Φs,∀v w w',Φ v w→Below w.heap.size w w' → Φ v w')
  (h:∀vs,wpInv P (fun w'=>Below w.heap.size w w') Φs (fun a w=>Q .normal a w) vs l 0 a):(Code.region id l.toArray true).wp P Q a w:=by
 simp only[invAllB,Bool.and_eq_true] at hB
 obtain⟨h1,h2⟩:=hB
 refine wp_region_any hm ?_
 have hout:∀listed t,l.length≤t→t ∉ Region.ready .any l.toArray listed:=fun listed t ht hr=>by
  obtain⟨_,o,ho,_⟩:=mem_ready.1 hr
  have:=(Array.getElem?_eq_some_iff.1 ho).1
  simp at this;omega
 have:=wpAny_of_inv (Φs:=Φs) (Q:=Q) (a0:=a) (n:=l.length) h1 h2 (Nat.le_refl _) (fun listed i _ _ _ t ht=>hout listed t ht) (fun w1 w2 hb hb2=>bthen hb hb2) (known_of hΦ)
  (fun listed a w inv hall hl=>by
   rw[Nat.sub_self]
   refine⟨?_,by simpa [wpList] using hl⟩
   cases hr:Region.ready .any l.toArray listed with
   | nil=>rfl
   | cons i r=>
    have hi:i ∈ Region.ready .any l.toArray listed:=by rw[hr];simp
    have h3:=(mem_ready.1 hi).1
    rcases Nat.lt_or_ge i l.length with h|h
    ·rw[hall i h] at h3;cases h3
    ·exact absurd hi (hout listed i h))
  (by simpa [wpList] using h) l.length (fun _=>none) (Array.replicate l.toArray.size false) { w with drawn:=w.drawn+1 } (by simp) (inv0 l _) (fun i hi=>getD_in (by simp;omega) (getD_replicate_false _ _)) (undrew' w) (fun i _ v hv=>by cases hv)
 have hz:lexF (fun _=>none) (l.take l.length) 0 a=a:=by
  have:=lexF_take (f:=fun _=>none) (l.take l.length) 0 0 a
  simp[lexF] at this
  simpa using this.symm
 rw[hz,Nat.sub_self,Nat.add_zero] at this
 simpa using this
def wpGrow(P:Program)(C:World→Prop)(Φs:List (Value→World→Prop))(ops:Array Oper)(Q:Exit→Act→World→Prop)(vs:Nat→Value):Nat→List Oper→Nat→Act→Prop
 | 0,l,k,a=>∀w,C w→(∀i,i<k→known Φs i (vs i) w)→wpList P ops Q l a w
 | _+1,[],_,_=>False
 | n+1,o::l,k,a=>(∀w,C w→(∀i ∈ deps o,known Φs i (vs i) w)→growAt P o a w (known Φs k))∧wpGrow P C Φs ops Q vs n l (k+1) (a.put o.dst (vs k))
theorem wpInv_of_grow{C:World→Prop}{Φs:List (Value→World→Prop)}{ops:Array Oper}{Q:Exit→Act→World→Prop}{vs:Nat→Value}:∀(n:Nat) (l:List Oper) (k:Nat) (a:Act),
  wpGrow P C Φs ops Q vs n l k a→wpInv P C Φs (fun a w=>wpList P ops Q (l.drop n) a w) vs (l.take n) k a
 | 0,_,_,_,h=>h
 | _+1,[],_,_,h=>h.elim
 | n+1,_::l,k,_,h=>⟨h.1,wpInv_of_grow n l (k+1) _ h.2⟩
theorem known_get{Φs:List (Value→World→Prop)}{k:Nat}{Φ : Value→World→Prop}(e : Φs[k]? = some Φ):known Φs k = Φ:=by
 funext v w
 unfold known
 rw[e]
theorem wpGrow_step{C:World→Prop}{Φs:List (Value→World→Prop)}{ops:Array Oper}{Q:Exit→Act→World→Prop}{vs:Nat→Value}{n k:Nat}{o:Oper}{l:List Oper}{a:Act}{Φ : Value→World→Prop}(e : Φs[k]? = some Φ)
  (h1:∀w,C w→(∀i ∈ deps o,known Φs i (vs i) w)→growAt P o a w Φ) (h2:wpGrow P C Φs ops Q vs n l (k+1) (a.put o.dst (vs k))):wpGrow P C Φs ops Q vs (n+1) (o::l) k a:=⟨by rw[known_get e];exact h1,h2⟩
def Stays(Φ : Value→World→Prop):Prop:=∀v w w',Φ v w→Below w.heap.size w w' → Φ v w'
def AllStay(Φs:List (Value→World→Prop)):Prop:=∀ Φ ∈ Φs,Stays Φ
theorem AllStay.nil:AllStay []:=fun _ h=>by simp at h
theorem AllStay.cons{Φ : Value→World→Prop}{Φs:List (Value→World→Prop)}(h:Stays Φ)(hs:AllStay Φs):AllStay (Φ :: Φs):=fun Ψ hm=>by
 rcases List.mem_cons.1 hm with rfl|hm
 ·exact h
 ·exact hs Ψ hm
theorem wp_region_grows{id:Nat}{Q:Exit→Act→World→Prop}{a:Act}{w:World}{l:List Oper}(n:Nat)(Φs:List (Value→World→Prop))(hm:P.follows .mixedOrders=true)(hB:invAllB l=true)(hn:l.length=n)
  (hΦ : AllStay Φs) (h:∀vs,wpGrow P (fun w'=>Below w.heap.size w w') Φs l.toArray Q vs n l 0 a):(Code.region id l.toArray true).wp P Q a w:=
 wp_region_invs Φs hm hB hΦ fun vs=>by
  have:=wpInv_of_grow n l 0 a (h vs)
  subst hn
  simpa [wpList] using this
def isV(u:Value):Value→World→Prop:=fun v _=>v=u
def isOwn(mk:Value→Value)(base E s n:Nat)(xs:List Value):Value→World→Prop:=fun v w=>∃A c,v=mk (.slice A n c)∧w.ownsRow base E s (.slice A n c) n xs
def isBox(base:Nat)(t:TypeId)(cs:Array Value):Value→World→Prop:=fun v w=>∃g,v = .pointer (some ⟨g,0,none⟩)∧base≤g∧Blk w g t cs
theorem stays_v(u:Value):Stays (isV u):=fun _ _ _ h _=>h
theorem stays_own(mk:Value→Value)(base E s n:Nat)(xs:List Value):Stays (isOwn mk base E s n xs):=fun _ _ _ ⟨A,c,h1,h2⟩ hb=>
 ⟨A,c,h1,h2.kept (row:=none) ⟨hb.os,hb.tape,hb.output,hb.size,fun k hk _=>hb.block k hk⟩ (by cases (Value.slice A n c).ownBlock <;> simp)⟩
def isSl(base:Nat)(t:TypeId)(n:Nat)(cs:Array Value):Value→World→Prop:=fun v w=>∃g,v = .slice (some ⟨g,0,none⟩) n n∧base≤g∧Blk w g t cs
theorem stays_sl(base:Nat)(t:TypeId)(n:Nat)(cs:Array Value):Stays (isSl base t n cs):=fun _ _ _ ⟨g,h1,h2,h3⟩ hb=>⟨g,h1,h2,h3.later hb⟩
theorem stays_box(base:Nat)(t:TypeId)(cs:Array Value):Stays (isBox base t cs):=fun _ _ _ ⟨g,h1,h2,h3⟩ hb=>⟨g,h1,h2,h3.later hb⟩
theorem kV{Φs:List (Value→World→Prop)}{i:Nat}{v u:Value}{w:World}(h:known Φs i v w)(e : Φs[i]? = some (isV u)):v=u:=by
 rw[known_get e] at h;exact h
theorem kSl{Φs:List (Value→World→Prop)}{i:Nat}{v:Value}{w:World}{base:Nat}{t:TypeId}{n:Nat}{cs:Array Value}(h:known Φs i v w)(e : Φs[i]? = some (isSl base t n cs)):∃g,v = .slice (some ⟨g,0,none⟩) n n∧base≤g∧Blk w g t cs:=by
 rw[known_get e] at h;exact h
theorem growSl{w:World}{base n:Nat}{t:TypeId}{cs:Array Value}(hb:base≤w.heap.size):growUpon P w (isSl base t n cs) (.ok (.value (.slice (some ⟨w.heap.size,0,none⟩) n n)) (w.alloc (.cells cs t))):=
 ⟨bnew _ _,_,rfl,hb,Blk.new' rfl⟩
theorem growV{w:World}{u:Value}:growUpon P w (isV u) (.ok (.value u) w):=⟨Below.refl _ _,rfl⟩
theorem growCall{w:World}{Φ : Value→World→Prop}{f:FuncId}{args:Array Value}(h:Calls P f args w (fun e w''=>∃v,e = .returned v∧Below w.heap.size w w'' ∧ Φ v w'')):growUpon P w Φ (.ok (.enter f args) w):=⟨rfl,h⟩
theorem growGives{w:World}{u:Value}{f:FuncId}{args:Array Value}(h:Gives P f args w u):growUpon P w (isV u) (.ok (.enter f args) w):=
 growCall (h.use.mono fun _ _ ⟨he,hb⟩=>⟨u,he,hb,rfl⟩)
end
