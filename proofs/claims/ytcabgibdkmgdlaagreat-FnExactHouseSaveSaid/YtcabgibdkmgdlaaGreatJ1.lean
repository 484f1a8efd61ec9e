import Derived.Test.YtcabgibdkmgdlaaGreatEng
import Derived.Test.YtcabgibdkmgdlaaGreatC1
import Derived.Deep.AppendSrc
import Derived.Test.YtcabgibdkmgdlaaGreatG1
import Derived.StillTail
import Derived.StillTailTactics
import Derived.Sort.Grow
import Derived.Shelf.Abstract
set_option linter.unusedSimpArgs false
set_option linter.unusedVariables false
set_option maxRecDepth 100000
set_option maxHeartbeats 4000000
namespace Go.Proofs.YtcabgibdkmgdlaaGreat
open Go.RowKit
def rowBlock:Value→Option Nat
 | .slice (some a) _ (_+1)=>some a.block
 | _=>none
def rowOk(w:World)(E:TypeId)(s:Nat)(v:Value)(n:Nat)(xs:List Value):Prop:=
 (n=0∧xs = [] ∧ ∃A,v = .slice A 0 0)∨(∃g c,v = .slice (some ⟨g,0,none⟩) n (c+1)∧w.ownsRow 0 E s v n xs)
theorem rowOk.stab{w w':World}{E:TypeId}{s n:Nat}{v:Value}{xs:List Value}(h:rowOk w E s v n xs)(e:∀b,rowBlock v=some b→w'.heap[b]? = w.heap[b]?):rowOk w' E s v n xs:=by
 rcases h with h|⟨g,c,rfl,h⟩
 ·exact .inl h
 ·refine .inr ⟨g,c,rfl,h.1,?_⟩
  rcases h.2 with ⟨hn,_⟩|⟨g',cap,cur,hv,hb,hg,rest⟩
  ·cases hn
  ·injection hv with h1 h2 h3
   injection h1 with h1
   injection h1 with h1 _ _
   subst h1
   refine .inr ⟨g,cap,cur,by rw[h3],hb,(e g rfl).trans hg,rest⟩
theorem rowOk.lt{w:World}{E:TypeId}{s n:Nat}{v:Value}{xs:List Value}(h:rowOk w E s v n xs){b:Nat}(e:rowBlock v=some b):b<w.heap.size:=by
 rcases h with ⟨_,_,A,rfl⟩|⟨g,c,rfl,h⟩
 ·cases A <;> cases e
 ·injection e with e
  subst e
  exact(h.lt g rfl).2
def Hl.row(E:TypeId)(s:Nat)(v:Value)(n:Nat)(xs:List Value):Hl:=
 ⟨fun b=>rowBlock v=some b,fun w=>rowOk w E s v n xs,fun _ _ h e=>h.stab e,fun _ h _ e=>h.lt e⟩
theorem rowOk_of_own{w:World}{E:TypeId}{s n:Nat}{v:Value}{xs:List Value}(h:w.ownsRow 0 E s v n xs):rowOk w E s v n xs:=by
 rcases h.2 with ⟨rfl,rfl⟩|⟨g,cap,cur,rfl,hb,hg,hn,hc,rest⟩
 ·exact .inl ⟨rfl,List.eq_nil_of_length_eq_zero (by simpa using h.1),none,rfl⟩
 ·cases cap with
  | zero=>
   obtain rfl:n=0:=by omega
   exact .inl ⟨rfl,List.eq_nil_of_length_eq_zero (by simpa using h.1),_,rfl⟩
  | succ c=>exact .inr ⟨g,c,rfl,h⟩
theorem rowBlock_own{v:Value}{b:Nat}(h:rowBlock v=some b):v.ownBlock=some b:=by
 unfold rowBlock at h
 split at h
 ·exact h
 ·cases h
theorem rowOk.rd{w:World}{E:TypeId}{s n:Nat}{v:Value}{xs:List Value}(h:rowOk w E s v n xs):Rd w s v n xs:=by
 rcases h with ⟨rfl,rfl,A,rfl⟩|⟨g,c,rfl,h⟩
 ·exact ⟨by simp,A,0,rfl,Nat.le_refl _,Nat.zero_le _,fun h=>absurd h (by omega)⟩
 ·exact Rd.of_own h
theorem rowOk.len{w:World}{E:TypeId}{s n:Nat}{v:Value}{xs:List Value}(h:rowOk w E s v n xs):xs.length=n*s:=h.rd.1
theorem rowOk.form{w:World}{E:TypeId}{s n:Nat}{v:Value}{xs:List Value}(h:rowOk w E s v n xs)(hn:0<n):∃g c,v = .slice (some ⟨g,0,none⟩) n c∧w.ownsRow 0 E s v n xs:=by
 rcases h with ⟨rfl,_⟩|⟨g,c,rfl,h⟩
 ·omega
 ·exact ⟨g,c+1,rfl,h⟩
theorem rowOk.slice{w:World}{E:TypeId}{s n:Nat}{v:Value}{xs:List Value}(h:rowOk w E s v n xs):∃A c,v = .slice A n c∧n≤c∧c≤maxLen:=by
 obtain⟨A,c,e,h1,h2,_⟩:=h.rd.form
 exact⟨A,c,e,h1,h2⟩
theorem rowOk.none{w:World}(E:TypeId)(s:Nat)(A:Option Addr):rowOk w E s (.slice A 0 0) 0 [] := .inl ⟨rfl,rfl,A,rfl⟩
section
variable {R:Nat→Prop} {w0 w w':World} {L M:List Hl}
theorem Hs.toRow{E:TypeId}{s n:Nat}{v:Value}{xs:List Value}(H:Hs R w0 L w)(u:Upd (Hl.own E s v n xs) (Hl.row E s v n xs) L M):Hs R w0 M w:=
 H.turn u ((Grow.refl noRow w).mono (fun _ f=>f.elim)) (rowOk_of_own (H.ok _ u.inL.mem)) (fun _ hb => .inl (rowBlock_own hb))
theorem Hs.put{h:Hl}(H:Hs R w0 L w)(hp:h.P w)(hs:∀b,¬h.sup b):Hs R w0 (h::L) w:=by
 refine⟨H.grow,?_,?_,List.pairwise_cons.2 ⟨fun k _ b hb=>absurd hb (hs b),H.sep⟩⟩
 ·intro k hk
  rcases List.mem_cons.1 hk with rfl|hk
  ·exact hp
  ·exact H.ok k hk
 ·intro k hk b hb
  rcases List.mem_cons.1 hk with rfl|hk
  ·exact absurd hb (hs b)
  ·exact H.own k hk b hb
theorem Hs.putRow(H:Hs R w0 L w)(E:TypeId)(s:Nat)(A:Option Addr):Hs R w0 (Hl.row E s (.slice A 0 0) 0 []::L) w:=
 H.put (rowOk.none E s A) (fun b hb=>by cases A <;> cases hb)
theorem Hs.rows{E:TypeId}{s n:Nat}{v:Value}{xs:List Value}(H:Hs R w0 L w)(i:In (Hl.row E s v n xs) L):rowOk w E s v n xs:=H.ok _ i.mem
theorem Hs.rowCell{g:Nat}{E:TypeId}{s n c:Nat}{xs:List Value}(H:Hs R w0 L w)(i:In (Hl.row E s (.slice (some ⟨g,0,none⟩) n c) n xs) L){j:Nat}{v:Value}(e:xs[j]? = some v):w.cell? ⟨g,j,none⟩=some v:=by
 rcases H.rows i with ⟨_,rfl,_⟩|⟨g',c',hv,h⟩
 ·simp at e
 ·exact (h.cells (g:=g) rfl j v e:w.cell? ((⟨g,0,none⟩:Addr).add j)=some v) ▸ by rw[Addr.add_mid,Nat.zero_add]
end
section
variable {P:Program} {w:World}
theorem firstCells_zero(s:Nat)(A:Option Addr)(n c:Nat)(w':World):(Builtin.firstCells s 0 (.slice A n c)).run P w' = .ok #[] w':=by
 cases A <;> simp[Builtin.firstCells,loadCells,loadCellsFrom]
theorem src_of_rd{s n:Nat}{v:Value}{xs:List Value}{t e:TypeId}(ht:P.underlying t=some (.slice e))(h:Rd w s v n xs)(h1:∀u ∈ xs,u.oneCell'=true):Src P s t v n xs w:=by
 obtain⟨A,c,rfl,hn,hc,hf⟩:=h.form
 by_cases h0:n=0
 ·subst h0
  obtain rfl:xs = []:=List.eq_nil_of_length_eq_zero (by simpa using h.1)
  exact⟨.inl ⟨e,ht⟩,fun _=>by cases A <;> rfl,firstCells_zero s A 0 c w,firstCells_zero s A 0 c w.drew,by simp,fun _ h=>by cases h⟩
 ·obtain ⟨b,off,rfl,hcell⟩:=hf (by omega)
  exact Src.ofSlice w ht ⟨b,off,none⟩ n c xs h.1 (fun j u hu=>by rw[Addr.add_mid];exact hcell j u hu) h1
theorem run_append_row{t ty E:TypeId}{s:Nat}(hT:appT P t E s=true){v:Value}{n:Nat}{xs:List Value}(ho:rowOk w E s v n xs){src:Value}{m:Nat}{news:List Value}(hr:Rd w s src m news)
  (h1:∀u ∈ news,u.oneCell'=true) (hm:n+m≤1000000000) :
  ∃v' w',(Builtin.append_ #[t,t] ty #[v,src]).run P w = .ok v' w'∧rowOk w' E s v' (n+m) (xs++news)∧Grow (fun b=>rowBlock v=some b) w w'∧(∀b,rowBlock v'=some b→rowBlock v=some b∨w.heap.size≤b):=by
 obtain⟨i,z,ht,hi,hz,h2,h3,h4,h5⟩:=appT_spec hT
 subst h2
 have hS:=src_of_rd (P:=P) ht hr h1
 rcases ho with ⟨rfl,rfl,A,rfl⟩|⟨g,c,rfl,ho⟩
 ·by_cases h0:m=0
  ·subst h0
   obtain rfl:news = []:=List.eq_nil_of_length_eq_zero (by simpa using hr.1)
   obtain⟨A2,c2,rfl,_⟩:=hr.form
   refine⟨.slice A 0 0,w,?_,rowOk.none E _ A,(Grow.refl noRow w).mono (fun _ f=>f.elim),fun b hb => .inl hb⟩
   cases A <;> cases A2 <;> simp[Builtin.append_,run_underlying ht,Go.sizeOf,typeInfo,hi,Builtin.lenOf,Builtin.firstCells,loadCells,loadCellsFrom,storeCells]
  ·have he:=run_append_grow_src (P:=P) w t t ty E i z ht hi hz A 0 0 [] (firstCells_zero _ A 0 0 w.drew) src m news hS (by omega) (by omega) (growslice_fits (by omega) (bytes_le (by omega) h3))
   simp only[Nat.zero_add,List.nil_append] at he ⊢
   have hge:=grownCap_ge w m 0 E
   have hcm:grownCap w m 0 E≤maxLen:=grownCap_le_maxLen w m 0 E (by unfold maxLen;omega)
   refine⟨_,_,he,rowOk_of_own ⟨hr.1,.inr ⟨w.heap.size,_,_,rfl,Nat.zero_le _,heap_alloc_new w.drew _,hge,hcm,?_,?_⟩⟩,(growN (((Below.refl _ w).drew).alloc (Nat.le_refl _) _)).mono (fun _ f=>f.elim),fun b hb => .inr (by have:=rowBlock_own hb;simp[Value.ownBlock] at this;omega)⟩
   ·simp only[Array.size_append,List.size_toArray,size_zeroCells,h4,hr.1,←Nat.add_mul]
    congr 1
    omega
   ·simp only[Array.toList_append]
    rw[←hr.1]
    exact List.take_left
 ·obtain ⟨A2,c2,rfl,hmc,hc2,hf⟩:=hr.form
  cases A2 with
  | none=>
   have h0:m=0:=by
    rcases Nat.eq_zero_or_pos m with h|h
    ·exact h
    ·obtain ⟨_,_,h,_⟩:=hf h;cases h
   subst h0
   obtain rfl:news = []:=List.eq_nil_of_length_eq_zero (by simpa using hr.1)
   refine⟨_,w,?_,.inr ⟨g,c,rfl,by rw[List.append_nil];exact ho⟩,(Grow.refl noRow w).mono (fun _ f=>f.elim),fun b hb => .inl hb⟩
   have hnc:n≤c+1:=by
    rcases ho.2 with ⟨h,_⟩|⟨_,_,_,h,_,_,h6,_⟩
    ·cases h
    ·injection h with _ _ h;omega
   simp[Builtin.append_,run_underlying ht,Go.sizeOf,typeInfo,hi,Builtin.lenOf,Builtin.firstCells,hnc,storeCells]
  | some ad=>
   have hnews:∀j u,news[j]? = some u→w.cell? (ad.add j)=some u:=by
    intro j u hu
    rcases Nat.eq_zero_or_pos m with h|h
    ·have:news = []:=List.eq_nil_of_length_eq_zero (by rw[hr.1,h,Nat.zero_mul])
     rw[this] at hu;simp at hu
    ·obtain ⟨b,off,hb,hcell⟩:=hf h
     injection hb with hb
     subst hb
     rw[Addr.add_mid];exact hcell j u hu
   obtain⟨v',w',hrun,ho',hg,hnil⟩:=run_append_own (P:=P) w 0 t ty E i z i.size i.bytes ht hi hz rfl rfl h4 h5 _ n xs ho ad m c2 news hr.1 hnews h1 (by unfold maxLen;omega) (bytes_le hm h3) (Nat.zero_le _)
   exact⟨v',w',hrun,rowOk_of_own ho',(Grow.of_grownBy hg).mono (fun b hb=>hb),fun b hb=>append_block ht hi hz rfl h3 ho hr.1 hnews h1 hm hrun b (rowBlock_own hb)⟩
theorem st_appendr{R:Nat→Prop}{w0:World}{L M:List Hl}{a:Act}{ops:Array Oper}{Q:Exit→Act→World→Prop}{rest:List Oper}{dst:Option Tmp}{ty:TypeId}{pos:String}{aft:Array Edge}
  {xo yo:Operand} {t E:TypeId} {s n m:Nat} {v src:Value} {xs news:List Value} (H:Hs R w0 L w) (d:Del (Hl.row E s v n xs) L M) (hs:a.eval xo=v) (hx:a.eval yo=src)
  (hT:appT P t E s=true) (hr:Rd w s src m news) (h1:news.all (·.oneCell')=true) (hm:n+m≤1000000000)
  (k:∀v' w',Hs R w0 (Hl.row E s v' (n+m) (xs++news)::M) w'→wpList P ops Q rest (a.put dst v') w') :
  wpList P ops Q (⟨dst,.call ⟨.builtin .append,#[xo,yo],#[t,t]⟩,ty,pos,aft,none⟩::rest) a w:=by
 refine wpList_plain rfl fun K hK=>?_
 have H1:=H.perm d.perm.symm
 have ho:rowOk w E s v n xs:=H1.ok _ (List.mem_cons_self ..)
 obtain⟨v',w',hrun,ho',hg,hb⟩:=run_append_row (P:=P) (ty:=ty) hT ho hr (fun u hu=>List.all_eq_true.1 h1 u hu) hm
 unfold Oper.wp execOp
 simp only[resolve,invoke,builtin,Sem.run_bind,Sem.run_pure,Result.andThen_ok,List.map_toArray,List.map_cons,List.map_nil,hs,hx,hrun]
 exact hK _ _ (k v' w' (H1.turn Upd.here hg ho' hb))
theorem Rd.of_blk{g:Nat}{E:TypeId}{cs:Array Value}{s m:Nat}(h:Blk w g E cs)(hl:cs.toList.length=m*s)(hm:m≤maxLen):Rd w s (.slice (some ⟨g,0,none⟩) m m) m cs.toList:=
 ⟨hl,_,m,rfl,Nat.le_refl _,hm,fun _=>⟨g,0,rfl,fun j u hu=>by rw[Nat.zero_add,h.cell];simpa using hu⟩⟩
theorem st_appendrb{R:Nat→Prop}{w0:World}{L M:List Hl}{a:Act}{ops:Array Oper}{Q:Exit→Act→World→Prop}{rest:List Oper}{dst:Option Tmp}{ty:TypeId}{pos:String}{aft:Array Edge}
  {xo yo:Operand} {t E:TypeId} {s n m g:Nat} {v:Value} {xs:List Value} {cs:Array Value} (H:Hs R w0 L w) (d:Del (Hl.row E s v n xs) L M) (hs:a.eval xo=v) (hx:a.eval yo = .slice (some ⟨g,0,none⟩) m m)
  (i:In (Hl.blk g E cs) L) (hT:appT P t E s=true) (hl:cs.toList.length=m*s) (h1:cs.toList.all (·.oneCell')=true) (hm:n+m≤1000000000)
  (k:∀v' w',Hs R w0 (Hl.row E s v' (n+m) (xs++cs.toList)::M) w'→wpList P ops Q rest (a.put dst v') w') :
  wpList P ops Q (⟨dst,.call ⟨.builtin .append,#[xo,yo],#[t,t]⟩,ty,pos,aft,none⟩::rest) a w:=
 st_appendr H d hs hx hT (Rd.of_blk (H.blk i) hl (by unfold maxLen;omega)) h1 hm k
end
def At(w:World)(b off:Nat)(vs:List Value):Prop:=∀j u,vs[j]? = some u→w.cell? ⟨b,off+j,none⟩=some u
section
variable {P:Program} {R:Nat→Prop} {w0 w w':World} {L M:List Hl} {a:Act} {ops:Array Oper} {Q:Exit→Act→World→Prop} {rest:List Oper} {dst:Option Tmp} {T ty:TypeId} {x:Operand} {pos:String} {aft:Array Edge} {gd:Option (Nat × Bool)} {b off n:Nat} {vs:List Value} {K:List Hl}
theorem At.one(h:At w b off vs){j:Nat}{u:Value}(e:vs[j]? = some u):w.cell? ⟨b,off+j,none⟩=some u:=h j u e
theorem At.head(h:At w b off vs){u:Value}(e:vs[0]? = some u):w.cell? ⟨b,off,none⟩=some u:=h 0 u e
theorem At.below(h:At w b off vs)(hb:Below w.heap.size w w'):At w' b off vs:=fun j u hu=>(hb.cell (World.block_lt_of_cell? w _ (h j u hu))).trans (h j u hu)
theorem At.old(h:At w0 b off vs)(H:Hs noRow w0 L w):At w b off vs:=h.below H.below
theorem At.row{E:TypeId}{s m c:Nat}{xs:List Value}(H:Hs R w0 L w)(i:In (Hl.row E s (.slice (some ⟨b,0,none⟩) m c) m xs) L)(h:∀j u,vs[j]? = some u→xs[off+j]? = some u):At w b off vs:=fun j u hu=>H.rowCell i (h j u hu)
theorem At.own{E:TypeId}{s m c:Nat}{xs:List Value}(H:Hs R w0 L w)(i:In (Hl.own E s (.slice (some ⟨b,0,none⟩) m c) m xs) L)(h:∀j u,vs[j]? = some u→xs[off+j]? = some u):At w b off vs:=fun j u hu=>H.ownCell i (h j u hu)
def Seg(xs:List Value)(off:Nat)(vs:List Value):Prop:=∀j u,vs[j]? = some u→xs[off+j]? = some u
theorem st_loadat(H:Hs R w0 L w)(hT:aggT P T=some true)(hx:a.eval x = .pointer (some ⟨b,off,none⟩))(hA:At w b off vs)(hn:sizeT P T=some n)(hl:vs.length=n)
  (k:∀w',Hs R w0 L w'→wpList P ops Q rest (a.put dst (.agg vs.toArray)) w'):wpList P ops Q (⟨dst,.load T x,ty,pos,aft,none⟩::rest) a w:=
 st_loadn H hT hx hn hl hA k
theorem q_loadat(hx:a.eval x = .pointer (some ⟨b,off,none⟩))(hT:aggT P T=some true)(hA:At w b off vs)(hn:sizeT P T=some n)(hl:vs.length=n):QOk P ⟨dst,.load T x,ty,pos,aft,gd⟩ a w (.agg vs.toArray):=
 q_loadn hx hT hn hl hA
end
end Go.Proofs.YtcabgibdkmgdlaaGreat
namespace Go.Proofs.YtcabgibdkmgdlaaGreat
open Go.RowKit
def Sep(L:List Hl):Prop:=L.Pairwise (fun h k=>∀b,h.sup b → ¬k.sup b)
def Hl.all(M:List Hl):Hl:=
 ⟨fun b=>∃h ∈ M,h.sup b,fun w=>(∀h ∈ M,h.P w)∧Sep M,
  fun w w' h e=>⟨fun k hk=>k.stab w w' (h.1 k hk) (fun b hb=>e b ⟨k,hk,hb⟩),h.2⟩,
  fun w h b ⟨k,hk,hb⟩=>k.lt w (h.1 k hk) b hb⟩
section
variable {R:Nat→Prop} {w0 w w':World} {L M N:List Hl}
theorem Hs.pack(H:Hs R w0 (M++L) w):Hs R w0 (Hl.all M::L) w:=by
 obtain⟨h1,h2,h3⟩:=List.pairwise_append.1 H.sep
 refine⟨H.grow,?_,?_,List.pairwise_cons.2 ⟨?_,h2⟩⟩
 ·intro k hk
  rcases List.mem_cons.1 hk with rfl|hk
  ·exact ⟨fun k hk=>H.ok k (List.mem_append_left _ hk),h1⟩
  ·exact H.ok k (List.mem_append_right _ hk)
 ·intro k hk b hb
  rcases List.mem_cons.1 hk with rfl|hk
  ·obtain ⟨j,hj,hjb⟩:=hb
   exact H.own j (List.mem_append_left _ hj) b hjb
  ·exact H.own k (List.mem_append_right _ hk) b hb
 ·rintro k hk b ⟨j,hj,hjb⟩ hkb
  exact h3 j hj k hk b hjb hkb
theorem Hs.unpack(H:Hs R w0 (Hl.all M::L) w):Hs R w0 (M++L) w:=by
 obtain⟨h1,h2⟩:=List.pairwise_cons.1 H.sep
 have ha:=H.ok _ (List.mem_cons_self ..)
 refine⟨H.grow,?_,?_,List.pairwise_append.2 ⟨ha.2,h2,?_⟩⟩
 ·intro k hk
  rcases List.mem_append.1 hk with hk|hk
  ·exact ha.1 k hk
  ·exact H.ok k (List.mem_cons_of_mem _ hk)
 ·intro k hk b hb
  rcases List.mem_append.1 hk with hk|hk
  ·exact H.own _ (List.mem_cons_self ..) b ⟨k,hk,hb⟩
  ·exact H.own k (List.mem_cons_of_mem _ hk) b hb
 ·intro j hj k hk b hb hkb
  exact h1 k hk b ⟨j,hj,hb⟩ hkb
theorem Hs.reperm(H:Hs R w0 L w)(h:L.Perm M):Hs R w0 M w:=H.perm h.symm
theorem Hs.join(H:Hs R w0 (Hl.all M::Hl.all N::L) w):Hs R w0 (Hl.all (M++N)::L) w:=by
 refine Hs.pack ?_
 have h1:=H.unpack
 have h2:Hs R w0 (Hl.all N::(M++L)) w:=h1.reperm List.perm_middle
 have h3:=h2.unpack
 refine h3.reperm ?_
 rw[←List.append_assoc]
 exact(List.perm_append_comm).append_right L
theorem Hs.part(H:Hs R w0 (Hl.all (M++N)::L) w):Hs R w0 (Hl.all M::Hl.all N::L) w:=by
 have h1:=H.unpack
 rw[List.append_assoc] at h1
 have h2:=h1.pack
 have h3:Hs R w0 (N++(L ++ [Hl.all M])) w:=h2.reperm (by rw[←List.append_assoc];exact List.perm_append_singleton _ _ |>.symm)
 have h4:=h3.pack
 refine h4.reperm ?_
 refine(List.Perm.cons _ (List.perm_append_singleton _ _)).trans (List.Perm.swap ..)
theorem Hs.allOk(H:Hs R w0 L w)(i:In (Hl.all M) L):∀h ∈ M,h.P w:=(H.ok _ i.mem).1
theorem Hs.allNil(H:Hs R w0 L w):Hs R w0 (Hl.all []::L) w:=Hs.pack (M:=[]) H
theorem Hs.head(H:Hs R w0 (Hl.all (N++M)::L) w):Hs R w0 (N++Hl.all M::L) w:=H.part.unpack
end
structure Ty (α:Type) where
 s:Nat
 rd:World→List Value→α→Prop
 own:List Value→α→List Hl→Prop
 len:∀ {w cs a},rd w cs a→cs.length=s
 olen:∀ {cs a M},own cs a M→cs.length=s
 one:∀ {w cs a},rd w cs a → ∀u ∈ cs,u.oneCell'=true
 below:∀ {w w' cs a},rd w cs a→Below w.heap.size w w'→rd w' cs a
 read:∀ {w cs a M},own cs a M→(∀h ∈ M,h.P w)→rd w cs a
def Ty.flat{α:Type}(s:Nat)(enc:α→List Value)(hl:∀a,(enc a).length=s)(h1:∀a,∀u ∈ enc a,u.oneCell'=true):Ty α where
 s:=s
 rd _ cs a:=cs=enc a
 own cs a M:=cs=enc a∧M = []
 len h:=by subst h;exact hl _
 olen h:=by rw[h.1];exact hl _
 one h:=by subst h;exact h1 _
 below h _:=h
 read h _:=h.1
inductive RdL {α:Type} (T:Ty α) (w:World):List Value→List α→Prop
 | nil:RdL T w [] []
 | cons {cs:List Value} {a:α} {xs:List Value} {l:List α}:T.rd w cs a→RdL T w xs l→RdL T w (cs++xs) (a::l)
inductive OwnL {α:Type} (T:Ty α):List Value→List α→List Hl→Prop
 | nil:OwnL T [] [] []
 | cons {cs:List Value} {a:α} {M:List Hl} {xs:List Value} {l:List α} {N:List Hl}:T.own cs a M→OwnL T xs l N→OwnL T (cs++xs) (a::l) (M++N)
section
variable {α β:Type} {T:Ty α} {U:Ty β} {w w':World} {xs ys cs ds:List Value} {l r:List α} {a:α} {M N:List Hl}
theorem RdL.len(h:RdL T w xs l):xs.length=l.length*T.s:=by
 induction h with
 | nil=>simp
 | cons h _ ih=>rw[List.length_append,T.len h,ih,List.length_cons,Nat.succ_mul];omega
theorem OwnL.len(h:OwnL T xs l M):xs.length=l.length*T.s:=by
 induction h with
 | nil=>simp
 | cons h _ ih=>rw[List.length_append,T.olen h,ih,List.length_cons,Nat.succ_mul];omega
theorem RdL.one(h:RdL T w xs l):∀u ∈ xs,u.oneCell'=true:=by
 induction h with
 | nil=>intro u hu;cases hu
 | cons h _ ih=>
  intro u hu
  rcases List.mem_append.1 hu with hu|hu
  ·exact T.one h u hu
  ·exact ih u hu
theorem RdL.later(h:RdL T w xs l)(hb:Below w.heap.size w w'):RdL T w' xs l:=by
 induction h with
 | nil=>exact .nil
 | cons h _ ih=>exact .cons (T.below h hb) ih
theorem OwnL.read(h:OwnL T xs l M)(hp:∀k ∈ M,k.P w):RdL T w xs l:=by
 induction h with
 | nil=>exact .nil
 | cons h _ ih=>exact .cons (T.read h (fun k hk=>hp k (List.mem_append_left _ hk))) (ih (fun k hk=>hp k (List.mem_append_right _ hk)))
theorem OwnL.append(h:OwnL T xs l M)(k:OwnL T ys r N):OwnL T (xs++ys) (l++r) (M++N):=by
 induction h with
 | nil=>exact k
 | cons h _ ih=>rw[List.append_assoc,List.append_assoc];exact .cons h ih
theorem OwnL.single(h:T.own cs a M):OwnL T cs [a] M:=by
 have:=OwnL.cons h OwnL.nil
 simpa using this
theorem OwnL.snoc(h:OwnL T xs l N)(k:T.own cs a M):OwnL T (xs++cs) (l ++ [a]) (N++M):=h.append (.single k)
theorem OwnL.split:∀ {l r:List α} {xs:List Value} {M:List Hl},OwnL T xs (l++r) M → ∃x1 x2 M1 M2,xs=x1++x2∧M=M1++M2∧OwnL T x1 l M1∧OwnL T x2 r M2
 | [],r,xs,M,h=>⟨[],xs,[],M,rfl,rfl,.nil,h⟩
 | a::l,r,_,_,.cons h1 h2=>by
  obtain⟨x1,x2,M1,M2,rfl,rfl,h3,h4⟩:=h2.split
  exact⟨_,x2,_,M2,(List.append_assoc ..).symm,(List.append_assoc ..).symm,.cons h1 h3,h4⟩
theorem OwnL.un:OwnL T xs (a::l) M → ∃cs ys M1 M2,xs=cs++ys∧M=M1++M2∧T.own cs a M1∧OwnL T ys l M2
 | .cons h1 h2=>⟨_,_,_,_,rfl,rfl,h1,h2⟩
theorem OwnL.unNil:OwnL T xs [] M→xs = []∧M = []
 | .nil=>⟨rfl,rfl⟩
theorem OwnL.at_{i:Nat}(h:OwnL T xs l M)(hi:l[i]? = some a):∃x1 cs x2 M1 Mi M2,xs=x1++(cs++x2)∧M=M1++(Mi++M2)∧x1.length=i*T.s∧OwnL T x1 (l.take i) M1∧T.own cs a Mi∧OwnL T x2 (l.drop (i+1)) M2:=by
 obtain⟨hlt,rfl⟩:=List.getElem?_eq_some_iff.1 hi
 have e:l=l.take i++(l[i]::l.drop (i+1)):=by rw[←List.drop_eq_getElem_cons hlt,List.take_append_drop]
 have h':OwnL T xs (l.take i++(l[i]::l.drop (i+1))) M:=by rw[←e];exact h
 obtain⟨x1,x2,M1,M2,rfl,rfl,h1,h2⟩:=h'.split
 obtain⟨cs,ys,Mi,M3,rfl,rfl,h3,h4⟩:=h2.un
 exact⟨x1,cs,ys,M1,Mi,M3,rfl,rfl,by rw[h1.len,List.length_take,Nat.min_eq_left (Nat.le_of_lt hlt)],h1,h3,h4⟩
theorem seg_mid(x1 cs x2:List Value){off:Nat}(h:x1.length=off):Seg (x1++(cs++x2)) off cs:=fun j u hu=>by
 subst h
 rw[List.getElem?_append_right (by omega),Nat.add_sub_cancel_left,List.getElem?_append_left (List.getElem?_eq_some_iff.1 hu).1]
 exact hu
theorem RdL.at_:∀ {xs:List Value} {l:List α} {i:Nat},RdL T w xs l→l[i]? = some a → ∃cs,T.rd w cs a∧Seg xs (i*T.s) cs
 | _,_,i,.nil,hi=>by simp at hi
 | _,_,0,.cons (cs:=cs) (xs:=xs) h1 h2,hi=>by
  simp at hi;subst hi
  exact⟨cs,h1,by rw[Nat.zero_mul];exact seg_mid [] cs xs rfl⟩
 | _,_,i+1,.cons (cs:=cs) (xs:=xs) h1 h2,hi=>by
  obtain⟨ds,h3,h4⟩:=h2.at_ (i:=i) (by simpa using hi)
  refine⟨ds,h3,fun j u hu=>?_⟩
  have hl:=T.len h1
  rw[List.getElem?_append_right (by rw[hl,Nat.succ_mul];omega),hl,show (i+1)*T.s+j-T.s=i*T.s+j by rw[Nat.succ_mul];omega]
  exact h4 j u hu
def Ty.sl(E:TypeId)(T:Ty α):Ty (List α) where
 s:=1
 rd w cs l:=∃v xs,cs = [v]∧Rd w T.s v l.length xs∧RdL T w xs l
 own cs l M:=∃v xs N,cs = [v]∧OwnL T xs l N∧M=Hl.row E T.s v l.length xs::N∧v.oneCell'=true
 len h:=by obtain⟨v,xs,rfl,_⟩:=h;rfl
 olen h:=by obtain⟨v,xs,N,rfl,_⟩:=h;rfl
 one h:=by
  obtain⟨v,xs,rfl,hr,_⟩:=h
  obtain⟨A,c,rfl,_⟩:=hr.form
  intro u hu
  obtain rfl:=List.mem_singleton.1 hu
  rfl
 below h hb:=by
  obtain⟨v,xs,rfl,hr,hl⟩:=h
  exact⟨v,xs,rfl,hr.later hb,hl.later hb⟩
 read h hp:=by
  obtain⟨v,xs,N,rfl,ho,rfl,_⟩:=h
  exact⟨v,xs,rfl,(hp _ (List.mem_cons_self ..)).rd,ho.read (fun k hk=>hp k (List.mem_cons_of_mem _ hk))⟩
def Ty.pair(T:Ty α)(U:Ty β):Ty (α × β) where
 s:=T.s+U.s
 rd w cs a:=∃c1 c2,cs=c1++c2∧T.rd w c1 a.1∧U.rd w c2 a.2
 own cs a M:=∃c1 c2 M1 M2,cs=c1++c2∧M=M1++M2∧T.own c1 a.1 M1∧U.own c2 a.2 M2
 len h:=by obtain⟨c1,c2,rfl,h1,h2⟩:=h;rw[List.length_append,T.len h1,U.len h2]
 olen h:=by obtain⟨c1,c2,M1,M2,rfl,rfl,h1,h2⟩:=h;rw[List.length_append,T.olen h1,U.olen h2]
 one h:=by
  obtain⟨c1,c2,rfl,h1,h2⟩:=h
  intro u hu
  rcases List.mem_append.1 hu with hu|hu
  ·exact T.one h1 u hu
  ·exact U.one h2 u hu
 below h hb:=by obtain⟨c1,c2,rfl,h1,h2⟩:=h;exact⟨c1,c2,rfl,T.below h1 hb,U.below h2 hb⟩
 read h hp:=by
  obtain⟨c1,c2,M1,M2,rfl,rfl,h1,h2⟩:=h
  exact⟨c1,c2,rfl,T.read h1 (fun k hk=>hp k (List.mem_append_left _ hk)),U.read h2 (fun k hk=>hp k (List.mem_append_right _ hk))⟩
theorem sl_form{E:TypeId}{v:Value}(h:(Ty.sl E T).rd w [v] l):∃A c,v = .slice A l.length c∧l.length≤c∧c≤maxLen:=by
 obtain⟨v',xs,e,hr,_⟩:=h
 injection e with e;subst e
 obtain⟨A,c,e,h1,h2,_⟩:=hr.form
 exact⟨A,c,e,h1,h2⟩
theorem slN{E:TypeId}{A:Option Addr}{n c:Nat}(h:(Ty.sl E T).rd w [.slice A n c] l):n=l.length∧n≤9223372036854775807:=by
 obtain⟨_,_,e,h,h'⟩:=sl_form h
 injection e
 unfold maxLen at h'
 omega
theorem sl_at{E:TypeId}{v:Value}{i:Nat}(h:(Ty.sl E T).rd w [v] l)(hi:l[i]? = some a):∃b off c cs,v = .slice (some ⟨b,off,none⟩) l.length c∧T.rd w cs a∧At w b (off+i*T.s) cs:=by
 obtain⟨v',xs,e,hr,hl⟩:=h
 injection e with e;subst e
 obtain⟨A,c,rfl,h1,h2,hf⟩:=hr.form
 obtain⟨b,off,rfl,hcell⟩:=hf (by have:=(List.getElem?_eq_some_iff.1 hi).1;omega)
 obtain⟨cs,h3,h4⟩:=hl.at_ hi
 exact⟨b,off,c,cs,rfl,h3,fun j u hu=>by rw[Nat.add_assoc];exact hcell _ u (h4 j u hu)⟩
def tOwn(T:Ty α)(a:α):Value→List Hl→Prop:=fun v M=>∃N,T.own v.cells.toList a N∧M = [Hl.all N]∧(T.s=1→v.oneCell'=true)
theorem tOwn.single{T:Ty α}{a:α}{v:Value}{M:List Hl}(h:tOwn T a v M)(hs:T.s=1):∃N,T.own [v] a N∧M = [Hl.all N]:=by
 obtain⟨N,h1,h2,h3⟩:=h
 refine⟨N,?_,h2⟩
 have e:=h3 hs
 cases v <;> first|exact h1|cases e
theorem own_rd{R:Nat→Prop}{w0:World}{L:List Hl}(H:Hs R w0 L w)(i:In (Hl.all N) L)(h:T.own cs a N):T.rd w cs a:=T.read h (H.allOk i)
end
def spl(xs:List Value)(off:Nat)(vs:List Value):List Value:=xs.take off++vs++xs.drop (off+vs.length)
theorem spl_mid(x1 z x2 vs:List Value){off:Nat}(h:x1.length=off)(hz:z.length=vs.length):spl (x1++(z++x2)) off vs=x1++(vs++x2):=by
 subst h
 unfold spl
 rw[List.take_left,List.append_assoc,List.drop_append,List.drop_eq_nil_of_le (by omega),List.nil_append,Nat.add_sub_cancel_left,←hz,List.drop_left]
theorem spl_len{xs vs:List Value}{off:Nat}(h:off+vs.length≤xs.length):(spl xs off vs).length=xs.length:=by unfold spl;simp only[List.length_append,List.length_take,List.length_drop];omega
theorem spl_ge{xs vs:List Value}{off:Nat}:xs.length≤(spl xs off vs).length:=by unfold spl;simp only[List.length_append,List.length_take,List.length_drop];omega
theorem splice_take{cur:Array Value}{off m:Nat}{xs vs:List Value}(h:cur.toList.take m=xs)(hx:xs.length=m)(hl:off+vs.length≤m):(splice cur off vs).toList.take m=spl xs off vs:=by
 have hm:m≤cur.toList.length:=by rw[←hx,←h,List.length_take];omega
 unfold splice spl
 simp only[List.toList_toArray]
 subst h
 rw[List.take_take,Nat.min_eq_left (by omega),List.drop_take,List.append_assoc,List.append_assoc,List.take_append,List.take_append,List.length_take,Nat.min_eq_left (by omega),
  List.take_of_length_le (l:=cur.toList.take off) (by rw[List.length_take];omega),List.take_of_length_le (l:=vs) (by omega)]
 congr 3
 omega
theorem run_storerow{P:Program}{T E:TypeId}{w:World}{g off s n c:Nat}{xs vs:List Value}{u:Value}(ho:rowOk w E s (.slice (some ⟨g,0,none⟩) n c) n xs)(hv:u.cells.toList=vs)(hn:sizeT P T=some vs.length)
  (hp:0<vs.length) (hl:off+vs.length≤xs.length) (h1:vs.all (·.oneCell')=true) :
  ∃w',(storeVar T ⟨g,off,none⟩ u).run P w = .ok () w'∧rowOk w' E s (.slice (some ⟨g,0,none⟩) n c) n (spl xs off vs)∧Grow (fun b=>rowBlock (.slice (some ⟨g,0,none⟩) n c)=some b) w w':=by
 rcases ho with ⟨_,rfl,_⟩|⟨g',c',hv',ho⟩
 ·rw[List.length_nil] at hl;omega
 ·injection hv' with e1 _ e3
  injection e1 with e1;injection e1 with e1 _ _
  subst e1 e3
  rcases ho.2 with ⟨h,_⟩|⟨g2,cap,cur,hv2,hb,hg,hnc,hcm,hcs,htake⟩
  ·cases h
  ·injection hv2 with e1 _ e3
   injection e1 with e1;injection e1 with e1 _ _
   subst e1 e3
   have hsz:u.cells.size=vs.length:=by rw[←hv];simp
   have hle:n*s≤cur.size:=by rw[hcs];exact Nat.mul_le_mul_right _ hnc
   have hr:=run_store (P:=P) (T:=T) (g:=g) (off:=off) (t:=E) (cs:=cur) (v:=u) (w:=w) (by rw[hsz];exact hn) hg (by rw[hsz];have:=ho.1;omega) (by rw[hv];exact h1)
   rw[hv] at hr
   have hlen:(spl xs off vs).length=n*s:=by unfold spl;simp only[List.length_append,List.length_take,List.length_drop];have:=ho.1;omega
   refine⟨_,hr,.inr ⟨g,c',rfl,hlen,.inr ⟨g,c'+1,_,rfl,hb,setRow_heap w g cur _ E _ hg,hnc,hcm,?_,splice_take htake ho.1 (by have:=ho.1;omega)⟩⟩,(Grow.setRow w g _).mono (fun b hb=>by subst hb;rfl)⟩
   unfold splice
   simp only[List.size_toArray,List.length_append,List.length_take,List.length_drop,Array.length_toList]
   have:=ho.1
   omega
theorem st_storerow{P:Program}{R:Nat→Prop}{w0 w:World}{L M:List Hl}{a:Act}{ops:Array Oper}{Q:Exit→Act→World→Prop}{rest:List Oper}{T E ty:TypeId}{x y:Operand}{pos:String}{aft:Array Edge}{dst:Option Tmp}
  {g off s n c:Nat} {xs vs:List Value} {u:Value} (H:Hs R w0 L w) (hx:a.eval x = .pointer (some ⟨g,off,none⟩)) (hy:a.eval y=u) (hv:u.cells.toList=vs)
  (up:Upd (Hl.row E s (.slice (some ⟨g,0,none⟩) n c) n xs) (Hl.row E s (.slice (some ⟨g,0,none⟩) n c) n (spl xs off vs)) L M)
  (hn:sizeT P T=some vs.length) (hp:0<vs.length) (hl:off+vs.length≤xs.length) (h1:vs.all (·.oneCell')=true)
  (k:∀w',Hs R w0 M w'→wpList P ops Q rest (a.put dst undef) w'):wpList P ops Q (⟨dst,.store T x y,ty,pos,aft,none⟩::rest) a w:=by
 refine wpList_plain rfl fun K hK=>?_
 obtain⟨w',hr,ho,hg⟩:=run_storerow (P:=P) (T:=T) (H.rows up.inL) hv hn hp hl h1
 unfold Oper.wp execOp
 simp only[hx,hy,Instr.storeAt,Instr.sureAddr,Sem.run_bind,Sem.run_pure,Result.andThen_ok,hr]
 exact hK _ _ (k _ (H.turn up hg ho (fun b hb => .inl hb)))
theorem st_makerow{P:Program}{R:Nat→Prop}{w0 w:World}{L:List Hl}{a:Act}{ops:Array Oper}{Q:Exit→Act→World→Prop}{rest:List Oper}{T E ty:TypeId}{x y:Operand}{pos:String}{aft:Array Edge}{dst:Option Tmp}{s n:Nat}
  (H:Hs R w0 L w) (hx:a.eval x = .int .i64 (n:Int)) (hy:a.eval y = .int .i64 (n:Int)) (hT:appT P T E s=true) (hn:n≤1000000000)
  (k:∀g zs w',zs.length=n*s→(∃i z,P.info? E=some i∧i.zero=some z∧zs=(madeCells z.cells (n*s)).toList)→Hs R w0 (Hl.row E s (.slice (some ⟨g,0,none⟩) n n) n zs::L) w'→wpList P ops Q rest (a.put dst (.slice (some ⟨g,0,none⟩) n n)) w') :
  wpList P ops Q (⟨dst,.makeSlice T x y,ty,pos,aft,none⟩::rest) a w:=by
 obtain⟨i,z,ht,hi,hz,h2,h3,h4,h5⟩:=appT_spec hT
 refine st_make (E:=E) (z:=z) (s:=s) (b:=i.bytes) (m:=(n:Int)) H hx hy ht (by rw[hi];simp[hz,h2]) (by omega) ?_ (by omega) fun g w' H1=>?_
 ·have:=bytes_le hn h3
  have h6:((n*i.bytes:Nat):Int)=(i.bytes:Int)*n:=by rw[Nat.mul_comm];exact Int.natCast_mul ..
  omega
 ·have hs:(madeCells z.cells (n*s)).size=n*s:=by simp[madeCells]
  have H2:=(H1.toOwn (g:=g) (E:=E) s n Upd.here (by simpa using hs) (by unfold maxLen;omega)).toRow Upd.here
  exact k g _ w' (by simpa using hs) ⟨i,z,hi,hz,rfl⟩ H2
theorem own_step{α:Type}{T:Ty α}{pre zs cs:List Value}{l:List α}{N Mi:List Hl}{i m:Nat}{a:α}(h:OwnL T pre (l.take i) N)(hi:l[i]? = some a)(hz:zs.length=(m+1)*T.s)(ho:T.own cs a Mi):
  ∃pre' zs',OwnL T pre' (l.take (i+1)) (N++Mi)∧spl (pre++zs) (i*T.s) cs=pre'++zs'∧zs'.length=m*T.s:=by
 obtain⟨hlt,rfl⟩:=List.getElem?_eq_some_iff.1 hi
 have hp:pre.length=i*T.s:=by rw[h.len,List.length_take,Nat.min_eq_left (Nat.le_of_lt hlt)]
 have hc:=T.olen ho
 have hl:T.s≤zs.length:=by rw[hz,Nat.succ_mul];omega
 refine⟨pre++cs,zs.drop T.s,?_,?_,by rw[List.length_drop,hz,Nat.succ_mul];omega⟩
 ·rw[List.take_succ_eq_append_getElem hlt]
  exact h.snoc ho
 ·have e:zs=zs.take T.s++zs.drop T.s:=(List.take_append_drop _ _).symm
  rw[e,spl_mid pre (zs.take T.s) (zs.drop T.s) cs hp (by rw[List.length_take,hc];omega),List.append_assoc]
  simp
def RPost(K:List Hl)(w:World)(T:Value→List Hl→Prop):Ending→World→Prop:=fun e w'=>∃v M,e = .returned v∧T v M∧Hk K w M w'
theorem Rets.of{P:Program}{K:List Hl}{f:FuncId}{args:Array Value}{w:World}{T:Value→List Hl→Prop}(h:Calls P f args w (RPost K w T)):Rets P K f args w T:=h
theorem Hs.retd{T:Value→List Hl→Prop}{w w':World}{v:Value}{L M:List Hl}(H:Hs noRow w L w')(h:M.Sublist L)(hT:T v M):RPost [] w T (.returned v) w':=
 ⟨v,M,rfl,hT,(H.sub h).hk⟩
theorem ret_sl{α:Type}{T:Ty α}{E:TypeId}{w w':World}{v:Value}{xs zs:List Value}{l r:List α}{N L:List Hl}{n s:Nat}(H:Hs noRow w (Hl.row E s v n (xs++zs)::Hl.all N::L) w')(h:OwnL T xs l N)(hl:l=r)(hz:zs.length=0)(hn:n=r.length)(hs:s=T.s:=by rfl):
  RPost [] w (tOwn (Ty.sl E T) r) (.returned v) w':=by
 subst hl hn hs
 obtain rfl:zs = []:=List.eq_nil_of_length_eq_zero hz
 rw[List.append_nil] at H
 have hv:=H.rows .here
 have h1:v.oneCell'=true∧v.cells.toList = [v]:=by obtain⟨A,c,rfl,_⟩:=hv.slice;exact⟨rfl,rfl⟩
 refine Hs.retd (L:=Hl.all (Hl.row E T.s v l.length xs::N)::L) (M:=[Hl.all (Hl.row E T.s v l.length xs::N)]) ?_ (List.Sublist.cons_cons _ (List.nil_sublist _)) ⟨_,⟨v,xs,N,h1.2,h,rfl,h1.1⟩,rfl,fun _=>h1.1⟩
 have h2:Hs noRow w (Hl.all N::(L ++ [Hl.row E T.s v l.length xs])) w':=H.reperm (List.perm_append_singleton _ (Hl.all N::L)).symm
 have h3:=h2.unpack
 refine Hs.pack (h3.reperm ?_)
 rw[←List.append_assoc]
 exact List.perm_append_singleton _ _
structure Bx (p:Prop):Prop where
 out:p
theorem st_guard{P:Program}{a:Act}{w:World}{ops:Array Oper}{Q:Exit→Act→World→Prop}{rest:List Oper}{dst:Option Tmp}{ty:TypeId}{pos:String}{aft:Array Edge}{op:Op}{j:Nat}{b b':Bool}
  (hy:yielded ops a.tmps j=some b') (k1:b'=b→wpList P ops Q (⟨dst,op,ty,pos,aft,none⟩::rest) a w) (k0:b'=(!b)→wpList P ops Q rest (a.put dst undef) w):wpList P ops Q (⟨dst,op,ty,pos,aft,some (j,b)⟩::rest) a w:=by
 by_cases h:b'=b
 ·refine st_want ?_ (k1 h)
  simp[Region.wanted,hy,h]
 ·have h2:b'=(!b):=by cases b <;> cases b' <;> simp_all
  refine st_skip ?_ (k0 h2)
  simp[Region.wanted,hy,h2]
theorem aF{P:Prop}(h:P:=by first|exact At.old (by assumption) H|assumption):P:=h
theorem aF1{P:Prop}(h:P:=by first|exact At.old (by assumption) H1|assumption):P:=h
theorem qAF{P:Prop}(h:P:=by (with_reducible apply q_loadat);(focus rfl);(focus decide +kernel);(focus exact aF1);(focus exact zF);(focus rfl)):P:=h
theorem qWF{P:Prop}(h:P:=by unfold QOk;go_simp;rw[wrap_id (by omega) (by omega)];exact q_v):P:=h
theorem fitF{P:Prop}(h:P:=by first|assumption|((repeat(with_reducible refine Nat.le_trans ?_ spl_ge));(first|assumption|(simp only[List.length_cons,List.length_nil];omega)))):P:=h
structure Mark (α:Type) where
 cnt:α→Nat
 mak:Nat→α→α
namespace Mark
variable {α β:Type} (M:Mark α) (U:Mark β)
def cntl:List α→Nat
 | []=>0
 | a::l=>M.cnt a+cntl l
def mkl:Nat→List α→List α
 | _,[]=>[]
 | k,a::l=>M.mak k a::mkl (k+M.cnt a) l
def list:Mark (List α):=⟨M.cntl,M.mkl⟩
def pair:Mark (α × β):=⟨fun a=>M.cnt a.1+U.cnt a.2,fun k a=>(M.mak k a.1,U.mak (k+M.cnt a.1) a.2)⟩
theorem cntl_append(l r:List α):M.cntl (l++r)=M.cntl l+M.cntl r:=by
 induction l with
 | nil=>simp[cntl]
 | cons a l ih=>simp[cntl,ih,Nat.add_assoc]
theorem mkl_append(k:Nat)(l r:List α):M.mkl k (l++r)=M.mkl k l++M.mkl (k+M.cntl l) r:=by
 induction l generalizing k with
 | nil=>simp[cntl,mkl]
 | cons a l ih=>simp[cntl,mkl,ih,Nat.add_assoc]
theorem mkl_len(k:Nat)(l:List α):(M.mkl k l).length=l.length:=by
 induction l generalizing k with
 | nil=>rfl
 | cons a l ih=>simp[mkl,ih]
theorem cntl_step{l:List α}{i:Nat}{a:α}(h:l[i]? = some a):M.cntl (l.take (i+1))=M.cntl (l.take i)+M.cnt a:=by
 obtain⟨hlt,rfl⟩:=List.getElem?_eq_some_iff.1 h
 rw[List.take_succ_eq_append_getElem hlt,cntl_append]
 rfl
theorem cntl_take_le(l:List α)(i:Nat):M.cntl (l.take i)≤M.cntl l:=by
 have:=M.cntl_append (l.take i) (l.drop i)
 rw[List.take_append_drop] at this
 omega
theorem cnt_at_le{l:List α}{i:Nat}{a:α}(h:l[i]? = some a):M.cntl (l.take i)+M.cnt a≤M.cntl l:=by
 have:=M.cntl_take_le l (i+1)
 rw[M.cntl_step h] at this
 exact this
theorem mkl_step{l:List α}{i k:Nat}{a:α}(h:l[i]? = some a):M.mkl k (l.take (i+1))=M.mkl k (l.take i) ++ [M.mak (k+M.cntl (l.take i)) a]:=by
 obtain⟨hlt,rfl⟩:=List.getElem?_eq_some_iff.1 h
 rw[List.take_succ_eq_append_getElem hlt,mkl_append]
 rfl
theorem mkl_at{l:List α}{i k:Nat}{a:α}(h:l[i]? = some a):(M.mkl k l)[i]? = some (M.mak (k+M.cntl (l.take i)) a):=by
 obtain⟨hlt,e⟩:=List.getElem?_eq_some_iff.1 h
 have h1:l=l.take i++(a::l.drop (i+1)):=by rw[←e,←List.drop_eq_getElem_cons hlt,List.take_append_drop]
 have hl:(M.mkl k (l.take i)).length=i:=by rw[mkl_len,List.length_take,Nat.min_eq_left (Nat.le_of_lt hlt)]
 rw[h1,mkl_append,List.getElem?_append_right (by rw[hl];exact Nat.le_refl _),hl,Nat.sub_self,←h1]
 rfl
end Mark
def TPost{α:Type}(T:Ty α)(cs:List Value)(b:α)(R:Nat→Prop)(w0:World)(L:List Hl)(r:Value):Ending→World→Prop:=
 fun e w'=>e = .returned r ∧ ∃N,T.own cs b N∧Hs R w0 (Hl.all N::L) w'
def Turn(P:Program){α:Type}(f:FuncId)(T:Ty α)(cs:List Value)(a b:α)(args:Array Value)(r:Value):Prop:=
 ∀(R:Nat→Prop) (w0:World) (L:List Hl) (w:World) (N:List Hl),T.own cs a N→Hs R w0 (Hl.all N::L) w→Calls P f args w (TPost T cs b R w0 L r)
theorem own_open{α:Type}{T:Ty α}{E:TypeId}{R:Nat→Prop}{w0 w:World}{L N:List Hl}{v:Value}{l:List α}(h:(Ty.sl E T).own [v] l N)(H:Hs R w0 (Hl.all N::L) w):
  ∃xs M A c,v = .slice A l.length c∧OwnL T xs l M∧c≤maxLen∧Hs R w0 (Hl.row E T.s v l.length xs::Hl.all M::L) w:=by
 obtain⟨v',xs,M,hv,hO,rfl,h1⟩:=h
 injection hv with hv
 subst hv
 have H1:Hs R w0 (Hl.row E T.s v l.length xs::(M++L)) w:=H.unpack
 have H2:Hs R w0 (M++(L ++ [Hl.row E T.s v l.length xs])) w:=H1.reperm (by rw[←List.append_assoc];exact(List.perm_append_singleton _ _).symm)
 have H3:Hs R w0 (Hl.row E T.s v l.length xs::Hl.all M::L) w:=H2.pack.reperm ((List.perm_append_singleton _ (Hl.all M::L)))
 obtain⟨A,c,hs,_,hc⟩:=(H3.rows .here).slice
 exact⟨xs,M,A,c,hs,hO,hc,H3⟩
theorem own_close{α:Type}{T:Ty α}{E:TypeId}{R:Nat→Prop}{w0 w:World}{L M:List Hl}{v:Value}{l:List α}{xs:List Value}{n s:Nat}(hO:OwnL T xs l M)(H:Hs R w0 (Hl.row E s v n xs::Hl.all M::L) w)(hn:n=l.length)(hs:s=T.s:=by rfl):
  ∃N,(Ty.sl E T).own [v] l N∧Hs R w0 (Hl.all N::L) w:=by
 subst hn hs
 have h1:v.oneCell'=true:=by obtain⟨A,c,rfl,_⟩:=(H.rows .here).slice;rfl
 refine⟨_,⟨v,xs,M,rfl,hO,rfl,h1⟩,Hs.pack ?_⟩
 have H2:Hs R w0 (Hl.all M::(L ++ [Hl.row E T.s v l.length xs])) w:=H.reperm ((List.perm_append_singleton _ (Hl.all M::L)).symm)
 exact H2.unpack.reperm (by rw[←List.append_assoc];exact List.perm_append_singleton _ _)
def szC(k:Int)(n:Nat):Int:=if k-n<0 then -1 else k-n
theorem szC_neg{k:Int}{n:Nat}(h:k-n<0):szC k n = -1:=if_pos h
theorem szC_pos{k:Int}{n:Nat}(h:¬k-n<0):szC k n=k-n:=if_neg h
theorem flat_noown{α:Type}{s:Nat}{enc:α→List Value}{hl:∀a,(enc a).length=s}{h1:∀a,∀u ∈ enc a,u.oneCell'=true}{xs:List Value}{l:List α}{N:List Hl}(h:OwnL (Ty.flat s enc hl h1) xs l N):N = []:=by
 induction h with
 | nil=>rfl
 | cons h _ ih=>rw[h.2,ih];rfl
theorem spl_one(pre ys:List Value)(o:Value)(us:List Value)(u:Value){p j:Nat}(hp:pre.length=p)(h:j<us.length):spl (pre++(us++ys)) (p+j) [u]=pre++(us.set j u++ys):=by
 subst hp
 have e:us=us.take j++(us[j]::us.drop (j+1)):=by rw[←List.drop_eq_getElem_cons h,List.take_append_drop]
 have hj:(us.take j).length=j:=by rw[List.length_take];omega
 have e2:us.set j u=us.take j++(u::us.drop (j+1)):=by rw[List.set_eq_take_append_cons_drop,if_pos h]
 rw[e2]
 have h0:us++ys=us.take j++([us[j]]++(us.drop (j+1)++ys)):=(congrArg (· ++ ys) e).trans (by simp only[List.append_assoc,List.cons_append,List.nil_append])
 have h1:pre++(us++ys)=(pre++us.take j)++([us[j]]++(us.drop (j+1)++ys)):=by rw[h0,List.append_assoc]
 rw[h1,spl_mid (pre++us.take j) [us[j]] (us.drop (j+1)++ys) [u] (by rw[List.length_append,hj]) rfl]
 simp
section
variable (pre:List Value) {p:Nat} {a b c d e u1 u2 u3 u4 u5:Value}
theorem spl_1(us:List Value)(ys:List Value)(hp:pre.length=p){us':List Value}(h:us = [a]∧us' = [u1]:=by exact⟨rfl,rfl⟩):spl (pre++(us++ys)) (p) [u1]=pre++(us'++ys):=by
 obtain⟨rfl,rfl⟩:=h
 exact spl_one pre ys a [a] u1 hp (j:=0) (by simp)
theorem spl_2(us:List Value)(ys:List Value)(hp:pre.length=p){us':List Value}(h:us = [a,b]∧us' = [u1,u2]:=by exact⟨rfl,rfl⟩):spl (spl (pre++(us++ys)) p [u1]) (p+1) [u2]=pre++(us'++ys):=by
 obtain⟨rfl,rfl⟩:=h
 have h0:=spl_one pre ys a [a,b] u1 hp (j:=0) (by simp)
 rw[Nat.add_zero] at h0
 rw[h0,spl_one pre ys a _ u2 hp (j:=1) (by simp)]
 rfl
theorem spl_3(us:List Value)(ys:List Value)(hp:pre.length=p){us':List Value}(h:us = [a,b,c]∧us' = [u1,u2,u3]:=by exact⟨rfl,rfl⟩):spl (spl (spl (pre++(us++ys)) p [u1]) (p+1) [u2]) (p+2) [u3]=pre++(us'++ys):=by
 obtain⟨rfl,rfl⟩:=h
 have h0:=spl_one pre ys a [a,b,c] u1 hp (j:=0) (by simp)
 rw[Nat.add_zero] at h0
 rw[h0,spl_one pre ys a _ u2 hp (j:=1) (by simp),spl_one pre ys a _ u3 hp (j:=2) (by simp)]
 rfl
theorem spl_5(us:List Value)(ys:List Value)(hp:pre.length=p){us':List Value}(h:us = [a,b,c,d,e]∧us' = [u1,u2,u3,u4,u5]:=by exact⟨rfl,rfl⟩):spl (spl (spl (spl (spl (pre++(us++ys)) p [u1]) (p+1) [u2]) (p+2) [u3]) (p+3) [u4]) (p+4) [u5]=pre++(us'++ys):=by
 obtain⟨rfl,rfl⟩:=h
 have h0:=spl_one pre ys a [a,b,c,d,e] u1 hp (j:=0) (by simp)
 rw[Nat.add_zero] at h0
 rw[h0,spl_one pre ys a _ u2 hp (j:=1) (by simp),spl_one pre ys a _ u3 hp (j:=2) (by simp),spl_one pre ys a _ u4 hp (j:=3) (by simp),spl_one pre ys a _ u5 hp (j:=4) (by simp)]
 rfl
end
theorem slE{α:Type}{T:Ty α}{E:TypeId}{w:World}{A:Option Addr}{n c i:Nat}{l:List α}(HR:Hid ((Ty.sl E T).rd w [.slice A n c] l))(HN:Hid (n=l.length))(h:i<n):
  ∃x b off cs,l[i]? = some x∧A=some ⟨b,off,none⟩∧True∧T.rd w cs x∧At w b (off+i*T.s) cs:=by
 have hl:i<l.length:=by rw[←HN.out];exact h
 have hr:=HR.out
 rw[HN.out] at hr
 obtain⟨b,off,c',cs,hv,hcs,hA⟩:=sl_at hr (List.getElem?_eq_getElem hl)
 injection hv with h1 _ _
 exact⟨_,b,off,cs,List.getElem?_eq_getElem hl,h1,trivial,hcs,hA⟩
end Go.Proofs.YtcabgibdkmgdlaaGreat
namespace Go.Proofs.YtcabgibdkmgdlaaGreat
open Go.RowKit M
namespace M
abbrev Lab:=Int × Int
def encLab(a:Lab):List Value:=[.int .i64 a.1,.int .i64 a.2]
def tyLab:Ty Lab:=Ty.flat 2 encLab (fun _=>rfl) (fun a u hu=>by simp only[encLab,List.mem_cons,List.not_mem_nil,or_false] at hu;rcases hu with rfl|rfl <;> rfl)
def mkLab:Mark Lab:=⟨fun _=>2,fun k _=>((k:Int),((k+1:Nat):Int))⟩
abbrev Pr:=Lab × Lab × Int
def encPr(a:Pr):List Value:=[.int .i64 a.1.1,.int .i64 a.1.2,.int .i64 a.2.1.1,.int .i64 a.2.1.2,.int .i64 a.2.2]
def tyPr:Ty Pr:=Ty.flat 5 encPr (fun _=>rfl) (fun a u hu=>by simp only[encPr,List.mem_cons,List.not_mem_nil,or_false] at hu;rcases hu with rfl|rfl|rfl|rfl|rfl <;> rfl)
def mkPr:Mark Pr:=⟨fun _=>5,fun k _=>(((k:Int),((k+1:Nat):Int)),(((k+2:Nat):Int),((k+3:Nat):Int)),((k+4:Nat):Int))⟩
abbrev Qt:=Lab × Int
def encQt(a:Qt):List Value:=[.int .i64 a.1.1,.int .i64 a.1.2,.int .i64 a.2]
def tyQt:Ty Qt:=Ty.flat 3 encQt (fun _=>rfl) (fun a u hu=>by simp only[encQt,List.mem_cons,List.not_mem_nil,or_false] at hu;rcases hu with rfl|rfl|rfl <;> rfl)
def mkQt:Mark Qt:=⟨fun _=>3,fun k _=>(((k:Int),((k+1:Nat):Int)),((k+2:Nat):Int))⟩
abbrev Nt:=Int × Int
def encNt(a:Nt):List Value:=[.int .i64 a.1,.int .i64 a.2]
def tyNt:Ty Nt:=Ty.flat 2 encNt (fun _=>rfl) (fun a u hu=>by simp only[encNt,List.mem_cons,List.not_mem_nil,or_false] at hu;rcases hu with rfl|rfl <;> rfl)
def mkNt:Mark Nt:=⟨fun _=>2,fun k _=>((k:Int),((k+1:Nat):Int))⟩
def encNum(a:Int):List Value:=[.int .i64 a]
def tyNum:Ty Int:=Ty.flat 1 encNum (fun _=>rfl) (fun a u hu=>by obtain rfl:=List.mem_singleton.1 hu;rfl)
def mkNum:Mark Int:=⟨fun _=>1,fun k _=>(k:Int)⟩
end M
theorem toLabel_l(a:Lab)(w:World):Gives Tryz.prog 263 #[.agg #[.int .i64 a.1,.int .i64 a.2]] w (.agg #[.int .i64 a.1,.int .i64 a.2]):=by
 obtain⟨a1,a2⟩:=a
 unfold Gives
 have H:=Hs.start noRow w
 go_enter Tryz.func263,Tryz.ntmps263
 go_wp2_with ((first|refine zU ?_|(refine zB 1 ?_;intro b1)|(refine zA 2 ?_;intro b2)|(refine zA 3 ?_;intro b3));clear H;intro wn H)
 refine bpF ?_
 exact⟨rfl,H.below⟩
theorem eqLabel_l(a:Lab)(w:World):Gives Tryz.prog 309 #[.agg #[.int .i64 a.1,.int .i64 a.2],.agg #[.int .i64 a.1,.int .i64 a.2]] w (.bool true):=by
 obtain⟨a1,a2⟩:=a
 unfold Gives
 have H:=Hs.start noRow w
 go_enter Tryz.func309,Tryz.ntmps309
 go_wp2_with ((first|refine zL ?_|(refine zB 2 ?_;intro b2)|(refine zB 3 ?_;intro b3));clear H;intro wn H)
 go_ret
 exact⟨rfl,H.below⟩
theorem toLabelS_l(v:Value)(l:List Lab)(hl:l.length≤1048576)(w:World)(hr:(Ty.sl 0 tyLab).rd w [v] l):Rets Tryz.prog [] 259 #[v] w (tOwn (Ty.sl 123 tyLab) l):=by
 obtain⟨A,c,rfl,hlc,hcm⟩:=sl_form hr
 have HR:=hY hr
 have H:=Hs.start noRow w
 obtain⟨n,hn⟩:=nm l.length
 have hnl:n≤1048576:=by omega
 rw[←hn] at HR ⊢
 have HN:=hY hn
 clear hr hn hl hcm hlc
 refine Rets.of ?_
 go_enter Tryz.func259,Tryz.ntmps259
 go_wp2_with ((with_reducible apply st_makerow (E:=123) (s:=2) H);rfl;rfl;decide +kernel;(focus omega);clear H;intro g zs wn hz0 hz1 H;refine zp ?_)
 go_loopg [4] n (fun m iv wr=>∃(i:Nat) (pre zs:List Value) (N:List Hl),i+m=n∧iv = .int .i64 i∧Hid (OwnL tyLab pre (l.take i) N∧zs.length=(n-i)*2)∧Hs noRow w [Hl.row 123 2 (.slice (some ⟨g,0,none⟩) n n) n (pre++zs),Hl.all N] wr)
 case atStart=>exact⟨0,[],zs,[],by omega,rfl,hY ⟨.nil,hz0⟩,by rw[List.nil_append];exact H.allNil.sel sF⟩
 case round=>
  clear H
  obtain⟨i,pre,zs,N,hi,rfl,HO,H⟩:=hrel
  by_cases hlt:i<n
  ·obtain ⟨x,b,off,cs,hx,rfl,hv2,hcs,hA⟩:=slE HR HN hlt
   obtain rfl:cs=encLab x:=hcs
   obtain⟨p',z',hp,hsp,hz'⟩:=own_step (m:=n-(i+1)) HO.out.1 hx (by rw[HO.out.2];show (n-i)*2=(n-(i+1)+1)*2;congr 1;omega) (show tyLab.own (encLab x) x [] from ⟨rfl,rfl⟩)
   have hfit:i*2+2≤(pre++zs).length:=by
    have h1:=HO.out.1.len
    have h2:=HO.out.2
    rw[List.length_append,h1,h2,List.length_take,Nat.min_eq_left (by rw[←HN.out];omega)]
    show i*2+2≤i*2+(n-i)*2
    omega
   have HS:Hid (spl (pre++zs) (i*2) (encLab x)=p'++z'):=hY hsp
   have HO2:=hY (And.intro hp hz')
   have hlt1:(i:Int)<n:=by omega
   clear hsp hp hz' hx HO hv2
   unfold encLab at *
   go_wp2_with ((first|refine zU ?_|(go_at_call 263;refine gvF (toLabel_l _ _) H ?_));clear H;intro wn H)
   go_roundg (n-(i+1))
   case measure=>omega
   case rel=>exact⟨i+1,p',z',_,by omega,by go_num,HO2,by rw[List.append_nil,←HS.out];exact H.sel sF⟩
  ·obtain rfl:i=n:=by omega
   have hlt1:=nlt i
   go_wp2_with (fail)
   go_ret
   exact ret_sl H HO.out.1 ((tkl HN)) (by rw[HO.out.2,Nat.sub_self,Nat.zero_mul]) HN.out
theorem eqLabelS_l(va vb:Value)(l:List Lab)(w:World)(ha:(Ty.sl 123 tyLab).rd w [va] l)(hb:(Ty.sl 123 tyLab).rd w [vb] l):Gives Tryz.prog 305 #[va,vb] w (.bool true):=by
 obtain⟨A,c,rfl,hlc,hcm⟩:=sl_form ha
 obtain⟨B,d,rfl,_,_⟩:=sl_form hb
 unfold maxLen at *
 have HA:=hY ha
 have HB:=hY hb
 have H:=Hs.start noRow w
 obtain⟨n,hn⟩:=nm l.length
 have hnl:n≤9223372036854775807:=by omega
 rw[←hn] at HA HB ⊢
 have HN:=hY hn
 clear ha hb hn hcm hlc
 unfold Gives
 go_enter Tryz.func305,Tryz.ntmps305
 go_wp2_with (fail)
 go_loopg [5] n (fun m iv wr=>∃(i:Nat),i+m=n∧iv = .int .i64 i∧Hs noRow w [] wr)
 case atStart=>exact⟨0,by omega,rfl,H⟩
 case round=>
  clear H
  obtain⟨i,hi,rfl,H⟩:=hrel
  by_cases hlt:i<n
  ·obtain ⟨x,hx⟩:=atE HN hlt
   have hs:=sl_at (by have:=HA.out;rw[HN.out] at this;exact this) hx
   have hs2:=sl_at (by have:=HB.out;rw[HN.out] at this;exact this) hx
   rw[←HN.out] at hs hs2
   obtain⟨b,off,c',cs,hv,hcs,hA⟩:=hs
   injection hv with hv1 hv2 hv3
   subst hv1 hv3
   obtain⟨b2,off2,c2',cs2,hw,hcs2,hB⟩:=hs2
   injection hw with hw1 hw2 hw3
   subst hw1 hw3
   obtain rfl:cs=encLab x:=hcs
   obtain rfl:cs2=encLab x:=hcs2
   have hlt1:(i:Int)<n:=by omega
   clear hx hv2 hw2
   unfold encLab at *
   go_wp2_with (refine zHq 6 ?_;(iterate 8 (all_goals(refine zhAV ?_)));all_goals refine zHk (fun w1 H1=>eqLabel_l _ _) ?_;all_goals refine zhV ?_;all_goals(refine zHz ?_;clear H;intro wn H))
   go_roundg (n-(i+1))
   case measure=>omega
   case rel=>exact⟨i+1,by omega,by go_num,H⟩
  ·obtain rfl:i=n:=by omega
   have hlt1:=nlt i
   go_wp2_with (fail)
   go_ret
   exact⟨rfl,H.below⟩
theorem szLabelS_l(v:Value)(l:List Lab)(k:Int)(hk:0≤k∧k≤1048576)(w:World)(hr:(Ty.sl 0 tyLab).rd w [v] l):Gives Tryz.prog 239 #[v,.int .i64 k] w (.int .i64 (szC k l.length)):=by
 obtain⟨A,c,rfl,hlc,hcm⟩:=sl_form hr
 unfold maxLen at *
 generalize l.length=n at *
 clear hr
 have H:=Hs.start noRow w
 unfold Gives
 by_cases h:k-n<0
 ·rw[szC_neg h]
  go_enter Tryz.func239,Tryz.ntmps239
  go_wp2_with (fail)
  go_ret
  exact⟨rfl,H.below⟩
 ·rw[szC_pos h]
  go_enter Tryz.func239,Tryz.ntmps239
  go_wp2_with (fail)
  go_ret
  exact⟨rfl,H.below⟩
theorem toPair_l(a:Pr)(w:World):Gives Tryz.prog 260 #[.agg #[.int .i64 a.1.1,.int .i64 a.1.2,.int .i64 a.2.1.1,.int .i64 a.2.1.2,.int .i64 a.2.2]] w (.agg #[.int .i64 a.1.1,.int .i64 a.1.2,.int .i64 a.2.1.1,.int .i64 a.2.1.2,.int .i64 a.2.2]):=by
 obtain⟨⟨a1,a2⟩,⟨a3,a4⟩,a5⟩:=a
 unfold Gives
 have H:=Hs.start noRow w
 go_enter Tryz.func260,Tryz.ntmps260
 go_wp2_with ((first|refine zU ?_|(refine zB 1 ?_;intro b1)|(refine zA 2 ?_;intro b2)|(refine zA 3 ?_;intro b3)|(go_at_call 263;refine gvF (toLabel_l (_,_) _) H ?_));clear H;intro wn H)
 refine bpF ?_
 exact⟨rfl,H.below⟩
theorem eqPair_l(a:Pr)(w:World):Gives Tryz.prog 306 #[.agg #[.int .i64 a.1.1,.int .i64 a.1.2,.int .i64 a.2.1.1,.int .i64 a.2.1.2,.int .i64 a.2.2],.agg #[.int .i64 a.1.1,.int .i64 a.1.2,.int .i64 a.2.1.1,.int .i64 a.2.1.2,.int .i64 a.2.2]] w (.bool true):=by
 obtain⟨⟨a1,a2⟩,⟨a3,a4⟩,a5⟩:=a
 unfold Gives
 have H:=Hs.start noRow w
 go_enter Tryz.func306,Tryz.ntmps306
 go_wp2_with ((first|refine zU ?_|(refine zB 2 ?_;intro b2)|(refine zB 3 ?_;intro b3)|(go_at_call 309;refine gvF (eqLabel_l (_,_) _) H ?_));clear H;intro wn H)
 go_ret
 exact⟨rfl,H.below⟩
theorem toPairS_l(v:Value)(l:List Pr)(hl:l.length≤1048576)(w:World)(hr:(Ty.sl 0 tyPr).rd w [v] l):Rets Tryz.prog [] 185 #[v] w (tOwn (Ty.sl 182 tyPr) l):=by
 obtain⟨A,c,rfl,hlc,hcm⟩:=sl_form hr
 have HR:=hY hr
 have H:=Hs.start noRow w
 obtain⟨n,hn⟩:=nm l.length
 have hnl:n≤1048576:=by omega
 rw[←hn] at HR ⊢
 have HN:=hY hn
 clear hr hn hl hcm hlc
 refine Rets.of ?_
 go_enter Tryz.func185,Tryz.ntmps185
 go_wp2_with ((with_reducible apply st_makerow (E:=182) (s:=5) H);rfl;rfl;decide +kernel;(focus omega);clear H;intro g zs wn hz0 hz1 H;refine zp ?_)
 go_loopg [4] n (fun m iv wr=>∃(i:Nat) (pre zs:List Value) (N:List Hl),i+m=n∧iv = .int .i64 i∧Hid (OwnL tyPr pre (l.take i) N∧zs.length=(n-i)*5)∧Hs noRow w [Hl.row 182 5 (.slice (some ⟨g,0,none⟩) n n) n (pre++zs),Hl.all N] wr)
 case atStart=>exact⟨0,[],zs,[],by omega,rfl,hY ⟨.nil,hz0⟩,by rw[List.nil_append];exact H.allNil.sel sF⟩
 case round=>
  clear H
  obtain⟨i,pre,zs,N,hi,rfl,HO,H⟩:=hrel
  by_cases hlt:i<n
  ·obtain ⟨x,b,off,cs,hx,rfl,hv2,hcs,hA⟩:=slE HR HN hlt
   obtain rfl:cs=encPr x:=hcs
   obtain⟨p',z',hp,hsp,hz'⟩:=own_step (m:=n-(i+1)) HO.out.1 hx (by rw[HO.out.2];show (n-i)*5=(n-(i+1)+1)*5;congr 1;omega) (show tyPr.own (encPr x) x [] from ⟨rfl,rfl⟩)
   have hfit:i*5+5≤(pre++zs).length:=by
    have h1:=HO.out.1.len
    have h2:=HO.out.2
    rw[List.length_append,h1,h2,List.length_take,Nat.min_eq_left (by rw[←HN.out];omega)]
    show i*5+5≤i*5+(n-i)*5
    omega
   have HS:Hid (spl (pre++zs) (i*5) (encPr x)=p'++z'):=hY hsp
   have HO2:=hY (And.intro hp hz')
   have hlt1:(i:Int)<n:=by omega
   clear hsp hp hz' hx HO hv2
   unfold encPr at *
   go_wp2_with ((first|refine zU ?_|(go_at_call 260;refine gvF (toPair_l _ _) H ?_));clear H;intro wn H)
   go_roundg (n-(i+1))
   case measure=>omega
   case rel=>exact⟨i+1,p',z',_,by omega,by go_num,HO2,by rw[List.append_nil,←HS.out];exact H.sel sF⟩
  ·obtain rfl:i=n:=by omega
   have hlt1:=nlt i
   go_wp2_with (fail)
   go_ret
   exact ret_sl H HO.out.1 ((tkl HN)) (by rw[HO.out.2,Nat.sub_self,Nat.zero_mul]) HN.out
theorem eqPairS_l(va vb:Value)(l:List Pr)(w:World)(ha:(Ty.sl 182 tyPr).rd w [va] l)(hb:(Ty.sl 182 tyPr).rd w [vb] l):Gives Tryz.prog 222 #[va,vb] w (.bool true):=by
 obtain⟨A,c,rfl,hlc,hcm⟩:=sl_form ha
 obtain⟨B,d,rfl,_,_⟩:=sl_form hb
 unfold maxLen at *
 have HA:=hY ha
 have HB:=hY hb
 have H:=Hs.start noRow w
 obtain⟨n,hn⟩:=nm l.length
 have hnl:n≤9223372036854775807:=by omega
 rw[←hn] at HA HB ⊢
 have HN:=hY hn
 clear ha hb hn hcm hlc
 unfold Gives
 go_enter Tryz.func222,Tryz.ntmps222
 go_wp2_with (fail)
 go_loopg [5] n (fun m iv wr=>∃(i:Nat),i+m=n∧iv = .int .i64 i∧Hs noRow w [] wr)
 case atStart=>exact⟨0,by omega,rfl,H⟩
 case round=>
  clear H
  obtain⟨i,hi,rfl,H⟩:=hrel
  by_cases hlt:i<n
  ·obtain ⟨x,hx⟩:=atE HN hlt
   have hs:=sl_at (by have:=HA.out;rw[HN.out] at this;exact this) hx
   have hs2:=sl_at (by have:=HB.out;rw[HN.out] at this;exact this) hx
   rw[←HN.out] at hs hs2
   obtain⟨b,off,c',cs,hv,hcs,hA⟩:=hs
   injection hv with hv1 hv2 hv3
   subst hv1 hv3
   obtain⟨b2,off2,c2',cs2,hw,hcs2,hB⟩:=hs2
   injection hw with hw1 hw2 hw3
   subst hw1 hw3
   obtain rfl:cs=encPr x:=hcs
   obtain rfl:cs2=encPr x:=hcs2
   have hlt1:(i:Int)<n:=by omega
   clear hx hv2 hw2
   unfold encPr at *
   go_wp2_with (refine zHq 6 ?_;(iterate 8 (all_goals(refine zhAV ?_)));all_goals refine zHk (fun w1 H1=>eqPair_l _ _) ?_;all_goals refine zhV ?_;all_goals(refine zHz ?_;clear H;intro wn H))
   go_roundg (n-(i+1))
   case measure=>omega
   case rel=>exact⟨i+1,by omega,by go_num,H⟩
  ·obtain rfl:i=n:=by omega
   have hlt1:=nlt i
   go_wp2_with (fail)
   go_ret
   exact⟨rfl,H.below⟩
theorem szPairS_l(v:Value)(l:List Pr)(k:Int)(hk:0≤k∧k≤1048576)(w:World)(hr:(Ty.sl 0 tyPr).rd w [v] l):Gives Tryz.prog 165 #[v,.int .i64 k] w (.int .i64 (szC k l.length)):=by
 obtain⟨A,c,rfl,hlc,hcm⟩:=sl_form hr
 unfold maxLen at *
 generalize l.length=n at *
 clear hr
 have H:=Hs.start noRow w
 unfold Gives
 by_cases h:k-n<0
 ·rw[szC_neg h]
  go_enter Tryz.func165,Tryz.ntmps165
  go_wp2_with (fail)
  go_ret
  exact⟨rfl,H.below⟩
 ·rw[szC_pos h]
  go_enter Tryz.func165,Tryz.ntmps165
  go_wp2_with (fail)
  go_ret
  exact⟨rfl,H.below⟩
theorem toQuota_l(a:Qt)(w:World):Gives Tryz.prog 261 #[.agg #[.int .i64 a.1.1,.int .i64 a.1.2,.int .i64 a.2]] w (.agg #[.int .i64 a.1.1,.int .i64 a.1.2,.int .i64 a.2]):=by
 obtain⟨⟨a1,a2⟩,a3⟩:=a
 unfold Gives
 have H:=Hs.start noRow w
 go_enter Tryz.func261,Tryz.ntmps261
 go_wp2_with ((first|refine zU ?_|(refine zB 1 ?_;intro b1)|(refine zA 2 ?_;intro b2)|(refine zA 3 ?_;intro b3)|(go_at_call 263;refine gvF (toLabel_l (_,_) _) H ?_));clear H;intro wn H)
 refine bpF ?_
 exact⟨rfl,H.below⟩
theorem eqQuota_l(a:Qt)(w:World):Gives Tryz.prog 307 #[.agg #[.int .i64 a.1.1,.int .i64 a.1.2,.int .i64 a.2],.agg #[.int .i64 a.1.1,.int .i64 a.1.2,.int .i64 a.2]] w (.bool true):=by
 obtain⟨⟨a1,a2⟩,a3⟩:=a
 unfold Gives
 have H:=Hs.start noRow w
 go_enter Tryz.func307,Tryz.ntmps307
 go_wp2_with ((first|refine zU ?_|(refine zB 2 ?_;intro b2)|(refine zB 3 ?_;intro b3)|(go_at_call 309;refine gvF (eqLabel_l (_,_) _) H ?_));clear H;intro wn H)
 go_ret
 exact⟨rfl,H.below⟩
theorem toQuotaS_l(v:Value)(l:List Qt)(hl:l.length≤1048576)(w:World)(hr:(Ty.sl 0 tyQt).rd w [v] l):Rets Tryz.prog [] 186 #[v] w (tOwn (Ty.sl 279 tyQt) l):=by
 obtain⟨A,c,rfl,hlc,hcm⟩:=sl_form hr
 have HR:=hY hr
 have H:=Hs.start noRow w
 obtain⟨n,hn⟩:=nm l.length
 have hnl:n≤1048576:=by omega
 rw[←hn] at HR ⊢
 have HN:=hY hn
 clear hr hn hl hcm hlc
 refine Rets.of ?_
 go_enter Tryz.func186,Tryz.ntmps186
 go_wp2_with ((with_reducible apply st_makerow (E:=279) (s:=3) H);rfl;rfl;decide +kernel;(focus omega);clear H;intro g zs wn hz0 hz1 H;refine zp ?_)
 go_loopg [4] n (fun m iv wr=>∃(i:Nat) (pre zs:List Value) (N:List Hl),i+m=n∧iv = .int .i64 i∧Hid (OwnL tyQt pre (l.take i) N∧zs.length=(n-i)*3)∧Hs noRow w [Hl.row 279 3 (.slice (some ⟨g,0,none⟩) n n) n (pre++zs),Hl.all N] wr)
 case atStart=>exact⟨0,[],zs,[],by omega,rfl,hY ⟨.nil,hz0⟩,by rw[List.nil_append];exact H.allNil.sel sF⟩
 case round=>
  clear H
  obtain⟨i,pre,zs,N,hi,rfl,HO,H⟩:=hrel
  by_cases hlt:i<n
  ·obtain ⟨x,b,off,cs,hx,rfl,hv2,hcs,hA⟩:=slE HR HN hlt
   obtain rfl:cs=encQt x:=hcs
   obtain⟨p',z',hp,hsp,hz'⟩:=own_step (m:=n-(i+1)) HO.out.1 hx (by rw[HO.out.2];show (n-i)*3=(n-(i+1)+1)*3;congr 1;omega) (show tyQt.own (encQt x) x [] from ⟨rfl,rfl⟩)
   have hfit:i*3+3≤(pre++zs).length:=by
    have h1:=HO.out.1.len
    have h2:=HO.out.2
    rw[List.length_append,h1,h2,List.length_take,Nat.min_eq_left (by rw[←HN.out];omega)]
    show i*3+3≤i*3+(n-i)*3
    omega
   have HS:Hid (spl (pre++zs) (i*3) (encQt x)=p'++z'):=hY hsp
   have HO2:=hY (And.intro hp hz')
   have hlt1:(i:Int)<n:=by omega
   clear hsp hp hz' hx HO hv2
   unfold encQt at *
   go_wp2_with ((first|refine zU ?_|(go_at_call 261;refine gvF (toQuota_l _ _) H ?_));clear H;intro wn H)
   go_roundg (n-(i+1))
   case measure=>omega
   case rel=>exact⟨i+1,p',z',_,by omega,by go_num,HO2,by rw[List.append_nil,←HS.out];exact H.sel sF⟩
  ·obtain rfl:i=n:=by omega
   have hlt1:=nlt i
   go_wp2_with (fail)
   go_ret
   exact ret_sl H HO.out.1 ((tkl HN)) (by rw[HO.out.2,Nat.sub_self,Nat.zero_mul]) HN.out
theorem eqQuotaS_l(va vb:Value)(l:List Qt)(w:World)(ha:(Ty.sl 279 tyQt).rd w [va] l)(hb:(Ty.sl 279 tyQt).rd w [vb] l):Gives Tryz.prog 223 #[va,vb] w (.bool true):=by
 obtain⟨A,c,rfl,hlc,hcm⟩:=sl_form ha
 obtain⟨B,d,rfl,_,_⟩:=sl_form hb
 unfold maxLen at *
 have HA:=hY ha
 have HB:=hY hb
 have H:=Hs.start noRow w
 obtain⟨n,hn⟩:=nm l.length
 have hnl:n≤9223372036854775807:=by omega
 rw[←hn] at HA HB ⊢
 have HN:=hY hn
 clear ha hb hn hcm hlc
 unfold Gives
 go_enter Tryz.func223,Tryz.ntmps223
 go_wp2_with (fail)
 go_loopg [5] n (fun m iv wr=>∃(i:Nat),i+m=n∧iv = .int .i64 i∧Hs noRow w [] wr)
 case atStart=>exact⟨0,by omega,rfl,H⟩
 case round=>
  clear H
  obtain⟨i,hi,rfl,H⟩:=hrel
  by_cases hlt:i<n
  ·obtain ⟨x,hx⟩:=atE HN hlt
   have hs:=sl_at (by have:=HA.out;rw[HN.out] at this;exact this) hx
   have hs2:=sl_at (by have:=HB.out;rw[HN.out] at this;exact this) hx
   rw[←HN.out] at hs hs2
   obtain⟨b,off,c',cs,hv,hcs,hA⟩:=hs
   injection hv with hv1 hv2 hv3
   subst hv1 hv3
   obtain⟨b2,off2,c2',cs2,hw,hcs2,hB⟩:=hs2
   injection hw with hw1 hw2 hw3
   subst hw1 hw3
   obtain rfl:cs=encQt x:=hcs
   obtain rfl:cs2=encQt x:=hcs2
   have hlt1:(i:Int)<n:=by omega
   clear hx hv2 hw2
   unfold encQt at *
   go_wp2_with (refine zHq 6 ?_;(iterate 8 (all_goals(refine zhAV ?_)));all_goals refine zHk (fun w1 H1=>eqQuota_l _ _) ?_;all_goals refine zhV ?_;all_goals(refine zHz ?_;clear H;intro wn H))
   go_roundg (n-(i+1))
   case measure=>omega
   case rel=>exact⟨i+1,by omega,by go_num,H⟩
  ·obtain rfl:i=n:=by omega
   have hlt1:=nlt i
   go_wp2_with (fail)
   go_ret
   exact⟨rfl,H.below⟩
theorem szQuotaS_l(v:Value)(l:List Qt)(k:Int)(hk:0≤k∧k≤1048576)(w:World)(hr:(Ty.sl 0 tyQt).rd w [v] l):Gives Tryz.prog 166 #[v,.int .i64 k] w (.int .i64 (szC k l.length)):=by
 obtain⟨A,c,rfl,hlc,hcm⟩:=sl_form hr
 unfold maxLen at *
 generalize l.length=n at *
 clear hr
 have H:=Hs.start noRow w
 unfold Gives
 by_cases h:k-n<0
 ·rw[szC_neg h]
  go_enter Tryz.func166,Tryz.ntmps166
  go_wp2_with (fail)
  go_ret
  exact⟨rfl,H.below⟩
 ·rw[szC_pos h]
  go_enter Tryz.func166,Tryz.ntmps166
  go_wp2_with (fail)
  go_ret
  exact⟨rfl,H.below⟩
theorem toNote_l(a:Nt)(w:World):Gives Tryz.prog 323 #[.agg #[.int .i64 a.1,.int .i64 a.2]] w (.agg #[.int .i64 a.1,.int .i64 a.2]):=by
 obtain⟨a1,a2⟩:=a
 unfold Gives
 have H:=Hs.start noRow w
 go_enter Tryz.func323,Tryz.ntmps323
 go_wp2_with ((first|refine zU ?_|(refine zB 1 ?_;intro b1)|(refine zA 2 ?_;intro b2)|(refine zA 3 ?_;intro b3));clear H;intro wn H)
 refine bpF ?_
 exact⟨rfl,H.below⟩
theorem eqNote_l(a:Nt)(w:World):Gives Tryz.prog 343 #[.agg #[.int .i64 a.1,.int .i64 a.2],.agg #[.int .i64 a.1,.int .i64 a.2]] w (.bool true):=by
 obtain⟨a1,a2⟩:=a
 unfold Gives
 have H:=Hs.start noRow w
 go_enter Tryz.func343,Tryz.ntmps343
 go_wp2_with ((first|refine zL ?_|(refine zB 2 ?_;intro b2)|(refine zB 3 ?_;intro b3));clear H;intro wn H)
 go_ret
 exact⟨rfl,H.below⟩
theorem toNoteS_l(v:Value)(l:List Nt)(hl:l.length≤1048576)(w:World)(hr:(Ty.sl 0 tyNt).rd w [v] l):Rets Tryz.prog [] 265 #[v] w (tOwn (Ty.sl 162 tyNt) l):=by
 obtain⟨A,c,rfl,hlc,hcm⟩:=sl_form hr
 have HR:=hY hr
 have H:=Hs.start noRow w
 obtain⟨n,hn⟩:=nm l.length
 have hnl:n≤1048576:=by omega
 rw[←hn] at HR ⊢
 have HN:=hY hn
 clear hr hn hl hcm hlc
 refine Rets.of ?_
 go_enter Tryz.func265,Tryz.ntmps265
 go_wp2_with ((with_reducible apply st_makerow (E:=162) (s:=2) H);rfl;rfl;decide +kernel;(focus omega);clear H;intro g zs wn hz0 hz1 H;refine zp ?_)
 go_loopg [4] n (fun m iv wr=>∃(i:Nat) (pre zs:List Value) (N:List Hl),i+m=n∧iv = .int .i64 i∧Hid (OwnL tyNt pre (l.take i) N∧zs.length=(n-i)*2)∧Hs noRow w [Hl.row 162 2 (.slice (some ⟨g,0,none⟩) n n) n (pre++zs),Hl.all N] wr)
 case atStart=>exact⟨0,[],zs,[],by omega,rfl,hY ⟨.nil,hz0⟩,by rw[List.nil_append];exact H.allNil.sel sF⟩
 case round=>
  clear H
  obtain⟨i,pre,zs,N,hi,rfl,HO,H⟩:=hrel
  by_cases hlt:i<n
  ·obtain ⟨x,b,off,cs,hx,rfl,hv2,hcs,hA⟩:=slE HR HN hlt
   obtain rfl:cs=encNt x:=hcs
   obtain⟨p',z',hp,hsp,hz'⟩:=own_step (m:=n-(i+1)) HO.out.1 hx (by rw[HO.out.2];show (n-i)*2=(n-(i+1)+1)*2;congr 1;omega) (show tyNt.own (encNt x) x [] from ⟨rfl,rfl⟩)
   have hfit:i*2+2≤(pre++zs).length:=by
    have h1:=HO.out.1.len
    have h2:=HO.out.2
    rw[List.length_append,h1,h2,List.length_take,Nat.min_eq_left (by rw[←HN.out];omega)]
    show i*2+2≤i*2+(n-i)*2
    omega
   have HS:Hid (spl (pre++zs) (i*2) (encNt x)=p'++z'):=hY hsp
   have HO2:=hY (And.intro hp hz')
   have hlt1:(i:Int)<n:=by omega
   clear hsp hp hz' hx HO hv2
   unfold encNt at *
   go_wp2_with ((first|refine zU ?_|(go_at_call 323;refine gvF (toNote_l _ _) H ?_));clear H;intro wn H)
   go_roundg (n-(i+1))
   case measure=>omega
   case rel=>exact⟨i+1,p',z',_,by omega,by go_num,HO2,by rw[List.append_nil,←HS.out];exact H.sel sF⟩
  ·obtain rfl:i=n:=by omega
   have hlt1:=nlt i
   go_wp2_with (fail)
   go_ret
   exact ret_sl H HO.out.1 ((tkl HN)) (by rw[HO.out.2,Nat.sub_self,Nat.zero_mul]) HN.out
theorem eqNoteS_l(va vb:Value)(l:List Nt)(w:World)(ha:(Ty.sl 162 tyNt).rd w [va] l)(hb:(Ty.sl 162 tyNt).rd w [vb] l):Gives Tryz.prog 311 #[va,vb] w (.bool true):=by
 obtain⟨A,c,rfl,hlc,hcm⟩:=sl_form ha
 obtain⟨B,d,rfl,_,_⟩:=sl_form hb
 unfold maxLen at *
 have HA:=hY ha
 have HB:=hY hb
 have H:=Hs.start noRow w
 obtain⟨n,hn⟩:=nm l.length
 have hnl:n≤9223372036854775807:=by omega
 rw[←hn] at HA HB ⊢
 have HN:=hY hn
 clear ha hb hn hcm hlc
 unfold Gives
 go_enter Tryz.func311,Tryz.ntmps311
 go_wp2_with (fail)
 go_loopg [5] n (fun m iv wr=>∃(i:Nat),i+m=n∧iv = .int .i64 i∧Hs noRow w [] wr)
 case atStart=>exact⟨0,by omega,rfl,H⟩
 case round=>
  clear H
  obtain⟨i,hi,rfl,H⟩:=hrel
  by_cases hlt:i<n
  ·obtain ⟨x,hx⟩:=atE HN hlt
   have hs:=sl_at (by have:=HA.out;rw[HN.out] at this;exact this) hx
   have hs2:=sl_at (by have:=HB.out;rw[HN.out] at this;exact this) hx
   rw[←HN.out] at hs hs2
   obtain⟨b,off,c',cs,hv,hcs,hA⟩:=hs
   injection hv with hv1 hv2 hv3
   subst hv1 hv3
   obtain⟨b2,off2,c2',cs2,hw,hcs2,hB⟩:=hs2
   injection hw with hw1 hw2 hw3
   subst hw1 hw3
   obtain rfl:cs=encNt x:=hcs
   obtain rfl:cs2=encNt x:=hcs2
   have hlt1:(i:Int)<n:=by omega
   clear hx hv2 hw2
   unfold encNt at *
   go_wp2_with (refine zHq 6 ?_;(iterate 8 (all_goals(refine zhAV ?_)));all_goals refine zHk (fun w1 H1=>eqNote_l _ _) ?_;all_goals refine zhV ?_;all_goals(refine zHz ?_;clear H;intro wn H))
   go_roundg (n-(i+1))
   case measure=>omega
   case rel=>exact⟨i+1,by omega,by go_num,H⟩
  ·obtain rfl:i=n:=by omega
   have hlt1:=nlt i
   go_wp2_with (fail)
   go_ret
   exact⟨rfl,H.below⟩
theorem szNoteS_l(v:Value)(l:List Nt)(k:Int)(hk:0≤k∧k≤1048576)(w:World)(hr:(Ty.sl 0 tyNt).rd w [v] l):Gives Tryz.prog 242 #[v,.int .i64 k] w (.int .i64 (szC k l.length)):=by
 obtain⟨A,c,rfl,hlc,hcm⟩:=sl_form hr
 unfold maxLen at *
 generalize l.length=n at *
 clear hr
 have H:=Hs.start noRow w
 unfold Gives
 by_cases h:k-n<0
 ·rw[szC_neg h]
  go_enter Tryz.func242,Tryz.ntmps242
  go_wp2_with (fail)
  go_ret
  exact⟨rfl,H.below⟩
 ·rw[szC_pos h]
  go_enter Tryz.func242,Tryz.ntmps242
  go_wp2_with (fail)
  go_ret
  exact⟨rfl,H.below⟩
theorem toInt64S_l(v:Value)(l:List Int)(hl:l.length≤1048576)(w:World)(hr:(Ty.sl 0 tyNum).rd w [v] l):Rets Tryz.prog [] 264 #[v] w (tOwn (Ty.sl 2 tyNum) l):=by
 obtain⟨A,c,rfl,hlc,hcm⟩:=sl_form hr
 have HR:=hY hr
 have H:=Hs.start noRow w
 obtain⟨n,hn⟩:=nm l.length
 have hnl:n≤1048576:=by omega
 rw[←hn] at HR ⊢
 have HN:=hY hn
 clear hr hn hl hcm hlc
 refine Rets.of ?_
 go_enter Tryz.func264,Tryz.ntmps264
 go_wp2_with ((with_reducible apply st_makerow (E:=2) (s:=1) H);rfl;rfl;decide +kernel;(focus omega);clear H;intro g zs wn hz0 hz1 H;refine zp ?_)
 go_loopg [4] n (fun m iv wr=>∃(i:Nat) (pre zs:List Value) (N:List Hl),i+m=n∧iv = .int .i64 i∧Hid (OwnL tyNum pre (l.take i) N∧zs.length=(n-i)*1)∧Hs noRow w [Hl.row 2 1 (.slice (some ⟨g,0,none⟩) n n) n (pre++zs),Hl.all N] wr)
 case atStart=>exact⟨0,[],zs,[],by omega,rfl,hY ⟨.nil,hz0⟩,by rw[List.nil_append];exact H.allNil.sel sF⟩
 case round=>
  clear H
  obtain⟨i,pre,zs,N,hi,rfl,HO,H⟩:=hrel
  by_cases hlt:i<n
  ·obtain ⟨x,b,off,cs,hx,rfl,hv2,hcs,hA⟩:=slE HR HN hlt
   obtain rfl:cs=encNum x:=hcs
   obtain⟨p',z',hp,hsp,hz'⟩:=own_step (m:=n-(i+1)) HO.out.1 hx (by rw[HO.out.2];show (n-i)*1=(n-(i+1)+1)*1;congr 1;omega) (show tyNum.own (encNum x) x [] from ⟨rfl,rfl⟩)
   have hfit:i+1≤(pre++zs).length:=by
    have h1:=HO.out.1.len
    have h2:=HO.out.2
    rw[List.length_append,h1,h2,List.length_take,Nat.min_eq_left (by rw[←HN.out];omega)]
    show i+1≤i*1+(n-i)*1
    omega
   have HS:Hid (spl (pre++zs) (i) (encNum x)=p'++z'):=hY (by have h:=hsp;rw[show i*tyNum.s=i from Nat.mul_one i] at h;exact h)
   have HO2:=hY (And.intro hp hz')
   have hlt1:(i:Int)<n:=by omega
   clear hsp hp hz' hx HO hv2
   unfold encNum at *
   have h0:w.cell? ⟨b,off+i,none⟩=some (.int .i64 x):=by have h:=hA.head (u := .int .i64 x) rfl;rw[show i*tyNum.s=i from Nat.mul_one i] at h;exact h
   clear hA
   go_wp2_with (refine zU ?_;clear H;intro wn H)
   go_roundg (n-(i+1))
   case measure=>omega
   case rel=>exact⟨i+1,p',z',_,by omega,by go_num,HO2,by rw[List.append_nil,←HS.out];exact H.sel sF⟩
  ·obtain rfl:i=n:=by omega
   have hlt1:=nlt i
   go_wp2_with (fail)
   go_ret
   exact ret_sl H HO.out.1 ((tkl HN)) (by rw[HO.out.2,Nat.sub_self,Nat.zero_mul]) HN.out
theorem eqInt64S_l(va vb:Value)(l:List Int)(w:World)(ha:(Ty.sl 2 tyNum).rd w [va] l)(hb:(Ty.sl 2 tyNum).rd w [vb] l):Gives Tryz.prog 310 #[va,vb] w (.bool true):=by
 obtain⟨A,c,rfl,hlc,hcm⟩:=sl_form ha
 obtain⟨B,d,rfl,_,_⟩:=sl_form hb
 unfold maxLen at *
 have HA:=hY ha
 have HB:=hY hb
 have H:=Hs.start noRow w
 obtain⟨n,hn⟩:=nm l.length
 have hnl:n≤9223372036854775807:=by omega
 rw[←hn] at HA HB ⊢
 have HN:=hY hn
 clear ha hb hn hcm hlc
 unfold Gives
 go_enter Tryz.func310,Tryz.ntmps310
 go_wp2_with (fail)
 go_loopg [5] n (fun m iv wr=>∃(i:Nat),i+m=n∧iv = .int .i64 i∧Hs noRow w [] wr)
 case atStart=>exact⟨0,by omega,rfl,H⟩
 case round=>
  clear H
  obtain⟨i,hi,rfl,H⟩:=hrel
  by_cases hlt:i<n
  ·obtain ⟨x,hx⟩:=atE HN hlt
   have hs:=sl_at (by have:=HA.out;rw[HN.out] at this;exact this) hx
   have hs2:=sl_at (by have:=HB.out;rw[HN.out] at this;exact this) hx
   rw[←HN.out] at hs hs2
   obtain⟨b,off,c',cs,hv,hcs,hA⟩:=hs
   injection hv with hv1 hv2 hv3
   subst hv1 hv3
   obtain⟨b2,off2,c2',cs2,hw,hcs2,hB⟩:=hs2
   injection hw with hw1 hw2 hw3
   subst hw1 hw3
   obtain rfl:cs=encNum x:=hcs
   obtain rfl:cs2=encNum x:=hcs2
   have hlt1:(i:Int)<n:=by omega
   clear hx hv2 hw2
   unfold encNum at *
   have h0:w.cell? ⟨b,off+i,none⟩=some (.int .i64 x):=by have h:=hA.head (u := .int .i64 x) rfl;rw[show i*tyNum.s=i from Nat.mul_one i] at h;exact h
   have h1:w.cell? ⟨b2,off2+i,none⟩=some (.int .i64 x):=by have h:=hB.head (u := .int .i64 x) rfl;rw[show i*tyNum.s=i from Nat.mul_one i] at h;exact h
   clear hA hB
   go_wp2_with (refine zHq 6 ?_;(iterate 9 (all_goals(refine zhFV ?_)));all_goals(refine zHz ?_;clear H;intro wn H))
   go_roundg (n-(i+1))
   case measure=>omega
   case rel=>exact⟨i+1,by omega,by go_num,H⟩
  ·obtain rfl:i=n:=by omega
   have hlt1:=nlt i
   go_wp2_with (fail)
   go_ret
   exact⟨rfl,H.below⟩
theorem szInt64S_l(v:Value)(l:List Int)(k:Int)(hk:0≤k∧k≤1048576)(w:World)(hr:(Ty.sl 0 tyNum).rd w [v] l):Gives Tryz.prog 241 #[v,.int .i64 k] w (.int .i64 (szC k l.length)):=by
 obtain⟨A,c,rfl,hlc,hcm⟩:=sl_form hr
 unfold maxLen at *
 generalize l.length=n at *
 clear hr
 have H:=Hs.start noRow w
 unfold Gives
 by_cases h:k-n<0
 ·rw[szC_neg h]
  go_enter Tryz.func241,Tryz.ntmps241
  go_wp2_with (fail)
  go_ret
  exact⟨rfl,H.below⟩
 ·rw[szC_pos h]
  go_enter Tryz.func241,Tryz.ntmps241
  go_wp2_with (fail)
  go_ret
  exact⟨rfl,H.below⟩
end Go.Proofs.YtcabgibdkmgdlaaGreat
namespace Go.Proofs.YtcabgibdkmgdlaaGreat
open Go.RowKit M
namespace M
abbrev Sp:=Int × Int
def encSp(a:Sp):List Value:=[.int .i64 a.1,.int .i64 a.2]
def tySp:Ty Sp:=Ty.flat 2 encSp (fun _=>rfl) (fun a u hu=>by simp only[encSp,List.mem_cons,List.not_mem_nil,or_false] at hu;rcases hu with rfl|rfl <;> rfl)
def mkSp:Mark Sp:=⟨fun _=>2,fun k _=>((k:Int),((k+1:Nat):Int))⟩
abbrev Us:=Lab × ByteArray × Int
def encUs(a:Us):List Value:=[.int .i64 a.1.1,.int .i64 a.1.2,.string a.2.1,.int .i64 a.2.2]
def tyUs:Ty Us:=Ty.flat 4 encUs (fun _=>rfl) (fun a u hu=>by simp only[encUs,List.mem_cons,List.not_mem_nil,or_false] at hu;rcases hu with rfl|rfl|rfl|rfl <;> rfl)
def mkUs:Mark Us:=⟨fun _=>4,fun k _=>(((k:Int),((k+1:Nat):Int)),bs (mtext (k+2)),((k+3:Nat):Int))⟩
def ssUs(a:Us):Nat:=a.2.1.size
def okUs(a:Us):Prop:=a.2.1.size≤9223372036854775807
def mzUs:Mark Us:=⟨fun a=>ssUs a,fun _ a=>a⟩
def szUsl(l:List Us):Nat:=l.length+mzUs.cntl l
end M
theorem toSpan_l(a:Sp)(w:World):Gives Tryz.prog 322 #[.agg #[.int .i64 a.1,.int .i64 a.2]] w (.agg #[.int .i64 a.1,.int .i64 a.2]):=by
 obtain⟨a1,a2⟩:=a
 unfold Gives
 have H:=Hs.start noRow w
 go_enter Tryz.func322,Tryz.ntmps322
 go_wp2_with ((first|refine zU ?_|(refine zB 1 ?_;intro b1)|(refine zA 2 ?_;intro b2)|(refine zA 3 ?_;intro b3));clear H;intro wn H)
 refine bpF ?_
 exact⟨rfl,H.below⟩
theorem eqSpan_l(a:Sp)(w:World):Gives Tryz.prog 342 #[.agg #[.int .i64 a.1,.int .i64 a.2],.agg #[.int .i64 a.1,.int .i64 a.2]] w (.bool true):=by
 obtain⟨a1,a2⟩:=a
 unfold Gives
 have H:=Hs.start noRow w
 go_enter Tryz.func342,Tryz.ntmps342
 go_wp2_with ((first|refine zL ?_|(refine zB 2 ?_;intro b2)|(refine zB 3 ?_;intro b3));clear H;intro wn H)
 go_ret
 exact⟨rfl,H.below⟩
theorem toSpanS_l(v:Value)(l:List Sp)(hl:l.length≤1048576)(w:World)(hr:(Ty.sl 0 tySp).rd w [v] l):Rets Tryz.prog [] 262 #[v] w (tOwn (Ty.sl 174 tySp) l):=by
 obtain⟨A,c,rfl,hlc,hcm⟩:=sl_form hr
 have HR:=hY hr
 have H:=Hs.start noRow w
 obtain⟨n,hn⟩:=nm l.length
 have hnl:n≤1048576:=by omega
 rw[←hn] at HR ⊢
 have HN:=hY hn
 clear hr hn hl hcm hlc
 refine Rets.of ?_
 go_enter Tryz.func262,Tryz.ntmps262
 go_wp2_with ((with_reducible apply st_makerow (E:=174) (s:=2) H);rfl;rfl;decide +kernel;(focus omega);clear H;intro g zs wn hz0 hz1 H;refine zp ?_)
 go_loopg [4] n (fun m iv wr=>∃(i:Nat) (pre zs:List Value) (N:List Hl),i+m=n∧iv = .int .i64 i∧Hid (OwnL tySp pre (l.take i) N∧zs.length=(n-i)*2)∧Hs noRow w [Hl.row 174 2 (.slice (some ⟨g,0,none⟩) n n) n (pre++zs),Hl.all N] wr)
 case atStart=>exact⟨0,[],zs,[],by omega,rfl,hY ⟨.nil,hz0⟩,by rw[List.nil_append];exact H.allNil.sel sF⟩
 case round=>
  clear H
  obtain⟨i,pre,zs,N,hi,rfl,HO,H⟩:=hrel
  by_cases hlt:i<n
  ·obtain ⟨x,b,off,cs,hx,rfl,hv2,hcs,hA⟩:=slE HR HN hlt
   obtain rfl:cs=encSp x:=hcs
   obtain⟨p',z',hp,hsp,hz'⟩:=own_step (m:=n-(i+1)) HO.out.1 hx (by rw[HO.out.2];show (n-i)*2=(n-(i+1)+1)*2;congr 1;omega) (show tySp.own (encSp x) x [] from ⟨rfl,rfl⟩)
   have hfit:i*2+2≤(pre++zs).length:=by
    have h1:=HO.out.1.len
    have h2:=HO.out.2
    rw[List.length_append,h1,h2,List.length_take,Nat.min_eq_left (by rw[←HN.out];omega)]
    show i*2+2≤i*2+(n-i)*2
    omega
   have HS:Hid (spl (pre++zs) (i*2) (encSp x)=p'++z'):=hY hsp
   have HO2:=hY (And.intro hp hz')
   have hlt1:(i:Int)<n:=by omega
   clear hsp hp hz' hx HO hv2
   unfold encSp at *
   go_wp2_with ((first|refine zU ?_|(go_at_call 322;refine gvF (toSpan_l _ _) H ?_));clear H;intro wn H)
   go_roundg (n-(i+1))
   case measure=>omega
   case rel=>exact⟨i+1,p',z',_,by omega,by go_num,HO2,by rw[List.append_nil,←HS.out];exact H.sel sF⟩
  ·obtain rfl:i=n:=by omega
   have hlt1:=nlt i
   go_wp2_with (fail)
   go_ret
   exact ret_sl H HO.out.1 ((tkl HN)) (by rw[HO.out.2,Nat.sub_self,Nat.zero_mul]) HN.out
theorem eqSpanS_l(va vb:Value)(l:List Sp)(w:World)(ha:(Ty.sl 174 tySp).rd w [va] l)(hb:(Ty.sl 174 tySp).rd w [vb] l):Gives Tryz.prog 308 #[va,vb] w (.bool true):=by
 obtain⟨A,c,rfl,hlc,hcm⟩:=sl_form ha
 obtain⟨B,d,rfl,_,_⟩:=sl_form hb
 unfold maxLen at *
 have HA:=hY ha
 have HB:=hY hb
 have H:=Hs.start noRow w
 obtain⟨n,hn⟩:=nm l.length
 have hnl:n≤9223372036854775807:=by omega
 rw[←hn] at HA HB ⊢
 have HN:=hY hn
 clear ha hb hn hcm hlc
 unfold Gives
 go_enter Tryz.func308,Tryz.ntmps308
 go_wp2_with (fail)
 go_loopg [5] n (fun m iv wr=>∃(i:Nat),i+m=n∧iv = .int .i64 i∧Hs noRow w [] wr)
 case atStart=>exact⟨0,by omega,rfl,H⟩
 case round=>
  clear H
  obtain⟨i,hi,rfl,H⟩:=hrel
  by_cases hlt:i<n
  ·obtain ⟨x,hx⟩:=atE HN hlt
   have hs:=sl_at (by have:=HA.out;rw[HN.out] at this;exact this) hx
   have hs2:=sl_at (by have:=HB.out;rw[HN.out] at this;exact this) hx
   rw[←HN.out] at hs hs2
   obtain⟨b,off,c',cs,hv,hcs,hA⟩:=hs
   injection hv with hv1 hv2 hv3
   subst hv1 hv3
   obtain⟨b2,off2,c2',cs2,hw,hcs2,hB⟩:=hs2
   injection hw with hw1 hw2 hw3
   subst hw1 hw3
   obtain rfl:cs=encSp x:=hcs
   obtain rfl:cs2=encSp x:=hcs2
   have hlt1:(i:Int)<n:=by omega
   clear hx hv2 hw2
   unfold encSp at *
   go_wp2_with (refine zHq 6 ?_;(iterate 8 (all_goals(refine zhAV ?_)));all_goals refine zHk (fun w1 H1=>eqSpan_l _ _) ?_;all_goals refine zhV ?_;all_goals(refine zHz ?_;clear H;intro wn H))
   go_roundg (n-(i+1))
   case measure=>omega
   case rel=>exact⟨i+1,by omega,by go_num,H⟩
  ·obtain rfl:i=n:=by omega
   have hlt1:=nlt i
   go_wp2_with (fail)
   go_ret
   exact⟨rfl,H.below⟩
theorem szSpanS_l(v:Value)(l:List Sp)(k:Int)(hk:0≤k∧k≤1048576)(w:World)(hr:(Ty.sl 0 tySp).rd w [v] l):Gives Tryz.prog 240 #[v,.int .i64 k] w (.int .i64 (szC k l.length)):=by
 obtain⟨A,c,rfl,hlc,hcm⟩:=sl_form hr
 unfold maxLen at *
 generalize l.length=n at *
 clear hr
 have H:=Hs.start noRow w
 unfold Gives
 by_cases h:k-n<0
 ·rw[szC_neg h]
  go_enter Tryz.func240,Tryz.ntmps240
  go_wp2_with (fail)
  go_ret
  exact⟨rfl,H.below⟩
 ·rw[szC_pos h]
  go_enter Tryz.func240,Tryz.ntmps240
  go_wp2_with (fail)
  go_ret
  exact⟨rfl,H.below⟩
theorem toUse_l(a:Us)(w:World):Gives Tryz.prog 189 #[.agg #[.int .i64 a.1.1,.int .i64 a.1.2,.string a.2.1,.int .i64 a.2.2]] w (.agg #[.int .i64 a.1.1,.int .i64 a.1.2,.string a.2.1,.int .i64 a.2.2]):=by
 obtain⟨⟨a1,a2⟩,a3,a4⟩:=a
 unfold Gives
 have H:=Hs.start noRow w
 go_enter Tryz.func189,Tryz.ntmps189
 go_wp2_with ((first|refine zU ?_|(refine zB 1 ?_;intro b1)|(refine zA 2 ?_;intro b2)|(refine zA 3 ?_;intro b3)|(go_at_call 263;refine gvF (toLabel_l (_,_) _) H ?_));clear H;intro wn H)
 refine bpF ?_
 exact⟨rfl,H.below⟩
theorem eqUse_l(a:Us)(w:World):Gives Tryz.prog 226 #[.agg #[.int .i64 a.1.1,.int .i64 a.1.2,.string a.2.1,.int .i64 a.2.2],.agg #[.int .i64 a.1.1,.int .i64 a.1.2,.string a.2.1,.int .i64 a.2.2]] w (.bool true):=by
 obtain⟨⟨a1,a2⟩,a3,a4⟩:=a
 unfold Gives
 have H:=Hs.start noRow w
 go_enter Tryz.func226,Tryz.ntmps226
 go_wp2_with ((first|refine zU ?_|(refine zB 2 ?_;intro b2)|(refine zB 3 ?_;intro b3)|(go_at_call 309;refine gvF (eqLabel_l (_,_) _) H ?_));clear H;intro wn H)
 go_ret
 exact⟨rfl,H.below⟩
theorem szUse_l(a:Us)(k:Int)(hk:0≤k∧k≤1048576)(ho:okUs a)(w:World):Gives Tryz.prog 169 #[.agg #[.int .i64 a.1.1,.int .i64 a.1.2,.string a.2.1,.int .i64 a.2.2],.int .i64 k] w (.int .i64 (szC k (ssUs a))):=by
 unfold ssUs
 have h1:a.2.1.size≤9223372036854775807:=ho
 clear ho
 obtain⟨⟨a1,a2⟩,a3,a4⟩:=a
 simp only at h1 ⊢
 obtain⟨n1,hn1⟩:=nm a3.size
 have e1:(a3.size:Int)=n1:=by rw[hn1]
 rw[←hn1] at h1 ⊢
 have H:=Hs.start noRow w
 unfold Gives
 by_cases hl1:k-n1<0
 ·rw[szC_neg (by omega)]
  go_enter Tryz.func169,Tryz.ntmps169
  go_wp2_with ((first|refine zL ?_|(refine zB 2 ?_;intro b2));clear H;intro wn H)
  go_ret
  exact⟨rfl,H.below⟩
 rw[szC_pos (by omega),show k-((n1:Nat):Int)=k-n1 by omega]
 go_enter Tryz.func169,Tryz.ntmps169
 go_wp2_with ((first|refine zL ?_|(refine zB 2 ?_;intro b2));clear H;intro wn H)
 go_ret
 exact⟨rfl,H.below⟩
theorem toUseS_l(v:Value)(l:List Us)(hl:l.length≤1048576)(w:World)(hr:(Ty.sl 0 tyUs).rd w [v] l):Rets Tryz.prog [] 119 #[v] w (tOwn (Ty.sl 180 tyUs) l):=by
 obtain⟨A,c,rfl,hlc,hcm⟩:=sl_form hr
 have HR:=hY hr
 have H:=Hs.start noRow w
 obtain⟨n,hn⟩:=nm l.length
 have hnl:n≤1048576:=by omega
 rw[←hn] at HR ⊢
 have HN:=hY hn
 clear hr hn hl hcm hlc
 refine Rets.of ?_
 go_enter Tryz.func119,Tryz.ntmps119
 go_wp2_with ((with_reducible apply st_makerow (E:=180) (s:=4) H);rfl;rfl;decide +kernel;(focus omega);clear H;intro g zs wn hz0 hz1 H;refine zp ?_)
 go_loopg [4] n (fun m iv wr=>∃(i:Nat) (pre zs:List Value) (N:List Hl),i+m=n∧iv = .int .i64 i∧Hid (OwnL tyUs pre (l.take i) N∧zs.length=(n-i)*4)∧Hs noRow w [Hl.row 180 4 (.slice (some ⟨g,0,none⟩) n n) n (pre++zs),Hl.all N] wr)
 case atStart=>exact⟨0,[],zs,[],by omega,rfl,hY ⟨.nil,hz0⟩,by rw[List.nil_append];exact H.allNil.sel sF⟩
 case round=>
  clear H
  obtain⟨i,pre,zs,N,hi,rfl,HO,H⟩:=hrel
  by_cases hlt:i<n
  ·obtain ⟨x,b,off,cs,hx,rfl,hv2,hcs,hA⟩:=slE HR HN hlt
   obtain rfl:cs=encUs x:=hcs
   obtain⟨p',z',hp,hsp,hz'⟩:=own_step (m:=n-(i+1)) HO.out.1 hx (by rw[HO.out.2];show (n-i)*4=(n-(i+1)+1)*4;congr 1;omega) (show tyUs.own (encUs x) x [] from ⟨rfl,rfl⟩)
   have hfit:i*4+4≤(pre++zs).length:=by
    have h1:=HO.out.1.len
    have h2:=HO.out.2
    rw[List.length_append,h1,h2,List.length_take,Nat.min_eq_left (by rw[←HN.out];omega)]
    show i*4+4≤i*4+(n-i)*4
    omega
   have HS:Hid (spl (pre++zs) (i*4) (encUs x)=p'++z'):=hY hsp
   have HO2:=hY (And.intro hp hz')
   have hlt1:(i:Int)<n:=by omega
   clear hsp hp hz' hx HO hv2
   unfold encUs at *
   go_wp2_with ((first|refine zU ?_|(go_at_call 189;refine gvF (toUse_l _ _) H ?_));clear H;intro wn H)
   go_roundg (n-(i+1))
   case measure=>omega
   case rel=>exact⟨i+1,p',z',_,by omega,by go_num,HO2,by rw[List.append_nil,←HS.out];exact H.sel sF⟩
  ·obtain rfl:i=n:=by omega
   have hlt1:=nlt i
   go_wp2_with (fail)
   go_ret
   exact ret_sl H HO.out.1 ((tkl HN)) (by rw[HO.out.2,Nat.sub_self,Nat.zero_mul]) HN.out
theorem eqUseS_l(va vb:Value)(l:List Us)(w:World)(ha:(Ty.sl 180 tyUs).rd w [va] l)(hb:(Ty.sl 180 tyUs).rd w [vb] l):Gives Tryz.prog 152 #[va,vb] w (.bool true):=by
 obtain⟨A,c,rfl,hlc,hcm⟩:=sl_form ha
 obtain⟨B,d,rfl,_,_⟩:=sl_form hb
 unfold maxLen at *
 have HA:=hY ha
 have HB:=hY hb
 have H:=Hs.start noRow w
 obtain⟨n,hn⟩:=nm l.length
 have hnl:n≤9223372036854775807:=by omega
 rw[←hn] at HA HB ⊢
 have HN:=hY hn
 clear ha hb hn hcm hlc
 unfold Gives
 go_enter Tryz.func152,Tryz.ntmps152
 go_wp2_with (fail)
 go_loopg [5] n (fun m iv wr=>∃(i:Nat),i+m=n∧iv = .int .i64 i∧Hs noRow w [] wr)
 case atStart=>exact⟨0,by omega,rfl,H⟩
 case round=>
  clear H
  obtain⟨i,hi,rfl,H⟩:=hrel
  by_cases hlt:i<n
  ·obtain ⟨x,hx⟩:=atE HN hlt
   have hs:=sl_at (by have:=HA.out;rw[HN.out] at this;exact this) hx
   have hs2:=sl_at (by have:=HB.out;rw[HN.out] at this;exact this) hx
   rw[←HN.out] at hs hs2
   obtain⟨b,off,c',cs,hv,hcs,hA⟩:=hs
   injection hv with hv1 hv2 hv3
   subst hv1 hv3
   obtain⟨b2,off2,c2',cs2,hw,hcs2,hB⟩:=hs2
   injection hw with hw1 hw2 hw3
   subst hw1 hw3
   obtain rfl:cs=encUs x:=hcs
   obtain rfl:cs2=encUs x:=hcs2
   have hlt1:(i:Int)<n:=by omega
   clear hx hv2 hw2
   unfold encUs at *
   go_wp2_with (refine zHq 6 ?_;(iterate 8 (all_goals(refine zhAV ?_)));all_goals refine zHk (fun w1 H1=>eqUse_l _ _) ?_;all_goals refine zhV ?_;all_goals(refine zHz ?_;clear H;intro wn H))
   go_roundg (n-(i+1))
   case measure=>omega
   case rel=>exact⟨i+1,by omega,by go_num,H⟩
  ·obtain rfl:i=n:=by omega
   have hlt1:=nlt i
   go_wp2_with (fail)
   go_ret
   exact⟨rfl,H.below⟩
theorem szUseS_l(v:Value)(l:List Us)(k:Int)(hk:0≤k∧k≤1048576)(ho:∀x ∈ l,okUs x)(w:World)(hr:(Ty.sl 0 tyUs).rd w [v] l):Gives Tryz.prog 98 #[v,.int .i64 k] w (.int .i64 (szC k (szUsl l))):=by
 obtain⟨A,c,rfl,hlc,hcm⟩:=sl_form hr
 unfold maxLen at *
 have HR:=hY hr
 have HOK:=hY ho
 have H:=Hs.start noRow w
 obtain⟨n,hn⟩:=nm l.length
 obtain⟨t,ht⟩:=nm (mzUs.cntl l)
 rw[show szUsl l=n+t by rw[hn,ht];rfl]
 rw[←hn] at HR ⊢
 have HN:=hY hn
 have HT:=hY ht
 have hnl:n≤9223372036854775807:=by omega
 clear hr hn ht hcm hlc ho
 unfold Gives
 by_cases h:k-n<0
 ·rw[szC_neg (by omega)]
  go_enter Tryz.func98,Tryz.ntmps98
  go_wp2_with (fail)
  go_ret
  exact⟨rfl,H.below⟩
 obtain⟨z,hz⟩:=nm (szC k (n+t:Nat))
 rw[←hz]
 have HZ:=hY hz
 clear hz
 go_enter Tryz.func98,Tryz.ntmps98
 go_wp2_with (fail)
 go_loopg [1,5] n (fun m kv iv wr=>∃(i s:Nat),i+m=n∧iv = .int .i64 i∧kv = .int .i64 (k-n-s)∧0≤k-n-s∧Hid (s=mzUs.cntl (l.take i))∧Hs noRow w [] wr)
 case atStart=>exact⟨0,0,by omega,rfl,by go_num,by omega,hY rfl,H⟩
 case round=>
  clear H
  obtain⟨i,s,hi,rfl,rfl,hs0,HI,H⟩:=hrel
  by_cases hlt:i<n
  ·obtain ⟨x,b,off,cs,hx,rfl,hv2,hcs,hA⟩:=slE HR HN hlt
   obtain rfl:cs=encUs x:=hcs
   have c1:=fun w1=>szUse_l x (k-n-s) ⟨hs0,by omega⟩ (HOK.out x (List.mem_of_getElem? hx)) w1
   have hle:=mzUs.cnt_at_le hx
   have hxs:mzUs.cnt x=(ssUs x):=rfl
   rw[←HI.out,←HT.out,hxs] at hle
   have HI2:Hid (s+(ssUs x)=mzUs.cntl (l.take (i+1))):=hY (by rw[mzUs.cntl_step hx,←HI.out];rfl)
   have hlt1:(i:Int)<n:=by omega
   unfold encUs at *
   clear hx hv2 hxs
   generalize (ssUs x)=xn at *
   by_cases hng:k-n-s-xn<0
   ·rw[szC_neg hng] at c1
    have HZ2:Hid (z = -1):=hY (by rw[HZ.out,szC_neg (by omega)])
    go_wp2_with ((first|refine zP ?_|(go_at_call 169;refine gvF (c1 _) H ?_));clear H;intro wn H)
    go_ret
    exact⟨by rw[HZ2.out];rfl,H.below⟩
   ·rw[szC_pos hng] at c1
    go_wp2_with ((first|refine zP ?_|(go_at_call 169;refine gvF (c1 _) H ?_));clear H;intro wn H)
    go_roundg (n-(i+1))
    case measure=>omega
    case rel=>exact⟨i+1,s+xn,by omega,by go_num,by go_num,by omega,HI2,H⟩
  ·obtain rfl:i=n:=by omega
   have hlt1:=nlt i
   have hst:s=t:=by rw[HI.out,HT.out,(tkl HN)]
   subst hst
   have HZ2:Hid (z=k-i-s):=hY (by rw[HZ.out,szC_pos (by omega)];omega)
   go_wp2_with (fail)
   go_ret
   exact⟨by rw[HZ2.out];rfl,H.below⟩
end Go.Proofs.YtcabgibdkmgdlaaGreat
namespace Go.Proofs.YtcabgibdkmgdlaaGreat
namespace M
def small(b:UInt8):Bool:=decide (97≤b.toNat)&&decide (b.toNat≤122)
def inName(b:UInt8):Bool:=small b || (decide (48≤b.toNat)&&decide (b.toNat≤57)) || decide (b.toNat=95)
def nameOk(t:Bs):Bool:=decide (1≤t.length)&&decide (t.length≤20)&&small (t[0]?.getD 0)&&t.all inName
def isIn(n lo hi:Int):Bool:=decide (lo≤n)&&decide (n≤hi)
def labelOk(a b:Int):Bool:=isIn a 0 3&&isIn b 0 7
end M
open Go.RowKit M
theorem labelRight_i(a b:Int)(w:World):Gives Tryz.prog 274 #[.agg #[.int .i64 a,.int .i64 b]] w (.bool (labelOk a b)):=by
 unfold Gives
 have h1:∀w,Gives Tryz.prog 71 #[.int .i64 a,.int .i64 0,.int .i64 3] w (.bool (isIn a 0 3)):=fun w=>within_i a 0 3 w
 have h2:∀w,Gives Tryz.prog 71 #[.int .i64 b,.int .i64 0,.int .i64 7] w (.bool (isIn b 0 7)):=fun w=>within_i b 0 7 w
 have hE0:labelOk a b=(isIn a 0 3&&isIn b 0 7):=rfl
 have hE:=hY hE0
 clear hE0
 generalize isIn a 0 3=x at *
 generalize isIn b 0 7=y at *
 cases x
 ·go_enter Tryz.func274,Tryz.ntmps274
  go_wp2_with (go_at_call 71;refine(h1 _).use.mono ?_;rintro e w1 ⟨rfl,hb1⟩;obtain⟨hc1,hf1,hs1⟩:=bcell1 hb1)
  go_ret
  exact⟨by rw[hE.out];rfl,by exact bwF⟩
 ·go_enter Tryz.func274,Tryz.ntmps274
  go_wp2_with (first
   | (go_at_call 71;with_reducible refine(h1 _).use.mono ?_;rintro e w1 ⟨rfl,hb1⟩;obtain⟨hc1,hf1,hs1⟩:=bcell1 hb1)
   | (go_at_call 71;with_reducible refine(h2 _).use.mono ?_;rintro e w2 ⟨rfl,hb2⟩;obtain⟨hc2,hf2⟩:=bcell hb2))
  go_ret
  exact⟨by rw[hE.out];simp,by exact bwF⟩
theorem labelRight_s(a b:Int)(w:World):Gives Tryz.prog 250 #[.agg #[.int .i64 a,.int .i64 b]] w (.bool (labelOk a b)):=by
 unfold Gives
 have h1:∀w,Gives Tryz.prog 50 #[.int .i64 a,.int .i64 0,.int .i64 3] w (.bool (isIn a 0 3)):=fun w=>is_s a 0 3 w
 have h2:∀w,Gives Tryz.prog 50 #[.int .i64 b,.int .i64 0,.int .i64 7] w (.bool (isIn b 0 7)):=fun w=>is_s b 0 7 w
 have hE0:labelOk a b=(isIn a 0 3&&isIn b 0 7):=rfl
 have hE:=hY hE0
 clear hE0
 generalize isIn a 0 3=x at *
 generalize isIn b 0 7=y at *
 cases x
 ·go_enter Tryz.func250,Tryz.ntmps250
  go_wp2_with (go_at_call 50;refine(h1 _).use.mono ?_;rintro e w1 ⟨rfl,hb1⟩;obtain⟨hc1,hf1,hs1⟩:=bcell1 hb1)
  go_ret
  exact⟨by rw[hE.out];rfl,by exact bwF⟩
 ·go_enter Tryz.func250,Tryz.ntmps250
  go_wp2_with (first
   | (go_at_call 50;with_reducible refine(h1 _).use.mono ?_;rintro e w1 ⟨rfl,hb1⟩;obtain⟨hc1,hf1,hs1⟩:=bcell1 hb1)
   | (go_at_call 50;with_reducible refine(h2 _).use.mono ?_;rintro e w2 ⟨rfl,hb2⟩;obtain⟨hc2,hf2⟩:=bcell hb2))
  go_ret
  exact⟨by rw[hE.out];simp,by exact bwF⟩
end Go.Proofs.YtcabgibdkmgdlaaGreat
namespace Go.Proofs.YtcabgibdkmgdlaaGreat
open Go.RowKit M
namespace M
def cmpL(a b:Lab):Int:=if a.1<b.1 then -1 else if b.1<a.1 then 1 else if a.2<b.2 then -1 else if b.2<a.2 then 1 else 0
def cmpI(a b:Int):Int:=if a<b then -1 else if b<a then 1 else 0
theorem cmpI_cases(a b:Int):(a<b∧cmpI a b = -1)∨(b<a∧cmpI a b=1)∨(a=b∧cmpI a b=0):=by
 unfold cmpI
 by_cases h:a<b
 ·exact .inl ⟨h,if_pos h⟩
 ·by_cases h2:b<a
  ·exact .inr (.inl ⟨h2,by rw[if_neg h,if_pos h2]⟩)
  ·exact .inr (.inr ⟨by omega,by rw[if_neg h,if_neg h2]⟩)
theorem cmpL_eq(a b:Lab):cmpL a b=if cmpI a.1 b.1≠0 then cmpI a.1 b.1 else cmpI a.2 b.2:=by
 unfold cmpL cmpI
 by_cases h1:a.1<b.1
 ·simp[h1]
 ·by_cases h2:b.1<a.1
  ·simp[h1,h2]
  ·simp[h1,h2]
def setIn(a b:Int):Bool:=(a.toNat &&& b.toNat)==a.toNat
def belowB(a b:Lab):Bool:=decide (a.1≤b.1)&&setIn a.2 b.2
end M
theorem isNaN_l(n:Int)(w:World):Calls Tryz.prog 300 #[.int .i64 n] w fun e w'=>e = .returned (.bool false)∧w'=w:=by
 have h:(n != n)=false:=by simp
 go_enter Tryz.func300,Tryz.ntmps300
 go_wp2
 go_ret
 exact⟨rfl,rfl⟩
theorem compare_l(a b:Int)(w:World):Calls Tryz.prog 214 #[.int .i64 a,.int .i64 b] w fun e w'=>e = .returned (.int .i64 (cmpI a b))∧w'=w:=by
 rcases cmpI_cases a b with ⟨h,h2⟩|⟨h,h2⟩|⟨h,h2⟩
 ·rw[h2]
  clear h2
  go_enter Tryz.func214,Tryz.ntmps214
  go_wp2_with (go_at_call 300;refine(isNaN_l _ _).mono ?_;rintro e w' ⟨rfl,rfl⟩)
  go_ret
  exact⟨rfl,rfl⟩
 ·have h':¬a<b:=by omega
  rw[h2]
  clear h2
  go_enter Tryz.func214,Tryz.ntmps214
  go_wp2_with (go_at_call 300;refine(isNaN_l _ _).mono ?_;rintro e w' ⟨rfl,rfl⟩)
  go_ret
  exact⟨rfl,rfl⟩
 ·have h':¬a<b:=by omega
  have h3:¬b<a:=by omega
  rw[h2]
  clear h2 h
  go_enter Tryz.func214,Tryz.ntmps214
  go_wp2_with (go_at_call 300;refine(isNaN_l _ _).mono ?_;rintro e w' ⟨rfl,rfl⟩)
  go_ret
  exact⟨rfl,rfl⟩
theorem or_l(a b:Int)(g:Nat)(w:World)(h0:w.cell? ⟨g,0,none⟩=some (.int .i64 a))(h1:w.cell? ⟨g,1,none⟩=some (.int .i64 b)):Calls Tryz.prog 213 #[.slice (some ⟨g,0,none⟩) 2 2] w fun e w'=>e = .returned (.int .i64 (if a≠0 then a else b))∧w'=w:=by
 by_cases ha:a=0
 ·have e:(if a≠0 then a else b)=b:=if_neg (by simpa using ha)
  rw[e]
  subst ha
  by_cases hb:b=0
  ·subst hb
   clear e
   go_enter Tryz.func213,Tryz.ntmps213
   go_wp2
   refine wp_loop_rounds 3 ?_
   rw[rounds_succ]
   go_wp2
   rw[rounds_succ]
   go_wp2
   rw[rounds_succ]
   go_wp2
   go_ret
   exact⟨rfl,rfl⟩
  ·have hb1:(b != 0)=true:=by simpa using hb
   clear e
   go_enter Tryz.func213,Tryz.ntmps213
   go_wp2
   refine wp_loop_rounds 3 ?_
   rw[rounds_succ]
   go_wp2
   rw[rounds_succ]
   go_wp2
   go_ret
   exact⟨rfl,rfl⟩
 ·have e:(if a≠0 then a else b)=a:=if_pos ha
  rw[e]
  have ha1:(a != 0)=true:=by simpa using ha
  clear e ha
  go_enter Tryz.func213,Tryz.ntmps213
  go_wp2
  refine wp_loop_rounds 3 ?_
  rw[rounds_succ]
  go_wp2
  go_ret
  exact⟨rfl,rfl⟩
theorem gr_end{W w1 w2:World}{os:Array Obj}{o:Obj}(h2:w2=w1.drewN 1)(h1:w1=Sort.grow W os):w2.alloc o=Sort.grow (W.drewN 1) (os ++ #[o]):=by
 rw[h2,h1]
 show (Sort.grow (W.drewN 1) os).alloc o=_
 rw[Sort.alloc_eq_grow,Sort.grow_grow]
def GPost(W:World)(v:Value):Ending→World→Prop:=fun e w'=>e = .returned v ∧ ∃q os',w'=Sort.grow (W.drewN q) os'
theorem compareLabels_grow(a b:Lab)(W:World):Calls Tryz.prog 140 #[.agg #[.int .i64 a.1,.int .i64 a.2],.agg #[.int .i64 b.1,.int .i64 b.2]] W (GPost W (.int .i64 (cmpL a b))):=by
 rw[cmpL_eq]
 obtain⟨a1,a2⟩:=a
 obtain⟨b1,b2⟩:=b
 have h1:=compare_l a1 b1
 have h2:=compare_l a2 b2
 simp only
 generalize cmpI a1 b1=x at *
 generalize cmpI a2 b2=y at *
 have hO:=fun g w h0 h1=>or_l x y g w h0 h1
 generalize (if x≠0 then x else y)=z at hO ⊢
 go_enter Tryz.func140,Tryz.ntmps140
 go_wp2_with fail
 refine wp_world ?_
 intro w1 hw1
 have e1:w1=Sort.grow W #[.cells #[.int .i64 a1,.int .i64 a2] 123,.cells #[.int .i64 b1,.int .i64 b2] 123]:=by
  rw[hw1,Sort.alloc_eq_grow,Sort.alloc_eq_grow,Sort.grow_grow];rfl
 have c0:({ w1 with drawn:=w1.drawn+1 }:World).cell? ⟨W.heap.size,0,none⟩=some (.int .i64 a1):=by show w1.cell? _=_;rw[hw1];simp
 have c1:({ w1 with drawn:=w1.drawn+1 }:World).cell? ⟨W.heap.size,1,none⟩=some (.int .i64 a2):=by show w1.cell? _=_;rw[hw1];simp
 have d0:({ w1 with drawn:=w1.drawn+1 }:World).cell? ⟨W.heap.size+1,0,none⟩=some (.int .i64 b1):=by show w1.cell? _=_;rw[hw1];simp
 have d1:({ w1 with drawn:=w1.drawn+1 }:World).cell? ⟨W.heap.size+1,1,none⟩=some (.int .i64 b2):=by show w1.cell? _=_;rw[hw1];simp
 have E1:=hY e1
 clear hw1 e1
 refine wp_region_still_tail 10 (by kernel_rfl) (by kernel_rfl) ?_
 obtain⟨w2,hw2⟩:=nm (({ w1 with drawn:=w1.drawn+1 }:World))
 rw[←hw2] at c0 c1 d0 d1 ⊢
 have E2:Hid (w2=w1.drewN 1):=hY hw2
 clear hw2
 simp only[List.take_succ_cons,List.take_zero,List.drop_succ_cons,List.drop_zero]
 iterate 4 still_step
 still_call (h1 _)
 iterate 4 still_step
 still_call (h2 _)
 refine wpStill_nil ?_
 clear h1 h2
 go_wp2_with fail
 refine(hO _ _ (by simp) (by simp)).mono ?_
 rintro e w' ⟨rfl,rfl⟩
 go_wp2
 go_ret
 exact⟨rfl,1,_,gr_end E2.out E1.out⟩
theorem gpost_gives{W:World}{v:Value}{P:Program}{f:FuncId}{args:Array Value}(h:Calls P f args W (GPost W v)):Gives P f args W v:=
 h.mono fun _ _ ⟨he,q,os,hw⟩=>⟨he,by
  subst hw
  exact⟨rfl,rfl,rfl,by simp[Sort.grow,World.drewN],fun k hk=>Sort.heap_grow_old (W.drewN q) os hk⟩⟩
theorem compareLabels_i(a b:Lab)(w:World):Gives Tryz.prog 140 #[.agg #[.int .i64 a.1,.int .i64 a.2],.agg #[.int .i64 b.1,.int .i64 b.2]] w (.int .i64 (cmpL a b)):=gpost_gives (compareLabels_grow a b w)
theorem bits_sub:∀a b:Fin 8,(bits .andNot .i64 (a.val:Int) (b.val:Int)==0)=setIn (a.val:Int) (b.val:Int):=by decide +kernel
theorem bits_meet:∀a b:Fin 8,(bits .and .i64 (a.val:Int) (b.val:Int)==(a.val:Int))=setIn (a.val:Int) (b.val:Int):=by decide +kernel
theorem fin8{a:Int}(h:0≤a∧a≤7):∃x:Fin 8,(x.val:Int)=a:=⟨⟨a.toNat,by omega⟩,by show ((a.toNat:Nat):Int)=a;omega⟩
theorem lab_set{a:Lab}(h:labelOk a.1 a.2=true):(0≤a.1∧a.1≤3)∧(0≤a.2∧a.2≤7):=by
 unfold labelOk isIn at h
 simp at h
 exact h
theorem bits_i{a b:Int}(ha:0≤a∧a≤7)(hb:0≤b∧b≤7):(bits .andNot .i64 a b==0)=setIn a b:=by
 obtain⟨x,rfl⟩:=fin8 ha
 obtain⟨y,rfl⟩:=fin8 hb
 exact bits_sub x y
theorem bits_s{a b:Int}(ha:0≤a∧a≤7)(hb:0≤b∧b≤7):(bits .and .i64 a b==a)=setIn a b:=by
 obtain⟨x,rfl⟩:=fin8 ha
 obtain⟨y,rfl⟩:=fin8 hb
 exact bits_meet x y
theorem below_i(a b:Lab)(ha:labelOk a.1 a.2=true)(hb:labelOk b.1 b.2=true)(w:World):Gives Tryz.prog 329 #[.agg #[.int .i64 a.1,.int .i64 a.2],.agg #[.int .i64 b.1,.int .i64 b.2]] w (.bool (belowB a b)):=by
 have hq:=bits_i (lab_set ha).2 (lab_set hb).2
 obtain⟨a1,a2⟩:=a
 obtain⟨b1,b2⟩:=b
 unfold Gives
 have H:=Hs.start noRow w
 clear ha hb
 by_cases h:a1≤b1
 ·have HB:Hid (belowB (a1,a2) (b1,b2)=setIn a2 b2):=hY (by unfold belowB;simp[h])
  have HQ:=hY hq
  clear hq
  rw[HB.out,←HQ.out]
  go_enter Tryz.func329,Tryz.ntmps329
  go_wp2_with (first|((with_reducible refine' st_guard ?_ ?_ ?_);rotate_left;rfl;(all_goals(intro hgd;cases hgd));(try refine zp ?_))|((first|refine zL ?_|(refine zB 2 ?_;intro b2)|(refine zB 3 ?_;intro b3));clear H;intro wn H))
  go_ret
  exact⟨rfl,H.below⟩
 ·have HB:Hid (belowB (a1,a2) (b1,b2)=false):=hY (by unfold belowB;simp[h])
  clear hq
  rw[HB.out]
  go_enter Tryz.func329,Tryz.ntmps329
  go_wp2_with (first|((with_reducible refine' st_guard ?_ ?_ ?_);rotate_left;rfl;(all_goals(intro hgd;cases hgd));(try refine zp ?_))|((first|refine zL ?_|(refine zB 2 ?_;intro b2)|(refine zB 3 ?_;intro b3));clear H;intro wn H))
  go_ret
  exact⟨rfl,H.below⟩
theorem below_s(a b:Lab)(ha:labelOk a.1 a.2=true)(hb:labelOk b.1 b.2=true)(w:World):Gives Tryz.prog 320 #[.agg #[.int .i64 a.1,.int .i64 a.2],.agg #[.int .i64 b.1,.int .i64 b.2]] w (.bool (belowB a b)):=by
 have hq:=bits_s (lab_set ha).2 (lab_set hb).2
 obtain⟨a1,a2⟩:=a
 obtain⟨b1,b2⟩:=b
 unfold Gives
 have H:=Hs.start noRow w
 clear ha hb
 by_cases h:a1≤b1
 ·have HB:Hid (belowB (a1,a2) (b1,b2)=setIn a2 b2):=hY (by unfold belowB;simp[h])
  have HQ:=hY hq
  clear hq
  rw[HB.out,←HQ.out]
  go_enter Tryz.func320,Tryz.ntmps320
  go_wp2_with (first|((with_reducible refine' st_guard ?_ ?_ ?_);rotate_left;rfl;(all_goals(intro hgd;cases hgd));(try refine zp ?_))|((first|refine zL ?_|(refine zB 2 ?_;intro b2)|(refine zB 3 ?_;intro b3));clear H;intro wn H))
  go_ret
  exact⟨rfl,H.below⟩
 ·have HB:Hid (belowB (a1,a2) (b1,b2)=false):=hY (by unfold belowB;simp[h])
  clear hq
  rw[HB.out]
  go_enter Tryz.func320,Tryz.ntmps320
  go_wp2_with (first|((with_reducible refine' st_guard ?_ ?_ ?_);rotate_left;rfl;(all_goals(intro hgd;cases hgd));(try refine zp ?_))|((first|refine zL ?_|(refine zB 2 ?_;intro b2)|(refine zB 3 ?_;intro b3));clear H;intro wn H))
  go_ret
  exact⟨rfl,H.below⟩
end Go.Proofs.YtcabgibdkmgdlaaGreat
namespace Go.Proofs.YtcabgibdkmgdlaaGreat
open Go.RowKit M
namespace M
def idxF{α:Type}(p:α→Bool):Nat→List α→Int
 | _,[]=>-1
 | k,a::l=>if p a then k else idxF p (k+1) l
theorem idxF_ge{α:Type}(p:α→Bool)(l:List α):∀k,decide ((0:Int)≤idxF p k l)=l.any p:=by
 induction l with
 | nil=>intro k;rfl
 | cons a l ih=>
  intro k
  unfold idxF
  cases h:p a
  ·simp only[Bool.false_eq_true,if_false,List.any_cons,h,Bool.false_or];exact ih (k+1)
  ·simp[h]
theorem idxF_drop{α:Type}{p:α→Bool}{l:List α}{i:Nat}{a:α}(h:l[i]? = some a):idxF p i (l.drop i)=if p a then (i:Int) else idxF p (i+1) (l.drop (i+1)):=by
 obtain⟨hlt,rfl⟩:=List.getElem?_eq_some_iff.1 h
 rw[List.drop_eq_getElem_cons hlt]
 rfl
end M
theorem indexFunc_Lab(v:Value)(l:List (Lab))(p:Lab→Bool)(g:Nat)(lb:Array Value)(w:World)(eg:∀args w,(callFunc g args).run Tryz.prog w = .ok (.enter g args) w)(hr:(Ty.sl 123 tyLab).rd w [v] l)(hp:∀w1,Below w.heap.size w w1 → ∀(i:Nat) (x:Lab),l[i]? = some x→Gives Tryz.prog g (#[.agg (encLab x).toArray]++lb) w1 (.bool (p x))):
  Gives Tryz.prog 284 #[v,.func (.func g) #[] lb] w (.int .i64 (idxF p 0 l)):=by
 obtain⟨A,c,rfl,hlc,hcm⟩:=sl_form hr
 unfold maxLen at *
 have HR:=hY hr
 have HP:=hY hp
 have H:=Hs.start noRow w
 obtain⟨n,hn⟩:=nm l.length
 have hnl:n≤9223372036854775807:=by omega
 rw[←hn] at HR ⊢
 have HN:=hY hn
 obtain⟨z,hz⟩:=nm (idxF p 0 l)
 rw[←hz]
 have HZ:=hY hz
 clear hr hn hlc hcm hp hz
 unfold Gives
 go_enter Tryz.func284,Tryz.ntmps284
 go_wp2_with (fail)
 go_loopg [4,5,8] n (fun m _ _ iv wr=>∃(i:Nat),i+m=n∧iv = .int .i64 i∧Hid (z=idxF p i (l.drop i))∧Hs noRow w [] wr)
 case atStart=>exact⟨0,by omega,rfl,HZ,H⟩
 case round=>
  clear H
  obtain⟨i,hi,rfl,HI,H⟩:=hrel
  by_cases hlt:i<n
  ·obtain ⟨x,b,off,cs,hx,rfl,hv2,hcs,hA⟩:=slE HR HN hlt
   obtain rfl:cs=encLab x:=hcs
   have hP:=fun w1 hb=>HP.out w1 hb i x hx
   have hstep:=HI.out
   rw[idxF_drop hx] at hstep
   have hlt1:(i:Int)<n:=by omega
   clear hx hv2 HI
   cases hpx:p x
   ·rw[hpx] at hP hstep
    have hP':=hP
    have HI:=hY (show z=idxF p (i+1) (l.drop (i+1)) from hstep)
    clear hP hstep hpx
    unfold encLab at *
    go_wp2_with ((first|refine zP ?_|(go_at_fn g;refine gvF (hP' _ H.below) H ?_));clear H;intro wn H)
    go_roundg (n-(i+1))
    case measure=>omega
    case rel=>exact⟨i+1,by omega,by go_num,HI,H⟩
   ·rw[hpx] at hP hstep
    have hP':=hP
    have HI:=hY (show z=(i:Int) from hstep)
    clear hP hstep hpx
    unfold encLab at *
    go_wp2_with ((first|refine zP ?_|(go_at_fn g;refine gvF (hP' _ H.below) H ?_));clear H;intro wn H)
    go_ret
    exact⟨by rw[HI.out];rfl,H.below⟩
  ·obtain rfl:i=n:=by omega
   have hlt1:=nlt i
   have hz:z = -1:=by rw[HI.out,(drl HN)];rfl
   have HI2:=hY hz
   clear hz HI HZ
   go_wp2_with (fail)
   go_ret
   exact⟨by rw[HI2.out];rfl,H.below⟩
theorem containsFunc_Lab(v:Value)(l:List (Lab))(p:Lab→Bool)(g:Nat)(lb:Array Value)(w:World)(eg:∀args w,(callFunc g args).run Tryz.prog w = .ok (.enter g args) w)(hr:(Ty.sl 123 tyLab).rd w [v] l)(hp:∀w1,Below w.heap.size w w1 → ∀(i:Nat) (x:Lab),l[i]? = some x→Gives Tryz.prog g (#[.agg (encLab x).toArray]++lb) w1 (.bool (p x))):
  Gives Tryz.prog 197 #[v,.func (.func g) #[] lb] w (.bool (l.any p)):=by
 have hI:=fun w1 hb=>indexFunc_Lab v l p g lb w1 eg (Ty.below _ hr hb) (fun w2 hb2=>hp w2 (hb.trans (hb2.mono hb.size)))
 have hz:=idxF_ge p l 0
 obtain⟨A,c,rfl,hlc,hcm⟩:=sl_form hr
 have H:=Hs.start noRow w
 generalize idxF p 0 l=z at *
 generalize l.length=n at *
 rw[←hz]
 clear hr hp hz
 unfold Gives
 go_enter Tryz.func197,Tryz.ntmps197
 go_wp2_with (((go_at_call 284;refine gvF (hI _ H.below) H ?_));clear H;intro wn H)
 go_ret
 exact⟨rfl,H.below⟩
theorem indexFunc_Pr(v:Value)(l:List (Pr))(p:Pr→Bool)(g:Nat)(lb:Array Value)(w:World)(eg:∀args w,(callFunc g args).run Tryz.prog w = .ok (.enter g args) w)(hr:(Ty.sl 182 tyPr).rd w [v] l)(hp:∀w1,Below w.heap.size w w1 → ∀(i:Nat) (x:Pr),l[i]? = some x→Gives Tryz.prog g (#[.agg (encPr x).toArray]++lb) w1 (.bool (p x))):
  Gives Tryz.prog 347 #[v,.func (.func g) #[] lb] w (.int .i64 (idxF p 0 l)):=by
 obtain⟨A,c,rfl,hlc,hcm⟩:=sl_form hr
 unfold maxLen at *
 have HR:=hY hr
 have HP:=hY hp
 have H:=Hs.start noRow w
 obtain⟨n,hn⟩:=nm l.length
 have hnl:n≤9223372036854775807:=by omega
 rw[←hn] at HR ⊢
 have HN:=hY hn
 obtain⟨z,hz⟩:=nm (idxF p 0 l)
 rw[←hz]
 have HZ:=hY hz
 clear hr hn hlc hcm hp hz
 unfold Gives
 go_enter Tryz.func347,Tryz.ntmps347
 go_wp2_with (fail)
 go_loopg [4,5,8] n (fun m _ _ iv wr=>∃(i:Nat),i+m=n∧iv = .int .i64 i∧Hid (z=idxF p i (l.drop i))∧Hs noRow w [] wr)
 case atStart=>exact⟨0,by omega,rfl,HZ,H⟩
 case round=>
  clear H
  obtain⟨i,hi,rfl,HI,H⟩:=hrel
  by_cases hlt:i<n
  ·obtain ⟨x,b,off,cs,hx,rfl,hv2,hcs,hA⟩:=slE HR HN hlt
   obtain rfl:cs=encPr x:=hcs
   have hP:=fun w1 hb=>HP.out w1 hb i x hx
   have hstep:=HI.out
   rw[idxF_drop hx] at hstep
   have hlt1:(i:Int)<n:=by omega
   clear hx hv2 HI
   cases hpx:p x
   ·rw[hpx] at hP hstep
    have hP':=hP
    have HI:=hY (show z=idxF p (i+1) (l.drop (i+1)) from hstep)
    clear hP hstep hpx
    unfold encPr at *
    go_wp2_with ((first|refine zP ?_|(go_at_fn g;refine gvF (hP' _ H.below) H ?_));clear H;intro wn H)
    go_roundg (n-(i+1))
    case measure=>omega
    case rel=>exact⟨i+1,by omega,by go_num,HI,H⟩
   ·rw[hpx] at hP hstep
    have hP':=hP
    have HI:=hY (show z=(i:Int) from hstep)
    clear hP hstep hpx
    unfold encPr at *
    go_wp2_with ((first|refine zP ?_|(go_at_fn g;refine gvF (hP' _ H.below) H ?_));clear H;intro wn H)
    go_ret
    exact⟨by rw[HI.out];rfl,H.below⟩
  ·obtain rfl:i=n:=by omega
   have hlt1:=nlt i
   have hz:z = -1:=by rw[HI.out,(drl HN)];rfl
   have HI2:=hY hz
   clear hz HI HZ
   go_wp2_with (fail)
   go_ret
   exact⟨by rw[HI2.out];rfl,H.below⟩
theorem containsFunc_Pr(v:Value)(l:List (Pr))(p:Pr→Bool)(g:Nat)(lb:Array Value)(w:World)(eg:∀args w,(callFunc g args).run Tryz.prog w = .ok (.enter g args) w)(hr:(Ty.sl 182 tyPr).rd w [v] l)(hp:∀w1,Below w.heap.size w w1 → ∀(i:Nat) (x:Pr),l[i]? = some x→Gives Tryz.prog g (#[.agg (encPr x).toArray]++lb) w1 (.bool (p x))):
  Gives Tryz.prog 327 #[v,.func (.func g) #[] lb] w (.bool (l.any p)):=by
 have hI:=fun w1 hb=>indexFunc_Pr v l p g lb w1 eg (Ty.below _ hr hb) (fun w2 hb2=>hp w2 (hb.trans (hb2.mono hb.size)))
 have hz:=idxF_ge p l 0
 obtain⟨A,c,rfl,hlc,hcm⟩:=sl_form hr
 have H:=Hs.start noRow w
 generalize idxF p 0 l=z at *
 generalize l.length=n at *
 rw[←hz]
 clear hr hp hz
 unfold Gives
 go_enter Tryz.func327,Tryz.ntmps327
 go_wp2_with (((go_at_call 347;refine gvF (hI _ H.below) H ?_));clear H;intro wn H)
 go_ret
 exact⟨rfl,H.below⟩
theorem indexFunc_Labs(v:Value)(l:List (List Lab))(p:List Lab→Bool)(g:Nat)(lb:Array Value)(w:World)(eg:∀args w,(callFunc g args).run Tryz.prog w = .ok (.enter g args) w)(hr:(Ty.sl 118 (Ty.sl 123 tyLab)).rd w [v] l)(hp:∀w1,Below w.heap.size w w1 → ∀(i:Nat) (x:List Lab) (u:Value),l[i]? = some x→(Ty.sl 123 tyLab).rd w1 [u] x→Gives Tryz.prog g (#[u]++lb) w1 (.bool (p x))):
  Gives Tryz.prog 345 #[v,.func (.func g) #[] lb] w (.int .i64 (idxF p 0 l)):=by
 obtain⟨A,c,rfl,hlc,hcm⟩:=sl_form hr
 unfold maxLen at *
 have HR:=hY hr
 have HP:=hY hp
 have H:=Hs.start noRow w
 obtain⟨n,hn⟩:=nm l.length
 have hnl:n≤9223372036854775807:=by omega
 rw[←hn] at HR ⊢
 have HN:=hY hn
 obtain⟨z,hz⟩:=nm (idxF p 0 l)
 rw[←hz]
 have HZ:=hY hz
 clear hr hn hlc hcm hp hz
 unfold Gives
 go_enter Tryz.func345,Tryz.ntmps345
 go_wp2_with (fail)
 go_loopg [4,5,8] n (fun m _ _ iv wr=>∃(i:Nat),i+m=n∧iv = .int .i64 i∧Hid (z=idxF p i (l.drop i))∧Hs noRow w [] wr)
 case atStart=>exact⟨0,by omega,rfl,HZ,H⟩
 case round=>
  clear H
  obtain⟨i,hi,rfl,HI,H⟩:=hrel
  by_cases hlt:i<n
  ·obtain ⟨x,b,off,cs,hx,rfl,hv2,hcs,hA⟩:=slE HR HN hlt
   obtain⟨u,hu⟩:∃u,cs = [u]:=by obtain⟨u,_,rfl,_⟩:=hcs;exact⟨u,rfl⟩
   subst hu
   have h0:w.cell? ⟨b,off+i,none⟩=some u:=by have h:=hA.head (u:=u) rfl;rw[show i*Ty.s _=i from Nat.mul_one i] at h;exact h
   have hP:=fun w1 hb=>HP.out w1 hb i x u hx (Ty.below _ hcs hb)
   have hstep:=HI.out
   rw[idxF_drop hx] at hstep
   have hlt1:(i:Int)<n:=by omega
   clear hx hv2 HI
   cases hpx:p x
   ·rw[hpx] at hP hstep
    have hP':=hP
    have HI:=hY (show z=idxF p (i+1) (l.drop (i+1)) from hstep)
    clear hP hstep hpx
    go_wp2_with ((first|refine zL ?_|(go_at_fn g;refine gvF (hP' _ H.below) H ?_));clear H;intro wn H)
    go_roundg (n-(i+1))
    case measure=>omega
    case rel=>exact⟨i+1,by omega,by go_num,HI,H⟩
   ·rw[hpx] at hP hstep
    have hP':=hP
    have HI:=hY (show z=(i:Int) from hstep)
    clear hP hstep hpx
    go_wp2_with ((first|refine zL ?_|(go_at_fn g;refine gvF (hP' _ H.below) H ?_));clear H;intro wn H)
    go_ret
    exact⟨by rw[HI.out];rfl,H.below⟩
  ·obtain rfl:i=n:=by omega
   have hlt1:=nlt i
   have hz:z = -1:=by rw[HI.out,(drl HN)];rfl
   have HI2:=hY hz
   clear hz HI HZ
   go_wp2_with (fail)
   go_ret
   exact⟨by rw[HI2.out];rfl,H.below⟩
theorem containsFunc_Labs(v:Value)(l:List (List Lab))(p:List Lab→Bool)(g:Nat)(lb:Array Value)(w:World)(eg:∀args w,(callFunc g args).run Tryz.prog w = .ok (.enter g args) w)(hr:(Ty.sl 118 (Ty.sl 123 tyLab)).rd w [v] l)(hp:∀w1,Below w.heap.size w w1 → ∀(i:Nat) (x:List Lab) (u:Value),l[i]? = some x→(Ty.sl 123 tyLab).rd w1 [u] x→Gives Tryz.prog g (#[u]++lb) w1 (.bool (p x))):
  Gives Tryz.prog 324 #[v,.func (.func g) #[] lb] w (.bool (l.any p)):=by
 have hI:=fun w1 hb=>indexFunc_Labs v l p g lb w1 eg (Ty.below _ hr hb) (fun w2 hb2=>hp w2 (hb.trans (hb2.mono hb.size)))
 have hz:=idxF_ge p l 0
 obtain⟨A,c,rfl,hlc,hcm⟩:=sl_form hr
 have H:=Hs.start noRow w
 generalize idxF p 0 l=z at *
 generalize l.length=n at *
 rw[←hz]
 clear hr hp hz
 unfold Gives
 go_enter Tryz.func324,Tryz.ntmps324
 go_wp2_with (((go_at_call 345;refine gvF (hI _ H.below) H ?_));clear H;intro wn H)
 go_ret
 exact⟨rfl,H.below⟩
