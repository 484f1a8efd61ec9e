import Derived.Test.YtcabgibdkmgdlaaGreatG3
import Derived.Test.YtcabgibdkmgdlaaGreatG1
import Derived.Laws.AppendOwn
import Derived.Laws.OwnMore
import Derived.Deep.AppendLies
import Derived.Laws.MakeOwn
import Derived.Laws.IdiomStrings
import Derived.OwnWalk
import Derived.Deep.MidRow
import Derived.BigQuiet
import Derived.Lib.OthersKept
set_option linter.unusedSimpArgs false
set_option linter.unusedVariables false
namespace Go.Proofs.YtcabgibdkmgdlaaGreat
open Go.RowKit
structure Hl where
 sup:Nat→Prop
 P:World→Prop
 stab:∀w w':World,P w→(∀b,sup b→w'.heap[b]? = w.heap[b]?)→P w'
 lt:∀w,P w → ∀b,sup b→b<w.heap.size
def Hl.blk(g:Nat)(t:TypeId)(cs:Array Value):Hl:=
 ⟨(· = g),fun w=>Blk w g t cs,fun w w' h e=>(e g rfl).trans h,fun w h b e=>by subst e;exact h.lt⟩
def Hl.own(E:TypeId)(s:Nat)(v:Value)(n:Nat)(xs:List Value):Hl:=
 ⟨fun b=>v.ownBlock=some b,fun w=>w.ownsRow 0 E s v n xs,
  fun w w' h e=>by
  refine⟨h.1,?_⟩
  rcases h.2 with hn|⟨g,cap,cur,rfl,hb,hg,rest⟩
  ·exact .inl hn
  ·exact .inr ⟨g,cap,cur,rfl,hb,(e g rfl).trans hg,rest⟩,
  fun w h b e=>(h.lt b e).2⟩
def noRow:Nat→Prop:=fun _=>False
structure Grow (R:Nat→Prop) (w w':World):Prop where
 os:w'.os=w.os
 tape:w'.tape=w.tape
 output:w'.output=w.output
 size:w.heap.size≤w'.heap.size
 block:∀k,k<w.heap.size → ¬R k→w'.heap[k]? = w.heap[k]?
section
variable {R S:Nat→Prop} {w0 w w':World} {L M N:List Hl}
theorem Grow.refl(R:Nat→Prop)(w:World):Grow R w w:=⟨rfl,rfl,rfl,Nat.le_refl _,fun _ _ _=>rfl⟩
theorem Grow.trans(h:Grow R w0 w)(k:Grow S w w')(hS:∀b,S b→b<w0.heap.size→R b):Grow R w0 w':=
 ⟨k.os.trans h.os,k.tape.trans h.tape,k.output.trans h.output,Nat.le_trans h.size k.size,
  fun b hb hr=>(k.block b (Nat.lt_of_lt_of_le hb h.size) (fun hs=>hr (hS b hs hb))).trans (h.block b hb hr)⟩
theorem Grow.below(h:Grow noRow w w'):Below w.heap.size w w':=⟨h.os,h.tape,h.output,h.size,fun k hk=>h.block k hk (fun f=>f)⟩
theorem growN(h:Below w.heap.size w w'):Grow noRow w w':=⟨h.os,h.tape,h.output,h.size,fun k hk _=>h.block k hk⟩
theorem Grow.drew(w:World):Grow noRow w w.drew:=⟨rfl,rfl,rfl,Nat.le_refl _,fun _ _ _=>rfl⟩
theorem Grow.alloc(w:World)(o:Obj):Grow noRow w (w.alloc o):=growN (bnew w o)
theorem Grow.setCell(w:World)(p:Addr)(u:Value):Grow (· = p.block) w (w.setCell p u):=
 ⟨rfl,rfl,rfl,by simp[World.setCell],fun k _ hk=>Below.heap_setCell _ _ _ _ hk⟩
theorem Grow.of_grownBy{row:Option Nat}(h:w.grownBy w' row):Grow (fun b=>row=some b) w w':=
 ⟨h.os,h.tape,h.output,h.size,fun k hk hr=>h.block k hk (fun e=>hr e.symm)⟩
theorem Grow.grownBy{g:Nat}(h:Grow (· = g) w w'):w.grownBy w' (some g):=
 ⟨h.os,h.tape,h.output,h.size,fun k hk hr=>h.block k hk (fun e=>hr (by rw[e]))⟩
structure Hs (R:Nat→Prop) (w0:World) (L:List Hl) (w:World):Prop where
 grow:Grow R w0 w
 ok:∀h ∈ L,h.P w
 own:∀h ∈ L,∀b,h.sup b→w0.heap.size≤b∨R b
 sep:L.Pairwise (fun h k=>∀b,h.sup b → ¬k.sup b)
theorem Hs.start(R:Nat→Prop)(w:World):Hs R w [] w:=⟨Grow.refl _ _,by simp,by simp,List.Pairwise.nil⟩
theorem Hs.more(H:Hs R w0 L w)(h:Hs noRow w M w'):Hs R w0 (M++L) w':=by
 refine⟨H.grow.trans h.grow (fun b f=>f.elim),?_,?_,?_⟩
 ·intro k hk
  rcases List.mem_append.1 hk with hk|hk
  ·exact h.ok k hk
  ·exact k.stab w w' (H.ok k hk) fun b hb=>h.grow.block b (k.lt w (H.ok k hk) b hb) (fun f=>f)
 ·intro k hk b hb
  rcases List.mem_append.1 hk with hk|hk
  ·rcases h.own k hk b hb with h1|h1
   ·exact .inl (Nat.le_trans H.grow.size h1)
   ·exact h1.elim
  ·exact H.own k hk b hb
 ·refine List.pairwise_append.2 ⟨h.sep,H.sep,fun a ha k hk b hb hb'=>?_⟩
  rcases h.own a ha b hb with h1|h1
  ·have:=k.lt w (H.ok k hk) b hb'
   omega
  ·exact h1
theorem Hs.sub(H:Hs R w0 L w)(h:M.Sublist L):Hs R w0 M w:=
 ⟨H.grow,fun k hk=>H.ok k (h.mem hk),fun k hk=>H.own k (h.mem hk),H.sep.sublist h⟩
theorem Hs.perm(H:Hs R w0 L w)(h:M.Perm L):Hs R w0 M w:=
 ⟨H.grow,fun k hk=>H.ok k (h.mem_iff.1 hk),fun k hk=>H.own k (h.mem_iff.1 hk),h.symm.pairwise H.sep (fun hab b hb ha=>hab b ha hb)⟩
theorem Hs.drew(H:Hs R w0 L w):Hs R w0 L w.drew:=by
 have:=H.more (M:=[]) (w':=w.drew) ⟨Grow.drew w,by simp,by simp,List.Pairwise.nil⟩
 simpa using this
theorem Hs.later(H:Hs R w0 L w)(h:Below w.heap.size w w'):Hs R w0 L w':=by
 have:=H.more (M:=[]) (w':=w') ⟨growN h,by simp,by simp,List.Pairwise.nil⟩
 simpa using this
theorem Hs.below(H:Hs noRow w0 L w):Below w0.heap.size w0 w:=H.grow.below
theorem Hs.nil(H:Hs R w0 L w):Hs R w0 [] w:=H.sub (List.nil_sublist _)
theorem Hs.newblk(w:World)(t:TypeId)(cs:Array Value):Hs noRow w [Hl.blk w.heap.size t cs] (w.alloc (.cells cs t)):=
 ⟨Grow.alloc _ _,fun h hh=>by obtain rfl:=List.mem_singleton.1 hh;exact Blk.new w t cs rfl,
  fun h hh b hb=>by obtain rfl:=List.mem_singleton.1 hh;exact .inl (Nat.le_of_eq (Eq.symm hb)),List.pairwise_singleton _ _⟩
inductive In (h:Hl):List Hl→Prop
 | here {L:List Hl}:In h (h::L)
 | there {k:Hl} {L:List Hl}:In h L→In h (k::L)
theorem In.mem{h:Hl}(i:In h L):h ∈ L:=by
 induction i with
 | here=>exact List.mem_cons_self ..
 | there _ ih=>exact List.mem_cons_of_mem _ ih
inductive Upd (h h':Hl):List Hl→List Hl→Prop
 | here {L:List Hl}:Upd h h' (h::L) (h'::L)
 | there {k:Hl} {L M:List Hl}:Upd h h' L M→Upd h h' (k::L) (k::M)
inductive Del (h:Hl):List Hl→List Hl→Prop
 | here {L:List Hl}:Del h (h::L) L
 | there {k:Hl} {L M:List Hl}:Del h L M→Del h (k::L) (k::M)
theorem Del.perm{h:Hl}(d:Del h L M):L.Perm (h::M):=by
 induction d with
 | here=>exact List.Perm.refl _
 | there _ ih=>exact(ih.cons _).trans (List.Perm.swap ..)
theorem Upd.split{h h':Hl}(u:Upd h h' L M):∃N,L.Perm (h::N)∧M.Perm (h'::N):=by
 induction u with
 | @here L=>exact⟨L,List.Perm.refl _,List.Perm.refl _⟩
 | there _ ih=>
  obtain⟨N,h1,h2⟩:=ih
  exact⟨_::N,(h1.cons _).trans (List.Perm.swap ..),(h2.cons _).trans (List.Perm.swap ..)⟩
theorem Hs.turn{h h':Hl}(H:Hs R w0 L w)(u:Upd h h' L M)(hg:Grow h.sup w w')(hp:h'.P w')(hs:∀b,h'.sup b→h.sup b∨w.heap.size≤b):Hs R w0 M w':=by
 obtain⟨N,h1,h2⟩:=u.split
 have H1:=H.perm h1.symm
 refine Hs.perm ?_ h2
 have hsep:=List.pairwise_cons.1 H1.sep
 refine⟨H1.grow.trans hg fun b hb hlt=>?_,?_,?_,?_⟩
 ·rcases H1.own h (List.mem_cons_self ..) b hb with h3|h3
  ·omega
  ·exact h3
 ·intro k hk
  rcases List.mem_cons.1 hk with rfl|hk
  ·exact hp
  ·exact k.stab w w' (H1.ok k (List.mem_cons_of_mem _ hk)) fun b hb=>
    hg.block b (k.lt w (H1.ok k (List.mem_cons_of_mem _ hk)) b hb) (fun hh=>hsep.1 k hk b hh hb)
 ·intro k hk b hb
  rcases List.mem_cons.1 hk with rfl|hk
  ·rcases hs b hb with h3|h3
   ·exact H1.own h (List.mem_cons_self ..) b h3
   ·exact .inl (Nat.le_trans H1.grow.size h3)
  ·exact H1.own k (List.mem_cons_of_mem _ hk) b hb
 ·refine List.pairwise_cons.2 ⟨fun k hk b hb hb'=>?_,hsep.2⟩
  rcases hs b hb with h3|h3
  ·exact hsep.1 k hk b h3 hb'
  ·have:=k.lt w (H1.ok k (List.mem_cons_of_mem _ hk)) b hb'
   omega
theorem Hs.cell{g:Nat}{t:TypeId}{cs:Array Value}(H:Hs R w0 L w)(i:In (Hl.blk g t cs) L){o:Nat}{v:Value}(e:cs[o]? = some v):w.cell? ⟨g,o,none⟩=some v:=
 (Blk.cell (H.ok _ i.mem) o).trans e
theorem Hs.blk{g:Nat}{t:TypeId}{cs:Array Value}(H:Hs R w0 L w)(i:In (Hl.blk g t cs) L):Blk w g t cs:=H.ok _ i.mem
theorem Hs.owns{E:TypeId}{s n:Nat}{v:Value}{xs:List Value}(H:Hs R w0 L w)(i:In (Hl.own E s v n xs) L):w.ownsRow 0 E s v n xs:=H.ok _ i.mem
theorem Hs.old(H:Hs R w0 L w){p:Addr}{v:Value}(e:w0.cell? p=some v)(hR:¬R p.block):w.cell? p=some v:=
 (World.cell?_of_block (w:=w0) (H.grow.block p.block (World.block_lt_of_cell? w0 p e) hR)).trans e
theorem Hs.oldN(H:Hs noRow w0 L w){p:Addr}{v:Value}(e:w0.cell? p=some v):w.cell? p=some v:=H.old e (fun f=>f)
structure Hk (K:List Hl) (w:World) (M:List Hl) (w':World):Prop where
 grow:Grow (fun b=>∃k ∈ K,k.sup b) w w'
 keep:(∀k ∈ K,k.P w) → ∀k ∈ K,k.P w'
 ok:∀h ∈ M,h.P w'
 own:∀h ∈ M,∀b,h.sup b→w.heap.size≤b
 sep:M.Pairwise (fun h k=>∀b,h.sup b → ¬k.sup b)
theorem Grow.mono{S:Nat→Prop}(h:Grow R w w')(hs:∀b,R b→S b):Grow S w w':=⟨h.os,h.tape,h.output,h.size,fun k hk hr=>h.block k hk (fun e=>hr (hs k e))⟩
theorem Hs.hk{K:List Hl}(h:Hs noRow w M w'):Hk K w M w':=
 ⟨h.grow.mono (fun _ f=>f.elim),fun hp k hk=>k.stab w w' (hp k hk) (fun b hb=>h.grow.block b (k.lt w (hp k hk) b hb) (fun f=>f)),h.ok,
  fun x hx b hb=>(h.own x hx b hb).elim id (fun f=>f.elim),h.sep⟩
theorem Hk.hs(h:Hk [] w M w'):Hs noRow w M w':=
 ⟨h.grow.mono (fun _ ⟨_,f,_⟩=>by simp at f),h.ok,fun x hx b hb => .inl (h.own x hx b hb),h.sep⟩
theorem sep_ne{L:List Hl}(h:L.Pairwise (fun h k=>∀b,h.sup b → ¬k.sup b)):∀a,a ∈ L → ∀c,c ∈ L→a≠c → ∀b,a.sup b → ¬c.sup b:=by
 induction h with
 | nil=>intro a ha;simp at ha
 | cons h1 _ ih=>
  intro a ha c hc hne b hb hb'
  rcases List.mem_cons.1 ha with rfl|ha1
  ·rcases List.mem_cons.1 hc with rfl|hc1
   ·exact hne rfl
   ·exact h1 c hc1 b hb hb'
  ·rcases List.mem_cons.1 hc with rfl|hc1
   ·exact h1 a ha1 b hb' hb
   ·exact ih a ha1 c hc1 hne b hb hb'
theorem Hs.moreK{K:List Hl}(H:Hs R w0 L w)(hK:∀k ∈ K,k ∈ L)(h:Hk K w M w'):Hs R w0 (M++L) w':=by
 have far:∀l ∈ L,l.P w':=fun l hl=>by
  by_cases hlk:l ∈ K
  ·exact h.keep (fun k hk=>H.ok k (hK k hk)) l hlk
  ·refine l.stab w w' (H.ok l hl) fun b hb=>h.grow.block b (l.lt w (H.ok l hl) b hb) ?_
   rintro⟨k,hk,hkb⟩
   exact sep_ne H.sep k (hK k hk) l hl (fun e=>hlk (e ▸ hk)) b hkb hb
 refine⟨H.grow.trans h.grow ?_,?_,?_,?_⟩
 ·rintro b ⟨k,hk,hkb⟩ hlt
  rcases H.own k (hK k hk) b hkb with h3|h3
  ·omega
  ·exact h3
 ·intro k hk
  rcases List.mem_append.1 hk with hk|hk
  ·exact h.ok k hk
  ·exact far k hk
 ·intro k hk b hb
  rcases List.mem_append.1 hk with hk|hk
  ·exact .inl (Nat.le_trans H.grow.size (h.own k hk b hb))
  ·exact H.own k hk b hb
 ·refine List.pairwise_append.2 ⟨h.sep,H.sep,fun a ha k hk b hb hb'=>?_⟩
  have h1:=h.own a ha b hb
  have h2:=k.lt w (H.ok k hk) b hb'
  omega
theorem Hk.refl(K:List Hl)(w:World):Hk K w [] w:=(Hs.start noRow w).hk
theorem Hs.set{g:Nat}{t:TypeId}{cs:Array Value}(H:Hs R w0 L w)(o:Nat)(v:Value)(u:Upd (Hl.blk g t cs) (Hl.blk g t (cs.setIfInBounds o v)) L M):Hs R w0 M (w.setCell ⟨g,o,none⟩ v):=by
 obtain⟨N,h1,h2⟩:=u.split
 refine H.turn u (Grow.setCell w ⟨g,o,none⟩ v) (Blk.set_ (H.ok _ (h1.mem_iff.2 (List.mem_cons_self ..))) o v) (fun b hb => .inl hb)
end
section
variable {P:Program} {R:Nat→Prop} {w0 w:World} {L M:List Hl} {a:Act} {ops:Array Oper} {Q:Exit→Act→World→Prop} {rest:List Oper} {o:Oper}
def tV(u:Value):Value→List Hl→Prop:=fun v L=>v=u∧L = []
def tNew(t:TypeId)(cs:Array Value):Value→List Hl→Prop:=fun v L=>∃g,v = .pointer (some ⟨g,0,none⟩)∧L = [Hl.blk g t cs]
def tSl(t:TypeId)(n:Nat)(cs:Array Value):Value→List Hl→Prop:=fun v L=>∃g,v = .slice (some ⟨g,0,none⟩) n n∧L = [Hl.blk g t cs]
def tI(p:Int→Prop):Value→List Hl→Prop:=fun v L=>(∃n,v = .int .i64 n∧p n)∧L = []
def tB(p:ByteArray→Prop):Value→List Hl→Prop:=fun v L=>(∃t,v = .string t∧p t)∧L = []
def okUpon(P:Program)(K:List Hl)(w:World)(T:Value→List Hl→Prop):Result Next→Prop
 | .ok (.value u) w'=>∃M,T u M∧Hk K w M w'
 | .ok .skip w'=>∃M,T undef M∧Hk K w M w'
 | .ok (.enter f args) w'=>w'=w∧Calls P f args w (fun e w''=>∃v M,e = .returned v∧T v M∧Hk K w M w'')
 | _=>False
def OpOk(P:Program)(K:List Hl)(o:Oper)(a:Act)(w:World)(T:Value→List Hl→Prop):Prop:=okUpon P K w T ((execOp a.eval o).run P w)
def Rets(P:Program)(K:List Hl)(f:FuncId)(args:Array Value)(w:World)(T:Value→List Hl→Prop):Prop:=
 Calls P f args w (fun e w'=>∃v M,e = .returned v∧T v M∧Hk K w M w')
theorem Rets.use{K:List Hl}{f:FuncId}{args:Array Value}{T:Value→List Hl→Prop}(h:Rets P K f args w T):Calls P f args w (fun e w'=>∃v M,e = .returned v∧T v M∧Hk K w M w'):=h
theorem Rets.weak{K:List Hl}{f:FuncId}{args:Array Value}{T T':Value→List Hl→Prop}(h:Rets P K f args w T)(hT:∀v M,T v M→T' v M):Rets P K f args w T':=
 h.use.mono fun _ _ ⟨v,M,he,ht,hs⟩=>⟨v,M,he,hT v M ht,hs⟩
theorem Hs.of_below{w w':World}(h:Below w.heap.size w w'):Hs noRow w [] w':=⟨growN h,by simp,by simp,List.Pairwise.nil⟩
theorem Gives.rets{K:List Hl}{f:FuncId}{args:Array Value}{v:Value}(h:Gives P f args w v):Rets P K f args w (tV v):=
 h.use.mono fun _ _ ⟨he,hb⟩=>⟨v,[],he,⟨rfl,rfl⟩,(Hs.of_below hb).hk⟩
theorem now_v{K:List Hl}{u:Value}:okUpon P K w (tV u) (.ok (.value u) w):=⟨[],⟨rfl,rfl⟩,Hk.refl _ _⟩
theorem now_new{K:List Hl}{t:TypeId}{cs:Array Value}:okUpon P K w (tNew t cs) (.ok (.value (.pointer (some ⟨w.heap.size,0,none⟩))) (w.alloc (.cells cs t))):=
 ⟨_,⟨_,rfl,rfl⟩,(Hs.newblk w t cs).hk⟩
theorem now_sl{K:List Hl}{t:TypeId}{n:Nat}{cs:Array Value}:okUpon P K w (tSl t n cs) (.ok (.value (.slice (some ⟨w.heap.size,0,none⟩) n n)) (w.alloc (.cells cs t))):=
 ⟨_,⟨_,rfl,rfl⟩,(Hs.newblk w t cs).hk⟩
theorem now_call{K:List Hl}{f:FuncId}{args:Array Value}{T:Value→List Hl→Prop}(h:Rets P K f args w T):okUpon P K w T (.ok (.enter f args) w):=⟨rfl,h⟩
theorem st_op{K:List Hl}{T:Value→List Hl→Prop}(H:Hs R w0 L w)(hg:o.guard=none)(hK:∀k ∈ K,k ∈ L)(h:OpOk P K o a w T)
  (k:∀v M w',T v M→Hs R w0 (M++L) w'→wpList P ops Q rest (a.put o.dst v) w'):wpList P ops Q (o::rest) a w:=by
 refine wpList_plain hg fun K' hK'=>?_
 unfold Oper.wp
 unfold OpOk at h
 generalize (execOp a.eval o).run P w=r at h ⊢
 cases r with
 | ok nx w'=>
  cases nx <;> simp only[okUpon] at h <;> simp only[Oper.upon]
  case value u=>obtain⟨M,h1,h2⟩:=h;exact hK' _ _ (k u M w' h1 (H.moreK hK h2))
  case skip=>obtain⟨M,h1,h2⟩:=h;exact hK' _ _ (k undef M w' h1 (H.moreK hK h2))
  case enter f args=>
   obtain⟨rfl,hc⟩:=h
   exact hc.mono fun e w'' ⟨v,M,he,h1,h2⟩=>by subst he;exact hK' _ _ (k v M w'' h1 (H.moreK hK h2))
 | halt x w'=>simp only[okUpon] at h
end
end Go.Proofs.YtcabgibdkmgdlaaGreat
namespace Go.Proofs.YtcabgibdkmgdlaaGreat
open Go.RowKit
section
variable {P:Program}
def genUpon(P:Program)(w:World)(Ψ : Value→World→Prop):Result Next→Prop
 | .ok (.value u) w'=>Ψ u w'
 | .ok .skip w'=>Ψ undef w'
 | .ok (.enter f args) w'=>w'=w∧Calls P f args w (fun e w''=>∃v,e = .returned v ∧ Ψ v w'')
 | _=>False
def genAt(P:Program)(o:Oper)(a:Act)(w:World)(Ψ : Value→World→Prop):Prop:=genUpon P w Ψ ((execOp a.eval o).run P w)
def headG(l:List Oper)(n:Nat):Bool:=
 (List.range n).all fun j=>match l[j]? with
  | none=>false
  | some oj=>((deps oj).all fun e=>decide (e<j)) &&
   (match oj.guard with|none=>true|some (g,_)=>decide (g<n)) &&
   (List.range n).all fun i=>match l[i]? with
    | none=>false
    | some oi=>match oi.dst with
     | none=>true
     | some d=>(decide (i=j) || (oj.dst != some d))&&(!(oj.looksAt l.toArray).contains d || (deps oj).contains i)
theorem headG_spec{l:List Oper}{n j:Nat}(h:headG l n=true)(hj:j<n):∃oj,l[j]? = some oj∧(∀e ∈ deps oj,e<j)∧(∀g b,oj.guard=some (g,b)→g<n) ∧
  ∀i oi t,i<n→l[i]? = some oi→oi.dst=some t→(i≠j→oj.dst≠some t)∧(t ∈ oj.looksAt l.toArray→i ∈ deps oj):=by
 have h1:=List.all_eq_true.1 h j (List.mem_range.2 hj)
 cases ho:l[j]? with
 | none=>rw[ho] at h1;cases h1
 | some oj=>
  rw[ho] at h1
  simp only[Bool.and_eq_true] at h1
  obtain⟨⟨h3,h2⟩,h4⟩:=h1
  refine⟨oj,rfl,fun e he=>by simpa using List.all_eq_true.1 h3 e he,fun g b hg=>by rw[hg] at h2;simpa using h2,fun i oi t hi hoi ht=>?_⟩
  have h5:=List.all_eq_true.1 h4 i (List.mem_range.2 hi)
  rw[hoi] at h5
  simp only[ht,Bool.and_eq_true,Bool.or_eq_true,decide_eq_true_eq,Bool.not_eq_true',bne_iff_ne,ne_eq] at h5
  refine⟨fun hne=>h5.1.resolve_left hne,fun hm=>?_⟩
  rcases h5.2 with h6|h6
  ·rw[List.contains_eq_mem] at h6
   simp[hm] at h6
  ·simpa using h6
def boolOf:Value→Option Bool
 | .bool b=>some b
 | _=>none
theorem yielded_eval(ops:Array Oper)(a:Act)(j:Nat):yielded ops a.tmps j=match (ops[j]?).bind (·.dst) with
  | none=>none
  | some t=>boolOf (a.eval (.tmp t)):=by
 unfold yielded
 cases h:(ops[j]?).bind (·.dst) with
 | none=>rfl
 | some t=>
  simp only[Option.bind_some]
  unfold Act.eval
  cases h2:a.tmps[t]? with
  | none=>simp[h2,undef,boolOf]
  | some v=>simp[h2];cases v <;> simp[boolOf]
theorem wpAny_gen2{l:List Oper}{n:Nat}{C:(Nat→Option Value)→World→Prop}{Q:Exit→Act→World→Prop}{a0:Act}
  (hB:headG l n=true) (hn:n≤l.length)
  (hwait:∀listed i,HeadInv .any l.toArray n listed→i<n→listed.getD i true=false → ∀t,n≤t→t ∉ Region.ready .any l.toArray listed)
  (hend:∀listed a w,HeadInv .any l.toArray n listed→(∀i,i<n→listed.getD i true=true)→wpList P l.toArray Q (l.drop n) a w→wpAny P .any l.toArray Q (l.length-n) listed a w)
  (hop:∀i o f w,i<n→l[i]? = some o→C f w→f i=none→(∀e ∈ deps o,(f e).isSome=true)→(Region.wanted o (yielded l.toArray (lexF f (l.take n) 0 a0).tmps)=true∧genAt P o (lexF f (l.take n) 0 a0) w (fun v w'=>C (upd f i v) w'))∨(Region.wanted o (yielded l.toArray (lexF f (l.take n) 0 a0).tmps)=false∧C (upd f i undef) w))
  (hfin:∀f w,C f w→(∀i,i<n→(f i).isSome=true)→wpList P l.toArray Q (l.drop n) (lexF f (l.take n) 0 a0) w) :
  ∀(m:Nat) (f:Nat→Option Value) (listed:Array Bool) (w:World),(List.range n).countP (fun j=>(f j).isNone)=m→HeadInv .any l.toArray n listed →
   (∀i,i<n→listed.getD i true=(f i).isSome)→C f w →
   wpAny P .any l.toArray Q (m+(l.length-n)) listed (lexF f (l.take n) 0 a0) w:=by
 intro m
 induction m with
 | zero=>
  intro f listed w hm inv hl hC
  have hall:∀i,i<n→(f i).isSome=true:=fun i hi=>by
   have h1:=List.countP_eq_zero.1 hm i (List.mem_range.2 hi)
   cases hfi:f i with
   | none=>simp[hfi] at h1
   | some v=>rfl
  rw[Nat.zero_add]
  exact hend listed _ w inv (fun i hi=>by rw[hl i hi,hall i hi]) (hfin f w hC hall)
 | succ m ih=>
  intro f listed w hm inv hl hC
  have hex:∃i,i<n∧f i=none:=by
   have:0<(List.range n).countP (fun j=>(f j).isNone):=by omega
   obtain⟨i,hi,hfi⟩:=List.countP_pos_iff.1 this
   exact⟨i,List.mem_range.1 hi,by simpa using hfi⟩
  obtain⟨i0,hi0,hf0,hmin⟩:=first_none hex
  obtain⟨o0,ho0,hdep0,_,_⟩:=headG_spec hB hi0
  have hr0:i0 ∈ Region.ready .any l.toArray listed:=by
   refine mem_ready.2 ⟨by rw[hl i0 hi0,hf0];rfl,o0,by simpa using ho0,fun e he hb=>?_⟩
   have hlt:e.on<i0:=hdep0 e.on (List.mem_map.2 ⟨e,List.mem_filter.2 ⟨by simpa using he,hb⟩,rfl⟩)
   have h1:=hl e.on (by omega)
   have h2:(f e.on).isSome=true:=by
    have:=hmin e.on hlt
    cases hfe:f e.on with
    | none=>exact absurd hfe this
    | some v=>rfl
   rw[h2] at h1
   have hs:e.on<listed.size:=by rw[inv.size];simp;omega
   simp[hs] at h1 ⊢
   exact h1
  rw[show m+1+(l.length-n)=m+(l.length-n)+1 by omega]
  refine⟨fun h0=>(by rw[h0] at hr0;cases hr0),fun i hi=>?_⟩
  have hin:i<n:=by
   rcases Nat.lt_or_ge i n with h|h
   ·exact h
   ·exact absurd hi (hwait listed i0 inv hi0 (by rw[hl i0 hi0,hf0];rfl) i h)
  obtain⟨hun,oi,hoi,hall⟩:=mem_ready.1 hi
  have hfi:f i=none:=by
   rw[hl i hin] at hun
   simpa using hun
  obtain⟨oi',hoi',hdep,_,hlook⟩:=headG_spec hB hin
  have hoo:l[i]? = some oi:=by simpa using hoi
  obtain rfl:oi'=oi:=Option.some.inj (hoi'.symm.trans hoo)
  have hti:(l.take n)[i]? = some oi':=by rw[List.getElem?_take,if_pos hin];exact hoo
  have hdone:∀e ∈ deps oi',(f e).isSome=true:=fun e he=>by
   have hlt:=hdep e he
   have hen:e<n:=by omega
   obtain⟨ed,hed,rfl⟩:=List.mem_map.1 he
   obtain⟨hed,hb⟩:=List.mem_filter.1 hed
   have h1:=hall ed (by simpa using hed) hb
   have h2:=hl ed.on hen
   have hs:ed.on<listed.size:=by rw[inv.size];simp;omega
   simp only[Array.getD,hs,dite_true] at h1 h2
   rw[h1] at h2
   exact h2.symm
  have hgrow:=hop i oi' f w hin hoo hC hfi hdone
  have hnext:∀v w',C (upd f i v) w'→wpAny P .any l.toArray Q (m+(l.length-n)) (listed.setIfInBounds i true) ((lexF f (l.take n) 0 a0).put oi'.dst v) w':=by
   intro v w' hw'
   have hu:=lexF_upd (f:=f) (v:=v) (l.take n) 0 i a0 hti (by rw[Nat.zero_add];exact hfi) (fun p op hp hne t ht=>by
    have hpn:p<n:=by
     have:=(List.getElem?_eq_some_iff.1 hp).1
     simp at this;omega
    have hp':l[p]? = some op:=by rw[List.getElem?_take,if_pos hpn] at hp;exact hp
    intro hpt
    exact(hlook p op t hpn hp' hpt).1 hne ht)
   rw[Nat.zero_add] at hu
   rw[←hu]
   refine ih (upd f i v) (listed.setIfInBounds i true) w' ?_ (inv.set hi hin) ?_ hw'
   ·have:=count_upd v hfi (List.range n) List.nodup_range (List.mem_range.2 hin)
    omega
   ·intro j hj
    have hs:i<listed.size:=by rw[inv.size];simp;omega
    by_cases hji:j=i
    ·subst hji
     simp[upd,hs]
    ·rw[getD_set_ne true (Ne.symm hji),hl j hj]
     unfold upd;rw[if_neg hji]
  unfold wpOp
  simp only[hoi]
  rcases hgrow with ⟨hwant,hgrow⟩|⟨hwant,hskip⟩
  case inr=>
   rw[if_neg (by rw[hwant];exact Bool.false_ne_true)]
   exact hnext undef w hskip
  unfold genAt at hgrow
  rw[if_pos hwant]
  refine .inl ?_
  unfold Oper.wp
  generalize (execOp (lexF f (l.take n) 0 a0).eval oi').run P w=r at hgrow ⊢
  cases r with
  | ok nx w'=>
   cases nx <;> simp only[genUpon] at hgrow <;> simp only[Oper.upon]
   case value u=>exact hnext u w' hgrow
   case skip=>exact hnext undef w' hgrow
   case enter g args=>
    obtain⟨rfl,hc⟩:=hgrow
    exact hc.mono fun e w'' ⟨v,he,hv⟩=>by subst he;exact hnext v w'' hv
  | halt x w'=>simp only[genUpon] at hgrow
end
def blkOf:Value→Nat
 | .pointer (some a)=>a.block
 | .slice (some a) _ _=>a.block
 | _=>0
def intOf':Value→Int
 | .int _ n=>n
 | _=>0
def strOf:Value→ByteArray
 | .string t=>t
 | _=>⟨#[]⟩
inductive Spec where
 | V (u:(Nat→Value)→Value)
 | N (t:TypeId) (cs:(Nat→Value)→Array Value)
 | S (t:TypeId) (n:(Nat→Value)→Nat) (cs:(Nat→Value)→Array Value)
 | I (p:(Nat→Value)→Int→Prop)
 | B (p:(Nat→Value)→ByteArray→Prop)
 | U (g:Nat) (t:TypeId) (cs:Array Value) (cs':(Nat→Value)→Array Value)
 | W (h:Hl) (t:(Nat→Value)→Value→List Hl→Prop)
 | T (t:(Nat→Value)→Value→List Hl→Prop)
def Spec.val(s:Spec)(vs:Nat→Value)(k:Nat):Value:=match s with
 | V u=>u vs
 | N _ _ => .pointer (some ⟨blkOf (vs k),0,none⟩)
 | S _ n _ => .slice (some ⟨blkOf (vs k),0,none⟩) (n vs) (n vs)
 | I _ => .int .i64 (intOf' (vs k))
 | B _ => .string (strOf (vs k))
 | U _ _ _ _=>undef
 | W _ _=>vs k
 | T _=>vs k
def Spec.hls(s:Spec)(vs:Nat→Value)(Ls:Nat→List Hl)(k:Nat):List Hl:=match s with
 | V _=>[]
 | N t cs=>[Hl.blk (blkOf (vs k)) t (cs vs)]
 | S t _ cs=>[Hl.blk (blkOf (vs k)) t (cs vs)]
 | I _=>[]
 | B _=>[]
 | U g t _ cs'=>[Hl.blk g t (cs' vs)]
 | W _ _=>Ls k
 | T _=>Ls k
def Spec.ok(s:Spec)(vs:Nat→Value)(Ls:Nat→List Hl)(k:Nat):Prop:=match s with
 | T t=>t vs (vs k) (Ls k)
 | W _ t=>t vs (vs k) (Ls k)
 | I p=>p vs (intOf' (vs k))
 | B p=>p vs (strOf (vs k))
 | _=>True
def Spec.rel(s:Spec)(vs:Nat→Value):Value→List Hl→Prop:=match s with
 | V u=>tV (u vs)
 | N t cs=>tNew t (cs vs)
 | S t n cs=>tSl t (n vs) (cs vs)
 | I p=>tI (p vs)
 | B p=>tB (p vs)
 | U _ _ _ _=>fun _ _=>False
 | W _ _=>fun _ _=>False
 | T t=>t vs
def Spec.same(s:Spec)(vs vs':Nat→Value):Prop:=match s with
 | V u=>u vs=u vs'
 | N _ cs=>cs vs=cs vs'
 | S _ n cs=>n vs=n vs'∧cs vs=cs vs'
 | I p=>p vs=p vs'
 | B p=>p vs=p vs'
 | U _ _ _ cs'=>cs' vs=cs' vs'
 | W _ t=>t vs=t vs'
 | T t=>t vs=t vs'
def Spec.pre:Spec→List Hl
 | U g t cs _=>[Hl.blk g t cs]
 | W h _=>[h]
 | _=>[]
def pres:List Spec→List Hl
 | []=>[]
 | s::ss=>match s with
  | .U g t cs _=>Hl.blk g t cs::pres ss
  | .W h _=>h::pres ss
  | _=>pres ss
def maskOf(ms:List Nat)(o:Oper):Nat:=(deps o).foldl (fun m d=>m ||| ((1 <<< d) ||| ms.getD d 0)) 0
def masks:List Oper→List Nat→List Nat
 | [],ms=>ms
 | o::l,ms=>masks l (ms ++ [maskOf ms o])
def ancB(l:List Oper)(k j:Nat):Bool:=((masks l []).getD k 0).testBit j
def ancs(l:List Oper)(k:Nat):List Nat:=(List.range k).filter (ancB l k)
def spec(ss:List Spec)(k:Nat):Spec:=ss[k]?.getD (.V fun _=>undef)
theorem masks_pre:∀(l:List Oper) (ms:List Nat),∃r,masks l ms=ms++r
 | [],ms=>⟨[],by simp[masks]⟩
 | o::l,ms=>by
  obtain⟨r,h⟩:=masks_pre l (ms ++ [maskOf ms o])
  exact⟨maskOf ms o::r,by rw[masks,h,List.append_assoc];rfl⟩
theorem masks_at:∀(l:List Oper) (ms:List Nat) (i:Nat) (o:Oper),l[i]? = some o→(masks l ms)[ms.length+i]? = some (maskOf ((masks l ms).take (ms.length+i)) o)
 | [],_,_,_,h=>by simp at h
 | o::l,ms,0,o',h=>by
  have:o=o':=by simpa using h
  subst this
  obtain⟨r,h⟩:=masks_pre l (ms ++ [maskOf ms o])
  rw[masks,h]
  simp
 | o::l,ms,i+1,o',h=>by
  have:=masks_at l (ms ++ [maskOf ms o]) i o' (by simpa using h)
  rw[List.length_append,List.length_singleton] at this
  rw[masks,show ms.length+(i+1)=ms.length+1+i by omega]
  exact this
theorem maskOf_bit{ms:List Nat}{j:Nat}:∀(ds:List Nat) (m:Nat),(ds.foldl (fun m d=>m ||| ((1 <<< d) ||| ms.getD d 0)) m).testBit j=true→m.testBit j=true ∨ ∃d ∈ ds,d=j∨(ms.getD d 0).testBit j=true
 | [],m,h => .inl h
 | d::ds,m,h=>by
  rcases maskOf_bit ds _ h with h|⟨e,he,h⟩
  ·rw[Nat.testBit_or,Nat.testBit_or,Bool.or_eq_true,Bool.or_eq_true] at h
   rcases h with h|h|h
   ·exact .inl h
   ·refine .inr ⟨d,List.mem_cons_self ..,.inl ?_⟩
    rw[Nat.one_shiftLeft,Nat.testBit_two_pow] at h
    simpa using h
   ·exact .inr ⟨d,List.mem_cons_self ..,.inr h⟩
  ·exact .inr ⟨e,List.mem_cons_of_mem _ he,h⟩
theorem anc_closed{l:List Oper}{f:Nat→Option Value}(hf:∀i o,l[i]? = some o→(f i).isSome=true → ∀e ∈ deps o,(f e).isSome=true)
  (k:Nat) (o:Oper) (hk:l[k]? = some o) (hd:∀e ∈ deps o,(f e).isSome=true) (j:Nat) (h:ancB l k j=true):(f j).isSome=true:=by
 induction k using Nat.strongRecOn generalizing o with
 | _ k ih=>
  unfold ancB at h
  have ha:=masks_at l [] k o hk
  rw[List.length_nil,Nat.zero_add] at ha
  rw[List.getD_eq_getElem?_getD,ha,Option.getD_some] at h
  rcases maskOf_bit _ _ h with h|⟨d,hdm,h⟩
  ·simp at h
  ·rcases h with rfl|h
   ·exact hd d hdm
   ·have hdk:d<k:=by
     rcases Nat.lt_or_ge d k with h1|h1
     ·exact h1
     ·rw[List.getD_eq_getElem?_getD,List.getElem?_eq_none (by rw[List.length_take];omega)] at h
      simp at h
    rw[List.getD_eq_getElem?_getD,List.getElem?_take,if_pos hdk,←List.getD_eq_getElem?_getD] at h
    have hkl:=(List.getElem?_eq_some_iff.1 hk).1
    exact ih d hdk (l[d]'(by omega)) (List.getElem?_eq_getElem _) (hf d _ (List.getElem?_eq_getElem _) (hd d hdm)) h
theorem flatMap_sublist{α β:Type}(g:α→List β){l l':List α}(h:l.Sublist l'):(l.flatMap g).Sublist (l'.flatMap g):=by
 induction h with
 | slnil=>exact List.Sublist.refl _
 | cons a _ ih=>simp only[List.flatMap_cons];exact ih.trans (List.sublist_append_right _ _)
 | cons_cons a _ ih=>simp only[List.flatMap_cons];exact(List.Sublist.refl _).append ih
theorem flatMap_congr'{α β:Type}{g h:α→List β}{l:List α}(e:∀x ∈ l,g x=h x):l.flatMap g=l.flatMap h:=by
 induction l with
 | nil=>rfl
 | cons a l ih=>
  simp only[List.flatMap_cons]
  rw[e a (List.mem_cons_self ..),ih fun x hx=>e x (List.mem_cons_of_mem _ hx)]
theorem pres_eq:∀ss:List Spec,pres ss=ss.flatMap Spec.pre
 | []=>rfl
 | s::ss=>by
  rw[List.flatMap_cons,←pres_eq ss]
  cases s <;> rfl
theorem pres_range{ss:List Spec}{n:Nat}(h:ss.length≤n):(List.range n).flatMap (fun i=>(spec ss i).pre)=pres ss:=by
 rw[pres_eq]
 induction ss generalizing n with
 | nil=>
  have:∀l:List Nat,l.flatMap (fun i=>(spec [] i).pre) = []:=fun l=>by
   induction l with
   | nil=>rfl
   | cons a l ih=>rw[List.flatMap_cons,ih];rfl
  rw[this];rfl
 | cons s ss ih=>
  cases n with
  | zero=>simp at h
  | succ n=>
   rw[List.range_succ_eq_map,List.flatMap_cons,List.flatMap_cons,List.flatMap_map]
   have:=ih (n:=n) (by simpa using h)
   rw[←this]
   rfl
theorem flatMap_out{β:Type}{g:Nat→List β}{i:Nat}:∀(l:List Nat),l.Nodup→i ∈ l→(l.flatMap g).Perm (g i++(l.filter (fun j=>j != i)).flatMap g)
 | [],_,hi=>by simp at hi
 | a::l,hn,hi=>by
  have hn':=List.nodup_cons.1 hn
  by_cases ha:a=i
  ·subst ha
   have hz:l.filter (fun j=>j != a)=l:=List.filter_eq_self.2 fun x hx=>by
    have:x≠a:=fun e=>hn'.1 (e ▸ hx)
    simpa using this
   rw[List.filter_cons_of_neg (by simp),hz,List.flatMap_cons]
  ·have hil:i ∈ l:=by
    rcases List.mem_cons.1 hi with h|h
    ·exact absurd h.symm ha
    ·exact h
   rw[List.filter_cons_of_pos (by simpa using ha),List.flatMap_cons,List.flatMap_cons]
   exact((flatMap_out l hn'.2 hil).append_left (g a)).trans (List.perm_append_comm_assoc ..)
theorem flatMap_two{β:Type}{g h:Nat→List β}{i:Nat}:∀(l:List Nat),l.Nodup→i ∈ l→(∀j ∈ l,j≠i→h j=g j) → ∃N,(l.flatMap g).Perm (g i++N)∧(l.flatMap h).Perm (h i++N)
 | [],_,hi,_=>by simp at hi
 | a::l,hn,hi,he=>by
  have hn':=List.nodup_cons.1 hn
  simp only[List.flatMap_cons]
  by_cases ha:a=i
  ·subst ha
   have hz:l.flatMap h=l.flatMap g:=flatMap_congr' fun x hx=>he x (List.mem_cons_of_mem _ hx) (fun e=>hn'.1 (e ▸ hx))
   exact⟨l.flatMap g,List.Perm.refl _,by rw[hz]⟩
  ·have hil:i ∈ l:=by
    rcases List.mem_cons.1 hi with h|h
    ·exact absurd h.symm ha
    ·exact h
   obtain⟨N,h1,h2⟩:=flatMap_two l hn'.2 hil fun j hj=>he j (List.mem_cons_of_mem _ hj)
   refine⟨g a++N,?_,?_⟩
   ·exact (h1.append_left (g a)).trans (List.perm_append_comm_assoc ..)
   ·rw[he a (List.mem_cons_self ..) ha]
    exact(h2.append_left (g a)).trans (List.perm_append_comm_assoc ..)
section
variable {P:Program} {R:Nat→Prop} {w0 w:World} {L:List Hl} {a:Act} {Q:Exit→Act→World→Prop}
theorem Spec.congr{s:Spec}{vs vs':Nat→Value}{Ls Ls':Nat→List Hl}{k:Nat}(h:s.same vs vs')(hv:vs k=vs' k)(hL:Ls k=Ls' k):s.val vs k=s.val vs' k∧s.hls vs Ls k=s.hls vs' Ls' k∧(s.ok vs Ls k→s.ok vs' Ls' k):=by
 cases s <;> simp only[Spec.same] at h <;> simp only[Spec.val,Spec.hls,Spec.ok]
 case V=>exact⟨h,trivial,fun h=>h⟩
 case N=>exact⟨by rw[hv],by rw[hv,h],fun h=>h⟩
 case S=>exact⟨by rw[hv,h.1],by rw[hv,h.2],fun h=>h⟩
 case I=>exact⟨by rw[hv],trivial,fun hk=>by rw[←h,←hv];exact hk⟩
 case B=>exact⟨by rw[hv],trivial,fun hk=>by rw[←h,←hv];exact hk⟩
 case U=>exact⟨trivial,by rw[h],fun h=>h⟩
 case T=>exact⟨hv,hL,fun hk=>by rw[←h,←hv,←hL];exact hk⟩
 case W=>exact⟨hv,hL,fun hk=>by rw[←h,←hv,←hL];exact hk⟩
theorem Spec.take{s:Spec}{vs vs':Nat→Value}{v:Value}{M:List Hl}(h:s.rel vs v M)(hs:s.same vs vs')(k:Nat)(hv:vs' k=v){Ls:Nat→List Hl}(hL:Ls k=M):v=s.val vs' k∧M=s.hls vs' Ls k∧s.ok vs' Ls k:=by
 cases s <;> simp only[Spec.same] at hs <;> simp only[Spec.rel] at h <;> simp only[Spec.val,Spec.hls,Spec.ok]
 case V=>exact⟨h.1.trans hs,h.2,trivial⟩
 case N=>obtain⟨g,h1,h2⟩:=h;subst h1;rw[hv,←hs];exact⟨rfl,h2,trivial⟩
 case S=>obtain⟨g,h1,h2⟩:=h;subst h1;rw[hv,←hs.1,←hs.2];exact⟨rfl,h2,trivial⟩
 case I=>obtain⟨⟨n,h1,h2⟩,h3⟩:=h;subst h1;rw[hv,←hs];exact⟨rfl,h3,h2⟩
 case B=>obtain⟨⟨n,h1,h2⟩,h3⟩:=h;subst h1;rw[hv,←hs];exact⟨rfl,h3,h2⟩
 case T=>exact⟨hv.symm,hL.symm,by rw[hv,hL,←hs];exact h⟩
def vsf(f:Nat→Option Value):Nat→Value:=fun i=>(f i).getD undef
def RInv(l:List Oper)(n:Nat)(ss:List Spec)(R:Nat→Prop)(w0:World)(L:List Hl)(f:Nat→Option Value)(w:World):Prop:=
 ∃Ls:Nat→List Hl,(∀i,i<n→f i=none→Ls i=(spec ss i).pre)∧(∀i,(f i).isSome=true→i<n) ∧
  (∀i o,l[i]? = some o→(f i).isSome=true → ∀e ∈ deps o,(f e).isSome=true) ∧
  (∀i v,f i=some v→v=(spec ss i).val (vsf f) i∧Ls i=(spec ss i).hls (vsf f) Ls i∧(spec ss i).ok (vsf f) Ls i) ∧
  Hs R w0 ((List.range n).flatMap Ls++L) w
def Obl(P:Program)(K:List Hl)(R:Nat→Prop)(w0:World)(Lc:List Hl)(o:Oper)(a:Act)(s:Spec)(vs:Nat→Value):Prop:=match s with
 | .U g t cs cs'=>∀N w,Hs R w0 (Hl.blk g t cs::N) w → ∃w',(execOp a.eval o).run P w = .ok .skip w'∧Hs R w0 (Hl.blk g t (cs' vs)::N) w'
 | .W h t=>∀N w,Hs R w0 (h::N) w→Hs R w0 (h::Lc) w → ∃v M w',(execOp a.eval o).run P w = .ok (.value v) w'∧t vs v M∧Hs R w0 (M++N) w'
 | s=>∀w,Hs R w0 Lc w→OpOk P K o a w (s.rel vs)
def wpH(P:Program)(K:List Hl)(ops:List Oper)(R:Nat→Prop)(w0:World)(L:List Hl)(Rest:List Oper→Act→World→Prop)(ss:List Spec)(vs:Nat→Value)(Ls:Nat→List Hl):Nat→List Oper→Nat→List Hl→Act→Prop
 | 0,l,k,M,a=>(∀i,i<k→(spec ss i).ok vs Ls i) → ∀w,Hs R w0 (M++L) w→Rest l a w
 | _+1,[],_,_,_=>False
 | n+1,o::l,k,M,a=>((∀i,ancB ops k i=true→i<k→(spec ss i).ok vs Ls i)→(Region.wanted o (yielded ops.toArray a.tmps)=true∧Obl P K R w0 ((ancs ops k).flatMap (fun i=>(spec ss i).hls vs Ls i)++L) o a (spec ss k) vs)∨(Region.wanted o (yielded ops.toArray a.tmps)=false∧spec ss k = .V (fun _=>undef))) ∧
   wpH P K ops R w0 L Rest ss vs Ls n l (k+1) (M++(spec ss k).hls vs Ls k) (a.put o.dst ((spec ss k).val vs k))
theorem wpH_at{K:List Hl}{ops:List Oper}{Rest:List Oper→Act→World→Prop}{ss:List Spec}{vs:Nat→Value}{Ls:Nat→List Hl}:∀(n:Nat) (l:List Oper) (k j:Nat) (M:List Hl) (o:Oper) (a:Act),wpH P K ops R w0 L Rest ss vs Ls n l k M a→j<n→l[j]? = some o →
  (∀i,ancB ops (k+j) i=true→i<k+j→(spec ss i).ok vs Ls i)→(Region.wanted o (yielded ops.toArray (lexF (fun i=>some ((spec ss i).val vs i)) (l.take j) k a).tmps)=true∧Obl P K R w0 ((ancs ops (k+j)).flatMap (fun i=>(spec ss i).hls vs Ls i)++L) o (lexF (fun i=>some ((spec ss i).val vs i)) (l.take j) k a) (spec ss (k+j)) vs)∨(Region.wanted o (yielded ops.toArray (lexF (fun i=>some ((spec ss i).val vs i)) (l.take j) k a).tmps)=false∧spec ss (k+j) = .V (fun _=>undef))
 | 0,_,_,_,_,_,_,_,hj,_=>by omega
 | n+1,[],_,_,_,_,_,_,_,h=>by simp at h
 | n+1,o::l,k,0,_,o',a,h,_,ho=>by
  have:o=o':=by simpa using ho
  subst this
  exact h.1
 | n+1,o::l,k,j+1,_,o',a,h,hj,ho=>by
  have:=wpH_at n l (k+1) j _ o' _ h.2 (by omega) (by simpa using ho)
  rw[show k+(j+1)=k+1+j by omega]
  exact this
theorem wpH_end{K:List Hl}{ops:List Oper}{Rest:List Oper→Act→World→Prop}{ss:List Spec}{vs:Nat→Value}{Ls:Nat→List Hl}:∀(n:Nat) (l:List Oper) (k:Nat) (M:List Hl) (a:Act),wpH P K ops R w0 L Rest ss vs Ls n l k M a→n≤l.length →
  (∀i,i<k+n→(spec ss i).ok vs Ls i) → ∀w,Hs R w0 ((M++(List.range' k n).flatMap (fun i=>(spec ss i).hls vs Ls i))++L) w→Rest (l.drop n) (lexF (fun i=>some ((spec ss i).val vs i)) (l.take n) k a) w
 | 0,l,k,M,a,h,_=>fun h1 w h2=>by
  simp only[List.range'_zero,List.flatMap_nil,List.append_nil] at h2
  exact h h1 w h2
 | n+1,[],_,_,_,_,hl=>by simp at hl
 | n+1,o::l,k,M,a,h,hl=>fun h1 w h2=>by
  refine wpH_end n l (k+1) _ _ h.2 (by simpa using hl) (fun i hi=>h1 i (by omega)) w ?_
  rw[List.range'_succ,List.flatMap_cons,←List.append_assoc] at h2
  exact h2
theorem hsame1{l:List Oper}{n i:Nat}{o:Oper}{ss:List Spec}{f:Nat→Option Value}{a:Act}{t:Tmp}(hB:headG l n=true)(hin:i<n)(hoi:l[i]? = some o)
  (hf:∀j,(f j).isSome=true→f j=some ((spec ss j).val (vsf f) j)) (hd:∀e ∈ deps o,(f e).isSome=true) (hm:t ∈ o.looksAt l.toArray) :
  (lexF (fun j=>some ((spec ss j).val (vsf f) j)) (l.take i) 0 a).eval (.tmp t)=(lexF f (l.take n) 0 a).eval (.tmp t):=by
 obtain⟨o',ho',hdep,_,hlook⟩:=headG_spec hB hin
 obtain rfl:o'=o:=Option.some.inj (ho'.symm.trans hoi)
 have e1:(l.take i)=(l.take n).take i:=by rw[List.take_take,Nat.min_eq_left (by omega)]
 rw[e1,lexF_take]
 refine lexF_eval (l.take n) 0 a a rfl rfl fun j o hj ht=>?_
 have hjn:j<n:=by
  have:=(List.getElem?_eq_some_iff.1 hj).1
  simp at this;omega
 have hj':l[j]? = some o:=by rw[List.getElem?_take,if_pos hjn] at hj;exact hj
 have hdj:=(hlook j o t hjn hj' ht).2 hm
 rw[Nat.zero_add,if_pos (by have:=hdep j hdj;omega)]
 exact(hf j (hd j hdj)).symm
theorem hsame{l:List Oper}{n i:Nat}{o:Oper}{ss:List Spec}{f:Nat→Option Value}{a:Act}(hB:headG l n=true)(hsel:Region.noSelect l.toArray=true)(hin:i<n)(hoi:l[i]? = some o)
  (hf:∀j,(f j).isSome=true→f j=some ((spec ss j).val (vsf f) j)) (hd:∀e ∈ deps o,(f e).isSome=true) :
  execOp (lexF (fun j=>some ((spec ss j).val (vsf f) j)) (l.take i) 0 a).eval o=execOp (lexF f (l.take n) 0 a).eval o:=by
 refine execOp_congr o (fun cs b=>Region.noSelect_spec hsel i o cs b (by simpa using hoi)) fun x hx=>?_
 cases x with
 | tmp t=>exact hsame1 hB hin hoi hf hd (List.mem_append_left _ (List.mem_filterMap.2 ⟨.tmp t,by simpa using hx,rfl⟩))
 | _=>rfl
theorem hwant{l:List Oper}{n i:Nat}{o:Oper}{ss:List Spec}{f:Nat→Option Value}{a:Act}{z:Bool}(hB:headG l n=true)(hin:i<n)(hoi:l[i]? = some o)
  (hf:∀j,(f j).isSome=true→f j=some ((spec ss j).val (vsf f) j)) (hd:∀e ∈ deps o,(f e).isSome=true)
  (h:Region.wanted o (yielded l.toArray (lexF (fun j=>some ((spec ss j).val (vsf f) j)) (l.take i) 0 a).tmps)=z):Region.wanted o (yielded l.toArray (lexF f (l.take n) 0 a).tmps)=z:=by
 unfold Region.wanted at h ⊢
 cases hg:o.guard with
 | none=>rw[hg] at h;exact h
 | some g=>
  obtain⟨g,b⟩:=g
  rw[hg] at h
  simp only at h ⊢
  rw[yielded_eval] at h ⊢
  cases ht:(l.toArray[g]?).bind (·.dst) with
  | none=>rw[ht] at h;exact h
  | some t=>
   rw[ht] at h
   simp only at h ⊢
   have hm:t ∈ o.looksAt l.toArray:=by
    unfold Oper.looksAt
    refine List.mem_append_right _ ?_
    rw[hg]
    simp only[ht]
    simp
   rw[←hsame1 hB hin hoi hf hd hm]
   exact h
theorem RInv.step{K:List Hl}{l:List Oper}{n:Nat}{ss:List Spec}{a:Act}{Rest:List Oper→Act→World→Prop}(hB:headG l n=true)(hsel:Region.noSelect l.toArray=true)(hn:n≤l.length)(hK:∀k ∈ K,k ∈ L)
  (hloc:∀k vs vs',k<n→(∀i,ancB l k i=true→vs i=vs' i)→(spec ss k).same vs vs')
  (h:∀vs Ls,wpH P K l R w0 L Rest ss vs Ls n l 0 [] a) (i:Nat) (o:Oper) (f:Nat→Option Value) (w:World) (hin:i<n) (hoi:l[i]? = some o) (hC:RInv l n ss R w0 L f w) (hfi:f i=none) (hd:∀e ∈ deps o,(f e).isSome=true) :
  (Region.wanted o (yielded l.toArray (lexF f (l.take n) 0 a).tmps)=true∧genAt P o (lexF f (l.take n) 0 a) w (fun v w'=>RInv l n ss R w0 L (upd f i v) w'))∨(Region.wanted o (yielded l.toArray (lexF f (l.take n) 0 a).tmps)=false∧RInv l n ss R w0 L (upd f i undef) w):=by
 obtain⟨Ls,hE,hlt,hcl,hk,hs⟩:=hC
 have hcl':=anc_closed (f:=f) (l:=l) hcl
 have hanc:∀j,ancB l i j=true→(f j).isSome=true:=fun j hj=>hcl' i o hoi hd j hj
 have hf:∀j,(f j).isSome=true→f j=some ((spec ss j).val (vsf f) j):=fun j hj=>by
  obtain⟨v,hv⟩:=Option.isSome_iff_exists.1 hj
  rw[hv,← (hk j v hv).1]
 have hat:=wpH_at n l 0 i [] o a (h (vsf f) Ls) hin hoi (fun j hj _=>by
  rw[Nat.zero_add] at hj
  obtain⟨v,hv⟩:=Option.isSome_iff_exists.1 (hanc j hj)
  exact(hk j v hv).2.2)
 have hsub:Hs R w0 ((ancs l i).flatMap (fun i=>(spec ss i).hls (vsf f) Ls i)++L) w:=by
  refine hs.sub ((?_:List.Sublist _ _).append (List.Sublist.refl _))
  have e1:(ancs l i).flatMap (fun j=>(spec ss j).hls (vsf f) Ls j)=(ancs l i).flatMap Ls:=flatMap_congr' fun j hj=>by
   obtain⟨v,hv⟩:=Option.isSome_iff_exists.1 (hanc j (List.mem_filter.1 hj).2)
   exact(hk j v hv).2.1.symm
  rw[e1]
  refine flatMap_sublist Ls ((List.filter_sublist ..).trans ?_)
  exact List.range_sublist.2 (by omega)
 rw[Nat.zero_add] at hat
 -- the invariant behind the operation
 have hnext:∀v w' M,(∀vs',(∀e,ancB l i e=true→vsf f e=vs' e)→vs' i=v → ∀Ls',Ls' i=M→v=(spec ss i).val vs' i∧M=(spec ss i).hls vs' Ls' i∧(spec ss i).ok vs' Ls' i) →
   Hs R w0 ((List.range n).flatMap (fun j=>if j=i then M else Ls j)++L) w'→RInv l n ss R w0 L (upd f i v) w':=by
  intro v w' M hr hs'
  have hui:upd f i v i=some v:=by simp[upd]
  have huj:∀j,j≠i→upd f i v j=f j:=fun j hj=>by unfold upd;rw[if_neg hj]
  have hvj:∀j,j≠i→vsf (upd f i v) j=vsf f j:=fun j hj=>by unfold vsf;rw[huj j hj]
  have hvi:vsf (upd f i v) i=v:=by unfold vsf;rw[hui];rfl
  have hnanc:∀j o',l[j]? = some o'→(f j).isSome=true → ∀e,ancB l j e=true→e≠i:=fun j o' ho' hj e he hei=>by
   have:=hcl' j o' ho' (hcl j o' ho' hj) e he
   rw[hei,hfi] at this
   cases this
  have hself:∀e,ancB l i e=true→e≠i:=fun e he hei=>by
   have:=hanc e he
   rw[hei,hfi] at this
   cases this
  refine⟨fun j=>if j=i then M else Ls j,?_,?_,?_,?_,hs'⟩
  ·intro j hjn hj
   by_cases hji:j=i
   ·subst hji;rw[hui] at hj;cases hj
   ·rw[huj j hji] at hj;simp only[if_neg hji];exact hE j hjn hj
  ·intro j hj
   by_cases hji:j=i
   ·subst hji;exact hin
   ·rw[huj j hji] at hj;exact hlt j hj
  ·intro j o' ho' hj e he
   by_cases hei:e=i
   ·subst hei;rw[hui];rfl
   ·rw[huj e hei]
    by_cases hji:j=i
    ·subst hji
     obtain rfl:o=o':=Option.some.inj (hoi.symm.trans ho')
     exact hd e he
    ·rw[huj j hji] at hj
     exact hcl j o' ho' hj e he
  ·intro j u hu
   by_cases hji:j=i
   ·subst hji
    rw[hui] at hu
    obtain rfl:v=u:=Option.some.inj hu
    have:=hr (vsf (upd f j v)) (fun e he=>(hvj e (hself e he)).symm) hvi (fun x=>if x=j then M else Ls x) (by simp)
    exact⟨this.1,by simp only[if_true];exact this.2.1,this.2.2⟩
   ·rw[huj j hji] at hu
    have hjs:(f j).isSome=true:=by rw[hu];rfl
    have hjn:=hlt j hjs
    obtain⟨o',ho'⟩:∃o',l[j]? = some o':=⟨l[j]'(by omega),List.getElem?_eq_getElem (by omega)⟩
    obtain⟨h1,h2,h3⟩:=hk j u hu
    have:=Spec.congr (s:=spec ss j) (k:=j) (Ls:=Ls) (Ls':=fun x=>if x=i then M else Ls x) (hloc j (vsf f) (vsf (upd f i v)) hjn fun e he=>(hvj e (hnanc j o' ho' hjs e he)).symm) (hvj j hji).symm (by simp[hji])
    exact⟨h1.trans this.1,by rw[←this.2.1,←h2];simp[hji],this.2.2 h3⟩
 have hpre:=hE i hin hfi
 rcases hat with ⟨hwnt,hat⟩|⟨hwnt,hsp⟩
 case inr=>
  refine .inr ⟨hwant hB hin hoi hf hd hwnt,?_⟩
  rw[hsp] at hpre
  simp only[Spec.pre] at hpre
  refine hnext undef w [] (fun vs' _ _ Ls' _=>by rw[hsp];exact⟨rfl,rfl,trivial⟩) ?_
  have e2:(List.range n).flatMap (fun j=>if j=i then ([]:List Hl) else Ls j)=(List.range n).flatMap Ls:=flatMap_congr' fun j _=>by
   by_cases hj:j=i
   ·subst hj;rw[if_pos rfl,hpre]
   ·rw[if_neg hj]
  rw[e2]
  exact hs
 refine .inl ⟨hwant hB hin hoi hf hd hwnt,?_⟩
 unfold genAt
 have hKL:∀k ∈ K,k ∈ (List.range n).flatMap Ls++L:=fun k hk=>List.mem_append_right _ (hK k hk)
 have hsm:=hsame (a:=a) hB hsel hin hoi hf hd
 cases hsp:spec ss i with
 | U g t cs cs'=>
  rw[hsp] at hat hpre
  simp only[Obl] at hat
  simp only[Spec.pre] at hpre
  rw[hsm] at hat
  obtain⟨N,hp1,hp2⟩:=flatMap_two (g:=Ls) (h:=fun j=>if j=i then [Hl.blk g t (cs' (vsf f))] else Ls j) (List.range n) List.nodup_range (List.mem_range.2 hin) (fun j _ hj=>by simp[hj])
  rw[hpre] at hp1
  simp only[if_true] at hp2
  obtain⟨w',hr,hw'⟩:=hat (N++L) w (by
   have:=hs.perm (hp1.append_right L).symm
   simpa using this)
  rw[hr]
  simp only[genUpon]
  refine hnext undef w' [Hl.blk g t (cs' (vsf f))] (fun vs' hv' hvi Ls' hLs'=>?_) (hw'.perm (by
   have:=hp2.append_right L
   simpa using this))
  have hsm':=hloc i (vsf f) vs' hin hv'
  rw[hsp] at hsm' ⊢
  simp only[Spec.same] at hsm'
  exact⟨rfl,by simp only[Spec.hls];rw[hsm'],trivial⟩
 | W h t=>
  rw[hsp] at hat hpre
  simp only[Obl] at hat
  simp only[Spec.pre] at hpre
  rw[hsm] at hat
  have hself:∀e,ancB l i e=true→e≠i:=fun e he hei=>by
   have:=hanc e he
   rw[hei,hfi] at this
   cases this
  have hp1:=flatMap_out (g:=Ls) (i:=i) (List.range n) List.nodup_range (List.mem_range.2 hin)
  rw[hpre] at hp1
  have hs1:Hs R w0 (h::(((List.range n).filter (fun j=>j != i)).flatMap Ls++L)) w:=by
   have:=hs.perm (hp1.append_right L).symm
   simpa using this
  have hs2:Hs R w0 (h::((ancs l i).flatMap (fun j=>(spec ss j).hls (vsf f) Ls j)++L)) w:=by
   refine hs1.sub (List.Sublist.cons_cons _ ((?_:List.Sublist _ _).append (List.Sublist.refl _)))
   have e1:(ancs l i).flatMap (fun j=>(spec ss j).hls (vsf f) Ls j)=(ancs l i).flatMap Ls:=flatMap_congr' fun j hj=>by
    obtain⟨v,hv⟩:=Option.isSome_iff_exists.1 (hanc j (List.mem_filter.1 hj).2)
    exact(hk j v hv).2.1.symm
   rw[e1]
   refine flatMap_sublist Ls ?_
   have h3:(ancs l i).Sublist (List.range n):=(List.filter_sublist ..).trans (List.range_sublist.2 (by omega))
   have h4:=h3.filter (fun j=>j != i)
   rwa[List.filter_eq_self.2 fun x hx=>by
    have:=hself x (List.mem_filter.1 hx).2
    simpa using this] at h4
  obtain⟨v,M,w',hr,ht,hw'⟩:=hat _ w hs1 hs2
  rw[hr]
  simp only[genUpon]
  refine hnext v w' M (fun vs' hv' hvi Ls' hLs'=>?_) (hw'.perm ?_)
  ·have hsm':=hloc i (vsf f) vs' hin hv'
   rw[hsp] at hsm' ⊢
   simp only[Spec.same] at hsm'
   exact⟨by simp only[Spec.val];exact hvi.symm,by simp only[Spec.hls];exact hLs'.symm,by simp only[Spec.ok];rw[hvi,hLs',←hsm'];exact ht⟩
  ·have hp2:=flatMap_out (g:=fun j=>if j=i then M else Ls j) (i:=i) (List.range n) List.nodup_range (List.mem_range.2 hin)
   have e2:((List.range n).filter (fun j=>j != i)).flatMap (fun j=>if j=i then M else Ls j)=((List.range n).filter (fun j=>j != i)).flatMap Ls:=flatMap_congr' fun j hj=>by
    have:j≠i:=by simpa using (List.mem_filter.1 hj).2
    simp only[if_neg this]
   rw[e2] at hp2
   simp only[if_true] at hp2
   have h5:=hp2.append_right L
   rw[List.append_assoc] at h5
   exact h5
 | _=>
  rw[hsp] at hat hpre
  simp only[Obl] at hat
  simp only[Spec.pre] at hpre
  have hat:=hat w hsub
  unfold OpOk at hat
  rw[hsm] at hat
  have hnext':∀v w' M,(spec ss i).rel (vsf f) v M→Hs R w0 (M++((List.range n).flatMap Ls++L)) w'→RInv l n ss R w0 L (upd f i v) w':=fun v w' M hr hs'=>by
   refine hnext v w' M (fun vs' hv' hvi Ls' hLs'=>Spec.take hr (hloc i (vsf f) vs' hin hv') i hvi hLs') (hs'.perm ?_)
   obtain⟨N,hp1,hp2⟩:=flatMap_two (g:=Ls) (h:=fun j=>if j=i then M else Ls j) (List.range n) List.nodup_range (List.mem_range.2 hin) (fun j _ hj=>by simp[hj])
   rw[hpre] at hp1
   simp only[if_true] at hp2
   rw[←List.append_assoc]
   refine List.Perm.append_right L (hp2.trans ?_)
   exact(hp1.symm.append_left M)
  rw[hsp] at hnext'
  generalize (execOp (lexF f (l.take n) 0 a).eval o).run P w=r at hat ⊢
  cases r with
  | ok nx w'=>
   cases nx <;> simp only[okUpon] at hat <;> simp only[genUpon]
   case value u=>obtain⟨M,h1,h2⟩:=hat;exact hnext' u w' M h1 (hs.moreK hKL h2)
   case skip=>obtain⟨M,h1,h2⟩:=hat;exact hnext' undef w' M h1 (hs.moreK hKL h2)
   case enter g args=>
    obtain⟨rfl,hc⟩:=hat
    exact⟨rfl,hc.mono fun e w'' ⟨v,M,he,h1,h2⟩=>⟨v,he,hnext' v w'' M h1 (hs.moreK hKL h2)⟩⟩
  | halt x w'=>simp only[okUpon] at hat
theorem RInv.start{l:List Oper}{n:Nat}{ss:List Spec}(H:Hs R w0 ((List.range n).flatMap (fun i=>(spec ss i).pre)++L) w):RInv l n ss R w0 L (fun _=>none) w.drew:=
 ⟨fun i=>(spec ss i).pre,fun _ _ _=>rfl,fun _ h=>by simp at h,fun _ _ _ h=>by simp at h,fun _ _ h=>by simp at h,H.drew⟩
theorem RInv.fin{K:List Hl}{l:List Oper}{n:Nat}{ss:List Spec}{Rest:List Oper→Act→World→Prop}(hn:n≤l.length)(h:∀vs Ls,wpH P K l R w0 L Rest ss vs Ls n l 0 [] a)(f:Nat→Option Value)(w:World)
  (hC:RInv l n ss R w0 L f w) (hall:∀i,i<n→(f i).isSome=true):Rest (l.drop n) (lexF f (l.take n) 0 a) w:=by
 obtain⟨Ls,hE,hlt,hcl,hk,hs⟩:=hC
 have hf:∀j,j<n→f j=some ((spec ss j).val (vsf f) j):=fun j hj=>by
  obtain⟨v,hv⟩:=Option.isSome_iff_exists.1 (hall j hj)
  rw[hv,← (hk j v hv).1]
 have:=wpH_end n l 0 [] a (h (vsf f) Ls) hn (fun i hi=>by
  obtain⟨v,hv⟩:=Option.isSome_iff_exists.1 (hall i (by omega))
  exact(hk i v hv).2.2) w (by
   rw[List.nil_append,←List.range_eq_range']
   have e1:(List.range n).flatMap (fun j=>(spec ss j).hls (vsf f) Ls j)=(List.range n).flatMap Ls:=flatMap_congr' fun j hj=>by
    obtain⟨v,hv⟩:=Option.isSome_iff_exists.1 (hall j (List.mem_range.1 hj))
    exact(hk j v hv).2.1.symm
   rw[e1]
   exact hs)
 rw[lexF_same (f:=f) (g:=fun j=>some ((spec ss j).val (vsf f) j)) (l.take n) 0 a fun j hj=>by
  rw[Nat.zero_add];exact hf j (by simp at hj;omega)]
 exact this
def invG(l:List Oper)(n:Nat):Bool:=
 headG l n&&Region.noSelect l.toArray&&decide (n<l.length)&&Region.sinkB .any l.toArray n&&Region.chainB .any l.toArray n&&Region.seqB .any l.toArray (l.length-n) n (List.replicate n true++List.replicate (l.length-n) false).toArray
def invAllG(l:List Oper):Bool:=headG l l.length&&Region.noSelect l.toArray
theorem wp_region_hs{K:List Hl}{id:Nat}{l:List Oper}(ss:List Spec)(n:Nat)(H:Hs R w0 (pres ss++L) w)(hss:Nat.ble ss.length n=true)(hK:∀k ∈ K,k ∈ L)(hm:P.follows .mixedOrders=true)(hB:invG l n=true)
  (h:∀vs Ls,wpH P K l R w0 L (wpList P l.toArray Q) ss vs Ls n l 0 [] a)
  (hloc:∀k vs vs',k<n→(∀i,ancB l k i=true→vs i=vs' i)→(spec ss k).same vs vs'):(Code.region id l.toArray true).wp P Q a w:=by
 simp only[invG,Bool.and_eq_true,decide_eq_true_eq] at hB
 obtain⟨⟨⟨⟨⟨h1,h2⟩,h3⟩,h4⟩,h5⟩,h6⟩:=hB
 refine wp_region_any hm ?_
 have hsz:l.toArray.size=n+(l.length-n):=by simp;omega
 have:=wpAny_gen2 (Q:=Q) (a0:=a) (C:=RInv l n ss R w0 L) h1 (by omega) (fun listed i inv hi hun=>tail_waits h4 h5 (by simpa using h3) inv _ i rfl hi hun)
  (fun listed a w inv hall hl=>by
   have:=wpAny_of_seq (md := .any) (Q':=Q) (l.drop n) n listed a w (fun j=>by simp[List.getElem?_drop]) (by rw[listed_eq inv hall (by omega),List.length_drop];exact h6) hl
   rwa[List.length_drop] at this)
  (fun i o f w hin hoi hC hfi hd=>RInv.step h1 h2 (by omega) hK hloc h i o f w hin hoi hC hfi hd)
  (fun f w hC hall=>RInv.fin (by omega) h f w hC hall)
  n (fun _=>none) (Array.replicate l.toArray.size false) { w with drawn:=w.drawn+1 } (by simp) (inv0 l n) (fun i hi=>getD_in (by simp;omega) (getD_replicate_false _ _)) (RInv.start ((pres_range (Nat.le_of_ble_eq_true hss)).symm ▸ H))
 rw[hsz,←hsz]
 rw[hsz]
 have hz:lexF (fun _=>none) (l.take n) 0 a=a:=by
  have:=lexF_take (f:=fun _=>none) (l.take n) 0 0 a
  simp[lexF] at this
  exact this.symm
 rw[hz] at this
 rw[hsz] at this
 exact this
theorem wp_region_hss{K:List Hl}{id:Nat}{l:List Oper}(ss:List Spec)(n:Nat)(hl:l.length=n)(H:Hs R w0 (pres ss++L) w)(hss:Nat.ble ss.length n=true)(hK:∀k ∈ K,k ∈ L)(hm:P.follows .mixedOrders=true)(hB:invAllG l=true)
  (h:∀vs Ls,wpH P K l R w0 L (fun _ a w=>Q .normal a w) ss vs Ls n l 0 [] a)
  (hloc:∀k vs vs',k<n→(∀i,ancB l k i=true→vs i=vs' i)→(spec ss k).same vs vs'):(Code.region id l.toArray true).wp P Q a w:=by
 subst hl
 simp only[invAllG,Bool.and_eq_true] at hB
 obtain⟨h1,h2⟩:=hB
 refine wp_region_any hm ?_
 have hout:∀listed t,l.length≤t→t ∉ Region.ready .any l.toArray listed:=fun listed t ht hr=>by
  obtain⟨_,o,ho,_⟩:=mem_ready.1 hr
  have:=(Array.getElem?_eq_some_iff.1 ho).1
  simp at this;omega
 have:=wpAny_gen2 (Q:=Q) (a0:=a) (n:=l.length) (C:=RInv l l.length ss R w0 L) h1 (Nat.le_refl _) (fun listed i _ _ _ t ht=>hout listed t ht)
  (fun listed a w inv hall hl=>by
   rw[Nat.sub_self]
   refine⟨?_,by simpa [wpList] using hl⟩
   cases hr:Region.ready .any l.toArray listed with
   | nil=>rfl
   | cons i r=>
    have hi:i ∈ Region.ready .any l.toArray listed:=by rw[hr];simp
    have h3:=(mem_ready.1 hi).1
    rcases Nat.lt_or_ge i l.length with h|h
    ·rw[hall i h] at h3;cases h3
    ·exact absurd hi (hout listed i h))
  (fun i o f w hin hoi hC hfi hd=>RInv.step h1 h2 (Nat.le_refl _) hK hloc h i o f w hin hoi hC hfi hd)
  (fun f w hC hall=>by
   have:=RInv.fin (Nat.le_refl _) h f w hC hall
   simpa [wpList] using this)
  l.length (fun _=>none) (Array.replicate l.toArray.size false) { w with drawn:=w.drawn+1 } (by simp) (inv0 l _) (fun i hi=>getD_in (by simp;omega) (getD_replicate_false _ _)) (RInv.start ((pres_range (Nat.le_of_ble_eq_true hss)).symm ▸ H))
 have hz:lexF (fun _=>none) (l.take l.length) 0 a=a:=by
  have:=lexF_take (f:=fun _=>none) (l.take l.length) 0 0 a
  simp[lexF] at this
  simpa using this.symm
 rw[hz,Nat.sub_self,Nat.add_zero] at this
 simpa using this
theorem all_lt_succ{p:Nat→Prop}{n:Nat}(h0:∀k,k<n→p k)(h1:p n):∀k,k<n+1→p k:=fun k hk=>by
 rcases Nat.lt_or_eq_of_le (Nat.lt_succ_iff.1 hk) with h|h
 ·exact h0 k h
 ·subst h;exact h1
theorem locs{l:List Oper}{n:Nat}{ss:List Spec}(h:∀vs vs' k,k<n→(∀i,ancB l k i=true→vs i=vs' i)→(spec ss k).same vs vs'):∀k vs vs',k<n→(∀i,ancB l k i=true→vs i=vs' i)→(spec ss k).same vs vs':=fun k vs vs'=>h vs vs' k
section
variable {K:List Hl} {ops l:List Oper} {Rest:List Oper→Act→World→Prop} {ss:List Spec} {vs:Nat→Value} {Ls:Nat→List Hl} {n k:Nat} {M:List Hl} {o:Oper} {a:Act}
theorem wpH_V{u:(Nat→Value)→Value}(e:spec ss k = .V u)(hw:Region.wanted o (yielded ops.toArray a.tmps)=true)(h1:∀w,Hs R w0 L w→OpOk P K o a w (tV (u vs)))(h2:wpH P K ops R w0 L Rest ss vs Ls n l (k+1) M (a.put o.dst (u vs))):
  wpH P K ops R w0 L Rest ss vs Ls (n+1) (o::l) k M a:=by
 refine⟨fun _ => .inl ⟨hw,?_⟩,?_⟩
 ·rw[e];exact fun w h=>h1 w (h.sub (List.sublist_append_right _ _))
 ·rw[e];simp only[Spec.hls,Spec.val,List.append_nil];exact h2
theorem wpH_N{t:TypeId}{cs:(Nat→Value)→Array Value}(e:spec ss k = .N t cs)(hw:Region.wanted o (yielded ops.toArray a.tmps)=true)(h1:∀w,Hs R w0 L w→OpOk P K o a w (tNew t (cs vs)))
  (h2:∀g,g=blkOf (vs k)→wpH P K ops R w0 L Rest ss vs Ls n l (k+1) (M ++ [Hl.blk g t (cs vs)]) (a.put o.dst (.pointer (some ⟨g,0,none⟩)))) :
  wpH P K ops R w0 L Rest ss vs Ls (n+1) (o::l) k M a:=by
 refine⟨fun _ => .inl ⟨hw,?_⟩,?_⟩
 ·rw[e];exact fun w h=>h1 w (h.sub (List.sublist_append_right _ _))
 ·rw[e];simp only[Spec.hls,Spec.val];exact h2 _ rfl
theorem wpH_S{t:TypeId}{m:(Nat→Value)→Nat}{cs:(Nat→Value)→Array Value}(e:spec ss k = .S t m cs)(hw:Region.wanted o (yielded ops.toArray a.tmps)=true)(h1:(∀i,ancB ops k i=true→i<k→(spec ss i).ok vs Ls i) → ∀w,Hs R w0 L w→OpOk P K o a w (tSl t (m vs) (cs vs)))
  (h2:∀g,g=blkOf (vs k)→wpH P K ops R w0 L Rest ss vs Ls n l (k+1) (M ++ [Hl.blk g t (cs vs)]) (a.put o.dst (.slice (some ⟨g,0,none⟩) (m vs) (m vs)))) :
  wpH P K ops R w0 L Rest ss vs Ls (n+1) (o::l) k M a:=by
 refine⟨fun hok => .inl ⟨hw,?_⟩,?_⟩
 ·rw[e];exact fun w h=>h1 hok w (h.sub (List.sublist_append_right _ _))
 ·rw[e];simp only[Spec.hls,Spec.val];exact h2 _ rfl
theorem wpH_T{t:(Nat→Value)→Value→List Hl→Prop}(e:spec ss k = .T t)(hw:Region.wanted o (yielded ops.toArray a.tmps)=true)(h1:(∀i,ancB ops k i=true→i<k→(spec ss i).ok vs Ls i) → ∀w,Hs R w0 L w→OpOk P K o a w (t vs))
  (h2:wpH P K ops R w0 L Rest ss vs Ls n l (k+1) (M++Ls k) (a.put o.dst (vs k))) :
  wpH P K ops R w0 L Rest ss vs Ls (n+1) (o::l) k M a:=by
 refine⟨fun hok => .inl ⟨hw,?_⟩,?_⟩
 ·rw[e];exact fun w h=>h1 hok w (h.sub (List.sublist_append_right _ _))
 ·rw[e];simp only[Spec.hls,Spec.val];exact h2
theorem wpH_VK{u:(Nat→Value)→Value}(e:spec ss k = .V u)(hw:Region.wanted o (yielded ops.toArray a.tmps)=true)(h1:(∀i,ancB ops k i=true→i<k→(spec ss i).ok vs Ls i) → ∀w,Hs R w0 L w→OpOk P K o a w (tV (u vs)))(h2:wpH P K ops R w0 L Rest ss vs Ls n l (k+1) M (a.put o.dst (u vs))):
  wpH P K ops R w0 L Rest ss vs Ls (n+1) (o::l) k M a:=by
 refine⟨fun hok => .inl ⟨hw,?_⟩,?_⟩
 ·rw[e];exact fun w h=>h1 hok w (h.sub (List.sublist_append_right _ _))
 ·rw[e];simp only[Spec.hls,Spec.val,List.append_nil];exact h2
theorem wpH_D{u:(Nat→Value)→Value}(j:Nat)(e:spec ss k = .V u)(hw:Region.wanted o (yielded ops.toArray a.tmps)=true)(hj:ancB ops k j=true)(hjk:j<k)
  (h1:(spec ss j).ok vs Ls j → ∀w,Hs R w0 ((spec ss j).hls vs Ls j++L) w→OpOk P K o a w (tV (u vs))) (h2:wpH P K ops R w0 L Rest ss vs Ls n l (k+1) M (a.put o.dst (u vs))) :
  wpH P K ops R w0 L Rest ss vs Ls (n+1) (o::l) k M a:=by
 refine⟨fun hok => .inl ⟨hw,?_⟩,?_⟩
 ·rw[e]
  intro w h
  refine h1 (hok j hj hjk) w (h.sub ((?_:List.Sublist _ _).append (List.Sublist.refl _)))
  have hm : [j].Sublist (ancs ops k):=List.singleton_sublist.2 (List.mem_filter.2 ⟨List.mem_range.2 hjk,hj⟩)
  have:=flatMap_sublist (fun i=>(spec ss i).hls vs Ls i) hm
  simpa using this
 ·rw[e];simp only[Spec.hls,Spec.val,List.append_nil];exact h2
theorem wpH_E{u:(Nat→Value)→Value}{t:(Nat→Value)→Value→List Hl→Prop}(j:Nat)(e:spec ss k = .V u)(ej:spec ss j = .T t)(hw:Region.wanted o (yielded ops.toArray a.tmps)=true)(hj:ancB ops k j=true)(hjk:j<k)
  (h1:t vs (vs j) (Ls j) → ∀w,Hs R w0 (Ls j++L) w→OpOk P K o a w (tV (u vs))) (h2:wpH P K ops R w0 L Rest ss vs Ls n l (k+1) M (a.put o.dst (u vs))) :
  wpH P K ops R w0 L Rest ss vs Ls (n+1) (o::l) k M a:=
 wpH_D j e hw hj hjk (by rw[ej];exact h1) h2
theorem okT{t:(Nat→Value)→Value→List Hl→Prop}(h:(spec ss k).ok vs Ls k)(e:spec ss k = .T t):t vs (vs k) (Ls k):=by rw[e] at h;exact h
theorem wpH_skip(e:spec ss k = .V (fun _=>undef))(hw:Region.wanted o (yielded ops.toArray a.tmps)=false)(h2:wpH P K ops R w0 L Rest ss vs Ls n l (k+1) M (a.put o.dst undef)):
  wpH P K ops R w0 L Rest ss vs Ls (n+1) (o::l) k M a:=by
 refine⟨fun _ => .inr ⟨hw,e⟩,?_⟩
 rw[e];simp only[Spec.hls,Spec.val,List.append_nil];exact h2
theorem wpH_0(h:(∀i,i<k→(spec ss i).ok vs Ls i) → ∀w,Hs R w0 (M++L) w→Rest l a w):wpH P K ops R w0 L Rest ss vs Ls 0 l k M a:=h
end
end
end Go.Proofs.YtcabgibdkmgdlaaGreat
namespace Go.Proofs.YtcabgibdkmgdlaaGreat
open Go.RowKit
def aggT(P:Program)(T:TypeId):Option Bool:=(P.underlying T).map fun | .struct _=>true | .array _ _=>true|_=>false
def sizeT(P:Program)(T:TypeId):Option Nat:=(P.info? T).map (·.size)
def splice(cs:Array Value)(off:Nat)(vs:List Value):Array Value:=(cs.toList.take off++vs++cs.toList.drop (off+vs.length)).toArray
section
variable {P:Program} {R:Nat→Prop} {w0 w:World} {L M:List Hl} {a:Act} {ops:Array Oper} {Q:Exit→Act→World→Prop} {rest:List Oper}
variable {K:List Hl} {dst:Option Tmp} {T ty:TypeId} {x y:Operand} {pos:String} {aft:Array Edge} {gd:Option (Nat × Bool)}
theorem cells_agg(l:List Value):(Value.agg l.toArray).cells.toList=l:=rfl
theorem isAgg_run{b:Bool}(h:aggT P T=some b)(w:World):(isAgg T).run P w = .ok b w:=by
 unfold aggT at h
 cases hu:P.underlying T with
 | none=>rw[hu] at h;cases h
 | some d=>
  rw[hu] at h
  unfold isAgg
  rw[Sem.run_bind,run_underlying hu w]
  cases d <;> simp_all
theorem sizeOf_run{n:Nat}(h:sizeT P T=some n)(w:World):(Go.sizeOf T).run P w = .ok n w:=by
 unfold sizeT at h
 cases hi:P.info? T with
 | none=>rw[hi] at h;cases h
 | some i=>
  rw[hi] at h
  have:i.size=n:=by simpa using h
  simp[Go.sizeOf,typeInfo,hi,this]
theorem run_load1{p:Addr}{v:Value}(hT:aggT P T=some false)(hc:w.cell? p=some v):(loadVar T p).run P w = .ok v w:=by
 simp[loadVar,Sem.run_bind,isAgg_run hT,load,Sem.run,hc]
theorem run_loadn{g off n:Nat}{vs:List Value}(hT:aggT P T=some true)(hn:sizeT P T=some n)(hl:vs.length=n)(hc:∀j u,vs[j]? = some u→w.cell? ⟨g,off+j,none⟩=some u):
  (loadVar T ⟨g,off,none⟩).run P w = .ok (.agg vs.toArray) w:=by
 have h:=run_loadCells_list (P:=P) w ⟨g,off,none⟩ vs (fun j v hv=>by rw[Addr.add_lit];exact hc j v hv)
 rw[hl] at h
 simp[loadVar,Sem.run_bind,isAgg_run hT,sizeOf_run hn,h]
theorem ok_load1{p:Addr}{v:Value}(hx:a.eval x = .pointer (some p))(hT:aggT P T=some false)(hc:w.cell? p=some v):OpOk P K ⟨dst,.load T x,ty,pos,aft,gd⟩ a w (tV v):=by
 unfold OpOk execOp
 simp only[hx,Instr.loadAt,Instr.sureAddr,Sem.run_bind,Sem.run_pure,Result.andThen_ok,run_load1 hT hc]
 exact now_v
theorem ok_loadn{g off n:Nat}{vs:List Value}(hx:a.eval x = .pointer (some ⟨g,off,none⟩))(hT:aggT P T=some true)(hn:sizeT P T=some n)(hl:vs.length=n)(hc:∀j u,vs[j]? = some u→w.cell? ⟨g,off+j,none⟩=some u):
  OpOk P K ⟨dst,.load T x,ty,pos,aft,gd⟩ a w (tV (.agg vs.toArray)):=by
 unfold OpOk execOp
 simp only[hx,Instr.loadAt,Instr.sureAddr,Sem.run_bind,Sem.run_pure,Result.andThen_ok,run_loadn hT hn hl hc]
 exact now_v
theorem seg_get{cs:Array Value}{off n:Nat}{j:Nat}{u:Value}(h:((cs.toList.drop off).take n)[j]? = some u):cs[off+j]? = some u:=by
 rw[List.getElem?_take] at h
 split at h
 ·rw[List.getElem?_drop] at h;simpa using h
 ·cases h
theorem ok_loads{g off n:Nat}{t:TypeId}{cs:Array Value}(hx:a.eval x = .pointer (some ⟨g,off,none⟩))(hT:aggT P T=some true)(H:Hs R w0 L w)(i:In (Hl.blk g t cs) L)(hn:sizeT P T=some n)(hl:((cs.toList.drop off).take n).length=n):
  OpOk P K ⟨dst,.load T x,ty,pos,aft,gd⟩ a w (tV (.agg ((cs.toList.drop off).take n).toArray)):=
 ok_loadn hx hT hn hl fun j u hu=>H.cell i (seg_get hu)
theorem st_v{o:Oper}{v:Value}(H:Hs R w0 L w)(hg:o.guard=none)(h:OpOk P [] o a w (tV v))(k:∀w',Hs R w0 L w'→wpList P ops Q rest (a.put o.dst v) w'):wpList P ops Q (o::rest) a w:=
 st_op H hg (by simp) h fun u M w' ⟨h1,h2⟩ H'=>by subst h1 h2;exact k w' H'
theorem st_load1{p:Addr}{v:Value}(H:Hs R w0 L w)(hT:aggT P T=some false)(hx:a.eval x = .pointer (some p))(hc:w.cell? p=some v)
  (k:∀w',Hs R w0 L w'→wpList P ops Q rest (a.put dst v) w'):wpList P ops Q (⟨dst,.load T x,ty,pos,aft,none⟩::rest) a w:=
 st_v H rfl (ok_load1 hx hT hc) k
theorem st_loads{g off n:Nat}{t:TypeId}{cs:Array Value}(H:Hs R w0 L w)(hT:aggT P T=some true)(hx:a.eval x = .pointer (some ⟨g,off,none⟩))(i:In (Hl.blk g t cs) L)(hn:sizeT P T=some n)(hl:((cs.toList.drop off).take n).length=n)
  (k:∀w',Hs R w0 L w'→wpList P ops Q rest (a.put dst (.agg ((cs.toList.drop off).take n).toArray)) w'):wpList P ops Q (⟨dst,.load T x,ty,pos,aft,none⟩::rest) a w:=
 st_v H rfl (ok_loads hx hT H i hn hl) k
theorem st_loadn{g off n:Nat}{vs:List Value}(H:Hs R w0 L w)(hT:aggT P T=some true)(hx:a.eval x = .pointer (some ⟨g,off,none⟩))(hn:sizeT P T=some n)(hl:vs.length=n)(hc:∀j u,vs[j]? = some u→w.cell? ⟨g,off+j,none⟩=some u)
  (k:∀w',Hs R w0 L w'→wpList P ops Q rest (a.put dst (.agg vs.toArray)) w'):wpList P ops Q (⟨dst,.load T x,ty,pos,aft,none⟩::rest) a w:=
 st_v H rfl (ok_loadn hx hT hn hl hc) k
theorem st_box{t:TypeId}{cs:Array Value}(H:Hs R w0 L w)(h:OpOk P [] ⟨dst,.box T x,ty,pos,aft,none⟩ a w (tNew t cs))
  (k:∀g w',Hs R w0 (Hl.blk g t cs::L) w'→wpList P ops Q rest (a.put dst (.pointer (some ⟨g,0,none⟩))) w'):wpList P ops Q (⟨dst,.box T x,ty,pos,aft,none⟩::rest) a w:=
 st_op H rfl (by simp) h fun u M w' ⟨g,h1,h2⟩ H'=>by subst h1 h2;exact k g w' H'
theorem st_alloc{t:TypeId}{cs:Array Value}(H:Hs R w0 L w)(h:OpOk P [] ⟨dst,.alloc T,ty,pos,aft,none⟩ a w (tNew t cs))
  (k:∀g w',Hs R w0 (Hl.blk g t cs::L) w'→wpList P ops Q rest (a.put dst (.pointer (some ⟨g,0,none⟩))) w'):wpList P ops Q (⟨dst,.alloc T,ty,pos,aft,none⟩::rest) a w:=
 st_op H rfl (by simp) h fun u M w' ⟨g,h1,h2⟩ H'=>by subst h1 h2;exact k g w' H'
theorem st_bslice{t:TypeId}{cs:Array Value}{len n:Nat}{parts:Array (Nat × Operand)}(H:Hs R w0 L w)(h:OpOk P [] ⟨dst,.buildSlice T len parts,ty,pos,aft,none⟩ a w (tSl t n cs))
  (k:∀g w',Hs R w0 (Hl.blk g t cs::L) w'→wpList P ops Q rest (a.put dst (.slice (some ⟨g,0,none⟩) n n)) w'):wpList P ops Q (⟨dst,.buildSlice T len parts,ty,pos,aft,none⟩::rest) a w:=
 st_op H rfl (by simp) h fun u M w' ⟨g,h1,h2⟩ H'=>by subst h1 h2;exact k g w' H'
theorem run_store{g off:Nat}{t:TypeId}{cs:Array Value}{v:Value}(hn:sizeT P T=some v.cells.size)(hb:Blk w g t cs)(hl:off+v.cells.size≤cs.size)(h1:v.cells.toList.all (·.oneCell')=true):
  (storeVar T ⟨g,off,none⟩ v).run P w = .ok () (w.setRow g (splice cs off v.cells.toList)):=by
 have:=run_storeCells_at P g off t v.cells.toList 0 cs w hb (by simpa using hl) (fun u hu=>List.all_eq_true.1 h1 u hu)
 simp[storeVar,sizeOf_run hn,this,splice]
theorem Grow.setRow(w:World)(g:Nat)(cs:Array Value):Grow (· = g) w (w.setRow g cs):=
 ⟨rfl,rfl,rfl,by simp,fun k _ hk=>setRow_other w g k cs hk⟩
theorem Upd.inL{h h':Hl}(u:Upd h h' L M):In h L:=by
 induction u with
 | here=>exact In.here
 | there _ ih=>exact In.there ih
theorem st_store{g off:Nat}{t:TypeId}{cs:Array Value}{v:Value}{vs:List Value}(H:Hs R w0 L w)(hx:a.eval x = .pointer (some ⟨g,off,none⟩))(hy:a.eval y=v)(hv:v.cells.toList=vs)
  (u:Upd (Hl.blk g t cs) (Hl.blk g t (splice cs off vs)) L M) (hn:sizeT P T=some vs.length) (hl:off+vs.length≤cs.size) (h1:vs.all (·.oneCell')=true)
  (k:∀w',Hs R w0 M w'→wpList P ops Q rest (a.put dst undef) w'):wpList P ops Q (⟨dst,.store T x y,ty,pos,aft,none⟩::rest) a w:=by
 subst hv
 refine wpList_plain rfl fun K hK=>?_
 have hb:Blk w g t cs:=H.ok _ u.inL.mem
 have hs:v.cells.toList.length=v.cells.size:=by simp
 rw[hs] at hn hl
 unfold Oper.wp execOp
 simp only[hx,hy,Instr.storeAt,Instr.sureAddr,Sem.run_bind,Sem.run_pure,Result.andThen_ok,run_store hn hb hl h1]
 exact hK _ _ (k _ (H.turn u (Grow.setRow w g _) (setRow_heap w g cs _ t _ hb) (fun b hb => .inl hb)))
theorem bp_cell{fn:Func}{p:Tmp}{ty:TypeId}{a:Act}{g:Nat}{t:TypeId}{cs:Array Value}{K:Ending→World→Prop}{x:Exit}(H:Hs R w0 L w)(hr:fn.results = #[.cell p ty])(hp:a.tmps.getD p undef = .pointer (some ⟨g,0,none⟩))(i:In (Hl.blk g t cs) L)
  (hT:aggT P ty=some true) (hn:sizeT P ty=some cs.size) (hd:a.defers = []) (hx:x = .ret∨x = .normal) (k:K (.returned (.agg cs)) w):bodyPost P fn K x a w:=by
 have hb:Blk w g t cs:=H.ok _ i.mem
 have hr:(results fn a.tmps).run P w = .ok (.agg cs) w:=by
  have hl:(loadVar ty ⟨g,0,none⟩).run P w = .ok (.agg cs) w:=by
   have:=run_loadn (P:=P) (w:=w) (T:=ty) (g:=g) (off:=0) (vs:=cs.toList) hT hn (by simp) (fun j u hu=>by rw[Nat.zero_add];exact(hb.cell j).trans (by simpa using hu))
   simpa using this
  have hp':a.tmps[p]?.getD undef = .pointer (some ⟨g,0,none⟩):=by simpa using hp
  simp[results,hr,hp',asAddr,hl]
 rcases hx with rfl|rfl
 ·exact bodyPost_ret hr hd k
 ·exact bodyPost_end hr hd k
theorem Hs.ownCell{g:Nat}{E:TypeId}{s n c:Nat}{xs:List Value}(H:Hs R w0 L w)(i:In (Hl.own E s (.slice (some ⟨g,0,none⟩) n c) n xs) L){j:Nat}{v:Value}(e:xs[j]? = some v):w.cell? ⟨g,j,none⟩=some v:=by
 have h:=H.owns i
 have hj:j<n*s:=by rw[←h.1];exact(List.getElem?_eq_some_iff.1 e).1
 rw[h.cellAt j hj];exact e
theorem run_store1{p:Addr}{u:Value}(hn:sizeT P T=some 1)(hu:u.cells.toList = [u])(h1:u.oneCell'=true)(hc:∃x,w.cell? p=some x)(hf:w.frozen? p=false):(storeVar T p u).run P w = .ok () (w.setCell p u):=by
 obtain⟨x,hc⟩:=hc
 have hs:u.cells.size=1:=by rw[←Array.length_toList,hu];rfl
 have hst:(store p u .plain).run P w = .ok () (w.setCell p u):=by
  unfold store
  cases u <;> first|(simp only[Sem.run,hc,hf];rfl)|(simp[Value.oneCell'] at h1)
 simp[storeVar,sizeOf_run hn,hs,hu,storeCells,hst,Addr.add_zero']
theorem st_storeown{g j n c:Nat}{E:TypeId}{s:Nat}{xs:List Value}{u:Value}(H:Hs R w0 L w)(hx:a.eval x = .pointer (some ⟨g,j,none⟩))(hy:a.eval y=u)(hu:u.cells.toList = [u])
  (up:Upd (Hl.own E s (.slice (some ⟨g,0,none⟩) n c) n xs) (Hl.own E s (.slice (some ⟨g,0,none⟩) n c) n (xs.set j u)) L M) (hj:j<n*s) (hn:sizeT P T=some 1) (h1:u.oneCell'=true)
  (k:∀w',Hs R w0 M w'→wpList P ops Q rest (a.put dst undef) w'):wpList P ops Q (⟨dst,.store T x y,ty,pos,aft,none⟩::rest) a w:=by
 refine wpList_plain rfl fun K hK=>?_
 have ho:=H.owns up.inL
 have hr:=run_store1 (P:=P) (T:=T) (p:=⟨g,j,none⟩) (w:=w) hn hu h1 ⟨_,by rw[ho.cellAt j hj];exact List.getElem?_eq_getElem (by rw[ho.1];exact hj)⟩ (ho.frozenAt j)
 unfold Oper.wp execOp
 simp only[hx,hy,Instr.storeAt,Instr.sureAddr,Sem.run_bind,Sem.run_pure,Result.andThen_ok,hr]
 refine hK _ _ (k _ (H.turn up ?_ (ho.stored j u).1 (fun b hb => .inl hb)))
 exact(Grow.setCell w ⟨g,j,none⟩ u).mono (fun b hb=>by subst hb;rfl)
def appT(P:Program)(t E:TypeId)(s:Nat):Bool:=match P.underlying t,P.info? E with
 | some (.slice e),some i=>e==E&&i.size==s&&decide (i.bytes≤4096)&&decide (0<s)&&(match i.zero with|some z=>z.cells.size==s|none=>false)
 | _,_=>false
theorem appT_spec{t E:TypeId}{s:Nat}(h:appT P t E s=true):∃i z,P.underlying t=some (.slice E)∧P.info? E=some i∧i.zero=some z∧i.size=s∧i.bytes≤4096∧z.cells.size=s∧0<s:=by
 unfold appT at h
 cases hu:P.underlying t with
 | none=>rw[hu] at h;simp at h
 | some d=>
  rw[hu] at h
  cases d with
  | slice e=>
   cases hi:P.info? E with
   | none=>rw[hi] at h;simp at h
   | some i=>
    rw[hi] at h
    simp only[Bool.and_eq_true,beq_iff_eq,decide_eq_true_eq] at h
    obtain⟨⟨⟨⟨h1,h2⟩,h3⟩,h4⟩,h5⟩:=h
    cases hz:i.zero with
    | none=>rw[hz] at h5;simp at h5
    | some z=>
     rw[hz] at h5
     exact⟨i,z,by rw[h1],rfl,hz,h2,h3,by simpa using h5,h4⟩
  | _=>simp at h
theorem bytes_le{m b:Nat}(hm:m≤1000000000)(hb:b≤4096):m*b≤140737488355328:=Nat.le_trans (Nat.mul_le_mul hm hb) (by decide)
theorem append_block{t ty E:TypeId}{i:TypeInfo}{z:Value}{s:Nat}(ht:P.underlying t=some (.slice E))(hi:P.info? E=some i)(hz:i.zero=some z)(hsize:i.size=s)(hby:i.bytes≤4096)
  {v:Value} {n:Nat} {xs:List Value} (hown:w.ownsRow 0 E s v n xs) {ad:Addr} {m c:Nat} {news:List Value} (hl:news.length=m*s) (hnews:∀j u,news[j]? = some u→w.cell? (ad.add j)=some u) (h1:∀u ∈ news,u.oneCell'=true)
  (hm:n+m≤1000000000) {v':Value} {w':World} (hr:(Builtin.append_ #[t,t] ty #[v,.slice (some ad) m c]).run P w = .ok v' w'):∀b,v'.ownBlock=some b→v.ownBlock=some b∨w.heap.size≤b:=by
 subst hsize
 rcases hown.2 with ⟨rfl,rfl⟩|⟨g,cap,cur,rfl,_,hg,hnc,hcm,hcs,htake⟩
 ·by_cases h0:m=0
  ·subst h0
   have hn:news = []:=List.eq_nil_of_length_eq_zero (by simpa using hl)
   have he:(Builtin.append_ #[t,t] ty #[.slice none 0 0,.slice (some ad) 0 c]).run P w = .ok (.slice none 0 0) w:=by
    simp[Builtin.append_,run_underlying ht,Go.sizeOf,typeInfo,hi,Builtin.lenOf,Builtin.firstCells,loadCells,loadCellsFrom]
   rw[he] at hr
   injection hr with hr _
   subst hr
   intro b hb;simp[Value.ownBlock] at hb
  ·have he:=run_append_nil (P:=P) w t ty E i z ht hi hz ad m c news hl hnews (by omega) (by omega) (Nat.le_trans (bytes_le (by omega) hby) (by decide))
   rw[he] at hr
   injection hr with hr _
   subst hr
   intro b hb;simp[Value.ownBlock] at hb;exact .inr (by omega)
 ·by_cases hroom:n+m≤cap
  ·have hfit:n*i.size+news.length≤cur.size:=by rw[hl,hcs,←Nat.add_mul];exact Nat.mul_le_mul_right _ hroom
   have he:=run_append_room (P:=P) w t ty E i ht hi g n cap cur hg ad m c news hl hnews h1 hroom hfit
   rw[he] at hr
   injection hr with hr _
   subst hr
   intro b hb;exact .inl hb
  ·have holds:∀j u,xs[j]? = some u→w.cell? ((⟨g,0,none⟩:Addr).add j)=some u:=hown.cells (g:=g) rfl
   have he:=run_append_grow (P:=P) w t ty E i z ht hi hz ⟨g,0,none⟩ n cap xs hown.1 holds ad m c news hl hnews (by omega) (by omega) (growslice_fits (by omega) (bytes_le hm hby))
   rw[he] at hr
   injection hr with hr _
   subst hr
   intro b hb;simp[Value.ownBlock] at hb;exact .inr (by omega)
theorem Hs.toOwn{g:Nat}{E:TypeId}{cs:Array Value}(s n:Nat)(H:Hs R w0 L w)(u:Upd (Hl.blk g E cs) (Hl.own E s (.slice (some ⟨g,0,none⟩) n n) n cs.toList) L M)(hs:cs.size=n*s)(hn:n≤maxLen):Hs R w0 M w:=by
 have hb:Blk w g E cs:=H.ok _ u.inL.mem
 refine H.turn u ((Grow.refl noRow w).mono (fun _ f=>f.elim)) ⟨by simpa using hs,.inr ⟨g,n,cs,rfl,Nat.zero_le _,hb,Nat.le_refl _,hn,hs,?_⟩⟩ (fun b hb => .inl (by have:some g=some b:=hb;injection this with h;exact h.symm))
 rw[←hs,←Array.length_toList,List.take_length]
theorem wrap_id{x:Int}(h : -9223372036854775808≤x)(h2:x≤9223372036854775807):IntKind.i64.wrap x=x:=by
 rw[IntKind.wrap_i64];omega
theorem ok_make{E:TypeId}{z:Value}{s b:Nat}{m:Int}(hx:a.eval x = .int .i64 m)(hy:a.eval y = .int .i64 m)(ht:P.underlying T=some (.slice E))
  (hi:(P.info? E).map (fun i=>(i.zero,i.size,i.bytes))=some (some z,s,b)) (h0:0≤m) (hb:(b:Int)*m≤281474976710656) (hm:m≤9223372036854775807) :
  OpOk P K ⟨dst,.makeSlice T x y,ty,pos,aft,gd⟩ a w (tSl E m.toNat (madeCells z.cells (m.toNat*s))):=by
 obtain⟨i0,hi0,hz0,hz1,hz2⟩:=info_parts hi
 subst hz1 hz2
 unfold OpOk execOp
 simp only[hx,hy,Sem.run_bind,Sem.run_pure,Result.andThen_ok,run_make w T E i0 z ht hi0 hz0 .i64 .i64 m m h0 (Int.le_refl _) hb hm]
 exact now_sl
theorem st_make{E:TypeId}{z:Value}{s b:Nat}{m:Int}(H:Hs R w0 L w)(hx:a.eval x = .int .i64 m)(hy:a.eval y = .int .i64 m)(ht:P.underlying T=some (.slice E))
  (hi:(P.info? E).map (fun i=>(i.zero,i.size,i.bytes))=some (some z,s,b)) (h0:0≤m) (hb:(b:Int)*m≤281474976710656) (hm:m≤9223372036854775807)
  (k:∀g w',Hs R w0 (Hl.blk g E (madeCells z.cells (m.toNat*s))::L) w'→wpList P ops Q rest (a.put dst (.slice (some ⟨g,0,none⟩) m.toNat m.toNat)) w'):wpList P ops Q (⟨dst,.makeSlice T x y,ty,pos,aft,none⟩::rest) a w:=
 st_op (K:=[]) H rfl (by simp) (ok_make hx hy ht hi h0 hb hm) fun u M w' ⟨g,h1,h2⟩ H'=>by subst h1 h2;exact k g w' H'
theorem st_want{op:Op}{j:Nat}{b:Bool}(h:Region.wanted ⟨dst,op,ty,pos,aft,some (j,b)⟩ (yielded ops a.tmps)=true)(k:wpList P ops Q (⟨dst,op,ty,pos,aft,none⟩::rest) a w):wpList P ops Q (⟨dst,op,ty,pos,aft,some (j,b)⟩::rest) a w:=by
 unfold wpList at k ⊢
 rw[if_pos (by unfold Region.wanted;rfl)] at k
 rw[if_pos h]
 exact k
theorem st_skip{op:Op}{j:Nat}{b:Bool}(h:Region.wanted ⟨dst,op,ty,pos,aft,some (j,b)⟩ (yielded ops a.tmps)=false)(k:wpList P ops Q rest (a.put dst undef) w):wpList P ops Q (⟨dst,op,ty,pos,aft,some (j,b)⟩::rest) a w:=by
 unfold wpList
 rw[if_neg (by rw[h];exact Bool.false_ne_true)]
 exact k
def qUpon(P:Program)(w:World)(v:Value):Result Next→Prop
 | .ok (.value u) w'=>w'=w∧u=v
 | .ok (.enter f args) w'=>w'=w∧Gives P f args w v
 | _=>False
def QOk(P:Program)(o:Oper)(a:Act)(w:World)(v:Value):Prop:=qUpon P w v ((execOp a.eval o).run P w)
theorem q_v{v:Value}:qUpon P w v (.ok (.value v) w):=⟨rfl,rfl⟩
theorem q_call{f:FuncId}{args:Array Value}{v:Value}(h:Gives P f args w v):qUpon P w v (.ok (.enter f args) w):=⟨rfl,h⟩
theorem q_load1{p:Addr}{v:Value}(hx:a.eval x = .pointer (some p))(hT:aggT P T=some false)(hc:w.cell? p=some v):QOk P ⟨dst,.load T x,ty,pos,aft,gd⟩ a w v:=by
 unfold QOk execOp
 simp only[hx,Instr.loadAt,Instr.sureAddr,Sem.run_bind,Sem.run_pure,Result.andThen_ok,run_load1 hT hc]
 exact q_v
theorem q_loads{g off n:Nat}{t:TypeId}{cs:Array Value}(hx:a.eval x = .pointer (some ⟨g,off,none⟩))(hT:aggT P T=some true)(H:Hs R w0 L w)(i:In (Hl.blk g t cs) L)(hn:sizeT P T=some n)(hl:((cs.toList.drop off).take n).length=n):
  QOk P ⟨dst,.load T x,ty,pos,aft,gd⟩ a w (.agg ((cs.toList.drop off).take n).toArray):=by
 unfold QOk execOp
 simp only[hx,Instr.loadAt,Instr.sureAddr,Sem.run_bind,Sem.run_pure,Result.andThen_ok,run_loadn hT hn hl fun j u hu=>H.cell i (seg_get hu)]
 exact q_v
theorem q_loadn{g off n:Nat}{vs:List Value}(hx:a.eval x = .pointer (some ⟨g,off,none⟩))(hT:aggT P T=some true)(hn:sizeT P T=some n)(hl:vs.length=n)(hc:∀j u,vs[j]? = some u→w.cell? ⟨g,off+j,none⟩=some u):
  QOk P ⟨dst,.load T x,ty,pos,aft,gd⟩ a w (.agg vs.toArray):=by
 unfold QOk execOp
 simp only[hx,Instr.loadAt,Instr.sureAddr,Sem.run_bind,Sem.run_pure,Result.andThen_ok,run_loadn hT hn hl hc]
 exact q_v
theorem hq_step{o:Oper}{v:Value}{Q:Act→Prop}(hw:Region.wanted o (yielded ops a.tmps)=true)(h:∀w,Hs R w0 L w→QOk P o a w v)(k:wpQuiet P ops (Hs R w0 L) Q rest (a.put o.dst v)):wpQuiet P ops (Hs R w0 L) Q (o::rest) a:=by
 unfold wpQuiet
 rw[if_pos hw]
 refine⟨v,fun w H=>?_,k⟩
 have:=h w H
 unfold QOk at this
 unfold Oper.quietAt
 generalize (execOp a.eval o).run P w=r at this ⊢
 cases r with
 | ok nx w'=>
  cases nx <;> simp only[qUpon] at this <;> simp only[Oper.quietUpon]
  case value u=>exact this
  case enter f args=>exact⟨this.1,this.2.use.mono fun e w'' ⟨he,hb⟩=>⟨he,H.later hb⟩⟩
 | halt x w'=>simp only[qUpon] at this
theorem hq_skip{o:Oper}{Q:Act→Prop}(hw:Region.wanted o (yielded ops a.tmps)=false)(k:wpQuiet P ops (Hs R w0 L) Q rest (a.put o.dst undef)):wpQuiet P ops (Hs R w0 L) Q (o::rest) a:=by
 unfold wpQuiet
 rw[if_neg (by rw[hw];exact Bool.false_ne_true)]
 exact k
theorem wp_region_hq{id:Nat}{l:List Oper}(H:Hs R w0 L w)(hm:P.follows .mixedOrders=true)(hB:Region.lexB .any l.toArray=true)
  (h:wpQuiet P l.toArray (Hs R w0 L) (fun a'=>∀w',Hs R w0 L w'→Q .normal a' w') l a):(Code.region id l.toArray true).wp P Q a w:=
 wp_region_quiet (C:=Hs R w0 L) hm hB H.drew (by simpa using h)
inductive Sel:List Hl→List Hl→Prop
 | nil {L:List Hl}:Sel L []
 | cons {k:Hl} {L N M:List Hl}:Del k L N→Sel N M→Sel L (k::M)
theorem Sel.split{L M:List Hl}(h:Sel L M):∃N,L.Perm (M++N):=by
 induction h with
 | nil=>exact⟨_,List.Perm.refl _⟩
 | cons d _ ih=>
  obtain⟨N,h⟩:=ih
  exact⟨N,d.perm.trans (h.cons _)⟩
theorem Hs.sel{M:List Hl}(H:Hs R w0 L w)(h:Sel L M):Hs R w0 M w:=by
 obtain⟨N,hp⟩:=h.split
 exact(H.perm hp.symm).sub (List.sublist_append_left _ _)
end
inductive Tk:List Hl→List Hl→List Hl→Prop
 | nil {L:List Hl}:Tk L [] L
 | cons {k:Hl} {L L1 M N:List Hl}:Del k L L1→Tk L1 M N→Tk L (k::M) N
section
variable {P:Program} {R:Nat→Prop} {w0 w:World} {L M:List Hl} {a:Act} {ops:Array Oper} {Q:Exit→Act→World→Prop} {rest:List Oper}
variable {K:List Hl} {dst:Option Tmp} {T ty:TypeId} {x y:Operand} {pos:String} {aft:Array Edge} {gd:Option (Nat × Bool)}
theorem run_strsum(hT:P.underlying T=some .string)(w:World)(x y:ByteArray)(h:x.size+y.size≤9223372036854775807):(binOp .add T (.string x) (.string y)).run P w = .ok (.string (x++y)) w:=by
 have hu:=run_underlying hT
 have hn:¬(9223372036854775807<(x.size:Int)+(y.size:Int)):=by omega
 go_simp
theorem st_strsum{s t:ByteArray}(H:Hs R w0 L w)(hx:a.eval x = .string s)(hy:a.eval y = .string t)(h:s.size+t.size≤9223372036854775807)(hT:P.underlying T=some .string)
  (k:∀w',Hs R w0 L w'→wpList P ops Q rest (a.put dst (.string (s++t))) w'):wpList P ops Q (⟨dst,.binOp .add T x y T,ty,pos,aft,none⟩::rest) a w:=by
 refine st_v H rfl ?_ k
 unfold OpOk execOp
 simp only[hx,hy,eqGuard,Bool.not_false,if_true,Sem.run_bind,Sem.run_pure,Result.andThen_ok,run_strsum hT w s t h]
 exact now_v
theorem q_strsum{s t:ByteArray}(hx:a.eval x = .string s)(hy:a.eval y = .string t)(h:s.size+t.size≤9223372036854775807)(hT:P.underlying T=some .string):QOk P ⟨dst,.binOp .add T x y T,ty,pos,aft,gd⟩ a w (.string (s++t)):=by
 unfold QOk execOp
 simp only[hx,hy,eqGuard,Bool.not_false,if_true,Sem.run_bind,Sem.run_pure,Result.andThen_ok,run_strsum hT w s t h]
 exact q_v
theorem ok_strsum{s t:ByteArray}(hx:a.eval x = .string s)(hy:a.eval y = .string t)(h:s.size+t.size≤9223372036854775807)(hT:P.underlying T=some .string):OpOk P K ⟨dst,.binOp .add T x y T,ty,pos,aft,gd⟩ a w (tV (.string (s++t))):=by
 unfold OpOk execOp
 simp only[hx,hy,eqGuard,Bool.not_false,if_true,Sem.run_bind,Sem.run_pure,Result.andThen_ok,run_strsum hT w s t h]
 exact now_v
theorem zsize_mk(l:List UInt8):(ByteArray.mk l.toArray).size=l.length:=rfl
theorem zsize_bs(l:List UInt8):(Go.Proofs.YtcabgibdkmgdlaaGreat.M.bs l).size=l.length:=rfl
end
section
variable {α:Type} {x a:α} {xs l ar bs:List α} {i n:Nat} {k h h':Hl} {L M:List Hl}
theorem yA(l:List α)(i:Nat)(a:α):l.toArray.setIfInBounds i a=(l.set i a).toArray:=List.setIfInBounds_toArray l i a
theorem yB:(x::xs).set (i+1) a=x::xs.set i a:=List.set_cons_succ
theorem yC:(x::xs).set 0 a=a::xs:=List.set_cons_zero
theorem yD(h:i<xs.toArray.size):xs.toArray[i]=xs[i]:=List.getElem_toArray h
theorem yE(a:α)(ar:List α)(h:0<(a::ar).length):(a::ar)[0]=a:=List.getElem_cons_zero a ar h
theorem yF(a:α)(ar:List α)(i:Nat)(h:i+1<(a::ar).length):(a::ar)[i+1]'h=ar[i]'(Nat.lt_of_succ_lt_succ h):=List.getElem_cons_succ a ar i h
theorem yG:List.take (i+1) (a::ar)=a::List.take i ar:=List.take_succ_cons
theorem yH:List.take 0 l = []:=List.take_zero
theorem yI:List.take i ([]:List α) = []:=List.take_nil
theorem yJ:List.drop (i+1) (a::l)=List.drop i l:=List.drop_succ_cons
theorem yK:List.drop 0 l=l:=List.drop_zero
theorem yL:List.drop i ([]:List α) = []:=List.drop_nil
theorem yM:a::ar++bs=a::(ar++bs):=List.cons_append
theorem yN(ar:List α): []++ar=ar:=List.nil_append ar
theorem yO(ar:List α):ar ++ []=ar:=List.append_nil ar
theorem yP:(a::ar).length=ar.length+1:=List.length_cons
theorem yQ:([]:List α).length=0:=List.length_nil
theorem iH:In h (h::L):=In.here
theorem iT(e:In h L):In h (k::L):=In.there e
theorem uH:Upd h h' (h::L) (h'::L):=Upd.here
theorem uT(e:Upd h h' L M):Upd h h' (k::L) (k::M):=Upd.there e
theorem dH:Del h (h::L) L:=Del.here
theorem dT(e:Del h L M):Del h (k::L) (k::M):=Del.there e
theorem cellI{k:IntKind}{n:Int}:(Value.int k n).cells.toList = [.int k n]:=rfl
theorem cellS{t:ByteArray}:(Value.string t).cells.toList = [.string t]:=rfl
theorem cellB{b:Bool}:(Value.bool b).cells.toList = [.bool b]:=rfl
theorem zz{x:Option Nat}(h:x=some n):x=some n:=h
theorem vI{k:IntKind}{n:Int}:Value.int k n=Value.int k n:=rfl
theorem vS{t:ByteArray}:Value.string t=Value.string t:=rfl
theorem vB{b:Bool}:Value.bool b=Value.bool b:=rfl
theorem vL{a:Option Addr}{n c:Nat}:Value.slice a n c=Value.slice a n c:=rfl
theorem vA{l:List Value}:Value.agg l.toArray=Value.agg l.toArray:=rfl
theorem vP{a:Option Addr}:Value.pointer a=Value.pointer a:=rfl
theorem yR(a:α)(l:List α)(n:Nat):(a::l)[n+1]? = l[n]?:=List.getElem?_cons_succ
theorem yS(a:α)(l:List α):(a::l)[0]? = some a:=List.getElem?_cons_zero
theorem yT(l:List α): []++l=l:=List.nil_append l
theorem yU(l:List α):l ++ []=l:=List.append_nil l
theorem yV(a:α)(l m:List α):(a::l)++m=a::(l++m):=List.cons_append
theorem yW(l m n:List α):l++m++n=l++(m++n):=List.append_assoc l m n
end
theorem iF{k:Hl}{L:List Hl}(h:In k L:=by repeat(first|with_reducible exact iH|refine iT ?_)):In k L:=h
theorem uF{k j:Hl}{L M:List Hl}(h:Upd k j L M:=by repeat(first|with_reducible exact uH|apply uT)):Upd k j L M:=h
theorem dF{k:Hl}{L M:List Hl}(h:Del k L M:=by repeat(first|with_reducible exact dH|apply dT)):Del k L M:=h
theorem sF{L M:List Hl}(h:Sel L M:=by repeat(first|exact Sel.nil|((with_reducible apply Sel.cons);(focus(repeat(first|with_reducible exact dH|apply dT)))))):Sel L M:=h
theorem cF{P:Prop}(h:P:=by first|exact H.cell iF rfl|exact H.ownCell iF (by assumption)|exact H.oldN (by assumption)|exact H.old (by assumption) (by assumption)):P:=h
theorem cF1{P:Prop}(h:P:=by first|exact H1.cell iF rfl|exact H1.ownCell iF (by assumption)|exact H1.oldN (by assumption)|exact H1.old (by assumption) (by assumption)):P:=h
theorem zF{P:Prop}(h:P:=by first|exact zz (n:=2) (by decide +kernel)|exact zz (n:=12) (by decide +kernel)|exact zz (n:=13) (by decide +kernel)|exact zz (n:=3) (by decide +kernel)|exact zz (n:=4) (by decide +kernel)|exact zz (n:=1) (by decide +kernel)|exact zz (n:=5) (by decide +kernel)|exact zz (n:=6) (by decide +kernel)|exact zz (n:=7) (by decide +kernel)|exact zz (n:=8) (by decide +kernel)|exact zz (n:=9) (by decide +kernel)|exact zz (n:=10) (by decide +kernel)|exact zz (n:=14) (by decide +kernel)|exact zz (n:=11) (by decide +kernel)):P:=h
theorem eF{P:Prop}(h:P:=by first|exact vI|exact vS|exact vB|exact vL|exact vA|exact vP|rfl):P:=h
theorem nF{P:Prop}(h:P:=by unfold OpOk;go_simp;exact now_new):P:=h
theorem nsF{P:Prop}(h:P:=by unfold OpOk;go_simp;exact now_sl):P:=h
theorem szF{P:Prop}(h:P:=by simp only[zsize_bs,zsize_mk,ByteArray.size_append,yP,yQ,List.length_append];omega):P:=h
theorem oF{P:Prop}(h:P:=by first|((with_reducible apply ok_load1);(focus rfl);(focus decide +kernel);(focus exact cF1))|((with_reducible apply ok_loads);(focus rfl);(focus decide +kernel);(focus exact H1);(focus exact iF);(focus exact zF);(focus rfl))|(unfold OpOk;go_simp;(try rw[if_neg (by omega)]);exact now_v)):P:=h
theorem qF{P:Prop}(h:P:=by first|((with_reducible apply q_load1);(focus rfl);(focus decide +kernel);(focus exact cF1))|((with_reducible apply q_loads);(focus rfl);(focus decide +kernel);(focus exact H1);(focus exact iF);(focus exact zF);(focus rfl))):P:=h
theorem qSF{P:Prop}(h:P:=by (with_reducible apply q_strsum);(focus rfl);(focus rfl);(focus exact szF);(focus kernel_rfl)):P:=h
theorem qVF{P:Prop}(h:P:=by unfold QOk;go_simp;(try rw[if_neg (by omega)]);exact q_v):P:=h
theorem qLF{P:Prop}(h:P:=by first|exact qF|exact qVF):P:=h
theorem gvF{P:Program}{f:FuncId}{args:Array Value}{w w0:World}{v:Value}{R:Nat→Prop}{L:List Hl}{Q:Ending→World→Prop}(h:Gives P f args w v)(H:Hs R w0 L w)(k:∀w',Hs R w0 L w'→Q (.returned v) w'):Calls P f args w Q:=
 h.use.mono fun _ _ h=>by obtain⟨rfl,hb⟩:=h;exact k _ (H.later hb)
structure Nm (d:Nat):Prop
structure Kp (Q:Prop):Prop where
 out:Q
structure Qk (p:Prop):Prop where
 out:p
section
variable {P:Program} {ops:Array Oper} {R:Nat→Prop} {w0 w:World} {L:List Hl} {rest:List Oper} {a:Act} {T ty:TypeId} {x:Operand} {pos:String} {aft:Array Edge}
theorem st_boxN{d:Nat}{t:TypeId}{cs:Array Value}{Q:Exit→Act→World→Prop}(_:Nm d)(H:Hs R w0 L w)(h:OpOk P [] ⟨some d,.box T x,ty,pos,aft,none⟩ a w (tNew t cs))
  (k:∀g w',Hs R w0 (Hl.blk g t cs::L) w'→wpList P ops Q rest (a.put (some d) (.pointer (some ⟨g,0,none⟩))) w'):wpList P ops Q (⟨some d,.box T x,ty,pos,aft,none⟩::rest) a w:=st_box H h k
theorem st_allocN{d:Nat}{t:TypeId}{cs:Array Value}{Q:Exit→Act→World→Prop}(_:Nm d)(H:Hs R w0 L w)(h:OpOk P [] ⟨some d,.alloc T,ty,pos,aft,none⟩ a w (tNew t cs))
  (k:∀g w',Hs R w0 (Hl.blk g t cs::L) w'→wpList P ops Q rest (a.put (some d) (.pointer (some ⟨g,0,none⟩))) w'):wpList P ops Q (⟨some d,.alloc T,ty,pos,aft,none⟩::rest) a w:=st_alloc H h k
theorem wp_region_hqN{d:Nat}{l:List Oper}{Q:Exit→Act→World→Prop}(_:Nm d)(H:Hs R w0 L w)(hm:P.follows .mixedOrders=true)(hB:Region.lexB .any l.toArray=true)
  (h:wpQuiet P l.toArray (Hs R w0 L) (fun a'=>∀w',Hs R w0 L w'→Q .normal a' w') l a):(Code.region d l.toArray true).wp P Q a w:=wp_region_hq H hm hB h
theorem zHk{f:FuncId}{args:Array Value}{v:Value}{o:Oper}{Q:Act→Prop}{S:Prop}(c:∀w,Hs R w0 L w→Gives P f args w v)(k:Qk S)(hw:Region.wanted o (yielded ops a.tmps)=true:=by rfl)
  (h:(∀w,Hs R w0 L w→Gives P f args w v) → ∀w,Hs R w0 L w→QOk P o a w v:=by intro c w1 H1;unfold QOk;go_simp;exact q_call (c w1 H1))
  (n:Kp S→wpQuiet P ops (Hs R w0 L) Q rest (a.put o.dst v):=by intro k;(try simp only[yG,yH,yJ,yK]);simp only[Act.put,yA,yB,yC,yD,yE,yF];with_reducible exact k.out):Qk (wpQuiet P ops (Hs R w0 L) Q (o::rest) a):=⟨hq_step hw (h c) (n ⟨k.out⟩)⟩
end
theorem zL{P Q:Prop}(k:Q)(h:Kp Q→P:=by intro k;(with_reducible apply st_load1 H);decide +kernel;rfl;exact cF;intro wn H;(try simp only[splice,yG,yH,yI,yJ,yK,yL,yM,yN,yO,yP,yQ,Nat.reduceAdd,yA,yB,yC] at H);simp only[Act.put,yA,yB,yC,yD,yE,yF];revert wn H;with_reducible exact k.out):P:=h ⟨k⟩
theorem zM{P Q:Prop}(k:Q)(h:Kp Q→P:=by intro k;(with_reducible apply st_loads H);decide +kernel;rfl;exact iF;exact zF;rfl;intro wn H;(try simp only[splice,yG,yH,yI,yJ,yK,yL,yM,yN,yO,yP,yQ,Nat.reduceAdd,yA,yB,yC] at H);simp only[Act.put,yA,yB,yC,yD,yE,yF];revert wn H;with_reducible exact k.out):P:=h ⟨k⟩
theorem zS{P Q:Prop}(k:Q)(h:Kp Q→P:=by intro k;(with_reducible apply st_store H);rfl;exact eF;(focus(exact cells_agg _));exact uF;kernel_rfl;(focus(exact Nat.le_of_ble_eq_true (by rfl)));(focus(rfl));intro wn H;(try simp only[splice,yG,yH,yI,yJ,yK,yL,yM,yN,yO,yP,yQ,Nat.reduceAdd,yA,yB,yC] at H);simp only[Act.put,yA,yB,yC,yD,yE,yF];revert wn H;with_reducible exact k.out):P:=h ⟨k⟩
theorem zP{P Q:Prop}(k:Q)(h:Kp Q→P:=by intro k;(with_reducible apply st_loadat H);decide +kernel;rfl;exact aF;exact zF;rfl;intro wn H;simp only[Act.put,yA,yB,yC,yD,yE,yF];revert wn H;with_reducible exact k.out):P:=h ⟨k⟩
theorem zT{P Q:Prop}(k:Q)(h:Kp Q→P:=by intro k;(with_reducible apply st_strsum H);rfl;rfl;exact szF;kernel_rfl;intro wn H;simp only[Act.put,yA,yB,yC,yD,yE,yF];revert wn H;with_reducible exact k.out):P:=h ⟨k⟩
theorem zR{P Q:Prop}(k:Q)(h:Kp Q→P:=by intro k;(with_reducible apply st_storerow H);rfl;exact eF;(exact cells_agg _);exact uF;kernel_rfl;exact Nat.succ_pos _;exact fitF;rfl;intro wn H;simp only[Act.put,yA,yB,yC,yD,yE,yF];revert wn H;with_reducible exact k.out):P:=h ⟨k⟩
theorem zI{P Q:Prop}(k:Q)(h:Kp Q→P:=by intro k;(with_reducible apply st_bslice H);exact nsF;intro nb;intro wn H;simp only[Act.put,yA,yB,yC,yD,yE,yF];revert nb wn H;with_reducible exact k.out):P:=h ⟨k⟩
theorem zX1a{P Q:Prop}(k:Q)(h:Kp Q→P:=by intro k;(with_reducible apply st_appendrb H);(focus(with_reducible exact dT (dH)));rfl;rfl;exact iF;kernel_rfl;rfl;rfl;(focus(omega));intro vq;intro wn H;(try simp only[yM,yN,yO] at H);simp only[Act.put,yA,yB,yC,yD,yE,yF];revert vq wn H;with_reducible exact k.out):P:=h ⟨k⟩
theorem zX2a{P Q:Prop}(k:Q)(h:Kp Q→P:=by intro k;(with_reducible apply st_appendrb H);(focus(with_reducible exact dT (dT (dH))));rfl;rfl;exact iF;kernel_rfl;rfl;rfl;(focus(omega));intro vq;intro wn H;(try simp only[yM,yN,yO] at H);simp only[Act.put,yA,yB,yC,yD,yE,yF];revert vq wn H;with_reducible exact k.out):P:=h ⟨k⟩
theorem zB{P Q:Prop}(d:Nat)(k:Q)(h:Nm d→Kp Q→P:=by intro nd k;(with_reducible apply st_boxN nd H);exact nF;intro nb wn H;simp only[Act.put,yA,yB,yC,yD,yE,yF];revert nb wn H;with_reducible exact k.out):P:=h ⟨⟩ ⟨k⟩
theorem zA{P Q:Prop}(d:Nat)(k:Q)(h:Nm d→Kp Q→P:=by intro nd k;(with_reducible apply st_allocN nd H);exact nF;intro nb wn H;simp only[Act.put,yA,yB,yC,yD,yE,yF];revert nb wn H;with_reducible exact k.out):P:=h ⟨⟩ ⟨k⟩
theorem zgS{P Q:Prop}(k:Q)(h:Kp Q→P:=by intro k;(with_reducible refine st_skip ?_ ?_);rfl;simp only[Act.put,yA,yB,yC,yD,yE,yF];with_reducible exact k.out):P:=h ⟨k⟩
theorem zp{P Q:Prop}(k:Q)(h:Kp Q→P:=by intro k;simp only[Act.put,yA,yB,yC,yD,yE,yF];with_reducible exact k.out):P:=h ⟨k⟩
theorem zK{P Q:Prop}(k:Q)(h:Kp Q→P:=by intro k;have Hn:=H.moreK (by intro k hk;first|exact absurd hk List.not_mem_nil|(obtain rfl:=List.mem_singleton.1 hk;exact In.mem iF)) hkk;(try simp only[yT,yV] at Hn);revert Hn;with_reducible exact k.out):P:=h ⟨k⟩
theorem zgW{P Q:Prop}(k:Q)(h:Kp Q→P:=by intro k;(with_reducible apply st_want);rfl;with_reducible exact k.out):P:=h ⟨k⟩
theorem zhV{P Q:Prop}(k:Qk Q)(h:Kp Q→P:=by intro k;(with_reducible refine' hq_step ?_ ?_ ?_);rotate_left;rfl;(focus(intro w1 H1;exact qVF));(try simp only[yG,yH,yJ,yK]);(try simp only[Act.put,yA,yB,yC,yD,yE,yF]);with_reducible exact k.out):Qk P:=⟨h ⟨k.out⟩⟩
theorem zhSV{P Q:Prop}(k:Qk Q)(h:Kp Q→P:=by intro k;(with_reducible refine' hq_step ?_ ?_ ?_);rotate_left;rfl;(focus(intro w1 H1;first|exact qSF|exact qVF));(try simp only[yG,yH,yJ,yK]);(try simp only[Act.put,yA,yB,yC,yD,yE,yF]);with_reducible exact k.out):Qk P:=⟨h ⟨k.out⟩⟩
theorem zhSWV{P Q:Prop}(k:Qk Q)(h:Kp Q→P:=by intro k;(with_reducible refine' hq_step ?_ ?_ ?_);rotate_left;rfl;(focus(intro w1 H1;first|exact qSF|exact qWF|exact qVF));(try simp only[yG,yH,yJ,yK]);(try simp only[Act.put,yA,yB,yC,yD,yE,yF]);with_reducible exact k.out):Qk P:=⟨h ⟨k.out⟩⟩
theorem zhF{P Q:Prop}(k:Qk Q)(h:Kp Q→P:=by intro k;(with_reducible refine' hq_step ?_ ?_ ?_);rotate_left;rfl;(focus(intro w1 H1;exact qF));(try simp only[yG,yH,yJ,yK]);(try simp only[Act.put,yA,yB,yC,yD,yE,yF]);with_reducible exact k.out):Qk P:=⟨h ⟨k.out⟩⟩
theorem zhFV{P Q:Prop}(k:Qk Q)(h:Kp Q→P:=by intro k;(with_reducible refine' hq_step ?_ ?_ ?_);rotate_left;rfl;(focus(intro w1 H1;first|exact qF|exact qVF));(try simp only[yG,yH,yJ,yK]);(try simp only[Act.put,yA,yB,yC,yD,yE,yF]);with_reducible exact k.out):Qk P:=⟨h ⟨k.out⟩⟩
theorem zhFSV{P Q:Prop}(k:Qk Q)(h:Kp Q→P:=by intro k;(with_reducible refine' hq_step ?_ ?_ ?_);rotate_left;rfl;(focus(intro w1 H1;first|exact qF|exact qSF|exact qVF));(try simp only[yG,yH,yJ,yK]);(try simp only[Act.put,yA,yB,yC,yD,yE,yF]);with_reducible exact k.out):Qk P:=⟨h ⟨k.out⟩⟩
theorem zhFWV{P Q:Prop}(k:Qk Q)(h:Kp Q→P:=by intro k;(with_reducible refine' hq_step ?_ ?_ ?_);rotate_left;rfl;(focus(intro w1 H1;first|exact qF|exact qWF|exact qVF));(try simp only[yG,yH,yJ,yK]);(try simp only[Act.put,yA,yB,yC,yD,yE,yF]);with_reducible exact k.out):Qk P:=⟨h ⟨k.out⟩⟩
theorem zhAV{P Q:Prop}(k:Qk Q)(h:Kp Q→P:=by intro k;(with_reducible refine' hq_step ?_ ?_ ?_);rotate_left;rfl;(focus(intro w1 H1;first|exact qAF|exact qVF));(try simp only[yG,yH,yJ,yK]);(try simp only[Act.put,yA,yB,yC,yD,yE,yF]);with_reducible exact k.out):Qk P:=⟨h ⟨k.out⟩⟩
theorem zhAWV{P Q:Prop}(k:Qk Q)(h:Kp Q→P:=by intro k;(with_reducible refine' hq_step ?_ ?_ ?_);rotate_left;rfl;(focus(intro w1 H1;first|exact qAF|exact qWF|exact qVF));(try simp only[yG,yH,yJ,yK]);(try simp only[Act.put,yA,yB,yC,yD,yE,yF]);with_reducible exact k.out):Qk P:=⟨h ⟨k.out⟩⟩
theorem zhAEWV{P Q:Prop}(k:Qk Q)(h:Kp Q→P:=by intro k;(with_reducible refine' hq_step ?_ ?_ ?_);rotate_left;rfl;(focus(intro w1 H1;first|exact qAF|exact qEF|exact qWF|exact qVF));(try simp only[yG,yH,yJ,yK]);(try simp only[Act.put,yA,yB,yC,yD,yE,yF]);with_reducible exact k.out):Qk P:=⟨h ⟨k.out⟩⟩
theorem zhREWV{P Q:Prop}(k:Qk Q)(h:Kp Q→P:=by intro k;(with_reducible refine' hq_step ?_ ?_ ?_);rotate_left;rfl;(focus(intro w1 H1;first|exact qRF|exact qEF|exact qWF|exact qVF));(try simp only[yG,yH,yJ,yK]);(try simp only[Act.put,yA,yB,yC,yD,yE,yF]);with_reducible exact k.out):Qk P:=⟨h ⟨k.out⟩⟩
theorem zhNV{P Q:Prop}(k:Qk Q)(h:Kp Q→P:=by intro k;(with_reducible refine' hq_step ?_ ?_ ?_);rotate_left;rfl;(focus(intro w1 H1;first|exact qNF|exact qVF));(try simp only[yG,yH,yJ,yK]);(try simp only[Act.put,yA,yB,yC,yD,yE,yF]);with_reducible exact k.out):Qk P:=⟨h ⟨k.out⟩⟩
theorem zhNWV{P Q:Prop}(k:Qk Q)(h:Kp Q→P:=by intro k;(with_reducible refine' hq_step ?_ ?_ ?_);rotate_left;rfl;(focus(intro w1 H1;first|exact qNF|exact qWF|exact qVF));(try simp only[yG,yH,yJ,yK]);(try simp only[Act.put,yA,yB,yC,yD,yE,yF]);with_reducible exact k.out):Qk P:=⟨h ⟨k.out⟩⟩
theorem zhNEWV{P Q:Prop}(k:Qk Q)(h:Kp Q→P:=by intro k;(with_reducible refine' hq_step ?_ ?_ ?_);rotate_left;rfl;(focus(intro w1 H1;first|exact qNF|exact qEF|exact qWF|exact qVF));(try simp only[yG,yH,yJ,yK]);(try simp only[Act.put,yA,yB,yC,yD,yE,yF]);with_reducible exact k.out):Qk P:=⟨h ⟨k.out⟩⟩
theorem zhFAV{P Q:Prop}(k:Qk Q)(h:Kp Q→P:=by intro k;(with_reducible refine' hq_step ?_ ?_ ?_);rotate_left;rfl;(focus(intro w1 H1;first|exact qF|exact qAF|exact qVF));(try simp only[yG,yH,yJ,yK]);(try simp only[Act.put,yA,yB,yC,yD,yE,yF]);with_reducible exact k.out):Qk P:=⟨h ⟨k.out⟩⟩
theorem zhFAEV{P Q:Prop}(k:Qk Q)(h:Kp Q→P:=by intro k;(with_reducible refine' hq_step ?_ ?_ ?_);rotate_left;rfl;(focus(intro w1 H1;first|exact qF|exact qAF|exact qEF|exact qVF));(try simp only[yG,yH,yJ,yK]);(try simp only[Act.put,yA,yB,yC,yD,yE,yF]);with_reducible exact k.out):Qk P:=⟨h ⟨k.out⟩⟩
theorem zhFAWV{P Q:Prop}(k:Qk Q)(h:Kp Q→P:=by intro k;(with_reducible refine' hq_step ?_ ?_ ?_);rotate_left;rfl;(focus(intro w1 H1;first|exact qF|exact qAF|exact qWF|exact qVF));(try simp only[yG,yH,yJ,yK]);(try simp only[Act.put,yA,yB,yC,yD,yE,yF]);with_reducible exact k.out):Qk P:=⟨h ⟨k.out⟩⟩
theorem zhFAEWV{P Q:Prop}(k:Qk Q)(h:Kp Q→P:=by intro k;(with_reducible refine' hq_step ?_ ?_ ?_);rotate_left;rfl;(focus(intro w1 H1;first|exact qF|exact qAF|exact qEF|exact qWF|exact qVF));(try simp only[yG,yH,yJ,yK]);(try simp only[Act.put,yA,yB,yC,yD,yE,yF]);with_reducible exact k.out):Qk P:=⟨h ⟨k.out⟩⟩
theorem zhFARNV{P Q:Prop}(k:Qk Q)(h:Kp Q→P:=by intro k;(with_reducible refine' hq_step ?_ ?_ ?_);rotate_left;rfl;(focus(intro w1 H1;first|exact qF|exact qAF|exact qRF|exact qNF|exact qVF));(try simp only[yG,yH,yJ,yK]);(try simp only[Act.put,yA,yB,yC,yD,yE,yF]);with_reducible exact k.out):Qk P:=⟨h ⟨k.out⟩⟩
theorem zhFARNEV{P Q:Prop}(k:Qk Q)(h:Kp Q→P:=by intro k;(with_reducible refine' hq_step ?_ ?_ ?_);rotate_left;rfl;(focus(intro w1 H1;first|exact qF|exact qAF|exact qRF|exact qNF|exact qEF|exact qVF));(try simp only[yG,yH,yJ,yK]);(try simp only[Act.put,yA,yB,yC,yD,yE,yF]);with_reducible exact k.out):Qk P:=⟨h ⟨k.out⟩⟩
theorem zhFARNSWV{P Q:Prop}(k:Qk Q)(h:Kp Q→P:=by intro k;(with_reducible refine' hq_step ?_ ?_ ?_);rotate_left;rfl;(focus(intro w1 H1;first|exact qF|exact qAF|exact qRF|exact qNF|exact qSF|exact qWF|exact qVF));(try simp only[yG,yH,yJ,yK]);(try simp only[Act.put,yA,yB,yC,yD,yE,yF]);with_reducible exact k.out):Qk P:=⟨h ⟨k.out⟩⟩
theorem zhGT{P Q:Prop}(k:Qk Q)(h:Kp Q→P:=by intro k;(with_reducible refine hq_gwT ?_ ?_);rfl;with_reducible exact k.out):Qk P:=⟨h ⟨k.out⟩⟩
theorem zhST{P Q:Prop}(k:Qk Q)(h:Kp Q→P:=by intro k;(with_reducible refine hq_gsT ?_ ?_);rfl;(try simp only[Act.put,yA,yB,yC,yD,yE,yF]);with_reducible exact k.out):Qk P:=⟨h ⟨k.out⟩⟩
theorem zhGF{P Q:Prop}(k:Qk Q)(h:Kp Q→P:=by intro k;(with_reducible refine hq_gwF ?_ ?_);rfl;with_reducible exact k.out):Qk P:=⟨h ⟨k.out⟩⟩
theorem zhSF{P Q:Prop}(k:Qk Q)(h:Kp Q→P:=by intro k;(with_reducible refine hq_gsF ?_ ?_);rfl;(try simp only[Act.put,yA,yB,yC,yD,yE,yF]);with_reducible exact k.out):Qk P:=⟨h ⟨k.out⟩⟩
theorem zhSk{P Q:Prop}(k:Qk Q)(h:Kp Q→P:=by intro k;(with_reducible refine hq_skip ?_ ?_);rfl;(try simp only[Act.put,yA,yB,yC,yD,yE,yF]);with_reducible exact k.out):Qk P:=⟨h ⟨k.out⟩⟩
theorem zhv{P Q:Prop}(k:Q)(h:Kp Q→P:=by intro k;(with_reducible apply wpH_V);(focus rfl);(focus rfl);(focus(intro w1 H1;exact oF));simp only[Act.put,yA,yB,yC,yD,yE,yF];(try simp only[yG,yH,yJ,yK]);with_reducible exact k.out):P:=h ⟨k⟩
theorem bpF{P Q:Prop}(k:Q)(h:Kp Q→P:=by intro k;refine bp_cell H rfl rfl iF (by kernel_rfl) (by kernel_rfl) rfl (by first|exact .inl rfl|exact .inr rfl) ?_;with_reducible exact k.out):P:=h ⟨k⟩
theorem lcG{P:Prop}(h:P:=by refine locs ?_;intro vs1 vs2;(repeat(refine all_lt_succ ?_ (by first|exact(fun _=>rfl)|exact(fun _=>⟨rfl,rfl⟩)|(intro h;simp only[spec,Spec.same,yR,yS,Option.getD_some];(try rw[h 0 (by decide +kernel)]);(try rw[h 1 (by decide +kernel)]);(try rw[h 2 (by decide +kernel)]);(try rw[h 3 (by decide +kernel)]);(try rw[h 4 (by decide +kernel)]);(try rw[h 5 (by decide +kernel)]);(try rw[h 6 (by decide +kernel)]);(try rw[h 7 (by decide +kernel)]);(try rw[h 8 (by decide +kernel)]);(try rw[h 9 (by decide +kernel)]);(try rw[h 10 (by decide +kernel)]);(try rw[h 11 (by decide +kernel)]);(try rw[h 12 (by decide +kernel)]);(try rw[h 13 (by decide +kernel)]);(try rw[h 14 (by decide +kernel)]);(try rw[h 15 (by decide +kernel)]);(try rw[h 16 (by decide +kernel)]);(try rw[h 17 (by decide +kernel)]);(try rw[h 18 (by decide +kernel)]);(try rw[h 19 (by decide +kernel)]);(try rw[h 20 (by decide +kernel)]);(try rw[h 21 (by decide +kernel)]);(try rw[h 22 (by decide +kernel)]);(try rw[h 23 (by decide +kernel)]);(first|done|exact⟨rfl,rfl⟩|exact⟨trivial,rfl⟩|exact⟨rfl,trivial⟩)))));exact(fun k hk=>absurd hk (Nat.not_lt_zero k))):P:=h
theorem zU{P Q:Prop}(k:Q)(h:Kp Q→P:=by intro k;(first|((with_reducible apply st_load1 H);decide +kernel;rfl;exact cF;intro wn H;(try simp only[splice,yG,yH,yI,yJ,yK,yL,yM,yN,yO,yP,yQ,Nat.reduceAdd,yA,yB,yC] at H);simp only[Act.put,yA,yB,yC,yD,yE,yF];revert wn H)|((with_reducible apply st_loads H);decide +kernel;rfl;exact iF;exact zF;rfl;intro wn H;(try simp only[splice,yG,yH,yI,yJ,yK,yL,yM,yN,yO,yP,yQ,Nat.reduceAdd,yA,yB,yC] at H);simp only[Act.put,yA,yB,yC,yD,yE,yF];revert wn H)|((with_reducible apply st_store H);rfl;exact eF;(focus(exact cells_agg _));exact uF;kernel_rfl;(focus(exact Nat.le_of_ble_eq_true (by rfl)));(focus(first|rfl|simp));intro wn H;(try simp only[splice,yG,yH,yI,yJ,yK,yL,yM,yN,yO,yP,yQ,Nat.reduceAdd,yA,yB,yC] at H);simp only[Act.put,yA,yB,yC,yD,yE,yF];revert wn H)|((with_reducible apply st_storeown H);rfl;exact eF;(focus(exact(rfl:_ = [_])));exact uF;(focus omega);kernel_rfl;rfl;intro wn H;(try simp only[splice,yG,yH,yI,yJ,yK,yL,yM,yN,yO,yP,yQ,Nat.reduceAdd,yA,yB,yC] at H);simp only[Act.put,yA,yB,yC,yD,yE,yF];revert wn H)|((with_reducible apply st_strsum H);rfl;rfl;exact szF;kernel_rfl;intro wn H;simp only[Act.put,yA,yB,yC,yD,yE,yF];revert wn H)|((with_reducible apply st_eqLabz H);rfl;rfl;(focus assumption);intro wn H;simp only[Act.put,yA,yB,yC,yD,yE,yF];revert wn H)|((with_reducible apply st_neLabz H);rfl;rfl;(focus assumption);intro wn H;simp only[Act.put,yA,yB,yC,yD,yE,yF];revert wn H)|((with_reducible apply st_eqLab H);rfl;rfl;intro wn H;simp only[Act.put,yA,yB,yC,yD,yE,yF];revert wn H)|((with_reducible apply st_neLab H);rfl;rfl;intro wn H;simp only[Act.put,yA,yB,yC,yD,yE,yF];revert wn H)|((with_reducible apply st_loadat H);decide +kernel;rfl;exact aF;exact zF;rfl;intro wn H;simp only[Act.put,yA,yB,yC,yD,yE,yF];revert wn H)|((with_reducible apply st_storerow H);rfl;exact eF;(first|exact cells_agg _|exact cellI|exact cellS|exact cellB|exact(rfl:_ = [_]));exact uF;kernel_rfl;exact Nat.succ_pos _;exact fitF;rfl;intro wn H;simp only[Act.put,yA,yB,yC,yD,yE,yF];revert wn H));with_reducible exact k.out):P:=h ⟨k⟩
theorem zgU{P Q:Prop}(k:Q)(h:Kp Q→P:=by intro k;(first|((with_reducible refine st_gwT ?_ ?_);rfl;(try simp only[Act.put,yA,yB,yC,yD,yE,yF]))|((with_reducible refine st_gwF ?_ ?_);rfl;(try simp only[Act.put,yA,yB,yC,yD,yE,yF]))|((with_reducible refine st_gsT ?_ ?_);rfl;(try simp only[Act.put,yA,yB,yC,yD,yE,yF]))|((with_reducible refine st_gsF ?_ ?_);rfl;(try simp only[Act.put,yA,yB,yC,yD,yE,yF])));with_reducible exact k.out):P:=h ⟨k⟩
theorem zHz{P Q:Prop}(k:Q)(h:Kp Q→P:=by intro k;refine wpQuiet_nil ?_;with_reducible exact k.out):Qk P:=⟨h ⟨k⟩⟩
theorem zHq{P Q:Prop}(d:Nat)(k:Qk Q)(h:Nm d→Kp Q→P:=by intro nd k;(with_reducible apply wp_region_hqN nd H);kernel_rfl;kernel_rfl;with_reducible exact k.out):P:=h ⟨⟩ ⟨k.out⟩
