import Derived.Test.YtcabgibdkmgdlaaGreatJ2
import Derived.Test.YtcabgibdkmgdlaaGreatSo
import Derived.Laws.CopyRow
set_option linter.unusedSimpArgs false
set_option linter.unusedVariables false
set_option maxRecDepth 100000
set_option maxHeartbeats 4000000
namespace Go.Proofs.YtcabgibdkmgdlaaGreat
open Go.RowKit Go.Sort M
namespace M
theorem flatK_flat{α:Type}[Inhabited α]{enc:α→List Value}{k:Nat}(hk:∀x,(enc x).length=k)(d:Array α):flatK enc k d=(flat enc d.toList).toArray:=by
 have hl:(flat enc d.toList).length=d.size*k:=by rw[flat_length hk];simp
 refine ext_get! (by simp[hl]) fun t ht=>?_
 have ht':t<d.size*k:=by simpa using ht
 have k0:0<k:=by
  rcases Nat.eq_zero_or_pos k with h|h
  ·subst h;simp at ht'
  ·exact h
 have hq:t / k<d.size:=Nat.div_lt_of_lt_mul (by rw[Nat.mul_comm];exact ht')
 have hr:t%k<k:=Nat.mod_lt _ k0
 have e:t / k*k+t%k=t:=by rw[Nat.mul_comm];exact Nat.div_add_mod t k
 have h1:=flat_get hk d.toList (t / k) (t%k) d[t / k] (by simp[hq]) hr
 rw[e] at h1
 rw[get_flatK _ _ _ t ht',getElem!_pos d (t / k) hq,getElem!_pos (enc d[t / k]) (t%k) (by rw[hk];exact hr),getElem!_pos _ t (by simpa [hl] using ht')]
 have h2:(flat enc d.toList)[t]? = some ((flat enc d.toList)[t]'(by rw[hl];exact ht')):=List.getElem?_eq_getElem _
 rw[h2,List.getElem?_eq_getElem (by rw[hk];exact hr)] at h1
 injection h1 with h1
 simpa using h1.symm
end M
theorem sort_holds{w:World}{E:TypeId}{g n c:Nat}{l:List Lab}(ho:w.ownsRow 0 E 2 (.slice (some ⟨g,0,none⟩) n c) n (flat encLab l)):HoldsK encLab 2 w g 0 l.toArray:=by
 unfold HoldsK Holds
 intro j hj
 have hl:=ho.1
 rw[flatK_flat (enc:=encLab) (k:=2) (fun _=>rfl)] at hj ⊢
 have hj':j<(flat encLab l).length:=by simpa using hj
 rw[Nat.zero_add]
 refine⟨?_,ho.frozenAt j⟩
 rw[ho.cellAt j (by omega),List.getElem?_eq_getElem hj']
 congr 1
 rw[getElem!_pos _ j (by simpa using hj')]
 simp
theorem sort_world{w:World}{E:TypeId}{g n c:Nat}{xs:List Value}(ho:w.ownsRow 0 E 2 (.slice (some ⟨g,0,none⟩) n c) n xs)(d:Array Lab)(hd:d.size=n)(m:Nat)(os:Array Obj):
  (sortWorldK encLab 2 w g 0 m d os).ownsRow 0 E 2 (.slice (some ⟨g,0,none⟩) n c) n (flat encLab d.toList)∧Grow (· = g) w (sortWorldK encLab 2 w g 0 m d os):=by
 have hF:(flatK encLab 2 d)=(flat encLab d.toList).toArray:=flatK_flat (enc:=encLab) (k:=2) (fun _=>rfl) d
 have hl:(flat encLab d.toList).length=n*2:=by rw[flat_length (enc:=encLab) (s:=2) (fun _=>rfl)];simp[hd]
 rcases ho.2 with ⟨h,_⟩|⟨g2,cap,cur,hv,hb,hg,hnc,hcm,hcs,htake⟩
 ·cases h
 ·injection hv with e1 _ e3
  injection e1 with e1;injection e1 with e1 _ _
  subst e1 e3
  have hlt:g<w.heap.size:=by
   rcases Nat.lt_or_ge g w.heap.size with h|h
   ·exact h
   ·rw[Array.getElem?_eq_none h] at hg;cases hg
  have hle:n*2≤cur.size:=by rw[hcs];exact Nat.mul_le_mul_right _ hnc
  refine⟨⟨hl,.inr ⟨g,c,putCells id 0 (flatK encLab 2 d) cur,rfl,hb,?_,hnc,hcm,by simp[putCells,hcs],?_⟩⟩,⟨rfl,rfl,rfl,?_,?_⟩⟩
  ·unfold sortWorldK Sort.grow putRowK putRow mapBlock Sort.ahead
   simp only[Array.getElem?_append,Array.size_modify,hlt,if_true,Array.getElem?_modify]
   rw[hg]
   rfl
  ·refine List.ext_getElem? fun j=>?_
   rw[List.getElem?_take]
   split
   ·rename_i hj
    rw[Array.getElem?_toList]
    unfold putCells
    rw[Array.getElem?_mapIdx,Array.getElem?_eq_getElem (show j<cur.size by omega)]
    simp only[Option.map_some,Nat.zero_le,true_and,Nat.zero_add,Nat.sub_zero,id]
    rw[hF,if_pos (by simpa [hl] using hj),getElem!_pos _ j (by simpa [hl] using hj),List.getElem?_eq_getElem (by rw[hl];exact hj)]
    simp
   ·rw[List.getElem?_eq_none (by rw[hl];omega)]
  ·simp[sortWorldK,Sort.grow,putRowK,putRow,mapBlock,Sort.ahead]
  ·intro k hk hne
   unfold sortWorldK Sort.grow putRowK putRow mapBlock Sort.ahead
   simp only[Array.getElem?_append,Array.size_modify,hk,if_true,Array.getElem?_modify]
   rw[if_neg (fun e=>hne e.symm)]
namespace M
def leL(a b:Lab):Bool:=!(Go.Proofs.ltOf (fun x y=>cmpL x y) b a)
def sortL(l:List Lab):List Lab:=l.mergeSort leL
end M
namespace M
theorem ltL_iff(a b:Lab):Go.Proofs.ltOf (fun x y=>cmpL x y) a b=true↔(a.1<b.1∨(a.1=b.1∧a.2<b.2)):=by
 unfold Go.Proofs.ltOf cmpL
 by_cases h1:a.1<b.1
 ·simp[h1]
 ·by_cases h2:b.1<a.1
  ·simp[h1,h2];omega
  ·have h3:a.1=b.1:=by omega
   by_cases h4:a.2<b.2
   ·simp[h3,h4]
   ·by_cases h5:b.2<a.2
    ·simp[h3,h4,h5]
    ·simp[h3,h4,h5]
theorem ltL_false(a b:Lab):Go.Proofs.ltOf (fun x y=>cmpL x y) a b=false ↔ ¬(a.1<b.1∨(a.1=b.1∧a.2<b.2)):=by
 rw[←ltL_iff,Bool.not_eq_true]
theorem swoL:SWO (Go.Proofs.ltOf fun x y:Lab=>cmpL x y) where
 irrefl x:=by rw[ltL_false];omega
 trans x y z h1 h2:=by rw[ltL_iff] at *;omega
 ntrans x y z h1 h2:=by rw[ltL_false] at *;omega
theorem totL(x y:Lab)(h1:Go.Proofs.ltOf (fun x y=>cmpL x y) x y=false)(h2:Go.Proofs.ltOf (fun x y=>cmpL x y) y x=false):x=y:=by
 rw[ltL_false] at *
 exact Prod.ext (by omega) (by omega)
theorem sortL_len(l:List Lab):(sortL l).length=l.length:=List.length_mergeSort ..
end M
theorem sort_Lab(g n c:Nat)(l:List Lab)(hn:n=l.length)(h0:0<n)(hn9:n≤1000000000)(R:Nat→Prop)(w0:World)(L:List Hl)(w:World)(H:Hs R w0 (Hl.row 123 2 (.slice (some ⟨g,0,none⟩) n c) n (flat encLab l)::L) w):
  Calls Tryz.prog 139 #[.slice (some ⟨g,0,none⟩) n c,.func (.func 140) #[] #[]] w fun e w'=>e = .returned (.tuple #[])∧Hs R w0 (Hl.row 123 2 (.slice (some ⟨g,0,none⟩) n c) n (flat encLab (sortL l))::L) w':=by
 obtain⟨g',c',hv,ho⟩:=(H.rows .here).form h0
 injection hv with e1 _ e3
 injection e1 with e1;injection e1 with e1 _ _
 subst e1 e3
 have eg:∀args w,(callFunc 140 args).run Tryz.prog w = .ok (.enter 140 args) w:=enters_of Tryz.func140 (by kernel_rfl) rfl
 have aE:∀w,(isAgg 123).run Tryz.prog w = .ok true w:=isAgg_run (by decide +kernel)
 have zE:∀w,(Go.sizeOf 123).run Tryz.prog w = .ok 2 w:=sizeOf_run (by decide +kernel)
 have hcmp:CmpLays Tryz.prog 140 #[] encLab 2 (fun x y=>cmpL x y) g 0 l.toArray.size w:=fun m os dk _ x y=>compareLabels_grow x y _
 have hcon:=AnyQ.slices_SortFunc_total Tryz.sortL 2 aE zE encLab (fun _=>rfl) encLab_one (fun x y=>cmpL x y) swoL 140 #[] g 0 c l.toArray w eg hcmp (sort_holds ho) ((H.rows .here).form h0 |>.elim fun _ h=>h.elim fun _ h=>(h.2.lt g (by rfl)).2) (by simp;omega) totL
 change Calls Tryz.prog 139 _ _ _ at hcon
 rw[List.size_toArray,←hn] at hcon
 refine hcon.mono fun e w' ⟨he,m,os,hw⟩=>⟨he,?_⟩
 subst hw
 have hsz:(sortL l).toArray.size=n:=by rw[List.size_toArray,sortL_len,hn]
 obtain⟨h1,h2⟩:=sort_world ho (sortL l).toArray hsz m os
 have hb:rowBlock (Value.slice (some ⟨g,0,none⟩) n c)=some g:=by
  have:n≤c:=by obtain⟨_,_,hs,h3,_⟩:=(H.rows .here).slice;injection hs with _ _ hs;omega
  obtain⟨c2,rfl⟩:∃c2,c=c2+1:=⟨c-1,by omega⟩
  rfl
 exact H.turn Upd.here (h2.mono (fun b hb2=>by subst hb2;exact hb)) (rowOk_of_own h1) (fun b h => .inl h)
end Go.Proofs.YtcabgibdkmgdlaaGreat
namespace Go.Proofs.YtcabgibdkmgdlaaGreat
open Go.RowKit M
namespace M
def compUp(l:List Lab):Nat→List Lab
 | 0=>[]
 | i+1=>compUp l i++match l[i]? with
  | some x=>if i=0 then [x] else if l[i-1]? = some x then [] else [x]
  | none=>[]
theorem comp_one{l:List Lab}(h:0<l.length):compUp l 1=l.take 1:=by
 cases l with
 | nil=>simp at h
 | cons a l=>simp[compUp]
theorem comp_step{l:List Lab}{i:Nat}{x y:Lab}(h1:l[i]? = some x)(h2:l[i+1]? = some y):compUp l (i+2)=compUp l (i+1)++if eqB y x=true then [] else [y]:=by
 rw[show compUp l (i+2)=compUp l (i+1)++(match l[i+1]? with|some x=>if i+1=0 then [x] else if l[i+1-1]? = some x then [] else [x]|none=>[]) from rfl,h2]
 congr 1
 simp only[Nat.add_one_ne_zero,if_false,Nat.add_sub_cancel,h1,Option.some.injEq]
 by_cases h:x=y
 ·rw[if_pos h,if_pos (eqB_iff.2 h.symm)]
 ·rw[if_neg h,if_neg (fun e=>h (eqB_iff.1 e).symm)]
theorem take_set{l:List Lab}{k:Nat}{y:Lab}(h:k<l.length):(l.set k y).take (k+1)=l.take k ++ [y]:=by
 rw[List.take_succ_eq_append_getElem (by rw[List.length_set];exact h),List.getElem_set_self,List.take_set_of_le (Nat.le_refl _)]
theorem flat_set{l:List Lab}{k:Nat}{y:Lab}(h:k<l.length):spl (flat encLab l) (k*2) (encLab y)=flat encLab (l.set k y):=by
 have e:l=l.take k++(l[k]::l.drop (k+1)):=by rw[←List.drop_eq_getElem_cons h,List.take_append_drop]
 have e2:l.set k y=l.take k++(y::l.drop (k+1)):=List.set_eq_take_append_cons_drop.trans (by rw[if_pos h])
 rw[e2,flat_append,flat_cons]
 conv=>lhs;rw[e,flat_append,flat_cons]
 exact spl_mid _ _ _ _ (by rw[flat_length (enc:=encLab) (s:=2) (fun _=>rfl),List.length_take,Nat.min_eq_left (Nat.le_of_lt h)]) rfl
theorem flat_seg{l:List Lab}{k:Nat}{y:Lab}(h:l[k]? = some y):Seg (flat encLab l) (k*2) (encLab y):=by
 obtain⟨hlt,rfl⟩:=List.getElem?_eq_some_iff.1 h
 have e:l=l.take k++(l[k]::l.drop (k+1)):=by rw[←List.drop_eq_getElem_cons hlt,List.take_append_drop]
 have h2:=seg_mid (flat encLab (l.take k)) (encLab l[k]) (flat encLab (l.drop (k+1))) (off:=k*2) (by rw[flat_length (enc:=encLab) (s:=2) (fun _=>rfl),List.length_take,Nat.min_eq_left (Nat.le_of_lt hlt)])
 rw[←flat_cons,←flat_append,←e] at h2
 exact h2
theorem flat_takeL(l:List Lab)(k:Nat):(flat encLab l).take (k*2)=flat encLab (l.take k):=by
 rcases Nat.lt_or_ge k l.length with h|h
 ·have e:flat encLab l=flat encLab (l.take k)++flat encLab (l.drop k):=by rw[←flat_append,List.take_append_drop]
  have hl:(flat encLab (l.take k)).length=k*2:=by rw[flat_length (enc:=encLab) (s:=2) (fun _=>rfl),List.length_take,Nat.min_eq_left (Nat.le_of_lt h)]
  rw[e,←hl,List.take_left]
 ·rw[List.take_of_length_le (by rw[flat_length (enc:=encLab) (s:=2) (fun _=>rfl)];exact Nat.mul_le_mul_right _ h),List.take_of_length_le h]
theorem spl_take{xs vs:List Value}{off:Nat}(h:off≤xs.length):(spl xs off vs).take off=xs.take off:=by
 unfold spl
 rw[List.append_assoc,List.take_append,List.length_take,Nat.min_eq_left h,Nat.sub_self,List.take_zero,List.append_nil,List.take_take,Nat.min_self]
end M
section
variable {P:Program}
def clrT(P:Program)(t E:TypeId)(s:Nat):Bool:=appT P t E s&&(match P.info? E with|some i=>(match i.zero with|some z=>z.cells.all (·.oneCell')|none=>false)|none=>false)
theorem run_clearrow{t ty E:TypeId}{w:World}{g off s n c m d:Nat}{xs:List Value}(hT:clrT P t E s=true)(ho:rowOk w E s (.slice (some ⟨g,0,none⟩) n c) n xs)(hm:0<m)(hl:off+m*s≤xs.length):
  ∃zs w',(Builtin.clear_ #[t] ty #[.slice (some ⟨g,off,none⟩) m d]).run P w = .ok (.tuple #[]) w'∧zs.length=m*s∧rowOk w' E s (.slice (some ⟨g,0,none⟩) n c) n (spl xs off zs)∧Grow (fun b=>rowBlock (.slice (some ⟨g,0,none⟩) n c)=some b) w w':=by
 unfold clrT at hT
 rw[Bool.and_eq_true] at hT
 obtain⟨i,z,ht,hi,hz,h2,h3,h4,h5⟩:=appT_spec hT.1
 have hone:z.cells.all (·.oneCell')=true:=by have:=hT.2;rw[hi] at this;simpa [hz] using this
 have hzl:(Builtin.zeroCells z.cells m).toList.length=m*s:=by rw[Array.length_toList,size_zeroCells,h4]
 have hz1:∀v ∈ (Builtin.zeroCells z.cells m).toList,v.oneCell'=true:=by
  intro v hv
  unfold Builtin.zeroCells at hv
  simp only[Array.toList_map,List.mem_map] at hv
  obtain⟨j,_,rfl⟩:=hv
  have hj:j%z.cells.size<z.cells.size:=Nat.mod_lt _ (by omega)
  rw[getElem!_pos z.cells _ hj]
  exact(Array.all_eq_true.1 hone) _ hj
 have hms:0<m*s:=Nat.mul_pos hm h5
 rcases ho with ⟨_,rfl,_⟩|⟨g',c',hv',ho⟩
 ·rw[List.length_nil] at hl;omega
 ·injection hv' with e1 _ e3
  injection e1 with e1;injection e1 with e1 _ _
  subst e1 e3
  rcases ho.2 with ⟨h,_⟩|⟨g2,cap,cur,hv2,hb,hg,hnc,hcm,hcs,htake⟩
  ·cases h
  ·injection hv2 with e1 _ e3
   injection e1 with e1;injection e1 with e1 _ _
   subst e1 e3
   have hle:n*s≤cur.size:=by rw[hcs];exact Nat.mul_le_mul_right _ hnc
   have hon:=ho.1
   have hr:=run_storeCells_at P g off E (Builtin.zeroCells z.cells m).toList 0 cur w hg (by rw[hzl];omega) hz1
   rw[Nat.add_zero] at hr
   have hlen:(spl xs off (Builtin.zeroCells z.cells m).toList).length=n*s:=by rw[spl_len (by rw[hzl];exact hl)];exact hon
   obtain⟨m',rfl⟩:∃m',m=m'+1:=⟨m-1,by omega⟩
   refine⟨_,w.setRow g (splice cur off (Builtin.zeroCells z.cells (m'+1)).toList),?_,hzl,.inr ⟨g,c',rfl,hlen,.inr ⟨g,c'+1,_,rfl,hb,setRow_heap w g cur _ E _ hg,hnc,hcm,?_,splice_take htake hon (by rw[hzl];omega)⟩⟩,(Grow.setRow w g _).mono (fun b hb=>by subst hb;rfl)⟩
   ·simp[Builtin.clear_,run_underlying ht,zeroValue,typeInfo,hi,hz,hr,splice]
   ·unfold splice
    simp only[List.size_toArray,List.length_append,List.length_take,List.length_drop,hzl,Array.length_toList]
    omega
theorem st_clear{R:Nat→Prop}{w0 w:World}{L:List Hl}{a:Act}{ops:Array Oper}{Q:Exit→Act→World→Prop}{rest:List Oper}{dst:Option Tmp}{ty:TypeId}{pos:String}{aft:Array Edge}{x:Operand}{t E:TypeId}{g off s n c m d:Nat}{xs:List Value}
  (H:Hs R w0 (Hl.row E s (.slice (some ⟨g,0,none⟩) n c) n xs::L) w) (hx:a.eval x = .slice (some ⟨g,off,none⟩) m d) (hT:clrT P t E s=true) (hm:0<m) (hl:off+m*s≤xs.length)
  (k:∀zs w',zs.length=m*s→Hs R w0 (Hl.row E s (.slice (some ⟨g,0,none⟩) n c) n (spl xs off zs)::L) w'→wpList P ops Q rest (a.put dst (.tuple #[])) w') :
  wpList P ops Q (⟨dst,.call ⟨.builtin .clear,#[x],#[t]⟩,ty,pos,aft,none⟩::rest) a w:=by
 refine wpList_plain rfl fun K hK=>?_
 obtain⟨zs,w',hr,hz,ho,hg⟩:=run_clearrow (ty:=ty) (d:=d) hT (H.rows .here) hm hl
 unfold Oper.wp execOp
 simp only[resolve,invoke,builtin,Sem.run_bind,Sem.run_pure,Result.andThen_ok,List.map_toArray,List.map_cons,List.map_nil,hx,hr]
 exact hK _ _ (k zs w' hz (H.turn Upd.here hg ho (fun b hb => .inl hb)))
theorem Hs.shrinkRow{R:Nat→Prop}{w0 w:World}{L:List Hl}{E:TypeId}{s n m g c:Nat}{zs:List Value}(H:Hs R w0 (Hl.row E s (.slice (some ⟨g,0,none⟩) n c) n zs::L) w)(hm:m≤n)(h0:0<n):
  Hs R w0 (Hl.row E s (.slice (some ⟨g,0,none⟩) m c) m (zs.take (m*s))::L) w:=by
 rcases H.rows .here with ⟨h,_⟩|⟨g',c',hv',ho⟩
 ·omega
 ·injection hv' with e1 _ e3
  injection e1 with e1;injection e1 with e1 _ _
  subst e1 e3
  refine H.turn Upd.here ((Grow.refl noRow w).mono (fun _ f=>f.elim)) (rowOk_of_own ?_) (fun b hb => .inl hb)
  rcases ho.2 with ⟨h,_⟩|⟨g2,cap,cur,hv,hb,hg,hnc,hcm,hcs,htake⟩
  ·cases h
  ·injection hv with e1 _ e3
   injection e1 with e1;injection e1 with e1 _ _
   subst e1 e3
   have hle:m*s≤n*s:=Nat.mul_le_mul_right _ hm
   have hon:=ho.1
   refine⟨by rw[List.length_take];omega,.inr ⟨g,c'+1,cur,rfl,hb,hg,Nat.le_trans hm hnc,hcm,hcs,?_⟩⟩
   rw[←htake,List.take_take,Nat.min_eq_left hle]
end
theorem qRF{P:Prop}(h:P:=by (with_reducible apply q_loadat);(focus rfl);(focus decide +kernel);(focus exact(At.row H1 In.here (by assumption)));(focus exact zF);(focus rfl)):P:=h
def CPost(g c:Nat)(r:List Lab)(R:Nat→Prop)(w0:World)(L:List Hl):Ending→World→Prop:=fun e w'=>e = .returned (.slice (some ⟨g,0,none⟩) r.length c)∧Hs R w0 (Hl.row 123 2 (.slice (some ⟨g,0,none⟩) r.length c) r.length (flat encLab r)::L) w'
theorem compact_Lab(g n c:Nat)(l:List Lab)(hn:n=l.length)(h0:0<n)(hn9:n≤1000000000)(hnc:n≤c)(R:Nat→Prop)(w0:World)(L:List Hl)(w:World)(H:Hs R w0 (Hl.row 123 2 (.slice (some ⟨g,0,none⟩) n c) n (flat encLab l)::L) w):
  Calls Tryz.prog 141 #[.slice (some ⟨g,0,none⟩) n c] w (CPost g c (compUp l n) R w0 L):=by
 have HN:=hY hn
 by_cases h2:n<2
 ·obtain rfl:n=1:=by omega
  have HE:Hid (compUp l 1=l):=hY (by rw[comp_one (by omega),List.take_of_length_le (by omega)])
  rw[HE.out]
  have HL:Hid (l.length=1):=hY hn.symm
  clear hn
  go_enter Tryz.func141,Tryz.ntmps141
  go_wp2_with (fail)
  go_ret
  exact⟨by rw[HL.out];rfl,by rw[HL.out];exact H⟩
 have h3:¬(n:Int)<2:=by omega
 clear hn
 go_enter Tryz.func141,Tryz.ntmps141
 go_wp2_with (fail)
 go_loopg [3] (n-1) (fun m kv wr=>∃(i:Nat),i+1+m=n∧kv = .int .i64 (i+1:Nat)∧Hid (compUp l (i+1)=l.take (i+1))∧Hs R w0 (Hl.row 123 2 (.slice (some ⟨g,0,none⟩) n c) n (flat encLab l)::L) wr)
 case atStart=>exact⟨0,by omega,rfl,hY (comp_one (by rw[←HN.out];exact h0)),H⟩
 case round=>
  clear H
  obtain⟨i,hi,rfl,HI,H⟩:=hrel
  by_cases hlt:i+1<n
  ·obtain ⟨x,hx⟩:=atE (i:=i) HN (by omega)
   obtain⟨y,hy⟩:∃y,l[i+1]? = some y:=⟨l[i+1]'(by rw[←HN.out];omega),List.getElem?_eq_getElem (by rw[←HN.out];omega)⟩
   have hstep:=comp_step hx hy
   have hlt1:(i:Int)+1<n:=by omega
   have hlt2:i<n:=by omega
   obtain⟨x1,x2⟩:=x
   obtain⟨y1,y2⟩:=y
   have s1:Seg (flat encLab l) (i*2) [.int .i64 x1,.int .i64 x2]:=flat_seg hx
   have s2:Seg (flat encLab l) ((i+1)*2) [.int .i64 y1,.int .i64 y2]:=flat_seg hy
   have HX:=hY hx
   have HY:=hY hy
   clear hx hy
   cases hpx:eqB (y1,y2) (x1,x2)
   ·rw[hpx] at hstep
    have HI2:Hid (compUp l (i+1+1)=l.take (i+1+1)):=hY (by
     obtain⟨hl,e⟩:=List.getElem?_eq_some_iff.1 HY.out
     rw[hstep,HI.out,List.take_succ_eq_append_getElem hl,e];rfl)
    clear hstep
    go_wp2_with (refine zHq 6 ?_;(iterate 10 (all_goals(refine zhREWV ?_)));all_goals(refine zHz ?_;clear H;intro wn H))
    go_roundg (n-(i+1+1))
    case measure=>omega
    case rel=>exact⟨i+1,by omega,by go_num,HI2,H⟩
   ·rw[hpx] at hstep
    have HI2:Hid (compUp l (i+1+1)=l.take (i+1)):=hY (by rw[hstep,HI.out];simp)
    clear hstep
    go_wp2_with (refine zHq 6 ?_;(iterate 10 (all_goals(refine zhREWV ?_)));all_goals(refine zHz ?_;clear H;intro wn H))
    clear hpx s1 s2
    generalize hp:n-(i+1)=p
    generalize c-(i+1)=d
    have hp0:i+1+p=n:=by omega
    clear hp
    go_loopg [3,5] (p-1) (fun m kv jv wr=>∃(k j:Nat) (ys:List Lab),j+1+m=p∧k≤i+1+j∧jv = .int .i64 (j+1:Nat)∧kv = .int .i64 k∧Hid (ys.length=n∧compUp l (i+1+j+1)=ys.take k ∧ ∀t,i+1+j≤t→ys[t]? = l[t]?)∧Hs R w0 (Hl.row 123 2 (.slice (some ⟨g,0,none⟩) n c) n (flat encLab ys)::L) wr)
    case atStart=>exact⟨i+1,0,l,by omega,by omega,rfl,by go_num,hY ⟨HN.out.symm,HI2.out,fun _ _=>rfl⟩,H⟩
    case round=>
     clear H HX HY
     obtain⟨k,j,ys,hj,hk,rfl,rfl,HJ,H⟩:=hrel
     have hkn:k<n:=by omega
     have hfl:(flat encLab ys).length=n*2:=by rw[flat_length (enc:=encLab) (s:=2) (fun _=>rfl),HJ.out.1]
     by_cases hjp:j+1<p
     ·obtain ⟨x,hx⟩:∃x,l[i+1+j]? = some x:=⟨l[i+1+j]'(by rw[←HN.out];omega),List.getElem?_eq_getElem (by rw[←HN.out];omega)⟩
      obtain⟨y,hy⟩:∃y,l[i+1+j+1]? = some y:=⟨l[i+1+j+1]'(by rw[←HN.out];omega),List.getElem?_eq_getElem (by rw[←HN.out];omega)⟩
      have hstep:=comp_step hx hy
      obtain⟨x1,x2⟩:=x
      obtain⟨y1,y2⟩:=y
      have s1:Seg (flat encLab ys) ((i+1)*2+j*2) [.int .i64 x1,.int .i64 x2]:=by
       have h:=flat_seg ((HJ.out.2.2 _ (Nat.le_refl _)).trans hx)
       rw[show (i+1+j)*2=(i+1)*2+j*2 by omega] at h
       exact h
      have s2:Seg (flat encLab ys) ((i+1)*2+(j+1)*2) [.int .i64 y1,.int .i64 y2]:=by
       have h:=flat_seg ((HJ.out.2.2 _ (by omega)).trans hy)
       rw[show (i+1+j+1)*2=(i+1)*2+(j+1)*2 by omega] at h
       exact h
      have HX:=hY hx
      have HY:=hY hy
      have hlt3:(j:Int)+1<p:=by omega
      have hlt4:j<p:=by omega
      have hlt5:(k:Int)<n:=by omega
      have hfit:k*2+2≤(flat encLab ys).length:=by omega
      clear hx hy hfl
      cases hpx:eqB (y1,y2) (x1,x2)
      ·rw[hpx] at hstep
       have HS:Hid (spl (flat encLab ys) (k*2) [.int .i64 y1,.int .i64 y2]=flat encLab (ys.set k (y1,y2))):=hY (flat_set (y:=(y1,y2)) (by rw[HJ.out.1];exact hkn))
       have HJ2:Hid ((ys.set k (y1,y2)).length=n∧compUp l (i+1+(j+1)+1)=(ys.set k (y1,y2)).take (k+1) ∧ ∀t,i+1+(j+1)≤t→(ys.set k (y1,y2))[t]? = l[t]?):=hY
        ⟨by rw[List.length_set];exact HJ.out.1,by rw[take_set (by rw[HJ.out.1];exact hkn),←HJ.out.2.1];exact hstep,fun t ht=>by rw[List.getElem?_set_ne (by omega)];exact HJ.out.2.2 t (by omega)⟩
       clear hstep
       go_wp2_with (first|(refine zR ?_;clear H;intro wn H)|((with_reducible apply st_loadat H);decide +kernel;rfl;(focus exact(At.row H In.here (by assumption)));exact zF;rfl;clear H;intro wn H;refine zp ?_)|(refine zHq 11 ?_;(iterate 10 (all_goals(refine zhREWV ?_)));all_goals(refine zHz ?_;clear H;intro wn H)))
       rw[HS.out] at H
       go_roundg (p-(j+1+1))
       case measure=>omega
       case rel=>exact⟨k+1,j+1,_,by omega,by omega,by go_num,by go_num,HJ2,H⟩
      ·rw[hpx] at hstep
       have HJ2:Hid (ys.length=n∧compUp l (i+1+(j+1)+1)=ys.take k ∧ ∀t,i+1+(j+1)≤t→ys[t]? = l[t]?):=hY
        ⟨HJ.out.1,by rw[←HJ.out.2.1];exact hstep.trans (List.append_nil _),fun t ht=>HJ.out.2.2 t (by omega)⟩
       clear hstep
       go_wp2_with (refine zHq 11 ?_;(iterate 10 (all_goals(refine zhREWV ?_)));all_goals(refine zHz ?_;clear H;intro wn H))
       go_roundg (p-(j+1+1))
       case measure=>omega
       case rel=>exact⟨k,j+1,_,by omega,by omega,by go_num,by go_num,HJ2,H⟩
     ·obtain rfl:p=j+1:=by omega
      have hlt3:¬(j:Int)+1<(j:Int)+1:=by omega
      have hlt5:(k:Int)≤n:=by omega
      have hlt6:k≤n:=by omega
      have hlt7:(k:Int)≤c:=by omega
      have hlt8:k≤c:=by omega
      have hfit:k*2+(n-k)*2≤(flat encLab ys).length:=by omega
      have hE:Hid (compUp l n=ys.take k∧k=(compUp l n).length):=hY (by
       have h:=HJ.out.2.1
       rw[show i+1+j+1=n by omega] at h
       exact⟨h,by rw[h,List.length_take,HJ.out.1];omega⟩)
      clear hfl
      go_wp2_with ((with_reducible apply st_clear H);rfl;kernel_rfl;(focus omega);(focus assumption);clear H;intro zs wn hz H;refine zp ?_)
      have H2:=H.shrinkRow (m:=k) (by omega) (by omega)
      rw[spl_take (by omega),flat_takeL,←hE.out.1] at H2
      go_ret
      exact⟨by rw[←hE.out.2];rfl,by rw[←hE.out.2];exact H2⟩
  ·obtain rfl:i+1=n:=by omega
   have hlt1:¬(i:Int)+1<(i:Int)+1:=by omega
   have HE:Hid (compUp l (i+1)=l):=hY (by rw[HI.out,(tkl HN)])
   have HL:Hid (l.length=i+1):=hY HN.out.symm
   clear HI
   go_wp2_with (fail)
   go_ret
   exact⟨by rw[HE.out,HL.out];rfl,by rw[HE.out,HL.out];exact H⟩
end Go.Proofs.YtcabgibdkmgdlaaGreat
namespace Go.Proofs.YtcabgibdkmgdlaaGreat
open Go.RowKit M
namespace M
def ltP(a b:Lab):Prop:=a.1<b.1∨(a.1=b.1∧a.2<b.2)
instance (a b:Lab):Decidable (ltP a b):=inferInstanceAs (Decidable (_∨_))
theorem leL_iff(a b:Lab):leL a b=true ↔ ¬ltP b a:=by
 unfold leL
 rw[Bool.not_eq_true',ltL_false]
 rfl
theorem strict_eq:∀(l r:List Lab),l.Pairwise ltP→r.Pairwise ltP→(∀x,x ∈ l↔x ∈ r)→l=r
 | [],[],_,_,_=>rfl
 | [],b::s,_,_,h=>absurd ((h b).2 (List.mem_cons_self ..)) List.not_mem_nil
 | a::l,[],_,_,h=>absurd ((h a).1 (List.mem_cons_self ..)) List.not_mem_nil
 | a::l,b::r,h1,h2,h=>by
  rw[List.pairwise_cons] at h1 h2
  have e:a=b:=by
   rcases List.mem_cons.1 ((h a).1 (List.mem_cons_self ..)) with e|e
   ·exact e
   ·rcases List.mem_cons.1 ((h b).2 (List.mem_cons_self ..)) with e2|e2
    ·exact e2.symm
    ·have h3:=h1.1 b e2
     have h4:=h2.1 a e
     unfold ltP at h3 h4
     omega
  subst e
  congr 1
  refine strict_eq l r h1.2 h2.2 fun x=>⟨fun hx=>?_,fun hx=>?_⟩
  ·rcases List.mem_cons.1 ((h x).1 (List.mem_cons_of_mem _ hx)) with e|e
   ·subst e
    have:=h1.1 x hx
    unfold ltP at this
    omega
   ·exact e
  ·rcases List.mem_cons.1 ((h x).2 (List.mem_cons_of_mem _ hx)) with e|e
   ·subst e
    have:=h2.1 x hx
    unfold ltP at this
    omega
   ·exact e
theorem comp_spec(s:List Lab)(hs:s.Pairwise fun a b=>leL a b=true):∀i,i≤s.length→(compUp s i).Pairwise ltP ∧ ∀x,x ∈ compUp s i↔x ∈ s.take i
 | 0,_=>⟨List.Pairwise.nil,fun x=>by simp[compUp]⟩
 | 1,h=>by
  rw[comp_one (by omega)]
  refine⟨?_,fun _=>Iff.rfl⟩
  cases s with
  | nil=>exact List.Pairwise.nil
  | cons a s=>exact List.pairwise_singleton _ _
 | i+2,h=>by
  obtain⟨h1,h2⟩:=comp_spec s hs (i+1) (by omega)
  have hx:s[i]? = some (s[i]'(by omega)):=List.getElem?_eq_getElem (by omega)
  have hy:s[i+1]? = some (s[i+1]'(by omega)):=List.getElem?_eq_getElem (by omega)
  rw[comp_step hx hy,List.take_succ_eq_append_getElem (i:=i+1) (by omega)]
  have hix:s[i]'(by omega) ∈ s.take (i+1):=List.mem_of_getElem? (i:=i) (by rw[List.getElem?_take,if_pos (by omega)];exact hx)
  by_cases e:eqB (s[i+1]'(by omega)) (s[i]'(by omega))=true
  ·rw[if_pos e,List.append_nil]
   refine⟨h1,fun x=>?_⟩
   rw[List.mem_append,h2,List.mem_singleton]
   constructor
   ·exact .inl
   ·rintro (h|rfl)
    ·exact h
    ·rw[eqB_iff.1 e];exact hix
  ·rw[if_neg e]
   refine⟨?_,fun x=>by rw[List.mem_append,List.mem_append,h2]⟩
   rw[List.pairwise_append]
   refine⟨h1,List.pairwise_singleton _ _,fun a ha b hb=>?_⟩
   obtain rfl:=List.mem_singleton.1 hb
   have ha':=(h2 a).1 ha
   obtain⟨j,hj,rfl⟩:=List.mem_iff_getElem.1 ha'
   rw[List.length_take] at hj
   rw[List.getElem_take]
   have hp:=List.pairwise_iff_getElem.1 hs
   have h3:=(leL_iff _ _).1 (hp i (i+1) (by omega) (by omega) (by omega))
   have h4:ltP (s[i]'(by omega)) (s[i+1]'(by omega)):=by
    have hne:¬s[i+1]'(by omega)=s[i]'(by omega):=fun h=>e (eqB_iff.2 h)
    rw[Prod.ext_iff] at hne
    unfold ltP at h3 ⊢
    omega
   rcases Nat.lt_or_ge j i with h5|h5
   ·have h6:=(leL_iff _ _).1 (hp j i (by omega) (by omega) h5)
    unfold ltP at h4 h6 ⊢
    omega
   ·obtain rfl:j=i:=by omega
    exact h4
theorem sortL_sorted(l:List Lab):(sortL l).Pairwise fun a b=>leL a b=true:=by
 unfold sortL
 refine List.pairwise_mergeSort ?_ ?_ l
 ·intro a b c h1 h2
  rw[leL_iff] at *
  unfold ltP at *
  omega
 ·intro a b
  rw[Bool.or_eq_true,leL_iff,leL_iff]
  unfold ltP
  omega
theorem labsAll_sorted:labsAll.Pairwise ltP:=by decide +kernel
theorem labsAll_mem{a:Lab}(h:okL a=true):a ∈ labsAll:=by
 unfold okL labelOk isIn at h
 simp only[Bool.and_eq_true,decide_eq_true_eq] at h
 obtain⟨a1,a2⟩:=a
 obtain⟨x,hx⟩:∃x:Nat,a1=x:=⟨a1.toNat,by simp only at h;omega⟩
 obtain⟨y,hy⟩:∃y:Nat,a2=y:=⟨a2.toNat,by simp only at h;omega⟩
 subst hx hy
 simp only at h
 have h1:=labsAll_at (8*x+y) (by omega)
 rw[show (8*x+y) / 8=x by omega,show (8*x+y)%8=y by omega] at h1
 exact List.mem_of_getElem? h1
theorem clear_ok{l:List (List Lab)}(h:clearOk l=true):l.all chainOk=true∧1≤l.length∧l.length≤6:=by
 unfold clearOk at h
 simp only[Bool.and_eq_true,decide_eq_true_eq] at h
 exact⟨h.2,h.1⟩
theorem clear_labs{l:List (List Lab)}(h:clearOk l=true):∀a ∈ l.flatten,okL a=true:=by
 intro a ha
 obtain⟨x,hx,hax⟩:=List.mem_flatten.1 ha
 have h1:=List.all_eq_true.1 (clear_ok h).1 x hx
 unfold chainOk at h1
 simp only[Bool.and_eq_true] at h1
 exact List.all_eq_true.1 h1.2.1 a hax
theorem comp_labels{l:List (List Lab)}(h:clearOk l=true):compUp (sortL l.flatten) l.flatten.length=labelsOf l:=by
 have h0:=comp_spec (sortL l.flatten) (sortL_sorted _) l.flatten.length (by rw[sortL_len];exact Nat.le_refl _)
 rw[List.take_of_length_le (by rw[sortL_len];exact Nat.le_refl _)] at h0
 refine strict_eq _ _ h0.1 (labsAll_sorted.filter _) fun x=>?_
 rw[h0.2]
 unfold sortL labelsOf
 rw[List.mem_mergeSort,List.mem_filter,List.any_eq_true]
 constructor
 ·intro hx
  obtain⟨y,hy,hxy⟩:=List.mem_flatten.1 hx
  exact⟨labsAll_mem (clear_labs h x hx),y,hy,hasL_iff.2 hxy⟩
 ·rintro ⟨_,y,hy,hxy⟩
  exact List.mem_flatten.2 ⟨y,hy,hasL_iff.1 hxy⟩
theorem flatten_le(k:Nat):∀l:List (List Lab),(∀x ∈ l,x.length≤k)→l.flatten.length≤k*l.length
 | [],_=>Nat.zero_le _
 | x::l,h=>by
  have h1:=flatten_le k l fun y hy=>h y (List.mem_cons_of_mem _ hy)
  have h2:=h x (List.mem_cons_self ..)
  rw[List.flatten_cons,List.length_append,List.length_cons,Nat.mul_succ]
  omega
theorem clear_len{l:List (List Lab)}(h:clearOk l=true):0<l.flatten.length∧l.flatten.length≤24:=by
 obtain⟨h1,h2,h3⟩:=clear_ok h
 have hc:∀x ∈ l,1≤x.length∧x.length≤4:=fun x hx=>by
  have h4:=List.all_eq_true.1 h1 x hx
  unfold chainOk at h4
  simp only[Bool.and_eq_true,decide_eq_true_eq] at h4
  exact h4.1
 refine⟨?_,Nat.le_trans (flatten_le 4 l fun x hx=>(hc x hx).2) (by omega)⟩
 cases l with
 | nil=>simp at h2
 | cons x l=>
  have:=(hc x (List.mem_cons_self ..)).1
  rw[List.flatten_cons,List.length_append]
  omega
theorem ownL_flatE{α:Type}{s:Nat}{enc:α→List Value}{hl:∀a,(enc a).length=s}{h1:∀a,∀u ∈ enc a,u.oneCell'=true}{xs:List Value}{l:List α}{N:List Hl}(h:OwnL (Ty.flat s enc hl h1) xs l N):xs=flat enc l:=by
 induction h with
 | nil=>rfl
 | cons h _ ih=>rw[h.1,ih];rfl
end M
theorem labels_i(v:Value)(pA qA:Option Addr)(pn pc qn qc:Nat)(hf:Int)(l:List (List Lab))(hok:clearOk l=true)(w:World)(hr:(Ty.sl 118 (Ty.sl 123 tyLab)).rd w [v] l):
  Rets Tryz.prog [] 80 #[.agg #[v,.slice pA pn pc,.slice qA qn qc,.int .i64 hf]] w (tOwn (Ty.sl 123 tyLab) (labelsOf l)):=by
 obtain⟨A,c,rfl,hlc,hcm⟩:=sl_form hr
 unfold maxLen at *
 have HR:=hY hr
 have HOK:=hY hok
 clear hr hok hcm
 have H:=Hs.start noRow w
 refine Rets.of ?_
 go_enter Tryz.func80,Tryz.ntmps80
 go_wp2_with ((first|refine zL ?_|(refine zB 1 ?_;intro b1));clear H;intro wn H)
 refine(Rets.use (concat_Lab _ l (clear_len HOK.out).1 (Nat.le_trans (clear_len HOK.out).2 (by decide)) _ (Ty.below _ HR.out H.below))).mono ?_;rintro e wn ⟨_,_,rfl,⟨N,hN,rfl,hone⟩,hkk⟩;refine zK ?_;clear H hkk;intro H
 have hN2:=own_single hN hone rfl
 clear hN hone
 obtain⟨xs,M,A2,c2,rfl,hO,hc2,H⟩:=own_open hN2 H
 obtain rfl:M = []:=flat_noown hO
 obtain rfl:xs=flat encLab l.flatten:=ownL_flatE hO
 obtain⟨n,hn⟩:=nm l.flatten.length
 have hn0:0<n:=by rw[hn];exact(clear_len HOK.out).1
 have hn24:n≤24:=by rw[hn];exact(clear_len HOK.out).2
 rw[←hn] at H ⊢
 obtain⟨g,c3,hv,_⟩:=(H.rows .here).form hn0
 injection hv with hv1 hv2 hv3
 subst hv1 hv3
 have hnc:n≤c2:=by obtain⟨_,_,hs,h3,_⟩:=(H.rows .here).slice;injection hs with _ _ hs;omega
 have HN:=hY hn
 clear hn hO hN2 hv2
 go_wp2_with (fail)
 refine(sort_Lab g n c2 l.flatten HN.out hn0 (by omega) _ _ _ _ H).mono ?_
 clear H
 rintro e wn ⟨rfl,H⟩
 go_wp2_with (fail)
 refine(compact_Lab g n c2 (sortL l.flatten) (by rw[sortL_len];exact HN.out) hn0 (by omega) hnc _ _ _ _ H).mono ?_
 clear H
 rintro e wn ⟨rfl,H⟩
 rw[show compUp (sortL l.flatten) n=labelsOf l by rw[HN.out];exact comp_labels HOK.out] at H
 have HE:Hid ((compUp (sortL l.flatten) n).length=(labelsOf l).length):=hY (by rw[HN.out,comp_labels HOK.out])
 rw[HE.out]
 go_wp2_with (fail)
 go_ret
 exact ret_flat H rfl rfl
