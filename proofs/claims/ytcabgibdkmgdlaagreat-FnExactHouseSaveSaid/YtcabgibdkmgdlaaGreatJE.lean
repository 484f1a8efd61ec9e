import Derived.Test.YtcabgibdkmgdlaaGreatJC
import Derived.Test.YtcabgibdkmgdlaaGreatJD
set_option linter.unusedSimpArgs false
set_option linter.unusedVariables false
set_option maxRecDepth 100000
set_option maxHeartbeats 2000000
namespace Go.Proofs.YtcabgibdkmgdlaaGreat
namespace M
def cutText(p:Int)(t:Bs):Bs × Int × Int:=if p<0 then (t,p,0) else if p<t.length then (t.take p.toNat,0,12) else (t,p-t.length,0)
end M
open Go.RowKit M
structure Only2 (w w':World) (B g:Nat):Prop where
 os:w'.os=w.os
 tape:w'.tape=w.tape
 output:w'.output=w.output
 size:w.heap.size≤w'.heap.size
 block:∀k,k<w.heap.size→k≠B→k≠g→w'.heap[k]? = w.heap[k]?
theorem Only2.refl(w:World)(B g:Nat):Only2 w w B g:=⟨rfl,rfl,rfl,Nat.le_refl _,fun _ _ _ _=>rfl⟩
theorem Only2.drew{w w':World}{B g:Nat}(h:Only2 w w' B g):Only2 w w'.drew B g:=⟨h.os,h.tape,h.output,h.size,h.block⟩
theorem Only2.alloc{w w':World}{B g:Nat}(h:Only2 w w' B g)(o:Obj):Only2 w (w'.alloc o) B g:=
 ⟨h.os,h.tape,h.output,Nat.le_trans h.size (by simp),fun k hk h1 h2=>(Below.heap_alloc _ _ _ (Nat.lt_of_lt_of_le hk h.size)).trans (h.block k hk h1 h2)⟩
theorem Only2.set1{w w':World}{B g:Nat}(h:Only2 w w' B g)(j:Nat)(u:Value):Only2 w (w'.setCell ⟨B,j,none⟩ u) B g:=
 ⟨h.os,h.tape,h.output,by simpa [World.setCell] using h.size,fun k hk h1 h2=>(Below.heap_setCell w' ⟨B,j,none⟩ u k h1).trans (h.block k hk h1 h2)⟩
theorem Only2.set2{w w':World}{B g:Nat}(h:Only2 w w' B g)(j:Nat)(u:Value):Only2 w (w'.setCell ⟨g,j,none⟩ u) B g:=
 ⟨h.os,h.tape,h.output,by simpa [World.setCell] using h.size,fun k hk h1 h2=>(Below.heap_setCell w' ⟨g,j,none⟩ u k h2).trans (h.block k hk h1 h2)⟩
theorem Only2.below{w0 w w':World}{B g:Nat}(h:Only2 w w' B g)(h0:Below w0.heap.size w0 w)(hB:w0.heap.size≤B)(hg:w0.heap.size≤g):Below w0.heap.size w0 w':=
 ⟨h.os.trans h0.os,h.tape.trans h0.tape,h.output.trans h0.output,Nat.le_trans h0.size h.size,fun k hk=>(h.block k (Nat.lt_of_lt_of_le hk h0.size) (by omega) (by omega)).trans (h0.block k hk)⟩
theorem Only2.blk{w w':World}{B g k t:Nat}{cs:Array Value}(h:Only2 w w' B g)(hk:Blk w k t cs)(h1:k≠B)(h2:k≠g):Blk w' k t cs:=(h.block k hk.lt h1 h2).trans hk
theorem cut_any{p:Int}{t:Bs}(h:p<0):cutText p t=(t,p,0):=if_pos h
theorem cut_down{p:Int}{t:Bs}(h:¬p<0)(h2:p<t.length):cutText p t=(t.take p.toNat,0,12):=by unfold cutText;rw[if_neg h,if_pos h2]
theorem cut_all{p:Int}{t:Bs}(h:¬p<0)(h2:¬p<t.length):cutText p t=(t,p-t.length,0):=by unfold cutText;rw[if_neg h,if_neg h2]
def Wrote(w:World)(B g m n c base:Nat)(sl:Value)(p:Int)(s:ByteArray)(t:Bs)(xs:List Value)(e:Ending)(w':World):Prop:=
 e = .returned (.tuple #[])∧Blk w' B 88 #[sl,.int .i64 (cutText p t).2.1,.int .i64 (cutText p t).2.2]∧w'.ownsRow base 86 3 (.slice (some ⟨g,0,none⟩) n c) n (xs.set m (.string (s++bs (cutText p t).1)))∧Only2 w w' B g
theorem Only2.of_below{w w':World}{B g:Nat}(h:Below w.heap.size w w'):Only2 w w' B g:=⟨h.os,h.tape,h.output,h.size,fun k hk _ _=>h.block k hk⟩
theorem bs_take(t:Bs)(m:Nat):(bs t).extract 0 m=bs (t.take m):=by rw[extract_bs,data_bs,List.drop_zero,Nat.sub_zero]
theorem write_i(w:World)(B g m n c base:Nat)(sl:Value)(p:Int)(s:ByteArray)(t:Bs)(xs:List Value)(hB:Blk w B 88 #[sl,.int .i64 p,.int .i64 0])(hp : -1≤p∧p≤1000000)(ht:t.length≤8000)(hs:s.size≤3000)
  (ho:w.ownsRow base 86 3 (.slice (some ⟨g,0,none⟩) n c) n xs) (hm:m<n*3) (hx:xs[m]? = some (.string s)) (hne:B≠g) :
  Calls Tryz.prog 79 #[.pointer (some ⟨B,0,none⟩),.pointer (some ⟨g,m,none⟩),.string (bs t)] w fun e w'=>Wrote w B g m n c base sl p s t xs e w':=by
 have hne':=hne.symm
 have HO:=hY ho
 have HX:=hY hx
 have hsz:(bs t).size=t.length:=rfl
 have g1:=fun x=>hB.atL (i:=1) rfl x
 have HBB:=hY hB
 clear ho hB hx
 by_cases h1:p<0
 ·have HC:=hY (cut_any (t:=t) h1)
  go_enter Tryz.func79,Tryz.ntmps79
  go_wp2
  refine wp_region_later (by kernel_rfl) (by kernel_rfl) ?_
  repeat(go_big_quiet_step (fail "no call"))
  refine wpQuiet_nil ?_
  rintro _ ⟨y,rfl⟩
  have hy:=y.ok
  clear g1
  generalize y.now=w2 at *
  have B2:=HBB.out.later hy
  have B2c:=B2.cell
  have B2f:=B2.frozen
  have O2:=hY (own_keep HO.out hy)
  have q2:w2.cell? ⟨g,m,none⟩=some (.string s):=by rw[O2.out.cellAt _ hm];exact HX.out
  have r2:w2.frozen? ⟨g,m,none⟩=false:=O2.out.frozenAt _
  go_wp2
  go_end0
  refine⟨rfl,?_,?_,?_⟩
  ·rw[HC.out]
   exact B2.far' hne
  ·rw[HC.out]
   exact(own_at O2.out hm).2.2 _
  ·exact (Only2.of_below hy).set2 _ _
 ·by_cases h2:p<t.length
  ·have HC:=hY (cut_down h1 h2)
   obtain⟨k,rfl⟩:=Int.eq_ofNat_of_zero_le (Int.not_lt.1 h1)
   have hk:((bs t).extract 0 k)=bs (t.take k):=bs_take t k
   have i1:(k:Int)≤(bs t).size:=by rw[hsz];omega
   have i2:(k:Int)<(bs t).size:=by rw[hsz];omega
   have HK:=hY hk
   clear hk
   go_enter Tryz.func79,Tryz.ntmps79
   go_wp2
   refine wp_region_later (by kernel_rfl) (by kernel_rfl) ?_
   repeat(go_big_quiet_step (fail "no call"))
   refine wpQuiet_nil ?_
   rintro _ ⟨y,rfl⟩
   have hy:=y.ok
   clear g1
   generalize y.now=w2 at *
   have B2:=HBB.out.later hy
   have B2c:=B2.cell
   have B2f:=B2.frozen
   have O2:=hY (own_keep HO.out hy)
   have q2:w2.cell? ⟨g,m,none⟩=some (.string s):=by rw[O2.out.cellAt _ hm];exact HX.out
   have r2:w2.frozen? ⟨g,m,none⟩=false:=O2.out.frozenAt _
   go_wp2
   go_end0
   have hob:(Value.slice (some ⟨g,0,none⟩) n c).ownBlock≠some B:=by simp[Value.ownBlock];exact hne'
   refine⟨rfl,?_,?_,?_⟩
   ·rw[HC.out]
    exact((B2.set_ 1 _).set_ 2 _).far' hne
   ·rw[HC.out,Int.toNat_natCast,←HK.out]
    exact(own_at (own_far (own_far O2.out hob _) hob _) hm).2.2 _
   ·exact (((Only2.of_below hy).set1 _ _).set1 _ _).set2 _ _
  ·have HC:=hY (cut_all h1 h2)
   have i2:¬p<((bs t).size:Int):=by rw[hsz];omega
   go_enter Tryz.func79,Tryz.ntmps79
   go_wp2
   refine wp_region_later (by kernel_rfl) (by kernel_rfl) ?_
   repeat(go_big_quiet_step (fail "no call"))
   refine wpQuiet_nil ?_
   rintro _ ⟨y,rfl⟩
   have hy:=y.ok
   clear g1
   generalize y.now=w2 at *
   have B2:=HBB.out.later hy
   have B2c:=B2.cell
   have B2f:=B2.frozen
   have O2:=hY (own_keep HO.out hy)
   have q2:w2.cell? ⟨g,m,none⟩=some (.string s):=by rw[O2.out.cellAt _ hm];exact HX.out
   have r2:w2.frozen? ⟨g,m,none⟩=false:=O2.out.frozenAt _
   go_wp2
   go_end0
   have hob:(Value.slice (some ⟨g,0,none⟩) n c).ownBlock≠some B:=by simp[Value.ownBlock];exact hne'
   refine⟨rfl,?_,?_,?_⟩
   ·rw[HC.out]
    exact(B2.set_ 1 _).far' hne
   ·rw[HC.out]
    exact(own_at (own_far O2.out hob _) hm).2.2 _
   ·exact ((Only2.of_below hy).set1 _ _).set2 _ _
theorem l16Cut_s(p:Int)(t:Bs)(hp : -1≤p∧p≤1000000)(ht:t.length≤8000)(w:World):
  Gives Tryz.prog 57 #[.int .i64 p,.string (bs t)] w (.tuple #[.string (bs (cutText p t).1),.int .i64 (cutText p t).2.1,.int .i64 (cutText p t).2.2]):=by
 unfold Gives
 have hsz:(bs t).size=t.length:=rfl
 by_cases h1:p<0
 ·have HC:=hY (cut_any (t:=t) h1)
  go_enter Tryz.func57,Tryz.ntmps57
  go_wp2
  go_ret3
  exact⟨by rw[HC.out];rfl,by exact bwF⟩
 ·by_cases h2:p<t.length
  ·have HC:=hY (cut_down h1 h2)
   obtain⟨k,rfl⟩:=Int.eq_ofNat_of_zero_le (Int.not_lt.1 h1)
   have i1:(k:Int)≤(bs t).size:=by rw[hsz];omega
   have i2:(k:Int)<(bs t).size:=by rw[hsz];omega
   go_enter Tryz.func57,Tryz.ntmps57
   go_wp2
   go_ret3
   refine⟨?_,by exact bwF⟩
   rw[HC.out,Int.toNat_natCast,←bs_take]
   rfl
  ·have HC:=hY (cut_all h1 h2)
   have i2:¬p<((bs t).size:Int):=by rw[hsz];omega
   go_enter Tryz.func57,Tryz.ntmps57
   go_wp2
   go_ret3
   exact⟨by rw[HC.out];rfl,by exact bwF⟩
end Go.Proofs.YtcabgibdkmgdlaaGreat
namespace Go.Proofs.YtcabgibdkmgdlaaGreat
open Go.RowKit M
namespace M
def setSlot(rs:List Reg)(k:Nat)(odd:Bool)(t:ByteArray):List Reg:=
 rs.set k (if odd then ((rs.getD k noReg).1,t,(rs.getD k noReg).2.2) else (t,(rs.getD k noReg).2.1,(rs.getD k noReg).2.2))
def slotOut(rs:List Reg)(p r:Int)(odd:Bool)(fb:Bs):List Reg × Int × Int:=
 if stage rs p r≠0 then (illRs rs (stage rs p r),illP p (stage rs p r),stage rs p r)
 else if fb = [] then ([],0,2)
 else (setSlot rs r.toNat odd (bs (cutText p fb).1),(cutText p fb).2.1,(cutText p fb).2.2)
end M
theorem setSlot_len(rs:List Reg)(k:Nat)(odd:Bool)(t:ByteArray):(setSlot rs k odd t).length=rs.length:=by simp[setSlot]
theorem flat_slot0(rs:List Reg)(k:Nat)(t:ByteArray)(hk:k<rs.length):(flat encReg rs).set (k*3) (.string t)=flat encReg (setSlot rs k false t):=by
 obtain⟨x,hx,hd,_⟩:=reg_at hk
 unfold setSlot
 rw[hd]
 exact flat_setj rs k 0 x _ _ hx (by omega) rfl
theorem flat_slot1(rs:List Reg)(k:Nat)(t:ByteArray)(hk:k<rs.length):(flat encReg rs).set (k*3+1) (.string t)=flat encReg (setSlot rs k true t):=by
 obtain⟨x,hx,hd,_⟩:=reg_at hk
 unfold setSlot
 rw[hd]
 exact flat_setj rs k 1 x _ _ hx (by omega) rfl
theorem nil_app(t:Bs):(⟨#[]⟩:ByteArray)++bs t=bs t:=bs_append [] t
theorem frameBytes_len(q:Int)(t:Bs):(frameBytes q t).length≤8000:=by
 unfold frameBytes
 by_cases h:frameOk q t=true
 ·rw[if_pos h]
  unfold frameOk at h
  simp at h
  have h2:=seal_length (four q++t)
  rw[List.length_append,four_length] at h2
  unfold putText
  split
  ·have:=putNum_length (seal_ (four q++t)).length
   rw[List.length_append]
   omega
  ·simp
 ·rw[if_neg h];simp
theorem power_le{rs:List Reg}{p:Int}(h:diskOk rs p=true): -1≤p∧p≤1000000:=by
 unfold diskOk at h;simp at h;omega
theorem slot_i_even(rs:List Reg)(v:Value)(p:Int)(k:Nat)(q:Int)(t:ByteArray)(hk:k<rs.length)(h:diskOk rs p=true)(hp:p≠0)(hfb:frameBytes q t.data.toList ≠ [])(w:World)(hr:Rd w 3 v rs.length (flat encReg rs)):
  Calls Tryz.prog 34 #[.agg #[v,.int .i64 p],.int .i64 k,.bool false,.agg #[.int .i64 q,.string t]] w fun e w'=>NewOut w e w' (setSlot rs k false (bs (cutText p (frameBytes q t.data.toList)).1)) (cutText p (frameBytes q t.data.toList)).2.1 (cutText p (frameBytes q t.data.toList)).2.2:=by
 have hB:=fun w hr=>begin_i_ok rs v p k w hr h ⟨by omega,by omega⟩ hp
 have hF:=fun w=>frameBytes_i q t w
 have hfl:=frameBytes_len q t.data.toList
 generalize frameBytes q t.data.toList=fb at *
 obtain⟨A,cap,rfl,_⟩:=hr.form
 have hl:=diskOk_len' h
 have hpw:=power_le h
 have hemp:(bs fb).toList.isEmpty=false:=by rw[Lib.toList_data];cases fb with
  | nil=>exact absurd rfl hfb
  | cons a l=>rfl
 have hemp':¬(bs fb).toList = []:=by rw[Lib.toList_data];exact hfb
 have HR:=hY hr
 have HB:=hY hB
 have HFB:=hY hF
 have HF:=hY (flat_slot0 rs k (bs (cutText p fb).1) hk)
 have HL:=hY (setSlot_len rs k false (bs (cutText p fb).1))
 clear hr hB h hp hF hfb
 have i1:(k:Int)<rs.length:=by omega
 go_enter Tryz.func34,Tryz.ntmps34
 go_wp2_with (first
  | (go_at_call 78;refine(HB.out _ (HR.out.later bwF)).mono ?_;rintro e w1 ⟨A1,c1,rfl,ho1,hb1⟩;(refine kpF (w.heap.size+1+1) hb1 ?_;intro Z1 Z1c Z1f Z1s);(refine kpF (w.heap.size+1) hb1 ?_;intro F1 F1c F1f F1s);obtain⟨g,rfl,hg1,hg2⟩:=own_slice ho1 (by omega);simp only[World.size_alloc] at ho1 hg1;have O1:=hY ho1;clear ho1)
  | (go_at_call 77;refine(HFB.out _).use.mono ?_;rintro e w2 ⟨rfl,hb2⟩;(refine kpF (w.heap.size+1+1) hb2 ?_;intro Z2 Z2c Z2f Z2s);(refine kpF (w1.heap.size) hb2 ?_;intro U2 U2c U2f U2s);have O2:=hY (own_keep O1.out (w':=w2) bwF);have BB2:Below w.heap.size w w2:=bwF;obtain⟨⟨u0,q0⟩,q1,q2⟩:=own_at O2.out (m:=k*3) (by omega);have Q2:=hY q2;have gne:g≠w1.heap.size:=Nat.ne_of_lt hg2;have gne':=gne.symm;have gnz:g≠w.heap.size+1+1:=(by omega);have gnz':=gnz.symm;clear q2 Z1 Z1c Z1f F1 F1c F1f hb1 hb2 O1)
  | (go_at_call 79;refine(write_i _ w1.heap.size g (k*3) rs.length c1 (w.heap.size+1+1+1) _ p ⟨#[]⟩ fb ((flat encReg rs).set (k*3) (.string ⟨#[]⟩)) (U2.far' gne') hpw hfl (by decide) (Q2.out (.string ⟨#[]⟩)) (by omega) (by rw[List.getElem?_set_self (by rw[flat_length encReg_len];omega)]) gne').mono ?_;rintro e w3 ⟨rfl,U3,O3,only3⟩;have U3c:=U3.cell;have U3s:=U3.lt;have Z3:=only3.blk (Z2.far' gnz') (by have:=U2s;have:=Z2s;omega) gnz';have Z3c:=Z3.cell;have Z3f:=Z3.frozen))
 rw[List.set_set,nil_app,HF.out] at O3
 have BB3:Below w.heap.size w w3:=only3.below (bset BB2 (by simp;omega) _) (by have:=BB2.size;omega) (by omega)
 refine bp_world ?_
 intro w9 hw9
 (refine hdF (w.heap.size+1+1) hw9 ?_;intro Z9 Z9c Z9f Z9s)
 have O9:w9.ownsRow (w.heap.size+1+1+1) 86 3 (.slice (some ⟨g,0,none⟩) rs.length c1) rs.length (flat encReg (setSlot rs k false (bs (cutText p fb).1))):=by rw[hw9];exact owF
 have B9:Below w.heap.size w w9:=by rw[hw9];exact bwF
 clear hw9 Q2 HB HR HF Z2 Z2c Z2f U2 U2c U2f Z3 Z3c Z3f U3 U3c O2 O3 q0 q1 only3
 exact bodyPost_ret (v := .agg #[.slice (some ⟨g,0,none⟩) rs.length c1,.int .i64 (cutText p fb).2.1,.int .i64 (cutText p fb).2.2]) (by simp[results,Tryz.results34,go_sem,Z9c]) rfl ⟨some ⟨g,0,none⟩,c1,by rw[HL.out],by rw[HL.out];exact own_base O9 (by omega),B9⟩
theorem slot_i_odd(rs:List Reg)(v:Value)(p:Int)(k:Nat)(q:Int)(t:ByteArray)(hk:k<rs.length)(h:diskOk rs p=true)(hp:p≠0)(hfb:frameBytes q t.data.toList ≠ [])(w:World)(hr:Rd w 3 v rs.length (flat encReg rs)):
  Calls Tryz.prog 34 #[.agg #[v,.int .i64 p],.int .i64 k,.bool true,.agg #[.int .i64 q,.string t]] w fun e w'=>NewOut w e w' (setSlot rs k true (bs (cutText p (frameBytes q t.data.toList)).1)) (cutText p (frameBytes q t.data.toList)).2.1 (cutText p (frameBytes q t.data.toList)).2.2:=by
 have hB:=fun w hr=>begin_i_ok rs v p k w hr h ⟨by omega,by omega⟩ hp
 have hF:=fun w=>frameBytes_i q t w
 have hfl:=frameBytes_len q t.data.toList
 generalize frameBytes q t.data.toList=fb at *
 obtain⟨A,cap,rfl,_⟩:=hr.form
 have hl:=diskOk_len' h
 have hpw:=power_le h
 have hemp:(bs fb).toList.isEmpty=false:=by rw[Lib.toList_data];cases fb with
  | nil=>exact absurd rfl hfb
  | cons a l=>rfl
 have hemp':¬(bs fb).toList = []:=by rw[Lib.toList_data];exact hfb
 have HR:=hY hr
 have HB:=hY hB
 have HFB:=hY hF
 have HF:=hY (flat_slot1 rs k (bs (cutText p fb).1) hk)
 have HL:=hY (setSlot_len rs k true (bs (cutText p fb).1))
 clear hr hB h hp hF hfb
 have i1:(k:Int)<rs.length:=by omega
 go_enter Tryz.func34,Tryz.ntmps34
 go_wp2_with (first
  | (go_at_call 78;refine(HB.out _ (HR.out.later bwF)).mono ?_;rintro e w1 ⟨A1,c1,rfl,ho1,hb1⟩;(refine kpF (w.heap.size+1+1) hb1 ?_;intro Z1 Z1c Z1f Z1s);(refine kpF (w.heap.size+1) hb1 ?_;intro F1 F1c F1f F1s);obtain⟨g,rfl,hg1,hg2⟩:=own_slice ho1 (by omega);simp only[World.size_alloc] at ho1 hg1;have O1:=hY ho1;clear ho1)
  | (go_at_call 77;refine(HFB.out _).use.mono ?_;rintro e w2 ⟨rfl,hb2⟩;(refine kpF (w.heap.size+1+1) hb2 ?_;intro Z2 Z2c Z2f Z2s);(refine kpF (w1.heap.size) hb2 ?_;intro U2 U2c U2f U2s);have O2:=hY (own_keep O1.out (w':=w2) bwF);have BB2:Below w.heap.size w w2:=bwF;obtain⟨⟨u0,q0⟩,q1,q2⟩:=own_at O2.out (m:=k*3+1) (by omega);have Q2:=hY q2;have gne:g≠w1.heap.size:=Nat.ne_of_lt hg2;have gne':=gne.symm;have gnz:g≠w.heap.size+1+1:=(by omega);have gnz':=gnz.symm;clear q2 Z1 Z1c Z1f F1 F1c F1f hb1 hb2 O1)
  | (go_at_call 79;refine(write_i _ w1.heap.size g (k*3+1) rs.length c1 (w.heap.size+1+1+1) _ p ⟨#[]⟩ fb ((flat encReg rs).set (k*3+1) (.string ⟨#[]⟩)) (U2.far' gne') hpw hfl (by decide) (Q2.out (.string ⟨#[]⟩)) (by omega) (by rw[List.getElem?_set_self (by rw[flat_length encReg_len];omega)]) gne').mono ?_;rintro e w3 ⟨rfl,U3,O3,only3⟩;have U3c:=U3.cell;have U3s:=U3.lt;have Z3:=only3.blk (Z2.far' gnz') (by have:=U2s;have:=Z2s;omega) gnz';have Z3c:=Z3.cell;have Z3f:=Z3.frozen))
 rw[List.set_set,nil_app,HF.out] at O3
 have BB3:Below w.heap.size w w3:=only3.below (bset BB2 (by simp;omega) _) (by have:=BB2.size;omega) (by omega)
 refine bp_world ?_
 intro w9 hw9
 (refine hdF (w.heap.size+1+1) hw9 ?_;intro Z9 Z9c Z9f Z9s)
 have O9:w9.ownsRow (w.heap.size+1+1+1) 86 3 (.slice (some ⟨g,0,none⟩) rs.length c1) rs.length (flat encReg (setSlot rs k true (bs (cutText p fb).1))):=by rw[hw9];exact owF
 have B9:Below w.heap.size w w9:=by rw[hw9];exact bwF
 clear hw9 Q2 HB HR HF Z2 Z2c Z2f U2 U2c U2f Z3 Z3c Z3f U3 U3c O2 O3 q0 q1 only3
 exact bodyPost_ret (v := .agg #[.slice (some ⟨g,0,none⟩) rs.length c1,.int .i64 (cutText p fb).2.1,.int .i64 (cutText p fb).2.2]) (by simp[results,Tryz.results34,go_sem,Z9c]) rfl ⟨some ⟨g,0,none⟩,c1,by rw[HL.out],by rw[HL.out];exact own_base O9 (by omega),B9⟩
theorem slot_i_empty(rs:List Reg)(v:Value)(p:Int)(k:Nat)(odd:Bool)(q:Int)(t:ByteArray)(hk:k<rs.length)(h:diskOk rs p=true)(hp:p≠0)(hfb:frameBytes q t.data.toList = [])(w:World)(hr:Rd w 3 v rs.length (flat encReg rs)):
  Calls Tryz.prog 34 #[.agg #[v,.int .i64 p],.int .i64 k,.bool odd,.agg #[.int .i64 q,.string t]] w fun e w'=>NewOut w e w' [] 0 2:=by
 have hB:=fun w hr=>begin_i_ok rs v p k w hr h ⟨by omega,by omega⟩ hp
 have hF:=fun w=>frameBytes_i q t w
 rw[hfb] at hF
 obtain⟨A,cap,rfl,_⟩:=hr.form
 have hemp:(bs []).toList.isEmpty=true:=by rw[Lib.toList_data];rfl
 have hemp':(bs []).toList = []:=by rw[Lib.toList_data];rfl
 have HR:=hY hr
 have HB:=hY hB
 have HFB:=hY hF
 clear hr hB h hp hF hfb
 go_enter Tryz.func34,Tryz.ntmps34
 go_wp2_with (first
  | (go_at_call 78;refine(HB.out _ (HR.out.later bwF)).mono ?_;rintro e w1 ⟨A1,c1,rfl,ho1,hb1⟩;(refine kpF (w.heap.size+1+1) hb1 ?_;intro Z1 Z1c Z1f Z1s);(refine kpF (w.heap.size+1) hb1 ?_;intro F1 F1c F1f F1s))
  | (go_at_call 77;refine(HFB.out _).use.mono ?_;rintro e w2 ⟨rfl,hb2⟩;(refine kpF (w.heap.size+1+1) hb2 ?_;intro Z2 Z2c Z2f Z2s)))
 exact bodyPost_ret (v := .agg #[.slice none 0 0,.int .i64 0,.int .i64 2]) (by simp[results,Tryz.results34,go_sem,Z2c,Z2f]) rfl ⟨none,0,rfl,World.ownsRow_nil _ _ _ _,by exact bwF⟩
theorem slot_i_ill(rs:List Reg)(v:Value)(p r:Int)(odd:Bool)(q:Int)(t:ByteArray)(hs:stage rs p r≠0)(w:World)(hr:Rd w 3 v rs.length (flat encReg rs)):
  Calls Tryz.prog 34 #[.agg #[v,.int .i64 p],.int .i64 r,.bool odd,.agg #[.int .i64 q,.string t]] w fun e w'=>NewOut w e w' (illRs rs (stage rs p r)) (illP p (stage rs p r)) (stage rs p r):=by
 have hB:=fun w hr=>begin_i_ill rs v p r hs w hr
 obtain⟨A,cap,rfl,_⟩:=hr.form
 have HR:=hY hr
 have HB:=hY hB
 clear hr hB
 generalize illRs rs (stage rs p r)=rs' at *
 generalize illP p (stage rs p r)=p' at *
 generalize stage rs p r=c at *
 have hc:(c != 0)=true:=by simpa using hs
 clear hs
 go_enter Tryz.func34,Tryz.ntmps34
 go_wp2_with (go_at_call 78;refine(HB.out _ (HR.out.later bwF)).mono ?_;rintro e w1 ⟨A1,c1,rfl,ho1,hb1⟩;(refine kpF (w.heap.size+1+1) hb1 ?_;intro Z1 Z1c Z1f Z1s))
 refine bp_world ?_
 intro w9 hw9
 (refine hdF (w.heap.size+1+1) hw9 ?_;intro Z9 Z9c Z9f Z9s)
 simp only[World.size_alloc] at ho1
 have O9:w9.ownsRow (w.heap.size+1+1+1) 86 3 (.slice A1 rs'.length c1) rs'.length (flat encReg rs'):=by rw[hw9];exact owF
 have B9:Below w.heap.size w w9:=by rw[hw9];exact bwF
 clear hw9 HB HR Z1 Z1c Z1f hb1 ho1
 exact bodyPost_ret (v := .agg #[.slice A1 rs'.length c1,.int .i64 p',.int .i64 c]) (by simp[results,Tryz.results34,go_sem,Z9c]) rfl ⟨A1,c1,rfl,own_base O9 (by omega),B9⟩
theorem slot_i(rs:List Reg)(v:Value)(p r:Int)(odd:Bool)(q:Int)(t:ByteArray)(w:World)(hr:Rd w 3 v rs.length (flat encReg rs)):
  Calls Tryz.prog 34 #[.agg #[v,.int .i64 p],.int .i64 r,.bool odd,.agg #[.int .i64 q,.string t]] w fun e w'=>NewOut w e w' (slotOut rs p r odd (frameBytes q t.data.toList)).1 (slotOut rs p r odd (frameBytes q t.data.toList)).2.1 (slotOut rs p r odd (frameBytes q t.data.toList)).2.2:=by
 unfold slotOut
 by_cases h:stage rs p r=0
 ·obtain ⟨h1,h2,h3⟩:=stage_zero h
  obtain⟨k,rfl⟩:=Int.eq_ofNat_of_zero_le h2.1
  rw[if_neg (by simpa using h)]
  by_cases hf:frameBytes q t.data.toList = []
  ·rw[if_pos hf]
   exact slot_i_empty rs v p k odd q t (by omega) h1 h3 hf w hr
  ·rw[if_neg hf]
   cases odd
   ·exact slot_i_even rs v p k q t (by omega) h1 h3 hf w hr
   ·exact slot_i_odd rs v p k q t (by omega) h1 h3 hf w hr
 ·rw[if_pos h]
  exact slot_i_ill rs v p r odd q t h w hr
theorem slot_s_even(rs:List Reg)(v:Value)(p:Int)(k:Nat)(q:Int)(t:ByteArray)(hk:k<rs.length)(h:diskOk rs p=true)(hp:p≠0)(hfb:frameBytes q t.data.toList ≠ [])(w:World)(hr:Rd w 3 v rs.length (flat encReg rs)):
  Calls Tryz.prog 22 #[.agg #[v,.int .i64 p],.int .i64 k,.bool false,.agg #[.int .i64 q,.string t]] w fun e w'=>NewOut w e w' (setSlot rs k false (bs (cutText p (frameBytes q t.data.toList)).1)) (cutText p (frameBytes q t.data.toList)).2.1 (cutText p (frameBytes q t.data.toList)).2.2:=by
 have hB:=fun w hr=>l16Code_s rs v p k w hr
 rw[stage_ok h ⟨by omega,by omega⟩ hp] at hB
 have hF:=fun w=>frameBytes_s q t w
 have hfl:=frameBytes_len q t.data.toList
 generalize frameBytes q t.data.toList=fb at *
 obtain⟨A,cap,rfl,_⟩:=hr.form
 have hl:=diskOk_len' h
 have hpw:=power_le h
 have hemp:(bs fb).toList.isEmpty=false:=by rw[Lib.toList_data];cases fb with
  | nil=>exact absurd rfl hfb
  | cons a l=>rfl
 have hemp':¬(bs fb).toList = []:=by rw[Lib.toList_data];exact hfb
 have HR:=hY hr
 have HB:=hY hB
 have HFB:=hY hF
 have HF:=hY (flat_slot0 rs k (bs (cutText p fb).1) hk)
 have HL:=hY (setSlot_len rs k false (bs (cutText p fb).1))
 have HCut:=hY (fun w=>l16Cut_s p fb hpw hfl w)
 clear hr hB h hp hF hfb
 generalize cutText p fb=ct at *
 obtain⟨ct1,ct2,ct3⟩:=ct
 dsimp only at HF HL HCut ⊢
 have i1:(k:Int)<rs.length:=by omega
 go_enter Tryz.func22,Tryz.ntmps22
 go_wp2_with (first
  | (go_at_call 54;refine(HB.out _ (HR.out.later bwF)).use.mono ?_;rintro e w0 ⟨rfl,hb0⟩;(refine kpF (w.heap.size+1+1) hb0 ?_;intro Z0 Z0c Z0f Z0s);(refine kpF (w.heap.size) hb0 ?_;intro D0 D0c D0f D0s);(refine kpF (w.heap.size+1) hb0 ?_;intro F0 F0c F0f F0s))
  | (go_at_call 56;refine(HFB.out _).use.mono ?_;rintro e w1 ⟨rfl,hb1⟩;(refine kpF (w.heap.size+1+1) hb1 ?_;intro Z1 Z1c Z1f Z1s);(refine kpF (w.heap.size) hb1 ?_;intro D1 D1c D1f D1s);have BB1:Below w.heap.size w w1:=bwF;clear Z0 Z0c Z0f D0 D0c D0f F0 F0c F0f hb0 hb1)
  | (go_at_call 20;refine(copyDisk_s rs _ _ hl _ (HR.out.later bwF)).mono ?_;rintro e w2 ⟨A1,c1,rfl,ho1,hb2⟩;(refine kpF (w.heap.size+1+1) hb2 ?_;intro Z2 Z2c Z2f Z2s);(refine kpF (w.heap.size) hb2 ?_;intro D2 D2c D2f D2s);obtain⟨g,rfl,hg1,hg2⟩:=own_slice ho1 (by omega);have O1:=hY ho1;have BB2:Below w.heap.size w w2:=bwF;clear ho1 Z1 Z1c Z1f D1 D1c D1f hb2 BB1)
  | (go_at_call 57;refine(HCut.out _).use.mono ?_;rintro e w3 ⟨rfl,hb3⟩;(refine kpF (w.heap.size+1+1) hb3 ?_;intro Z3 Z3c Z3f Z3s);(refine kpF (w2.heap.size) hb3 ?_;intro U3 U3c U3f U3s);have O3:=hY (own_keep O1.out (w':=w3) bwF);have BB3:Below w.heap.size w w3:=bwF;obtain⟨⟨u0,q0⟩,q1,q2⟩:=own_at O3.out (m:=k*3) (by omega);have Q2:=hY q2;have gne:g≠w2.heap.size:=Nat.ne_of_lt hg2;have gne':=gne.symm;have gnz:g≠w.heap.size+1+1:=(by omega);have gnz':=gnz.symm;clear q2 Z2 Z2c Z2f D2 D2c D2f hb3 O1 BB2))
 have O4:=Q2.out (.string (bs ct1))
 rw[HF.out] at O4
 refine bp_world ?_
 intro w9 hw9
 (refine hdF (w.heap.size+1+1) hw9 ?_;intro Z9 Z9c Z9f Z9s)
 have hob:(Value.slice (some ⟨g,0,none⟩) rs.length c1).ownBlock≠some w2.heap.size:=by simp[Value.ownBlock];exact gne
 have O9:w9.ownsRow w1.heap.size 86 3 (.slice (some ⟨g,0,none⟩) rs.length c1) rs.length (flat encReg (setSlot rs k false (bs ct1))):=by
  rw[hw9]
  have O5:=own_far O4 (j:=1) hob (.int .i64 ct2)
  exact owF
 have B9:Below w.heap.size w w9:=by rw[hw9];exact bwF
 clear hw9 Q2 HB HR HF Z3 Z3c Z3f U3 U3c U3f O3 O4 q0 q1
 exact bodyPost_ret (v := .agg #[.slice (some ⟨g,0,none⟩) rs.length c1,.int .i64 ct2,.int .i64 ct3]) (by simp[results,Tryz.results22,go_sem,Z9c]) rfl ⟨some ⟨g,0,none⟩,c1,by rw[HL.out],by rw[HL.out];exact own_base O9 (by omega),B9⟩
theorem slot_s_odd(rs:List Reg)(v:Value)(p:Int)(k:Nat)(q:Int)(t:ByteArray)(hk:k<rs.length)(h:diskOk rs p=true)(hp:p≠0)(hfb:frameBytes q t.data.toList ≠ [])(w:World)(hr:Rd w 3 v rs.length (flat encReg rs)):
  Calls Tryz.prog 22 #[.agg #[v,.int .i64 p],.int .i64 k,.bool true,.agg #[.int .i64 q,.string t]] w fun e w'=>NewOut w e w' (setSlot rs k true (bs (cutText p (frameBytes q t.data.toList)).1)) (cutText p (frameBytes q t.data.toList)).2.1 (cutText p (frameBytes q t.data.toList)).2.2:=by
 have hB:=fun w hr=>l16Code_s rs v p k w hr
 rw[stage_ok h ⟨by omega,by omega⟩ hp] at hB
 have hF:=fun w=>frameBytes_s q t w
 have hfl:=frameBytes_len q t.data.toList
 generalize frameBytes q t.data.toList=fb at *
 obtain⟨A,cap,rfl,_⟩:=hr.form
 have hl:=diskOk_len' h
 have hpw:=power_le h
 have hemp:(bs fb).toList.isEmpty=false:=by rw[Lib.toList_data];cases fb with
  | nil=>exact absurd rfl hfb
  | cons a l=>rfl
 have hemp':¬(bs fb).toList = []:=by rw[Lib.toList_data];exact hfb
 have HR:=hY hr
 have HB:=hY hB
 have HFB:=hY hF
 have HF:=hY (flat_slot1 rs k (bs (cutText p fb).1) hk)
 have HL:=hY (setSlot_len rs k true (bs (cutText p fb).1))
 have HCut:=hY (fun w=>l16Cut_s p fb hpw hfl w)
 clear hr hB h hp hF hfb
 generalize cutText p fb=ct at *
 obtain⟨ct1,ct2,ct3⟩:=ct
 dsimp only at HF HL HCut ⊢
 have i1:(k:Int)<rs.length:=by omega
 go_enter Tryz.func22,Tryz.ntmps22
 go_wp2_with (first
  | (go_at_call 54;refine(HB.out _ (HR.out.later bwF)).use.mono ?_;rintro e w0 ⟨rfl,hb0⟩;(refine kpF (w.heap.size+1+1) hb0 ?_;intro Z0 Z0c Z0f Z0s);(refine kpF (w.heap.size) hb0 ?_;intro D0 D0c D0f D0s);(refine kpF (w.heap.size+1) hb0 ?_;intro F0 F0c F0f F0s))
  | (go_at_call 56;refine(HFB.out _).use.mono ?_;rintro e w1 ⟨rfl,hb1⟩;(refine kpF (w.heap.size+1+1) hb1 ?_;intro Z1 Z1c Z1f Z1s);(refine kpF (w.heap.size) hb1 ?_;intro D1 D1c D1f D1s);have BB1:Below w.heap.size w w1:=bwF;clear Z0 Z0c Z0f D0 D0c D0f F0 F0c F0f hb0 hb1)
  | (go_at_call 20;refine(copyDisk_s rs _ _ hl _ (HR.out.later bwF)).mono ?_;rintro e w2 ⟨A1,c1,rfl,ho1,hb2⟩;(refine kpF (w.heap.size+1+1) hb2 ?_;intro Z2 Z2c Z2f Z2s);(refine kpF (w.heap.size) hb2 ?_;intro D2 D2c D2f D2s);obtain⟨g,rfl,hg1,hg2⟩:=own_slice ho1 (by omega);have O1:=hY ho1;have BB2:Below w.heap.size w w2:=bwF;clear ho1 Z1 Z1c Z1f D1 D1c D1f hb2 BB1)
  | (go_at_call 57;refine(HCut.out _).use.mono ?_;rintro e w3 ⟨rfl,hb3⟩;(refine kpF (w.heap.size+1+1) hb3 ?_;intro Z3 Z3c Z3f Z3s);(refine kpF (w2.heap.size) hb3 ?_;intro U3 U3c U3f U3s);have O3:=hY (own_keep O1.out (w':=w3) bwF);have BB3:Below w.heap.size w w3:=bwF;obtain⟨⟨u0,q0⟩,q1,q2⟩:=own_at O3.out (m:=k*3+1) (by omega);have Q2:=hY q2;have gne:g≠w2.heap.size:=Nat.ne_of_lt hg2;have gne':=gne.symm;have gnz:g≠w.heap.size+1+1:=(by omega);have gnz':=gnz.symm;clear q2 Z2 Z2c Z2f D2 D2c D2f hb3 O1 BB2))
 have O4:=Q2.out (.string (bs ct1))
 rw[HF.out] at O4
 refine bp_world ?_
 intro w9 hw9
 (refine hdF (w.heap.size+1+1) hw9 ?_;intro Z9 Z9c Z9f Z9s)
 have hob:(Value.slice (some ⟨g,0,none⟩) rs.length c1).ownBlock≠some w2.heap.size:=by simp[Value.ownBlock];exact gne
 have O9:w9.ownsRow w1.heap.size 86 3 (.slice (some ⟨g,0,none⟩) rs.length c1) rs.length (flat encReg (setSlot rs k true (bs ct1))):=by
  rw[hw9]
  have O5:=own_far O4 (j:=1) hob (.int .i64 ct2)
  exact owF
 have B9:Below w.heap.size w w9:=by rw[hw9];exact bwF
 clear hw9 Q2 HB HR HF Z3 Z3c Z3f U3 U3c U3f O3 O4 q0 q1
 exact bodyPost_ret (v := .agg #[.slice (some ⟨g,0,none⟩) rs.length c1,.int .i64 ct2,.int .i64 ct3]) (by simp[results,Tryz.results22,go_sem,Z9c]) rfl ⟨some ⟨g,0,none⟩,c1,by rw[HL.out],by rw[HL.out];exact own_base O9 (by omega),B9⟩
theorem slot_s_empty(rs:List Reg)(v:Value)(p:Int)(k:Nat)(odd:Bool)(q:Int)(t:ByteArray)(hk:k<rs.length)(h:diskOk rs p=true)(hp:p≠0)(hfb:frameBytes q t.data.toList = [])(w:World)(hr:Rd w 3 v rs.length (flat encReg rs)):
  Calls Tryz.prog 22 #[.agg #[v,.int .i64 p],.int .i64 k,.bool odd,.agg #[.int .i64 q,.string t]] w fun e w'=>NewOut w e w' [] 0 2:=by
 have hB:=fun w hr=>l16Code_s rs v p k w hr
 rw[stage_ok h ⟨by omega,by omega⟩ hp] at hB
 have hF:=fun w=>frameBytes_s q t w
 rw[hfb] at hF
 obtain⟨A,cap,rfl,_⟩:=hr.form
 have hemp:(bs []).toList.isEmpty=true:=by rw[Lib.toList_data];rfl
 have hemp':(bs []).toList = []:=by rw[Lib.toList_data];rfl
 have HR:=hY hr
 have HB:=hY hB
 have HFB:=hY hF
 clear hr hB h hp hF hfb
 go_enter Tryz.func22,Tryz.ntmps22
 go_wp2_with (first
  | (go_at_call 54;refine(HB.out _ (HR.out.later bwF)).use.mono ?_;rintro e w0 ⟨rfl,hb0⟩;(refine kpF (w.heap.size+1+1) hb0 ?_;intro Z0 Z0c Z0f Z0s);(refine kpF (w.heap.size) hb0 ?_;intro D0 D0c D0f D0s);(refine kpF (w.heap.size+1) hb0 ?_;intro F0 F0c F0f F0s))
  | (go_at_call 56;refine(HFB.out _).use.mono ?_;rintro e w2 ⟨rfl,hb2⟩;(refine kpF (w.heap.size+1+1) hb2 ?_;intro Z2 Z2c Z2f Z2s)))
 exact bodyPost_ret (v := .agg #[.slice none 0 0,.int .i64 0,.int .i64 2]) (by simp[results,Tryz.results22,go_sem,Z2c,Z2f]) rfl ⟨none,0,rfl,World.ownsRow_nil _ _ _ _,by exact bwF⟩
theorem slot_s_ill(rs:List Reg)(v:Value)(p r:Int)(odd:Bool)(q:Int)(t:ByteArray)(hs:stage rs p r≠0)(w:World)(hr:Rd w 3 v rs.length (flat encReg rs)):
  Calls Tryz.prog 22 #[.agg #[v,.int .i64 p],.int .i64 r,.bool odd,.agg #[.int .i64 q,.string t]] w fun e w'=>NewOut w e w' (illRs rs (stage rs p r)) (illP p (stage rs p r)) (stage rs p r):=by
 have hB:=fun w hr=>l16Code_s rs v p r w hr
 have hI:=fun w hr=>l16Ill_s rs v p r w hr
 obtain⟨A,cap,rfl,_⟩:=hr.form
 have HR:=hY hr
 have HB:=hY hB
 have HI:=hY hI
 clear hr hB hI
 generalize illRs rs (stage rs p r)=rs' at *
 generalize illP p (stage rs p r)=p' at *
 generalize stage rs p r=c at *
 have hc:(c != 0)=true:=by simpa using hs
 clear hs
 go_enter Tryz.func22,Tryz.ntmps22
 go_wp2_with (first
  | (go_at_call 54;refine(HB.out _ (HR.out.later bwF)).use.mono ?_;rintro e w0 ⟨rfl,hb0⟩;(refine kpF (w.heap.size+1+1) hb0 ?_;intro Z0 Z0c Z0f Z0s);(refine kpF (w.heap.size) hb0 ?_;intro D0 D0c D0f D0s))
  | (go_at_call 55;refine(HI.out _ (HR.out.later bwF)).mono ?_;rintro e w1 ⟨A1,c1,rfl,ho1,hb1⟩;(refine kpF (w.heap.size+1+1) hb1 ?_;intro Z1 Z1c Z1f Z1s);have hz0:=Z0.lt;clear Z0 Z0c Z0f D0 D0c D0f))
 refine bp_world ?_
 intro w9 hw9
 (refine hdF (w.heap.size+1+1) hw9 ?_;intro Z9 Z9c Z9f Z9s)
 have O9:w9.ownsRow w0.heap.size 86 3 (.slice A1 rs'.length c1) rs'.length (flat encReg rs'):=by rw[hw9];exact owF
 have B9:Below w.heap.size w w9:=by rw[hw9];exact bwF
 clear hw9 HB HR Z1 Z1c Z1f hb1 ho1
 exact bodyPost_ret (v := .agg #[.slice A1 rs'.length c1,.int .i64 p',.int .i64 c]) (by simp[results,Tryz.results22,go_sem,Z9c]) rfl ⟨A1,c1,rfl,own_base O9 (by omega),B9⟩
theorem slot_s(rs:List Reg)(v:Value)(p r:Int)(odd:Bool)(q:Int)(t:ByteArray)(w:World)(hr:Rd w 3 v rs.length (flat encReg rs)):
  Calls Tryz.prog 22 #[.agg #[v,.int .i64 p],.int .i64 r,.bool odd,.agg #[.int .i64 q,.string t]] w fun e w'=>NewOut w e w' (slotOut rs p r odd (frameBytes q t.data.toList)).1 (slotOut rs p r odd (frameBytes q t.data.toList)).2.1 (slotOut rs p r odd (frameBytes q t.data.toList)).2.2:=by
 unfold slotOut
 by_cases h:stage rs p r=0
 ·obtain ⟨h1,h2,h3⟩:=stage_zero h
  obtain⟨k,rfl⟩:=Int.eq_ofNat_of_zero_le h2.1
  rw[if_neg (by simpa using h)]
  by_cases hf:frameBytes q t.data.toList = []
  ·rw[if_pos hf]
   exact slot_s_empty rs v p k odd q t (by omega) h1 h3 hf w hr
  ·rw[if_neg hf]
   cases odd
   ·exact slot_s_even rs v p k q t (by omega) h1 h3 hf w hr
   ·exact slot_s_odd rs v p k q t (by omega) h1 h3 hf w hr
 ·rw[if_pos h]
  exact slot_s_ill rs v p r odd q t h w hr
