import Derived.Test.YtcabgibdkmgdlaaGreatJC
import Derived.Test.YtcabgibdkmgdlaaGreatJB
import Derived.BigRegion
import Derived.Deep.LoopGhost
import Derived.Deep.RegionLaw
import Derived.Test.YtcabgibdkmgdlaaGreatG3
set_option linter.unusedSimpArgs false
set_option linter.unusedVariables false
set_option maxRecDepth 100000
set_option maxHeartbeats 4000000
namespace Go.Proofs.YtcabgibdkmgdlaaGreat
open Go.RowKit M
namespace M
def heldOf(t:Bs):Int × Bs × Bool:=((frameRead t 0).1,(frameRead t 0).2.1,decide ((frameRead t 0).2.2.2=0∧(frameRead t 0).2.2.1=t.length))
def slotFO(t:Bs):FrameOut:=if (frameRead t 0).2.2.2=0∧(frameRead t 0).2.2.1≠t.length then (0,[],0,3) else frameRead t 0
end M
theorem str_eq_bs(a:Bs)(s:ByteArray):((bs a).toList==s.toList)=decide (a=s.data.toList):=by
 rw[str_beq,decide_eq_decide,←bs_inj,bs_data]
theorem held_i(s:ByteArray)(hs:s.size≤maxLen)(w:World):
  Gives Tryz.prog 33 #[.string s] w (.tuple #[.agg #[.int .i64 (heldOf s.data.toList).1,.string (bs (heldOf s.data.toList).2.1)],.bool (heldOf s.data.toList).2.2]):=by
 unfold Gives
 have hF:=fun w=>frameRead_i s 0 hs w
 have hbad:=frameRead_bad (t:=s.data.toList) (a:=0)
 have hput:=fun q x z (h:frameRead s.data.toList 0=(q,x,z,0))=>held_iff h
 have hH:heldOf s.data.toList=((frameRead s.data.toList 0).1,(frameRead s.data.toList 0).2.1,decide ((frameRead s.data.toList 0).2.2.2=0∧(frameRead s.data.toList 0).2.2.1=s.data.toList.length)):=rfl
 rcases hx:frameRead s.data.toList 0 with ⟨q,x,z,c⟩
 rw[hx] at hF hbad hput hH
 dsimp only at hbad hH
 unfold encFO at hF
 dsimp only at hF
 have HF:=hY hF
 have HH:=hY hH
 by_cases hc:c=0
 ·subst hc
  have hq:=hput q x z rfl
  have hB:=fun w=>frameBytes_i q (bs x) w
  simp only[data_bs] at hB
  have hd:=str_eq_bs (frameBytes q x) s
  have hv:decide (frameBytes q x=s.data.toList)=(heldOf s.data.toList).2.2:=by
   rw[hH,decide_eq_decide,hq];simp
  rw[hv] at hd
  generalize (heldOf s.data.toList).2.2=b at *
  have hq1:(heldOf s.data.toList).1=q:=by rw[hH]
  have hx1:(heldOf s.data.toList).2.1=x:=by rw[hH]
  rw[hq1,hx1]
  have HB:=hY hB
  clear hx hF hbad hput hH hq hB hv hq1 hx1 HH hs
  go_enter Tryz.func33,Tryz.ntmps33
  go_wp2_with (go_at_call 76;refine(HF.out _).use.mono ?_;rintro e w1 ⟨rfl,hb1⟩;(refine kpF (w.heap.size) hb1 ?_;intro Z1 Z1c Z1f Z1s))
  refine wp_world ?_
  intro w2 hw2
  (refine hdF (w.heap.size) hw2 ?_;intro Z2 Z2c Z2f Z2s)
  (refine hdF (w1.heap.size) hw2 ?_;intro F2 F2c F2f F2s)
  have BB2:Below w.heap.size w w2:=by rw[hw2];exact bwF
  have hzs:w.heap.size≠w1.heap.size:=Nat.ne_of_lt Z1s
  clear hw2 Z1 Z1c Z1f hb1
  go_region_with (go_at_call 77;refine(HB.out _).use.mono ?_;rintro e w3 ⟨rfl,hb3⟩;(refine kpF (w.heap.size) hb3 ?_;intro Z3 Z3c Z3f Z3s);(refine kpF (w1.heap.size) hb3 ?_;intro F3 F3c F3f F3s);have BB3:Below w.heap.size w w3:=bwF)
  all_goals
   go_wp2
   refine bp_world ?_
   intro w9 hw9
   (refine hdF (w.heap.size) hw9 ?_;intro Z9 Z9c Z9f Z9s)
   have B9:Below w.heap.size w w9:=by rw[hw9];exact bwF
   clear hw9 Z2 Z2c Z2f F2 F2c F2f Z3 Z3c Z3f F3 F3c F3f
   exact bodyPost_ret (v := .tuple #[.agg #[.int .i64 q,.string (bs x)],.bool b]) (by simp[results,Tryz.results33,go_sem,Z9c]) rfl ⟨rfl,B9⟩
 ·have hv:=(hbad hc).1
  simp only[Prod.mk.injEq] at hv
  obtain⟨rfl,rfl,rfl,_⟩:=hv
  have hc':(c==0)=false:=by simpa using hc
  have hv:heldOf s.data.toList=(0,[],false):=by rw[hH];simp[hc]
  rw[hv]
  clear hx hF hbad hput hH hv HH hs hc
  go_enter Tryz.func33,Tryz.ntmps33
  go_wp2_with (go_at_call 76;refine(HF.out _).use.mono ?_;rintro e w1 ⟨rfl,hb1⟩;(refine kpF (w.heap.size) hb1 ?_;intro Z1 Z1c Z1f Z1s))
  refine wp_world ?_
  intro w2 hw2
  (refine hdF (w.heap.size) hw2 ?_;intro Z2 Z2c Z2f Z2s)
  (refine hdF (w1.heap.size) hw2 ?_;intro F2 F2c F2f F2s)
  have BB2:Below w.heap.size w w2:=by rw[hw2];exact bwF
  have hzs:w.heap.size≠w1.heap.size:=Nat.ne_of_lt Z1s
  clear hw2 Z1 Z1c Z1f hb1
  go_region
  all_goals
   go_wp2
   refine bp_world ?_
   intro w9 hw9
   (refine hdF (w.heap.size) hw9 ?_;intro Z9 Z9c Z9f Z9s)
   have B9:Below w.heap.size w w9:=by rw[hw9];exact bwF
   clear hw9 Z2 Z2c Z2f F2 F2c F2f
   exact bodyPost_ret (v := .tuple #[.agg #[.int .i64 0,.string (bs [])],.bool false]) (by simp[results,Tryz.results33,go_sem,Z9c]) rfl ⟨rfl,B9⟩
theorem l16Slot_s(s:ByteArray)(hs:s.size≤maxLen)(w:World):Gives Tryz.prog 21 #[.string s] w (encFO (slotFO s.data.toList)):=by
 unfold Gives
 have hF:=fun w=>frameRead_s s 0 (by omega) hs w
 have hsz:=size_data s
 have hH:slotFO s.data.toList=if (frameRead s.data.toList 0).2.2.2=0∧(frameRead s.data.toList 0).2.2.1≠s.data.toList.length then (0,[],0,3) else frameRead s.data.toList 0:=rfl
 rcases hx:frameRead s.data.toList 0 with ⟨q,x,z,c⟩
 rw[hx] at hF hH
 dsimp only at hH
 rw[hsz] at hH
 unfold encFO at hF
 dsimp only at hF
 have HF:=hY hF
 by_cases hc:c=0
 ·subst hc
  by_cases hz:z=s.size
  ·have hv:slotFO s.data.toList=(q,x,z,0):=by rw[hH];simp[hz]
   have hz':(z != (s.size:Int))=false:=by simpa using hz
   rw[hv]
   unfold encFO
   dsimp only
   clear hx hF hH hv hs hsz hz
   go_enter Tryz.func21,Tryz.ntmps21
   go_wp2_with (go_at_call 53;refine(HF.out _).use.mono ?_;rintro e w1 ⟨rfl,hb1⟩;(refine kpF (w.heap.size) hb1 ?_;intro Z1 Z1c Z1f Z1s))
   refine bp_world ?_
   intro w9 hw9
   (refine hdF (w.heap.size) hw9 ?_;intro Z9 Z9c Z9f Z9s)
   have B9:Below w.heap.size w w9:=by rw[hw9];exact bwF
   clear hw9 Z1 Z1c Z1f
   exact bodyPost_ret (v := .agg #[.int .i64 q,.string (bs x),.int .i64 z,.int .i64 0]) (by simp[results,Tryz.results21,go_sem,Z9c]) rfl ⟨rfl,B9⟩
  ·have hv:slotFO s.data.toList=(0,[],0,3):=by rw[hH];simp[hz]
   have hz':(z != (s.size:Int))=true:=by simpa using hz
   rw[hv]
   unfold encFO
   dsimp only
   clear hx hF hH hv hs hsz hz
   go_enter Tryz.func21,Tryz.ntmps21
   go_wp2_with (go_at_call 53;refine(HF.out _).use.mono ?_;rintro e w1 ⟨rfl,hb1⟩;(refine kpF (w.heap.size) hb1 ?_;intro Z1 Z1c Z1f Z1s))
   refine bp_world ?_
   intro w9 hw9
   (refine hdF (w.heap.size) hw9 ?_;intro Z9 Z9c Z9f Z9s)
   have B9:Below w.heap.size w w9:=by rw[hw9];exact bwF
   clear hw9 Z1 Z1c Z1f
   exact bodyPost_ret (v := .agg #[.int .i64 0,.string (bs []),.int .i64 0,.int .i64 3]) (by simp[results,Tryz.results21,go_sem,Z9c];rfl) rfl ⟨rfl,B9⟩
 ·have hv:slotFO s.data.toList=(q,x,z,c):=by rw[hH];simp[hc]
  have hc':(c==0)=false:=by simpa using hc
  rw[hv]
  unfold encFO
  dsimp only
  clear hx hF hH hv hs hsz hc
  go_enter Tryz.func21,Tryz.ntmps21
  go_wp2_with (go_at_call 53;refine(HF.out _).use.mono ?_;rintro e w1 ⟨rfl,hb1⟩;(refine kpF (w.heap.size) hb1 ?_;intro Z1 Z1c Z1f Z1s))
  refine bp_world ?_
  intro w9 hw9
  (refine hdF (w.heap.size) hw9 ?_;intro Z9 Z9c Z9f Z9s)
  have B9:Below w.heap.size w w9:=by rw[hw9];exact bwF
  clear hw9 Z1 Z1c Z1f
  exact bodyPost_ret (v := .agg #[.int .i64 q,.string (bs x),.int .i64 z,.int .i64 c]) (by simp[results,Tryz.results21,go_sem,Z9c]) rfl ⟨rfl,B9⟩
end Go.Proofs.YtcabgibdkmgdlaaGreat
namespace Go.Proofs.YtcabgibdkmgdlaaGreat
open Go.RowKit M
namespace M
def pick(r:Reg)(j:Nat):ByteArray:=if j=0 then r.1 else r.2.1
def okAt(r:Reg)(seq:Int)(j:Nat):Bool:=(heldOf (pick r j).data.toList).2.2&&(heldOf (pick r j).data.toList).1==seq
def ofReg(r:Reg)(seq:Int):Int × Bs × Bool:=
 if okAt r seq 0=true then ((heldOf (pick r 0).data.toList).1,(heldOf (pick r 0).data.toList).2.1,true)
 else if okAt r seq 1=true then ((heldOf (pick r 1).data.toList).1,(heldOf (pick r 1).data.toList).2.1,true)
 else (0,[],false)
end M
theorem ofReg_hit{r:Reg}{seq:Int}{j:Nat}(hj:j<2)(hp:∀i,i<j→okAt r seq i=false)(h:okAt r seq j=true):ofReg r seq=((heldOf (pick r j).data.toList).1,(heldOf (pick r j).data.toList).2.1,true):=by
 unfold ofReg
 have hjj:j=0∨j=1:=by omega
 rcases hjj with rfl|rfl
 ·rw[if_pos h]
 ·rw[if_neg (by rw[hp 0 (by omega)];simp),if_pos h]
theorem ofReg_miss{r:Reg}{seq:Int}(hp:∀i,i<2→okAt r seq i=false):ofReg r seq=(0,[],false):=by
 unfold ofReg
 rw[if_neg (by rw[hp 0 (by omega)];simp),if_neg (by rw[hp 1 (by omega)];simp)]
theorem slotOf_i(r:Reg)(seq:Int)(h1:r.1.size≤maxLen)(h2:r.2.1.size≤maxLen)(w:World):
  Gives Tryz.prog 74 #[.agg #[.string r.1,.string r.2.1,.string r.2.2],.int .i64 seq] w (.tuple #[.agg #[.int .i64 (ofReg r seq).1,.string (bs (ofReg r seq).2.1)],.bool (ofReg r seq).2.2]):=by
 unfold Gives
 obtain⟨R,hR⟩:=nm2 (ofReg r seq)
 have HH:=hY (fun j (hj:j<2) (hp:∀i,i<j→okAt r seq i=false) h=>(ofReg_hit hj hp h).symm.trans hR)
 have HM:=hY (fun(hp:∀i,i<2→okAt r seq i=false)=>(ofReg_miss hp).symm.trans hR)
 rw[hR]
 have HP:Hid (∀j,(pick r j).size≤maxLen):=hY fun j=>by unfold pick;split <;> assumption
 have HE:Hid (∀j w,(pick r j).size≤maxLen→Gives Tryz.prog 33 #[.string (pick r j)] w (.tuple #[.agg #[.int .i64 (heldOf (pick r j).data.toList).1,.string (bs (heldOf (pick r j).data.toList).2.1)],.bool (heldOf (pick r j).data.toList).2.2])):=hY fun j w h=>held_i _ h w
 clear hR h1 h2
 go_enter Tryz.func74,Tryz.ntmps74
 go_wp2
 go_loopw [16] (fun i wr=>∃j:Nat,j≤2∧i = .int .i64 j∧Hid (∀i,i<j→okAt r seq i=false)∧Blk wr (w.heap.size+1+1) 9 #[.string r.1,.string r.2.1]∧Blk wr (w.heap.size+1) 81 #[.int .i64 0,.string ⟨#[]⟩]∧Below w.heap.size w wr) (fun i _=>2-(intOf i).toNat)
 case atStart=>
  refine⟨0,by omega,rfl,hY (fun i h=>absurd h (by omega)),?_,?_,by exact bwF⟩
  ·exact bkF
  ·exact bkF
 case round=>
  obtain⟨j,hj,rfl,HN,S0,Z0,BB⟩:=hrel
  have Z0c:=Z0.cell
  have Z0f:=Z0.frozen
  have Z0s:=Z0.lt
  by_cases hlt:j<2
  ·have i1:(j:Int)<2:=by omega
   have c0:_=some (Value.string (pick r j)):=S0.at (i:=j) (by
    have hjj:j=0∨j=1:=by omega
    rcases hjj with rfl|rfl <;> rfl)
   have hok:okAt r seq j=((heldOf (pick r j).data.toList).2.2&&(heldOf (pick r j).data.toList).1==seq):=rfl
   have hhit:=HH.out j hlt HN.out
   have hE:=fun w=>HE.out j w (HP.out j)
   rcases hv:heldOf (pick r j).data.toList with ⟨q,x,b⟩
   rw[hv] at hok hhit hE
   dsimp only at hok hhit hE
   have HE2:=hY hE
   have HHit:=hY hhit
   have HOk:=hY hok
   clear hv hE hhit hok HH HE HP
   cases b
   ·have HN':Hid (∀i,i<j+1→okAt r seq i=false):=hY fun i hi=>by
     rcases Nat.lt_or_ge i j with h|h
     ·exact HN.out i h
     ·obtain rfl:i=j:=by omega
      rw[HOk.out];rfl
    clear HHit HOk HN
    go_wp2_with (go_at_call 33;refine(HE2.out _).use.mono ?_;rintro e w1 ⟨rfl,hb1⟩;(refine kpF (w.heap.size+1) hb1 ?_;intro Z1 Z1c Z1f Z1s);(apply Blk.use (w:=w1) (g:=w.heap.size+1+1);(focus(apply Blk.lat hb1;exact bkF));intro S1);have BB1:Below w.heap.size w w1:=bwF;clear Z0 Z0c Z0f S0 c0 hb1)
    exact⟨⟨j+1,by omega,by go_num,HN',S1.alloc _,Z1.alloc _,by exact bwF⟩,by simp[intOf];omega⟩
   ·by_cases hq:q=seq
    ·have hq':(q==seq)=true:=by simpa using hq
     have HR:Hid (R=(q,x,true)):=hY (HHit.out (by rw[HOk.out];simp[hq])).symm
     clear HHit HOk HN hq
     go_wp2_with (go_at_call 33;refine(HE2.out _).use.mono ?_;rintro e w1 ⟨rfl,hb1⟩;(refine kpF (w.heap.size+1) hb1 ?_;intro Z1 Z1c Z1f Z1s);have BB1:Below w.heap.size w w1:=bwF;clear Z0 Z0c Z0f S0 c0 hb1)
     refine bp_world ?_
     intro w9 hw9
     (refine hdF (w.heap.size+1) hw9 ?_;intro Z9 Z9c Z9f Z9s)
     have B9:Below w.heap.size w w9:=by rw[hw9];exact bwF
     clear hw9 Z1 Z1c Z1f
     exact bodyPost_ret (v := .tuple #[.agg #[.int .i64 q,.string (bs x)],.bool true]) (by simp[results,Tryz.results74,go_sem,Z9c]) rfl ⟨by rw[HR.out],B9⟩
    ·have hq':(q==seq)=false:=by simpa using hq
     have HN':Hid (∀i,i<j+1→okAt r seq i=false):=hY fun i hi=>by
      rcases Nat.lt_or_ge i j with h|h
      ·exact HN.out i h
      ·obtain rfl:i=j:=by omega
       rw[HOk.out,hq'];rfl
     clear HHit HOk HN hq
     go_wp2_with (go_at_call 33;refine(HE2.out _).use.mono ?_;rintro e w1 ⟨rfl,hb1⟩;(refine kpF (w.heap.size+1) hb1 ?_;intro Z1 Z1c Z1f Z1s);(apply Blk.use (w:=w1) (g:=w.heap.size+1+1);(focus(apply Blk.lat hb1;exact bkF));intro S1);have BB1:Below w.heap.size w w1:=bwF;clear Z0 Z0c Z0f S0 c0 hb1)
     exact⟨⟨j+1,by omega,by go_num,HN',S1.alloc _,Z1.alloc _,by exact bwF⟩,by simp[intOf];omega⟩
  ·obtain rfl:j=2:=by omega
   have HR:Hid (R=(0,[],false)):=hY (HM.out HN.out).symm
   clear HH HM HN HE HP
   go_wp2
   refine bp_world ?_
   intro w9 hw9
   (refine hdF (w.heap.size+1) hw9 ?_;intro Z9 Z9c Z9f Z9s)
   have B9:Below w.heap.size w w9:=by rw[hw9];exact bwF
   clear hw9 Z0 Z0c Z0f S0
   exact bodyPost_ret (v := .tuple #[.agg #[.int .i64 0,.string (bs [])],.bool false]) (by simp[results,Tryz.results74,go_sem,Z9c];rfl) rfl ⟨by rw[HR.out],B9⟩
end Go.Proofs.YtcabgibdkmgdlaaGreat
namespace Go.Proofs.YtcabgibdkmgdlaaGreat
open Go.RowKit M
end Go.Proofs.YtcabgibdkmgdlaaGreat
namespace Go.Proofs.YtcabgibdkmgdlaaGreat
open Go.RowKit M
end Go.Proofs.YtcabgibdkmgdlaaGreat
namespace Go.Proofs.YtcabgibdkmgdlaaGreat
open Go.RowKit M
end Go.Proofs.YtcabgibdkmgdlaaGreat
namespace Go.Proofs.YtcabgibdkmgdlaaGreat
open Go.RowKit M
namespace M
end M
theorem reg_at{rs:List Reg}{k:Nat}(hk:k<rs.length):∃x,rs[k]? = some x∧rs.getD k noReg=x∧x ∈ rs:=by
 have h:rs[k]? = some rs[k]:=List.getElem?_eq_getElem hk
 exact⟨rs[k],h,by rw[List.getD_eq_getElem?_getD,h];rfl,List.getElem_mem hk⟩
theorem reg_le{rs:List Reg}{p:Int}{x:Reg}(h:diskOk rs p=true)(hx:x ∈ rs):x.1.size≤3000∧x.2.1.size≤3000∧x.2.2.size≤3000:=by
 have h2:=diskOk_all (diskOk_len' h) (show (decide (-1≤p)&&decide (p≤1000000))=true by
  unfold diskOk at h;simp at h;simp;omega)
 rw[h] at h2
 have h3:=List.all_eq_true.1 h2.symm x hx
 unfold regOk at h3
 simp at h3
 omega
end Go.Proofs.YtcabgibdkmgdlaaGreat
namespace Go.Proofs.YtcabgibdkmgdlaaGreat
open Go.RowKit M
namespace M
def ofFO(x:Int × Bs × Bool):FrameOut:=if x.2.2=true then (x.1,x.2.1,0,0) else (0,[],0,6)
end M
theorem slotFO_held(t:Bs):((slotFO t).2.2.2=0∧(heldOf t).2.2=true∧(slotFO t).1=(heldOf t).1∧(slotFO t).2.1=(heldOf t).2.1)∨((slotFO t).2.2.2≠0∧(heldOf t).2.2=false):=by
 unfold slotFO heldOf
 by_cases hc:(frameRead t 0).2.2.2=0
 ·by_cases hz:(frameRead t 0).2.2.1=t.length
  ·left;simp[hc,hz]
  ·right;simp[hc,hz]
 ·right;simp[hc]
theorem slot_cases(t:Bs)(seq:Int):((slotFO t).2.2.2=0∧(slotFO t).1=seq∧(((heldOf t).2.2&&(heldOf t).1==seq)=true)∧(slotFO t).1=(heldOf t).1∧(slotFO t).2.1=(heldOf t).2.1) ∨
  ((slotFO t).2.2.2≠0∧((heldOf t).2.2&&(heldOf t).1==seq)=false)∨((slotFO t).2.2.2=0∧(slotFO t).1≠seq∧((heldOf t).2.2&&(heldOf t).1==seq)=false):=by
 rcases slotFO_held t with ⟨h1,h2,h3,h4⟩|⟨h1,h2⟩
 ·by_cases hq:(slotFO t).1=seq
  ·left;exact⟨h1,hq,by rw[h2,←h3,hq];simp,h3,h4⟩
  ·right;right;exact⟨h1,hq,by rw[h2,←h3];simpa using hq⟩
 ·right;left;exact⟨h1,by rw[h2];rfl⟩
theorem ofFO_ofReg(x:Reg)(seq:Int):ofFO (ofReg x seq)=if okAt x seq 0=true then ((heldOf (pick x 0).data.toList).1,(heldOf (pick x 0).data.toList).2.1,0,0) else if okAt x seq 1=true then ((heldOf (pick x 1).data.toList).1,(heldOf (pick x 1).data.toList).2.1,0,0) else (0,[],0,6):=by
 unfold ofReg
 by_cases h0:okAt x seq 0=true
 ·rw[if_pos h0,if_pos h0];rfl
 ·rw[if_neg h0,if_neg h0]
  by_cases h1:okAt x seq 1=true
  ·rw[if_pos h1,if_pos h1];rfl
  ·rw[if_neg h1,if_neg h1];rfl
theorem l16Of_s(rs:List Reg)(v:Value)(p:Int)(k:Nat)(seq:Int)(x:Reg)(hx:rs[k]? = some x)(h1:x.1.size≤maxLen)(h2:x.2.1.size≤maxLen)(w:World)(hr:Rd w 3 v rs.length (flat encReg rs)):
  Gives Tryz.prog 51 #[.agg #[v,.int .i64 p],.int .i64 k,.int .i64 seq] w (encFO (ofFO (ofReg x seq))):=by
 unfold Gives
 have hk:k<rs.length:=(List.getElem?_eq_some_iff.1 hx).1
 obtain⟨A,cap,rfl,hn,hcap,hform⟩:=hr.form
 obtain⟨b,off,rfl,hcells⟩:=hform (by omega)
 have e0:(flat encReg rs)[k*3+0]? = some (.string x.1):=by rw[flat_get encReg_len rs k 0 x hx (by omega)];rfl
 have e1:(flat encReg rs)[k*3+1]? = some (.string x.2.1):=by rw[flat_get encReg_len rs k 1 x hx (by omega)];rfl
 have c0:=hcells _ _ e0
 have c1:=hcells _ _ e1
 rw[Nat.add_zero] at c0
 rw[←Nat.add_assoc] at c1
 have hbl:b<w.heap.size:=World.block_lt_of_cell? w _ c0
 have HC1:Hid (∀w',Below w.heap.size w w'→w'.cell? ⟨b,off+k*3+1,none⟩=some (.string x.2.1)):=hY fun w' hb=>by rw[(bcell hb).1 _ _ hbl];exact c1
 have i1:(k:Int)<rs.length:=by omega
 have hE:=fun w=>l16Slot_s x.1 h1 w
 have hO:=fun w=>l16Slot_s x.2.1 h2 w
 have sE:=slot_cases x.1.data.toList seq
 have sO:=slot_cases x.2.1.data.toList seq
 obtain⟨R,hR⟩:=nm2 (ofFO (ofReg x seq))
 rw[hR]
 have hof:ofFO (ofReg x seq)=if ((heldOf x.1.data.toList).2.2&&(heldOf x.1.data.toList).1==seq)=true then ((heldOf x.1.data.toList).1,(heldOf x.1.data.toList).2.1,0,0) else if ((heldOf x.2.1.data.toList).2.2&&(heldOf x.2.1.data.toList).1==seq)=true then ((heldOf x.2.1.data.toList).1,(heldOf x.2.1.data.toList).2.1,0,0) else (0,[],0,6):=by
  exact ofFO_ofReg x seq
 rw[hR] at hof
 clear hR hr hform hcells e0 e1 hx
 generalize heldOf x.1.data.toList=gE at *
 generalize heldOf x.2.1.data.toList=gO at *
 rcases hve:slotFO x.1.data.toList with ⟨qe,xe,ze,ce⟩
 rcases hvo:slotFO x.2.1.data.toList with ⟨qo,xo,zo,co⟩
 rw[hve] at hE sE
 rw[hvo] at hO sO
 clear hve hvo
 unfold encFO at hE hO
 dsimp only at hE hO sE sO
 have HE:=hY hE
 have HO:=hY hO
 have HOf:=hY hof
 clear hE hO hof c1 h1 h2
 rcases sE with ⟨rfl,rfl,a3,a4,a5⟩|sE
 ·have HR:Hid (R=(qe,xe,0,0)):=hY (by rw[HOf.out,if_pos a3,←a4,←a5])
  have t1:(qe != qe)=false:=by simp
  clear HOf sO a3 a4 a5
  go_enter Tryz.func51,Tryz.ntmps51
  go_wp2_with (go_at_call 21;with_reducible refine(HE.out _).use.mono ?_;rintro e w1 ⟨rfl,hb1⟩;(refine kpF (w.heap.size+1) hb1 ?_;intro Z1 Z1c Z1f Z1s))
  refine bp_world ?_
  intro w9 hw9
  (refine hdF (w.heap.size+1) hw9 ?_;intro Z9 Z9c Z9f Z9s)
  have B9:Below w.heap.size w w9:=by rw[hw9];exact bwF
  clear hw9 Z1 Z1c Z1f
  exact bodyPost_ret (v := .agg #[.int .i64 qe,.string (bs xe),.int .i64 0,.int .i64 0]) (by simp[results,Tryz.results51,go_sem,Z9c]) rfl ⟨by rw[HR.out];rfl,B9⟩
 ·have hne:(gE.2.2&&gE.1==seq)=false:=by rcases sE with ⟨_,h⟩|⟨_,_,h⟩ <;> exact h
  have hE':(ce != 0)=true∨((ce != 0)=false∧(qe != seq)=true):=by
   rcases sE with ⟨h,_⟩|⟨h,h',_⟩
   ·left;simpa using h
   ·right;simp[h,h']
  have hO':((co != 0)=false∧(qo != seq)=false∧R=(qo,xo,0,0))∨(((co != 0)=true∨((co != 0)=false∧(qo != seq)=true))∧R=(0,[],0,6)):=by
   rcases sO with ⟨h1,h2,h3,h4,h5⟩|⟨h1,h2⟩|⟨h1,h2,h3⟩
   ·left
    refine⟨by simpa using h1,by simpa using h2,?_⟩
    rw[HOf.out,if_neg (by rw[hne];simp),if_pos h3,←h4,←h5]
   ·right
    refine⟨.inl (by simpa using h1),?_⟩
    rw[HOf.out,if_neg (by rw[hne];simp),if_neg (by rw[h2];simp)]
   ·right
    refine⟨.inr ⟨by simpa using h1,by simpa using h2⟩,?_⟩
    rw[HOf.out,if_neg (by rw[hne];simp),if_neg (by rw[h3];simp)]
  clear HOf sE sO hne
  rcases hO' with ⟨o1,o2,hR⟩|⟨hO',hR⟩
  ·have HR:=hY hR
   clear hR
   have co0:co=0:=by simpa using o1
   rcases hE' with a1|⟨a1,a2⟩
   all_goals
    go_enter Tryz.func51,Tryz.ntmps51
    go_wp2_with (first
     | (go_at_call 21;with_reducible refine(HE.out _).use.mono ?_;rintro e w1 ⟨rfl,hb1⟩;(refine kpF (w.heap.size+1) hb1 ?_;intro Z1 Z1c Z1f Z1s);(refine kpF (w.heap.size) hb1 ?_;intro D1 D1c D1f D1s);have BB1:Below w.heap.size w w1:=bwF;have o3:=HC1.out w1 BB1;have hbl1:b<w1.heap.size:=Nat.lt_of_lt_of_le hbl BB1.size)
     | (go_at_call 21;with_reducible refine(HO.out _).use.mono ?_;rintro e w2 ⟨rfl,hb2⟩;(refine kpF (w.heap.size+1) hb2 ?_;intro Z2 Z2c Z2f Z2s);(refine kpF (w1.heap.size) hb2 ?_;intro U2 U2c U2f U2s)))
    refine bp_world ?_
    intro w9 hw9
    (refine hdF (w.heap.size+1) hw9 ?_;intro Z9 Z9c Z9f Z9s)
    have B9:Below w.heap.size w w9:=by rw[hw9];exact bwF
    clear hw9 Z1 Z1c Z1f D1 D1c D1f Z2 Z2c Z2f U2 U2c U2f
    exact bodyPost_ret (v := .agg #[.int .i64 qo,.string (bs xo),.int .i64 0,.int .i64 0]) (by simp[results,Tryz.results51,go_sem,Z9c]) rfl ⟨by rw[HR.out];rfl,B9⟩
  ·have HR:=hY hR
   clear hR
   rcases hE' with a1|⟨a1,a2⟩
   all_goals rcases hO' with o1|⟨o1,o2⟩
   all_goals
    go_enter Tryz.func51,Tryz.ntmps51
    go_wp2_with (first
     | (go_at_call 21;with_reducible refine(HE.out _).use.mono ?_;rintro e w1 ⟨rfl,hb1⟩;(refine kpF (w.heap.size+1) hb1 ?_;intro Z1 Z1c Z1f Z1s);(refine kpF (w.heap.size) hb1 ?_;intro D1 D1c D1f D1s);have BB1:Below w.heap.size w w1:=bwF;have o3:=HC1.out w1 BB1;have hbl1:b<w1.heap.size:=Nat.lt_of_lt_of_le hbl BB1.size)
     | (go_at_call 21;with_reducible refine(HO.out _).use.mono ?_;rintro e w2 ⟨rfl,hb2⟩;(refine kpF (w.heap.size+1) hb2 ?_;intro Z2 Z2c Z2f Z2s);(refine kpF (w1.heap.size) hb2 ?_;intro U2 U2c U2f U2s)))
    refine bp_world ?_
    intro w9 hw9
    (refine hdF (w.heap.size+1) hw9 ?_;intro Z9 Z9c Z9f Z9s)
    have B9:Below w.heap.size w w9:=by rw[hw9];exact bwF
    clear hw9 Z1 Z1c Z1f D1 D1c D1f Z2 Z2c Z2f U2 U2c U2f
    exact bodyPost_ret (v := .agg #[.int .i64 0,.string (bs []),.int .i64 0,.int .i64 6]) (by simp[results,Tryz.results51,go_sem,Z9c];rfl) rfl ⟨by rw[HR.out];rfl,B9⟩
end Go.Proofs.YtcabgibdkmgdlaaGreat
namespace Go.Proofs.YtcabgibdkmgdlaaGreat
open Go.RowKit M
theorem reg_max{rs:List Reg}{p:Int}{x:Reg}(h:diskOk rs p=true)(hx:x ∈ rs):x.1.size≤maxLen∧x.2.1.size≤maxLen:=by
 have:=reg_le h hx
 unfold maxLen
 omega
end Go.Proofs.YtcabgibdkmgdlaaGreat
namespace Go.Proofs.YtcabgibdkmgdlaaGreat
open Go.RowKit M
namespace M
def firstBy(bad:Reg→Bool)(rs:List Reg):Int:=match rs.findIdx? bad with|some k=>k|none=>-1
def missing(q:Int)(r:Reg):Bool:=!(ofReg r q).2.2
end M
theorem firstBy_none{bad:Reg→Bool}{rs:List Reg}(h:∀r ∈ rs,bad r=false):firstBy bad rs = -1:=by
 have:rs.findIdx? bad=none:=by rw[List.findIdx?_eq_none_iff];intro x hx;simp[h x hx]
 unfold firstBy;rw[this]
theorem firstBy_some{bad:Reg→Bool}{rs:List Reg}{k:Nat}(hk:k<rs.length)(h:∀r ∈ rs.take k,bad r=false)(hb:bad rs[k]=true):firstBy bad rs=k:=by
 have:rs.findIdx? bad=some k:=by
  rw[List.findIdx?_eq_some_iff_getElem]
  refine⟨hk,by simp[hb],fun j hj=>?_⟩
  have:=h rs[j] (by rw[List.mem_take_iff_getElem];exact⟨j,by omega,rfl⟩)
  simp[this]
 unfold firstBy;rw[this]
theorem firstBy_ge(bad:Reg→Bool)(rs:List Reg):decide (0≤firstBy bad rs)=rs.any bad:=by
 unfold firstBy
 cases h:rs.findIdx? bad with
 | none=>
  rw[List.findIdx?_eq_none_iff] at h
  have:rs.any bad=false:=by rw[List.any_eq_false];intro x hx;simp[h x hx]
  rw[this];rfl
 | some k=>
  rw[List.findIdx?_eq_some_iff_getElem] at h
  obtain⟨hk,hb,_⟩:=h
  have:rs.any bad=true:=List.any_eq_true.2 ⟨_,List.getElem_mem hk,hb⟩
  rw[this];simp
theorem missing_i(x:Reg)(F:Nat)(q:Int)(t:ByteArray)(h1:x.1.size≤maxLen)(h2:x.2.1.size≤maxLen)(w:World)(hF:Blk w F 81 #[.int .i64 q,.string t]):
  Gives Tryz.prog 73 #[.agg #[.string x.1,.string x.2.1,.string x.2.2],.pointer (some ⟨F,0,none⟩)] w (.bool (missing q x)):=by
 unfold Gives
 have hS:=fun w=>slotOf_i x q h1 h2 w
 have hm:missing q x = !(ofReg x q).2.2:=rfl
 rw[hm]
 generalize ofReg x q=y at *
 obtain⟨yq,yt,yb⟩:=y
 dsimp only at hS ⊢
 have Fc:=hF.cell
 have Fs:=hF.lt
 have HS:=hY hS
 clear hS hm h1 h2
 go_enter Tryz.func73,Tryz.ntmps73
 go_wp2_with (go_at_call 74;refine(HS.out _).use.mono ?_;rintro e w1 ⟨rfl,hb1⟩)
 go_ret
 exact⟨rfl,by exact bwF⟩
theorem indexMiss_i(rs:List Reg)(v:Value)(F:Nat)(q:Int)(t:ByteArray)(hm:∀x ∈ rs,x.1.size≤maxLen∧x.2.1.size≤maxLen)(w:World)(hF:Blk w F 81 #[.int .i64 q,.string t])(hr:Rd w 3 v rs.length (flat encReg rs)):
  Gives Tryz.prog 129 #[v,.func (.func 73) #[] #[.pointer (some ⟨F,0,none⟩)]] w (.int .i64 (firstBy (missing q) rs)):=by
 obtain⟨A,cap,rfl,hn,hcap,hA⟩:=hr.form
 unfold maxLen at hcap
 unfold Gives
 have HFb:=hY hF
 have HMx:=hY hm
 clear hF hm
 go_enter Tryz.func129,Tryz.ntmps129
 go_wp2
 go_loopw [8] (fun i wr=>∃k:Nat,k≤rs.length∧i = .int .i64 k∧Below w.heap.size w wr∧Hid (∀r ∈ rs.take k,missing q r=false)) (fun i _=>rs.length-(intOf i).toNat)
 case atStart=>exact⟨0,Nat.zero_le _,rfl,Below.refl _ _,hY (by simp)⟩
 case round=>
  obtain⟨k,hk,rfl,hb,hall⟩:=hrel
  by_cases hlt:k<rs.length
  ·obtain ⟨b,o,rfl,hcell⟩:=hA (by omega)
   have hkI:(k:Int)<(rs.length:Int):=by omega
   obtain⟨a0,a1,a2⟩:=reg_cells hcell hb k hlt (now wr)
   simp only[now] at a0 a1 a2
   have hts:Hid (rs.take (k+1)=rs.take k ++ [rs[k]]):=hY (List.take_succ_eq_append_getElem hlt)
   have hfb:Hid (missing q rs[k]=true→firstBy (missing q) rs=k):=hY (firstBy_some hlt hall.out)
   have hmx:=HMx.out rs[k] (List.getElem_mem hlt)
   generalize rs[k]=x at *
   go_wp2_with fail
   refine(missing_i x F q t hmx.1 hmx.2 _ (HFb.out.later hb)).use.mono ?_
   rintro e w1 ⟨rfl,hb1⟩
   cases hok:missing q x
   ·have hok':=hY hok
    clear hok
    go_wp2
    go_roundw
    case rel=>exact⟨k+1,by omega,by go_num,bthen hb hb1,hY (by
        rw[hts.out];intro r hr;rcases List.mem_append.1 hr with h|h
        ·exact hall.out r h
        ·simp at h;subst h;exact hok'.out)⟩
    case measure=>simp[intOf];omega
   ·have hok':=hY hok
    clear hok
    go_wp2
    go_ret
    exact⟨by rw[hfb.out hok'.out];rfl,bthen hb hb1⟩
  ·obtain rfl:k=rs.length:=by omega
   go_wp2
   go_ret
   have h:=hall.out
   rw[List.take_length] at h
   exact⟨by rw[firstBy_none h];rfl,hb⟩
theorem containsMiss_i(rs:List Reg)(v:Value)(F:Nat)(q:Int)(t:ByteArray)(hm:∀x ∈ rs,x.1.size≤maxLen∧x.2.1.size≤maxLen)(w:World)(hF:Blk w F 81 #[.int .i64 q,.string t])(hr:Rd w 3 v rs.length (flat encReg rs)):
  Gives Tryz.prog 72 #[v,.func (.func 73) #[] #[.pointer (some ⟨F,0,none⟩)]] w (.bool (rs.any (missing q))):=by
 unfold Gives
 go_enter Tryz.func72,Tryz.ntmps72
 go_wp2_with fail
 refine(indexMiss_i rs _ F q t hm _ hF hr).use.mono ?_
 rintro e w1 ⟨rfl,hb1⟩
 go_wp2
 go_ret
 exact⟨by rw[←firstBy_ge];rfl,hb1⟩
end Go.Proofs.YtcabgibdkmgdlaaGreat
namespace Go.Proofs.YtcabgibdkmgdlaaGreat
open Go.RowKit M
namespace M
def foundAll(rs:List Reg)(q:Int):Bool:=!(rs.any (missing q))
def baseStep(rs:List Reg)(t:Bs)(acc:Int):Int:=if ((heldOf t).2.2&&foundAll rs (heldOf t).1)=true then max acc (heldOf t).1 else acc
def baseAcc(rs:List Reg)(r:Reg):Nat→Int
 | 0=>0
 | j+1=>baseStep rs (pick r j).data.toList (baseAcc rs r j)
def baseOf(rs:List Reg)(p:Int):Int:=if diskOk rs p=false then 0 else baseAcc rs (rs.getD 0 noReg) 2
end M
theorem reg0_cells{w:World}{b off:Nat}{rs:List Reg}{x:Reg}(hx:rs[0]? = some x)(hc:∀j u,(flat encReg rs)[j]? = some u→w.cell? ⟨b,off+j,none⟩=some u):
  w.cell? ⟨b,off,none⟩=some (.string x.1)∧w.cell? ⟨b,off+1,none⟩=some (.string x.2.1):=by
 have e0:(flat encReg rs)[0]? = some (.string x.1):=by have:=flat_get encReg_len rs 0 0 x hx (by omega);rw[Nat.zero_mul,Nat.zero_add] at this;rw[this];rfl
 have e1:(flat encReg rs)[1]? = some (.string x.2.1):=by have:=flat_get encReg_len rs 0 1 x hx (by omega);rw[Nat.zero_mul,Nat.zero_add] at this;rw[this];rfl
 exact⟨hc 0 _ e0,hc 1 _ e1⟩
theorem diskBase_i_ok(rs:List Reg)(v:Value)(p:Int)(h:diskOk rs p=true)(w:World)(hr:Rd w 3 v rs.length (flat encReg rs)):
  Gives Tryz.prog 31 #[.agg #[v,.int .i64 p]] w (.int .i64 (baseAcc rs (rs.getD 0 noReg) 2)):=by
 unfold Gives
 have hD:=fun w hr=>diskRight_i rs v p w hr
 rw[h] at hD
 have hl:=diskOk_len' h
 obtain⟨x,hx,hxd,hxm⟩:=reg_at (rs:=rs) (k:=0) (by omega)
 have HM:Hid (∀y ∈ rs,y.1.size≤maxLen∧y.2.1.size≤maxLen):=hY fun y hy=>reg_max h hy
 have hxl:=reg_max h hxm
 rw[hxd]
 obtain⟨A0,cap,rfl,hn,hcap,hform⟩:=hr.form
 unfold maxLen at hcap
 obtain⟨b,off,rfl,hcells⟩:=hform (by omega)
 have hc01:=reg0_cells hx hcells
 have hbl:b<w.heap.size:=World.block_lt_of_cell? w _ hc01.1
 have HC:Hid (∀w',Below w.heap.size w w'→w'.cell? ⟨b,off,none⟩=some (.string x.1)∧w'.cell? ⟨b,off+1,none⟩=some (.string x.2.1)):=
  hY fun w' hb=>⟨by rw[(bcell hb).1 _ _ hbl];exact hc01.1,by rw[(bcell hb).1 _ _ hbl];exact hc01.2⟩
 have HP:Hid (∀j,(pick x j).size≤maxLen):=hY fun j=>by unfold pick;split <;> first|exact hxl.1|exact hxl.2
 have HE:Hid (∀j w,(pick x j).size≤maxLen→Gives Tryz.prog 33 #[.string (pick x j)] w (.tuple #[.agg #[.int .i64 (heldOf (pick x j).data.toList).1,.string (bs (heldOf (pick x j).data.toList).2.1)],.bool (heldOf (pick x j).data.toList).2.2])):=hY fun j w h=>held_i _ h w
 have HR:=hY hr
 have HD:=hY hD
 have i0:(0:Nat)<rs.length:=by omega
 have BB:Below w.heap.size w w:=Below.refl _ _
 clear hr h hD hform hcells hc01 hx hxd hxm hxl
 go_enter Tryz.func31,Tryz.ntmps31
 go_upto_region 4 with (go_at_call 68;refine(HD.out _ (HR.out.later bwF)).use.mono ?_;rintro e w1 ⟨rfl,hb1⟩;((refine kpF (w.heap.size) hb1 ?_;intro D Dc Df Ds);(have BBn:Below w.heap.size w w1:=bwF;clear BB;have BB:=BBn;clear BBn);clear hb1))
 obtain⟨o0,o1⟩:=HC.out _ BB
 have hbl1:b<w1.heap.size:=by have:=BB.size;omega
 refine wp_region_grows 13 [isV (.pointer (some ⟨w.heap.size,0,none⟩)),isV (.slice (some ⟨b,off,none⟩) rs.length cap),isV (.pointer (some ⟨b,off,none⟩)),isV (.pointer (some ⟨b,off,none⟩)),isV (.string x.1),isV (.pointer (some ⟨w.heap.size,0,none⟩)),isV (.slice (some ⟨b,off,none⟩) rs.length cap),isV (.pointer (some ⟨b,off,none⟩)),isV (.pointer (some ⟨b,off+1,none⟩)),isV (.string x.2.1),isSl w1.heap.size 9 2 #[.string x.1,.string x.2.1],isV (.int .i64 2),isV (.int .i64 0)] (by kernel_rfl) (by kernel_rfl) rfl (by repeat(first|exact AllStay.nil|refine AllStay.cons (stays_v _) ?_|refine AllStay.cons (stays_own _ _ _ _ _ _) ?_|refine AllStay.cons (stays_box _ _ _) ?_|refine AllStay.cons (stays_sl _ _ _ _) ?_|(refine AllStay.cons (by with_reducible assumption) ?_))) ?_;intro vs
 refine wpGrow_step rfl (by intro w' hb hd;clear hd;unfold growAt;go_simp;exact growV) ?_
 refine wpGrow_step rfl (by intro w' hb hd;have d0:=kV (hd 0 (by decide)) rfl;clear hd;have D':=D.later hb;have D'c:=D'.cell;unfold growAt;go_simp;exact growV) ?_
 refine wpGrow_step rfl (by intro w' hb hd;have d1:=kV (hd 1 (by decide)) rfl;clear hd;unfold growAt;go_simp;exact growV) ?_
 refine wpGrow_step rfl (by intro w' hb hd;have d2:=kV (hd 2 (by decide)) rfl;clear hd;unfold growAt;go_simp;exact growV) ?_
 refine wpGrow_step rfl (by intro w' hb hd;have d3:=kV (hd 3 (by decide)) rfl;clear hd;unfold growAt;go_simp;(have q0:=(bcell hb).1 b off hbl1;rw[o0] at q0;go_simp;exact growV)) ?_
 refine wpGrow_step rfl (by intro w' hb hd;clear hd;unfold growAt;go_simp;exact growV) ?_
 refine wpGrow_step rfl (by intro w' hb hd;have d5:=kV (hd 5 (by decide)) rfl;clear hd;have D':=D.later hb;have D'c:=D'.cell;unfold growAt;go_simp;exact growV) ?_
 refine wpGrow_step rfl (by intro w' hb hd;have d6:=kV (hd 6 (by decide)) rfl;clear hd;unfold growAt;go_simp;exact growV) ?_
 refine wpGrow_step rfl (by intro w' hb hd;have d7:=kV (hd 7 (by decide)) rfl;clear hd;unfold growAt;go_simp;exact growV) ?_
 refine wpGrow_step rfl (by intro w' hb hd;have d8:=kV (hd 8 (by decide)) rfl;clear hd;unfold growAt;go_simp;(have q1:=(bcell hb).1 b (off+1) hbl1;rw[o1] at q1;go_simp;exact growV)) ?_
 refine wpGrow_step rfl (by intro w' hb hd;have d4:=kV (hd 4 (by decide)) rfl;have d9:=kV (hd 9 (by decide)) rfl;clear hd;unfold growAt;go_simp;exact growSl hb.size) ?_
 refine wpGrow_step rfl (by intro w' hb hd;(obtain⟨g10,d10,gb10,B10⟩:=kSl (hd 10 (by decide)) rfl;have B10c:=B10.cell;have B10f:=B10.frozen;have B10s:=B10.lt);clear hd;unfold growAt;go_simp;exact growV) ?_
 refine wpGrow_step rfl (by intro w' hb hd;clear hd;unfold growAt;go_simp;exact growV) ?_
 intro w2 hb2 hk;have d0:=kV (hk 0 (by omega)) rfl;have d1:=kV (hk 1 (by omega)) rfl;have d2:=kV (hk 2 (by omega)) rfl;have d3:=kV (hk 3 (by omega)) rfl;have d4:=kV (hk 4 (by omega)) rfl;have d5:=kV (hk 5 (by omega)) rfl;have d6:=kV (hk 6 (by omega)) rfl;have d7:=kV (hk 7 (by omega)) rfl;have d8:=kV (hk 8 (by omega)) rfl;have d9:=kV (hk 9 (by omega)) rfl;(obtain⟨g10,d10,gb10,B10⟩:=kSl (hk 10 (by omega)) rfl;have B10c:=B10.cell;have B10f:=B10.frozen;have B10s:=B10.lt);have d11:=kV (hk 11 (by omega)) rfl;have d12:=kV (hk 12 (by omega)) rfl;simp only[d0,d1,d2,d3,d4,d5,d6,d7,d8,d9,d10,d11,d12,Act.put,List.setIfInBounds_toArray,List.set_cons_succ,List.set_cons_zero];clear hk d0 d1 d2 d3 d4 d5 d6 d7 d8 d9 d10 d11 d12
 have hz1:w.heap.size<w1.heap.size:=D.lt
 ((refine kpF (w.heap.size) hb2 ?_;clear D Dc Df Ds;intro D Dc Df Ds);(have BBn:Below w.heap.size w w2:=bwF;clear BB;have BB:=BBn;clear BBn);clear hb2)
 clear o0 o1
 generalize g10=gS at *
 have S:=B10
 clear B10 B10c B10f
 have S:=S
 go_wp2
 go_loopw [24,3] (fun i acc wr=>∃j:Nat,j≤2∧i = .int .i64 j∧acc = .int .i64 (baseAcc rs x j)∧Blk wr gS 9 #[.string x.1,.string x.2.1]∧Blk wr w.heap.size 60 #[.slice (some ⟨b,off,none⟩) rs.length cap,.int .i64 p]∧Below w.heap.size w wr) (fun i _ _=>2-(intOf i).toNat)
 case atStart=>exact⟨0,by omega,rfl,rfl,S,D,BB⟩
 case round=>
  clear BB D Dc Df Ds S
  obtain⟨j,hj,rfl,rfl,S,D,BB⟩:=hrel
  have Dc:=D.cell
  have Df:=D.frozen
  have Ds:=D.lt
  by_cases hlt:j<2
  ·have i1:(j:Int)<2:=by omega
   have c0:_=some (Value.string (pick x j)):=S.at (i:=j) (by
    have hjj:j=0∨j=1:=by omega
    rcases hjj with rfl|rfl <;> rfl)
   have hE:=fun w=>HE.out j w (HP.out j)
   have hstep:baseAcc rs x (j+1)=baseStep rs (pick x j).data.toList (baseAcc rs x j):=rfl
   unfold baseStep foundAll at hstep
   rcases hv:heldOf (pick x j).data.toList with ⟨q,y,hb⟩
   rw[hv] at hE hstep
   dsimp only at hE hstep
   generalize pick x j=sj at *
   obtain⟨nxt,hnxt⟩:=nm2 (baseAcc rs x (j+1))
   rw[hnxt] at hstep
   have HN:=hY hnxt
   generalize hacc:baseAcc rs x j=acc at *
   generalize hmv:rs.any (missing q)=m at *
   have HE2:=hY hE
   have HStep:=hY hstep
   have HX2:Hid (∀(w:World) (F:Nat),Blk w F 81 #[.int .i64 q,.string (bs y)]→Rd w 3 (.slice (some ⟨b,off,none⟩) rs.length cap) rs.length (flat encReg rs)→Gives Tryz.prog 72 #[.slice (some ⟨b,off,none⟩) rs.length cap,.func (.func 73) #[] #[.pointer (some ⟨F,0,none⟩)]] w (.bool m)):=hY fun w F hF hr=>by
    rw[←hmv];exact containsMiss_i rs _ F q (bs y) HM.out w hF hr
   clear hE hstep hv hnxt hacc hmv HE HP
   cases hb <;> cases m
   all_goals
    go_wp2_with (first
     | (go_at_call 33;refine(HE2.out _).use.mono ?_;rintro e w3 ⟨rfl,hb3⟩;clear c0;(apply Blk.use (w:=w3) (g:=gS);(focus(apply Blk.lat hb3;exact bkF));clear S;intro S);((refine kpF (w.heap.size) hb3 ?_;clear D Dc Df Ds;intro D Dc Df Ds);(have BBn:Below w.heap.size w w3:=bwF;clear BB;have BB:=BBn;clear BBn);clear hb3))
     | (go_at_call 72;refine(HX2.out _ w3.heap.size (by exact bkF) (HR.out.later bwF)).use.mono ?_;rintro e w4 ⟨rfl,hb4⟩;(apply Blk.use (w:=w4) (g:=gS);(focus(apply Blk.lat hb4;exact bkF));clear S;intro S);((refine kpF (w.heap.size) hb4 ?_;clear D Dc Df Ds;intro D Dc Df Ds);(refine kpF (w3.heap.size) hb4 ?_;intro F Fc Ff Fs);(have BBn:Below w.heap.size w w4:=bwF;clear BB;have BB:=BBn;clear BBn);clear hb4)))
    exact⟨⟨j+1,by omega,by go_num,by rw[HN.out,HStep.out];first|rfl|(congr 1;simp[Int.max_def];(repeat split) <;> omega),S,D,BB⟩,by simp[intOf];omega⟩
  ·obtain rfl:j=2:=by omega
   go_wp2
   go_ret
   exact⟨rfl,BB⟩
end Go.Proofs.YtcabgibdkmgdlaaGreat
namespace Go.Proofs.YtcabgibdkmgdlaaGreat
open Go.RowKit M
namespace M
def found(q:Int)(r:Reg):Bool:=(ofReg r q).2.2
end M
theorem l01Max_s(a b:Int)(w:World):Gives Tryz.prog 52 #[.int .i64 a,.int .i64 b] w (.int .i64 (max a b)):=by
 unfold Gives
 by_cases h:b<a
 ·have e:max a b=a:=Int.max_eq_left (by omega)
  rw[e]
  clear e
  go_enter Tryz.func52,Tryz.ntmps52
  go_wp2
  go_ret
  exact⟨rfl,by exact bwF⟩
 ·have e:max a b=b:=Int.max_eq_right (by omega)
  have HE:=hY e
  rw[e]
  clear e
  go_enter Tryz.func52,Tryz.ntmps52
  go_wp2
  go_ret
  exact⟨rfl,by exact bwF⟩
theorem field_code(q:Int)(t:ByteArray)(z c:Int)(w:World):(Instr.field 83 (.agg #[.int .i64 q,.string t,.int .i64 z,.int .i64 c]) 2).run Tryz.prog w = .ok (.int .i64 c) w:=by kernel_rfl
theorem baseStep_s{rs:List Reg}{x:Reg}{j:Nat}(hx:rs[0]? = some x)(hj:j<2)(acc:Int):
  baseStep rs (pick x j).data.toList acc=if (decide ((slotFO (pick x j).data.toList).2.2.2=0)&&(rs.drop 1).all (found (slotFO (pick x j).data.toList).1))=true then max acc (slotFO (pick x j).data.toList).1 else acc:=by
 obtain⟨r,rfl⟩:∃r,rs=x::r:=by
  cases rs with
  | nil=>simp at hx
  | cons y r=>exact⟨r,by simp at hx;rw[hx]⟩
 unfold baseStep
 rcases slotFO_held (pick x j).data.toList with ⟨h1,h2,h3,_⟩|⟨h1,h2⟩
 ·have hf:found (heldOf (pick x j).data.toList).1 x=true:=by
   have hok:okAt x (heldOf (pick x j).data.toList).1 j=true:=by unfold okAt;rw[h2];simp
   unfold found ofReg
   by_cases h0:okAt x (heldOf (pick x j).data.toList).1 0=true
   ·rw[if_pos h0]
   ·rw[if_neg h0]
    have hj1:j=1:=by
     have:j=0∨j=1:=by omega
     rcases this with rfl|rfl
     ·exact absurd hok h0
     ·rfl
    subst hj1
    rw[if_pos hok]
  have hfa:foundAll (x::r) (heldOf (pick x j).data.toList).1=((x::r).drop 1).all (found (heldOf (pick x j).data.toList).1):=by
   unfold foundAll
   rw[List.any_cons,List.drop_one,List.tail_cons,List.all_eq_not_any_not]
   have:missing (heldOf (pick x j).data.toList).1 x=false:=by unfold missing;unfold found at hf;rw[hf];rfl
   rw[this,Bool.false_or]
   rfl
  rw[hfa,h2,h1,h3]
  rfl
 ·rw[h2,decide_eq_false h1]
  simp
theorem diskBase_s_ok(rs:List Reg)(v:Value)(p:Int)(h:diskOk rs p=true)(w:World)(hr:Rd w 3 v rs.length (flat encReg rs)):
  Gives Tryz.prog 19 #[.agg #[v,.int .i64 p]] w (.int .i64 (baseAcc rs (rs.getD 0 noReg) 2)):=by
 unfold Gives
 have hD:=fun w hr=>diskRight_s rs v p w hr
 rw[h] at hD
 have hl:=diskOk_len' h
 obtain⟨x,hx,hxd,hxm⟩:=reg_at (rs:=rs) (k:=0) (by omega)
 have HM:Hid (∀y ∈ rs,y.1.size≤maxLen∧y.2.1.size≤maxLen):=hY fun y hy=>reg_max h hy
 have hxl:=reg_max h hxm
 rw[hxd]
 have HS:Hid (∀j acc,j<2→_):=hY fun j acc hj=>baseStep_s (rs:=rs) (x:=x) (j:=j) hx hj acc
 have HO:Hid (∀(k:Nat) (seq:Int) (w:World),k<rs.length→Rd w 3 v rs.length (flat encReg rs)→Gives Tryz.prog 51 #[.agg #[v,.int .i64 p],.int .i64 k,.int .i64 seq] w (encFO (ofFO (ofReg (rs.getD k noReg) seq)))):=hY fun k seq w hk hr=>by
  obtain⟨y,hy,hyd,hym⟩:=reg_at hk
  rw[hyd]
  exact l16Of_s rs v p k seq y hy (HM.out y hym).1 (HM.out y hym).2 w hr
 obtain⟨A0,cap,rfl,hn,hcap,hform⟩:=hr.form
 unfold maxLen at hcap
 obtain⟨b,off,rfl,hcells⟩:=hform (by omega)
 have hc01:=reg0_cells hx hcells
 have hbl:b<w.heap.size:=World.block_lt_of_cell? w _ hc01.1
 have HC:Hid (∀w',Below w.heap.size w w'→w'.cell? ⟨b,off,none⟩=some (.string x.1)∧w'.cell? ⟨b,off+1,none⟩=some (.string x.2.1)):=
  hY fun w' hb=>⟨by rw[(bcell hb).1 _ _ hbl];exact hc01.1,by rw[(bcell hb).1 _ _ hbl];exact hc01.2⟩
 have HE:Hid (∀w,Gives Tryz.prog 21 #[.string x.1] w (encFO (slotFO x.1.data.toList))):=hY fun w=>l16Slot_s _ hxl.1 w
 have HF:Hid (∀w,Gives Tryz.prog 21 #[.string x.2.1] w (encFO (slotFO x.2.1.data.toList))):=hY fun w=>l16Slot_s _ hxl.2 w
 have HR:=hY hr
 have HD:=hY hD
 have i0:(0:Nat)<rs.length:=by omega
 have BB:Below w.heap.size w w:=Below.refl _ _
 have HP0:Hid ((pick x 0).data.toList=x.1.data.toList):=hY rfl
 have HP1:Hid ((pick x 1).data.toList=x.2.1.data.toList):=hY rfl
 rcases hv0:slotFO x.1.data.toList with ⟨q0,t0,z0,e0⟩
 rcases hv1:slotFO x.2.1.data.toList with ⟨q1,t1,z1,e1⟩
 rw[hv0] at HE
 rw[hv1] at HF
 unfold encFO at HE HF
 dsimp only at HE HF
 have HV0:=hY hv0
 have HV1:=hY hv1
 clear hr h hD hform hcells hc01 hx hxd hxm hxl hv0 hv1
 go_enter Tryz.func19,Tryz.ntmps19
 go_upto_region 4 with (go_at_call 47;refine(HD.out _ (HR.out.later bwF)).use.mono ?_;rintro e w1 ⟨rfl,hb1⟩;((refine kpF (w.heap.size) hb1 ?_;intro D Dc Df Ds);(have BBn:Below w.heap.size w w1:=bwF;clear BB;have BB:=BBn;clear BBn);clear hb1))
 obtain⟨o0,o1⟩:=HC.out _ BB
 have hbl1:b<w1.heap.size:=by have:=BB.size;omega
 refine wp_region_grows 14 [isV (.pointer (some ⟨w.heap.size,0,none⟩)),isV (.slice (some ⟨b,off,none⟩) rs.length cap),isV (.pointer (some ⟨b,off,none⟩)),isV (.pointer (some ⟨b,off,none⟩)),isV (.string x.1),isV (.agg #[.int .i64 q0,.string (bs t0),.int .i64 z0,.int .i64 e0]),isV (.pointer (some ⟨w.heap.size,0,none⟩)),isV (.slice (some ⟨b,off,none⟩) rs.length cap),isV (.pointer (some ⟨b,off,none⟩)),isV (.pointer (some ⟨b,off+1,none⟩)),isV (.string x.2.1),isV (.agg #[.int .i64 q1,.string (bs t1),.int .i64 z1,.int .i64 e1]),isSl w1.heap.size 83 2 #[.int .i64 q0,.string (bs t0),.int .i64 z0,.int .i64 e0,.int .i64 q1,.string (bs t1),.int .i64 z1,.int .i64 e1],isSl w1.heap.size 83 2 #[.int .i64 q0,.string (bs t0),.int .i64 z0,.int .i64 e0,.int .i64 q1,.string (bs t1),.int .i64 z1,.int .i64 e1]] (by kernel_rfl) (by kernel_rfl) rfl (by repeat(first|exact AllStay.nil|refine AllStay.cons (stays_v _) ?_|refine AllStay.cons (stays_own _ _ _ _ _ _) ?_|refine AllStay.cons (stays_box _ _ _) ?_|refine AllStay.cons (stays_sl _ _ _ _) ?_|(refine AllStay.cons (by with_reducible assumption) ?_))) ?_;intro vs
 refine wpGrow_step rfl (by intro w' hb hd;clear hd;unfold growAt;go_simp;exact growV) ?_
 refine wpGrow_step rfl (by intro w' hb hd;have d0:=kV (hd 0 (by decide)) rfl;clear hd;have D':=D.later hb;have D'c:=D'.cell;unfold growAt;go_simp;exact growV) ?_
 refine wpGrow_step rfl (by intro w' hb hd;have d1:=kV (hd 1 (by decide)) rfl;clear hd;unfold growAt;go_simp;exact growV) ?_
 refine wpGrow_step rfl (by intro w' hb hd;have d2:=kV (hd 2 (by decide)) rfl;clear hd;unfold growAt;go_simp;exact growV) ?_
 refine wpGrow_step rfl (by intro w' hb hd;have d3:=kV (hd 3 (by decide)) rfl;clear hd;unfold growAt;go_simp;(have r0:=(bcell hb).1 b off hbl1;rw[o0] at r0;go_simp;exact growV)) ?_
 refine wpGrow_step rfl (by intro w' hb hd;have d4:=kV (hd 4 (by decide)) rfl;clear hd;unfold growAt;go_simp;exact growGives (HE.out _)) ?_
 refine wpGrow_step rfl (by intro w' hb hd;clear hd;unfold growAt;go_simp;exact growV) ?_
 refine wpGrow_step rfl (by intro w' hb hd;have d6:=kV (hd 6 (by decide)) rfl;clear hd;have D':=D.later hb;have D'c:=D'.cell;unfold growAt;go_simp;exact growV) ?_
 refine wpGrow_step rfl (by intro w' hb hd;have d7:=kV (hd 7 (by decide)) rfl;clear hd;unfold growAt;go_simp;exact growV) ?_
 refine wpGrow_step rfl (by intro w' hb hd;have d8:=kV (hd 8 (by decide)) rfl;clear hd;unfold growAt;go_simp;exact growV) ?_
 refine wpGrow_step rfl (by intro w' hb hd;have d9:=kV (hd 9 (by decide)) rfl;clear hd;unfold growAt;go_simp;(have r1:=(bcell hb).1 b (off+1) hbl1;rw[o1] at r1;go_simp;exact growV)) ?_
 refine wpGrow_step rfl (by intro w' hb hd;have d10:=kV (hd 10 (by decide)) rfl;clear hd;unfold growAt;go_simp;exact growGives (HF.out _)) ?_
 refine wpGrow_step rfl (by intro w' hb hd;have d5:=kV (hd 5 (by decide)) rfl;have d11:=kV (hd 11 (by decide)) rfl;clear hd;unfold growAt;go_simp;exact growSl hb.size) ?_
 refine wpGrow_step rfl (by intro w' hb hd;have k12:=hd 12 (by decide);clear hd;unfold growAt;go_simp;(exact⟨Below.refl _ _,k12⟩)) ?_
 intro w2 hb2 hk;have d0:=kV (hk 0 (by omega)) rfl;have d1:=kV (hk 1 (by omega)) rfl;have d2:=kV (hk 2 (by omega)) rfl;have d3:=kV (hk 3 (by omega)) rfl;have d4:=kV (hk 4 (by omega)) rfl;have d5:=kV (hk 5 (by omega)) rfl;have d6:=kV (hk 6 (by omega)) rfl;have d7:=kV (hk 7 (by omega)) rfl;have d8:=kV (hk 8 (by omega)) rfl;have d9:=kV (hk 9 (by omega)) rfl;have d10:=kV (hk 10 (by omega)) rfl;have d11:=kV (hk 11 (by omega)) rfl;(obtain⟨g12,d12,gb12,B12⟩:=kSl (hk 12 (by omega)) rfl;have B12c:=B12.cell;have B12f:=B12.frozen;have B12s:=B12.lt);(obtain⟨g13,d13,gb13,B13⟩:=kSl (hk 13 (by omega)) rfl;have B13c:=B13.cell;have B13f:=B13.frozen;have B13s:=B13.lt);simp only[d0,d1,d2,d3,d4,d5,d6,d7,d8,d9,d10,d11,d12,d13,Act.put,List.setIfInBounds_toArray,List.set_cons_succ,List.set_cons_zero];clear hk d0 d1 d2 d3 d4 d5 d6 d7 d8 d9 d10 d11 d12 d13
 have hz1:w.heap.size<w1.heap.size:=D.lt
 ((refine kpF (w.heap.size) hb2 ?_;clear D Dc Df Ds;intro D Dc Df Ds);(have BBn:Below w.heap.size w w2:=bwF;clear BB;have BB:=BBn;clear BBn);clear hb2)
 clear o0 o1 B12 B12c B12f B12s
 generalize g13=gS at *
 have S:=B13
 clear B13 B13c B13f
 go_wp2
 go_loopw [5,3] (fun i acc wr=>∃j:Nat,j≤2∧i = .int .i64 j∧acc = .int .i64 (baseAcc rs x j)∧Blk wr gS 83 #[.int .i64 q0,.string (bs t0),.int .i64 z0,.int .i64 e0,.int .i64 q1,.string (bs t1),.int .i64 z1,.int .i64 e1]∧Blk wr w.heap.size 60 #[.slice (some ⟨b,off,none⟩) rs.length cap,.int .i64 p]∧Below w.heap.size w wr) (fun i _ _=>2-(intOf i).toNat)
 case atStart=>exact⟨0,by omega,rfl,rfl,S,D,BB⟩
 case round=>
  clear BB D Dc Df Ds S
  obtain⟨j,hj,rfl,rfl,S,D,BB⟩:=hrel
  by_cases hlt:j<2
  ·obtain ⟨q,e,HQ,HC3,HST⟩:∃q e:Int,Hid (∀w',Blk w' gS 83 #[.int .i64 q0,.string (bs t0),.int .i64 z0,.int .i64 e0,.int .i64 q1,.string (bs t1),.int .i64 z1,.int .i64 e1]→w'.cell? ⟨gS,j*4,none⟩=some (.int .i64 q))∧Hid (∀w',Blk w' gS 83 #[.int .i64 q0,.string (bs t0),.int .i64 z0,.int .i64 e0,.int .i64 q1,.string (bs t1),.int .i64 z1,.int .i64 e1]→w'.cell? ⟨gS,j*4+3,none⟩=some (.int .i64 e))∧Hid (baseAcc rs x (j+1)=if (decide (e=0)&&(rs.drop 1).all (found q))=true then max (baseAcc rs x j) q else baseAcc rs x j):=by
    have hb:=HS.out j (baseAcc rs x j) hlt
    have hjj:j=0∨j=1:=by omega
    rcases hjj with rfl|rfl
    ·rw[HP0.out,HV0.out] at hb
     exact⟨q0,e0,hY fun w' h=>h.at rfl,hY fun w' h=>h.at rfl,hY hb⟩
    ·rw[HP1.out,HV1.out] at hb
     exact⟨q1,e1,hY fun w' h=>h.at rfl,hY fun w' h=>h.at rfl,hY hb⟩
   have i1:(j:Int)<2:=by omega
   have cq:=HQ.out _ S
   have ce:=HC3.out _ S
   have Dc:=D.cell
   obtain⟨nxt,hnxt⟩:=nm2 (baseAcc rs x (j+1))
   rw[hnxt] at HST
   have HN:=hY hnxt
   generalize baseAcc rs x j=acc at *
   obtain⟨b0,hb0⟩:∃b0:Bool,(e==0)=b0:=⟨_,rfl⟩
   have HB0:Hid (decide (e=0)=b0):=hY (by rw[←hb0];rfl)
   clear hnxt HS HP0 HP1 HV0 HV1 HE HF
   go_wp2
   go_loopw [6,7] (fun al r w2=>∃(k:Nat) (bb:Bool),1≤k∧k≤rs.length∧r = .int .i64 k∧al = .bool bb∧Hid (bb=(b0&&((rs.take k).drop 1).all (found q)))∧Blk w2 gS 83 #[.int .i64 q0,.string (bs t0),.int .i64 z0,.int .i64 e0,.int .i64 q1,.string (bs t1),.int .i64 z1,.int .i64 e1]∧Blk w2 w.heap.size 60 #[.slice (some ⟨b,off,none⟩) rs.length cap,.int .i64 p]∧Below w.heap.size w w2) (fun _ r _=>rs.length-(intOf r).toNat)
   case atStart=>exact⟨1,b0,by omega,by omega,rfl,rfl,hY (by rw[show (rs.take 1).drop 1 = [] by rw[List.drop_eq_nil_of_le (by rw[List.length_take];omega)]];simp),S,D,BB⟩
   case round=>
    clear BB D Dc S cq ce
    obtain⟨k,bb,hk1,hk,rfl,rfl,HBB,S,D,BB⟩:=hrel
    have Dc:=D.cell
    by_cases hgo:k<rs.length∧bb=true
    ·obtain ⟨hkl,rfl⟩:=hgo
     have hki:(k:Int)<rs.length:=by omega
     have HOK:Hid (∀w',Below w.heap.size w w'→Gives Tryz.prog 51 #[.agg #[.slice (some ⟨b,off,none⟩) rs.length cap,.int .i64 p],.int .i64 k,.int .i64 q] w' (encFO (ofFO (ofReg (rs.getD k noReg) q)))):=hY fun w' hb=>HO.out k q w' hkl (HR.out.later hb)
     have hts:((rs.take (k+1)).drop 1).all (found q)=(((rs.take k).drop 1).all (found q)&&(ofReg (rs.getD k noReg) q).2.2):=by
      obtain⟨y,hy,hyd,_⟩:=reg_at hkl
      rw[hyd,List.take_add_one,hy,List.drop_append_of_le_length (by rw[List.length_take];omega),List.all_append]
      simp[found]
     rcases hfv:ofReg (rs.getD k noReg) q with ⟨fq,ft,fb⟩
     rw[hfv] at HOK hts
     dsimp only at hts
     have HTS:Hid (fb=(b0&&((rs.take (k+1)).drop 1).all (found q))):=hY (by rw[hts,←Bool.and_assoc,←HBB.out,Bool.true_and])
     clear hfv hts HBB
     have l0:=fun y=>D.atL (i:=0) rfl y
     have l1:=fun y=>D.atL (i:=1) rfl y
     have cq:=HQ.out _ S
     have l2:=fun y=>lcell cq y
     have hfd:=field_code
     unfold encFO ofFO at HOK
     dsimp only at HOK
     cases fb
     all_goals
      simp only[Bool.false_eq_true,if_false,if_true] at HOK
      go_wp2
      refine wp_region_later (by kernel_rfl) (by kernel_rfl) ?_
      repeat(go_big_quiet_step ((go_at_call 51;exact Gives.later _ (HOK.out _ (bthen BB (Later.ok _))))))
      refine wpQuiet_nil ?_
      rintro _ ⟨y,rfl⟩
      have hy:=y.ok
      clear l0 l1 l2 cq Dc hfd
      generalize y.now=w5 at *
      have S5:=S.later hy
      have D5:=D.later hy
      have BB5:Below w.heap.size w w5:=bthen BB hy
      clear S D BB hy
      go_wp2
      go_roundw
      case rel=>exact⟨k+1,_,by omega,by omega,by go_num,rfl,HTS,S5,D5,BB5⟩
      case measure=>simp[intOf];omega
    ·have hex:((k:Int)<rs.length∧bb=false)∨(¬(k:Int)<rs.length∧k=rs.length):=by
      by_cases hkl:k<rs.length
      ·left
       refine⟨by omega,?_⟩
       cases bb
       ·rfl
       ·exact absurd ⟨hkl,rfl⟩ hgo
      ·right;exact⟨by omega,by omega⟩
     have HNX:Hid (nxt=if bb=true then max acc q else acc):=hY (by
      rw[HST.out,HB0.out]
      rcases hex with ⟨_,rfl⟩|⟨_,rfl⟩
      ·have hz:(b0&&(rs.drop 1).all (found q))=false:=by
        cases hc:(b0&&(rs.drop 1).all (found q)) with
        | false=>rfl
        | true=>
         exfalso
         have h1:=HBB.out
         rw[Bool.and_eq_true] at hc
         rw[hc.1,Bool.true_and] at h1
         have h2:((rs.take k).drop 1).all (found q)=true:=by
          rw[List.all_eq_true] at hc ⊢
          intro y hy
          refine hc.2 y ?_
          rw[List.drop_take] at hy
          exact List.mem_of_mem_take hy
         rw[h2] at h1;cases h1
       rw[hz]
      ·rw[List.take_length] at HBB
       rw[←HBB.out])
     have cq:=HQ.out _ S
     clear HBB HST hgo
     rcases hex with ⟨x1,rfl⟩|⟨x1,rfl⟩
     ·have HNY:Hid (nxt=acc):=hY HNX.out
      go_wp2
      go_roundw
      case rel=>exact⟨j+1,by omega,by go_num,by rw[HN.out,HNY.out],S,D,BB⟩
      case measure=>simp[intOf];omega
     ·cases bb
      ·have HNY:Hid (nxt=acc):=hY HNX.out
       go_wp2
       go_roundw
       case rel=>exact⟨j+1,by omega,by go_num,by rw[HN.out,HNY.out],S,D,BB⟩
       case measure=>simp[intOf];omega
      ·have HNY:Hid (nxt=max acc q):=hY HNX.out
       go_wp2_with (go_at_call 52;refine(l01Max_s _ _ _).use.mono ?_;rintro e w5 ⟨rfl,hb5⟩)
       have S5:=S.later hb5
       have D5:=D.later hb5
       have BB5:Below w.heap.size w w5:=bthen BB hb5
       clear S D BB hb5
       go_roundw
       case rel=>exact⟨j+1,by omega,by go_num,by rw[HN.out,HNY.out],S5,D5,BB5⟩
       case measure=>simp[intOf];omega
  ·obtain rfl:j=2:=by omega
   go_wp2
   go_ret
   exact⟨rfl,BB⟩
end Go.Proofs.YtcabgibdkmgdlaaGreat
namespace Go.Proofs.YtcabgibdkmgdlaaGreat
open Go.RowKit M
theorem diskBase_i(rs:List Reg)(v:Value)(p:Int)(w:World)(hr:Rd w 3 v rs.length (flat encReg rs)):
  Gives Tryz.prog 31 #[.agg #[v,.int .i64 p]] w (.int .i64 (baseOf rs p)):=by
 unfold baseOf
 cases h:diskOk rs p
 ·rw[if_pos rfl]
  unfold Gives
  have hD:=fun w hr=>diskRight_i rs v p w hr
  rw[h] at hD
  obtain⟨A,cap,rfl,_⟩:=hr.form
  have HR:=hY hr
  have HD:=hY hD
  clear hr h hD
  go_enter Tryz.func31,Tryz.ntmps31
  go_wp2_with (go_at_call 68;refine(HD.out _ (HR.out.later bwF)).use.mono ?_;rintro e w1 ⟨rfl,hb1⟩)
  go_ret
  exact⟨rfl,by exact bwF⟩
 ·rw[if_neg (by simp)]
  exact diskBase_i_ok rs v p h w hr
theorem diskBase_s(rs:List Reg)(v:Value)(p:Int)(w:World)(hr:Rd w 3 v rs.length (flat encReg rs)):
  Gives Tryz.prog 19 #[.agg #[v,.int .i64 p]] w (.int .i64 (baseOf rs p)):=by
 unfold baseOf
 cases h:diskOk rs p
 ·rw[if_pos rfl]
  unfold Gives
  have hD:=fun w hr=>diskRight_s rs v p w hr
  rw[h] at hD
  obtain⟨A,cap,rfl,_⟩:=hr.form
  have HR:=hY hr
  have HD:=hY hD
  clear hr h hD
  go_enter Tryz.func19,Tryz.ntmps19
  go_wp2_with (go_at_call 47;refine(HD.out _ (HR.out.later bwF)).use.mono ?_;rintro e w1 ⟨rfl,hb1⟩)
  go_ret
  exact⟨rfl,by exact bwF⟩
 ·rw[if_neg (by simp)]
  exact diskBase_s_ok rs v p h w hr
