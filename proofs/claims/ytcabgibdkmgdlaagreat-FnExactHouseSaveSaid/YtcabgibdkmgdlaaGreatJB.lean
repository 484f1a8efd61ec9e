import Derived.Test.YtcabgibdkmgdlaaGreatC1
import Derived.Deep.AppendLies
import Derived.Deep.RegionHeld3
import Derived.Deep.RegionWith
import Derived.Test.YtcabgibdkmgdlaaGreatG3
import Derived.ArgAppend
import Derived.Deep.RegionLawGrows
import Derived.Deep.MidRow
set_option linter.unusedSimpArgs false
set_option linter.unusedVariables false
set_option maxRecDepth 100000
set_option maxHeartbeats 1000000
namespace Go.Proofs.YtcabgibdkmgdlaaGreat
open Go.RowKit M
theorem info_Region:(Tryz.prog.info? 86).map (fun i=>(i.zero,i.size,i.bytes))=some (some (.agg #[.string ⟨#[]⟩,.string ⟨#[]⟩,.string ⟨#[]⟩]),3,48):=by kernel_rfl
def NewDisk(w:World)(e:Ending)(w':World)(rs:List Reg)(p:Int):Prop:=
 ∃A cap,e = .returned (.agg #[.slice A rs.length cap,.int .i64 p])∧w'.ownsRow w.heap.size 86 3 (.slice A rs.length cap) rs.length (flat encReg rs)∧Below w.heap.size w w'
def noReg:Reg:=(⟨#[]⟩,⟨#[]⟩,⟨#[]⟩)
theorem made_regs(n:Nat):(madeCells #[.string ⟨#[]⟩,.string ⟨#[]⟩,.string ⟨#[]⟩] (n*3)).toList=flat encReg (List.replicate n noReg):=by
 apply List.ext_getElem?
 intro j
 by_cases hj:j<n*3
 ·have h2:=flat_get encReg_len (List.replicate n noReg) (j / 3) (j%3) noReg (by rw[List.getElem?_replicate,if_pos (by omega)]) (by omega)
  rw[show j / 3*3+j%3=j by omega] at h2
  rw[h2]
  have h3:j%3<3:=by omega
  simp only[madeCells,Array.getElem?_toList,Array.getElem?_map,Array.getElem?_range,hj,if_pos,Option.map_some]
  rw[show (#[Value.string ⟨#[]⟩,Value.string ⟨#[]⟩,Value.string ⟨#[]⟩]:Array Value).size=3 from rfl]
  generalize j%3=m at h3
  match m,h3 with
  | 0,_=>rfl
  | 1,_=>rfl
  | 2,_=>rfl
 ·rw[List.getElem?_eq_none (by rw[Array.length_toList,size_madeCells];omega),List.getElem?_eq_none (by rw[flat_length encReg_len];simp;omega)]
end Go.Proofs.YtcabgibdkmgdlaaGreat
namespace Go.Proofs.YtcabgibdkmgdlaaGreat
open Go.RowKit M
theorem reg_cells{w wr:World}{b off:Nat}{rs:List Reg}(h:∀j u,(flat encReg rs)[j]? = some u→w.cell? ⟨b,off+j,none⟩=some u)(hb:Below w.heap.size w wr)(k:Nat)(hk:k<rs.length)(x:Later wr):
  x.now.cell? ⟨b,off+k*3,none⟩=some (.string rs[k].1)∧x.now.cell? ⟨b,off+k*3+1,none⟩=some (.string rs[k].2.1)∧x.now.cell? ⟨b,off+k*3+2,none⟩=some (.string rs[k].2.2):=by
 have g:∀j u,j<3→(encReg rs[k])[j]? = some u→x.now.cell? ⟨b,off+k*3+j,none⟩=some u:=fun j u hj hu=>by
  rw[Nat.add_assoc];exact Rd.at_ (n:=0) (s:=0) (cap:=0) h hb _ u (by rw[flat_get encReg_len rs k j rs[k] (by simp[hk]) hj];exact hu) x
 exact⟨g 0 _ (by omega) rfl,g 1 _ (by omega) rfl,g 2 _ (by omega) rfl⟩
def now(w:World):Later w:=⟨w,Below.refl _ _⟩
def regOk(r:Reg):Bool:=decide (r.1.size≤3000)&&(decide (r.2.1.size≤3000)&&decide (r.2.2.size≤3000))
def diskOk(rs:List Reg)(p:Int):Bool:=(decide (1≤rs.length)&&decide (rs.length≤13))&&((decide (-1≤p)&&decide (p≤1000000))&&rs.all regOk)
theorem bad_i(r:Reg)(w:World):Gives Tryz.prog 128 #[.agg #[.string r.1,.string r.2.1,.string r.2.2]] w (.bool (!regOk r)):=by
 obtain⟨a,b,c⟩:=r
 unfold Gives
 have HE:Hid (regOk (a,b,c)=(decide (a.size≤3000)&&(decide (b.size≤3000)&&decide (c.size≤3000)))):=hY rfl
 go_enter Tryz.func128,Tryz.ntmps128
 go_wp2
 all_goals go_ret
 all_goals refine⟨?_,bnew _ _⟩
 all_goals rw[HE.out]
 all_goals refine ret_bool ?_
 all_goals rw[Bool.eq_iff_iff]
 all_goals simp
 all_goals omega
theorem regOk_cases(r:Reg):(regOk r=true ∧ ¬(3000:Int)<r.1.size ∧ ¬(3000:Int)<r.2.1.size ∧ ¬(3000:Int)<r.2.2.size) ∨
  (regOk r=false∧((3000:Int)<r.1.size∨(¬(3000:Int)<r.1.size∧(3000:Int)<r.2.1.size)∨(¬(3000:Int)<r.1.size ∧ ¬(3000:Int)<r.2.1.size∧(3000:Int)<r.2.2.size))):=by
 unfold regOk
 cases h:(decide (r.1.size≤3000)&&(decide (r.2.1.size≤3000)&&decide (r.2.2.size≤3000)))
 ·refine .inr ⟨rfl,?_⟩
  rw[Bool.eq_false_iff] at h
  simp only[ne_eq,Bool.and_eq_true,decide_eq_true_eq] at h
  omega
 ·refine .inl ⟨rfl,?_⟩
  simp only[Bool.and_eq_true,decide_eq_true_eq] at h
  omega
theorem diskOk_len{rs:List Reg}{p:Int}(h:¬(1≤rs.length∧rs.length≤13)):diskOk rs p=false:=by
 unfold diskOk;rw[Bool.eq_false_iff];simp;omega
theorem diskOk_pow{rs:List Reg}{p:Int}(h:(decide (-1≤p)&&decide (p≤1000000))=false):diskOk rs p=false:=by
 unfold diskOk;rw[h];simp
theorem diskOk_all{rs:List Reg}{p:Int}(h:1≤rs.length∧rs.length≤13)(hp:(decide (-1≤p)&&decide (p≤1000000))=true):diskOk rs p=rs.all regOk:=by
 unfold diskOk;rw[hp];simp[h]
theorem all_take{rs:List Reg}(h:∀r ∈ rs,regOk r=true):rs.all regOk=true:=List.all_eq_true.2 h
theorem all_not{rs:List Reg}{r:Reg}(h:r ∈ rs)(hr:regOk r=false):rs.all regOk=false:=by
 rw[Bool.eq_false_iff];intro he;have:=List.all_eq_true.1 he r h;rw[hr] at this;cases this
theorem diskRight_s(rs:List Reg)(v:Value)(p:Int)(w:World)(hr:Rd w 3 v rs.length (flat encReg rs)):
  Gives Tryz.prog 47 #[.agg #[v,.int .i64 p]] w (.bool (diskOk rs p)):=by
 obtain⟨A,cap,rfl,hn,hcap,hA⟩:=hr.form
 unfold maxLen at hcap
 unfold Gives
 by_cases h1:(rs.length:Int)<1
 ·have HE:Hid (diskOk rs p=false):=by exact hY (diskOk_len (by omega))
  go_enter Tryz.func47,Tryz.ntmps47
  go_wp2
  go_ret
  exact⟨by rw[HE.out];rfl,bnew _ _⟩
 ·by_cases h2:(13:Int)<rs.length
  ·have HE:Hid (diskOk rs p=false):=by exact hY (diskOk_len (by omega))
   go_enter Tryz.func47,Tryz.ntmps47
   go_wp2
   go_ret
   exact⟨by rw[HE.out];rfl,bnew _ _⟩
  ·cases hp:(decide (-1≤p)&&decide (p≤1000000))
   ·have HE:Hid (diskOk rs p=false):=by exact hY (diskOk_pow hp)
    have hp':=hY hp
    clear hp
    go_enter Tryz.func47,Tryz.ntmps47
    go_wp2_with (go_at_call 50;refine(is_s _ _ _ _).use.mono ?_;rw[hp'.out];rintro e w1 ⟨rfl,hb1⟩)
    go_ret
    exact⟨by rw[HE.out];rfl,bthen (bnew _ _) hb1⟩
   ·have HE:Hid (diskOk rs p=rs.all regOk):=by exact hY (diskOk_all (by omega) hp)
    have hp':=hY hp
    clear hp
    go_enter Tryz.func47,Tryz.ntmps47
    go_wp2_with (go_at_call 50;refine(is_s _ _ _ _).use.mono ?_;rw[hp'.out];rintro e w1 ⟨rfl,hb1⟩;obtain⟨hc1,hf1⟩:=bcell hb1)
    have d0:w1.cell? ⟨w.heap.size,0,none⟩=some (.slice A rs.length cap):=by rw[hc1 _ _ (by simp)];simp[World.cell?_alloc_new]
    have hs1:w.heap.size<w1.heap.size:=by have:=hb1.size;simp at this;omega
    have HB:=bthen (bnew w _) hb1
    clear hc1 hf1 hb1
    go_loopw [3] (fun i wr=>∃k:Nat,k≤rs.length∧i = .int .i64 k∧Below w.heap.size w wr∧w.heap.size<wr.heap.size∧wr.cell? ⟨w.heap.size,0,none⟩=some (.slice A rs.length cap)∧Hid (∀r ∈ rs.take k,regOk r=true)) (fun i _=>rs.length-(intOf i).toNat)
    case atStart=>exact⟨0,Nat.zero_le _,rfl,HB,hs1,d0,hY (by simp)⟩
    case round=>
     obtain⟨k,hk,rfl,hb,hs,hd,hall⟩:=hrel
     by_cases hlt:k<rs.length
     ·obtain ⟨b,o,rfl,hcell⟩:=hA (by omega)
      have hkI:(k:Int)<(rs.length:Int):=by omega
      obtain⟨a0,a1,a2⟩:=reg_cells hcell hb k hlt (now wr)
      simp only[now] at a0 a1 a2
      have hts:Hid (rs.take (k+1)=rs.take k ++ [rs[k]]):=hY (List.take_succ_eq_append_getElem hlt)
      have hmem:Hid (rs[k] ∈ rs):=hY (List.getElem_mem hlt)
      have hcs:=regOk_cases rs[k]
      generalize rs[k]=x at *
      rcases hcs with ⟨hok,e1,e2,e3⟩|⟨hbad,e1|⟨e1,e2⟩|⟨e1,e2,e3⟩⟩
      ·have hok':=hY hok
       clear hok
       go_wp2
       go_roundw
       case rel=>exact⟨k+1,by omega,by go_num,bthen hb (bnew _ _),by simp;omega,by rw[World.cell?_alloc_lt _ _ _ hs];exact hd,hY (by
        rw[hts.out];intro r hr;rcases List.mem_append.1 hr with h|h
        ·exact hall.out r h
        ·simp at h;subst h;exact hok'.out)⟩
       case measure=>simp[intOf];omega
      all_goals have hbad':=hY hbad
      all_goals clear hbad
      all_goals go_wp2
      all_goals go_ret
      all_goals exact⟨by rw[HE.out,all_not hmem.out hbad'.out];rfl,bthen hb (bnew _ _)⟩
     ·obtain rfl:k=rs.length:=by omega
      go_wp2
      go_ret
      have h:=hall.out
      rw[List.take_length] at h
      exact⟨by rw[HE.out,all_take h];rfl,hb⟩
def firstBad(rs:List Reg):Int:=match rs.findIdx? (fun r=>!regOk r) with|some k=>k|none=>-1
theorem firstBad_none{rs:List Reg}(h:∀r ∈ rs,regOk r=true):firstBad rs = -1:=by
 have:rs.findIdx? (fun r=>!regOk r)=none:=by rw[List.findIdx?_eq_none_iff];intro x hx;simp[h x hx]
 unfold firstBad;rw[this]
theorem firstBad_some{rs:List Reg}{k:Nat}(hk:k<rs.length)(h:∀r ∈ rs.take k,regOk r=true)(hb:regOk rs[k]=false):firstBad rs=k:=by
 have:rs.findIdx? (fun r=>!regOk r)=some k:=by
  rw[List.findIdx?_eq_some_iff_getElem]
  refine⟨hk,by simp[hb],fun j hj=>?_⟩
  have:=h rs[j] (by rw[List.mem_take_iff_getElem];exact⟨j,by omega,rfl⟩)
  simp[this]
 unfold firstBad;rw[this]
theorem indexBad_i(rs:List Reg)(v:Value)(w:World)(hr:Rd w 3 v rs.length (flat encReg rs)):
  Gives Tryz.prog 129 #[v,.func (.func 128) #[] #[]] w (.int .i64 (firstBad rs)):=by
 obtain⟨A,cap,rfl,hn,hcap,hA⟩:=hr.form
 unfold maxLen at hcap
 unfold Gives
 go_enter Tryz.func129,Tryz.ntmps129
 go_wp2
 go_loopw [8] (fun i wr=>∃k:Nat,k≤rs.length∧i = .int .i64 k∧Below w.heap.size w wr∧Hid (∀r ∈ rs.take k,regOk r=true)) (fun i _=>rs.length-(intOf i).toNat)
 case atStart=>exact⟨0,Nat.zero_le _,rfl,Below.refl _ _,hY (by simp)⟩
 case round=>
  obtain⟨k,hk,rfl,hb,hall⟩:=hrel
  by_cases hlt:k<rs.length
  ·obtain ⟨b,o,rfl,hcell⟩:=hA (by omega)
   have hkI:(k:Int)<(rs.length:Int):=by omega
   obtain⟨a0,a1,a2⟩:=reg_cells hcell hb k hlt (now wr)
   simp only[now] at a0 a1 a2
   have hts:Hid (rs.take (k+1)=rs.take k ++ [rs[k]]):=hY (List.take_succ_eq_append_getElem hlt)
   have hfb:Hid (regOk rs[k]=false→firstBad rs=k):=hY (firstBad_some hlt hall.out)
   generalize rs[k]=x at *
   go_wp2_with fail
   refine(bad_i x _).use.mono ?_
   rintro e w1 ⟨rfl,hb1⟩
   cases hok:regOk x
   ·have hok':=hY hok
    clear hok
    go_wp2
    go_ret
    exact⟨by rw[hfb.out hok'.out];rfl,bthen hb hb1⟩
   ·have hok':=hY hok
    clear hok
    go_wp2
    go_roundw
    case rel=>exact⟨k+1,by omega,by go_num,bthen hb hb1,hY (by
        rw[hts.out];intro r hr;rcases List.mem_append.1 hr with h|h
        ·exact hall.out r h
        ·simp at h;subst h;exact hok'.out)⟩
    case measure=>simp[intOf];omega
  ·obtain rfl:k=rs.length:=by omega
   go_wp2
   go_ret
   have h:=hall.out
   rw[List.take_length] at h
   exact⟨by rw[firstBad_none h];rfl,hb⟩
theorem firstBad_ge(rs:List Reg):decide (0≤firstBad rs) = !rs.all regOk:=by
 unfold firstBad
 cases h:rs.findIdx? (fun r=>!regOk r) with
 | none=>
  rw[List.findIdx?_eq_none_iff] at h
  have:rs.all regOk=true:=List.all_eq_true.2 fun x hx=>by simpa using h x hx
  rw[this];rfl
 | some k=>
  rw[List.findIdx?_eq_some_iff_getElem] at h
  obtain⟨hk,hb,_⟩:=h
  have:rs.all regOk=false:=all_not (List.getElem_mem hk) (by simpa using hb)
  rw[this];simp
theorem containsBad_i(rs:List Reg)(v:Value)(w:World)(hr:Rd w 3 v rs.length (flat encReg rs)):
  Gives Tryz.prog 72 #[v,.func (.func 128) #[] #[]] w (.bool (!rs.all regOk)):=by
 unfold Gives
 go_enter Tryz.func72,Tryz.ntmps72
 go_wp2_with fail
 refine(indexBad_i rs _ _ hr).use.mono ?_
 rintro e w1 ⟨rfl,hb1⟩
 go_wp2
 go_ret
 exact⟨by rw[←firstBad_ge];rfl,hb1⟩
theorem diskRight_i(rs:List Reg)(v:Value)(p:Int)(w:World)(hr:Rd w 3 v rs.length (flat encReg rs)):
  Gives Tryz.prog 68 #[.agg #[v,.int .i64 p]] w (.bool (diskOk rs p)):=by
 obtain⟨A,cap,rfl,hn,hcap,_⟩:=hr.form
 unfold maxLen at hcap
 unfold Gives
 by_cases h1:1≤rs.length∧rs.length≤13
 ·have hq:(decide ((1:Int)≤rs.length)&&decide ((rs.length:Int)≤13))=true:=by simp;omega
  cases hp:(decide (-1≤p)&&decide (p≤1000000))
  ·have HE:Hid (diskOk rs p=false):=hY (diskOk_pow hp)
   have hp':=hY hp
   have hq':=hY hq
   clear hp hq
   go_enter Tryz.func68,Tryz.ntmps68
   go_wp2_with fail
   refine(within_i _ _ _ _).use.mono ?_
   rw[hq'.out]
   rintro e w1 ⟨rfl,hb1⟩
   obtain⟨hc1,hf1⟩:=bcell hb1
   go_wp2_with fail
   refine(within_i _ _ _ _).use.mono ?_
   rw[hp'.out]
   rintro e w2 ⟨rfl,hb2⟩
   go_wp2
   go_ret
   exact⟨by rw[HE.out];rfl,bthen (bnew _ _) (bthen hb1 hb2)⟩
  ·have HE:Hid (diskOk rs p=rs.all regOk):=hY (diskOk_all (by omega) hp)
   have hp':=hY hp
   have hq':=hY hq
   clear hp hq
   go_enter Tryz.func68,Tryz.ntmps68
   go_wp2_with fail
   refine(within_i _ _ _ _).use.mono ?_
   rw[hq'.out]
   rintro e w1 ⟨rfl,hb1⟩
   obtain⟨hc1,hf1⟩:=bcell hb1
   go_wp2_with fail
   refine(within_i _ _ _ _).use.mono ?_
   rw[hp'.out]
   rintro e w2 ⟨rfl,hb2⟩
   obtain⟨hc2,hf2⟩:=bcell (bthen hb1 hb2)
   have HB:=bthen hb1 hb2
   clear hc1 hf1 hb1 hb2
   go_wp2_with fail
   refine(containsBad_i rs _ _ (hr.later (bthen (bnew _ _) HB))).use.mono ?_
   rintro e w3 ⟨rfl,hb3⟩
   go_wp2
   go_ret
   refine⟨?_,bthen (bnew _ _) (bthen HB hb3)⟩
   rw[HE.out]
   refine ret_bool ?_
   simp
 ·have hq:(decide ((1:Int)≤rs.length)&&decide ((rs.length:Int)≤13))=false:=by rw[Bool.eq_false_iff];simp;omega
  have HE:Hid (diskOk rs p=false):=hY (diskOk_len h1)
  have hq':=hY hq
  clear hq h1
  go_enter Tryz.func68,Tryz.ntmps68
  go_wp2_with fail
  refine(within_i _ _ _ _).use.mono ?_
  rw[hq'.out]
  rintro e w1 ⟨rfl,hb1⟩
  go_wp2
  go_ret
  exact⟨by rw[HE.out];rfl,bthen (bnew _ _) hb1⟩
end Go.Proofs.YtcabgibdkmgdlaaGreat
namespace Go.Proofs.YtcabgibdkmgdlaaGreat
open Go.RowKit M
def SzOut(w:World)(Q:Prop)(e:Ending)(w':World):Prop:=
 Below w.heap.size w w' ∧ ∃r:Int,e = .returned (.int .i64 r)∧(r = -1∨(0≤r∧r≤1048576∧Q))
theorem szRegion_l(r:Reg)(m:Int)(hm:0≤m∧m≤1048576)(h1:r.1.size≤maxLen)(h2:r.2.1.size≤maxLen)(h3:r.2.2.size≤maxLen)(w:World):
  Calls Tryz.prog 100 #[.agg #[.string r.1,.string r.2.1,.string r.2.2],.int .i64 m] w fun e w'=>SzOut w True e w':=by
 obtain⟨a,b,c⟩:=r
 unfold maxLen at *
 simp only at h1 h2 h3
 by_cases ha:m-a.size<0
 ·go_enter Tryz.func100,Tryz.ntmps100
  go_wp2
  go_ret
  exact⟨bnew _ _,-1,rfl,.inl rfl⟩
 ·by_cases hb:m-a.size-b.size<0
  ·go_enter Tryz.func100,Tryz.ntmps100
   go_wp2
   go_ret
   exact⟨bnew _ _,-1,rfl,.inl rfl⟩
  ·by_cases hc:m-a.size-b.size-c.size<0
   ·go_enter Tryz.func100,Tryz.ntmps100
    go_wp2
    go_ret
    exact⟨bnew _ _,-1,rfl,.inl rfl⟩
   ·go_enter Tryz.func100,Tryz.ntmps100
    go_wp2
    go_ret
    exact⟨bnew _ _,m-a.size-b.size-c.size,rfl,.inr ⟨by omega,by omega,trivial⟩⟩
def okSizes(rs:List Reg):Prop:=∀r ∈ rs,r.1.size≤maxLen∧r.2.1.size≤maxLen∧r.2.2.size≤maxLen
theorem szRegionS_l(rs:List Reg)(v:Value)(m:Int)(hm:0≤m∧m≤1048576)(w:World)(hr:Rd w 3 v rs.length (flat encReg rs))(ho:okSizes rs):
  Calls Tryz.prog 45 #[v,.int .i64 m] w fun e w'=>SzOut w (rs.length≤1048576) e w':=by
 obtain⟨A,cap,rfl,hn,hcap,hA⟩:=hr.form
 unfold maxLen at hcap
 by_cases hl:m<rs.length
 ·go_enter Tryz.func45,Tryz.ntmps45
  go_wp2
  go_ret
  exact⟨Below.refl _ _,-1,rfl,.inl rfl⟩
 ·go_enter Tryz.func45,Tryz.ntmps45
  go_wp2
  go_loopw [1,5] (fun x i wr=>∃(k:Nat) (y:Int),k≤rs.length∧i = .int .i64 k∧0≤y∧y≤1048576∧x = .int .i64 y∧Below w.heap.size w wr) (fun _ i _=>rs.length-(intOf i).toNat)
  case atStart=>exact⟨0,_,Nat.zero_le _,rfl,by omega,by omega,rfl,Below.refl _ _⟩
  case round=>
   obtain⟨k,y,hk,rfl,hy0,hy1,rfl,hb⟩:=hrel
   by_cases hlt:k<rs.length
   ·obtain ⟨b,o,rfl,hcell⟩:=hA (by omega)
    have hkI:(k:Int)<(rs.length:Int):=by omega
    obtain⟨a0,a1,a2⟩:=reg_cells hcell hb k hlt (now wr)
    simp only[now] at a0 a1 a2
    have hmem:=ho rs[k] (List.getElem_mem hlt)
    go_wp2_with fail
    refine(szRegion_l rs[k] y ⟨hy0,hy1⟩ hmem.1 hmem.2.1 hmem.2.2 _).mono ?_
    rintro e w1 ⟨hb1,r,rfl,hr1⟩
    rcases hr1 with rfl|⟨hr0,hr1,_⟩
    ·go_wp2
     go_ret
     exact⟨bthen hb hb1,-1,rfl,.inl rfl⟩
    ·go_wp2
     go_roundw
     case rel=>exact⟨k+1,r,by omega,by go_num,hr0,hr1,rfl,bthen hb hb1⟩
     case measure=>simp[intOf];omega
   ·go_wp2
    go_ret
    exact⟨hb,y,rfl,.inr ⟨hy0,hy1,by omega⟩⟩
theorem szDisk_l(rs:List Reg)(v:Value)(p m:Int)(hm:0≤m∧m≤1048576)(w:World)(hr:Rd w 3 v rs.length (flat encReg rs))(ho:okSizes rs):
  Calls Tryz.prog 14 #[.agg #[v,.int .i64 p],.int .i64 m] w fun e w'=>SzOut w (rs.length≤1048576) e w':=by
 go_enter Tryz.func14,Tryz.ntmps14
 go_wp2_with fail
 refine(szRegionS_l rs _ m hm _ (hr.later (bnew _ _)) ho).mono ?_
 rintro e w1 ⟨hb1,r,rfl,hr1⟩
 rcases hr1 with rfl|⟨hr0,hr1,hq⟩
 ·go_wp2
  go_ret
  exact⟨bthen (bnew _ _) hb1,-1,rfl,.inl rfl⟩
 ·have h0:¬r<0:=by omega
  go_wp2
  go_ret
  exact⟨bthen (bnew _ _) hb1,r,rfl,.inr ⟨hr0,hr1,hq⟩⟩
theorem toRegion_l(r:Reg)(w:World):Gives Tryz.prog 121 #[.agg #[.string r.1,.string r.2.1,.string r.2.2]] w (.agg #[.string r.1,.string r.2.1,.string r.2.2]):=by
 obtain⟨a,b,c⟩:=r
 unfold Gives
 go_enter Tryz.func121,Tryz.ntmps121
 go_wp2
 exact bodyPost_ret (v := .agg #[.string a,.string b,.string c]) (by simp[results,Tryz.results121,go_sem]) rfl ⟨rfl,bthen (bnew _ _) (bthen (bnew _ _) (bnew _ _))⟩
theorem own_base{w:World}{b b' e s n:Nat}{v:Value}{xs:List Value}(h:w.ownsRow b e s v n xs)(hb:b'≤b):w.ownsRow b' e s v n xs:=by
 refine⟨h.1,?_⟩
 rcases h.2 with h0|⟨g,cap,cur,e1,h1,h2⟩
 ·exact .inl h0
 ·exact .inr ⟨g,cap,cur,e1,Nat.le_trans hb h1,h2⟩
def NewRegs(w:World)(e:Ending)(w':World)(rs:List Reg):Prop:=
 ∃A cap,e = .returned (.slice A rs.length cap)∧w'.ownsRow w.heap.size 86 3 (.slice A rs.length cap) rs.length (flat encReg rs)∧Below w.heap.size w w'
def copying(rs:List Reg)(k:Nat):List Value:=flat encReg (rs.take k++List.replicate (rs.length-k) noReg)
theorem flat_set3(l1 l2:List Reg)(x y:Reg)(k:Nat)(hk:l1.length=k):((((flat encReg (l1++x::l2)).set (k*3) (.string y.1)).set (k*3+1) (.string y.2.1)).set (k*3+2) (.string y.2.2))=flat encReg (l1++y::l2):=by
 subst hk
 have hl:=flat_length encReg_len l1
 rw[flat_append,flat_append,flat_cons,flat_cons]
 rw[List.set_append_right _ _ (by omega),List.set_append_right _ _ (by omega),List.set_append_right _ _ (by omega),hl,Nat.sub_self]
 rw[show l1.length*3+1-l1.length*3=1 by omega,show l1.length*3+2-l1.length*3=2 by omega]
 rfl
theorem copying_zero(rs:List Reg):copying rs 0=flat encReg (List.replicate rs.length noReg):=by simp[copying]
theorem copying_all(rs:List Reg):copying rs rs.length=flat encReg rs:=by simp[copying]
theorem copying_length(rs:List Reg)(k:Nat)(hk:k≤rs.length):(copying rs k).length=rs.length*3:=by
 unfold copying;rw[flat_length encReg_len];simp;omega
theorem copying_step(rs:List Reg)(k:Nat)(hk:k<rs.length):((((copying rs k).set (k*3) (.string rs[k].1)).set (k*3+1) (.string rs[k].2.1)).set (k*3+2) (.string rs[k].2.2))=copying rs (k+1):=by
 unfold copying
 have e:List.replicate (rs.length-k) noReg=noReg::List.replicate (rs.length-(k+1)) noReg:=by
  rw[show rs.length-k=(rs.length-(k+1))+1 by omega,List.replicate_succ]
 rw[e,flat_set3 (rs.take k) _ noReg rs[k] k (by simp;omega)]
 congr 1
 rw[List.take_succ_eq_append_getElem hk,List.append_assoc]
 rfl
theorem toRegionS_l(rs:List Reg)(v:Value)(hl:rs.length≤1048576)(w:World)(hr:Rd w 3 v rs.length (flat encReg rs)):
  Calls Tryz.prog 66 #[v] w fun e w'=>NewRegs w e w' rs:=by
 obtain⟨A,cap,rfl,hn,hcap,hA⟩:=hr.form
 unfold maxLen at hcap
 obtain⟨i0,hi,hz0,hz1,hz2⟩:=info_parts info_Region
 have hmk:(Instr.makeSlice 58 (.int .i64 rs.length) (.int .i64 rs.length)).run Tryz.prog w = .ok (.slice (some ⟨w.heap.size,0,none⟩) rs.length rs.length) (w.alloc (.cells (madeCells #[.string ⟨#[]⟩,.string ⟨#[]⟩,.string ⟨#[]⟩] (rs.length*3)) 86)):=by
  have h:=run_make (P:=Tryz.prog) w 58 86 i0 _ Tryz.underlying58 hi hz0 .i64 .i64 (rs.length:Int) (rs.length:Int) (by omega) (Int.le_refl _) (by rw[hz2];omega) (by omega)
  rw[hz1] at h
  exact h
 have hO:=World.ownsRow_lit (base:=w.heap.size) (e:=86) (size:=3) w (madeCells #[.string ⟨#[]⟩,.string ⟨#[]⟩,.string ⟨#[]⟩] (rs.length*3)) rs.length (Nat.le_refl _) (by unfold maxLen;omega) (size_madeCells _ _)
 rw[made_regs] at hO
 have hO':=hY hO
 clear hO
 go_enter Tryz.func66,Tryz.ntmps66
 go_wp2
 go_loopw [4] (fun i wr=>∃k:Nat,k≤rs.length∧i = .int .i64 k∧Hid (wr.ownsRow w.heap.size 86 3 (.slice (some ⟨w.heap.size,0,none⟩) rs.length rs.length) rs.length (copying rs k))∧Below w.heap.size w wr) (fun i _=>rs.length-(intOf i).toNat)
 case atStart=>exact⟨0,Nat.zero_le _,rfl,by rw[copying_zero];exact hO',bnew _ _⟩
 case round=>
  obtain⟨k,hk,rfl,HO,hb⟩:=hrel
  by_cases hlt:k<rs.length
  ·obtain ⟨b,o,rfl,hcell⟩:=hA (by omega)
   have hkI:(k:Int)<(rs.length:Int):=by omega
   obtain⟨a0,a1,a2⟩:=reg_cells hcell hb k hlt (now wr)
   simp only[now] at a0 a1 a2
   have hst:=hY (copying_step rs k hlt)
   generalize hx:rs[k]=x at *
   have HX:=hY hx
   clear hx
   go_wp2_with fail
   refine(toRegion_l x _).use.mono ?_
   rintro e w1 ⟨rfl,hb1⟩
   have O1:=own_keep HO.out hb1
   have hcl:=copying_length rs k hk
   obtain⟨u0,d0⟩:∃u,w1.cell? ⟨w.heap.size,k*3,none⟩=some u:=by rw[O1.cellAt _ (by omega)];exact⟨_,List.getElem?_eq_getElem (by omega)⟩
   obtain⟨u1,d1⟩:∃u,w1.cell? ⟨w.heap.size,k*3+1,none⟩=some u:=by rw[O1.cellAt _ (by omega)];exact⟨_,List.getElem?_eq_getElem (by omega)⟩
   obtain⟨u2,d2⟩:∃u,w1.cell? ⟨w.heap.size,k*3+2,none⟩=some u:=by rw[O1.cellAt _ (by omega)];exact⟨_,List.getElem?_eq_getElem (by omega)⟩
   have f0:=O1.frozenAt (k*3)
   have f1:=O1.frozenAt (k*3+1)
   have f2:=O1.frozenAt (k*3+2)
   have HO1:=hY O1
   clear O1 hcl HO
   go_wp2_with fail
   go_roundw
   case rel=>
    refine⟨k+1,by omega,by go_num,hY ?_,bset (bset (bset (bthen hb hb1) (Nat.le_refl _) _) (Nat.le_refl _) _) (Nat.le_refl _) _⟩
    have h:=((((HO1.out.stored (k*3) (.string x.1)).1.stored (k*3+1) (.string x.2.1)).1).stored (k*3+2) (.string x.2.2)).1
    rw[hst.out] at h
    exact h
   case measure=>simp[intOf];omega
  ·obtain rfl:k=rs.length:=by omega
   go_wp2
   go_ret
   have h:=HO.out
   rw[copying_all] at h
   exact⟨_,_,rfl,h,hb⟩
theorem toDisk_l(rs:List Reg)(v:Value)(p:Int)(hl:rs.length≤1048576)(w:World)(hr:Rd w 3 v rs.length (flat encReg rs)):
  Calls Tryz.prog 27 #[.agg #[v,.int .i64 p]] w fun e w'=>NewDisk w e w' rs p:=by
 go_enter Tryz.func27,Tryz.ntmps27
 go_wp2_with fail
 refine(toRegionS_l rs _ hl _ (hr.later (bthen (bnew _ _) (bthen (bnew _ _) (bnew _ _))))).mono ?_
 rintro e w1 ⟨A,cap,rfl,ho,hb⟩
 obtain⟨hc1,hf1⟩:=bcell hb
 have hs1:w.heap.size+1+1<w1.heap.size:=by have:=hb.size;simp at this;omega
 have HB:=bthen (bnew w _) (bthen (bnew _ _) (bthen (bnew _ _) hb))
 have HO:=hY ho
 clear ho hb
 go_wp2_with fail
 refine bodyPost_ret (v := .agg #[.slice A rs.length cap,.int .i64 p]) (by simp[results,Tryz.results27,go_sem,hc1,hs1]) rfl ?_
 refine⟨A,cap,rfl,own_base (b:=w.heap.size+1+1+1) ?_ (by omega),bset (bset (bset (bset HB (by simp;omega) _) (by simp;omega) _) (by simp) _) (by simp) _⟩
 have h:=HO.out
 simp only[World.size_alloc] at h
 exact ownsRow_setCell_below (ownsRow_setCell_below (ownsRow_setCell_below (ownsRow_setCell_below h (by simp) _) (by simp) _) (by simp) _) (by simp) _
end Go.Proofs.YtcabgibdkmgdlaaGreat
namespace Go.Proofs.YtcabgibdkmgdlaaGreat
open Go.RowKit M
end Go.Proofs.YtcabgibdkmgdlaaGreat
namespace Go.Proofs.YtcabgibdkmgdlaaGreat
open Go.RowKit M
theorem flat_one(rs:List Reg):∀u ∈ flat encReg rs,u.oneCell'=true:=by
 intro u hu
 simp only[flat,List.mem_flatten,List.mem_map] at hu
 obtain⟨l,⟨r,_,rfl⟩,hu⟩:=hu
 simp only[encReg,List.mem_cons,List.not_mem_nil,or_false] at hu
 rcases hu with rfl|rfl|rfl <;> rfl
theorem own_set{w:World}{base e s n:Nat}{v:Value}{xs:List Value}(h:w.ownsRow base e s v n xs){p:Addr}(hp:p.block<base)(u:Value):(w.setCell p u).ownsRow base e s v n xs:=ownsRow_setCell_below h hp u
theorem own_alloc{w:World}{base e s n:Nat}{v:Value}{xs:List Value}(h:w.ownsRow base e s v n xs)(o:Obj):(w.alloc o).ownsRow base e s v n xs:=h.alloc o
theorem below_of_grown{b c:World}(hg:b.grownBy c none):Below b.heap.size b c:=⟨hg.os,hg.tape,hg.output,hg.size,fun k hk=>hg.block k hk (by simp)⟩
theorem cell_add{w w':World}{b off:Nat}{xs:List Value}(hc:∀j u,xs[j]? = some u→w.cell? ⟨b,off+j,none⟩=some u)(hb:Below w.heap.size w w')(j:Nat)(u:Value)(hu:xs[j]? = some u):w'.cell? ((⟨b,off,none⟩:Addr).add j)=some u:=by
 have h:=hc j u hu
 rw[Addr.add_mid,(bcell hb).1 _ _ (World.block_lt_of_cell? w _ h)]
 exact h
theorem below_grown{a b c:World}(h:Below a.heap.size a b)(hg:b.grownBy c none):Below a.heap.size a c:=
 bthen h ⟨hg.os,hg.tape,hg.output,hg.size,fun k hk=>hg.block k hk (by simp)⟩
theorem clone_i(rs:List Reg)(v:Value)(hl:1≤rs.length∧rs.length≤13)(w:World)(hr:Rd w 3 v rs.length (flat encReg rs)):
  Calls Tryz.prog 130 #[v] w fun e w'=>NewRegs w e w' rs:=by
 obtain⟨i0,hi,hz0,hz1,hz2⟩:=info_parts info_Region
 obtain⟨A,cap,rfl,hn,hcap,hc⟩:=hr.form
 obtain⟨b,off,rfl,hcells⟩:=hc (by omega)
 have hc2:∀j u,(flat encReg rs)[j]? = some u → ∀o:Obj,(w.alloc o).cell? ((⟨b,off,none⟩:Addr).add j)=some u:=fun j u hu o=>by
  have h:=hcells j u hu
  rw[Addr.add_mid,(bcell (bnew w o)).1 _ _ (World.block_lt_of_cell? w _ h)]
  exact h
 have HC:=hY hc2
 have HL:=hY (flat_length encReg_len rs)
 have hnil:∀w:World,(binOp .eql 58 (.slice (some ⟨b,off,none⟩) rs.length cap) (.slice none 0 0)).run Tryz.prog w = .ok (.bool false) w:=fun w=>Lib.run_eql_slice_nil w _ _ _ _ _ _ _ Tryz.underlying58
 clear hcells hc2 hc hr
 go_enter Tryz.func130,Tryz.ntmps130
 go_wp2_with (at_builtin;refine wpList_append_grows _ rfl _ _ _ (by rfl) 86 i0 _ 3 48 Tryz.underlying58 hi hz0 hz1 hz2 (by rfl) (by omega) (some ⟨w.heap.size,0,none⟩) 0 0 [] (by rfl) (fun h=>(by cases h)) rfl (fun _ _ _ _ h=>(by simp at h)) ⟨b,off,none⟩ rs.length cap (flat encReg rs) (by rfl) HL.out (fun j u hu=>HC.out j u hu _) (flat_one rs) (by omega) (by unfold maxLen;omega) (by omega) ?_;intro v1 w1 hown1 hgrow1)
 go_ret
 simp only[Nat.zero_add,List.nil_append] at hown1
 obtain⟨A1,c1,rfl,_⟩:=(Rd.of_own hown1).form
 exact⟨A1,c1,rfl,own_base hown1 (by simp),below_grown (bnew _ _) hgrow1⟩
theorem copyDisk_i(rs:List Reg)(v:Value)(p:Int)(hl:1≤rs.length∧rs.length≤13)(w:World)(hr:Rd w 3 v rs.length (flat encReg rs)):
  Calls Tryz.prog 75 #[.agg #[v,.int .i64 p]] w fun e w'=>NewDisk w e w' rs p:=by
 obtain⟨A,cap,rfl,_⟩:=hr.form
 have HR:=hY hr
 have HL:=hY hl
 clear hr hl
 go_enter Tryz.func75,Tryz.ntmps75
 go_wp2_with fail
 go_region_with (go_at_call 130;refine(clone_i rs _ HL.out _ (HR.out.later bwF)).mono ?_;rintro e w1 ⟨A1,c1,rfl,ho1,hb1⟩;(refine kpF (w.heap.size) hb1 ?_;intro D1 D1c D1f D1s);(refine kpF (w.heap.size+1) hb1 ?_;intro Z1 Z1c Z1f Z1s))
 all_goals go_wp2
 all_goals refine bodyPost_ret (v := .agg #[.slice A1 rs.length c1,.int .i64 p]) (by simp[results,Tryz.results75,go_sem,Z1c,Z1f]) rfl ⟨A1,c1,rfl,own_base (own_set (own_set ho1 (by simp) _) (by simp) _) (by simp;omega),by exact bwF⟩
theorem copyDisk_s(rs:List Reg)(v:Value)(p:Int)(hl:1≤rs.length∧rs.length≤13)(w:World)(hr:Rd w 3 v rs.length (flat encReg rs)):
  Calls Tryz.prog 20 #[.agg #[v,.int .i64 p]] w fun e w'=>NewDisk w e w' rs p:=by
 obtain⟨i0,hi,hz0,hz1,hz2⟩:=info_parts info_Region
 have hr1:=hr
 obtain⟨A,cap,rfl,hn,hcap,hc⟩:=hr.form
 obtain⟨b,off,rfl,hcells⟩:=hc (by omega)
 have HR:=hY hcells
 have HL:=hY (flat_length encReg_len rs)
 clear hr hc hcells hr1
 go_enter Tryz.func20,Tryz.ntmps20
 go_wp2_with fail
 go_region_law ((refine step_append_grows (by rfl) _ _ _ (by rfl) 86 i0 _ 3 48 Tryz.underlying58 hi hz0 hz1 hz2 (by rfl) (by omega) (some ⟨w.heap.size+1+1,0,none⟩) 0 0 [] (by rfl) (fun h=>(by cases h)) rfl (fun _ _ _ _ h=>(by simp at h)) ⟨b,off,none⟩ rs.length cap (flat encReg rs) (by rfl) HL.out (fun j u hu=>cell_add HR.out bwF j u hu) (flat_one rs) (by omega) (by unfold maxLen;omega) (by omega) ?_;intro v1 w1 hown1 hgrow1;simp only[Nat.zero_add,List.nil_append] at hown1;obtain⟨A1,c1,rfl,_⟩:=(Rd.of_own hown1).form;have hb1:=below_of_grown hgrow1;(refine kpF (w.heap.size) hb1 ?_;intro D1 D1c D1f D1s);(refine kpF (w.heap.size+1) hb1 ?_;intro Z1 Z1c Z1f Z1s)))
 all_goals go_wp2
 all_goals refine bodyPost_ret (v := .agg #[.slice A1 rs.length c1,.int .i64 p]) (by simp[results,Tryz.results20,go_sem,Z1c,Z1f]) rfl ⟨A1,c1,rfl,own_base (own_set (own_set hown1 (by simp) _) (by simp) _) (by simp;omega),by exact bwF⟩
namespace M
def stage(rs:List Reg)(p r:Int):Int:=if diskOk rs p=false then 1 else if 0≤r∧r<rs.length then (if p=0 then 12 else 0) else 6
end M
def NewOut(w:World)(e:Ending)(w':World)(rs:List Reg)(p c:Int):Prop:=
 ∃A cap,e = .returned (.agg #[.slice A rs.length cap,.int .i64 p,.int .i64 c])∧w'.ownsRow w.heap.size 86 3 (.slice A rs.length cap) rs.length (flat encReg rs)∧Below w.heap.size w w'
theorem diskOk_len'{rs:List Reg}{p:Int}(h:diskOk rs p=true):1≤rs.length∧rs.length≤13:=by
 unfold diskOk at h;simp at h;omega
theorem stage_bad{rs:List Reg}{p r:Int}(h:diskOk rs p=false):stage rs p r=1:=if_pos h
theorem stage_none{rs:List Reg}{p r:Int}(h:diskOk rs p=true)(hr:¬(0≤r∧r<rs.length)):stage rs p r=6:=by unfold stage;rw[h];simp only[Bool.true_eq_false,if_false];rw[if_neg hr]
theorem stage_down{rs:List Reg}{r:Int}(h:diskOk rs 0=true)(hr:0≤r∧r<rs.length):stage rs 0 r=12:=by unfold stage;simp[h,hr.1,hr.2]
theorem stage_ok{rs:List Reg}{p r:Int}(h:diskOk rs p=true)(hr:0≤r∧r<rs.length)(hp:p≠0):stage rs p r=0:=by unfold stage;rw[h];simp only[Bool.true_eq_false,if_false];rw[if_pos hr,if_neg hp]
theorem begin_i_bad(rs:List Reg)(v:Value)(p r:Int)(w:World)(hr:Rd w 3 v rs.length (flat encReg rs))(h:diskOk rs p=false):
  Calls Tryz.prog 78 #[.agg #[v,.int .i64 p],.int .i64 r] w fun e w'=>NewOut w e w' [] 0 1:=by
 have hD:=fun w hr=>diskRight_i rs v p w hr
 rw[h] at hD
 obtain⟨A,cap,rfl,_⟩:=hr.form
 have HR:=hY hr
 have HD:=hY hD
 clear hr h hD
 go_enter Tryz.func78,Tryz.ntmps78
 go_wp2_with (go_at_call 68;refine(HD.out _ (HR.out.later bwF)).use.mono ?_;rintro e w1 ⟨rfl,hb1⟩;(refine kpF (w.heap.size+1) hb1 ?_;intro Z1 Z1c Z1f Z1s))
 exact bodyPost_ret (v := .agg #[.slice none 0 0,.int .i64 0,.int .i64 1]) (by simp[results,Tryz.results78,go_sem,Z1c,Z1f]) rfl ⟨none,0,rfl,World.ownsRow_nil _ _ _ _,by exact bwF⟩
theorem begin_i_none(rs:List Reg)(v:Value)(p r:Int)(w:World)(hr:Rd w 3 v rs.length (flat encReg rs))(h:diskOk rs p=true)(hq:¬(0≤r∧r<rs.length)):
  Calls Tryz.prog 78 #[.agg #[v,.int .i64 p],.int .i64 r] w fun e w'=>NewOut w e w' [] 0 6:=by
 have hD:=fun w hr=>diskRight_i rs v p w hr
 have hl:=diskOk_len' h
 rw[h] at hD
 obtain⟨A,cap,rfl,_⟩:=hr.form
 have hW:∀w,Gives Tryz.prog 71 #[.int .i64 r,.int .i64 0,.int .i64 (rs.length-1)] w (.bool false):=fun w=>by
  have h:=within_i r 0 (rs.length-1) w
  rwa[show (decide ((0:Int)≤r)&&decide (r≤rs.length-1))=false by rw[Bool.eq_false_iff];simp;omega] at h
 have HR:=hY hr
 have HD:=hY hD
 clear hr h hD hq
 go_enter Tryz.func78,Tryz.ntmps78
 go_wp2_with (first
  | (go_at_call 68;refine(HD.out _ (HR.out.later bwF)).use.mono ?_;rintro e w1 ⟨rfl,hb1⟩;(refine kpF (w.heap.size+1) hb1 ?_;intro Z1 Z1c Z1f Z1s);(refine kpF (w.heap.size) hb1 ?_;intro D1 D1c D1f D1s))
  | (go_at_call 71;refine(hW _).use.mono ?_;rintro e w2 ⟨rfl,hb2⟩;(refine kpF (w.heap.size+1) hb2 ?_;intro Z2 Z2c Z2f Z2s)))
 exact bodyPost_ret (v := .agg #[.slice none 0 0,.int .i64 0,.int .i64 6]) (by simp[results,Tryz.results78,go_sem,Z2c,Z2f]) rfl ⟨none,0,rfl,World.ownsRow_nil _ _ _ _,by exact bwF⟩
theorem begin_i_down(rs:List Reg)(v:Value)(r:Int)(w:World)(hr:Rd w 3 v rs.length (flat encReg rs))(h:diskOk rs 0=true)(hq:0≤r∧r<rs.length):
  Calls Tryz.prog 78 #[.agg #[v,.int .i64 0],.int .i64 r] w fun e w'=>NewOut w e w' rs 0 12:=by
 have hD:=fun w hr=>diskRight_i rs v 0 w hr
 have hl:=diskOk_len' h
 rw[h] at hD
 obtain⟨A,cap,rfl,_⟩:=hr.form
 have hW:∀w,Gives Tryz.prog 71 #[.int .i64 r,.int .i64 0,.int .i64 (rs.length-1)] w (.bool true):=fun w=>by
  have h:=within_i r 0 (rs.length-1) w
  rwa[show (decide ((0:Int)≤r)&&decide (r≤rs.length-1))=true by simp;omega] at h
 have hp0:((0:Int)==0)=decide ((0:Int)=0):=by rw[Bool.eq_iff_iff];simp
 try rw[show decide ((0:Int)=0)=false by simpa using hp] at hp0
 try clear hp
 have HR:=hY hr
 have HD:=hY hD
 clear hr h hD hq
 go_enter Tryz.func78,Tryz.ntmps78
 go_wp2_with (first
  | (go_at_call 68;refine(HD.out _ (HR.out.later bwF)).use.mono ?_;rintro e w1 ⟨rfl,hb1⟩;(refine kpF (w.heap.size+1) hb1 ?_;intro Z1 Z1c Z1f Z1s);(refine kpF (w.heap.size) hb1 ?_;intro D1 D1c D1f D1s))
  | (go_at_call 71;refine(hW _).use.mono ?_;rintro e w2 ⟨rfl,hb2⟩;(refine kpF (w.heap.size+1) hb2 ?_;intro Z2 Z2c Z2f Z2s);(refine kpF (w.heap.size) hb2 ?_;intro D2 D2c D2f D2s);clear Z1 Z1c Z1f Z1s D1 D1c D1f D1s)
  | (go_at_call 75;refine(copyDisk_i rs _ _ hl _ (HR.out.later bwF)).mono ?_;rintro e w3 ⟨A3,c3,rfl,ho3,hb3⟩;(refine kpF (w.heap.size+1) hb3 ?_;intro Z3 Z3c Z3f Z3s)))
 exact bodyPost_ret (v := .agg #[.slice A3 rs.length c3,.int .i64 0,.int .i64 12]) (by simp[results,Tryz.results78,go_sem,Z3c,Z3f]) rfl ⟨A3,c3,rfl,own_base (own_set (own_set (own_set ho3 (by have:=Z2.lt;simpa using this) _) (by have:=Z2.lt;simpa using this) _) (by have:=Z2.lt;simpa using this) _) (by have:=D2.lt;omega),by exact bwF⟩
theorem begin_i_ok(rs:List Reg)(v:Value)(p r:Int)(w:World)(hr:Rd w 3 v rs.length (flat encReg rs))(h:diskOk rs p=true)(hq:0≤r∧r<rs.length)(hp:p≠0):
  Calls Tryz.prog 78 #[.agg #[v,.int .i64 p],.int .i64 r] w fun e w'=>NewOut w e w' rs p 0:=by
 have hD:=fun w hr=>diskRight_i rs v p w hr
 have hl:=diskOk_len' h
 rw[h] at hD
 obtain⟨A,cap,rfl,_⟩:=hr.form
 have hW:∀w,Gives Tryz.prog 71 #[.int .i64 r,.int .i64 0,.int .i64 (rs.length-1)] w (.bool true):=fun w=>by
  have h:=within_i r 0 (rs.length-1) w
  rwa[show (decide ((0:Int)≤r)&&decide (r≤rs.length-1))=true by simp;omega] at h
 have hp0:((p:Int)==0)=decide ((p:Int)=0):=by rw[Bool.eq_iff_iff];simp
 try rw[show decide ((p:Int)=0)=false by simpa using hp] at hp0
 try clear hp
 have HR:=hY hr
 have HD:=hY hD
 clear hr h hD hq
 go_enter Tryz.func78,Tryz.ntmps78
 go_wp2_with (first
  | (go_at_call 68;refine(HD.out _ (HR.out.later bwF)).use.mono ?_;rintro e w1 ⟨rfl,hb1⟩;(refine kpF (w.heap.size+1) hb1 ?_;intro Z1 Z1c Z1f Z1s);(refine kpF (w.heap.size) hb1 ?_;intro D1 D1c D1f D1s))
  | (go_at_call 71;refine(hW _).use.mono ?_;rintro e w2 ⟨rfl,hb2⟩;(refine kpF (w.heap.size+1) hb2 ?_;intro Z2 Z2c Z2f Z2s);(refine kpF (w.heap.size) hb2 ?_;intro D2 D2c D2f D2s);clear Z1 Z1c Z1f Z1s D1 D1c D1f D1s)
  | (go_at_call 75;refine(copyDisk_i rs _ _ hl _ (HR.out.later bwF)).mono ?_;rintro e w3 ⟨A3,c3,rfl,ho3,hb3⟩;(refine kpF (w.heap.size+1) hb3 ?_;intro Z3 Z3c Z3f Z3s)))
 exact bodyPost_ret (v := .agg #[.slice A3 rs.length c3,.int .i64 p,.int .i64 0]) (by simp[results,Tryz.results78,go_sem,Z3c,Z3f]) rfl ⟨A3,c3,rfl,own_base (own_set (own_set (own_set ho3 (by have:=Z2.lt;simpa using this) _) (by have:=Z2.lt;simpa using this) _) (by have:=Z2.lt;simpa using this) _) (by have:=D2.lt;omega),by exact bwF⟩
end Go.Proofs.YtcabgibdkmgdlaaGreat
namespace Go.Proofs.YtcabgibdkmgdlaaGreat
open Go.RowKit M
theorem own_slice{w:World}{base e s n c:Nat}{A:Option Addr}{xs:List Value}(h:w.ownsRow base e s (.slice A n c) n xs)(hn:0<n):∃g,A=some ⟨g,0,none⟩∧base≤g∧g<w.heap.size:=by
 obtain⟨g,cap',hv,h1,h2⟩:=h.form hn
 injection hv with hv1 hv2 hv3
 exact⟨g,hv1,h1,h2⟩
theorem flat_setj:∀(rs:List Reg) (k j:Nat) (x y:Reg) (v:Value),rs[k]? = some x→j<3→(encReg x).set j v=encReg y→(flat encReg rs).set (k*3+j) v=flat encReg (rs.set k y)
 | [],k,j,x,y,v,h,_,_=>by simp at h
 | a::l,0,j,x,y,v,h,hj,he=>by
  simp at h;subst h
  show (encReg a++flat encReg l).set (0*3+j) v=encReg y++flat encReg l
  rw[Nat.zero_mul,Nat.zero_add,List.set_append_left _ _ (by rw[encReg_len];exact hj),he]
 | a::l,k+1,j,x,y,v,h,hj,he=>by
  show (encReg a++flat encReg l).set ((k+1)*3+j) v=encReg a++flat encReg (l.set k y)
  rw[List.set_append_right _ _ (by rw[encReg_len];omega),encReg_len,show (k+1)*3+j-3=k*3+j by omega,flat_setj l k j x y v (by simpa using h) hj he]
theorem own_at{w:World}{base e s n c g m:Nat}{xs:List Value}(h:w.ownsRow base e s (.slice (some ⟨g,0,none⟩) n c) n xs)(hm:m<n*s):
  (∃u,w.cell? ⟨g,m,none⟩=some u)∧w.frozen? ⟨g,m,none⟩=false ∧ ∀u,(w.setCell ⟨g,m,none⟩ u).ownsRow base e s (.slice (some ⟨g,0,none⟩) n c) n (xs.set m u):=
 ⟨⟨_,by rw[h.cellAt m hm];exact List.getElem?_eq_getElem (by rw[h.1];exact hm)⟩,h.frozenAt m,fun u=>(h.stored m u).1⟩
namespace M
def setLog(rs:List Reg)(k:Nat)(t:ByteArray):List Reg:=rs.set k ((rs.getD k noReg).1,(rs.getD k noReg).2.1,t)
def illRs(rs:List Reg)(c:Int):List Reg:=if c=12 then rs else []
def illP(p c:Int):Int:=if c=12 then p else 0
end M
theorem setLog_len(rs:List Reg)(k:Nat)(t:ByteArray):(setLog rs k t).length=rs.length:=by simp[setLog]
theorem flat_log(rs:List Reg)(k:Nat)(t:ByteArray)(hk:k<rs.length):(flat encReg rs).set (k*3+2) (.string t)=flat encReg (setLog rs k t):=by
 have h:rs[k]? = some rs[k]:=List.getElem?_eq_getElem hk
 have h2:rs.getD k noReg=rs[k]:=by rw[List.getD_eq_getElem?_getD,h];rfl
 unfold setLog
 rw[h2]
 exact flat_setj rs k 2 _ _ _ h (by omega) rfl
theorem begin_i_ill(rs:List Reg)(v:Value)(p r:Int)(hc:stage rs p r≠0)(w:World)(hr:Rd w 3 v rs.length (flat encReg rs)):
  Calls Tryz.prog 78 #[.agg #[v,.int .i64 p],.int .i64 r] w fun e w'=>NewOut w e w' (illRs rs (stage rs p r)) (illP p (stage rs p r)) (stage rs p r):=by
 cases h:diskOk rs p
 ·rw[stage_bad h]
  exact begin_i_bad rs v p r w hr h
 ·by_cases hq:0≤r∧r<rs.length
  ·by_cases hp:p=0
   ·subst hp
    rw[stage_down h hq]
    exact begin_i_down rs v r w hr h hq
   ·exact absurd (stage_ok h hq hp) hc
  ·rw[stage_none h hq]
   exact begin_i_none rs v p r w hr h hq
theorem stage_zero{rs:List Reg}{p r:Int}(h:stage rs p r=0):diskOk rs p=true∧(0≤r∧r<rs.length)∧p≠0:=by
 cases h1:diskOk rs p
 ·rw[stage_bad h1] at h;omega
 ·by_cases hq:0≤r∧r<rs.length
  ·by_cases hp:p=0
   ·subst hp;rw[stage_down h1 hq] at h;omega
   ·exact ⟨rfl,hq,hp⟩
  ·rw[stage_none h1 hq] at h;omega
theorem l16Code_s(rs:List Reg)(v:Value)(p r:Int)(w:World)(hr:Rd w 3 v rs.length (flat encReg rs)):
  Gives Tryz.prog 54 #[.agg #[v,.int .i64 p],.int .i64 r] w (.int .i64 (stage rs p r)):=by
 unfold Gives
 have hD:=fun w hr=>diskRight_s rs v p w hr
 obtain⟨A,cap,rfl,_⟩:=hr.form
 have HR:=hY hr
 have HS:=hY (show stage rs p r=if diskOk rs p=false then 1 else if 0≤r∧r<rs.length then (if p=0 then 12 else 0) else 6 from rfl)
 cases h:diskOk rs p
 ·rw[h] at hD HS
  have HD:=hY hD
  clear hr h hD
  go_enter Tryz.func54,Tryz.ntmps54
  go_wp2_with (go_at_call 47;refine(HD.out _ (HR.out.later bwF)).use.mono ?_;rintro e w1 ⟨rfl,hb1⟩)
  go_ret
  exact⟨by rw[HS.out];rfl,by exact bwF⟩
 ·rw[h] at hD HS
  have hl:=diskOk_len' h
  have HD:=hY hD
  clear hr h hD
  go_enter Tryz.func54,Tryz.ntmps54
  go_wp2_with (go_at_call 47;refine(HD.out _ (HR.out.later bwF)).use.mono ?_;rintro e w1 ⟨rfl,hb1⟩;(refine kpF (w.heap.size) hb1 ?_;intro D1 D1c D1f D1s))
  all_goals go_ret
  all_goals refine⟨?_,by exact bwF⟩
  all_goals clear D1 D1c D1f D1s hb1 HD HR
  all_goals rw[HS.out]
  all_goals simp_all
  all_goals omega
theorem l16Ill_s_down(rs:List Reg)(v:Value)(p:Int)(hl:1≤rs.length∧rs.length≤13)(w:World)(hr:Rd w 3 v rs.length (flat encReg rs)):
  Calls Tryz.prog 55 #[.agg #[v,.int .i64 p],.int .i64 12] w fun e w'=>NewOut w e w' rs p 12:=by
 obtain⟨A,cap,rfl,_⟩:=hr.form
 have HR:=hY hr
 clear hr
 go_enter Tryz.func55,Tryz.ntmps55
 go_wp2_with (go_at_call 20;refine(copyDisk_s rs _ _ hl _ (HR.out.later bwF)).mono ?_;rintro e w3 ⟨A3,c3,rfl,ho3,hb3⟩;(refine kpF (w.heap.size+1) hb3 ?_;intro Z3 Z3c Z3f Z3s))
 exact bodyPost_ret (v := .agg #[.slice A3 rs.length c3,.int .i64 p,.int .i64 12]) (by simp[results,Tryz.results55,go_sem,Z3c,Z3f]) rfl ⟨A3,c3,rfl,own_base (own_set (own_set (own_set ho3 (by simp) _) (by simp) _) (by simp) _) (by simp;omega),by exact bwF⟩
theorem l16Ill_s_other(v:Value)(p c:Int)(hc:(c==12)=false)(w:World):
  Calls Tryz.prog 55 #[.agg #[v,.int .i64 p],.int .i64 c] w fun e w'=>NewOut w e w' [] 0 c:=by
 go_enter Tryz.func55,Tryz.ntmps55
 go_wp2
 exact bodyPost_ret (v := .agg #[.slice none 0 0,.int .i64 0,.int .i64 c]) (by simp[results,Tryz.results55,go_sem]) rfl ⟨none,0,rfl,World.ownsRow_nil _ _ _ _,by exact bwF⟩
theorem l16Ill_s(rs:List Reg)(v:Value)(p r:Int)(w:World)(hr:Rd w 3 v rs.length (flat encReg rs)):
  Calls Tryz.prog 55 #[.agg #[v,.int .i64 p],.int .i64 (stage rs p r)] w fun e w'=>NewOut w e w' (illRs rs (stage rs p r)) (illP p (stage rs p r)) (stage rs p r):=by
 by_cases h:stage rs p r=12
 ·have h2:diskOk rs p=true:=by
   cases h1:diskOk rs p
   ·rw[stage_bad h1] at h;omega
   ·rfl
  rw[h]
  exact l16Ill_s_down rs v p (diskOk_len' h2) w hr
 ·have h2:=l16Ill_s_other v p (stage rs p r) (by simpa using h) w
  unfold illRs illP
  rw[if_neg h,if_neg h]
  exact h2
end Go.Proofs.YtcabgibdkmgdlaaGreat
namespace Go.Proofs.YtcabgibdkmgdlaaGreat
open Go.RowKit M
namespace M
def wipeRs(rs:List Reg)(p r:Int):List Reg:=if stage rs p r=0 then setLog rs r.toNat ⟨#[]⟩ else illRs rs (stage rs p r)
def doneP(rs:List Reg)(p r:Int):Int:=if stage rs p r=0 then p else illP p (stage rs p r)
end M
theorem wipe_i_ok(rs:List Reg)(v:Value)(p:Int)(k:Nat)(hk:k<rs.length)(h:diskOk rs p=true)(hp:p≠0)(w:World)(hr:Rd w 3 v rs.length (flat encReg rs)):
  Calls Tryz.prog 36 #[.agg #[v,.int .i64 p],.int .i64 k] w fun e w'=>NewOut w e w' (setLog rs k ⟨#[]⟩) p 0:=by
 have hB:=fun w hr=>begin_i_ok rs v p k w hr h ⟨by omega,by omega⟩ hp
 obtain⟨A,cap,rfl,_⟩:=hr.form
 have hl:=diskOk_len' h
 have HR:=hY hr
 have HB:=hY hB
 have HF:=hY (flat_log rs k ⟨#[]⟩ hk)
 have HL:=hY (setLog_len rs k ⟨#[]⟩)
 clear hr hB h hp
 have i1:(k:Int)<rs.length:=by omega
 go_enter Tryz.func36,Tryz.ntmps36
 go_wp2_with (go_at_call 78;refine(HB.out _ (HR.out.later bwF)).mono ?_;rintro e w1 ⟨A1,c1,rfl,ho1,hb1⟩;(refine kpF (w.heap.size+1) hb1 ?_;intro Z1 Z1c Z1f Z1s);obtain⟨g,rfl,hg1,hg2⟩:=own_slice ho1 (by omega);obtain⟨⟨u0,q0⟩,q1,q2⟩:=own_at ho1 (m:=k*3+2) (by omega);have hz:w.heap.size+1<w1.heap.size:=Z1.lt;have hgne:g≠w.heap.size+1:=(by simp at hg1;omega);have hgne':=hgne.symm;have Q2:=hY q2;clear q2)
 have O2:=Q2.out (.string ⟨#[]⟩)
 rw[HF.out] at O2
 simp only[World.size_alloc] at hg1 O2
 refine bp_world ?_
 intro w9 hw9
 (refine hdF (w.heap.size+1) hw9 ?_;intro Z9 Z9c Z9f Z9s)
 have O9:w9.ownsRow (w.heap.size+1+1) 86 3 (.slice (some ⟨g,0,none⟩) rs.length c1) rs.length (flat encReg (setLog rs k ⟨#[]⟩)):=by rw[hw9];exact owF
 have B9:Below w.heap.size w w9:=by rw[hw9];exact bwF
 clear hw9 O2 Q2 HB HR HF Z1 Z1c Z1f Z1s hb1 ho1 q0 q1
 exact bodyPost_ret (v := .agg #[.slice (some ⟨g,0,none⟩) rs.length c1,.int .i64 p,.int .i64 0]) (by simp[results,Tryz.results36,go_sem,Z9c]) rfl ⟨some ⟨g,0,none⟩,c1,by rw[HL.out],by rw[HL.out];exact own_base O9 (by omega),B9⟩
theorem wipe_i_ill(rs:List Reg)(v:Value)(p r:Int)(hs:stage rs p r≠0)(w:World)(hr:Rd w 3 v rs.length (flat encReg rs)):
  Calls Tryz.prog 36 #[.agg #[v,.int .i64 p],.int .i64 r] w fun e w'=>NewOut w e w' (illRs rs (stage rs p r)) (illP p (stage rs p r)) (stage rs p r):=by
 have hB:=fun w hr=>begin_i_ill rs v p r hs w hr
 obtain⟨A,cap,rfl,_⟩:=hr.form
 have HR:=hY hr
 have HB:=hY hB
 clear hr hB
 generalize illRs rs (stage rs p r)=rs' at *
 generalize illP p (stage rs p r)=p' at *
 generalize stage rs p r=c at *
 have hc:(c==0)=false:=by simpa using hs
 clear hs
 go_enter Tryz.func36,Tryz.ntmps36
 go_wp2_with (go_at_call 78;refine(HB.out _ (HR.out.later bwF)).mono ?_;rintro e w1 ⟨A1,c1,rfl,ho1,hb1⟩;(refine kpF (w.heap.size+1) hb1 ?_;intro Z1 Z1c Z1f Z1s);have hz:w.heap.size+1<w1.heap.size:=Z1.lt)
 refine bp_world ?_
 intro w9 hw9
 (refine hdF (w.heap.size+1) hw9 ?_;intro Z9 Z9c Z9f Z9s)
 simp only[World.size_alloc] at ho1
 have O9:w9.ownsRow (w.heap.size+1+1) 86 3 (.slice A1 rs'.length c1) rs'.length (flat encReg rs'):=by rw[hw9];exact owF
 have B9:Below w.heap.size w w9:=by rw[hw9];exact bwF
 clear hw9 HB HR Z1 Z1c Z1f Z1s hb1 ho1
 exact bodyPost_ret (v := .agg #[.slice A1 rs'.length c1,.int .i64 p',.int .i64 c]) (by simp[results,Tryz.results36,go_sem,Z9c]) rfl ⟨A1,c1,rfl,own_base O9 (by omega),B9⟩
theorem wipe_i(rs:List Reg)(v:Value)(p r:Int)(w:World)(hr:Rd w 3 v rs.length (flat encReg rs)):
  Calls Tryz.prog 36 #[.agg #[v,.int .i64 p],.int .i64 r] w fun e w'=>NewOut w e w' (wipeRs rs p r) (doneP rs p r) (stage rs p r):=by
 unfold wipeRs doneP
 by_cases h:stage rs p r=0
 ·obtain ⟨h1,h2,h3⟩:=stage_zero h
  obtain⟨k,rfl⟩:=Int.eq_ofNat_of_zero_le h2.1
  rw[h,if_pos rfl,if_pos rfl]
  exact wipe_i_ok rs v p k (by omega) h1 h3 w hr
 ·rw[if_neg h,if_neg h]
  exact wipe_i_ill rs v p r h w hr
theorem wipe_s_ok(rs:List Reg)(v:Value)(p:Int)(k:Nat)(hk:k<rs.length)(h:diskOk rs p=true)(hp:p≠0)(w:World)(hr:Rd w 3 v rs.length (flat encReg rs)):
  Calls Tryz.prog 24 #[.agg #[v,.int .i64 p],.int .i64 k] w fun e w'=>NewOut w e w' (setLog rs k ⟨#[]⟩) p 0:=by
 have hB:=fun w hr=>l16Code_s rs v p k w hr
 rw[stage_ok h ⟨by omega,by omega⟩ hp] at hB
 obtain⟨A,cap,rfl,_⟩:=hr.form
 have hl:=diskOk_len' h
 have HR:=hY hr
 have HB:=hY hB
 have HF:=hY (flat_log rs k ⟨#[]⟩ hk)
 have HL:=hY (setLog_len rs k ⟨#[]⟩)
 clear hr hB h hp
 have i1:(k:Int)<rs.length:=by omega
 go_enter Tryz.func24,Tryz.ntmps24
 go_wp2_with (first
  | (go_at_call 54;refine(HB.out _ (HR.out.later bwF)).use.mono ?_;rintro e w0 ⟨rfl,hb0⟩;(refine kpF (w.heap.size+1) hb0 ?_;intro Z0 Z0c Z0f Z0s);(refine kpF (w.heap.size) hb0 ?_;intro D0 D0c D0f D0s))
  | (go_at_call 20;refine(copyDisk_s rs _ _ hl _ (HR.out.later bwF)).mono ?_;rintro e w1 ⟨A1,c1,rfl,ho1,hb1⟩;(refine kpF (w.heap.size+1) hb1 ?_;intro Z1 Z1c Z1f Z1s);obtain⟨g,rfl,hg1,hg2⟩:=own_slice ho1 (by omega);obtain⟨⟨u0,q0⟩,q1,q2⟩:=own_at ho1 (m:=k*3+2) (by omega);have hz:w.heap.size+1<w1.heap.size:=Z1.lt;have hz0:=Z0.lt;have hgne:g≠w.heap.size+1:=(by omega);have hgne':=hgne.symm;have Q2:=hY q2;clear q2 Z0 Z0c Z0f Z0s D0 D0c D0f D0s))
 have O2:=Q2.out (.string ⟨#[]⟩)
 rw[HF.out] at O2
 refine bp_world ?_
 intro w9 hw9
 (refine hdF (w.heap.size+1) hw9 ?_;intro Z9 Z9c Z9f Z9s)
 have O9:w9.ownsRow (w0.heap.size) 86 3 (.slice (some ⟨g,0,none⟩) rs.length c1) rs.length (flat encReg (setLog rs k ⟨#[]⟩)):=by rw[hw9];exact owF
 have B9:Below w.heap.size w w9:=by rw[hw9];exact bwF
 clear hw9 O2 Q2 HB HR HF Z1 Z1c Z1f Z1s hb1 ho1 q0 q1
 exact bodyPost_ret (v := .agg #[.slice (some ⟨g,0,none⟩) rs.length c1,.int .i64 p,.int .i64 0]) (by simp[results,Tryz.results24,go_sem,Z9c]) rfl ⟨some ⟨g,0,none⟩,c1,by rw[HL.out],by rw[HL.out];exact own_base O9 (by omega),B9⟩
theorem wipe_s_ill(rs:List Reg)(v:Value)(p r:Int)(hs:stage rs p r≠0)(w:World)(hr:Rd w 3 v rs.length (flat encReg rs)):
  Calls Tryz.prog 24 #[.agg #[v,.int .i64 p],.int .i64 r] w fun e w'=>NewOut w e w' (illRs rs (stage rs p r)) (illP p (stage rs p r)) (stage rs p r):=by
 have hB:=fun w hr=>l16Code_s rs v p r w hr
 have hI:=fun w hr=>l16Ill_s rs v p r w hr
 obtain⟨A,cap,rfl,_⟩:=hr.form
 have HR:=hY hr
 have HB:=hY hB
 have HI:=hY hI
 clear hr hB hI
 generalize illRs rs (stage rs p r)=rs' at *
 generalize illP p (stage rs p r)=p' at *
 generalize stage rs p r=c at *
 have hc:(c != 0)=true:=by simpa using hs
 clear hs
 go_enter Tryz.func24,Tryz.ntmps24
 go_wp2_with (first
  | (go_at_call 54;refine(HB.out _ (HR.out.later bwF)).use.mono ?_;rintro e w0 ⟨rfl,hb0⟩;(refine kpF (w.heap.size+1) hb0 ?_;intro Z0 Z0c Z0f Z0s);(refine kpF (w.heap.size) hb0 ?_;intro D0 D0c D0f D0s))
  | (go_at_call 55;refine(HI.out _ (HR.out.later bwF)).mono ?_;rintro e w1 ⟨A1,c1,rfl,ho1,hb1⟩;(refine kpF (w.heap.size+1) hb1 ?_;intro Z1 Z1c Z1f Z1s);have hz:w.heap.size+1<w1.heap.size:=Z1.lt;have hz0:=Z0.lt;clear Z0 Z0c Z0f Z0s D0 D0c D0f D0s))
 refine bp_world ?_
 intro w9 hw9
 (refine hdF (w.heap.size+1) hw9 ?_;intro Z9 Z9c Z9f Z9s)
 have O9:w9.ownsRow (w0.heap.size) 86 3 (.slice A1 rs'.length c1) rs'.length (flat encReg rs'):=by rw[hw9];exact owF
 have B9:Below w.heap.size w w9:=by rw[hw9];exact bwF
 clear hw9 HB HR Z1 Z1c Z1f Z1s hb1 ho1
 exact bodyPost_ret (v := .agg #[.slice A1 rs'.length c1,.int .i64 p',.int .i64 c]) (by simp[results,Tryz.results24,go_sem,Z9c]) rfl ⟨A1,c1,rfl,own_base O9 (by omega),B9⟩
theorem wipe_s(rs:List Reg)(v:Value)(p r:Int)(w:World)(hr:Rd w 3 v rs.length (flat encReg rs)):
  Calls Tryz.prog 24 #[.agg #[v,.int .i64 p],.int .i64 r] w fun e w'=>NewOut w e w' (wipeRs rs p r) (doneP rs p r) (stage rs p r):=by
 unfold wipeRs doneP
 by_cases h:stage rs p r=0
 ·obtain ⟨h1,h2,h3⟩:=stage_zero h
  obtain⟨k,rfl⟩:=Int.eq_ofNat_of_zero_le h2.1
  rw[h,if_pos rfl,if_pos rfl]
  exact wipe_s_ok rs v p k (by omega) h1 h3 w hr
 ·rw[if_neg h,if_neg h]
  exact wipe_s_ill rs v p r h w hr
end Go.Proofs.YtcabgibdkmgdlaaGreat
namespace Go.Proofs.YtcabgibdkmgdlaaGreat
open Go.RowKit M
end Go.Proofs.YtcabgibdkmgdlaaGreat
namespace Go.Proofs.YtcabgibdkmgdlaaGreat
open Go.RowKit M
