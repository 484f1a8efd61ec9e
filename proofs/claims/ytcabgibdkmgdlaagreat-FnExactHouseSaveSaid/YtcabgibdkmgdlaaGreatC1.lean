import Derived.Test.YtcabgibdkmgdlaaGreatG1
set_option linter.unusedSimpArgs false
set_option linter.unusedVariables false
set_option maxHeartbeats 800000
namespace Go.Proofs.YtcabgibdkmgdlaaGreat
open Go.RowKit M
def dig(m:Nat):Bs:=if m=0 then [] else dig (m / 10) ++ [UInt8.ofNat (48+m%10)]
termination_by m
decreasing_by omega
theorem dig_zero:dig 0 = []:=by rw[dig];rfl
theorem dig_pos{m:Nat}(h:0<m):dig m=dig (m / 10) ++ [UInt8.ofNat (48+m%10)]:=by rw[dig,if_neg (by omega)]
def mtext(k:Nat):Bs:=if k=0 then [109,48] else 109::dig k
theorem conv_one(w:World)(n:Int)(hn:0≤n∧n<256):(convert 204 9 (.slice (some ⟨w.heap.size,0,none⟩) 1 1)).run Tryz.prog (w.alloc (.cells #[.int .u8 n] 5)) =
  .ok (.string (bs [UInt8.ofNat n.toNat])) (w.alloc (.cells #[.int .u8 n] 5)):=by
 refine run_convert_bytes_back (P:=Tryz.prog) _ 204 9 5 ⟨w.heap.size,0,none⟩ 1 [UInt8.ofNat n.toNat] Tryz.underlying204 Tryz.underlying5 Tryz.underlying9 ?_
 intro j hj
 obtain rfl:j=0:=by simpa using hj
 have hb:(((UInt8.ofNat n.toNat).toNat:Nat):Int)=n:=by rw[UInt8.toNat_ofNat'];omega
 rw[show (⟨w.heap.size,0,none⟩:Addr).add 0=⟨w.heap.size,0,none⟩ from rfl]
 simp only[List.getElem_cons_zero,hb]
 simp[World.cell?_alloc_new]
theorem markText_l(k:Nat)(hk:k<9223372036854775807)(w:World):Gives Tryz.prog 160 #[.int .i64 k] w (.string (bs (mtext k))):=by
 unfold Gives
 by_cases h0:k=0
 ·subst h0
  go_enter Tryz.func160,Tryz.ntmps160
  go_wp2
  go_ret
  exact⟨rfl,Below.refl _ _⟩
 ·have HM:Hid (mtext k=109::dig k):=by unfold mtext;rw[if_neg h0];exact hY rfl
  have h':¬(k:Int)≤0:=by omega
  clear h0
  go_enter Tryz.func160,Tryz.ntmps160
  go_wp2
  go_loopw [0,3] (fun x o wr=>∃(m:Nat) (acc:Bs),m+acc.length≤k∧Hid (dig m++acc=dig k)∧x = .int .i64 m∧o = .string (bs acc)∧Below w.heap.size w wr) (fun x _ _=>(intOf x).toNat)
  case atStart=>exact⟨k,[],by simp,by rw[List.append_nil];exact hY rfl,rfl,rfl,Below.refl _ _⟩
  case round=>
   obtain⟨m,acc,hl,HD,rfl,rfl,hb⟩:=hrel
   by_cases hm:0<m
   ·have hc:=conv_one wr (48+(m:Int)%10) (by omega)
    have hm':(0:Int)<m:=by omega
    go_wp2
    go_roundw
    case rel=>
     refine⟨m / 10,UInt8.ofNat (48+m%10)::acc,by simp;omega,hY ?_,rfl,?_,bthen hb (bnew _ _)⟩
     ·rw[←HD.out,dig_pos hm];simp
     ·rw[bs_append]
      have e:(48+UInt8.ofNat (m%10):UInt8)=UInt8.ofNat (48+m%10):=by rw[UInt8.ofNat_add];rfl
      rw[e];rfl
    case measure=>simp[intOf];omega
   ·obtain rfl:m=0:=by omega
    go_wp2
    go_ret
    refine⟨?_,hb⟩
    rw[HM.out,←HD.out,dig_zero]
    show Ending.returned (Value.string (bs [109]++bs acc))=_
    rw[bs_append];rfl
theorem markText_any(n:Int)(hn:0≤n∧n<9223372036854775807)(w:World):Gives Tryz.prog 160 #[.int .i64 n] w (.string (bs (mtext n.toNat))):=by
 obtain⟨k,rfl⟩:=Int.eq_ofNat_of_zero_le hn.1
 exact markText_l k (by omega) w
abbrev Reg:=ByteArray × ByteArray × ByteArray
def encReg(r:Reg):List Value:=[.string r.1,.string r.2.1,.string r.2.2]
theorem encReg_len(r:Reg):(encReg r).length=3:=rfl
def eqReg(a b:Reg):Bool:=decide (a.1=b.1)&&(decide (a.2.1=b.2.1)&&decide (a.2.2=b.2.2))
theorem eqReg_iff(a b:Reg):eqReg a b=true↔a=b:=by
 obtain⟨a1,a2,a3⟩:=a;obtain⟨b1,b2,b3⟩:=b
 simp[eqReg]
theorem eqRegion_l(a b:Reg)(w:World):
  Gives Tryz.prog 154 #[.agg #[.string a.1,.string a.2.1,.string a.2.2],.agg #[.string b.1,.string b.2.1,.string b.2.2]] w (.bool (eqReg a b)):=by
 obtain⟨a1,a2,a3⟩:=a;obtain⟨b1,b2,b3⟩:=b
 unfold Gives
 have HE:Hid (eqReg (a1,a2,a3) (b1,b2,b3)=(decide (a1=b1)&&(decide (a2=b2)&&decide (a3=b3)))):=hY rfl
 go_enter Tryz.func154,Tryz.ntmps154
 go_wp2
 all_goals go_ret
 all_goals refine⟨?_,bthen (bnew _ _) (bnew _ _)⟩
 all_goals rw[HE.out]
 all_goals simp_all [str_beq]
theorem Rd.at_{w wr:World}{s n b off cap:Nat}{xs:List Value}(h:∀j u,xs[j]? = some u→w.cell? ⟨b,off+j,none⟩=some u)(hb:Below w.heap.size w wr)(i:Nat)(u:Value)(hu:xs[i]? = some u)(x:Later wr):x.now.cell? ⟨b,off+i,none⟩=some u:=by
 have h1:=h i u hu
 have h2:=World.block_lt_of_cell? w _ h1
 rw[x.ok.cell (p:=⟨b,off+i,none⟩) (Nat.lt_of_lt_of_le h2 hb.size),hb.cell (p:=⟨b,off+i,none⟩) h2]
 exact h1
theorem eqRegionS_l(ra rb:List Reg)(va vb:Value)(w:World)
  (ha:Rd w 3 va ra.length (flat encReg ra)) (hb:Rd w 3 vb rb.length (flat encReg rb)) :
  Gives Tryz.prog 89 #[va,vb] w (.bool (decide (ra=rb))):=by
 obtain⟨A,ca,rfl,hna,hca,hfa⟩:=ha.form
 obtain⟨B,cb,rfl,hnb,hcb,hfb⟩:=hb.form
 unfold Gives
 unfold maxLen at *
 by_cases hlen:ra.length=rb.length
 ·have hl:((ra.length:Int) != (rb.length:Int))=false:=by simp[hlen]
  have HL:=hY hlen
  clear hlen
  go_enter Tryz.func89,Tryz.ntmps89
  go_wp2
  go_loopw [5] (fun i wr=>∃k:Nat,k≤ra.length∧i = .int .i64 k∧Below w.heap.size w wr∧Hid (∀j,j<k→ra[j]? = rb[j]?)) (fun i _=>ra.length-(intOf i).toNat)
  case atStart=>exact⟨0,Nat.zero_le _,rfl,Below.refl _ _,hY fun j h=>absurd h (by omega)⟩
  case round=>
   obtain⟨k,hk,rfl,hbw,heq⟩:=hrel
   by_cases hlt:k<ra.length
   ·obtain ⟨ba,oa,rfl,hcella⟩:=hfa (by omega)
    have hltb:k<rb.length:=by have:=HL.out;omega
    obtain⟨bb,ob,rfl,hcellb⟩:=hfb (by omega)
    have hkI:(k:Int)<(ra.length:Int):=by omega
    have hkJ:(k:Int)<(rb.length:Int):=by omega
    have ga:∀j u,j<3→(encReg ra[k])[j]? = some u → ∀x:Later wr,x.now.cell? ⟨ba,oa+k*3+j,none⟩=some u:=fun j u hj hu x=>by
     rw[Nat.add_assoc];exact Rd.at_ (n:=0) (s:=0) (cap:=0) hcella hbw _ u (by rw[flat_get encReg_len ra k j ra[k] (by simp[hlt]) hj];exact hu) x
    have gb:∀j u,j<3→(encReg rb[k])[j]? = some u → ∀x:Later wr,x.now.cell? ⟨bb,ob+k*3+j,none⟩=some u:=fun j u hj hu x=>by
     rw[Nat.add_assoc];exact Rd.at_ (n:=0) (s:=0) (cap:=0) hcellb hbw _ u (by rw[flat_get encReg_len rb k j rb[k] (by simp[hltb]) hj];exact hu) x
    have a0:=ga 0 _ (by omega) rfl
    have a1:=ga 1 _ (by omega) rfl
    have a2:=ga 2 _ (by omega) rfl
    have b0:=gb 0 _ (by omega) rfl
    have b1:=gb 1 _ (by omega) rfl
    have b2:=gb 2 _ (by omega) rfl
    clear ga gb
    simp only[Nat.add_zero] at a0 b0
    have ea:Hid (ra[k]? = some ra[k]):=hY (by simp[hlt])
    have eb:Hid (rb[k]? = some rb[k]):=hY (by simp[hltb])
    generalize ra[k]=xa at *
    generalize rb[k]=xb at *
    go_wp2
    refine wp_region_later (by kernel_rfl) (by kernel_rfl) ?_
    repeat(go_big_quiet_step ((go_at_call 154;exact Gives.later _ (eqRegion_l xa xb _))))
    refine wpQuiet_nil ?_
    rintro _ ⟨x,rfl⟩
    have hx:=x.ok
    cases he:eqReg xa xb
    ·have he':=hY he
     clear he
     go_wp2
     go_ret
     refine⟨?_,bthen hbw hx⟩
     have:ra≠rb:=fun e=>by
      have h1:=ea.out
      rw[e,eb.out] at h1
      have h2:=(eqReg_iff xa xb).2 (by injection h1 with h1;exact h1.symm)
      rw[he'.out] at h2;cases h2
     simp[this]
    ·have he':=hY he
     clear he
     go_wp2
     go_roundw
     case rel=>exact⟨k+1,by omega,by go_num,bthen hbw hx,hY fun j hj=>by
      rcases Nat.lt_or_ge j k with h|h
      ·exact heq.out j h
      ·obtain rfl:j=k:=by omega
       rw[ea.out,eb.out,(eqReg_iff xa xb).1 he'.out]⟩
     case measure=>simp[intOf];omega
   ·go_wp2
    go_ret
    refine⟨?_,hbw⟩
    have:ra=rb:=List.ext_getElem? fun j=>by
     rcases Nat.lt_or_ge j k with h|h
     ·exact heq.out j h
     ·have:=HL.out
      rw[List.getElem?_eq_none (by omega),List.getElem?_eq_none (by omega)]
    simp[this]
 ·have hl:((ra.length:Int) != (rb.length:Int))=true:=by simp;omega
  go_enter Tryz.func89,Tryz.ntmps89
  go_wp2
  go_ret
  refine⟨?_,Below.refl _ _⟩
  have:ra≠rb:=fun e=>hlen (by rw[e])
  simp[this]
theorem Rd.of_own{w:World}{base e s n:Nat}{v:Value}{xs:List Value}(h:w.ownsRow base e s v n xs):Rd w s v n xs:=by
 refine⟨h.1,?_⟩
 rcases h.2 with ⟨rfl,rfl⟩|⟨g,cap,cur,rfl,_,hg,hn,hc,hs,ht⟩
 ·exact ⟨none,0,rfl,Nat.le_refl _,Nat.zero_le _,fun h=>absurd h (by omega)⟩
 ·refine ⟨_,cap,rfl,hn,hc,fun _=>⟨g,0,rfl,fun j u hu=>?_⟩⟩
  rw[Nat.zero_add,cell_of_row w g j cur e (0,0) hg]
  rw[←ht,List.getElem?_take] at hu
  split at hu
  ·simpa using hu
  ·cases hu
theorem own_keep{w w':World}{base e s n:Nat}{v:Value}{xs:List Value}(h:w.ownsRow base e s v n xs)(hb:Below w.heap.size w w'):w'.ownsRow base e s v n xs:=
 h.kept (row:=none) ⟨hb.os,hb.tape,hb.output,hb.size,fun k hk _=>hb.block k hk⟩ (by cases v.ownBlock <;> simp)
theorem grown_below{a b c:World}{row:Option Nat}(h:a.grownBy b row)(hb:Below b.heap.size b c):a.grownBy c row:=
 ⟨hb.os.trans h.os,hb.tape.trans h.tape,hb.output.trans h.output,Nat.le_trans h.size hb.size,fun k hk hr=>(hb.block k (Nat.lt_of_lt_of_le hk h.size)).trans (h.block k hk hr)⟩
theorem grown_set{a b:World}{g j:Nat}(h:a.grownBy b (some g))(u:Value):a.grownBy (b.setCell ⟨g,j,none⟩ u) (some g):=
 ⟨h.os,h.tape,h.output,by simpa [World.setCell] using h.size,fun k hk hr=>(Below.heap_setCell b ⟨g,j,none⟩ u k (fun e=>hr (by rw[e]))).trans (h.block k hk hr)⟩
def marks(k m:Nat):List Value:=(List.range m).map fun i => .string (bs (mtext (k+i)))
theorem marks_length(k m:Nat):(marks k m).length=m:=by simp[marks]
theorem marks_get{k m i:Nat}(h:i<m):(marks k m)[i]? = some (.string (bs (mtext (k+i)))):=by simp[marks,h]
def marking(k m:Nat)(xs:List Value):List Value:=marks k m++xs.drop m
theorem marking_length{k m:Nat}{xs:List Value}(h:m≤xs.length):(marking k m xs).length=xs.length:=by simp[marking,marks_length];omega
theorem marking_set{k m:Nat}{xs:List Value}(h:m<xs.length):(marking k m xs).set m (.string (bs (mtext (k+m))))=marking k (m+1) xs:=by
 unfold marking
 rw[List.set_append_right _ _ (by simp[marks_length]),marks_length,Nat.sub_self]
 rw[List.drop_eq_getElem_cons h]
 simp only[marks,List.range_succ,List.map_append,List.map_cons,List.map_nil,List.append_assoc,List.cons_append,List.nil_append]
 rfl
theorem marking_zero(k:Nat)(xs:List Value):marking k 0 xs=xs:=by simp[marking,marks]
theorem marking_all{k m:Nat}{xs:List Value}(h:xs.length=m):marking k m xs=marks k m:=by
 unfold marking;rw[List.drop_eq_nil_of_le (by omega),List.append_nil]
def MarksS(P:Program)(f:FuncId)(e s:Nat):Prop:=∀(w:World) (base:Nat) (v:Value) (n k:Nat) (xs:List Value),w.ownsRow base e s v n xs→k+n*s<9223372036854775807 →
 Calls P f #[v,.int .i64 k] w fun en w'=>en = .returned (.int .i64 (k+n*s:Nat))∧w'.ownsRow base e s v n (marks k (n*s))∧w.grownBy w' v.ownBlock
theorem mark_step{w wr w1:World}{base e s g n cap k m:Nat}{xs:List Value}(HO:wr.ownsRow base e s (.slice (some ⟨g,0,none⟩) n cap) n (marking k m xs))(HG:w.grownBy wr (some g))
  (hb1:Below wr.heap.size wr w1) (hl:xs.length=n*s) (hm:m<n*s) :
  (∃u,w1.cell? ⟨g,m,none⟩=some u)∧w1.frozen? ⟨g,m,none⟩=false ∧
  (∀t,t=k+m→(w1.setCell ⟨g,m,none⟩ (.string (bs (mtext t)))).ownsRow base e s (.slice (some ⟨g,0,none⟩) n cap) n (marking k (m+1) xs) ∧
   w.grownBy (w1.setCell ⟨g,m,none⟩ (.string (bs (mtext t)))) (some g)):=by
 have O1:=own_keep HO hb1
 refine⟨?_,O1.frozenAt m,?_⟩
 ·rw[O1.cellAt m hm]
  exact⟨_,List.getElem?_eq_getElem (by rw[marking_length (by omega)];omega)⟩
 ·rintro t rfl
  have h:=(O1.stored m (.string (bs (mtext (k+m))))).1
  rw[marking_set (by omega)] at h
  exact⟨h,grown_set (grown_below HG hb1) _⟩
theorem markRegionS_l:MarksS Tryz.prog 92 86 3:=by
 intro w base v n k xs hown hk
 have hxs:=hown.1
 obtain⟨A,cap,rfl,hn,hcap,_⟩:=(Rd.of_own hown).form
 unfold maxLen at hcap
 go_enter Tryz.func92,Tryz.ntmps92
 go_wp2
 go_loopw [1,5] (fun x i wr=>∃j:Nat,j≤n∧i = .int .i64 j∧x = .int .i64 (k+j*3:Nat)∧Hid (wr.ownsRow base 86 3 (.slice A n cap) n (marking k (j*3) xs))∧Hid (w.grownBy wr (Value.slice A n cap).ownBlock)) (fun _ i _=>n-(intOf i).toNat)
 case atStart=>exact⟨0,Nat.zero_le _,rfl,by simp,by rw[Nat.zero_mul,marking_zero];exact hY hown,hY (World.grownBy.refl _ _)⟩
 case round=>
  obtain⟨j,hj,rfl,rfl,HO,HG⟩:=hrel
  by_cases hlt:j<n
  ·obtain ⟨g,cap',hv,_,_⟩:=HO.out.form (by omega)
   injection hv with hv1 hv2 hv3
   subst hv1 hv3
   clear hv2 hown
   have hjI:(j:Int)<(n:Int):=by omega
   have hxs':=hY hxs
   clear hxs
   go_wp2_with fail
   refine(markText_any _ (by omega) _).use.mono ?_
   rintro e w1 ⟨rfl,hb1⟩
   obtain⟨⟨u0,c0⟩,f0,S0⟩:=mark_step HO.out HG.out hb1 hxs'.out (by omega)
   obtain⟨O0,G0⟩:=S0 (k+j*3) rfl
   have HO0:=hY O0
   have HG0:=hY G0
   clear S0 O0 G0 HO HG
   go_wp2_with fail
   refine(markText_any _ (by omega) _).use.mono ?_
   rintro e w2 ⟨rfl,hb2⟩
   obtain⟨⟨u1,c1⟩,f1,S1⟩:=mark_step HO0.out HG0.out hb2 hxs'.out (by omega)
   obtain⟨O1,G1⟩:=S1 (k+j*3+1) rfl
   have HO1:=hY O1
   have HG1:=hY G1
   clear S1 O1 G1 HO0 HG0 c0 f0 hb1
   go_wp2_with fail
   refine(markText_any _ (by omega) _).use.mono ?_
   rintro e w3 ⟨rfl,hb3⟩
   obtain⟨⟨u2,c2⟩,f2,S2⟩:=mark_step HO1.out HG1.out hb3 hxs'.out (by omega)
   obtain⟨O2,G2⟩:=S2 (k+j*3+1+1) rfl
   have HO2:=hY O2
   have HG2:=hY G2
   clear S2 O2 G2 HO1 HG1 c1 f1 hb2
   go_wp2_with fail
   go_roundw
   case rel=>exact⟨j+1,by omega,by go_num,congrArg (Value.int .i64) (by omega),by rw[show (j+1)*3=j*3+1+1+1 by omega];exact HO2,HG2⟩
   case measure=>simp[intOf];omega
  ·obtain rfl:j=n:=by omega
   go_wp2
   go_ret
   have hx:=HO.out
   rw[marking_all hown.1] at hx
   exact⟨rfl,hx,HG.out⟩
def HeldS(P:Program)(f:FuncId)(s:Nat):Prop:=∀(w:World) (v:Value) (n k:Nat),Rd w s v n (marks k (n*s))→k+n*s<9223372036854775807 →
 Gives P f #[v,.int .i64 k] w (.int .i64 (k+n*s:Nat))
theorem heldRegionS_l:HeldS Tryz.prog 163 3:=by
 intro w v n k hrd hk
 obtain⟨A,cap,rfl,hn,hcap,hA⟩:=hrd.form
 unfold maxLen at hcap
 unfold Gives
 go_enter Tryz.func163,Tryz.ntmps163
 go_wp2
 go_loopw [1,5] (fun x i wr=>∃j:Nat,j≤n∧i = .int .i64 j∧x = .int .i64 (k+j*3:Nat)∧Below w.heap.size w wr) (fun _ i _=>n-(intOf i).toNat)
 case atStart=>exact⟨0,Nat.zero_le _,rfl,by simp,Below.refl _ _⟩
 case round=>
  obtain⟨j,hj,rfl,rfl,hb⟩:=hrel
  by_cases hlt:j<n
  ·obtain ⟨b,o,rfl,hcell⟩:=hA (by omega)
   have hjI:(j:Int)<(n:Int):=by omega
   have g0:=fun x=>Rd.at_ (n:=0) (s:=0) (cap:=0) hcell hb (j*3) _ (marks_get (by omega)) x
   go_wp2
   refine wp_region_later (by kernel_rfl) (by kernel_rfl) ?_
   repeat(go_big_quiet_step ((go_at_call 160;exact Gives.later _ (markText_any _ (by omega) _))))
   refine wpQuiet_nil ?_
   rintro _ ⟨x,rfl⟩
   have hb1:=bthen hb x.ok
   clear g0 hb
   generalize x.now=w1 at *
   simp only[beq_self_eq_true,Bool.not_true]
   have g1:∀y:Later w1,y.now.cell? ⟨b,o+j*3+1,none⟩=some (.string (bs (mtext (k+j*3+1)))):=fun y=>Rd.at_ (n:=0) (s:=0) (cap:=0) hcell hb1 (j*3+1) _ (marks_get (by omega)) y
   go_wp2
   refine wp_region_later (by kernel_rfl) (by kernel_rfl) ?_
   repeat(go_big_quiet_step ((go_at_call 160;exact Gives.later _ (markText_any _ (by omega) _))))
   refine wpQuiet_nil ?_
   rintro _ ⟨y,rfl⟩
   have hb2:=bthen hb1 y.ok
   clear g1 hb1
   generalize y.now=w2 at *
   simp only[beq_self_eq_true,Bool.not_true]
   have g2:∀z:Later w2,z.now.cell? ⟨b,o+j*3+2,none⟩=some (.string (bs (mtext (k+j*3+1+1)))):=fun z=>Rd.at_ (n:=0) (s:=0) (cap:=0) hcell hb2 (j*3+2) _ (marks_get (by omega)) z
   go_wp2
   refine wp_region_later (by kernel_rfl) (by kernel_rfl) ?_
   repeat(go_big_quiet_step ((go_at_call 160;exact Gives.later _ (markText_any _ (by omega) _))))
   refine wpQuiet_nil ?_
   rintro _ ⟨z,rfl⟩
   have hb3:=bthen hb2 z.ok
   clear g2 hb2
   generalize z.now=w3 at *
   simp only[beq_self_eq_true,Bool.not_true]
   go_wp2
   go_roundw
   case rel=>exact⟨j+1,by omega,by go_num,congrArg (Value.int .i64) (by omega),hb3⟩
   case measure=>simp[intOf];omega
  ·obtain rfl:j=n:=by omega
   go_wp2
   go_ret
   exact⟨rfl,hb⟩
theorem eqDisk_l(va vb:Value)(ra rb:List Reg)(pa pb:Int)(w:World)(ha:Rd w 3 va ra.length (flat encReg ra))(hb:Rd w 3 vb rb.length (flat encReg rb)):
  Gives Tryz.prog 39 #[.agg #[va,.int .i64 pa],.agg #[vb,.int .i64 pb]] w (.bool (decide (ra=rb)&&decide (pa=pb))):=by
 unfold Gives
 cases h:decide (ra=rb)
 ·have h':=hY h
  clear h
  go_enter Tryz.func39,Tryz.ntmps39
  go_wp2_with (go_at_call 89;refine(eqRegionS_l _ _ _ _ _ (ha.later (bthen (bnew _ _) (bnew _ _))) (hb.later (bthen (bnew _ _) (bnew _ _)))).use.mono ?_;rw[h'.out];rintro e w1 ⟨rfl,hb1⟩;obtain⟨hc1,hf1⟩:=bcell hb1)
  go_ret
  exact⟨rfl,bthen (bnew _ _) (bthen (bnew _ _) hb1)⟩
 ·have h':=hY h
  clear h
  go_enter Tryz.func39,Tryz.ntmps39
  go_wp2_with (go_at_call 89;refine(eqRegionS_l _ _ _ _ _ (ha.later (bthen (bnew _ _) (bnew _ _))) (hb.later (bthen (bnew _ _) (bnew _ _)))).use.mono ?_;rw[h'.out];rintro e w1 ⟨rfl,hb1⟩;obtain⟨hc1,hf1⟩:=bcell hb1)
  all_goals go_ret
  all_goals refine⟨?_,bthen (bnew _ _) (bthen (bnew _ _) hb1)⟩
  all_goals simp_all
theorem markDisk_l(w:World)(base:Nat)(v:Value)(p:Int)(n k:Nat)(xs:List Value)(hown:w.ownsRow base 86 3 v n xs)(hk:k+n*3<9223372036854775807):
  Calls Tryz.prog 41 #[.agg #[v,.int .i64 p],.int .i64 k] w fun en w'=>en = .returned (.int .i64 (k+n*3:Nat))∧w'.ownsRow base 86 3 v n (marks k (n*3))∧w.grownBy w' v.ownBlock:=by
 go_enter Tryz.func41,Tryz.ntmps41
 go_wp2_with (go_at_call 92;refine(markRegionS_l _ _ _ _ _ _ (hown.alloc _) hk).mono ?_;rintro e w1 ⟨rfl,ho1,hg1⟩)
 go_ret
 exact⟨rfl,ho1,⟨hg1.os,hg1.tape,hg1.output,Nat.le_trans (by simp) hg1.size,fun i hi hr=>(hg1.block i (by simp;omega) hr).trans (Below.heap_alloc _ _ _ hi)⟩⟩
theorem heldDisk_l(w:World)(v:Value)(p:Int)(n k:Nat)(hrd:Rd w 3 v n (marks k (n*3)))(hk:k+n*3<9223372036854775807):
  Gives Tryz.prog 94 #[.agg #[v,.int .i64 p],.int .i64 k] w (.int .i64 (k+n*3:Nat)):=by
 unfold Gives
 have h0:¬((k+n*3:Nat):Int)<0:=by omega
 go_enter Tryz.func94,Tryz.ntmps94
 go_wp2_with (go_at_call 163;refine(heldRegionS_l _ _ _ _ (hrd.later (bnew _ _)) hk).use.mono ?_;rintro e w1 ⟨rfl,hb1⟩)
 go_ret
 exact⟨rfl,bthen (bnew _ _) hb1⟩
