import Derived.Test.YtcabgibdkmgdlaaGreatJ7
import Derived.Test.YtcabgibdkmgdlaaGreatJ9
import Derived.Test.YtcabgibdkmgdlaaGreatGH
import Derived.Test.YtcabgibdkmgdlaaGreatJB
set_option linter.unusedSimpArgs false
set_option linter.unusedVariables false
set_option maxRecDepth 100000
set_option maxHeartbeats 4000000
namespace Go.Proofs.YtcabgibdkmgdlaaGreat
open Go.RowKit M
namespace M
abbrev Rg:=ByteArray × ByteArray × ByteArray
def z0p(a:Rg):List Value:=[.string a.1,.string a.2.1,.string a.2.2]
def tyRg:Ty Rg:=Ty.flat 3 z0p (fun _=>rfl) (fun a u hu=>by simp only[z0p,List.mem_cons,List.not_mem_nil,or_false] at hu;rcases hu with rfl|rfl|rfl <;> rfl)
def mkRg:Mark Rg:=⟨fun _=>3,fun k _=>(bs (mtext (k)),bs (mtext (k+1)),bs (mtext (k+2)))⟩
def z9j(a:Rg):Nat:=a.1.size+(a.2.1.size+(a.2.2.size))
def z9y(a:Rg):Prop:=a.1.size≤9223372036854775807∧a.2.1.size≤9223372036854775807∧a.2.2.size≤9223372036854775807
def mzRg:Mark Rg:=⟨fun a=>z9j a,fun _ a=>a⟩
def z3l(l:List Rg):Nat:=l.length+mzRg.cntl l
abbrev Dk:=List Rg × Int
def z8t(a:Dk):Nat:=z3l a.1
def y0b(a:Dk):Prop:=(∀x ∈ a.1,z9y x)
def mkDk:Mark Dk:=mkRg.list.pair (mkFix)
abbrev Ho:=St × Dk × Int
def z8m(a:Ho):Nat:=szSt a.1+(z8t a.2.1)
def z7z(a:Ho):Prop:=(okSt a.1)∧(y0b a.2.1)
def mkHo:Mark Ho:=mkSt.pair (mkDk.pair (mkFix))
abbrev HO:=Ho × (ByteArray × Int)
def mkHO:Mark HO:=mkHo.pair (mkFix)
end M
namespace Dz
theorem toRegion_l(a:Rg)(w:World):Gives Tryz.prog 121 #[.agg #[.string a.1,.string a.2.1,.string a.2.2]] w (.agg #[.string a.1,.string a.2.1,.string a.2.2]):=by
 obtain⟨a1,a2,a3⟩:=a
 unfold Gives
 have H:=Hs.start noRow w
 go_enter Tryz.func121,Tryz.ntmps121
 go_wp2_with ((first|refine zU ?_|(refine zB 1 ?_;intro b1)|(refine zA 2 ?_;intro b2)|(refine zA 3 ?_;intro b3));clear H;intro wn H)
 refine bpF ?_
 exact⟨rfl,H.below⟩
theorem eqRegion_l(a:Rg)(w:World):Gives Tryz.prog 154 #[.agg #[.string a.1,.string a.2.1,.string a.2.2],.agg #[.string a.1,.string a.2.1,.string a.2.2]] w (.bool true):=by
 obtain⟨a1,a2,a3⟩:=a
 unfold Gives
 have H:=Hs.start noRow w
 go_enter Tryz.func154,Tryz.ntmps154
 go_wp2_with ((first|refine zL ?_|(refine zB 2 ?_;intro b2)|(refine zB 3 ?_;intro b3));clear H;intro wn H)
 go_ret
 exact⟨rfl,H.below⟩
theorem szRegion_l(a:Rg)(k:Int)(hk:0≤k∧k≤1048576)(ho:z9y a)(w:World):Gives Tryz.prog 100 #[.agg #[.string a.1,.string a.2.1,.string a.2.2],.int .i64 k] w (.int .i64 (szC k (z9j a))):=by
 unfold z9j
 have h1:a.1.size≤9223372036854775807:=ho.1
 have h2:a.2.1.size≤9223372036854775807:=ho.2.1
 have h3:a.2.2.size≤9223372036854775807:=ho.2.2
 clear ho
 obtain⟨a1,a2,a3⟩:=a
 simp only at h1 h2 h3 ⊢
 obtain⟨n1,hn1⟩:=nm a1.size
 obtain⟨n2,hn2⟩:=nm a2.size
 obtain⟨n3,hn3⟩:=nm a3.size
 have e1:(a1.size:Int)=n1:=by rw[hn1]
 rw[←hn1] at h1 ⊢
 have e2:(a2.size:Int)=n2:=by rw[hn2]
 rw[←hn2] at h2 ⊢
 have e3:(a3.size:Int)=n3:=by rw[hn3]
 rw[←hn3] at h3 ⊢
 have H:=Hs.start noRow w
 unfold Gives
 by_cases hl1:k-n1<0
 ·rw[szC_neg (by omega)]
  go_enter Tryz.func100,Tryz.ntmps100
  go_wp2_with ((first|refine zL ?_|(refine zB 2 ?_;intro b2));clear H;intro wn H)
  go_ret
  exact⟨rfl,H.below⟩
 by_cases hl2:k-n1-n2<0
 ·rw[szC_neg (by omega)]
  go_enter Tryz.func100,Tryz.ntmps100
  go_wp2_with ((first|refine zL ?_|(refine zB 2 ?_;intro b2));clear H;intro wn H)
  go_ret
  exact⟨rfl,H.below⟩
 by_cases hl3:k-n1-n2-n3<0
 ·rw[szC_neg (by omega)]
  go_enter Tryz.func100,Tryz.ntmps100
  go_wp2_with ((first|refine zL ?_|(refine zB 2 ?_;intro b2));clear H;intro wn H)
  go_ret
  exact⟨rfl,H.below⟩
 rw[szC_pos (by omega),show k-((n1+(n2+(n3)):Nat):Int)=k-n1-n2-n3 by omega]
 go_enter Tryz.func100,Tryz.ntmps100
 go_wp2_with ((first|refine zL ?_|(refine zB 2 ?_;intro b2));clear H;intro wn H)
 go_ret
 exact⟨rfl,H.below⟩
theorem toRegionS_l(v:Value)(l:List Rg)(hl:l.length≤1048576)(w:World)(hr:(Ty.sl 0 tyRg).rd w [v] l):Rets Tryz.prog [] 66 #[v] w (tOwn (Ty.sl 86 tyRg) l):=by
 obtain⟨A,c,rfl,hlc,hcm⟩:=sl_form hr
 have HR:=hY hr
 have H:=Hs.start noRow w
 obtain⟨n,hn⟩:=nm l.length
 have hnl:n≤1048576:=by omega
 rw[←hn] at HR ⊢
 have HN:=hY hn
 clear hr hn hl hcm hlc
 refine Rets.of ?_
 go_enter Tryz.func66,Tryz.ntmps66
 go_wp2_with ((with_reducible apply st_makerow (E:=86) (s:=3) H);rfl;rfl;decide +kernel;(focus omega);clear H;intro g zs wn hz0 hz1 H;refine zp ?_)
 go_loopg [4] n (fun m iv wr=>∃(i:Nat) (pre zs:List Value) (N:List Hl),i+m=n∧iv = .int .i64 i∧Hid (OwnL tyRg pre (l.take i) N∧zs.length=(n-i)*3)∧Hs noRow w [Hl.row 86 3 (.slice (some ⟨g,0,none⟩) n n) n (pre++zs),Hl.all N] wr)
 case atStart=>exact⟨0,[],zs,[],by omega,rfl,hY ⟨.nil,hz0⟩,by rw[List.nil_append];exact H.allNil.sel sF⟩
 case round=>
  clear H
  obtain⟨i,pre,zs,N,hi,rfl,HO,H⟩:=hrel
  by_cases hlt:i<n
  ·obtain ⟨x,b,off,cs,hx,rfl,hv2,hcs,hA⟩:=slE HR HN hlt
   obtain rfl:cs=z0p x:=hcs
   obtain⟨p',z',hp,hsp,hz'⟩:=own_step (m:=n-(i+1)) HO.out.1 hx (by rw[HO.out.2];show (n-i)*3=(n-(i+1)+1)*3;congr 1;omega) (show tyRg.own (z0p x) x [] from ⟨rfl,rfl⟩)
   have hfit:i*3+3≤(pre++zs).length:=by
    have h1:=HO.out.1.len
    have h2:=HO.out.2
    rw[List.length_append,h1,h2,List.length_take,Nat.min_eq_left (by rw[←HN.out];omega)]
    show i*3+3≤i*3+(n-i)*3
    omega
   have HS:Hid (spl (pre++zs) (i*3) (z0p x)=p'++z'):=hY hsp
   have HO2:=hY (And.intro hp hz')
   have hlt1:(i:Int)<n:=by omega
   clear hsp hp hz' hx HO hv2
   unfold z0p at *
   go_wp2_with ((first|refine zU ?_|(go_at_call 121;refine gvF (toRegion_l _ _) H ?_));clear H;intro wn H)
   go_roundg (n-(i+1))
   case measure=>omega
   case rel=>exact⟨i+1,p',z',_,by omega,by go_num,HO2,by rw[List.append_nil,←HS.out];exact H.sel sF⟩
  ·obtain rfl:i=n:=by omega
   have hlt1:=nlt i
   go_wp2_with (fail)
   go_ret
   exact ret_sl H HO.out.1 ((tkl HN)) (by rw[HO.out.2,Nat.sub_self,Nat.zero_mul]) HN.out
theorem eqRegionS_l(va vb:Value)(l:List Rg)(w:World)(ha:(Ty.sl 86 tyRg).rd w [va] l)(hb:(Ty.sl 86 tyRg).rd w [vb] l):Gives Tryz.prog 89 #[va,vb] w (.bool true):=by
 obtain⟨A,c,rfl,hlc,hcm⟩:=sl_form ha
 obtain⟨B,d,rfl,_,_⟩:=sl_form hb
 unfold maxLen at *
 have HA:=hY ha
 have HB:=hY hb
 have H:=Hs.start noRow w
 obtain⟨n,hn⟩:=nm l.length
 have hnl:n≤9223372036854775807:=by omega
 rw[←hn] at HA HB ⊢
 have HN:=hY hn
 clear ha hb hn hcm hlc
 unfold Gives
 go_enter Tryz.func89,Tryz.ntmps89
 go_wp2_with (fail)
 go_loopg [5] n (fun m iv wr=>∃(i:Nat),i+m=n∧iv = .int .i64 i∧Hs noRow w [] wr)
 case atStart=>exact⟨0,by omega,rfl,H⟩
 case round=>
  clear H
  obtain⟨i,hi,rfl,H⟩:=hrel
  by_cases hlt:i<n
  ·obtain ⟨x,hx⟩:=atE HN hlt
   have hs:=sl_at (by have:=HA.out;rw[HN.out] at this;exact this) hx
   have hs2:=sl_at (by have:=HB.out;rw[HN.out] at this;exact this) hx
   rw[←HN.out] at hs hs2
   obtain⟨b,off,c',cs,hv,hcs,hA⟩:=hs
   injection hv with hv1 hv2 hv3
   subst hv1 hv3
   obtain⟨b2,off2,c2',cs2,hw,hcs2,hB⟩:=hs2
   injection hw with hw1 hw2 hw3
   subst hw1 hw3
   obtain rfl:cs=z0p x:=hcs
   obtain rfl:cs2=z0p x:=hcs2
   have hlt1:(i:Int)<n:=by omega
   clear hx hv2 hw2
   unfold z0p at *
   go_wp2_with (refine zHq 6 ?_;(iterate 8 (all_goals(refine zhAV ?_)));all_goals refine zHk (fun w1 H1=>eqRegion_l _ _) ?_;all_goals refine zhV ?_;all_goals(refine zHz ?_;clear H;intro wn H))
   go_roundg (n-(i+1))
   case measure=>omega
   case rel=>exact⟨i+1,by omega,by go_num,H⟩
  ·obtain rfl:i=n:=by omega
   have hlt1:=nlt i
   go_wp2_with (fail)
   go_ret
   exact⟨rfl,H.below⟩
theorem szRegionS_l(v:Value)(l:List Rg)(k:Int)(hk:0≤k∧k≤1048576)(ho:∀x ∈ l,z9y x)(w:World)(hr:(Ty.sl 0 tyRg).rd w [v] l):Gives Tryz.prog 45 #[v,.int .i64 k] w (.int .i64 (szC k (z3l l))):=by
 obtain⟨A,c,rfl,hlc,hcm⟩:=sl_form hr
 unfold maxLen at *
 have HR:=hY hr
 have HOK:=hY ho
 have H:=Hs.start noRow w
 obtain⟨n,hn⟩:=nm l.length
 obtain⟨t,ht⟩:=nm (mzRg.cntl l)
 rw[show z3l l=n+t by rw[hn,ht];rfl]
 rw[←hn] at HR ⊢
 have HN:=hY hn
 have HT:=hY ht
 have hnl:n≤9223372036854775807:=by omega
 clear hr hn ht hcm hlc ho
 unfold Gives
 by_cases h:k-n<0
 ·rw[szC_neg (by omega)]
  go_enter Tryz.func45,Tryz.ntmps45
  go_wp2_with (fail)
  go_ret
  exact⟨rfl,H.below⟩
 obtain⟨z,hz⟩:=nm (szC k (n+t:Nat))
 rw[←hz]
 have HZ:=hY hz
 clear hz
 go_enter Tryz.func45,Tryz.ntmps45
 go_wp2_with (fail)
 go_loopg [1,5] n (fun m kv iv wr=>∃(i s:Nat),i+m=n∧iv = .int .i64 i∧kv = .int .i64 (k-n-s)∧0≤k-n-s∧Hid (s=mzRg.cntl (l.take i))∧Hs noRow w [] wr)
 case atStart=>exact⟨0,0,by omega,rfl,by go_num,by omega,hY rfl,H⟩
 case round=>
  clear H
  obtain⟨i,s,hi,rfl,rfl,hs0,HI,H⟩:=hrel
  by_cases hlt:i<n
  ·obtain ⟨x,b,off,cs,hx,rfl,hv2,hcs,hA⟩:=slE HR HN hlt
   obtain rfl:cs=z0p x:=hcs
   have c1:=fun w1=>szRegion_l x (k-n-s) ⟨hs0,by omega⟩ (HOK.out x (List.mem_of_getElem? hx)) w1
   have hle:=mzRg.cnt_at_le hx
   have hxs:mzRg.cnt x=(z9j x):=rfl
   rw[←HI.out,←HT.out,hxs] at hle
   have HI2:Hid (s+(z9j x)=mzRg.cntl (l.take (i+1))):=hY (by rw[mzRg.cntl_step hx,←HI.out];rfl)
   have hlt1:(i:Int)<n:=by omega
   unfold z0p at *
   clear hx hv2 hxs
   generalize (z9j x)=xn at *
   by_cases hng:k-n-s-xn<0
   ·rw[szC_neg hng] at c1
    have HZ2:Hid (z = -1):=hY (by rw[HZ.out,szC_neg (by omega)])
    go_wp2_with ((first|refine zP ?_|(go_at_call 100;refine gvF (c1 _) H ?_));clear H;intro wn H)
    go_ret
    exact⟨by rw[HZ2.out];rfl,H.below⟩
   ·rw[szC_pos hng] at c1
    go_wp2_with ((first|refine zP ?_|(go_at_call 100;refine gvF (c1 _) H ?_));clear H;intro wn H)
    go_roundg (n-(i+1))
    case measure=>omega
    case rel=>exact⟨i+1,s+xn,by omega,by go_num,by go_num,by omega,HI2,H⟩
  ·obtain rfl:i=n:=by omega
   have hlt1:=nlt i
   have hst:s=t:=by rw[HI.out,HT.out,(tkl HN)]
   subst hst
   have HZ2:Hid (z=k-i-s):=hY (by rw[HZ.out,szC_pos (by omega)];omega)
   go_wp2_with (fail)
   go_ret
   exact⟨by rw[HZ2.out];rfl,H.below⟩
def tyDk:Ty Dk:=Ty.pair (Ty.sl 86 tyRg) (tyNum)
theorem Dk_form{w:World}{cs:List Value}{a:Dk}(h:tyDk.rd w cs a):∃A1 n1 k1,cs = [.slice A1 n1 k1,.int .i64 a.2]∧(Ty.sl 86 tyRg).rd w [.slice A1 n1 k1] a.1:=by
 obtain⟨x1,y1,rfl,h1,h2⟩:=h
 obtain⟨v1,hv1⟩:∃v,x1 = [v]:=by obtain⟨v,_,rfl,_⟩:=h1;exact⟨v,rfl⟩
 subst hv1
 obtain⟨A1,k1,rfl,_,_⟩:=sl_form h1
 obtain rfl:y1=encNum a.2:=h2
 exact⟨A1,_,k1,rfl,h1⟩
theorem z6v{w:World}{cs:List Value}{a:Dk}(h:tyDk.rd w cs a):∃A1 n1 k1,cs = [.slice A1 n1 k1,.int .i64 a.2]:=by
 obtain⟨A1,n1,k1,e,_⟩:=Dk_form h
 exact⟨A1,n1,k1,e⟩
theorem toDisk_l(a:Dk)(cs:List Value)(hl:z8t a≤1048576)(w:World)(hr:tyDk.rd w cs a):Rets Tryz.prog [] 27 #[.agg cs.toArray] w (tAgg tyDk a):=by
 obtain⟨A1,n1,k1,rfl,h1⟩:=Dk_form hr
 clear hr
 obtain⟨a1,a2⟩:=a
 simp only at h1
 have hl0:z3l a1≤1048576:=hl
 have hl1:z3l a1≤1048576:=by omega
 show Rets Tryz.prog [] _ #[.agg #[.slice A1 n1 k1,.int .i64 a2]] w _
 have c1:=fun w1 hb=>toRegionS_l _ a1 (by unfold z3l at hl1;omega) w1 (Ty.below _ h1 hb)
 clear hl hl0 hl1 h1
 have H:=Hs.start noRow w
 refine Rets.of ?_
 go_enter Tryz.func27,Tryz.ntmps27
 go_wp2_with ((first|refine zL ?_|(refine zB 1 ?_;intro b1)|(refine zA 2 ?_;intro b2)|(refine zA 3 ?_;intro b3));clear H;intro wn H)
 refine(Rets.use (c1 _ H.below)).mono ?_;rintro e wn ⟨_,_,rfl,⟨N1,hN1,rfl,o1⟩,hkk⟩;refine zK ?_;clear H hkk;intro H
 have hA1:=own_single hN1 o1 rfl
 clear hN1 o1
 obtain⟨B1,j1,rfl,_,_⟩:=sl_form (own_rd H .here hA1)
 have HA1:=hY hA1
 clear hA1 c1
 go_wp2_with (refine zU ?_;clear H;intro wn H)
 refine bpF ?_
 have H2:Hs noRow w ([N1].map Hl.all ++ []) _:=H.sel (M:=[Hl.all N1]) sF
 have H3:=Hs.joinL _ H2
 exact Hs.retd H3 (List.Sublist.refl _) ⟨[_,_],_,rfl,⟨[_],[_],_,_,rfl,rfl,HA1.out,⟨rfl,rfl⟩⟩,rfl⟩
theorem eqDisk_l(a:Dk)(cs ds:List Value)(w:World)(ha:tyDk.rd w cs a)(hb:tyDk.rd w ds a):Gives Tryz.prog 39 #[.agg cs.toArray,.agg ds.toArray] w (.bool true):=by
 obtain⟨A1,n1,k1,rfl,h1⟩:=Dk_form ha
 obtain⟨eA1,en1,ek1,rfl,g1⟩:=Dk_form hb
 clear ha hb
 obtain⟨a1,a2⟩:=a
 simp only at h1 g1
 show Gives Tryz.prog _ #[.agg #[.slice A1 n1 k1,.int .i64 a2],.agg #[.slice eA1 en1 ek1,.int .i64 a2]] w _
 have c1:=fun w1 hb=>eqRegionS_l _ _ a1 w1 (Ty.below _ h1 hb) (Ty.below _ g1 hb)
 clear h1 g1
 have H:=Hs.start noRow w
 unfold Gives
 go_enter Tryz.func39,Tryz.ntmps39
 go_wp2_with ((first|refine zL ?_|(refine zB 2 ?_;intro b2)|(refine zB 3 ?_;intro b3)|(go_at_call 89;refine gvF (c1 _ H.below) H ?_));clear H;intro wn H)
 go_ret
 exact⟨rfl,H.below⟩
theorem szDisk_l(a:Dk)(cs:List Value)(k:Int)(hk:0≤k∧k≤1048576)(ho:y0b a)(w:World)(ha:tyDk.rd w cs a):Gives Tryz.prog 14 #[.agg cs.toArray,.int .i64 k] w (.int .i64 (szC k (z8t a))):=by
 obtain⟨A1,n1,k1,rfl,h1⟩:=Dk_form ha
 clear ha
 unfold y0b at ho
 obtain⟨a1,a2⟩:=a
 simp only at h1 ho
 show Gives Tryz.prog _ #[.agg #[.slice A1 n1 k1,.int .i64 a2],_] w (.int .i64 (szC k (z3l a1)))
 have d1:=fun k hk w1 hb=>szRegionS_l _ a1 k hk (ho) w1 (Ty.below _ h1 hb)
 clear h1 ho
 generalize z3l a1=m1 at *
 have H:=Hs.start noRow w
 unfold Gives
 have c1:=d1 (k) ⟨by omega,by omega⟩
 clear d1
 by_cases hn1:k-m1<0
 ·rw[szC_neg hn1] at c1
  rw[szC_neg (by omega)]
  go_enter Tryz.func14,Tryz.ntmps14
  go_wp2_with ((first|refine zL ?_|(refine zB 2 ?_;intro b2)|(go_at_call 45;refine gvF (c1 _ H.below) H ?_));clear H;intro wn H)
  go_ret
  exact⟨rfl,H.below⟩
 rw[szC_pos hn1] at c1
 rw[szC_pos (by omega),show k-((m1:Nat):Int)=k-m1 by omega]
 go_enter Tryz.func14,Tryz.ntmps14
 go_wp2_with ((first|refine zL ?_|(refine zB 2 ?_;intro b2)|(go_at_call 45;refine gvF (c1 _ H.below) H ?_));clear H;intro wn H)
 go_ret
 exact⟨rfl,H.below⟩
def tyHo:Ty Ho:=Ty.pair tySt (Ty.pair tyDk (tyNum))
theorem Ho_form{w:World}{cs:List Value}{a:Ho}(h:tyHo.rd w cs a):∃A1 n1 k1 A2 n2 k2 A3 n3 k3 A4 n4 k4 A5 n5 k5 A6 n6 k6 A7 n7 k7 A8 n8 k8,cs = [.slice A1 n1 k1,.slice A2 n2 k2,.slice A3 n3 k3,.int .i64 a.1.1.1.2.2.2,.slice A4 n4 k4,.slice A5 n5 k5,.slice A6 n6 k6,.int .i64 a.1.1.2.2.2.2,.slice A7 n7 k7,.slice A8 n8 k8,.int .i64 a.2.1.2,.int .i64 a.2.2]∧tySt.rd w [.slice A1 n1 k1,.slice A2 n2 k2,.slice A3 n3 k3,.int .i64 a.1.1.1.2.2.2,.slice A4 n4 k4,.slice A5 n5 k5,.slice A6 n6 k6,.int .i64 a.1.1.2.2.2.2,.slice A7 n7 k7] a.1∧tyDk.rd w [.slice A8 n8 k8,.int .i64 a.2.1.2] a.2.1:=by
 obtain⟨x1,y1,rfl,h1,x2,y2,rfl,h2,h3⟩:=h
 obtain⟨A1,n1,k1,A2,n2,k2,A3,n3,k3,A4,n4,k4,A5,n5,k5,A6,n6,k6,A7,n7,k7,rfl⟩:=St_lit h1
 obtain⟨A8,n8,k8,rfl⟩:=z6v h2
 obtain rfl:y2=encNum a.2.2:=h3
 exact⟨A1,n1,k1,A2,n2,k2,A3,n3,k3,A4,n4,k4,A5,n5,k5,A6,n6,k6,A7,n7,k7,A8,n8,k8,rfl,h1,h2⟩
theorem Ho_lit{w:World}{cs:List Value}{a:Ho}(h:tyHo.rd w cs a):∃A1 n1 k1 A2 n2 k2 A3 n3 k3 A4 n4 k4 A5 n5 k5 A6 n6 k6 A7 n7 k7 A8 n8 k8,cs = [.slice A1 n1 k1,.slice A2 n2 k2,.slice A3 n3 k3,.int .i64 a.1.1.1.2.2.2,.slice A4 n4 k4,.slice A5 n5 k5,.slice A6 n6 k6,.int .i64 a.1.1.2.2.2.2,.slice A7 n7 k7,.slice A8 n8 k8,.int .i64 a.2.1.2,.int .i64 a.2.2]:=by
 obtain⟨A1,n1,k1,A2,n2,k2,A3,n3,k3,A4,n4,k4,A5,n5,k5,A6,n6,k6,A7,n7,k7,A8,n8,k8,e,_⟩:=Ho_form h
 exact⟨A1,n1,k1,A2,n2,k2,A3,n3,k3,A4,n4,k4,A5,n5,k5,A6,n6,k6,A7,n7,k7,A8,n8,k8,e⟩
theorem toHouse_l(a:Ho)(cs:List Value)(hl:z8m a≤1048576)(w:World)(hr:tyHo.rd w cs a):Rets Tryz.prog [] 6 #[.agg cs.toArray] w (tAgg tyHo a):=by
 obtain⟨A1,n1,k1,A2,n2,k2,A3,n3,k3,A4,n4,k4,A5,n5,k5,A6,n6,k6,A7,n7,k7,A8,n8,k8,rfl,h1,h2⟩:=Ho_form hr
 clear hr
 obtain⟨a1,a2,a3⟩:=a
 simp only at h1 h2
 have hl0:szSt a1+(z8t a2)≤1048576:=hl
 have hl1:szSt a1≤1048576:=by omega
 have hl2:z8t a2≤1048576:=by omega
 show Rets Tryz.prog [] _ #[.agg #[.slice A1 n1 k1,.slice A2 n2 k2,.slice A3 n3 k3,.int .i64 a1.1.1.2.2.2,.slice A4 n4 k4,.slice A5 n5 k5,.slice A6 n6 k6,.int .i64 a1.1.2.2.2.2,.slice A7 n7 k7,.slice A8 n8 k8,.int .i64 a2.2,.int .i64 a3]] w _
 have c1:=fun w1 hb=>toState_l a1 _ hl1 w1 (Ty.below _ h1 hb)
 have c2:=fun w1 hb=>toDisk_l a2 _ hl2 w1 (Ty.below _ h2 hb)
 clear hl hl0 hl1 hl2 h1 h2
 have H:=Hs.start noRow w
 refine Rets.of ?_
 go_enter Tryz.func6,Tryz.ntmps6
 go_wp2_with ((first|refine zM ?_|(refine zB 1 ?_;intro b1)|(refine zA 2 ?_;intro b2)|(refine zA 3 ?_;intro b3));clear H;intro wn H)
 refine(Rets.use (c1 _ H.below)).mono ?_;rintro e wn ⟨_,_,rfl,⟨d1,N1,rfl,hA1,rfl⟩,hkk⟩;refine zK ?_;clear H hkk;intro H
 obtain⟨B1_1,m1_1,j1_1,B1_2,m1_2,j1_2,B1_3,m1_3,j1_3,B1_4,m1_4,j1_4,B1_5,m1_5,j1_5,B1_6,m1_6,j1_6,B1_7,m1_7,j1_7,rfl⟩:=St_lit (own_rd H .here hA1)
 have HA1:=hY hA1
 clear hA1 c1
 go_wp2_with (refine zU ?_;clear H;intro wn H)
 refine(Rets.use (c2 _ H.below)).mono ?_;rintro e wn ⟨_,_,rfl,⟨d2,N2,rfl,hA2,rfl⟩,hkk⟩;refine zK ?_;clear H hkk;intro H
 obtain⟨B2_8,m2_8,j2_8,rfl⟩:=z6v (own_rd H .here hA2)
 have HA2:=hY hA2
 clear hA2 c2
 go_wp2_with (refine zU ?_;clear H;intro wn H)
 refine bpF ?_
 have H2:Hs noRow w ([N1,N2].map Hl.all ++ []) _:=H.sel (M:=[Hl.all N1,Hl.all N2]) sF
 have H3:=Hs.joinL _ H2
 exact Hs.retd H3 (List.Sublist.refl _) ⟨[_,_,_,_,_,_,_,_,_,_,_,_],_,rfl,⟨[_,_,_,_,_,_,_,_,_],[_,_,_],_,_,rfl,rfl,HA1.out,[_,_],[_],_,_,rfl,rfl,HA2.out,⟨rfl,rfl⟩⟩,rfl⟩
theorem eqHouse_l(a:Ho)(cs ds:List Value)(w:World)(ha:tyHo.rd w cs a)(hb:tyHo.rd w ds a):Gives Tryz.prog 9 #[.agg cs.toArray,.agg ds.toArray] w (.bool true):=by
 obtain⟨A1,n1,k1,A2,n2,k2,A3,n3,k3,A4,n4,k4,A5,n5,k5,A6,n6,k6,A7,n7,k7,A8,n8,k8,rfl,h1,h2⟩:=Ho_form ha
 obtain⟨eA1,en1,ek1,eA2,en2,ek2,eA3,en3,ek3,eA4,en4,ek4,eA5,en5,ek5,eA6,en6,ek6,eA7,en7,ek7,eA8,en8,ek8,rfl,g1,g2⟩:=Ho_form hb
 clear ha hb
 obtain⟨a1,a2,a3⟩:=a
 simp only at h1 h2 g1 g2
 show Gives Tryz.prog _ #[.agg #[.slice A1 n1 k1,.slice A2 n2 k2,.slice A3 n3 k3,.int .i64 a1.1.1.2.2.2,.slice A4 n4 k4,.slice A5 n5 k5,.slice A6 n6 k6,.int .i64 a1.1.2.2.2.2,.slice A7 n7 k7,.slice A8 n8 k8,.int .i64 a2.2,.int .i64 a3],.agg #[.slice eA1 en1 ek1,.slice eA2 en2 ek2,.slice eA3 en3 ek3,.int .i64 a1.1.1.2.2.2,.slice eA4 en4 ek4,.slice eA5 en5 ek5,.slice eA6 en6 ek6,.int .i64 a1.1.2.2.2.2,.slice eA7 en7 ek7,.slice eA8 en8 ek8,.int .i64 a2.2,.int .i64 a3]] w _
 have c1:=fun w1 hb=>eqState_l a1 _ _ w1 (Ty.below _ h1 hb) (Ty.below _ g1 hb)
 have c2:=fun w1 hb=>eqDisk_l a2 _ _ w1 (Ty.below _ h2 hb) (Ty.below _ g2 hb)
 clear h1 h2 g1 g2
 have H:=Hs.start noRow w
 unfold Gives
 go_enter Tryz.func9,Tryz.ntmps9
 go_wp2_with ((first|refine zU ?_|(refine zB 2 ?_;intro b2)|(refine zB 3 ?_;intro b3)|(go_at_call 38;refine gvF (c1 _ H.below) H ?_)|(go_at_call 39;refine gvF (c2 _ H.below) H ?_));clear H;intro wn H)
 go_ret
 exact⟨rfl,H.below⟩
theorem szHouse_l(a:Ho)(cs:List Value)(k:Int)(hk:0≤k∧k≤1048576)(ho:z7z a)(w:World)(ha:tyHo.rd w cs a):Gives Tryz.prog 4 #[.agg cs.toArray,.int .i64 k] w (.int .i64 (szC k (z8m a))):=by
 obtain⟨A1,n1,k1,A2,n2,k2,A3,n3,k3,A4,n4,k4,A5,n5,k5,A6,n6,k6,A7,n7,k7,A8,n8,k8,rfl,h1,h2⟩:=Ho_form ha
 clear ha
 unfold z7z at ho
 obtain⟨a1,a2,a3⟩:=a
 simp only at h1 h2 ho
 show Gives Tryz.prog _ #[.agg #[.slice A1 n1 k1,.slice A2 n2 k2,.slice A3 n3 k3,.int .i64 a1.1.1.2.2.2,.slice A4 n4 k4,.slice A5 n5 k5,.slice A6 n6 k6,.int .i64 a1.1.2.2.2.2,.slice A7 n7 k7,.slice A8 n8 k8,.int .i64 a2.2,.int .i64 a3],_] w (.int .i64 (szC k (szSt a1+(z8t a2))))
 have d1:=fun k hk w1 hb=>szState_l a1 _ k hk (ho.1) w1 (Ty.below _ h1 hb)
 have d2:=fun k hk w1 hb=>szDisk_l a2 _ k hk (ho.2) w1 (Ty.below _ h2 hb)
 clear h1 h2 ho
 generalize szSt a1=m1 at *
 generalize z8t a2=m2 at *
 have H:=Hs.start noRow w
 unfold Gives
 have c1:=d1 (k) ⟨by omega,by omega⟩
 clear d1
 by_cases hn1:k-m1<0
 ·rw[szC_neg hn1] at c1
  rw[szC_neg (by omega)]
  go_enter Tryz.func4,Tryz.ntmps4
  go_wp2_with ((first|refine zM ?_|(refine zB 2 ?_;intro b2)|(go_at_call 13;refine gvF (c1 _ H.below) H ?_));clear H;intro wn H)
  go_ret
  exact⟨rfl,H.below⟩
 rw[szC_pos hn1] at c1
 have c2:=d2 (k-m1) ⟨by omega,by omega⟩
 clear d2
 by_cases hn2:k-m1-m2<0
 ·rw[szC_neg hn2] at c2
  rw[szC_neg (by omega)]
  go_enter Tryz.func4,Tryz.ntmps4
  go_wp2_with ((first|refine zM ?_|(refine zB 2 ?_;intro b2)|(go_at_call 13;refine gvF (c1 _ H.below) H ?_)|(go_at_call 14;refine gvF (c2 _ H.below) H ?_));clear H;intro wn H)
  go_ret
  exact⟨rfl,H.below⟩
 rw[szC_pos hn2] at c2
 rw[szC_pos (by omega),show k-((m1+(m2):Nat):Int)=k-m1-m2 by omega]
 go_enter Tryz.func4,Tryz.ntmps4
 go_wp2_with ((first|refine zM ?_|(refine zB 2 ?_;intro b2)|(go_at_call 13;refine gvF (c1 _ H.below) H ?_)|(go_at_call 14;refine gvF (c2 _ H.below) H ?_));clear H;intro wn H)
 go_ret
 exact⟨rfl,H.below⟩
def tyHO:Ty HO:=Ty.pair tyHo (tySI)
theorem z2w{w:World}{cs:List Value}{a:HO}(h:tyHO.rd w cs a):∃A1 n1 k1 A2 n2 k2 A3 n3 k3 A4 n4 k4 A5 n5 k5 A6 n6 k6 A7 n7 k7 A8 n8 k8,cs = [.slice A1 n1 k1,.slice A2 n2 k2,.slice A3 n3 k3,.int .i64 a.1.1.1.1.2.2.2,.slice A4 n4 k4,.slice A5 n5 k5,.slice A6 n6 k6,.int .i64 a.1.1.1.2.2.2.2,.slice A7 n7 k7,.slice A8 n8 k8,.int .i64 a.1.2.1.2,.int .i64 a.1.2.2,.string a.2.1,.int .i64 a.2.2]∧tyHo.rd w [.slice A1 n1 k1,.slice A2 n2 k2,.slice A3 n3 k3,.int .i64 a.1.1.1.1.2.2.2,.slice A4 n4 k4,.slice A5 n5 k5,.slice A6 n6 k6,.int .i64 a.1.1.1.2.2.2.2,.slice A7 n7 k7,.slice A8 n8 k8,.int .i64 a.1.2.1.2,.int .i64 a.1.2.2] a.1:=by
 obtain⟨x1,y1,rfl,h1,h2⟩:=h
 obtain⟨A1,n1,k1,A2,n2,k2,A3,n3,k3,A4,n4,k4,A5,n5,k5,A6,n6,k6,A7,n7,k7,A8,n8,k8,rfl⟩:=Ho_lit h1
 obtain rfl:y1=encSI a.2:=h2
 exact⟨A1,n1,k1,A2,n2,k2,A3,n3,k3,A4,n4,k4,A5,n5,k5,A6,n6,k6,A7,n7,k7,A8,n8,k8,rfl,h1⟩
theorem HO_lit{w:World}{cs:List Value}{a:HO}(h:tyHO.rd w cs a):∃A1 n1 k1 A2 n2 k2 A3 n3 k3 A4 n4 k4 A5 n5 k5 A6 n6 k6 A7 n7 k7 A8 n8 k8,cs = [.slice A1 n1 k1,.slice A2 n2 k2,.slice A3 n3 k3,.int .i64 a.1.1.1.1.2.2.2,.slice A4 n4 k4,.slice A5 n5 k5,.slice A6 n6 k6,.int .i64 a.1.1.1.2.2.2.2,.slice A7 n7 k7,.slice A8 n8 k8,.int .i64 a.1.2.1.2,.int .i64 a.1.2.2,.string a.2.1,.int .i64 a.2.2]:=by
 obtain⟨A1,n1,k1,A2,n2,k2,A3,n3,k3,A4,n4,k4,A5,n5,k5,A6,n6,k6,A7,n7,k7,A8,n8,k8,e,_⟩:=z2w h
 exact⟨A1,n1,k1,A2,n2,k2,A3,n3,k3,A4,n4,k4,A5,n5,k5,A6,n6,k6,A7,n7,k7,A8,n8,k8,e⟩
theorem eqHouseOut_l(a:HO)(cs ds:List Value)(w:World)(ha:tyHO.rd w cs a)(hb:tyHO.rd w ds a):Gives Tryz.prog 8 #[.agg cs.toArray,.agg ds.toArray] w (.bool true):=by
 obtain⟨A1,n1,k1,A2,n2,k2,A3,n3,k3,A4,n4,k4,A5,n5,k5,A6,n6,k6,A7,n7,k7,A8,n8,k8,rfl,h1⟩:=z2w ha
 obtain⟨eA1,en1,ek1,eA2,en2,ek2,eA3,en3,ek3,eA4,en4,ek4,eA5,en5,ek5,eA6,en6,ek6,eA7,en7,ek7,eA8,en8,ek8,rfl,g1⟩:=z2w hb
 clear ha hb
 obtain⟨a1,a2⟩:=a
 simp only at h1 g1
 show Gives Tryz.prog _ #[.agg #[.slice A1 n1 k1,.slice A2 n2 k2,.slice A3 n3 k3,.int .i64 a1.1.1.1.2.2.2,.slice A4 n4 k4,.slice A5 n5 k5,.slice A6 n6 k6,.int .i64 a1.1.1.2.2.2.2,.slice A7 n7 k7,.slice A8 n8 k8,.int .i64 a1.2.1.2,.int .i64 a1.2.2,.string a2.1,.int .i64 a2.2],.agg #[.slice eA1 en1 ek1,.slice eA2 en2 ek2,.slice eA3 en3 ek3,.int .i64 a1.1.1.1.2.2.2,.slice eA4 en4 ek4,.slice eA5 en5 ek5,.slice eA6 en6 ek6,.int .i64 a1.1.1.2.2.2.2,.slice eA7 en7 ek7,.slice eA8 en8 ek8,.int .i64 a1.2.1.2,.int .i64 a1.2.2,.string a2.1,.int .i64 a2.2]] w _
 have c1:=fun w1 hb=>eqHouse_l a1 _ _ w1 (Ty.below _ h1 hb) (Ty.below _ g1 hb)
 clear h1 g1
 have H:=Hs.start noRow w
 unfold Gives
 go_enter Tryz.func8,Tryz.ntmps8
 go_wp2_with (first|((first|refine zU ?_|(refine zB 2 ?_;intro b2)|(refine zB 3 ?_;intro b3)|(go_at_call 9;refine gvF (c1 _ H.below) H ?_));clear H;intro wn H)|((with_reducible apply st_makerow (E:=86) (s:=3) H);rfl;rfl;decide +kernel;(focus omega);clear H;intro g zs wn hz0 hz1 H;refine zp ?_))
 go_ret
 exact⟨rfl,H.below⟩
end Dz
end Go.Proofs.YtcabgibdkmgdlaaGreat
namespace Go.Proofs.YtcabgibdkmgdlaaGreat
open Go.ChangeShapes Go.WideShapes Go.ChangeAt Go.RowKit Go.Joins Go.Deep M
section
variable {H:Type} {enc:TypeId × Value→H} {W:World} {base b0:Nat} {r:Reach} {d:DataW H} {p:List MemPlace} {v:Value}
theorem z8v(n:Nat)(cs:List Value)(y:DataW H × List MemPlace)(h:DataW.trod enc Tryz.prog W base (fun _=>true) true n 158 cs=some y):
  ∃a:Rg,tyRg.rd W cs a∧z9y a:=by
 obtain⟨xs,m,_,_,hlen,hxl,hg⟩:=DataW.trod_struct Tryz.underlying158 h
 rw[show Tryz.prog.cellsOf 158=3 from by kernel_rfl] at hlen
 have hx3:xs.length=3:=hxl
 match cs,hlen with
 | [c0,c1,c2],_=>
  obtain⟨s0,rfl,h0⟩:=at_str (j:=0) (k:=0) (hg 0 _ rfl) (by omega) rfl
  obtain⟨s1,rfl,h1⟩:=at_str (j:=1) (k:=1) (hg 1 _ rfl) (by omega) rfl
  obtain⟨s2,rfl,h2⟩:=at_str (j:=2) (k:=2) (hg 2 _ rfl) (by omega) rfl
  exact⟨(s0,s1,s2),rfl,h0,h1,h2⟩
theorem z9b(n:Nat)(cs:List Value)(y:DataW H × List MemPlace)(h:DataW.trod enc Tryz.prog W base (fun _=>true) true n 39 cs=some y):
  ∃a:Dk,Dz.tyDk.rd W cs a∧y0b a:=by
 obtain⟨xs,m,_,_,hlen,hxl,hg⟩:=DataW.trod_struct Tryz.underlying39 h
 rw[show Tryz.prog.cellsOf 39=2 from by kernel_rfl] at hlen
 have hx3:xs.length=2:=hxl
 match cs,hlen with
 | [c0,c1],_=>
  obtain⟨y0,hy0⟩:=one_cell (k:=0) (c:=c0) (hg 0 _ rfl) (by kernel_rfl) (by omega) rfl
  obtain⟨s1,rfl,h1⟩:=at_int (j:=1) (k:=1) (hg 1 _ rfl) (by omega) rfl
  obtain⟨l0,h0,k0⟩:=open_sl (E:=86) (T:=tyRg) (ok:=z9y) Tryz.underlying37 (by kernel_rfl) (by decide) z8v hy0
  exact⟨(l0,s1),⟨[c0],[.int .i64 s1],rfl,h0,rfl⟩,k0⟩
theorem z9h(n:Nat)(cs:List Value)(y:DataW H × List MemPlace)(h:DataW.trod enc Tryz.prog W base (fun _=>true) true n 41 cs=some y):
  ∃a:Ho,Dz.tyHo.rd W cs a∧(z7z a ∧ ∀b ∈ a.1.2,bdBo b):=by
 obtain⟨xs,m,_,_,hlen,hxl,hg⟩:=DataW.trod_struct Tryz.underlying41 h
 rw[show Tryz.prog.cellsOf 41=12 from by kernel_rfl] at hlen
 have hx3:xs.length=3:=hxl
 match cs,hlen with
 | [c0,c1,c2,c3,c4,c5,c6,c7,c8,c9,c10,c11],_=>
  obtain⟨st,hs,ks⟩:=at_dec (k:=0) (j:=0) (c:=9) (by kernel_rfl) dec_StY (hg 0 _ rfl) (by omega) rfl
  obtain⟨dk,hd,kd⟩:=at_dec (k:=9) (j:=1) (c:=2) (by kernel_rfl) z9b (hg 1 _ rfl) (by omega) rfl
  obtain⟨s,rfl,_⟩:=at_int (j:=2) (k:=11) (hg 2 _ rfl) (by omega) rfl
  exact⟨(st,dk,s),⟨[c0,c1,c2,c3,c4,c5,c6,c7,c8],[c9,c10,.int .i64 s],rfl,hs,[c9,c10],[.int .i64 s],rfl,hd,rfl⟩,⟨ks.1,kd⟩,ks.2⟩
theorem open_House(hv:Value.okWide Tryz.prog W r b0 41 v)(h:DataW.Trod enc Tryz.prog W base (fun _=>true) true 41 v d p):
  ∃(cs:List Value) (a:Ho),v = .agg cs.toArray∧Dz.tyHo.rd W cs a∧(z7z a ∧ ∀b ∈ a.1.2,bdBo b):=by
 obtain⟨cs,rfl,hsz⟩:=okWide_struct Tryz.underlying41 hv
 obtain⟨m,hm⟩:=h
 obtain⟨c,hc,hk⟩:=z9h _ _ _ hm
 exact⟨cs.toList,c,by simp,hc,hk⟩
end
end Go.Proofs.YtcabgibdkmgdlaaGreat
namespace Go.Proofs.YtcabgibdkmgdlaaGreat
open Go.RowKit M
namespace M
def z0z(a:Ho):Bool:=z0b a.1&&(diskOk a.2.1.1 a.2.1.2&&(decide (a.2.1.1.length=regsOf a.1.1.1)&&(a.2.1.2 == -1&&isIn a.2.2 0 1000000)))
end M
theorem z3q(a:Ho)(cs:List Value)(hok:z7z a)(w:World)(hr:Dz.tyHo.rd w cs a):Gives Tryz.prog 28 #[.agg cs.toArray] w (.bool (z0z a)):=by
 obtain⟨A1,n1,k1,A2,n2,k2,A3,n3,k3,A4,n4,k4,A5,n5,k5,A6,n6,k6,A7,n7,k7,A8,n8,k8,rfl,g1,g2⟩:=Dz.Ho_form hr
 have c1:=fun w1 hb=>z3v a.1 _ hok.1 w1 (Ty.below _ g1 hb)
 obtain⟨_,_,_,_,_,_,_,_,_,_,_,_,_,_,_,_,_,_,_,_,_,es,gy,_⟩:=St_form g1
 injection es with s1 es;injection es with s2 es;injection es with s3 es;injection es with s4 es;injection es with s5 es;injection es with s6 es;injection es with s7 es
 rw[←s1,←s2,←s3,←s5,←s6,←s7] at gy
 clear es s1 s2 s3 s4 s5 s6 s7
 obtain⟨_,_,_,_,_,_,_,_,_,_,_,_,_,_,_,_,_,_,ey,gc,_,_,_⟩:=Yd_form gy
 injection ey with e1 ey;injection ey with e2 ey;injection ey with e3 ey
 rw[←e1,←e2,←e3] at gc
 clear ey e1 e2 e3 gy
 obtain⟨_,_,_,ed,gd⟩:=Dz.Dk_form g2
 injection ed with e1 ed
 rw[←e1] at gd
 clear ed e1
 have gd2:Rd w 3 (.slice A8 n8 k8) a.2.1.1.length (flat encReg a.2.1.1):=sl_rd gd
 have hn8:=(slN gd).1
 have c2:=fun w1 hb=>diskRight_i a.2.1.1 (.slice A8 n8 k8) a.2.1.2 w1 (Rd.below gd2 (Nat.le_refl _) hb)
 have c3:=fun hc w1 hb=>regs_i a.1.1.1 _ hc w1 (Ty.below _ gc hb)
 have c4:=fun w1=>tim_i a.2.2 w1
 obtain⟨z,hz⟩:=nm (z0z a)
 rw[←hz]
 have hcfg:z0b a.1=true→cfgOk a.1.1.1=true:=z0k
 obtain⟨z1,hz1⟩:=nm (z0b a.1)
 obtain⟨z2,hz2⟩:=nm (diskOk a.2.1.1 a.2.1.2)
 obtain⟨z5,hz5⟩:=nm (isIn a.2.2 0 1000000)
 have HZ:Hid (z=(z1&&(z2&&(decide (n8=regsOf a.1.1.1)&&(a.2.1.2 == -1&&z5))))):=hY (by rw[hz,hz1,hz2,hz5,hn8];rfl)
 rw[←hz1] at c1 hcfg
 rw[←hz2] at c2
 rw[←hz5] at c4
 obtain⟨⟨⟨c,nds,tks,uss,now⟩,m⟩,⟨rs,pw⟩,sq⟩:=a
 simp only at c1 c2 c3 c4 hcfg HZ
 replace c1:∀w1,Below w.heap.size w w1→Gives Tryz.prog 67 #[.agg #[.slice A1 n1 k1,.slice A2 n2 k2,.slice A3 n3 k3,.int .i64 c.2.2.2,.slice A4 n4 k4,.slice A5 n5 k5,.slice A6 n6 k6,.int .i64 now,.slice A7 n7 k7]] w1 (.bool z1):=c1
 replace c3:cfgOk c=true → ∀w1,Below w.heap.size w w1→Gives Tryz.prog 69 #[.agg #[.slice A1 n1 k1,.slice A2 n2 k2,.slice A3 n3 k3,.int .i64 c.2.2.2]] w1 (.int .i64 (regsOf c)):=c3
 clear hr g1 g2 gc gd gd2 hz hz1 hz2 hz5 hok hn8
 generalize regsOf c=rg at *
 generalize hf0:c.2.2.2=hf at *
 clear hf0
 have H:=Hs.start noRow w
 unfold Gives
 show Calls _ _ #[.agg #[.slice A1 n1 k1,.slice A2 n2 k2,.slice A3 n3 k3,.int .i64 hf,.slice A4 n4 k4,.slice A5 n5 k5,.slice A6 n6 k6,.int .i64 now,.slice A7 n7 k7,.slice A8 n8 k8,.int .i64 pw,.int .i64 sq]] _ _
 obtain⟨zl,hzl⟩:=nm2 (((n8:Int)==(rg:Int)))
 obtain⟨zp,hzp⟩:=nm2 ((pw == -1))
 have HZ2:Hid (z=(z1&&(z2&&(zl&&(zp&&z5))))):=hY (by
  rw[HZ.out,←hzl,←hzp]
  congr 3
  by_cases h:n8=rg
  ·rw[decide_eq_true h,h];simp
  ·rw[decide_eq_false h,beq_eq_false_iff_ne.2 (by omega)])
 have c3x:=fun h=>c3 (hcfg h)
 clear HZ hcfg c3
 have hd:(z1=false∨(z1=true∧z2=false)∨(z1=true∧z2=true∧zl=false)∨(z1=true∧z2=true∧zl=true∧zp=false))∨(z1=true∧z2=true∧zl=true∧zp=true):=by cases z1 <;> cases z2 <;> cases zl <;> cases zp <;> simp
 rcases hd with (rfl|⟨rfl,rfl⟩|⟨rfl,rfl,rfl⟩|⟨rfl,rfl,rfl,rfl⟩)|⟨rfl,rfl,rfl,rfl⟩
 all_goals(
  try have c3':=c3x rfl
  clear c3x
  go_enter Tryz.func28,Tryz.ntmps28
  go_wp2_with (first|(refine zB 1 ?_;clear H;intro b1 wn H)|(refine zHq 1 ?_;(iterate 2 (all_goals(refine zhFV ?_)));all_goals refine zHk (fun w1 H1=>c1 _ H1.below) ?_;(iterate 3 (all_goals((first|(refine zhGT ?_;refine zhFV ?_)|refine zhST ?_|refine zhV ?_))));all_goals(first|(refine zhGT ?_;refine zHk (fun w1 H1=>c2 _ H1.below) ?_)|refine zhST ?_);(iterate 10 (all_goals((first|(refine zhGT ?_;refine zhFV ?_)|refine zhST ?_|refine zhV ?_))));all_goals(first|(refine zhGT ?_;refine zHk (fun w1 H1=>c3' _ H1.below) ?_)|refine zhST ?_);(iterate 11 (all_goals((first|(refine zhGT ?_;refine zhFV ?_)|refine zhST ?_|refine zhV ?_))));all_goals(first|(refine zhGT ?_;refine zHk (fun w1 H1=>c4 _) ?_)|refine zhST ?_);(iterate 2 (all_goals(refine zhV ?_)));all_goals(refine zHz ?_;clear H;intro wn H)))
  go_ret
  exact⟨by rw[HZ2.out] <;> rfl,H.below⟩)
theorem z3t(a:Ho)(cs:List Value)(hok:z7z a)(w:World)(hr:Dz.tyHo.rd w cs a):Gives Tryz.prog 15 #[.agg cs.toArray] w (.bool (z0z a)):=by
 obtain⟨A1,n1,k1,A2,n2,k2,A3,n3,k3,A4,n4,k4,A5,n5,k5,A6,n6,k6,A7,n7,k7,A8,n8,k8,rfl,g1,g2⟩:=Dz.Ho_form hr
 have c1:=fun w1 hb=>z1q a.1 _ hok.1 w1 (Ty.below _ g1 hb)
 obtain⟨_,_,_,_,_,_,_,_,_,_,_,_,_,_,_,_,_,_,_,_,_,es,gy,_⟩:=St_form g1
 injection es with s1 es;injection es with s2 es;injection es with s3 es;injection es with s4 es;injection es with s5 es;injection es with s6 es;injection es with s7 es
 rw[←s1,←s2,←s3,←s5,←s6,←s7] at gy
 clear es s1 s2 s3 s4 s5 s6 s7
 obtain⟨_,_,_,_,_,_,_,_,_,_,_,_,_,_,_,_,_,_,ey,gc,_,_,_⟩:=Yd_form gy
 injection ey with e1 ey;injection ey with e2 ey;injection ey with e3 ey
 rw[←e1,←e2,←e3] at gc
 clear ey e1 e2 e3 gy
 obtain⟨_,_,_,ed,gd⟩:=Dz.Dk_form g2
 injection ed with e1 ed
 rw[←e1] at gd
 clear ed e1
 have gd2:Rd w 3 (.slice A8 n8 k8) a.2.1.1.length (flat encReg a.2.1.1):=sl_rd gd
 have hn8:=(slN gd).1
 have c2:=fun w1 hb=>diskRight_s a.2.1.1 (.slice A8 n8 k8) a.2.1.2 w1 (Rd.below gd2 (Nat.le_refl _) hb)
 have c3:=fun hc w1 hb=>regs_s a.1.1.1 _ hc w1 (Ty.below _ gc hb)
 have c4:=fun w1=>tim_s a.2.2 w1
 obtain⟨z,hz⟩:=nm (z0z a)
 rw[←hz]
 have hcfg:z0b a.1=true→cfgOk a.1.1.1=true:=z0k
 obtain⟨z1,hz1⟩:=nm (z0b a.1)
 obtain⟨z2,hz2⟩:=nm (diskOk a.2.1.1 a.2.1.2)
 obtain⟨z5,hz5⟩:=nm (isIn a.2.2 0 1000000)
 have HZ:Hid (z=(z1&&(z2&&(decide (n8=regsOf a.1.1.1)&&(a.2.1.2 == -1&&z5))))):=hY (by rw[hz,hz1,hz2,hz5,hn8];rfl)
 rw[←hz1] at c1 hcfg
 rw[←hz2] at c2
 rw[←hz5] at c4
 obtain⟨⟨⟨c,nds,tks,uss,now⟩,m⟩,⟨rs,pw⟩,sq⟩:=a
 simp only at c1 c2 c3 c4 hcfg HZ
 replace c1:∀w1,Below w.heap.size w w1→Gives Tryz.prog 46 #[.agg #[.slice A1 n1 k1,.slice A2 n2 k2,.slice A3 n3 k3,.int .i64 c.2.2.2,.slice A4 n4 k4,.slice A5 n5 k5,.slice A6 n6 k6,.int .i64 now,.slice A7 n7 k7]] w1 (.bool z1):=c1
 replace c3:cfgOk c=true → ∀w1,Below w.heap.size w w1→Gives Tryz.prog 48 #[.agg #[.slice A1 n1 k1,.slice A2 n2 k2,.slice A3 n3 k3,.int .i64 c.2.2.2]] w1 (.int .i64 (regsOf c)):=c3
 clear hr g1 g2 gc gd gd2 hz hz1 hz2 hz5 hok hn8
 generalize regsOf c=rg at *
 generalize hf0:c.2.2.2=hf at *
 clear hf0
 have H:=Hs.start noRow w
 unfold Gives
 show Calls _ _ #[.agg #[.slice A1 n1 k1,.slice A2 n2 k2,.slice A3 n3 k3,.int .i64 hf,.slice A4 n4 k4,.slice A5 n5 k5,.slice A6 n6 k6,.int .i64 now,.slice A7 n7 k7,.slice A8 n8 k8,.int .i64 pw,.int .i64 sq]] _ _
 obtain⟨zl,hzl⟩:=nm2 (((n8:Int)==(rg:Int)))
 obtain⟨zp,hzp⟩:=nm2 ((pw == -1))
 have HZ2:Hid (z=(z1&&(z2&&(zl&&(zp&&z5))))):=hY (by
  rw[HZ.out,←hzl,←hzp]
  congr 3
  by_cases h:n8=rg
  ·rw[decide_eq_true h,h];simp
  ·rw[decide_eq_false h,beq_eq_false_iff_ne.2 (by omega)])
 have c3x:=fun h=>c3 (hcfg h)
 clear HZ hcfg c3
 have hd:(z1=false∨(z1=true∧z2=false)∨(z1=true∧z2=true∧zl=false)∨(z1=true∧z2=true∧zl=true∧zp=false))∨(z1=true∧z2=true∧zl=true∧zp=true):=by cases z1 <;> cases z2 <;> cases zl <;> cases zp <;> simp
 rcases hd with (rfl|⟨rfl,rfl⟩|⟨rfl,rfl,rfl⟩|⟨rfl,rfl,rfl,rfl⟩)|⟨rfl,rfl,rfl,rfl⟩
 all_goals(
  try have c3':=c3x rfl
  clear c3x
  go_enter Tryz.func15,Tryz.ntmps15
  go_wp2_with (first|(refine zB 1 ?_;clear H;intro b1 wn H)|(refine zHq 1 ?_;(iterate 2 (all_goals(refine zhFV ?_)));all_goals refine zHk (fun w1 H1=>c1 _ H1.below) ?_;(iterate 3 (all_goals((first|(refine zhGT ?_;refine zhFV ?_)|refine zhST ?_|refine zhV ?_))));all_goals(first|(refine zhGT ?_;refine zHk (fun w1 H1=>c2 _ H1.below) ?_)|refine zhST ?_);(iterate 10 (all_goals((first|(refine zhGT ?_;refine zhFV ?_)|refine zhST ?_|refine zhV ?_))));all_goals(first|(refine zhGT ?_;refine zHk (fun w1 H1=>c3' _ H1.below) ?_)|refine zhST ?_);(iterate 11 (all_goals((first|(refine zhGT ?_;refine zhFV ?_)|refine zhST ?_|refine zhV ?_))));all_goals(first|(refine zhGT ?_;refine zHk (fun w1 H1=>c4 _) ?_)|refine zhST ?_);(iterate 2 (all_goals(refine zhV ?_)));all_goals(refine zHz ?_;clear H;intro wn H)))
  go_ret
  exact⟨by rw[HZ2.out] <;> rfl,H.below⟩)
end Go.Proofs.YtcabgibdkmgdlaaGreat
namespace Go.Proofs.YtcabgibdkmgdlaaGreat
open Go.RowKit M
theorem z9t{w:World}{g:Nat}{t E:TypeId}{x y:Int}(h:Blk w g t #[.int .i64 x,.int .i64 y]):(Ty.sl E tyNum).rd w [.slice (some ⟨g,0,none⟩) 2 2] [x,y]:=by
 refine⟨_,[.int .i64 x,.int .i64 y],rfl,⟨rfl,some ⟨g,0,none⟩,2,rfl,Nat.le_refl _,by unfold maxLen;omega,fun _=>⟨g,0,rfl,At.blk h fun j u hu=>?_⟩⟩,?_⟩
 ·rw[Nat.zero_add,←hu]
  match j with
  | 0=>rfl
  | 1=>rfl
  | j+2=>rfl
 ·exact .cons (cs:=[.int .i64 x]) rfl (.cons (cs:=[.int .i64 y]) rfl .nil)
theorem z1d(v:Value)(l:List Int)(hl:l.length≤100)(hb:∀x ∈ l,bd x)(w:World)(hr:(Ty.sl 2 tyNum).rd w [v] l):Gives Tryz.prog 84 #[v] w (.string (bs (l.map putNum).flatten)):=by
 obtain⟨A,c,rfl,hlc,hcm⟩:=sl_form hr
 have HR:=hY hr
 have HB:=hY hb
 obtain⟨n,hn⟩:=nm l.length
 rw[←hn] at HR hl ⊢
 have HN:=hY hn
 obtain⟨f,hf⟩:∃f:Nat→Bs,f=fun i=>((l[i]?).map putNum).getD []:=⟨_,rfl⟩
 have HF:=hY hf
 have hfl:∀i,(f i).length≤11:=fun i=>by
  rw[hf]
  simp only
  cases l[i]? with
  | none=>simp
  | some x=>exact(putNum_length x).2
 have hfin:(l.map putNum).flatten=catTo f n:=by
  unfold catTo
  congr 1
  apply List.ext_getElem?
  intro i
  rw[List.getElem?_map,List.getElem?_map,hf]
  by_cases hi:i<n
  ·rw[List.getElem?_range hi,List.getElem?_eq_getElem (show i<l.length by omega)]
   simp[List.getElem?_eq_getElem (show i<l.length by omega)]
  ·rw[List.getElem?_eq_none (by omega),List.getElem?_eq_none (by simp;omega)]
   rfl
 have HL:=hY hfl
 rw[hfin]
 obtain⟨tz,htz⟩:=nm (bs (catTo f n))
 rw[←htz]
 have HZ:=hY htz
 clear hr hn hb hlc hcm hf hfl hfin htz
 have H:=Hs.start noRow w
 unfold Gives
 go_enter Tryz.func84,Tryz.ntmps84
 go_wp2_with (fail)
 go_loopg [3,8] n (fun m tv iv wr=>∃(i:Nat) (t:ByteArray),i+m=n∧iv = .int .i64 i∧tv = .string t∧Hid (t=bs (catTo f i))∧Hs noRow w [] wr)
 case atStart=>exact⟨0,_,by omega,rfl,rfl,hY rfl,H⟩
 case round=>
  clear H
  obtain⟨i,t,hi,rfl,rfl,HT,H⟩:=hrel
  by_cases hlt:i<n
  ·obtain ⟨x,b,off,cs,hx,rfl,hv2,hcs,hA⟩:=slE HR HN hlt
   obtain rfl:cs=encNum x:=hcs
   have h0:w.cell? ⟨b,off+i,none⟩=some (.int .i64 x):=by have h:=hA.head (u := .int .i64 x) rfl;rw[show i*tyNum.s=i from Nat.mul_one i] at h;exact h
   have c1:=fun w1=>putNum_i x (HB.out x (List.mem_of_getElem? hx)) w1
   have hfi:f i=putNum x:=by rw[HF.out];simp only[hx];rfl
   obtain⟨q,hq⟩:=nm (bs (putNum x))
   rw[←hq] at c1
   have hqs:q.size≤11:=by rw[hq];exact(putNum_length x).2
   have hts:t.size≤1100:=by rw[HT.out,zsize_bs];have:=catTo_len HL.out i;omega
   have HT2:Hid (t++q=bs (catTo f (i+1))):=hY (by rw[HT.out,hq,bs_append,catTo_succ,hfi])
   have hlt1:(i:Int)<n:=by omega
   clear hx hv2 hA hfi hq
   go_wp2_with ((first|refine zL ?_|(go_at_call 83;refine gvF (c1 _) H ?_));clear H;intro wn H)
   go_roundg (n-(i+1))
   case measure=>omega
   case rel=>exact⟨i+1,_,by omega,by go_num,rfl,HT2,H⟩
  ·obtain rfl:i=n:=by omega
   have hlt1:=nlt i
   go_wp2_with (fail)
   go_ret
   exact⟨by rw[HZ.out,HT.out];rfl,H.below⟩
theorem z4f(x y:Int)(q:ByteArray)(hq:q=bs (putNum x++putNum y))(hx:bd x)(hy:bd y)(g t:Nat)(w:World)(hb:Blk w g t #[.int .i64 x,.int .i64 y]):Gives Tryz.prog 84 #[.slice (some ⟨g,0,none⟩) 2 2] w (.string q):=by
 have h:=z1d _ [x,y] (by simp) (by intro z hz;simp only[List.mem_cons,List.not_mem_nil,or_false] at hz;rcases hz with rfl|rfl <;> assumption) w (z9t hb)
 rw[hq]
 simpa using h
