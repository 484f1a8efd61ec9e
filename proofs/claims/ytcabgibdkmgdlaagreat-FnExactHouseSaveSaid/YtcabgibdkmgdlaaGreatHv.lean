import Derived.Test.YtcabgibdkmgdlaaGreatJ1
import Derived.Test.YtcabgibdkmgdlaaGreatJ2
set_option linter.unusedSimpArgs false
set_option linter.unusedVariables false
set_option maxRecDepth 100000
set_option maxHeartbeats 4000000
namespace Go.Proofs.YtcabgibdkmgdlaaGreat
open Go.RowKit M
namespace M
abbrev Tf:=Lab × Int × ByteArray × Int × Int × Int × Lab × Int × Int × Int × Int
def encTf(a:Tf):List Value:=[.int .i64 a.1.1,.int .i64 a.1.2,.int .i64 a.2.1,.string a.2.2.1,.int .i64 a.2.2.2.1,.int .i64 a.2.2.2.2.1,.int .i64 a.2.2.2.2.2.1,.int .i64 a.2.2.2.2.2.2.1.1,.int .i64 a.2.2.2.2.2.2.1.2,.int .i64 a.2.2.2.2.2.2.2.1,.int .i64 a.2.2.2.2.2.2.2.2.1,.int .i64 a.2.2.2.2.2.2.2.2.2.1,.int .i64 a.2.2.2.2.2.2.2.2.2.2]
def tyTf:Ty Tf:=Ty.flat 13 encTf (fun _=>rfl) (fun a u hu=>by simp only[encTf,List.mem_cons,List.not_mem_nil,or_false] at hu;rcases hu with rfl|rfl|rfl|rfl|rfl|rfl|rfl|rfl|rfl|rfl|rfl|rfl|rfl <;> rfl)
def mkTf:Mark Tf:=⟨fun _=>13,fun k _=>(((k:Int),((k+1:Nat):Int)),((k+2:Nat):Int),bs (mtext (k+3)),((k+4:Nat):Int),((k+5:Nat):Int),((k+6:Nat):Int),(((k+7:Nat):Int),((k+8:Nat):Int)),((k+9:Nat):Int),((k+10:Nat):Int),((k+11:Nat):Int),((k+12:Nat):Int))⟩
def ssTf(a:Tf):Nat:=a.2.2.1.size
def okTf(a:Tf):Prop:=a.2.2.1.size≤9223372036854775807
abbrev Nd:=Int × List Sp
def ssNd(a:Nd):Nat:=a.2.length
def mzNd:Mark Nd:=⟨ssNd,fun _ a=>a⟩
def szNdl(l:List Nd):Nat:=l.length+mzNd.cntl l
def mkNd:Mark Nd:=mkNum.pair mkSp.list
abbrev Ta:=Tf × List Int
def ssTa(a:Ta):Nat:=ssTf a.1+a.2.length
def mzTa:Mark Ta:=⟨ssTa,fun _ a=>a⟩
def szTal(l:List Ta):Nat:=l.length+mzTa.cntl l
def mkTa:Mark Ta:=mkTf.pair mkNum.list
def okTa(a:Ta):Prop:=okTf a.1
end M
def tyNd:Ty Nd:=Ty.pair tyNum (Ty.sl 174 tySp)
theorem Nd_form{w:World}{cs:List Value}{a:Nd}(h:tyNd.rd w cs a):∃A n k,cs = [.int .i64 a.1,.slice A n k]∧(Ty.sl 174 tySp).rd w [.slice A n k] a.2:=by
 obtain⟨x1,y1,rfl,h1,h2⟩:=h
 obtain rfl:x1=encNum a.1:=h1
 obtain⟨v,hv⟩:∃v,y1 = [v]:=by obtain⟨v,_,rfl,_⟩:=h2;exact⟨v,rfl⟩
 subst hv
 obtain⟨A,k,rfl,_,_⟩:=sl_form h2
 exact⟨A,_,k,rfl,h2⟩
theorem toNode_l(a:Nd)(cs:List Value)(hl:a.2.length≤1048576)(w:World)(hr:tyNd.rd w cs a):Rets Tryz.prog [] 187 #[.agg cs.toArray] w (tAgg tyNd a):=by
 obtain⟨A,n,k,rfl,h1⟩:=Nd_form hr
 clear hr
 obtain⟨a1,l⟩:=a
 simp only at hl h1
 have c1:=fun w1 hb=>toSpanS_l _ l hl w1 (Ty.below _ h1 hb)
 clear hl h1
 have H:=Hs.start noRow w
 refine Rets.of ?_
 go_enter Tryz.func187,Tryz.ntmps187
 go_wp2_with ((first|refine zU ?_|(refine zB 1 ?_;intro b1)|(refine zA 2 ?_;intro b2)|(refine zA 3 ?_;intro b3));clear H;intro wn H)
 refine(Rets.use (c1 _ H.below)).mono ?_;rintro e wn ⟨_,_,rfl,⟨N1,hN1,rfl,o1⟩,hkk⟩;refine zK ?_;clear H hkk;intro H
 have hA1:=own_single hN1 o1 rfl
 clear hN1 o1
 obtain⟨A1,k1,rfl,_,_⟩:=sl_form (own_rd H .here hA1)
 have HA1:=hY hA1
 clear c1 hA1
 go_wp2_with (refine zU ?_;clear H;intro wn H)
 refine bpF ?_
 have H2:Hs noRow w [Hl.all N1] _:=H.sel sF
 exact Hs.retd H2 (List.Sublist.refl _) ⟨[_,_],_,rfl,⟨[_],[_],[],_,rfl,rfl,⟨rfl,rfl⟩,HA1.out⟩,rfl⟩
theorem eqNode_l(a:Nd)(cs ds:List Value)(w:World)(ha:tyNd.rd w cs a)(hb:tyNd.rd w ds a):Gives Tryz.prog 224 #[.agg cs.toArray,.agg ds.toArray] w (.bool true):=by
 obtain⟨A,n,k,rfl,h1⟩:=Nd_form ha
 obtain⟨B,m,j,rfl,h2⟩:=Nd_form hb
 clear ha hb
 obtain⟨a1,l⟩:=a
 simp only at h1 h2
 have c1:=fun w1 hb=>eqSpanS_l _ _ l w1 (Ty.below _ h1 hb) (Ty.below _ h2 hb)
 clear h1 h2
 have H:=Hs.start noRow w
 unfold Gives
 go_enter Tryz.func224,Tryz.ntmps224
 go_wp2_with ((first|refine zL ?_|(refine zB 2 ?_;intro b2)|(refine zB 3 ?_;intro b3)|(go_at_call 308;refine gvF (c1 _ H.below) H ?_));clear H;intro wn H)
 go_ret
 exact⟨rfl,H.below⟩
theorem szNode_l(a:Nd)(cs:List Value)(k:Int)(hk:0≤k∧k≤1048576)(w:World)(ha:tyNd.rd w cs a):Gives Tryz.prog 167 #[.agg cs.toArray,.int .i64 k] w (.int .i64 (szC k (ssNd a))):=by
 obtain⟨A,n,j,rfl,h1⟩:=Nd_form ha
 clear ha
 unfold ssNd
 obtain⟨a1,l⟩:=a
 simp only at h1 ⊢
 have c2:=fun k hk w1 hb=>szSpanS_l _ l k hk w1 (Ty.below _ h1 hb)
 clear h1
 have H:=Hs.start noRow w
 unfold Gives
 generalize l.length=m at *
 have c3:=c2 k hk
 clear c2
 by_cases hl2:k-m<0
 ·rw[szC_neg hl2] at c3 ⊢
  go_enter Tryz.func167,Tryz.ntmps167
  go_wp2_with ((first|refine zL ?_|(refine zB 2 ?_;intro b2)|(go_at_call 240;refine gvF (c3 _ H.below) H ?_));clear H;intro wn H)
  go_ret
  exact⟨rfl,H.below⟩
 rw[szC_pos hl2] at c3 ⊢
 go_enter Tryz.func167,Tryz.ntmps167
 go_wp2_with ((first|refine zL ?_|(refine zB 2 ?_;intro b2)|(go_at_call 240;refine gvF (c3 _ H.below) H ?_));clear H;intro wn H)
 go_ret
 exact⟨rfl,H.below⟩
theorem toNodeS_l(v:Value)(l:List Nd)(hl:szNdl l≤1048576)(w:World)(hr:(Ty.sl 0 tyNd).rd w [v] l):Rets Tryz.prog [] 117 #[v] w (tOwn (Ty.sl 172 tyNd) l):=by
 obtain⟨A,c,rfl,hlc,hcm⟩:=sl_form hr
 have HR:=hY hr
 have HL:=hY hl
 have H:=Hs.start noRow w
 obtain⟨n,hn⟩:=nm l.length
 have hnl:n≤1048576:=by unfold szNdl at hl;omega
 rw[←hn] at HR ⊢
 have HN:=hY hn
 clear hr hn hl hcm hlc
 refine Rets.of ?_
 go_enter Tryz.func117,Tryz.ntmps117
 go_wp2_with ((with_reducible apply st_makerow (E:=172) (s:=2) H);rfl;rfl;decide +kernel;(focus omega);clear H;intro g zs wn hz0 hz1 H;refine zp ?_)
 go_loopg [4] n (fun m iv wr=>∃(i:Nat) (pre zs:List Value) (N:List Hl),i+m=n∧iv = .int .i64 i∧Hid (OwnL tyNd pre (l.take i) N∧zs.length=(n-i)*2)∧Hs noRow w [Hl.row 172 2 (.slice (some ⟨g,0,none⟩) n n) n (pre++zs),Hl.all N] wr)
 case atStart=>exact⟨0,[],zs,[],by omega,rfl,hY ⟨.nil,hz0⟩,by rw[List.nil_append];exact H.allNil.sel sF⟩
 case round=>
  clear H
  obtain⟨i,pre,zs,N,hi,rfl,HO,H⟩:=hrel
  by_cases hlt:i<n
  ·obtain ⟨x,b,off,cs,hx,rfl,hv2,hcs,hA⟩:=slE HR HN hlt
   have hxl:x.2.length≤1048576:=by have h1:=mzNd.cnt_at_le hx;have h2:=HL.out;unfold szNdl at h2;have h3:mzNd.cnt x=ssNd x:=rfl;unfold ssNd at h3;omega
   have hC:=fun w1 hb=>toNode_l x _ hxl w1 (Ty.below _ hcs hb)
   obtain⟨E1,e2,e3,hu,_⟩:=Nd_form hcs
   subst hu
   have hfit:i*2+2≤(pre++zs).length:=by
    have h1:=HO.out.1.len
    have h2:=HO.out.2
    rw[List.length_append,h1,h2,List.length_take,Nat.min_eq_left (by rw[←HN.out];omega)]
    show i*2+2≤i*2+(n-i)*2
    omega
   have hlt1:(i:Int)<n:=by omega
   clear hv2 hcs
   go_wp2_with (refine zP ?_;clear H;intro wn H)
   refine(Rets.use (hC _ H.below)).mono ?_;rintro e wn ⟨_,_,rfl,⟨c4,N4,rfl,hN2,rfl⟩,hkk⟩;refine zK ?_;clear H hkk;intro H
   obtain⟨A1,d1,d2,hc4,_⟩:=Nd_form (own_rd H .here hN2)
   subst hc4
   obtain⟨p',z',hp,hsp,hz'⟩:=own_step (m:=n-(i+1)) HO.out.1 hx (by rw[HO.out.2];show (n-i)*2=(n-(i+1)+1)*2;congr 1;omega) hN2
   have HS:Hid (spl (pre++zs) (i*2) _=p'++z'):=hY hsp
   have HO2:=hY (And.intro hp hz')
   clear hsp hp hz' hx HO hN2
   go_wp2_with (refine zR ?_;clear H;intro wn H)
   go_roundg (n-(i+1))
   case measure=>omega
   case rel=>exact⟨i+1,p',z',_,by omega,by go_num,HO2,by rw[←HS.out];exact(Hs.join (H.sel (M:=[Hl.all N,Hl.all N4,Hl.row 172 2 (.slice (some ⟨g,0,none⟩) n n) n _]) sF)).reperm (List.Perm.swap ..)⟩
  ·obtain rfl:i=n:=by omega
   have hlt1:=nlt i
   go_wp2_with (fail)
   go_ret
   exact ret_sl H HO.out.1 ((tkl HN)) (by rw[HO.out.2,Nat.sub_self,Nat.zero_mul]) HN.out
theorem eqNodeS_l(va vb:Value)(l:List Nd)(w:World)(ha:(Ty.sl 172 tyNd).rd w [va] l)(hb:(Ty.sl 172 tyNd).rd w [vb] l):Gives Tryz.prog 150 #[va,vb] w (.bool true):=by
 obtain⟨A,c,rfl,hlc,hcm⟩:=sl_form ha
 obtain⟨B,d,rfl,_,_⟩:=sl_form hb
 unfold maxLen at *
 have HA:=hY ha
 have HB:=hY hb
 have H:=Hs.start noRow w
 obtain⟨n,hn⟩:=nm l.length
 have hnl:n≤9223372036854775807:=by omega
 rw[←hn] at HA HB ⊢
 have HN:=hY hn
 clear ha hb hn hcm hlc
 unfold Gives
 go_enter Tryz.func150,Tryz.ntmps150
 go_wp2_with (fail)
 go_loopg [5] n (fun m iv wr=>∃(i:Nat),i+m=n∧iv = .int .i64 i∧Hs noRow w [] wr)
 case atStart=>exact⟨0,by omega,rfl,H⟩
 case round=>
  clear H
  obtain⟨i,hi,rfl,H⟩:=hrel
  by_cases hlt:i<n
  ·obtain ⟨x,hx⟩:=atE HN hlt
   have hs:=sl_at (by have:=HA.out;rw[HN.out] at this;exact this) hx
   have hs2:=sl_at (by have:=HB.out;rw[HN.out] at this;exact this) hx
   rw[←HN.out] at hs hs2
   obtain⟨b,off,c',cs,hv,hcs,hA⟩:=hs
   injection hv with hv1 hv2 hv3
   subst hv1 hv3
   obtain⟨b2,off2,c2',cs2,hw,hcs2,hB⟩:=hs2
   injection hw with hw1 hw2 hw3
   subst hw1 hw3
   have c1:=fun w1 hb=>eqNode_l x _ _ w1 (Ty.below _ hcs hb) (Ty.below _ hcs2 hb)
   obtain⟨r1,r2,r3,hu,_⟩:=Nd_form hcs
   obtain⟨y1,y2,y3,hu2,_⟩:=Nd_form hcs2
   subst hu hu2
   have hlt1:(i:Int)<n:=by omega
   clear hx hv2 hw2 hcs hcs2
   go_wp2_with (refine zHq 6 ?_;(iterate 8 (all_goals(refine zhAV ?_)));all_goals refine zHk (fun w1 H1=>c1 _ H1.below) ?_;all_goals refine zhV ?_;all_goals(refine zHz ?_;clear H;intro wn H))
   go_roundg (n-(i+1))
   case measure=>omega
   case rel=>exact⟨i+1,by omega,by go_num,H⟩
  ·obtain rfl:i=n:=by omega
   have hlt1:=nlt i
   go_wp2_with (fail)
   go_ret
   exact⟨rfl,H.below⟩
theorem szNodeS_l(v:Value)(l:List Nd)(k:Int)(hk:0≤k∧k≤1048576)(w:World)(hr:(Ty.sl 0 tyNd).rd w [v] l):Gives Tryz.prog 96 #[v,.int .i64 k] w (.int .i64 (szC k (szNdl l))):=by
 obtain⟨A,c,rfl,hlc,hcm⟩:=sl_form hr
 unfold maxLen at *
 have HR:=hY hr
 have H:=Hs.start noRow w
 obtain⟨n,hn⟩:=nm l.length
 obtain⟨t,ht⟩:=nm (mzNd.cntl l)
 rw[show szNdl l=n+t by rw[hn,ht];rfl]
 rw[←hn] at HR ⊢
 have HN:=hY hn
 have HT:=hY ht
 have hnl:n≤9223372036854775807:=by omega
 clear hr hn ht hcm hlc
 unfold Gives
 by_cases h:k-n<0
 ·rw[szC_neg (by omega)]
  go_enter Tryz.func96,Tryz.ntmps96
  go_wp2_with (fail)
  go_ret
  exact⟨rfl,H.below⟩
 obtain⟨z,hz⟩:=nm (szC k (n+t:Nat))
 rw[←hz]
 have HZ:=hY hz
 clear hz
 go_enter Tryz.func96,Tryz.ntmps96
 go_wp2_with (fail)
 go_loopg [1,5] n (fun m kv iv wr=>∃(i s:Nat),i+m=n∧iv = .int .i64 i∧kv = .int .i64 (k-n-s)∧0≤k-n-s∧Hid (s=mzNd.cntl (l.take i))∧Hs noRow w [] wr)
 case atStart=>exact⟨0,0,by omega,rfl,by go_num,by omega,hY rfl,H⟩
 case round=>
  clear H
  obtain⟨i,s,hi,rfl,rfl,hs0,HI,H⟩:=hrel
  by_cases hlt:i<n
  ·obtain ⟨x,b,off,cs,hx,rfl,hv2,hcs,hA⟩:=slE HR HN hlt
   have c1:=fun w1 hb=>szNode_l x _ (k-n-s) ⟨hs0,by omega⟩ w1 (Ty.below _ hcs hb)
   have hle:=mzNd.cnt_at_le hx
   have hxs:mzNd.cnt x=(ssNd x):=rfl
   rw[←HI.out,←HT.out,hxs] at hle
   have HI2:Hid (s+(ssNd x)=mzNd.cntl (l.take (i+1))):=hY (by rw[mzNd.cntl_step hx,←HI.out];rfl)
   have hlt1:(i:Int)<n:=by omega
   obtain⟨r1,r2,r3,hu,_⟩:=Nd_form hcs
   subst hu
   clear hx hv2 hcs hxs
   generalize (ssNd x)=xn at *
   by_cases hng:k-n-s-xn<0
   ·rw[szC_neg hng] at c1
    have HZ2:Hid (z = -1):=hY (by rw[HZ.out,szC_neg (by omega)])
    go_wp2_with ((first|refine zP ?_|(go_at_call 167;refine gvF (c1 _ H.below) H ?_));clear H;intro wn H)
    go_ret
    exact⟨by rw[HZ2.out];rfl,H.below⟩
   ·rw[szC_pos hng] at c1
    go_wp2_with ((first|refine zP ?_|(go_at_call 167;refine gvF (c1 _ H.below) H ?_));clear H;intro wn H)
    go_roundg (n-(i+1))
    case measure=>omega
    case rel=>exact⟨i+1,s+xn,by omega,by go_num,by go_num,by omega,HI2,H⟩
  ·obtain rfl:i=n:=by omega
   have hlt1:=nlt i
   have hst:s=t:=by rw[HI.out,HT.out,(tkl HN)]
   subst hst
   have HZ2:Hid (z=k-i-s):=hY (by rw[HZ.out,szC_pos (by omega)];omega)
   go_wp2_with (fail)
   go_ret
   exact⟨by rw[HZ2.out];rfl,H.below⟩
def tyTa:Ty Ta:=Ty.pair tyTf (Ty.sl 2 tyNum)
theorem Ta_form{w:World}{cs:List Value}{a:Ta}(h:tyTa.rd w cs a):∃A n k,cs = [.int .i64 a.1.1.1,.int .i64 a.1.1.2,.int .i64 a.1.2.1,.string a.1.2.2.1,.int .i64 a.1.2.2.2.1,.int .i64 a.1.2.2.2.2.1,.int .i64 a.1.2.2.2.2.2.1,.int .i64 a.1.2.2.2.2.2.2.1.1,.int .i64 a.1.2.2.2.2.2.2.1.2,.int .i64 a.1.2.2.2.2.2.2.2.1,.int .i64 a.1.2.2.2.2.2.2.2.2.1,.int .i64 a.1.2.2.2.2.2.2.2.2.2.1,.int .i64 a.1.2.2.2.2.2.2.2.2.2.2,.slice A n k]∧(Ty.sl 2 tyNum).rd w [.slice A n k] a.2:=by
 obtain⟨x1,y1,rfl,h1,h2⟩:=h
 obtain rfl:x1=encTf a.1:=h1
 obtain⟨v,hv⟩:∃v,y1 = [v]:=by obtain⟨v,_,rfl,_⟩:=h2;exact⟨v,rfl⟩
 subst hv
 obtain⟨A,k,rfl,_,_⟩:=sl_form h2
 exact⟨A,_,k,rfl,h2⟩
theorem toTask_l(a:Ta)(cs:List Value)(hl:a.2.length≤1048576)(w:World)(hr:tyTa.rd w cs a):Rets Tryz.prog [] 188 #[.agg cs.toArray] w (tAgg tyTa a):=by
 obtain⟨A,n,k,rfl,h1⟩:=Ta_form hr
 clear hr
 obtain⟨⟨⟨a1,a2⟩,a3,a4,a5,a6,a7,⟨a8,a9⟩,a10,a11,a12,a13⟩,l⟩:=a
 simp only at hl h1
 have c1:=fun w1 hb=>toInt64S_l _ l hl w1 (Ty.below _ h1 hb)
 clear hl h1
 have H:=Hs.start noRow w
 refine Rets.of ?_
 go_enter Tryz.func188,Tryz.ntmps188
 go_wp2_with ((first|refine zU ?_|(refine zB 1 ?_;intro b1)|(refine zA 2 ?_;intro b2)|(refine zA 3 ?_;intro b3)|(go_at_call 263;refine gvF (toLabel_l (_,_) _) H ?_));clear H;intro wn H)
 refine(Rets.use (c1 _ H.below)).mono ?_;rintro e wn ⟨_,_,rfl,⟨N1,hN1,rfl,o1⟩,hkk⟩;refine zK ?_;clear H hkk;intro H
 have hA1:=own_single hN1 o1 rfl
 clear hN1 o1
 obtain⟨A1,k1,rfl,_,_⟩:=sl_form (own_rd H .here hA1)
 have HA1:=hY hA1
 clear c1 hA1
 go_wp2_with (refine zU ?_;clear H;intro wn H)
 refine bpF ?_
 have H2:Hs noRow w [Hl.all N1] _:=H.sel sF
 exact Hs.retd H2 (List.Sublist.refl _) ⟨[_,_,_,_,_,_,_,_,_,_,_,_,_,_],_,rfl,⟨[_,_,_,_,_,_,_,_,_,_,_,_,_],[_],[],_,rfl,rfl,⟨rfl,rfl⟩,HA1.out⟩,rfl⟩
theorem eqTask_l(a:Ta)(cs ds:List Value)(w:World)(ha:tyTa.rd w cs a)(hb:tyTa.rd w ds a):Gives Tryz.prog 225 #[.agg cs.toArray,.agg ds.toArray] w (.bool true):=by
 obtain⟨A,n,k,rfl,h1⟩:=Ta_form ha
 obtain⟨B,m,j,rfl,h2⟩:=Ta_form hb
 clear ha hb
 obtain⟨⟨⟨a1,a2⟩,a3,a4,a5,a6,a7,⟨a8,a9⟩,a10,a11,a12,a13⟩,l⟩:=a
 simp only at h1 h2
 have c1:=fun w1 hb=>eqInt64S_l _ _ l w1 (Ty.below _ h1 hb) (Ty.below _ h2 hb)
 clear h1 h2
 have H:=Hs.start noRow w
 unfold Gives
 go_enter Tryz.func225,Tryz.ntmps225
 go_wp2_with ((first|refine zU ?_|(refine zB 2 ?_;intro b2)|(refine zB 3 ?_;intro b3)|(go_at_call 309;refine gvF (eqLabel_l (_,_) _) H ?_)|(go_at_call 310;refine gvF (c1 _ H.below) H ?_));clear H;intro wn H)
 go_ret
 exact⟨rfl,H.below⟩
theorem szTask_l(a:Ta)(cs:List Value)(k:Int)(hk:0≤k∧k≤1048576)(ho:okTa a)(w:World)(ha:tyTa.rd w cs a):Gives Tryz.prog 168 #[.agg cs.toArray,.int .i64 k] w (.int .i64 (szC k (ssTa a))):=by
 obtain⟨A,n,j,rfl,h1⟩:=Ta_form ha
 clear ha
 unfold ssTa ssTf
 have ho:a.1.2.2.1.size≤9223372036854775807:=ho
 obtain⟨⟨⟨a1,a2⟩,a3,a4,a5,a6,a7,⟨a8,a9⟩,a10,a11,a12,a13⟩,l⟩:=a
 simp only at h1 ho ⊢
 have c2:=fun k hk w1 hb=>szInt64S_l _ l k hk w1 (Ty.below _ h1 hb)
 clear h1
 have H:=Hs.start noRow w
 unfold Gives
 generalize l.length=m at *
 obtain⟨n1,hn1⟩:=nm a4.size
 have e1:(a4.size:Int)=n1:=by rw[hn1]
 rw[←hn1] at ho ⊢
 by_cases hl1:k-n1<0
 ·rw[szC_neg (by omega)]
  go_enter Tryz.func168,Tryz.ntmps168
  go_wp2_with ((first|refine zL ?_|(refine zB 2 ?_;intro b2));clear H;intro wn H)
  go_ret
  exact⟨rfl,H.below⟩
 have c3:=c2 (k-n1) ⟨by omega,by omega⟩
 clear c2
 by_cases hl2:k-n1-m<0
 ·rw[szC_neg hl2] at c3
  rw[szC_neg (by omega)]
  go_enter Tryz.func168,Tryz.ntmps168
  go_wp2_with ((first|refine zL ?_|(refine zB 2 ?_;intro b2)|(go_at_call 241;refine gvF (c3 _ H.below) H ?_));clear H;intro wn H)
  go_ret
  exact⟨rfl,H.below⟩
 rw[szC_pos hl2] at c3
 rw[szC_pos (by omega),show k-((n1+m:Nat):Int)=k-n1-m by omega]
 go_enter Tryz.func168,Tryz.ntmps168
 go_wp2_with ((first|refine zL ?_|(refine zB 2 ?_;intro b2)|(go_at_call 241;refine gvF (c3 _ H.below) H ?_));clear H;intro wn H)
 go_ret
 exact⟨rfl,H.below⟩
theorem toTaskS_l(v:Value)(l:List Ta)(hl:szTal l≤1048576)(w:World)(hr:(Ty.sl 0 tyTa).rd w [v] l):Rets Tryz.prog [] 118 #[v] w (tOwn (Ty.sl 177 tyTa) l):=by
 obtain⟨A,c,rfl,hlc,hcm⟩:=sl_form hr
 have HR:=hY hr
 have HL:=hY hl
 have H:=Hs.start noRow w
 obtain⟨n,hn⟩:=nm l.length
 have hnl:n≤1048576:=by unfold szTal at hl;omega
 rw[←hn] at HR ⊢
 have HN:=hY hn
 clear hr hn hl hcm hlc
 refine Rets.of ?_
 go_enter Tryz.func118,Tryz.ntmps118
 go_wp2_with ((with_reducible apply st_makerow (E:=177) (s:=14) H);rfl;rfl;decide +kernel;(focus omega);clear H;intro g zs wn hz0 hz1 H;refine zp ?_)
 go_loopg [4] n (fun m iv wr=>∃(i:Nat) (pre zs:List Value) (N:List Hl),i+m=n∧iv = .int .i64 i∧Hid (OwnL tyTa pre (l.take i) N∧zs.length=(n-i)*14)∧Hs noRow w [Hl.row 177 14 (.slice (some ⟨g,0,none⟩) n n) n (pre++zs),Hl.all N] wr)
 case atStart=>exact⟨0,[],zs,[],by omega,rfl,hY ⟨.nil,hz0⟩,by rw[List.nil_append];exact H.allNil.sel sF⟩
 case round=>
  clear H
  obtain⟨i,pre,zs,N,hi,rfl,HO,H⟩:=hrel
  by_cases hlt:i<n
  ·obtain ⟨x,b,off,cs,hx,rfl,hv2,hcs,hA⟩:=slE HR HN hlt
   have hxl:x.2.length≤1048576:=by have h1:=mzTa.cnt_at_le hx;have h2:=HL.out;unfold szTal at h2;have h3:mzTa.cnt x=ssTa x:=rfl;unfold ssTa at h3;omega
   have hC:=fun w1 hb=>toTask_l x _ hxl w1 (Ty.below _ hcs hb)
   obtain⟨E1,e2,e3,hu,_⟩:=Ta_form hcs
   subst hu
   have hfit:i*14+14≤(pre++zs).length:=by
    have h1:=HO.out.1.len
    have h2:=HO.out.2
    rw[List.length_append,h1,h2,List.length_take,Nat.min_eq_left (by rw[←HN.out];omega)]
    show i*14+14≤i*14+(n-i)*14
    omega
   have hlt1:(i:Int)<n:=by omega
   clear hv2 hcs
   go_wp2_with (refine zP ?_;clear H;intro wn H)
   refine(Rets.use (hC _ H.below)).mono ?_;rintro e wn ⟨_,_,rfl,⟨c4,N4,rfl,hN2,rfl⟩,hkk⟩;refine zK ?_;clear H hkk;intro H
   obtain⟨A1,d1,d2,hc4,_⟩:=Ta_form (own_rd H .here hN2)
   subst hc4
   obtain⟨p',z',hp,hsp,hz'⟩:=own_step (m:=n-(i+1)) HO.out.1 hx (by rw[HO.out.2];show (n-i)*14=(n-(i+1)+1)*14;congr 1;omega) hN2
   have HS:Hid (spl (pre++zs) (i*14) _=p'++z'):=hY hsp
   have HO2:=hY (And.intro hp hz')
   clear hsp hp hz' hx HO hN2
   go_wp2_with (refine zR ?_;clear H;intro wn H)
   go_roundg (n-(i+1))
   case measure=>omega
   case rel=>exact⟨i+1,p',z',_,by omega,by go_num,HO2,by rw[←HS.out];exact(Hs.join (H.sel (M:=[Hl.all N,Hl.all N4,Hl.row 177 14 (.slice (some ⟨g,0,none⟩) n n) n _]) sF)).reperm (List.Perm.swap ..)⟩
  ·obtain rfl:i=n:=by omega
   have hlt1:=nlt i
   go_wp2_with (fail)
   go_ret
   exact ret_sl H HO.out.1 ((tkl HN)) (by rw[HO.out.2,Nat.sub_self,Nat.zero_mul]) HN.out
theorem eqTaskS_l(va vb:Value)(l:List Ta)(w:World)(ha:(Ty.sl 177 tyTa).rd w [va] l)(hb:(Ty.sl 177 tyTa).rd w [vb] l):Gives Tryz.prog 151 #[va,vb] w (.bool true):=by
 obtain⟨A,c,rfl,hlc,hcm⟩:=sl_form ha
 obtain⟨B,d,rfl,_,_⟩:=sl_form hb
 unfold maxLen at *
 have HA:=hY ha
 have HB:=hY hb
 have H:=Hs.start noRow w
 obtain⟨n,hn⟩:=nm l.length
 have hnl:n≤9223372036854775807:=by omega
 rw[←hn] at HA HB ⊢
 have HN:=hY hn
 clear ha hb hn hcm hlc
 unfold Gives
 go_enter Tryz.func151,Tryz.ntmps151
 go_wp2_with (fail)
 go_loopg [5] n (fun m iv wr=>∃(i:Nat),i+m=n∧iv = .int .i64 i∧Hs noRow w [] wr)
 case atStart=>exact⟨0,by omega,rfl,H⟩
 case round=>
  clear H
  obtain⟨i,hi,rfl,H⟩:=hrel
  by_cases hlt:i<n
  ·obtain ⟨x,hx⟩:=atE HN hlt
   have hs:=sl_at (by have:=HA.out;rw[HN.out] at this;exact this) hx
   have hs2:=sl_at (by have:=HB.out;rw[HN.out] at this;exact this) hx
   rw[←HN.out] at hs hs2
   obtain⟨b,off,c',cs,hv,hcs,hA⟩:=hs
   injection hv with hv1 hv2 hv3
   subst hv1 hv3
   obtain⟨b2,off2,c2',cs2,hw,hcs2,hB⟩:=hs2
   injection hw with hw1 hw2 hw3
   subst hw1 hw3
   have c1:=fun w1 hb=>eqTask_l x _ _ w1 (Ty.below _ hcs hb) (Ty.below _ hcs2 hb)
   obtain⟨r1,r2,r3,hu,_⟩:=Ta_form hcs
   obtain⟨y1,y2,y3,hu2,_⟩:=Ta_form hcs2
   subst hu hu2
   have hlt1:(i:Int)<n:=by omega
   clear hx hv2 hw2 hcs hcs2
   go_wp2_with (refine zHq 6 ?_;(iterate 8 (all_goals(refine zhAV ?_)));all_goals refine zHk (fun w1 H1=>c1 _ H1.below) ?_;all_goals refine zhV ?_;all_goals(refine zHz ?_;clear H;intro wn H))
   go_roundg (n-(i+1))
   case measure=>omega
   case rel=>exact⟨i+1,by omega,by go_num,H⟩
  ·obtain rfl:i=n:=by omega
   have hlt1:=nlt i
   go_wp2_with (fail)
   go_ret
   exact⟨rfl,H.below⟩
theorem szTaskS_l(v:Value)(l:List Ta)(k:Int)(hk:0≤k∧k≤1048576)(ho:∀x ∈ l,okTa x)(w:World)(hr:(Ty.sl 0 tyTa).rd w [v] l):Gives Tryz.prog 97 #[v,.int .i64 k] w (.int .i64 (szC k (szTal l))):=by
 obtain⟨A,c,rfl,hlc,hcm⟩:=sl_form hr
 unfold maxLen at *
 have HR:=hY hr
 have HOK:=hY ho
 have H:=Hs.start noRow w
 obtain⟨n,hn⟩:=nm l.length
 obtain⟨t,ht⟩:=nm (mzTa.cntl l)
 rw[show szTal l=n+t by rw[hn,ht];rfl]
 rw[←hn] at HR ⊢
 have HN:=hY hn
 have HT:=hY ht
 have hnl:n≤9223372036854775807:=by omega
 clear hr hn ht hcm hlc ho
 unfold Gives
 by_cases h:k-n<0
 ·rw[szC_neg (by omega)]
  go_enter Tryz.func97,Tryz.ntmps97
  go_wp2_with (fail)
  go_ret
  exact⟨rfl,H.below⟩
 obtain⟨z,hz⟩:=nm (szC k (n+t:Nat))
 rw[←hz]
 have HZ:=hY hz
 clear hz
 go_enter Tryz.func97,Tryz.ntmps97
 go_wp2_with (fail)
 go_loopg [1,5] n (fun m kv iv wr=>∃(i s:Nat),i+m=n∧iv = .int .i64 i∧kv = .int .i64 (k-n-s)∧0≤k-n-s∧Hid (s=mzTa.cntl (l.take i))∧Hs noRow w [] wr)
 case atStart=>exact⟨0,0,by omega,rfl,by go_num,by omega,hY rfl,H⟩
 case round=>
  clear H
  obtain⟨i,s,hi,rfl,rfl,hs0,HI,H⟩:=hrel
  by_cases hlt:i<n
  ·obtain ⟨x,b,off,cs,hx,rfl,hv2,hcs,hA⟩:=slE HR HN hlt
   have c1:=fun w1 hb=>szTask_l x _ (k-n-s) ⟨hs0,by omega⟩ (HOK.out x (List.mem_of_getElem? hx)) w1 (Ty.below _ hcs hb)
   have hle:=mzTa.cnt_at_le hx
   have hxs:mzTa.cnt x=(ssTa x):=rfl
   rw[←HI.out,←HT.out,hxs] at hle
   have HI2:Hid (s+(ssTa x)=mzTa.cntl (l.take (i+1))):=hY (by rw[mzTa.cntl_step hx,←HI.out];rfl)
   have hlt1:(i:Int)<n:=by omega
   obtain⟨r1,r2,r3,hu,_⟩:=Ta_form hcs
   subst hu
   clear hx hv2 hcs hxs
   generalize (ssTa x)=xn at *
   by_cases hng:k-n-s-xn<0
   ·rw[szC_neg hng] at c1
    have HZ2:Hid (z = -1):=hY (by rw[HZ.out,szC_neg (by omega)])
    go_wp2_with ((first|refine zP ?_|(go_at_call 168;refine gvF (c1 _ H.below) H ?_));clear H;intro wn H)
    go_ret
    exact⟨by rw[HZ2.out];rfl,H.below⟩
   ·rw[szC_pos hng] at c1
    go_wp2_with ((first|refine zP ?_|(go_at_call 168;refine gvF (c1 _ H.below) H ?_));clear H;intro wn H)
    go_roundg (n-(i+1))
    case measure=>omega
    case rel=>exact⟨i+1,s+xn,by omega,by go_num,by go_num,by omega,HI2,H⟩
  ·obtain rfl:i=n:=by omega
   have hlt1:=nlt i
   have hst:s=t:=by rw[HI.out,HT.out,(tkl HN)]
   subst hst
   have HZ2:Hid (z=k-i-s):=hY (by rw[HZ.out,szC_pos (by omega)];omega)
   go_wp2_with (fail)
   go_ret
   exact⟨by rw[HZ2.out];rfl,H.below⟩
