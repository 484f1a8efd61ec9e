import Derived.Test.YtcabgibdkmgdlaaGreatJ2
import Derived.Test.YtcabgibdkmgdlaaGreatJ3
import Derived.Test.YtcabgibdkmgdlaaGreatHv
import Derived.Test.YtcabgibdkmgdlaaGreatJ1
set_option linter.unusedSimpArgs false
set_option linter.unusedVariables false
set_option maxRecDepth 100000
set_option maxHeartbeats 4000000
namespace Go.Proofs.YtcabgibdkmgdlaaGreat
open Go.RowKit M
namespace M
def szCfg(c:Cfg):Nat:=total c.1+(c.2.1.length+c.2.2.1.length)
def mkKeep:Mark Int:=⟨fun _=>0,fun _ a=>a⟩
def mkCfg:Mark Cfg:=mkLab.list.list.pair (mkPr.list.pair (mkQt.list.pair mkKeep))
end M
theorem toConfig_l(c:Cfg)(cs:List Value)(hl:szCfg c≤1048576)(w:World)(hr:tyCfg.rd w cs c):Rets Tryz.prog [] 116 #[.agg cs.toArray] w (tAgg tyCfg c):=by
 obtain⟨v1,v2,v3,rfl,h1,h2,h3⟩:=cfg_form hr
 clear hr
 obtain⟨l,pr,qt,hf⟩:=c
 have hl1:total l≤1048576:=by have:total l+(pr.length+qt.length)≤1048576:=hl;omega
 have hl2:pr.length≤1048576:=by have:total l+(pr.length+qt.length)≤1048576:=hl;omega
 have hl3:qt.length≤1048576:=by have:total l+(pr.length+qt.length)≤1048576:=hl;omega
 simp only at h1 h2 h3
 show Rets Tryz.prog [] _ #[.agg #[v1,v2,v3,.int .i64 hf]] w _
 have c1:=fun w1 hb=>toLabelSS_l v1 l hl1 w1 (Ty.below _ (sl_cast (E:=118) (F:=0) (T:=Ty.sl 123 tyLab) (U:=Ty.sl 0 tyLab) rfl (fun _ _ h=>h) h1) hb)
 have c2:=fun w1 hb=>toPairS_l v2 pr hl2 w1 (Ty.below _ h2 hb)
 have c3:=fun w1 hb=>toQuotaS_l v3 qt hl3 w1 (Ty.below _ h3 hb)
 clear hl hl1 hl2 hl3 h1 h2 h3
 have H:=Hs.start noRow w
 refine Rets.of ?_
 go_enter Tryz.func116,Tryz.ntmps116
 go_wp2_with ((first|refine zL ?_|(refine zB 1 ?_;intro b1)|(refine zA 2 ?_;intro b2)|(refine zA 3 ?_;intro b3));clear H;intro wn H)
 refine(Rets.use (c1 _ H.below)).mono ?_;rintro e wn ⟨_,_,rfl,⟨N1,hN1,rfl,o1⟩,hkk⟩;refine zK ?_;clear H hkk;intro H
 have hA1:=own_single hN1 o1 rfl
 clear hN1 o1
 obtain⟨A1,k1,rfl,_,_⟩:=sl_form (own_rd H .here hA1)
 go_wp2_with (refine zU ?_;clear H;intro wn H)
 refine(Rets.use (c2 _ H.below)).mono ?_;rintro e wn ⟨_,_,rfl,⟨N2,hN2,rfl,o2⟩,hkk⟩;refine zK ?_;clear H hkk;intro H
 have hA2:=own_single hN2 o2 rfl
 clear hN2 o2
 obtain⟨A2,k2,rfl,_,_⟩:=sl_form (own_rd H .here hA2)
 go_wp2_with (refine zU ?_;clear H;intro wn H)
 refine(Rets.use (c3 _ H.below)).mono ?_;rintro e wn ⟨_,_,rfl,⟨N3,hN3,rfl,o3⟩,hkk⟩;refine zK ?_;clear H hkk;intro H
 have hA3:=own_single hN3 o3 rfl
 clear hN3 o3
 obtain⟨A3,k3,rfl,_,_⟩:=sl_form (own_rd H .here hA3)
 have HA1:=hY hA1
 have HA2:=hY hA2
 have HA3:=hY hA3
 clear c1 c2 c3 hA1 hA2 hA3
 go_wp2_with (refine zU ?_;clear H;intro wn H)
 refine bpF ?_
 have H2:=H.sel (M:=[Hl.all N1,Hl.all N2,Hl.all N3]) sF
 rw[←List.append_nil N3] at H2
 exact Hs.retd H2.join3 (List.Sublist.refl _) ⟨[_,_,_,_],_,rfl,⟨[_],[_,_,_],_,_,rfl,rfl,HA1.out,[_],[_,_],_,_,rfl,rfl,HA2.out,[_],[_],_,_,rfl,rfl,HA3.out,rfl,rfl⟩,rfl⟩
theorem eqConfig_l(c:Cfg)(cs ds:List Value)(w:World)(ha:tyCfg.rd w cs c)(hb:tyCfg.rd w ds c):Gives Tryz.prog 149 #[.agg cs.toArray,.agg ds.toArray] w (.bool true):=by
 obtain⟨v1,v2,v3,rfl,h1,h2,h3⟩:=cfg_form ha
 obtain⟨u1,u2,u3,rfl,k1,k2,k3⟩:=cfg_form hb
 clear ha hb
 obtain⟨l,pr,qt,hf⟩:=c
 simp only at h1 h2 h3 k1 k2 k3
 show Gives Tryz.prog _ #[.agg #[v1,v2,v3,.int .i64 hf],.agg #[u1,u2,u3,.int .i64 hf]] w _
 have c1:=fun w1 hb=>eqLabelSS_l v1 u1 l w1 (Ty.below _ h1 hb) (Ty.below _ k1 hb)
 have c2:=fun w1 hb=>eqPairS_l v2 u2 pr w1 (Ty.below _ h2 hb) (Ty.below _ k2 hb)
 have c3:=fun w1 hb=>eqQuotaS_l v3 u3 qt w1 (Ty.below _ h3 hb) (Ty.below _ k3 hb)
 clear h1 h2 h3 k1 k2 k3
 have H:=Hs.start noRow w
 unfold Gives
 go_enter Tryz.func149,Tryz.ntmps149
 go_wp2_with ((first|refine zL ?_|(refine zB 2 ?_;intro b2)|(refine zB 3 ?_;intro b3)|(go_at_call 221;refine gvF (c1 _ H.below) H ?_)|(go_at_call 222;refine gvF (c2 _ H.below) H ?_)|(go_at_call 223;refine gvF (c3 _ H.below) H ?_));clear H;intro wn H)
 go_ret
 exact⟨rfl,H.below⟩
theorem szConfig_l(c:Cfg)(cs:List Value)(k:Int)(hk:0≤k∧k≤1048576)(w:World)(ha:tyCfg.rd w cs c):Gives Tryz.prog 95 #[.agg cs.toArray,.int .i64 k] w (.int .i64 (szC k (szCfg c))):=by
 obtain⟨v1,v2,v3,rfl,h1,h2,h3⟩:=cfg_form ha
 clear ha
 obtain⟨l,pr,qt,hf⟩:=c
 simp only at h1 h2 h3
 show Gives Tryz.prog _ #[.agg #[v1,v2,v3,.int .i64 hf],_] w _
 have c1:=fun w1 hb=>szLabelSS_l v1 l k hk w1 (Ty.below _ (sl_cast (E:=118) (F:=0) (T:=Ty.sl 123 tyLab) (U:=Ty.sl 0 tyLab) rfl (fun _ _ h=>h) h1) hb)
 have c2:=fun k hk w1 hb=>szPairS_l v2 pr k hk w1 (Ty.below _ h2 hb)
 have c3:=fun k hk w1 hb=>szQuotaS_l v3 qt k hk w1 (Ty.below _ h3 hb)
 show Gives Tryz.prog _ _ w (.int .i64 (szC k (total l+(pr.length+qt.length))))
 clear h1 h2 h3
 generalize total l=n1 at *
 generalize pr.length=n2 at *
 generalize qt.length=n3 at *
 have H:=Hs.start noRow w
 unfold Gives
 by_cases hn1:k-n1<0
 ·rw[szC_neg hn1] at c1
  rw[szC_neg (by omega)]
  go_enter Tryz.func95,Tryz.ntmps95
  go_wp2_with ((first|refine zL ?_|(refine zB 2 ?_;intro b2)|(go_at_call 164;refine gvF (c1 _ H.below) H ?_));clear H;intro wn H)
  go_ret
  exact⟨rfl,H.below⟩
 rw[szC_pos hn1] at c1
 have c5:=c2 (k-n1) ⟨by omega,by omega⟩
 by_cases hn2:k-n1-n2<0
 ·rw[szC_neg hn2] at c5
  rw[szC_neg (by omega)]
  clear c2 c3
  go_enter Tryz.func95,Tryz.ntmps95
  go_wp2_with ((first|refine zL ?_|(refine zB 2 ?_;intro b2)|(go_at_call 164;refine gvF (c1 _ H.below) H ?_)|(go_at_call 165;refine gvF (c5 _ H.below) H ?_));clear H;intro wn H)
  go_ret
  exact⟨rfl,H.below⟩
 rw[szC_pos hn2] at c5
 have c6:=c3 (k-n1-n2) ⟨by omega,by omega⟩
 clear c2 c3
 by_cases hn3:k-n1-n2-n3<0
 ·rw[szC_neg hn3] at c6
  rw[szC_neg (by omega)]
  go_enter Tryz.func95,Tryz.ntmps95
  go_wp2_with ((first|refine zL ?_|(refine zB 2 ?_;intro b2)|(go_at_call 164;refine gvF (c1 _ H.below) H ?_)|(go_at_call 165;refine gvF (c5 _ H.below) H ?_)|(go_at_call 166;refine gvF (c6 _ H.below) H ?_));clear H;intro wn H)
  go_ret
  exact⟨rfl,H.below⟩
 ·rw[szC_pos hn3] at c6
  rw[szC_pos (by omega),show k-((n1+(n2+n3):Nat):Int)=k-n1-n2-n3 by omega]
  go_enter Tryz.func95,Tryz.ntmps95
  go_wp2_with ((first|refine zL ?_|(refine zB 2 ?_;intro b2)|(go_at_call 164;refine gvF (c1 _ H.below) H ?_)|(go_at_call 165;refine gvF (c5 _ H.below) H ?_)|(go_at_call 166;refine gvF (c6 _ H.below) H ?_));clear H;intro wn H)
  go_ret
  exact⟨rfl,H.below⟩
end Go.Proofs.YtcabgibdkmgdlaaGreat
namespace Go.Proofs.YtcabgibdkmgdlaaGreat
open Go.RowKit M
namespace M
abbrev Bo:=List Int × List Int × List Nt
def szBo(b:Bo):Nat:=b.1.length+(b.2.1.length+b.2.2.length)
def mkSz:Mark Bo:=⟨szBo,fun _ a=>a⟩
def mkBo:Mark Bo:=mkNum.list.pair (mkNum.list.pair mkNt.list)
def szMl(l:List Bo):Nat:=l.length+mkSz.cntl l
end M
def tyBo:Ty Bo:=Ty.pair (Ty.sl 2 tyNum) (Ty.pair (Ty.sl 2 tyNum) (Ty.sl 162 tyNt))
theorem bo_form{w:World}{cs:List Value}{c:Bo}(h:tyBo.rd w cs c):∃v1 v2 v3,cs = [v1,v2,v3]∧(Ty.sl 2 tyNum).rd w [v1] c.1∧(Ty.sl 2 tyNum).rd w [v2] c.2.1∧(Ty.sl 162 tyNt).rd w [v3] c.2.2:=by
 obtain⟨x1,y1,rfl,h1,x2,y2,rfl,h2,h3⟩:=h
 obtain⟨v1,hv1⟩:∃v,x1 = [v]:=by obtain⟨v,_,rfl,_⟩:=h1;exact⟨v,rfl⟩
 obtain⟨v2,hv2⟩:∃v,x2 = [v]:=by obtain⟨v,_,rfl,_⟩:=h2;exact⟨v,rfl⟩
 obtain⟨v3,hv3⟩:∃v,y2 = [v]:=by obtain⟨v,_,rfl,_⟩:=h3;exact⟨v,rfl⟩
 subst hv1 hv2 hv3
 exact⟨v1,v2,v3,rfl,h1,h2,h3⟩
theorem toBox_l(c:Bo)(cs:List Value)(hl:szBo c≤1048576)(w:World)(hr:tyBo.rd w cs c):Rets Tryz.prog [] 190 #[.agg cs.toArray] w (tAgg tyBo c):=by
 obtain⟨v1,v2,v3,rfl,h1,h2,h3⟩:=bo_form hr
 clear hr
 obtain⟨l,pr,qt⟩:=c
 have hl1:l.length≤1048576:=by have:l.length+(pr.length+qt.length)≤1048576:=hl;omega
 have hl2:pr.length≤1048576:=by have:l.length+(pr.length+qt.length)≤1048576:=hl;omega
 have hl3:qt.length≤1048576:=by have:l.length+(pr.length+qt.length)≤1048576:=hl;omega
 simp only at h1 h2 h3
 show Rets Tryz.prog [] _ #[.agg #[v1,v2,v3]] w _
 have c1:=fun w1 hb=>toInt64S_l v1 l hl1 w1 (Ty.below _ h1 hb)
 have c2:=fun w1 hb=>toInt64S_l v2 pr hl2 w1 (Ty.below _ h2 hb)
 have c3:=fun w1 hb=>toNoteS_l v3 qt hl3 w1 (Ty.below _ h3 hb)
 clear hl hl1 hl2 hl3 h1 h2 h3
 have H:=Hs.start noRow w
 refine Rets.of ?_
 go_enter Tryz.func190,Tryz.ntmps190
 go_wp2_with ((first|refine zL ?_|(refine zB 1 ?_;intro b1)|(refine zA 2 ?_;intro b2)|(refine zA 3 ?_;intro b3));clear H;intro wn H)
 refine(Rets.use (c1 _ H.below)).mono ?_;rintro e wn ⟨_,_,rfl,⟨N1,hN1,rfl,o1⟩,hkk⟩;refine zK ?_;clear H hkk;intro H
 have hA1:=own_single hN1 o1 rfl
 clear hN1 o1
 obtain⟨A1,k1,rfl,_,_⟩:=sl_form (own_rd H .here hA1)
 go_wp2_with (refine zU ?_;clear H;intro wn H)
 refine(Rets.use (c2 _ H.below)).mono ?_;rintro e wn ⟨_,_,rfl,⟨N2,hN2,rfl,o2⟩,hkk⟩;refine zK ?_;clear H hkk;intro H
 have hA2:=own_single hN2 o2 rfl
 clear hN2 o2
 obtain⟨A2,k2,rfl,_,_⟩:=sl_form (own_rd H .here hA2)
 go_wp2_with (refine zU ?_;clear H;intro wn H)
 refine(Rets.use (c3 _ H.below)).mono ?_;rintro e wn ⟨_,_,rfl,⟨N3,hN3,rfl,o3⟩,hkk⟩;refine zK ?_;clear H hkk;intro H
 have hA3:=own_single hN3 o3 rfl
 clear hN3 o3
 obtain⟨A3,k3,rfl,_,_⟩:=sl_form (own_rd H .here hA3)
 have HA1:=hY hA1
 have HA2:=hY hA2
 have HA3:=hY hA3
 clear c1 c2 c3 hA1 hA2 hA3
 go_wp2_with (refine zU ?_;clear H;intro wn H)
 refine bpF ?_
 have H2:Hs noRow w [Hl.all N1,Hl.all N2,Hl.all N3] _:=H.sel sF
 exact Hs.retd H2.join3 (List.Sublist.refl _) ⟨[_,_,_],_,rfl,⟨[_],[_,_],_,_,rfl,rfl,HA1.out,[_],[_],_,_,rfl,rfl,HA2.out,HA3.out⟩,rfl⟩
theorem eqBox_l(c:Bo)(cs ds:List Value)(w:World)(ha:tyBo.rd w cs c)(hb:tyBo.rd w ds c):Gives Tryz.prog 227 #[.agg cs.toArray,.agg ds.toArray] w (.bool true):=by
 obtain⟨v1,v2,v3,rfl,h1,h2,h3⟩:=bo_form ha
 obtain⟨u1,u2,u3,rfl,k1,k2,k3⟩:=bo_form hb
 clear ha hb
 obtain⟨l,pr,qt⟩:=c
 simp only at h1 h2 h3 k1 k2 k3
 show Gives Tryz.prog _ #[.agg #[v1,v2,v3],.agg #[u1,u2,u3]] w _
 have c1:=fun w1 hb=>eqInt64S_l v1 u1 l w1 (Ty.below _ h1 hb) (Ty.below _ k1 hb)
 have c2:=fun w1 hb=>eqInt64S_l v2 u2 pr w1 (Ty.below _ h2 hb) (Ty.below _ k2 hb)
 have c3:=fun w1 hb=>eqNoteS_l v3 u3 qt w1 (Ty.below _ h3 hb) (Ty.below _ k3 hb)
 clear h1 h2 h3 k1 k2 k3
 have H:=Hs.start noRow w
 unfold Gives
 go_enter Tryz.func227,Tryz.ntmps227
 go_wp2_with ((first|refine zL ?_|(refine zB 2 ?_;intro b2)|(refine zB 3 ?_;intro b3)|(go_at_call 310;refine gvF (c1 _ H.below) H ?_;clear c1)|(go_at_call 310;refine gvF (c2 _ H.below) H ?_)|(go_at_call 311;refine gvF (c3 _ H.below) H ?_));clear H;intro wn H)
 go_ret
 exact⟨rfl,H.below⟩
theorem szBox_l(c:Bo)(cs:List Value)(k:Int)(hk:0≤k∧k≤1048576)(w:World)(ha:tyBo.rd w cs c):Gives Tryz.prog 170 #[.agg cs.toArray,.int .i64 k] w (.int .i64 (szC k (szBo c))):=by
 obtain⟨v1,v2,v3,rfl,h1,h2,h3⟩:=bo_form ha
 clear ha
 obtain⟨l,pr,qt⟩:=c
 simp only at h1 h2 h3
 show Gives Tryz.prog _ #[.agg #[v1,v2,v3],_] w _
 have c1:=fun w1 hb=>szInt64S_l v1 l k hk w1 (Ty.below _ h1 hb)
 have c2:=fun k hk w1 hb=>szInt64S_l v2 pr k hk w1 (Ty.below _ h2 hb)
 have c3:=fun k hk w1 hb=>szNoteS_l v3 qt k hk w1 (Ty.below _ h3 hb)
 show Gives Tryz.prog _ _ w (.int .i64 (szC k (l.length+(pr.length+qt.length))))
 clear h1 h2 h3
 generalize l.length=n1 at *
 generalize pr.length=n2 at *
 generalize qt.length=n3 at *
 have H:=Hs.start noRow w
 unfold Gives
 by_cases hn1:k-n1<0
 ·rw[szC_neg hn1] at c1
  rw[szC_neg (by omega)]
  go_enter Tryz.func170,Tryz.ntmps170
  go_wp2_with ((first|refine zL ?_|(refine zB 2 ?_;intro b2)|(go_at_call 241;refine gvF (c1 _ H.below) H ?_;clear c1));clear H;intro wn H)
  go_ret
  exact⟨rfl,H.below⟩
 rw[szC_pos hn1] at c1
 have c5:=c2 (k-n1) ⟨by omega,by omega⟩
 by_cases hn2:k-n1-n2<0
 ·rw[szC_neg hn2] at c5
  rw[szC_neg (by omega)]
  clear c2 c3
  go_enter Tryz.func170,Tryz.ntmps170
  go_wp2_with ((first|refine zL ?_|(refine zB 2 ?_;intro b2)|(go_at_call 241;refine gvF (c1 _ H.below) H ?_;clear c1)|(go_at_call 241;refine gvF (c5 _ H.below) H ?_));clear H;intro wn H)
  go_ret
  exact⟨rfl,H.below⟩
 rw[szC_pos hn2] at c5
 have c6:=c3 (k-n1-n2) ⟨by omega,by omega⟩
 clear c2 c3
 by_cases hn3:k-n1-n2-n3<0
 ·rw[szC_neg hn3] at c6
  rw[szC_neg (by omega)]
  go_enter Tryz.func170,Tryz.ntmps170
  go_wp2_with ((first|refine zL ?_|(refine zB 2 ?_;intro b2)|(go_at_call 241;refine gvF (c1 _ H.below) H ?_;clear c1)|(go_at_call 241;refine gvF (c5 _ H.below) H ?_)|(go_at_call 242;refine gvF (c6 _ H.below) H ?_));clear H;intro wn H)
  go_ret
  exact⟨rfl,H.below⟩
 ·rw[szC_pos hn3] at c6
  rw[szC_pos (by omega),show k-((n1+(n2+n3):Nat):Int)=k-n1-n2-n3 by omega]
  go_enter Tryz.func170,Tryz.ntmps170
  go_wp2_with ((first|refine zL ?_|(refine zB 2 ?_;intro b2)|(go_at_call 241;refine gvF (c1 _ H.below) H ?_;clear c1)|(go_at_call 241;refine gvF (c5 _ H.below) H ?_)|(go_at_call 242;refine gvF (c6 _ H.below) H ?_));clear H;intro wn H)
  go_ret
  exact⟨rfl,H.below⟩
end Go.Proofs.YtcabgibdkmgdlaaGreat
namespace Go.Proofs.YtcabgibdkmgdlaaGreat
open Go.RowKit M
theorem toBoxS_l(v:Value)(l:List Bo)(hl:szMl l≤1048576)(w:World)(hr:(Ty.sl 0 tyBo).rd w [v] l):Rets Tryz.prog [] 120 #[v] w (tOwn (Ty.sl 128 tyBo) l):=by
 obtain⟨A,c,rfl,hlc,hcm⟩:=sl_form hr
 have HR:=hY hr
 have HL:=hY hl
 have H:=Hs.start noRow w
 obtain⟨n,hn⟩:=nm l.length
 have hnl:n≤1048576:=by unfold szMl at hl;omega
 rw[←hn] at HR ⊢
 have HN:=hY hn
 clear hr hn hl hcm hlc
 refine Rets.of ?_
 go_enter Tryz.func120,Tryz.ntmps120
 go_wp2_with ((with_reducible apply st_makerow (E:=128) (s:=3) H);rfl;rfl;decide +kernel;(focus omega);clear H;intro g zs wn hz0 hz1 H;refine zp ?_)
 go_loopg [4] n (fun m iv wr=>∃(i:Nat) (pre zs:List Value) (N:List Hl),i+m=n∧iv = .int .i64 i∧Hid (OwnL tyBo pre (l.take i) N∧zs.length=(n-i)*3)∧Hs noRow w [Hl.row 128 3 (.slice (some ⟨g,0,none⟩) n n) n (pre++zs),Hl.all N] wr)
 case atStart=>exact⟨0,[],zs,[],by omega,rfl,hY ⟨.nil,hz0⟩,by rw[List.nil_append];exact H.allNil.sel sF⟩
 case round=>
  clear H
  obtain⟨i,pre,zs,N,hi,rfl,HO,H⟩:=hrel
  by_cases hlt:i<n
  ·obtain ⟨x,b,off,cs,hx,rfl,hv2,hcs,hA⟩:=slE HR HN hlt
   obtain⟨u1,u2,u3,hu,_,_,_⟩:=bo_form hcs
   subst hu
   have hxl:szBo x≤1048576:=by have h1:=mkSz.cnt_at_le hx;have h2:=HL.out;unfold szMl at h2;have h3:mkSz.cnt x=szBo x:=rfl;omega
   have hC:=fun w1 hb=>toBox_l x _ hxl w1 (Ty.below _ hcs hb)
   have hfit:i*3+3≤(pre++zs).length:=by
    have h1:=HO.out.1.len
    have h2:=HO.out.2
    rw[List.length_append,h1,h2,List.length_take,Nat.min_eq_left (by rw[←HN.out];omega)]
    show i*3+3≤i*3+(n-i)*3
    omega
   have hlt1:(i:Int)<n:=by omega
   clear hv2 hcs
   go_wp2_with (refine zP ?_;clear H;intro wn H)
   refine(Rets.use (hC _ H.below)).mono ?_;rintro e wn ⟨_,_,rfl,⟨c4,N4,rfl,hN2,rfl⟩,hkk⟩;refine zK ?_;clear H hkk;intro H
   obtain⟨k1,k2,k3,rfl,r1,r2,r3⟩:=bo_form (own_rd H .here hN2)
   obtain⟨A1,d1,rfl,_,_⟩:=sl_form r1
   obtain⟨A2,d2,rfl,_,_⟩:=sl_form r2
   obtain⟨A3,d3,rfl,_,_⟩:=sl_form r3
   clear r1 r2 r3
   obtain⟨p',z',hp,hsp,hz'⟩:=own_step (m:=n-(i+1)) HO.out.1 hx (by rw[HO.out.2];show (n-i)*3=(n-(i+1)+1)*3;congr 1;omega) hN2
   have HS:Hid (spl (pre++zs) (i*3) _=p'++z'):=hY hsp
   have HO2:=hY (And.intro hp hz')
   clear hsp hp hz' hx HO hN2
   go_wp2_with (refine zR ?_;clear H;intro wn H)
   go_roundg (n-(i+1))
   case measure=>omega
   case rel=>exact⟨i+1,p',z',_,by omega,by go_num,HO2,by rw[←HS.out];exact(Hs.join (H.sel (M:=[Hl.all N,Hl.all N4,Hl.row 128 3 (.slice (some ⟨g,0,none⟩) n n) n _]) sF)).reperm (List.Perm.swap ..)⟩
  ·obtain rfl:i=n:=by omega
   have hlt1:=nlt i
   go_wp2_with (fail)
   go_ret
   exact ret_sl H HO.out.1 ((tkl HN)) (by rw[HO.out.2,Nat.sub_self,Nat.zero_mul]) HN.out
theorem eqBoxS_l(va vb:Value)(l:List Bo)(w:World)(ha:(Ty.sl 128 tyBo).rd w [va] l)(hb:(Ty.sl 128 tyBo).rd w [vb] l):Gives Tryz.prog 153 #[va,vb] w (.bool true):=by
 obtain⟨A,c,rfl,hlc,hcm⟩:=sl_form ha
 obtain⟨B,d,rfl,_,_⟩:=sl_form hb
 unfold maxLen at *
 have HA:=hY ha
 have HB:=hY hb
 have H:=Hs.start noRow w
 obtain⟨n,hn⟩:=nm l.length
 have hnl:n≤9223372036854775807:=by omega
 rw[←hn] at HA HB ⊢
 have HN:=hY hn
 clear ha hb hn hcm hlc
 unfold Gives
 go_enter Tryz.func153,Tryz.ntmps153
 go_wp2_with (fail)
 go_loopg [5] n (fun m iv wr=>∃(i:Nat),i+m=n∧iv = .int .i64 i∧Hs noRow w [] wr)
 case atStart=>exact⟨0,by omega,rfl,H⟩
 case round=>
  clear H
  obtain⟨i,hi,rfl,H⟩:=hrel
  by_cases hlt:i<n
  ·obtain ⟨x,hx⟩:=atE HN hlt
   have hs:=sl_at (by have:=HA.out;rw[HN.out] at this;exact this) hx
   have hs2:=sl_at (by have:=HB.out;rw[HN.out] at this;exact this) hx
   rw[←HN.out] at hs hs2
   obtain⟨b,off,c',cs,hv,hcs,hA⟩:=hs
   injection hv with hv1 hv2 hv3
   subst hv1 hv3
   obtain⟨b2,off2,c2',cs2,hw,hcs2,hB⟩:=hs2
   injection hw with hw1 hw2 hw3
   subst hw1 hw3
   obtain⟨u1,u2,u3,hu,_,_,_⟩:=bo_form hcs
   obtain⟨x1,x2,x3,hu2,_,_,_⟩:=bo_form hcs2
   subst hu hu2
   have c1:=fun w1 hb=>eqBox_l x _ _ w1 (Ty.below _ hcs hb) (Ty.below _ hcs2 hb)
   have hlt1:(i:Int)<n:=by omega
   clear hx hv2 hw2 hcs hcs2
   go_wp2_with (refine zHq 6 ?_;(iterate 8 (all_goals(refine zhAV ?_)));all_goals refine zHk (fun w1 H1=>c1 _ H1.below) ?_;all_goals refine zhV ?_;all_goals(refine zHz ?_;clear H;intro wn H))
   go_roundg (n-(i+1))
   case measure=>omega
   case rel=>exact⟨i+1,by omega,by go_num,H⟩
  ·obtain rfl:i=n:=by omega
   have hlt1:=nlt i
   go_wp2_with (fail)
   go_ret
   exact⟨rfl,H.below⟩
theorem szBoxS_l(v:Value)(l:List Bo)(k:Int)(hk:0≤k∧k≤1048576)(w:World)(hr:(Ty.sl 0 tyBo).rd w [v] l):Gives Tryz.prog 99 #[v,.int .i64 k] w (.int .i64 (szC k (szMl l))):=by
 obtain⟨A,c,rfl,hlc,hcm⟩:=sl_form hr
 unfold maxLen at *
 have HR:=hY hr
 have H:=Hs.start noRow w
 obtain⟨n,hn⟩:=nm l.length
 obtain⟨t,ht⟩:=nm (mkSz.cntl l)
 rw[show szMl l=n+t by rw[hn,ht];rfl]
 rw[←hn] at HR ⊢
 have HN:=hY hn
 have HT:=hY ht
 have hnl:n≤9223372036854775807:=by omega
 clear hr hn ht hcm hlc
 unfold Gives
 by_cases h:k-n<0
 ·rw[szC_neg (by omega)]
  go_enter Tryz.func99,Tryz.ntmps99
  go_wp2_with (fail)
  go_ret
  exact⟨rfl,H.below⟩
 obtain⟨z,hz⟩:=nm (szC k (n+t:Nat))
 rw[←hz]
 have HZ:=hY hz
 clear hz
 go_enter Tryz.func99,Tryz.ntmps99
 go_wp2_with (fail)
 go_loopg [1,5] n (fun m kv iv wr=>∃(i s:Nat),i+m=n∧iv = .int .i64 i∧kv = .int .i64 (k-n-s)∧0≤k-n-s∧Hid (s=mkSz.cntl (l.take i))∧Hs noRow w [] wr)
 case atStart=>exact⟨0,0,by omega,rfl,by go_num,by omega,hY rfl,H⟩
 case round=>
  clear H
  obtain⟨i,s,hi,rfl,rfl,hs0,HI,H⟩:=hrel
  by_cases hlt:i<n
  ·obtain ⟨x,b,off,cs,hx,rfl,hv2,hcs,hA⟩:=slE HR HN hlt
   obtain⟨u1,u2,u3,hu,_,_,_⟩:=bo_form hcs
   subst hu
   have c1:=fun w1 hb=>szBox_l x _ (k-n-s) ⟨hs0,by omega⟩ w1 (Ty.below _ hcs hb)
   have hle:=mkSz.cnt_at_le hx
   have hxs:mkSz.cnt x=szBo x:=rfl
   rw[←HI.out,←HT.out,hxs] at hle
   have HI2:Hid (s+szBo x=mkSz.cntl (l.take (i+1))):=hY (by rw[mkSz.cntl_step hx,←HI.out];rfl)
   have hlt1:(i:Int)<n:=by omega
   clear hx hv2 hcs hxs
   generalize szBo x=xn at *
   by_cases hng:k-n-s-xn<0
   ·rw[szC_neg hng] at c1
    have HZ2:Hid (z = -1):=hY (by rw[HZ.out,szC_neg (by omega)])
    go_wp2_with ((first|refine zP ?_|(go_at_call 170;refine gvF (c1 _ H.below) H ?_));clear H;intro wn H)
    go_ret
    exact⟨by rw[HZ2.out];rfl,H.below⟩
   ·rw[szC_pos hng] at c1
    go_wp2_with ((first|refine zP ?_|(go_at_call 170;refine gvF (c1 _ H.below) H ?_));clear H;intro wn H)
    go_roundg (n-(i+1))
    case measure=>omega
    case rel=>exact⟨i+1,s+xn,by omega,by go_num,by go_num,by omega,HI2,H⟩
  ·obtain rfl:i=n:=by omega
   have hlt1:=nlt i
   have hst:s=t:=by rw[HI.out,HT.out,(tkl HN)]
   subst hst
   have HZ2:Hid (z=k-i-s):=hY (by rw[HZ.out,szC_pos (by omega)];omega)
   go_wp2_with (fail)
   go_ret
   exact⟨by rw[HZ2.out];rfl,H.below⟩
end Go.Proofs.YtcabgibdkmgdlaaGreat
namespace Go.Proofs.YtcabgibdkmgdlaaGreat
open Go.RowKit M
namespace M
abbrev MO:=List Bo × Int
end M
def tOne{α:Type}(T:Ty α)(a:α):Value→List Hl→Prop:=fun v M=>∃u N,v = .agg #[u]∧T.own [u] a N∧M = [Hl.all N]
theorem toMail_l(v:Value)(l:List Bo)(hl:szMl l≤1048576)(w:World)(hr:(Ty.sl 0 tyBo).rd w [v] l):Rets Tryz.prog [] 65 #[.agg #[v]] w (tOne (Ty.sl 128 tyBo) l):=by
 have c1:=fun w1 hb=>toBoxS_l v l hl w1 (Ty.below _ hr hb)
 clear hr hl
 have H:=Hs.start noRow w
 refine Rets.of ?_
 go_enter Tryz.func65,Tryz.ntmps65
 go_wp2_with ((first|refine zL ?_|(refine zB 1 ?_;intro b1)|(refine zA 2 ?_;intro b2)|(refine zA 3 ?_;intro b3));clear H;intro wn H)
 refine(Rets.use (c1 _ H.below)).mono ?_;rintro e wn ⟨_,_,rfl,⟨N1,hN1,rfl,o1⟩,hkk⟩;refine zK ?_;clear H hkk;intro H
 have hA1:=own_single hN1 o1 rfl
 clear hN1 o1
 obtain⟨A1,k1,rfl,_,_⟩:=sl_form (own_rd H .here hA1)
 have HA1:=hY hA1
 clear c1 hA1
 go_wp2_with (refine zU ?_;clear H;intro wn H)
 refine bpF ?_
 have H2:=H.sel (M:=[Hl.all N1]) sF
 exact Hs.retd H2 (List.Sublist.refl _) ⟨_,_,rfl,HA1.out,rfl⟩
theorem eqMail_l(v u:Value)(l:List Bo)(w:World)(ha:(Ty.sl 128 tyBo).rd w [v] l)(hb:(Ty.sl 128 tyBo).rd w [u] l):Gives Tryz.prog 88 #[.agg #[v],.agg #[u]] w (.bool true):=by
 have c1:=fun w1 hb'=>eqBoxS_l v u l w1 (Ty.below _ ha hb') (Ty.below _ hb hb')
 clear ha hb
 have H:=Hs.start noRow w
 unfold Gives
 go_enter Tryz.func88,Tryz.ntmps88
 go_wp2_with ((first|refine zL ?_|(refine zB 2 ?_;intro b2)|(refine zB 3 ?_;intro b3)|(go_at_call 153;refine gvF (c1 _ H.below) H ?_));clear H;intro wn H)
 go_ret
 exact⟨rfl,H.below⟩
theorem szMail_l(v:Value)(l:List Bo)(k:Int)(hk:0≤k∧k≤1048576)(w:World)(ha:(Ty.sl 0 tyBo).rd w [v] l):Gives Tryz.prog 44 #[.agg #[v],.int .i64 k] w (.int .i64 (szC k (szMl l))):=by
 have c1:=fun w1 hb=>szBoxS_l v l k hk w1 (Ty.below _ ha hb)
 clear ha
 generalize szMl l=n at *
 have H:=Hs.start noRow w
 unfold Gives
 by_cases hn:k-n<0
 ·rw[szC_neg hn] at c1 ⊢
  go_enter Tryz.func44,Tryz.ntmps44
  go_wp2_with ((first|refine zL ?_|(refine zB 2 ?_;intro b2)|(go_at_call 99;refine gvF (c1 _ H.below) H ?_));clear H;intro wn H)
  go_ret
  exact⟨rfl,H.below⟩
 ·rw[szC_pos hn] at c1 ⊢
  go_enter Tryz.func44,Tryz.ntmps44
  go_wp2_with ((first|refine zL ?_|(refine zB 2 ?_;intro b2)|(go_at_call 99;refine gvF (c1 _ H.below) H ?_));clear H;intro wn H)
  go_ret
  exact⟨rfl,H.below⟩
end Go.Proofs.YtcabgibdkmgdlaaGreat
namespace Go.Proofs.YtcabgibdkmgdlaaGreat
open Go.RowKit M
theorem indexFunc_Nd(v:Value)(l:List (Nd))(p:Nd→Bool)(g:Nat)(lb:Array Value)(w:World)(eg:∀args w,(callFunc g args).run Tryz.prog w = .ok (.enter g args) w)(hr:(Ty.sl 172 tyNd).rd w [v] l)(hp:∀w1,Below w.heap.size w w1 → ∀(i:Nat) (x:Nd) (cs:List Value),l[i]? = some x→tyNd.rd w1 cs x→Gives Tryz.prog g (#[.agg cs.toArray]++lb) w1 (.bool (p x))):
  Gives Tryz.prog 330 #[v,.func (.func g) #[] lb] w (.int .i64 (idxF p 0 l)):=by
 obtain⟨A,c,rfl,hlc,hcm⟩:=sl_form hr
 unfold maxLen at *
 have HR:=hY hr
 have HP:=hY hp
 have H:=Hs.start noRow w
 obtain⟨n,hn⟩:=nm l.length
 have hnl:n≤9223372036854775807:=by omega
 rw[←hn] at HR ⊢
 have HN:=hY hn
 obtain⟨z,hz⟩:=nm (idxF p 0 l)
 rw[←hz]
 have HZ:=hY hz
 clear hr hn hlc hcm hp hz
 unfold Gives
 go_enter Tryz.func330,Tryz.ntmps330
 go_wp2_with (fail)
 go_loopg [4,5,8] n (fun m _ _ iv wr=>∃(i:Nat),i+m=n∧iv = .int .i64 i∧Hid (z=idxF p i (l.drop i))∧Hs noRow w [] wr)
 case atStart=>exact⟨0,by omega,rfl,HZ,H⟩
 case round=>
  clear H
  obtain⟨i,hi,rfl,HI,H⟩:=hrel
  by_cases hlt:i<n
  ·obtain ⟨x,b,off,cs,hx,rfl,hv2,hcs,hA⟩:=slE HR HN hlt
   have hP:=fun w1 hb=>HP.out w1 hb i x cs hx (Ty.below _ hcs hb)
   obtain⟨r1,r2,r3,hu,_⟩:=Nd_form hcs
   subst hu
   have hstep:=HI.out
   rw[idxF_drop hx] at hstep
   have hlt1:(i:Int)<n:=by omega
   clear hx hv2 HI
   cases hpx:p x
   ·rw[hpx] at hP hstep
    have hP':=hP
    have HI:=hY (show z=idxF p (i+1) (l.drop (i+1)) from hstep)
    clear hP hstep hpx
    go_wp2_with ((first|refine zP ?_|(go_at_fn g;refine gvF (hP' _ H.below) H ?_));clear H;intro wn H)
    go_roundg (n-(i+1))
    case measure=>omega
    case rel=>exact⟨i+1,by omega,by go_num,HI,H⟩
   ·rw[hpx] at hP hstep
    have hP':=hP
    have HI:=hY (show z=(i:Int) from hstep)
    clear hP hstep hpx
    go_wp2_with ((first|refine zP ?_|(go_at_fn g;refine gvF (hP' _ H.below) H ?_));clear H;intro wn H)
    go_ret
    exact⟨by rw[HI.out];rfl,H.below⟩
  ·obtain rfl:i=n:=by omega
   have hlt1:=nlt i
   have hz:z = -1:=by rw[HI.out,(drl HN)];rfl
   have HI2:=hY hz
   clear hz HI HZ
   go_wp2_with (fail)
   go_ret
   exact⟨by rw[HI2.out];rfl,H.below⟩
theorem containsFunc_Nd(v:Value)(l:List (Nd))(p:Nd→Bool)(g:Nat)(lb:Array Value)(w:World)(eg:∀args w,(callFunc g args).run Tryz.prog w = .ok (.enter g args) w)(hr:(Ty.sl 172 tyNd).rd w [v] l)(hp:∀w1,Below w.heap.size w w1 → ∀(i:Nat) (x:Nd) (cs:List Value),l[i]? = some x→tyNd.rd w1 cs x→Gives Tryz.prog g (#[.agg cs.toArray]++lb) w1 (.bool (p x))):
  Gives Tryz.prog 269 #[v,.func (.func g) #[] lb] w (.bool (l.any p)):=by
 have hI:=fun w1 hb=>indexFunc_Nd v l p g lb w1 eg (Ty.below _ hr hb) (fun w2 hb2=>hp w2 (hb.trans (hb2.mono hb.size)))
 have hz:=idxF_ge p l 0
 obtain⟨A,c,rfl,hlc,hcm⟩:=sl_form hr
 have H:=Hs.start noRow w
 generalize idxF p 0 l=z at *
 generalize l.length=n at *
 rw[←hz]
 clear hr hp hz
 unfold Gives
 go_enter Tryz.func269,Tryz.ntmps269
 go_wp2_with (((go_at_call 330;refine gvF (hI _ H.below) H ?_));clear H;intro wn H)
 go_ret
 exact⟨rfl,H.below⟩
theorem indexFunc_Ta(v:Value)(l:List (Ta))(p:Ta→Bool)(g:Nat)(lb:Array Value)(w:World)(eg:∀args w,(callFunc g args).run Tryz.prog w = .ok (.enter g args) w)(hr:(Ty.sl 177 tyTa).rd w [v] l)(hp:∀w1,Below w.heap.size w w1 → ∀(i:Nat) (x:Ta) (cs:List Value),l[i]? = some x→tyTa.rd w1 cs x→Gives Tryz.prog g (#[.agg cs.toArray]++lb) w1 (.bool (p x))):
  Gives Tryz.prog 332 #[v,.func (.func g) #[] lb] w (.int .i64 (idxF p 0 l)):=by
 obtain⟨A,c,rfl,hlc,hcm⟩:=sl_form hr
 unfold maxLen at *
 have HR:=hY hr
 have HP:=hY hp
 have H:=Hs.start noRow w
 obtain⟨n,hn⟩:=nm l.length
 have hnl:n≤9223372036854775807:=by omega
 rw[←hn] at HR ⊢
 have HN:=hY hn
 obtain⟨z,hz⟩:=nm (idxF p 0 l)
 rw[←hz]
 have HZ:=hY hz
 clear hr hn hlc hcm hp hz
 unfold Gives
 go_enter Tryz.func332,Tryz.ntmps332
 go_wp2_with (fail)
 go_loopg [4,5,8] n (fun m _ _ iv wr=>∃(i:Nat),i+m=n∧iv = .int .i64 i∧Hid (z=idxF p i (l.drop i))∧Hs noRow w [] wr)
 case atStart=>exact⟨0,by omega,rfl,HZ,H⟩
 case round=>
  clear H
  obtain⟨i,hi,rfl,HI,H⟩:=hrel
  by_cases hlt:i<n
  ·obtain ⟨x,b,off,cs,hx,rfl,hv2,hcs,hA⟩:=slE HR HN hlt
   have hP:=fun w1 hb=>HP.out w1 hb i x cs hx (Ty.below _ hcs hb)
   obtain⟨r1,r2,r3,hu,_⟩:=Ta_form hcs
   subst hu
   have hstep:=HI.out
   rw[idxF_drop hx] at hstep
   have hlt1:(i:Int)<n:=by omega
   clear hx hv2 HI
   cases hpx:p x
   ·rw[hpx] at hP hstep
    have hP':=hP
    have HI:=hY (show z=idxF p (i+1) (l.drop (i+1)) from hstep)
    clear hP hstep hpx
    go_wp2_with ((first|refine zP ?_|(go_at_fn g;refine gvF (hP' _ H.below) H ?_));clear H;intro wn H)
    go_roundg (n-(i+1))
    case measure=>omega
    case rel=>exact⟨i+1,by omega,by go_num,HI,H⟩
   ·rw[hpx] at hP hstep
    have hP':=hP
    have HI:=hY (show z=(i:Int) from hstep)
    clear hP hstep hpx
    go_wp2_with ((first|refine zP ?_|(go_at_fn g;refine gvF (hP' _ H.below) H ?_));clear H;intro wn H)
    go_ret
    exact⟨by rw[HI.out];rfl,H.below⟩
  ·obtain rfl:i=n:=by omega
   have hlt1:=nlt i
   have hz:z = -1:=by rw[HI.out,(drl HN)];rfl
   have HI2:=hY hz
   clear hz HI HZ
   go_wp2_with (fail)
   go_ret
   exact⟨by rw[HI2.out];rfl,H.below⟩
theorem indexFunc_Us(v:Value)(l:List (Us))(p:Us→Bool)(g:Nat)(lb:Array Value)(w:World)(eg:∀args w,(callFunc g args).run Tryz.prog w = .ok (.enter g args) w)(hr:(Ty.sl 180 tyUs).rd w [v] l)(hp:∀w1,Below w.heap.size w w1 → ∀(i:Nat) (x:Us),l[i]? = some x→Gives Tryz.prog g (#[.agg (encUs x).toArray]++lb) w1 (.bool (p x))):
  Gives Tryz.prog 286 #[v,.func (.func g) #[] lb] w (.int .i64 (idxF p 0 l)):=by
 obtain⟨A,c,rfl,hlc,hcm⟩:=sl_form hr
 unfold maxLen at *
 have HR:=hY hr
 have HP:=hY hp
 have H:=Hs.start noRow w
 obtain⟨n,hn⟩:=nm l.length
 have hnl:n≤9223372036854775807:=by omega
 rw[←hn] at HR ⊢
 have HN:=hY hn
 obtain⟨z,hz⟩:=nm (idxF p 0 l)
 rw[←hz]
 have HZ:=hY hz
 clear hr hn hlc hcm hp hz
 unfold Gives
 go_enter Tryz.func286,Tryz.ntmps286
 go_wp2_with (fail)
 go_loopg [4,5,8] n (fun m _ _ iv wr=>∃(i:Nat),i+m=n∧iv = .int .i64 i∧Hid (z=idxF p i (l.drop i))∧Hs noRow w [] wr)
 case atStart=>exact⟨0,by omega,rfl,HZ,H⟩
 case round=>
  clear H
  obtain⟨i,hi,rfl,HI,H⟩:=hrel
  by_cases hlt:i<n
  ·obtain ⟨x,b,off,cs,hx,rfl,hv2,hcs,hA⟩:=slE HR HN hlt
   obtain rfl:cs=encUs x:=hcs
   have hP:=fun w1 hb=>HP.out w1 hb i x hx
   have hstep:=HI.out
   rw[idxF_drop hx] at hstep
   have hlt1:(i:Int)<n:=by omega
   clear hx hv2 HI
   cases hpx:p x
   ·rw[hpx] at hP hstep
    have hP':=hP
    have HI:=hY (show z=idxF p (i+1) (l.drop (i+1)) from hstep)
    clear hP hstep hpx
    unfold encUs at *
    go_wp2_with ((first|refine zP ?_|(go_at_fn g;refine gvF (hP' _ H.below) H ?_));clear H;intro wn H)
    go_roundg (n-(i+1))
    case measure=>omega
    case rel=>exact⟨i+1,by omega,by go_num,HI,H⟩
   ·rw[hpx] at hP hstep
    have hP':=hP
    have HI:=hY (show z=(i:Int) from hstep)
    clear hP hstep hpx
    unfold encUs at *
    go_wp2_with ((first|refine zP ?_|(go_at_fn g;refine gvF (hP' _ H.below) H ?_));clear H;intro wn H)
    go_ret
    exact⟨by rw[HI.out];rfl,H.below⟩
  ·obtain rfl:i=n:=by omega
   have hlt1:=nlt i
   have hz:z = -1:=by rw[HI.out,(drl HN)];rfl
   have HI2:=hY hz
   clear hz HI HZ
   go_wp2_with (fail)
   go_ret
   exact⟨by rw[HI2.out];rfl,H.below⟩
theorem containsFunc_Us(v:Value)(l:List (Us))(p:Us→Bool)(g:Nat)(lb:Array Value)(w:World)(eg:∀args w,(callFunc g args).run Tryz.prog w = .ok (.enter g args) w)(hr:(Ty.sl 180 tyUs).rd w [v] l)(hp:∀w1,Below w.heap.size w w1 → ∀(i:Nat) (x:Us),l[i]? = some x→Gives Tryz.prog g (#[.agg (encUs x).toArray]++lb) w1 (.bool (p x))):
  Gives Tryz.prog 201 #[v,.func (.func g) #[] lb] w (.bool (l.any p)):=by
 have hI:=fun w1 hb=>indexFunc_Us v l p g lb w1 eg (Ty.below _ hr hb) (fun w2 hb2=>hp w2 (hb.trans (hb2.mono hb.size)))
 have hz:=idxF_ge p l 0
 obtain⟨A,c,rfl,hlc,hcm⟩:=sl_form hr
 have H:=Hs.start noRow w
 generalize idxF p 0 l=z at *
 generalize l.length=n at *
 rw[←hz]
 clear hr hp hz
 unfold Gives
 go_enter Tryz.func201,Tryz.ntmps201
 go_wp2_with (((go_at_call 286;refine gvF (hI _ H.below) H ?_));clear H;intro wn H)
 go_ret
 exact⟨rfl,H.below⟩
theorem indexFunc_Nt(v:Value)(l:List (Nt))(p:Nt→Bool)(g:Nat)(lb:Array Value)(w:World)(eg:∀args w,(callFunc g args).run Tryz.prog w = .ok (.enter g args) w)(hr:(Ty.sl 162 tyNt).rd w [v] l)(hp:∀w1,Below w.heap.size w w1 → ∀(i:Nat) (x:Nt),l[i]? = some x→Gives Tryz.prog g (#[.agg (encNt x).toArray]++lb) w1 (.bool (p x))):
  Gives Tryz.prog 206 #[v,.func (.func g) #[] lb] w (.int .i64 (idxF p 0 l)):=by
 obtain⟨A,c,rfl,hlc,hcm⟩:=sl_form hr
 unfold maxLen at *
 have HR:=hY hr
 have HP:=hY hp
 have H:=Hs.start noRow w
 obtain⟨n,hn⟩:=nm l.length
 have hnl:n≤9223372036854775807:=by omega
 rw[←hn] at HR ⊢
 have HN:=hY hn
 obtain⟨z,hz⟩:=nm (idxF p 0 l)
 rw[←hz]
 have HZ:=hY hz
 clear hr hn hlc hcm hp hz
 unfold Gives
 go_enter Tryz.func206,Tryz.ntmps206
 go_wp2_with (fail)
 go_loopg [4,5,8] n (fun m _ _ iv wr=>∃(i:Nat),i+m=n∧iv = .int .i64 i∧Hid (z=idxF p i (l.drop i))∧Hs noRow w [] wr)
 case atStart=>exact⟨0,by omega,rfl,HZ,H⟩
 case round=>
  clear H
  obtain⟨i,hi,rfl,HI,H⟩:=hrel
  by_cases hlt:i<n
  ·obtain ⟨x,b,off,cs,hx,rfl,hv2,hcs,hA⟩:=slE HR HN hlt
   obtain rfl:cs=encNt x:=hcs
   have hP:=fun w1 hb=>HP.out w1 hb i x hx
   have hstep:=HI.out
   rw[idxF_drop hx] at hstep
   have hlt1:(i:Int)<n:=by omega
   clear hx hv2 HI
   cases hpx:p x
   ·rw[hpx] at hP hstep
    have hP':=hP
    have HI:=hY (show z=idxF p (i+1) (l.drop (i+1)) from hstep)
    clear hP hstep hpx
    unfold encNt at *
    go_wp2_with ((first|refine zP ?_|(go_at_fn g;refine gvF (hP' _ H.below) H ?_));clear H;intro wn H)
    go_roundg (n-(i+1))
    case measure=>omega
    case rel=>exact⟨i+1,by omega,by go_num,HI,H⟩
   ·rw[hpx] at hP hstep
    have hP':=hP
    have HI:=hY (show z=(i:Int) from hstep)
    clear hP hstep hpx
    unfold encNt at *
    go_wp2_with ((first|refine zP ?_|(go_at_fn g;refine gvF (hP' _ H.below) H ?_));clear H;intro wn H)
    go_ret
    exact⟨by rw[HI.out];rfl,H.below⟩
  ·obtain rfl:i=n:=by omega
   have hlt1:=nlt i
   have hz:z = -1:=by rw[HI.out,(drl HN)];rfl
   have HI2:=hY hz
   clear hz HI HZ
   go_wp2_with (fail)
   go_ret
   exact⟨by rw[HI2.out];rfl,H.below⟩
theorem containsFunc_Nt(v:Value)(l:List (Nt))(p:Nt→Bool)(g:Nat)(lb:Array Value)(w:World)(eg:∀args w,(callFunc g args).run Tryz.prog w = .ok (.enter g args) w)(hr:(Ty.sl 162 tyNt).rd w [v] l)(hp:∀w1,Below w.heap.size w w1 → ∀(i:Nat) (x:Nt),l[i]? = some x→Gives Tryz.prog g (#[.agg (encNt x).toArray]++lb) w1 (.bool (p x))):
  Gives Tryz.prog 126 #[v,.func (.func g) #[] lb] w (.bool (l.any p)):=by
 have hI:=fun w1 hb=>indexFunc_Nt v l p g lb w1 eg (Ty.below _ hr hb) (fun w2 hb2=>hp w2 (hb.trans (hb2.mono hb.size)))
 have hz:=idxF_ge p l 0
 obtain⟨A,c,rfl,hlc,hcm⟩:=sl_form hr
 have H:=Hs.start noRow w
 generalize idxF p 0 l=z at *
 generalize l.length=n at *
 rw[←hz]
 clear hr hp hz
 unfold Gives
 go_enter Tryz.func126,Tryz.ntmps126
 go_wp2_with (((go_at_call 206;refine gvF (hI _ H.below) H ?_));clear H;intro wn H)
 go_ret
 exact⟨rfl,H.below⟩
theorem indexFunc_Bo(v:Value)(l:List (Bo))(p:Bo→Bool)(g:Nat)(lb:Array Value)(w:World)(eg:∀args w,(callFunc g args).run Tryz.prog w = .ok (.enter g args) w)(hr:(Ty.sl 128 tyBo).rd w [v] l)(hp:∀w1,Below w.heap.size w w1 → ∀(i:Nat) (x:Bo) (cs:List Value),l[i]? = some x→tyBo.rd w1 cs x→Gives Tryz.prog g (#[.agg cs.toArray]++lb) w1 (.bool (p x))):
  Gives Tryz.prog 205 #[v,.func (.func g) #[] lb] w (.int .i64 (idxF p 0 l)):=by
 obtain⟨A,c,rfl,hlc,hcm⟩:=sl_form hr
 unfold maxLen at *
 have HR:=hY hr
 have HP:=hY hp
 have H:=Hs.start noRow w
 obtain⟨n,hn⟩:=nm l.length
 have hnl:n≤9223372036854775807:=by omega
 rw[←hn] at HR ⊢
 have HN:=hY hn
 obtain⟨z,hz⟩:=nm (idxF p 0 l)
 rw[←hz]
 have HZ:=hY hz
 clear hr hn hlc hcm hp hz
 unfold Gives
 go_enter Tryz.func205,Tryz.ntmps205
 go_wp2_with (fail)
 go_loopg [4,5,8] n (fun m _ _ iv wr=>∃(i:Nat),i+m=n∧iv = .int .i64 i∧Hid (z=idxF p i (l.drop i))∧Hs noRow w [] wr)
 case atStart=>exact⟨0,by omega,rfl,HZ,H⟩
 case round=>
  clear H
  obtain⟨i,hi,rfl,HI,H⟩:=hrel
  by_cases hlt:i<n
  ·obtain ⟨x,b,off,cs,hx,rfl,hv2,hcs,hA⟩:=slE HR HN hlt
   have hP:=fun w1 hb=>HP.out w1 hb i x cs hx (Ty.below _ hcs hb)
   obtain⟨r1,r2,r3,hu,_⟩:=bo_form hcs
   subst hu
   have hstep:=HI.out
   rw[idxF_drop hx] at hstep
   have hlt1:(i:Int)<n:=by omega
   clear hx hv2 HI
   cases hpx:p x
   ·rw[hpx] at hP hstep
    have hP':=hP
    have HI:=hY (show z=idxF p (i+1) (l.drop (i+1)) from hstep)
    clear hP hstep hpx
    go_wp2_with ((first|refine zP ?_|(go_at_fn g;refine gvF (hP' _ H.below) H ?_));clear H;intro wn H)
    go_roundg (n-(i+1))
    case measure=>omega
    case rel=>exact⟨i+1,by omega,by go_num,HI,H⟩
   ·rw[hpx] at hP hstep
    have hP':=hP
    have HI:=hY (show z=(i:Int) from hstep)
    clear hP hstep hpx
    go_wp2_with ((first|refine zP ?_|(go_at_fn g;refine gvF (hP' _ H.below) H ?_));clear H;intro wn H)
    go_ret
    exact⟨by rw[HI.out];rfl,H.below⟩
  ·obtain rfl:i=n:=by omega
   have hlt1:=nlt i
   have hz:z = -1:=by rw[HI.out,(drl HN)];rfl
   have HI2:=hY hz
   clear hz HI HZ
   go_wp2_with (fail)
   go_ret
   exact⟨by rw[HI2.out];rfl,H.below⟩
theorem containsFunc_Bo(v:Value)(l:List (Bo))(p:Bo→Bool)(g:Nat)(lb:Array Value)(w:World)(eg:∀args w,(callFunc g args).run Tryz.prog w = .ok (.enter g args) w)(hr:(Ty.sl 128 tyBo).rd w [v] l)(hp:∀w1,Below w.heap.size w w1 → ∀(i:Nat) (x:Bo) (cs:List Value),l[i]? = some x→tyBo.rd w1 cs x→Gives Tryz.prog g (#[.agg cs.toArray]++lb) w1 (.bool (p x))):
  Gives Tryz.prog 124 #[v,.func (.func g) #[] lb] w (.bool (l.any p)):=by
 have hI:=fun w1 hb=>indexFunc_Bo v l p g lb w1 eg (Ty.below _ hr hb) (fun w2 hb2=>hp w2 (hb.trans (hb2.mono hb.size)))
 have hz:=idxF_ge p l 0
 obtain⟨A,c,rfl,hlc,hcm⟩:=sl_form hr
 have H:=Hs.start noRow w
 generalize idxF p 0 l=z at *
 generalize l.length=n at *
 rw[←hz]
 clear hr hp hz
 unfold Gives
 go_enter Tryz.func124,Tryz.ntmps124
 go_wp2_with (((go_at_call 205;refine gvF (hI _ H.below) H ?_));clear H;intro wn H)
 go_ret
 exact⟨rfl,H.below⟩
theorem indexFunc_Num(v:Value)(l:List (Int))(p:Int→Bool)(g:Nat)(lb:Array Value)(w:World)(eg:∀args w,(callFunc g args).run Tryz.prog w = .ok (.enter g args) w)(hr:(Ty.sl 2 tyNum).rd w [v] l)(hp:∀w1,Below w.heap.size w w1 → ∀(i:Nat) (x:Int),l[i]? = some x→Gives Tryz.prog g (#[.int .i64 x]++lb) w1 (.bool (p x))):
  Gives Tryz.prog 335 #[v,.func (.func g) #[] lb] w (.int .i64 (idxF p 0 l)):=by
 obtain⟨A,c,rfl,hlc,hcm⟩:=sl_form hr
 unfold maxLen at *
 have HR:=hY hr
 have HP:=hY hp
 have H:=Hs.start noRow w
 obtain⟨n,hn⟩:=nm l.length
 have hnl:n≤9223372036854775807:=by omega
 rw[←hn] at HR ⊢
 have HN:=hY hn
 obtain⟨z,hz⟩:=nm (idxF p 0 l)
 rw[←hz]
 have HZ:=hY hz
 clear hr hn hlc hcm hp hz
 unfold Gives
 go_enter Tryz.func335,Tryz.ntmps335
 go_wp2_with (fail)
 go_loopg [4,5,8] n (fun m _ _ iv wr=>∃(i:Nat),i+m=n∧iv = .int .i64 i∧Hid (z=idxF p i (l.drop i))∧Hs noRow w [] wr)
 case atStart=>exact⟨0,by omega,rfl,HZ,H⟩
 case round=>
  clear H
  obtain⟨i,hi,rfl,HI,H⟩:=hrel
  by_cases hlt:i<n
  ·obtain ⟨x,b,off,cs,hx,rfl,hv2,hcs,hA⟩:=slE HR HN hlt
   obtain rfl:cs=encNum x:=hcs
   have hP:=fun w1 hb=>HP.out w1 hb i x hx
   have h0:w.cell? ⟨b,off+i,none⟩=some (.int .i64 x):=by have h:=hA.head (u := .int .i64 x) rfl;rw[show i*tyNum.s=i from Nat.mul_one i] at h;exact h
   have hstep:=HI.out
   rw[idxF_drop hx] at hstep
   have hlt1:(i:Int)<n:=by omega
   clear hx hv2 HI
   cases hpx:p x
   ·rw[hpx] at hP hstep
    have hP':=hP
    have HI:=hY (show z=idxF p (i+1) (l.drop (i+1)) from hstep)
    clear hP hstep hpx
    unfold encNum at *
    go_wp2_with ((first|refine zL ?_|(go_at_fn g;refine gvF (hP' _ H.below) H ?_));clear H;intro wn H)
    go_roundg (n-(i+1))
    case measure=>omega
    case rel=>exact⟨i+1,by omega,by go_num,HI,H⟩
   ·rw[hpx] at hP hstep
    have hP':=hP
    have HI:=hY (show z=(i:Int) from hstep)
    clear hP hstep hpx
    unfold encNum at *
    go_wp2_with ((first|refine zL ?_|(go_at_fn g;refine gvF (hP' _ H.below) H ?_));clear H;intro wn H)
    go_ret
    exact⟨by rw[HI.out];rfl,H.below⟩
  ·obtain rfl:i=n:=by omega
   have hlt1:=nlt i
   have hz:z = -1:=by rw[HI.out,(drl HN)];rfl
   have HI2:=hY hz
   clear hz HI HZ
   go_wp2_with (fail)
   go_ret
   exact⟨by rw[HI2.out];rfl,H.below⟩
theorem containsFunc_Num(v:Value)(l:List (Int))(p:Int→Bool)(g:Nat)(lb:Array Value)(w:World)(eg:∀args w,(callFunc g args).run Tryz.prog w = .ok (.enter g args) w)(hr:(Ty.sl 2 tyNum).rd w [v] l)(hp:∀w1,Below w.heap.size w w1 → ∀(i:Nat) (x:Int),l[i]? = some x→Gives Tryz.prog g (#[.int .i64 x]++lb) w1 (.bool (p x))):
  Gives Tryz.prog 279 #[v,.func (.func g) #[] lb] w (.bool (l.any p)):=by
 have hI:=fun w1 hb=>indexFunc_Num v l p g lb w1 eg (Ty.below _ hr hb) (fun w2 hb2=>hp w2 (hb.trans (hb2.mono hb.size)))
 have hz:=idxF_ge p l 0
 obtain⟨A,c,rfl,hlc,hcm⟩:=sl_form hr
 have H:=Hs.start noRow w
 generalize idxF p 0 l=z at *
 generalize l.length=n at *
 rw[←hz]
 clear hr hp hz
 unfold Gives
 go_enter Tryz.func279,Tryz.ntmps279
 go_wp2_with (((go_at_call 335;refine gvF (hI _ H.below) H ?_));clear H;intro wn H)
 go_ret
 exact⟨rfl,H.below⟩
end Go.Proofs.YtcabgibdkmgdlaaGreat
namespace Go.Proofs.YtcabgibdkmgdlaaGreat
open Go.RowKit M
namespace M
theorem idxF_at{α:Type}{p:α→Bool}{l:List α}{i:Nat}{a:α}(h:l[i]? = some a):idxF p i (l.drop i)=if p a then (i:Int) else idxF p (i+1) (l.drop (i+1)):=by
 obtain⟨hlt,rfl⟩:=List.getElem?_eq_some_iff.1 h
 rw[List.drop_eq_getElem_cons hlt]
 rfl
theorem idxF_end{α:Type}{p:α→Bool}{l:List α}{i:Nat}(h:l.length≤i):idxF p i (l.drop i) = -1:=by
 rw[List.drop_of_length_le h];rfl
end M
end Go.Proofs.YtcabgibdkmgdlaaGreat
namespace Go.Proofs.YtcabgibdkmgdlaaGreat
open Go.RowKit M
namespace M
def tkEq(a:Lab)(k:Int)(x:Ta):Bool:=eqB x.1.1 a&&x.1.2.1==k
end M
theorem taskAtC(p:Lab)(k:Int)(t:Ta)(cs:List Value)(b d:Nat)(w:World)(hr:tyTa.rd w cs t)(h1:At w b 0 (encLab p))(h2:At w d 0 [.int .i64 k]):
  Gives Tryz.prog 333 (#[.agg cs.toArray] ++ #[.pointer (some ⟨b,0,none⟩),.pointer (some ⟨d,0,none⟩)]) w (.bool (tkEq p k t)):=by
 obtain⟨A,n,j,rfl,_⟩:=Ta_form hr
 obtain⟨⟨⟨l1,l2⟩,id,ow,need,long,prio,⟨u1,u2⟩,aft,born,st,start⟩,nodes⟩:=t
 obtain⟨p1,p2⟩:=p
 unfold encLab at h1
 unfold tkEq
 simp only at h1 ⊢
 clear hr
 have h3:w.cell? ⟨d,0,none⟩=some (.int .i64 k):=h2 0 _ rfl
 have H:=Hs.start noRow w
 unfold Gives
 show Calls _ _ #[.agg #[.int .i64 l1,.int .i64 l2,.int .i64 id,.string ow,.int .i64 need,.int .i64 long,.int .i64 prio,.int .i64 u1,.int .i64 u2,.int .i64 aft,.int .i64 born,.int .i64 st,.int .i64 start,.slice A n j],.pointer (some ⟨b,0,none⟩),.pointer (some ⟨d,0,none⟩)] _ _
 cases hp1:eqB (l1,l2) (p1,p2)
 ·rw[Bool.false_and]
  go_enter Tryz.func333,Tryz.ntmps333
  go_wp2_with (first|((((with_reducible refine st_gsT ?_ ?_);rfl));(try refine zp ?_))|((first|refine zU ?_|(refine zB 3 ?_;intro b3));clear H;intro wn H))
  go_ret
  exact⟨rfl,H.below⟩
 ·rw[Bool.true_and]
  obtain⟨z,hz⟩:=nm2 ((id==k))
  rw[hz]
  cases z
  all_goals
   go_enter Tryz.func333,Tryz.ntmps333
  all_goals(
   go_wp2_with (first|((((with_reducible refine st_gwT ?_ ?_);rfl));(try refine zp ?_))|((first|refine zU ?_|(refine zB 3 ?_;intro b3));clear H;intro wn H))
   )
  all_goals go_ret
  all_goals exact⟨rfl,H.below⟩
theorem taskAt_i(v:Value)(l:List Ta)(p:Lab)(k:Int)(w:World)(hr:(Ty.sl 177 tyTa).rd w [v] l):
  Gives Tryz.prog 273 #[v,.agg #[.int .i64 p.1,.int .i64 p.2],.int .i64 k] w (.int .i64 (idxF (tkEq p k) 0 l)):=by
 have eg:∀args w,(callFunc 333 args).run Tryz.prog w = .ok (.enter 333 args) w:=enters_of Tryz.func333 (by kernel_rfl) rfl
 obtain⟨p1,p2⟩:=p
 simp only
 have HP:=fun (b4 b5:Nat) w1 (hb:Below w.heap.size w w1) k1 k2=>indexFunc_Ta v l (tkEq (p1,p2) k) 333 #[.pointer (some ⟨b4,0,none⟩),.pointer (some ⟨b5,0,none⟩)] w1 eg (Ty.below _ hr hb) (fun w2 hb2 _ y cs _ hy=>taskAtC (p1,p2) k y cs b4 b5 w2 hy (At.below k1 hb2) (At.below k2 hb2))
 clear hr
 generalize idxF (tkEq (p1,p2) k) 0 l=z at *
 have H:=Hs.start noRow w
 unfold Gives
 go_enter Tryz.func273,Tryz.ntmps273
 go_wp2_with ((first|(refine zB 4 ?_;intro b4)|(refine zB 5 ?_;intro b5));clear H;intro wn H)
 refine gvF (HP _ _ _ H.below (At.blk2 (H.blk iF) rfl rfl) (At.blk (H.blk iF) fun j x hx=>by match j,hx with|0,hx=>exact hx)) H ?_;clear H;intro wn H
 clear HP
 go_wp2_with (fail)
 go_ret
 exact⟨rfl,H.below⟩
theorem l12At_s(v:Value)(l:List Ta)(p:Lab)(k:Int)(w:World)(hr:(Ty.sl 177 tyTa).rd w [v] l):
  Gives Tryz.prog 249 #[v,.agg #[.int .i64 p.1,.int .i64 p.2],.int .i64 k] w (.int .i64 (idxF (tkEq p k) 0 l)):=by
 obtain⟨p1,p2⟩:=p
 simp only
 obtain⟨B,cb,rfl,hlb,hbm⟩:=sl_form hr
 unfold maxLen at *
 have HP:=hY hr
 obtain⟨n,hn⟩:=nm l.length
 have hnl:n≤9223372036854775807:=by omega
 rw[←hn] at HP ⊢
 have HN:=hY hn
 clear hr hlb hbm hn
 have H:=Hs.start noRow w
 unfold Gives
 obtain⟨z,hz⟩:=nm (idxF (tkEq (p1,p2) k) 0 l)
 rw[←hz]
 have HZ:=hY hz
 clear hz
 go_enter Tryz.func249,Tryz.ntmps249
 go_wp2_with (refine zB 4 ?_;clear H;intro b4 wn H)
 go_loopg [7] n (fun m iv wr=>∃(i:Nat),i+m=n∧iv = .int .i64 i∧Hid (z=idxF (tkEq (p1,p2) k) i (l.drop i))∧Hs noRow w [Hl.blk b4 123 #[.int .i64 p1,.int .i64 p2]] wr)
 case atStart=>exact⟨0,by omega,rfl,HZ,H.sel sF⟩
 case round=>
  clear H
  obtain⟨i,hi,rfl,HI,H⟩:=hrel
  by_cases hlt:i<n
  ·obtain ⟨x,hx⟩:=atE HN hlt
   have hs:=sl_at (by have:=HP.out;rw[HN.out] at this;exact this) hx
   rw[←HN.out] at hs
   obtain⟨b,off,c',cs,hv,hcs,hB⟩:=hs
   injection hv with hv1 hv2 hv3
   subst hv1 hv3
   obtain⟨A,m',j',rfl,_⟩:=Ta_form hcs
   have hstep:=HI.out
   rw[idxF_at hx] at hstep
   obtain⟨⟨⟨l1,l2⟩,id,ow,need,long,prio,⟨u1,u2⟩,aft,born,st,start⟩,nodes⟩:=x
   unfold tkEq at hstep
   simp only at hB hstep
   have hB1:At w b (off+i*14) [.int .i64 l1,.int .i64 l2]:=At.pre hB
   have hB2:w.cell? ⟨b,off+i*14+2,none⟩=some (.int .i64 id):=hB 2 _ rfl
   have hlt1:(i:Int)<n:=by omega
   clear hx hv2 HI hB hcs
   cases hp1:eqB (l1,l2) (p1,p2)
   ·have HI2:Hid (z=idxF (tkEq (p1,p2) k) (i+1) (l.drop (i+1))):=hY (by rw[hstep,hp1];rfl)
    clear hstep
    go_wp2_with (refine zHq 4 ?_;(iterate 16 (all_goals((first|refine zhST ?_|refine zhFAEV ?_))));all_goals(refine zHz ?_;clear H;intro wn H))
    go_roundg (n-(i+1))
    case measure=>omega
    case rel=>exact⟨i+1,by omega,by go_num,HI2,H.sel sF⟩
   obtain⟨y,hy⟩:=nm2 ((id==k))
   cases y
   ·have HI2:Hid (z=idxF (tkEq (p1,p2) k) (i+1) (l.drop (i+1))):=hY (by rw[hstep,hp1,hy];rfl)
    clear hstep
    go_wp2_with (refine zHq 4 ?_;(iterate 16 (all_goals((first|(refine zhGT ?_;refine zhFV ?_)|refine zhFAEV ?_))));all_goals(refine zHz ?_;clear H;intro wn H))
    go_roundg (n-(i+1))
    case measure=>omega
    case rel=>exact⟨i+1,by omega,by go_num,HI2,H.sel sF⟩
   ·have HI3:Hid (z=i):=hY (by rw[hstep,hp1,hy];rfl)
    clear hstep
    go_wp2_with (refine zHq 4 ?_;(iterate 16 (all_goals((first|(refine zhGT ?_;refine zhFV ?_)|refine zhFAEV ?_))));all_goals(refine zHz ?_;clear H;intro wn H))
    go_ret
    exact⟨by rw[HI3.out];rfl,H.below⟩
  ·obtain rfl:i=n:=by omega
   have hlt1:=nlt i
   have HI2:Hid (z = -1):=hY (by rw[HI.out,idxF_end (by rw[←HN.out];exact Nat.le_refl _)])
   clear HI HZ
   go_wp2_with (fail)
   go_ret
   exact⟨by rw[HI2.out];rfl,H.below⟩
