import Derived.Test.YtcabgibdkmgdlaaGreatJ1
import Derived.Test.YtcabgibdkmgdlaaGreatHv
set_option linter.unusedSimpArgs false
set_option linter.unusedVariables false
set_option maxRecDepth 100000
set_option maxHeartbeats 4000000
namespace Go.Proofs.YtcabgibdkmgdlaaGreat
open Go.RowKit M
namespace M
def splS:List Value→Nat→List Value→List Value
 | xs,_,[]=>xs
 | xs,off,v::vs=>splS (spl xs off [v]) (off+1) vs
theorem splS_at:∀ {vs us pre ys:List Value} {p:Nat},pre.length=p→vs.length≤us.length→splS (pre++(us++ys)) p vs=pre++((vs++us.drop vs.length)++ys)
 | [],us,pre,ys,p,_,_=>by simp[splS]
 | v::vs,[],pre,ys,p,_,h=>by simp at h
 | v::vs,u::us,pre,ys,p,hp,h=>by
  have h1:=spl_one pre ys u (u::us) v hp (j:=0) (by simp)
  rw[Nat.add_zero] at h1
  show splS (spl (pre++(u::us++ys)) p [v]) (p+1) vs=_
  rw[h1]
  have h2:=splS_at (vs:=vs) (us:=us) (pre:=pre ++ [v]) (ys:=ys) (p:=p+1) (by rw[List.length_append,hp];rfl) (by simpa using h)
  have e:pre++((u::us).set 0 v++ys)=(pre ++ [v])++(us++ys):=by simp
  rw[e,h2]
  simp
end M
theorem markText_at(n:Int)(k:Nat)(h:n=k)(hk:k<9223372036854775807)(w:World):Gives Tryz.prog 160 #[.int .i64 n] w (.string (bs (mtext k))):=by
 subst h
 exact markText_l k hk w
theorem markSpanS_l(v:Value)(l:List Sp)(k:Nat)(hk:k+mkSp.cntl l<9223372036854775807):Turn Tryz.prog 231 (Ty.sl 174 tySp) [v] l (mkSp.mkl k l) #[v,.int .i64 k] (.int .i64 (k+mkSp.cntl l:Nat)):=by
 intro R w0 L w N hO H
 obtain⟨xs,M,A,c,rfl,hO,hcm,H⟩:=own_open hO H
 obtain rfl:M = []:=flat_noown hO
 unfold maxLen at *
 obtain⟨n,hn⟩:=nm l.length
 rw[←hn] at H ⊢
 have hn9:n≤9223372036854775807:=by obtain⟨_,_,h1,h2,h3⟩:=(H.rows .here).slice;injection h1;unfold maxLen at h3;omega
 have HN:=hY hn
 have HK:=hY hk
 have HO:=hY hO
 obtain⟨tot,ht⟩:=nm (k+mkSp.cntl l)
 rw[←ht]
 have HT:=hY ht
 clear hn hk hO hcm ht
 go_enter Tryz.func231,Tryz.ntmps231
 go_wp2_with (fail)
 go_loopg [1,5] n (fun m kv iv wr=>∃(i k':Nat) (pre post:List Value),i+m=n∧iv = .int .i64 i∧kv = .int .i64 k'∧Hid (k'=k+mkSp.cntl (l.take i)∧OwnL tySp pre (mkSp.mkl k (l.take i)) []∧OwnL tySp post (l.drop i) [])∧Hs R w0 (Hl.row 174 2 (.slice A n c) n (pre++post)::Hl.all []::L) wr)
 case atStart=>exact⟨0,k,[],xs,by omega,rfl,rfl,hY ⟨rfl,.nil,HO.out⟩,H⟩
 case round=>
  clear H
  obtain⟨i,k',pre,post,hi,rfl,rfl,HI,H⟩:=hrel
  by_cases hlt:i<n
  ·obtain ⟨x,hx⟩:=atE HN hlt
   obtain⟨g,c2,hv,_⟩:=(H.rows .here).form (by omega)
   injection hv with hv1 hv2 hv3
   subst hv1 hv3
   have hk1:=mkSp.cnt_at_le hx
   have hk2:=HK.out
   obtain⟨h1,h2,h3⟩:=HI.out
   obtain⟨hlt',e⟩:=List.getElem?_eq_some_iff.1 hx
   rw[List.drop_eq_getElem_cons hlt',e] at h3
   obtain⟨cs,ys,Mi,M3,rfl,hMM,⟨rfl,rfl⟩,h4⟩:=h3.un
   rw[List.nil_append] at hMM
   subst hMM
   have hpl:pre.length=i*2:=by rw[h2.len,Mark.mkl_len,List.length_take,Nat.min_eq_left (Nat.le_of_lt hlt')];rfl
   have hcnt:mkSp.cnt x=2:=rfl
   have hyl:ys.length+2+i*2=n*2:=by
    have:=(H.rows .here).len
    rw[List.length_append,List.length_append,hpl] at this
    have h5:(encSp x).length=2:=rfl
    omega
   have hk3:k'+2<9223372036854775807:=by omega
   have HI2:Hid (k'+2=k+mkSp.cntl (l.take (i+1))∧OwnL tySp (pre++encSp (mkSp.mak k' x)) (mkSp.mkl k (l.take (i+1))) []∧OwnL tySp ys (l.drop (i+1)) []):=
    hY ⟨by rw[mkSp.cntl_step hx,h1,hcnt];omega,by rw[mkSp.mkl_step hx,←h1];exact h2.snoc ⟨rfl,rfl⟩,h4⟩
   have HS:Hid (spl (spl (pre++(encSp x++ys)) (i*2) [.int .i64 (k':Nat)]) (i*2+1) [.int .i64 (k'+1:Nat)]=pre++encSp (mkSp.mak k' x)++ys):=hY ((splS_at (vs:=[.int .i64 (k':Nat),.int .i64 (k'+1:Nat)]) (us:=encSp x) hpl (Nat.le_refl 2)).trans (List.append_assoc ..).symm)
   have hfit:i*2+2≤(pre++(encSp x++ys)).length:=by rw[List.length_append,List.length_append,hpl];show i*2+2≤i*2+(2+ys.length);omega
   have hlt1:(i:Int)<n:=by omega
   clear h1 h2 h3 h4 HI hx hk1 hk2 hcnt hyl hpl e hv2 hlt'
   unfold encSp at *
   go_wp2_with (refine zR ?_;clear H;intro wn H)
   go_roundg (n-(i+1))
   case measure=>omega
   case rel=>exact⟨i+1,k'+2,_,ys,by omega,by go_num,by go_num,HI2,by rw[←HS.out];exact H⟩
  ·obtain rfl:i=n:=by omega
   have hlt1:=nlt i
   go_wp2_with (fail)
   go_ret
   obtain⟨h1,h2,h3⟩:=HI.out
   rw[(tkl HN)] at h1 h2
   rw[(drl HN)] at h3
   obtain⟨rfl,_⟩:=h3.unNil
   rw[List.append_nil] at H
   exact⟨congrArg (fun z:Nat=>Ending.returned (.int .i64 z)) (h1.trans HT.out.symm),own_close h2 H (by rw[Mark.mkl_len];exact HN.out)⟩
theorem heldSpanS_l(v:Value)(l:List Sp)(k:Nat)(hk:k+mkSp.cntl l<9223372036854775807)(w:World)(hr:(Ty.sl 174 tySp).rd w [v] (mkSp.mkl k l)):Gives Tryz.prog 316 #[v,.int .i64 k] w (.int .i64 (k+mkSp.cntl l:Nat)):=by
 obtain⟨A,c,rfl,hlc,hcm⟩:=sl_form hr
 unfold maxLen at *
 have HR:=hY hr
 have H:=Hs.start noRow w
 have hml:=mkSp.mkl_len k l
 rw[hml] at hlc HR ⊢
 obtain⟨n,hn⟩:=nm l.length
 have hnl:n≤9223372036854775807:=by omega
 rw[←hn] at HR ⊢
 have HN:=hY hn
 have HK:=hY hk
 obtain⟨tot,ht⟩:=nm (k+mkSp.cntl l)
 rw[←ht]
 have HT:=hY ht
 clear hr hn hlc hcm hk hml ht
 unfold Gives
 go_enter Tryz.func316,Tryz.ntmps316
 go_wp2_with (fail)
 go_loopg [1,5] n (fun m kv iv wr=>∃(i k':Nat),i+m=n∧iv = .int .i64 i∧kv = .int .i64 k'∧Hid (k'=k+mkSp.cntl (l.take i))∧Hs noRow w [] wr)
 case atStart=>exact⟨0,k,by omega,rfl,rfl,hY rfl,H⟩
 case round=>
  clear H
  obtain⟨i,k',hi,rfl,rfl,HI,H⟩:=hrel
  by_cases hlt:i<n
  ·obtain ⟨x,hx⟩:=atE HN hlt
   have hs:=sl_at (by have:=HR.out;rw[HN.out,←Mark.mkl_len mkSp k] at this;exact this) (mkSp.mkl_at (k:=k) hx)
   rw[Mark.mkl_len,←HN.out,←HI.out] at hs
   obtain⟨b,off,c',cs,hv,hcs,hA⟩:=hs
   injection hv with hv1 hv2 hv3
   subst hv1 hv3
   obtain rfl:cs=encSp (mkSp.mak k' x):=hcs
   have hk1:=mkSp.cnt_at_le hx
   have hk2:=HK.out
   have hk4:=HI.out
   have hcnt:mkSp.cnt x=2:=rfl
   have hk3:k'+2<9223372036854775807:=by omega
   have HI2:Hid (k'+2=k+mkSp.cntl (l.take (i+1))):=hY (by rw[mkSp.cntl_step hx,HI.out,hcnt];omega)
   have hlt1:(i:Int)<n:=by omega
   have h0:w.cell? ⟨b,off+i*2,none⟩=some (.int .i64 (k':Nat)):=hA.head (u := .int .i64 (k':Nat)) rfl
   have h1:w.cell? ⟨b,off+i*2+1,none⟩=some (.int .i64 (k'+1:Nat)):=hA 1 _ rfl
   clear hx hv2 hk1 hk2 hk4 hcnt HI hA
   go_wp2_with (refine zL ?_;clear H;intro wn H)
   go_roundg (n-(i+1))
   case measure=>omega
   case rel=>exact⟨i+1,k'+2,by omega,by go_num,by go_num,HI2,H⟩
  ·obtain rfl:i=n:=by omega
   have hlt1:=nlt i
   go_wp2_with (fail)
   go_ret
   have h1:=HI.out
   rw[(tkl HN)] at h1
   exact⟨congrArg (fun z:Nat=>Ending.returned (.int .i64 z)) (h1.trans HT.out.symm),H.below⟩
theorem markUseS_l(v:Value)(l:List Us)(k:Nat)(hk:k+mkUs.cntl l<9223372036854775807):Turn Tryz.prog 158 (Ty.sl 180 tyUs) [v] l (mkUs.mkl k l) #[v,.int .i64 k] (.int .i64 (k+mkUs.cntl l:Nat)):=by
 intro R w0 L w N hO H
 obtain⟨xs,M,A,c,rfl,hO,hcm,H⟩:=own_open hO H
 obtain rfl:M = []:=flat_noown hO
 unfold maxLen at *
 obtain⟨n,hn⟩:=nm l.length
 rw[←hn] at H ⊢
 have hn9:n≤9223372036854775807:=by obtain⟨_,_,h1,h2,h3⟩:=(H.rows .here).slice;injection h1;unfold maxLen at h3;omega
 have HN:=hY hn
 have HK:=hY hk
 have HO:=hY hO
 obtain⟨tot,ht⟩:=nm (k+mkUs.cntl l)
 rw[←ht]
 have HT:=hY ht
 clear hn hk hO hcm ht
 go_enter Tryz.func158,Tryz.ntmps158
 go_wp2_with (fail)
 go_loopg [1,5] n (fun m kv iv wr=>∃(i k':Nat) (pre post:List Value),i+m=n∧iv = .int .i64 i∧kv = .int .i64 k'∧Hid (k'=k+mkUs.cntl (l.take i)∧OwnL tyUs pre (mkUs.mkl k (l.take i)) []∧OwnL tyUs post (l.drop i) [])∧Hs R w0 (Hl.row 180 4 (.slice A n c) n (pre++post)::Hl.all []::L) wr)
 case atStart=>exact⟨0,k,[],xs,by omega,rfl,rfl,hY ⟨rfl,.nil,HO.out⟩,H⟩
 case round=>
  clear H
  obtain⟨i,k',pre,post,hi,rfl,rfl,HI,H⟩:=hrel
  by_cases hlt:i<n
  ·obtain ⟨x,hx⟩:=atE HN hlt
   obtain⟨g,c2,hv,_⟩:=(H.rows .here).form (by omega)
   injection hv with hv1 hv2 hv3
   subst hv1 hv3
   have hk1:=mkUs.cnt_at_le hx
   have hk2:=HK.out
   obtain⟨h1,h2,h3⟩:=HI.out
   obtain⟨hlt',e⟩:=List.getElem?_eq_some_iff.1 hx
   rw[List.drop_eq_getElem_cons hlt',e] at h3
   obtain⟨cs,ys,Mi,M3,rfl,hMM,⟨rfl,rfl⟩,h4⟩:=h3.un
   rw[List.nil_append] at hMM
   subst hMM
   have hpl:pre.length=i*4:=by rw[h2.len,Mark.mkl_len,List.length_take,Nat.min_eq_left (Nat.le_of_lt hlt')];rfl
   have hcnt:mkUs.cnt x=4:=rfl
   have hyl:ys.length+4+i*4=n*4:=by
    have:=(H.rows .here).len
    rw[List.length_append,List.length_append,hpl] at this
    have h5:(encUs x).length=4:=rfl
    omega
   have hk3:k'+4<9223372036854775807:=by omega
   have HI2:Hid (k'+4=k+mkUs.cntl (l.take (i+1))∧OwnL tyUs (pre++encUs (mkUs.mak k' x)) (mkUs.mkl k (l.take (i+1))) []∧OwnL tyUs ys (l.drop (i+1)) []):=
    hY ⟨by rw[mkUs.cntl_step hx,h1,hcnt];omega,by rw[mkUs.mkl_step hx,←h1];exact h2.snoc ⟨rfl,rfl⟩,h4⟩
   have HS:Hid (spl (spl (spl (spl (pre++(encUs x++ys)) (i*4) [.int .i64 (k':Nat)]) (i*4+1) [.int .i64 (k'+1:Nat)]) (i*4+2) [.string (bs (mtext (k'+2)))]) (i*4+3) [.int .i64 (k'+3:Nat)]=pre++encUs (mkUs.mak k' x)++ys):=hY ((splS_at (vs:=[.int .i64 (k':Nat),.int .i64 (k'+1:Nat),.string (bs (mtext (k'+2))),.int .i64 (k'+3:Nat)]) (us:=encUs x) hpl (Nat.le_refl 4)).trans (List.append_assoc ..).symm)
   have hfit:i*4+4≤(pre++(encUs x++ys)).length:=by rw[List.length_append,List.length_append,hpl];show i*4+4≤i*4+(4+ys.length);omega
   have hlt1:(i:Int)<n:=by omega
   clear h1 h2 h3 h4 HI hx hk1 hk2 hcnt hyl hpl e hv2 hlt'
   unfold encUs at *
   go_wp2_with ((first|refine zR ?_|(go_at_call 160;refine gvF (markText_at _ (k'+2) (by omega) (by omega) _) H ?_));clear H;intro wn H)
   go_roundg (n-(i+1))
   case measure=>omega
   case rel=>exact⟨i+1,k'+4,_,ys,by omega,by go_num,by go_num,HI2,by rw[←HS.out];exact H⟩
  ·obtain rfl:i=n:=by omega
   have hlt1:=nlt i
   go_wp2_with (fail)
   go_ret
   obtain⟨h1,h2,h3⟩:=HI.out
   rw[(tkl HN)] at h1 h2
   rw[(drl HN)] at h3
   obtain⟨rfl,_⟩:=h3.unNil
   rw[List.append_nil] at H
   exact⟨congrArg (fun z:Nat=>Ending.returned (.int .i64 z)) (h1.trans HT.out.symm),own_close h2 H (by rw[Mark.mkl_len];exact HN.out)⟩
theorem heldUseS_l(v:Value)(l:List Us)(k:Nat)(hk:k+mkUs.cntl l<9223372036854775807)(w:World)(hr:(Ty.sl 180 tyUs).rd w [v] (mkUs.mkl k l)):Gives Tryz.prog 237 #[v,.int .i64 k] w (.int .i64 (k+mkUs.cntl l:Nat)):=by
 obtain⟨A,c,rfl,hlc,hcm⟩:=sl_form hr
 unfold maxLen at *
 have HR:=hY hr
 have H:=Hs.start noRow w
 have hml:=mkUs.mkl_len k l
 rw[hml] at hlc HR ⊢
 obtain⟨n,hn⟩:=nm l.length
 have hnl:n≤9223372036854775807:=by omega
 rw[←hn] at HR ⊢
 have HN:=hY hn
 have HK:=hY hk
 obtain⟨tot,ht⟩:=nm (k+mkUs.cntl l)
 rw[←ht]
 have HT:=hY ht
 clear hr hn hlc hcm hk hml ht
 unfold Gives
 go_enter Tryz.func237,Tryz.ntmps237
 go_wp2_with (fail)
 go_loopg [1,5] n (fun m kv iv wr=>∃(i k':Nat),i+m=n∧iv = .int .i64 i∧kv = .int .i64 k'∧Hid (k'=k+mkUs.cntl (l.take i))∧Hs noRow w [] wr)
 case atStart=>exact⟨0,k,by omega,rfl,rfl,hY rfl,H⟩
 case round=>
  clear H
  obtain⟨i,k',hi,rfl,rfl,HI,H⟩:=hrel
  by_cases hlt:i<n
  ·obtain ⟨x,hx⟩:=atE HN hlt
   have hs:=sl_at (by have:=HR.out;rw[HN.out,←Mark.mkl_len mkUs k] at this;exact this) (mkUs.mkl_at (k:=k) hx)
   rw[Mark.mkl_len,←HN.out,←HI.out] at hs
   obtain⟨b,off,c',cs,hv,hcs,hA⟩:=hs
   injection hv with hv1 hv2 hv3
   subst hv1 hv3
   obtain rfl:cs=encUs (mkUs.mak k' x):=hcs
   have hk1:=mkUs.cnt_at_le hx
   have hk2:=HK.out
   have hk4:=HI.out
   have hcnt:mkUs.cnt x=4:=rfl
   have hk3:k'+4<9223372036854775807:=by omega
   have HI2:Hid (k'+4=k+mkUs.cntl (l.take (i+1))):=hY (by rw[mkUs.cntl_step hx,HI.out,hcnt];omega)
   have hlt1:(i:Int)<n:=by omega
   have h0:w.cell? ⟨b,off+i*4,none⟩=some (.int .i64 (k':Nat)):=hA.head (u := .int .i64 (k':Nat)) rfl
   have h1:w.cell? ⟨b,off+i*4+1,none⟩=some (.int .i64 (k'+1:Nat)):=hA 1 _ rfl
   have h2:w.cell? ⟨b,off+i*4+2,none⟩=some (.string (bs (mtext (k'+2)))):=hA 2 _ rfl
   have h3:w.cell? ⟨b,off+i*4+3,none⟩=some (.int .i64 (k'+3:Nat)):=hA 3 _ rfl
   clear hx hv2 hk1 hk2 hk4 hcnt HI hA
   go_wp2_with (first|(refine zL ?_;clear H;intro wn H)|(refine zHq 10 ?_;(iterate 6 (all_goals(refine zhFV ?_)));(all_goals(with_reducible refine Qk.mk ?_));(all_goals((with_reducible refine' hq_step ?_ ?_ ?_);rotate_left;rfl;(focus(intro w1 H1;unfold QOk;go_simp;exact q_call (markText_at _ (k'+2) (by omega) (by omega) _)));(try simp only[yG,yH,yJ,yK]);refine zp ?_));(all_goals(with_reducible refine Qk.out ?_));all_goals refine zhV ?_;all_goals(refine zHz ?_;clear H;intro wn H)))
   go_roundg (n-(i+1))
   case measure=>omega
   case rel=>exact⟨i+1,k'+4,by omega,by go_num,by go_num,HI2,H⟩
  ·obtain rfl:i=n:=by omega
   have hlt1:=nlt i
   go_wp2_with (fail)
   go_ret
   have h1:=HI.out
   rw[(tkl HN)] at h1
   exact⟨congrArg (fun z:Nat=>Ending.returned (.int .i64 z)) (h1.trans HT.out.symm),H.below⟩
end Go.Proofs.YtcabgibdkmgdlaaGreat
namespace Go.Proofs.YtcabgibdkmgdlaaGreat
open Go.RowKit M
theorem markLabelS_l(v:Value)(l:List Lab)(k:Nat)(hk:k+mkLab.cntl l<9223372036854775807):Turn Tryz.prog 312 (Ty.sl 123 tyLab) [v] l (mkLab.mkl k l) #[v,.int .i64 k] (.int .i64 (k+mkLab.cntl l:Nat)):=by
 intro R w0 L w N hO H
 obtain⟨xs,M,A,c,rfl,hO,hcm,H⟩:=own_open hO H
 obtain rfl:M = []:=flat_noown hO
 unfold maxLen at *
 obtain⟨n,hn⟩:=nm l.length
 rw[←hn] at H ⊢
 have hn9:n≤9223372036854775807:=by obtain⟨_,_,h1,h2,h3⟩:=(H.rows .here).slice;injection h1;unfold maxLen at h3;omega
 have HN:=hY hn
 have HK:=hY hk
 have HO:=hY hO
 obtain⟨tot,ht⟩:=nm (k+mkLab.cntl l)
 rw[←ht]
 have HT:=hY ht
 clear hn hk hO hcm ht
 go_enter Tryz.func312,Tryz.ntmps312
 go_wp2_with (fail)
 go_loopg [1,5] n (fun m kv iv wr=>∃(i k':Nat) (pre post:List Value),i+m=n∧iv = .int .i64 i∧kv = .int .i64 k'∧Hid (k'=k+mkLab.cntl (l.take i)∧OwnL tyLab pre (mkLab.mkl k (l.take i)) []∧OwnL tyLab post (l.drop i) [])∧Hs R w0 (Hl.row 123 2 (.slice A n c) n (pre++post)::Hl.all []::L) wr)
 case atStart=>exact⟨0,k,[],xs,by omega,rfl,rfl,hY ⟨rfl,.nil,HO.out⟩,H⟩
 case round=>
  clear H
  obtain⟨i,k',pre,post,hi,rfl,rfl,HI,H⟩:=hrel
  by_cases hlt:i<n
  ·obtain ⟨x,hx⟩:=atE HN hlt
   obtain⟨g,c2,hv,_⟩:=(H.rows .here).form (by omega)
   injection hv with hv1 hv2 hv3
   subst hv1 hv3
   have hk1:=mkLab.cnt_at_le hx
   have hk2:=HK.out
   obtain⟨h1,h2,h3⟩:=HI.out
   obtain⟨hlt',e⟩:=List.getElem?_eq_some_iff.1 hx
   rw[List.drop_eq_getElem_cons hlt',e] at h3
   obtain⟨cs,ys,Mi,M3,rfl,hMM,⟨rfl,rfl⟩,h4⟩:=h3.un
   rw[List.nil_append] at hMM
   subst hMM
   have hpl:pre.length=i*2:=by rw[h2.len,Mark.mkl_len,List.length_take,Nat.min_eq_left (Nat.le_of_lt hlt')];rfl
   have hcnt:mkLab.cnt x=2:=rfl
   have hyl:ys.length+2+i*2=n*2:=by
    have:=(H.rows .here).len
    rw[List.length_append,List.length_append,hpl] at this
    have h5:(encLab x).length=2:=rfl
    omega
   have hk3:k'+2<9223372036854775807:=by omega
   have HI2:Hid (k'+2=k+mkLab.cntl (l.take (i+1))∧OwnL tyLab (pre++encLab (mkLab.mak k' x)) (mkLab.mkl k (l.take (i+1))) []∧OwnL tyLab ys (l.drop (i+1)) []):=
    hY ⟨by rw[mkLab.cntl_step hx,h1,hcnt];omega,by rw[mkLab.mkl_step hx,←h1];exact h2.snoc ⟨rfl,rfl⟩,h4⟩
   have HS:Hid (spl (spl (pre++(encLab x++ys)) (i*2) [.int .i64 (k':Nat)]) (i*2+1) [.int .i64 (k'+1:Nat)]=pre++encLab (mkLab.mak k' x)++ys):=hY ((spl_2 pre _ ys hpl).trans (List.append_assoc ..).symm)
   have hfit:i*2+2≤(pre++(encLab x++ys)).length:=by rw[List.length_append,List.length_append,hpl];show i*2+2≤i*2+(2+ys.length);omega
   have hlt1:(i:Int)<n:=by omega
   clear h1 h2 h3 h4 HI hx hk1 hk2 hcnt hyl hpl e hv2 hlt'
   unfold encLab at *
   go_wp2_with (refine zR ?_;clear H;intro wn H)
   go_roundg (n-(i+1))
   case measure=>omega
   case rel=>exact⟨i+1,k'+2,_,ys,by omega,by go_num,by go_num,HI2,by rw[←HS.out];exact H⟩
  ·obtain rfl:i=n:=by omega
   have hlt1:=nlt i
   go_wp2_with (fail)
   go_ret
   obtain⟨h1,h2,h3⟩:=HI.out
   rw[(tkl HN)] at h1 h2
   rw[(drl HN)] at h3
   obtain⟨rfl,_⟩:=h3.unNil
   rw[List.append_nil] at H
   exact⟨congrArg (fun z:Nat=>Ending.returned (.int .i64 z)) (h1.trans HT.out.symm),own_close h2 H (by rw[Mark.mkl_len];exact HN.out)⟩
theorem heldLabelS_l(v:Value)(l:List Lab)(k:Nat)(hk:k+mkLab.cntl l<9223372036854775807)(w:World)(hr:(Ty.sl 123 tyLab).rd w [v] (mkLab.mkl k l)):Gives Tryz.prog 344 #[v,.int .i64 k] w (.int .i64 (k+mkLab.cntl l:Nat)):=by
 obtain⟨A,c,rfl,hlc,hcm⟩:=sl_form hr
 unfold maxLen at *
 have HR:=hY hr
 have H:=Hs.start noRow w
 have hml:=mkLab.mkl_len k l
 rw[hml] at hlc HR ⊢
 obtain⟨n,hn⟩:=nm l.length
 have hnl:n≤9223372036854775807:=by omega
 rw[←hn] at HR ⊢
 have HN:=hY hn
 have HK:=hY hk
 obtain⟨tot,ht⟩:=nm (k+mkLab.cntl l)
 rw[←ht]
 have HT:=hY ht
 clear hr hn hlc hcm hk hml ht
 unfold Gives
 go_enter Tryz.func344,Tryz.ntmps344
 go_wp2_with (fail)
 go_loopg [1,5] n (fun m kv iv wr=>∃(i k':Nat),i+m=n∧iv = .int .i64 i∧kv = .int .i64 k'∧Hid (k'=k+mkLab.cntl (l.take i))∧Hs noRow w [] wr)
 case atStart=>exact⟨0,k,by omega,rfl,rfl,hY rfl,H⟩
 case round=>
  clear H
  obtain⟨i,k',hi,rfl,rfl,HI,H⟩:=hrel
  by_cases hlt:i<n
  ·obtain ⟨x,hx⟩:=atE HN hlt
   have hs:=sl_at (by have:=HR.out;rw[HN.out,←Mark.mkl_len mkLab k] at this;exact this) (mkLab.mkl_at (k:=k) hx)
   rw[Mark.mkl_len,←HN.out,←HI.out] at hs
   obtain⟨b,off,c',cs,hv,hcs,hA⟩:=hs
   injection hv with hv1 hv2 hv3
   subst hv1 hv3
   obtain rfl:cs=encLab (mkLab.mak k' x):=hcs
   have hk1:=mkLab.cnt_at_le hx
   have hk2:=HK.out
   have hk4:=HI.out
   have hcnt:mkLab.cnt x=2:=rfl
   have hk3:k'+2<9223372036854775807:=by omega
   have HI2:Hid (k'+2=k+mkLab.cntl (l.take (i+1))):=hY (by rw[mkLab.cntl_step hx,HI.out,hcnt];omega)
   have hlt1:(i:Int)<n:=by omega
   have h0:w.cell? ⟨b,off+i*2,none⟩=some (.int .i64 (k':Nat)):=hA.head (u := .int .i64 (k':Nat)) rfl
   have h1:w.cell? ⟨b,off+i*2+1,none⟩=some (.int .i64 (k'+1:Nat)):=hA 1 _ rfl
   clear hx hv2 hk1 hk2 hk4 hcnt HI hA
   go_wp2_with (refine zL ?_;clear H;intro wn H)
   go_roundg (n-(i+1))
   case measure=>omega
   case rel=>exact⟨i+1,k'+2,by omega,by go_num,by go_num,HI2,H⟩
  ·obtain rfl:i=n:=by omega
   have hlt1:=nlt i
   go_wp2_with (fail)
   go_ret
   have h1:=HI.out
   rw[(tkl HN)] at h1
   exact⟨congrArg (fun z:Nat=>Ending.returned (.int .i64 z)) (h1.trans HT.out.symm),H.below⟩
theorem markPairS_l(v:Value)(l:List Pr)(k:Nat)(hk:k+mkPr.cntl l<9223372036854775807):Turn Tryz.prog 229 (Ty.sl 182 tyPr) [v] l (mkPr.mkl k l) #[v,.int .i64 k] (.int .i64 (k+mkPr.cntl l:Nat)):=by
 intro R w0 L w N hO H
 obtain⟨xs,M,A,c,rfl,hO,hcm,H⟩:=own_open hO H
 obtain rfl:M = []:=flat_noown hO
 unfold maxLen at *
 obtain⟨n,hn⟩:=nm l.length
 rw[←hn] at H ⊢
 have hn9:n≤9223372036854775807:=by obtain⟨_,_,h1,h2,h3⟩:=(H.rows .here).slice;injection h1;unfold maxLen at h3;omega
 have HN:=hY hn
 have HK:=hY hk
 have HO:=hY hO
 obtain⟨tot,ht⟩:=nm (k+mkPr.cntl l)
 rw[←ht]
 have HT:=hY ht
 clear hn hk hO hcm ht
 go_enter Tryz.func229,Tryz.ntmps229
 go_wp2_with (fail)
 go_loopg [1,5] n (fun m kv iv wr=>∃(i k':Nat) (pre post:List Value),i+m=n∧iv = .int .i64 i∧kv = .int .i64 k'∧Hid (k'=k+mkPr.cntl (l.take i)∧OwnL tyPr pre (mkPr.mkl k (l.take i)) []∧OwnL tyPr post (l.drop i) [])∧Hs R w0 (Hl.row 182 5 (.slice A n c) n (pre++post)::Hl.all []::L) wr)
 case atStart=>exact⟨0,k,[],xs,by omega,rfl,rfl,hY ⟨rfl,.nil,HO.out⟩,H⟩
 case round=>
  clear H
  obtain⟨i,k',pre,post,hi,rfl,rfl,HI,H⟩:=hrel
  by_cases hlt:i<n
  ·obtain ⟨x,hx⟩:=atE HN hlt
   obtain⟨g,c2,hv,_⟩:=(H.rows .here).form (by omega)
   injection hv with hv1 hv2 hv3
   subst hv1 hv3
   have hk1:=mkPr.cnt_at_le hx
   have hk2:=HK.out
   obtain⟨h1,h2,h3⟩:=HI.out
   obtain⟨hlt',e⟩:=List.getElem?_eq_some_iff.1 hx
   rw[List.drop_eq_getElem_cons hlt',e] at h3
   obtain⟨cs,ys,Mi,M3,rfl,hMM,⟨rfl,rfl⟩,h4⟩:=h3.un
   rw[List.nil_append] at hMM
   subst hMM
   have hpl:pre.length=i*5:=by rw[h2.len,Mark.mkl_len,List.length_take,Nat.min_eq_left (Nat.le_of_lt hlt')];rfl
   have hcnt:mkPr.cnt x=5:=rfl
   have hyl:ys.length+5+i*5=n*5:=by
    have:=(H.rows .here).len
    rw[List.length_append,List.length_append,hpl] at this
    have h5:(encPr x).length=5:=rfl
    omega
   have hk3:k'+5<9223372036854775807:=by omega
   have HI2:Hid (k'+5=k+mkPr.cntl (l.take (i+1))∧OwnL tyPr (pre++encPr (mkPr.mak k' x)) (mkPr.mkl k (l.take (i+1))) []∧OwnL tyPr ys (l.drop (i+1)) []):=
    hY ⟨by rw[mkPr.cntl_step hx,h1,hcnt];omega,by rw[mkPr.mkl_step hx,←h1];exact h2.snoc ⟨rfl,rfl⟩,h4⟩
   have HS:Hid (spl (spl (spl (spl (spl (pre++(encPr x++ys)) (i*5) [.int .i64 (k':Nat)]) (i*5+1) [.int .i64 (k'+1:Nat)]) (i*5+2) [.int .i64 (k'+2:Nat)]) (i*5+3) [.int .i64 (k'+3:Nat)]) (i*5+4) [.int .i64 (k'+4:Nat)]=pre++encPr (mkPr.mak k' x)++ys):=hY ((spl_5 pre _ ys hpl).trans (List.append_assoc ..).symm)
   have hfit:i*5+5≤(pre++(encPr x++ys)).length:=by rw[List.length_append,List.length_append,hpl];show i*5+5≤i*5+(5+ys.length);omega
   have hlt1:(i:Int)<n:=by omega
   clear h1 h2 h3 h4 HI hx hk1 hk2 hcnt hyl hpl e hv2 hlt'
   unfold encPr at *
   go_wp2_with (refine zR ?_;clear H;intro wn H)
   go_roundg (n-(i+1))
   case measure=>omega
   case rel=>exact⟨i+1,k'+5,_,ys,by omega,by go_num,by go_num,HI2,by rw[←HS.out];exact H⟩
  ·obtain rfl:i=n:=by omega
   have hlt1:=nlt i
   go_wp2_with (fail)
   go_ret
   obtain⟨h1,h2,h3⟩:=HI.out
   rw[(tkl HN)] at h1 h2
   rw[(drl HN)] at h3
   obtain⟨rfl,_⟩:=h3.unNil
   rw[List.append_nil] at H
   exact⟨congrArg (fun z:Nat=>Ending.returned (.int .i64 z)) (h1.trans HT.out.symm),own_close h2 H (by rw[Mark.mkl_len];exact HN.out)⟩
theorem heldPairS_l(v:Value)(l:List Pr)(k:Nat)(hk:k+mkPr.cntl l<9223372036854775807)(w:World)(hr:(Ty.sl 182 tyPr).rd w [v] (mkPr.mkl k l)):Gives Tryz.prog 314 #[v,.int .i64 k] w (.int .i64 (k+mkPr.cntl l:Nat)):=by
 obtain⟨A,c,rfl,hlc,hcm⟩:=sl_form hr
 unfold maxLen at *
 have HR:=hY hr
 have H:=Hs.start noRow w
 have hml:=mkPr.mkl_len k l
 rw[hml] at hlc HR ⊢
 obtain⟨n,hn⟩:=nm l.length
 have hnl:n≤9223372036854775807:=by omega
 rw[←hn] at HR ⊢
 have HN:=hY hn
 have HK:=hY hk
 obtain⟨tot,ht⟩:=nm (k+mkPr.cntl l)
 rw[←ht]
 have HT:=hY ht
 clear hr hn hlc hcm hk hml ht
 unfold Gives
 go_enter Tryz.func314,Tryz.ntmps314
 go_wp2_with (fail)
 go_loopg [1,5] n (fun m kv iv wr=>∃(i k':Nat),i+m=n∧iv = .int .i64 i∧kv = .int .i64 k'∧Hid (k'=k+mkPr.cntl (l.take i))∧Hs noRow w [] wr)
 case atStart=>exact⟨0,k,by omega,rfl,rfl,hY rfl,H⟩
 case round=>
  clear H
  obtain⟨i,k',hi,rfl,rfl,HI,H⟩:=hrel
  by_cases hlt:i<n
  ·obtain ⟨x,hx⟩:=atE HN hlt
   have hs:=sl_at (by have:=HR.out;rw[HN.out,←Mark.mkl_len mkPr k] at this;exact this) (mkPr.mkl_at (k:=k) hx)
   rw[Mark.mkl_len,←HN.out,←HI.out] at hs
   obtain⟨b,off,c',cs,hv,hcs,hA⟩:=hs
   injection hv with hv1 hv2 hv3
   subst hv1 hv3
   obtain rfl:cs=encPr (mkPr.mak k' x):=hcs
   have hk1:=mkPr.cnt_at_le hx
   have hk2:=HK.out
   have hk4:=HI.out
   have hcnt:mkPr.cnt x=5:=rfl
   have hk3:k'+5<9223372036854775807:=by omega
   have HI2:Hid (k'+5=k+mkPr.cntl (l.take (i+1))):=hY (by rw[mkPr.cntl_step hx,HI.out,hcnt];omega)
   have hlt1:(i:Int)<n:=by omega
   have h0:w.cell? ⟨b,off+i*5,none⟩=some (.int .i64 (k':Nat)):=hA.head (u := .int .i64 (k':Nat)) rfl
   have h1:w.cell? ⟨b,off+i*5+1,none⟩=some (.int .i64 (k'+1:Nat)):=hA 1 _ rfl
   have h2:w.cell? ⟨b,off+i*5+2,none⟩=some (.int .i64 (k'+2:Nat)):=hA 2 _ rfl
   have h3:w.cell? ⟨b,off+i*5+3,none⟩=some (.int .i64 (k'+3:Nat)):=hA 3 _ rfl
   have h4:w.cell? ⟨b,off+i*5+4,none⟩=some (.int .i64 (k'+4:Nat)):=hA 4 _ rfl
   clear hx hv2 hk1 hk2 hk4 hcnt HI hA
   go_wp2_with (refine zL ?_;clear H;intro wn H)
   go_roundg (n-(i+1))
   case measure=>omega
   case rel=>exact⟨i+1,k'+5,by omega,by go_num,by go_num,HI2,H⟩
  ·obtain rfl:i=n:=by omega
   have hlt1:=nlt i
   go_wp2_with (fail)
   go_ret
   have h1:=HI.out
   rw[(tkl HN)] at h1
   exact⟨congrArg (fun z:Nat=>Ending.returned (.int .i64 z)) (h1.trans HT.out.symm),H.below⟩
theorem markQuotaS_l(v:Value)(l:List Qt)(k:Nat)(hk:k+mkQt.cntl l<9223372036854775807):Turn Tryz.prog 230 (Ty.sl 279 tyQt) [v] l (mkQt.mkl k l) #[v,.int .i64 k] (.int .i64 (k+mkQt.cntl l:Nat)):=by
 intro R w0 L w N hO H
 obtain⟨xs,M,A,c,rfl,hO,hcm,H⟩:=own_open hO H
 obtain rfl:M = []:=flat_noown hO
 unfold maxLen at *
 obtain⟨n,hn⟩:=nm l.length
 rw[←hn] at H ⊢
 have hn9:n≤9223372036854775807:=by obtain⟨_,_,h1,h2,h3⟩:=(H.rows .here).slice;injection h1;unfold maxLen at h3;omega
 have HN:=hY hn
 have HK:=hY hk
 have HO:=hY hO
 obtain⟨tot,ht⟩:=nm (k+mkQt.cntl l)
 rw[←ht]
 have HT:=hY ht
 clear hn hk hO hcm ht
 go_enter Tryz.func230,Tryz.ntmps230
 go_wp2_with (fail)
 go_loopg [1,5] n (fun m kv iv wr=>∃(i k':Nat) (pre post:List Value),i+m=n∧iv = .int .i64 i∧kv = .int .i64 k'∧Hid (k'=k+mkQt.cntl (l.take i)∧OwnL tyQt pre (mkQt.mkl k (l.take i)) []∧OwnL tyQt post (l.drop i) [])∧Hs R w0 (Hl.row 279 3 (.slice A n c) n (pre++post)::Hl.all []::L) wr)
 case atStart=>exact⟨0,k,[],xs,by omega,rfl,rfl,hY ⟨rfl,.nil,HO.out⟩,H⟩
 case round=>
  clear H
  obtain⟨i,k',pre,post,hi,rfl,rfl,HI,H⟩:=hrel
  by_cases hlt:i<n
  ·obtain ⟨x,hx⟩:=atE HN hlt
   obtain⟨g,c2,hv,_⟩:=(H.rows .here).form (by omega)
   injection hv with hv1 hv2 hv3
   subst hv1 hv3
   have hk1:=mkQt.cnt_at_le hx
   have hk2:=HK.out
   obtain⟨h1,h2,h3⟩:=HI.out
   obtain⟨hlt',e⟩:=List.getElem?_eq_some_iff.1 hx
   rw[List.drop_eq_getElem_cons hlt',e] at h3
   obtain⟨cs,ys,Mi,M3,rfl,hMM,⟨rfl,rfl⟩,h4⟩:=h3.un
   rw[List.nil_append] at hMM
   subst hMM
   have hpl:pre.length=i*3:=by rw[h2.len,Mark.mkl_len,List.length_take,Nat.min_eq_left (Nat.le_of_lt hlt')];rfl
   have hcnt:mkQt.cnt x=3:=rfl
   have hyl:ys.length+3+i*3=n*3:=by
    have:=(H.rows .here).len
    rw[List.length_append,List.length_append,hpl] at this
    have h5:(encQt x).length=3:=rfl
    omega
   have hk3:k'+3<9223372036854775807:=by omega
   have HI2:Hid (k'+3=k+mkQt.cntl (l.take (i+1))∧OwnL tyQt (pre++encQt (mkQt.mak k' x)) (mkQt.mkl k (l.take (i+1))) []∧OwnL tyQt ys (l.drop (i+1)) []):=
    hY ⟨by rw[mkQt.cntl_step hx,h1,hcnt];omega,by rw[mkQt.mkl_step hx,←h1];exact h2.snoc ⟨rfl,rfl⟩,h4⟩
   have HS:Hid (spl (spl (spl (pre++(encQt x++ys)) (i*3) [.int .i64 (k':Nat)]) (i*3+1) [.int .i64 (k'+1:Nat)]) (i*3+2) [.int .i64 (k'+2:Nat)]=pre++encQt (mkQt.mak k' x)++ys):=hY ((spl_3 pre _ ys hpl).trans (List.append_assoc ..).symm)
   have hfit:i*3+3≤(pre++(encQt x++ys)).length:=by rw[List.length_append,List.length_append,hpl];show i*3+3≤i*3+(3+ys.length);omega
   have hlt1:(i:Int)<n:=by omega
   clear h1 h2 h3 h4 HI hx hk1 hk2 hcnt hyl hpl e hv2 hlt'
   unfold encQt at *
   go_wp2_with (refine zR ?_;clear H;intro wn H)
   go_roundg (n-(i+1))
   case measure=>omega
   case rel=>exact⟨i+1,k'+3,_,ys,by omega,by go_num,by go_num,HI2,by rw[←HS.out];exact H⟩
  ·obtain rfl:i=n:=by omega
   have hlt1:=nlt i
   go_wp2_with (fail)
   go_ret
   obtain⟨h1,h2,h3⟩:=HI.out
   rw[(tkl HN)] at h1 h2
   rw[(drl HN)] at h3
   obtain⟨rfl,_⟩:=h3.unNil
   rw[List.append_nil] at H
   exact⟨congrArg (fun z:Nat=>Ending.returned (.int .i64 z)) (h1.trans HT.out.symm),own_close h2 H (by rw[Mark.mkl_len];exact HN.out)⟩
theorem heldQuotaS_l(v:Value)(l:List Qt)(k:Nat)(hk:k+mkQt.cntl l<9223372036854775807)(w:World)(hr:(Ty.sl 279 tyQt).rd w [v] (mkQt.mkl k l)):Gives Tryz.prog 315 #[v,.int .i64 k] w (.int .i64 (k+mkQt.cntl l:Nat)):=by
 obtain⟨A,c,rfl,hlc,hcm⟩:=sl_form hr
 unfold maxLen at *
 have HR:=hY hr
 have H:=Hs.start noRow w
 have hml:=mkQt.mkl_len k l
 rw[hml] at hlc HR ⊢
 obtain⟨n,hn⟩:=nm l.length
 have hnl:n≤9223372036854775807:=by omega
 rw[←hn] at HR ⊢
 have HN:=hY hn
 have HK:=hY hk
 obtain⟨tot,ht⟩:=nm (k+mkQt.cntl l)
 rw[←ht]
 have HT:=hY ht
 clear hr hn hlc hcm hk hml ht
 unfold Gives
 go_enter Tryz.func315,Tryz.ntmps315
 go_wp2_with (fail)
 go_loopg [1,5] n (fun m kv iv wr=>∃(i k':Nat),i+m=n∧iv = .int .i64 i∧kv = .int .i64 k'∧Hid (k'=k+mkQt.cntl (l.take i))∧Hs noRow w [] wr)
 case atStart=>exact⟨0,k,by omega,rfl,rfl,hY rfl,H⟩
 case round=>
  clear H
  obtain⟨i,k',hi,rfl,rfl,HI,H⟩:=hrel
  by_cases hlt:i<n
  ·obtain ⟨x,hx⟩:=atE HN hlt
   have hs:=sl_at (by have:=HR.out;rw[HN.out,←Mark.mkl_len mkQt k] at this;exact this) (mkQt.mkl_at (k:=k) hx)
   rw[Mark.mkl_len,←HN.out,←HI.out] at hs
   obtain⟨b,off,c',cs,hv,hcs,hA⟩:=hs
   injection hv with hv1 hv2 hv3
   subst hv1 hv3
   obtain rfl:cs=encQt (mkQt.mak k' x):=hcs
   have hk1:=mkQt.cnt_at_le hx
   have hk2:=HK.out
   have hk4:=HI.out
   have hcnt:mkQt.cnt x=3:=rfl
   have hk3:k'+3<9223372036854775807:=by omega
   have HI2:Hid (k'+3=k+mkQt.cntl (l.take (i+1))):=hY (by rw[mkQt.cntl_step hx,HI.out,hcnt];omega)
   have hlt1:(i:Int)<n:=by omega
   have h0:w.cell? ⟨b,off+i*3,none⟩=some (.int .i64 (k':Nat)):=hA.head (u := .int .i64 (k':Nat)) rfl
   have h1:w.cell? ⟨b,off+i*3+1,none⟩=some (.int .i64 (k'+1:Nat)):=hA 1 _ rfl
   have h2:w.cell? ⟨b,off+i*3+2,none⟩=some (.int .i64 (k'+2:Nat)):=hA 2 _ rfl
   clear hx hv2 hk1 hk2 hk4 hcnt HI hA
   go_wp2_with (refine zL ?_;clear H;intro wn H)
   go_roundg (n-(i+1))
   case measure=>omega
   case rel=>exact⟨i+1,k'+3,by omega,by go_num,by go_num,HI2,H⟩
  ·obtain rfl:i=n:=by omega
   have hlt1:=nlt i
   go_wp2_with (fail)
   go_ret
   have h1:=HI.out
   rw[(tkl HN)] at h1
   exact⟨congrArg (fun z:Nat=>Ending.returned (.int .i64 z)) (h1.trans HT.out.symm),H.below⟩
theorem markNoteS_l(v:Value)(l:List Nt)(k:Nat)(hk:k+mkNt.cntl l<9223372036854775807):Turn Tryz.prog 233 (Ty.sl 162 tyNt) [v] l (mkNt.mkl k l) #[v,.int .i64 k] (.int .i64 (k+mkNt.cntl l:Nat)):=by
 intro R w0 L w N hO H
 obtain⟨xs,M,A,c,rfl,hO,hcm,H⟩:=own_open hO H
 obtain rfl:M = []:=flat_noown hO
 unfold maxLen at *
 obtain⟨n,hn⟩:=nm l.length
 rw[←hn] at H ⊢
 have hn9:n≤9223372036854775807:=by obtain⟨_,_,h1,h2,h3⟩:=(H.rows .here).slice;injection h1;unfold maxLen at h3;omega
 have HN:=hY hn
 have HK:=hY hk
 have HO:=hY hO
 obtain⟨tot,ht⟩:=nm (k+mkNt.cntl l)
 rw[←ht]
 have HT:=hY ht
 clear hn hk hO hcm ht
 go_enter Tryz.func233,Tryz.ntmps233
 go_wp2_with (fail)
 go_loopg [1,5] n (fun m kv iv wr=>∃(i k':Nat) (pre post:List Value),i+m=n∧iv = .int .i64 i∧kv = .int .i64 k'∧Hid (k'=k+mkNt.cntl (l.take i)∧OwnL tyNt pre (mkNt.mkl k (l.take i)) []∧OwnL tyNt post (l.drop i) [])∧Hs R w0 (Hl.row 162 2 (.slice A n c) n (pre++post)::Hl.all []::L) wr)
 case atStart=>exact⟨0,k,[],xs,by omega,rfl,rfl,hY ⟨rfl,.nil,HO.out⟩,H⟩
 case round=>
  clear H
  obtain⟨i,k',pre,post,hi,rfl,rfl,HI,H⟩:=hrel
  by_cases hlt:i<n
  ·obtain ⟨x,hx⟩:=atE HN hlt
   obtain⟨g,c2,hv,_⟩:=(H.rows .here).form (by omega)
   injection hv with hv1 hv2 hv3
   subst hv1 hv3
   have hk1:=mkNt.cnt_at_le hx
   have hk2:=HK.out
   obtain⟨h1,h2,h3⟩:=HI.out
   obtain⟨hlt',e⟩:=List.getElem?_eq_some_iff.1 hx
   rw[List.drop_eq_getElem_cons hlt',e] at h3
   obtain⟨cs,ys,Mi,M3,rfl,hMM,⟨rfl,rfl⟩,h4⟩:=h3.un
   rw[List.nil_append] at hMM
   subst hMM
   have hpl:pre.length=i*2:=by rw[h2.len,Mark.mkl_len,List.length_take,Nat.min_eq_left (Nat.le_of_lt hlt')];rfl
   have hcnt:mkNt.cnt x=2:=rfl
   have hyl:ys.length+2+i*2=n*2:=by
    have:=(H.rows .here).len
    rw[List.length_append,List.length_append,hpl] at this
    have h5:(encNt x).length=2:=rfl
    omega
   have hk3:k'+2<9223372036854775807:=by omega
   have HI2:Hid (k'+2=k+mkNt.cntl (l.take (i+1))∧OwnL tyNt (pre++encNt (mkNt.mak k' x)) (mkNt.mkl k (l.take (i+1))) []∧OwnL tyNt ys (l.drop (i+1)) []):=
    hY ⟨by rw[mkNt.cntl_step hx,h1,hcnt];omega,by rw[mkNt.mkl_step hx,←h1];exact h2.snoc ⟨rfl,rfl⟩,h4⟩
   have HS:Hid (spl (spl (pre++(encNt x++ys)) (i*2) [.int .i64 (k':Nat)]) (i*2+1) [.int .i64 (k'+1:Nat)]=pre++encNt (mkNt.mak k' x)++ys):=hY ((spl_2 pre _ ys hpl).trans (List.append_assoc ..).symm)
   have hfit:i*2+2≤(pre++(encNt x++ys)).length:=by rw[List.length_append,List.length_append,hpl];show i*2+2≤i*2+(2+ys.length);omega
   have hlt1:(i:Int)<n:=by omega
   clear h1 h2 h3 h4 HI hx hk1 hk2 hcnt hyl hpl e hv2 hlt'
   unfold encNt at *
   go_wp2_with (refine zR ?_;clear H;intro wn H)
   go_roundg (n-(i+1))
   case measure=>omega
   case rel=>exact⟨i+1,k'+2,_,ys,by omega,by go_num,by go_num,HI2,by rw[←HS.out];exact H⟩
  ·obtain rfl:i=n:=by omega
   have hlt1:=nlt i
   go_wp2_with (fail)
   go_ret
   obtain⟨h1,h2,h3⟩:=HI.out
   rw[(tkl HN)] at h1 h2
   rw[(drl HN)] at h3
   obtain⟨rfl,_⟩:=h3.unNil
   rw[List.append_nil] at H
   exact⟨congrArg (fun z:Nat=>Ending.returned (.int .i64 z)) (h1.trans HT.out.symm),own_close h2 H (by rw[Mark.mkl_len];exact HN.out)⟩
theorem heldNoteS_l(v:Value)(l:List Nt)(k:Nat)(hk:k+mkNt.cntl l<9223372036854775807)(w:World)(hr:(Ty.sl 162 tyNt).rd w [v] (mkNt.mkl k l)):Gives Tryz.prog 318 #[v,.int .i64 k] w (.int .i64 (k+mkNt.cntl l:Nat)):=by
 obtain⟨A,c,rfl,hlc,hcm⟩:=sl_form hr
 unfold maxLen at *
 have HR:=hY hr
 have H:=Hs.start noRow w
 have hml:=mkNt.mkl_len k l
 rw[hml] at hlc HR ⊢
 obtain⟨n,hn⟩:=nm l.length
 have hnl:n≤9223372036854775807:=by omega
 rw[←hn] at HR ⊢
 have HN:=hY hn
 have HK:=hY hk
 obtain⟨tot,ht⟩:=nm (k+mkNt.cntl l)
 rw[←ht]
 have HT:=hY ht
 clear hr hn hlc hcm hk hml ht
 unfold Gives
 go_enter Tryz.func318,Tryz.ntmps318
 go_wp2_with (fail)
 go_loopg [1,5] n (fun m kv iv wr=>∃(i k':Nat),i+m=n∧iv = .int .i64 i∧kv = .int .i64 k'∧Hid (k'=k+mkNt.cntl (l.take i))∧Hs noRow w [] wr)
 case atStart=>exact⟨0,k,by omega,rfl,rfl,hY rfl,H⟩
 case round=>
  clear H
  obtain⟨i,k',hi,rfl,rfl,HI,H⟩:=hrel
  by_cases hlt:i<n
  ·obtain ⟨x,hx⟩:=atE HN hlt
   have hs:=sl_at (by have:=HR.out;rw[HN.out,←Mark.mkl_len mkNt k] at this;exact this) (mkNt.mkl_at (k:=k) hx)
   rw[Mark.mkl_len,←HN.out,←HI.out] at hs
   obtain⟨b,off,c',cs,hv,hcs,hA⟩:=hs
   injection hv with hv1 hv2 hv3
   subst hv1 hv3
   obtain rfl:cs=encNt (mkNt.mak k' x):=hcs
   have hk1:=mkNt.cnt_at_le hx
   have hk2:=HK.out
   have hk4:=HI.out
   have hcnt:mkNt.cnt x=2:=rfl
   have hk3:k'+2<9223372036854775807:=by omega
   have HI2:Hid (k'+2=k+mkNt.cntl (l.take (i+1))):=hY (by rw[mkNt.cntl_step hx,HI.out,hcnt];omega)
   have hlt1:(i:Int)<n:=by omega
   have h0:w.cell? ⟨b,off+i*2,none⟩=some (.int .i64 (k':Nat)):=hA.head (u := .int .i64 (k':Nat)) rfl
   have h1:w.cell? ⟨b,off+i*2+1,none⟩=some (.int .i64 (k'+1:Nat)):=hA 1 _ rfl
   clear hx hv2 hk1 hk2 hk4 hcnt HI hA
   go_wp2_with (refine zL ?_;clear H;intro wn H)
   go_roundg (n-(i+1))
   case measure=>omega
   case rel=>exact⟨i+1,k'+2,by omega,by go_num,by go_num,HI2,H⟩
  ·obtain rfl:i=n:=by omega
   have hlt1:=nlt i
   go_wp2_with (fail)
   go_ret
   have h1:=HI.out
   rw[(tkl HN)] at h1
   exact⟨congrArg (fun z:Nat=>Ending.returned (.int .i64 z)) (h1.trans HT.out.symm),H.below⟩
theorem markInt64S_l(v:Value)(l:List Int)(k:Nat)(hk:k+mkNum.cntl l<9223372036854775807):Turn Tryz.prog 232 (Ty.sl 2 tyNum) [v] l (mkNum.mkl k l) #[v,.int .i64 k] (.int .i64 (k+mkNum.cntl l:Nat)):=by
 intro R w0 L w N hO H
 obtain⟨xs,M,A,c,rfl,hO,hcm,H⟩:=own_open hO H
 obtain rfl:M = []:=flat_noown hO
 unfold maxLen at *
 obtain⟨n,hn⟩:=nm l.length
 rw[←hn] at H ⊢
 have hn9:n≤9223372036854775807:=by obtain⟨_,_,h1,h2,h3⟩:=(H.rows .here).slice;injection h1;unfold maxLen at h3;omega
 have HN:=hY hn
 have HK:=hY hk
 have HO:=hY hO
 obtain⟨tot,ht⟩:=nm (k+mkNum.cntl l)
 rw[←ht]
 have HT:=hY ht
 clear hn hk hO hcm ht
 go_enter Tryz.func232,Tryz.ntmps232
 go_wp2_with (fail)
 go_loopg [1,5] n (fun m kv iv wr=>∃(i k':Nat) (pre post:List Value),i+m=n∧iv = .int .i64 i∧kv = .int .i64 k'∧Hid (k'=k+mkNum.cntl (l.take i)∧OwnL tyNum pre (mkNum.mkl k (l.take i)) []∧OwnL tyNum post (l.drop i) [])∧Hs R w0 (Hl.row 2 1 (.slice A n c) n (pre++post)::Hl.all []::L) wr)
 case atStart=>exact⟨0,k,[],xs,by omega,rfl,rfl,hY ⟨rfl,.nil,HO.out⟩,H⟩
 case round=>
  clear H
  obtain⟨i,k',pre,post,hi,rfl,rfl,HI,H⟩:=hrel
  by_cases hlt:i<n
  ·obtain ⟨x,hx⟩:=atE HN hlt
   obtain⟨g,c2,hv,_⟩:=(H.rows .here).form (by omega)
   injection hv with hv1 hv2 hv3
   subst hv1 hv3
   have hk1:=mkNum.cnt_at_le hx
   have hk2:=HK.out
   obtain⟨h1,h2,h3⟩:=HI.out
   obtain⟨hlt',e⟩:=List.getElem?_eq_some_iff.1 hx
   rw[List.drop_eq_getElem_cons hlt',e] at h3
   obtain⟨cs,ys,Mi,M3,rfl,hMM,⟨rfl,rfl⟩,h4⟩:=h3.un
   rw[List.nil_append] at hMM
   subst hMM
   have hpl:pre.length=i*1:=by rw[h2.len,Mark.mkl_len,List.length_take,Nat.min_eq_left (Nat.le_of_lt hlt')];rfl
   have hcnt:mkNum.cnt x=1:=rfl
   have hyl:ys.length+1+i*1=n*1:=by
    have:=(H.rows .here).len
    rw[List.length_append,List.length_append,hpl] at this
    have h5:(encNum x).length=1:=rfl
    omega
   have hk3:k'+1<9223372036854775807:=by omega
   have HI2:Hid (k'+1=k+mkNum.cntl (l.take (i+1))∧OwnL tyNum (pre++encNum (mkNum.mak k' x)) (mkNum.mkl k (l.take (i+1))) []∧OwnL tyNum ys (l.drop (i+1)) []):=
    hY ⟨by rw[mkNum.cntl_step hx,h1,hcnt];omega,by rw[mkNum.mkl_step hx,←h1];exact h2.snoc ⟨rfl,rfl⟩,h4⟩
   have HS:Hid (spl (pre++(encNum x++ys)) (i) [.int .i64 (k':Nat)]=pre++encNum (mkNum.mak k' x)++ys):=hY ((spl_1 pre _ ys (hpl.trans (Nat.mul_one i))).trans (List.append_assoc ..).symm)
   have hfit:i+1≤(pre++(encNum x++ys)).length:=by rw[List.length_append,List.length_append,hpl];show i+1≤i*1+(1+ys.length);omega
   have hlt1:(i:Int)<n:=by omega
   clear h1 h2 h3 h4 HI hx hk1 hk2 hcnt hyl hpl e hv2 hlt'
   unfold encNum at *
   go_wp2_with (refine zR ?_;clear H;intro wn H)
   go_roundg (n-(i+1))
   case measure=>omega
   case rel=>exact⟨i+1,k'+1,_,ys,by omega,by go_num,by go_num,HI2,by rw[←HS.out];exact H⟩
  ·obtain rfl:i=n:=by omega
   have hlt1:=nlt i
   go_wp2_with (fail)
   go_ret
   obtain⟨h1,h2,h3⟩:=HI.out
   rw[(tkl HN)] at h1 h2
   rw[(drl HN)] at h3
   obtain⟨rfl,_⟩:=h3.unNil
   rw[List.append_nil] at H
   exact⟨congrArg (fun z:Nat=>Ending.returned (.int .i64 z)) (h1.trans HT.out.symm),own_close h2 H (by rw[Mark.mkl_len];exact HN.out)⟩
theorem heldInt64S_l(v:Value)(l:List Int)(k:Nat)(hk:k+mkNum.cntl l<9223372036854775807)(w:World)(hr:(Ty.sl 2 tyNum).rd w [v] (mkNum.mkl k l)):Gives Tryz.prog 317 #[v,.int .i64 k] w (.int .i64 (k+mkNum.cntl l:Nat)):=by
 obtain⟨A,c,rfl,hlc,hcm⟩:=sl_form hr
 unfold maxLen at *
 have HR:=hY hr
 have H:=Hs.start noRow w
 have hml:=mkNum.mkl_len k l
 rw[hml] at hlc HR ⊢
 obtain⟨n,hn⟩:=nm l.length
 have hnl:n≤9223372036854775807:=by omega
 rw[←hn] at HR ⊢
 have HN:=hY hn
 have HK:=hY hk
 obtain⟨tot,ht⟩:=nm (k+mkNum.cntl l)
 rw[←ht]
 have HT:=hY ht
 clear hr hn hlc hcm hk hml ht
 unfold Gives
 go_enter Tryz.func317,Tryz.ntmps317
 go_wp2_with (fail)
 go_loopg [1,5] n (fun m kv iv wr=>∃(i k':Nat),i+m=n∧iv = .int .i64 i∧kv = .int .i64 k'∧Hid (k'=k+mkNum.cntl (l.take i))∧Hs noRow w [] wr)
 case atStart=>exact⟨0,k,by omega,rfl,rfl,hY rfl,H⟩
 case round=>
  clear H
  obtain⟨i,k',hi,rfl,rfl,HI,H⟩:=hrel
  by_cases hlt:i<n
  ·obtain ⟨x,hx⟩:=atE HN hlt
   have hs:=sl_at (by have:=HR.out;rw[HN.out,←Mark.mkl_len mkNum k] at this;exact this) (mkNum.mkl_at (k:=k) hx)
   rw[Mark.mkl_len,←HN.out,←HI.out] at hs
   obtain⟨b,off,c',cs,hv,hcs,hA⟩:=hs
   injection hv with hv1 hv2 hv3
   subst hv1 hv3
   obtain rfl:cs=encNum (mkNum.mak k' x):=hcs
   have hk1:=mkNum.cnt_at_le hx
   have hk2:=HK.out
   have hk4:=HI.out
   have hcnt:mkNum.cnt x=1:=rfl
   have hk3:k'+1<9223372036854775807:=by omega
   have HI2:Hid (k'+1=k+mkNum.cntl (l.take (i+1))):=hY (by rw[mkNum.cntl_step hx,HI.out,hcnt];omega)
   have hlt1:(i:Int)<n:=by omega
   have h0:w.cell? ⟨b,off+i,none⟩=some (.int .i64 (k':Nat)):=by have h:=hA.head (u := .int .i64 (k':Nat)) rfl;rw[show i*tyNum.s=i from Nat.mul_one i] at h;exact h
   clear hx hv2 hk1 hk2 hk4 hcnt HI hA
   go_wp2_with (refine zL ?_;clear H;intro wn H)
   go_roundg (n-(i+1))
   case measure=>omega
   case rel=>exact⟨i+1,k'+1,by omega,by go_num,by go_num,HI2,H⟩
  ·obtain rfl:i=n:=by omega
   have hlt1:=nlt i
   go_wp2_with (fail)
   go_ret
   have h1:=HI.out
   rw[(tkl HN)] at h1
   exact⟨congrArg (fun z:Nat=>Ending.returned (.int .i64 z)) (h1.trans HT.out.symm),H.below⟩
end Go.Proofs.YtcabgibdkmgdlaaGreat
namespace Go.Proofs.YtcabgibdkmgdlaaGreat
open Go.RowKit M
theorem markNodeS_l(v:Value)(l:List Nd)(k:Nat)(hk:k+mkNd.cntl l<9223372036854775807):Turn Tryz.prog 156 (Ty.sl 172 tyNd) [v] l (mkNd.mkl k l) #[v,.int .i64 k] (.int .i64 (k+mkNd.cntl l:Nat)):=by
 intro R w0 L w N hO H
 obtain⟨xs,M,A,c,rfl,hO,hcm,H⟩:=own_open hO H
 unfold maxLen at *
 obtain⟨n,hn⟩:=nm l.length
 rw[←hn] at H ⊢
 have hn9:n≤9223372036854775807:=by obtain⟨_,_,h1,h2,h3⟩:=(H.rows .here).slice;injection h1;unfold maxLen at h3;omega
 have HN:=hY hn
 have HK:=hY hk
 have HO:=hY hO
 obtain⟨tot,ht⟩:=nm (k+mkNd.cntl l)
 rw[←ht]
 have HT:=hY ht
 have H2:Hs R w0 (Hl.row 172 2 (.slice A n c) n xs::Hl.all []::Hl.all M::L) w:=H.allNil.reperm (List.Perm.swap ..)
 clear H
 have H:=H2
 clear H2
 clear hn hk hO hcm ht
 go_enter Tryz.func156,Tryz.ntmps156
 go_wp2_with (fail)
 go_loopg [1,5] n (fun m kv iv wr=>∃(i k':Nat) (pre post:List Value) (N1 N2:List Hl),i+m=n∧iv = .int .i64 i∧kv = .int .i64 k'∧Hid (k'=k+mkNd.cntl (l.take i)∧OwnL tyNd pre (mkNd.mkl k (l.take i)) N1∧OwnL tyNd post (l.drop i) N2)∧Hs R w0 (Hl.row 172 2 (.slice A n c) n (pre++post)::Hl.all N1::Hl.all N2::L) wr)
 case atStart=>exact⟨0,k,[],xs,[],M,by omega,rfl,rfl,hY ⟨rfl,.nil,HO.out⟩,H⟩
 case round=>
  clear H
  obtain⟨i,k',pre,post,N1,N2,hi,rfl,rfl,HI,H⟩:=hrel
  by_cases hlt:i<n
  ·obtain ⟨x,hx⟩:=atE HN hlt
   obtain⟨g,c2,hv,_⟩:=(H.rows .here).form (by omega)
   injection hv with hv1 hv2 hv3
   subst hv1 hv3
   have hk1:=mkNd.cnt_at_le hx
   have hk2:=HK.out
   obtain⟨h1,h2,h3⟩:=HI.out
   obtain⟨hlt',e⟩:=List.getElem?_eq_some_iff.1 hx
   rw[List.drop_eq_getElem_cons hlt',e] at h3
   obtain⟨cs,ys,Mi,M3,rfl,rfl,hcs,h4⟩:=h3.un
   obtain⟨a1,q1,M1,P1,rfl,rfl,g1,g2⟩:=hcs
   obtain⟨rfl,rfl⟩:=g1
   obtain⟨u1,hu1⟩:∃v,q1 = [v]:=by obtain⟨v,_,_,rfl,_⟩:=g2;exact⟨v,rfl⟩
   subst hu1
   rw[List.nil_append] at H
   obtain⟨E1,e2,e3,rfl⟩:∃E1 e2 e3,u1 = .slice E1 e2 e3:=by
    have Hm:=H.take2
    obtain⟨A,c,e,_⟩:=sl_form (own_rd Hm .here g2)
    exact⟨A,_,c,e⟩
   have hpl:pre.length=i*2:=by rw[h2.len,Mark.mkl_len,List.length_take,Nat.min_eq_left (Nat.le_of_lt hlt')];rfl
   have hcnt:mkNd.cnt x=1+mkSp.cntl x.2:=rfl
   have hyl:ys.length+2+i*2=n*2:=by
    have:=(H.rows .here).len
    rw[List.length_append,List.length_append,hpl] at this
    have h5:(encNum x.1 ++ [Value.slice E1 e2 e3]).length=2:=rfl
    omega
   have hk3:k'+1+mkSp.cntl x.2<9223372036854775807:=by omega
   have hcast:∀m:Nat,(m:Int)+1=((m+1:Nat):Int):=fun _=>rfl
   have hspl:spl (pre++(([.int .i64 x.1,.slice E1 e2 e3]:List Value)++ys)) (i*2) [.int .i64 ((k':Int))]=pre++(([.int .i64 (k':Nat)] ++ [.slice E1 e2 e3])++ys):=by
    (try simp only[hcast])
    exact splS_at (vs:=[.int .i64 (k':Nat)]) (us:=([.int .i64 x.1,.slice E1 e2 e3]:List Value)) hpl (Nat.le_add_right 1 1)
   clear hcast
   have hseg:Seg (spl (pre++(([.int .i64 x.1,.slice E1 e2 e3]:List Value)++ys)) (i*2) [.int .i64 ((k':Int))]) (i*2+1) [.slice E1 e2 e3]:=by
    rw[hspl]
    exact fun j u hu=>by match j,hu with|0,hu=>exact seg_mid pre [.int .i64 (k':Nat),.slice E1 e2 e3] ys hpl 1 u hu
   have HI2:Hid (k'+1+mkSp.cntl x.2=k+mkNd.cntl (l.take (i+1))):=hY (by rw[mkNd.cntl_step hx,h1];omega)
   have HI3:Hid (∀J1,(Ty.sl 174 tySp).own [.slice E1 e2 e3] (mkSp.mkl (k'+1) x.2) J1→OwnL tyNd (pre++([.int .i64 (k':Nat)] ++ [.slice E1 e2 e3])) (mkNd.mkl k (l.take (i+1))) (N1++J1)):=hY (fun J1 j1=>by
    rw[mkNd.mkl_step hx,←h1]
    exact h2.snoc ⟨_,_,[],_,rfl,rfl,⟨rfl,rfl⟩,j1⟩)
   have HS:=hY hspl
   have HI4:=hY h4
   have HG2:=hY g2
   have hfit:i*2+2≤(pre++(([.int .i64 x.1,.slice E1 e2 e3]:List Value)++ys)).length:=by rw[List.length_append,List.length_append,hpl];show i*2+2≤i*2+(2+ys.length);omega
   have c1:=markSpanS_l (.slice E1 e2 e3) x.2 (k'+1) (by omega)
   have hlt1:(i:Int)<n:=by omega
   clear h1 h2 h3 h4 HI hx hk1 hk2 hpl e hv2 hlt' g2 hcnt hyl hspl
   replace H:Hs R w0 (Hl.row 172 2 (.slice (some ⟨g,0,none⟩) n c) n (pre++(([.int .i64 x.1,.slice E1 e2 e3]:List Value)++ys))::Hl.all N1::Hl.all (P1++M3)::L) _:=H
   have Hq:=H.take2.up1
   clear H
   have H:=Hq
   clear Hq
   go_wp2_with (first|((with_reducible apply st_load1 H);decide +kernel;rfl;(focus exact(At.row H .here hseg).head rfl);clear H;intro wn H;refine zp ?_)|(refine zR ?_;clear H;intro wn H))
   refine(c1 _ _ _ _ _ HG2.out H.up1).mono ?_
   rintro e wn ⟨rfl,J1,j1,Hn⟩
   clear H
   have H:=Hn
   clear Hn
   rw[HS.out] at H
   have Hq:=H.give2
   clear H
   have H:=Hq
   clear Hq
   have HI5:=hY (HI3.out J1 j1)
   clear j1 c1 HI3 HS hseg hfit
   generalize k'+1+mkSp.cntl x.2=k4 at *
   go_wp2_with (fail)
   go_roundg (n-(i+1))
   case measure=>omega
   case rel=>exact⟨i+1,k4,_,ys,_,M3,by omega,by go_num,by go_num,hY ⟨HI2.out,HI5.out,HI4.out⟩,by rw[List.append_assoc];exact H⟩
  ·obtain rfl:i=n:=by omega
   have hlt1:=nlt i
   go_wp2_with (fail)
   go_ret
   obtain⟨h1,h2,h3⟩:=HI.out
   rw[(tkl HN)] at h1 h2
   rw[(drl HN)] at h3
   obtain⟨rfl,rfl⟩:=h3.unNil
   rw[List.append_nil] at H
   have H2:=own_close h2 H (by rw[Mark.mkl_len];exact HN.out)
   obtain⟨N,hN,H3⟩:=H2
   exact⟨congrArg (fun z:Nat=>Ending.returned (.int .i64 z)) (h1.trans HT.out.symm),N,hN,H3.sub (List.Sublist.cons_cons _ (List.sublist_cons_self _ _))⟩
theorem heldNodeS_l(v:Value)(l:List Nd)(k:Nat)(hk:k+mkNd.cntl l<9223372036854775807)(w:World)(hr:(Ty.sl 172 tyNd).rd w [v] (mkNd.mkl k l)):Gives Tryz.prog 235 #[v,.int .i64 k] w (.int .i64 (k+mkNd.cntl l:Nat)):=by
 obtain⟨A,c,rfl,hlc,hcm⟩:=sl_form hr
 unfold maxLen at *
 have HR:=hY hr
 have H:=Hs.start noRow w
 have hml:=mkNd.mkl_len k l
 rw[hml] at hlc HR ⊢
 obtain⟨n,hn⟩:=nm l.length
 have hnl:n≤9223372036854775807:=by omega
 rw[←hn] at HR ⊢
 have HN:=hY hn
 have HK:=hY hk
 obtain⟨tot,ht⟩:=nm (k+mkNd.cntl l)
 rw[←ht]
 have HT:=hY ht
 clear hr hn hlc hcm hk hml ht
 unfold Gives
 go_enter Tryz.func235,Tryz.ntmps235
 go_wp2_with (fail)
 go_loopg [1,5] n (fun m kv iv wr=>∃(i k':Nat),i+m=n∧iv = .int .i64 i∧kv = .int .i64 k'∧Hid (k'=k+mkNd.cntl (l.take i))∧Hs noRow w [] wr)
 case atStart=>exact⟨0,k,by omega,rfl,rfl,hY rfl,H⟩
 case round=>
  clear H
  obtain⟨i,k',hi,rfl,rfl,HI,H⟩:=hrel
  by_cases hlt:i<n
  ·obtain ⟨x,hx⟩:=atE HN hlt
   have hs:=sl_at (by have:=HR.out;rw[HN.out,←Mark.mkl_len mkNd k] at this;exact this) (mkNd.mkl_at (k:=k) hx)
   rw[Mark.mkl_len,←HN.out,←HI.out] at hs
   obtain⟨b,off,c',cs,hv,hcs,hA⟩:=hs
   injection hv with hv1 hv2 hv3
   subst hv1 hv3
   obtain⟨E1,e2,e3,hu,g1⟩:=Nd_form hcs
   subst hu
   have hk1:=mkNd.cnt_at_le hx
   have hk2:=HK.out
   have hk4:=HI.out
   have hcnt:mkNd.cnt x=1+mkSp.cntl x.2:=rfl
   have hk3:k'+1+mkSp.cntl x.2<9223372036854775807:=by omega
   have HI2:Hid (k'+1+mkSp.cntl x.2=k+mkNd.cntl (l.take (i+1))):=hY (by rw[mkNd.cntl_step hx,HI.out,hcnt];omega)
   have hlt1:(i:Int)<n:=by omega
   have h0:w.cell? ⟨b,off+i*2,none⟩=some (.int .i64 (k':Nat)):=hA.head (u := .int .i64 (k':Nat)) rfl
   have h1:w.cell? ⟨b,off+i*2+1,none⟩=some (.slice E1 e2 e3):=hA 1 _ rfl
   have g2:(Ty.sl 174 tySp).rd w [.slice E1 e2 e3] (mkSp.mkl (k'+1) x.2):=g1
   have hk6:k'+1<9223372036854775807:=by omega
   have c1:=fun w1 hb=>heldSpanS_l _ x.2 (k'+1) (by omega) w1 (Ty.below _ g2 hb)
   generalize k'+1+mkSp.cntl x.2=k5 at *
   have f3:¬(k5:Int)<0:=by omega
   clear hx hv2 hk1 hk2 hk4 hcnt HI hA hcs g1 g2
   go_wp2_with ((first|refine zL ?_|(go_at_call 316;refine gvF (c1 _ H.below) H ?_));clear H;intro wn H)
   go_roundg (n-(i+1))
   case measure=>omega
   case rel=>exact⟨i+1,k5,by omega,by go_num,by go_num,HI2,H⟩
  ·obtain rfl:i=n:=by omega
   have hlt1:=nlt i
   go_wp2_with (fail)
   go_ret
   have h1:=HI.out
   rw[(tkl HN)] at h1
   exact⟨congrArg (fun z:Nat=>Ending.returned (.int .i64 z)) (h1.trans HT.out.symm),H.below⟩
theorem markTaskS_l(v:Value)(l:List Ta)(k:Nat)(hk:k+mkTa.cntl l<9223372036854775807):Turn Tryz.prog 157 (Ty.sl 177 tyTa) [v] l (mkTa.mkl k l) #[v,.int .i64 k] (.int .i64 (k+mkTa.cntl l:Nat)):=by
 intro R w0 L w N hO H
 obtain⟨xs,M,A,c,rfl,hO,hcm,H⟩:=own_open hO H
 unfold maxLen at *
 obtain⟨n,hn⟩:=nm l.length
 rw[←hn] at H ⊢
 have hn9:n≤9223372036854775807:=by obtain⟨_,_,h1,h2,h3⟩:=(H.rows .here).slice;injection h1;unfold maxLen at h3;omega
 have HN:=hY hn
 have HK:=hY hk
 have HO:=hY hO
 obtain⟨tot,ht⟩:=nm (k+mkTa.cntl l)
 rw[←ht]
 have HT:=hY ht
 have H2:Hs R w0 (Hl.row 177 14 (.slice A n c) n xs::Hl.all []::Hl.all M::L) w:=H.allNil.reperm (List.Perm.swap ..)
 clear H
 have H:=H2
 clear H2
 clear hn hk hO hcm ht
 go_enter Tryz.func157,Tryz.ntmps157
 go_wp2_with (fail)
 go_loopg [1,5] n (fun m kv iv wr=>∃(i k':Nat) (pre post:List Value) (N1 N2:List Hl),i+m=n∧iv = .int .i64 i∧kv = .int .i64 k'∧Hid (k'=k+mkTa.cntl (l.take i)∧OwnL tyTa pre (mkTa.mkl k (l.take i)) N1∧OwnL tyTa post (l.drop i) N2)∧Hs R w0 (Hl.row 177 14 (.slice A n c) n (pre++post)::Hl.all N1::Hl.all N2::L) wr)
 case atStart=>exact⟨0,k,[],xs,[],M,by omega,rfl,rfl,hY ⟨rfl,.nil,HO.out⟩,H⟩
 case round=>
  clear H
  obtain⟨i,k',pre,post,N1,N2,hi,rfl,rfl,HI,H⟩:=hrel
  by_cases hlt:i<n
  ·obtain ⟨x,hx⟩:=atE HN hlt
   obtain⟨g,c2,hv,_⟩:=(H.rows .here).form (by omega)
   injection hv with hv1 hv2 hv3
   subst hv1 hv3
   have hk1:=mkTa.cnt_at_le hx
   have hk2:=HK.out
   obtain⟨h1,h2,h3⟩:=HI.out
   obtain⟨hlt',e⟩:=List.getElem?_eq_some_iff.1 hx
   rw[List.drop_eq_getElem_cons hlt',e] at h3
   obtain⟨cs,ys,Mi,M3,rfl,rfl,hcs,h4⟩:=h3.un
   obtain⟨a1,q1,M1,P1,rfl,rfl,g1,g2⟩:=hcs
   obtain⟨rfl,rfl⟩:=g1
   obtain⟨u1,hu1⟩:∃v,q1 = [v]:=by obtain⟨v,_,_,rfl,_⟩:=g2;exact⟨v,rfl⟩
   subst hu1
   rw[List.nil_append] at H
   obtain⟨E1,e2,e3,rfl⟩:∃E1 e2 e3,u1 = .slice E1 e2 e3:=by
    have Hm:=H.take2
    obtain⟨A,c,e,_⟩:=sl_form (own_rd Hm .here g2)
    exact⟨A,_,c,e⟩
   have hpl:pre.length=i*14:=by rw[h2.len,Mark.mkl_len,List.length_take,Nat.min_eq_left (Nat.le_of_lt hlt')];rfl
   have hcnt:mkTa.cnt x=13+mkNum.cntl x.2:=rfl
   have hyl:ys.length+14+i*14=n*14:=by
    have:=(H.rows .here).len
    rw[List.length_append,List.length_append,hpl] at this
    have h5:(encTf x.1 ++ [Value.slice E1 e2 e3]).length=14:=rfl
    omega
   have hk3:k'+13+mkNum.cntl x.2<9223372036854775807:=by omega
   have hcast:∀m:Nat,(m:Int)+1=((m+1:Nat):Int):=fun _=>rfl
   have hspl:spl (spl (spl (spl (spl (spl (spl (spl (spl (spl (spl (spl (spl (pre++(([.int .i64 x.1.1.1,.int .i64 x.1.1.2,.int .i64 x.1.2.1,.string x.1.2.2.1,.int .i64 x.1.2.2.2.1,.int .i64 x.1.2.2.2.2.1,.int .i64 x.1.2.2.2.2.2.1,.int .i64 x.1.2.2.2.2.2.2.1.1,.int .i64 x.1.2.2.2.2.2.2.1.2,.int .i64 x.1.2.2.2.2.2.2.2.1,.int .i64 x.1.2.2.2.2.2.2.2.2.1,.int .i64 x.1.2.2.2.2.2.2.2.2.2.1,.int .i64 x.1.2.2.2.2.2.2.2.2.2.2,.slice E1 e2 e3]:List Value)++ys)) (i*14) [.int .i64 ((k':Int))]) (i*14+1) [.int .i64 ((k':Int)+1)]) (i*14+2) [.int .i64 ((k':Int)+1+1)]) (i*14+3) [.string (bs (mtext (k'+3)))]) (i*14+4) [.int .i64 ((k':Int)+1+1+1+1)]) (i*14+5) [.int .i64 ((k':Int)+1+1+1+1+1)]) (i*14+6) [.int .i64 ((k':Int)+1+1+1+1+1+1)]) (i*14+7) [.int .i64 ((k':Int)+1+1+1+1+1+1+1)]) (i*14+7+1) [.int .i64 ((k':Int)+1+1+1+1+1+1+1+1)]) (i*14+9) [.int .i64 ((k':Int)+1+1+1+1+1+1+1+1+1)]) (i*14+10) [.int .i64 ((k':Int)+1+1+1+1+1+1+1+1+1+1)]) (i*14+11) [.int .i64 ((k':Int)+1+1+1+1+1+1+1+1+1+1+1)]) (i*14+12) [.int .i64 ((k':Int)+1+1+1+1+1+1+1+1+1+1+1+1)]=pre++(([.int .i64 (k':Nat),.int .i64 (k'+1:Nat),.int .i64 (k'+2:Nat),.string (bs (mtext (k'+3))),.int .i64 (k'+4:Nat),.int .i64 (k'+5:Nat),.int .i64 (k'+6:Nat),.int .i64 (k'+7:Nat),.int .i64 (k'+8:Nat),.int .i64 (k'+9:Nat),.int .i64 (k'+10:Nat),.int .i64 (k'+11:Nat),.int .i64 (k'+12:Nat)] ++ [.slice E1 e2 e3])++ys):=by
    (try simp only[hcast])
    exact splS_at (vs:=[.int .i64 (k':Nat),.int .i64 (k'+1:Nat),.int .i64 (k'+2:Nat),.string (bs (mtext (k'+3))),.int .i64 (k'+4:Nat),.int .i64 (k'+5:Nat),.int .i64 (k'+6:Nat),.int .i64 (k'+7:Nat),.int .i64 (k'+8:Nat),.int .i64 (k'+9:Nat),.int .i64 (k'+10:Nat),.int .i64 (k'+11:Nat),.int .i64 (k'+12:Nat)]) (us:=([.int .i64 x.1.1.1,.int .i64 x.1.1.2,.int .i64 x.1.2.1,.string x.1.2.2.1,.int .i64 x.1.2.2.2.1,.int .i64 x.1.2.2.2.2.1,.int .i64 x.1.2.2.2.2.2.1,.int .i64 x.1.2.2.2.2.2.2.1.1,.int .i64 x.1.2.2.2.2.2.2.1.2,.int .i64 x.1.2.2.2.2.2.2.2.1,.int .i64 x.1.2.2.2.2.2.2.2.2.1,.int .i64 x.1.2.2.2.2.2.2.2.2.2.1,.int .i64 x.1.2.2.2.2.2.2.2.2.2.2,.slice E1 e2 e3]:List Value)) hpl (Nat.le_add_right 13 1)
   clear hcast
   have hseg:Seg (spl (spl (spl (spl (spl (spl (spl (spl (spl (spl (spl (spl (spl (pre++(([.int .i64 x.1.1.1,.int .i64 x.1.1.2,.int .i64 x.1.2.1,.string x.1.2.2.1,.int .i64 x.1.2.2.2.1,.int .i64 x.1.2.2.2.2.1,.int .i64 x.1.2.2.2.2.2.1,.int .i64 x.1.2.2.2.2.2.2.1.1,.int .i64 x.1.2.2.2.2.2.2.1.2,.int .i64 x.1.2.2.2.2.2.2.2.1,.int .i64 x.1.2.2.2.2.2.2.2.2.1,.int .i64 x.1.2.2.2.2.2.2.2.2.2.1,.int .i64 x.1.2.2.2.2.2.2.2.2.2.2,.slice E1 e2 e3]:List Value)++ys)) (i*14) [.int .i64 ((k':Int))]) (i*14+1) [.int .i64 ((k':Int)+1)]) (i*14+2) [.int .i64 ((k':Int)+1+1)]) (i*14+3) [.string (bs (mtext (k'+3)))]) (i*14+4) [.int .i64 ((k':Int)+1+1+1+1)]) (i*14+5) [.int .i64 ((k':Int)+1+1+1+1+1)]) (i*14+6) [.int .i64 ((k':Int)+1+1+1+1+1+1)]) (i*14+7) [.int .i64 ((k':Int)+1+1+1+1+1+1+1)]) (i*14+7+1) [.int .i64 ((k':Int)+1+1+1+1+1+1+1+1)]) (i*14+9) [.int .i64 ((k':Int)+1+1+1+1+1+1+1+1+1)]) (i*14+10) [.int .i64 ((k':Int)+1+1+1+1+1+1+1+1+1+1)]) (i*14+11) [.int .i64 ((k':Int)+1+1+1+1+1+1+1+1+1+1+1)]) (i*14+12) [.int .i64 ((k':Int)+1+1+1+1+1+1+1+1+1+1+1+1)]) (i*14+13) [.slice E1 e2 e3]:=by
    rw[hspl]
    exact fun j u hu=>by match j,hu with|0,hu=>exact seg_mid pre [.int .i64 (k':Nat),.int .i64 (k'+1:Nat),.int .i64 (k'+2:Nat),.string (bs (mtext (k'+3))),.int .i64 (k'+4:Nat),.int .i64 (k'+5:Nat),.int .i64 (k'+6:Nat),.int .i64 (k'+7:Nat),.int .i64 (k'+8:Nat),.int .i64 (k'+9:Nat),.int .i64 (k'+10:Nat),.int .i64 (k'+11:Nat),.int .i64 (k'+12:Nat),.slice E1 e2 e3] ys hpl 13 u hu
   have HI2:Hid (k'+13+mkNum.cntl x.2=k+mkTa.cntl (l.take (i+1))):=hY (by rw[mkTa.cntl_step hx,h1];omega)
   have HI3:Hid (∀J1,(Ty.sl 2 tyNum).own [.slice E1 e2 e3] (mkNum.mkl (k'+13) x.2) J1→OwnL tyTa (pre++([.int .i64 (k':Nat),.int .i64 (k'+1:Nat),.int .i64 (k'+2:Nat),.string (bs (mtext (k'+3))),.int .i64 (k'+4:Nat),.int .i64 (k'+5:Nat),.int .i64 (k'+6:Nat),.int .i64 (k'+7:Nat),.int .i64 (k'+8:Nat),.int .i64 (k'+9:Nat),.int .i64 (k'+10:Nat),.int .i64 (k'+11:Nat),.int .i64 (k'+12:Nat)] ++ [.slice E1 e2 e3])) (mkTa.mkl k (l.take (i+1))) (N1++J1)):=hY (fun J1 j1=>by
    rw[mkTa.mkl_step hx,←h1]
    exact h2.snoc ⟨_,_,[],_,rfl,rfl,⟨rfl,rfl⟩,j1⟩)
   have HS:=hY hspl
   have HI4:=hY h4
   have HG2:=hY g2
   have hfit:i*14+14≤(pre++(([.int .i64 x.1.1.1,.int .i64 x.1.1.2,.int .i64 x.1.2.1,.string x.1.2.2.1,.int .i64 x.1.2.2.2.1,.int .i64 x.1.2.2.2.2.1,.int .i64 x.1.2.2.2.2.2.1,.int .i64 x.1.2.2.2.2.2.2.1.1,.int .i64 x.1.2.2.2.2.2.2.1.2,.int .i64 x.1.2.2.2.2.2.2.2.1,.int .i64 x.1.2.2.2.2.2.2.2.2.1,.int .i64 x.1.2.2.2.2.2.2.2.2.2.1,.int .i64 x.1.2.2.2.2.2.2.2.2.2.2,.slice E1 e2 e3]:List Value)++ys)).length:=by rw[List.length_append,List.length_append,hpl];show i*14+14≤i*14+(14+ys.length);omega
   have c1:=markInt64S_l (.slice E1 e2 e3) x.2 (k'+13) (by omega)
   have hlt1:(i:Int)<n:=by omega
   clear h1 h2 h3 h4 HI hx hk1 hk2 hpl e hv2 hlt' g2 hcnt hyl hspl
   replace H:Hs R w0 (Hl.row 177 14 (.slice (some ⟨g,0,none⟩) n c) n (pre++(([.int .i64 x.1.1.1,.int .i64 x.1.1.2,.int .i64 x.1.2.1,.string x.1.2.2.1,.int .i64 x.1.2.2.2.1,.int .i64 x.1.2.2.2.2.1,.int .i64 x.1.2.2.2.2.2.1,.int .i64 x.1.2.2.2.2.2.2.1.1,.int .i64 x.1.2.2.2.2.2.2.1.2,.int .i64 x.1.2.2.2.2.2.2.2.1,.int .i64 x.1.2.2.2.2.2.2.2.2.1,.int .i64 x.1.2.2.2.2.2.2.2.2.2.1,.int .i64 x.1.2.2.2.2.2.2.2.2.2.2,.slice E1 e2 e3]:List Value)++ys))::Hl.all N1::Hl.all (P1++M3)::L) _:=H
   have Hq:=H.take2.up1
   clear H
   have H:=Hq
   clear Hq
   go_wp2_with (first|((with_reducible apply st_load1 H);decide +kernel;rfl;(focus exact(At.row H .here hseg).head rfl);clear H;intro wn H;refine zp ?_)|((first|refine zR ?_|(go_at_call 160;refine gvF (markText_at _ (k'+3) (by omega) (by omega) _) H ?_));clear H;intro wn H))
   refine(c1 _ _ _ _ _ HG2.out H.up1).mono ?_
   rintro e wn ⟨rfl,J1,j1,Hn⟩
   clear H
   have H:=Hn
   clear Hn
   rw[HS.out] at H
   have Hq:=H.give2
   clear H
   have H:=Hq
   clear Hq
   have HI5:=hY (HI3.out J1 j1)
   clear j1 c1 HI3 HS hseg hfit
   generalize k'+13+mkNum.cntl x.2=k4 at *
   go_wp2_with (fail)
   go_roundg (n-(i+1))
   case measure=>omega
   case rel=>exact⟨i+1,k4,_,ys,_,M3,by omega,by go_num,by go_num,hY ⟨HI2.out,HI5.out,HI4.out⟩,by rw[List.append_assoc];exact H⟩
  ·obtain rfl:i=n:=by omega
   have hlt1:=nlt i
   go_wp2_with (fail)
   go_ret
   obtain⟨h1,h2,h3⟩:=HI.out
   rw[(tkl HN)] at h1 h2
   rw[(drl HN)] at h3
   obtain⟨rfl,rfl⟩:=h3.unNil
   rw[List.append_nil] at H
   have H2:=own_close h2 H (by rw[Mark.mkl_len];exact HN.out)
   obtain⟨N,hN,H3⟩:=H2
   exact⟨congrArg (fun z:Nat=>Ending.returned (.int .i64 z)) (h1.trans HT.out.symm),N,hN,H3.sub (List.Sublist.cons_cons _ (List.sublist_cons_self _ _))⟩
theorem heldTaskS_l(v:Value)(l:List Ta)(k:Nat)(hk:k+mkTa.cntl l<9223372036854775807)(w:World)(hr:(Ty.sl 177 tyTa).rd w [v] (mkTa.mkl k l)):Gives Tryz.prog 236 #[v,.int .i64 k] w (.int .i64 (k+mkTa.cntl l:Nat)):=by
 obtain⟨A,c,rfl,hlc,hcm⟩:=sl_form hr
 unfold maxLen at *
 have HR:=hY hr
 have H:=Hs.start noRow w
 have hml:=mkTa.mkl_len k l
 rw[hml] at hlc HR ⊢
 obtain⟨n,hn⟩:=nm l.length
 have hnl:n≤9223372036854775807:=by omega
 rw[←hn] at HR ⊢
 have HN:=hY hn
 have HK:=hY hk
 obtain⟨tot,ht⟩:=nm (k+mkTa.cntl l)
 rw[←ht]
 have HT:=hY ht
 clear hr hn hlc hcm hk hml ht
 unfold Gives
 go_enter Tryz.func236,Tryz.ntmps236
 go_wp2_with (fail)
 go_loopg [1,5] n (fun m kv iv wr=>∃(i k':Nat),i+m=n∧iv = .int .i64 i∧kv = .int .i64 k'∧Hid (k'=k+mkTa.cntl (l.take i))∧Hs noRow w [] wr)
 case atStart=>exact⟨0,k,by omega,rfl,rfl,hY rfl,H⟩
 case round=>
  clear H
  obtain⟨i,k',hi,rfl,rfl,HI,H⟩:=hrel
  by_cases hlt:i<n
  ·obtain ⟨x,hx⟩:=atE HN hlt
   have hs:=sl_at (by have:=HR.out;rw[HN.out,←Mark.mkl_len mkTa k] at this;exact this) (mkTa.mkl_at (k:=k) hx)
   rw[Mark.mkl_len,←HN.out,←HI.out] at hs
   obtain⟨b,off,c',cs,hv,hcs,hA⟩:=hs
   injection hv with hv1 hv2 hv3
   subst hv1 hv3
   obtain⟨E1,e2,e3,hu,g1⟩:=Ta_form hcs
   subst hu
   have hk1:=mkTa.cnt_at_le hx
   have hk2:=HK.out
   have hk4:=HI.out
   have hcnt:mkTa.cnt x=13+mkNum.cntl x.2:=rfl
   have hk3:k'+13+mkNum.cntl x.2<9223372036854775807:=by omega
   have HI2:Hid (k'+13+mkNum.cntl x.2=k+mkTa.cntl (l.take (i+1))):=hY (by rw[mkTa.cntl_step hx,HI.out,hcnt];omega)
   have hlt1:(i:Int)<n:=by omega
   have h0:w.cell? ⟨b,off+i*14,none⟩=some (.int .i64 (k':Nat)):=hA.head (u := .int .i64 (k':Nat)) rfl
   have h1:w.cell? ⟨b,off+i*14+1,none⟩=some (.int .i64 (k'+1:Nat)):=hA 1 _ rfl
   have h2:w.cell? ⟨b,off+i*14+2,none⟩=some (.int .i64 (k'+2:Nat)):=hA 2 _ rfl
   have h3:w.cell? ⟨b,off+i*14+3,none⟩=some (.string (bs (mtext (k'+3)))):=hA 3 _ rfl
   have h4:w.cell? ⟨b,off+i*14+4,none⟩=some (.int .i64 (k'+4:Nat)):=hA 4 _ rfl
   have h5:w.cell? ⟨b,off+i*14+5,none⟩=some (.int .i64 (k'+5:Nat)):=hA 5 _ rfl
   have h6:w.cell? ⟨b,off+i*14+6,none⟩=some (.int .i64 (k'+6:Nat)):=hA 6 _ rfl
   have h7:w.cell? ⟨b,off+i*14+7,none⟩=some (.int .i64 (k'+7:Nat)):=hA 7 _ rfl
   have h8:w.cell? ⟨b,off+i*14+8,none⟩=some (.int .i64 (k'+8:Nat)):=hA 8 _ rfl
   have h9:w.cell? ⟨b,off+i*14+9,none⟩=some (.int .i64 (k'+9:Nat)):=hA 9 _ rfl
   have h10:w.cell? ⟨b,off+i*14+10,none⟩=some (.int .i64 (k'+10:Nat)):=hA 10 _ rfl
   have h11:w.cell? ⟨b,off+i*14+11,none⟩=some (.int .i64 (k'+11:Nat)):=hA 11 _ rfl
   have h12:w.cell? ⟨b,off+i*14+12,none⟩=some (.int .i64 (k'+12:Nat)):=hA 12 _ rfl
   have h13:w.cell? ⟨b,off+i*14+13,none⟩=some (.slice E1 e2 e3):=hA 13 _ rfl
   have g2:(Ty.sl 2 tyNum).rd w [.slice E1 e2 e3] (mkNum.mkl (k'+13) x.2):=g1
   have hk6:k'+13<9223372036854775807:=by omega
   have c1:=fun w1 hb=>heldInt64S_l _ x.2 (k'+13) (by omega) w1 (Ty.below _ g2 hb)
   generalize k'+13+mkNum.cntl x.2=k5 at *
   have f3:¬(k5:Int)<0:=by omega
   clear hx hv2 hk1 hk2 hk4 hcnt HI hA hcs g1 g2
   go_wp2_with (first|((first|refine zL ?_|(go_at_call 317;refine gvF (c1 _ H.below) H ?_));clear H;intro wn H)|(refine zHq 13 ?_;(iterate 6 (all_goals(refine zhFV ?_)));(all_goals(with_reducible refine Qk.mk ?_));(all_goals((with_reducible refine' hq_step ?_ ?_ ?_);rotate_left;rfl;(focus(intro w1 H1;unfold QOk;go_simp;exact q_call (markText_at _ (k'+3) (by omega) (by omega) _)));(try simp only[yG,yH,yJ,yK]);refine zp ?_));(all_goals(with_reducible refine Qk.out ?_));all_goals refine zhV ?_;all_goals(refine zHz ?_;clear H;intro wn H)))
   go_roundg (n-(i+1))
   case measure=>omega
   case rel=>exact⟨i+1,k5,by omega,by go_num,by go_num,HI2,H⟩
  ·obtain rfl:i=n:=by omega
   have hlt1:=nlt i
   go_wp2_with (fail)
   go_ret
   have h1:=HI.out
   rw[(tkl HN)] at h1
   exact⟨congrArg (fun z:Nat=>Ending.returned (.int .i64 z)) (h1.trans HT.out.symm),H.below⟩
