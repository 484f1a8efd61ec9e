import Derived.Test.YtcabgibdkmgdlaaGreatGE
set_option linter.unusedSimpArgs false
set_option linter.unusedVariables false
set_option maxRecDepth 100000
set_option maxHeartbeats 16000000
namespace Go.Proofs.YtcabgibdkmgdlaaGreat
open Go.RowKit M
theorem z4h(a:St)(cs:List Value)(lab:Lab)(hfit:Fit a)(w:World)(hr:tySt.rd w cs a):Gives Tryz.prog 82 #[.agg cs.toArray,.agg #[.int .i64 lab.1,.int .i64 lab.2]] w (.string (bs (z3z a lab))):=by
 obtain⟨A1,n1,k1,A2,n2,k2,A3,n3,k3,A4,n4,k4,A5,n5,k5,A6,n6,k6,A7,n7,k7,rfl,g1,g7⟩:=St_form hr
 obtain⟨_,_,_,_,_,_,_,_,_,_,_,_,_,_,_,_,_,_,ey,gc,_,g5,g6⟩:=Yd_form g1
 injection ey with e1 ey;injection ey with e2 ey;injection ey with e3 ey;injection ey with e0 ey;injection ey with e4 ey;injection ey with e5 ey;injection ey with e6 ey
 rw[←e1,←e2,←e3] at gc
 rw[←e5] at g5
 rw[←e6] at g6
 clear ey e1 e2 e3 e0 e4 e5 e6 g1 hr
 obtain⟨_,_,_,ec,_,g2,_⟩:=cfg_form gc
 injection ec with e1 ec;injection ec with e2 ec
 rw[←e2] at g2
 clear ec e1 e2 gc
 have hlog:=fun i=>z3n (pr:=a.1.1.2.1) (m:=a.2) (fun b hb=>(hfit.box b hb).2.2.2) lab i
 have hher:=fun i=>z2t (pr:=a.1.1.2.1) (m:=a.2) (fun b hb=>(hfit.box b hb).2.2.1) lab i
 obtain⟨hh1,hh2,hh3⟩:=hfit.head lab
 obtain⟨⟨⟨nd,pr,qt,hf⟩,nds,tks,uss,now⟩,m⟩:=a
 obtain⟨a1,a2⟩:=lab
 have q1:=hfit.task
 have q2:=hfit.tasks
 have q3:=hfit.use
 have q4:=hfit.uses
 have q5:=hfit.pairs
 have q6:=hfit.boxes
 have q7:=hfit.box
 clear hfit
 simp only at g5 g6 g7 g2 hlog hher hh1 hh2 hh3 q1 q2 q3 q4 q5 q6 q7
 have hn5:=(slN g5).1
 have hn6:=(slN g6).1
 have hn2:=(slN g2).1
 have hn7:=(slN g7).1
 obtain⟨n,rfl⟩:=nm n7
 obtain rfl:n=n2:=by omega
 have HN5:=hY hn5
 have HN6:=hY hn6
 have HN2:=hY hn2
 have HN7:=hY hn7
 have G5:=hY g5
 have G6:=hY g6
 have G2:=hY g2
 have G7:=hY g7
 have Q1:=hY q1
 have Q3:=hY q3
 have Q7:=hY q7
 have HH1:=hY hh1
 have HH2:=hY hh2
 have n5l:n5≤96:=by omega
 have n6l:n6≤48:=by omega
 have nl:n≤4:=by omega
 obtain⟨pn,hpn⟩:∃pn:Int→ByteArray,pn=fun z=>bs (putNum z):=⟨_,rfl⟩
 have c5:∀z,bd z → ∀w1,Gives Tryz.prog 83 #[.int .i64 z] w1 (.string (pn z)):=fun z hz w1=>by rw[hpn];exact putNum_i z hz w1
 have HPN:Hid (∀z,pn z=bs (putNum z)∧(pn z).size≤11):=hY (fun z=>by rw[hpn];exact⟨rfl,(putNum_length z).2⟩)
 obtain⟨z,hz⟩:=nm (bs (z3z (((nd,pr,qt,hf),nds,tks,uss,now),m) (a1,a2)))
 show Gives Tryz.prog _ #[.agg #[.slice A1 n1 k1,.slice A2 n k2,.slice A3 n3 k3,.int .i64 hf,.slice A4 n4 k4,.slice A5 n5 k5,.slice A6 n6 k6,.int .i64 now,.slice A7 n k7],.agg #[.int .i64 a1,.int .i64 a2]] w (.string (bs (z3z (((nd,pr,qt,hf),nds,tks,uss,now),m) (a1,a2))))
 rw[←hz]
 obtain⟨hd,hhd⟩:=nm (z6u (((nd,pr,qt,hf),nds,tks,uss,now),m) (a1,a2))
 obtain⟨fl,hfl⟩:=nm (z4j pr m (a1,a2))
 obtain⟨fh,hfh⟩:=nm (z1v pr m (a1,a2))
 rw[←hhd] at hh3
 rw[←hfl] at hlog
 rw[←hfh] at hher
 have HZ:Hid (z=bs ((hd++catTo fl n)++catTo fh n)):=hY (by rw[hz,hhd,hfl,hfh,hn2];rfl)
 have HL1:=hY (show ∀i,i≤n→(hd++catTo fl i).length≤27200 from fun i hi=>by
  have h1:=catTo_len hlog i
  rw[List.length_append]
  omega)
 have HL2:=hY (show ∀i,i≤n→((hd++catTo fl n)++catTo fh i).length≤28000 from fun i hi=>by
  have h1:=catTo_len hlog n
  have h2:=catTo_len hher i
  rw[List.length_append,List.length_append]
  omega)
 have HFL:=hY hfl
 have HFH:=hY hfh
 have HHD:Hid (hd=((putNum (tkN (a1,a2) tks)++cat (tkF (a1,a2)) tks)++putNum (z0o (a1,a2) uss))++cat (usF (a1,a2)) uss):=hY hhd
 clear hz hpn hn5 hn6 hn2 hn7 g5 g6 g2 g7 q1 q2 q3 q4 q5 q6 q7 hh1 hh2 hh3 hhd hfl hfh hlog hher
 have H:=Hs.start noRow w
 unfold Gives
 show Calls _ _ #[.agg #[.slice A1 n1 k1,.slice A2 n k2,.slice A3 n3 k3,.int .i64 hf,.slice A4 n4 k4,.slice A5 n5 k5,.slice A6 n6 k6,.int .i64 now,.slice A7 n k7],.agg #[.int .i64 a1,.int .i64 a2]] _ _
 go_enter Tryz.func82,Tryz.ntmps82
 go_wp2_with ((first|refine zL ?_|(refine zB 2 ?_;intro b2)|(refine zB 3 ?_;intro b3));clear H;intro wn H)
 go_loopg [5,6,24] n5 (fun g tv nv iv wr=>∃(i:Nat) (t:ByteArray),i+g=n5∧iv = .int .i64 i∧tv = .string t∧nv = .int .i64 (tkN (a1,a2) (tks.take i))∧Hid (t=bs (cat (tkF (a1,a2)) (tks.take i)))∧Hs noRow w [Hl.blk b2 57 #[.slice A1 n1 k1,.slice A2 n k2,.slice A3 n3 k3,.int .i64 hf,.slice A4 n4 k4,.slice A5 n5 k5,.slice A6 n6 k6,.int .i64 now,.slice A7 n k7],Hl.blk b3 123 #[.int .i64 a1,.int .i64 a2]] wr)
 case atStart=>exact⟨0,_,by omega,rfl,rfl,rfl,hY rfl,H.sel sF⟩
 case round=>
  clear H
  obtain⟨i,t,hi,rfl,rfl,rfl,HT,H⟩:=hrel
  have hnt:=z6p (a1,a2) (tks.take i)
  rw[List.length_take] at hnt
  by_cases hlt:i<n5
  ·obtain ⟨x,hx⟩:=atE HN5 hlt
   have hs:=sl_at G5.out hx
   rw[←HN5.out] at hs
   obtain⟨b,bff,c',cs,hv,hcs,hA⟩:=hs
   injection hv with hv1 hv2 hv3
   subst hv1 hv3
   clear hv2
   have htx:=Q1.out x (List.mem_of_getElem? hx)
   have c7:=fun w1 hb=>z4e x cs htx w1 (Ty.below _ hcs hb)
   have hqs:=(z2i htx).2.2
   have hcx:=z0f (f:=tkF (a1,a2)) hx
   have hnx:=z8h (a:=(a1,a2)) hx
   have hts:t.size≤23040:=by rw[HT.out,zsize_bs];exact HH1.out i
   obtain⟨C9,m9,j9,rfl,_⟩:=Ta_form hcs
   have hfx:tkF (a1,a2) x=if eqB x.1.1 (a1,a2) then tkB x else []:=rfl
   rw[hfx] at hcx
   obtain⟨q,hq⟩:=nm (bs (tkB x))
   rw[←hq] at c7
   have hqs:q.size≤240:=by rw[hq,zsize_bs];exact hqs
   obtain⟨⟨⟨x1,x2⟩,id,ow,need,long,prio,⟨u1,u2⟩,aft,born,st,start⟩,nodes⟩:=x
   simp only at c7 hcx hnx hA
   have hA:At w b (bff+i*14) [.int .i64 x1,.int .i64 x2,.int .i64 id,.string ow,.int .i64 need,.int .i64 long,.int .i64 prio,.int .i64 u1,.int .i64 u2,.int .i64 aft,.int .i64 born,.int .i64 st,.int .i64 start,.slice C9 m9 j9]:=hA
   replace c7:∀w1,Below w.heap.size w w1→Gives Tryz.prog 142 #[.agg #[.int .i64 x1,.int .i64 x2,.int .i64 id,.string ow,.int .i64 need,.int .i64 long,.int .i64 prio,.int .i64 u1,.int .i64 u2,.int .i64 aft,.int .i64 born,.int .i64 st,.int .i64 start,.slice C9 m9 j9]] w1 (.string q):=c7
   have hlt1:(i:Int)<n5:=by omega
   cases hp:eqB (x1,x2) (a1,a2)
   ·have HT2:Hid (t=bs (cat (tkF (a1,a2)) (tks.take (i+1)))):=hY (by rw[hcx,hp,HT.out];simp)
    have HNX:Hid (tkN (a1,a2) (tks.take (i+1))=tkN (a1,a2) (tks.take i)):=hY (by rw[hnx,hp];rfl)
    clear hx hcx hnx hcs HT htx hfx hq c7
    generalize tkN (a1,a2) (tks.take i)=nt at *
    go_wp2_with ((first|refine zU ?_|(refine zA 10 ?_;intro b10));clear H;intro wn H)
    go_roundg (n5-(i+1))
    case measure=>omega
    case rel=>exact⟨i+1,t,by omega,by go_num,rfl,by rw[HNX.out],HT2,H.sel sF⟩
   ·have HT2:Hid (t++q=bs (cat (tkF (a1,a2)) (tks.take (i+1)))):=hY (by rw[hcx,hp,HT.out,hq,bs_append];rfl)
    have HNX:Hid (tkN (a1,a2) (tks.take (i+1))=tkN (a1,a2) (tks.take i)+1):=hY (by rw[hnx,hp];rfl)
    clear hx hcx hnx hcs HT htx hfx hq
    generalize tkN (a1,a2) (tks.take i)=nt at *
    go_wp2_with ((first|refine zU ?_|(refine zA 10 ?_;intro b10)|(go_at_call 142;refine gvF (c7 _ H.below) H ?_));clear H;intro wn H)
    go_roundg (n5-(i+1))
    case measure=>omega
    case rel=>exact⟨i+1,_,by omega,by go_num,rfl,by rw[HNX.out];go_num,HT2,H.sel sF⟩
  ·obtain rfl:n5=i:=by omega
   have hlt1:=nlt n5
   have htsz:t.size≤23040:=by rw[HT.out,zsize_bs];exact HH1.out n5
   have HTT:Hid (t=bs (cat (tkF (a1,a2)) tks)):=hY (by rw[HT.out,HN5.out,List.take_length])
   obtain⟨nt,hnt2⟩:=nm (tkN (a1,a2) (tks.take n5))
   have HNT:Hid (nt=tkN (a1,a2) tks):=hY (by rw[hnt2,HN5.out,List.take_length])
   rw[←hnt2] at hnt ⊢
   clear HT hnt2
   go_wp2_with (refine zL ?_;clear H;intro wn H)
   go_loopg [7,8,43] n6 (fun g tv nv iv wr=>∃(i:Nat) (u:ByteArray),i+g=n6∧iv = .int .i64 i∧tv = .string u∧nv = .int .i64 (z0o (a1,a2) (uss.take i))∧Hid (u=bs (cat (usF (a1,a2)) (uss.take i)))∧Hs noRow w [Hl.blk b2 57 #[.slice A1 n1 k1,.slice A2 n k2,.slice A3 n3 k3,.int .i64 hf,.slice A4 n4 k4,.slice A5 n5 k5,.slice A6 n6 k6,.int .i64 now,.slice A7 n k7],Hl.blk b3 123 #[.int .i64 a1,.int .i64 a2]] wr)
   case atStart=>exact⟨0,_,by omega,rfl,rfl,rfl,hY rfl,H.sel sF⟩
   case round=>
    clear H
    obtain⟨j,u,hj,rfl,rfl,rfl,HU,H⟩:=hrel
    have hnu:=z7i (a1,a2) (uss.take j)
    rw[List.length_take] at hnu
    by_cases hlt:j<n6
    ·obtain ⟨x,hx⟩:=atE HN6 hlt
     have hs:=sl_at G6.out hx
     rw[←HN6.out] at hs
     obtain⟨b,bff,c',cs,hv,hcs,hA⟩:=hs
     injection hv with hv1 hv2 hv3
     subst hv1 hv3
     clear hv2
     obtain⟨hx20,hxb⟩:=Q3.out x (List.mem_of_getElem? hx)
     have hcx:=z0f (f:=usF (a1,a2)) hx
     have hnx:=z3c (a:=(a1,a2)) hx
     have hts:u.size≤2016:=by rw[HU.out,zsize_bs];exact HH2.out j
     obtain rfl:cs=encUs x:=hcs
     have hfx:usF (a1,a2) x=if eqB x.1 (a1,a2) then putText x.2.1.data.toList++putNum x.2.2 else []:=rfl
     rw[hfx] at hcx
     have c6:=fun w1=>putText_i x.2.1 (by unfold maxLen;omega) w1
     obtain⟨q,hq⟩:=nm (bs (putText x.2.1.data.toList))
     rw[←hq] at c6
     have hqs:q.size≤31:=by rw[hq,zsize_bs];have:=z0n (t:=x.2.1.data.toList) (k:=20) (by simpa using hx20);omega
     obtain⟨⟨x1,x2⟩,ow,us⟩:=x
     simp only at c6 hcx hnx hxb
     have hA:At w b (bff+j*4) [.int .i64 x1,.int .i64 x2,.string ow,.int .i64 us]:=hA
     have hps:=(HPN.out us).2
     have hlt1:(j:Int)<n6:=by omega
     cases hp:eqB (x1,x2) (a1,a2)
     ·have HU2:Hid (u=bs (cat (usF (a1,a2)) (uss.take (j+1)))):=hY (by rw[hcx,hp,HU.out];simp)
      have HNX:Hid (z0o (a1,a2) (uss.take (j+1))=z0o (a1,a2) (uss.take j)):=hY (by rw[hnx,hp];rfl)
      clear hx hcx hnx HU hfx hq c6
      generalize z0o (a1,a2) (uss.take j)=nu at *
      go_wp2_with ((first|refine zU ?_|(refine zA 12 ?_;intro b12));clear H;intro wn H)
      go_roundg (n6-(j+1))
      case measure=>omega
      case rel=>exact⟨j+1,u,by omega,by go_num,rfl,by rw[HNX.out],HU2,H.sel sF⟩
     ·have HU2:Hid (u++(q++pn us)=bs (cat (usF (a1,a2)) (uss.take (j+1)))):=hY (by rw[hcx,hp,HU.out,hq,(HPN.out us).1,bs_append,bs_append];rfl)
      have HNX:Hid (z0o (a1,a2) (uss.take (j+1))=z0o (a1,a2) (uss.take j)+1):=hY (by rw[hnx,hp];rfl)
      clear hx hcx hnx HU hfx hq
      generalize z0o (a1,a2) (uss.take j)=nu at *
      go_wp2_with (first|((first|refine zU ?_|(refine zA 12 ?_;intro b12));clear H;intro wn H)|(refine zHq 13 ?_;(iterate 3 (all_goals(refine zhFV ?_)));all_goals refine zHk (fun w1 H1=>c6 _) ?_;(iterate 2 (all_goals(refine zhFV ?_)));(all_goals(with_reducible refine Qk.mk ?_));(all_goals((with_reducible refine' hq_step ?_ ?_ ?_);rotate_left;rfl;(focus(intro w1 H1;unfold QOk;go_simp;exact q_call (c5 _ (by assumption) _)));(try simp only[yG,yH,yJ,yK]);refine zp ?_));(all_goals(with_reducible refine Qk.out ?_));(iterate 3 (all_goals(refine zhSV ?_)));all_goals(refine zHz ?_;clear H;intro wn H)))
      go_roundg (n6-(j+1))
      case measure=>omega
      case rel=>exact⟨j+1,_,by omega,by go_num,rfl,by rw[HNX.out];go_num,HU2,H.sel sF⟩
    ·obtain rfl:n6=j:=by omega
     have hlt2:=nlt n6
     have husz:u.size≤2016:=by rw[HU.out,zsize_bs];exact HH2.out n6
     have HUU:Hid (u=bs (cat (usF (a1,a2)) uss)):=hY (by rw[HU.out,HN6.out,List.take_length])
     obtain⟨nu,hnu2⟩:=nm (z0o (a1,a2) (uss.take n6))
     have HNU:Hid (nu=z0o (a1,a2) uss):=hY (by rw[hnu2,HN6.out,List.take_length])
     rw[←hnu2] at hnu ⊢
     clear HU hnu2
     have hb1:bd (nt:Int):=⟨by omega,by omega⟩
     have hb2:bd (nu:Int):=⟨by omega,by omega⟩
     have hp1:=(HPN.out nt).2
     have hp2:=(HPN.out nu).2
     have HD0:Hid (pn nt++t++pn nu++u=bs (hd++catTo fl 0)):=hY (by rw[HHD.out,(HPN.out nt).1,(HPN.out nu).1,HTT.out,HUU.out,bs_append,bs_append,bs_append,show catTo fl 0 = [] from rfl,List.append_nil,HNT.out,HNU.out])
     go_wp2_with ((first|refine zU ?_|(go_at_call 83;refine gvF (c5 _ (by assumption) _) H ?_));clear H;intro wn H)
     clear hb1 hb2 hp1 hp2 HTT HUU HNT HNU hnt hnu htsz husz
     go_loopg [13,77] n (fun g tv iv wr=>∃(i:Nat) (t:ByteArray),i+g=n∧iv = .int .i64 i∧tv = .string t∧Hid (t=bs (hd++catTo fl i))∧Hs noRow w [Hl.blk b2 57 #[.slice A1 n1 k1,.slice A2 n k2,.slice A3 n3 k3,.int .i64 hf,.slice A4 n4 k4,.slice A5 n5 k5,.slice A6 n6 k6,.int .i64 now,.slice A7 n k7],Hl.blk b3 123 #[.int .i64 a1,.int .i64 a2]] wr)
     case atStart=>exact⟨0,_,by omega,rfl,rfl,HD0,H.sel sF⟩
     case round=>
      clear H HD0
      obtain⟨k,t,hk,rfl,rfl,HT,H⟩:=hrel
      by_cases hlt:k<n
      ·obtain ⟨p,hx⟩:=atE HN2 hlt
       have hs:=sl_at G2.out hx
       rw[←HN2.out] at hs
       obtain⟨d,dff,c',cs,hv,hcs,hA⟩:=hs
       injection hv with hv1 hv2 hv3
       subst hv1 hv3
       clear hv2
       have hpp:=hx
       obtain rfl:cs=encPr p:=hcs
       have hB:=hA
       clear hx hA
       obtain⟨x,hx⟩:=atE HN7 hlt
       have hs:=sl_at G7.out hx
       rw[←HN7.out] at hs
       obtain⟨b,bff,c',cs,hv,hcs,hA⟩:=hs
       injection hv with hv1 hv2 hv3
       subst hv1 hv3
       clear hv2
       have hfi:fl k=if eqB p.1 (a1,a2) then z8n x.2.2 else []:=by rw[HFL.out];exact z5b hpp hx
       obtain⟨⟨xb1,xb2,xb3⟩,_,_,xl⟩:=Q7.out x (List.mem_of_getElem? hx)
       obtain⟨u1,u2,u3,rfl,f1,f2,f3⟩:=bo_form hcs
       obtain⟨F3,m3,rfl,_,_⟩:=sl_form f3
       obtain⟨F2,m2,rfl,_,_⟩:=sl_form f2
       obtain⟨F1,m1,rfl,_,_⟩:=sl_form f1
       obtain⟨⟨p1,p2⟩,⟨p3,p4⟩,r⟩:=p
       obtain⟨y1,y2,lg⟩:=x
       simp only at hfi f3 xl xb3 hA
       have hB:At w d (dff+k*5) [.int .i64 p1,.int .i64 p2,.int .i64 p3,.int .i64 p4,.int .i64 r]:=hB
       have h5:w.cell? ⟨b,bff+k*3+2,none⟩=some (.slice F3 lg.length m3):=hA 2 _ rfl
       obtain⟨nl,hnl⟩:=nm lg.length
       rw[←hnl] at h5 f3
       have F3R:=hY f3
       have HNL:=hY hnl
       have HXB:=hY xb3
       have hnl12:nl≤12:=by omega
       have hts:t.size≤27200:=by rw[HT.out,zsize_bs];exact HL1.out k (by omega)
       have hlt1:(k:Int)<n:=by omega
       cases hp:eqB (p1,p2) (a1,a2)
       ·have HT2:Hid (t=bs (hd++catTo fl (k+1))):=hY (by rw[HT.out,catTo_succ,hfi,hp];simp)
        clear hpp hx hcs hfi HT f1 f2 f3 hA hnl xb1 xb2 xb3 xl
        go_wp2_with ((first|refine zU ?_|(refine zA 15 ?_;intro b15));clear H;intro wn H)
        go_roundg (n-(k+1))
        case measure=>omega
        case rel=>exact⟨k+1,t,by omega,by go_num,rfl,HT2,H.sel sF⟩
       ·have hbn:bd (nl:Int):=⟨by omega,by omega⟩
        have hps:=(HPN.out nl).2
        have HT1:Hid (t++pn nl=bs (((hd++catTo fl k)++putNum nl)++cat ntB (lg.take 0))):=hY (by rw[HT.out,(HPN.out nl).1,bs_append,List.take_zero,show cat ntB [] = [] from rfl,List.append_nil])
        have HT9:Hid (((hd++catTo fl k)++putNum nl)++cat ntB (lg.take nl)=hd++catTo fl (k+1)):=hY (by rw[catTo_succ,hfi,hp,hnl,List.take_length];unfold z8n;simp only[List.append_assoc,if_true])
        have HL3:=hY (show ∀j,(((hd++catTo fl k)++putNum nl)++cat ntB (lg.take j)).length≤28000 from fun j=>by
         have h0:=HL1.out k (by omega)
         have h1:=z0a (f:=ntB) (b:=22) (l:=lg) (fun n _=>z4p n) j
         have h3:=(putNum_length (nl:Int)).2
         rw[List.length_append,List.length_append]
         omega)
        clear hpp hx hcs hfi HT f1 f2 f3 hnl xb1 xb2 xb3 xl
        generalize ((hd++catTo fl k)++putNum (nl:Int))=hd2 at *
        go_wp2_with ((first|refine zU ?_|(refine zA 15 ?_;intro b15)|(go_at_call 83;refine gvF (c5 _ (by assumption) _) H ?_));clear H;intro wn H)
        clear hbn hps hp
        go_loopg [13,105] nl (fun g tv iv wr=>∃(j:Nat) (t:ByteArray),j+g=nl∧iv = .int .i64 j∧tv = .string t∧Hid (t=bs (hd2++cat ntB (lg.take j)))∧Hs noRow w [Hl.blk b2 57 #[.slice A1 n1 k1,.slice (some ⟨d,dff,none⟩) n k2,.slice A3 n3 k3,.int .i64 hf,.slice A4 n4 k4,.slice A5 n5 k5,.slice A6 n6 k6,.int .i64 now,.slice (some ⟨b,bff,none⟩) n k7],Hl.blk b3 123 #[.int .i64 a1,.int .i64 a2]] wr)
        case atStart=>exact⟨0,_,by omega,rfl,rfl,HT1,H.sel sF⟩
        case round=>
         clear H HT1 hts
         obtain⟨j,t,hj,rfl,rfl,HT,H⟩:=hrel
         by_cases hlt:j<nl
         ·obtain ⟨y,hx⟩:=atE HNL hlt
          have hs:=sl_at F3R.out hx
          rw[←HNL.out] at hs
          obtain⟨e,eff,c',cs,hv,hcs,hA⟩:=hs
          injection hv with hv1 hv2 hv3
          subst hv1 hv3
          clear hv2
          obtain rfl:cs=encNt y:=hcs
          have hby:=HXB.out y (List.mem_of_getElem? hx)
          have hcy:=z0f (f:=ntB) hx
          obtain⟨w1,w2⟩:=y
          simp only at hby
          have hby1:=hby.1
          have hby2:=hby.2
          have hts:t.size≤28000:=by rw[HT.out,zsize_bs];exact HL3.out j
          have hlt2:(j:Int)<nl:=by omega
          have hA:At w e (eff+j*2) [.int .i64 w1,.int .i64 w2]:=hA
          obtain⟨q,hq⟩:=nm (bs (putNum w1++putNum w2))
          have hqs:q.size≤22:=by rw[hq,zsize_bs,List.length_append];have h1:=(putNum_length w1).2;have h2:=(putNum_length w2).2;omega
          have HT3:Hid (t++q=bs (hd2++cat ntB (lg.take (j+1)))):=hY (by rw[HT.out,hq,bs_append,hcy,List.append_assoc];rfl)
          clear hx hcy HT
          go_wp2_with ((first|refine zU ?_|(refine zA 17 ?_;intro b17)|(refine zI ?_;intro nb));clear H;intro wn H)
          refine gvF (z6k w1 w2 q hq hby1 hby2 _ _ _ (H.blk iF)) H ?_;clear H;intro wn H
          clear hq
          go_wp2_with (fail)
          go_roundg (nl-(j+1))
          case measure=>omega
          case rel=>exact⟨j+1,_,by omega,by go_num,rfl,HT3,H.sel sF⟩
         ·obtain rfl:nl=j:=by omega
          have hlt2:=nlt nl
          have HT2:Hid (t=bs (hd++catTo fl (k+1))):=hY (by rw[HT.out,HT9.out])
          clear HT
          go_wp2_with (fail)
          go_roundg (n-(k+1))
          case measure=>omega
          case rel=>exact⟨k+1,t,by omega,by go_num,rfl,HT2,H.sel sF⟩
      ·obtain rfl:n=k:=by omega
       have hlt1:=nlt n
       have HE0:Hid (t=bs ((hd++catTo fl n)++catTo fh 0)):=hY (by rw[HT.out,show catTo fh 0 = [] from rfl,List.append_nil])
       clear HT HL1 HFL
       go_wp2_with (refine zL ?_;clear H;intro wn H)
       go_loopg [13,124] n (fun g tv iv wr=>∃(i:Nat) (t:ByteArray),i+g=n∧iv = .int .i64 i∧tv = .string t∧Hid (t=bs ((hd++catTo fl n)++catTo fh i))∧Hs noRow w [Hl.blk b2 57 #[.slice A1 n1 k1,.slice A2 n k2,.slice A3 n3 k3,.int .i64 hf,.slice A4 n4 k4,.slice A5 n5 k5,.slice A6 n6 k6,.int .i64 now,.slice A7 n k7],Hl.blk b3 123 #[.int .i64 a1,.int .i64 a2]] wr)
       case atStart=>exact⟨0,_,by omega,rfl,rfl,HE0,H.sel sF⟩
       case round=>
        clear H HE0
        obtain⟨j,t,hj,rfl,rfl,HT,H⟩:=hrel
        by_cases hlt:j<n
        ·obtain ⟨p,hx⟩:=atE HN2 hlt
         have hs:=sl_at G2.out hx
         rw[←HN2.out] at hs
         obtain⟨d,dff,c',cs,hv,hcs,hA⟩:=hs
         injection hv with hv1 hv2 hv3
         subst hv1 hv3
         clear hv2
         have hpp:=hx
         obtain rfl:cs=encPr p:=hcs
         have hB:=hA
         clear hx hA
         obtain⟨x,hx⟩:=atE HN7 hlt
         have hs:=sl_at G7.out hx
         rw[←HN7.out] at hs
         obtain⟨b,bff,c',cs,hv,hcs,hA⟩:=hs
         injection hv with hv1 hv2 hv3
         subst hv1 hv3
         clear hv2
         have hfi:fh j=if eqB p.2.1 (a1,a2) then z1e x.2.1 else []:=by rw[HFH.out];exact z3k hpp hx
         obtain⟨⟨xb1,xb2,xb3⟩,_,xl,_⟩:=Q7.out x (List.mem_of_getElem? hx)
         obtain⟨u1,u2,u3,rfl,f1,f2,f3⟩:=bo_form hcs
         have c8:=fun w1 hb=>z1d _ x.2.1 (by omega) xb2 w1 (Ty.below _ f2 hb)
         obtain⟨F2,m2,rfl,_,_⟩:=sl_form f2
         obtain⟨⟨p1,p2⟩,⟨p3,p4⟩,r⟩:=p
         obtain⟨y1,y2,lg⟩:=x
         simp only at hfi xl hA c8
         have hB:At w d (dff+j*5) [.int .i64 p1,.int .i64 p2,.int .i64 p3,.int .i64 p4,.int .i64 r]:=hB
         have h5:w.cell? ⟨b,bff+j*3+1,none⟩=some (.slice F2 y2.length m2):=hA 1 _ rfl
         obtain⟨nh,hnh⟩:=nm y2.length
         rw[←hnh] at h5 c8
         have hts:t.size≤28000:=by rw[HT.out,zsize_bs];exact HL2.out j (by omega)
         have hlt2:(j:Int)<n:=by omega
         cases hp:eqB (p3,p4) (a1,a2)
         ·have HT2:Hid (t=bs ((hd++catTo fl n)++catTo fh (j+1))):=hY (by rw[HT.out,catTo_succ,hfi,hp];simp)
          clear hpp hx hcs hfi HT f1 f2 f3 hA hnh xb1 xb2 xb3 xl c8
          go_wp2_with ((first|refine zU ?_|(refine zA 19 ?_;intro b19));clear H;intro wn H)
          go_roundg (n-(j+1))
          case measure=>omega
          case rel=>exact⟨j+1,t,by omega,by go_num,rfl,HT2,H.sel sF⟩
         ·obtain ⟨q,hq⟩:=nm (bs (cat putNum y2))
          replace c8:∀w1,Below w.heap.size w w1→Gives Tryz.prog 84 #[.slice F2 nh m2] w1 (.string q):=fun w1 hb=>by rw[hq];exact c8 w1 hb
          have hbn:bd (nh:Int):=⟨by omega,by omega⟩
          have hps:=(HPN.out nh).2
          have hqs:q.size≤33:=by
           rw[hq,zsize_bs]
           have:=z0r (f:=putNum) (b:=11) (l:=y2) fun n _=>(putNum_length n).2
           omega
          have HT2:Hid (t++(pn nh++q)=bs ((hd++catTo fl n)++catTo fh (j+1))):=hY (by rw[HT.out,catTo_succ,hfi,hp,hq,(HPN.out nh).1,hnh,bs_append,bs_append];unfold z1e;simp only[List.append_assoc,if_true])
          clear hq
          clear hpp hx hcs hfi HT f1 f2 f3 hA hnh xb1 xb2 xb3 xl
          go_wp2_with (first|((first|refine zU ?_|(refine zA 19 ?_;intro b19));clear H;intro wn H)|(refine zHq 32 ?_;(iterate 9 (all_goals(refine zhFV ?_)));(all_goals(with_reducible refine Qk.mk ?_));(all_goals((with_reducible refine' hq_step ?_ ?_ ?_);rotate_left;rfl;(focus(intro w1 H1;unfold QOk;go_simp;exact q_call (c5 _ (by assumption) _)));(try simp only[yG,yH,yJ,yK]);refine zp ?_));(all_goals(with_reducible refine Qk.out ?_));(iterate 7 (all_goals(refine zhFV ?_)));all_goals refine zHk (fun w1 H1=>c8 _ H1.below) ?_;(iterate 3 (all_goals(refine zhSV ?_)));all_goals(refine zHz ?_;clear H;intro wn H)))
          go_roundg (n-(j+1))
          case measure=>omega
          case rel=>exact⟨j+1,_,by omega,by go_num,rfl,HT2,H.sel sF⟩
        ·obtain rfl:n=j:=by omega
         have hlt2:=nlt n
         go_wp2_with (fail)
         go_ret
         exact⟨by rw[HZ.out,HT.out] <;> rfl,H.below⟩
