import Derived.Test.YtcabgibdkmgdlaaGreatJ2
import Derived.Test.YtcabgibdkmgdlaaGreatJ7
import Derived.Test.YtcabgibdkmgdlaaGreatC1
import Derived.ProofKit
import Derived.OpenShut
import Derived.ShutString
import Derived.ChangeOld
import Derived.Lib.SmallJoins
import Derived.Deep.Slices
import Derived.Deep.Fields
import Derived.Test.YtcabgibdkmgdlaaGreatJ3
import Derived.Test.YtcabgibdkmgdlaaGreatJ5
import Derived.Test.YtcabgibdkmgdlaaGreatG1
set_option linter.unusedSimpArgs false
set_option linter.unusedVariables false
set_option maxRecDepth 100000
set_option maxHeartbeats 4000000
namespace Go.Proofs.YtcabgibdkmgdlaaGreat
open Go.RowKit M
def tSli{α:Type}(T:Ty (List α))(l:List α):Value→List Hl→Prop:=fun v M=>∃A c N,v = .slice A l.length c∧T.own [.slice A l.length c] l N∧M = [Hl.all N]
theorem tSli.form{α:Type}{T:Ty (List α)}{l:List α}{v:Value}{M:List Hl}(h:tSli T l v M):∃A n c,v = .slice A n c:=by
 obtain⟨A,c,_,e,_⟩:=h
 exact⟨A,_,c,e⟩
theorem ret_flatS{α:Type}{s s' n:Nat}{enc:α→List Value}{hl:∀a,(enc a).length=s}{h1:∀a,∀u ∈ enc a,u.oneCell'=true}{E:TypeId}{w w':World}{v:Value}{xs:List Value}{l:List α}{L:List Hl}(H:Hs noRow w (Hl.row E s' v n xs::L) w')(hx:xs=flat enc l)(hn:n=l.length)(hs:s'=s:=by rfl):
  RPost [] w (tSli (Ty.sl E (Ty.flat s enc hl h1)) l) (.returned v) w':=by
 obtain⟨A,c,e,_,_⟩:=(H.rows .here).slice
 subst hn e
 obtain⟨v',M,e,⟨N,k1,k2,_⟩,hk⟩:=ret_flat (hl:=hl) (h1:=h1) H hx rfl hs
 injection e with e
 subst e
 exact⟨_,M,rfl,⟨A,c,N,rfl,k1,k2⟩,hk⟩
theorem rd_none{α:Type}{T:Ty α}{E:TypeId}{w:World}{n c:Nat}{l:List α}(h:(Ty.sl E T).rd w [.slice none n c] l):l = []:=by
 obtain⟨v,xs,e,hr,hL⟩:=h
 injection e with e;subst e
 obtain⟨A',c',hv,hn,hc,hf⟩:=hr.form
 injection hv with h1 h2 h3
 subst h1 h2 h3
 by_cases h0:0<l.length
 ·obtain ⟨b,off,hA,_⟩:=hf h0
  cases hA
 ·exact List.eq_nil_of_length_eq_zero (by omega)
theorem run_nilS{P:Program}{T t:TypeId}(hT:P.underlying T=some (.slice t))(A:Option Addr)(n c:Nat)(w:World):(binOp .eql T (.slice A n c) (.slice none 0 0)).run P w = .ok (.bool A.isNone) w:=by
 have hu:=run_underlying hT
 show (do pure (Value.bool (←Op.equal T (.slice A n c) (.slice none 0 0))):Sem Value).run P w=_
 unfold Op.equal Op.maxDepth
 rw[Op.equalIn]
 cases A <;> (simp only[Sem.run_bind,hu,Result.andThen_ok,Sem.run_pure]) <;> rfl
section
variable {P:Program} {R:Nat→Prop} {w0 w:World} {L:List Hl} {a:Act} {ops:Array Oper} {Q:Exit→Act→World→Prop} {rest:List Oper} {dst:Option Tmp} {ty T t:TypeId} {x y:Operand} {pos:String} {aft:Array Edge} {A:Option Addr} {p:Addr} {n c:Nat}
theorem st_nilS(H:Hs R w0 L w)(hx:a.eval x = .slice A n c)(hy:a.eval y = .slice none 0 0)(hT:P.underlying T=some (.slice t))(k:∀w',Hs R w0 L w'→wpList P ops Q rest (a.put dst (.bool A.isNone)) w'):
  wpList P ops Q (⟨dst,.binOp .eql T x y T,ty,pos,aft,none⟩::rest) a w:=by
 refine st_v H rfl ?_ k
 unfold OpOk execOp
 simp only[hx,hy]
 go_simp
 rw[run_nilS hT]
 exact now_v
theorem st_nil0(H:Hs R w0 L w)(hx:a.eval x = .slice none n c)(hy:a.eval y = .slice none 0 0)(hT:P.underlying T=some (.slice t))(k:∀w',Hs R w0 L w'→wpList P ops Q rest (a.put dst (.bool true)) w'):
  wpList P ops Q (⟨dst,.binOp .eql T x y T,ty,pos,aft,none⟩::rest) a w:=st_nilS H hx hy hT k
theorem st_nil1(H:Hs R w0 L w)(hx:a.eval x = .slice (some p) n c)(hy:a.eval y = .slice none 0 0)(hT:P.underlying T=some (.slice t))(k:∀w',Hs R w0 L w'→wpList P ops Q rest (a.put dst (.bool false)) w'):
  wpList P ops Q (⟨dst,.binOp .eql T x y T,ty,pos,aft,none⟩::rest) a w:=st_nilS H hx hy hT k
end
theorem encNum_ones:∀(a:Int),∀u ∈ encNum a,u.oneCell'=true:=fun a u hu=>tyNum.one (w:=default) (show tyNum.rd default (encNum a) a from rfl) u hu
theorem clone_Int(v:Value)(l:List Int)(hl:l.length≤1000000)(w:World)(hr:(Ty.sl 2 tyNum).rd w [v] l):Rets Tryz.prog [] 147 #[v] w (tSli (Ty.sl 2 tyNum) l):=by
 obtain⟨A,c,rfl,hlc,hcm⟩:=sl_form hr
 have H:=Hs.start noRow w
 have hRd:=sl_rd hr
 have hone:=flat_ones encNum_ones l
 cases A with
 | none=>
  obtain rfl:=rd_none hr
  clear hr hRd hone
  refine Rets.of ?_
  go_enter Tryz.func147,Tryz.ntmps147
  go_wp2_with ((((with_reducible apply st_nil0 H);rfl;rfl;(focus exact Tryz.underlying125)));clear H;intro wn H;refine zp ?_)
  go_ret
  exact ret_flatS (H.putRow 2 1 none) rfl rfl
 | some p=>
  obtain⟨n,hn⟩:=nm l.length
  rw[←hn] at hRd hl ⊢
  have HN:=hY hn
  clear hr hlc hcm hn
  refine Rets.of ?_
  go_enter Tryz.func147,Tryz.ntmps147
  go_wp2_with (first|(refine zI ?_;clear H;intro nb wn H)|((((with_reducible apply st_nil1 H);rfl;rfl;(focus exact Tryz.underlying125)));clear H;intro wn H;refine zp ?_)|(have Hn:=H.putRow 2 1 (some ⟨nb,0,none⟩);(with_reducible apply st_appendr Hn);(focus(with_reducible exact dH));rfl;rfl;kernel_rfl;(focus exact(hRd.later H.below));exact hone;(focus omega);clear Hn;clear H;intro vq wn H;refine zp ?_))
  go_ret
  exact ret_flatS H (by rw[List.nil_append]) (by rw[Nat.zero_add];exact HN.out)
theorem encNt_ones:∀(a:Nt),∀u ∈ encNt a,u.oneCell'=true:=fun a u hu=>tyNt.one (w:=default) (show tyNt.rd default (encNt a) a from rfl) u hu
theorem clone_Note(v:Value)(l:List Nt)(hl:l.length≤1000000)(w:World)(hr:(Ty.sl 162 tyNt).rd w [v] l):Rets Tryz.prog [] 148 #[v] w (tSli (Ty.sl 162 tyNt) l):=by
 obtain⟨A,c,rfl,hlc,hcm⟩:=sl_form hr
 have H:=Hs.start noRow w
 have hRd:=sl_rd hr
 have hone:=flat_ones encNt_ones l
 cases A with
 | none=>
  obtain rfl:=rd_none hr
  clear hr hRd hone
  refine Rets.of ?_
  go_enter Tryz.func148,Tryz.ntmps148
  go_wp2_with ((((with_reducible apply st_nil0 H);rfl;rfl;(focus exact Tryz.underlying126)));clear H;intro wn H;refine zp ?_)
  go_ret
  exact ret_flatS (H.putRow 162 2 none) rfl rfl
 | some p=>
  obtain⟨n,hn⟩:=nm l.length
  rw[←hn] at hRd hl ⊢
  have HN:=hY hn
  clear hr hlc hcm hn
  refine Rets.of ?_
  go_enter Tryz.func148,Tryz.ntmps148
  go_wp2_with (first|(refine zI ?_;clear H;intro nb wn H)|((((with_reducible apply st_nil1 H);rfl;rfl;(focus exact Tryz.underlying126)));clear H;intro wn H;refine zp ?_)|(have Hn:=H.putRow 162 2 (some ⟨nb,0,none⟩);(with_reducible apply st_appendr Hn);(focus(with_reducible exact dH));rfl;rfl;kernel_rfl;(focus exact(hRd.later H.below));exact hone;(focus omega);clear Hn;clear H;intro vq wn H;refine zp ?_))
  go_ret
  exact ret_flatS H (by rw[List.nil_append]) (by rw[Nat.zero_add];exact HN.out)
end Go.Proofs.YtcabgibdkmgdlaaGreat
namespace Go.Proofs.YtcabgibdkmgdlaaGreat
open Go.RowKit M
namespace M
def fitsCfg(c:Cfg):Prop:=c.1.length≤1000∧(∀x ∈ c.1,x.length≤1000000)∧c.2.1.length≤1000000∧c.2.2.1.length≤1000000
theorem cfg_fits{c:Cfg}(h:cfgOk c=true):fitsCfg c∧0<c.1.length∧c.1.length≤6∧c.2.1.length≤4:=by
 unfold cfgOk at h
 simp only[Bool.and_eq_true,decide_eq_true_eq] at h
 obtain⟨h1,h2,h3,h4,h5⟩:=h
 have hc:=clear_ok h1
 have hp:c.2.1.length≤4:=by
  unfold pairsOk at h4
  simp only[Bool.and_eq_true,decide_eq_true_eq] at h4
  exact h4.2
 have hq:=quotas_len (fun a=>labels_ok a) h5
 refine⟨⟨by omega,fun x hx=>?_,by omega,by omega⟩,by omega,by omega,hp⟩
 have h6:=List.all_eq_true.1 hc.1 x hx
 unfold chainOk at h6
 simp only[Bool.and_eq_true,decide_eq_true_eq] at h6
 omega
def regsOf(c:Cfg):Nat:=1+(labelsOf c.1).length+c.2.1.length
theorem cfg_labs{c:Cfg}(h:cfgOk c=true):clearOk c.1=true∧(labelsOf c.1).length≤8:=by
 unfold cfgOk at h
 simp only[Bool.and_eq_true,decide_eq_true_eq] at h
 exact⟨h.1,h.2.2.1⟩
end M
theorem Rets.lit{P:Program}{K:List Hl}{f:FuncId}{args:Array Value}{w:World}{T U:Value→List Hl→Prop}(h:Rets P K f args w T)(hTU:∀v M w',T v M→(∀k ∈ M,k.P w')→U v M):Rets P K f args w U:=
 Calls.mono h (fun _ w' ⟨v,M,he,hT,hk⟩=>⟨v,M,he,hTU v M w' hT hk.ok,hk⟩)
theorem tSli_of{α:Type}{T:Ty α}{E:TypeId}{l:List α}{v:Value}{M:List Hl}{w:World}(h:tOwn (Ty.sl E T) l v M)(hp:∀k ∈ M,k.P w):tSli (Ty.sl E T) l v M:=by
 obtain⟨N,ho,rfl,h1⟩:=h
 have h2:=own_single ho h1 rfl
 have h3:=(Ty.sl E T).read h2 (hp _ (List.mem_singleton.2 rfl)).1
 obtain⟨A,c,rfl,_,_⟩:=sl_form h3
 exact⟨A,c,N,rfl,h2,rfl⟩
theorem regs_i(c:Cfg)(cs:List Value)(hok:cfgOk c=true)(w:World)(hrc:tyCfg.rd w cs c):Gives Tryz.prog 69 #[.agg cs.toArray] w (.int .i64 (regsOf c)):=by
 have h4:=(cfg_fits hok).2.2.2
 have h8:=(cfg_labs hok).2
 have hcl:=(cfg_labs hok).1
 obtain⟨v1,v2,v3,rfl,h1,h2,h3⟩:=cfg_form hrc
 obtain⟨nd,pr,qt,hf⟩:=c
 simp only at h1 h2 h3 h4 h8 hcl
 obtain⟨D1,d1,hv1,_,_⟩:=sl_form h1
 obtain⟨D2,d2,rfl,_,_⟩:=sl_form h2
 obtain⟨D3,d3,rfl,_,_⟩:=sl_form h3
 have c1:=fun w1 hb=>(labels_i v1 D2 D3 pr.length d2 qt.length d3 hf nd hcl w1 (Ty.below _ h1 hb)).lit (fun v M w' h hp=>tSli_of h hp)
 show Gives Tryz.prog _ #[.agg #[v1,.slice D2 pr.length d2,.slice D3 qt.length d3,.int .i64 hf]] w (.int .i64 ((1+(labelsOf nd).length+pr.length:Nat):Int))
 subst hv1
 clear hrc h1 h2 h3 hcl hok
 have H:=Hs.start noRow w
 unfold Gives
 go_enter Tryz.func69,Tryz.ntmps69
 go_wp2_with (refine zB 1 ?_;clear H;intro b1 wn H)
 apply wp_region_hs (K:=[]) (Spec.V _::Spec.T _::Spec.V _::Spec.V _::Spec.V _::Spec.V _::Spec.V _::Spec.V _ :: []) 8 H rfl (by simp) (by kernel_rfl) (by kernel_rfl);intro vs Ls;(iterate 1 (refine zhv ?_));(with_reducible apply wpH_T);(focus rfl);(focus rfl);(focus(intro hk w1 H1;unfold OpOk;go_simp;exact now_call (c1 _ H1.below)));refine zp ?_;(with_reducible apply wpH_VK);(focus rfl);(focus rfl);(focus(intro hk w1 H1;have q1:=okT (hk 1 (by decide +kernel) (by decide)) rfl;obtain⟨_,_,_,e,_⟩:=q1;unfold OpOk;(try simp only[e]);go_simp;exact now_v));refine zp ?_;(with_reducible apply wpH_VK);(focus rfl);(focus rfl);(focus(intro hk w1 H1;have q1:=okT (hk 1 (by decide +kernel) (by decide)) rfl;unfold OpOk;go_simp;(try rw[wrap_id (by omega) (by omega)]);exact now_v));refine zp ?_;(iterate 3 (refine zhv ?_));(with_reducible apply wpH_VK);(focus rfl);(focus rfl);(focus(intro hk w1 H1;have q1:=okT (hk 1 (by decide +kernel) (by decide)) rfl;unfold OpOk;go_simp;(try rw[wrap_id (by omega) (by omega)]);exact now_v));refine zp ?_;refine wpH_0 ?_;intro hok wn Hn;(try simp only[yT,yU,yV,yW] at Hn);clear H;have H:=Hn;clear Hn;have ht1:=okT (hok 1 (by decide)) rfl;clear hok;obtain⟨A,k,N,e1,o1,l1⟩:=ht1;simp only[e1,l1,yT,yU,yV] at H ⊢;clear e1 l1;rotate_left;exact lcG
 go_wp2_with (fail)
 go_ret
 exact⟨congrArg (fun z:Int=>Ending.returned (.int .i64 z)) (show 1+((labelsOf nd).length:Int)+(pr.length:Int)=((1+(labelsOf nd).length+pr.length:Nat):Int) by omega),H.below⟩
theorem regs_s(c:Cfg)(cs:List Value)(hok:cfgOk c=true)(w:World)(hrc:tyCfg.rd w cs c):Gives Tryz.prog 48 #[.agg cs.toArray] w (.int .i64 (regsOf c)):=by
 have h4:=(cfg_fits hok).2.2.2
 have h8:=(cfg_labs hok).2
 have hcl:=(cfg_labs hok).1
 obtain⟨v1,v2,v3,rfl,h1,h2,h3⟩:=cfg_form hrc
 obtain⟨nd,pr,qt,hf⟩:=c
 simp only at h1 h2 h3 h4 h8 hcl
 obtain⟨D1,d1,hv1,_,_⟩:=sl_form h1
 obtain⟨D2,d2,rfl,_,_⟩:=sl_form h2
 obtain⟨D3,d3,rfl,_,_⟩:=sl_form h3
 have c1:=fun w1 hb=>(labels_s v1 nd w1 (Ty.below _ h1 hb)).lit (fun v M w' h hp=>tSli_of h hp)
 show Gives Tryz.prog _ #[.agg #[v1,.slice D2 pr.length d2,.slice D3 qt.length d3,.int .i64 hf]] w (.int .i64 ((1+(labelsOf nd).length+pr.length:Nat):Int))
 subst hv1
 clear hrc h1 h2 h3 hcl hok
 have H:=Hs.start noRow w
 unfold Gives
 go_enter Tryz.func48,Tryz.ntmps48
 go_wp2_with (refine zB 1 ?_;clear H;intro b1 wn H)
 apply wp_region_hs (K:=[]) (Spec.V _::Spec.V _::Spec.T _::Spec.V _::Spec.V _::Spec.V _::Spec.V _::Spec.V _::Spec.V _ :: []) 9 H rfl (by simp) (by kernel_rfl) (by kernel_rfl);intro vs Ls;(iterate 2 (refine zhv ?_));(with_reducible apply wpH_T);(focus rfl);(focus rfl);(focus(intro hk w1 H1;unfold OpOk;go_simp;exact now_call (c1 _ H1.below)));refine zp ?_;(with_reducible apply wpH_VK);(focus rfl);(focus rfl);(focus(intro hk w1 H1;have q2:=okT (hk 2 (by decide +kernel) (by decide)) rfl;obtain⟨_,_,_,e,_⟩:=q2;unfold OpOk;(try simp only[e]);go_simp;exact now_v));refine zp ?_;(with_reducible apply wpH_VK);(focus rfl);(focus rfl);(focus(intro hk w1 H1;have q2:=okT (hk 2 (by decide +kernel) (by decide)) rfl;unfold OpOk;go_simp;(try rw[wrap_id (by omega) (by omega)]);exact now_v));refine zp ?_;(iterate 3 (refine zhv ?_));(with_reducible apply wpH_VK);(focus rfl);(focus rfl);(focus(intro hk w1 H1;have q2:=okT (hk 2 (by decide +kernel) (by decide)) rfl;unfold OpOk;go_simp;(try rw[wrap_id (by omega) (by omega)]);exact now_v));refine zp ?_;refine wpH_0 ?_;intro hok wn Hn;(try simp only[yT,yU,yV,yW] at Hn);clear H;have H:=Hn;clear Hn;have ht2:=okT (hok 2 (by decide)) rfl;clear hok;obtain⟨A,k,N,e2,o1,l2⟩:=ht2;simp only[e2,l2,yT,yU,yV] at H ⊢;clear e2 l2;rotate_left;exact lcG
 go_wp2_with (fail)
 go_ret
 exact⟨congrArg (fun z:Int=>Ending.returned (.int .i64 z)) (show 1+((labelsOf nd).length:Int)+(pr.length:Int)=((1+(labelsOf nd).length+pr.length:Nat):Int) by omega),H.below⟩
end Go.Proofs.YtcabgibdkmgdlaaGreat
namespace Go.Proofs.YtcabgibdkmgdlaaGreat
open Go.ChangeShapes Go.WideShapes Go.ChangeAt Go.RowKit Go.Joins Go.Deep
open Go.ChangeMaps (open_string shut_string)
section
variable {H:Type} {enc:TypeId × Value→H} {W:World} {base b0:Nat} {r:Reach} {d:DataW H} {p:List MemPlace} {v:Value}
theorem bd_i64{n:Int}(h:(Lit.int .i64 n).wf=true): -9223372036854775808≤n∧n≤9223372036854775807:=by
 simp[Lit.wf,IntKind.min,IntKind.max,IntKind.signed,IntKind.bits] at h
 exact h
theorem open_list{α:Type}[Inhabited α]{enc':α→List Value}{s:Nat}{ok:α→Prop}{t e:TypeId}(ht:Tryz.prog.underlying t=some (.slice e))(hs:Tryz.prog.cellsOf e=s)(hs0:0<s)(hl:∀a,(enc' a).length=s)
  (hdec:∀n cs y,DataW.trod enc Tryz.prog W base (fun _=>true) true n e cs=some y → ∃a:α,cs=enc' a∧ok a)
  {fuel:Nat} {x:DataW H × List MemPlace} (hf:DataW.trod enc Tryz.prog W base (fun _=>true) true fuel t [v]=some x) :
  ∃(xs:List α),(∃A cap,v = .slice A xs.length cap)∧Rd W s v xs.length (flat enc' xs) ∧ ∀a ∈ xs,ok a:=by
 rcases open_slice ht hf with ⟨hcs,_⟩|⟨a,n,cap,m,k,D,Pl,hcs,hb,hlc,hm,hmm,_,hi⟩
 ·simp at hcs
  subst hcs
  exact⟨[],⟨none,0,rfl⟩,Rd.nil W s,by simp⟩
 ·simp at hcs
  subst hcs
  simp only[if_true] at hmm
  subst hmm
  have key:∀i,i<n → ∃x:α,(∀j,j<s→W.cell? (a.add (i*s+j))=(enc' x)[j]?)∧ok x:=fun i hin=>by
   obtain⟨cs',hc,ht'⟩:=hi i (by omega)
   obtain⟨x,rfl,hx⟩:=hdec _ _ _ ht'
   obtain⟨_,_,hat⟩:=World.cells?_some hc
   refine⟨x,fun j hj=>?_,hx⟩
   have:=hat j (by omega)
   rw[hs,Go.Deep.add_add] at this
   exact this
  obtain⟨f,hfx⟩:=Go.Deep.choose_lt (n:=n) key
  have hlen:((List.range n).map f).length=n:=by simp
  refine⟨(List.range n).map f,⟨some a,_,by rw[hlen]⟩,?_,?_⟩
  ·refine ⟨flat_length hl _,some a,_,by rw[hlen],by rw[hlen];exact hlc,hm,fun hn=>?_⟩
   rw[hlen] at hn
   have hsp:a.spot=none:=by
    have h0:=(hfx 0 hn).1 0 hs0
    have hx:(enc' (f 0))[0]? = some ((enc' (f 0))[0]'(by rw[hl];exact hs0)):=List.getElem?_eq_getElem _
    rw[hx] at h0
    have:=World.cell?_spot h0
    simpa [Addr.add] using this
   obtain⟨ab,ao,asp⟩:=a
   simp only at hsp
   subst hsp
   refine⟨ab,ao,rfl,fun j u hu=>?_⟩
   have hj:j<n*s:=by
    have:=(List.getElem?_eq_some_iff.1 hu).1
    rw[flat_length hl,hlen] at this
    exact this
   have hjs:j / s<n:=Nat.div_lt_of_lt_mul (by rw[Nat.mul_comm];exact hj)
   have h1:=(hfx (j / s) hjs).1 (j%s) (Nat.mod_lt _ hs0)
   have h2:=flat_get hl ((List.range n).map f) (j / s) (j%s) (f (j / s)) (by simp[hjs]) (Nat.mod_lt _ hs0)
   have e:j / s*s+j%s=j:=by rw[Nat.mul_comm];exact Nat.div_add_mod j s
   rw[e] at h1 h2
   rw[h2] at hu
   rw[show (⟨ab,ao+j,none⟩:Addr)=(⟨ab,ao,none⟩:Addr).add j by unfold Addr.add;split <;> simp_all,h1]
   exact hu
  ·intro x hx
   simp only[List.mem_map,List.mem_range] at hx
   obtain⟨i,hi',rfl⟩:=hx
   exact(hfx i hi').2
theorem one_cell{n k T:Nat}{cs:List Value}{xs:List (DataW H × List MemPlace)}(hg:DataW.trod enc Tryz.prog W base (fun _=>true) true n T ((cs.drop k).take (Tryz.prog.cellsOf T))=xs[k]?)(hc:Tryz.prog.cellsOf T=1)(hk:k<xs.length)
  {c:Value} (hck:cs[k]? = some c):∃y,DataW.trod enc Tryz.prog W base (fun _=>true) true n T [c]=some y:=by
 rw[hc,List.getElem?_eq_getElem hk] at hg
 have:(cs.drop k).take 1 = [c]:=by
  have hl:=(List.getElem?_eq_some_iff.1 hck)
  obtain⟨h1,h2⟩:=hl
  rw[List.drop_eq_getElem_cons h1,h2]
  rfl
 rw[this] at hg
 exact⟨_,hg⟩
end
end Go.Proofs.YtcabgibdkmgdlaaGreat
namespace Go.Proofs.YtcabgibdkmgdlaaGreat
open Go.ChangeShapes Go.WideShapes Go.ChangeAt Go.RowKit Go.Joins Go.Deep
open Go.ChangeMaps (open_string shut_string)
section
variable {H:Type} {enc:TypeId × Value→H} {W:World} {base b0:Nat} {r:Reach} {d:DataW H} {p:List MemPlace} {v:Value}
theorem at_int{n k j:Nat}{cs:List Value}{xs:List (DataW H × List MemPlace)}(hg:DataW.trod enc Tryz.prog W base (fun _=>true) true n 2 ((cs.drop k).take (Tryz.prog.cellsOf 2))=xs[j]?)(hk:j<xs.length)
  {c:Value} (hck:cs[k]? = some c):∃s:Int,c = .int .i64 s∧(-9223372036854775808≤s∧s≤9223372036854775807):=by
 rw[show Tryz.prog.cellsOf 2=1 from by kernel_rfl,List.getElem?_eq_getElem hk] at hg
 have:(cs.drop k).take 1 = [c]:=by
  obtain⟨h1,h2⟩:=List.getElem?_eq_some_iff.1 hck
  rw[List.drop_eq_getElem_cons h1,h2]
  rfl
 rw[this] at hg
 obtain⟨s,e,_,hs⟩:=DataW.trod_int Tryz.underlying2 hg
 exact⟨s,by simpa using e,bd_i64 hs⟩
theorem at_str{n k j:Nat}{cs:List Value}{xs:List (DataW H × List MemPlace)}(hg:DataW.trod enc Tryz.prog W base (fun _=>true) true n 9 ((cs.drop k).take (Tryz.prog.cellsOf 9))=xs[j]?)(hk:j<xs.length)
  {c:Value} (hck:cs[k]? = some c):∃s:ByteArray,c = .string s∧s.size≤maxLen:=by
 rw[show Tryz.prog.cellsOf 9=1 from by kernel_rfl,List.getElem?_eq_getElem hk] at hg
 have:(cs.drop k).take 1 = [c]:=by
  obtain⟨h1,h2⟩:=List.getElem?_eq_some_iff.1 hck
  rw[List.drop_eq_getElem_cons h1,h2]
  rfl
 rw[this] at hg
 obtain⟨s,e,_,hs⟩:=DataW.trod_string Tryz.underlying9 hg
 exact⟨s,by simpa using e,hs⟩
theorem dec_Label(n:Nat)(cs:List Value)(y:DataW H × List MemPlace)(h:DataW.trod enc Tryz.prog W base (fun _=>true) true n 230 cs=some y):
  ∃a b:Int,cs = [.int .i64 a,.int .i64 b]:=by
 obtain⟨xs,m,_,_,hlen,hxl,hg⟩:=DataW.trod_struct Tryz.underlying230 h
 rw[show Tryz.prog.cellsOf 230=2 from by kernel_rfl] at hlen
 have hx3:xs.length=2:=hxl
 match cs,hlen with
 | [c0,c1],_=>
  obtain⟨s0,rfl,h0⟩:=at_int (j:=0) (k:=0) (hg 0 _ rfl) (by omega) rfl
  obtain⟨s1,rfl,h1⟩:=at_int (j:=1) (k:=1) (hg 1 _ rfl) (by omega) rfl
  exact⟨s0,s1,rfl⟩
theorem at_lab{n k j:Nat}{cs:List Value}{xs:List (DataW H × List MemPlace)}(hg:DataW.trod enc Tryz.prog W base (fun _=>true) true n 230 ((cs.drop k).take (Tryz.prog.cellsOf 230))=xs[j]?)(hk:j<xs.length)
  {c c':Value} (hck:cs[k]? = some c) (hck':cs[k+1]? = some c'):∃a b:Int,c = .int .i64 a∧c' = .int .i64 b:=by
 rw[show Tryz.prog.cellsOf 230=2 from by kernel_rfl,List.getElem?_eq_getElem hk] at hg
 have:(cs.drop k).take 2 = [c,c']:=by
  obtain⟨h1,h2⟩:=List.getElem?_eq_some_iff.1 hck
  obtain⟨h3,h4⟩:=List.getElem?_eq_some_iff.1 hck'
  rw[List.drop_eq_getElem_cons h1,h2,List.drop_eq_getElem_cons h3,h4]
  rfl
 rw[this] at hg
 obtain⟨a,b,e⟩:=dec_Label _ _ _ hg
 simp at e
 exact⟨a,b,e.1,e.2⟩
end
end Go.Proofs.YtcabgibdkmgdlaaGreat
namespace Go.Proofs.YtcabgibdkmgdlaaGreat
open Go.ChangeShapes Go.WideShapes Go.ChangeAt Go.RowKit Go.Joins Go.Deep M
section
variable {H:Type} {enc:TypeId × Value→H} {W:World} {base b0:Nat} {r:Reach} {d:DataW H} {p:List MemPlace} {v:Value}
theorem open_sl{α:Type}[Inhabited α]{T:Ty α}{ok:α→Prop}{t e E:TypeId}(ht:Tryz.prog.underlying t=some (.slice e))(hs:Tryz.prog.cellsOf e=T.s)(hs0:0<T.s)
  (hdec:∀n cs y,DataW.trod enc Tryz.prog W base (fun _=>true) true n e cs=some y → ∃a:α,T.rd W cs a∧ok a)
  {fuel:Nat} {x:DataW H × List MemPlace} (hf:DataW.trod enc Tryz.prog W base (fun _=>true) true fuel t [v]=some x) :
  ∃l:List α,(Ty.sl E T).rd W [v] l ∧ ∀a ∈ l,ok a:=by
 have hl:∀q:α × List Value,(if q.2.length=T.s then q.2 else List.replicate T.s (Value.bool false)).length=T.s:=fun q=>by
  by_cases h:q.2.length=T.s
  ·rw[if_pos h];exact h
  ·rw[if_neg h];simp
 obtain⟨xs,hA,hR,hO⟩:=open_list (α:=α × List Value) (enc':=fun q=>if q.2.length=T.s then q.2 else List.replicate T.s (Value.bool false)) (s:=T.s)
  (ok:=fun q=>T.rd W (if q.2.length=T.s then q.2 else List.replicate T.s (Value.bool false)) q.1∧ok q.1) ht hs hs0 hl
  (fun n cs y h=>by
   obtain⟨a,ha,hk⟩:=hdec n cs y h
   have hc:cs.length=T.s:=T.len ha
   exact⟨(a,cs),by simp only[hc,if_true],by simp only[hc,if_true];exact ha,hk⟩) hf
 refine⟨xs.map Prod.fst,⟨v,_,rfl,by rw[List.length_map];exact hR,?_⟩,?_⟩
 ·clear hR hA
  induction xs with
  | nil=>exact .nil
  | cons q xs ih=>
   exact .cons (hO q (List.mem_cons_self ..)).1 (ih (fun a ha=>hO a (List.mem_cons_of_mem _ ha)))
 ·intro a ha
  obtain⟨q,hq,rfl⟩:=List.mem_map.1 ha
  exact(hO q hq).2
theorem dec_Lab(n:Nat)(cs:List Value)(y:DataW H × List MemPlace)(h:DataW.trod enc Tryz.prog W base (fun _=>true) true n 230 cs=some y):
  ∃a:Lab,tyLab.rd W cs a∧True:=by
 obtain⟨a,b,rfl⟩:=dec_Label n cs y h
 exact⟨(a,b),rfl,trivial⟩
theorem dec_LabS(n:Nat)(cs:List Value)(y:DataW H × List MemPlace)(h:DataW.trod enc Tryz.prog W base (fun _=>true) true n 295 cs=some y):
  ∃a:List Lab,(Ty.sl 123 tyLab).rd W cs a∧True:=by
 have hlen:cs.length=1:=by
  rcases open_slice Tryz.underlying295 h with ⟨hcs,_⟩|⟨a,n,cap,m,k,D,Pl,hcs,_⟩ <;> rw[hcs] <;> rfl
 match cs,hlen with
 | [c0],_=>
  obtain⟨l,hl,_⟩:=open_sl (E:=123) (T:=tyLab) (ok:=fun _=>True) Tryz.underlying295 (by kernel_rfl) (by decide) dec_Lab h
  exact⟨l,hl,trivial⟩
theorem dec_Pr(n:Nat)(cs:List Value)(y:DataW H × List MemPlace)(h:DataW.trod enc Tryz.prog W base (fun _=>true) true n 312 cs=some y):
  ∃a:Pr,tyPr.rd W cs a∧True:=by
 obtain⟨xs,m,_,_,hlen,hxl,hg⟩:=DataW.trod_struct Tryz.underlying312 h
 rw[show Tryz.prog.cellsOf 312=5 from by kernel_rfl] at hlen
 have hx3:xs.length=3:=hxl
 match cs,hlen with
 | [c0,c1,c2,c3,c4],_=>
  obtain⟨s0,s1,rfl,rfl⟩:=at_lab (j:=0) (k:=0) (hg 0 _ rfl) (by omega) rfl rfl
  obtain⟨s2,s3,rfl,rfl⟩:=at_lab (j:=1) (k:=2) (hg 1 _ rfl) (by omega) rfl rfl
  obtain⟨s4,rfl,h4⟩:=at_int (j:=2) (k:=4) (hg 2 _ rfl) (by omega) rfl
  exact⟨((s0,s1),(s2,s3),s4),rfl,trivial⟩
theorem dec_Qt(n:Nat)(cs:List Value)(y:DataW H × List MemPlace)(h:DataW.trod enc Tryz.prog W base (fun _=>true) true n 315 cs=some y):
  ∃a:Qt,tyQt.rd W cs a∧True:=by
 obtain⟨xs,m,_,_,hlen,hxl,hg⟩:=DataW.trod_struct Tryz.underlying315 h
 rw[show Tryz.prog.cellsOf 315=3 from by kernel_rfl] at hlen
 have hx3:xs.length=2:=hxl
 match cs,hlen with
 | [c0,c1,c2],_=>
  obtain⟨s0,s1,rfl,rfl⟩:=at_lab (j:=0) (k:=0) (hg 0 _ rfl) (by omega) rfl rfl
  obtain⟨s2,rfl,h4⟩:=at_int (j:=1) (k:=2) (hg 1 _ rfl) (by omega) rfl
  exact⟨((s0,s1),s2),rfl,trivial⟩
theorem dec_Cfg(n:Nat)(cs:List Value)(y:DataW H × List MemPlace)(h:DataW.trod enc Tryz.prog W base (fun _=>true) true n 26 cs=some y):
  ∃a:Cfg,tyCfg.rd W cs a∧True:=by
 obtain⟨xs,m,_,_,hlen,hxl,hg⟩:=DataW.trod_struct Tryz.underlying26 h
 rw[show Tryz.prog.cellsOf 26=4 from by kernel_rfl] at hlen
 have hx3:xs.length=4:=hxl
 match cs,hlen with
 | [c0,c1,c2,c3],_=>
  obtain⟨y0,hy0⟩:=one_cell (k:=0) (c:=c0) (hg 0 _ rfl) (by kernel_rfl) (by omega) rfl
  obtain⟨y1,hy1⟩:=one_cell (k:=1) (c:=c1) (hg 1 _ rfl) (by kernel_rfl) (by omega) rfl
  obtain⟨y2,hy2⟩:=one_cell (k:=2) (c:=c2) (hg 2 _ rfl) (by kernel_rfl) (by omega) rfl
  obtain⟨s3,rfl,h3⟩:=at_int (j:=3) (k:=3) (hg 3 _ rfl) (by omega) rfl
  obtain⟨l0,h0,_⟩:=open_sl (E:=118) (T:=Ty.sl 123 tyLab) (ok:=fun _=>True) Tryz.underlying22 (by kernel_rfl) (by decide) dec_LabS hy0
  obtain⟨l1,h1,_⟩:=open_sl (E:=182) (T:=tyPr) (ok:=fun _=>True) Tryz.underlying23 (by kernel_rfl) (by decide) dec_Pr hy1
  obtain⟨l2,h2,_⟩:=open_sl (E:=279) (T:=tyQt) (ok:=fun _=>True) Tryz.underlying24 (by kernel_rfl) (by decide) dec_Qt hy2
  exact⟨(l0,l1,l2,s3),⟨[c0],[c1,c2,.int .i64 s3],rfl,h0,[c1],[c2,.int .i64 s3],rfl,h1,[c2],[.int .i64 s3],rfl,h2,rfl⟩,trivial⟩
end
end Go.Proofs.YtcabgibdkmgdlaaGreat
namespace Go.Proofs.YtcabgibdkmgdlaaGreat
open Go.RowKit M
namespace M
def bd(n:Int):Prop:=-9223372036854775808≤n∧n≤9223372036854775807
def catTo(f:Nat→Bs)(i:Nat):Bs:=((List.range i).map f).flatten
theorem catTo_succ(f:Nat→Bs)(i:Nat):catTo f (i+1)=catTo f i++f i:=by
 unfold catTo
 rw[List.range_succ,List.map_append,List.flatten_append]
 simp
theorem catTo_len{f:Nat→Bs}{b:Nat}(h:∀i,(f i).length≤b)(i:Nat):(catTo f i).length≤b*i:=by
 induction i with
 | zero=>simp[catTo]
 | succ i ih=>
  rw[catTo_succ,List.length_append,Nat.mul_succ]
  have:=h i
  omega
end M
end Go.Proofs.YtcabgibdkmgdlaaGreat
namespace Go.Proofs.YtcabgibdkmgdlaaGreat
open Go.ChangeShapes Go.WideShapes Go.ChangeAt Go.RowKit Go.Joins Go.Deep M
section
variable {H:Type} {enc:TypeId × Value→H} {W:World} {base b0:Nat} {r:Reach} {d:DataW H} {p:List MemPlace} {v:Value}
theorem at_dec{α:Type}{Q:List Value→α→Prop}{t:TypeId}{c:Nat}(hc:Tryz.prog.cellsOf t=c)(hdec:∀n cs y,DataW.trod enc Tryz.prog W base (fun _=>true) true n t cs=some y → ∃a:α,Q cs a)
  {n k j:Nat} {cs os:List Value} {xs:List (DataW H × List MemPlace)} (hg:DataW.trod enc Tryz.prog W base (fun _=>true) true n t ((cs.drop k).take (Tryz.prog.cellsOf t))=xs[j]?) (hk:j<xs.length) (ho:(cs.drop k).take c=os):∃a:α,Q os a:=by
 rw[hc,List.getElem?_eq_getElem hk,ho] at hg
 exact hdec _ _ _ hg
theorem one_at{n k j:Nat}{T:TypeId}{cs:List Value}{xs:List (DataW H × List MemPlace)}(hg:DataW.trod enc Tryz.prog W base (fun _=>true) true n T ((cs.drop k).take (Tryz.prog.cellsOf T))=xs[j]?)(hc:Tryz.prog.cellsOf T=1)(hk:j<xs.length)
  {c:Value} (ho:(cs.drop k).take 1 = [c]):∃y,DataW.trod enc Tryz.prog W base (fun _=>true) true n T [c]=some y:=by
 rw[hc,List.getElem?_eq_getElem hk,ho] at hg
 exact⟨_,hg⟩
theorem dec_NumY(n:Nat)(cs:List Value)(y:DataW H × List MemPlace)(h:DataW.trod enc Tryz.prog W base (fun _=>true) true n 2 cs=some y):
  ∃a:Int,tyNum.rd W cs a∧bd a:=by
 obtain⟨z,rfl,_,wz⟩:=DataW.trod_int Tryz.underlying2 h
 exact⟨z,rfl,bd_i64 wz⟩
theorem dec_SpY(n:Nat)(cs:List Value)(y:DataW H × List MemPlace)(h:DataW.trod enc Tryz.prog W base (fun _=>true) true n 352 cs=some y):
  ∃a:Sp,tySp.rd W cs a∧True:=by
 obtain⟨xs,m,_,_,hlen,hxl,hg⟩:=DataW.trod_struct Tryz.underlying352 h
 rw[show Tryz.prog.cellsOf 352=2 from by kernel_rfl] at hlen
 have hx3:xs.length=2:=hxl
 match cs,hlen with
 | [c0,c1],_=>
  obtain⟨s0,rfl,h0⟩:=at_int (j:=0) (k:=0) (hg 0 _ rfl) (by omega) rfl
  obtain⟨s1,rfl,h1⟩:=at_int (j:=1) (k:=1) (hg 1 _ rfl) (by omega) rfl
  exact⟨(s0,s1),rfl,trivial⟩
theorem dec_NdY(n:Nat)(cs:List Value)(y:DataW H × List MemPlace)(h:DataW.trod enc Tryz.prog W base (fun _=>true) true n 228 cs=some y):
  ∃a:Nd,tyNd.rd W cs a∧True:=by
 obtain⟨xs,m,_,_,hlen,hxl,hg⟩:=DataW.trod_struct Tryz.underlying228 h
 rw[show Tryz.prog.cellsOf 228=2 from by kernel_rfl] at hlen
 have hx3:xs.length=2:=hxl
 match cs,hlen with
 | [c0,c1],_=>
  obtain⟨s0,rfl,h0⟩:=at_int (j:=0) (k:=0) (hg 0 _ rfl) (by omega) rfl
  obtain⟨y1,hy1⟩:=one_cell (k:=1) (c:=c1) (hg 1 _ rfl) (by kernel_rfl) (by omega) rfl
  obtain⟨l1,h1,_⟩:=open_sl (E:=174) (T:=tySp) (ok:=fun _=>True) Tryz.underlying226 (by kernel_rfl) (by decide) dec_SpY hy1
  exact⟨(s0,l1),⟨[.int .i64 s0],[c1],rfl,rfl,h1⟩,trivial⟩
theorem dec_UsY(n:Nat)(cs:List Value)(y:DataW H × List MemPlace)(h:DataW.trod enc Tryz.prog W base (fun _=>true) true n 235 cs=some y):
  ∃a:Us,tyUs.rd W cs a∧okUs a:=by
 obtain⟨xs,m,_,_,hlen,hxl,hg⟩:=DataW.trod_struct Tryz.underlying235 h
 rw[show Tryz.prog.cellsOf 235=4 from by kernel_rfl] at hlen
 have hx3:xs.length=3:=hxl
 match cs,hlen with
 | [c0,c1,c2,c3],_=>
  obtain⟨s0,s1,rfl,rfl⟩:=at_lab (j:=0) (k:=0) (hg 0 _ rfl) (by omega) rfl rfl
  obtain⟨s2,rfl,h2⟩:=at_str (j:=1) (k:=2) (hg 1 _ rfl) (by omega) rfl
  obtain⟨s3,rfl,h3⟩:=at_int (j:=2) (k:=3) (hg 2 _ rfl) (by omega) rfl
  exact⟨((s0,s1),s2,s3),rfl,h2⟩
theorem dec_TaY(n:Nat)(cs:List Value)(y:DataW H × List MemPlace)(h:DataW.trod enc Tryz.prog W base (fun _=>true) true n 232 cs=some y):
  ∃a:Ta,tyTa.rd W cs a∧okTa a:=by
 obtain⟨xs,m,_,_,hlen,hxl,hg⟩:=DataW.trod_struct Tryz.underlying232 h
 rw[show Tryz.prog.cellsOf 232=14 from by kernel_rfl] at hlen
 have hx3:xs.length=12:=hxl
 match cs,hlen with
 | [c0,c1,c2,c3,c4,c5,c6,c7,c8,c9,c10,c11,c12,c13],_=>
  obtain⟨s0,s1,rfl,rfl⟩:=at_lab (j:=0) (k:=0) (hg 0 _ rfl) (by omega) rfl rfl
  obtain⟨s2,rfl,_⟩:=at_int (j:=1) (k:=2) (hg 1 _ rfl) (by omega) rfl
  obtain⟨s3,rfl,h3⟩:=at_str (j:=2) (k:=3) (hg 2 _ rfl) (by omega) rfl
  obtain⟨s4,rfl,_⟩:=at_int (j:=3) (k:=4) (hg 3 _ rfl) (by omega) rfl
  obtain⟨s5,rfl,_⟩:=at_int (j:=4) (k:=5) (hg 4 _ rfl) (by omega) rfl
  obtain⟨s6,rfl,_⟩:=at_int (j:=5) (k:=6) (hg 5 _ rfl) (by omega) rfl
  obtain⟨s7,s8,rfl,rfl⟩:=at_lab (j:=6) (k:=7) (hg 6 _ rfl) (by omega) rfl rfl
  obtain⟨s9,rfl,_⟩:=at_int (j:=7) (k:=9) (hg 7 _ rfl) (by omega) rfl
  obtain⟨s10,rfl,_⟩:=at_int (j:=8) (k:=10) (hg 8 _ rfl) (by omega) rfl
  obtain⟨s11,rfl,_⟩:=at_int (j:=9) (k:=11) (hg 9 _ rfl) (by omega) rfl
  obtain⟨s12,rfl,_⟩:=at_int (j:=10) (k:=12) (hg 10 _ rfl) (by omega) rfl
  obtain⟨y1,hy1⟩:=one_at (k:=13) (j:=11) (c:=c13) (hg 11 _ rfl) (by kernel_rfl) (by omega) rfl
  obtain⟨l1,h1,_⟩:=open_sl (E:=2) (T:=tyNum) (ok:=bd) Tryz.underlying125 (by kernel_rfl) (by decide) dec_NumY hy1
  exact⟨(((s0,s1),s2,s3,s4,s5,s6,(s7,s8),s9,s10,s11,s12),l1),⟨_,[c13],rfl,rfl,h1⟩,h3⟩
theorem dec_NtY(n:Nat)(cs:List Value)(y:DataW H × List MemPlace)(h:DataW.trod enc Tryz.prog W base (fun _=>true) true n 354 cs=some y):
  ∃a:Nt,tyNt.rd W cs a∧(bd a.1∧bd a.2):=by
 obtain⟨xs,m,_,_,hlen,hxl,hg⟩:=DataW.trod_struct Tryz.underlying354 h
 rw[show Tryz.prog.cellsOf 354=2 from by kernel_rfl] at hlen
 have hx3:xs.length=2:=hxl
 match cs,hlen with
 | [c0,c1],_=>
  obtain⟨s0,rfl,h0⟩:=at_int (j:=0) (k:=0) (hg 0 _ rfl) (by omega) rfl
  obtain⟨s1,rfl,h1⟩:=at_int (j:=1) (k:=1) (hg 1 _ rfl) (by omega) rfl
  exact⟨(s0,s1),rfl,h0,h1⟩
def bdBo(a:Bo):Prop:=(∀n ∈ a.1,bd n)∧(∀n ∈ a.2.1,bd n) ∧ ∀x ∈ a.2.2,bd x.1∧bd x.2
theorem dec_BoY(n:Nat)(cs:List Value)(y:DataW H × List MemPlace)(h:DataW.trod enc Tryz.prog W base (fun _=>true) true n 239 cs=some y):
  ∃a:Bo,tyBo.rd W cs a∧bdBo a:=by
 obtain⟨xs,m,_,_,hlen,hxl,hg⟩:=DataW.trod_struct Tryz.underlying239 h
 rw[show Tryz.prog.cellsOf 239=3 from by kernel_rfl] at hlen
 have hx3:xs.length=3:=hxl
 match cs,hlen with
 | [c0,c1,c2],_=>
  obtain⟨y0,hy0⟩:=one_cell (k:=0) (c:=c0) (hg 0 _ rfl) (by kernel_rfl) (by omega) rfl
  obtain⟨y1,hy1⟩:=one_cell (k:=1) (c:=c1) (hg 1 _ rfl) (by kernel_rfl) (by omega) rfl
  obtain⟨y2,hy2⟩:=one_cell (k:=2) (c:=c2) (hg 2 _ rfl) (by kernel_rfl) (by omega) rfl
  obtain⟨l0,h0,k0⟩:=open_sl (E:=2) (T:=tyNum) (ok:=bd) Tryz.underlying125 (by kernel_rfl) (by decide) dec_NumY hy0
  obtain⟨l1,h1,k1⟩:=open_sl (E:=2) (T:=tyNum) (ok:=bd) Tryz.underlying125 (by kernel_rfl) (by decide) dec_NumY hy1
  obtain⟨l2,h2,k2⟩:=open_sl (E:=162) (T:=tyNt) (ok:=fun x=>bd x.1∧bd x.2) Tryz.underlying237 (by kernel_rfl) (by decide) dec_NtY hy2
  exact⟨(l0,l1,l2),⟨[c0],[c1,c2],rfl,h0,[c1],[c2],rfl,h1,h2⟩,k0,k1,k2⟩
theorem dec_MlY(n:Nat)(cs:List Value)(y:DataW H × List MemPlace)(h:DataW.trod enc Tryz.prog W base (fun _=>true) true n 34 cs=some y):
  ∃(l:List Bo),(Ty.sl 128 tyBo).rd W cs l∧(∀b ∈ l,bdBo b):=by
 obtain⟨xs,m,_,_,hlen,hxl,hg⟩:=DataW.trod_struct Tryz.underlying34 h
 rw[show Tryz.prog.cellsOf 34=1 from by kernel_rfl] at hlen
 have hx3:xs.length=1:=hxl
 match cs,hlen with
 | [c0],_=>
  obtain⟨y0,hy0⟩:=one_cell (k:=0) (c:=c0) (hg 0 _ rfl) (by kernel_rfl) (by omega) rfl
  obtain⟨l0,h0,k0⟩:=open_sl (E:=128) (T:=tyBo) (ok:=bdBo) Tryz.underlying32 (by kernel_rfl) (by decide) dec_BoY hy0
  exact⟨l0,h0,k0⟩
theorem dec_YdY(n:Nat)(cs:List Value)(y:DataW H × List MemPlace)(h:DataW.trod enc Tryz.prog W base (fun _=>true) true n 31 cs=some y):
  ∃a:Yd,tyYd.rd W cs a∧okYd a:=by
 obtain⟨xs,m,_,_,hlen,hxl,hg⟩:=DataW.trod_struct Tryz.underlying31 h
 rw[show Tryz.prog.cellsOf 31=8 from by kernel_rfl] at hlen
 have hx3:xs.length=5:=hxl
 match cs,hlen with
 | [c0,c1,c2,c3,c4,c5,c6,c7],_=>
  obtain⟨c,hc,_⟩:=at_dec (k:=0) (j:=0) (c:=4) (by kernel_rfl) dec_Cfg (hg 0 _ rfl) (by omega) rfl
  obtain⟨y1,hy1⟩:=one_at (k:=4) (j:=1) (c:=c4) (hg 1 _ rfl) (by kernel_rfl) (by omega) rfl
  obtain⟨y2,hy2⟩:=one_at (k:=5) (j:=2) (c:=c5) (hg 2 _ rfl) (by kernel_rfl) (by omega) rfl
  obtain⟨y3,hy3⟩:=one_at (k:=6) (j:=3) (c:=c6) (hg 3 _ rfl) (by kernel_rfl) (by omega) rfl
  obtain⟨s7,rfl,_⟩:=at_int (j:=4) (k:=7) (hg 4 _ rfl) (by omega) rfl
  obtain⟨l1,h1,_⟩:=open_sl (E:=172) (T:=tyNd) (ok:=fun _=>True) Tryz.underlying27 (by kernel_rfl) (by decide) dec_NdY hy1
  obtain⟨l2,h2,k2⟩:=open_sl (E:=177) (T:=tyTa) (ok:=okTa) Tryz.underlying28 (by kernel_rfl) (by decide) dec_TaY hy2
  obtain⟨l3,h3,k3⟩:=open_sl (E:=180) (T:=tyUs) (ok:=okUs) Tryz.underlying29 (by kernel_rfl) (by decide) dec_UsY hy3
  exact⟨(c,l1,l2,l3,s7),⟨[c0,c1,c2,c3],[c4,c5,c6,.int .i64 s7],rfl,hc,[c4],[c5,c6,.int .i64 s7],rfl,h1,[c5],[c6,.int .i64 s7],rfl,h2,[c6],[.int .i64 s7],rfl,h3,rfl⟩,k2,k3⟩
theorem dec_StY(n:Nat)(cs:List Value)(y:DataW H × List MemPlace)(h:DataW.trod enc Tryz.prog W base (fun _=>true) true n 36 cs=some y):
  ∃a:St,tySt.rd W cs a∧(okSt a ∧ ∀b ∈ a.2,bdBo b):=by
 obtain⟨xs,m,_,_,hlen,hxl,hg⟩:=DataW.trod_struct Tryz.underlying36 h
 rw[show Tryz.prog.cellsOf 36=9 from by kernel_rfl] at hlen
 have hx3:xs.length=2:=hxl
 match cs,hlen with
 | [c0,c1,c2,c3,c4,c5,c6,c7,c8],_=>
  obtain⟨yd,hy,ky⟩:=at_dec (k:=0) (j:=0) (c:=8) (by kernel_rfl) dec_YdY (hg 0 _ rfl) (by omega) rfl
  obtain⟨l,hl,kl⟩:=at_dec (k:=8) (j:=1) (c:=1) (by kernel_rfl) dec_MlY (hg 1 _ rfl) (by omega) rfl
  exact⟨(yd,l),⟨[c0,c1,c2,c3,c4,c5,c6,c7],[c8],rfl,hy,hl⟩,ky,kl⟩
end
