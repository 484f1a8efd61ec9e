import Derived.Test.YtcabgibdkmgdlaaGreatJF
import Derived.Test.YtcabgibdkmgdlaaGreatSh
import Derived.Laws.IdiomCopy
import Derived.Laws.CopyRow
import Derived.Test.YtcabgibdkmgdlaaGreatJA
import Derived.Test.YtcabgibdkmgdlaaGreatWa
import Derived.Test.YtcabgibdkmgdlaaGreatJE
import Derived.Test.YtcabgibdkmgdlaaGreatJB
import Derived.Test.YtcabgibdkmgdlaaGreatGF
import Derived.Test.YtcabgibdkmgdlaaGreatJD
set_option linter.unusedSimpArgs false
set_option linter.unusedVariables false
set_option maxRecDepth 100000
set_option maxHeartbeats 4000000
namespace Go.Proofs.YtcabgibdkmgdlaaGreat
open Go.RowKit M
def Free(K:List Hl):Prop:=∀(R:Nat→Prop) (w0:World) (L:List Hl) (w:World),Hs R w0 L w→Hs R w0 (K++L) w
theorem Free.nil:Free []:=fun _ _ _ _ h=>h
theorem Free.row{K:List Hl}(E:TypeId)(s:Nat)(A:Option Addr)(h:Free K):Free (Hl.row E s (.slice A 0 0) 0 []::K):=fun R w0 L w H=>(h R w0 L w H).putRow E s A
theorem Free.app{K K':List Hl}(h:Free K)(h':Free K'):Free (K++K'):=fun R w0 L w H=>by rw[List.append_assoc];exact h _ _ _ _ (h' _ _ _ _ H)
theorem z0s{α:Type}{T:Ty α}(E:TypeId):(Ty.sl E T).own [.slice none 0 0] [] [Hl.row E T.s (.slice none 0 0) 0 []]:=⟨_,[],[],rfl,.nil,rfl,rfl⟩
namespace M
end M
end Go.Proofs.YtcabgibdkmgdlaaGreat
namespace Go.Proofs.YtcabgibdkmgdlaaGreat
open Go.RowKit M
namespace M
def z9c:Cfg:=([],[],[],0)
def z8k:Yd:=(z9c,[],[],[],0)
def z3j:St:=(z8k,[])
end M
end Go.Proofs.YtcabgibdkmgdlaaGreat
namespace Go.Proofs.YtcabgibdkmgdlaaGreat
open Go.RowKit M
def tCfg(c:Cfg):Value→List Hl→Prop:=fun v M=>∃A1 n1 k1 A2 n2 k2 A3 n3 k3 N,v = .agg #[.slice A1 n1 k1,.slice A2 n2 k2,.slice A3 n3 k3,.int .i64 c.2.2.2]∧tyCfg.own [.slice A1 n1 k1,.slice A2 n2 k2,.slice A3 n3 k3,.int .i64 c.2.2.2] c N∧M = [Hl.all N]
theorem z6z{c:Cfg}{v:Value}{M:List Hl}{w:World}(h:tAgg tyCfg c v M)(hp:∀k ∈ M,k.P w):tCfg c v M:=by
 obtain⟨cs,N,rfl,ho,rfl⟩:=h
 have h1:=tyCfg.read ho (hp _ (List.mem_singleton.2 rfl)).1
 obtain⟨A1,n1,k1,A2,n2,k2,A3,n3,k3,rfl⟩:=cfg_lit h1
 exact⟨A1,n1,k1,A2,n2,k2,A3,n3,k3,N,rfl,ho,rfl⟩
theorem tCfg.form{c:Cfg}{v:Value}{M:List Hl}(h:tCfg c v M):∃A1 n1 k1 A2 n2 k2 A3 n3 k3 q,v = .agg #[.slice A1 n1 k1,.slice A2 n2 k2,.slice A3 n3 k3,.int .i64 q]:=by
 obtain⟨A1,n1,k1,A2,n2,k2,A3,n3,k3,_,e,_⟩:=h
 exact⟨A1,n1,k1,A2,n2,k2,A3,n3,k3,_,e⟩
def tMl(l:List Bo):Value→List Hl→Prop:=fun v M=>∃A n k N,v = .agg #[.slice A n k]∧(Ty.sl 128 tyBo).own [.slice A n k] l N∧M = [Hl.all N]
theorem z8f{l:List Bo}{v:Value}{M:List Hl}{w:World}(h:tOne (Ty.sl 128 tyBo) l v M)(hp:∀k ∈ M,k.P w):tMl l v M:=by
 obtain⟨u,N,rfl,ho,rfl⟩:=h
 have h1:=(Ty.sl 128 tyBo).read ho (hp _ (List.mem_singleton.2 rfl)).1
 obtain⟨A,k,rfl,_,_⟩:=sl_form h1
 exact⟨A,_,k,N,rfl,ho,rfl⟩
theorem tMl.form{l:List Bo}{v:Value}{M:List Hl}(h:tMl l v M):∃A n k,v = .agg #[.slice A n k]:=by
 obtain⟨A,n,k,_,e,_⟩:=h
 exact⟨A,n,k,e⟩
section
variable {K:List Hl} {a:Act} {w:World} {dst:Option Tmp} {ty:TypeId} {pos:String} {aft:Array Edge} {g:Option (Nat × Bool)} {x y:Nat} {v v1 v2:Value} {a0 a1 a2 a3 a4 a5 a6 a7:Value}
theorem z8p:∃f:Value→Nat→Value,(∀a0 a1 a2 a3,f (.agg #[a0,a1,a2,a3]) 0=a0)∧(∀a0 a1 a2 a3,f (.agg #[a0,a1,a2,a3]) 1=a1)∧(∀a0 a1 a2 a3,f (.agg #[a0,a1,a2,a3]) 2=a2)∧(∀a0 a1 a2 a3,f (.agg #[a0,a1,a2,a3]) 3=a3)∧(∀a0,f (.agg #[a0]) 0=a0):=
 ⟨fun v i=>(v.cells.toList[i]?).getD undef,fun _ _ _ _=>rfl,fun _ _ _ _=>rfl,fun _ _ _ _=>rfl,fun _ _ _ _=>rfl,fun _=>rfl⟩
end
def z1p:List Value:=[.slice none 0 0,.slice none 0 0,.slice none 0 0,.int .i64 0,.slice none 0 0,.slice none 0 0,.slice none 0 0,.int .i64 0]
def z7v:List Hl:=[Hl.row 118 1 (.slice none 0 0) 0 [],Hl.row 182 5 (.slice none 0 0) 0 [],Hl.row 279 3 (.slice none 0 0) 0 [],Hl.row 172 2 (.slice none 0 0) 0 [],Hl.row 177 14 (.slice none 0 0) 0 [],Hl.row 180 4 (.slice none 0 0) 0 []]
theorem z6g:tyYd.own z1p z8k z7v:=
 ⟨[_,_,_,_],[_,_,_,_],[_,_,_],[_,_,_],rfl,rfl,⟨[_],[_,_,_],[_],[_,_],rfl,rfl,z0s _,[_],[_,_],[_],[_],rfl,rfl,z0s _,[_],[_],[_],[],rfl,rfl,z0s _,rfl,rfl⟩,
  [_],[_,_,_],[_],[_,_],rfl,rfl,z0s _,[_],[_,_],[_],[_],rfl,rfl,z0s _,[_],[_],[_],[],rfl,rfl,z0s _,rfl,rfl⟩
theorem free_Yd:Free z7v:=(((((Free.nil.row _ _ _).row _ _ _).row _ _ _).row _ _ _).row _ _ _).row _ _ _
def z3g:List Hl:=z7v ++ [Hl.row 128 3 (.slice none 0 0) 0 []]
theorem z2o:tySt.own (z1p ++ [.slice none 0 0]) z3j z3g:=⟨z1p,[_],z7v,[_],rfl,rfl,z6g,z0s _⟩
theorem free_St:Free z3g:=free_Yd.app (Free.nil.row _ _ _)
namespace M
end M
end Go.Proofs.YtcabgibdkmgdlaaGreat
namespace Go.Proofs.YtcabgibdkmgdlaaGreat
open Go.RowKit M
namespace M
def z4r:ByteArray:=⟨#[]⟩
def y0e:Rg:=(z4r,z4r,z4r)
def y0g(n:Nat):Dk:=(List.replicate n y0e,-1)
def z9m:Dk:=([],0)
def z6o:Ho:=(z3j,z9m,0)
end M
def tDk(n:Nat):Value→List Hl→Prop:=fun v M=>∃A k N,v = .agg #[.slice A n k,.int .i64 (-1)]∧Dz.tyDk.own [.slice A n k,.int .i64 (-1)] (y0g n) N∧M = [Hl.all N]
theorem tDk.form{n:Nat}{v:Value}{M:List Hl}(h:tDk n v M):∃A n k q,v = .agg #[.slice A n k,.int .i64 q]:=by
 obtain⟨A,k,_,e,_⟩:=h
 exact⟨A,_,k,_,e⟩
def z7h:List Value:=z1p ++ [.slice none 0 0] ++ [.slice none 0 0,.int .i64 0] ++ [.int .i64 0]
theorem z6b:Dz.tyHo.own z7h z6o (z3g++(([Hl.row 86 3 (.slice none 0 0) 0 []] ++ []) ++ [])):=
 ⟨z1p ++ [.slice none 0 0],[_,_,_],z3g,_,rfl,rfl,z2o,[_,_],[_],_,[],rfl,rfl,⟨[_],[_],[_],[],rfl,rfl,z0s _,rfl,rfl⟩,rfl,rfl⟩
theorem z8z:Free (z3g++(([Hl.row 86 3 (.slice none 0 0) 0 []] ++ []) ++ [])):=free_St.app (((Free.nil.row _ _ _).app Free.nil).app Free.nil)
theorem z4y{w w':World}{L:List Hl}(H:Hs noRow w L w')(q:Int):RPost [] w (tAgg Dz.tyHO (z6o,(z4r,q))) (.returned (.agg #[.slice none 0 0,.slice none 0 0,.slice none 0 0,.int .i64 0,.slice none 0 0,.slice none 0 0,.slice none 0 0,.int .i64 0,.slice none 0 0,.slice none 0 0,.int .i64 0,.int .i64 0,.string ⟨#[]⟩,.int .i64 q])) w':=by
 have H1:=(z8z _ _ _ _ H).pack
 rw[←List.append_nil (z3g++_)] at H1
 exact Hs.retd H1 (List.Sublist.cons_cons _ (List.nil_sublist _)) ⟨z7h ++ [.string ⟨#[]⟩,.int .i64 q],_,rfl,⟨z7h,[_,_],_,[],rfl,rfl,z6b,rfl,rfl⟩,rfl⟩
theorem z9z(q:Int)(w:World):Gives Tryz.prog 17 #[.int .i64 q] w (.agg #[.slice none 0 0,.slice none 0 0,.slice none 0 0,.int .i64 0,.slice none 0 0,.slice none 0 0,.slice none 0 0,.int .i64 0,.slice none 0 0,.slice none 0 0,.int .i64 0,.int .i64 0,.string ⟨#[]⟩,.int .i64 q]):=by
 have H:=Hs.start noRow w
 unfold Gives
 go_enter Tryz.func17,Tryz.ntmps17
 go_wp2_with ((first|refine zU ?_|(refine zA 2 ?_;intro b2));clear H;intro wn H)
 refine bpF ?_
 exact⟨rfl,H.below⟩
end Go.Proofs.YtcabgibdkmgdlaaGreat
namespace Go.Proofs.YtcabgibdkmgdlaaGreat
open Go.RowKit M
namespace M
def z6m(a:Yd):Prop:=fitsCfg a.1∧(a.2.1.length≤1000 ∧ ∀x ∈ a.2.1,x.2.length≤1000000)∧(a.2.2.1.length≤1000 ∧ ∀x ∈ a.2.2.1,x.2.length≤1000000)∧a.2.2.2.1.length≤1000000
def z7d(a:St):Prop:=z6m a.1∧a.2.length≤1000 ∧ ∀b ∈ a.2,fitsBo b
end M
def tYd(y:Yd):Value→List Hl→Prop:=fun v M=>∃A1 n1 k1 A2 n2 k2 A3 n3 k3 A4 n4 k4 A5 n5 k5 A6 n6 k6 N,v = .agg #[.slice A1 n1 k1,.slice A2 n2 k2,.slice A3 n3 k3,.int .i64 y.1.2.2.2,.slice A4 n4 k4,.slice A5 n5 k5,.slice A6 n6 k6,.int .i64 y.2.2.2.2] ∧
 tyYd.own [.slice A1 n1 k1,.slice A2 n2 k2,.slice A3 n3 k3,.int .i64 y.1.2.2.2,.slice A4 n4 k4,.slice A5 n5 k5,.slice A6 n6 k6,.int .i64 y.2.2.2.2] y N∧M = [Hl.all N]
theorem z8q{y:Yd}{v:Value}{M:List Hl}{w:World}(h:tAgg tyYd y v M)(hp:∀k ∈ M,k.P w):tYd y v M:=by
 obtain⟨cs,N,rfl,ho,rfl⟩:=h
 have h1:=tyYd.read ho (hp _ (List.mem_singleton.2 rfl)).1
 obtain⟨A1,n1,k1,A2,n2,k2,A3,n3,k3,A4,n4,k4,A5,n5,k5,A6,n6,k6,rfl⟩:=Yd_lit h1
 exact⟨A1,n1,k1,A2,n2,k2,A3,n3,k3,A4,n4,k4,A5,n5,k5,A6,n6,k6,N,rfl,ho,rfl⟩
theorem tYd.form{y:Yd}{v:Value}{M:List Hl}(h:tYd y v M):∃A1 n1 k1 A2 n2 k2 A3 n3 k3 A4 n4 k4 A5 n5 k5 A6 n6 k6 q q',v = .agg #[.slice A1 n1 k1,.slice A2 n2 k2,.slice A3 n3 k3,.int .i64 q,.slice A4 n4 k4,.slice A5 n5 k5,.slice A6 n6 k6,.int .i64 q']:=by
 obtain⟨A1,n1,k1,A2,n2,k2,A3,n3,k3,A4,n4,k4,A5,n5,k5,A6,n6,k6,_,e,_⟩:=h
 exact⟨A1,n1,k1,A2,n2,k2,A3,n3,k3,A4,n4,k4,A5,n5,k5,A6,n6,k6,_,_,e⟩
def tSt(y:St):Value→List Hl→Prop:=fun v M=>∃A1 n1 k1 A2 n2 k2 A3 n3 k3 A4 n4 k4 A5 n5 k5 A6 n6 k6 A7 n7 k7 N,v = .agg #[.slice A1 n1 k1,.slice A2 n2 k2,.slice A3 n3 k3,.int .i64 y.1.1.2.2.2,.slice A4 n4 k4,.slice A5 n5 k5,.slice A6 n6 k6,.int .i64 y.1.2.2.2.2,.slice A7 n7 k7] ∧
 tySt.own [.slice A1 n1 k1,.slice A2 n2 k2,.slice A3 n3 k3,.int .i64 y.1.1.2.2.2,.slice A4 n4 k4,.slice A5 n5 k5,.slice A6 n6 k6,.int .i64 y.1.2.2.2.2,.slice A7 n7 k7] y N∧M = [Hl.all N]
theorem z8o{y:St}{v:Value}{M:List Hl}{w:World}(h:tAgg tySt y v M)(hp:∀k ∈ M,k.P w):tSt y v M:=by
 obtain⟨cs,N,rfl,ho,rfl⟩:=h
 have h1:=tySt.read ho (hp _ (List.mem_singleton.2 rfl)).1
 obtain⟨A1,n1,k1,A2,n2,k2,A3,n3,k3,A4,n4,k4,A5,n5,k5,A6,n6,k6,A7,n7,k7,rfl⟩:=St_lit h1
 exact⟨A1,n1,k1,A2,n2,k2,A3,n3,k3,A4,n4,k4,A5,n5,k5,A6,n6,k6,A7,n7,k7,N,rfl,ho,rfl⟩
theorem tSt.form{y:St}{v:Value}{M:List Hl}(h:tSt y v M):∃A1 n1 k1 A2 n2 k2 A3 n3 k3 A4 n4 k4 A5 n5 k5 A6 n6 k6 A7 n7 k7 q q',v = .agg #[.slice A1 n1 k1,.slice A2 n2 k2,.slice A3 n3 k3,.int .i64 q,.slice A4 n4 k4,.slice A5 n5 k5,.slice A6 n6 k6,.int .i64 q',.slice A7 n7 k7]:=by
 obtain⟨A1,n1,k1,A2,n2,k2,A3,n3,k3,A4,n4,k4,A5,n5,k5,A6,n6,k6,A7,n7,k7,_,e,_⟩:=h
 exact⟨A1,n1,k1,A2,n2,k2,A3,n3,k3,A4,n4,k4,A5,n5,k5,A6,n6,k6,A7,n7,k7,_,_,e⟩
structure YAt (f:Value→Nat→Value):Prop where
 a0:∀a0 a1 a2 a3 a4 a5 a6 a7,f (.agg #[a0,a1,a2,a3,a4,a5,a6,a7]) 0=a0
 a1:∀a0 a1 a2 a3 a4 a5 a6 a7,f (.agg #[a0,a1,a2,a3,a4,a5,a6,a7]) 1=a1
 a2:∀a0 a1 a2 a3 a4 a5 a6 a7,f (.agg #[a0,a1,a2,a3,a4,a5,a6,a7]) 2=a2
 a3:∀a0 a1 a2 a3 a4 a5 a6 a7,f (.agg #[a0,a1,a2,a3,a4,a5,a6,a7]) 3=a3
 a4:∀a0 a1 a2 a3 a4 a5 a6 a7,f (.agg #[a0,a1,a2,a3,a4,a5,a6,a7]) 4=a4
 a5:∀a0 a1 a2 a3 a4 a5 a6 a7,f (.agg #[a0,a1,a2,a3,a4,a5,a6,a7]) 5=a5
 a6:∀a0 a1 a2 a3 a4 a5 a6 a7,f (.agg #[a0,a1,a2,a3,a4,a5,a6,a7]) 6=a6
 a7:∀a0 a1 a2 a3 a4 a5 a6 a7,f (.agg #[a0,a1,a2,a3,a4,a5,a6,a7]) 7=a7
 b0:∀a0,f (.agg #[a0]) 0=a0
theorem z8d:∃f,YAt f:=⟨fun v i=>(v.cells.toList[i]?).getD undef,fun _ _ _ _ _ _ _ _=>rfl,fun _ _ _ _ _ _ _ _=>rfl,fun _ _ _ _ _ _ _ _=>rfl,fun _ _ _ _ _ _ _ _=>rfl,fun _ _ _ _ _ _ _ _=>rfl,fun _ _ _ _ _ _ _ _=>rfl,fun _ _ _ _ _ _ _ _=>rfl,fun _ _ _ _ _ _ _ _=>rfl,fun _=>rfl⟩
section
variable {K:List Hl} {a:Act} {w:World} {dst:Option Tmp} {ty:TypeId} {pos:String} {aft:Array Edge} {g:Option (Nat × Bool)} {x y z s t:Nat} {v v1 v2 v3 v4:Value}
theorem z1x{cAt:Value→Nat→Value}{q:Int}(cA0:∀a0 a1 a2 a3,cAt (.agg #[a0,a1,a2,a3]) 0=a0)(cA1:∀a0 a1 a2 a3,cAt (.agg #[a0,a1,a2,a3]) 1=a1)(cA2:∀a0 a1 a2 a3,cAt (.agg #[a0,a1,a2,a3]) 2=a2)(cA3:∀a0 a1 a2 a3,cAt (.agg #[a0,a1,a2,a3]) 3=a3)
  (hx:a.eval (.tmp x)=v1) (hy:a.eval (.tmp y)=v2) (hz:a.eval (.tmp z)=v3) (hs:a.eval (.tmp s)=v4) (ht:a.eval (.tmp t) = .int .i64 q) (h1:∃A1 n1 k1 A2 n2 k2 A3 n3 k3 q,v1 = .agg #[.slice A1 n1 k1,.slice A2 n2 k2,.slice A3 n3 k3,.int .i64 q]) (h2:∃A n c,v2 = .slice A n c) (h3:∃A n c,v3 = .slice A n c) (h4:∃A n c,v4 = .slice A n c) :
  OpOk Tryz.prog K ⟨dst,.build 52 #[(0,.tmp x),(1,.tmp y),(2,.tmp z),(3,.tmp s),(4,.tmp t)],ty,pos,aft,g⟩ a w (tV (.agg #[cAt v1 0,cAt v1 1,cAt v1 2,cAt v1 3,v2,v3,v4,.int .i64 q])):=by
 obtain⟨A1,n1,k1,A2,n2,k2,A3,n3,k3,q1,rfl⟩:=h1
 obtain⟨A,n,c,rfl⟩:=h2
 obtain⟨B,m,d,rfl⟩:=h3
 obtain⟨C,r,e,rfl⟩:=h4
 rw[cA0,cA1,cA2,cA3]
 have hx2:a.tmps[x]?.getD undef = .agg #[.slice A1 n1 k1,.slice A2 n2 k2,.slice A3 n3 k3,.int .i64 q1]:=by rw[←hx];simp[Act.eval]
 have hy2:a.tmps[y]?.getD undef = .slice A n c:=by rw[←hy];simp[Act.eval]
 have hz2:a.tmps[z]?.getD undef = .slice B m d:=by rw[←hz];simp[Act.eval]
 have hs2:a.tmps[s]?.getD undef = .slice C r e:=by rw[←hs];simp[Act.eval]
 have ht2:a.tmps[t]?.getD undef = .int .i64 q:=by rw[←ht];simp[Act.eval]
 unfold OpOk execOp
 go_simp
 (try simp only[hx2,hy2,hz2,hs2,ht2])
 (try go_simp)
 exact now_v
theorem z1w{cAt:Value→Nat→Value}(F:YAt cAt)(hx:a.eval (.tmp x)=v1)(hy:a.eval (.tmp y)=v2)
  (h1:∃A1 n1 k1 A2 n2 k2 A3 n3 k3 A4 n4 k4 A5 n5 k5 A6 n6 k6 q q',v1 = .agg #[.slice A1 n1 k1,.slice A2 n2 k2,.slice A3 n3 k3,.int .i64 q,.slice A4 n4 k4,.slice A5 n5 k5,.slice A6 n6 k6,.int .i64 q']) (h2:∃A n c,v2 = .agg #[.slice A n c]) :
  OpOk Tryz.prog K ⟨dst,.build 57 #[(0,.tmp x),(1,.tmp y)],ty,pos,aft,g⟩ a w (tV (.agg #[cAt v1 0,cAt v1 1,cAt v1 2,cAt v1 3,cAt v1 4,cAt v1 5,cAt v1 6,cAt v1 7,cAt v2 0])):=by
 obtain⟨A1,n1,k1,A2,n2,k2,A3,n3,k3,A4,n4,k4,A5,n5,k5,A6,n6,k6,q,q',rfl⟩:=h1
 obtain⟨A,n,c,rfl⟩:=h2
 rw[F.a0,F.a1,F.a2,F.a3,F.a4,F.a5,F.a6,F.a7,F.b0]
 have hx2:a.tmps[x]?.getD undef = .agg #[.slice A1 n1 k1,.slice A2 n2 k2,.slice A3 n3 k3,.int .i64 q,.slice A4 n4 k4,.slice A5 n5 k5,.slice A6 n6 k6,.int .i64 q']:=by rw[←hx];simp[Act.eval]
 have hy2:a.tmps[y]?.getD undef = .agg #[.slice A n c]:=by rw[←hy];simp[Act.eval]
 unfold OpOk execOp
 go_simp
 (try simp only[hx2,hy2])
 (try go_simp)
 exact now_v
theorem z2r{q:Int}(hx:a.eval (.tmp x)=v1)(hy:a.eval (.tmp y) = .int .i64 q)(h1:∃A n c,v1 = .slice A n c):
  OpOk Tryz.prog K ⟨dst,.build 60 #[(0,.tmp x),(1,.tmp y)],ty,pos,aft,g⟩ a w (tV (.agg #[v1,.int .i64 q])):=by
 obtain⟨A,n,c,rfl⟩:=h1
 have hx2:a.tmps[x]?.getD undef = .slice A n c:=by rw[←hx];simp[Act.eval]
 have hy2:a.tmps[y]?.getD undef = .int .i64 q:=by rw[←hy];simp[Act.eval]
 unfold OpOk execOp
 go_simp
 (try simp only[hx2,hy2])
 (try go_simp)
 exact now_v
end
theorem z6a(a:Yd)(cs:List Value)(hf:z6m a)(w:World)(hr:tyYd.rd w cs a):Rets Tryz.prog [] 85 #[.agg cs.toArray] w (tAgg tyYd a):=by
 obtain⟨A1,n1,k1,A2,n2,k2,A3,n3,k3,A4,n4,k4,A5,n5,k5,A6,n6,k6,rfl,g1,g2,g3,g4⟩:=Yd_form hr
 have c1:=fun w1 hb=>(copyConfig_i a.1 _ hf.1 w1 (Ty.below _ g1 hb)).lit (fun v M w' h hp=>z6z h hp)
 have c2:=fun w1 hb=>z4a _ _ hf.2.1.1 hf.2.1.2 w1 (Ty.below _ g2 hb)
 have c3:=fun w1 hb=>z4g _ _ hf.2.2.1.1 hf.2.2.1.2 w1 (Ty.below _ g3 hb)
 have c4:=fun w1 hb=>z6s _ _ hf.2.2.2 w1 (Ty.below _ g4 hb)
 have hf4:=hf.2.2.2
 obtain⟨cf,nds,tks,uss,now⟩:=a
 (try simp only at c1)
 (try simp only at c2 c3 c4 hf4)
 replace c1:∀w1,Below w.heap.size w w1→Rets Tryz.prog [] 143 #[.agg #[.slice A1 n1 k1,.slice A2 n2 k2,.slice A3 n3 k3,.int .i64 cf.2.2.2]] w1 (tCfg cf):=c1
 show Rets Tryz.prog [] _ #[.agg #[.slice A1 n1 k1,.slice A2 n2 k2,.slice A3 n3 k3,.int .i64 cf.2.2.2,.slice A4 n4 k4,.slice A5 n5 k5,.slice A6 n6 k6,.int .i64 now]] w _
 clear hr g1 g2 g3 g4 hf
 obtain⟨hv,hhv⟩:=nm cf.2.2.2
 rw[←hhv] at c1 ⊢
 have HV:=hY hhv
 clear hhv
 obtain⟨cAt,cA0,cA1,cA2,cA3,_⟩:=z8p
 have H:=Hs.start noRow w
 refine Rets.of ?_
 go_enter Tryz.func85,Tryz.ntmps85
 go_wp2_with ((first|(refine zB 1 ?_;intro b1)|(refine zA 2 ?_;intro b2));clear H;intro wn H)
 apply wp_region_hs (K:=[]) (Spec.V _::Spec.V _::Spec.T _::Spec.V _::Spec.V _::Spec.T _::Spec.V _::Spec.V _::Spec.T _::Spec.V _::Spec.V _::Spec.T _::Spec.V _::Spec.V _::Spec.V _ :: []) 15 H rfl (by simp) (by kernel_rfl) (by kernel_rfl);intro vs Ls;(iterate 2 (refine zhv ?_));(with_reducible apply wpH_T);(focus rfl);(focus rfl);(focus(intro hk w1 H1;unfold OpOk;go_simp;exact now_call (c1 _ H1.below)));refine zp ?_;(iterate 2 (refine zhv ?_));(with_reducible apply wpH_T);(focus rfl);(focus rfl);(focus(intro hk w1 H1;unfold OpOk;go_simp;exact now_call (c2 _ H1.below)));refine zp ?_;(iterate 2 (refine zhv ?_));(with_reducible apply wpH_T);(focus rfl);(focus rfl);(focus(intro hk w1 H1;unfold OpOk;go_simp;exact now_call (c3 _ H1.below)));refine zp ?_;(iterate 2 (refine zhv ?_));(with_reducible apply wpH_T);(focus rfl);(focus rfl);(focus(intro hk w1 H1;unfold OpOk;go_simp;exact now_call (c4 _ H1.below)));refine zp ?_;(iterate 2 (refine zhv ?_));(with_reducible apply wpH_VK);(focus rfl);(focus rfl);(focus(intro hk w1 H1;have q2:=okT (hk 2 (by decide +kernel) (by decide)) rfl;have q5:=okT (hk 5 (by decide +kernel) (by decide)) rfl;have q8:=okT (hk 8 (by decide +kernel) (by decide)) rfl;have q11:=okT (hk 11 (by decide +kernel) (by decide)) rfl;exact z1x (v1:=vs 2) (v2:=vs 5) (v3:=vs 8) (v4:=vs 11) cA0 cA1 cA2 cA3 rfl rfl rfl rfl rfl q2.form q5.form q8.form q11.form));refine zp ?_;refine wpH_0 ?_;intro hok wn Hn;(try simp only[yT,yU,yV,yW] at Hn);clear H;have H:=Hn;clear Hn;have ht2:=okT (hok 2 (by decide)) rfl;have ht5:=okT (hok 5 (by decide)) rfl;have ht8:=okT (hok 8 (by decide)) rfl;have ht11:=okT (hok 11 (by decide)) rfl;clear hok;obtain⟨B1,m1,j1,B2,m2,j2,B3,m3,j3,N2,e2,o2,l2⟩:=ht2;simp only[e2,l2,yT,yU,yV] at H ⊢;clear e2 l2;obtain⟨B5,j5,N5,e5,o5,l5⟩:=ht5;simp only[e5,l5,yT,yU,yV] at H ⊢;clear e5 l5;obtain⟨B8,j8,N8,e8,o8,l8⟩:=ht8;simp only[e8,l8,yT,yU,yV] at H ⊢;clear e8 l8;obtain⟨A11,k11,N11,e11,o11,l11⟩:=ht11;simp only[e11,l11,yT,yU,yV] at H ⊢;clear e11 l11;rotate_left;exact lcG
 simp only[cA0,cA1,cA2,cA3]
 go_wp2_with (refine zS ?_;clear H;intro wn H)
 refine bpF ?_
 have H5:Hs noRow w ([N2,N5,N8,N11].map Hl.all ++ []) _:=H.sel (M:=[Hl.all N2,Hl.all N5,Hl.all N8,Hl.all N11]) sF
 have H6:=Hs.joinL _ H5
 exact Hs.retd H6 (List.Sublist.refl _) ⟨[_,_,_,_,_,_,_,_],_,rfl,⟨[_,_,_,_],[_,_,_,_],_,_,rfl,rfl,o2,[_],[_,_,_],_,_,rfl,rfl,o5,[_],[_,_],_,_,rfl,rfl,o8,[_],[_],_,[],rfl,rfl,o11,rfl,rfl⟩,rfl⟩
theorem z5p(a:Yd)(cs:List Value)(hf:z6m a)(w:World)(hr:tyYd.rd w cs a):Rets Tryz.prog [] 62 #[.agg cs.toArray] w (tAgg tyYd a):=by
 obtain⟨A1,n1,k1,A2,n2,k2,A3,n3,k3,A4,n4,k4,A5,n5,k5,A6,n6,k6,rfl,g1,g2,g3,g4⟩:=Yd_form hr
 have c1:=fun w1 hb=>(copyConfig_s a.1 _ hf.1 w1 (Ty.below _ g1 hb)).lit (fun v M w' h hp=>z6z h hp)
 have c2:=fun w1 hb=>z4u _ _ hf.2.1.1 hf.2.1.2 w1 (Ty.below _ g2 hb)
 have c3:=fun w1 hb=>z4s _ _ hf.2.2.1.1 hf.2.2.1.2 w1 (Ty.below _ g3 hb)
 have c4:=sl_rd g4
 have hf4:=hf.2.2.2
 obtain⟨cf,nds,tks,uss,now⟩:=a
 (try simp only at c1)
 (try simp only at c2 c3 c4 hf4)
 replace c1:∀w1,Below w.heap.size w w1→Rets Tryz.prog [] 113 #[.agg #[.slice A1 n1 k1,.slice A2 n2 k2,.slice A3 n3 k3,.int .i64 cf.2.2.2]] w1 (tCfg cf):=c1
 show Rets Tryz.prog [] _ #[.agg #[.slice A1 n1 k1,.slice A2 n2 k2,.slice A3 n3 k3,.int .i64 cf.2.2.2,.slice A4 n4 k4,.slice A5 n5 k5,.slice A6 n6 k6,.int .i64 now]] w _
 clear hr g1 g2 g3 g4 hf
 obtain⟨hv,hhv⟩:=nm cf.2.2.2
 rw[←hhv] at c1 ⊢
 have HV:=hY hhv
 clear hhv
 obtain⟨cAt,cA0,cA1,cA2,cA3,_⟩:=z8p
 have H:=Hs.start noRow w
 refine Rets.of ?_
 go_enter Tryz.func62,Tryz.ntmps62
 go_wp2_with ((first|(refine zB 1 ?_;intro b1)|(refine zA 2 ?_;intro b2));clear H;intro wn H)
 apply wp_region_hs (K:=[]) (Spec.V _::Spec.V _::Spec.T _::Spec.V _::Spec.V _::Spec.T _::Spec.V _::Spec.V _::Spec.T _::Spec.S _ _ _::Spec.V _::Spec.V _::Spec.T _::Spec.V _::Spec.V _::Spec.V _ :: []) 16 H rfl (by simp) (by kernel_rfl) (by kernel_rfl);intro vs Ls;(iterate 2 (refine zhv ?_));(with_reducible apply wpH_T);(focus rfl);(focus rfl);(focus(intro hk w1 H1;unfold OpOk;go_simp;exact now_call (c1 _ H1.below)));refine zp ?_;(iterate 2 (refine zhv ?_));(with_reducible apply wpH_T);(focus rfl);(focus rfl);(focus(intro hk w1 H1;unfold OpOk;go_simp;exact now_call (c2 _ H1.below)));refine zp ?_;(iterate 2 (refine zhv ?_));(with_reducible apply wpH_T);(focus rfl);(focus rfl);(focus(intro hk w1 H1;unfold OpOk;go_simp;exact now_call (c3 _ H1.below)));refine zp ?_;(with_reducible apply wpH_S);(focus rfl);(focus rfl);(focus(intro hk w1 H1;unfold OpOk;go_simp;exact now_sl));intro g9 hg9;refine zp ?_;(iterate 2 (refine zhv ?_));(with_reducible apply wpH_T);(focus rfl);(focus rfl);(focus(intro hk w1 H1;(exact(show OpOk _ _ _ _ _ (tSli (Ty.sl 180 tyUs) uss) from ok_append0 rfl rfl (by kernel_rfl) (c4.later H1.below) hf4))));refine zp ?_;(iterate 2 (refine zhv ?_));(with_reducible apply wpH_VK);(focus rfl);(focus rfl);(focus(intro hk w1 H1;have q2:=okT (hk 2 (by decide +kernel) (by decide)) rfl;have q5:=okT (hk 5 (by decide +kernel) (by decide)) rfl;have q8:=okT (hk 8 (by decide +kernel) (by decide)) rfl;have q12:=okT (hk 12 (by decide +kernel) (by decide)) rfl;exact z1x (v1:=vs 2) (v2:=vs 5) (v3:=vs 8) (v4:=vs 12) cA0 cA1 cA2 cA3 rfl rfl rfl rfl rfl q2.form q5.form q8.form q12.form));refine zp ?_;refine wpH_0 ?_;intro hok wn Hn;(try simp only[yT,yU,yV,yW] at Hn);clear H;have H:=Hn;clear Hn;(try simp only[←hg9]);clear hg9;have ht2:=okT (hok 2 (by decide)) rfl;have ht5:=okT (hok 5 (by decide)) rfl;have ht8:=okT (hok 8 (by decide)) rfl;have ht12:=okT (hok 12 (by decide)) rfl;clear hok;obtain⟨B1,m1,j1,B2,m2,j2,B3,m3,j3,N2,e2,o2,l2⟩:=ht2;simp only[e2,l2,yT,yU,yV] at H ⊢;clear e2 l2;obtain⟨B5,j5,N5,e5,o5,l5⟩:=ht5;simp only[e5,l5,yT,yU,yV] at H ⊢;clear e5 l5;obtain⟨B8,j8,N8,e8,o8,l8⟩:=ht8;simp only[e8,l8,yT,yU,yV] at H ⊢;clear e8 l8;obtain⟨A11,k11,N11,e12,o11,l12⟩:=ht12;simp only[e12,l12,yT,yU,yV] at H ⊢;clear e12 l12;rotate_left;exact lcG
 simp only[cA0,cA1,cA2,cA3]
 go_wp2_with (refine zS ?_;clear H;intro wn H)
 refine bpF ?_
 have H5:Hs noRow w ([N2,N5,N8,N11].map Hl.all ++ []) _:=H.sel (M:=[Hl.all N2,Hl.all N5,Hl.all N8,Hl.all N11]) sF
 have H6:=Hs.joinL _ H5
 exact Hs.retd H6 (List.Sublist.refl _) ⟨[_,_,_,_,_,_,_,_],_,rfl,⟨[_,_,_,_],[_,_,_,_],_,_,rfl,rfl,o2,[_],[_,_,_],_,_,rfl,rfl,o5,[_],[_,_],_,_,rfl,rfl,o8,[_],[_],_,[],rfl,rfl,o11,rfl,rfl⟩,rfl⟩
theorem z4w(a:St)(cs:List Value)(hf:z7d a)(w:World)(hr:tySt.rd w cs a):Rets Tryz.prog [] 37 #[.agg cs.toArray] w (tAgg tySt a):=by
 obtain⟨A1,n1,k1,A2,n2,k2,A3,n3,k3,A4,n4,k4,A5,n5,k5,A6,n6,k6,A7,n7,k7,rfl,g1,g2⟩:=St_form hr
 have c1:=fun w1 hb=>(z6a a.1 _ hf.1 w1 (Ty.below _ g1 hb)).lit (fun v M w' h hp=>z8q h hp)
 have c2:=fun w1 hb=>(copyMail_i _ _ hf.2.1 hf.2.2 w1 (Ty.below _ g2 hb)).lit (fun v M w' h hp=>z8f h hp)
 obtain⟨⟨cf,nds,tks,uss,now⟩,ml⟩:=a
 (try simp only at c1 c2)
 replace c1:∀w1,Below w.heap.size w w1→Rets Tryz.prog [] 85 #[.agg #[.slice A1 n1 k1,.slice A2 n2 k2,.slice A3 n3 k3,.int .i64 cf.2.2.2,.slice A4 n4 k4,.slice A5 n5 k5,.slice A6 n6 k6,.int .i64 now]] w1 (tYd (cf,nds,tks,uss,now)):=c1
 show Rets Tryz.prog [] _ #[.agg #[.slice A1 n1 k1,.slice A2 n2 k2,.slice A3 n3 k3,.int .i64 cf.2.2.2,.slice A4 n4 k4,.slice A5 n5 k5,.slice A6 n6 k6,.int .i64 now,.slice A7 n7 k7]] w _
 clear hr g1 g2 hf
 generalize hyy:(cf,nds,tks,uss,now)=yy at *
 obtain⟨hv,hhv⟩:=nm cf.2.2.2
 rw[←hhv] at c1 ⊢
 clear hhv hyy
 obtain⟨cAt,F⟩:=z8d
 have H:=Hs.start noRow w
 refine Rets.of ?_
 go_enter Tryz.func37,Tryz.ntmps37
 go_wp2_with ((first|(refine zB 1 ?_;intro b1)|(refine zA 2 ?_;intro b2));clear H;intro wn H)
 apply wp_region_hs (K:=[]) (Spec.V _::Spec.V _::Spec.T _::Spec.V _::Spec.V _::Spec.T _::Spec.V _ :: []) 7 H rfl (by simp) (by kernel_rfl) (by kernel_rfl);intro vs Ls;(iterate 2 (refine zhv ?_));(with_reducible apply wpH_T);(focus rfl);(focus rfl);(focus(intro hk w1 H1;unfold OpOk;go_simp;exact now_call (c1 _ H1.below)));refine zp ?_;(iterate 2 (refine zhv ?_));(with_reducible apply wpH_T);(focus rfl);(focus rfl);(focus(intro hk w1 H1;unfold OpOk;go_simp;exact now_call (c2 _ H1.below)));refine zp ?_;(with_reducible apply wpH_VK);(focus rfl);(focus rfl);(focus(intro hk w1 H1;have q2:=okT (hk 2 (by decide +kernel) (by decide)) rfl;have q5:=okT (hk 5 (by decide +kernel) (by decide)) rfl;exact z1w (v1:=vs 2) (v2:=vs 5) F rfl rfl q2.form q5.form));refine zp ?_;refine wpH_0 ?_;intro hok wn Hn;(try simp only[yT,yU,yV,yW] at Hn);clear H;have H:=Hn;clear Hn;have ht2:=okT (hok 2 (by decide)) rfl;have ht5:=okT (hok 5 (by decide)) rfl;clear hok;obtain⟨B1,m1,j1,B2,m2,j2,B3,m3,j3,B4,m4,j4,B5,m5,j5,B6,m6,j6,N2,e2,o2,l2⟩:=ht2;simp only[e2,l2,yT,yU,yV] at H ⊢;clear e2 l2;obtain⟨B7,m7,j7,N5,e5,o5,l5⟩:=ht5;simp only[e5,l5,yT,yU,yV] at H ⊢;clear e5 l5;rotate_left;exact lcG
 simp only[F.a0,F.a1,F.a2,F.a3,F.a4,F.a5,F.a6,F.a7,F.b0]
 go_wp2_with (refine zS ?_;clear H;intro wn H)
 refine bpF ?_
 have H5:Hs noRow w [Hl.all N2,Hl.all N5] _:=H.sel sF
 exact Hs.retd H5.join (List.Sublist.refl _) ⟨[_,_,_,_,_,_,_,_,_],_,rfl,⟨[_,_,_,_,_,_,_,_],[_],_,_,rfl,rfl,o2,o5⟩,rfl⟩
theorem z4q(a:St)(cs:List Value)(hf:z7d a)(w:World)(hr:tySt.rd w cs a):Rets Tryz.prog [] 25 #[.agg cs.toArray] w (tAgg tySt a):=by
 obtain⟨A1,n1,k1,A2,n2,k2,A3,n3,k3,A4,n4,k4,A5,n5,k5,A6,n6,k6,A7,n7,k7,rfl,g1,g2⟩:=St_form hr
 have c1:=fun w1 hb=>(z5p a.1 _ hf.1 w1 (Ty.below _ g1 hb)).lit (fun v M w' h hp=>z8q h hp)
 have c2:=fun w1 hb=>(copyMail_s _ _ hf.2.1 hf.2.2 w1 (Ty.below _ g2 hb)).lit (fun v M w' h hp=>z8f h hp)
 obtain⟨⟨cf,nds,tks,uss,now⟩,ml⟩:=a
 (try simp only at c1 c2)
 replace c1:∀w1,Below w.heap.size w w1→Rets Tryz.prog [] 62 #[.agg #[.slice A1 n1 k1,.slice A2 n2 k2,.slice A3 n3 k3,.int .i64 cf.2.2.2,.slice A4 n4 k4,.slice A5 n5 k5,.slice A6 n6 k6,.int .i64 now]] w1 (tYd (cf,nds,tks,uss,now)):=c1
 show Rets Tryz.prog [] _ #[.agg #[.slice A1 n1 k1,.slice A2 n2 k2,.slice A3 n3 k3,.int .i64 cf.2.2.2,.slice A4 n4 k4,.slice A5 n5 k5,.slice A6 n6 k6,.int .i64 now,.slice A7 n7 k7]] w _
 clear hr g1 g2 hf
 generalize hyy:(cf,nds,tks,uss,now)=yy at *
 obtain⟨hv,hhv⟩:=nm cf.2.2.2
 rw[←hhv] at c1 ⊢
 clear hhv hyy
 obtain⟨cAt,F⟩:=z8d
 have H:=Hs.start noRow w
 refine Rets.of ?_
 go_enter Tryz.func25,Tryz.ntmps25
 go_wp2_with ((first|(refine zB 1 ?_;intro b1)|(refine zA 2 ?_;intro b2));clear H;intro wn H)
 apply wp_region_hs (K:=[]) (Spec.V _::Spec.V _::Spec.T _::Spec.V _::Spec.V _::Spec.T _::Spec.V _ :: []) 7 H rfl (by simp) (by kernel_rfl) (by kernel_rfl);intro vs Ls;(iterate 2 (refine zhv ?_));(with_reducible apply wpH_T);(focus rfl);(focus rfl);(focus(intro hk w1 H1;unfold OpOk;go_simp;exact now_call (c1 _ H1.below)));refine zp ?_;(iterate 2 (refine zhv ?_));(with_reducible apply wpH_T);(focus rfl);(focus rfl);(focus(intro hk w1 H1;unfold OpOk;go_simp;exact now_call (c2 _ H1.below)));refine zp ?_;(with_reducible apply wpH_VK);(focus rfl);(focus rfl);(focus(intro hk w1 H1;have q2:=okT (hk 2 (by decide +kernel) (by decide)) rfl;have q5:=okT (hk 5 (by decide +kernel) (by decide)) rfl;exact z1w (v1:=vs 2) (v2:=vs 5) F rfl rfl q2.form q5.form));refine zp ?_;refine wpH_0 ?_;intro hok wn Hn;(try simp only[yT,yU,yV,yW] at Hn);clear H;have H:=Hn;clear Hn;have ht2:=okT (hok 2 (by decide)) rfl;have ht5:=okT (hok 5 (by decide)) rfl;clear hok;obtain⟨B1,m1,j1,B2,m2,j2,B3,m3,j3,B4,m4,j4,B5,m5,j5,B6,m6,j6,N2,e2,o2,l2⟩:=ht2;simp only[e2,l2,yT,yU,yV] at H ⊢;clear e2 l2;obtain⟨B7,m7,j7,N5,e5,o5,l5⟩:=ht5;simp only[e5,l5,yT,yU,yV] at H ⊢;clear e5 l5;rotate_left;exact lcG
 simp only[F.a0,F.a1,F.a2,F.a3,F.a4,F.a5,F.a6,F.a7,F.b0]
 go_wp2_with (refine zS ?_;clear H;intro wn H)
 refine bpF ?_
 have H5:Hs noRow w [Hl.all N2,Hl.all N5] _:=H.sel sF
 exact Hs.retd H5.join (List.Sublist.refl _) ⟨[_,_,_,_,_,_,_,_,_],_,rfl,⟨[_,_,_,_,_,_,_,_],[_],_,_,rfl,rfl,o2,o5⟩,rfl⟩
def tDr(rs:List Rg)(n:Nat)(p:Int):Value→List Hl→Prop:=fun v M=>∃A k,v = .agg #[.slice A n k,.int .i64 p]∧M = [Hl.row 86 3 (.slice A n k) n (flat encReg rs)]
def tDR(rs:List Rg)(n:Nat)(p c:Int):Value→List Hl→Prop:=fun v M=>∃A k,v = .agg #[.slice A n k,.int .i64 p,.int .i64 c]∧M = [Hl.row 86 3 (.slice A n k) n (flat encReg rs)]
theorem tDr.form{rs:List Rg}{n:Nat}{p:Int}{v:Value}{M:List Hl}(h:tDr rs n p v M):∃A n k q,v = .agg #[.slice A n k,.int .i64 q]:=by
 obtain⟨A,k,e,_⟩:=h
 exact⟨A,_,k,_,e⟩
theorem z8r{rs:List Rg}{A:Option Addr}{n k:Nat}(hn:rs.length=n):(Ty.sl 86 tyRg).own [.slice A n k] rs [Hl.row 86 3 (.slice A n k) n (flat encReg rs)]:=by
 subst hn
 exact⟨_,flat z0p rs,[],rfl,ownL_flat rs,rfl,rfl⟩
theorem z8g{rs:List Rg}{v:Value}{N:List Hl}(h:(Ty.sl 86 tyRg).own [v] rs N):N = [Hl.row 86 3 v rs.length (flat encReg rs)]:=by
 obtain⟨v',xs,M,e,ho,hN,_⟩:=h
 injection e with e
 subst e hN
 have h1:=ownL_flatE ho
 have h2:=flat_noown ho
 subst h1 h2
 rfl
theorem y0d{w:World}{rs:List Rg}{v:Value}(h:Rd w 3 v rs.length (flat encReg rs)):(Ty.sl 86 tyRg).rd w [v] rs:=
 ⟨v,flat z0p rs,rfl,h,OwnL.read (T:=tyRg) (ownL_flat rs) (fun k hk=>absurd hk List.not_mem_nil)⟩
theorem Hs.ofOwnD{w w':World}{E:TypeId}{s n:Nat}{v:Value}{xs:List Value}(h:w'.ownsRow w.heap.size E s v n xs)(hb:Below w.heap.size w w'):Hs noRow w [Hl.own E s v n xs] w':=
 ⟨growN hb,fun k hk=>by obtain rfl:=List.mem_singleton.1 hk;exact own_base h (Nat.zero_le _),fun k hk b hb=>by obtain rfl:=List.mem_singleton.1 hk;exact .inl (h.lt b hb).1,List.pairwise_singleton _ _⟩
theorem NewOut.retD{f:FuncId}{args:Array Value}{w:World}{rs:List Reg}{p c:Int}{n:Nat}(h:Calls Tryz.prog f args w fun e w'=>NewOut w e w' rs p c)(hn:rs.length=n):Rets Tryz.prog [] f args w (tDR rs n p c):=by
 subst hn
 exact h.mono fun e w' ⟨A,cap,he,ho,hb⟩=>⟨_,_,he,⟨A,cap,rfl,rfl⟩,((Hs.ofOwnD ho hb).toRow (M:=[Hl.row 86 3 (.slice A rs.length cap) rs.length (flat encReg rs)]) .here).hk⟩
theorem z7p(rs:List Rg)(v:Value)(p:Int)(hl:rs.length≤1000000)(w:World)(hr:Rd w 3 v rs.length (flat encReg rs)):Rets Tryz.prog [] 75 #[.agg #[v,.int .i64 p]] w (tDr rs rs.length p):=by
 have c1:=fun w1 hb=>z3o v rs hl w1 (Ty.below _ (y0d hr) hb)
 obtain⟨A,cap,rfl,_⟩:=hr.form
 have H:=Hs.start noRow w
 refine Rets.of ?_
 go_enter Tryz.func75,Tryz.ntmps75
 go_wp2_with ((first|(refine zB 1 ?_;intro b1)|(refine zA 2 ?_;intro b2));clear H;intro wn H)
 apply wp_region_hs (K:=[]) (Spec.V _::Spec.V _::Spec.T _::Spec.V _::Spec.V _::Spec.V _ :: []) 6 H rfl (by simp) (by kernel_rfl) (by kernel_rfl);intro vs Ls;(iterate 2 (refine zhv ?_));(with_reducible apply wpH_T);(focus rfl);(focus rfl);(focus(intro hk w1 H1;unfold OpOk;go_simp;exact now_call (c1 _ H1.below)));refine zp ?_;(iterate 2 (refine zhv ?_));(with_reducible apply wpH_VK);(focus rfl);(focus rfl);(focus(intro hk w1 H1;have q2:=okT (hk 2 (by decide +kernel) (by decide)) rfl;exact z2r (v1:=vs 2) rfl rfl q2.form));refine zp ?_;refine wpH_0 ?_;intro hok wn Hn;(try simp only[yT,yU,yV,yW] at Hn);clear H;have H:=Hn;clear Hn;have ht2:=okT (hok 2 (by decide)) rfl;clear hok;obtain⟨A4,k4,J1,e2,o1,l2⟩:=ht2;simp only[e2,l2,yT,yU,yV] at H ⊢;clear e2 l2;rotate_left;exact lcG
 go_wp2_with (refine zS ?_;clear H;intro wn H)
 refine bpF ?_
 have H5:Hs noRow w [Hl.all J1] _:=H.sel sF
 rw[z8g o1] at H5
 exact Hs.retd (Hs.unpack (M:=[_]) H5) (List.Sublist.refl _) ⟨A4,k4,rfl,rfl⟩
theorem z5c(rs:List Rg)(v:Value)(p:Int)(hl:rs.length≤1000000)(w:World)(hr:Rd w 3 v rs.length (flat encReg rs)):Rets Tryz.prog [] 20 #[.agg #[v,.int .i64 p]] w (tDr rs rs.length p):=by
 have c1:=hr
 obtain⟨A,cap,rfl,_⟩:=hr.form
 have H:=Hs.start noRow w
 refine Rets.of ?_
 go_enter Tryz.func20,Tryz.ntmps20
 go_wp2_with ((first|(refine zB 1 ?_;intro b1)|(refine zA 2 ?_;intro b2));clear H;intro wn H)
 apply wp_region_hs (K:=[]) (Spec.S _ _ _::Spec.V _::Spec.V _::Spec.T _::Spec.V _::Spec.V _::Spec.V _ :: []) 7 H rfl (by simp) (by kernel_rfl) (by kernel_rfl);intro vs Ls;(with_reducible apply wpH_S);(focus rfl);(focus rfl);(focus(intro hk w1 H1;unfold OpOk;go_simp;exact now_sl));intro g0 hg0;refine zp ?_;(iterate 2 (refine zhv ?_));(with_reducible apply wpH_T);(focus rfl);(focus rfl);(focus(intro hk w1 H1;(exact(show OpOk _ _ _ _ _ (tSli (Ty.sl 86 tyRg) rs) from ok_append0 rfl rfl (by kernel_rfl) (c1.later H1.below) hl))));refine zp ?_;(iterate 2 (refine zhv ?_));(with_reducible apply wpH_VK);(focus rfl);(focus rfl);(focus(intro hk w1 H1;have q3:=okT (hk 3 (by decide +kernel) (by decide)) rfl;exact z2r (v1:=vs 3) rfl rfl q3.form));refine zp ?_;refine wpH_0 ?_;intro hok wn Hn;(try simp only[yT,yU,yV,yW] at Hn);clear H;have H:=Hn;clear Hn;(try simp only[←hg0]);clear hg0;have ht3:=okT (hok 3 (by decide)) rfl;clear hok;obtain⟨A4,k4,J1,e3,o1,l3⟩:=ht3;simp only[e3,l3,yT,yU,yV] at H ⊢;clear e3 l3;rotate_left;exact lcG
 go_wp2_with (refine zS ?_;clear H;intro wn H)
 refine bpF ?_
 have H5:Hs noRow w [Hl.all J1] _:=H.sel sF
 rw[z8g o1] at H5
 exact Hs.retd (Hs.unpack (M:=[_]) H5) (List.Sublist.refl _) ⟨A4,k4,rfl,rfl⟩
theorem z2a(rs:List Rg)(v:Value)(p q:Int)(n:Nat)(hn:rs.length=n)(hl:rs.length≤1000000)(w:World)(hr:Rd w 3 v rs.length (flat encReg rs)):Rets Tryz.prog [] 32 #[.agg #[v,.int .i64 p],.int .i64 q] w (tDr rs n q):=by
 subst hn
 have c1:=fun w1 hb=>z7p rs v p hl w1 (Rd.below hr (Nat.le_refl _) hb)
 obtain⟨A,cap,rfl,_⟩:=hr.form
 generalize rs.length=ll at *
 clear hr hl
 have H:=Hs.start noRow w
 refine Rets.of ?_
 go_enter Tryz.func32,Tryz.ntmps32
 go_wp2_with ((first|refine zM ?_|(refine zB 2 ?_;intro b2)|(refine zA 4 ?_;intro b4));clear H;intro wn H)
 refine(Rets.use (c1 _ H.below)).mono ?_;rintro e wn ⟨_,_,rfl,⟨A4,k4,rfl,rfl⟩,hkk⟩;refine zK ?_;clear H hkk;intro H
 go_wp2_with ((first|refine zU ?_|(refine zA 5 ?_;intro b5));clear H;intro wn H)
 refine bpF ?_
 exact Hs.retd (H.sel (M:=[Hl.row 86 3 (.slice A4 ll k4) ll (flat encReg rs)]) sF) (List.Sublist.refl _) ⟨A4,k4,rfl,rfl⟩
namespace M
def z1i(rs:List Rg):HO:=((z3j,(rs,-1),0),(z4r,12))
end M
theorem z5h{w w':World}{L:List Hl}{rs:List Rg}{A:Option Addr}{n k:Nat}(H:Hs noRow w (Hl.row 86 3 (.slice A n k) n (flat encReg rs)::L) w')(hn:rs.length=n):
  RPost [] w (tAgg Dz.tyHO (z1i rs)) (.returned (.agg #[.slice none 0 0,.slice none 0 0,.slice none 0 0,.int .i64 0,.slice none 0 0,.slice none 0 0,.slice none 0 0,.int .i64 0,.slice none 0 0,.slice A n k,.int .i64 (-1),.int .i64 0,.string ⟨#[]⟩,.int .i64 12])) w':=by
 have H0:Hs noRow w [Hl.row 86 3 (.slice A n k) n (flat encReg rs)] w':=H.sel (by exact .cons .here .nil)
 have H1:=Hs.pack (M:=z3g ++ [Hl.row 86 3 (.slice A n k) n (flat encReg rs)]) (L:=[]) (by rw[List.append_nil];exact free_St _ _ _ _ H0)
 refine Hs.retd H1 (List.Sublist.refl _) ⟨z1p ++ [.slice none 0 0] ++ [.slice A n k,.int .i64 (-1)] ++ [.int .i64 0] ++ [.string ⟨#[]⟩,.int .i64 12],_,rfl,⟨z1p ++ [.slice none 0 0] ++ [.slice A n k,.int .i64 (-1)] ++ [.int .i64 0],[_,_],_,[],rfl,(List.append_nil _).symm,⟨z1p ++ [.slice none 0 0],[_,_,_],z3g,_,rfl,rfl,z2o,[_,_],[_],[_],[],rfl,rfl,⟨[_],[_],[_],[],rfl,rfl,z8r hn,rfl,rfl⟩,rfl,rfl⟩,rfl,rfl⟩,rfl⟩
theorem z8j(rs:List Rg)(v:Value)(p:Int)(hl:rs.length≤1000000)(w:World)(hr:Rd w 3 v rs.length (flat encReg rs)):Rets Tryz.prog [] 30 #[.agg #[v,.int .i64 p]] w (tAgg Dz.tyHO (z1i rs)):=by
 obtain⟨ll,hll⟩:=nm2 rs.length
 have c1:=fun w1 hb=>z2a rs v p (-1) ll hll hl w1 (Rd.below hr (Nat.le_refl _) hb)
 obtain⟨A,cap,rfl,_⟩:=hr.form
 have HLL:=hY hll
 rw[hll]
 clear hr hl hll
 have H:=Hs.start noRow w
 refine Rets.of ?_
 rw[HLL.out] at c1
 go_enter Tryz.func30,Tryz.ntmps30
 go_wp2_with ((first|refine zM ?_|(refine zB 1 ?_;intro b1)|(refine zA 2 ?_;intro b2));clear H;intro wn H)
 refine(Rets.use (c1 _ H.below)).mono ?_;rintro e wn ⟨_,_,rfl,⟨A4,k4,rfl,rfl⟩,hkk⟩;refine zK ?_;clear H hkk;intro H
 go_wp2_with (refine zS ?_;clear H;intro wn H)
 refine bpF ?_
 exact z5h (H.sel (M:=[Hl.row 86 3 (.slice A4 ll k4) ll (flat encReg rs)]) sF) HLL.out
theorem z8l(rs:List Rg)(v:Value)(p:Int)(hl:rs.length≤1000000)(w:World)(hr:Rd w 3 v rs.length (flat encReg rs)):Rets Tryz.prog [] 18 #[.agg #[v,.int .i64 p]] w (tAgg Dz.tyHO (z1i rs)):=by
 have c1:=fun w1 hb=>z5c rs v p hl w1 (Rd.below hr (Nat.le_refl _) hb)
 obtain⟨A,cap,rfl,_⟩:=hr.form
 obtain⟨ll,hll⟩:=nm2 rs.length
 have HLL:=hY hll
 rw[hll] at c1 ⊢
 clear hr hl hll
 have H:=Hs.start noRow w
 refine Rets.of ?_
 go_enter Tryz.func18,Tryz.ntmps18
 go_wp2_with ((first|refine zM ?_|(refine zB 1 ?_;intro b1)|(refine zA 2 ?_;intro b2));clear H;intro wn H)
 refine(Rets.use (c1 _ H.below)).mono ?_;rintro e wn ⟨_,_,rfl,⟨A4,k4,rfl,rfl⟩,hkk⟩;refine zK ?_;clear H hkk;intro H
 go_wp2_with ((first|refine zU ?_|(refine zA 3 ?_;intro b3));clear H;intro wn H)
 refine bpF ?_
 exact z5h (H.sel (M:=[Hl.row 86 3 (.slice A4 ll k4) ll (flat encReg rs)]) sF) HLL.out
end Go.Proofs.YtcabgibdkmgdlaaGreat
namespace Go.Proofs.YtcabgibdkmgdlaaGreat
open Go.RowKit M
namespace M
def z1c(rs:List Reg)(base:Int)(k:Nat):Bool:=(heldOf (rs.getD k noReg).1.data.toList).2.2&&((heldOf (rs.getD k noReg).1.data.toList).1==base)
def z1b(sq base:Int)(part:Nat→Bs):Nat→Nat→List Reg→Int→List Reg × Int × Int
 | 0,_,rs,p=>(rs,p,0)
 | m+1,k,rs,p=>if (slotOut rs p k (z1c rs base k) (frameBytes sq (part k))).2.2=0
   then z1b sq base part m (k+1) (slotOut rs p k (z1c rs base k) (frameBytes sq (part k))).1 (slotOut rs p k (z1c rs base k) (frameBytes sq (part k))).2.1
   else slotOut rs p k (z1c rs base k) (frameBytes sq (part k))
def z0g:Nat→Nat→List Reg→List Reg
 | 0,_,rs=>rs
 | m+1,k,rs=>z0g m (k+1) (setLog rs k ⟨#[]⟩)
def z0x(a:Ho)(pw:Int):List Reg × Int × Int:=
 if baseOf a.2.1.1 a.2.1.2=a.2.2 then (a.2.1.1,pw,0) else z1b a.2.2 (baseOf a.2.1.1 a.2.1.2) (z1f a.1) a.2.1.1.length 0 a.2.1.1 pw
def z1h:ByteArray:=⟨#[115,97,118,101,100]⟩
def z0t(a:Ho)(o:List Reg × Int × Int):HO:=
 if o.2.2=0∧o.2.1≠0 then ((a.1,(z0g a.2.1.1.length 0 o.1,-1),a.2.2),(z1h,0)) else z1i o.1
def z0h(a:Ho)(pw:Int):HO:=
 if z0z a&&isIn pw (-1) 1000000 then (if pw=0 then z1i a.2.1.1 else z0t a (z0x a pw)) else (z6o,(z4r,1))
end M
theorem z2m(q:Int)(t:Bs):(frameBytes q t).length≤3000:=by
 unfold frameBytes
 by_cases h:frameOk q t=true
 ·rw[if_pos h]
  unfold frameOk at h
  simp at h
  have h2:=seal_length (four q++t)
  rw[List.length_append,four_length] at h2
  unfold putText
  split
  ·have:=putNum_length (seal_ (four q++t)).length
   rw[List.length_append]
   omega
  ·simp
 ·rw[if_neg h];simp
theorem z6r{rs:List Reg}{k:Nat}{x:Reg}(h:rs.all regOk=true)(hx:regOk x=true):(rs.set k x).all regOk=true:=by
 rw[List.all_eq_true] at h ⊢
 intro y hy
 rcases List.mem_or_eq_of_mem_set hy with hy|rfl
 ·exact h y hy
 ·exact hx
theorem z5m{rs:List Reg}{k:Nat}(h:rs.all regOk=true):regOk (rs.getD k noReg)=true:=by
 by_cases hk:k<rs.length
 ·rw[List.getD_eq_getElem?_getD,List.getElem?_eq_getElem hk]
  exact List.all_eq_true.1 h _ (List.getElem_mem hk)
 ·rw[List.getD_eq_getElem?_getD,List.getElem?_eq_none (by omega)]
  rfl
theorem z0d{rs:List Reg}{p:Int}:diskOk rs p=true↔(1≤rs.length∧rs.length≤13)∧(-1≤p∧p≤1000000)∧rs.all regOk=true:=by
 unfold diskOk
 simp only[Bool.and_eq_true,decide_eq_true_eq]
 (try exact and_assoc)
theorem z3f{rs:List Reg}{p q:Int}(h:diskOk rs p=true)(hq:isIn q (-1) 1000000=true):diskOk rs q=true:=by
 unfold isIn at hq
 simp only[Bool.and_eq_true,decide_eq_true_eq] at hq
 obtain⟨h1,_,h3⟩:=z0d.1 h
 exact z0d.2 ⟨h1,hq,h3⟩
theorem z3p{rs:List Reg}{p:Int}{k:Nat}(h:diskOk rs p=true)(hk:k<rs.length)(hp:p≠0):
  stage rs p k=0∧wipeRs rs p k=setLog rs k ⟨#[]⟩∧doneP rs p k=p∧diskOk (setLog rs k ⟨#[]⟩) p=true∧(setLog rs k ⟨#[]⟩).length=rs.length:=by
 have hs:=stage_ok (r:=(k:Int)) h ⟨by omega,by omega⟩ hp
 refine⟨hs,?_,?_,?_,setLog_len _ _ _⟩
 ·unfold wipeRs;rw[if_pos hs];(try rfl)
 ·unfold doneP;rw[if_pos hs]
 ·obtain ⟨h1,h2,h3⟩:=z0d.1 h
  refine z0d.2 ⟨by rw[setLog_len];exact h1,h2,?_⟩
  unfold setLog
  have h4:=z5m (k:=k) h3
  refine z6r h3 ?_
  unfold regOk at h4 ⊢
  simp only[Bool.and_eq_true,decide_eq_true_eq] at h4 ⊢
  exact⟨h4.1,h4.2.1,Nat.zero_le _⟩
theorem z3s{rs rs':List Reg}{p p' q:Int}{k:Nat}{odd:Bool}{t:Bs}(h:diskOk rs p=true)(hk:k<rs.length)(e:slotOut rs p k odd (frameBytes q t)=(rs',p',0)):diskOk rs' p'=true∧rs'.length=rs.length:=by
 obtain⟨h1,h2,h3⟩:=z0d.1 h
 unfold slotOut at e
 have hsd:(k:Int).toNat=k:=by omega
 by_cases hp:p=0
 ·subst hp
  have hs:=stage_down (r:=(k:Int)) h ⟨by omega,by omega⟩
  rw[if_pos (by rw[hs];decide),hs] at e
  simp at e
 have hs:=stage_ok (r:=(k:Int)) h ⟨by omega,by omega⟩ hp
 rw[if_neg (by rw[hs];simp)] at e
 by_cases hf:frameBytes q t = []
 ·rw[if_pos hf] at e
  simp at e
 rw[if_neg hf] at e
 have hm:=z2m q t
 simp only[Prod.mk.injEq] at e
 obtain⟨rfl,hp',hc⟩:=e
 have hcut:(cutText p (frameBytes q t)).1.length≤3000 ∧ -1≤(cutText p (frameBytes q t)).2.1∧(cutText p (frameBytes q t)).2.1≤1000000:=by
  unfold cutText
  split
  ·exact ⟨hm,h2⟩
  ·split
   ·refine ⟨Nat.le_trans (List.length_take_le _ _) ?_,by simp⟩
    omega
   ·exact ⟨hm,by simp only;omega⟩
 rw[hp'] at hcut
 refine⟨z0d.2 ⟨by rw[setSlot_len];exact h1,hcut.2,?_⟩,setSlot_len _ _ _ _⟩
 unfold setSlot
 have h4:=z5m (k:=k) h3
 rw[hsd]
 refine z6r h3 ?_
 have hz:(bs (cutText p (frameBytes q t)).1).size≤3000:=by rw[←size_data,data_bs];exact hcut.1
 unfold regOk at h4 ⊢
 simp only[Bool.and_eq_true,decide_eq_true_eq] at h4
 split <;> simp only[Bool.and_eq_true,decide_eq_true_eq]
 ·exact ⟨h4.1,hz,h4.2.2⟩
 ·exact ⟨hz,h4.2.1,h4.2.2⟩
theorem z2v{rs rs':List Reg}{p p' q c:Int}{k:Nat}{odd:Bool}{t:Bs}(hl:rs.length≤13)(e:slotOut rs p k odd (frameBytes q t)=(rs',p',c)):rs'.length≤13:=by
 unfold slotOut at e
 split at e
 ·simp only[Prod.mk.injEq] at e
  rw[←e.1]
  unfold illRs
  split
  ·exact hl
  ·exact Nat.zero_le _
 ·split at e
  ·simp only[Prod.mk.injEq] at e
   rw[←e.1]
   exact Nat.zero_le _
  ·simp only[Prod.mk.injEq] at e
   rw[←e.1,setSlot_len]
   exact hl
theorem z6t(t:Bs):(heldOf t).2.2=decide ((slotFO t).2.2.2=0)∧((heldOf t).2.2=true→(slotFO t).1=(heldOf t).1):=by
 unfold heldOf slotFO
 by_cases h:(frameRead t 0).2.2.2=0
 ·by_cases h2:(frameRead t 0).2.2.1=t.length
  ·simp[h,h2]
  ·simp[h,h2]
 ·simp[h]
theorem z2j{sq base:Int}{part:Nat→Bs}{m k:Nat}{rs rs':List Reg}{p p' c:Int}(e:slotOut rs p k (z1c rs base k) (frameBytes sq (part k))=(rs',p',c)):
  z1b sq base part (m+1) k rs p=if c=0 then z1b sq base part m (k+1) rs' p' else (rs',p',c):=by
 show (if _ then _ else _)=_
 rw[e]
theorem z1j{a:Ho}(h:z0z a=true):z0b a.1=true∧diskOk a.2.1.1 a.2.1.2=true∧a.2.1.1.length=regsOf a.1.1.1:=by
 unfold z0z at h
 simp only[Bool.and_eq_true,decide_eq_true_eq] at h
 exact⟨h.1,h.2.1,h.2.2.1⟩
