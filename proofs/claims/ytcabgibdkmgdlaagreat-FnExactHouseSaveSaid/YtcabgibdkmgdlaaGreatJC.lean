import Derived.Test.YtcabgibdkmgdlaaGreatG1
import Derived.Deep.RegionHeld3
import Derived.Deep.RegionWith
import Derived.Test.YtcabgibdkmgdlaaGreatJB
set_option linter.unusedSimpArgs false
set_option linter.unusedVariables false
set_option maxRecDepth 100000
set_option maxHeartbeats 1000000
namespace Go.Proofs.YtcabgibdkmgdlaaGreat
open Go.RowKit M
theorem unseal_long{t:Bs}(h:8000<t.length):unseal_ t=([],0,2):=by unfold unseal_;rw[if_pos h]
theorem unseal_short{t:Bs}(h:t.length<4):unseal_ t=([],0,4):=by unfold unseal_;rw[if_neg (by omega),if_pos h]
theorem unseal_mid{t:Bs}(h:¬ 8000<t.length)(h4:¬t.length<4):unseal_ t=if crcFour (t.take (t.length-4))=t.drop (t.length-4) then (t.take (t.length-4),0,0) else ([],0,5):=by unfold unseal_;rw[if_neg h,if_neg h4]
theorem beq_bs(a b:Bs):((bs a).toList==(bs b).toList)=decide (a=b):=by
 rw[str_beq,decide_eq_decide,bs_inj]
theorem unseal_i(s:ByteArray)(hs:s.size≤maxLen)(w:World):
  Gives Tryz.prog 132 #[.string s] w (encTO (unseal_ s.data.toList)):=by
 unfold Gives
 have hsz:=size_data s
 by_cases hl:8000<s.size
 ·have HR:=hY (unseal_long (t:=s.data.toList) (by omega))
  have hCall:∀w,Gives Tryz.prog 208 #[.string s] w (.bool true):=fun w=>by have h:=isLong_i s w;rwa[show decide (8000<s.size)=true by simpa using hl] at h
  clear hsz hs
  go_enter Tryz.func132,Tryz.ntmps132
  go_wp2_with (go_at_call 208;refine(hCall _).use.mono ?_;rintro e w1 ⟨rfl,hb1⟩;obtain⟨hc1,hf1,hs1⟩:=bcell1 hb1)
  refine bodyPost_ret (v := .agg #[.string ⟨#[]⟩,.int .i64 0,.int .i64 2]) (by simp[results,Tryz.results132,go_sem,hc1,hs1]) rfl ⟨by rw[HR.out];rfl,?_⟩
  exact bwF
 ·have hCall:∀w,Gives Tryz.prog 208 #[.string s] w (.bool false):=fun w=>by have h:=isLong_i s w;rwa[show decide (8000<s.size)=false by simpa using hl] at h
  by_cases h4:s.size<4
  ·have HR:=hY (unseal_short (t:=s.data.toList) (by omega))
   have h4':(s.size:Int)-4<0:=by omega
   clear hsz hs
   go_enter Tryz.func132,Tryz.ntmps132
   go_wp2_with (go_at_call 208;refine(hCall _).use.mono ?_;rintro e w1 ⟨rfl,hb1⟩;obtain⟨hc1,hf1,hs1⟩:=bcell1 hb1)
   refine bodyPost_ret (v := .agg #[.string ⟨#[]⟩,.int .i64 0,.int .i64 4]) (by simp[results,Tryz.results132,go_sem,hc1,hs1]) rfl ⟨by rw[HR.out];rfl,?_⟩
   exact bwF
  ·have HR:=unseal_mid (t:=s.data.toList) (by omega) (by omega)
   rw[hsz] at HR
   obtain⟨n,hn⟩:∃n,s.size=n+4:=⟨s.size-4,by omega⟩
   have hn':(s.size:Int)-4=n:=by omega
   rw[show s.size-4=n by omega] at HR
   have hx1:s.extract 0 n=bs (s.data.toList.take n):=by rw[extract_bs,Nat.sub_zero,List.drop_zero]
   have hx2:s.extract n (n+4)=bs (s.data.toList.drop n):=by rw[extract_bs,List.take_of_length_le (by rw[List.length_drop];omega)]
   have hd:=beq_bs (crcFour (s.data.toList.take n)) (s.data.toList.drop n)
   have hC:∀w,Gives Tryz.prog 209 #[.string (bs (s.data.toList.take n))] w (.string (bs (crcFour (s.data.toList.take n)))):=fun w=>sumOf_i _ (by rw[size_bs,List.length_take];unfold maxLen at *;omega) w
   by_cases hc:crcFour (s.data.toList.take n)=s.data.toList.drop n
   ·rw[if_pos hc] at HR
    have HR:=hY HR
    rw[decide_eq_true hc] at hd
    clear hc hsz hs
    go_enter Tryz.func132,Tryz.ntmps132
    go_wp2_with (go_at_call 208;refine(hCall _).use.mono ?_;rintro e w1 ⟨rfl,hb1⟩;obtain⟨hc1,hf1,hs1⟩:=bcell1 hb1)
    refine wp_region_later (by kernel_rfl) (by kernel_rfl) ?_
    repeat(go_big_quiet_step ((go_at_call 209;exact Gives.later _ (hC _))))
    refine wpQuiet_nil ?_
    rintro _ ⟨x,rfl⟩
    have hx:=x.ok
    obtain⟨hcx,hfx⟩:=bcell hx
    go_wp2
    refine bodyPost_ret (v := .agg #[.string (bs (s.data.toList.take n)),.int .i64 0,.int .i64 0]) (by simp[results,Tryz.results132,go_sem,hc1,hcx,hs1]) rfl ⟨by rw[HR.out];rfl,?_⟩
    exact bwF
   ·rw[if_neg hc] at HR
    have HR:=hY HR
    rw[decide_eq_false hc] at hd
    clear hc hsz hs
    go_enter Tryz.func132,Tryz.ntmps132
    go_wp2_with (go_at_call 208;refine(hCall _).use.mono ?_;rintro e w1 ⟨rfl,hb1⟩;obtain⟨hc1,hf1,hs1⟩:=bcell1 hb1)
    refine wp_region_later (by kernel_rfl) (by kernel_rfl) ?_
    repeat(go_big_quiet_step ((go_at_call 209;exact Gives.later _ (hC _))))
    refine wpQuiet_nil ?_
    rintro _ ⟨x,rfl⟩
    have hx:=x.ok
    obtain⟨hcx,hfx⟩:=bcell hx
    go_wp2
    refine bodyPost_ret (v := .agg #[.string ⟨#[]⟩,.int .i64 0,.int .i64 5]) (by simp[results,Tryz.results132,go_sem,hc1,hcx,hs1]) rfl ⟨by rw[HR.out];rfl,?_⟩
    exact bwF
theorem unseal_s(s:ByteArray)(hs:s.size≤maxLen)(w:World):
  Gives Tryz.prog 104 #[.string s] w (encTO (unseal_ s.data.toList)):=by
 unfold Gives
 have hsz:=size_data s
 by_cases hl:8000<s.size
 ·have HR:=hY (unseal_long (t:=s.data.toList) (by omega))
  have hl':(8000:Int)<s.size:=by omega
  clear hsz hs
  go_enter Tryz.func104,Tryz.ntmps104
  go_wp2
  refine bodyPost_ret (v := .agg #[.string ⟨#[]⟩,.int .i64 0,.int .i64 2]) (by simp[results,Tryz.results104,go_sem]) rfl ⟨by rw[HR.out];rfl,?_⟩
  exact bwF
 ·have hl':¬(8000:Int)<s.size:=by omega
  by_cases h4:s.size<4
  ·have HR:=hY (unseal_short (t:=s.data.toList) (by omega))
   have h4':(s.size:Int)<4:=by omega
   clear hsz hs
   go_enter Tryz.func104,Tryz.ntmps104
   go_wp2
   refine bodyPost_ret (v := .agg #[.string ⟨#[]⟩,.int .i64 0,.int .i64 4]) (by simp[results,Tryz.results104,go_sem]) rfl ⟨by rw[HR.out];rfl,?_⟩
   exact bwF
  ·have HR:=unseal_mid (t:=s.data.toList) (by omega) (by omega)
   rw[hsz] at HR
   obtain⟨n,hn⟩:∃n,s.size=n+4:=⟨s.size-4,by omega⟩
   have hn':(s.size:Int)-4=n:=by omega
   have hn4:¬(n:Int)+4<4:=by omega
   rw[show s.size-4=n by omega] at HR
   have hx1:s.extract 0 n=bs (s.data.toList.take n):=by rw[extract_bs,Nat.sub_zero,List.drop_zero]
   have hx2:s.extract n (n+4)=bs (s.data.toList.drop n):=by rw[extract_bs,List.take_of_length_le (by rw[List.length_drop];omega)]
   have hd:=beq_bs (crcFour (s.data.toList.take n)) (s.data.toList.drop n)
   have hC:∀w,Gives Tryz.prog 180 #[.int .i64 0,.string (bs (s.data.toList.take n))] w (.int .i64 (crcMore 0 (s.data.toList.take n))):=fun w=>crc_s 0 (by omega) _ _ (by rw[size_bs,List.length_take];unfold maxLen at *;omega)
   have hC2:∀w,Gives Tryz.prog 108 #[.int .i64 (crcMore 0 (s.data.toList.take n))] w (.string (bs (crcFour (s.data.toList.take n)))):=fun w=>four_s _ _
   have hp:(n:Int)≤(n:Int)+4:=by omega
   by_cases hc:crcFour (s.data.toList.take n)=s.data.toList.drop n
   ·rw[if_pos hc] at HR
    have HR:=hY HR
    rw[decide_eq_true hc] at hd
    clear hc hsz hs
    go_enter Tryz.func104,Tryz.ntmps104
    go_wp2
    refine wp_region_later (by kernel_rfl) (by kernel_rfl) ?_
    repeat(go_big_quiet_step (first
     | (go_at_call 180;exact Gives.later _ (hC _))
     | (go_at_call 108;exact Gives.later _ (hC2 _))))
    refine wpQuiet_nil ?_
    rintro _ ⟨x,rfl⟩
    have hx:=x.ok
    obtain⟨hcx,hfx⟩:=bcell hx
    go_wp2
    refine bodyPost_ret (v := .agg #[.string (bs (s.data.toList.take n)),.int .i64 0,.int .i64 0]) (by simp[results,Tryz.results104,go_sem,hcx]) rfl ⟨by rw[HR.out];rfl,?_⟩
    exact bwF
   ·rw[if_neg hc] at HR
    have HR:=hY HR
    rw[decide_eq_false hc] at hd
    clear hc hsz hs
    go_enter Tryz.func104,Tryz.ntmps104
    go_wp2
    refine wp_region_later (by kernel_rfl) (by kernel_rfl) ?_
    repeat(go_big_quiet_step (first
     | (go_at_call 180;exact Gives.later _ (hC _))
     | (go_at_call 108;exact Gives.later _ (hC2 _))))
    refine wpQuiet_nil ?_
    rintro _ ⟨x,rfl⟩
    have hx:=x.ok
    obtain⟨hcx,hfx⟩:=bcell hx
    go_wp2
    refine bodyPost_ret (v := .agg #[.string ⟨#[]⟩,.int .i64 0,.int .i64 5]) (by simp[results,Tryz.results104,go_sem,hcx]) rfl ⟨by rw[HR.out];rfl,?_⟩
    exact bwF
end Go.Proofs.YtcabgibdkmgdlaaGreat
namespace Go.Proofs.YtcabgibdkmgdlaaGreat
open Go.RowKit M
theorem set2{w:World}{a b:Addr}{v:Value}(h:w.cell? b=some v)(hne:a.block≠b.block)(u:Value):(w.setCell a u).cell? b=some v:=by
 rw[World.cell?_setCell_other (h:=fun e=>hne (by rw[e]))];exact h
theorem ofFour_get(s:ByteArray)(h:4≤s.size):ofFour s.data.toList=four4 s[0].toNat s[1].toNat s[2].toNat s[3].toNat:=by
 have hz:=size_data s
 unfold ofFour
 rw[List.getElem?_eq_getElem (show 0<s.data.toList.length by omega),List.getElem?_eq_getElem (show 1<s.data.toList.length by omega),List.getElem?_eq_getElem (show 2<s.data.toList.length by omega),List.getElem?_eq_getElem (show 3<s.data.toList.length by omega)]
 rfl
theorem ofFour_i(s:ByteArray)(h4:4≤s.size)(w:World):Gives Tryz.prog 133 #[.string s] w (.int .i64 (ofFour s.data.toList)):=by
 unfold Gives
 have hR:=hY (ofFour_get s h4)
 have b0:s[0].toNat<256:=s[0].toNat_lt
 have b1:s[1].toNat<256:=s[1].toNat_lt
 have b2:s[2].toNat<256:=s[2].toNat_lt
 have b3:s[3].toNat<256:=s[3].toNat_lt
 have j0:0<s.size:=by omega
 have j1:1<s.size:=by omega
 have j2:2<s.size:=by omega
 have j3:3<s.size:=by omega
 have i1:(1:Int)<s.size:=by omega
 have i2:(2:Int)<s.size:=by omega
 have i3:(3:Int)<s.size:=by omega
 go_enter Tryz.func133,Tryz.ntmps133
 go_wp2
 refine wp_region_later (by kernel_rfl) (by kernel_rfl) ?_
 repeat(go_big_quiet_step (fail "no call"))
 refine wpQuiet_nil ?_
 rintro _ ⟨x,rfl⟩
 have hx:=x.ok
 go_wp2
 go_ret
 refine⟨?_,hx⟩
 rw[hR.out]
 simp[four4]
def encFO(x:FrameOut):Value := .agg #[.int .i64 x.1,.string (bs x.2.1),.int .i64 x.2.2.1,.int .i64 x.2.2.2]
theorem getText_range(t:Bs)(a:Int):
  (getText t a).1 = []∧(getText t a).2.1=0∧(1≤(getText t a).2.2∧(getText t a).2.2≤4) ∨
  (getText t a).2.2=0∧t.length≤8000∧0≤a∧a+1≤(getText t a).2.1∧(getText t a).2.1≤t.length∧(getText t a).1.length≤8000:=by
 rw[getText_eq]
 rcases getNum_range t a with ⟨h1,h2,h3⟩|⟨h1,h2,h3,h4,h5,h6⟩
 ·rw[if_pos (by omega)];left;exact⟨rfl,rfl,h3⟩
 ·rw[if_neg (by omega)]
  by_cases h7:(getNum t a).1<0∨8000<(getNum t a).1
  ·rw[if_pos h7];left;simp
  ·rw[if_neg h7]
   by_cases h8:(t.length:Int)<(getNum t a).2.1+(getNum t a).1
   ·rw[if_pos h8];left;simp
   ·rw[if_neg h8];right
    refine⟨rfl,h2,h3,by dsimp only;omega,by dsimp only;omega,?_⟩
    dsimp only
    rw[List.length_take];omega
theorem unseal_range(t:Bs):(unseal_ t).1 = []∧(unseal_ t).2.1=0∧(1≤(unseal_ t).2.2∧(unseal_ t).2.2≤5)∨(unseal_ t).2.1=0∧(unseal_ t).2.2=0∧t.length≤8000∧(unseal_ t).1.length+4=t.length:=by
 unfold unseal_
 by_cases h1:8000<t.length
 ·rw[if_pos h1];left;simp
 ·rw[if_neg h1]
  by_cases h2:t.length<4
  ·rw[if_pos h2];left;simp
  ·rw[if_neg h2]
   by_cases h3:crcFour (t.take (t.length-4))=t.drop (t.length-4)
   ·rw[if_pos h3];right
    refine⟨rfl,rfl,by omega,?_⟩
    dsimp only
    rw[List.length_take];omega
   ·rw[if_neg h3];left;simp
def frameOf(x y:TextOut):FrameOut:=
 if x.2.2≠0 then (0,[],0,x.2.2)
 else if y.2.2≠0 then (0,[],0,y.2.2)
 else if y.1.length<4 then (0,[],0,3)
 else if frameOk (ofFour y.1) (y.1.drop 4) then (ofFour y.1,y.1.drop 4,x.2.1,0)
 else (0,[],0,3)
theorem frameRead_eq(t:Bs)(a:Int):frameRead t a=frameOf (getText t a) (unseal_ (getText t a).1):=rfl
end Go.Proofs.YtcabgibdkmgdlaaGreat
namespace Go.Proofs.YtcabgibdkmgdlaaGreat.M
theorem zig_unzig(y:Nat):zig (unzig y)=y:=by
 unfold zig unzig
 by_cases h:y%2=1
 ·rw[if_pos h,if_pos (by omega)];omega
 ·rw[if_neg h,if_neg (by omega)];omega
theorem gnum_put:∀(f:Nat) (l:Bs) (k u:Nat) (n:Int) (j:Nat),gnum f l k u=(n,j,0) →
  ∃y:Nat,n=unzig (u+y*2 ^ (7*k))∧k+1≤j∧j≤k+l.length∧putU f y=l.take (j-k)∧(0<k→1≤y)
 | 0,l,k,u,n,j,h=>by simp[gnum] at h
 | f+1,[],k,u,n,j,h=>by simp[gnum] at h
 | f+1,b::l,k,u,n,j,h=>by
  unfold gnum at h
  have hb:=b.toNat_lt
  by_cases h1:k=9∧1<b.toNat
  ·rw[if_pos h1] at h;simp at h
  ·rw[if_neg h1] at h
   by_cases h2:128≤b.toNat
   ·rw[if_pos h2] at h
    obtain⟨y,e1,e2,e3,e4,e5⟩:=gnum_put f l (k+1) _ n j h
    have hy:=e5 (by omega)
    refine⟨b.toNat%128+128*y,?_,by omega,by simp only[List.length_cons];omega,?_,fun _=>by omega⟩
    ·rw[e1]
     congr 1
     have:(2:Nat) ^ (7*(k+1))=128*2 ^ (7*k):=by rw[show 7*(k+1)=7+7*k by omega,Nat.pow_add]
     rw[this,Nat.add_mul,Nat.add_assoc]
     congr 2
     rw[Nat.mul_comm 128 y,Nat.mul_assoc]
    ·rw[putU_ge (by omega),show j-k=(j-(k+1))+1 by omega,List.take_succ_cons]
     congr 1
     ·apply UInt8.toNat_inj.1
      rw[UInt8.toNat_ofNat']
      omega
     ·rw[←e4];congr 1;omega
   ·rw[if_neg h2] at h
    by_cases h3:b.toNat=0∧0<k
    ·rw[if_pos h3] at h;simp at h
    ·rw[if_neg h3] at h
     simp only[Prod.mk.injEq] at h
     obtain⟨e1,e2,_⟩:=h
     refine⟨b.toNat,?_,by omega,by simp only[List.length_cons];omega,?_,fun _=>by omega⟩
     ·rw[←e1,Nat.mod_eq_of_lt (by omega)]
     ·rw[putU_lt (by omega),show j-k=1 by omega]
      simp
theorem numAt_put{t:Bs}{a:Nat}{n z:Int}(h:numAt t a=(n,z,0)):∃j:Nat,z=((a+j:Nat):Int)∧1≤j∧a+j≤t.length∧putNum n=(t.drop a).take j:=by
 unfold numAt at h
 rcases hg:gnum 10 (t.drop a) 0 0 with ⟨n',j,c⟩
 rw[hg] at h
 by_cases hc:c=0
 ·subst hc
  simp only[if_true,Prod.mk.injEq] at h
  obtain⟨rfl,rfl,_⟩:=h
  obtain⟨y,e1,e2,e3,e4,_⟩:=gnum_put 10 _ 0 0 n' j hg
  refine⟨j,rfl,by omega,by rw[List.length_drop] at e3;omega,?_⟩
  unfold putNum
  rw[e1,Nat.zero_add,Nat.mul_zero,Nat.pow_zero,Nat.mul_one,zig_unzig,e4]
  rfl
 ·rw[if_neg (by simpa using hc)] at h
  simp only[Prod.mk.injEq] at h
  exact absurd h.2.2 hc
theorem take_take_drop(t:Bs)(a j n:Nat):(t.drop a).take j++(t.drop (a+j)).take n=(t.drop a).take (j+n):=by
 rw[List.take_add,List.drop_drop]
theorem getText_put{t:Bs}{a:Int}{x:Bs}{z:Int}(h:getText t a=(x,z,0)):∃i j:Nat,a=i∧z=((i+j:Nat):Int)∧1≤j∧i+j≤t.length∧t.length≤8000∧putText x=(t.drop i).take j:=by
 unfold getText at h
 by_cases h1:(getNum t a).2.2≠0
 ·rw[if_pos h1] at h;simp only[Prod.mk.injEq] at h;exact absurd h.2.2 h1
 ·rw[if_neg h1] at h
  by_cases h2:(getNum t a).1<0∨8000<(getNum t a).1
  ·rw[if_pos h2] at h;simp at h
  ·rw[if_neg h2] at h
   by_cases h3:(t.length:Int)<(getNum t a).2.1+(getNum t a).1
   ·rw[if_pos h3] at h;simp at h
   ·rw[if_neg h3] at h
    simp only[Prod.mk.injEq] at h
    rcases getNum_range t a with ⟨_,_,h4,_⟩|⟨h4,h5,h6,_⟩
    ·omega
    ·obtain ⟨i,rfl⟩:=Int.eq_ofNat_of_zero_le h6
     have hg:numAt t i=getNum t i:=by
      unfold getNum;rw[if_neg (by omega),if_neg (by omega)];rfl
     rcases hn:getNum t i with ⟨n,z1,c⟩
     simp only[hn] at h h1 h2 h3 h4
     obtain rfl:c=0:=by omega
     obtain⟨j,e1,e2,e3,e4⟩:=numAt_put (hg.trans hn)
     obtain⟨m,rfl⟩:∃m:Nat,n=m:=⟨n.toNat,by omega⟩
     subst e1
     simp only[Int.toNat_natCast] at h
     have hx:x.length=m:=by rw[←h.1,List.length_take,List.length_drop];omega
     refine⟨i,j+m,rfl,by rw[←h.2.1];omega,by omega,by omega,h5,?_⟩
     unfold putText
     rw[if_pos (by omega),hx,e4,←h.1,←take_take_drop]
theorem unseal_put{t x:Bs}{z:Int}(h:unseal_ t=(x,z,0)):seal_ x=t:=by
 unfold unseal_ at h
 by_cases h1:8000<t.length
 ·rw[if_pos h1] at h;simp at h
 ·rw[if_neg h1] at h
  by_cases h2:t.length<4
  ·rw[if_pos h2] at h;simp at h
  ·rw[if_neg h2] at h
   by_cases h3:crcFour (t.take (t.length-4))=t.drop (t.length-4)
   ·rw[if_pos h3] at h
    simp only[Prod.mk.injEq] at h
    unfold seal_
    rw[←h.1,if_pos (by rw[List.length_take];omega),h3,List.take_append_drop]
   ·rw[if_neg h3] at h;simp at h
theorem four_ofFour{b:Bs}(h:4≤b.length):four (ofFour b)=b.take 4:=by
 match b,h with
 | a::b::c::d::l,_=>
  have ha:=a.toNat_lt
  have hb:=b.toNat_lt
  have hc:=c.toNat_lt
  have hd:=d.toNat_lt
  simp only[four,ofFour,four4,List.getElem?_cons_zero,List.getElem?_cons_succ,Option.getD_some,List.take_succ_cons,List.take_zero]
  simp only[List.cons.injEq,and_true]
  refine⟨?_,?_,?_,?_⟩ <;> (apply UInt8.toNat_inj.1;rw[UInt8.toNat_ofNat'];omega)
theorem frameRead_put{t:Bs}{a q z:Int}{x:Bs}(h:frameRead t a=(q,x,z,0)):
  ∃i j:Nat,a=i∧z=((i+j:Nat):Int)∧1≤j∧i+j≤t.length∧t.length≤8000∧frameOk q x=true∧frameBytes q x=(t.drop i).take j:=by
 rw[frameRead_eq] at h
 rcases hg:getText t a with ⟨y,z1,c⟩
 rw[hg] at h
 dsimp only at h
 unfold frameOf at h
 dsimp only at h
 by_cases h1:c≠0
 ·rw[if_pos h1] at h;simp only[Prod.mk.injEq] at h;exact absurd h.2.2.2 h1
 ·rw[if_neg h1] at h
  obtain rfl:c=0:=by omega
  rcases hu:unseal_ y with ⟨b,z2,c2⟩
  rw[hu] at h
  dsimp only at h
  by_cases h2:c2≠0
  ·rw[if_pos h2] at h;simp only[Prod.mk.injEq] at h;exact absurd h.2.2.2 h2
  ·rw[if_neg h2] at h
   obtain rfl:c2=0:=by omega
   by_cases h3:b.length<4
   ·rw[if_pos h3] at h;simp at h
   ·rw[if_neg h3] at h
    by_cases h4:frameOk (ofFour b) (b.drop 4)=true
    ·rw[if_pos h4] at h
     simp only[Prod.mk.injEq] at h
     obtain⟨rfl,rfl,rfl,_⟩:=h
     obtain⟨i,j,e1,e2,e3,e4,e5,e6⟩:=getText_put hg
     refine⟨i,j,e1,e2,e3,e4,e5,h4,?_⟩
     unfold frameBytes
     rw[if_pos h4,four_ofFour (by omega),List.take_append_drop,unseal_put hu,e6]
    ·rw[if_neg h4] at h;simp at h
theorem frameRead_bad{t:Bs}{a:Int}(h:(frameRead t a).2.2.2≠0):frameRead t a=(0,[],0,(frameRead t a).2.2.2)∧1≤(frameRead t a).2.2.2∧(frameRead t a).2.2.2≤5:=by
 rw[frameRead_eq] at *
 have r1:=getText_range t a
 have r2:=unseal_range (getText t a).1
 unfold frameOf at *
 by_cases h1:(getText t a).2.2≠0
 ·simp only[if_pos h1] at *
  refine⟨trivial,?_⟩
  rcases r1 with ⟨_,_,r⟩|⟨r,_⟩
  ·omega
  ·exact absurd r h1
 ·simp only[if_neg h1] at *
  by_cases h2:(unseal_ (getText t a).1).2.2≠0
  ·simp only[if_pos h2] at *
   refine⟨trivial,?_⟩
   rcases r2 with ⟨_,_,r⟩|⟨_,r,_⟩
   ·omega
   ·exact absurd r h2
  ·simp only[if_neg h2] at *
   by_cases h3:(unseal_ (getText t a).1).1.length<4
   ·simp only[if_pos h3] at *;refine⟨?_,?_,?_⟩ <;> first|trivial|decide
   ·simp only[if_neg h3] at *
    by_cases h4:frameOk (ofFour (unseal_ (getText t a).1).1) ((unseal_ (getText t a).1).1.drop 4)=true
    ·simp only[if_pos h4] at h;exact absurd rfl h
    ·simp only[if_neg h4] at *;refine⟨?_,?_,?_⟩ <;> first|trivial|decide
abbrev Frm:=Int × ByteArray
theorem held_iff{t x:Bs}{q z:Int}(h:frameRead t 0=(q,x,z,0)):frameBytes q x=t↔z=t.length:=by
 obtain⟨i,j,e1,rfl,e3,e4,_,_,e5⟩:=frameRead_put h
 obtain rfl:i=0:=by omega
 rw[e5,List.drop_zero,Nat.zero_add]
 constructor
 ·intro e
  have:=congrArg List.length e
  rw[List.length_take] at this
  omega
 ·intro e
  exact List.take_of_length_le (by omega)
end Go.Proofs.YtcabgibdkmgdlaaGreat.M
namespace Go.Proofs.YtcabgibdkmgdlaaGreat
open Go.RowKit M
theorem ncell2{w:World}{F n i:Nat}{u v:Value}(h:n<F):((w.setCell ⟨F,0,none⟩ u).setCell ⟨F,1,none⟩ v).cell? ⟨n,i,none⟩=w.cell? ⟨n,i,none⟩:=by
 have hne:∀o,(⟨F,o,none⟩:Addr)≠⟨n,i,none⟩:=fun o e=>by injection e;omega
 rw[World.cell?_setCell_other (h:=hne 1),World.cell?_setCell_other (h:=hne 0)]
theorem scell2{w:World}{F:Nat}{u v a b:Value}(h0:w.cell? ⟨F,0,none⟩=some a)(h1:w.cell? ⟨F,1,none⟩=some b):
  ((w.setCell ⟨F,0,none⟩ u).setCell ⟨F,1,none⟩ v).cell? ⟨F,0,none⟩=some u∧((w.setCell ⟨F,0,none⟩ u).setCell ⟨F,1,none⟩ v).cell? ⟨F,1,none⟩=some v:=by
 have hne:(⟨F,1,none⟩:Addr)≠⟨F,0,none⟩:=fun e=>by injection e;omega
 have hne':(⟨F,0,none⟩:Addr)≠⟨F,1,none⟩:=fun e=>by injection e;omega
 refine⟨?_,?_⟩
 ·rw[World.cell?_setCell_other (h:=hne),World.cell?_setCell_same' (h:=by rw[h0];rfl)]
 ·rw[World.cell?_setCell_same' (h:=by rw[World.cell?_setCell_other (h:=hne'),h1];rfl)]
theorem frameRead_i(s:ByteArray)(a:Int)(hs:s.size≤maxLen)(w:World):
  Gives Tryz.prog 76 #[.string s,.int .i64 a] w (encFO (frameRead s.data.toList a)):=by
 unfold Gives
 have hr:=getText_range s.data.toList a
 have hN:∀w,Gives Tryz.prog 131 #[.string s,.int .i64 a] w _:=getText_i s a hs
 have HG:=frameRead_eq s.data.toList a
 generalize getText s.data.toList a=x at *
 obtain⟨t,z,c⟩:=x
 dsimp only at hr HG
 unfold encTO at hN
 dsimp only at hN
 rcases hr with ⟨rfl,rfl,hc⟩|⟨rfl,hl,h0,h1,h2,h3⟩
 ·have hc':(c==0)=false:=by simp;omega
  have HR:Hid (frameRead s.data.toList a=(0,[],0,c)):=by rw[HG];unfold frameOf;rw[if_pos (show c≠0 by omega)];exact hY rfl
  clear HG hs
  go_enter Tryz.func76,Tryz.ntmps76
  go_wp2_with (go_at_call 131;refine(hN _).use.mono ?_;rintro e w1 ⟨rfl,hb1⟩;obtain⟨hc1,hf1,hs1⟩:=bcell1 hb1)
  refine bodyPost_ret (v := .agg #[.int .i64 0,.string ⟨#[]⟩,.int .i64 0,.int .i64 c]) (by simp[results,Tryz.results76,go_sem,hc1,hs1]) rfl ⟨by rw[HR.out];rfl,?_⟩
  exact bwF
 ·have hr2:=unseal_range t
  have hU:∀w,Gives Tryz.prog 132 #[.string (bs t)] w _:=unseal_i (bs t) (by rw[size_bs];unfold maxLen;omega)
  rw[data_bs] at hU
  generalize unseal_ t=y at *
  obtain⟨b,z2,c2⟩:=y
  dsimp only at hr2
  unfold encTO at hU
  dsimp only at hU
  rcases hr2 with ⟨rfl,rfl,hc⟩|⟨rfl,rfl,hl2,hb⟩
  ·have hc':(c2==0)=false:=by simp;omega
   have HR:Hid (frameRead s.data.toList a=(0,[],0,c2)):=by rw[HG];unfold frameOf;rw[if_neg (by simp),if_pos (show c2≠0 by omega)];exact hY rfl
   clear HG hs
   go_enter Tryz.func76,Tryz.ntmps76
   go_wp2_with (first
    | (go_at_call 131;refine(hN _).use.mono ?_;rintro e w1 ⟨rfl,hb1⟩;obtain⟨hc1,hf1,hs1⟩:=bcell1 hb1)
    | ((go_at_call 132;refine(hU _).use.mono ?_;rintro e w2 ⟨rfl,hb2⟩;obtain⟨hc2,hf2,hs2⟩:=bcell1 hb2);have hs02:=Nat.lt_trans hs1 hs2;have k:=kept2 hb2 hs1))
   refine bodyPost_ret (v := .agg #[.int .i64 0,.string ⟨#[]⟩,.int .i64 0,.int .i64 c2]) (by simp[results,Tryz.results76,go_sem,hc1,k,hs1,hs02]) rfl ⟨by rw[HR.out];rfl,?_⟩
   exact bwF
  ·unfold frameOf at HG
   rw[if_neg (by simp),if_neg (by simp)] at HG
   dsimp only at HG
   by_cases h4:b.length<4
   ·rw[if_pos h4] at HG
    have HR:=hY HG
    have h4':(b.length:Int)<4:=by omega
    clear HG hs
    go_enter Tryz.func76,Tryz.ntmps76
    go_wp2_with (first
     | (go_at_call 131;refine(hN _).use.mono ?_;rintro e w1 ⟨rfl,hb1⟩;obtain⟨hc1,hf1,hs1⟩:=bcell1 hb1)
     | ((go_at_call 132;refine(hU _).use.mono ?_;rintro e w2 ⟨rfl,hb2⟩;obtain⟨hc2,hf2,hs2⟩:=bcell1 hb2);have hs02:=Nat.lt_trans hs1 hs2;have k:=kept2 hb2 hs1))
    refine bodyPost_ret (v := .agg #[.int .i64 0,.string ⟨#[]⟩,.int .i64 0,.int .i64 3]) (by simp[results,Tryz.results76,go_sem,hc1,k,hs1,hs02]) rfl ⟨by rw[HR.out];rfl,?_⟩
    exact bwF
   ·rw[if_neg h4] at HG
    have h4':¬(b.length:Int)<4:=by omega
    have h4'':4≤b.length:=by omega
    have hx2:(bs b).extract 4 b.length=bs (b.drop 4):=by rw[extract_bs,List.take_of_length_le (by rw[List.length_drop,data_bs];omega),data_bs]
    have hF:∀w,Gives Tryz.prog 133 #[.string (bs b)] w (.int .i64 (ofFour b)):=ofFour_i (bs b) (by rw[size_bs];omega)
    have hK:∀w,Gives Tryz.prog 134 #[.agg #[.int .i64 (ofFour b),.string (bs (b.drop 4))]] w (.bool (frameOk (ofFour b) (b.drop 4))):=frameRight_i _ (bs (b.drop 4))
    generalize ofFour b=q at *
    by_cases hq:frameOk q (b.drop 4)=true
    ·rw[if_pos hq] at HG
     rw[hq] at hK
     have HR:=hY HG
     clear HG hs
     go_enter Tryz.func76,Tryz.ntmps76
     go_wp2_with (first
      | (go_at_call 131;refine(hN _).use.mono ?_;rintro e w1 ⟨rfl,hb1⟩;obtain⟨hc1,hf1,hs1⟩:=bcell1 hb1)
      | ((go_at_call 132;refine(hU _).use.mono ?_;rintro e w2 ⟨rfl,hb2⟩;obtain⟨hc2,hf2,hs2⟩:=bcell1 hb2);have hs02:=Nat.lt_trans hs1 hs2;have k:=kept2 hb2 hs1))
     have e0:(w2.alloc (.cells #[.string (bs b),.int .i64 0,.int .i64 0] 164)).cell? ⟨w2.heap.size,0,none⟩=some (.string (bs b)):=by simp[World.cell?_alloc_new]
     have s3:w2.heap.size<(w2.alloc (.cells #[.string (bs b),.int .i64 0,.int .i64 0] 164)).heap.size:=by simp
     have B3:=bthen (bthen (bnew _ _) hb1) (bthen (bnew _ _) hb2)
     have B3:=balloc B3 (.cells #[.string (bs b),.int .i64 0,.int .i64 0] 164)
     have k0:∀i,(w2.alloc (.cells #[.string (bs b),.int .i64 0,.int .i64 0] 164)).cell? ⟨w.heap.size,i,none⟩=(#[Value.int .i64 0,.string ⟨#[]⟩,.int .i64 0,.int .i64 0]:Array Value)[i]?:=fun i=>by simp[go_sem,hs02,k,hc1]
     have k1:∀i,(w2.alloc (.cells #[.string (bs b),.int .i64 0,.int .i64 0] 164)).cell? ⟨w1.heap.size,i,none⟩=(#[Value.string (bs t),.int .i64 z,.int .i64 0]:Array Value)[i]?:=fun i=>by simp[go_sem,hs2,hc2]
     have z0:∀i,(w2.alloc (.cells #[.string (bs b),.int .i64 0,.int .i64 0] 164)).frozen? ⟨w.heap.size,i,none⟩=false:=fun i=>by simp[go_sem,hs02,hs1,Nat.le_of_lt hs1,hf2,hf1]
     generalize w2.alloc (.cells #[.string (bs b),.int .i64 0,.int .i64 0] 164)=w3 at *
     clear hc1 hf1 hc2 hf2 k hb1 hb2
     have s0:w.heap.size<w3.heap.size:=Nat.lt_trans hs02 s3
     have s1:w1.heap.size<w3.heap.size:=Nat.lt_trans hs2 s3
     go_region_held3 (fun w'=>w'.cell? ⟨w2.heap.size,0,none⟩=some (.string (bs b))) (first|exact qq|exact e0|exact(World.cell?_alloc_some _ _ _ (by rw[qq];rfl)).trans qq|exact set2 (set2 qq (by exact Nat.ne_of_gt s3) _) (by exact Nat.ne_of_gt s3) _|exact set2 (set2 ((World.cell?_alloc_some _ _ _ (by rw[qq];rfl)).trans qq) (by exact Nat.ne_of_gt s24) _) (by exact Nat.ne_of_gt s24) _|(simp[go_sem,e0,s3])|(trace_state;fail)) (first|(go_at_call 133;refine(hF _).use.mono ?_;rintro e w4 ⟨rfl,hb4⟩;obtain⟨hc4,hf4⟩:=bcell hb4;have s4:=hb4.size;have s24:w2.heap.size<w4.heap.size:=(by simp at s4;omega);have qq:w4.cell? ⟨w2.heap.size,0,none⟩=some (.string (bs b)):=(by rw[(bcell hb4).1 _ _ (by simp;omega)];simp[go_sem,e0,s3])))
     ·have r0:∀i,(w4.alloc (.cells #[.int .i64 q,.string (bs (b.drop 4))] 81)).cell? ⟨w.heap.size,i,none⟩=(#[Value.int .i64 0,.string ⟨#[]⟩,.int .i64 0,.int .i64 0]:Array Value)[i]?:=fun i=>by
       rw[World.cell?_alloc_past (hn:=by simp at s4;omega),hc4 _ _ (by simp;omega),←k0 i];rfl
      have r1:∀i,(w4.alloc (.cells #[.int .i64 q,.string (bs (b.drop 4))] 81)).cell? ⟨w1.heap.size,i,none⟩=(#[Value.string (bs t),.int .i64 z,.int .i64 0]:Array Value)[i]?:=fun i=>by
       rw[World.cell?_alloc_past (hn:=by simp at s4;omega),hc4 _ _ (by simp;omega),←k1 i];rfl
      have y0:∀i,(w4.alloc (.cells #[.int .i64 q,.string (bs (b.drop 4))] 81)).frozen? ⟨w.heap.size,i,none⟩=false:=fun i=>by
       rw[World.frozen?_alloc_old (h:=by simp at s4 ⊢;omega),hf4 _ _ (by simp;omega),←z0 i];rfl
      have f0:(w4.alloc (.cells #[.int .i64 q,.string (bs (b.drop 4))] 81)).cell? ⟨w4.heap.size,0,none⟩=some (.int .i64 q):=by simp[World.cell?_alloc_new]
      have f1:(w4.alloc (.cells #[.int .i64 q,.string (bs (b.drop 4))] 81)).cell? ⟨w4.heap.size,1,none⟩=some (.string (bs (b.drop 4))):=by simp[World.cell?_alloc_new]
      have sF:w4.heap.size<(w4.alloc (.cells #[.int .i64 q,.string (bs (b.drop 4))] 81)).heap.size:=by simp
      have sf0:w.heap.size<w4.heap.size:=by simp at s4;omega
      have sf1:w1.heap.size<w4.heap.size:=by simp at s4;omega
      have sW0:w.heap.size<(w4.alloc (.cells #[.int .i64 q,.string (bs (b.drop 4))] 81)).heap.size:=by simp at s4 ⊢;omega
      have sW1:w1.heap.size<(w4.alloc (.cells #[.int .i64 q,.string (bs (b.drop 4))] 81)).heap.size:=by simp at s4 ⊢;omega
      have B4:=balloc (bthen (bdrew B3) hb4) (.cells #[.int .i64 q,.string (bs (b.drop 4))] 81)
      generalize w4.alloc (.cells #[.int .i64 q,.string (bs (b.drop 4))] 81)=W at *
      clear hc4 hf4 hb4 qq s4 s24
      generalize w4.heap.size=F at *
      go_wp2_with (go_at_call 134;refine(hK _).use.mono ?_;rintro e w5 ⟨rfl,hb5⟩;obtain⟨hc5,hf5⟩:=bcell hb5)
      first|go_region|skip
      all_goals go_wp2
      refine bodyPost_ret (v := .agg #[.int .i64 q,.string (bs (b.drop 4)),.int .i64 z,.int .i64 0]) (by simp[results,Tryz.results76,go_sem,hc5,r0,sW0]) rfl ⟨by rw[HR.out];rfl,?_⟩
      exact bwF
     ·have c0:w4.cell? ⟨w3.heap.size,0,none⟩=some (.int .i64 0):=by rw[hc4 _ _ (by simp)];simp[go_sem]
      have c1:w4.cell? ⟨w3.heap.size,1,none⟩=some (.string ⟨#[]⟩):=by rw[hc4 _ _ (by simp)];simp[go_sem]
      have r0:∀i,((w4.setCell ⟨w3.heap.size,0,none⟩ (.int .i64 q)).setCell ⟨w3.heap.size,1,none⟩ (.string (bs (b.drop 4)))).cell? ⟨w.heap.size,i,none⟩=(#[Value.int .i64 0,.string ⟨#[]⟩,.int .i64 0,.int .i64 0]:Array Value)[i]?:=fun i=>by
       rw[ncell2 s0,hc4 _ _ (by simp;omega),←k0 i];simp[go_sem,s0]
      have r1:∀i,((w4.setCell ⟨w3.heap.size,0,none⟩ (.int .i64 q)).setCell ⟨w3.heap.size,1,none⟩ (.string (bs (b.drop 4)))).cell? ⟨w1.heap.size,i,none⟩=(#[Value.string (bs t),.int .i64 z,.int .i64 0]:Array Value)[i]?:=fun i=>by
       rw[ncell2 s1,hc4 _ _ (by simp;omega),←k1 i];simp[go_sem,s1]
      have y0:∀i,((w4.setCell ⟨w3.heap.size,0,none⟩ (.int .i64 q)).setCell ⟨w3.heap.size,1,none⟩ (.string (bs (b.drop 4)))).frozen? ⟨w.heap.size,i,none⟩=false:=fun i=>by
       have h:w4.frozen? ⟨w.heap.size,i,none⟩=false:=by rw[hf4 _ _ (by simp;omega),←z0 i];simp[go_sem,s0]
       simpa [go_sem] using h
      have f0:((w4.setCell ⟨w3.heap.size,0,none⟩ (.int .i64 q)).setCell ⟨w3.heap.size,1,none⟩ (.string (bs (b.drop 4)))).cell? ⟨w3.heap.size,0,none⟩=some (.int .i64 q):=(scell2 c0 c1).1
      have f1:((w4.setCell ⟨w3.heap.size,0,none⟩ (.int .i64 q)).setCell ⟨w3.heap.size,1,none⟩ (.string (bs (b.drop 4)))).cell? ⟨w3.heap.size,1,none⟩=some (.string (bs (b.drop 4))):=(scell2 c0 c1).2
      have sF:w3.heap.size<((w4.setCell ⟨w3.heap.size,0,none⟩ (.int .i64 q)).setCell ⟨w3.heap.size,1,none⟩ (.string (bs (b.drop 4)))).heap.size:=by simp at s4 ⊢;omega
      have sf0:w.heap.size<w3.heap.size:=s0
      have sf1:w1.heap.size<w3.heap.size:=s1
      have sW0:w.heap.size<((w4.setCell ⟨w3.heap.size,0,none⟩ (.int .i64 q)).setCell ⟨w3.heap.size,1,none⟩ (.string (bs (b.drop 4)))).heap.size:=by simp at s4 ⊢;omega
      have sW1:w1.heap.size<((w4.setCell ⟨w3.heap.size,0,none⟩ (.int .i64 q)).setCell ⟨w3.heap.size,1,none⟩ (.string (bs (b.drop 4)))).heap.size:=by simp at s4 ⊢;omega
      have B4:=bset (bset (bthen (bdrew (balloc B3 (.cells #[.int .i64 0,.string ⟨#[]⟩] 81))) hb4) (p:=⟨w3.heap.size,0,none⟩) (Nat.le_of_lt s0) (.int .i64 q)) (p:=⟨w3.heap.size,1,none⟩) (Nat.le_of_lt s0) (.string (bs (b.drop 4)))
      generalize ((w4.setCell ⟨w3.heap.size,0,none⟩ (.int .i64 q)).setCell ⟨w3.heap.size,1,none⟩ (.string (bs (b.drop 4))))=W at *
      clear hc4 hf4 hb4 qq s4 s24 c0 c1 k0 k1 z0
      generalize w3.heap.size=F at *
      go_wp2_with (go_at_call 134;refine(hK _).use.mono ?_;rintro e w5 ⟨rfl,hb5⟩;obtain⟨hc5,hf5⟩:=bcell hb5)
      first|go_region|skip
      all_goals go_wp2
      refine bodyPost_ret (v := .agg #[.int .i64 q,.string (bs (b.drop 4)),.int .i64 z,.int .i64 0]) (by simp[results,Tryz.results76,go_sem,hc5,r0,sW0]) rfl ⟨by rw[HR.out];rfl,?_⟩
      exact bwF
    ·rw[if_neg hq] at HG
     rw[show frameOk q (b.drop 4)=false by simpa using hq] at hK
     have HR:=hY HG
     clear HG hs
     go_enter Tryz.func76,Tryz.ntmps76
     go_wp2_with (first
      | (go_at_call 131;refine(hN _).use.mono ?_;rintro e w1 ⟨rfl,hb1⟩;obtain⟨hc1,hf1,hs1⟩:=bcell1 hb1)
      | ((go_at_call 132;refine(hU _).use.mono ?_;rintro e w2 ⟨rfl,hb2⟩;obtain⟨hc2,hf2,hs2⟩:=bcell1 hb2);have hs02:=Nat.lt_trans hs1 hs2;have k:=kept2 hb2 hs1))
     have e0:(w2.alloc (.cells #[.string (bs b),.int .i64 0,.int .i64 0] 164)).cell? ⟨w2.heap.size,0,none⟩=some (.string (bs b)):=by simp[World.cell?_alloc_new]
     have s3:w2.heap.size<(w2.alloc (.cells #[.string (bs b),.int .i64 0,.int .i64 0] 164)).heap.size:=by simp
     have B3:=bthen (bthen (bnew _ _) hb1) (bthen (bnew _ _) hb2)
     have B3:=balloc B3 (.cells #[.string (bs b),.int .i64 0,.int .i64 0] 164)
     have k0:∀i,(w2.alloc (.cells #[.string (bs b),.int .i64 0,.int .i64 0] 164)).cell? ⟨w.heap.size,i,none⟩=(#[Value.int .i64 0,.string ⟨#[]⟩,.int .i64 0,.int .i64 0]:Array Value)[i]?:=fun i=>by simp[go_sem,hs02,k,hc1]
     have k1:∀i,(w2.alloc (.cells #[.string (bs b),.int .i64 0,.int .i64 0] 164)).cell? ⟨w1.heap.size,i,none⟩=(#[Value.string (bs t),.int .i64 z,.int .i64 0]:Array Value)[i]?:=fun i=>by simp[go_sem,hs2,hc2]
     have z0:∀i,(w2.alloc (.cells #[.string (bs b),.int .i64 0,.int .i64 0] 164)).frozen? ⟨w.heap.size,i,none⟩=false:=fun i=>by simp[go_sem,hs02,hs1,Nat.le_of_lt hs1,hf2,hf1]
     generalize w2.alloc (.cells #[.string (bs b),.int .i64 0,.int .i64 0] 164)=w3 at *
     clear hc1 hf1 hc2 hf2 k hb1 hb2
     have s0:w.heap.size<w3.heap.size:=Nat.lt_trans hs02 s3
     have s1:w1.heap.size<w3.heap.size:=Nat.lt_trans hs2 s3
     go_region_held3 (fun w'=>w'.cell? ⟨w2.heap.size,0,none⟩=some (.string (bs b))) (first|exact qq|exact e0|exact(World.cell?_alloc_some _ _ _ (by rw[qq];rfl)).trans qq|exact set2 (set2 qq (by exact Nat.ne_of_gt s3) _) (by exact Nat.ne_of_gt s3) _|exact set2 (set2 ((World.cell?_alloc_some _ _ _ (by rw[qq];rfl)).trans qq) (by exact Nat.ne_of_gt s24) _) (by exact Nat.ne_of_gt s24) _|(simp[go_sem,e0,s3])|(trace_state;fail)) (first|(go_at_call 133;refine(hF _).use.mono ?_;rintro e w4 ⟨rfl,hb4⟩;obtain⟨hc4,hf4⟩:=bcell hb4;have s4:=hb4.size;have s24:w2.heap.size<w4.heap.size:=(by simp at s4;omega);have qq:w4.cell? ⟨w2.heap.size,0,none⟩=some (.string (bs b)):=(by rw[(bcell hb4).1 _ _ (by simp;omega)];simp[go_sem,e0,s3])))
     ·have r0:∀i,(w4.alloc (.cells #[.int .i64 q,.string (bs (b.drop 4))] 81)).cell? ⟨w.heap.size,i,none⟩=(#[Value.int .i64 0,.string ⟨#[]⟩,.int .i64 0,.int .i64 0]:Array Value)[i]?:=fun i=>by
       rw[World.cell?_alloc_past (hn:=by simp at s4;omega),hc4 _ _ (by simp;omega),←k0 i];rfl
      have r1:∀i,(w4.alloc (.cells #[.int .i64 q,.string (bs (b.drop 4))] 81)).cell? ⟨w1.heap.size,i,none⟩=(#[Value.string (bs t),.int .i64 z,.int .i64 0]:Array Value)[i]?:=fun i=>by
       rw[World.cell?_alloc_past (hn:=by simp at s4;omega),hc4 _ _ (by simp;omega),←k1 i];rfl
      have y0:∀i,(w4.alloc (.cells #[.int .i64 q,.string (bs (b.drop 4))] 81)).frozen? ⟨w.heap.size,i,none⟩=false:=fun i=>by
       rw[World.frozen?_alloc_old (h:=by simp at s4 ⊢;omega),hf4 _ _ (by simp;omega),←z0 i];rfl
      have f0:(w4.alloc (.cells #[.int .i64 q,.string (bs (b.drop 4))] 81)).cell? ⟨w4.heap.size,0,none⟩=some (.int .i64 q):=by simp[World.cell?_alloc_new]
      have f1:(w4.alloc (.cells #[.int .i64 q,.string (bs (b.drop 4))] 81)).cell? ⟨w4.heap.size,1,none⟩=some (.string (bs (b.drop 4))):=by simp[World.cell?_alloc_new]
      have sF:w4.heap.size<(w4.alloc (.cells #[.int .i64 q,.string (bs (b.drop 4))] 81)).heap.size:=by simp
      have sf0:w.heap.size<w4.heap.size:=by simp at s4;omega
      have sf1:w1.heap.size<w4.heap.size:=by simp at s4;omega
      have sW0:w.heap.size<(w4.alloc (.cells #[.int .i64 q,.string (bs (b.drop 4))] 81)).heap.size:=by simp at s4 ⊢;omega
      have sW1:w1.heap.size<(w4.alloc (.cells #[.int .i64 q,.string (bs (b.drop 4))] 81)).heap.size:=by simp at s4 ⊢;omega
      have B4:=balloc (bthen (bdrew B3) hb4) (.cells #[.int .i64 q,.string (bs (b.drop 4))] 81)
      generalize w4.alloc (.cells #[.int .i64 q,.string (bs (b.drop 4))] 81)=W at *
      clear hc4 hf4 hb4 qq s4 s24
      generalize w4.heap.size=F at *
      go_wp2_with (go_at_call 134;refine(hK _).use.mono ?_;rintro e w5 ⟨rfl,hb5⟩;obtain⟨hc5,hf5⟩:=bcell hb5)
      refine bodyPost_ret (v := .agg #[.int .i64 0,.string ⟨#[]⟩,.int .i64 0,.int .i64 3]) (by simp[results,Tryz.results76,go_sem,hc5,r0,sW0]) rfl ⟨by rw[HR.out];rfl,?_⟩
      exact bwF
     ·have c0:w4.cell? ⟨w3.heap.size,0,none⟩=some (.int .i64 0):=by rw[hc4 _ _ (by simp)];simp[go_sem]
      have c1:w4.cell? ⟨w3.heap.size,1,none⟩=some (.string ⟨#[]⟩):=by rw[hc4 _ _ (by simp)];simp[go_sem]
      have r0:∀i,((w4.setCell ⟨w3.heap.size,0,none⟩ (.int .i64 q)).setCell ⟨w3.heap.size,1,none⟩ (.string (bs (b.drop 4)))).cell? ⟨w.heap.size,i,none⟩=(#[Value.int .i64 0,.string ⟨#[]⟩,.int .i64 0,.int .i64 0]:Array Value)[i]?:=fun i=>by
       rw[ncell2 s0,hc4 _ _ (by simp;omega),←k0 i];simp[go_sem,s0]
      have r1:∀i,((w4.setCell ⟨w3.heap.size,0,none⟩ (.int .i64 q)).setCell ⟨w3.heap.size,1,none⟩ (.string (bs (b.drop 4)))).cell? ⟨w1.heap.size,i,none⟩=(#[Value.string (bs t),.int .i64 z,.int .i64 0]:Array Value)[i]?:=fun i=>by
       rw[ncell2 s1,hc4 _ _ (by simp;omega),←k1 i];simp[go_sem,s1]
      have y0:∀i,((w4.setCell ⟨w3.heap.size,0,none⟩ (.int .i64 q)).setCell ⟨w3.heap.size,1,none⟩ (.string (bs (b.drop 4)))).frozen? ⟨w.heap.size,i,none⟩=false:=fun i=>by
       have h:w4.frozen? ⟨w.heap.size,i,none⟩=false:=by rw[hf4 _ _ (by simp;omega),←z0 i];simp[go_sem,s0]
       simpa [go_sem] using h
      have f0:((w4.setCell ⟨w3.heap.size,0,none⟩ (.int .i64 q)).setCell ⟨w3.heap.size,1,none⟩ (.string (bs (b.drop 4)))).cell? ⟨w3.heap.size,0,none⟩=some (.int .i64 q):=(scell2 c0 c1).1
      have f1:((w4.setCell ⟨w3.heap.size,0,none⟩ (.int .i64 q)).setCell ⟨w3.heap.size,1,none⟩ (.string (bs (b.drop 4)))).cell? ⟨w3.heap.size,1,none⟩=some (.string (bs (b.drop 4))):=(scell2 c0 c1).2
      have sF:w3.heap.size<((w4.setCell ⟨w3.heap.size,0,none⟩ (.int .i64 q)).setCell ⟨w3.heap.size,1,none⟩ (.string (bs (b.drop 4)))).heap.size:=by simp at s4 ⊢;omega
      have sf0:w.heap.size<w3.heap.size:=s0
      have sf1:w1.heap.size<w3.heap.size:=s1
      have sW0:w.heap.size<((w4.setCell ⟨w3.heap.size,0,none⟩ (.int .i64 q)).setCell ⟨w3.heap.size,1,none⟩ (.string (bs (b.drop 4)))).heap.size:=by simp at s4 ⊢;omega
      have sW1:w1.heap.size<((w4.setCell ⟨w3.heap.size,0,none⟩ (.int .i64 q)).setCell ⟨w3.heap.size,1,none⟩ (.string (bs (b.drop 4)))).heap.size:=by simp at s4 ⊢;omega
      have B4:=bset (bset (bthen (bdrew (balloc B3 (.cells #[.int .i64 0,.string ⟨#[]⟩] 81))) hb4) (p:=⟨w3.heap.size,0,none⟩) (Nat.le_of_lt s0) (.int .i64 q)) (p:=⟨w3.heap.size,1,none⟩) (Nat.le_of_lt s0) (.string (bs (b.drop 4)))
      generalize ((w4.setCell ⟨w3.heap.size,0,none⟩ (.int .i64 q)).setCell ⟨w3.heap.size,1,none⟩ (.string (bs (b.drop 4))))=W at *
      clear hc4 hf4 hb4 qq s4 s24 c0 c1 k0 k1 z0
      generalize w3.heap.size=F at *
      go_wp2_with (go_at_call 134;refine(hK _).use.mono ?_;rintro e w5 ⟨rfl,hb5⟩;obtain⟨hc5,hf5⟩:=bcell hb5)
      refine bodyPost_ret (v := .agg #[.int .i64 0,.string ⟨#[]⟩,.int .i64 0,.int .i64 3]) (by simp[results,Tryz.results76,go_sem,hc5,r0,sW0]) rfl ⟨by rw[HR.out];rfl,?_⟩
      exact bwF
end Go.Proofs.YtcabgibdkmgdlaaGreat
namespace Go.Proofs.YtcabgibdkmgdlaaGreat
open Go.RowKit M
theorem frameRead_s(s:ByteArray)(a:Int)(ha:a≤9223372036854775807)(hs:s.size≤maxLen)(w:World):
  Gives Tryz.prog 53 #[.string s,.int .i64 a] w (encFO (frameRead s.data.toList a)):=by
 unfold Gives
 have hr:=getText_range s.data.toList a
 have hN:∀w,Gives Tryz.prog 103 #[.string s,.int .i64 a] w _:=getText_s s a ha hs
 have HG:=frameRead_eq s.data.toList a
 generalize getText s.data.toList a=x at *
 obtain⟨t,z,c⟩:=x
 dsimp only at hr HG
 unfold encTO at hN
 dsimp only at hN
 rcases hr with ⟨rfl,rfl,hc⟩|⟨rfl,hl,h0,h1,h2,h3⟩
 ·have hc':(c==0)=false:=by simp;omega
  have HR:Hid (frameRead s.data.toList a=(0,[],0,c)):=by rw[HG];unfold frameOf;rw[if_pos (show c≠0 by omega)];exact hY rfl
  clear HG hs
  go_enter Tryz.func53,Tryz.ntmps53
  go_wp2_with (go_at_call 103;refine(hN _).use.mono ?_;rintro e w1 ⟨rfl,hb1⟩;obtain⟨hc1,hf1,hs1⟩:=bcell1 hb1)
  refine bodyPost_ret (v := .agg #[.int .i64 0,.string ⟨#[]⟩,.int .i64 0,.int .i64 c]) (by simp[results,Tryz.results53,go_sem,hc1,hs1]) rfl ⟨by rw[HR.out];rfl,?_⟩
  exact bwF
 ·have hr2:=unseal_range t
  have hU:∀w,Gives Tryz.prog 104 #[.string (bs t)] w _:=unseal_s (bs t) (by rw[size_bs];unfold maxLen;omega)
  rw[data_bs] at hU
  generalize unseal_ t=y at *
  obtain⟨b,z2,c2⟩:=y
  dsimp only at hr2
  unfold encTO at hU
  dsimp only at hU
  rcases hr2 with ⟨rfl,rfl,hc⟩|⟨rfl,rfl,hl2,hb⟩
  ·have hc':(c2==0)=false:=by simp;omega
   have HR:Hid (frameRead s.data.toList a=(0,[],0,c2)):=by rw[HG];unfold frameOf;rw[if_neg (by simp),if_pos (show c2≠0 by omega)];exact hY rfl
   clear HG hs
   go_enter Tryz.func53,Tryz.ntmps53
   go_wp2_with (first
    | (go_at_call 103;refine(hN _).use.mono ?_;rintro e w1 ⟨rfl,hb1⟩;obtain⟨hc1,hf1,hs1⟩:=bcell1 hb1)
    | ((go_at_call 104;refine(hU _).use.mono ?_;rintro e w2 ⟨rfl,hb2⟩;obtain⟨hc2,hf2,hs2⟩:=bcell1 hb2);have hs02:=Nat.lt_trans hs1 hs2;have k:=kept2 hb2 hs1))
   refine bodyPost_ret (v := .agg #[.int .i64 0,.string ⟨#[]⟩,.int .i64 0,.int .i64 c2]) (by simp[results,Tryz.results53,go_sem,hc1,k,hs1,hs02]) rfl ⟨by rw[HR.out];rfl,?_⟩
   exact bwF
  ·unfold frameOf at HG
   rw[if_neg (by simp),if_neg (by simp)] at HG
   dsimp only at HG
   by_cases h4:b.length<4
   ·rw[if_pos h4] at HG
    have HR:=hY HG
    have h4':(b.length:Int)<4:=by omega
    clear HG hs
    go_enter Tryz.func53,Tryz.ntmps53
    go_wp2_with (first
     | (go_at_call 103;refine(hN _).use.mono ?_;rintro e w1 ⟨rfl,hb1⟩;obtain⟨hc1,hf1,hs1⟩:=bcell1 hb1)
     | ((go_at_call 104;refine(hU _).use.mono ?_;rintro e w2 ⟨rfl,hb2⟩;obtain⟨hc2,hf2,hs2⟩:=bcell1 hb2);have hs02:=Nat.lt_trans hs1 hs2;have k:=kept2 hb2 hs1))
    refine bodyPost_ret (v := .agg #[.int .i64 0,.string ⟨#[]⟩,.int .i64 0,.int .i64 3]) (by simp[results,Tryz.results53,go_sem,hc1,k,hs1,hs02]) rfl ⟨by rw[HR.out];rfl,?_⟩
    exact bwF
   ·rw[if_neg h4] at HG
    have h4':¬(b.length:Int)<4:=by omega
    have h4'':4≤(bs b).size:=by rw[size_bs];omega
    have hx2:(bs b).extract 4 b.length=bs (b.drop 4):=by rw[extract_bs,List.take_of_length_le (by rw[List.length_drop,data_bs];omega),data_bs]
    have hK:∀w,Gives Tryz.prog 105 #[.agg #[.int .i64 (ofFour b),.string (bs (b.drop 4))]] w (.bool (frameOk (ofFour b) (b.drop 4))):=frameRight_s _ (bs (b.drop 4))
    have hq4:=ofFour_get (bs b) h4''
    rw[data_bs] at hq4
    have b0:(bs b)[0].toNat<256:=(bs b)[0].toNat_lt
    have b1:(bs b)[1].toNat<256:=(bs b)[1].toNat_lt
    have b2:(bs b)[2].toNat<256:=(bs b)[2].toNat_lt
    have b3:(bs b)[3].toNat<256:=(bs b)[3].toNat_lt
    have i3:(3:Int)<(bs b).size:=by omega
    have i2:(2:Int)<(bs b).size:=by omega
    have i1:(1:Int)<(bs b).size:=by omega
    have j0:0<(bs b).size:=by omega
    have l3:(3:Int)<b.length:=by omega
    have l2:(2:Int)<b.length:=by omega
    have l1:(1:Int)<b.length:=by omega
    have l0:0<b.length:=by omega
    by_cases hq:frameOk (ofFour b) (b.drop 4)=true
    ·rw[if_pos hq] at HG
     rw[hq] at hK
     have HR:=hY HG
     have hq4':=hY hq4
     clear HG hs hq4
     go_enter Tryz.func53,Tryz.ntmps53
     go_wp2_with (first
      | (go_at_call 103;refine(hN _).use.mono ?_;rintro e w1 ⟨rfl,hb1⟩;obtain⟨hc1,hf1,hs1⟩:=bcell1 hb1)
      | ((go_at_call 104;refine(hU _).use.mono ?_;rintro e w2 ⟨rfl,hb2⟩;obtain⟨hc2,hf2,hs2⟩:=bcell1 hb2);have hs02:=Nat.lt_trans hs1 hs2;have k:=kept2 hb2 hs1))
     have e0:(w2.alloc (.cells #[.string (bs b),.int .i64 0,.int .i64 0] 164)).cell? ⟨w2.heap.size,0,none⟩=some (.string (bs b)):=by simp[World.cell?_alloc_new]
     have s3:w2.heap.size<(w2.alloc (.cells #[.string (bs b),.int .i64 0,.int .i64 0] 164)).heap.size:=by simp
     have B3:=bthen (bthen (bnew _ _) hb1) (bthen (bnew _ _) hb2)
     have B3:=balloc B3 (.cells #[.string (bs b),.int .i64 0,.int .i64 0] 164)
     have k0:∀i,(w2.alloc (.cells #[.string (bs b),.int .i64 0,.int .i64 0] 164)).cell? ⟨w.heap.size,i,none⟩=(#[Value.int .i64 0,.string ⟨#[]⟩,.int .i64 0,.int .i64 0]:Array Value)[i]?:=fun i=>by simp[go_sem,hs02,k,hc1]
     have k1:∀i,(w2.alloc (.cells #[.string (bs b),.int .i64 0,.int .i64 0] 164)).cell? ⟨w1.heap.size,i,none⟩=(#[Value.string (bs t),.int .i64 z,.int .i64 0]:Array Value)[i]?:=fun i=>by simp[go_sem,hs2,hc2]
     have z0:∀i,(w2.alloc (.cells #[.string (bs b),.int .i64 0,.int .i64 0] 164)).frozen? ⟨w.heap.size,i,none⟩=false:=fun i=>by simp[go_sem,hs02,hs1,Nat.le_of_lt hs1,hf2,hf1]
     generalize w2.alloc (.cells #[.string (bs b),.int .i64 0,.int .i64 0] 164)=w3 at *
     clear hc1 hf1 hc2 hf2 k hb1 hb2
     have s0:w.heap.size<w3.heap.size:=Nat.lt_trans hs02 s3
     have s1:w1.heap.size<w3.heap.size:=Nat.lt_trans hs2 s3
     go_loopw [7,8] (fun n i wr=>((i = .int .i64 (3)∧n = .int .i64 (0))∨(i = .int .i64 (2)∧n = .int .i64 (((bs b)[3].toNat:Int)))∨(i = .int .i64 (1)∧n = .int .i64 (((bs b)[3].toNat:Int)*256+((bs b)[2].toNat:Int)))∨(i = .int .i64 (0)∧n = .int .i64 ((((bs b)[3].toNat:Int)*256+((bs b)[2].toNat:Int))*256+((bs b)[1].toNat:Int)))∨(i = .int .i64 (-1)∧n = .int .i64 (((((bs b)[3].toNat:Int)*256+((bs b)[2].toNat:Int))*256+((bs b)[1].toNat:Int))*256+((bs b)[0].toNat:Int))))∧wr=w3) (fun _ i _=>(intOf i+1).toNat)
     case atStart=>exact⟨Or.inl ⟨rfl,rfl⟩,rfl⟩
     case round=>
      obtain⟨hh,rfl⟩:=hrel
      rcases hh with ⟨rfl,rfl⟩|⟨rfl,rfl⟩|⟨rfl,rfl⟩|⟨rfl,rfl⟩|⟨rfl,rfl⟩
      ·go_wp2
       exact⟨⟨Or.inr (Or.inl ⟨rfl,by simp⟩),trivial⟩,by simp[intOf]⟩
      ·go_wp2
       exact⟨⟨Or.inr (Or.inr (Or.inl ⟨rfl,rfl⟩)),trivial⟩,by simp[intOf]⟩
      ·go_wp2
       exact⟨⟨Or.inr (Or.inr (Or.inr (Or.inl ⟨rfl,rfl⟩))),trivial⟩,by simp[intOf]⟩
      ·go_wp2
       exact⟨⟨Or.inr (Or.inr (Or.inr (Or.inr ⟨rfl,rfl⟩))),trivial⟩,by simp[intOf]⟩
      ·have hv:((((bs b)[3].toNat:Int)*256+((bs b)[2].toNat:Int))*256+((bs b)[1].toNat:Int))*256+((bs b)[0].toNat:Int)=ofFour b:=by
        rw[hq4'.out];unfold four4;omega
       rw[hv]
       clear hv hq4'
       go_wp2_with (go_at_call 105;refine(hK _).use.mono ?_;rintro e w5 ⟨rfl,hb5⟩;obtain⟨hc5,hf5⟩:=bcell hb5)
       all_goals(first|go_region|skip)
       all_goals go_wp2
       have kk:∀i,w5.cell? ⟨w.heap.size,i,none⟩=wr.cell? ⟨w.heap.size,i,none⟩:=kept2 hb5 s0
       refine bodyPost_ret (v := .agg #[.int .i64 (ofFour b),.string (bs (b.drop 4)),.int .i64 z,.int .i64 0]) (by simp[results,Tryz.results53,go_sem,kk,k0]) rfl ⟨by rw[HR.out];rfl,?_⟩
       exact bwF
    ·rw[if_neg hq] at HG
     rw[show frameOk (ofFour b) (b.drop 4)=false by simpa using hq] at hK
     have HR:=hY HG
     have hq4':=hY hq4
     clear HG hs hq4
     go_enter Tryz.func53,Tryz.ntmps53
     go_wp2_with (first
      | (go_at_call 103;refine(hN _).use.mono ?_;rintro e w1 ⟨rfl,hb1⟩;obtain⟨hc1,hf1,hs1⟩:=bcell1 hb1)
      | ((go_at_call 104;refine(hU _).use.mono ?_;rintro e w2 ⟨rfl,hb2⟩;obtain⟨hc2,hf2,hs2⟩:=bcell1 hb2);have hs02:=Nat.lt_trans hs1 hs2;have k:=kept2 hb2 hs1))
     have e0:(w2.alloc (.cells #[.string (bs b),.int .i64 0,.int .i64 0] 164)).cell? ⟨w2.heap.size,0,none⟩=some (.string (bs b)):=by simp[World.cell?_alloc_new]
     have s3:w2.heap.size<(w2.alloc (.cells #[.string (bs b),.int .i64 0,.int .i64 0] 164)).heap.size:=by simp
     have B3:=bthen (bthen (bnew _ _) hb1) (bthen (bnew _ _) hb2)
     have B3:=balloc B3 (.cells #[.string (bs b),.int .i64 0,.int .i64 0] 164)
     have k0:∀i,(w2.alloc (.cells #[.string (bs b),.int .i64 0,.int .i64 0] 164)).cell? ⟨w.heap.size,i,none⟩=(#[Value.int .i64 0,.string ⟨#[]⟩,.int .i64 0,.int .i64 0]:Array Value)[i]?:=fun i=>by simp[go_sem,hs02,k,hc1]
     have k1:∀i,(w2.alloc (.cells #[.string (bs b),.int .i64 0,.int .i64 0] 164)).cell? ⟨w1.heap.size,i,none⟩=(#[Value.string (bs t),.int .i64 z,.int .i64 0]:Array Value)[i]?:=fun i=>by simp[go_sem,hs2,hc2]
     have z0:∀i,(w2.alloc (.cells #[.string (bs b),.int .i64 0,.int .i64 0] 164)).frozen? ⟨w.heap.size,i,none⟩=false:=fun i=>by simp[go_sem,hs02,hs1,Nat.le_of_lt hs1,hf2,hf1]
     generalize w2.alloc (.cells #[.string (bs b),.int .i64 0,.int .i64 0] 164)=w3 at *
     clear hc1 hf1 hc2 hf2 k hb1 hb2
     have s0:w.heap.size<w3.heap.size:=Nat.lt_trans hs02 s3
     have s1:w1.heap.size<w3.heap.size:=Nat.lt_trans hs2 s3
     go_loopw [7,8] (fun n i wr=>((i = .int .i64 (3)∧n = .int .i64 (0))∨(i = .int .i64 (2)∧n = .int .i64 (((bs b)[3].toNat:Int)))∨(i = .int .i64 (1)∧n = .int .i64 (((bs b)[3].toNat:Int)*256+((bs b)[2].toNat:Int)))∨(i = .int .i64 (0)∧n = .int .i64 ((((bs b)[3].toNat:Int)*256+((bs b)[2].toNat:Int))*256+((bs b)[1].toNat:Int)))∨(i = .int .i64 (-1)∧n = .int .i64 (((((bs b)[3].toNat:Int)*256+((bs b)[2].toNat:Int))*256+((bs b)[1].toNat:Int))*256+((bs b)[0].toNat:Int))))∧wr=w3) (fun _ i _=>(intOf i+1).toNat)
     case atStart=>exact⟨Or.inl ⟨rfl,rfl⟩,rfl⟩
     case round=>
      obtain⟨hh,rfl⟩:=hrel
      rcases hh with ⟨rfl,rfl⟩|⟨rfl,rfl⟩|⟨rfl,rfl⟩|⟨rfl,rfl⟩|⟨rfl,rfl⟩
      ·go_wp2
       exact⟨⟨Or.inr (Or.inl ⟨rfl,by simp⟩),trivial⟩,by simp[intOf]⟩
      ·go_wp2
       exact⟨⟨Or.inr (Or.inr (Or.inl ⟨rfl,rfl⟩)),trivial⟩,by simp[intOf]⟩
      ·go_wp2
       exact⟨⟨Or.inr (Or.inr (Or.inr (Or.inl ⟨rfl,rfl⟩))),trivial⟩,by simp[intOf]⟩
      ·go_wp2
       exact⟨⟨Or.inr (Or.inr (Or.inr (Or.inr ⟨rfl,rfl⟩))),trivial⟩,by simp[intOf]⟩
      ·have hv:((((bs b)[3].toNat:Int)*256+((bs b)[2].toNat:Int))*256+((bs b)[1].toNat:Int))*256+((bs b)[0].toNat:Int)=ofFour b:=by
        rw[hq4'.out];unfold four4;omega
       rw[hv]
       clear hv hq4'
       go_wp2_with (go_at_call 105;refine(hK _).use.mono ?_;rintro e w5 ⟨rfl,hb5⟩;obtain⟨hc5,hf5⟩:=bcell hb5)
       have kk:∀i,w5.cell? ⟨w.heap.size,i,none⟩=wr.cell? ⟨w.heap.size,i,none⟩:=kept2 hb5 s0
       refine bodyPost_ret (v := .agg #[.int .i64 0,.string ⟨#[]⟩,.int .i64 0,.int .i64 3]) (by simp[results,Tryz.results53,go_sem,kk,k0]) rfl ⟨by rw[HR.out];rfl,?_⟩
       exact bwF
end Go.Proofs.YtcabgibdkmgdlaaGreat
namespace Go.Proofs.YtcabgibdkmgdlaaGreat
open Go.RowKit M
end Go.Proofs.YtcabgibdkmgdlaaGreat
namespace Go.Proofs.YtcabgibdkmgdlaaGreat
open Go.RowKit M
theorem own_far{w:World}{base e s n:Nat}{v:Value}{xs:List Value}(h:w.ownsRow base e s v n xs){b j:Nat}(hb:v.ownBlock≠some b)(u:Value):(w.setCell ⟨b,j,none⟩ u).ownsRow base e s v n xs:=
 h.kept (grown_set (World.grownBy.refl w _) u) (.inr hb)
