import Derived.Test.YtcabgibdkmgdlaaGreatJ1
set_option linter.unusedSimpArgs false
set_option linter.unusedVariables false
set_option maxRecDepth 100000
set_option maxHeartbeats 1000000
namespace Go.Proofs.YtcabgibdkmgdlaaGreat
open Go.RowKit M
theorem nameOk_len{t:Bs}(h:¬(1≤t.length∧t.length≤20)):nameOk t=false:=by
 unfold nameOk;simp;omega
theorem nameOk_first{t:Bs}{b:UInt8}(h0:t[0]? = some b)(hb:small b=false):nameOk t=false:=by
 unfold nameOk;rw[h0];simp[hb]
theorem nameOk_mid{t:Bs}{b:UInt8}(h1:1≤t.length)(h2:t.length≤20)(h0:t[0]? = some b)(hb:small b=true):nameOk t=t.all inName:=by
 unfold nameOk;rw[h0];simp[hb,h1,h2]
theorem inName_false{b:UInt8}(h:inName b=false):((b.toNat:Int)<97∨97≤(b.toNat:Int)∧122<(b.toNat:Int))∧((b.toNat:Int)<48∨48≤(b.toNat:Int)∧57<(b.toNat:Int))∧((b.toNat:Int)==95)=false:=by
 unfold inName small at h
 simp at h ⊢
 omega
theorem inName_true{b:UInt8}(h:inName b=true):(97≤(b.toNat:Int)∧(b.toNat:Int)≤122)∨((b.toNat:Int)<97∧48≤(b.toNat:Int)∧(b.toNat:Int)≤57)∨((b.toNat:Int)=95):=by
 unfold inName small at h
 simp at h
 omega
theorem all_bad{t:Bs}{k:Nat}(h:k<t.length)(hb:inName t[k]=false):t.all inName=false:=by
 rw[List.all_eq_false];exact⟨t[k],List.getElem_mem h,by simp[hb]⟩
theorem take_snoc{t:Bs}{k:Nat}(h:k<t.length)(hk:(t.take k).all inName=true)(hb:inName t[k]=true):(t.take (k+1)).all inName=true:=by
 rw[List.take_add_one,List.getElem?_eq_getElem h,List.all_append,hk];simp[hb]
theorem nameRight_i(s:ByteArray)(hs:s.size≤maxLen)(w:World):Gives Tryz.prog 275 #[.string s] w (.bool (nameOk s.data.toList)):=by
 unfold Gives
 unfold maxLen at hs
 have hsz:=size_data s
 by_cases hl:1≤s.size∧s.size≤20
 ·have j0:0<s.size:=by omega
  have h0:s.data.toList[0]? = some s[0]:=List.getElem?_eq_getElem (by omega)
  have l1:¬(s.size:Int)<1:=by omega
  have l2:¬(20:Int)<s.size:=by omega
  have i0:(0:Int)<s.size:=by omega
  by_cases hb:small s[0]=true
  ·have HR:=hY (nameOk_mid (by omega) (by omega) h0 hb)
   have hb':(97:Int)≤s[0].toNat∧(s[0].toNat:Int)≤122:=by unfold small at hb;simp at hb;omega
   obtain⟨p1,p2⟩:=hb'
   have p1':¬(s[0].toNat:Int)<97:=by omega
   have p2':¬(122:Int)<s[0].toNat:=by omega
   have hsz':=hY hsz
   clear hb h0 hsz
   go_enter Tryz.func275,Tryz.ntmps275
   go_wp2
   go_loopw [25] (fun i wr=>∃k:Nat,k≤s.size∧i = .int .i64 k∧Hid ((s.data.toList.take k).all inName=true)∧wr=w) (fun i _=>s.size-(intOf i).toNat)
   case atStart=>exact⟨0,by omega,rfl,hY rfl,rfl⟩
   case round=>
    obtain⟨k,hk,rfl,HA,rfl⟩:=hrel
    by_cases hkl:k<s.size
    ·have i1:(k:Int)<s.size:=by omega
     have hbyte:s.data.toList[k]'(by rw[hsz'.out];exact hkl)=s[k]:=rfl
     cases hin:inName s[k]
     ·have HF:Hid (nameOk s.data.toList=false):=by rw[HR.out];exact hY (all_bad (by rw[hsz'.out];exact hkl) (by rw[hbyte];exact hin))
      obtain⟨c1,c2,c3⟩:=inName_false hin
      clear hin hbyte HR
      generalize hq:s[k]=b at *
      rcases c1 with c1|⟨c1,c1'⟩
      all_goals rcases c2 with c2|⟨c2,c2'⟩
      all_goals go_wp2
      all_goals first|(go_ret;exact⟨by rw[HF.out];rfl,by exact bwF⟩)|(exfalso;rename_i hz;simp at hz;omega)
     ·have HA':Hid ((s.data.toList.take (k+1)).all inName=true):=hY (take_snoc (by rw[hsz'.out];exact hkl) HA.out (by rw[hbyte];exact hin))
      have c:=inName_true hin
      clear hin hbyte HR HA
      generalize hq:s[k]=b at *
      rcases c with ⟨c,c'⟩|⟨c0,c,c'⟩|c
      ·go_wp2
       exact⟨⟨k+1,by omega,by go_num,HA',trivial⟩,by simp[intOf];omega⟩
      ·go_wp2
       exact⟨⟨k+1,by omega,by go_num,HA',trivial⟩,by simp[intOf];omega⟩
      ·go_wp2
       exact⟨⟨k+1,by omega,by go_num,HA',trivial⟩,by simp[intOf];omega⟩
    ·obtain rfl:k=s.size:=by omega
     have HT:Hid (nameOk s.data.toList=true):=by
      have h:=HA.out
      rw[List.take_of_length_le (by rw[hsz'.out];omega)] at h
      rw[HR.out,h];exact hY rfl
     clear HA HR
     go_wp2
     go_ret
     exact⟨by rw[HT.out];rfl,by exact bwF⟩
  ·have HR:=hY (nameOk_first h0 (by simpa using hb))
   have hb':(s[0].toNat:Int)<97∨(122:Int)<s[0].toNat:=by unfold small at hb;simp at hb;omega
   clear hb h0 hsz
   rcases hb' with p|p
   ·go_enter Tryz.func275,Tryz.ntmps275
    go_wp2
    go_ret
    exact⟨by rw[HR.out];rfl,by exact bwF⟩
   ·have p':¬(s[0].toNat:Int)<97:=by omega
    go_enter Tryz.func275,Tryz.ntmps275
    go_wp2
    go_ret
    exact⟨by rw[HR.out];rfl,by exact bwF⟩
 ·have HR:=hY (nameOk_len (t:=s.data.toList) (by omega))
  clear hsz
  by_cases l1:(s.size:Int)<1
  ·go_enter Tryz.func275,Tryz.ntmps275
   go_wp2
   go_ret
   exact⟨by rw[HR.out];rfl,by exact bwF⟩
  ·have l2:(20:Int)<s.size:=by omega
   go_enter Tryz.func275,Tryz.ntmps275
   go_wp2
   go_ret
   exact⟨by rw[HR.out];rfl,by exact bwF⟩
end Go.Proofs.YtcabgibdkmgdlaaGreat
namespace Go.Proofs.YtcabgibdkmgdlaaGreat
open Go.RowKit M
theorem small_false{b:UInt8}(h:small b=false):((b.toNat:Int)<97∨97≤(b.toNat:Int)∧122<(b.toNat:Int)):=by
 unfold small at h
 simp at h
 omega
theorem small_true{b:UInt8}(h:small b=true):(97≤(b.toNat:Int)∧(b.toNat:Int)≤122)∧inName b=true:=by
 refine⟨?_,by unfold inName;rw[h];rfl⟩
 unfold small at h
 simp at h
 omega
theorem nameRight_s(s:ByteArray)(hs:s.size≤maxLen)(w:World):Gives Tryz.prog 251 #[.string s] w (.bool (nameOk s.data.toList)):=by
 unfold Gives
 unfold maxLen at hs
 have hsz:=size_data s
 by_cases hl:1≤s.size∧s.size≤20
 ·have j0:0<s.size:=by omega
  have h0:s.data.toList[0]? = some s[0]:=List.getElem?_eq_getElem (by omega)
  have l1:¬(s.size:Int)<1:=by omega
  have l2:¬(20:Int)<s.size:=by omega
  have i0:(0:Int)<s.size:=by omega
  have hsz':=hY hsz
  have h0':=hY h0
  clear h0 hsz
  go_enter Tryz.func251,Tryz.ntmps251
  go_wp2
  go_loopw [3] (fun i wr=>∃k:Nat,k≤s.size∧i = .int .i64 k∧Hid ((s.data.toList.take k).all inName=true)∧Hid (0<k→small s[0]=true)∧wr=w) (fun i _=>s.size-(intOf i).toNat)
  case atStart=>exact⟨0,by omega,rfl,hY rfl,hY (fun h=>absurd h (by omega)),rfl⟩
  case round=>
   obtain⟨k,hk,rfl,HA,HS,rfl⟩:=hrel
   by_cases hkl:k<s.size
   ·have i1:(k:Int)<s.size:=by omega
    by_cases hk0:k=0
    ·subst hk0
     by_cases hb:small s[0]=true
     rotate_left
     ·have hb':small s[0]=false:=by simpa using hb
      have HF:Hid (nameOk s.data.toList=false):=hY (nameOk_first h0'.out hb')
      have c1:=small_false hb'
      clear HA HS hb hb' h0'
      generalize hq:s[0]=b at *
      rcases c1 with c1|⟨c1,c1'⟩
      all_goals go_wp2
      all_goals first|(go_ret;exact⟨by rw[HF.out];rfl,by exact bwF⟩)|(exfalso;rename_i hz;simp at hz;omega)
     ·obtain ⟨⟨c,c'⟩,hin⟩:=small_true hb
      have HA':Hid ((s.data.toList.take (0+1)).all inName=true):=hY (take_snoc (by rw[hsz'.out];exact hkl) HA.out (by exact hin))
      have HS':Hid (0<1→small s[0]=true):=hY (fun _=>hb)
      clear HA HS hin hb
      go_wp2
      exact⟨⟨1,by omega,by go_num,HA',HS',trivial⟩,by simp[intOf];omega⟩
    ·have hk0':((k:Int)==0)=false:=by simp;omega
     have hb:=HS.out (by omega)
     have HR:=hY (nameOk_mid (by rw[hsz'.out];omega) (by rw[hsz'.out];omega) h0'.out hb)
     have hbyte:s.data.toList[k]'(by rw[hsz'.out];exact hkl)=s[k]:=rfl
     cases hin:inName s[k]
     ·have HF:Hid (nameOk s.data.toList=false):=by rw[HR.out];exact hY (all_bad (by rw[hsz'.out];exact hkl) (by rw[hbyte];exact hin))
      obtain⟨c1,c2,c3⟩:=inName_false hin
      clear hin hbyte HR HA HS hb
      generalize hq:s[k]=b at *
      rcases c1 with c1|⟨c1,c1'⟩
      all_goals rcases c2 with c2|⟨c2,c2'⟩
      all_goals go_wp2
      all_goals first|(go_ret;exact⟨by rw[HF.out];rfl,by exact bwF⟩)|(exfalso;rename_i hz;simp at hz c3;omega)
     ·have HA':Hid ((s.data.toList.take (k+1)).all inName=true):=hY (take_snoc (by rw[hsz'.out];exact hkl) HA.out (by rw[hbyte];exact hin))
      have HS':Hid (0<k+1→small s[0]=true):=hY (fun _=>hb)
      have c:=inName_true hin
      clear hin hbyte HR HA HS hb
      generalize hq:s[k]=b at *
      rcases c with ⟨c,c'⟩|⟨c0,c,c'⟩|c
      ·go_wp2
       exact⟨⟨k+1,by omega,by go_num,HA',HS',trivial⟩,by simp[intOf];omega⟩
      ·go_wp2
       exact⟨⟨k+1,by omega,by go_num,HA',HS',trivial⟩,by simp[intOf];omega⟩
      ·go_wp2
       exact⟨⟨k+1,by omega,by go_num,HA',HS',trivial⟩,by simp[intOf];omega⟩
   ·obtain rfl:k=s.size:=by omega
    have HT:Hid (nameOk s.data.toList=true):=by
     have h:=HA.out
     rw[List.take_of_length_le (by rw[hsz'.out];omega)] at h
     rw[nameOk_mid (by rw[hsz'.out];omega) (by rw[hsz'.out];omega) h0'.out (HS.out j0),h];exact hY rfl
    clear HA HS
    go_wp2
    go_ret
    exact⟨by rw[HT.out];rfl,by exact bwF⟩
 ·have HR:=hY (nameOk_len (t:=s.data.toList) (by omega))
  clear hsz
  by_cases l1:(s.size:Int)<1
  ·go_enter Tryz.func251,Tryz.ntmps251
   go_wp2
   go_ret
   exact⟨by rw[HR.out];rfl,by exact bwF⟩
  ·have l2:(20:Int)<s.size:=by omega
   go_enter Tryz.func251,Tryz.ntmps251
   go_wp2
   go_ret
   exact⟨by rw[HR.out];rfl,by exact bwF⟩
