import Derived.WalkKit
import Derived.Deep.QuietTactic
import Derived.BigQuiet
import Derived.Below
import Derived.Outline
import Derived.WalkLawsBesides
import Derived.WalkSpells
import Derived.Lib.Hide
import Derived.Deep.Draws
import Derived.Lib.Strings
import Derived.Laws.BitsAllLaws
import Derived.Test.YtcabgibdkmgdlaaGreatProg
import Derived.Deep.AppendLies
import Derived.BigRegion
set_option linter.unusedSimpArgs false
set_option linter.unusedVariables false
set_option maxRecDepth 100000
set_option maxHeartbeats 2000000
namespace Go.Proofs.YtcabgibdkmgdlaaGreat
open Go.RowKit
def Gives(P:Program)(f:FuncId)(args:Array Value)(w:World)(v:Value):Prop:=
 Calls P f args w fun e w'=>e = .returned v∧Below w.heap.size w w'
theorem Gives.use{P:Program}{f:FuncId}{args:Array Value}{w:World}{v:Value}(h:Gives P f args w v):
  Calls P f args w fun e w'=>e = .returned v∧Below w.heap.size w w':=h
theorem bcell{W w1:World}(hb:Below W.heap.size W w1):(∀b o,b<W.heap.size→w1.cell? ⟨b,o,none⟩=W.cell? ⟨b,o,none⟩)∧(∀b o,b<W.heap.size→w1.frozen? ⟨b,o,none⟩=W.frozen? ⟨b,o,none⟩):=
 ⟨fun b o h=>hb.cell (p:=⟨b,o,none⟩) h,fun b o h=>hb.frozen (p:=⟨b,o,none⟩) h⟩
theorem bthen{a b c:World}(h:Below a.heap.size a b)(h2:Below b.heap.size b c):Below a.heap.size a c:=h.trans (h2.mono h.size)
theorem bnew(w:World)(o:Obj):Below w.heap.size w (w.alloc o):=(Below.refl _ _).alloc (Nat.le_refl _) o
theorem bset{a b:World}(h:Below a.heap.size a b){p:Addr}(hp:a.heap.size≤p.block)(u:Value):Below a.heap.size a (b.setCell p u):=h.setCell hp u
structure Later (w:World) where
 now:World
 ok:Below w.heap.size w now
instance laterInst (w:World):Nonempty (Later w):=⟨⟨w,Below.refl _ _⟩⟩
theorem wp_region_later{P:Program}{id:Nat}{Q:Exit→Act→World→Prop}{a:Act}{w:World}{l:List Oper}(hm:P.follows .mixedOrders=true)(hB:Region.lexB .any l.toArray=true)
  (h:wpQuiet P l.toArray (fun w'=>∃x:Later w,w'=x.now) (fun a'=>∀w',(∃x:Later w,w'=x.now)→Q .normal a' w') l a):(Code.region id l.toArray true).wp P Q a w:=
 wp_region_quiet (C:=fun w'=>∃x:Later w,w'=x.now) hm hB ⟨⟨w.drew,(Below.refl _ _).drew⟩,rfl⟩ (by simpa using h)
theorem Gives.later{P:Program}{f:FuncId}{args:Array Value}{w:World}{v:Value}(x:Later w)(h:Gives P f args x.now v):
  Calls P f args x.now fun e w'=>e = .returned v ∧ ∃y:Later w,w'=y.now:=
 h.mono fun _ w' ⟨he,hb⟩=>⟨he,⟨w',x.ok.trans (hb.mono x.ok.size)⟩,rfl⟩
theorem bcell1{w w1:World}{o:Obj}(hb:Below (w.alloc o).heap.size (w.alloc o) w1):
  (∀b o',b<(w.alloc o).heap.size→w1.cell? ⟨b,o',none⟩=(w.alloc o).cell? ⟨b,o',none⟩) ∧
  (∀b o',b<(w.alloc o).heap.size→w1.frozen? ⟨b,o',none⟩=(w.alloc o).frozen? ⟨b,o',none⟩)∧w.heap.size<w1.heap.size:=
 ⟨(bcell hb).1,(bcell hb).2,by have:=hb.size;simp at this;omega⟩
theorem lcell{w:World}{b o:Nat}{v:Value}(h:w.cell? ⟨b,o,none⟩=some v)(x:Later w):x.now.cell? ⟨b,o,none⟩=some v:=by
 rw[x.ok.cell (p:=⟨b,o,none⟩) (World.block_lt_of_cell? w _ h)];exact h
theorem undrew'(w:World):Below w.heap.size w w.drew:=(Below.refl _ _).drew
theorem kept2{w1 w2:World}{o:Obj}(hb:Below (w1.alloc o).heap.size (w1.alloc o) w2){n:Nat}(h:n<w1.heap.size)(i:Nat):w2.cell? ⟨n,i,none⟩=w1.cell? ⟨n,i,none⟩:=by
 rw[(bcell hb).1 _ _ (by simp;omega)]
 first|exact World.cell?_alloc_past _ _ _ h|exact World.cell?_alloc_past _ _ _ _ h|exact World.cell?_alloc_lt _ _ _ h
theorem balloc{a b:World}(h:Below a.heap.size a b)(o:Obj):Below a.heap.size a (b.alloc o):=bthen h (bnew _ _)
theorem bdrew{a b:World}(h:Below a.heap.size a b):Below a.heap.size a b.drew:=h.drew
def Rd(w:World)(s:Nat)(v:Value)(n:Nat)(xs:List Value):Prop:=
 xs.length=n*s ∧ ∃A cap,v = .slice A n cap∧n≤cap∧cap≤maxLen ∧
  (0<n → ∃b off,A=some ⟨b,off,none⟩ ∧ ∀j u,xs[j]? = some u→w.cell? ⟨b,off+j,none⟩=some u)
section
variable {w w':World} {s n:Nat} {v:Value} {xs:List Value}
theorem Rd.below{B:Nat}(h:Rd w s v n xs)(hB:w.heap.size≤B)(hb:Below B w w'):Rd w' s v n xs:=by
 obtain⟨hl,A,cap,e,h1,h2,hc⟩:=h
 refine⟨hl,A,cap,e,h1,h2,fun hn=>?_⟩
 obtain⟨b,off,hA,hc⟩:=hc hn
 refine⟨b,off,hA,fun j u hu=>?_⟩
 have:=hc j u hu
 have hlt:b<w.heap.size:=World.block_lt_of_cell? w _ this
 rw[hb.cell (p:=⟨b,off+j,none⟩) (by show b<B;omega)]
 exact this
theorem Rd.later(h:Rd w s v n xs)(hb:Below w.heap.size w w'):Rd w' s v n xs:=h.below (Nat.le_refl _) hb
theorem Rd.nil(w:World)(s:Nat):Rd w s (.slice none 0 0) 0 []:=⟨by simp,none,0,rfl,Nat.le_refl _,Nat.zero_le _,fun h=>absurd h (by omega)⟩
theorem Rd.form(h:Rd w s v n xs):∃A cap,v = .slice A n cap∧n≤cap∧cap≤maxLen ∧
  (0<n → ∃b off,A=some ⟨b,off,none⟩ ∧ ∀j u,xs[j]? = some u→w.cell? ⟨b,off+j,none⟩=some u):=h.2
end
def flat{α:Type}(enc:α→List Value)(l:List α):List Value:=(l.map enc).flatten
theorem flat_length{α:Type}{enc:α→List Value}{s:Nat}(hs:∀a,(enc a).length=s)(l:List α):(flat enc l).length=l.length*s:=by
 induction l with
 | nil=>simp[flat]
 | cons a l ih=>simp[flat] at ih ⊢;rw[hs a];rw[ih,Nat.succ_mul];omega
theorem flat_get{α:Type}{enc:α→List Value}{s:Nat}(hs:∀a,(enc a).length=s):∀(l:List α) (k j:Nat) (a:α),l[k]? = some a→j<s→(flat enc l)[k*s+j]? = (enc a)[j]?
 | [],k,j,a,h,_=>by simp at h
 | b::l,0,j,a,h,hj=>by
  simp at h;subst h
  show (enc b++flat enc l)[0*s+j]? = _
  rw[Nat.zero_mul,Nat.zero_add,List.getElem?_append_left (by rw[hs];exact hj)]
 | b::l,k+1,j,a,h,hj=>by
  show (enc b++flat enc l)[(k+1)*s+j]? = _
  rw[List.getElem?_append_right (by rw[hs,Nat.succ_mul];omega),hs]
  have:(k+1)*s+j-s=k*s+j:=by rw[Nat.succ_mul];omega
  rw[this]
  exact flat_get hs l k j a (by simpa using h) hj
theorem flat_append{α:Type}(enc:α→List Value)(l r:List α):flat enc (l++r)=flat enc l++flat enc r:=by
 simp[flat]
theorem flat_cons{α:Type}(enc:α→List Value)(a:α)(r:List α):flat enc (a::r)=enc a++flat enc r:=by
 simp[flat]
theorem str_beq(a b:ByteArray):(a.toList==b.toList)=decide (a=b):=by
 by_cases h:a=b
 ·subst h;simp
 ·have:a.toList≠b.toList:=fun e=>h (Go.WideShapes.bytes_inj (by rw[←Lib.toList_data,←Lib.toList_data];exact e))
  simp[h,this]
theorem hY{p:Prop}(h:p):Go.RowKit.Hid p:=Lib.hid h
theorem nm{α:Sort _}(a:α):∃b,b=a:=⟨a,rfl⟩
theorem nm2{α:Sort _}(a:α):∃b,a=b:=⟨a,rfl⟩
theorem nlt(i:Nat):¬(i:Int)<i:=by omega
theorem atE{α:Type}{l:List α}{n i:Nat}(hn:Go.RowKit.Hid (n=l.length))(h:i<n):∃x,l[i]? = some x:=⟨l[i]'(by rw[←hn.out];exact h),List.getElem?_eq_getElem (by rw[←hn.out];exact h)⟩
theorem tkl{α:Type}{l:List α}{n:Nat}(hn:Go.RowKit.Hid (n=l.length)):l.take n=l:=List.take_of_length_le (by rw[←hn.out];exact Nat.le_refl _)
theorem drl{α:Type}{l:List α}{n:Nat}(hn:Go.RowKit.Hid (n=l.length)):l.drop n = []:=List.drop_of_length_le (by rw[←hn.out];exact Nat.le_refl _)
theorem bwF{P:Prop}(h:P:=by (repeat(first|(with_reducible refine bset ?_ (by first|(simp;done)|(simp;omega)) _)|(with_reducible refine balloc ?_ _)|(with_reducible refine bdrew ?_)|with_reducible exact Below.refl _ _|(refine bthen ?_ (by with_reducible assumption))|(refine bthen ?_ (by assumption))|exact Below.refl _ _))):P:=h
theorem bkF{P:Prop}(h:P:=by (repeat(first|with_reducible assumption|((with_reducible apply Blk.new');first|rfl|(simp;done))|with_reducible apply Blk.set_|(with_reducible apply Blk.far' (by first|(simp;done)|(simp;omega)))|with_reducible apply Blk.alloc|with_reducible apply Blk.drew))):P:=h
theorem owF{P:Prop}(h:P:=by (repeat(first|with_reducible assumption|(with_reducible refine own_set ?_ (by first|(simp;done)|(simp;omega)) _)|(with_reducible refine own_alloc ?_ _)))):P:=h
end Go.Proofs.YtcabgibdkmgdlaaGreat
namespace Go.Proofs.YtcabgibdkmgdlaaGreat.M
abbrev Bs:=List UInt8
def bs(l:Bs):ByteArray:=⟨l.toArray⟩
theorem bs_data(s:ByteArray):bs s.data.toList=s:=Lib.mk_data s
@[go_sem] theorem data_bs (l:Bs):(bs l).data.toList=l:=rfl
@[go_sem] theorem data_app (a b:ByteArray):(a++b).data.toList=a.data.toList++b.data.toList:=by simp[ByteArray.data_append]
@[go_sem] theorem size_bs (l:Bs):(bs l).size=l.length:=rfl
theorem bs_append(a b:Bs):bs a++bs b=bs (a++b):=by
 apply ByteArray.ext
 simp[bs]
theorem bs_inj{a b:Bs}:bs a=bs b↔a=b:=⟨fun h=>by have:=congrArg (fun x:ByteArray=>x.data.toList) h;simpa [bs] using this,fun h=>by rw[h]⟩
def zig(n:Int):Nat:=if n<0 then (2*(-(n+1))+1).toNat else (2*n).toNat
def putU:Nat→Nat→Bs
 | 0,u=>[UInt8.ofNat u]
 | f+1,u=>if u<128 then [UInt8.ofNat u] else UInt8.ofNat (u%128+128)::putU f (u / 128)
def putNum(n:Int):Bs:=putU 10 (zig n)
theorem putU_lt{f u:Nat}(h:u<128):putU f u = [UInt8.ofNat u]:=by
 cases f <;> simp[putU,h]
theorem putU_ge{f u:Nat}(h:128≤u):putU (f+1) u=UInt8.ofNat (u%128+128)::putU f (u / 128):=by
 simp[putU,Nat.not_lt.2 h]
theorem zig_lt{n:Int}(h : -9223372036854775808≤n∧n≤9223372036854775807):zig n<18446744073709551616:=by
 unfold zig;split <;> omega
theorem putU_length:∀f u,1≤(putU f u).length∧(putU f u).length≤f+1
 | 0,u=>by simp[putU]
 | f+1,u=>by
  unfold putU
  split
  ·simp
  ·have:=putU_length f (u / 128);simp;omega
theorem putNum_length(n:Int):1≤(putNum n).length∧(putNum n).length≤11:=putU_length 10 _
def crcBit(x:Nat):Nat:=if x%2=1 then (x / 2) ^^^ 3988292384 else x / 2
def crcBits:Nat→Nat→Nat
 | 0,x=>x
 | n+1,x=>crcBits n (crcBit x)
def crcByte(x:Nat)(b:UInt8):Nat:=crcBits 8 (x ^^^ b.toNat)
def crcList(x:Nat)(l:Bs):Nat:=l.foldl crcByte x
theorem crcList_snoc(x:Nat)(l:Bs)(b:UInt8):crcList x (l ++ [b])=crcByte (crcList x l) b:=by
 simp[crcList]
theorem crcBits_succ:∀(n x:Nat),crcBits (n+1) x=crcBit (crcBits n x)
 | 0,_=>rfl
 | n+1,x=>by rw[crcBits,crcBits_succ n (crcBit x)];rfl
def crcMore(c:Nat)(l:Bs):Nat:=4294967295-crcList (4294967295-c) l
def four(n:Int):Bs:=[UInt8.ofNat (n%256).toNat,UInt8.ofNat (n / 256%256).toNat,UInt8.ofNat (n / 65536%256).toNat,UInt8.ofNat (n / 16777216%256).toNat]
def crcFour(l:Bs):Bs:=four (crcMore 0 l)
def seal_(l:Bs):Bs:=if l.length≤7996 then l++crcFour l else []
def putText(l:Bs):Bs:=if l.length≤8000 then putNum l.length++l else []
def isTime(n:Int):Bool:=decide (0≤n)&&decide (n≤1000000)
def frameOk(q:Int)(t:Bs):Bool:=isTime q&&decide (t.length≤2980)
def frameBytes(q:Int)(t:Bs):Bs:=if frameOk q t then putText (seal_ (four q++t)) else []
@[go_sem] theorem four_length (n:Int):(four n).length=4:=rfl
@[go_sem] theorem crcFour_length (l:Bs):(crcFour l).length=4:=rfl
theorem seal_length(l:Bs):(seal_ l).length≤l.length+4:=by
 unfold seal_;split <;> simp[crcFour_length]
theorem size_data(s:ByteArray):s.data.toList.length=s.size:=by rw[Array.length_toList];rfl
def unzig(u:Nat):Int:=if u%2=1 then -((u / 2:Nat):Int)-1 else ((u / 2:Nat):Int)
def gnum:Nat→Bs→Nat→Nat→Int × Nat × Int
 | 0,_,_,_=>(0,0,3)
 | _+1,[],_,_=>(0,0,4)
 | f+1,b::l,k,u=>
  if k=9∧1<b.toNat then (0,0,3)
  else if 128≤b.toNat then gnum f l (k+1) (u+b.toNat%128*2 ^ (7*k))
  else if b.toNat=0∧0<k then (0,0,3)
  else (unzig (u+b.toNat%128*2 ^ (7*k)),k+1,0)
def numAt(t:Bs)(a:Nat):Int × Int × Int:=
 if (gnum 10 (t.drop a) 0 0).2.2=0 then ((gnum 10 (t.drop a) 0 0).1,((a+(gnum 10 (t.drop a) 0 0).2.1:Nat):Int),0) else (0,0,(gnum 10 (t.drop a) 0 0).2.2)
def getNum(t:Bs)(a:Int):Int × Int × Int:=
 if 8000<t.length then (0,0,2) else if a<0 then (0,0,1) else numAt t a.toNat
theorem numAt_ok{t:Bs}{a:Nat}{n:Int}{j:Nat}(h:gnum 10 (t.drop a) 0 0=(n,j,0)):numAt t a=(n,((a+j:Nat):Int),0):=by unfold numAt;rw[h];rfl
theorem numAt_bad{t:Bs}{a:Nat}{n:Int}{j:Nat}{c:Int}(h:gnum 10 (t.drop a) 0 0=(n,j,c))(hc:c≠0):numAt t a=(0,0,c):=by unfold numAt;rw[h];simp[hc]
theorem drop_cons_get{t:Bs}{i:Nat}(h:i<t.length):t.drop i=t[i]::t.drop (i+1):=List.drop_eq_getElem_cons h
theorem gnum_end{t:Bs}{i f k u:Nat}(h:t.length≤i):gnum (f+1) (t.drop i) k u=(0,0,4):=by rw[List.drop_eq_nil_of_le h];rfl
theorem gnum_at{t:Bs}{i f k u:Nat}(h:i<t.length):gnum (f+1) (t.drop i) k u =
  if k=9∧1<t[i].toNat then (0,0,3) else if 128≤t[i].toNat then gnum f (t.drop (i+1)) (k+1) (u+t[i].toNat%128*2 ^ (7*k))
  else if t[i].toNat=0∧0<k then (0,0,3) else (unzig (u+t[i].toNat%128*2 ^ (7*k)),k+1,0):=by rw[drop_cons_get h];rfl
theorem pow7{k u b:Nat}(hu:u<2 ^ (7*k))(hb:b<128):u+b*2 ^ (7*k)<2 ^ (7*(k+1)):=by
 have h:(2:Nat) ^ (7*(k+1))=128*2 ^ (7*k):=by rw[show 7*(k+1)=7+7*k by omega,Nat.pow_add]
 have h2:b*2 ^ (7*k)≤127*2 ^ (7*k):=Nat.mul_le_mul_right _ (by omega)
 omega
end Go.Proofs.YtcabgibdkmgdlaaGreat.M
namespace Go.Proofs.YtcabgibdkmgdlaaGreat
open Go.RowKit M
theorem within_i(n lo hi:Int)(w:World):Gives Tryz.prog 71 #[.int .i64 n,.int .i64 lo,.int .i64 hi] w (.bool (decide (lo≤n)&&decide (n≤hi))):=by
 unfold Gives
 go_enter Tryz.func71,Tryz.ntmps71
 go_wp2
 all_goals go_ret
 all_goals refine⟨?_,Below.refl _ _⟩
 all_goals simp[*]
 all_goals omega
theorem is_s(n lo hi:Int)(w:World):Gives Tryz.prog 50 #[.int .i64 n,.int .i64 lo,.int .i64 hi] w (.bool (decide (lo≤n)&&decide (n≤hi))):=by
 unfold Gives
 go_enter Tryz.func50,Tryz.ntmps50
 go_wp2
 all_goals go_ret
 all_goals refine⟨?_,Below.refl _ _⟩
 all_goals simp[*]
 all_goals omega
theorem conv_four(w:World)(n:Int):(convert 204 9 (.slice (some ⟨w.heap.size,0,none⟩) 4 4)).run Tryz.prog (w.alloc (.cells #[.int .u8 (n%256),.int .u8 (n / 256%256),.int .u8 (n / 65536%256),.int .u8 (n / 16777216%256)] 5)) =
  .ok (.string (bs (four n))) (w.alloc (.cells #[.int .u8 (n%256),.int .u8 (n / 256%256),.int .u8 (n / 65536%256),.int .u8 (n / 16777216%256)] 5)):=by
 refine run_convert_bytes_back (P:=Tryz.prog) _ 204 9 5 ⟨w.heap.size,0,none⟩ 4 (four n) Tryz.underlying204 Tryz.underlying5 Tryz.underlying9 ?_
 intro j hj
 have hb:∀m:Int,(((UInt8.ofNat (m%256).toNat).toNat:Nat):Int)=m%256:=fun m=>by
  rw[UInt8.toNat_ofNat'];omega
 have h4:j<4:=hj
 rw[show (⟨w.heap.size,0,none⟩:Addr).add j=⟨w.heap.size,j,none⟩ by unfold Addr.add;split <;> simp_all]
 match j,h4 with
 | 0,_=>simp[World.cell?_alloc_new,four,hb];omega
 | 1,_=>simp[World.cell?_alloc_new,four,hb];omega
 | 2,_=>simp[World.cell?_alloc_new,four,hb];omega
 | 3,_=>simp[World.cell?_alloc_new,four,hb];omega
theorem four_i(n:Int)(w:World):Gives Tryz.prog 137 #[.int .i64 n] w (.string (bs (four n))):=by
 unfold Gives
 have hc:=conv_four w n
 go_enter Tryz.func137,Tryz.ntmps137
 go_wp2
 go_ret
 exact⟨rfl,(Below.refl _ _).alloc (Nat.le_refl _) _⟩
theorem four_s(n:Int)(w:World):Gives Tryz.prog 108 #[.int .i64 n] w (.string (bs (four n))):=by
 unfold Gives
 have hc:=conv_four w n
 go_enter Tryz.func108,Tryz.ntmps108
 go_wp2
 go_ret
 exact⟨rfl,(Below.refl _ _).alloc (Nat.le_refl _) _⟩
theorem crc_and(x:Nat)(h:x<4294967296):bits .and .u32 (x:Int) 1=(x:Int)%2:=by
 have:=u32_and_nat x 1 h (by omega)
 rw[Nat.and_one_is_mod] at this
 rw[show (1:Int)=((1:Nat):Int) from rfl,this];omega
theorem crc_poly(x:Nat)(h:x<4294967296):bits .xor .u32 ((x:Int) / 2) 3988292384=((x / 2 ^^^ 3988292384:Nat):Int):=by
 have:=u32_xor_nat (x / 2) 3988292384 (by omega) (by omega)
 rw[←this];rfl
theorem xor_ones(x:Nat)(h:x<4294967296):4294967295 ^^^ x=4294967295-x:=by
 have h1:(BitVec.allOnes 32 ^^^ BitVec.ofNat 32 x).toNat=(~~~ BitVec.ofNat 32 x).toNat:=by rw[BitVec.allOnes_xor]
 rw[BitVec.toNat_xor,BitVec.toNat_not,BitVec.toNat_allOnes,BitVec.toNat_ofNat,Nat.mod_eq_of_lt h] at h1
 exact h1
theorem crc_not(x:Nat)(h:x<4294967296):bits .xor .u32 IntKind.u32.max (x:Int)=((4294967295-x:Nat):Int):=by
 have:=u32_xor_nat 4294967295 x (by omega) h
 rw[show IntKind.u32.max=((4294967295:Nat):Int) from rfl,this,xor_ones x h]
theorem crc_not'(x:Nat)(h:x<4294967296):bits .xor .u32 (x:Int) 4294967295=((4294967295-x:Nat):Int):=by
 have:=u32_xor_nat x 4294967295 h (by omega)
 rw[show (4294967295:Int)=((4294967295:Nat):Int) from rfl,this,Nat.xor_comm,xor_ones x h]
theorem crc_byte(x:Nat)(h:x<4294967296)(b:UInt8):bits .xor .u32 (x:Int) ((b.toNat:Int)%4294967296)=((x ^^^ b.toNat:Nat):Int):=by
 have hb:=b.toNat_lt
 have:=u32_xor_nat x b.toNat h (by omega)
 rw[show ((b.toNat:Int)%4294967296)=((b.toNat:Nat):Int) by omega,this]
theorem take_succ_get(s:ByteArray)(k:Nat)(h:k<s.size):s.data.toList.take (k+1)=s.data.toList.take k ++ [s[k]]:=by
 rw[List.take_succ_eq_append_getElem (by simpa using h)];rfl
theorem sumMore_i(n:Nat)(hn:n<4294967296)(s:ByteArray)(w:World)(hs:s.size≤maxLen):Gives Tryz.prog 289 #[.int .i64 n,.string s] w (.int .i64 (crcMore n s.data.toList)):=by
 unfold Gives
 unfold maxLen at hs
 have hsz:s.data.toList.length=s.size:=by rw[Array.length_toList];rfl
 have H0:=hY (crc_not n hn)
 go_enter Tryz.func289,Tryz.ntmps289
 go_wp2
 rw[H0.out]
 go_loop [5,13] (fun x i=>∃k:Nat,k≤s.size∧i = .int .i64 k ∧ ∃y:Nat,y<4294967296∧y=crcList (4294967295-n) (s.data.toList.take k)∧x = .int .u32 y) (fun _ i=>s.size-(intOf i).toNat)
 case atStart=>exact⟨0,Nat.zero_le _,rfl,4294967295-n,by omega,by simp[crcList],rfl⟩
 case round=>
  obtain⟨k,hk,rfl,y,hy,hyk,rfl⟩:=hrel
  by_cases hlt:k<s.size
  ·have HK:=hY hyk
   clear hyk
   have HB:=hY (crc_byte y hy s[k])
   have hts:=hY (take_succ_get s k hlt)
   go_wp2
   rw[HB.out]
   go_loop [5,22] (fun x i=>∃j z:Nat,j≤8∧i = .int .i64 j∧z<4294967296∧Hid (z=crcBits j (y ^^^ s[k].toNat))∧x = .int .u32 z) (fun _ i=>8-(intOf i).toNat)
   case atStart=>exact⟨0,y ^^^ s[k].toNat,by omega,rfl,Nat.xor_lt_two_pow (n:=32) hy (by have:=s[k].toNat_lt;omega),hY rfl,rfl⟩
   case round=>
    obtain⟨j,z,hj,rfl,hz,HZ,rfl⟩:=hrel
    have ha:=crc_and z hz
    have hp:=hY (crc_poly z hz)
    by_cases hlt8:j<8
    ·by_cases hodd:(z:Int)%2=1
     ·have ht:((z:Int)%2==1)=true:=by simpa using hodd
      have hN:z%2=1:=by omega
      have HE:Hid (crcBit z=z / 2 ^^^ 3988292384):=by unfold crcBit;rw[if_pos hN];exact hY rfl
      clear hodd hN
      go_wp2
      go_round
      case rel=>exact⟨j+1,z / 2 ^^^ 3988292384,by omega,by go_num,Nat.xor_lt_two_pow (n:=32) (by omega) (by omega),hY (by rw[crcBits_succ,←HZ.out,HE.out]),by rw[hp.out]⟩
      case measure=>simp[intOf];omega
     ·have ht:((z:Int)%2==1)=false:=by simpa using hodd
      have hN:¬z%2=1:=by omega
      have HE:Hid (crcBit z=z / 2):=by unfold crcBit;rw[if_neg hN];exact hY rfl
      clear hodd hN
      go_wp2
      go_round
      case rel=>exact⟨j+1,z / 2,by omega,by go_num,by omega,hY (by rw[crcBits_succ,←HZ.out,HE.out]),by go_num⟩
      case measure=>simp[intOf];omega
    ·have h8:j=8:=by omega
     subst h8
     clear ha
     go_wp2
     go_round
     case rel=>exact⟨k+1,by omega,by go_num,z,hz,by rw[hts.out,crcList_snoc,←HK.out,HZ.out];rfl,rfl⟩
     case measure=>simp[intOf];omega
  ·have HK:=hY hyk
   have hn2:=hY (crc_not y hy)
   clear hyk
   go_wp2
   go_ret
   refine⟨?_,Below.refl _ _⟩
   have hkk:s.data.toList.take k=s.data.toList:=List.take_of_length_le (by omega)
   show Ending.returned (Value.int IntKind.i64 (wrap64 (bits BinOp.xor IntKind.u32 IntKind.u32.max (y:Int))))=_
   rw[hn2.out,crcMore,HK.out,hkk]
   have:wrap64 ((4294967295-crcList (4294967295-n) s.data.toList:Nat):Int)=((4294967295-crcList (4294967295-n) s.data.toList:Nat):Int):=by unfold wrap64;omega
   rw[this]
theorem crc_s(n:Nat)(hn:n<4294967296)(s:ByteArray)(w:World)(hs:s.size≤maxLen):Gives Tryz.prog 180 #[.int .i64 n,.string s] w (.int .i64 (crcMore n s.data.toList)):=by
 unfold Gives
 unfold maxLen at hs
 have hsz:s.data.toList.length=s.size:=by rw[Array.length_toList];rfl
 have H0:=hY (crc_not' n hn)
 go_enter Tryz.func180,Tryz.ntmps180
 go_wp2
 rw[H0.out]
 go_loop [5,6] (fun x i=>∃k:Nat,k≤s.size∧i = .int .i64 k ∧ ∃y:Nat,y<4294967296∧y=crcList (4294967295-n) (s.data.toList.take k)∧x = .int .u32 y) (fun _ i=>s.size-(intOf i).toNat)
 case atStart=>exact⟨0,Nat.zero_le _,rfl,4294967295-n,by omega,by simp[crcList],rfl⟩
 case round=>
  obtain⟨k,hk,rfl,y,hy,hyk,rfl⟩:=hrel
  by_cases hlt:k<s.size
  ·have HK:=hY hyk
   clear hyk
   have HB:=hY (crc_byte y hy s[k])
   have hts:=hY (take_succ_get s k hlt)
   go_wp2
   rw[HB.out]
   go_loop [5,7] (fun x i=>∃j z:Nat,j≤8∧i = .int .i64 j∧z<4294967296∧Hid (z=crcBits j (y ^^^ s[k].toNat))∧x = .int .u32 z) (fun _ i=>8-(intOf i).toNat)
   case atStart=>exact⟨0,y ^^^ s[k].toNat,by omega,rfl,Nat.xor_lt_two_pow (n:=32) hy (by have:=s[k].toNat_lt;omega),hY rfl,rfl⟩
   case round=>
    obtain⟨j,z,hj,rfl,hz,HZ,rfl⟩:=hrel
    have ha:=crc_and z hz
    have hp:=hY (crc_poly z hz)
    by_cases hlt8:j<8
    ·by_cases hodd:(z:Int)%2=1
     ·have ht:((z:Int)%2==1)=true:=by simpa using hodd
      have hN:z%2=1:=by omega
      have HE:Hid (crcBit z=z / 2 ^^^ 3988292384):=by unfold crcBit;rw[if_pos hN];exact hY rfl
      clear hodd hN
      go_wp2
      go_round
      case rel=>exact⟨j+1,z / 2 ^^^ 3988292384,by omega,by go_num,Nat.xor_lt_two_pow (n:=32) (by omega) (by omega),hY (by rw[crcBits_succ,←HZ.out,HE.out]),by rw[hp.out]⟩
      case measure=>simp[intOf];omega
     ·have ht:((z:Int)%2==1)=false:=by simpa using hodd
      have hN:¬z%2=1:=by omega
      have HE:Hid (crcBit z=z / 2):=by unfold crcBit;rw[if_neg hN];exact hY rfl
      clear hodd hN
      go_wp2
      go_round
      case rel=>exact⟨j+1,z / 2,by omega,by go_num,by omega,hY (by rw[crcBits_succ,←HZ.out,HE.out]),by go_num⟩
      case measure=>simp[intOf];omega
    ·have h8:j=8:=by omega
     subst h8
     clear ha
     go_wp2
     go_round
     case rel=>exact⟨k+1,by omega,by go_num,z,hz,by rw[hts.out,crcList_snoc,←HK.out,HZ.out];rfl,rfl⟩
     case measure=>simp[intOf];omega
  ·have HK:=hY hyk
   have hn2:=hY (crc_not' y hy)
   clear hyk
   go_wp2
   go_ret
   refine⟨?_,Below.refl _ _⟩
   have hkk:s.data.toList.take k=s.data.toList:=List.take_of_length_le (by omega)
   show Ending.returned (Value.int IntKind.i64 (wrap64 (bits BinOp.xor IntKind.u32 (y:Int) 4294967295)))=_
   rw[hn2.out,crcMore,HK.out,hkk]
   have:wrap64 ((4294967295-crcList (4294967295-n) s.data.toList:Nat):Int)=((4294967295-crcList (4294967295-n) s.data.toList:Nat):Int):=by unfold wrap64;omega
   rw[this]
end Go.Proofs.YtcabgibdkmgdlaaGreat
namespace Go.Proofs.YtcabgibdkmgdlaaGreat
open Go.RowKit M
theorem ret_bool{a b:Bool}(h:a=b):Ending.returned (.bool a) = .returned (.bool b):=by rw[h]
theorem ret_int{k:IntKind}{a b:Int}(h:a=b):Ending.returned (.int k a) = .returned (.int k b):=by rw[h]
theorem info_u8:(Tryz.prog.info? 5).map (fun i=>(i.zero,i.size,i.bytes))=some (some (.int .u8 0),1,1):=by kernel_rfl
def cb(l:Bs):List Value:=l.map fun b=>Value.int .u8 b.toNat
theorem cb_append(a b:Bs):cb a++cb b=cb (a++b):=by simp[cb]
theorem conv_own(w:World)(base:Nat)(v:Value)(l:Bs)(h:w.ownsRow base 5 1 v l.length (cb l)):
  (convert 204 9 v).run Tryz.prog w = .ok (.string (bs l)) w:=by
 rcases h.2 with ⟨rfl,h0⟩|⟨g,cap,cur,rfl,_,hg,hn,hc,hs,ht⟩
 ·obtain rfl:l = []:=List.eq_nil_of_length_eq_zero h0
  exact run_convert_bytes_nil (P:=Tryz.prog) w 204 5 Tryz.underlying204 Tryz.underlying5 0 0 9 Tryz.underlying9
 ·refine run_convert_bytes_back (P:=Tryz.prog) w 204 9 5 ⟨g,0,none⟩ cap l Tryz.underlying204 Tryz.underlying5 Tryz.underlying9 ?_
  intro j hj
  exact h.cells (g:=g) rfl j _ (by simp[cb,hj])
theorem or128(r:Nat):bits .or .u8 ((r:Int)%256) 128=(((UInt8.ofNat (r%128+128)).toNat:Nat):Int):=by
 have h:=u8_or_nat (r%256) 128 (by omega) (by omega)
 have hd:∀x:Fin 256,x.val ||| 128=x.val%128+128:=by decide +kernel
 have h2:=hd ⟨r%256,by omega⟩
 rw[show ((r:Int)%256)=((r%256:Nat):Int) by omega,show (128:Int)=((128:Nat):Int) from rfl,h]
 simp only at h2
 rw[h2,UInt8.toNat_ofNat']
 omega
theorem zig_bits(n:Int)(hn : -9223372036854775808≤n∧n≤9223372036854775807):
  bits BinOp.xor IntKind.u64 (IntKind.u64.wrap (wrap64 (n*2))) (IntKind.u64.wrap (n / 9223372036854775808))=((zig n:Nat):Int):=by
 have hx:∀x:Nat,x<18446744073709551616→x ^^^ 18446744073709551615=18446744073709551615-x:=fun x h=>by
  have h1:(BitVec.ofNat 64 x ^^^ BitVec.allOnes 64).toNat=(~~~ BitVec.ofNat 64 x).toNat:=by rw[BitVec.xor_allOnes]
  rw[BitVec.toNat_xor,BitVec.toNat_not,BitVec.toNat_allOnes,BitVec.toNat_ofNat,Nat.mod_eq_of_lt h] at h1
  exact h1
 rw[IntKind.wrap_u64,IntKind.wrap_u64]
 by_cases h0:n<0
 ·have e1:n / 9223372036854775808%18446744073709551616=((18446744073709551615:Nat):Int):=by omega
  have e2:wrap64 (n*2)%18446744073709551616=(((2*n+18446744073709551616).toNat:Nat):Int):=by unfold wrap64;omega
  rw[e1,e2,u64_xor_nat _ _ (by omega) (by omega),hx _ (by omega),zig,if_pos h0]
  omega
 ·have e1:n / 9223372036854775808%18446744073709551616=((0:Nat):Int):=by omega
  have e2:wrap64 (n*2)%18446744073709551616=(((2*n).toNat:Nat):Int):=by unfold wrap64;omega
  rw[e1,e2,u64_xor_nat _ _ (by omega) (by omega),Nat.xor_zero,zig,if_neg h0]
theorem putNum_i(n:Int)(hn : -9223372036854775808≤n∧n≤9223372036854775807)(w:World):Gives Tryz.prog 83 #[.int .i64 n] w (.string (bs (putNum n))):=by
 unfold Gives
 obtain⟨i0,hi,hz0,hz1,hz2⟩:=info_parts info_u8
 have HZ:=hY (zig_bits n hn)
 have hzl:=zig_lt hn
 go_enter Tryz.func83,Tryz.ntmps83
 go_wp2
 rw[HZ.out]
 go_loopw [3,4] (fun v x wr=>∃(acc:Bs) (f r:Nat),acc.length+f=10∧r<18446744073709551616∧r<128 ^ (f+1)∧Hid (acc++putU f r=putNum n)∧wr.ownsRow w.heap.size 5 1 v acc.length (cb acc)∧Below w.heap.size w wr∧x = .int .u64 r) (fun _ x _=>(intOf x).toNat)
 case atStart=>exact⟨[],10,zig n,rfl,hzl,by omega,hY rfl,World.ownsRow_made w #[] 0 (Nat.le_refl _) (by decide) rfl,(Below.refl _ _).alloc (Nat.le_refl _) _,rfl⟩
 case round=>
  obtain⟨acc,f,r,hf,hr,hrf,HP,hown,hbel,rfl⟩:=hrel
  have hbs:=hbel.size
  by_cases hge:(128:Int)≤r
  ·have HO:=hY (or128 r)
   go_wp2_with (at_builtin;refine wpList_append_own _ rfl _ _ 204 rfl w.heap.size 5 i0 (.int .u8 0) 1 1 Tryz.underlying204 hi hz0 hz1 hz2 rfl (by decide) _ _ _ rfl (hown.alloc _) ⟨wr.heap.size,0,none⟩ 1 1 [.int .u8 (bits .or .u8 ((r:Int)%256) 128)] rfl rfl ?c1 ?c2 ?c3 ?c4 ?c5 ?_)
   case c1=>exact cell_one_new _ _ _
   case c2=>first|rfl|(intro u hu;simp at hu;subst hu;rfl)
   case c3=>simp[maxLen];omega
   case c4=>omega
   case c5=>first|omega|(simp;omega)
   intro v' w1 hown1 hg1 _
   go_wp2
   go_roundw
   have hf1:1≤f:=by
    rcases Nat.eq_zero_or_pos f with h|h
    ·subst h;omega
    ·exact h
   case rel=>
    obtain⟨f',rfl⟩:∃f',f=f'+1:=⟨f-1,by omega⟩
    rw[HO.out] at hown1
    refine⟨acc ++ [UInt8.ofNat (r%128+128)],f',r / 128,by simp;omega,by omega,?_,hY ?_,?_,?_,rfl⟩
    ·have h1:=hrf
     rw[Nat.pow_succ] at h1
     exact Nat.div_lt_of_lt_mul (by rw[Nat.mul_comm];exact h1)
    ·rw[←HP.out,putU_ge (by omega)];simp
    ·rw[←cb_append];simpa [cb] using hown1
    ·exact (hbel.alloc hbs _).grown hg1 (by simp;omega) (fun k hk=>(hown.lt k hk).1)
   case measure=>simp[intOf];omega
  ·have HO:Hid ((r:Int)=(((UInt8.ofNat r).toNat:Nat):Int)):=by
    rw[UInt8.toNat_ofNat'];exact hY (by omega)
   go_wp2_with (at_builtin;refine wpList_append_own _ rfl _ _ 204 rfl w.heap.size 5 i0 (.int .u8 0) 1 1 Tryz.underlying204 hi hz0 hz1 hz2 rfl (by decide) _ _ _ rfl (hown.alloc _) ⟨wr.heap.size,0,none⟩ 1 1 [.int .u8 (r:Int)] rfl rfl ?c1 ?c2 ?c3 ?c4 ?c5 ?_)
   case c2=>first|rfl|(intro u hu;simp at hu;subst hu;rfl)
   case c3=>simp[maxLen];omega
   case c4=>omega
   case c5=>first|omega|(simp;omega)
   intro v' w1 hown1 hg1 _
   rw[show [Value.int .u8 (r:Int)]=cb [UInt8.ofNat r] by simp only[cb,List.map_cons,List.map_nil,←HO.out],cb_append] at hown1
   have hc:=conv_own w1 w.heap.size v' (acc ++ [UInt8.ofNat r]) (by simpa using hown1)
   go_wp2
   go_ret
   refine⟨?_,(hbel.alloc hbs _).grown hg1 (by simp;omega) (fun k hk=>(hown.lt k hk).1)⟩
   show Ending.returned (Value.string (bs (acc ++ [UInt8.ofNat r])))=_
   rw[←HP.out,putU_lt (by omega)]
theorem fold_s(n:Int)(hn : -9223372036854775808≤n∧n≤9223372036854775807)(w:World):Gives Tryz.prog 181 #[.int .i64 n] w (.int .u64 (zig n)):=by
 unfold Gives
 by_cases h0:n<0
 ·have hz:Hid (zig n=(2*(-(n+1))+1).toNat):=by unfold zig;rw[if_pos h0];exact hY rfl
  go_enter Tryz.func181,Tryz.ntmps181
  go_wp2
  go_ret
  refine⟨?_,Below.refl _ _⟩
  rw[hz.out]
  exact ret_int (by omega)
 ·have hz:Hid (zig n=(2*n).toNat):=by unfold zig;rw[if_neg h0];exact hY rfl
  go_enter Tryz.func181,Tryz.ntmps181
  go_wp2
  go_ret
  refine⟨?_,Below.refl _ _⟩
  rw[hz.out]
  exact ret_int (by omega)
theorem putNum_s(n:Int)(hn : -9223372036854775808≤n∧n≤9223372036854775807)(w:World):Gives Tryz.prog 110 #[.int .i64 n] w (.string (bs (putNum n))):=by
 unfold Gives
 obtain⟨i0,hi,hz0,hz1,hz2⟩:=info_parts info_u8
 have hzl:=zig_lt hn
 go_enter Tryz.func110,Tryz.ntmps110
 go_wp2_with (go_at_call 181;refine(fold_s _ hn _).use.mono ?_;rintro e w1 ⟨rfl,hb1⟩)
 have hs1:=hb1.size
 go_loopw [3,4] (fun x v wr=>∃(acc:Bs) (f r:Nat),acc.length+f=10∧r<18446744073709551616∧r<128 ^ (f+1)∧Hid (acc++putU f r=putNum n)∧wr.ownsRow w.heap.size 5 1 v acc.length (cb acc)∧Below w.heap.size w wr∧x = .int .u64 r) (fun x _ _=>(intOf x).toNat)
 case atStart=>exact⟨[],10,zig n,rfl,hzl,by omega,hY rfl,World.ownsRow_made w1 #[] 0 hs1 (by decide) rfl,hb1.alloc hs1 _,rfl⟩
 case round=>
  obtain⟨acc,f,r,hf,hr,hrf,HP,hown,hbel,rfl⟩:=hrel
  have hbs:=hbel.size
  by_cases hge:(128:Int)≤r
  ·have HO:Hid ((r:Int)%128+128=(((UInt8.ofNat (r%128+128)).toNat:Nat):Int)):=by
    rw[UInt8.toNat_ofNat'];exact hY (by omega)
   go_wp2_with (at_builtin;refine wpList_append_own _ rfl _ _ 204 rfl w.heap.size 5 i0 (.int .u8 0) 1 1 Tryz.underlying204 hi hz0 hz1 hz2 rfl (by decide) _ _ _ rfl (hown.alloc _) ⟨wr.heap.size,0,none⟩ 1 1 [.int .u8 ((r:Int)%128+128)] rfl rfl ?c1 ?c2 ?c3 ?c4 ?c5 ?_)
   case c1=>exact cell_one_new _ _ _
   case c2=>first|rfl|(intro u hu;simp at hu;subst hu;rfl)
   case c3=>simp[maxLen];omega
   case c4=>omega
   case c5=>first|omega|(simp;omega)
   intro v' w1 hown1 hg1 _
   go_wp2
   go_roundw
   have hf1:1≤f:=by
    rcases Nat.eq_zero_or_pos f with h|h
    ·subst h;omega
    ·exact h
   case rel=>
    obtain⟨f',rfl⟩:∃f',f=f'+1:=⟨f-1,by omega⟩
    rw[HO.out] at hown1
    refine⟨acc ++ [UInt8.ofNat (r%128+128)],f',r / 128,by simp;omega,by omega,?_,hY ?_,?_,?_,rfl⟩
    ·have h1:=hrf
     rw[Nat.pow_succ] at h1
     exact Nat.div_lt_of_lt_mul (by rw[Nat.mul_comm];exact h1)
    ·rw[←HP.out,putU_ge (by omega)];simp
    ·rw[←cb_append];simpa [cb] using hown1
    ·exact (hbel.alloc hbs _).grown hg1 (by simp;omega) (fun k hk=>(hown.lt k hk).1)
   case measure=>simp[intOf];omega
  ·have HO:Hid ((r:Int)=(((UInt8.ofNat r).toNat:Nat):Int)):=by
    rw[UInt8.toNat_ofNat'];exact hY (by omega)
   go_wp2_with (at_builtin;refine wpList_append_own _ rfl _ _ 204 rfl w.heap.size 5 i0 (.int .u8 0) 1 1 Tryz.underlying204 hi hz0 hz1 hz2 rfl (by decide) _ _ _ rfl (hown.alloc _) ⟨wr.heap.size,0,none⟩ 1 1 [.int .u8 (r:Int)] rfl rfl ?c1 ?c2 ?c3 ?c4 ?c5 ?_)
   case c2=>first|rfl|(intro u hu;simp at hu;subst hu;rfl)
   case c3=>simp[maxLen];omega
   case c4=>omega
   case c5=>first|omega|(simp;omega)
   intro v' w1 hown1 hg1 _
   rw[show [Value.int .u8 (r:Int)]=cb [UInt8.ofNat r] by simp only[cb,List.map_cons,List.map_nil,←HO.out],cb_append] at hown1
   have hc:=conv_own w1 w.heap.size v' (acc ++ [UInt8.ofNat r]) (by simpa using hown1)
   go_wp2
   go_ret
   refine⟨?_,(hbel.alloc hbs _).grown hg1 (by simp;omega) (fun k hk=>(hown.lt k hk).1)⟩
   show Ending.returned (Value.string (bs (acc ++ [UInt8.ofNat r])))=_
   rw[←HP.out,putU_lt (by omega)]
end Go.Proofs.YtcabgibdkmgdlaaGreat
namespace Go.Proofs.YtcabgibdkmgdlaaGreat
open Go.RowKit M
theorem isTime_i(n:Int)(w:World):Gives Tryz.prog 70 #[.int .i64 n] w (.bool (isTime n)):=by
 unfold Gives
 go_enter Tryz.func70,Tryz.ntmps70
 go_wp2_with (go_at_call 71;refine(within_i _ _ _ _).use.mono ?_;rintro e w1 ⟨rfl,hb1⟩)
 go_ret
 exact⟨rfl,hb1⟩
theorem isTime_s(n:Int)(w:World):Gives Tryz.prog 49 #[.int .i64 n] w (.bool (isTime n)):=by
 unfold Gives
 go_enter Tryz.func49,Tryz.ntmps49
 go_wp2_with (go_at_call 50;refine(is_s _ _ _ _).use.mono ?_;rintro e w1 ⟨rfl,hb1⟩)
 go_ret
 exact⟨rfl,hb1⟩
theorem isLong_i(s:ByteArray)(w:World):Gives Tryz.prog 208 #[.string s] w (.bool (decide (8000<s.size))):=by
 unfold Gives
 go_enter Tryz.func208,Tryz.ntmps208
 go_wp2
 go_ret
 refine⟨?_,Below.refl _ _⟩
 show Ending.returned (Value.bool (decide ((8000:Int)<s.size)))=_
 rw[decide_eq_decide.2 (by omega:(8000:Int)<s.size↔8000<s.size)]
theorem sumOf_i(s:ByteArray)(hs:s.size≤maxLen)(w:World):Gives Tryz.prog 209 #[.string s] w (.string (bs (crcFour s.data.toList))):=by
 unfold Gives
 go_enter Tryz.func209,Tryz.ntmps209
 go_wp2_with (first
  | (go_at_call 289;refine(sumMore_i 0 (by omega) _ _ hs).use.mono ?_;rintro e w1 ⟨rfl,hb1⟩)
  | (go_at_call 137;refine(four_i _ _).use.mono ?_;rintro e w2 ⟨rfl,hb2⟩))
 go_ret
 exact⟨rfl,hb1.trans (hb2.mono hb1.size)⟩
theorem seal_i(s:ByteArray)(hs:s.size≤maxLen)(w:World):Gives Tryz.prog 136 #[.string s] w (.string (bs (seal_ s.data.toList))):=by
 unfold Gives
 have hsz:=size_data s
 by_cases h:s.size≤7996
 ·have HS:Hid (seal_ s.data.toList=s.data.toList++crcFour s.data.toList):=by unfold seal_;rw[if_pos (by omega)];exact hY rfl
  have h':¬(7996:Int)<s.size:=by omega
  clear hsz
  go_enter Tryz.func136,Tryz.ntmps136
  go_wp2_with (go_at_call 209;refine(sumOf_i _ hs _).use.mono ?_;rintro e w1 ⟨rfl,hb1⟩)
  go_ret
  refine⟨?_,hb1⟩
  rw[HS.out,←bs_append,bs_data];rfl
 ·have HS:Hid (seal_ s.data.toList = []):=by unfold seal_;rw[if_neg (by omega)];exact hY rfl
  have h':(7996:Int)<s.size:=by omega
  clear hsz
  go_enter Tryz.func136,Tryz.ntmps136
  go_wp2
  go_ret
  exact⟨by rw[HS.out];rfl,Below.refl _ _⟩
theorem seal_s(s:ByteArray)(hs:s.size≤maxLen)(w:World):Gives Tryz.prog 107 #[.string s] w (.string (bs (seal_ s.data.toList))):=by
 unfold Gives
 have hsz:=size_data s
 by_cases h:s.size≤7996
 ·have HS:Hid (seal_ s.data.toList=s.data.toList++crcFour s.data.toList):=by unfold seal_;rw[if_pos (by omega)];exact hY rfl
  have h':¬(7996:Int)<s.size:=by omega
  clear hsz
  go_enter Tryz.func107,Tryz.ntmps107
  go_wp2_with (first
   | (go_at_call 180;refine(crc_s 0 (by omega) _ _ hs).use.mono ?_;rintro e w1 ⟨rfl,hb1⟩)
   | (go_at_call 108;refine(four_s _ _).use.mono ?_;rintro e w2 ⟨rfl,hb2⟩))
  go_ret
  refine⟨?_,hb1.trans (hb2.mono hb1.size)⟩
  rw[HS.out,←bs_append,bs_data];rfl
 ·have HS:Hid (seal_ s.data.toList = []):=by unfold seal_;rw[if_neg (by omega)];exact hY rfl
  have h':(7996:Int)<s.size:=by omega
  clear hsz
  go_enter Tryz.func107,Tryz.ntmps107
  go_wp2
  go_ret
  exact⟨by rw[HS.out];rfl,Below.refl _ _⟩
theorem putText_i(s:ByteArray)(hs:s.size≤maxLen)(w:World):Gives Tryz.prog 135 #[.string s] w (.string (bs (putText s.data.toList))):=by
 unfold Gives
 have hsz:=size_data s
 by_cases h:s.size≤8000
 ·have HS:Hid (putText s.data.toList=putNum s.size++s.data.toList):=by unfold putText;rw[if_pos (by omega),hsz];exact hY rfl
  have h':decide (8000<s.size)=false:=by simp;omega
  have hpl:=(putNum_length s.size).2
  clear hsz
  go_enter Tryz.func135,Tryz.ntmps135
  go_wp2_with (first
   | (go_at_call 208;refine(isLong_i _ _).use.mono ?_;rintro e w1 ⟨rfl,hb1⟩)
   | (go_at_call 83;refine(putNum_i _ (by omega) _).use.mono ?_;rintro e w2 ⟨rfl,hb2⟩))
  go_ret
  refine⟨?_,hb1.trans (hb2.mono hb1.size)⟩
  rw[HS.out,←bs_append,bs_data];rfl
 ·have HS:Hid (putText s.data.toList = []):=by unfold putText;rw[if_neg (by omega)];exact hY rfl
  have h':decide (8000<s.size)=true:=by simp;omega
  clear hsz
  go_enter Tryz.func135,Tryz.ntmps135
  go_wp2_with (go_at_call 208;refine(isLong_i _ _).use.mono ?_;rintro e w1 ⟨rfl,hb1⟩)
  go_ret
  exact⟨by rw[HS.out];rfl,hb1⟩
theorem putText_s(s:ByteArray)(hs:s.size≤maxLen)(w:World):Gives Tryz.prog 106 #[.string s] w (.string (bs (putText s.data.toList))):=by
 unfold Gives
 have hsz:=size_data s
 by_cases h:s.size≤8000
 ·have HS:Hid (putText s.data.toList=putNum s.size++s.data.toList):=by unfold putText;rw[if_pos (by omega),hsz];exact hY rfl
  have h':¬(8000:Int)<s.size:=by omega
  have hpl:=(putNum_length s.size).2
  clear hsz
  go_enter Tryz.func106,Tryz.ntmps106
  go_wp2_with (go_at_call 110;refine(putNum_s _ (by omega) _).use.mono ?_;rintro e w2 ⟨rfl,hb2⟩)
  go_ret
  refine⟨?_,hb2⟩
  rw[HS.out,←bs_append,bs_data];rfl
 ·have HS:Hid (putText s.data.toList = []):=by unfold putText;rw[if_neg (by omega)];exact hY rfl
  have h':(8000:Int)<s.size:=by omega
  clear hsz
  go_enter Tryz.func106,Tryz.ntmps106
  go_wp2
  go_ret
  exact⟨by rw[HS.out];rfl,Below.refl _ _⟩
theorem frameRight_i(q:Int)(t:ByteArray)(w:World):Gives Tryz.prog 134 #[.agg #[.int .i64 q,.string t]] w (.bool (frameOk q t.data.toList)):=by
 unfold Gives
 have hd:decide ((t.size:Int)≤2980)=decide (t.data.toList.length≤2980):=by rw[size_data,decide_eq_decide];omega
 cases hq:isTime q
 ·have HQ:Hid (frameOk q t.data.toList=false):=by unfold frameOk;rw[hq];exact hY rfl
  have hq':=hY hq
  clear hq hd
  go_enter Tryz.func134,Tryz.ntmps134
  go_wp2_with (go_at_call 70;refine(isTime_i _ _).use.mono ?_;rw[hq'.out];rintro e w1 ⟨rfl,hb1⟩)
  go_ret
  refine⟨by rw[HQ.out];rfl,?_⟩
  exact((Below.refl _ _).alloc (Nat.le_refl _) _).trans (hb1.mono (by simp))
 ·have HQ:Hid (frameOk q t.data.toList=decide ((t.size:Int)≤2980)):=by unfold frameOk;rw[hq,hd];exact hY rfl
  have hq':=hY hq
  clear hq hd
  go_enter Tryz.func134,Tryz.ntmps134
  go_wp2_with (go_at_call 70;refine(isTime_i _ _).use.mono ?_;rw[hq'.out];rintro e w1 ⟨rfl,hb1⟩;obtain⟨hc,hf⟩:=bcell hb1)
  go_ret
  refine⟨by rw[HQ.out];rfl,?_⟩
  exact((Below.refl _ _).alloc (Nat.le_refl _) _).trans (hb1.mono (by simp))
theorem frameRight_s(q:Int)(t:ByteArray)(w:World):Gives Tryz.prog 105 #[.agg #[.int .i64 q,.string t]] w (.bool (frameOk q t.data.toList)):=by
 unfold Gives
 have hd:decide ((t.size:Int)≤2980)=decide (t.data.toList.length≤2980):=by rw[size_data,decide_eq_decide];omega
 cases hq:isTime q
 ·have HQ:Hid (frameOk q t.data.toList=false):=by unfold frameOk;rw[hq];exact hY rfl
  have hq':=hY hq
  clear hq hd
  go_enter Tryz.func105,Tryz.ntmps105
  go_wp2_with (go_at_call 49;refine(isTime_s _ _).use.mono ?_;rw[hq'.out];rintro e w1 ⟨rfl,hb1⟩)
  go_ret
  refine⟨by rw[HQ.out];rfl,?_⟩
  exact((Below.refl _ _).alloc (Nat.le_refl _) _).trans (hb1.mono (by simp))
 ·have HQ:Hid (frameOk q t.data.toList=decide ((t.size:Int)≤2980)):=by unfold frameOk;rw[hq,hd];exact hY rfl
  have hq':=hY hq
  clear hq hd
  go_enter Tryz.func105,Tryz.ntmps105
  go_wp2_with (go_at_call 49;refine(isTime_s _ _).use.mono ?_;rw[hq'.out];rintro e w1 ⟨rfl,hb1⟩;obtain⟨hc,hf⟩:=bcell hb1)
  go_ret
  refine⟨by rw[HQ.out];rfl,?_⟩
  exact((Below.refl _ _).alloc (Nat.le_refl _) _).trans (hb1.mono (by simp))
theorem frameBytes_i(q:Int)(t:ByteArray)(w:World):Gives Tryz.prog 77 #[.agg #[.int .i64 q,.string t]] w (.string (bs (frameBytes q t.data.toList))):=by
 unfold Gives
 cases hq:frameOk q t.data.toList
 ·have HQ:Hid (frameBytes q t.data.toList = []):=by unfold frameBytes;rw[hq];exact hY rfl
  have hq':=hY hq
  clear hq
  go_enter Tryz.func77,Tryz.ntmps77
  go_wp2_with (go_at_call 134;refine(frameRight_i _ _ _).use.mono ?_;rw[hq'.out];rintro e w1 ⟨rfl,hb1⟩)
  go_ret
  refine⟨by rw[HQ.out];rfl,?_⟩
  exact((Below.refl _ _).alloc (Nat.le_refl _) _).trans (hb1.mono (by simp))
 ·have HQ:Hid (frameBytes q t.data.toList=putText (seal_ (four q++t.data.toList))):=by unfold frameBytes;rw[hq];exact hY rfl
  have hsz:=size_data t
  have ht:t.size≤2980:=by
   unfold frameOk at hq
   simp at hq
   omega
  have hsl:=seal_length (four q++t.data.toList)
  rw[List.length_append,four_length,hsz] at hsl
  have hq':=hY hq
  clear hq hsz
  go_enter Tryz.func77,Tryz.ntmps77
  go_wp2_with (go_at_call 134;refine(frameRight_i _ _ _).use.mono ?_;rw[hq'.out];rintro e w1 ⟨rfl,hb1⟩;obtain⟨hc,hf⟩:=bcell hb1)
  have g0:∀x:Later w1,x.now.cell? ⟨w.heap.size,0,none⟩=some (.int .i64 q):=fun x=>by
   have hs1:=hb1.size
   rw[x.ok.cell (p:=⟨w.heap.size,0,none⟩) (by simp at hs1 ⊢;omega),hc _ _ (by simp)]
   simp[World.cell?_alloc_new]
  have g1:∀x:Later w1,x.now.cell? ⟨w.heap.size,1,none⟩=some (.string t):=fun x=>by
   have hs1:=hb1.size
   rw[x.ok.cell (p:=⟨w.heap.size,1,none⟩) (by simp at hs1 ⊢;omega),hc _ _ (by simp)]
   simp[World.cell?_alloc_new]
  refine wp_region_later (by kernel_rfl) (by kernel_rfl) ?_
  repeat(go_big_quiet_step (first
   | (go_at_call 137;exact Gives.later _ (four_i _ _))
   | (go_at_call 136;exact Gives.later _ (seal_i _ (by simp[go_sem,maxLen];omega) _))
   | (go_at_call 135;exact Gives.later _ (putText_i _ (by simp only[go_sem,maxLen];omega) _))))
  refine wpQuiet_nil ?_
  rintro _ ⟨x,rfl⟩
  have hx:=x.ok
  go_wp2
  go_ret
  exact⟨by rw[HQ.out];rfl,bthen (bnew _ _) (bthen hb1 hx)⟩
theorem frameBytes_s(q:Int)(t:ByteArray)(w:World):Gives Tryz.prog 56 #[.agg #[.int .i64 q,.string t]] w (.string (bs (frameBytes q t.data.toList))):=by
 unfold Gives
 cases hq:frameOk q t.data.toList
 ·have HQ:Hid (frameBytes q t.data.toList = []):=by unfold frameBytes;rw[hq];exact hY rfl
  have hq':=hY hq
  clear hq
  go_enter Tryz.func56,Tryz.ntmps56
  go_wp2_with (go_at_call 105;refine(frameRight_s _ _ _).use.mono ?_;rw[hq'.out];rintro e w1 ⟨rfl,hb1⟩)
  go_ret
  refine⟨by rw[HQ.out];rfl,?_⟩
  exact((Below.refl _ _).alloc (Nat.le_refl _) _).trans (hb1.mono (by simp))
 ·have HQ:Hid (frameBytes q t.data.toList=putText (seal_ (four q++t.data.toList))):=by unfold frameBytes;rw[hq];exact hY rfl
  have hsz:=size_data t
  have ht:t.size≤2980:=by
   unfold frameOk at hq
   simp at hq
   omega
  have hsl:=seal_length (four q++t.data.toList)
  rw[List.length_append,four_length,hsz] at hsl
  have hq':=hY hq
  clear hq hsz
  go_enter Tryz.func56,Tryz.ntmps56
  go_wp2_with (go_at_call 105;refine(frameRight_s _ _ _).use.mono ?_;rw[hq'.out];rintro e w1 ⟨rfl,hb1⟩;obtain⟨hc,hf⟩:=bcell hb1)
  have g0:∀x:Later w1,x.now.cell? ⟨w.heap.size,0,none⟩=some (.int .i64 q):=fun x=>by
   have hs1:=hb1.size
   rw[x.ok.cell (p:=⟨w.heap.size,0,none⟩) (by simp at hs1 ⊢;omega),hc _ _ (by simp)]
   simp[World.cell?_alloc_new]
  have g1:∀x:Later w1,x.now.cell? ⟨w.heap.size,1,none⟩=some (.string t):=fun x=>by
   have hs1:=hb1.size
   rw[x.ok.cell (p:=⟨w.heap.size,1,none⟩) (by simp at hs1 ⊢;omega),hc _ _ (by simp)]
   simp[World.cell?_alloc_new]
  refine wp_region_later (by kernel_rfl) (by kernel_rfl) ?_
  repeat(go_big_quiet_step (first
   | (go_at_call 108;exact Gives.later _ (four_s _ _))
   | (go_at_call 107;exact Gives.later _ (seal_s _ (by simp[go_sem,maxLen];omega) _))
   | (go_at_call 106;exact Gives.later _ (putText_s _ (by simp only[go_sem,maxLen];omega) _))))
  refine wpQuiet_nil ?_
  rintro _ ⟨x,rfl⟩
  have hx:=x.ok
  go_wp2
  go_ret
  exact⟨by rw[HQ.out];rfl,bthen (bnew _ _) (bthen hb1 hx)⟩
end Go.Proofs.YtcabgibdkmgdlaaGreat
namespace Go.Proofs.YtcabgibdkmgdlaaGreat
open Go.RowKit M
theorem pow56{k:Nat}(h:k≤8):2 ^ (7*k)≤72057594037927936:=by
 have:=Nat.pow_le_pow_right (n:=2) (by omega) (show 7*k≤56 by omega)
 simpa using this
theorem shift_lt{k x:Nat}(hk:k≤9)(hx:x<128)(h9:k=9→x≤1):x*2 ^ (7*k)<18446744073709551616:=by
 by_cases h:k≤8
 ·have h1:=pow56 h
  have h2:x*2 ^ (7*k)≤127*72057594037927936:=Nat.mul_le_mul (by omega) h1
  omega
 ·obtain rfl:k=9:=by omega
  have:=h9 rfl
  have h2:x*2 ^ (7*9)≤1*2 ^ (7*9):=Nat.mul_le_mul_right _ this
  have h3:(2:Nat) ^ (7*9)=9223372036854775808:=by decide
  omega
theorem acc_lt{k u x:Nat}(hk:k≤9)(hu:u<2 ^ (7*k))(hx:x<128)(h9:k=9→x≤1):u+x*2 ^ (7*k)<18446744073709551616:=by
 by_cases h:k≤8
 ·have h1:=pow56 h
  have h2:x*2 ^ (7*k)≤127*72057594037927936:=Nat.mul_le_mul (by omega) h1
  omega
 ·obtain rfl:k=9:=by omega
  have:=h9 rfl
  have h2:x*2 ^ (7*9)≤1*2 ^ (7*9):=Nat.mul_le_mul_right _ this
  have h3:(2:Nat) ^ (7*9)=9223372036854775808:=by decide
  omega
theorem shl_nat{k x:Nat}(hk:k≤9)(hx:x<128)(h9:k=9→x≤1):IntKind.u64.wrap ((x:Int)*2 ^ (7*k))=((x*2 ^ (7*k):Nat):Int):=by
 have h:=shift_lt hk hx h9
 have e:(x:Int)*2 ^ (7*k)=((x*2 ^ (7*k):Nat):Int):=by simp[Int.natCast_mul,Int.natCast_pow]
 rw[e,IntKind.wrap_u64]
 omega
theorem or_shift{k u x:Nat}(hk:k≤9)(hu:u<2 ^ (7*k))(hx:x<128)(h9:k=9→x≤1):
  bits .or .u64 (u:Int) (IntKind.u64.wrap ((x:Int)*2 ^ (7*k)))=((u+x*2 ^ (7*k):Nat):Int):=by
 have h1:=shift_lt hk hx h9
 have h2:=acc_lt hk hu hx h9
 rw[shl_nat hk hx h9,u64_or_nat _ _ (by omega) h1]
 have h3:=Nat.shiftLeft_add_eq_or_of_lt hu x
 rw[Nat.shiftLeft_eq] at h3
 rw[Nat.or_comm,←h3,Nat.add_comm]
theorem xor_neg(y:Nat)(h:y<9223372036854775808):bits BinOp.xor IntKind.i64 (-1) (y:Int) = -(y:Int)-1:=by
 have h1:(BitVec.ofInt 64 (-1) ^^^ BitVec.ofInt 64 (y:Int)).toNat=18446744073709551615-y:=by
  have e1:BitVec.ofInt 64 (-1)=BitVec.allOnes 64:=by decide
  have e2:BitVec.ofInt 64 (y:Int)=BitVec.ofNat 64 y:=rfl
  rw[e1,e2,BitVec.allOnes_xor,BitVec.toNat_not,BitVec.toNat_ofNat,Nat.mod_eq_of_lt (by omega)]
 show IntKind.i64.wrap (((BitVec.ofInt 64 (-1) ^^^ BitVec.ofInt 64 (y:Int)).toNat:Nat):Int)=_
 rw[h1,IntKind.wrap_i64]
 omega
theorem num_odd{t:Bs}{a y:Nat}{z:Int}(hF:numAt t a=(unzig y,z,0))(hy:y<18446744073709551616)(ho:(y:Int)%2=1):
  Ending.returned (.agg #[.int .i64 (bits BinOp.xor IntKind.i64 (-1) ((y:Int) / 2)),.int .i64 z,.int .i64 0]) = .returned (.agg #[.int .i64 (numAt t a).1,.int .i64 (numAt t a).2.1,.int .i64 (numAt t a).2.2]):=by
 rw[hF,show ((y:Int) / 2)=((y / 2:Nat):Int) by omega,xor_neg _ (by omega)]
 unfold unzig
 rw[if_pos (by omega)]
theorem num_even{t:Bs}{a y:Nat}{z:Int}(hF:numAt t a=(unzig y,z,0))(ho:(y:Int)%2≠1):
  Ending.returned (.agg #[.int .i64 ((y:Int) / 2),.int .i64 z,.int .i64 0]) = .returned (.agg #[.int .i64 (numAt t a).1,.int .i64 (numAt t a).2.1,.int .i64 (numAt t a).2.2]):=by
 rw[hF]
 unfold unzig
 rw[if_neg (by omega),show ((y:Int) / 2)=((y / 2:Nat):Int) by omega]
theorem getNumAt_i(s:ByteArray)(a:Nat)(ha:a≤1000000000)(hs:s.size≤1000000000)(w:World):
  Gives Tryz.prog 288 #[.string s,.int .i64 a] w (.agg #[.int .i64 (numAt s.data.toList a).1,.int .i64 (numAt s.data.toList a).2.1,.int .i64 (numAt s.data.toList a).2.2]):=by
 unfold Gives
 have hsz:=size_data s
 have hsz':=hY hsz
 clear hsz
 go_enter Tryz.func288,Tryz.ntmps288
 go_wp2
 go_loopw [5,6] (fun x i wr=>∃(k u:Nat),k≤9∧i = .int .i64 k∧x = .int .u64 u∧u<2 ^ (7*k)∧Hid (gnum (10-k) (s.data.toList.drop (a+k)) k u=gnum 10 (s.data.toList.drop a) 0 0)∧wr=w.alloc (.cells #[.int .i64 0,.int .i64 0,.int .i64 0] 248)) (fun _ i _=>10-(intOf i).toNat)
 case atStart=>exact⟨0,0,by omega,rfl,rfl,by omega,hY rfl,rfl⟩
 case round=>
  obtain⟨k,u,hk,rfl,rfl,hu,HG,rfl⟩:=hrel
  by_cases hin:a+k<s.size
  ·have hG:=HG.out
   rw[show 10-k=(9-k)+1 by omega,gnum_at (by rw[hsz'.out];exact hin)] at hG
   have hbyte:s.data.toList[a+k]'(by rw[hsz'.out];exact hin)=s[a+k]:=rfl
   rw[hbyte] at hG
   have hG':=hY hG
   clear hG hbyte HG
   have hI0:(0:Int)≤(a:Int)+(k:Int):=by omega
   have hI1:(a:Int)+(k:Int)<(s.size:Int):=by omega
   have hb:s[a+k].toNat<256:=s[a+k].toNat_lt
   generalize hbq:s[a+k]=b at *
   by_cases h9:k=9∧1<b.toNat
   ·have HR:Hid (gnum 10 (s.data.toList.drop a) 0 0=(0,0,3)):=by have h:=hG'.out;rw[if_pos h9] at h;exact hY h.symm
    obtain⟨rfl,h1⟩:=h9
    clear hG'
    go_wp2
    refine bodyPost_ret (v := .agg #[.int .i64 0,.int .i64 0,.int .i64 3]) (by simp[results,Tryz.results288,go_sem]) rfl ⟨by rw[numAt_bad HR.out (by decide)],bnew _ _⟩
   ·by_cases h128:128≤b.toNat
    ·have HR:=hG'.out
     rw[if_neg h9,if_pos h128] at HR
     have HR':=hY HR
     have hk9:((k:Int)==9)=false:=by simp;omega
     have hk8:k≤8:=by omega
     have hO:=hY (or_shift (k:=k) (u:=u) (x:=b.toNat%128) hk hu (by omega) (by omega))
     have hp7:=hY (pow7 (b:=b.toNat%128) hu (by omega))
     clear hG' h9 HR
     go_wp2
     refine⟨⟨k+1,u+b.toNat%128*2 ^ (7*k),by omega,by go_num,?_,hp7.out,hY ?_,trivial⟩,by simp[intOf];omega⟩
     ·have h:=hO.out
      rw[show (((b.toNat%128:Nat)):Int)=(b.toNat:Int)%128 by omega] at h
      rw[h]
     ·rw[show 10-(k+1)=9-k by omega,←Nat.add_assoc];exact HR'.out
    ·by_cases h0:b.toNat=0∧0<k
     ·have HR:Hid (gnum 10 (s.data.toList.drop a) 0 0=(0,0,3)):=by have h:=hG'.out;rw[if_neg h9,if_neg h128,if_pos h0] at h;exact hY h.symm
      obtain⟨hb0,hk0⟩:=h0
      have hb0':(b.toNat:Int)=0:=by omega
      clear hG' h9 h128 hb0
      by_cases hk9:k=9
      ·subst hk9
       go_wp2
       refine bodyPost_ret (v := .agg #[.int .i64 0,.int .i64 0,.int .i64 3]) (by simp[results,Tryz.results288,go_sem]) rfl ⟨by rw[numAt_bad HR.out (by decide)],bnew _ _⟩
      ·have hk9':((k:Int)==9)=false:=by simp;omega
       go_wp2
       refine bodyPost_ret (v := .agg #[.int .i64 0,.int .i64 0,.int .i64 3]) (by simp[results,Tryz.results288,go_sem]) rfl ⟨by rw[numAt_bad HR.out (by decide)],bnew _ _⟩
     ·have HR:=hG'.out
      rw[if_neg h9,if_neg h128,if_neg h0] at HR
      have hO:=or_shift (k:=k) (u:=u) (x:=b.toNat%128) hk hu (by omega) (by omega)
      have hL:=acc_lt (k:=k) (u:=u) (x:=b.toNat%128) hk hu (by omega) (by omega)
      rw[show (((b.toNat%128:Nat)):Int)=(b.toNat:Int)%128 by omega] at hO
      have fin:∀(y:Nat),gnum 10 (s.data.toList.drop a) 0 0=(unzig y,k+1,0)→(numAt s.data.toList a=(unzig y,(((a:Int)+k)+1),0)):=fun y h=>by rw[numAt_ok h];simp[Int.add_assoc]
      have hF:=hY (fin _ HR.symm)
      clear fin hG' HR
      by_cases hk9:k=9
      ·subst hk9
       have hb1:b.toNat=1:=by omega
       have hO9:bits BinOp.or IntKind.u64 (u:Int) 9223372036854775808=((u+b.toNat%128*2 ^ (7*9):Nat):Int):=by
        rw[←hO,hb1];rfl
       have hbI:(b.toNat:Int)=1:=by omega
       generalize u+b.toNat%128*2 ^ (7*9)=y at *
       clear hO h9 h128 h0 hb1
       by_cases hodd:(y:Int)%2=1
       ·go_wp2
        refine bodyPost_ret (v := .agg #[.int .i64 (bits BinOp.xor IntKind.i64 (-1) ((y:Int) / 2)),.int .i64 ((a:Int)+9+1),.int .i64 0]) (by simp[results,Tryz.results288,go_sem]) rfl ⟨num_odd hF.out hL hodd,bnew _ _⟩
       ·have hodd':((y:Int)%2==1)=false:=by simpa using hodd
        go_wp2
        refine bodyPost_ret (v := .agg #[.int .i64 ((y:Int) / 2),.int .i64 ((a:Int)+9+1),.int .i64 0]) (by simp[results,Tryz.results288,go_sem]) rfl ⟨num_even hF.out hodd,bnew _ _⟩
      ·have hk9':((k:Int)==9)=false:=by simp;omega
       by_cases hb0:b.toNat=0
       ·obtain rfl:k=0:=by omega
        obtain rfl:u=0:=by omega
        have hbI:(b.toNat:Int)=0:=by omega
        have h00:bits BinOp.or IntKind.u64 0 0=0:=by decide
        rw[hb0] at hF
        have hin':a<s.size:=hin
        have hbq':s[a]=b:=hbq
        clear hO h9 h128 h0 hL hbq
        go_wp2
        refine bodyPost_ret (v := .agg #[.int .i64 0,.int .i64 ((a:Int)+1),.int .i64 0]) (by simp[results,Tryz.results288,go_sem]) rfl ⟨num_even (y:=0) (z:=(a:Int)+1) hF.out (by decide),bnew _ _⟩
       ·have hbI:((b.toNat:Int)==0)=false:=by simp;omega
        generalize u+b.toNat%128*2 ^ (7*k)=y at *
        clear h9 h0
        by_cases hodd:(y:Int)%2=1
        ·go_wp2
         refine bodyPost_ret (v := .agg #[.int .i64 (bits BinOp.xor IntKind.i64 (-1) ((y:Int) / 2)),.int .i64 ((a:Int)+k+1),.int .i64 0]) (by simp[results,Tryz.results288,go_sem]) rfl ⟨num_odd hF.out hL hodd,bnew _ _⟩
        ·have hodd':((y:Int)%2==1)=false:=by simpa using hodd
         go_wp2
         refine bodyPost_ret (v := .agg #[.int .i64 ((y:Int) / 2),.int .i64 ((a:Int)+k+1),.int .i64 0]) (by simp[results,Tryz.results288,go_sem]) rfl ⟨num_even hF.out hodd,bnew _ _⟩
  ·have HR:Hid (gnum 10 (s.data.toList.drop a) 0 0=(0,0,4)):=by
    have h:=HG.out
    rw[show 10-k=(9-k)+1 by omega,gnum_end (by rw[hsz'.out];omega)] at h
    exact hY h.symm
   have hI:¬(a:Int)+(k:Int)<(s.size:Int):=by omega
   clear HG
   go_wp2
   refine bodyPost_ret (v := .agg #[.int .i64 0,.int .i64 0,.int .i64 4]) (by simp[results,Tryz.results288,go_sem]) rfl ⟨by rw[numAt_bad HR.out (by decide)],bnew _ _⟩
end Go.Proofs.YtcabgibdkmgdlaaGreat
namespace Go.Proofs.YtcabgibdkmgdlaaGreat
open Go.RowKit M
theorem getNum_long{t:Bs}{a:Int}(h:8000<t.length):getNum t a=(0,0,2):=by unfold getNum;rw[if_pos h]
theorem getNum_neg{t:Bs}{a:Int}(h:¬ 8000<t.length)(ha:a<0):getNum t a=(0,0,1):=by unfold getNum;rw[if_neg h,if_pos ha]
theorem getNum_at{t:Bs}{a:Int}(h:¬ 8000<t.length)(ha:¬a<0):getNum t a=numAt t a.toNat:=by unfold getNum;rw[if_neg h,if_neg ha]
theorem numAt_end{t:Bs}{a:Nat}(h:t.length≤a):numAt t a=(0,0,4):=numAt_bad (gnum_end h) (by decide)
theorem getNum_i(s:ByteArray)(a:Int)(hs:s.size≤maxLen)(w:World):
  Gives Tryz.prog 207 #[.string s,.int .i64 a] w (.agg #[.int .i64 (getNum s.data.toList a).1,.int .i64 (getNum s.data.toList a).2.1,.int .i64 (getNum s.data.toList a).2.2]):=by
 unfold Gives
 unfold maxLen at hs
 have hsz:=size_data s
 by_cases hl:8000<s.size
 ·have HG:=hY (getNum_long (t:=s.data.toList) (a:=a) (by omega))
  have hl':decide (8000<s.size)=true:=by simpa using hl
  clear hsz
  go_enter Tryz.func207,Tryz.ntmps207
  go_wp2_with (go_at_call 208;refine(isLong_i _ _).use.mono ?_;rw[hl'];rintro e w1 ⟨rfl,hb1⟩;obtain⟨hc1,hf1⟩:=bcell hb1)
  refine bodyPost_ret (v := .agg #[.int .i64 0,.int .i64 0,.int .i64 2]) (by simp[results,Tryz.results207,go_sem,hc1]) rfl ⟨by rw[HG.out],bset (bset (bset (bthen (bnew _ _) hb1) (Nat.le_refl _) _) (Nat.le_refl _) _) (Nat.le_refl _) _⟩
 ·have hl':decide (8000<s.size)=false:=by simpa using hl
  by_cases ha:a<0
  ·have HG:=hY (getNum_neg (t:=s.data.toList) (a:=a) (by omega) ha)
   clear hsz
   go_enter Tryz.func207,Tryz.ntmps207
   go_wp2_with (go_at_call 208;refine(isLong_i _ _).use.mono ?_;rw[hl'];rintro e w1 ⟨rfl,hb1⟩;obtain⟨hc1,hf1⟩:=bcell hb1)
   refine bodyPost_ret (v := .agg #[.int .i64 0,.int .i64 0,.int .i64 1]) (by simp[results,Tryz.results207,go_sem,hc1]) rfl ⟨by rw[HG.out],bset (bset (bset (bthen (bnew _ _) hb1) (Nat.le_refl _) _) (Nat.le_refl _) _) (Nat.le_refl _) _⟩
  ·obtain ⟨n,rfl⟩:=Int.eq_ofNat_of_zero_le (by omega:0≤a)
   have HG0:=hY (getNum_at (t:=s.data.toList) (a:=(n:Int)) (by omega) ha)
   rw[Int.toNat_natCast] at HG0
   by_cases hn:s.size≤n
   ·have HG:Hid (getNum s.data.toList (n:Int)=(0,0,4)):=by rw[HG0.out,numAt_end (by omega)];exact hY rfl
    have hn':(s.size:Int)≤n:=by omega
    clear hsz HG0
    go_enter Tryz.func207,Tryz.ntmps207
    go_wp2_with (go_at_call 208;refine(isLong_i _ _).use.mono ?_;rw[hl'];rintro e w1 ⟨rfl,hb1⟩;obtain⟨hc1,hf1⟩:=bcell hb1)
    refine bodyPost_ret (v := .agg #[.int .i64 0,.int .i64 0,.int .i64 4]) (by simp[results,Tryz.results207,go_sem,hc1]) rfl ⟨by rw[HG.out],bset (bset (bset (bthen (bnew _ _) hb1) (Nat.le_refl _) _) (Nat.le_refl _) _) (Nat.le_refl _) _⟩
   ·have hn':¬(s.size:Int)≤n:=by omega
    clear hsz ha
    go_enter Tryz.func207,Tryz.ntmps207
    go_wp2_with (first
     | (go_at_call 208;refine(isLong_i _ _).use.mono ?_;rw[hl'];rintro e w1 ⟨rfl,hb1⟩;obtain⟨hc1,hf1⟩:=bcell hb1)
     | (go_at_call 288;refine(getNumAt_i s n (by omega) (by omega) _).use.mono ?_;rintro e w2 ⟨rfl,hb2⟩;obtain⟨hc2,hf2⟩:=bcell (bthen hb1 hb2)))
    refine bodyPost_ret (v := .agg #[.int .i64 (numAt s.data.toList n).1,.int .i64 (numAt s.data.toList n).2.1,.int .i64 (numAt s.data.toList n).2.2]) (by simp[results,Tryz.results207,go_sem,hc2]) rfl ⟨by rw[HG0.out],bset (bset (bset (bthen (bnew _ _) (bthen hb1 hb2)) (Nat.le_refl _) _) (Nat.le_refl _) _) (Nat.le_refl _) _⟩
theorem add_shift{k u x:Nat}(hk:k≤9)(hu:u<2 ^ (7*k))(hx:x<128)(h9:k=9→x≤1):
  IntKind.u64.wrap ((u:Int)+IntKind.u64.wrap ((x:Int)*2 ^ (7*k)))=((u+x*2 ^ (7*k):Nat):Int):=by
 have h2:=acc_lt hk hu hx h9
 rw[shl_nat hk hx h9,IntKind.wrap_u64]
 omega
theorem num_odd_s{t:Bs}{a y:Nat}{z:Int}(hF:numAt t a=(unzig y,z,0))(ho:(y:Int)%2=1):
  Ending.returned (.agg #[.int .i64 (-((y:Int) / 2)-1),.int .i64 z,.int .i64 0]) = .returned (.agg #[.int .i64 (numAt t a).1,.int .i64 (numAt t a).2.1,.int .i64 (numAt t a).2.2]):=by
 rw[hF]
 unfold unzig
 rw[if_pos (by omega),show ((y:Int) / 2)=((y / 2:Nat):Int) by omega]
theorem getNumAt_s(s:ByteArray)(a:Nat)(ha:(a:Int)≤9223372036854775807)(hs:s.size≤8000)(w:World):
  Gives Tryz.prog 179 #[.string s,.int .i64 a] w (.agg #[.int .i64 (numAt s.data.toList a).1,.int .i64 (numAt s.data.toList a).2.1,.int .i64 (numAt s.data.toList a).2.2]):=by
 unfold Gives
 have hsz:=size_data s
 have hsz':=hY hsz
 have hs':¬(8000:Int)<s.size:=by omega
 clear hsz
 go_enter Tryz.func179,Tryz.ntmps179
 go_wp2
 go_loopw [5,6] (fun x i wr=>∃(k u:Nat),k≤9∧i = .int .i64 k∧x = .int .u64 u∧u<2 ^ (7*k)∧Hid (gnum (10-k) (s.data.toList.drop (a+k)) k u=gnum 10 (s.data.toList.drop a) 0 0)∧wr=w.alloc (.cells #[.int .i64 0,.int .i64 0,.int .i64 0] 248)) (fun _ i _=>10-(intOf i).toNat)
 case atStart=>exact⟨0,0,by omega,rfl,rfl,by omega,hY rfl,rfl⟩
 case round=>
  obtain⟨k,u,hk,rfl,rfl,hu,HG,rfl⟩:=hrel
  have hk10:(k:Int)<10:=by omega
  by_cases hin:a+k<s.size
  ·have hG:=HG.out
   rw[show 10-k=(9-k)+1 by omega,gnum_at (by rw[hsz'.out];exact hin)] at hG
   have hbyte:s.data.toList[a+k]'(by rw[hsz'.out];exact hin)=s[a+k]:=rfl
   rw[hbyte] at hG
   have hG':=hY hG
   clear hG hbyte HG
   have hI0:(0:Int)≤(a:Int)+(k:Int):=by omega
   have hI1:(a:Int)+(k:Int)<(s.size:Int):=by omega
   have hb:s[a+k].toNat<256:=s[a+k].toNat_lt
   generalize hbq:s[a+k]=b at *
   by_cases h9:k=9∧1<b.toNat
   ·have HR:Hid (gnum 10 (s.data.toList.drop a) 0 0=(0,0,3)):=by have h:=hG'.out;rw[if_pos h9] at h;exact hY h.symm
    obtain⟨rfl,h1⟩:=h9
    clear hG'
    go_wp2
    refine bodyPost_ret (v := .agg #[.int .i64 0,.int .i64 0,.int .i64 3]) (by simp[results,Tryz.results179,go_sem]) rfl ⟨by rw[numAt_bad HR.out (by decide)],bnew _ _⟩
   ·by_cases h128:128≤b.toNat
    ·have HR:=hG'.out
     rw[if_neg h9,if_pos h128] at HR
     have HR':=hY HR
     have hk9:((k:Int)==9)=false:=by simp;omega
     have hk8:k≤8:=by omega
     have hO:=hY (add_shift (k:=k) (u:=u) (x:=b.toNat%128) hk hu (by omega) (by omega))
     have hp7:=hY (pow7 (b:=b.toNat%128) hu (by omega))
     clear hG' h9 HR
     go_wp2
     refine⟨⟨k+1,u+b.toNat%128*2 ^ (7*k),by omega,by go_num,?_,hp7.out,hY ?_,trivial⟩,by simp[intOf];omega⟩
     ·have h:=hO.out
      rw[show (((b.toNat%128:Nat)):Int)=(b.toNat:Int)%128 by omega] at h
      rw[h]
     ·rw[show 10-(k+1)=9-k by omega,←Nat.add_assoc];exact HR'.out
    ·by_cases h0:b.toNat=0∧0<k
     ·have HR:Hid (gnum 10 (s.data.toList.drop a) 0 0=(0,0,3)):=by have h:=hG'.out;rw[if_neg h9,if_neg h128,if_pos h0] at h;exact hY h.symm
      obtain⟨hb0,hk0⟩:=h0
      have hb0':(b.toNat:Int)=0:=by omega
      clear hG' h9 h128 hb0
      by_cases hk9:k=9
      ·subst hk9
       go_wp2
       refine bodyPost_ret (v := .agg #[.int .i64 0,.int .i64 0,.int .i64 3]) (by simp[results,Tryz.results179,go_sem]) rfl ⟨by rw[numAt_bad HR.out (by decide)],bnew _ _⟩
      ·have hk9':((k:Int)==9)=false:=by simp;omega
       go_wp2
       refine bodyPost_ret (v := .agg #[.int .i64 0,.int .i64 0,.int .i64 3]) (by simp[results,Tryz.results179,go_sem]) rfl ⟨by rw[numAt_bad HR.out (by decide)],bnew _ _⟩
     ·have HR:=hG'.out
      rw[if_neg h9,if_neg h128,if_neg h0] at HR
      have hO:=add_shift (k:=k) (u:=u) (x:=b.toNat%128) hk hu (by omega) (by omega)
      have hL:=acc_lt (k:=k) (u:=u) (x:=b.toNat%128) hk hu (by omega) (by omega)
      rw[show (((b.toNat%128:Nat)):Int)=(b.toNat:Int)%128 by omega] at hO
      have fin:∀(y:Nat),gnum 10 (s.data.toList.drop a) 0 0=(unzig y,k+1,0)→(numAt s.data.toList a=(unzig y,(((a:Int)+k)+1),0)):=fun y h=>by rw[numAt_ok h];simp[Int.add_assoc]
      have hF:=hY (fin _ HR.symm)
      clear fin hG' HR
      by_cases hk9:k=9
      ·subst hk9
       have hb1:b.toNat=1:=by omega
       have hO9:IntKind.u64.wrap ((u:Int)+9223372036854775808)=((u+b.toNat%128*2 ^ (7*9):Nat):Int):=by
        rw[←hO,hb1];rfl
       have hbI:(b.toNat:Int)=1:=by omega
       generalize u+b.toNat%128*2 ^ (7*9)=y at *
       clear hO h9 h128 h0 hb1
       by_cases hodd:(y:Int)%2=1
       ·go_wp2
        refine bodyPost_ret (v := .agg #[.int .i64 (-((y:Int) / 2)-1),.int .i64 ((a:Int)+9+1),.int .i64 0]) (by simp[results,Tryz.results179,go_sem]) rfl ⟨num_odd_s hF.out hodd,bnew _ _⟩
       ·have hodd':((y:Int)%2==1)=false:=by simpa using hodd
        have hE:=hY (num_even hF.out hodd)
        have hy2:(y:Int) / 2≤9223372036854775807:=by omega
        have hy0:(0:Int)≤(y:Int) / 2:=by omega
        clear hodd hF hb hk hu hk10
        go_wp2
        refine bodyPost_ret (v := .agg #[.int .i64 ((y:Int) / 2),.int .i64 ((a:Int)+9+1),.int .i64 0]) (by simp[results,Tryz.results179,go_sem]) rfl ⟨hE.out,bnew _ _⟩
      ·have hk9':((k:Int)==9)=false:=by simp;omega
       by_cases hb0:b.toNat=0
       ·obtain rfl:k=0:=by omega
        obtain rfl:u=0:=by omega
        have hbI:(b.toNat:Int)=0:=by omega
        rw[hb0] at hF
        have hin':a<s.size:=hin
        have hbq':s[a]=b:=hbq
        clear hO h9 h128 h0 hL hbq
        go_wp2
        refine bodyPost_ret (v := .agg #[.int .i64 0,.int .i64 ((a:Int)+1),.int .i64 0]) (by simp[results,Tryz.results179,go_sem]) rfl ⟨num_even (y:=0) (z:=(a:Int)+1) hF.out (by decide),bnew _ _⟩
       ·have hbI:((b.toNat:Int)==0)=false:=by simp;omega
        generalize u+b.toNat%128*2 ^ (7*k)=y at *
        clear h9 h0
        by_cases hodd:(y:Int)%2=1
        ·go_wp2
         refine bodyPost_ret (v := .agg #[.int .i64 (-((y:Int) / 2)-1),.int .i64 ((a:Int)+k+1),.int .i64 0]) (by simp[results,Tryz.results179,go_sem]) rfl ⟨num_odd_s hF.out hodd,bnew _ _⟩
        ·have hodd':((y:Int)%2==1)=false:=by simpa using hodd
         go_wp2
         refine bodyPost_ret (v := .agg #[.int .i64 ((y:Int) / 2),.int .i64 ((a:Int)+k+1),.int .i64 0]) (by simp[results,Tryz.results179,go_sem]) rfl ⟨num_even hF.out hodd,bnew _ _⟩
  ·have HR:Hid (gnum 10 (s.data.toList.drop a) 0 0=(0,0,4)):=by
    have h:=HG.out
    rw[show 10-k=(9-k)+1 by omega,gnum_end (by rw[hsz'.out];omega)] at h
    exact hY h.symm
   have hI:(s.size:Int)-(k:Int)≤(a:Int):=by omega
   clear HG
   go_wp2
   refine bodyPost_ret (v := .agg #[.int .i64 0,.int .i64 0,.int .i64 4]) (by simp[results,Tryz.results179,go_sem]) rfl ⟨by rw[numAt_bad HR.out (by decide)],bnew _ _⟩
theorem getNum_s(s:ByteArray)(a:Int)(hmx:a≤9223372036854775807)(hs:s.size≤maxLen)(w:World):
  Gives Tryz.prog 179 #[.string s,.int .i64 a] w (.agg #[.int .i64 (getNum s.data.toList a).1,.int .i64 (getNum s.data.toList a).2.1,.int .i64 (getNum s.data.toList a).2.2]):=by
 have hsz:=size_data s
 by_cases hl:8000<s.size
 ·have HG:=hY (getNum_long (t:=s.data.toList) (a:=a) (by omega))
  have hl':(8000:Int)<s.size:=by omega
  clear hsz
  unfold Gives
  go_enter Tryz.func179,Tryz.ntmps179
  go_wp2
  refine bodyPost_ret (v := .agg #[.int .i64 0,.int .i64 0,.int .i64 2]) (by simp[results,Tryz.results179,go_sem]) rfl ⟨by rw[HG.out],bnew _ _⟩
 ·by_cases ha:a<0
  ·have HG:=hY (getNum_neg (t:=s.data.toList) (a:=a) (by omega) ha)
   have hl':¬(8000:Int)<s.size:=by omega
   clear hsz
   unfold Gives
   go_enter Tryz.func179,Tryz.ntmps179
   go_wp2
   refine bodyPost_ret (v := .agg #[.int .i64 0,.int .i64 0,.int .i64 1]) (by simp[results,Tryz.results179,go_sem]) rfl ⟨by rw[HG.out],bnew _ _⟩
  ·obtain ⟨n,rfl⟩:=Int.eq_ofNat_of_zero_le (by omega:0≤a)
   have HG0:=getNum_at (t:=s.data.toList) (a:=(n:Int)) (by omega) ha
   rw[Int.toNat_natCast] at HG0
   rw[HG0]
   exact getNumAt_s s n hmx (by omega) w
end Go.Proofs.YtcabgibdkmgdlaaGreat
namespace Go.Proofs.YtcabgibdkmgdlaaGreat.M
theorem unzig_range{y:Nat}(h:y<18446744073709551616): -9223372036854775808≤unzig y∧unzig y≤9223372036854775807:=by
 unfold unzig;split <;> omega
theorem gnum_range:∀(f:Nat) (l:Bs) (k u:Nat),k+f=10→u<2 ^ (7*k) →
  (gnum f l k u).2.2≠0∧3≤(gnum f l k u).2.2∧(gnum f l k u).2.2≤4 ∨
  (gnum f l k u).2.2=0∧k+1≤(gnum f l k u).2.1∧(gnum f l k u).2.1≤k+l.length ∧ -9223372036854775808≤(gnum f l k u).1∧(gnum f l k u).1≤9223372036854775807
 | 0,_,_,_,_,_=>by left;simp[gnum]
 | f+1,[],_,_,_,_=>by left;simp[gnum]
 | f+1,b::l,k,u,hk,hu=>by
  unfold gnum
  by_cases h1:k=9∧1<b.toNat
  ·rw[if_pos h1];left;simp
  ·rw[if_neg h1]
   by_cases h2:128≤b.toNat
   ·rw[if_pos h2]
    have:=gnum_range f l (k+1) (u+b.toNat%128*2 ^ (7*k)) (by omega) (pow7 hu (by omega))
    rcases this with h|⟨h,h3,h4,h5⟩
    ·left;exact h
    ·right;refine⟨h,by omega,?_,h5⟩;simp only[List.length_cons];omega
   ·rw[if_neg h2]
    by_cases h3:b.toNat=0∧0<k
    ·rw[if_pos h3];left;simp
    ·rw[if_neg h3]
     right
     refine⟨rfl,Nat.le_refl _,by simp,?_⟩
     refine unzig_range ?_
     by_cases h9:k=9
     ·subst h9
      have:b.toNat%128*2 ^ (7*9)≤1*2 ^ (7*9):=Nat.mul_le_mul_right _ (by omega)
      have h3:(2:Nat) ^ (7*9)=9223372036854775808:=by decide
      omega
     ·have h:=pow7 (b:=b.toNat%128) hu (by omega)
      have h2:=Nat.pow_le_pow_right (n:=2) (by omega) (show 7*(k+1)≤63 by omega)
      have h3:(2:Nat) ^ 63=9223372036854775808:=by decide
      omega
theorem numAt_range(t:Bs)(a:Nat):
  (numAt t a).1=0∧(numAt t a).2.1=0∧(3≤(numAt t a).2.2∧(numAt t a).2.2≤4) ∨
  (numAt t a).2.2=0∧(a:Int)+1≤(numAt t a).2.1∧(numAt t a).2.1≤t.length ∧ -9223372036854775808≤(numAt t a).1∧(numAt t a).1≤9223372036854775807:=by
 have h:=gnum_range 10 (t.drop a) 0 0 (by omega) (by omega)
 unfold numAt
 rcases h with ⟨h,h3⟩|⟨h,h3,h4,h5⟩
 ·rw[if_neg h];left;exact⟨rfl,rfl,h3⟩
 ·rw[if_pos h];right
  rw[List.length_drop] at h4
  refine⟨rfl,?_,?_,h5⟩
  ·show (a:Int)+1≤((a+_:Nat):Int)
   omega
  ·show ((a+_:Nat):Int)≤_
   omega
theorem getNum_range(t:Bs)(a:Int):
  (getNum t a).1=0∧(getNum t a).2.1=0∧(1≤(getNum t a).2.2∧(getNum t a).2.2≤4) ∨
  (getNum t a).2.2=0∧t.length≤8000∧0≤a∧a+1≤(getNum t a).2.1∧(getNum t a).2.1≤t.length ∧ -9223372036854775808≤(getNum t a).1∧(getNum t a).1≤9223372036854775807:=by
 unfold getNum
 by_cases h1:8000<t.length
 ·rw[if_pos h1];left;simp
 ·rw[if_neg h1]
  by_cases h2:a<0
  ·rw[if_pos h2];left;simp
  ·rw[if_neg h2]
   rcases numAt_range t a.toNat with ⟨h3,h4,h5⟩|⟨h3,h4,h5⟩
   ·left;exact⟨h3,h4,by omega⟩
   ·right;exact⟨h3,by omega,by omega,by omega,h5⟩
abbrev TextOut:=Bs × Int × Int
def getText(t:Bs)(a:Int):TextOut:=
 if (getNum t a).2.2≠0 then ([],0,(getNum t a).2.2)
 else if (getNum t a).1<0∨8000<(getNum t a).1 then ([],0,3)
 else if (t.length:Int)<(getNum t a).2.1+(getNum t a).1 then ([],0,4)
 else ((t.drop (getNum t a).2.1.toNat).take (getNum t a).1.toNat,(getNum t a).2.1+(getNum t a).1,0)
def unseal_(t:Bs):TextOut:=
 if 8000<t.length then ([],0,2) else if t.length<4 then ([],0,4)
 else if crcFour (t.take (t.length-4))=t.drop (t.length-4) then (t.take (t.length-4),0,0) else ([],0,5)
def four4(a b c d:Nat):Int:=((a+b*256+c*65536+d*16777216:Nat):Int)
def ofFour(t:Bs):Int:=four4 (t[0]?.getD 0).toNat (t[1]?.getD 0).toNat (t[2]?.getD 0).toNat (t[3]?.getD 0).toNat
abbrev FrameOut:=Int × Bs × Int × Int
def frameRead(t:Bs)(a:Int):FrameOut:=
 if (getText t a).2.2≠0 then (0,[],0,(getText t a).2.2)
 else if (unseal_ (getText t a).1).2.2≠0 then (0,[],0,(unseal_ (getText t a).1).2.2)
 else if (unseal_ (getText t a).1).1.length<4 then (0,[],0,3)
 else if frameOk (ofFour (unseal_ (getText t a).1).1) ((unseal_ (getText t a).1).1.drop 4) then (ofFour (unseal_ (getText t a).1).1,(unseal_ (getText t a).1).1.drop 4,(getText t a).2.1,0)
 else (0,[],0,3)
theorem extract_bs(s:ByteArray)(a b:Nat):s.extract a b=bs ((s.data.toList.drop a).take (b-a)):=by
 apply ByteArray.ext
 simp[bs,ByteArray.data_extract]
 rw[←Array.toList_inj]
 simp[Array.toList_extract,List.extract]
end Go.Proofs.YtcabgibdkmgdlaaGreat.M
namespace Go.Proofs.YtcabgibdkmgdlaaGreat
open Go.RowKit M
theorem getText_eq(t:Bs)(a:Int):getText t a=if (getNum t a).2.2≠0 then ([],0,(getNum t a).2.2)
 else if (getNum t a).1<0∨8000<(getNum t a).1 then ([],0,3)
 else if (t.length:Int)<(getNum t a).2.1+(getNum t a).1 then ([],0,4)
 else ((t.drop (getNum t a).2.1.toNat).take (getNum t a).1.toNat,(getNum t a).2.1+(getNum t a).1,0):=rfl
theorem add_facts{a b:Nat}(h:a+b≤1000000):IntKind.i64.wrap ((a:Int)+b)=(a:Int)+b∧0≤(a:Int)+b∧((a:Int)+b).toNat=a+b:=by
 refine⟨?_,by omega,by omega⟩
 rw[IntKind.wrap_i64];omega
def encTO(x:TextOut):Value := .agg #[.string (bs x.1),.int .i64 x.2.1,.int .i64 x.2.2]
theorem getText_i(s:ByteArray)(a:Int)(hs:s.size≤maxLen)(w:World):
  Gives Tryz.prog 131 #[.string s,.int .i64 a] w (encTO (getText s.data.toList a)):=by
 unfold Gives
 have hr:=getNum_range s.data.toList a
 have hsz:=size_data s
 rw[hsz] at hr
 have hN:=getNum_i s a hs
 have HG:=getText_eq s.data.toList a
 rw[hsz] at HG
 generalize getNum s.data.toList a=x at *
 obtain⟨n,z,c⟩:=x
 dsimp only at hr hN HG
 rcases hr with ⟨rfl,rfl,hc⟩|⟨rfl,hl,h0,h1,h2,h3⟩
 ·have hc':(c==0)=false:=by simp;omega
  have HR:Hid (getText s.data.toList a=([],0,c)):=by rw[HG,if_pos (by omega)];exact hY rfl
  clear hsz HG hs
  go_enter Tryz.func131,Tryz.ntmps131
  go_wp2_with (go_at_call 207;refine(hN _).use.mono ?_;rintro e w1 ⟨rfl,hb1⟩;obtain⟨hc1,hf1,hs1⟩:=bcell1 hb1)
  refine bodyPost_ret (v := .agg #[.string ⟨#[]⟩,.int .i64 0,.int .i64 c]) (by simp[results,Tryz.results131,go_sem,hc1,hs1]) rfl ⟨by rw[HR.out];rfl,?_⟩
  exact bwF
 ·rw[if_neg (by simp)] at HG
  have hCall:∀w,Gives Tryz.prog 71 #[.int .i64 n,.int .i64 0,.int .i64 8000] w (.bool (decide (0≤n)&&decide (n≤8000))):=fun w=>within_i n 0 8000 w
  by_cases hw:0≤n∧n≤8000
  ·obtain ⟨m,rfl⟩:=Int.eq_ofNat_of_zero_le hw.1
   obtain⟨y,rfl⟩:=Int.eq_ofNat_of_zero_le (by omega:0≤z)
   rw[if_neg (by omega)] at HG
   rw[show (decide ((0:Int)≤m)&&decide ((m:Int)≤8000))=true by simp;omega] at hCall
   by_cases hm:(y:Int)+m≤s.size
   ·rw[if_neg (by omega)] at HG
    have HR:Hid (getText s.data.toList a=((s.data.toList.drop y).take m,(y:Int)+m,0)):=hY HG
    have hm':¬(s.size:Int)<(y:Int)+m:=by omega
    have hx:s.extract y (y+m)=bs ((s.data.toList.drop y).take m):=by rw[extract_bs,Nat.add_sub_cancel_left]
    obtain⟨p1,p2,p3⟩:=add_facts (a:=y) (b:=m) (by omega)
    have p1':=hY p1
    have p3':=hY p3
    clear hsz HG hs p1 p3
    go_enter Tryz.func131,Tryz.ntmps131
    go_wp2_with (first
     | (go_at_call 207;refine(hN _).use.mono ?_;rintro e w1 ⟨rfl,hb1⟩;obtain⟨hc1,hf1,hs1⟩:=bcell1 hb1)
     | (go_at_call 71;refine(hCall _).use.mono ?_;rintro e w2 ⟨rfl,hb2⟩;obtain⟨hc2,hf2,hs2⟩:=bcell1 hb2))
    go_region
    go_wp2
    have k:=kept2 hb2 hs1
    refine bodyPost_ret (v := .agg #[.string (bs ((s.data.toList.drop y).take m)),.int .i64 ((y:Int)+m),.int .i64 0]) (by simp[results,Tryz.results131,go_sem,hc1,k]) rfl ⟨by rw[HR.out];rfl,?_⟩
    exact bwF
   ·rw[if_pos (by omega)] at HG
    have HR:Hid (getText s.data.toList a=([],0,4)):=hY HG
    have hm':(s.size:Int)<(y:Int)+m:=by omega
    clear hsz HG hs
    go_enter Tryz.func131,Tryz.ntmps131
    go_wp2_with (first
     | (go_at_call 207;refine(hN _).use.mono ?_;rintro e w1 ⟨rfl,hb1⟩;obtain⟨hc1,hf1,hs1⟩:=bcell1 hb1)
     | (go_at_call 71;refine(hCall _).use.mono ?_;rintro e w2 ⟨rfl,hb2⟩;obtain⟨hc2,hf2,hs2⟩:=bcell1 hb2))
    have k:=kept2 hb2 hs1
    refine bodyPost_ret (v := .agg #[.string ⟨#[]⟩,.int .i64 0,.int .i64 4]) (by simp[results,Tryz.results131,go_sem,hc1,k]) rfl ⟨by rw[HR.out];rfl,?_⟩
    exact bwF
  ·rw[if_pos (by omega)] at HG
   have HR:Hid (getText s.data.toList a=([],0,3)):=hY HG
   rw[show (decide ((0:Int)≤n)&&decide (n≤8000))=false by simp;omega] at hCall
   clear hsz HG hs
   go_enter Tryz.func131,Tryz.ntmps131
   go_wp2_with (first
    | (go_at_call 207;refine(hN _).use.mono ?_;rintro e w1 ⟨rfl,hb1⟩;obtain⟨hc1,hf1,hs1⟩:=bcell1 hb1)
    | (go_at_call 71;refine(hCall _).use.mono ?_;rintro e w2 ⟨rfl,hb2⟩;obtain⟨hc2,hf2,hs2⟩:=bcell1 hb2))
   have k:=kept2 hb2 hs1
   refine bodyPost_ret (v := .agg #[.string ⟨#[]⟩,.int .i64 0,.int .i64 3]) (by simp[results,Tryz.results131,go_sem,hc1,k]) rfl ⟨by rw[HR.out];rfl,?_⟩
   exact bwF
theorem getText_s(s:ByteArray)(a:Int)(ha:a≤9223372036854775807)(hs:s.size≤maxLen)(w:World):
  Gives Tryz.prog 103 #[.string s,.int .i64 a] w (encTO (getText s.data.toList a)):=by
 unfold Gives
 have hr:=getNum_range s.data.toList a
 have hsz:=size_data s
 rw[hsz] at hr
 have hN:=getNum_s s a ha hs
 have HG:=getText_eq s.data.toList a
 rw[hsz] at HG
 generalize getNum s.data.toList a=x at *
 obtain⟨n,z,c⟩:=x
 dsimp only at hr hN HG
 rcases hr with ⟨rfl,rfl,hc⟩|⟨rfl,hl,h0,h1,h2,h3⟩
 ·have hc':(c==0)=false:=by simp;omega
  have HR:Hid (getText s.data.toList a=([],0,c)):=by rw[HG,if_pos (by omega)];exact hY rfl
  clear hsz HG hs
  go_enter Tryz.func103,Tryz.ntmps103
  go_wp2_with (go_at_call 179;refine(hN _).use.mono ?_;rintro e w1 ⟨rfl,hb1⟩;obtain⟨hc1,hf1,hs1⟩:=bcell1 hb1)
  refine bodyPost_ret (v := .agg #[.string ⟨#[]⟩,.int .i64 0,.int .i64 c]) (by simp[results,Tryz.results103,go_sem,hc1,hs1]) rfl ⟨by rw[HR.out];rfl,?_⟩
  exact bwF
 ·rw[if_neg (by simp)] at HG
  have hCall:∀w,Gives Tryz.prog 71 #[.int .i64 n,.int .i64 0,.int .i64 8000] w (.bool (decide (0≤n)&&decide (n≤8000))):=fun w=>within_i n 0 8000 w
  by_cases hw:0≤n∧n≤8000
  ·obtain ⟨m,rfl⟩:=Int.eq_ofNat_of_zero_le hw.1
   obtain⟨y,rfl⟩:=Int.eq_ofNat_of_zero_le (by omega:0≤z)
   rw[if_neg (by omega)] at HG
   rw[show (decide ((0:Int)≤m)&&decide ((m:Int)≤8000))=true by simp;omega] at hCall
   by_cases hm:(y:Int)+m≤s.size
   ·rw[if_neg (by omega)] at HG
    have HR:Hid (getText s.data.toList a=((s.data.toList.drop y).take m,(y:Int)+m,0)):=hY HG
    have hm':¬(s.size:Int)<(y:Int)+m:=by omega
    have hx:s.extract y (y+m)=bs ((s.data.toList.drop y).take m):=by rw[extract_bs,Nat.add_sub_cancel_left]
    obtain⟨p1,p2,p3⟩:=add_facts (a:=y) (b:=m) (by omega)
    have p1':=hY p1
    have p3':=hY p3
    clear hsz HG hs p1 p3
    go_enter Tryz.func103,Tryz.ntmps103
    go_wp2_with (first
     | (go_at_call 179;refine(hN _).use.mono ?_;rintro e w1 ⟨rfl,hb1⟩;obtain⟨hc1,hf1,hs1⟩:=bcell1 hb1)
     | (go_at_call 71;refine(hCall _).use.mono ?_;rintro e w2 ⟨rfl,hb2⟩;obtain⟨hc2,hf2,hs2⟩:=bcell1 hb2))
    go_region
    go_wp2
    refine bodyPost_ret (v := .agg #[.string (bs ((s.data.toList.drop y).take m)),.int .i64 ((y:Int)+m),.int .i64 0]) (by simp[results,Tryz.results103,go_sem,hc1,hs1]) rfl ⟨by rw[HR.out];rfl,?_⟩
    exact bwF
   ·rw[if_pos (by omega)] at HG
    have HR:Hid (getText s.data.toList a=([],0,4)):=hY HG
    have hm':(s.size:Int)<(y:Int)+m:=by omega
    clear hsz HG hs
    go_enter Tryz.func103,Tryz.ntmps103
    go_wp2_with (first
     | (go_at_call 179;refine(hN _).use.mono ?_;rintro e w1 ⟨rfl,hb1⟩;obtain⟨hc1,hf1,hs1⟩:=bcell1 hb1)
     | (go_at_call 71;refine(hCall _).use.mono ?_;rintro e w2 ⟨rfl,hb2⟩;obtain⟨hc2,hf2,hs2⟩:=bcell1 hb2))
    refine bodyPost_ret (v := .agg #[.string ⟨#[]⟩,.int .i64 0,.int .i64 4]) (by simp[results,Tryz.results103,go_sem,hc1,hs1]) rfl ⟨by rw[HR.out];rfl,?_⟩
    exact bwF
  ·rw[if_pos (by omega)] at HG
   have HR:Hid (getText s.data.toList a=([],0,3)):=hY HG
   rw[show (decide ((0:Int)≤n)&&decide (n≤8000))=false by simp;omega] at hCall
   clear hsz HG hs
   go_enter Tryz.func103,Tryz.ntmps103
   go_wp2_with (first
    | (go_at_call 179;refine(hN _).use.mono ?_;rintro e w1 ⟨rfl,hb1⟩;obtain⟨hc1,hf1,hs1⟩:=bcell1 hb1)
    | (go_at_call 71;refine(hCall _).use.mono ?_;rintro e w2 ⟨rfl,hb2⟩;obtain⟨hc2,hf2,hs2⟩:=bcell1 hb2))
   all_goals refine bodyPost_ret (v := .agg #[.string ⟨#[]⟩,.int .i64 0,.int .i64 3]) (by simp[results,Tryz.results103,go_sem,hc1,hs1]) rfl ⟨by rw[HR.out];rfl,?_⟩
   all_goals exact bwF
