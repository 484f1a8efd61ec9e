import Derived.Test.YtcabgibdkmgdlaaGreatVo
import Derived.Test.YtcabgibdkmgdlaaGreatJA
import Derived.Test.YtcabgibdkmgdlaaGreatG1
import Derived.Test.YtcabgibdkmgdlaaGreatJK
set_option linter.unusedSimpArgs false
set_option linter.unusedVariables false
set_option maxRecDepth 100000
set_option maxHeartbeats 4000000
namespace Go.Proofs.YtcabgibdkmgdlaaGreat
open Go.RowKit M
namespace M
def cat{α:Type}(f:α→Bs)(l:List α):Bs:=(l.map f).flatten
theorem z0f{α:Type}{f:α→Bs}{l:List α}{i:Nat}{x:α}(h:l[i]? = some x):cat f (l.take (i+1))=cat f (l.take i)++f x:=by
 obtain⟨hlt,rfl⟩:=List.getElem?_eq_some_iff.1 h
 unfold cat
 rw[List.take_succ_eq_append_getElem hlt,List.map_append,List.flatten_append]
 simp
theorem z0r{α:Type}{f:α→Bs}{b:Nat}:∀ {l:List α},(∀x ∈ l,(f x).length≤b)→(cat f l).length≤b*l.length
 | [],_=>by unfold cat;simp
 | x::l,h=>by
  have h1:=h x (List.mem_cons_self ..)
  have h2:=z0r (l:=l) fun y hy=>h y (List.mem_cons_of_mem _ hy)
  unfold cat at h2 ⊢
  rw[List.map_cons,List.flatten_cons,List.length_append,List.length_cons,Nat.mul_succ]
  omega
theorem z0a{α:Type}{f:α→Bs}{b:Nat}{l:List α}(h:∀x ∈ l,(f x).length≤b)(i:Nat):(cat f (l.take i)).length≤b*l.length:=by
 have h1:=z0r (f:=f) (b:=b) (l:=l.take i) fun x hx=>h x (List.mem_of_mem_take hx)
 have h2:(l.take i).length≤l.length:=by rw[List.length_take];omega
 exact Nat.le_trans h1 (Nat.mul_le_mul_left _ h2)
theorem z0n{t:Bs}{k:Nat}(h:t.length≤k):(putText t).length≤11+k:=by
 unfold putText
 split
 ·rw[List.length_append]
  have:=(putNum_length (t.length:Int)).2
  omega
 ·simp
def z1n:Ta→Bs
 | (((l1,l2),id,ow,_,_,_,(_,_),_,_,_,_),_)=>((putNum l1++putNum l2)++putNum id)++putText ow.data.toList
def z1k:Ta→Bs
 | (((_,_),_,_,need,long,prio,(u1,u2),aft,born,st,start),nodes)=>((((((((putNum need++putNum long)++putNum prio)++putNum u1)++putNum u2)++putNum aft)++putNum born)++putNum st)++putNum start)++putNum nodes.length
def tkB(t:Ta):Bs:=(z1n t++z1k t)++cat putNum t.2
theorem z1s{l1 l2 id need long prio u1 u2 aft born st start:Int}{ow:ByteArray}{nodes:List Int}(h:taskOk (((l1,l2),id,ow,need,long,prio,(u1,u2),aft,born,st,start),nodes)=true):
  (bd l1∧bd l2∧bd id∧bd need∧bd long∧bd prio)∧(bd u1∧bd u2∧bd aft∧bd born∧bd st∧bd start)∧ow.size≤20∧nodes.length≤6∧(∀n ∈ nodes,bd n):=by
 have hr:=z0w h
 unfold taskOk taskHead taskDep taskPlace workOk labelOk isIn at h
 simp only[Bool.and_eq_true,decide_eq_true_eq] at h
 obtain⟨⟨⟨⟨a1,a2⟩,a3,a4⟩,⟨a5,a6⟩,hn,⟨⟨a7,a8⟩,⟨a9,a10⟩,a11,a12⟩,⟨a13,a14⟩,a15,a16⟩,hd,hp⟩:=h
 have hsz:ow.size≤20:=by
  unfold nameOk at hn
  simp only[Bool.and_eq_true,decide_eq_true_eq] at hn
  have:=hn.1.1.2
  simpa using this
 have hu:bd u1∧bd u2∧bd aft:=by
  split at hd
  ·rename_i h0
   obtain⟨h1,h2,h3⟩:=h0
   subst h1 h2 h3
   exact⟨⟨by omega,by omega⟩,⟨by omega,by omega⟩,⟨by omega,by omega⟩⟩
  ·unfold okL labelOk isIn at hd
   simp only[Bool.and_eq_true,decide_eq_true_eq] at hd
   obtain⟨⟨⟨b1,b2⟩,⟨⟨b3,b4⟩,b5,b6⟩,_⟩,_⟩:=hd
   exact⟨⟨by omega,by omega⟩,⟨by omega,by omega⟩,⟨by omega,by omega⟩⟩
 have hs:bd start∧nodes.length≤6:=by
  split at hp
  ·simp only[Bool.and_eq_true,decide_eq_true_eq] at hp
   obtain⟨⟨b1,b2⟩,_,b3⟩:=hp
   exact⟨⟨by omega,by omega⟩,by omega⟩
  ·simp only[Bool.and_eq_true,decide_eq_true_eq] at hp
   exact⟨⟨by omega,by omega⟩,by omega⟩
 refine⟨⟨⟨by omega,by omega⟩,⟨by omega,by omega⟩,⟨by omega,by omega⟩,⟨by omega,by omega⟩,⟨by omega,by omega⟩,⟨by omega,by omega⟩⟩,⟨hu.1,hu.2.1,hu.2.2,⟨by omega,by omega⟩,⟨by omega,by omega⟩,hs.1⟩,hsz,hs.2,fun n hn=>?_⟩
 have:=hr.2.2 n hn
 exact⟨by omega,by omega⟩
theorem z2i{t:Ta}(h:taskOk t=true):(z1n t).length≤64∧(z1k t).length≤110∧(tkB t).length≤240:=by
 obtain⟨⟨⟨l1,l2⟩,id,ow,need,long,prio,⟨u1,u2⟩,aft,born,st,start⟩,nodes⟩:=t
 obtain⟨_,_,hsz,hn6,_⟩:=z1s h
 have hh:(z1n (((l1,l2),id,ow,need,long,prio,(u1,u2),aft,born,st,start),nodes)).length≤64:=by
  unfold z1n
  have h0:=z0n (t:=ow.data.toList) (k:=20) (by simpa using hsz)
  have h1:=(putNum_length l1).2
  have h2:=(putNum_length l2).2
  have h3:=(putNum_length id).2
  simp only[List.length_append]
  omega
 have hr:(z1k (((l1,l2),id,ow,need,long,prio,(u1,u2),aft,born,st,start),nodes)).length≤110:=by
  unfold z1k
  have h1:=(putNum_length need).2
  have h2:=(putNum_length long).2
  have h3:=(putNum_length prio).2
  have h4:=(putNum_length u1).2
  have h5:=(putNum_length u2).2
  have h6:=(putNum_length aft).2
  have h7:=(putNum_length born).2
  have h8:=(putNum_length st).2
  have h9:=(putNum_length start).2
  have h10:=(putNum_length (nodes.length:Int)).2
  simp only[List.length_append]
  omega
 refine⟨hh,hr,?_⟩
 unfold tkB
 have h1:=z0r (f:=putNum) (b:=11) (l:=nodes) fun n _=>(putNum_length n).2
 rw[List.length_append,List.length_append]
 show _+(cat putNum nodes).length≤240
 omega
theorem z6q(a b c:Int):cat putNum [a,b,c]=(putNum a++putNum b)++putNum c:=by unfold cat;simp
theorem z8w(a b c d e f g h i j:Int):cat putNum [a,b,c,d,e,f,g,h,i,j]=((((((((putNum a++putNum b)++putNum c)++putNum d)++putNum e)++putNum f)++putNum g)++putNum h)++putNum i)++putNum j:=by unfold cat;simp
end M
theorem z8y{w:World}{g:Nat}{t E:TypeId}(l:List Int)(h:Blk w g t (l.map (Value.int .i64)).toArray)(hl:l.length≤100):(Ty.sl E tyNum).rd w [.slice (some ⟨g,0,none⟩) l.length l.length] l:=by
 have e:∀l:List Int,RdL tyNum w (l.map (Value.int .i64)) l:=by
  intro l
  induction l with
  | nil=>exact .nil
  | cons x l ih=>exact .cons (cs:=[.int .i64 x]) rfl ih
 refine⟨_,l.map (Value.int .i64),rfl,⟨by rw[List.length_map];exact(Nat.mul_one _).symm,some ⟨g,0,none⟩,l.length,rfl,Nat.le_refl _,by unfold maxLen;omega,fun _=>⟨g,0,rfl,At.blk h fun j u hu=>?_⟩⟩,e l⟩
 rw[Nat.zero_add,←hu]
 simp
theorem z2f(l:List Int)(q:ByteArray)(hq:q=bs (cat putNum l))(hl:l.length≤100)(hb:∀x ∈ l,bd x)(g t:Nat)(w:World)(h:Blk w g t (l.map (Value.int .i64)).toArray):Gives Tryz.prog 84 #[.slice (some ⟨g,0,none⟩) l.length l.length] w (.string q):=by
 have h:=z1d _ l hl hb w (z8y l h hl)
 rw[hq]
 exact h
theorem z4e(t:Ta)(ts:List Value)(hok:taskOk t=true)(w:World)(ht:tyTa.rd w ts t):Gives Tryz.prog 142 #[.agg ts.toArray] w (.string (bs (tkB t))):=by
 have hlen:=z2i hok
 obtain⟨⟨⟨l1,l2⟩,id,ow,need,long,prio,⟨u1,u2⟩,aft,born,st,start⟩,nodes⟩:=t
 obtain⟨⟨y1,y2,y3,y4,y5,y6⟩,⟨y7,y8,y9,y10,y11,y12⟩,hsz,hn6,hbn⟩:=z1s hok
 have c1:=fun w1 hb=>taskRight_i _ ts (by show ow.size≤maxLen;unfold maxLen;omega) w1 (Ty.below _ ht hb)
 rw[hok] at c1
 obtain⟨A,n,k,rfl,h1⟩:=Ta_form ht
 simp only at h1 c1
 have hn:=(slN h1).1
 have c2:=fun w1=>putText_i ow (by unfold maxLen;omega) w1
 have c3:=fun w1 hb=>z1d _ nodes (by omega) hbn w1 (Ty.below _ h1 hb)
 obtain⟨q1,hq1⟩:=nm (bs (cat putNum [l1,l2,id]))
 obtain⟨q2,hq2⟩:=nm (bs (putText ow.data.toList))
 obtain⟨q3,hq3⟩:=nm (bs (cat putNum [need,long,prio,u1,u2,aft,born,st,start,(n:Int)]))
 obtain⟨q4,hq4⟩:=nm (bs (cat putNum nodes))
 have c4:∀g t w1,Blk w1 g t #[.int .i64 l1,.int .i64 l2,.int .i64 id]→Gives Tryz.prog 84 #[.slice (some ⟨g,0,none⟩) 3 3] w1 (.string q1):=fun g t w1 h=>z2f [l1,l2,id] q1 hq1 (by simp) (by
  intro x hx
  simp only[List.mem_cons,List.not_mem_nil,or_false] at hx
  rcases hx with rfl|rfl|rfl <;> assumption) g t w1 h
 have c5:∀g t w1,Blk w1 g t #[.int .i64 need,.int .i64 long,.int .i64 prio,.int .i64 u1,.int .i64 u2,.int .i64 aft,.int .i64 born,.int .i64 st,.int .i64 start,.int .i64 (n:Int)]→Gives Tryz.prog 84 #[.slice (some ⟨g,0,none⟩) 10 10] w1 (.string q3):=fun g t w1 h=>z2f [need,long,prio,u1,u2,aft,born,st,start,(n:Int)] q3 hq3 (by simp) (by
  intro x hx
  simp only[List.mem_cons,List.not_mem_nil,or_false] at hx
  rcases hx with rfl|rfl|rfl|rfl|rfl|rfl|rfl|rfl|rfl|rfl <;> first|assumption|exact⟨by omega,by omega⟩) g t w1 h
 rw[←hq2] at c2
 replace c3:∀w1,Below w.heap.size w w1→Gives Tryz.prog 84 #[.slice A n k] w1 (.string q4):=fun w1 hb=>by rw[hq4];exact c3 w1 hb
 have HZ:Hid (q1++q2++q3++q4=bs (tkB (((l1,l2),id,ow,need,long,prio,(u1,u2),aft,born,st,start),nodes))):=hY (by
  rw[hq1,hq2,hq3,hq4,bs_append,bs_append,bs_append,z6q,z8w,hn]
  rfl)
 have s1:q1.size≤64:=by
  rw[hq1,zsize_bs]
  exact Nat.le_trans (z0r (b:=11) fun n _=>(putNum_length n).2) (by simp)
 have s2:q2.size≤64:=by
  rw[hq2,zsize_bs]
  have:=z0n (t:=ow.data.toList) (k:=20) (by simpa using hsz)
  omega
 have s3:q3.size≤110:=by
  rw[hq3,zsize_bs]
  exact Nat.le_trans (z0r (b:=11) fun n _=>(putNum_length n).2) (by simp)
 have s4:q4.size≤66:=by
  rw[hq4,zsize_bs]
  have:=z0r (f:=putNum) (b:=11) (l:=nodes) fun n _=>(putNum_length n).2
  omega
 obtain⟨z,hz⟩:=nm (bs (tkB (((l1,l2),id,ow,need,long,prio,(u1,u2),aft,born,st,start),nodes)))
 rw[←hz] at HZ ⊢
 clear hz hok hlen ht h1 hn hq1 hq2 hq3 hq4 y1 y2 y3 y4 y5 y6 y7 y8 y9 y10 y11 y12 hbn hsz hn6
 replace c1:∀w1,Below w.heap.size w w1→Gives Tryz.prog 215 #[.agg #[.int .i64 l1,.int .i64 l2,.int .i64 id,.string ow,.int .i64 need,.int .i64 long,.int .i64 prio,.int .i64 u1,.int .i64 u2,.int .i64 aft,.int .i64 born,.int .i64 st,.int .i64 start,.slice A n k]] w1 (.bool true):=c1
 have H:=Hs.start noRow w
 unfold Gives
 show Calls _ _ #[.agg #[.int .i64 l1,.int .i64 l2,.int .i64 id,.string ow,.int .i64 need,.int .i64 long,.int .i64 prio,.int .i64 u1,.int .i64 u2,.int .i64 aft,.int .i64 born,.int .i64 st,.int .i64 start,.slice A n k]] _ _
 go_enter Tryz.func142,Tryz.ntmps142
 go_upto_region 3 with ((first|refine zU ?_|(refine zB 1 ?_;intro b1)|(refine zI ?_;intro nb)|(go_at_call 215;refine gvF (c1 _ H.below) H ?_));clear H;intro wn H)
 apply wp_region_hs (K:=[]) (Spec.V _::Spec.V _::Spec.V _::Spec.V _::Spec.V _::Spec.V _::Spec.V _::Spec.V _::Spec.S _ _ _::Spec.V _::Spec.V _::Spec.V _::Spec.V _::Spec.V _ :: []) 14 H rfl (by simp) (by kernel_rfl) (by kernel_rfl);intro vs Ls;(iterate 8 (refine zhv ?_));(with_reducible apply wpH_S);(focus rfl);(focus rfl);(focus(intro hk w1 H1;unfold OpOk;go_simp;exact now_sl));intro g8 hg8;refine zp ?_;(with_reducible apply(wpH_D 8));(focus rfl);(focus rfl);(focus decide +kernel);(focus decide);(focus(intro hk w1 H1;have hb:Blk w1 _ _ _:=H1.ok _ (List.mem_append_left _ (List.mem_singleton.2 rfl));rw[←hg8] at hb;rw[hg8] at hb;unfold OpOk;go_simp;exact now_call (Gives.rets (c4 _ _ _ hb))));refine zp ?_;(iterate 2 (refine zhv ?_));(with_reducible apply wpH_VK);(focus rfl);(focus rfl);(focus(intro hk w1 H1;unfold OpOk;go_simp;exact now_call (Gives.rets (c2 _))));refine zp ?_;((with_reducible apply wpH_V);(focus rfl);(focus rfl);(focus(intro w1 H1;(with_reducible apply ok_strsum);(focus rfl);(focus rfl);(focus omega);(focus kernel_rfl)));refine zp ?_);refine wpH_0 ?_;intro hok wn Hn;(try simp only[yT,yU,yV,yW] at Hn);clear H;have H:=Hn;clear Hn;(try simp only[←hg8]);clear hg8;clear hok;rotate_left;exact lcG
 go_wp2_with ((first|refine zL ?_|(refine zI ?_;intro nb));clear H;intro wn H)
 refine gvF (c5 _ _ _ (H.blk iF)) H ?_;clear H;intro wn H
 go_wp2_with ((first|refine zU ?_|(go_at_call 84;refine gvF (c3 _ H.below) H ?_));clear H;intro wn H)
 go_ret
 exact⟨by rw[←HZ.out];rfl,H.below⟩
theorem z4c(t:Ta)(ts:List Value)(hok:taskOk t=true)(w:World)(ht:tyTa.rd w ts t):Gives Tryz.prog 112 #[.agg ts.toArray] w (.string (bs (tkB t))):=by
 have hlen:=z2i hok
 obtain⟨⟨⟨l1,l2⟩,id,ow,need,long,prio,⟨u1,u2⟩,aft,born,st,start⟩,nodes⟩:=t
 obtain⟨⟨y1,y2,y3,y4,y5,y6⟩,⟨y7,y8,y9,y10,y11,y12⟩,hsz,hn6,hbn⟩:=z1s hok
 have c1:=fun w1 hb=>taskRight_s _ ts (by show ow.size≤maxLen;unfold maxLen;omega) w1 (Ty.below _ ht hb)
 rw[hok] at c1
 obtain⟨A,n,k,rfl,h1⟩:=Ta_form ht
 simp only at h1 c1
 have hn:=(slN h1).1
 have c2:=fun w1=>putText_s ow (by unfold maxLen;omega) w1
 obtain⟨q2,hq2⟩:=nm (bs (putText ow.data.toList))
 rw[←hq2] at c2
 obtain⟨pn,hpn⟩:∃pn:Int→ByteArray,pn=fun z=>bs (putNum z):=⟨_,rfl⟩
 have c5:∀z,bd z → ∀w1,Gives Tryz.prog 110 #[.int .i64 z] w1 (.string (pn z)):=fun z hz w1=>by rw[hpn];exact putNum_s z hz w1
 have hps:∀z,(pn z).size≤11:=fun z=>by rw[hpn];exact(putNum_length z).2
 have HPN:Hid (∀z,pn z=bs (putNum z)∧(pn z).size≤11):=hY (fun z=>by rw[hpn];exact⟨rfl,(putNum_length z).2⟩)
 have HZ:Hid (pn l1++pn l2++pn id++q2++pn need++pn long++pn prio++pn u1++pn u2++pn aft++pn born++pn st++pn start++pn (n:Int)=bs ((z1n (((l1,l2),id,ow,need,long,prio,(u1,u2),aft,born,st,start),nodes)++z1k (((l1,l2),id,ow,need,long,prio,(u1,u2),aft,born,st,start),nodes))++cat putNum (nodes.take 0))):=hY (by
  rw[hpn,hq2,hn]
  simp only[bs_append]
  unfold z1n z1k
  simp only[List.append_assoc,List.take_zero,show cat putNum [] = [] from rfl,List.append_nil])
 have s2:q2.size≤64:=by
  rw[hq2,zsize_bs]
  have:=z0n (t:=ow.data.toList) (k:=20) (by simpa using hsz)
  omega
 have HN:=hY hn
 have HM:=hY h1
 have HB:=hY hbn
 have HL:=hY (show ∀i,((z1n (((l1,l2),id,ow,need,long,prio,(u1,u2),aft,born,st,start),nodes)++z1k (((l1,l2),id,ow,need,long,prio,(u1,u2),aft,born,st,start),nodes))++cat putNum (nodes.take i)).length≤300 from fun i=>by
  have h1:=z0a (f:=putNum) (b:=11) (l:=nodes) (fun n _=>(putNum_length n).2) i
  rw[List.length_append,List.length_append]
  omega)
 have HT0:Hid (tkB (((l1,l2),id,ow,need,long,prio,(u1,u2),aft,born,st,start),nodes)=(z1n (((l1,l2),id,ow,need,long,prio,(u1,u2),aft,born,st,start),nodes)++z1k (((l1,l2),id,ow,need,long,prio,(u1,u2),aft,born,st,start),nodes))++cat putNum (nodes.take n)):=hY (by rw[hn,List.take_length];rfl)
 obtain⟨z,hz⟩:=nm (bs (tkB (((l1,l2),id,ow,need,long,prio,(u1,u2),aft,born,st,start),nodes)))
 have HZZ:=hY hz
 rw[←hz]
 generalize (z1n (((l1,l2),id,ow,need,long,prio,(u1,u2),aft,born,st,start),nodes)++z1k (((l1,l2),id,ow,need,long,prio,(u1,u2),aft,born,st,start),nodes))=hd at *
 have hbn':bd (n:Int):=⟨by omega,by omega⟩
 have hn9:n≤6:=by omega
 clear hz hok hlen ht h1 hn hq2 hpn hbn hsz hn6
 replace c1:∀w1,Below w.heap.size w w1→Gives Tryz.prog 182 #[.agg #[.int .i64 l1,.int .i64 l2,.int .i64 id,.string ow,.int .i64 need,.int .i64 long,.int .i64 prio,.int .i64 u1,.int .i64 u2,.int .i64 aft,.int .i64 born,.int .i64 st,.int .i64 start,.slice A n k]] w1 (.bool true):=c1
 have H:=Hs.start noRow w
 unfold Gives
 show Calls _ _ #[.agg #[.int .i64 l1,.int .i64 l2,.int .i64 id,.string ow,.int .i64 need,.int .i64 long,.int .i64 prio,.int .i64 u1,.int .i64 u2,.int .i64 aft,.int .i64 born,.int .i64 st,.int .i64 start,.slice A n k]] _ _
 have p1:=hps l1
 have p2:=hps l2
 have p3:=hps id
 have p4:=hps need
 have p5:=hps long
 have p6:=hps prio
 have p7:=hps u1
 have p8:=hps u2
 have p9:=hps aft
 have p10:=hps born
 have p11:=hps st
 have p12:=hps start
 have p13:=hps n
 clear hps
 go_enter Tryz.func112,Tryz.ntmps112
 go_wp2_with (first|((first|refine zM ?_|(refine zB 1 ?_;intro b1)|(go_at_call 182;refine gvF (c1 _ H.below) H ?_));clear H;intro wn H)|(refine zHq 3 ?_;(iterate 3 (all_goals(refine zhFV ?_)));(all_goals(with_reducible refine Qk.mk ?_));(all_goals((with_reducible refine' hq_step ?_ ?_ ?_);rotate_left;rfl;(focus(intro w1 H1;unfold QOk;go_simp;exact q_call (c5 _ (by assumption) _)));(try simp only[yG,yH,yJ,yK]);refine zp ?_));(all_goals(with_reducible refine Qk.out ?_));(iterate 3 (all_goals(refine zhFV ?_)));(all_goals(with_reducible refine Qk.mk ?_));(all_goals((with_reducible refine' hq_step ?_ ?_ ?_);rotate_left;rfl;(focus(intro w1 H1;unfold QOk;go_simp;exact q_call (c5 _ (by assumption) _)));(try simp only[yG,yH,yJ,yK]);refine zp ?_));(all_goals(with_reducible refine Qk.out ?_));(iterate 3 (all_goals(refine zhFV ?_)));(all_goals(with_reducible refine Qk.mk ?_));(all_goals((with_reducible refine' hq_step ?_ ?_ ?_);rotate_left;rfl;(focus(intro w1 H1;unfold QOk;go_simp;exact q_call (c5 _ (by assumption) _)));(try simp only[yG,yH,yJ,yK]);refine zp ?_));(all_goals(with_reducible refine Qk.out ?_));(iterate 3 (all_goals(refine zhFSV ?_)));all_goals refine zHk (fun w1 H1=>c2 _) ?_;(iterate 3 (all_goals(refine zhFSV ?_)));(all_goals(with_reducible refine Qk.mk ?_));(all_goals((with_reducible refine' hq_step ?_ ?_ ?_);rotate_left;rfl;(focus(intro w1 H1;unfold QOk;go_simp;exact q_call (c5 _ (by assumption) _)));(try simp only[yG,yH,yJ,yK]);refine zp ?_));(all_goals(with_reducible refine Qk.out ?_));(iterate 3 (all_goals(refine zhFSV ?_)));(all_goals(with_reducible refine Qk.mk ?_));(all_goals((with_reducible refine' hq_step ?_ ?_ ?_);rotate_left;rfl;(focus(intro w1 H1;unfold QOk;go_simp;exact q_call (c5 _ (by assumption) _)));(try simp only[yG,yH,yJ,yK]);refine zp ?_));(all_goals(with_reducible refine Qk.out ?_));(iterate 3 (all_goals(refine zhFSV ?_)));(all_goals(with_reducible refine Qk.mk ?_));(all_goals((with_reducible refine' hq_step ?_ ?_ ?_);rotate_left;rfl;(focus(intro w1 H1;unfold QOk;go_simp;exact q_call (c5 _ (by assumption) _)));(try simp only[yG,yH,yJ,yK]);refine zp ?_));(all_goals(with_reducible refine Qk.out ?_));(iterate 4 (all_goals(refine zhFSV ?_)));(all_goals(with_reducible refine Qk.mk ?_));(all_goals((with_reducible refine' hq_step ?_ ?_ ?_);rotate_left;rfl;(focus(intro w1 H1;unfold QOk;go_simp;exact q_call (c5 _ (by assumption) _)));(try simp only[yG,yH,yJ,yK]);refine zp ?_));(all_goals(with_reducible refine Qk.out ?_));(iterate 4 (all_goals(refine zhFSV ?_)));(all_goals(with_reducible refine Qk.mk ?_));(all_goals((with_reducible refine' hq_step ?_ ?_ ?_);rotate_left;rfl;(focus(intro w1 H1;unfold QOk;go_simp;exact q_call (c5 _ (by assumption) _)));(try simp only[yG,yH,yJ,yK]);refine zp ?_));(all_goals(with_reducible refine Qk.out ?_));(iterate 3 (all_goals(refine zhFSV ?_)));(all_goals(with_reducible refine Qk.mk ?_));(all_goals((with_reducible refine' hq_step ?_ ?_ ?_);rotate_left;rfl;(focus(intro w1 H1;unfold QOk;go_simp;exact q_call (c5 _ (by assumption) _)));(try simp only[yG,yH,yJ,yK]);refine zp ?_));(all_goals(with_reducible refine Qk.out ?_));(iterate 3 (all_goals(refine zhFSV ?_)));(all_goals(with_reducible refine Qk.mk ?_));(all_goals((with_reducible refine' hq_step ?_ ?_ ?_);rotate_left;rfl;(focus(intro w1 H1;unfold QOk;go_simp;exact q_call (c5 _ (by assumption) _)));(try simp only[yG,yH,yJ,yK]);refine zp ?_));(all_goals(with_reducible refine Qk.out ?_));(iterate 3 (all_goals(refine zhFSV ?_)));(all_goals(with_reducible refine Qk.mk ?_));(all_goals((with_reducible refine' hq_step ?_ ?_ ?_);rotate_left;rfl;(focus(intro w1 H1;unfold QOk;go_simp;exact q_call (c5 _ (by assumption) _)));(try simp only[yG,yH,yJ,yK]);refine zp ?_));(all_goals(with_reducible refine Qk.out ?_));(iterate 3 (all_goals(refine zhFSV ?_)));(all_goals(with_reducible refine Qk.mk ?_));(all_goals((with_reducible refine' hq_step ?_ ?_ ?_);rotate_left;rfl;(focus(intro w1 H1;unfold QOk;go_simp;exact q_call (c5 _ (by assumption) _)));(try simp only[yG,yH,yJ,yK]);refine zp ?_));(all_goals(with_reducible refine Qk.out ?_));(iterate 4 (all_goals(refine zhFSV ?_)));(all_goals(with_reducible refine Qk.mk ?_));(all_goals((with_reducible refine' hq_step ?_ ?_ ?_);rotate_left;rfl;(focus(intro w1 H1;unfold QOk;go_simp;exact q_call (c5 _ (by assumption) _)));(try simp only[yG,yH,yJ,yK]);refine zp ?_));(all_goals(with_reducible refine Qk.out ?_));(iterate 2 (all_goals(refine zhSV ?_)));all_goals(refine zHz ?_;clear H;intro wn H)))
 clear p1 p2 p3 p4 p5 p6 p7 p8 p9 p10 p11 p12 p13 y1 y2 y3 y4 y5 y6 y7 y8 y9 y10 y11 y12 hbn' s2
 go_loopg [3,4] n (fun m tv iv wr=>∃(i:Nat) (t:ByteArray),i+m=n∧iv = .int .i64 i∧tv = .string t∧Hid (t=bs (hd++cat putNum (nodes.take i)))∧Hs noRow w [Hl.blk b1 177 #[.int .i64 l1,.int .i64 l2,.int .i64 id,.string ow,.int .i64 need,.int .i64 long,.int .i64 prio,.int .i64 u1,.int .i64 u2,.int .i64 aft,.int .i64 born,.int .i64 st,.int .i64 start,.slice A n k]] wr)
 case atStart=>exact⟨0,_,by omega,rfl,rfl,HZ,H.sel sF⟩
 case round=>
  clear H HZ
  obtain⟨i,t,hi,rfl,rfl,HT,H⟩:=hrel
  by_cases hlt:i<n
  ·obtain ⟨x,hx⟩:=atE HN hlt
   have hs:=sl_at HM.out hx
   rw[←HN.out] at hs
   obtain⟨b,off,c',cs,hv,hcs,hA⟩:=hs
   injection hv with hv1 hv2 hv3
   subst hv1 hv3
   obtain rfl:cs=encNum x:=hcs
   have h0:w.cell? ⟨b,off+i,none⟩=some (.int .i64 x):=by have h:=hA.head (u := .int .i64 x) rfl;rw[show i*tyNum.s=i from Nat.mul_one i] at h;exact h
   have hbx:=HB.out x (List.mem_of_getElem? hx)
   have hps:=(HPN.out x).2
   have hts:t.size≤300:=by rw[HT.out,zsize_bs];exact HL.out i
   have HT2:Hid (t++pn x=bs (hd++cat putNum (nodes.take (i+1)))):=hY (by rw[HT.out,(HPN.out x).1,bs_append,z0f hx,List.append_assoc])
   have hlt1:(i:Int)<n:=by omega
   clear hx hv2 hA HT
   go_wp2_with ((first|refine zL ?_|(go_at_call 110;refine gvF (c5 _ (by assumption) _) H ?_));clear H;intro wn H)
   go_roundg (n-(i+1))
   case measure=>omega
   case rel=>exact⟨i+1,_,by omega,by go_num,rfl,HT2,H.sel sF⟩
  ·obtain rfl:i=n:=by omega
   have hlt1:=nlt i
   go_wp2_with (refine zL ?_;clear H;intro wn H)
   go_ret
   exact⟨by rw[HZZ.out,HT0.out,HT.out] <;> rfl,H.below⟩
end Go.Proofs.YtcabgibdkmgdlaaGreat
namespace Go.Proofs.YtcabgibdkmgdlaaGreat
open Go.RowKit M
namespace M
def spB(x:Sp):Bs:=putNum x.1++putNum x.2
def ndB(x:Nd):Bs:=(putNum x.1++putNum x.2.length)++cat spB x.2
def z5g(y:Yd):Bs:=putNum y.2.2.2.2++cat ndB y.2.1
def z1e(l:List Int):Bs:=putNum l.length++cat putNum l
theorem z7y{l:List Sp}(h:spansOk l=true):∀x ∈ l,bd x.1∧bd x.2:=by
 intro n hn
 obtain⟨i,hi,rfl⟩:=List.getElem_of_mem hn
 unfold spansOk at h
 rw[Bool.and_eq_true,allFrom_iff l.length 0 (by omega)] at h
 have h1:=h.1 i (by omega) hi
 unfold spanIn at h1
 rw[List.getElem?_eq_getElem hi] at h1
 unfold spanOk isIn at h1
 simp only[Bool.and_eq_true,decide_eq_true_eq] at h1
 obtain⟨⟨⟨a,b⟩,c,d⟩,_⟩:=h1
 exact⟨⟨by omega,by omega⟩,⟨by omega,by omega⟩⟩
theorem z1r{x:Nd}(h:nodeOk x=true):bd x.1∧x.2.length≤4 ∧ ∀s ∈ x.2,bd s.1∧bd s.2:=by
 unfold nodeOk isIn at h
 simp only[Bool.and_eq_true,decide_eq_true_eq] at h
 obtain⟨⟨a,b⟩,c,d⟩:=h
 exact⟨⟨by omega,by omega⟩,c,z7y d⟩
theorem z4x(x:Sp):(spB x).length≤22:=by
 unfold spB
 rw[List.length_append]
 have h1:=(putNum_length x.1).2
 have h2:=(putNum_length x.2).2
 omega
theorem z7c{x:Nd}(h:nodeOk x=true):(ndB x).length≤110:=by
 unfold ndB
 have h0:=(z1r h).2.1
 have h1:=(putNum_length x.1).2
 have h2:=(putNum_length (x.2.length:Int)).2
 have h3:=z0r (f:=spB) (b:=22) (l:=x.2) fun x _=>z4x x
 simp only[List.length_append]
 omega
theorem z3d{l:List Int}{k:Nat}(h:l.length≤k):(z1e l).length≤11+11*k:=by
 unfold z1e
 have h2:=(putNum_length (l.length:Int)).2
 have h3:=z0r (f:=putNum) (b:=11) (l:=l) fun x _=>(putNum_length x).2
 rw[List.length_append]
 have:=Nat.mul_le_mul_left 11 h
 omega
end M
theorem z6k(x y:Int)(q:ByteArray)(hq:q=bs (putNum x++putNum y))(hx:bd x)(hy:bd y)(g t:Nat)(w:World)(hb:Blk w g t #[.int .i64 x,.int .i64 y]):Gives Tryz.prog 84 #[.slice (some ⟨g,0,none⟩) 2 2] w (.string q):=z4f x y q hq hx hy g t w hb
theorem z4k(a:St)(cs:List Value)(hnow:bd a.1.2.2.2.2)(hn6:a.1.2.1.length≤6)(hnd:∀x ∈ a.1.2.1,nodeOk x=true)(w:World)(hr:tySt.rd w cs a):Gives Tryz.prog 81 #[.agg cs.toArray] w (.string (bs (z5g a.1))):=by
 obtain⟨A1,n1,k1,A2,n2,k2,A3,n3,k3,A4,n4,k4,A5,n5,k5,A6,n6,k6,A7,n7,k7,rfl,g1,g2⟩:=St_form hr
 obtain⟨_,_,_,_,_,_,_,_,_,_,_,_,_,_,_,_,_,_,ey,_,gn,_,_⟩:=Yd_form g1
 injection ey with e1 ey;injection ey with e2 ey;injection ey with e3 ey;injection ey with e0 ey;injection ey with e4 ey
 rw[←e4] at gn
 clear ey e1 e2 e3 e0 e4 g1 g2 hr
 obtain⟨⟨c,nds,tks,uss,now⟩,m⟩:=a
 simp only at gn hnow hn6 hnd
 have hn4:=(slN gn).1
 have HN:=hY hn4
 have HG:=hY gn
 have HD:=hY hnd
 have hn46:n4≤6:=by omega
 obtain⟨pn,hpn⟩:∃pn:Int→ByteArray,pn=fun z=>bs (putNum z):=⟨_,rfl⟩
 have c5:∀z,bd z → ∀w1,Gives Tryz.prog 83 #[.int .i64 z] w1 (.string (pn z)):=fun z hz w1=>by rw[hpn];exact putNum_i z hz w1
 have HP0:Hid (pn now=bs (putNum now++cat ndB (nds.take 0))):=hY (by rw[hpn,List.take_zero,show cat ndB [] = [] from rfl,List.append_nil])
 have HL:=hY (show ∀i,(putNum now++cat ndB (nds.take i)).length≤700 from fun i=>by
  have h1:=z0a (f:=ndB) (b:=110) (l:=nds) (fun n hn=>z7c (hnd n hn)) i
  have h2:=(putNum_length now).2
  rw[List.length_append]
  omega)
 obtain⟨z,hz⟩:=nm (bs (z5g (c,nds,tks,uss,now)))
 have HZ:Hid (z=bs (putNum now++cat ndB (nds.take n4))):=hY (by rw[hz,hn4,List.take_length];rfl)
 show Gives Tryz.prog _ #[.agg #[.slice A1 n1 k1,.slice A2 n2 k2,.slice A3 n3 k3,.int .i64 c.2.2.2,.slice A4 n4 k4,.slice A5 n5 k5,.slice A6 n6 k6,.int .i64 now,.slice A7 n7 k7]] w (.string (bs (z5g (c,nds,tks,uss,now))))
 rw[←hz]
 generalize hpw:putNum now=pw at *
 clear hz hpw hn4 hnd gn hn6 hpn
 generalize c.2.2.2=hf at *
 have H:=Hs.start noRow w
 unfold Gives
 go_enter Tryz.func81,Tryz.ntmps81
 go_wp2_with ((first|refine zL ?_|(refine zB 1 ?_;intro b1)|(go_at_call 83;refine gvF (c5 _ hnow _) H ?_));clear H;intro wn H)
 clear c5 hnow
 go_loopg [3,16] n4 (fun m tv iv wr=>∃(i:Nat) (t:ByteArray),i+m=n4∧iv = .int .i64 i∧tv = .string t∧Hid (t=bs (pw++cat ndB (nds.take i)))∧Hs noRow w [] wr)
 case atStart=>exact⟨0,_,by omega,rfl,rfl,HP0,H.sel sF⟩
 case round=>
  clear H HP0
  obtain⟨i,t,hi,rfl,rfl,HT,H⟩:=hrel
  by_cases hlt:i<n4
  ·obtain ⟨x,hx⟩:=atE HN hlt
   have hs:=sl_at HG.out hx
   rw[←HN.out] at hs
   obtain⟨b,off,c',cs,hv,hcs,hA⟩:=hs
   injection hv with hv1 hv2 hv3
   subst hv1 hv3
   obtain⟨B,bn,kb,rfl,gb⟩:=Nd_form hcs
   have hbk:=(slN gb).1
   obtain⟨bx1,bx2,bx3⟩:=z1r (HD.out x (List.mem_of_getElem? hx))
   have hcx:=z0f (f:=ndB) hx
   obtain⟨x1,bk⟩:=x
   simp only at gb hbk bx1 bx2 bx3 hA
   have hA:At w b (off+i*2) [.int .i64 x1,.slice B bn kb]:=hA
   have HNB:=hY hbk
   have HGB:=hY gb
   have HBB:=hY bx3
   have hb4:bn≤4:=by omega
   have hbn:bd (bn:Int):=⟨by omega,by omega⟩
   have hts:t.size≤700:=by rw[HT.out,zsize_bs];exact HL.out i
   obtain⟨q,hq⟩:=nm (bs (putNum x1++putNum bn))
   have hqs:q.size≤22:=by rw[hq,zsize_bs,List.length_append];have h1:=(putNum_length x1).2;have h2:=(putNum_length (bn:Int)).2;omega
   have HT1:Hid (t++q=bs (((pw++cat ndB (nds.take i))++(putNum x1++putNum bn))++cat spB (bk.take 0))):=hY (by rw[HT.out,hq,bs_append,List.take_zero,show cat spB [] = [] from rfl,List.append_nil])
   have HT9:Hid (((pw++cat ndB (nds.take i))++(putNum x1++putNum bn))++cat spB (bk.take bn)=pw++cat ndB (nds.take (i+1))):=hY (by rw[hcx,hbk,List.take_length];unfold ndB;simp only[List.append_assoc])
   have HL2:=hY (show ∀k,(((pw++cat ndB (nds.take i))++(putNum x1++putNum bn))++cat spB (bk.take k)).length≤900 from fun k=>by
    have h0:=HL.out i
    have h1:=z0a (f:=spB) (b:=22) (l:=bk) (fun n _=>z4x n) k
    have h2:=(putNum_length x1).2
    have h3:=(putNum_length (bn:Int)).2
    simp only[List.length_append] at h0 ⊢
    omega)
   have hlt1:(i:Int)<n4:=by omega
   clear hx hv2 hcs gb hbk hcx HT bx3
   go_wp2_with ((first|refine zU ?_|(refine zA 5 ?_;intro b5)|(refine zI ?_;intro nb));clear H;intro wn H)
   refine gvF (z6k x1 bn q hq bx1 hbn _ _ _ (H.blk iF)) H ?_;clear H;intro wn H
   clear hq bx1 hbn
   generalize ((pw++cat ndB (nds.take i))++(putNum x1++putNum (bn:Int)))=hd at *
   go_wp2_with (refine zL ?_;clear H;intro wn H)
   go_loopg [3,32] bn (fun m tv kv wr=>∃(k:Nat) (t:ByteArray),k+m=bn∧kv = .int .i64 k∧tv = .string t∧Hid (t=bs (hd++cat spB (bk.take k)))∧Hs noRow w [] wr)
   case atStart=>exact⟨0,_,by omega,rfl,rfl,HT1,H.sel sF⟩
   case round=>
    clear H HT1 hts hqs
    obtain⟨k,t,hk,rfl,rfl,HT,H⟩:=hrel
    by_cases hlk:k<bn
    ·obtain ⟨y,hy⟩:=atE HNB hlk
     have hs:=sl_at HGB.out hy
     rw[←HNB.out] at hs
     obtain⟨e,eff,c7,cs7,hv,hcs,hA⟩:=hs
     injection hv with hv1 hv2 hv3
     subst hv1 hv3
     obtain rfl:cs7=encSp y:=hcs
     have hby:=HBB.out y (List.mem_of_getElem? hy)
     have hcy:=z0f (f:=spB) hy
     obtain⟨y1,y2⟩:=y
     simp only at hby
     have hA:At w e (eff+k*2) [.int .i64 y1,.int .i64 y2]:=hA
     obtain⟨q,hq⟩:=nm (bs (putNum y1++putNum y2))
     have hqs:q.size≤22:=by rw[hq,zsize_bs,List.length_append];have h1:=(putNum_length y1).2;have h2:=(putNum_length y2).2;omega
     have hts:t.size≤900:=by rw[HT.out,zsize_bs];exact HL2.out k
     have HT3:Hid (t++q=bs (hd++cat spB (bk.take (k+1)))):=hY (by rw[HT.out,hq,bs_append,hcy,List.append_assoc];rfl)
     have hlk1:(k:Int)<bn:=by omega
     clear hy hv2 hcy HT
     go_wp2_with ((first|refine zU ?_|(refine zA 7 ?_;intro b7)|(refine zI ?_;intro nb));clear H;intro wn H)
     refine gvF (z6k y1 y2 q hq hby.1 hby.2 _ _ _ (H.blk iF)) H ?_;clear H;intro wn H
     clear hq
     go_wp2_with (fail)
     go_roundg (bn-(k+1))
     case measure=>omega
     case rel=>exact⟨k+1,_,by omega,by go_num,rfl,HT3,H.sel sF⟩
    ·obtain rfl:k=bn:=by omega
     have hlk1:=nlt k
     have HT2:Hid (t=bs (pw++cat ndB (nds.take (i+1)))):=hY (by rw[HT.out,HT9.out])
     clear HT
     go_wp2_with (fail)
     go_roundg (n4-(i+1))
     case measure=>omega
     case rel=>exact⟨i+1,t,by omega,by go_num,rfl,HT2,H.sel sF⟩
  ·obtain rfl:i=n4:=by omega
   have hlt1:=nlt i
   go_wp2_with (fail)
   go_ret
   exact⟨by rw[HZ.out,HT.out] <;> rfl,H.below⟩
theorem z5e(v:Value)(l:List Int)(hl:l.length≤100)(hb:∀x ∈ l,bd x)(w:World)(hr:(Ty.sl 2 tyNum).rd w [v] l):Gives Tryz.prog 61 #[v] w (.string (bs (z1e l))):=by
 obtain⟨A,c,rfl,_,_⟩:=sl_form hr
 have HR:=hY hr
 have HB:=hY hb
 obtain⟨n,hn⟩:=nm l.length
 rw[←hn] at HR hl ⊢
 have HN:=hY hn
 obtain⟨pn,hpn⟩:∃pn:Int→ByteArray,pn=fun z=>bs (putNum z):=⟨_,rfl⟩
 have c5:∀z,bd z → ∀w1,Gives Tryz.prog 110 #[.int .i64 z] w1 (.string (pn z)):=fun z hz w1=>by rw[hpn];exact putNum_s z hz w1
 have HPN:Hid (∀z,pn z=bs (putNum z)∧(pn z).size≤11):=hY (fun z=>by rw[hpn];exact⟨rfl,(putNum_length z).2⟩)
 have HP0:Hid (pn n=bs (putNum n++cat putNum (l.take 0))):=hY (by rw[hpn,List.take_zero,show cat putNum [] = [] from rfl,List.append_nil])
 obtain⟨tz,htz⟩:=nm (bs (z1e l))
 have HZ:Hid (tz=bs (putNum n++cat putNum (l.take n))):=hY (by rw[htz,hn,List.take_length];rfl)
 have HL:=hY (show ∀i,(putNum n++cat putNum (l.take i)).length≤1200 from fun i=>by
  have h1:=z0a (f:=putNum) (b:=11) (l:=l) (fun n _=>(putNum_length n).2) i
  have h2:=(putNum_length (n:Int)).2
  rw[List.length_append]
  omega)
 rw[←htz]
 have hbn:bd (n:Int):=⟨by omega,by omega⟩
 generalize hpw:putNum (n:Int)=pw at *
 clear hr hn hb htz hpn hpw
 have H:=Hs.start noRow w
 unfold Gives
 go_enter Tryz.func61,Tryz.ntmps61
 go_wp2_with (((go_at_call 110;refine gvF (c5 _ (by assumption) _) H ?_));clear H;intro wn H)
 clear hbn
 go_loopg [3,4] n (fun m tv iv wr=>∃(i:Nat) (t:ByteArray),i+m=n∧iv = .int .i64 i∧tv = .string t∧Hid (t=bs (pw++cat putNum (l.take i)))∧Hs noRow w [] wr)
 case atStart=>exact⟨0,_,by omega,rfl,rfl,HP0,H.sel sF⟩
 case round=>
  clear H HP0
  obtain⟨i,t,hi,rfl,rfl,HT,H⟩:=hrel
  by_cases hlt:i<n
  ·obtain ⟨x,b,off,cs,hx,rfl,hv2,hcs,hA⟩:=slE HR HN hlt
   obtain rfl:cs=encNum x:=hcs
   have h0:w.cell? ⟨b,off+i,none⟩=some (.int .i64 x):=by have h:=hA.head (u := .int .i64 x) rfl;rw[show i*tyNum.s=i from Nat.mul_one i] at h;exact h
   have hbx:=HB.out x (List.mem_of_getElem? hx)
   have hps:=(HPN.out x).2
   have hts:t.size≤1200:=by rw[HT.out,zsize_bs];exact HL.out i
   have HT2:Hid (t++pn x=bs (pw++cat putNum (l.take (i+1)))):=hY (by rw[HT.out,(HPN.out x).1,bs_append,z0f hx,List.append_assoc])
   have hlt1:(i:Int)<n:=by omega
   clear hx hv2 hA HT
   go_wp2_with ((first|refine zL ?_|(go_at_call 110;refine gvF (c5 _ (by assumption) _) H ?_));clear H;intro wn H)
   go_roundg (n-(i+1))
   case measure=>omega
   case rel=>exact⟨i+1,_,by omega,by go_num,rfl,HT2,H.sel sF⟩
  ·obtain rfl:i=n:=by omega
   have hlt1:=nlt i
   go_wp2_with (fail)
   go_ret
   exact⟨by rw[HZ.out,HT.out] <;> rfl,H.below⟩
theorem z7s(a:Yd)(cs:List Value)(hnow:bd a.2.2.2.2)(hn6:a.2.1.length≤6)(hnd:∀x ∈ a.2.1,nodeOk x=true)(w:World)(hr:tyYd.rd w cs a):Gives Tryz.prog 59 #[.agg cs.toArray] w (.string (bs (z5g a))):=by
 obtain⟨A1,n1,k1,A2,n2,k2,A3,n3,k3,A4,n4,k4,A5,n5,k5,A6,n6,k6,rfl,_,gn,_,_⟩:=Yd_form hr
 clear hr
 obtain⟨c,nds,tks,uss,now⟩:=a
 simp only at gn hnow hn6 hnd
 have hn4:=(slN gn).1
 have HN:=hY hn4
 have HG:=hY gn
 have HD:=hY hnd
 have hn46:n4≤6:=by omega
 obtain⟨pn,hpn⟩:∃pn:Int→ByteArray,pn=fun z=>bs (putNum z):=⟨_,rfl⟩
 have c5:∀z,bd z → ∀w1,Gives Tryz.prog 110 #[.int .i64 z] w1 (.string (pn z)):=fun z hz w1=>by rw[hpn];exact putNum_s z hz w1
 have HPN:Hid (∀z,pn z=bs (putNum z)∧(pn z).size≤11):=hY (fun z=>by rw[hpn];exact⟨rfl,(putNum_length z).2⟩)
 have HP0:Hid (pn now=bs (putNum now++cat ndB (nds.take 0))):=hY (by rw[hpn,List.take_zero,show cat ndB [] = [] from rfl,List.append_nil])
 have HL:=hY (show ∀i,(putNum now++cat ndB (nds.take i)).length≤700 from fun i=>by
  have h1:=z0a (f:=ndB) (b:=110) (l:=nds) (fun n hn=>z7c (hnd n hn)) i
  have h2:=(putNum_length now).2
  rw[List.length_append]
  omega)
 obtain⟨z,hz⟩:=nm (bs (z5g (c,nds,tks,uss,now)))
 have HZ:Hid (z=bs (putNum now++cat ndB (nds.take n4))):=hY (by rw[hz,hn4,List.take_length];rfl)
 show Gives Tryz.prog _ #[.agg #[.slice A1 n1 k1,.slice A2 n2 k2,.slice A3 n3 k3,.int .i64 c.2.2.2,.slice A4 n4 k4,.slice A5 n5 k5,.slice A6 n6 k6,.int .i64 now]] w (.string (bs (z5g (c,nds,tks,uss,now))))
 rw[←hz]
 generalize hpw:putNum now=pw at *
 clear hz hpw hn4 hnd gn hn6 hpn
 generalize c.2.2.2=hf at *
 have H:=Hs.start noRow w
 unfold Gives
 go_enter Tryz.func59,Tryz.ntmps59
 go_wp2_with ((first|refine zL ?_|(refine zB 1 ?_;intro b1)|(go_at_call 110;refine gvF (c5 _ (by assumption) _) H ?_));clear H;intro wn H)
 go_loopg [3,4] n4 (fun m tv iv wr=>∃(i:Nat) (t:ByteArray),i+m=n4∧iv = .int .i64 i∧tv = .string t∧Hid (t=bs (pw++cat ndB (nds.take i)))∧Hs noRow w [Hl.blk b1 52 #[.slice A1 n1 k1,.slice A2 n2 k2,.slice A3 n3 k3,.int .i64 hf,.slice A4 n4 k4,.slice A5 n5 k5,.slice A6 n6 k6,.int .i64 now]] wr)
 case atStart=>exact⟨0,_,by omega,rfl,rfl,HP0,H.sel sF⟩
 case round=>
  clear H HP0 hnow
  obtain⟨i,t,hi,rfl,rfl,HT,H⟩:=hrel
  by_cases hlt:i<n4
  ·obtain ⟨x,hx⟩:=atE HN hlt
   have hs:=sl_at HG.out hx
   rw[←HN.out] at hs
   obtain⟨b,off,c',cs,hv,hcs,hA⟩:=hs
   injection hv with hv1 hv2 hv3
   subst hv1 hv3
   obtain⟨B,bn,kb,rfl,gb⟩:=Nd_form hcs
   have hbk:=(slN gb).1
   obtain⟨bx1,bx2,bx3⟩:=z1r (HD.out x (List.mem_of_getElem? hx))
   have hcx:=z0f (f:=ndB) hx
   obtain⟨x1,bk⟩:=x
   simp only at gb hbk bx1 bx2 bx3 hA
   have h0:w.cell? ⟨b,off+i*2,none⟩=some (.int .i64 x1):=hA.head (u := .int .i64 x1) rfl
   have h1:w.cell? ⟨b,off+i*2+1,none⟩=some (.slice B bn kb):=hA 1 _ rfl
   have HNB:=hY hbk
   have HGB:=hY gb
   have HBB:=hY bx3
   have hb4:bn≤4:=by omega
   have hbn:bd (bn:Int):=⟨by omega,by omega⟩
   have hts:t.size≤700:=by rw[HT.out,zsize_bs];exact HL.out i
   have p1:=(HPN.out x1).2
   have p2:=(HPN.out bn).2
   have HT1:Hid (t++pn x1++pn bn=bs (((pw++cat ndB (nds.take i))++(putNum x1++putNum bn))++cat spB (bk.take 0))):=hY (by rw[HT.out,(HPN.out x1).1,(HPN.out bn).1,bs_append,bs_append,List.take_zero,show cat spB [] = [] from rfl,List.append_nil,List.append_assoc])
   have HT9:Hid (((pw++cat ndB (nds.take i))++(putNum x1++putNum bn))++cat spB (bk.take bn)=pw++cat ndB (nds.take (i+1))):=hY (by rw[hcx,hbk,List.take_length];unfold ndB;simp only[List.append_assoc])
   have HL2:=hY (show ∀k,(((pw++cat ndB (nds.take i))++(putNum x1++putNum bn))++cat spB (bk.take k)).length≤900 from fun k=>by
    have h0:=HL.out i
    have h1:=z0a (f:=spB) (b:=22) (l:=bk) (fun n _=>z4x n) k
    have h2:=(putNum_length x1).2
    have h3:=(putNum_length (bn:Int)).2
    simp only[List.length_append] at h0 ⊢
    omega)
   have hlt1:(i:Int)<n4:=by omega
   clear hx hv2 hcs gb hbk hcx HT bx3 hA
   generalize ((pw++cat ndB (nds.take i))++(putNum x1++putNum (bn:Int)))=hd at *
   go_wp2_with (first|(refine zL ?_;clear H;intro wn H)|(refine zHq 5 ?_;(iterate 7 (all_goals(refine zhFV ?_)));(all_goals(with_reducible refine Qk.mk ?_));(all_goals((with_reducible refine' hq_step ?_ ?_ ?_);rotate_left;rfl;(focus(intro w1 H1;unfold QOk;go_simp;exact q_call (c5 _ (by assumption) _)));(try simp only[yG,yH,yJ,yK]);refine zp ?_));(all_goals(with_reducible refine Qk.out ?_));(iterate 8 (all_goals(refine zhFV ?_)));(all_goals(with_reducible refine Qk.mk ?_));(all_goals((with_reducible refine' hq_step ?_ ?_ ?_);rotate_left;rfl;(focus(intro w1 H1;unfold QOk;go_simp;exact q_call (c5 _ (by assumption) _)));(try simp only[yG,yH,yJ,yK]);refine zp ?_));(all_goals(with_reducible refine Qk.out ?_));(iterate 2 (all_goals(refine zhSV ?_)));all_goals(refine zHz ?_;clear H;intro wn H)))
   clear p1 p2 bx1 hbn
   go_loopg [3,5] bn (fun m tv kv wr=>∃(k:Nat) (t:ByteArray),k+m=bn∧kv = .int .i64 k∧tv = .string t∧Hid (t=bs (hd++cat spB (bk.take k)))∧Hs noRow w [Hl.blk b1 52 #[.slice A1 n1 k1,.slice A2 n2 k2,.slice A3 n3 k3,.int .i64 hf,.slice (some ⟨b,off,none⟩) n4 k4,.slice A5 n5 k5,.slice A6 n6 k6,.int .i64 now]] wr)
   case atStart=>exact⟨0,_,by omega,rfl,rfl,HT1,H.sel sF⟩
   case round=>
    clear H HT1 hts
    obtain⟨k,t,hk,rfl,rfl,HT,H⟩:=hrel
    by_cases hlk:k<bn
    ·obtain ⟨y,hy⟩:=atE HNB hlk
     have hs:=sl_at HGB.out hy
     rw[←HNB.out] at hs
     obtain⟨e,eff,c7,cs7,hv,hcs,hA⟩:=hs
     injection hv with hv1 hv2 hv3
     subst hv1 hv3
     obtain rfl:cs7=encSp y:=hcs
     have hby:=HBB.out y (List.mem_of_getElem? hy)
     have hcy:=z0f (f:=spB) hy
     obtain⟨y1,y2⟩:=y
     simp only at hby
     have h2:w.cell? ⟨e,eff+k*2,none⟩=some (.int .i64 y1):=hA.head (u := .int .i64 y1) rfl
     have h3:w.cell? ⟨e,eff+k*2+1,none⟩=some (.int .i64 y2):=hA 1 _ rfl
     have hby1:=hby.1
     have hby2:=hby.2
     have p1:=(HPN.out y1).2
     have p2:=(HPN.out y2).2
     have hts:t.size≤900:=by rw[HT.out,zsize_bs];exact HL2.out k
     have HT3:Hid (t++pn y1++pn y2=bs (hd++cat spB (bk.take (k+1)))):=hY (by rw[HT.out,(HPN.out y1).1,(HPN.out y2).1,bs_append,bs_append,hcy,List.append_assoc];unfold spB;simp only[List.append_assoc])
     have hlk1:(k:Int)<bn:=by omega
     clear hy hv2 hcy HT hby hA
     go_wp2_with (first|(refine zL ?_;clear H;intro wn H)|(refine zHq 9 ?_;(iterate 11 (all_goals(refine zhFV ?_)));(all_goals(with_reducible refine Qk.mk ?_));(all_goals((with_reducible refine' hq_step ?_ ?_ ?_);rotate_left;rfl;(focus(intro w1 H1;unfold QOk;go_simp;exact q_call (c5 _ (by assumption) _)));(try simp only[yG,yH,yJ,yK]);refine zp ?_));(all_goals(with_reducible refine Qk.out ?_));(iterate 11 (all_goals(refine zhFV ?_)));(all_goals(with_reducible refine Qk.mk ?_));(all_goals((with_reducible refine' hq_step ?_ ?_ ?_);rotate_left;rfl;(focus(intro w1 H1;unfold QOk;go_simp;exact q_call (c5 _ (by assumption) _)));(try simp only[yG,yH,yJ,yK]);refine zp ?_));(all_goals(with_reducible refine Qk.out ?_));(iterate 2 (all_goals(refine zhSV ?_)));all_goals(refine zHz ?_;clear H;intro wn H)))
     go_roundg (bn-(k+1))
     case measure=>omega
     case rel=>exact⟨k+1,_,by omega,by go_num,rfl,HT3,H.sel sF⟩
    ·obtain rfl:k=bn:=by omega
     have hlk1:=nlt k
     have HT2:Hid (t=bs (pw++cat ndB (nds.take (i+1)))):=hY (by rw[HT.out,HT9.out])
     clear HT
     go_wp2_with (refine zL ?_;clear H;intro wn H)
     go_roundg (n4-(i+1))
     case measure=>omega
     case rel=>exact⟨i+1,t,by omega,by go_num,rfl,HT2,H.sel sF⟩
  ·obtain rfl:i=n4:=by omega
   have hlt1:=nlt i
   go_wp2_with (refine zL ?_;clear H;intro wn H)
   go_ret
   exact⟨by rw[HZ.out,HT.out] <;> rfl,H.below⟩
end Go.Proofs.YtcabgibdkmgdlaaGreat
namespace Go.Proofs.YtcabgibdkmgdlaaGreat
open Go.RowKit M
namespace M
def tkF(a:Lab)(x:Ta):Bs:=if eqB x.1.1 a then tkB x else []
def usF(a:Lab)(x:Us):Bs:=if eqB x.1 a then putText x.2.1.data.toList++putNum x.2.2 else []
def tkN(a:Lab)(l:List Ta):Nat:=l.countP fun x=>eqB x.1.1 a
def ntB(x:Nt):Bs:=putNum x.1++putNum x.2
def z8n(l:List Nt):Bs:=putNum l.length++cat ntB l
def z4j(pr:List Pr)(m:List Bo)(a:Lab)(i:Nat):Bs:=match pr[i]? with
 | some p=>match m[i]? with
  | some b=>if eqB p.1 a then z8n b.2.2 else []
  | none=>[]
 | none=>[]
def z1v(pr:List Pr)(m:List Bo)(a:Lab)(i:Nat):Bs:=match pr[i]? with
 | some p=>match m[i]? with
  | some b=>if eqB p.2.1 a then z1e b.2.1 else []
  | none=>[]
 | none=>[]
def z6u(s:St)(a:Lab):Bs:=((putNum (tkN a s.1.2.2.1)++cat (tkF a) s.1.2.2.1)++putNum (z0o a s.1.2.2.2.1))++cat (usF a) s.1.2.2.2.1
def z3z(s:St)(a:Lab):Bs:=(z6u s a++catTo (z4j s.1.1.2.1 s.2 a) s.1.1.2.1.length)++catTo (z1v s.1.1.2.1 s.2 a) s.1.1.2.1.length
structure Fit (s:St):Prop where
 now:bd s.1.2.2.2.2
 nodes:s.1.2.1.length≤6
 node:∀x ∈ s.1.2.1,nodeOk x=true
 task:∀x ∈ s.1.2.2.1,taskOk x=true
 tasks:s.1.2.2.1.length≤96
 use:∀x ∈ s.1.2.2.2.1,x.2.1.size≤20∧bd x.2.2
 uses:s.1.2.2.2.1.length≤48
 pairs:s.1.1.2.1.length≤4
 boxes:s.2.length=s.1.1.2.1.length
 box:∀b ∈ s.2,((∀n ∈ b.1,bd n)∧(∀n ∈ b.2.1,bd n) ∧ ∀x ∈ b.2.2,bd x.1∧bd x.2)∧b.1.length≤3∧b.2.1.length≤3∧b.2.2.length≤12
theorem z8h{a:Lab}{l:List Ta}{i:Nat}{x:Ta}(h:l[i]? = some x):tkN a (l.take (i+1))=tkN a (l.take i)+(if eqB x.1.1 a then 1 else 0):=by
 obtain⟨hlt,rfl⟩:=List.getElem?_eq_some_iff.1 h
 unfold tkN
 rw[List.take_succ_eq_append_getElem hlt,List.countP_append,List.countP_singleton]
theorem z6p(a:Lab)(l:List Ta):tkN a l≤l.length:=List.countP_le_length
theorem z9a{a:Lab}{x:Ta}(h:taskOk x=true):(tkF a x).length≤240:=by
 unfold tkF
 split
 ·exact (z2i h).2.2
 ·simp
theorem z8x{a:Lab}{x:Us}(h:x.2.1.size≤20):(usF a x).length≤42:=by
 unfold usF
 split
 ·rw[List.length_append]
  have h1:=z0n (t:=x.2.1.data.toList) (k:=20) (by simpa using h)
  have h2:=(putNum_length x.2.2).2
  omega
 ·simp
theorem z4p(x:Nt):(ntB x).length≤22:=by
 unfold ntB
 rw[List.length_append]
 have h1:=(putNum_length x.1).2
 have h2:=(putNum_length x.2).2
 omega
theorem z7t{l:List Nt}(h:l.length≤12):(z8n l).length≤275:=by
 unfold z8n
 have h2:=(putNum_length (l.length:Int)).2
 have h3:=z0r (f:=ntB) (b:=22) (l:=l) fun x _=>z4p x
 rw[List.length_append]
 omega
theorem z3n{pr:List Pr}{m:List Bo}(h:∀b ∈ m,b.2.2.length≤12)(a:Lab)(i:Nat):(z4j pr m a i).length≤275:=by
 unfold z4j
 split
 ·split
  ·rename_i b hb
   split
   ·exact z7t (h b (List.mem_of_getElem? hb))
   ·simp
  ·simp
 ·simp
theorem z2t{pr:List Pr}{m:List Bo}(h:∀b ∈ m,b.2.1.length≤3)(a:Lab)(i:Nat):(z1v pr m a i).length≤44:=by
 unfold z1v
 split
 ·split
  ·rename_i b hb
   split
   ·exact z3d (h b (List.mem_of_getElem? hb))
   ·simp
  ·simp
 ·simp
theorem z5b{pr:List Pr}{m:List Bo}{a:Lab}{i:Nat}{p:Pr}{b:Bo}(hp:pr[i]? = some p)(hb:m[i]? = some b):z4j pr m a i=if eqB p.1 a then z8n b.2.2 else []:=by
 unfold z4j
 rw[hp,hb]
theorem z3k{pr:List Pr}{m:List Bo}{a:Lab}{i:Nat}{p:Pr}{b:Bo}(hp:pr[i]? = some p)(hb:m[i]? = some b):z1v pr m a i=if eqB p.2.1 a then z1e b.2.1 else []:=by
 unfold z1v
 rw[hp,hb]
theorem Fit.head{s:St}(h:Fit s)(a:Lab):(∀i,(cat (tkF a) (s.1.2.2.1.take i)).length≤23040)∧(∀i,(cat (usF a) (s.1.2.2.2.1.take i)).length≤2016)∧(z6u s a).length≤26000:=by
 have h1:=z0a (f:=tkF a) (b:=240) (l:=s.1.2.2.1) fun x hx=>z9a (h.task x hx)
 have h2:=z0a (f:=usF a) (b:=42) (l:=s.1.2.2.2.1) fun x hx=>z8x (h.use x hx).1
 have k1:=h.tasks
 have k2:=h.uses
 have g1:∀i,(cat (tkF a) (s.1.2.2.1.take i)).length≤23040:=fun i=>by have:=h1 i;omega
 have g2:∀i,(cat (usF a) (s.1.2.2.2.1.take i)).length≤2016:=fun i=>by have:=h2 i;omega
 refine⟨g1,g2,?_⟩
 have e1:=g1 s.1.2.2.1.length
 have e2:=g2 s.1.2.2.2.1.length
 rw[List.take_length] at e1 e2
 unfold z6u
 have h3:=(putNum_length (tkN a s.1.2.2.1:Int)).2
 have h4:=(putNum_length (z0o a s.1.2.2.2.1:Int)).2
 simp only[List.length_append]
 omega
end M
