/- What functions of the program compute, each function once: steps over the model, and the plain law of it. -/
import Derived.Test.YtkknmpkcfpdllaaDoorTLaw21
import Derived.Laws.BytesString
import Derived.Test.YtkknmpkcfpdllaaDoorTFacts
import Derived.Test.YtkknmpkcfpdllaaDoorSLogB
import Derived.RangeFuncRecord
import Derived.OrdersIn
import Derived.TacticsIn
import Derived.Test.YtkknmpkcfpdllaaDoorTTreeLawA
import Derived.Test.YtkknmpkcfpdllaaDoorTTreeLaid
namespace Go.Proofs.YtkknmpkcfpdllaaDoor.B
open Go Go.Proofs
set_option linter.unusedVariables false
set_option linter.unusedSimpArgs false
set_option maxRecDepth 20000
set_option maxHeartbeats 8000000
section
variable {P:Program} {ops:Array Oper} {Q:Exit→Act→World→Prop} {a:Act} {w0 w w':World} {D:Sto} {ss:List Seg} {o:Oper} {N:Nat} {env:Env} {K:Act→World→Prop}
def strOf (bs:List Nat):ByteArray:=(bs.map (fun x=>((x:Nat):Int))).foldl (fun r n=>r.push (UInt8.ofNat n.toNat)) ByteArray.empty
theorem r_toString {src dst e:TypeId} {x:Operand} {v:Value} {bs:List Nat} (hI:Inv w0 D ss w) (hx:ev env x=some v) (hr:RB D v bs) (hs:P.underlying src=some (.slice e)) (he:P.underlying e=some (.int .u8)) (hd:P.underlying dst=some .string) :
  RunOp P env w (.convert src dst x) (.string (strOf bs)):=fun _ a o hE ho=>by
 obtain ⟨A,c,rfl,hc,hlt,hA,hat⟩:=hr;have h1:=run_convert_bytes_string (P:=P) w src dst e A bs.length c hs he hd;have h2:(Conv.bytesToString (.slice A bs.length c)).run P w= .ok (.string (strOf bs)) w:=by
  cases bs with
  |nil=>
   cases A with
   |none=>rfl
   |some ad=>
    have:=run_bytesToString (P:=P) w ad 0 c [] (by simpa using run_loadCells_list (P:=P) w ad [] (by simp));simpa [strOf] using this
  |cons y r=>
   obtain ⟨b,off,cs,T,fr,rfl,h7,h8⟩:=hat (by simp);have hld:=run_loadCells_list (P:=P) w ⟨b,off,none⟩ (((y::r).map (fun x=>((x:Nat):Int))).map (Value.int .u8)) (fun j u hu=>by
    rw [addr_add,cell_of (hI.data _ _ h7)];simp only [List.map_map,List.getElem?_map,Option.map_eq_some_iff] at hu;obtain ⟨z,hz,rfl⟩:=hu;exact h8 j z hz)
   simp only [List.length_map] at hld;exact run_bytesToString (P:=P) w ⟨b,off,none⟩ _ c _ hld
 simp [execOp,ho,hE.eval hx,h1,h2]
theorem p_strEql {t t':TypeId} {x y:Operand} {s u:ByteArray} {e:Bool} (hx:ev env x=some (.string s)) (hy:ev env y=some (.string u)) (he:(s.toList==u.toList)=e):PureOp P env (.binOp .eql t x y t') (.bool e):=fun _ a w o hE ho=>by
 have h1:=hE.eval hx;have h2:=hE.eval hy;subst he;simp [execOp,ho,h1,h2,eqGuard,binOp,Op.stringOp,Sem.run]
end
theorem Equal_same {w0 w:World} {D:Sto} {ss:List Seg} (hI:Inv w0 D ss w) {va vb:Value} {ka:List Nat} (ha:RB D va ka) (hb:RB D vb ka) :
  Calls Tryd.prog 88 #[va,vb] w (Ret fun r w'=>r= .bool true∧Inv w0 D ss w'):=by
 obtain ⟨A1,c2,rfl,_⟩:=ha.slice;obtain ⟨A3,c4,rfl,_⟩:=hb.slice;refine enter (N:=10) Tryd.func88 rfl rfl rfl ?_;intro a hE;refine go 5 hE hI ?_;clear hE a;intro a hE;refine zl hE (r_toString hI rfl ha Tryd.underlying34 Tryd.underlying5 Tryd.underlying9) ?_;clear hE a;intro a hE;refine zm hE ?_;clear hE a;intro a hE;refine zl hE (r_toString hI rfl hb Tryd.underlying34 Tryd.underlying5 Tryd.underlying9) ?_;clear hE a;intro a hE;refine zs hE (p_strEql rfl rfl (beq_self_eq_true _)) ?_;clear hE a;intro a hE;refine go 3 hE hI ?_;clear hE a;intro a hE;refine ret1 rfl hE rfl ?_;exact ⟨rfl,hI⟩
theorem TreeS.ptr {D:Sto} {vb vp:Value} {b:Bt} {P:Pl} {s:Seg} (h:TreeS D vb vp b P s): ∃bb,vb= .pointer (some ⟨bb,0,none⟩):=by obtain ⟨sb,sp,_,⟨bb,bo,es,clk,m,vr,sr,h1,_⟩,_⟩:=h;exact ⟨bb,h1⟩
theorem Inv.merge {w0 w:World} {D:Sto} {ss:List Seg} {s1 s2:Seg} (h:Inv w0 D (s1::s2::ss) w):Inv w0 D ((s1++s2)::ss) w:=h.perm (List.Perm.of_eq (by simp))
theorem Inv.right {w0 w:World} {D:Sto} {ss:List Seg} {s1 s2:Seg} (h:Inv w0 D ((s1++s2)::ss) w):Inv w0 D (s2::ss) w:=
 (h.perm (ss':=s1::s2::ss) (List.Perm.of_eq (by simp))).drop
theorem TreeS.join {D:Sto} {vb vp:Value} {b:Bt} {P:Pl} {sb sp:Seg} (h:BatchS D vb vp b sb) (k:PoolS D vp P sp) (hp:b.pool=P.f):TreeS D vb vp b P (sb++sp):=⟨sb,sp,rfl,h,k,hp⟩
theorem BatchS.ptr {D:Sto} {vb vp:Value} {b:Bt} {s:Seg} (h:BatchS D vb vp b s): ∃bb,vb= .pointer (some ⟨bb,0,none⟩):=by obtain ⟨bb,bo,es,clk,m,vr,sr,h1,_⟩:=h;exact ⟨bb,h1⟩
open Go
def wideR (ρ:Option Nat):Fence:={fn:=fun _=>True,depth:=none,alive:=false,round:=ρ}
abbrev QX:=List Deferred→Exit→Act→World→Prop
section
variable {ρ:Option Nat} {P:Program} {ds:List Deferred} {Q:QX} {a:Act} {w w' w0:World} {D:Sto} {ss:List Seg} {ops:Array Oper} {o:Oper} {rest:List Oper} {N:Nat} {env:Env} {K:Act→World→Prop}
def roundTmps (r:Loop) (vs:Array Value):Array Value:=(r.params.zip vs).foldl (fun tmps (t,a)=>tmps.setIfInBounds t a) r.tmps
def RoundAt (P:Program) (l:Nat) (r:Loop) (vs:Array Value) (w:World) (R:Ending→World→Prop):Prop:=RoundIn (wideR none) 0 P l r.fn (roundTmps r vs) r.assign r.body w R
theorem RoundAt.mono {l:Nat} {r:Loop} {vs:Array Value} {R R':Ending→World→Prop} (h:RoundAt P l r vs w R) (hr: ∀e w',R e w'→R' e w'):RoundAt P l r vs w R':=RoundIn.mono h hr
section
variable {Q:Exit→Act→World→Prop}
end
end
theorem Inv.parted {w0 w:World} {D:Sto} {ss:List Seg} {s1 s2:Seg} (h:Inv w0 D ((s1++s2)::ss) w):Inv w0 D (s1::s2::ss) w:=h.perm (List.Perm.of_eq (by simp))
theorem BPut_ok {w0 w:World} {D:Sto} {ss:List Seg} {sb sp:Seg} {vb vp:Value} {b b':Bt} {P:Pl} (hI:Inv w0 D (sb::sp::ss) w) {ad:Nat→Addr} (hS:TSents D ad) (hB:BatchS D vb vp b sb) (hP:PoolS D vp P sp) (hpool:b.pool=P.f) {vk vv:Value} {key val:Bs} (hk:RB D vk key) (hv:RB D vv val) (hlen:b.recs.length≤1000000000 - 8000) (hok:b.put key val= .ok b') :
  Calls Tryd.prog 10 #[vb,vk,vv] w (Ret fun r w'=>r= .nilIface∧ ∃D' sb' sp',Le D D'∧BatchS D' vb vp b' sb'∧PoolS D' vp P sp'∧Inv w0 D' (sb'::sp'::ss) w'):=by
 refine (BPut_spec hI.merge hS (TreeS.join hB hP hpool) hk hv hlen).mono fun e w' h=> ?_;obtain ⟨r,he,h⟩:=h;refine ⟨r,he, ?_⟩;rcases h with ⟨b1,h1,rfl,D',s',hD,hT,hI'⟩|⟨c,o,h1,_⟩
 ·rw [hok] at h1;injection h1 with h1;subst h1
  obtain ⟨sb',sp',rfl,hB',hP',_⟩:=hT;exact ⟨rfl,D',sb',sp',hD,hB',hP',hI'.parted⟩
 rw [hok] at h1;cases h1
theorem BGet_ok {w0 w:World} {D:Sto} {ss:List Seg} {sb sp:Seg} {vb vp:Value} {b:Bt} {P:Pl} (hI:Inv w0 D (sb::sp::ss) w) {ad:Nat→Addr} (hS:TSents D ad) (hB:BatchS D vb vp b sb) (hP:PoolS D vp P sp) (hpool:b.pool=P.f) {vk:Value} {key:Bs} (hk:RB D vk key) {res:Option Bs} (hok:b.get key= .ok res) :
  Calls Tryd.prog 32 #[vb,vk] w (Ret fun r w'=> ∃D' vr sb' sp',Le D D'∧r= .tuple #[vr, .bool res.isSome, .nilIface]∧RB D' vr (res.getD [])∧BatchS D' vb vp b sb'∧PoolS D' vp P sp'∧Inv w0 D' (sb'::sp'::ss) w'):=by
 refine (BGet_spec hI.merge hS (TreeS.join hB hP hpool) hk).mono fun e w' h=> ?_;obtain ⟨r,he,h⟩:=h;refine ⟨r,he, ?_⟩;rcases h with ⟨res',h1,D',vr,hD,rfl,hr,hT,hI'⟩|⟨c,o,h1,_⟩
 ·rw [hok] at h1;injection h1 with h1;subst h1
  obtain ⟨sb',sp',hs,hB',hP',_⟩:=hT;rw [hs] at hI';exact ⟨D',vr,sb',sp',hD,rfl,hr,hB',hP',hI'.parted⟩
 rw [hok] at h1;cases h1
theorem Redo_ok {w0 w:World} {D:Sto} {ss:List Seg} {sb sp:Seg} {vb vp:Value} {b:Bt} {P:Pl} (hI:Inv w0 D (sb::sp::ss) w) {ad:Nat→Addr} (hS:TSents D ad) (hB:BatchS D vb vp b sb) (hP:PoolS D vp P sp) (hpool:b.pool=P.f) (hlen:b.recs.length≤1000000000) :
  Calls Tryd.prog 12 #[vb] w (Ret fun r w'=> ∃D' sb' sp',Le D D'∧DR 10 RcR D' r b.recs∧BatchS D' vb vp b sb'∧PoolS D' vp P sp'∧Inv w0 D' (sb'::sp'::ss) w'):=by
 refine (Redo_spec hI.merge hS (TreeS.join hB hP hpool) hlen).mono fun e w' h=> ?_;obtain ⟨r,he,D',hD,hI',hr,hT⟩:=h;refine ⟨r,he, ?_⟩;obtain ⟨sb',sp',hs,hB',hP',_⟩:=hT;rw [hs] at hI';exact ⟨D',sb',sp',hD,hr,hB',hP',hI'.parted⟩
set_option linter.unnecessarySimpa false
def Chn (V:Vw):Nat→Int→Int→Ens→Prop
 |0,fl,nx,kv=>fl=nx∧kv= []
 |m+1,fl,nx,kv=> ∃x kv2,V fl=some x∧kv=x.ents++kv2∧Chn V m x.next nx kv2
theorem Chn.append {V:Vw} {md nx:Int} {kv2:Ens} {m2:Nat} (h2:Chn V m2 md nx kv2): ∀(m:Nat) {fl:Int} {kv1:Ens},Chn V m fl md kv1→Chn V (m+m2) fl nx (kv1++kv2)
 |0,fl,kv1,h=>by obtain ⟨rfl,rfl⟩:=h;simpa using h2
 |m+1,fl,kv1,h=>by
  obtain ⟨x,k,h3,rfl,h4⟩:=h;rw [show m+1+m2=(m+m2)+1 by omega];exact ⟨x,k++kv2,h3,by rw [List.append_assoc],Chn.append h2 m h4⟩
theorem Chs.chain {C:CP} {V:Vw}: ∀(es:Ens) {lo hi fl nx ids kv},(∀id lo hi fl nx js kv,C id lo hi fl nx js kv→ ∃m,m≤js.length∧Chn V m fl nx kv)→Chs C es lo hi fl nx ids kv→ ∃m,m≤ids.length∧Chn V m fl nx kv
 | [],_,_,_,_,_,_,_,h=>h.elim
 | [e],_,_,_,_,_,_,hC,h=>hC _ _ _ _ _ _ _ h.2
 |e::e2::r,_,_,_,_,_,_,hC,h=>by
  obtain ⟨h0,h1,h2,md,i1,i2,k1,k2,rfl,rfl,h3,h4⟩:=h;obtain ⟨m1,l1,c1⟩:=hC _ _ _ _ _ _ _ h3;obtain ⟨m2,l2,c2⟩:=Chs.chain (e2::r) hC h4;exact ⟨m1+m2,by rw [List.length_append];omega,Chn.append c2 m1 c1⟩
theorem SubT.chain {V:Vw}: ∀(n:Nat) {id lo hi fl nx ids kv},SubT V n id lo hi fl nx ids kv→ ∃m,m≤ids.length∧Chn V m fl nx kv
 |0,id,_,_,_,_,_,_,h=>by
  obtain ⟨rfl,rfl,x,h3,h4,h5,h6,_⟩:=h;exact ⟨1,by simp,x, [],h3,by rw [h6];simp,by rw [h5];exact ⟨rfl,rfl⟩⟩
 |n+1,id,_,_,_,_,_,_,h=>by
  obtain ⟨js,rfl,x,_,_,_,_,_,h7⟩:=h;obtain ⟨m,l,c⟩:=Chs.chain _ (fun _ _ _ _ _ _ _ hs=>SubT.chain n hs) h7;exact ⟨m,by simp only [List.length_cons];omega,c⟩
theorem Chs.sides {C:CP} {V:Vw} (hK: ∀id lo hi fl nx js kv,C id lo hi fl nx js kv→KvOk lo hi kv) (hC: ∀id lo hi fl nx js kv,C id lo hi fl nx js kv→ ∃m,m≤js.length∧Chn V m fl nx kv) :
  ∀(es:Ens) (e:Bs×Bs) {lo hi fl nx ids kv} {key:Bs},Chs C (e::es) lo hi fl nx ids kv→InR lo hi key→
  ∃pre c post lo' hi' fl' nx' ids' kvL kv' kvR m mi,e::es=pre++c::post∧pre.length=cnt key es∧InR lo' hi' key∧c.2.length=2∧C (numberP c.2) lo' hi' fl' nx' ids' kv'∧kv=kvL++kv'++kvR∧
   (∀e∈kvL,ltB e.1 key=true)∧(∀e∈kvR,ltB key e.1=true)∧Chn V m nx' nx kvR∧m+ids'.length+mi=ids.length
 | [],e,lo,hi,fl,nx,ids,kv,key,h,hk=>⟨[],e, [],lo,hi,fl,nx,ids, [],kv, [],0,0,rfl,rfl,hk,h.1,h.2,by simp,by simp,by simp,⟨rfl,rfl⟩,by omega⟩
 |e2::r,e,lo,hi,fl,nx,ids,kv,key,h,hk=>by
  obtain ⟨h0,h1,h2,md,i1,i2,k1,k2,rfl,rfl,h3,h4⟩:=h;by_cases hlt:ltB key e2.1=true
  ·obtain ⟨m,lm,cm⟩:=Chs.chain (e2::r) hC h4;refine ⟨[],e,e2::r,lo,some e2.1,fl,md,i1, [],k1,k2,m,i2.length - m,rfl,by simp [cnt,hlt],⟨hk.1,hlt⟩,h0,h3,by simp,by simp,fun q hq=> ?_,cm,by rw [List.length_append];omega⟩;exact ltB_le_trans hlt ((Chs.kv hK (e2::r) h4).2 q hq).2.1
  have hge:ltB key e2.1=false:=by simpa using hlt
  obtain ⟨pre,c,post,lo',hi',fl',nx',ids',kvL,kv',kvR,m,mi,g1,g2,g3,g4,g5,rfl,g7,g8,g9,g10⟩:=Chs.sides hK hC r e2 h4 ⟨hge,hk.2⟩;refine ⟨e::pre,c,post,lo',hi',fl',nx',ids',k1++kvL,kv',kvR,m,mi+i1.length,by rw [g1];rfl,by simp [cnt,hlt,g2],g3,g4,g5,by simp,fun q hq=> ?_,g8,g9,by rw [List.length_append];omega⟩;rcases List.mem_append.1 hq with q1|q1
  ·have:=((hK _ _ _ _ _ _ _ h3).2 q q1).2.2;exact ltB_le_trans this hge
  exact g7 q q1
theorem down_sides {b:Bt} {key:Bs} (hi0:IdsOk b.view): ∀(n f:Nat) {id lo hi fl nx ids kv} (l:List Pg) (ks:List Nat),n+1≤f→SubT b.view n id lo hi fl nx ids kv→InR lo hi key→
  ∃l' ks' y kvL kvR m,b.downF key f id l ks= .ok (l++l'++ [y],ks++ks')∧kv=kvL++y.ents++kvR∧Sorted y.ents∧(∀e∈kvL,ltB e.1 key=true)∧(∀e∈kvR,ltB key e.1=true)∧Chn b.view m y.next nx kvR∧m+1≤ids.length
 |0,f,id,lo,hi,fl,nx,ids,kv,l,ks,hf,hs,hk=>by
  obtain ⟨f,rfl⟩: ∃g,f=g+1:=⟨f - 1,by omega⟩;obtain ⟨rfl,rfl,y,hy,h1,h2,h3,h4,h5,h6⟩:=hs;subst h3;exact ⟨[], [],y, [], [],0,by rw [Bt.downF,page_of_view hy];simp only [];rw [if_pos h1];simp,by simp,h5,by simp,by simp,⟨h2,rfl⟩,by simp⟩
 |n+1,f,id,lo,hi,fl,nx,ids,kv,l,ks,hf,hs,hk=>by
  obtain ⟨f,rfl⟩: ∃g,f=g+1:=⟨f - 1,by omega⟩;obtain ⟨js,rfl,x,hx,hlv,hxn,hlen,⟨v,r,hes⟩,hch⟩:=hs;rw [hes] at hch;obtain ⟨pre,c,post,lo',hi',fl',nx',ids',kvL,kv',kvR,m,mi,g1,g2,g3,g4,g5,rfl,g7,g8,g9,g10⟩:=Chs.sides (V:=b.view) (fun _ _ _ _ _ _ _ hs=>SubT.kv n hs) (fun _ _ _ _ _ _ _ hs=>SubT.chain n hs) r ([],v) hch hk;have hcp:childP x key=pre.length:=by rw [childP_cnt hes (Chs.rise _ _ hch),g2]
  have hget:x.ents[pre.length]? =some c:=by rw [hes,g1];simp
  have hlt:pre.length<x.ents.length:=by rw [hes,g1];simp
  have hat:atP x (childP x key:Nat)= .ok (numberP c.2):=by
   have hd:x.ents.getD ((pre.length:Int)).toNat ([], [])=c:=by simp [List.getD,hget]
   rw [atP,hcp,if_neg (by omega),hd,if_neg (by simp [g4])]
  obtain ⟨l',ks',z,kL,kR,m2,hr,rfl,w1,w2,w3,w4,w5⟩:=down_sides hi0 n f (l++ [x]) (ks++ [childP x key]) (by omega) g5 g3;refine ⟨x::l',childP x key::ks',z,kvL++kL,kR++kvR,m2+m, ?_,by simp,w1,fun q hq=> ?_,fun q hq=> ?_,Chn.append g9 m2 w4,by simp only [List.length_cons];omega⟩
  ·rw [Bt.downF,page_of_view hx];simp only [];rw [if_neg (by omega),hat];simp only [];rw [hr];simp
  ·rcases List.mem_append.1 hq with q1|q1
   ·exact g7 q q1
   exact w2 q q1
  rcases List.mem_append.1 hq with q1|q1
  ·exact w3 q q1
  exact g8 q q1
def fromKv (key:Bs) (above:Bool):Ens→Option (Bs×Bs)
 | []=>none
 |e::r=>if ltB e.1 key=true∨(above=true∧e.1=key) then fromKv key above r else some e
theorem fromKv_append (key:Bs) (above:Bool) (R:Ens): ∀l:Ens,fromKv key above (l++R)=match fromKv key above l with
  |some e=>some e
  |none=>fromKv key above R
 | []=>rfl
 |e::r=>by
  rw [List.cons_append,fromKv,fromKv];split
  ·exact fromKv_append key above R r
  rfl
theorem fromKv_left {key:Bs} {above:Bool} {l:Ens}: ∀L:Ens,(∀e∈L,ltB e.1 key=true)→fromKv key above (L++l)=fromKv key above l
 | [],_=>rfl
 |e::r,h=>by rw [List.cons_append,fromKv,if_pos (.inl (h e (by simp))),fromKv_left r (fun q hq=>h q (by simp [hq]))]
theorem fromKv_right {key:Bs} {above:Bool} {R:Ens} (h: ∀e∈R,ltB key e.1=true):fromKv key above R=R[0]? :=by
 cases R with
 |nil=>rfl
 |cons e r=>
  have h1:=h e (by simp);rw [fromKv,if_neg]
  ·rfl
  rintro (q|⟨_,q⟩)
  ·rw [ltB_asymm h1] at q;cases q
  rw [q,ltB_irrefl] at h1;cases h1
def fromK (key:Bs) (above:Bool) (l:Ens):Nat:=if (findP l key).2 && above then (findP l key).1+1 else (findP l key).1
theorem fromKv_at {key:Bs} {above:Bool}: ∀l:Ens,Sorted l→fromKv key above l=l[fromK key above l]?
 | [],_=>by simp [fromKv]
 |e::r,hs=>by
  have hs':=List.pairwise_cons.1 hs;have ih:=fromKv_at (key:=key) (above:=above) r hs'.2;rw [fromKv,fromK,findP];by_cases h1:ltB e.1 key=true
  ·rw [if_pos (.inl h1),if_pos h1,ih,fromK];simp only [];split<;>rfl
  rw [if_neg h1];by_cases h2:e.1=key
  ·cases above with
   |true=>
    rw [if_pos (.inr ⟨rfl,h2⟩),fromKv_right (fun q hq=>by rw [←h2];exact hs'.1 q hq)];simp [h2]
   |false=>
    rw [if_neg (by rintro (q|⟨q,_⟩);exact h1 q;cases q)];simp
  rw [if_neg (by rintro (q|⟨_,q⟩);exact h1 q;exact h2 q)];simp [h2]
theorem fromF_law {b:Bt} (ha:AllOk b) {key:Bs} {above:Bool}: ∀(m f:Nat) {x:Pg} {kvR:Ens},m+1≤f→Chn b.view m x.next (-1) kvR→Sorted x.ents→(∀e∈kvR,ltB key e.1=true)→Sorted kvR→
  b.fromF key above f x= .ok (fromKv key above (x.ents++kvR))
 |m,0,x,kvR,hf,_,_,_,_=>by omega
 |m,f+1,x,kvR,hf,hc,hs,hR,hsR=>by
  have hat:=fromKv_at (key:=key) (above:=above) x.ents hs;rw [fromKv_append,hat,Bt.fromF];have hk:(if ((findP x.ents key).2 && above)=true then (findP x.ents key).1+1 else (findP x.ents key).1)=fromK key above x.ents:=rfl;rw [hk];by_cases hlt:fromK key above x.ents<x.ents.length
  ·rw [if_pos hlt,List.getElem?_eq_getElem hlt];simp [List.getD,List.getElem?_eq_getElem hlt]
  rw [if_neg hlt,List.getElem?_eq_none (by omega)];simp only [];cases m with
  |zero=>
   obtain ⟨h1,rfl⟩:=hc;rw [if_pos h1];rfl
  |succ m=>
   obtain ⟨y,k2,hy,rfl,hc2⟩:=hc;have hp:=page_of_view hy;have hrg:=page_lt ha hp;rw [if_neg (by omega),hp];have hsy:=(List.pairwise_append.1 hsR);exact fromF_law ha m f (by omega) hc2 hsy.1 (fun e he=>hR e (by simp [he])) hsy.2.1
theorem Holds.from_ {b:Bt} {kv:Ens} {key:Bs} (h:Holds b kv) (ha:AllOk b) (hl:kv.length≤700) (above:Bool) (hk:key.length≤32):b.from_ key above= .ok (fromKv key above kv):=by have hso:=h.sorted;obtain ⟨n,u,fl,ids,h⟩:=h;obtain ⟨h1,h2⟩:=tr_small h hl;have hc:=h.c;obtain ⟨l',ks',y,kvL,kvR,m,hd,rfl,w1,w2,w3,w4,w5⟩:=down_sides (key:=key) h.g.i n 17 [] [] (by omega) h.s (InR.all key);have hlast:lastPg ([]++l'++ [y])=y:=lastPg_end _ _;have hsR:Sorted kvR:=(List.pairwise_append.1 hso).2.1;rw [Bt.from_,if_neg (by omega),Bt.down,hd];simp only [hlast];rw [List.append_assoc,fromKv_left _ w2];exact fromF_law ha m 256 (by omega) w4 w1 w3 hsR
end Go.Proofs.YtkknmpkcfpdllaaDoor.B
