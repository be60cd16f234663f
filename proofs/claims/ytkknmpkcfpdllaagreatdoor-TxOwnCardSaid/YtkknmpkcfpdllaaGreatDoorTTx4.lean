/- What functions of the program compute, each function once: steps over the model, and the plain law of it. -/
import Derived.Test.YtkknmpkcfpdllaaGreatDoorTTx2
import Derived.Test.YtkknmpkcfpdllaaGreatDoorTFacts
import Derived.Test.YtkknmpkcfpdllaaGreatDoorTScan
import Derived.Test.YtkknmpkcfpdllaaGreatDoorTTreeLaid
import Derived.Test.YtkknmpkcfpdllaaGreatDoorSOrow
import Derived.Test.YtkknmpkcfpdllaaGreatDoorSStr
namespace Go.Proofs.YtkknmpkcfpdllaaGreatDoor.B
open Go Go.Proofs
set_option linter.unusedVariables false
set_option linter.unusedSimpArgs false
set_option maxRecDepth 20000
set_option maxHeartbeats 8000000
theorem putS_new {k:ByteArray} {v:Value}: ∀{m:List (ByteArray×Value)},getS m k=none→putS m k v=m++ [(k,v)]
 | [],_=>rfl
 |(q,x)::r,h=>by
  simp only [getS] at h;split at h
  ·cases h
  rename_i hq;simp only [putS];rw [if_neg hq,putS_new h];rfl
theorem OldR.add {D:Sto} {e:Ent} {vs:List Value} (h:UeR D vs e): ∀{m:List (ByteArray×Value)} {l:List Ent},OldR D m l→OldR D (m++ [(strOf e.key, .agg vs.toArray)]) (l++ [e])
 | [], [],_=>⟨rfl,⟨vs,rfl,h⟩,trivial⟩
 |_::m,_::l,⟨h1,h2,h3⟩=>⟨h1,h2,OldR.add h h3⟩
 | [],_::_,h=>h.elim
 |_::_, [],h=>h.elim
theorem OldR.none {D:Sto} {key:Bs} (hk:Byt key) {m:List (ByteArray×Value)} {l:List Ent} (h:OldR D m l) (hn:lookO l key=none):getS m (strOf key)=none:=by have:=OldR.look hk h;rw [hn] at this;exact this
theorem OpsS.split {D:Sto} {p:Int×Opn}: ∀{l1 l2:List (Int×Opn)} {os:List Seg},OpsS D (l1++p::l2) os→ ∃o1 s o2,os=o1++s::o2∧OpsS D l1 o1∧OpS D p.2 s∧OpsS D l2 o2
 | [],l2,s::os,⟨h1,h2⟩=>⟨[],s,os,rfl,trivial,h1,h2⟩
 |q::l1,l2,s::os,⟨h1,h2⟩=>by
  obtain ⟨o1,s',o2,h3,h4,h5,h6⟩:=OpsS.split h2;exact ⟨s::o1,s',o2,by rw [h3];rfl,⟨h1,h4⟩,h5,h6⟩
 | [],_, [],h=>h.elim
 |_::_,_, [],h=>h.elim
theorem OpsS.join {D:Sto} {p:Int×Opn} {s:Seg}: ∀{l1 l2:List (Int×Opn)} {o1 o2:List Seg},OpsS D l1 o1→OpS D p.2 s→OpsS D l2 o2→OpsS D (l1++p::l2) (o1++s::o2)
 | [],_, [],_,_,h2,h3=>⟨h2,h3⟩
 |_::_,_,_::_,_,⟨h0,h1⟩,h2,h3=>⟨h0,OpsS.join h1 h2 h3⟩
 | [],_,_::_,_,h,_,_=>h.elim
 |_::_,_, [],_,h,_,_=>h.elim
theorem Inv.focus {w0 w:World} {D:Sto} {ss o1 o2:List Seg} {x1 x2 y1 y2:Nat×Obj}:Inv w0 D ((x1::x2::(o1++ [y1,y2]::o2).flatten)::ss) w↔Inv w0 D ([y1]:: [y2]::(x1::x2::(o1++o2).flatten)::ss) w:=by
 have e:((x1::x2::(o1++ [y1,y2]::o2).flatten)::ss).flatten.Perm ([y1]:: [y2]::(x1::x2::(o1++o2).flatten)::ss).flatten:=by simp only [List.flatten_cons,List.flatten_append,List.singleton_append,List.cons_append,List.nil_append,List.append_assoc];exact ((((List.perm_append_comm_assoc o1.flatten [y1,y2] (o2.flatten++ss.flatten)).cons x2).cons x1).trans ((List.perm_append_comm_assoc [x1,x2] [y1,y2] _)))
 exact ⟨fun h=>h.perm e.symm,fun h=>h.perm e⟩
def Opn.wrote (o:Opn) (again:Bool) (e:Ent):Opn:={o with n:=o.n+1,old:=if again then o.old else o.old++ [e]}
theorem write1_spec {w0 w:World} {D:Sto} {ss:List Seg} {o:Opn} {bm clk:Nat} {es:Array MapEntry} {m:List (ByteArray×Value)} {key:Bs} {e:Ent} {again:Bool} {vs:List Value} {vk:Value} {b0 b1 b2 b3 T0 T1 T2 T3:Nat} {f0 f1 f2 f3:Nat×Nat} (hI:Inv w0 D ([(o.bo, .cells #[.int .i64 (o.n:Nat), .map (some bm)] 179 (0,0))]:: [(bm, .map es clk)]::ss) w) (hsm:StrMap es clk m) (hor:OldR D m o.old) (hb0:D b0=some (.cells #[.pointer (some ⟨o.bo,0,none⟩)] T0 f0)) (hb1:D b1=some (.cells #[.bool again] T1 f1)) (hb2:D b2=some (.cells vs.toArray T2 f2)) (hb3:D b3=some (.cells #[vk] T3 f3)) (hue:UeR D vs e) (hk:RB D vk key) (hek:e.key=key) (hag:again=false→lookO o.old key=none) (hn:o.n≤1000000) :
  Calls Tryz.prog 158 #[.pointer (some ⟨b0,0,none⟩), .pointer (some ⟨b1,0,none⟩), .pointer (some ⟨b2,0,none⟩), .pointer (some ⟨b3,0,none⟩)] w (Ret fun r w'=> ∃es' clk' m',Inv w0 D ([(o.bo, .cells #[.int .i64 ((o.wrote again e).n:Nat), .map (some bm)] 179 (0,0))]:: [(bm, .map es' clk')]::ss) w'∧StrMap es' clk' m'∧OldR D m' (o.wrote again e).old):=by
 obtain ⟨ku,vu,rfl,hku,hvu⟩:=hue;have hkb:=hk.byt;obtain ⟨A1,c2,rfl,_⟩:=hk.slice;obtain ⟨A3,c4,rfl,_⟩:=hku.slice;obtain ⟨A5,c6,rfl,_⟩:=hvu.slice;refine enter (N:=20) Tryz.func158 rfl rfl rfl ?_;intro a hE;refine wsr ?_;refine zl hE (f_load rfl scal_176 (hI.data _ _ (hb0)) rfl) ?_;clear hE a;intro a hE;refine zs hE (p_nilCheck rfl) ?_;clear hE a;intro a hE;refine go 2 hE hI ?_;clear hE a;intro a hE;refine zs hE (p_arith (z:=((o.n+1:Nat):Int)) rfl rfl (add_z (by omega) (by omega) (by omega))) ?_;clear hE a;intro a hE;refine zs hE (p_nilCheck rfl) ?_;clear hE a;intro a hE;refine zs hE (p_fieldAddr (m:=0) rfl fo_179_0 rfl) ?_;clear hE a;intro a hE;refine l_step rfl (f_store (l:= [_,_]) (ss':=_::_) 0 hE hI rfl rfl rfl rfl rfl sz_3 (by simp [Value.cells,Value.oneCell',pgCells,rcCells,zPg,errV,zUe]) rfl rfl rfl ?_);clear hI w;intro w hI;refine wnt ?_;refine wp_seq ?_;cases again
 ·refine wp_region_list ?_;refine zl hE (f_load rfl scal_4 (hI.data _ _ (hb1)) rfl) ?_;clear hE a;intro a hE;refine zs hE (p_not rfl) ?_;clear hE a;intro a hE;refine gc 2 hE ?_;refine d_start [7] [] (by kernel_rfl) hI rfl rfl ?_;clear hI w;intro w hI;refine dl 0 hE rfl (fun w hS=>f_load rfl scal_176 (Inv.data hS _ _ (hb0)) rfl) (hI) (listed':= #[true,false,false,false,false,false,false,false]) ?_;clear hE a;intro a hE;refine dp 1 hE rfl (p_nilCheck rfl) (fun _=>hI) ?_;clear hE a;intro a hE;refine dp 2 hE rfl (p_fieldAddr (m:=1) rfl fo_179_1 rfl) (fun _=>hI) ?_;clear hE a;intro a hE;refine dl 3 hE rfl (fun w hS=>f_load rfl scal_177 (Inv.seg 0 hS rfl) rfl) (hI) ?_;clear hE a;intro a hE;refine dl 4 hE rfl (fun w hS=>f_load rfl scal_33 (Inv.data hS _ _ (hb3)) rfl) (hI) ?_;clear hE a;intro a hE;refine dl 5 hE rfl (fun w hS=>r_toString hS rfl hk Tryz.underlying33 Tryz.underlying5 Tryz.underlying9) (hI) ?_;clear hE a;intro a hE;refine dl 6 hE rfl (fun w hS=>f_loadA (vs:= [_,_,_,_,_]) rfl agg_35 (Inv.data hS _ _ (hb2)) rfl rfl) (hI) ?_;clear hE a;intro a hE;refine do1 7 hE rfl ?_;refine so_mapUpdate 1 hE hI rfl (.inl rfl) rfl rfl rfl sk_177 rfl hsm ?_;clear hI w;intro es_7 clk_7 w hm_7 hI;refine ⟨nl, ?_⟩;refine d_done (by kernel_rfl) ?_;refine ret0 rfl hE ?_;exact ⟨_,_,_,hI,hm_7,by
   have hn9:=OldR.none hkb hor (hag rfl);rw [putS_new hn9];have h9:=OldR.add (e:=e) ⟨_,_,rfl,hku,hvu⟩ hor;have e9:strOf e.key=strOf key:=by rw [hek]
   rw [e9] at h9;simpa [Opn.wrote] using h9⟩
 refine wp_region_list ?_;refine zl hE (f_load rfl scal_4 (hI.data _ _ (hb1)) rfl) ?_;clear hE a;intro a hE;refine zs hE (p_not rfl) ?_;clear hE a;intro a hE;refine gc 3 hE ?_;refine ret0 rfl hE ?_;exact ⟨_,_,_,hI,hsm,by simp only [Opn.wrote];exact hor⟩
open Go
set_option linter.unnecessarySimpa false
variable {B:Nat}
theorem HoldsA.from_ {b:Bt} {K:Nat} {kv:Ens} {key:Bs} (h:HoldsA B b K kv) (ha:AllOk b) (above:Bool) (hk:key.length≤32):b.from_ key above= .ok (fromKv key above kv):=by have hso:=h.sorted;obtain ⟨n,av,fl,ids,h⟩:=h;have hn:=h.lvl;have hc:=h.c;obtain ⟨l',ks',y,kvL,kvR,m,hd,rfl,w1,w2,w3,w4,w5⟩:=down_sides (key:=key) h.g.i n 17 [] [] (by omega) h.s (InR.all key);have hlast:lastPg ([]++l'++ [y])=y:=lastPg_end _ _;have hsR:Sorted kvR:=(List.pairwise_append.1 hso).2.1;rw [Bt.from_,if_neg (by omega),Bt.down,hd];simp only [hlast];rw [List.append_assoc,fromKv_left _ w2];exact fromF_law ha m 256 (by omega) w4 w1 w3 hsR
theorem FreeC.frameL {V V':Vw}: ∀(fr:List Int) {f:Int},(∀j∈fr,(V' j).map noL=(V j).map noL)→FreeC V f fr→FreeC V' f fr
 | [],_,_,h=>h
 |j::r,_,hf,⟨h1,h2,h3,y,h4,h5,h6,h7⟩=>by
  obtain ⟨z,hz,e⟩:=map_noL (hf j (by simp)) h4;obtain ⟨_,e1,e2,e3⟩:=noL_eq e;exact ⟨h1,h2,h3,z,hz,by rw [e1];exact h5,by rw [e3];exact h6,by rw [e2];exact FreeC.frameL r (fun k hk=>hf k (by simp [hk])) h7⟩
theorem pw_noL {V V':Vw} {j:Int} (h:(V' j).map noL=(V j).map noL):pw V' j=pw V j:=by
 cases hv:V j with
 |none=>
  rw [hv] at h;have:V' j=none:=by simpa using h
  rw [pw,pw,hv,this]
 |some x=>
  obtain ⟨z,hz,e⟩:=map_noL h hv;rw [pw_some hv,pw_some hz,(noL_eq e).2.2.2]
theorem HoldsA.laid {b b':Bt} {K:Nat} {kv:Ens} (h:HoldsA B b K kv) (hi:IdsOk b'.view) (hv: ∀id,0≤id→id<256→(b'.view id).map noL=(b.view id).map noL):HoldsA B b' K kv:=by
 obtain ⟨n,av,fl,ids,h⟩:=h;have hids: ∀j∈ids,(b'.view j).map noL=(b.view j).map noL:=fun j hj=>by have:=h.g.rgi hj;exact hv j this.1 this.2.1
 have hback: ∀j∈ids,∀x,b'.view j=some x→ ∃y,b.view j=some y∧y.ents=x.ents∧y.level=x.level:=fun j hj x hx=>by
  obtain ⟨y,hy,e⟩:=map_noL (hids j hj).symm hx;exact ⟨y,hy,(noL_eq e).2.2.2,(noL_eq e).2.1⟩
 have h0:(0:Int)∈ids:=by obtain ⟨x,js,_,_,_,e⟩:=h.id0;rw [e];simp
 refine ⟨n,av,fl,ids,⟨⟨?_,hi,h.g.nd,h.g.rg,h.g.a1⟩,SubT.frameL n hids h.s, ?_,h.c, ?_, ?_⟩⟩
 ·obtain ⟨u,f,fr,⟨⟨x,hx,he⟩,c,u1,u2⟩,hav⟩:=h.g.m;obtain ⟨y,hy,e⟩:=map_noL (hv 1 (by omega) (by omega)) hx;exact ⟨u,f,fr,⟨⟨y,hy,by rw [(noL_eq e).2.2.2];exact he⟩,c.frameL fr (fun j hj=>by have:=(FreeC.rg fr c).1 j hj;exact hv j (by omega) this.2),u1,u2⟩,hav⟩
 ·intro j hj hne x hx hl2;obtain ⟨y,hy,e,e2⟩:=hback j hj x hx;rw [←e];exact h.o j hj hne y hy (by omega)
 ·intro x hx hn;obtain ⟨y,hy,e,_⟩:=hback 0 h0 x hx;rw [←e];exact h.r y hy hn
 intro x hx;obtain ⟨y,hy,e,_⟩:=hback 0 h0 x hx;have h1:=h.w y hy;have h2:wt b'.view ids.tail=wt b.view ids.tail:=by
  have: ∀l:List Int,(∀j∈l,j∈ids)→wt b'.view l=wt b.view l:=by
   intro l;induction l with
   |nil=>intro _;rfl
   |cons j l ih=>intro hl;rw [wt_cons,wt_cons,ih (fun k hk=>hl k (by simp [hk])),pw_noL (hids j (hl j (by simp)))]
  exact this _ (fun j hj=>List.mem_of_mem_tail hj)
 rw [h2,←e];exact h1
def PHoldsA (B:Nat) (P:Pl) (n:Int) (K:Nat) (kv:Ens):Prop:=PlOk P n∧HoldsA B (newBt P) K kv
theorem laid_holdsA {P:Pl} {n:Int} {b:Bt} {K:Nat} {kv:Ens} {k:Nat} (hP:PlOk P n) (h1:1≤n) (hr:Runs (newBt P) b k) (hk:n+k≤1099511627777) (hb:HoldsA B b K kv) :
  b.recs.length≤k∧ ∃P',laidP P b.recs n=some (P',n+b.recs.length)∧PHoldsA B P' (n+b.recs.length) K kv:=by
 obtain ⟨rs,r1,r2,r3⟩:=hr;have e0:(newBt P).recs.length=0:=rfl;obtain ⟨⟨P',l1,l2,l3⟩,e1⟩:=LInv.all h1 rs (LInv.new hP) (AllOk.new hP) (by rw [e0];omega) r2 r3;refine ⟨by omega,P',l1,l2,hb.laid (IdsOk.new l2) (fun id i1 i2=> ?_)⟩;rw [newBt_view i1 i2];exact l3 id i1 i2
theorem upTo_nodup (u:Nat):(upTo u).Nodup:=by unfold upTo;refine List.Pairwise.map _ (fun a b h=> ?_) (List.nodup_range' (step:=1) (by omega));simp only [ne_eq] at h ⊢;omega
theorem upTo_len (u:Nat):(upTo u).length=256 - u:=by simp [upTo]
theorem E0_holdsA:PHoldsA B E0 4 0 []:=by
 refine ⟨E0_ok,0,upTo 2,0, [0],⟨⟨?_,IdsOk.new E0_ok, ?_, ?_, ?_⟩, ?_, ?_,by rw [upTo_len];rfl, ?_, ?_⟩⟩
 ·obtain ⟨x,h1,h2⟩:=E0_1;exact ⟨2,0, [],⟨⟨x,by rw [newBt_view (by omega) (by omega)];exact h1,h2⟩,rfl,by omega,by omega⟩,rfl, .inr rfl⟩
 ·refine List.nodup_cons.2 ⟨?_,upTo_nodup 2⟩;show (0:Int) ∉ upTo 2;rw [mem_upTo];omega
 ·intro j hj;rcases List.mem_cons.1 hj with e|e
  ·omega
  have:j∈upTo 2:=e;rw [mem_upTo] at this;omega
 ·intro j hj;rw [mem_upTo] at hj;omega
 ·obtain ⟨x,h1,h2,h3,h4⟩:=E0_0;exact ⟨rfl,rfl,x,by rw [newBt_view (by omega) (by omega)];exact h1,h2,h3,h4,by simp,by simp [Sorted],by simp⟩
 ·intro j hj hne;simp at hj;exact absurd hj hne
 ·intro x _ h;omega
 intro x hx;obtain ⟨y,h1,_,_,h4⟩:=E0_0;rw [newBt_view (by omega) (by omega),h1] at hx;injection hx with hx;subst hx
 simp [h4,wt]
variable {B:Nat}
variable {B:Nat}
def cb (C:Int→Option Pg) (b:Bt):Bt:={b with pool:=C}
def cp {α:Type} (C:Int→Option Pg) (p:α×Bt):α×Bt:=(p.1,cb C p.2)
def cq {α:Type} (C:Int→Option Pg) (p:Bt×α):Bt×α:=(cb C p.1,p.2)
theorem BPut_cold {w0 w:World} {D:Sto} {ss:List Seg} {sb sp:Seg} {vb vp:Value} {b b':Bt} {P:Pl} {S:List Int} (hI:Inv w0 D (sb::sp::ss) w) {ad:Nat→Addr} (hS:TSents D ad) (hB:BatchS D vb vp b sb) (hP:PoolS D vp P sp) (hpool:b.pool=P.f) {vk vv:Value} {key val:Bs} (hk:RB D vk key) (hv:RB D vv val) (hlen:b.recs.length≤1000000000 - 8000)
  (hok:b.put key val= .ok b'∨ ∃j,b.put key val= .fail 113 (some j)∧P.f j=none∧j∈S) :
  Calls Tryz.prog 21 #[vb,vk,vv] w (Ret fun r w'=>(r= .nilIface∧ ∃D' sb' sp',Le D D'∧BatchS D' vb vp b' sb'∧PoolS D' vp P sp'∧Inv w0 D' (sb'::sp'::ss) w')∨
   ∃j D' sb' sp',P.f j=none∧j∈S∧r=errV ad 113∧Le D D'∧BatchS D' vb vp b sb'∧PoolS D' vp (P.want j) sp'∧Inv w0 D' (sb'::sp'::ss) w'):=by
 refine (BPut_spec hI.merge hS (TreeS.join hB hP hpool) hk hv hlen).mono fun e w' h=> ?_;obtain ⟨r,he,h⟩:=h;refine ⟨r,he, ?_⟩;rcases h with ⟨b1,h1,rfl,D',s',hD,hT,hI'⟩|⟨c',o,h1,rfl,D',s',hD,hT,hI'⟩
 ·rcases hok with hok|⟨j,hok,_⟩
  ·rw [hok] at h1;injection h1 with h1;subst h1
   obtain ⟨sb',sp',rfl,hB',hP',_⟩:=hT;exact .inl ⟨rfl,D',sb',sp',hD,hB',hP',hI'.parted⟩
  rw [hok] at h1;cases h1
 rcases hok with hok|⟨j,hok,h2,h3⟩
 ·rw [hok] at h1;cases h1
 rw [hok] at h1;injection h1 with h1 h4;subst h1;subst h4
 obtain ⟨sb',sp',rfl,hB',hP',_⟩:=hT;exact .inr ⟨j,D',sb',sp',h2,h3,rfl,hD,hB',hP',hI'.parted⟩
theorem note_spec {w0 w:World} {D:Sto} {ss:List Seg} {sb sp:Seg} {vb vp:Value} {b b':Bt} {P:Pl} {S:List Int} (hI:Inv w0 D (sb::sp::ss) w) {ad:Nat→Addr} (hS:TSents D ad) (hB:BatchS D vb vp b sb) (hP:PoolS D vp P sp) (hpool:b.pool=P.f) {e:Ent} {ku vu vd:Value} (hku:RB D ku e.key) (hvu:RB D vu e.value) (hok:e.Ok) (hkr:1≤e.tx∧e.tx≤2251799813685248∧0≤e.n∧e.n<12) (hvl:e.value.length≤100000) (hlen:b.recs.length≤1000000000 - 8000) (hput:b.put (keyL e.tx e.n) e.enc= .ok b'∨ ∃j,b.put (keyL e.tx e.n) e.enc= .fail 113 (some j)∧P.f j=none∧j∈S) :
  Calls Tryz.prog 156 #[vd,vb, .agg #[.int .i64 e.tx, .int .i64 e.n,ku, .bool e.had,vu]] w (Ret fun r w'=>(r= .nilIface∧ ∃D' sb' sp',Le D D'∧BatchS D' vb vp b' sb'∧PoolS D' vp P sp'∧Inv w0 D' (sb'::sp'::ss) w')∨(∃j D' sb' sp',P.f j=none∧j∈S∧r=errV ad 113∧Le D D'∧BatchS D' vb vp b sb'∧PoolS D' vp (P.want j) sp'∧Inv w0 D' (sb'::sp'::ss) w')):=by
 obtain ⟨bbn,hbb⟩:=BatchS.ptr hB;subst hbb;obtain ⟨A1,c2,rfl,_⟩:=hku.slice;obtain ⟨A3,c4,rfl,_⟩:=hvu.slice;refine enter (N:=33) Tryz.func156 rfl rfl rfl ?_;intro a hE;refine wsr ?_;refine l_step rfl (f_box (cs:= #[_,_,_,_,_]) hE hI rfl rfl rfl rfl rfl ?_);clear hI hE a w;intro a b5 w hE hI;refine go 7 hE hI ?_;clear hE a;intro a hE;refine l_step rfl (o_call hE rfl rfl rfl rfl ent_19 (Key_spec hI hS.g105 _ _) ?_);clear hI hE a;rintro r w h a hE;rcases h with ⟨v6,D7,hr8,rfl,hD9,hI,hb10⟩|⟨hr8,rfl,hI⟩
 ·obtain ⟨A11,c12,rfl,_⟩:=hb10.slice;refine go 16 hE hI ?_;clear hE a;intro a hE;refine l_step rfl (o_call hE rfl rfl rfl rfl ent_20 (UBytes_spec hI (hS.mono hD9).g105 _ _ _ (hku.mono hD9) (hvu.mono hD9) (by omega)) ?_);clear hI hE a;rintro r w ⟨D13,hD14,h⟩ a hE;rcases h with ⟨v15,s16,hok9,rfl,hI,hO17⟩|⟨hok9,rfl,hI⟩
  case inr=>exact absurd hok hok9
  obtain ⟨D18,hD19,hIa,hb20⟩:=OB.data ⟨_,hO17,hI⟩ (enc_lt (hku.mono hD9).lt (hvu.mono hD9).lt);replace hI:=hIa;clear hIa;replace hb20:RB D18 _ e.enc:=hb20;obtain ⟨A21,c22,rfl,_⟩:=hb20.slice;refine go 18 hE hI ?_;clear hE a;intro a hE;replace hI:=hI.bring 2;replace hI:=hI.bring 2;refine l_step rfl (o_call hE rfl rfl rfl rfl ent_21 (BPut_cold hI (hS.mono ((hD9.trans hD14).trans hD19)) (hB.mono ((hD9.trans hD14).trans hD19)) (hP.mono ((hD9.trans hD14).trans hD19)) hpool (hb10.mono (hD14.trans hD19)) hb20 hlen hput) ?_);clear hI hE a;rintro r w h a hE;rcases h with ⟨rfl,D23,sb24,sp25,hD26,hB27,hP28,hI⟩|⟨j9,D23,sb24,sp25,hj1,hj2,rfl,hD26,hB27,hP28,hI⟩
  ·refine go 3 hE hI ?_;clear hE a;intro a hE;refine ret1 rfl hE rfl ?_;replace hI:=hI.erase 2;exact .inl ⟨rfl,D23,_,_,(((hD9.trans hD14).trans hD19).trans hD26),hB27,hP28,hI⟩
  refine go 3 hE hI ?_;clear hE a;intro a hE;refine ret1 rfl hE rfl ?_;replace hI:=hI.erase 2;exact .inr ⟨j9,D23,_,_,hj1,hj2,rfl,(((hD9.trans hD14).trans hD19).trans hD26),hB27,hP28,hI⟩
 exfalso;exact hr8 hkr
theorem plan_spec {w0 w:World} {D:Sto} {ss:List Seg} {s sb sp:Seg} {vd vb vp:Value} {fd:FuncId} {us:Array Value} {d:Db} {b:Bt} {P:Pl} (hI:Inv w0 D (s::sb::sp::ss) w) {ad:Nat→Addr} (hS:TSents D ad) (hd:DbS D vd vp d s) (hdb:DbOk d) (hB:BatchS D vb vp b sb) (hP:PoolS D vp P sp) (hpool:b.pool=P.f) (hlen:b.recs.length≤1000000000) :
  Calls Tryz.prog 157 #[vd,vb, .func (.func fd) #[] us] w (Ret fun r w'=> ∃D' vr s' sb' sp',Le D D'∧r= .agg #[vr, .int .i64 (d.seq+1), .func (.func fd) #[] us]∧DR 10 RcR D' vr b.recs∧DbS D' vd vp {d with seq:=d.seq+1} s'∧BatchS D' vb vp b sb'∧PoolS D' vp P sp'∧Inv w0 D' (s'::sb'::sp'::ss) w'):=by
 obtain ⟨bbn,hbb⟩:=BatchS.ptr hB;subst hbb;obtain ⟨bd,bl,esl,clkl,os,rfl,rfl,hml,hos⟩:=hd;obtain ⟨e0,e1,b0,b1,s0,s1,hids,hlen⟩:=hdb;replace hI:=hI.open_db;refine enter (N:=26) Tryz.func157 rfl rfl rfl ?_;intro a hE;refine wsr ?_;refine l_step rfl (f_alloc (cs:= #[.slice none 0 0, .int .i64 0, .nilFunc]) hE hI rfl rfl rfl zer_93 rfl ?_);clear hI hE a w;intro a b1 w hE hI;refine go 3 hE hI ?_;clear hE a;intro a hE;refine zs hE (p_nilCheck rfl) ?_;clear hE a;intro a hE;refine go 2 hE hI ?_;clear hE a;intro a hE;refine zs hE (p_arith (z:=d.seq+1) rfl rfl (add_z rfl (by omega) (by omega))) ?_;clear hE a;intro a hE;refine zs hE (p_nilCheck rfl) ?_;clear hE a;intro a hE;refine zs hE (p_fieldAddr (m:=4) rfl fo_175_4 rfl) ?_;clear hE a;intro a hE;refine l_step rfl (f_store (l:= [_,_,_,_,_]) (ss':=_::_::_) 1 hE hI rfl rfl rfl rfl rfl sz_3 (by simp [Value.cells,Value.oneCell',pgCells,rcCells,zPg,errV,zUe]) rfl rfl rfl ?_);clear hI w;intro w hI;refine go 7 hE hI ?_;clear hE a;intro a hE;refine zs hE (p_eq rfl rfl (g_none rfl) (e_ptrNil Tryz.underlying31 rfl) rfl rfl) ?_;clear hE a;intro a hE;refine go 4 hE hI ?_;clear hE a;intro a hE;replace hI:=hI.bring 5;replace hI:=hI.bring 5;refine l_step rfl (o_call hE rfl rfl rfl rfl ent_24 (Redo_ok hI hS hB hP hpool (by omega)) ?_);clear hI hE a;rintro r w ⟨D2,sb3,sp4,hD5,hL6,hB7,hP8,hI⟩ a hE;obtain ⟨A9,c10,rfl,_⟩:=hL6.slice;refine go 5 hE hI ?_;clear hE a;intro a hE;refine zs hE (p_nilCheck rfl) ?_;clear hE a;intro a hE;refine go 3 hE hI ?_;clear hE a;intro a hE;refine zs hE (f_build (vs:= [(0,_),(1,_),(2,_)]) (l:= [_,_,_]) rfl built_93 rfl) ?_;clear hE a;intro a hE;refine l_step rfl (f_store (l:= [_,_,_]) (ss':=_::_::_::_) 2 hE hI rfl rfl rfl rfl rfl sz_93 (by simp [Value.cells,Value.oneCell',pgCells,rcCells,zPg,errV,zUe]) rfl rfl rfl ?_);clear hI w;intro w hI;refine gc 2 hE ?_;refine retc1 rfl hE rfl agg_93 (hI.seg 2 rfl) rfl ?_;replace hI:=hI.erase 2;replace hI:=hI.bring 1;replace hI:=hI.bring 1;replace hI:=hI.bring 4;replace hI:=hI.bring 4;replace hI:=hI.bring 4;exact ⟨D2,_,_,_,_,hD5,rfl,hL6,⟨bd,bl,_,_,os,rfl,rfl,hml,hos.mono hD5⟩,hB7,hP8,hI.shut_db⟩
end Go.Proofs.YtkknmpkcfpdllaaGreatDoor.B
