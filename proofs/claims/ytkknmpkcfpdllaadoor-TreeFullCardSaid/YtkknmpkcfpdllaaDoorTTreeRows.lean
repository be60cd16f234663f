/- What functions of the program compute, each function once: steps over the model, and the plain law of it. -/
import Derived.Test.YtkknmpkcfpdllaaDoorTRowsP
import Derived.Test.YtkknmpkcfpdllaaDoorTTreeLaid
import Derived.Test.YtkknmpkcfpdllaaDoorTCheckC
import Derived.Test.YtkknmpkcfpdllaaDoorTFacts
import Derived.Test.YtkknmpkcfpdllaaDoorTTreeLawA
import Derived.Test.YtkknmpkcfpdllaaDoorTCheckG
import Derived.Test.YtkknmpkcfpdllaaDoorTTree7
import Derived.Test.YtkknmpkcfpdllaaDoorTCheckP
import Derived.Test.YtkknmpkcfpdllaaDoorTCheckA
namespace Go.Proofs.YtkknmpkcfpdllaaDoor.B
open Go Go.Proofs
set_option linter.unusedVariables false
set_option linter.unusedSimpArgs false
theorem Chs.kvlen {C:CP}: ∀(es:Ens) {lo hi fl nx ids kv},(∀id lo hi fl nx js kv,C id lo hi fl nx js kv→kv.length≤8*js.length)→Chs C es lo hi fl nx ids kv→kv.length≤8*ids.length
 | [],_,_,_,_,_,_,_,h=>h.elim
 | [e],_,_,_,_,_,_,hC,h=>hC _ _ _ _ _ _ _ h.2
 |e::e2::r,_,_,_,_,_,_,hC,h=>by
  obtain ⟨h0,h1,h2,md,i1,i2,k1,k2,rfl,rfl,h3,h4⟩:=h;have a:=hC _ _ _ _ _ _ _ h3;have b:=Chs.kvlen (e2::r) hC h4;rw [List.length_append,List.length_append];omega
theorem SubT.kvlen {V:Vw}: ∀(n:Nat) {id lo hi fl nx ids kv},SubT V n id lo hi fl nx ids kv→kv.length≤8*ids.length
 |0,_,_,_,_,_,_,_,h=>by obtain ⟨_,rfl,x,_,_,_,_,h8,_⟩:=h;simpa using h8
 |n+1,_,_,_,_,_,_,_,h=>by
  obtain ⟨js,rfl,x,_,_,_,_,_,h7⟩:=h;have:=Chs.kvlen _ (fun _ _ _ _ _ _ _ hs=>SubT.kvlen n hs) h7;simp only [List.length_cons];omega
theorem HoldsA.few {b:Bt} {K:Nat} {kv:Ens} (h:HoldsA b K kv):kv.length≤2040:=by obtain ⟨n,av,fl,ids,h⟩:=h;have h1:=SubT.kvlen n h.s;have h2:=h.c;omega
theorem HoldsA.put_any {b:Bt} {K:Nat} {kv:Ens} {key val:Bs} (h:HoldsA b K kv) (hk:rightK key=true) (hv:val.length≤64) :
  (∃b',b.put key val= .ok b'∧HoldsA b' (K+1) (insKv kv key val))∨(741≤K∧lookKv kv key=none∧b.put key val= .fail 109 none):=by
 obtain ⟨n,av,fl,ids,h⟩:=h;have h1:=h.pages;have h2:=h.c;rcases put_trA h hk hv with ⟨b',n',av',fl',ids',t,h'⟩|⟨e,e2,e3⟩
 ·exact .inl ⟨b',t,n',av',fl',ids',h'⟩
 exact .inr ⟨by omega,e2,e3⟩
def mulF:Nat→Nat
 |0=>1
 |1=>5
 |2=>7
 |_=>11
def invF:Nat→Nat
 |0=>1
 |1=>1689
 |2=>1508
 |_=>192
theorem mulF_inv: ∀s,s<4→ ∀j,j<2111→(j*mulF s % 2111)*invF s % 2111=j:=by decide+kernel
theorem mulF_le (s:Nat):1≤mulF s∧mulF s≤11:=by unfold mulF;split<;>omega
def keyF (s i:Nat):Bs:= [i*mulF s % 2111 / 256,i*mulF s % 2111 % 256,3]
theorem keyF_right (s i:Nat):rightK (keyF s i)=true:=by simp [rightK,keyF]
theorem keyF_inj {s i j:Nat} (hs:s<4) (hi:i<2111) (hj:j<2111) (h:keyF s i=keyF s j):i=j:=by
 simp only [keyF,List.cons.injEq,and_true] at h;have h1:i*mulF s % 2111=j*mulF s % 2111:=by omega
 rw [←mulF_inv s hs i hi,h1,mulF_inv s hs j hj]
def PutF (s i:Nat) (kv:Ens):Prop:=kv.length=i∧(∀e∈kv,∃j,j<i∧e.1=keyF s j)∧ ∀j,j<i→(lookKv kv (keyF s j)).isSome=true
theorem PutF.start (s:Nat):PutF s 0 []:=⟨rfl,by simp,fun j h=>by omega⟩
theorem PutF.step {s i:Nat} {kv:Ens} {v:Bs} (hs:s<4) (hi:i<2111) (hso:Sorted kv) (h:PutF s i kv):PutF s (i+1) (insKv kv (keyF s i) v):=by
 have hne: ∀e∈kv,e.1≠keyF s i:=by intro e he h0;obtain ⟨j,h1,h2⟩:=h.2.1 e he;rw [h2] at h0;have:=keyF_inj hs (by omega) hi h0;omega
 refine ⟨by rw [insKv_new_len kv hne,h.1],fun e he=> ?_,fun j hj=> ?_⟩
 ·rcases insKv_mem kv he with q|q
  ·subst q;exact ⟨i,by omega,rfl⟩
  obtain ⟨j,h1,h2⟩:=h.2.1 e q;exact ⟨j,by omega,h2⟩
 rw [lookKv_ins kv hso];split
 ·rfl
 rename_i hq;exact h.2.2 j (by
  rcases Nat.lt_or_ge j i with q|q
  ·exact q
  exact absurd (by rw [show j=i by omega]) hq)
open Go
theorem all_len: ∀(rs:List Rc) {b b':Bt},b.all rs= .ok b'→b'.recs.length=b.recs.length+rs.length∧b'.pool=b.pool
 | [],b,b',h=>by rw [Bt.all] at h;injection h with h;subst h;exact ⟨rfl,rfl⟩
 |r::rs,b,b',h=>by
  rw [Bt.all] at h;split at h
  ·cases h
  rename_i b1 hb;have:=all_len rs h;rw [Bt.doR] at hb;split at hb
  ·cases hb
  injection hb with hb;subst hb
  simp only [List.length_append,List.length_cons,List.length_nil] at this ⊢;exact ⟨by omega,this.2⟩
theorem Runs.len {b b':Bt} {k:Nat} (h:Runs b b' k):b'.recs.length≤b.recs.length+k∧b'.pool=b.pool:=by obtain ⟨rs,h1,_,h3⟩:=h;have:=all_len rs h3;exact ⟨by omega,this.2⟩
theorem lookKv_same {kv:Ens} {k v:Bs} (hs:Sorted kv):lookKv (insKv kv k v) k=some v:=by rw [lookKv_ins kv hs,if_pos rfl]
set_option maxRecDepth 20000
set_option maxHeartbeats 8000000
theorem lit_data {w0 w:World} {D:Sto} {ss:List Seg} {b T:Nat} {fr:Nat×Nat} (bs:List Nat) (i:Nat) (hI:Inv w0 D ss w) (hi:ss[i]? =some [(b, .cells (bytesV bs).toArray T fr)]) (hb: ∀x∈bs,x<256) :
  ∃D',Le D D'∧Inv w0 D' (ss.eraseIdx i) w∧RB D' (.slice (some ⟨b,0,none⟩) bs.length bs.length) bs:=by
 obtain ⟨h1,h2⟩:=hI.shut_at i hi;exact ⟨_,h2,h1,RB.lit hb⟩
theorem Inv.part {w0 w:World} {D:Sto} {ss:List Seg} {s1 s2:Seg} (h:Inv w0 D ((s1++s2)::ss) w):Inv w0 D (s1::s2::ss) w:=h.perm (List.Perm.of_eq (by simp))
theorem empty_spec {w0 w:World} {D:Sto} {ss:List Seg} (hI:Inv w0 D ss w) {ad:Nat→Addr} (hS:TSents D ad) :
  Calls Tryd.prog 8 #[] w (Ret fun r w'=> ∃D' s q,Le D D'∧r= .tuple #[.pointer (some ⟨q,0,none⟩), .int .i64 4]∧PoolS D' (.pointer (some ⟨q,0,none⟩)) E0 s∧Inv w0 D' (s::ss) w'):=by
 refine enter (N:=18) Tryd.func8 rfl rfl rfl ?_;intro a hE;refine go 5 hE hI ?_;clear hE a;intro a hE;refine l_step rfl (o_call hE rfl rfl rfl rfl ent_33 (PoolNew_spec hI) ?_);clear hI hE a;rintro r w ⟨s1,hP2,hI⟩ a hE;obtain ⟨bp3,hbp⟩:=hP2.ptr;subst hbp;refine go 5 hE hI ?_;clear hE a;intro a hE;refine zs hE (p_eq rfl rfl (g_none rfl) (e_ptrNil Tryd.underlying25 rfl) rfl rfl) ?_;clear hE a;intro a hE;refine go 6 hE hI ?_;clear hE a;intro a hE;refine l_step rfl (o_call hE rfl rfl rfl rfl ent_34 (Make_spec hI) ?_);clear hI hE a;rintro r w ⟨D4,hD5,hI,hL6⟩ a hE;obtain ⟨A7,c8,rfl,_⟩:=hL6.slice;refine l_step rfl (o_call hE rfl rfl rfl rfl ent_13 (laid_spec hI (hP2.mono hD5) (hS.mono hD5) hL6 (n:=1) (by omega) (by omega) (by show (3:Nat)≤_;omega)) ?_);clear hI hE a;rintro r w h a hE;rcases h with ⟨D9,s10,P11,hD12,hP13,hI,⟨m14,hla15,rfl⟩|⟨hla15,m14,rfl⟩⟩
 ·rw [E0_laid] at hla15;injection hla15 with hla15
  injection hla15 with hz1 hz2
  subst hz1;subst hz2;refine go 9 hE hI ?_;clear hE a;intro a hE;refine zs hE (p_not rfl) ?_;clear hE a;intro a hE;refine go 11 hE hI ?_;clear hE a;intro a hE;refine ret2 rfl hE rfl rfl ?_;exact ⟨_,_,_,(hD5.trans hD12),rfl,hP13,hI⟩
 exfalso;rw [E0_laid] at hla15;cases hla15
theorem first21_spec {w0 w:World} {D:Sto} {ss:List Seg} (hI:Inv w0 D ss w) {ad:Nat→Addr} (hS:TSents D ad) :
  Calls Tryd.prog 6 #[] w (Ret fun r w'=> ∃D',Le D D'∧Inv w0 D' ss w'∧r= .bool true):=by
 refine enter (N:=47) Tryd.func6 rfl rfl rfl ?_;intro a hE;refine go 4 hE hI ?_;clear hE a;intro a hE;refine l_step rfl (o_call hE rfl rfl rfl rfl ent_8 (empty_spec hI hS) ?_);clear hI hE a;rintro r w ⟨D1,s2,q3,hD4,rfl,hP5,hI⟩ a hE;refine go 9 hE hI ?_;clear hE a;intro a hE;refine zs hE (p_eq rfl rfl (g_none rfl) (e_ptrNil Tryd.underlying25 rfl) rfl rfl) ?_;clear hE a;intro a hE;refine go 6 hE hI ?_;clear hE a;intro a hE;refine l_step rfl (o_call hE rfl rfl rfl rfl ent_9 (New_spec hI E0 (some ⟨q3,0,none⟩)) ?_);clear hI hE a;rintro r w ⟨sb6,hB7,hI⟩ a hE;obtain ⟨bb8,hvb⟩:=BatchS.ptr hB7;subst hvb;refine go 2 hE hI ?_;clear hE a;intro a hE;refine wp_seq ?_;refine wp_seq ?_;replace hI:=hI.bring 1;replace hI:=hI.bring 1;replace hI:=hI.merge;have hT9:=TreeS.join hB7 hP5 rfl;refine go 2 hE hI ?_;clear hE a;intro a hE;refine zs hE (p_eq rfl rfl (g_none rfl) (e_ptrNil Tryd.underlying28 rfl) rfl rfl) ?_;clear hE a;intro a hE;refine go 2 hE hI ?_;clear hE a;intro a hE;refine l_go hE rfl (f_lit (vs:= [(0,_)]) (l:= [_]) hE hI rfl rfl rfl rfl Tryd.underlying34 zs_5 rfl rfl rfl ?_);clear hI hE a w;intro a b10 w hE hI;refine l_go hE rfl (f_lit (vs:= [(0,_)]) (l:= [_]) hE hI rfl rfl rfl rfl Tryd.underlying34 zs_5 rfl rfl rfl ?_);clear hI hE a w;intro a b11 w hE hI;obtain ⟨D12,hD13,hIa,hb14⟩:=lit_data [1] 1 hI rfl (by simp);replace hI:=hIa;clear hIa;(try simp only [nrm,Value.cells] at hI);obtain ⟨D15,hD16,hIa,hb17⟩:=lit_data [2] 0 hI rfl (by simp);replace hI:=hIa;clear hIa;(try simp only [nrm,Value.cells] at hI);obtain ⟨b9,hb9,hg9⟩:=first_put;refine l_go hE rfl (o_call hE rfl rfl rfl rfl ent_10 (BPut_spec (key:= [1]) (val:= [2]) hI (hS.mono ((hD4.trans hD13).trans hD16)) (hT9.mono (hD13.trans hD16)) (hb14.mono hD16) hb17 (by show (0:Nat)≤_;omega)) ?_);clear hI hE a;rintro r w h a hE;rcases h with ⟨b18,hx19,rfl,D20,s21,hD22,hT23,hI⟩|⟨c24,o25,hbad,rfl,D26,s27,hD28,hT29,hI⟩
 ·rw [hb9] at hx19;injection hx19 with hx19
  subst hx19;refine go 8 hE hI ?_;clear hE a;intro a hE;refine l_step rfl (f_lit (vs:= [(0,_)]) (l:= [_]) hE hI rfl rfl rfl rfl Tryd.underlying34 zs_5 rfl rfl rfl ?_);clear hI hE a w;intro a b30 w hE hI;obtain ⟨D31,hD32,hIa,hb33⟩:=lit_data [1] 0 hI rfl (by simp);replace hI:=hIa;clear hIa;(try simp only [nrm,Value.cells] at hI);refine l_step rfl (o_call hE rfl rfl rfl rfl ent_32 (BGet_spec (key:= [1]) hI (hS.mono ((((hD4.trans hD13).trans hD16).trans hD22).trans hD32)) (hT23.mono hD32) hb33) ?_);clear hI hE a;rintro r w h a hE;rcases h with ⟨res34,hx35,D36,vr37,hD38,rfl,hr39,hT40,hI⟩|⟨c41,o42,hbad,rfl,D43,s44,hD45,hT46,hI⟩
  ·rw [hg9] at hx35;injection hx35 with hx35
   subst hx35;replace hr39:RB D36 vr37 [2]:=hr39;have hl2:([2]:List Nat).length=1:=rfl;obtain ⟨A47,c48,rfl,_⟩:=hr39.slice;refine go 16 hE hI ?_;clear hE a;intro a hE;refine gs hE (p_len rfl rfl Tryd.underlying34) ?_;clear hE a;intro a hE;refine gs hE (p_cmp rfl rfl (eql_y (rfl))) ?_;clear hE a;intro a hE;refine go 3 hE hI ?_;clear hE a;intro a hE;obtain ⟨b_49,o_49,cs_49,T_49,fr_49,rfl,hb_49,hc_49⟩:=hr39.at_ (by simp);refine gs hE (p_indexAddr rfl rfl Tryd.underlying34 sz_5 (by omega) (by show (0:Int)<((1:Nat):Int);omega) rfl) ?_;clear hE a;intro a hE;refine gl hE (r_load rfl scal_5 (hI.data _ _ (hb_49)) (RB.cell hc_49 (by omega) (by omega))) ?_;clear hE a;intro a hE;refine gs hE (p_cmp rfl rfl (eql_y (rfl))) ?_;clear hE a;intro a hE;refine go 4 hE hI ?_;clear hE a;intro a hE;refine ret1 rfl hE rfl ?_;exact ⟨_,(((((hD4.trans hD13).trans hD16).trans hD22).trans hD32).trans hD38),hI.drop,rfl⟩
  exfalso;rw [hg9] at hbad;cases hbad
 exfalso;rw [hb9] at hbad;cases hbad
theorem Inv.parted {w0 w:World} {D:Sto} {ss:List Seg} {s1 s2:Seg} (h:Inv w0 D ((s1++s2)::ss) w):Inv w0 D (s1::s2::ss) w:=h.perm (List.Perm.of_eq (by simp))
theorem BPut_ok {w0 w:World} {D:Sto} {ss:List Seg} {sb sp:Seg} {vb vp:Value} {b b':Bt} {P:Pl} (hI:Inv w0 D (sb::sp::ss) w) {ad:Nat→Addr} (hS:TSents D ad) (hB:BatchS D vb vp b sb) (hP:PoolS D vp P sp) (hpool:b.pool=P.f) {vk vv:Value} {key val:Bs} (hk:RB D vk key) (hv:RB D vv val) (hlen:b.recs.length≤1000000000 - 8000) (hok:b.put key val= .ok b') :
  Calls Tryd.prog 10 #[vb,vk,vv] w (Ret fun r w'=>r= .nilIface∧ ∃D' sb' sp',Le D D'∧BatchS D' vb vp b' sb'∧PoolS D' vp P sp'∧Inv w0 D' (sb'::sp'::ss) w'):=by
 refine (BPut_spec hI.merge hS (TreeS.join hB hP hpool) hk hv hlen).mono fun e w' h=> ?_;obtain ⟨r,he,h⟩:=h;refine ⟨r,he, ?_⟩;rcases h with ⟨b1,h1,rfl,D',s',hD,hT,hI'⟩|⟨c,o,h1,_⟩
 ·rw [hok] at h1;injection h1 with h1;subst h1
  obtain ⟨sb',sp',rfl,hB',hP',_⟩:=hT;exact ⟨rfl,D',sb',sp',hD,hB',hP',hI'.parted⟩
 rw [hok] at h1;cases h1
theorem Redo_ok {w0 w:World} {D:Sto} {ss:List Seg} {sb sp:Seg} {vb vp:Value} {b:Bt} {P:Pl} (hI:Inv w0 D (sb::sp::ss) w) {ad:Nat→Addr} (hS:TSents D ad) (hB:BatchS D vb vp b sb) (hP:PoolS D vp P sp) (hpool:b.pool=P.f) (hlen:b.recs.length≤1000000000) :
  Calls Tryd.prog 12 #[vb] w (Ret fun r w'=> ∃D' sb' sp',Le D D'∧DR 10 RcR D' r b.recs∧BatchS D' vb vp b sb'∧PoolS D' vp P sp'∧Inv w0 D' (sb'::sp'::ss) w'):=by
 refine (Redo_spec hI.merge hS (TreeS.join hB hP hpool) hlen).mono fun e w' h=> ?_;obtain ⟨r,he,D',hD,hI',hr,hT⟩:=h;refine ⟨r,he, ?_⟩;obtain ⟨sb',sp',hs,hB',hP',_⟩:=hT;rw [hs] at hI';exact ⟨D',sb',sp',hD,hr,hB',hP',hI'.parted⟩
theorem lit_one {w0 w:World} {D:Sto} {ss:List Seg} {b T n:Nat} {fr:Nat×Nat} (i:Nat) (hI:Inv w0 D ss w) (hn:n<256) (hi:ss[i]? =some [(b, .cells [Value.int .u8 ((n:Nat):Int)].toArray T fr)]) :
  ∃D',Le D D'∧Inv w0 D' (ss.eraseIdx i) w∧RB D' (.slice (some ⟨b,0,none⟩) 1 1) [n]:=lit_data [n] i hI hi (by intro x hx;simp only [List.mem_cons,List.not_mem_nil,or_false] at hx;omega)
theorem BDel_ok {w0 w:World} {D:Sto} {ss:List Seg} {sb sp:Seg} {vb vp:Value} {b b':Bt} {P:Pl} {res:Bool} (hI:Inv w0 D (sb::sp::ss) w) {ad:Nat→Addr} (hS:TSents D ad) (hB:BatchS D vb vp b sb) (hP:PoolS D vp P sp) (hpool:b.pool=P.f) {vk:Value} {key:Bs} (hk:RB D vk key) (hlen:b.recs.length≤1000000000 - 8000) (hok:b.delete key= .ok (res,b')) :
  Calls Tryd.prog 16 #[vb,vk] w (Ret fun r w'=>r= .tuple #[.bool res, .nilIface]∧ ∃D' sb' sp',Le D D'∧BatchS D' vb vp b' sb'∧PoolS D' vp P sp'∧Inv w0 D' (sb'::sp'::ss) w'):=by
 refine (BDelete_spec hI.merge hS (TreeS.join hB hP hpool) hk hlen).mono fun e w' h=> ?_;obtain ⟨r,he,h⟩:=h;refine ⟨r,he, ?_⟩;rcases h with ⟨res1,b1,h1,rfl,D',s',hD,hT,hI'⟩|⟨c,o,h1,_⟩
 ·rw [hok] at h1;injection h1 with h1;injection h1 with h1 h2;subst h1;subst h2
  obtain ⟨sb',sp',rfl,hB',hP',_⟩:=hT;exact ⟨rfl,D',sb',sp',hD,hB',hP',hI'.parted⟩
 rw [hok] at h1;cases h1
theorem PoolS.n_le {D:Sto} {vp:Value} {P:Pl} {s:Seg} {n:Int} (h:PoolS D vp P s) (hO:PlOk P n):P.n≤256:=by
 obtain ⟨bp,bl,bw,es,clk,m,es',clk',mw,h1,h2,h3,h4,h5,h6,h7⟩:=h;have hl:(m.map (·.1)).length≤256:=ints_len h3.nd (fun i hi=>by
  obtain ⟨⟨k,v⟩,hp,rfl⟩:=List.mem_map.1 hi;have hg:=getM_of_mem h3.nd hp;cases hf:P.f k with
  |none=>rw [h4.none hf] at hg;cases hg
  |some x=>
   have:=hO k x hf;rw [←this.2.1];exact this.1.id)
 rw [List.length_map] at hl;omega
theorem BPut_no {w0 w:World} {D:Sto} {ss:List Seg} {sb sp:Seg} {vb vp:Value} {b:Bt} {P:Pl} {c:Nat} (hI:Inv w0 D (sb::sp::ss) w) {ad:Nat→Addr} (hS:TSents D ad) (hB:BatchS D vb vp b sb) (hP:PoolS D vp P sp) (hpool:b.pool=P.f) {vk vv:Value} {key val:Bs} (hk:RB D vk key) (hv:RB D vv val) (hlen:b.recs.length≤1000000000 - 8000) (hno:b.put key val= .fail c none) :
  Calls Tryd.prog 10 #[vb,vk,vv] w (Ret fun r w'=>r=errV ad c∧ ∃D' sb' sp',Le D D'∧BatchS D' vb vp b sb'∧PoolS D' vp P sp'∧Inv w0 D' (sb'::sp'::ss) w'):=by
 refine (BPut_spec hI.merge hS (TreeS.join hB hP hpool) hk hv hlen).mono fun e w' h=> ?_;obtain ⟨r,he,h⟩:=h;refine ⟨r,he, ?_⟩;rcases h with ⟨b1,h1,_⟩|⟨c',o,h1,rfl,D',s',hD,hT,hI'⟩
 ·rw [hno] at h1;cases h1
 rw [hno] at h1;injection h1 with h1 h2;subst h1;subst h2
 obtain ⟨sb',sp',rfl,hB',hP',_⟩:=hT;exact ⟨rfl,D',sb',sp',hD,hB',hP',hI'.parted⟩
end Go.Proofs.YtkknmpkcfpdllaaDoor.B
