/- What functions of the program compute, each function once: steps over the model, and the plain law of it. -/
import Derived.Test.YtkknmpkcfpdllaaGreatDoorTWire
import Derived.Test.YtkknmpkcfpdllaaGreatDoorSLogB
import Derived.Test.YtkknmpkcfpdllaaGreatDoorTSee
import Derived.Test.YtkknmpkcfpdllaaGreatDoorSIter
import Derived.Test.YtkknmpkcfpdllaaGreatDoorTFacts
namespace Go.Proofs.YtkknmpkcfpdllaaGreatDoor.B
open Go
set_option linter.unusedVariables false
set_option linter.unusedSimpArgs false
def EOk (e:Bs×Bs):Prop:=e.1.length≤100000∧e.2.length≤100000
structure POk (p:Pg):Prop where
 l0: -4611686018427387904≤p.lsn
 l1:p.lsn≤4611686018427387904
 v0:0≤p.level
 v1:p.level≤16
 n0: -1≤p.next
 n1:p.next≤4611686018427387904
 len:p.ents.length≤8
 ents: ∀e∈p.ents,EOk e
structure ROk (r:Rc):Prop where
 l0: -4611686018427387904≤r.lsn
 l1:r.lsn≤4611686018427387904
 s0:0≤r.slot
 s1:r.slot≤4611686018427387904
 k:r.key.length≤100000
 v:r.val.length≤100000
def EnR (D:Sto) (vs:List Value) (e:Bs×Bs):Prop:= ∃k v,vs= [k,v]∧RB D k e.1∧RB D v e.2∧EOk e
theorem EnR.keeps:Keeps EnR:=fun D D' vs x hD ⟨k,v,h1,h2,h3,h4⟩=>⟨k,v,h1,h2.mono hD,h3.mono hD,h4⟩
abbrev EnD (D:Sto) (v:Value) (es:Ens):Prop:=DR 2 EnR D v es
def pgCells (p:Pg) (e:Value):List Value:= [.int .i64 p.id, .int .i64 p.lsn, .int .i64 p.level, .int .i64 p.next,e]
def PgR (D:Sto) (vs:List Value) (p:Pg):Prop:= ∃e,vs=pgCells p e∧EnD D e p.ents∧POk p
theorem PgR.keeps:Keeps PgR:=fun D D' vs x hD ⟨e,h1,h2,h3⟩=>⟨e,h1,h2.mono EnR.keeps hD,h3⟩
def PgV (D:Sto) (v:Value) (p:Pg):Prop:= ∃e,v= .agg (pgCells p e).toArray∧EnD D e p.ents∧POk p
theorem PgV.mono {D D':Sto} {v:Value} {p:Pg} (h:PgV D v p) (hD:Le D D'):PgV D' v p:=by obtain ⟨e,h1,h2,h3⟩:=h;exact ⟨e,h1,h2.mono EnR.keeps hD,h3⟩
def rcCells (r:Rc) (k v:Value):List Value:= [.int .i64 r.lsn, .int .i64 r.back, .int .i64 r.epoch, .int .i64 r.group, .int .i64 r.page, .int .i64 r.kind, .int .i64 r.slot,k,v, .bool r.last]
def RcR (D:Sto) (vs:List Value) (r:Rc):Prop:= ∃k v,vs=rcCells r k v∧RB D k r.key∧RB D v r.val∧ROk r
theorem RcR.keeps:Keeps RcR:=fun D D' vs x hD ⟨k,v,h1,h2,h3,h4⟩=>⟨k,v,h1,h2.mono hD,h3.mono hD,h4⟩
def MapD (D:Sto) (m:List (Int×Value)) (f:Int→Option Pg):Prop:= ∀k,match f k with
 |none=>getM m k=none
 |some p=> ∃v,getM m k=some v∧PgV D v p
theorem MapD.mono {D D':Sto} {m:List (Int×Value)} {f:Int→Option Pg} (h:MapD D m f) (hD:Le D D'):MapD D' m f:=fun k=>by
 have:=h k;cases hf:f k with
 |none=>rw [hf] at this;exact this
 |some p=>rw [hf] at this;obtain ⟨v,h1,h2⟩:=this;exact ⟨v,h1,h2.mono hD⟩
theorem MapD.none {D:Sto} {m:List (Int×Value)} {f:Int→Option Pg} (h:MapD D m f) {k:Int} (hf:f k= .none):getM m k= .none:=by have:=h k;rw [hf] at this;exact this
theorem MapD.some {D:Sto} {m:List (Int×Value)} {f:Int→Option Pg} (h:MapD D m f) {k:Int} {p:Pg} (hf:f k= .some p): ∃e,getM m k= .some (.agg (pgCells p e).toArray)∧EnD D e p.ents∧POk p:=by have:=h k;rw [hf] at this;obtain ⟨v,h1,e,rfl,h2,h3⟩:=this;exact ⟨e,h1,h2,h3⟩
theorem MapD.empty (D:Sto):MapD D [] (fun _=> .none):=fun k=>rfl
theorem MapD.put {D:Sto} {m:List (Int×Value)} {f:Int→Option Pg} (h:MapD D m f) {k:Int} {v:Value} {p:Pg} (hp:PgV D v p):MapD D (putM m k v) (fun j=>if j=k then .some p else f j):=fun j=>by
 simp only [getM_put];by_cases hj:j=k
 ·subst hj;simp only [if_true];exact ⟨v,rfl,hp⟩
 rw [if_neg hj,if_neg (fun e=>hj e.symm)];exact h j
def PoolS (D:Sto) (vp:Value) (P:Pl) (s:Seg):Prop:= ∃bp bl bw es clk m es' clk' mw,vp= .pointer (some ⟨bp,0,none⟩)∧s= [(bp, .cells #[.map (some bl), .map (some bw)] 122 (0,0)),(bl, .map es clk),(bw, .map es' clk')]∧
 IntMap es clk m∧MapD D m P.f∧m.length=P.n∧IntMap es' clk' mw∧mw.map (·.1)=P.wants
theorem PoolS.mono {D D':Sto} {vp:Value} {P:Pl} {s:Seg} (h:PoolS D vp P s) (hD:Le D D'):PoolS D' vp P s:=by obtain ⟨bp,bl,bw,es,clk,m,es',clk',mw,h1,h2,h3,h4,h5,h6,h7⟩:=h;exact ⟨bp,bl,bw,es,clk,m,es',clk',mw,h1,h2,h3,h4.mono hD,h5,h6,h7⟩
def BatchS (D:Sto) (vb vp:Value) (b:Bt) (s:Seg):Prop:= ∃bb bo es clk m vr sr,vb= .pointer (some ⟨bb,0,none⟩)∧s=(bb, .cells #[vp, .map (some bo),vr] 130 (0,0))::(bo, .map es clk)::sr∧
 IntMap es clk m∧MapD D m b.own∧OR 10 RcR D 124 vr b.recs sr
theorem BatchS.mono {D D':Sto} {vb vp:Value} {b:Bt} {s:Seg} (h:BatchS D vb vp b s) (hD:Le D D'):BatchS D' vb vp b s:=by obtain ⟨bb,bo,es,clk,m,vr,sr,h1,h2,h3,h4,h5⟩:=h;exact ⟨bb,bo,es,clk,m,vr,sr,h1,h2,h3,h4.mono hD,h5.mono RcR.keeps hD⟩
def TreeS (D:Sto) (vb vp:Value) (b:Bt) (P:Pl) (s:Seg):Prop:= ∃sb sp,s=sb++sp∧BatchS D vb vp b sb∧PoolS D vp P sp∧b.pool=P.f
theorem TreeS.mono {D D':Sto} {vb vp:Value} {b:Bt} {P:Pl} {s:Seg} (h:TreeS D vb vp b P s) (hD:Le D D'):TreeS D' vb vp b P s:=by obtain ⟨sb,sp,h1,h2,h3,h4⟩:=h;exact ⟨sb,sp,h1,h2.mono hD,h3.mono hD,h4⟩
def Ext (b b':Bt):Prop:=b'.pool=b.pool∧ ∃l,b'.recs=b.recs++l
theorem Ext.refl (b:Bt):Ext b b:=⟨rfl, [],by simp⟩
theorem Ext.trans {a b c:Bt} (h:Ext a b) (k:Ext b c):Ext a c:=by obtain ⟨h1,l,h2⟩:=h;obtain ⟨k1,m,k2⟩:=k;exact ⟨k1.trans h1,l++m,by rw [k2,h2,List.append_assoc]⟩
theorem cmpL_lt: ∀a b:List Nat,cmpL a b<0↔ltB a b=true
 | [], []=>by simp [cmpL,ltB]
 | [],_::_=>by simp [cmpL,ltB]
 |_::_, []=>by simp [cmpL,ltB]
 |x::xs,y::ys=>by
  simp only [cmpL,ltB];by_cases h:x=y
  ·rw [if_pos h,if_pos h];exact cmpL_lt xs ys
  rw [if_neg h,if_neg h];by_cases h2:x<y
  ·simp [h2]
  simp [h2]
theorem cmpL_eq: ∀a b:List Nat,cmpL a b=0↔a=b
 | [], []=>by simp [cmpL]
 | [],_::_=>by simp [cmpL]
 |_::_, []=>by simp [cmpL]
 |x::xs,y::ys=>by
  simp only [cmpL];by_cases h:x=y
  ·rw [if_pos h,cmpL_eq xs ys,h];simp
  rw [if_neg h];by_cases h2:x<y
  ·simp [h2,h]
  simp [h2,h]
def RcV (D:Sto) (v:Value) (r:Rc):Prop:= ∃k u,v= .agg (rcCells r k u).toArray∧RB D k r.key∧RB D u r.val∧ROk r
theorem RcV.mono {D D':Sto} {v:Value} {r:Rc} (h:RcV D v r) (hD:Le D D'):RcV D' v r:=by obtain ⟨k,u,h1,h2,h3,h4⟩:=h;exact ⟨k,u,h1,h2.mono hD,h3.mono hD,h4⟩
structure TSents (D:Sto) (ad:Nat→Addr):Prop where
 g103:GlobIs D 4 (errV ad 103)
 g104:GlobIs D 5 (errV ad 104)
 g105:GlobIs D 0 (errV ad 105)
 g106:GlobIs D 7 (errV ad 106)
 g109:GlobIs D 1 (errV ad 109)
 g113:GlobIs D 8 (errV ad 113)
theorem TSents.mono {D D':Sto} {ad:Nat→Addr} (h:TSents D ad) (hD:Le D D'):TSents D' ad:=⟨h.g103.mono hD,h.g104.mono hD,h.g105.mono hD,h.g106.mono hD,h.g109.mono hD,h.g113.mono hD⟩
theorem Sents.t {D:Sto} {ad:Nat→Addr} (h:Sents D ad):TSents D ad:=⟨h.g103,h.g104,h.g105,h.g106,h.g109,h.g113⟩
open Go Go.Proofs
set_option maxRecDepth 20000
set_option maxHeartbeats 8000000
theorem Compare_spec {w0 w:World} {D:Sto} {ss:List Seg} (hI:Inv w0 D ss w) {va vb:Value} {ka kb:List Nat} (ha:RB D va ka) (hb:RB D vb kb) :
  Calls Tryz.prog 113 #[va,vb] w (Ret fun r w'=>r= .int .i64 (cmpL ka kb)∧Inv w0 D ss w'):=by
 obtain ⟨A1,c2,rfl,_⟩:=ha.slice;obtain ⟨A3,c4,rfl,_⟩:=hb.slice;refine enter (N:=8) Tryz.func113 rfl rfl rfl ?_;intro a hE;refine go 6 hE hI ?_;clear hE a;intro a hE;refine zl hE (r_extern (fn:=Tryz.f167) (e:=Extern.BytealgCompare.compare) rfl Tryz.func167 rfl rfl (by kernel_rfl) (by kernel_rfl) (compare_run hI ha hb)) ?_;clear hE a;intro a hE;refine go 3 hE hI ?_;clear hE a;intro a hE;refine ret1 rfl hE rfl ?_;exact ⟨rfl,hI⟩
theorem right_spec {w0 w:World} {D:Sto} {ss:List Seg} (hI:Inv w0 D ss w) {vk:Value} {key:List Nat} (hk:RB D vk key) :
  Calls Tryz.prog 69 #[vk] w (Ret fun r w'=>r= .bool (rightK key)∧Inv w0 D ss w'):=by
 obtain ⟨A1,c2,rfl,_⟩:=hk.slice;refine enter (N:=11) Tryz.func69 rfl rfl rfl ?_;intro a hE;refine go 5 hE hI ?_;clear hE a;intro a hE;refine zs hE (p_len rfl rfl Tryz.underlying33) ?_;clear hE a;intro a hE;refine l_step rfl (o_cmp hE rfl rfl rfl rfl rfl rfl ?_ ?_)
 ·intro hc_1_2;replace hc_1_2:=geq_t hc_1_2;clear hE a;intro a hE;refine go 2 hE hI ?_;clear hE a;intro a hE;refine gs hE (p_len rfl rfl Tryz.underlying33) ?_;clear hE a;intro a hE;refine l_go hE rfl (o_cmp hE rfl rfl rfl rfl rfl rfl ?_ ?_)
  ·intro hc_1_6;replace hc_1_6:=leq_t hc_1_6;clear hE a;intro a hE;refine go 4 hE hI ?_;clear hE a;intro a hE;refine ret1 rfl hE rfl ?_;exact ⟨by simp [rightK];omega,hI⟩
  intro hc_1_6;replace hc_1_6:=leq_f hc_1_6;clear hE a;intro a hE;refine go 4 hE hI ?_;clear hE a;intro a hE;refine ret1 rfl hE rfl ?_;exact ⟨by simp [rightK];omega,hI⟩
 intro hc_1_2;replace hc_1_2:=geq_f hc_1_2;clear hE a;intro a hE;refine go 8 hE hI ?_;clear hE a;intro a hE;refine ret1 rfl hE rfl ?_;exact ⟨by simp [rightK];omega,hI⟩
theorem full_spec {w0 w:World} {D:Sto} {ss:List Seg} (hI:Inv w0 D ss w) {vp:Value} {p:Pg} (hp:PgV D vp p) :
  Calls Tryz.prog 123 #[vp] w (Ret fun r w'=>r= .bool (decide (8≤p.ents.length))∧Inv w0 D ss w'):=by
 obtain ⟨e1,rfl,he2,ho3⟩:=hp;have hlen_p:=ho3.len;obtain ⟨A4,c5,rfl,_⟩:=he2.slice;refine enter (N:=7) Tryz.func123 rfl rfl rfl ?_;intro a hE;refine wsr ?_;refine l_step rfl (f_box (cs:= #[_,_,_,_,_]) hE hI rfl rfl rfl rfl rfl ?_);clear hI hE a w;intro a b6 w hE hI;refine go 5 hE hI ?_;clear hE a;intro a hE;refine zs hE (p_len rfl rfl Tryz.underlying57) ?_;clear hE a;intro a hE;refine l_step rfl (o_cmp hE rfl rfl rfl rfl rfl rfl ?_ ?_)
 ·intro hc_1_3;replace hc_1_3:=geq_t hc_1_3;clear hE a;intro a hE;refine go 3 hE hI ?_;clear hE a;intro a hE;refine ret1 rfl hE rfl ?_;exact ⟨by simp;omega,hI.drop⟩
 intro hc_1_3;replace hc_1_3:=geq_f hc_1_3;clear hE a;intro a hE;refine go 3 hE hI ?_;clear hE a;intro a hE;refine ret1 rfl hE rfl ?_;exact ⟨by simp;omega,hI.drop⟩
theorem newPg_ok (id:Int):POk (newPg id):=⟨by simp [newPg],by simp [newPg],by simp [newPg],by simp [newPg],by simp [newPg],by simp [newPg],by simp [newPg],by simp [newPg]⟩
theorem PNew_spec {w0 w:World} {D:Sto} {ss:List Seg} (hI:Inv w0 D ss w) (id:Int) :
  Calls Tryz.prog 115 #[.int .i64 id] w (Ret fun r w'=>PgV D r (newPg id)∧Inv w0 D ss w'):=by
 refine enter (N:=5) Tryz.func115 rfl rfl rfl ?_;intro a hE;refine wsr ?_;refine l_step rfl (f_alloc (cs:= #[.int .i64 0, .int .i64 0, .int .i64 0, .int .i64 0, .slice none 0 0]) hE hI rfl rfl rfl zer_65 rfl ?_);clear hI hE a w;intro a b1 w hE hI;refine go 3 hE hI ?_;clear hE a;intro a hE;refine zs hE (f_build (vs:= [(0,_),(3,_)]) (l:= [_,_,_,_,_]) rfl built_65 rfl) ?_;clear hE a;intro a hE;refine l_step rfl (f_store (l:= [_,_,_,_,_]) (ss':=_::_) 0 hE hI rfl rfl rfl rfl rfl sz_65 (by simp [Value.cells,Value.oneCell',pgCells,rcCells]) rfl rfl rfl ?_);clear hI w;intro w hI;refine gc 2 hE ?_;refine retc1 rfl hE rfl agg_65 (hI.seg 0 rfl) rfl ?_;exact ⟨⟨_,rfl,DR.nil _ _ _,newPg_ok id⟩,hI.drop⟩
theorem findP_none: ∀(es:Ens) (key:Bs),(∀e∈es,ltB e.1 key=true)→findP es key=(es.length,false)
 | [],key,_=>rfl
 |e::r,key,h=>by
  have h1:=h e (by simp);have ih:=findP_none r key (fun x hx=>h x (by simp [hx]));simp [findP,h1,ih]
theorem findP_some: ∀(es:Ens) (key:Bs) (i:Nat) (e:Bs×Bs),(∀x∈es.take i,ltB x.1 key=true)→es[i]? =some e→ltB e.1 key=false→findP es key=(i,decide (e.1=key))
 | [],key,i,e,_,he,_=>by simp at he
 |x::r,key,0,e,_,he,hl=>by
  have:x=e:=by simpa using he
  subst this;simp [findP,hl]
 |x::r,key,i+1,e,h,he,hl=>by
  have h1:=h x (by simp);have ih:=findP_some r key i e (fun y hy=>h y (by simp [hy])) (by simpa using he) hl;simp [findP,h1,ih]
theorem take_all {es:Ens} {i:Nat} (h:es.length≤i) {p:(Bs×Bs)→Prop} (ha: ∀x∈es.take i,p x): ∀x∈es,p x:=by rw [List.take_of_length_le h] at ha;exact ha
theorem take_next {es:Ens} {i:Nat} {e:Bs×Bs} (he:es[i]? =some e) {p:(Bs×Bs)→Prop} (ha: ∀x∈es.take i,p x) (hp:p e): ∀x∈es.take (i+1),p x:=by
 have hi:=(List.getElem?_eq_some_iff.1 he);obtain ⟨h1,h2⟩:=hi;rw [List.take_succ_eq_append_getElem h1];intro x hx;rcases List.mem_append.1 hx with h|h
 ·exact ha x h
 have:x=e:=by rw [←h2];simpa using h
 subst this;exact hp
theorem Find_spec {w0 w:World} {D:Sto} {ss:List Seg} (hI:Inv w0 D ss w) {vp vk:Value} {p:Pg} {key:List Nat} (hp:PgV D vp p) (hk:RB D vk key) :
  Calls Tryz.prog 71 #[vp,vk] w (Ret fun r w'=>r= .tuple #[.int .i64 ((findP p.ents key).1:Nat), .bool (findP p.ents key).2]∧Inv w0 D ss w'):=by
 obtain ⟨e1,rfl,he2,ho3⟩:=hp;have hlen_p:=ho3.len;obtain ⟨A4,c5,rfl,_⟩:=he2.slice;obtain ⟨A6,c7,rfl,_⟩:=hk.slice;refine enter (N:=30) Tryz.func71 rfl rfl rfl ?_;intro a hE;refine wsr ?_;refine l_step rfl (f_box (cs:= #[_,_,_,_,_]) hE hI rfl rfl rfl rfl rfl ?_);clear hI hE a w;intro a b8 w hE hI;refine go 7 hE hI ?_;clear hE a;intro a hE;refine zs hE (p_len rfl rfl Tryz.underlying57) ?_;clear hE a;intro a hE;refine go 3 hE hI ?_;clear hE a;intro a hE;refine c_loop (X:=Nat) (fun x=> [(1,_),(2,_),(10,_),(11,_),(12, .int .i64 (x:Nat))]) (fun x w=>x≤p.ents.length∧(∀y∈p.ents.take x,ltB y.1 key=true)∧Inv w0 D ([(b8, .cells (pgCells p (.slice A4 p.ents.length c5)).toArray 65 (0,0))]::ss) w) (fun x=>p.ents.length - x) 0 (hE.pick [1,2,10,11,12]) ⟨Nat.zero_le _,by simp,hI⟩ ?_;clear hE hI a w;rintro i a w hE ⟨hi,hall,hI⟩;(try dsimp only at hE);(try dsimp only at hi);(try dsimp only at hall);(try dsimp only at hI);refine wsr ?_;refine l_step rfl (o_cmp hE rfl rfl rfl rfl rfl rfl ?_ ?_)
 ·intro hlt;replace hlt:=lss_t hlt;clear hE a;intro a hE;refine go 9 hE hI ?_;clear hE a;intro a hE;obtain ⟨x_9,hx_9⟩: ∃y,(p.ents)[i]? =some y:=⟨_,List.getElem?_eq_getElem (by omega)⟩;obtain ⟨b_9,o_9,cs_9,T_9,fr_9,rfl,hb_9,hat_9⟩:=he2.at_ (by intro h0;rw [h0] at hx_9;simp at hx_9);obtain ⟨vs_9,hl_9,⟨k_9,v_9,rfl,hk_9,hv_9,hok_9⟩,hex_9,hsz_9,hce_9⟩:=hat_9.extract hx_9 (by omega);obtain ⟨A10,c11,rfl,_⟩:=hk_9.slice;obtain ⟨A12,c13,rfl,_⟩:=hv_9.slice;refine zs hE (p_indexAddr (m:=o_9+i*2) rfl rfl Tryz.underlying57 sz_115 (by omega) (by omega) (by simp)) ?_;clear hE a;intro a hE;refine zl hE (r_loadA rfl agg_115 (hI.data _ _ (hb_9)) hsz_9 hex_9) ?_;clear hE a;intro a hE;refine l_step rfl (f_alloc (cs:= #[.slice none 0 0, .slice none 0 0]) hE hI rfl rfl rfl zer_115 rfl ?_);clear hI hE a w;intro a b14 w hE hI;refine za hE ?_;clear hE a;intro a hE;refine l_step rfl (f_store (l:= [_,_]) (ss':=_::_) 0 hE hI rfl rfl rfl rfl rfl sz_115 (by simp [Value.cells,Value.oneCell',pgCells,rcCells]) rfl rfl rfl ?_);clear hI w;intro w hI;refine go 5 hE hI ?_;clear hE a;intro a hE;refine l_step rfl (o_call hE rfl rfl rfl rfl ent_113 (Compare_spec hI hk_9 hk) ?_);clear hI hE a;rintro r w ⟨rfl,hI⟩ a hE;refine go 4 hE hI ?_;clear hE a;intro a hE;refine l_step rfl (o_cmp hE rfl rfl rfl rfl rfl rfl ?_ ?_)
  ·intro hge;replace hge:=geq_t hge;clear hE a;intro a hE;refine go 5 hE hI ?_;clear hE a;intro a hE;refine l_step rfl (o_cmp hE rfl rfl rfl rfl rfl rfl ?_ ?_)
   ·intro heq;replace heq:=eql_t heq;clear hE a;intro a hE;refine go 9 hE hI ?_;clear hE a;intro a hE;refine ret2 rfl hE rfl rfl ?_;refine ⟨?_,hI.drop.drop⟩;rw [findP_some p.ents key i x_9 hall hx_9 (by cases hq:ltB x_9.1 key with|false=>rfl|true=>exact absurd ((cmpL_lt _ _).2 hq) (by omega))];simp [show x_9.1=key from (cmpL_eq _ _).1 heq]
   intro heq;replace heq:=eql_f heq;clear hE a;intro a hE;refine go 9 hE hI ?_;clear hE a;intro a hE;refine ret2 rfl hE rfl rfl ?_;refine ⟨?_,hI.drop.drop⟩;rw [findP_some p.ents key i x_9 hall hx_9 (by cases hq:ltB x_9.1 key with|false=>rfl|true=>exact absurd ((cmpL_lt _ _).2 hq) (by omega))];simp [show¬x_9.1=key from fun h=>heq ((cmpL_eq _ _).2 h)]
  intro hge;replace hge:=geq_f hge;clear hE a;intro a hE;refine gc 6 hE ?_;refine zs hE (p_arith (z:=((i+1:Nat):Int)) rfl rfl (add_z (by omega) (by omega) (by omega))) ?_;clear hE a;intro a hE;refine go 2 hE hI ?_;clear hE a;intro a hE;exact ⟨i+1,hE.pick [1,2,10,11,12],⟨by show i+1≤_;omega,take_next hx_9 hall ((cmpL_lt _ _).1 (by omega)),hI.drop⟩,by show p.ents.length - (i+1)<p.ents.length - i;omega⟩
 intro hlt;replace hlt:=lss_f hlt;clear hE a;intro a hE;refine go 11 hE hI ?_;clear hE a;intro a hE;refine zs hE (p_len rfl rfl Tryz.underlying57) ?_;clear hE a;intro a hE;refine go 4 hE hI ?_;clear hE a;intro a hE;refine ret2 rfl hE rfl rfl ?_;refine ⟨?_,hI.drop⟩;rw [findP_none p.ents key (take_all (by omega) hall)]
end Go.Proofs.YtkknmpkcfpdllaaGreatDoor.B
