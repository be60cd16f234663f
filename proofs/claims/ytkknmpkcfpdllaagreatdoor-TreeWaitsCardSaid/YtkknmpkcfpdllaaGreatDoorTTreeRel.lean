/- What functions of the program compute, each function once: steps over the model, and the plain law of it. -/
import Derived.Test.YtkknmpkcfpdllaaGreatDoorTWireMath
import Derived.Test.YtkknmpkcfpdllaaGreatDoorProg
import Derived.Test.YtkknmpkcfpdllaaGreatDoorTFacts
import Derived.Test.YtkknmpkcfpdllaaGreatDoorTSee
import Derived.Test.YtkknmpkcfpdllaaGreatDoorSLogB
namespace Go.Proofs.YtkknmpkcfpdllaaGreatDoor.B
open Go Go.Proofs
set_option linter.unusedVariables false
set_option linter.unusedSimpArgs false
set_option maxRecDepth 20000
set_option maxHeartbeats 8000000
theorem Clone_spec {w0 w:World} {D:Sto} {ss:List Seg} (hI:Inv w0 D ss w) {vb:Value} {bs:List Nat} (hb:RB D vb bs) (hm:bs.length≤140737488355328) :
  Calls Tryz.prog 73 #[vb] w (Ret fun r w'=> ∃s,OB r bs s∧Inv w0 D (s::ss) w'):=by
 obtain ⟨A1,c2,rfl,_⟩:=hb.slice;refine enter (N:=8) Tryz.func73 rfl rfl rfl ?_;intro a hE;refine go 6 hE hI ?_;clear hE a;intro a hE;rcases A1 with _|A1
 ·refine zs hE (p_eq rfl rfl (g_none rfl) (e_sliceNil Tryz.underlying33 (rfl)) rfl rfl) ?_;clear hE a;intro a hE;refine go 7 hE hI ?_;clear hE a;intro a hE;refine ret1 rfl hE rfl ?_;obtain rfl:=hb.none_nil;exact ⟨[],Row.nil 5 1,hI.nilseg⟩
 refine zs hE (p_eq rfl rfl (g_none rfl) (e_sliceNil Tryz.underlying33 (rfl)) rfl rfl) ?_;clear hE a;intro a hE;refine gc 5 hE ?_;refine l_step rfl (f_lit (vs:= []) (l:= []) hE hI rfl rfl rfl rfl Tryz.underlying33 zs_5 rfl rfl rfl ?_);clear hI hE a w;intro a b3 w hE hI;refine zm hE ?_;clear hE a;intro a hE;refine l_step rfl (o_appendRB 0 hE hI rfl rfl rfl rfl rfl Tryz.underlying33 zsb_5 rfl (Row.lit (T:=5) (size:=1) (n:=0) rfl (by omega)) hb (by omega) ?_);clear hI hE a w;intro v4 s5 w hR6 hI a hE;obtain ⟨A7,c8,rfl,_⟩:=hR6.slice;(try simp only [nrm,Value.cells] at hI);refine go 3 hE hI ?_;clear hE a;intro a hE;refine ret1 rfl hE rfl ?_;exact ⟨_,hR6.cast (by simp [bytesV]) (by omega),hI⟩
open Go
structure Ent where
 tx:Int
 n:Int
 key:List Nat
 had:Bool
 value:List Nat
def Ent.Ok (e:Ent):Prop:=(1≤e.tx∧e.tx≤2251799813685248∧0≤e.n∧e.n<12)∧(1≤e.key.length∧e.key.length≤20)∧e.value.length≤24∧(e.had=true∨e.value.length=0)
def hadZ (b:Bool):Int:=if b then 1 else 0
def Ent.enc (e:Ent):List Nat:=putZ (e.key.length:Nat)++e.key++putZ (hadZ e.had)++putZ (e.value.length:Nat)++e.value
def Rd.rem (r:Rd):List Nat:=r.bs.drop r.pos
theorem OB.data {w0 w:World} {D:Sto} {ss:List Seg} {r:Value} {bs:List Nat} (h: ∃s,OB r bs s∧Inv w0 D (s::ss) w) (hb: ∀x∈bs,x<256): ∃D',Le D D'∧Inv w0 D' ss w∧RB D' r bs:=by obtain ⟨s,h1,hI⟩:=h;exact ⟨_,hI.le_shut,hI.shut,Row.shut_bytes h1 hb⟩
theorem Ret.imp {R R':Value→World→Prop} {e:Ending} {w:World} (h:Ret R e w) (hi: ∀r w,R r w→R' r w):Ret R' e w:=by obtain ⟨r,he,hr⟩:=h;exact ⟨r,he,hi _ _ hr⟩
theorem Clone_data {w0 w:World} {D:Sto} {ss:List Seg} (hI:Inv w0 D ss w) {vb:Value} {bs:List Nat} (hb:RB D vb bs) (hm:bs.length≤140737488355328) :
  Calls Tryz.prog 73 #[vb] w (Ret fun r w'=> ∃D',Le D D'∧Inv w0 D' ss w'∧RB D' r bs):=
 (Clone_spec hI hb hm).mono fun _ _ h=>h.imp fun _ _ h=>OB.data h hb.lt
theorem bytes_step {bs:List Nat} {i:Nat} (h:i<bs.length):bytesV (bs.take i)++(#[Value.int .u8 ((bs.getD ((i:Nat):Int).toNat 0:Nat):Int)]:Array Value).toList=bytesV (bs.take (i+1)):=by
 have e:bs.getD ((i:Nat):Int).toNat 0=bs[i]:=by rw [List.getD_eq_getElem?_getD];simp [List.getElem?_eq_getElem h]
 rw [List.take_add_one,List.getElem?_eq_getElem h,e,Option.toList_some];simp only [bytesV,List.map_append,List.map_cons,List.map_nil]
theorem refBytes_spec {w0 w:World} {D:Sto} {ss:List Seg} (hI:Inv w0 D ss w) {vb:Value} {bs:List Nat} (hb:RB D vb bs) (hm:bs.length≤140737488355000) :
  Calls Tryz.prog 114 #[vb] w (Ret fun r w'=> ∃s,OB r bs s∧Inv w0 D (s::ss) w'):=by
 obtain ⟨A1,c2,rfl,_⟩:=hb.slice;refine enter (N:=22) Tryz.func114 rfl rfl rfl ?_;intro a hE;refine go 5 hE hI ?_;clear hE a;intro a hE;refine zs hE (p_len rfl rfl Tryz.underlying33) ?_;clear hE a;intro a hE;refine l_step rfl (f_make hE hI rfl rfl rfl rfl rfl Tryz.underlying33 zsb_5 (by omega) (by omega) (by omega) (by omega) ?_);clear hI hE a w;intro a b3 w hE hI;refine go 7 hE hI ?_;clear hE a;intro a hE;refine c_loop (X:=Nat×Value×Seg) (fun x=> [(0,_),(3,x.2.1),(4, .int .i64 (x.1:Nat))]) (fun x w=>x.1≤bs.length∧Row 5 1 x.2.1 x.1 (bytesV (bs.take x.1)) x.2.2∧Inv w0 D (x.2.2::ss) w) (fun x=>bs.length - x.1) (0,_,_) (hE.pick [0,3,4]) ⟨Nat.zero_le _,Row.cast (Row.made (l:=0) (c:=bs.length) rfl (Nat.zero_le _) (by omega)) rfl rfl,hI⟩ ?_;clear hE hI a w;rintro ⟨i,v,s⟩ a w hE ⟨hi,hR,hI⟩;(try dsimp only at hE);(try dsimp only at hi);(try dsimp only at hR);(try dsimp only at hI);obtain ⟨A1,c1,rfl,_⟩:=hR.slice;refine go 4 hE hI ?_;clear hE a;intro a hE;refine zs hE (p_len rfl rfl Tryz.underlying33) ?_;clear hE a;intro a hE;refine l_step rfl (o_cmp hE rfl rfl rfl rfl rfl rfl ?_ ?_)
 ·intro hlt;replace hlt:=lss_t hlt;clear hE a;intro a hE;refine go 10 hE hI ?_;clear hE a;intro a hE;obtain ⟨b_4,o_4,cs_4,T_4,fr_4,rfl,hb_4,hc_4⟩:=hb.at_ (List.ne_nil_of_length_pos (by omega));refine zs hE (p_indexAddr rfl rfl Tryz.underlying33 sz_5 (by omega) (by omega) rfl) ?_;clear hE a;intro a hE;refine zl hE (r_load rfl scal_5 (hI.data _ _ (hb_4)) (RB.cell hc_4 (by omega) (by omega))) ?_;clear hE a;intro a hE;refine l_step rfl (f_lit (vs:= [(0,_)]) (l:= [_]) hE hI rfl rfl rfl rfl Tryz.underlying33 zs_5 rfl rfl rfl ?_);clear hI hE a w;intro a b5 w hE hI;refine l_step rfl (o_append 1 hE hI rfl rfl rfl rfl rfl Tryz.underlying33 zsb_5 rfl rfl rfl hR (by rfl) (lit_news (hI.seg 0 rfl)) (by simp [Value.oneCell']) (by omega) (by omega) ?_);clear hI hE a w;intro v6 s7 w hR8 hI a hE;obtain ⟨A9,c10,rfl,_⟩:=hR8.slice;replace hI:=hI.erase 0;(try simp only [nrm,Value.cells] at hI);refine za hE ?_;clear hE a;intro a hE;refine wpList_nil ?_;refine go 4 hE hI ?_;clear hE a;intro a hE;refine zs hE (p_arith (z:=((i+1:Nat):Int)) rfl rfl (add_z (by omega) (by omega) (by omega))) ?_;clear hE a;intro a hE;refine go 2 hE hI ?_;clear hE a;intro a hE;exact ⟨(i+1,_,_),hE.pick [0,3,4],⟨by show i+1≤bs.length;omega,Row.cast hR8 (bytes_step (by omega)) rfl,hI⟩,by show bs.length - (i+1)<bs.length - i;omega⟩
 intro hlt;replace hlt:=lss_f hlt;clear hE a;intro a hE;refine go 12 hE hI ?_;clear hE a;intro a hE;refine ret1 rfl hE rfl ?_;obtain rfl:i=bs.length:=by omega
 exact ⟨_,Row.cast hR (by rw [List.take_length]) rfl,hI⟩
def EOk (e:Bs×Bs):Prop:=e.1.length≤100000∧e.2.length≤100000
structure POk (p:Pg):Prop where
 l0: -4611686018427387904≤p.lsn
 l1:p.lsn≤4611686018427387904
 v0:0≤p.level
 v1:p.level≤16
 n0: -1≤p.next
 n1:p.next≤4611686018427387904
 len:p.ents.length≤8
 ents: ∀e∈p.ents,EOk e
structure ROk (r:Rc):Prop where
 l0: -4611686018427387904≤r.lsn
 l1:r.lsn≤4611686018427387904
 s0:0≤r.slot
 s1:r.slot≤4611686018427387904
 k:r.key.length≤100000
 v:r.val.length≤100000
def EnR (D:Sto) (vs:List Value) (e:Bs×Bs):Prop:= ∃k v,vs= [k,v]∧RB D k e.1∧RB D v e.2∧EOk e
theorem EnR.keeps:Keeps EnR:=fun D D' vs x hD ⟨k,v,h1,h2,h3,h4⟩=>⟨k,v,h1,h2.mono hD,h3.mono hD,h4⟩
abbrev EnD (D:Sto) (v:Value) (es:Ens):Prop:=DR 2 EnR D v es
def pgCells (p:Pg) (e:Value):List Value:= [.int .i64 p.id, .int .i64 p.lsn, .int .i64 p.level, .int .i64 p.next,e]
def PgR (D:Sto) (vs:List Value) (p:Pg):Prop:= ∃e,vs=pgCells p e∧EnD D e p.ents∧POk p
theorem PgR.keeps:Keeps PgR:=fun D D' vs x hD ⟨e,h1,h2,h3⟩=>⟨e,h1,h2.mono EnR.keeps hD,h3⟩
def PgV (D:Sto) (v:Value) (p:Pg):Prop:= ∃e,v= .agg (pgCells p e).toArray∧EnD D e p.ents∧POk p
theorem PgV.mono {D D':Sto} {v:Value} {p:Pg} (h:PgV D v p) (hD:Le D D'):PgV D' v p:=by obtain ⟨e,h1,h2,h3⟩:=h;exact ⟨e,h1,h2.mono EnR.keeps hD,h3⟩
def rcCells (r:Rc) (k v:Value):List Value:= [.int .i64 r.lsn, .int .i64 r.back, .int .i64 r.epoch, .int .i64 r.group, .int .i64 r.page, .int .i64 r.kind, .int .i64 r.slot,k,v, .bool r.last]
def RcR (D:Sto) (vs:List Value) (r:Rc):Prop:= ∃k v,vs=rcCells r k v∧RB D k r.key∧RB D v r.val∧ROk r
theorem RcR.keeps:Keeps RcR:=fun D D' vs x hD ⟨k,v,h1,h2,h3,h4⟩=>⟨k,v,h1,h2.mono hD,h3.mono hD,h4⟩
def MapD (D:Sto) (m:List (Int×Value)) (f:Int→Option Pg):Prop:= ∀k,match f k with
 |none=>getM m k=none
 |some p=> ∃v,getM m k=some v∧PgV D v p
theorem MapD.mono {D D':Sto} {m:List (Int×Value)} {f:Int→Option Pg} (h:MapD D m f) (hD:Le D D'):MapD D' m f:=fun k=>by
 have:=h k;cases hf:f k with
 |none=>rw [hf] at this;exact this
 |some p=>rw [hf] at this;obtain ⟨v,h1,h2⟩:=this;exact ⟨v,h1,h2.mono hD⟩
theorem MapD.none {D:Sto} {m:List (Int×Value)} {f:Int→Option Pg} (h:MapD D m f) {k:Int} (hf:f k= .none):getM m k= .none:=by have:=h k;rw [hf] at this;exact this
theorem MapD.some {D:Sto} {m:List (Int×Value)} {f:Int→Option Pg} (h:MapD D m f) {k:Int} {p:Pg} (hf:f k= .some p): ∃e,getM m k= .some (.agg (pgCells p e).toArray)∧EnD D e p.ents∧POk p:=by have:=h k;rw [hf] at this;obtain ⟨v,h1,e,rfl,h2,h3⟩:=this;exact ⟨e,h1,h2,h3⟩
theorem MapD.empty (D:Sto):MapD D [] (fun _=> .none):=fun k=>rfl
theorem MapD.put {D:Sto} {m:List (Int×Value)} {f:Int→Option Pg} (h:MapD D m f) {k:Int} {v:Value} {p:Pg} (hp:PgV D v p):MapD D (putM m k v) (fun j=>if j=k then .some p else f j):=fun j=>by
 simp only [getM_put];by_cases hj:j=k
 ·subst hj;simp only [if_true];exact ⟨v,rfl,hp⟩
 rw [if_neg hj,if_neg (fun e=>hj e.symm)];exact h j
def PoolS (D:Sto) (vp:Value) (P:Pl) (s:Seg):Prop:= ∃bp bl bw es clk m es' clk' mw,vp= .pointer (some ⟨bp,0,none⟩)∧s= [(bp, .cells #[.map (some bl), .map (some bw)] 122 (0,0)),(bl, .map es clk),(bw, .map es' clk')]∧
 IntMap es clk m∧MapD D m P.f∧m.length=P.n∧IntMap es' clk' mw∧mw.map (·.1)=P.wants
theorem PoolS.mono {D D':Sto} {vp:Value} {P:Pl} {s:Seg} (h:PoolS D vp P s) (hD:Le D D'):PoolS D' vp P s:=by obtain ⟨bp,bl,bw,es,clk,m,es',clk',mw,h1,h2,h3,h4,h5,h6,h7⟩:=h;exact ⟨bp,bl,bw,es,clk,m,es',clk',mw,h1,h2,h3,h4.mono hD,h5,h6,h7⟩
def BatchS (D:Sto) (vb vp:Value) (b:Bt) (s:Seg):Prop:= ∃bb bo es clk m vr sr,vb= .pointer (some ⟨bb,0,none⟩)∧s=(bb, .cells #[vp, .map (some bo),vr] 130 (0,0))::(bo, .map es clk)::sr∧
 IntMap es clk m∧MapD D m b.own∧OR 10 RcR D 124 vr b.recs sr
theorem BatchS.mono {D D':Sto} {vb vp:Value} {b:Bt} {s:Seg} (h:BatchS D vb vp b s) (hD:Le D D'):BatchS D' vb vp b s:=by obtain ⟨bb,bo,es,clk,m,vr,sr,h1,h2,h3,h4,h5⟩:=h;exact ⟨bb,bo,es,clk,m,vr,sr,h1,h2,h3,h4.mono hD,h5.mono RcR.keeps hD⟩
def TreeS (D:Sto) (vb vp:Value) (b:Bt) (P:Pl) (s:Seg):Prop:= ∃sb sp,s=sb++sp∧BatchS D vb vp b sb∧PoolS D vp P sp∧b.pool=P.f
theorem TreeS.mono {D D':Sto} {vb vp:Value} {b:Bt} {P:Pl} {s:Seg} (h:TreeS D vb vp b P s) (hD:Le D D'):TreeS D' vb vp b P s:=by obtain ⟨sb,sp,h1,h2,h3,h4⟩:=h;exact ⟨sb,sp,h1,h2.mono hD,h3.mono hD,h4⟩
def Ext (b b':Bt):Prop:=b'.pool=b.pool∧ ∃l,b'.recs=b.recs++l
theorem Ext.refl (b:Bt):Ext b b:=⟨rfl, [],by simp⟩
theorem Ext.trans {a b c:Bt} (h:Ext a b) (k:Ext b c):Ext a c:=by obtain ⟨h1,l,h2⟩:=h;obtain ⟨k1,m,k2⟩:=k;exact ⟨k1.trans h1,l++m,by rw [k2,h2,List.append_assoc]⟩
theorem cmpL_lt: ∀a b:List Nat,cmpL a b<0↔ltB a b=true
 | [], []=>by simp [cmpL,ltB]
 | [],_::_=>by simp [cmpL,ltB]
 |_::_, []=>by simp [cmpL,ltB]
 |x::xs,y::ys=>by
  simp only [cmpL,ltB];by_cases h:x=y
  ·rw [if_pos h,if_pos h];exact cmpL_lt xs ys
  rw [if_neg h,if_neg h];by_cases h2:x<y
  ·simp [h2]
  simp [h2]
theorem cmpL_eq: ∀a b:List Nat,cmpL a b=0↔a=b
 | [], []=>by simp [cmpL]
 | [],_::_=>by simp [cmpL]
 |_::_, []=>by simp [cmpL]
 |x::xs,y::ys=>by
  simp only [cmpL];by_cases h:x=y
  ·rw [if_pos h,cmpL_eq xs ys,h];simp
  rw [if_neg h];by_cases h2:x<y
  ·simp [h2,h]
  simp [h2,h]
def RcV (D:Sto) (v:Value) (r:Rc):Prop:= ∃k u,v= .agg (rcCells r k u).toArray∧RB D k r.key∧RB D u r.val∧ROk r
theorem RcV.mono {D D':Sto} {v:Value} {r:Rc} (h:RcV D v r) (hD:Le D D'):RcV D' v r:=by obtain ⟨k,u,h1,h2,h3,h4⟩:=h;exact ⟨k,u,h1,h2.mono hD,h3.mono hD,h4⟩
structure TSents (D:Sto) (ad:Nat→Addr):Prop where
 g103:GlobIs D 4 (errV ad 103)
 g104:GlobIs D 5 (errV ad 104)
 g105:GlobIs D 0 (errV ad 105)
 g106:GlobIs D 7 (errV ad 106)
 g109:GlobIs D 1 (errV ad 109)
 g113:GlobIs D 8 (errV ad 113)
theorem TSents.mono {D D':Sto} {ad:Nat→Addr} (h:TSents D ad) (hD:Le D D'):TSents D' ad:=⟨h.g103.mono hD,h.g104.mono hD,h.g105.mono hD,h.g106.mono hD,h.g109.mono hD,h.g113.mono hD⟩
theorem Sents.t {D:Sto} {ad:Nat→Addr} (h:Sents D ad):TSents D ad:=⟨h.g103,h.g104,h.g105,h.g106,h.g109,h.g113⟩
end Go.Proofs.YtkknmpkcfpdllaaGreatDoor.B
