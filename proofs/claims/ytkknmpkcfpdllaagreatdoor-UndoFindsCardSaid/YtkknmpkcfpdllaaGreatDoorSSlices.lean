/- A program logic over the model: what is owned, what is written no more, and one lemma for each kind of step. -/
import Derived.Test.YtkknmpkcfpdllaaGreatDoorTTreePure
import Derived.Test.YtkknmpkcfpdllaaGreatDoorSLogB
import Derived.Test.YtkknmpkcfpdllaaGreatDoorTSee
import Derived.Test.YtkknmpkcfpdllaaGreatDoorTUndoRead
import Derived.Test.YtkknmpkcfpdllaaGreatDoorTFacts
import Derived.Test.YtkknmpkcfpdllaaGreatDoorSLaid
import Derived.Deep.Slices
import Derived.Deep.Strs
namespace Go.Proofs.YtkknmpkcfpdllaaGreatDoor.B
open Go
set_option linter.unusedVariables false
set_option linter.unusedSimpArgs false
def EOk (e:Bs×Bs):Prop:=e.1.length≤100000∧e.2.length≤100000
structure POk (p:Pg):Prop where
 l0: -4611686018427387904≤p.lsn
 l1:p.lsn≤4611686018427387904
 v0:0≤p.level
 v1:p.level≤16
 n0: -1≤p.next
 n1:p.next≤4611686018427387904
 len:p.ents.length≤8
 ents: ∀e∈p.ents,EOk e
structure ROk (r:Rc):Prop where
 l0: -4611686018427387904≤r.lsn
 l1:r.lsn≤4611686018427387904
 s0:0≤r.slot
 s1:r.slot≤4611686018427387904
 k:r.key.length≤100000
 v:r.val.length≤100000
def EnR (D:Sto) (vs:List Value) (e:Bs×Bs):Prop:= ∃k v,vs= [k,v]∧RB D k e.1∧RB D v e.2∧EOk e
theorem EnR.keeps:Keeps EnR:=fun D D' vs x hD ⟨k,v,h1,h2,h3,h4⟩=>⟨k,v,h1,h2.mono hD,h3.mono hD,h4⟩
abbrev EnD (D:Sto) (v:Value) (es:Ens):Prop:=DR 2 EnR D v es
def pgCells (p:Pg) (e:Value):List Value:= [.int .i64 p.id, .int .i64 p.lsn, .int .i64 p.level, .int .i64 p.next,e]
def PgR (D:Sto) (vs:List Value) (p:Pg):Prop:= ∃e,vs=pgCells p e∧EnD D e p.ents∧POk p
theorem PgR.keeps:Keeps PgR:=fun D D' vs x hD ⟨e,h1,h2,h3⟩=>⟨e,h1,h2.mono EnR.keeps hD,h3⟩
def PgV (D:Sto) (v:Value) (p:Pg):Prop:= ∃e,v= .agg (pgCells p e).toArray∧EnD D e p.ents∧POk p
theorem PgV.mono {D D':Sto} {v:Value} {p:Pg} (h:PgV D v p) (hD:Le D D'):PgV D' v p:=by obtain ⟨e,h1,h2,h3⟩:=h;exact ⟨e,h1,h2.mono EnR.keeps hD,h3⟩
def rcCells (r:Rc) (k v:Value):List Value:= [.int .i64 r.lsn, .int .i64 r.back, .int .i64 r.epoch, .int .i64 r.group, .int .i64 r.page, .int .i64 r.kind, .int .i64 r.slot,k,v, .bool r.last]
def RcR (D:Sto) (vs:List Value) (r:Rc):Prop:= ∃k v,vs=rcCells r k v∧RB D k r.key∧RB D v r.val∧ROk r
theorem RcR.keeps:Keeps RcR:=fun D D' vs x hD ⟨k,v,h1,h2,h3,h4⟩=>⟨k,v,h1,h2.mono hD,h3.mono hD,h4⟩
def MapD (D:Sto) (m:List (Int×Value)) (f:Int→Option Pg):Prop:= ∀k,match f k with
 |none=>getM m k=none
 |some p=> ∃v,getM m k=some v∧PgV D v p
theorem MapD.mono {D D':Sto} {m:List (Int×Value)} {f:Int→Option Pg} (h:MapD D m f) (hD:Le D D'):MapD D' m f:=fun k=>by
 have:=h k;cases hf:f k with
 |none=>rw [hf] at this;exact this
 |some p=>rw [hf] at this;obtain ⟨v,h1,h2⟩:=this;exact ⟨v,h1,h2.mono hD⟩
theorem MapD.none {D:Sto} {m:List (Int×Value)} {f:Int→Option Pg} (h:MapD D m f) {k:Int} (hf:f k= .none):getM m k= .none:=by have:=h k;rw [hf] at this;exact this
theorem MapD.some {D:Sto} {m:List (Int×Value)} {f:Int→Option Pg} (h:MapD D m f) {k:Int} {p:Pg} (hf:f k= .some p): ∃e,getM m k= .some (.agg (pgCells p e).toArray)∧EnD D e p.ents∧POk p:=by have:=h k;rw [hf] at this;obtain ⟨v,h1,e,rfl,h2,h3⟩:=this;exact ⟨e,h1,h2,h3⟩
theorem MapD.empty (D:Sto):MapD D [] (fun _=> .none):=fun k=>rfl
theorem MapD.put {D:Sto} {m:List (Int×Value)} {f:Int→Option Pg} (h:MapD D m f) {k:Int} {v:Value} {p:Pg} (hp:PgV D v p):MapD D (putM m k v) (fun j=>if j=k then .some p else f j):=fun j=>by
 simp only [getM_put];by_cases hj:j=k
 ·subst hj;simp only [if_true];exact ⟨v,rfl,hp⟩
 rw [if_neg hj,if_neg (fun e=>hj e.symm)];exact h j
def PoolS (D:Sto) (vp:Value) (P:Pl) (s:Seg):Prop:= ∃bp bl bw es clk m es' clk' mw,vp= .pointer (some ⟨bp,0,none⟩)∧s= [(bp, .cells #[.map (some bl), .map (some bw)] 122 (0,0)),(bl, .map es clk),(bw, .map es' clk')]∧
 IntMap es clk m∧MapD D m P.f∧m.length=P.n∧IntMap es' clk' mw∧mw.map (·.1)=P.wants
theorem PoolS.mono {D D':Sto} {vp:Value} {P:Pl} {s:Seg} (h:PoolS D vp P s) (hD:Le D D'):PoolS D' vp P s:=by obtain ⟨bp,bl,bw,es,clk,m,es',clk',mw,h1,h2,h3,h4,h5,h6,h7⟩:=h;exact ⟨bp,bl,bw,es,clk,m,es',clk',mw,h1,h2,h3,h4.mono hD,h5,h6,h7⟩
def BatchS (D:Sto) (vb vp:Value) (b:Bt) (s:Seg):Prop:= ∃bb bo es clk m vr sr,vb= .pointer (some ⟨bb,0,none⟩)∧s=(bb, .cells #[vp, .map (some bo),vr] 130 (0,0))::(bo, .map es clk)::sr∧
 IntMap es clk m∧MapD D m b.own∧OR 10 RcR D 124 vr b.recs sr
theorem BatchS.mono {D D':Sto} {vb vp:Value} {b:Bt} {s:Seg} (h:BatchS D vb vp b s) (hD:Le D D'):BatchS D' vb vp b s:=by obtain ⟨bb,bo,es,clk,m,vr,sr,h1,h2,h3,h4,h5⟩:=h;exact ⟨bb,bo,es,clk,m,vr,sr,h1,h2,h3,h4.mono hD,h5.mono RcR.keeps hD⟩
def TreeS (D:Sto) (vb vp:Value) (b:Bt) (P:Pl) (s:Seg):Prop:= ∃sb sp,s=sb++sp∧BatchS D vb vp b sb∧PoolS D vp P sp∧b.pool=P.f
theorem TreeS.mono {D D':Sto} {vb vp:Value} {b:Bt} {P:Pl} {s:Seg} (h:TreeS D vb vp b P s) (hD:Le D D'):TreeS D' vb vp b P s:=by obtain ⟨sb,sp,h1,h2,h3,h4⟩:=h;exact ⟨sb,sp,h1,h2.mono hD,h3.mono hD,h4⟩
def Ext (b b':Bt):Prop:=b'.pool=b.pool∧ ∃l,b'.recs=b.recs++l
theorem Ext.refl (b:Bt):Ext b b:=⟨rfl, [],by simp⟩
theorem Ext.trans {a b c:Bt} (h:Ext a b) (k:Ext b c):Ext a c:=by obtain ⟨h1,l,h2⟩:=h;obtain ⟨k1,m,k2⟩:=k;exact ⟨k1.trans h1,l++m,by rw [k2,h2,List.append_assoc]⟩
theorem cmpL_lt: ∀a b:List Nat,cmpL a b<0↔ltB a b=true
 | [], []=>by simp [cmpL,ltB]
 | [],_::_=>by simp [cmpL,ltB]
 |_::_, []=>by simp [cmpL,ltB]
 |x::xs,y::ys=>by
  simp only [cmpL,ltB];by_cases h:x=y
  ·rw [if_pos h,if_pos h];exact cmpL_lt xs ys
  rw [if_neg h,if_neg h];by_cases h2:x<y
  ·simp [h2]
  simp [h2]
theorem cmpL_eq: ∀a b:List Nat,cmpL a b=0↔a=b
 | [], []=>by simp [cmpL]
 | [],_::_=>by simp [cmpL]
 |_::_, []=>by simp [cmpL]
 |x::xs,y::ys=>by
  simp only [cmpL];by_cases h:x=y
  ·rw [if_pos h,cmpL_eq xs ys,h];simp
  rw [if_neg h];by_cases h2:x<y
  ·simp [h2,h]
  simp [h2,h]
def RcV (D:Sto) (v:Value) (r:Rc):Prop:= ∃k u,v= .agg (rcCells r k u).toArray∧RB D k r.key∧RB D u r.val∧ROk r
theorem RcV.mono {D D':Sto} {v:Value} {r:Rc} (h:RcV D v r) (hD:Le D D'):RcV D' v r:=by obtain ⟨k,u,h1,h2,h3,h4⟩:=h;exact ⟨k,u,h1,h2.mono hD,h3.mono hD,h4⟩
structure TSents (D:Sto) (ad:Nat→Addr):Prop where
 g103:GlobIs D 4 (errV ad 103)
 g104:GlobIs D 5 (errV ad 104)
 g105:GlobIs D 0 (errV ad 105)
 g106:GlobIs D 7 (errV ad 106)
 g109:GlobIs D 1 (errV ad 109)
 g113:GlobIs D 8 (errV ad 113)
theorem TSents.mono {D D':Sto} {ad:Nat→Addr} (h:TSents D ad) (hD:Le D D'):TSents D' ad:=⟨h.g103.mono hD,h.g104.mono hD,h.g105.mono hD,h.g106.mono hD,h.g109.mono hD,h.g113.mono hD⟩
theorem Sents.t {D:Sto} {ad:Nat→Addr} (h:Sents D ad):TSents D ad:=⟨h.g103,h.g104,h.g105,h.g106,h.g109,h.g113⟩
open Go Go.Proofs
set_option maxRecDepth 20000
set_option maxHeartbeats 8000000
def BsR (D:Sto) (vs:List Value) (x:Bs):Prop:= ∃v,vs= [v]∧RB D v x
theorem BsR.keeps:Keeps BsR:=fun D D' vs x hD h=>by obtain ⟨v,rfl,h⟩:=h;exact ⟨v,rfl,h.mono hD⟩
theorem Keys_spec {w0 w:World} {D:Sto} {ss:List Seg} (hI:Inv w0 D ss w) {vl:Value} {l:List Bs} (hl:DR 1 BsR D vl l) {most long:Int} (hm:most≤1000000000) :
  Calls Tryz.prog 13 #[vl, .int .i64 most, .int .i64 long] w (Ret fun r w'=>r= .bool (decide ((l.length:Int)≤most∧ ∀k∈l,(k.length:Int)≤long))∧Inv w0 D ss w'):=by
 obtain ⟨A1,c2,rfl,_⟩:=hl.slice;refine enter (N:=25) Tryz.func13 rfl rfl rfl ?_;intro a hE;refine go 6 hE hI ?_;clear hE a;intro a hE;refine zs hE (p_len rfl rfl Tryz.underlying23) ?_;clear hE a;intro a hE;refine zm hE ?_;clear hE a;intro a hE;refine l_step rfl (o_cmp hE rfl rfl rfl rfl rfl rfl ?_ ?_)
 ·intro hgt;replace hgt:=gtr_t hgt;clear hE a;intro a hE;refine go 7 hE hI ?_;clear hE a;intro a hE;refine ret1 rfl hE rfl ?_;exact ⟨by congr 1;symm;rw [decide_eq_false_iff_not];intro hh;omega,hI⟩
 intro hgt;replace hgt:=gtr_f hgt;clear hE a;intro a hE;refine go 9 hE hI ?_;clear hE a;intro a hE;refine c_loop (X:=Nat) (fun x=> [(0,_),(1,_),(2,_),(7, .int .i64 (x:Nat))]) (fun x w=>x≤l.length∧(∀k∈l.take x,(k.length:Int)≤long)∧Inv w0 D ss w) (fun x=>l.length - x) 0 (hE.pick [0,1,2,7]) ⟨Nat.zero_le _,by simp,hI⟩ ?_;clear hE hI a w;rintro i a w hE ⟨hi,hall,hI⟩;(try dsimp only at hE);(try dsimp only at hi);(try dsimp only at hall);(try dsimp only at hI);refine go 4 hE hI ?_;clear hE a;intro a hE;refine zs hE (p_len rfl rfl Tryz.underlying23) ?_;clear hE a;intro a hE;refine l_step rfl (o_cmp hE rfl rfl rfl rfl rfl rfl ?_ ?_)
 ·intro hlt;replace hlt:=lss_t hlt;clear hE a;intro a hE;refine go 9 hE hI ?_;clear hE a;intro a hE;obtain ⟨x_3,hx_3⟩: ∃z9,(l)[i]? =some z9:=⟨_,List.getElem?_eq_getElem (by omega)⟩;obtain ⟨b_3,o_3,cs_3,T_3,fr_3,rfl,hb_3,hat_3⟩:=hl.at_ (by intro h0;rw [h0] at hx_3;simp at hx_3);obtain ⟨vs_3,hl_3,⟨k_3,rfl,hk_3⟩,hex_3,hsz_3,hce_3⟩:=hat_3.extract hx_3 (by omega);obtain ⟨A4,c5,rfl,_⟩:=hk_3.slice;refine zs hE (p_indexAddr (m:=o_3+i*1) rfl rfl Tryz.underlying23 sz_33 (by omega) (by omega) (by simp)) ?_;clear hE a;intro a hE;refine zl hE (r_load rfl scal_33 (hI.data _ _ (hb_3)) (hce_3 0 _ rfl)) ?_;clear hE a;intro a hE;refine zs hE (p_len rfl rfl Tryz.underlying33) ?_;clear hE a;intro a hE;refine zm hE ?_;clear hE a;intro a hE;refine l_step rfl (o_cmp hE rfl rfl rfl rfl rfl rfl ?_ ?_)
  ·intro hlong;replace hlong:=gtr_t hlong;clear hE a;intro a hE;refine go 11 hE hI ?_;clear hE a;intro a hE;refine ret1 rfl hE rfl ?_;exact ⟨by congr 1;symm;rw [decide_eq_false_iff_not];intro hh;have:=hh.2 x_3 (List.mem_of_getElem? hx_3);omega,hI⟩
  intro hlong;replace hlong:=gtr_f hlong;clear hE a;intro a hE;refine go 7 hE hI ?_;clear hE a;intro a hE;refine zs hE (p_arith (z:=((i+1:Nat):Int)) rfl rfl (add_z (by omega) (by omega) (by omega))) ?_;clear hE a;intro a hE;refine go 2 hE hI ?_;clear hE a;intro a hE;exact ⟨i+1,hE.pick [0,1,2,7],⟨by show i+1≤_;omega,fun k hk=>by
    rw [List.take_add_one,hx_3] at hk;rcases List.mem_append.1 hk with q|q
    ·exact hall k q
    have:k=x_3:=by simpa using q
    subst this;omega,hI⟩,by show l.length - (i+1)<l.length - i;omega⟩
 intro hlt;replace hlt:=lss_f hlt;clear hE a;intro a hE;refine go 11 hE hI ?_;clear hE a;intro a hE;refine ret1 rfl hE rfl ?_;exact ⟨by congr 1;symm;rw [decide_eq_true_eq];exact ⟨by omega,fun k hk=>hall k (by rw [List.take_of_length_le (by omega)];exact hk)⟩,hI⟩
open Go Go.Deep Go.ChangeShapes Go.WideShapes Go.ChangeAt Go.RowKit
section
variable {H:Type} {enc:TypeId×Value→H} {P:Program} {W:World}
theorem open_rowsT {base:Nat} {spare:Nat→Bool} {held:Bool} {fuel:Nat} {t e q:TypeId} {v:Value} {y:DataW H×List MemPlace} (ht:P.underlying t=some (.slice e)) (he:P.underlying e=some (.slice q)) (hq:P.underlying q=some (.int .u8)) (ce:P.cellsOf e=1) (cq:P.cellsOf q=1)
    (hf:DataW.trod enc P W base spare held fuel t [v]=some y): ∃l:List Bs,DR 1 BsR (fun b=>W.heap[b]?) v l∧l.length≤maxLen:=by
  rcases open_slice1 ht ce hf with ⟨hcs,_⟩|⟨x,len,cap,m,n,V,D,Pl,hcs,_,hl,hm,hmm,_,hel⟩
  ·obtain rfl:v= .slice none 0 0:=by simpa using hcs
   exact ⟨[],DR.nil 1 BsR _,by simp [maxLen]⟩
  ·obtain rfl:v= .slice (some x) len cap:=by simpa using hcs
   have hlm:len≤m:=by rw [hmm];split<;>omega
   obtain ⟨f,hfv⟩: ∃f:Nat→Bs,∀i,i<m→RB (fun b=>W.heap[b]?) (V i) (f i):=by refine ⟨fun i=>if h:i<m then (open_bytesT he hq cq (hel i h).2).choose else [],fun i h=> ?_⟩;simp only [dif_pos h];exact (open_bytesT he hq cq (hel i h).2).choose_spec.1
   have hln:((List.range len).map f).length=len:=by simp
   refine ⟨(List.range len).map f,⟨some x,cap,by rw [hln],by rw [hln];exact hl,by simp,fun hne=> ?_⟩,by rw [hln];omega⟩;have hlen:0<len:=by
     rcases Nat.eq_zero_or_pos len with h0|h0
     ·subst h0;simp at hne
     ·exact h0
   have h0:=(hel 0 (by omega)).1;obtain ⟨b,off,sp⟩:=x;have hsp:sp=none:=by
     cases sp with
     |none=>rfl
     |some z=>
       simp only [World.cell?,Addr.add] at h0;split at h0<;>simp at h0
   subst hsp;rw [add_plain] at h0;simp only [World.cell?,Nat.add_zero] at h0;split at h0
   ·rename_i cs T fr hb;refine ⟨b,off,cs,T,fr,rfl,hb,fun i y hy=> ?_⟩;have hi:i<len:=by
      have:=(List.getElem?_eq_some_iff.1 hy).1;rw [hln] at this;exact this
    have hyf:y=f i:=by rw [List.getElem?_map,List.getElem?_range hi] at hy;simpa using hy.symm
    subst hyf;have h1:=(hel i (by omega)).1;rw [add_plain] at h1;simp only [World.cell?] at h1;rw [hb] at h1;have h2:cs[off+i]? =some (V i):=by simpa using h1
    refine ⟨[V i],rfl,⟨V i,rfl,hfv i (by omega)⟩,fun j u hj=> ?_⟩;cases j with
    |zero=>simp at hj;subst hj;simpa using h2
    |succ j=>simp at hj
   ·cases h0
theorem open_rows {b0 base:Nat} {spare:Nat→Bool} {held:Bool} {t e q:TypeId} {v:Value} {d:DataW H} {ps:List MemPlace} (ht:P.underlying t=some (.slice e)) (he:P.underlying e=some (.slice q)) (hq:P.underlying q=some (.int .u8)) (ce:P.cellsOf e=1) (cq:P.cellsOf q=1)
    (hv:Value.okWide P W .any b0 t v) (h:DataW.Trod enc P W base spare held t v d ps): ∃l:List Bs,DR 1 BsR (fun b=>W.heap[b]?) v l∧l.length≤maxLen:=by
  obtain ⟨a,len,cap,rfl⟩:=okWide_slice ht hv;obtain ⟨fuel,hf⟩:=h;exact open_rowsT ht he hq ce cq hf
end
section
variable {H:Type} {enc:TypeId×Value→H} {P:Program} {W:World} {α:Type} {size:Nat} {R:Sto→List Value→α→Prop}
theorem open_slcT [Inhabited α] {base:Nat} {spare:Nat→Bool} {held:Bool} {fuel:Nat} {t e:TypeId} {v:Value} {y:DataW H×List MemPlace} (ht:P.underlying t=some (.slice e)) (hc:P.cellsOf e=size) (h0:0<size)
    (hel: ∀n cs z,DataW.trod enc P W base spare held n e cs=some z→cs.length=size→ ∃x,R (fun b=>W.heap[b]?) cs x)
    (hf:DataW.trod enc P W base spare held fuel t [v]=some y): ∃l:List α,DR size R (fun b=>W.heap[b]?) v l∧l.length≤maxLen:=by
  rcases open_slice ht hf with ⟨hcs,_⟩|⟨x,len,cap,m,n,D,Pl,hcs,_,hl,hm,hmm,_,hx⟩
  ·obtain rfl:v= .slice none 0 0:=by simpa using hcs
   exact ⟨[],DR.nil size R _,by simp [maxLen]⟩
  ·obtain rfl:v= .slice (some x) len cap:=by simpa using hcs
   have hlm:len≤m:=by rw [hmm];split<;>omega
   rw [hc] at hx;obtain ⟨f,hfv⟩: ∃f:Nat→List Value×α,∀i,i<m→W.cells? base (x.add (i*size)) size=some (f i).1∧R (fun b=>W.heap[b]?) (f i).1 (f i).2:=by
     have key: ∀i,∃p:List Value×α,i<m→W.cells? base (x.add (i*size)) size=some p.1∧R (fun b=>W.heap[b]?) p.1 p.2:=by
       intro i;by_cases hi:i<m
       ·obtain ⟨cs,h1,h2⟩:=hx i hi;obtain ⟨z,hz⟩:=hel n cs _ h2 (World.cells?_some h1).2.1;exact ⟨(cs,z),fun _=>⟨h1,hz⟩⟩
       ·exact ⟨([],default),fun h=>absurd h hi⟩
     exact ⟨fun i=>(key i).choose,fun i hi=>(key i).choose_spec hi⟩
   have hln:((List.range len).map fun i=>(f i).2).length=len:=by simp
   refine ⟨(List.range len).map fun i=>(f i).2,⟨some x,cap,by rw [hln],by rw [hln];exact hl,by simp,fun hne=> ?_⟩,by rw [hln];omega⟩;have hlen:0<len:=by
     rcases Nat.eq_zero_or_pos len with h1|h1
     ·subst h1;simp at hne
     ·exact h1
   have h1:=(World.cells?_some (hfv 0 (by omega)).1).2;have h2:=h1.2 0 h0;obtain ⟨u,hu⟩: ∃u,(f 0).1[0]? =some u:=⟨_,List.getElem?_eq_getElem (by rw [h1.1];exact h0)⟩;rw [hu] at h2;obtain ⟨b,off,sp⟩:=x;have hsp:sp=none:=by
     cases sp with
     |none=>rfl
     |some z=>
       exfalso;rw [Nat.zero_mul] at h2;simp only [World.cell?,Addr.add,if_true] at h2;split at h2<;>simp at h2
   subst hsp;rw [add_plain,add_plain] at h2;simp only [World.cell?] at h2;split at h2
   ·rename_i cs T fr hb;refine ⟨b,off,cs,T,fr,rfl,hb,fun i y hy=> ?_⟩;have hi:i<len:=by
      have:=(List.getElem?_eq_some_iff.1 hy).1;rw [hln] at this;exact this
    have hyf:y=(f i).2:=by rw [List.getElem?_map,List.getElem?_range hi] at hy;simpa using hy.symm
    subst hyf;obtain ⟨g1,g2⟩:=hfv i (by omega);have g3:=World.cells?_some g1;refine ⟨(f i).1,g3.2.1,g2,fun j u hj=> ?_⟩;have hjl:j<size:=by have:=(List.getElem?_eq_some_iff.1 hj).1;rw [g3.2.1] at this;exact this
    have g4:=g3.2.2 j hjl;rw [add_plain,add_plain,hj] at g4;simp only [World.cell?] at g4;rw [hb] at g4;simpa using g4
   ·cases h2
theorem open_slc [Inhabited α] {b0 base:Nat} {spare:Nat→Bool} {held:Bool} {t e:TypeId} {v:Value} {d:DataW H} {ps:List MemPlace} (ht:P.underlying t=some (.slice e)) (hc:P.cellsOf e=size) (h0:0<size)
    (hel: ∀n cs z,DataW.trod enc P W base spare held n e cs=some z→cs.length=size→ ∃x,R (fun b=>W.heap[b]?) cs x)
    (hv:Value.okWide P W .any b0 t v) (h:DataW.Trod enc P W base spare held t v d ps): ∃l:List α,DR size R (fun b=>W.heap[b]?) v l∧l.length≤maxLen:=by
  obtain ⟨a,len,cap,rfl⟩:=okWide_slice ht hv;obtain ⟨fuel,hf⟩:=h;exact open_slcT ht hc h0 hel hf
end
end Go.Proofs.YtkknmpkcfpdllaaGreatDoor.B
