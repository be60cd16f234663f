/- What functions of the program compute, each function once: steps over the model, and the plain law of it. -/
import Derived.Test.YtikllmoofngjnaaGreatDoorTSlog7
import Derived.Test.YtikllmoofngjnaaGreatDoorTFacts
namespace Go.Proofs.YtikllmoofngjnaaGreatDoor.B
open Go Go.Proofs
set_option linter.unusedVariables false
set_option linter.unusedSimpArgs false
set_option maxRecDepth 20000
set_option maxHeartbeats 8000000
def Ht.addAll (h:Ht) (l:List Rc):Ht:=l.foldl Ht.add h
def Ht.news:Ht->List Rc->List Rc
 |_, []=> []
 |h,r::l=>if h.isnew r then r::(h.add r).news l else (h.add r).news l
def Ht.FitsAll:Ht->List Rc->Prop
 |_, []=>True
 |h,r::l=>h.Fits r/\(h.add r).FitsAll l
theorem Ht.add_old {h:Ht} {r:Rc} (hn:h.isnew r=false):h.add r=h:=by rw [Ht.add,hn];rfl
theorem Ht.addAll_app (h:Ht) (a b:List Rc):h.addAll (a++b)=(h.addAll a).addAll b:=List.foldl_append
theorem Ht.addAll_snoc {h:Ht} {l:List Rc} {i:Nat} {r:Rc} (hr:l[i]? =some r):h.addAll (l.take (i+1))=(h.addAll (l.take i)).add r:=by rw [List.take_add_one,hr,Ht.addAll_app];rfl
theorem Ht.news_app: ∀(a:List Rc) (h:Ht) (r:Rc),h.news (a++ [r])=h.news a++(if (h.addAll a).isnew r then [r] else [])
 | [],h,r=>by
  show h.news [r]= []++(if h.isnew r then [r] else []);rw [Ht.news,Ht.news];cases h.isnew r<;>rfl
 |x::a,h,r=>by
  have ih:=Ht.news_app a (h.add x) r;have e:h.addAll (x::a)=(h.add x).addAll a:=rfl;rw [List.cons_append,Ht.news,Ht.news,ih,e];split<;>rfl
theorem Ht.news_snoc {h:Ht} {l:List Rc} {i:Nat} {r:Rc} (hr:l[i]? =some r):h.news (l.take (i+1))=h.news (l.take i)++(if (h.addAll (l.take i)).isnew r then [r] else []):=by rw [List.take_add_one,hr];exact Ht.news_app _ _ _
theorem Ht.FitsAll.at_: ∀{l:List Rc} {h:Ht} {i:Nat} {r:Rc},h.FitsAll l->l[i]? =some r->(h.addAll (l.take i)).Fits r
 | [],h,i,r,_,hr=>by simp at hr
 |x::l,h,0,r,hf,hr=>by
  obtain rfl:x=r:=by simpa using hr
  exact hf.1
 |x::l,h,i+1,r,hf,hr=>by
  have:=hf.2.at_ (i:=i) (r:=r) (by simpa using hr);exact this
theorem Ht.addAll_news: ∀(l:List Rc) (h:Ht),h.addAll (h.news l)=h.addAll l
 | [],h=>rfl
 |r::l,h=>by
  rw [Ht.news];cases hn:h.isnew r with
  |true=>exact Ht.addAll_news l (h.add r)
  |false=>rw [Ht.add_old hn];show h.addAll (h.news l)=(h.add r).addAll l;rw [Ht.add_old hn];exact Ht.addAll_news l h
theorem Ht.news_news: ∀(l:List Rc) (h:Ht),h.news (h.news l)=h.news l
 | [],h=>rfl
 |r::l,h=>by
  rw [Ht.news];cases hn:h.isnew r with
  |true=>
   show h.news (r::(h.add r).news l)=r::(h.add r).news l;rw [Ht.news,hn,Ht.news_news l (h.add r)];rfl
  |false=>rw [Ht.add_old hn];exact Ht.news_news l h
theorem Ht.FitsAll.news: ∀{l:List Rc} {h:Ht},h.FitsAll l->h.FitsAll (h.news l)
 | [],h,_=>trivial
 |r::l,h,hf=>by
  rw [Ht.news];cases hn:h.isnew r with
  |true=>exact ⟨hf.1,hf.2.news⟩
  |false=>
   have h2:=hf.2;rw [Ht.add_old hn] at h2 ⊢;exact h2.news
theorem Ht.add_spans (h:Ht) (r:Rc):(h.add r).spans=h.spans:=by unfold Ht.add;split<;>rfl
theorem Ht.addAll_spans: ∀(l:List Rc) (h:Ht),(h.addAll l).spans=h.spans
 | [],h=>rfl
 |r::l,h=>(Ht.addAll_spans l (h.add r)).trans (h.add_spans r)
theorem Ht.news_mem: ∀{l:List Rc} {h:Ht} {r:Rc},r∈h.news l->r∈l
 | [],h,r,hr=>by simp [Ht.news] at hr
 |x::l,h,r,hr=>by
  rw [Ht.news] at hr;split at hr
  ·rcases List.mem_cons.1 hr with rfl|hr
   ·simp
   exact List.mem_cons_of_mem _ (Ht.news_mem hr)
  exact List.mem_cons_of_mem _ (Ht.news_mem hr)
theorem Ht.FitsAll.valid: ∀{l:List Rc} {h:Ht},h.FitsAll l-> ∀r∈l,validR r=true
 | [],h,_,r,hr=>by simp at hr
 |x::l,h,hf,r,hr=>by
  rcases List.mem_cons.1 hr with rfl|hr
  ·exact hf.1.ok
  exact hf.2.valid r hr
theorem DoRecs_spec {w0 w:World} {D:Sto} {ss:List Seg} {s:Seg} {vl vd:Value} {L:Lg} (I:Inv w0 D (s::ss) w) (hL:LgS D vl vd L s) {vc:Value} {c:Cl} (hc:ClV D vc c) (hk:c.kind=0) (hf:L.h.FitsAll c.recs) (hrl:c.recs.length<=16384) (hsm:L.h.spans.length<=64) :
  Calls Tryz.prog 58 #[vl,vc] w (Ret fun r w'=> ∃D' s',Le D D'/\LgS D' vl vd {L with h:=L.h.addAll c.recs} s'/\Inv w0 D' (s'::ss) w'):=by
 obtain ⟨vsc,vrc,rfl,hvsc,hvrc⟩:=hc;obtain ⟨A1,c2,rfl,_⟩:=hvsc.slice;obtain ⟨A3,c4,rfl,_⟩:=hvrc.slice;obtain ⟨bl,vs,vh,sd,sh,rfl,rfl,hvs,hd,hh⟩:=hL;obtain ⟨A5,c6,rfl,_⟩:=hvs.slice;replace I:Inv w0 D ([(bl, .cells #[vd, .int .i64 L.s.promise, .int .i64 L.s.installed, .int .i64 L.s.inc, .bool L.s.whole, .int .i64 L.s.floor, .slice A5 L.s.spans.length c6,vh, .int .i64 (L.end_:Nat), .int .i64 (L.calls:Nat)] 112 (0,0))]::sd::sh::ss) w:=Inv.three.1 I;refine enter (N:=116) Tryz.func58 rfl rfl rfl ?_;intro a Z;refine wsr ?_;refine l_step rfl (f_box (cs:= #[_,_,_,_,_,_,_,_,_]) Z I rfl rfl rfl rfl rfl ?_);clear I Z a w;intro a b7 w Z I;refine go 8 Z I ?_;clear Z a;intro a Z;refine zs Z (p_cmp rfl rfl (eql_n (by omega))) ?_;clear Z a;intro a Z;refine go 4 Z I ?_;clear Z a;intro a Z;refine zs Z (p_cmp rfl rfl (eql_n (by omega))) ?_;clear Z a;intro a Z;refine go 4 Z I ?_;clear Z a;intro a Z;refine zs Z (p_cmp rfl rfl (eql_n (by omega))) ?_;clear Z a;intro a Z;refine go 4 Z I ?_;clear Z a;intro a Z;refine zs Z (p_cmp rfl rfl (eql_n (by omega))) ?_;clear Z a;intro a Z;refine go 4 Z I ?_;clear Z a;intro a Z;refine zs Z (p_cmp rfl rfl (eql_n (by omega))) ?_;clear Z a;intro a Z;refine go 9 Z I ?_;clear Z a;intro a Z;refine zs Z (p_len rfl rfl Tryz.underlying30) ?_;clear Z a;intro a Z;refine go 3 Z I ?_;clear Z a;intro a Z;refine c_loop (X:=Sto×Nat×Seg) (fun x=> [(0,_),(3,_),(103,_),(104,_),(105, .int .i64 (x.2.1:Nat))]) (fun x w=>x.2.1<=c.recs.length/\Le D x.1/\HtS x.1 vh (L.h.addAll (c.recs.take x.2.1)) x.2.2/\Inv w0 x.1 (_::_::sd::x.2.2::ss) w) (fun x=>c.recs.length - x.2.1) (D,0,_) (Z.pick [0,3,103,104,105]) ⟨Nat.zero_le _,Le.refl _,hh,I⟩ ?_;clear Z I a w;rintro ⟨D1,j,sh1⟩ a w Z ⟨hj,hD1,hh1,I⟩;(try dsimp only at Z);(try dsimp only at hj);(try dsimp only at hD1);(try dsimp only at hh1);(try dsimp only at I);refine wsr ?_;refine cmx Z ?_ ?_
 ·intro hlt;replace hlt:=lss_t hlt;clear Z a;intro a Z;refine gc 8 Z ?_;obtain ⟨x_8,hx_8⟩: ∃z9,(c.recs)[j]? =some z9:=⟨_,List.getElem?_eq_getElem (by omega)⟩;obtain ⟨b_8,o_8,cs_8,T_8,fr_8,rfl,hb_8,hat_8⟩:=hvrc.at_ (by intro h0;rw [h0] at hx_8;simp at hx_8);obtain ⟨vs_8,hl_8,⟨k_8,v_8,rfl,hk_8,hv_8,hok_8⟩,hex_8,hsz_8,hce_8⟩:=hat_8.extract hx_8 (by omega);obtain ⟨A9,c10,rfl,_⟩:=hk_8.slice;obtain ⟨A11,c12,rfl,_⟩:=hv_8.slice;refine zs Z (p_indexAddr (m:=o_8+j*10) rfl rfl Tryz.underlying30 sz_42 (by omega) (by omega) (by simp)) ?_;clear Z a;intro a Z;refine zl Z (r_loadA rfl agg_42 (I.data _ _ (hD1 _ _ (hb_8))) hsz_8 hex_8) ?_;clear Z a;intro a Z;refine l_step rfl (f_alloc (cs:= #[.int .i64 0, .int .i64 0, .int .i64 0, .int .i64 0, .int .i64 0, .int .i64 0, .int .i64 0, .slice none 0 0, .slice none 0 0, .bool false]) Z I rfl rfl rfl zer_42 rfl ?_);clear I Z a w;intro a b13 w Z I;refine l_step rfl (f_store (l:= [_,_,_,_,_,_,_,_,_,_]) (ss':=_::_) 0 Z I rfl rfl rfl rfl rfl sz_42 (by simp [Value.cells,Value.oneCell',pgCells,rcCells]) rfl rfl rfl ?_);clear I w;intro w I;refine wnt ?_;refine d_start [5] [] (by kernel_rfl) I rfl rfl ?_;clear I w;intro w I;refine dp 0 Z rfl (p_move rfl) (fun _=>I) (listed':= #[true,false,false,false,false,false]) ?_;clear Z a;intro a Z;refine dp 1 Z rfl (p_nilCheck rfl) (fun _=>I) ?_;clear Z a;intro a Z;refine dp 2 Z rfl (p_fieldAddr (m:=7) rfl fo_112_2 rfl) (fun _=>I) ?_;clear Z a;intro a Z;refine dl 3 Z rfl (fun w hS=>f_load rfl scal_37 (Inv.seg 2 hS rfl) rfl) (I) ?_;clear Z a;intro a Z;refine dl 4 Z rfl (fun w hS=>f_loadA (vs:= [_,_,_,_,_,_,_,_,_,_]) rfl agg_42 (Inv.seg 0 hS rfl) rfl rfl) (I) ?_;clear Z a;intro a Z;refine do1 5 Z rfl ?_;refine o_call Z rfl rfl rfl rfl ent_108 (Add_spec (I.bring 4) hh1 (by rw [Ht.addAll_spans];omega) ⟨_,_,rfl,(hk_8.mono hD1),(hv_8.mono hD1),hok_8⟩ (hf.at_ hx_8)) ?_;clear I Z a;rintro r w ⟨D14,s16,rfl,hD15,hh17,I⟩ a Z;replace I:=I.put_back 4;(try simp only [nrm,Value.cells] at I);refine ⟨nl, ?_⟩;refine dnx ?_;refine gc 3 Z ?_;refine zs Z (p_arith (z:=((j+1:Nat):Int)) rfl rfl (add_z (by omega) (by omega) (by omega))) ?_;clear Z a;intro a Z;refine go 2 Z I ?_;clear Z a;intro a Z;replace I:=I.erase 0;exact ⟨(D14,j+1,_),Z.pick [0,3,103,104,105],⟨by show j+1<=c.recs.length;omega,(hD1.trans hD15),by show HtS D14 vh (L.h.addAll (c.recs.take (j+1))) _;rw [Ht.addAll_snoc hx_8];exact hh17,I⟩,by show c.recs.length - (j+1)<c.recs.length - j;omega⟩
 intro hlt;replace hlt:=lss_f hlt;clear Z a;intro a Z;refine gc 7 Z ?_;refine ret0 rfl Z ?_;have hjl:j=c.recs.length:=by omega
 subst hjl;rw [List.take_length] at hh1;replace I:=I.erase 0;exact ⟨_,_,hD1,⟨bl,_,_,_,_,rfl,rfl,(DR.mono SpR.keeps hvs hD1),(DkS.mono hd hD1),hh1⟩,Inv.three.2 I⟩
theorem do_recs {x:Stt} {h:Ht} {c:Cl} (hk:c.kind=0) (hf:h.FitsAll c.recs) (hrl:c.recs.length<=16384) (hsm:h.spans.length<=64):DoOk x h c x (h.addAll c.recs):=fun e1 e2 I hL hc=>by
 subst e1;subst e2;exact DoRecs_spec I hL hc hk hf hrl hsm
def zPg0:Pg:=⟨0,0,0,0, []⟩
structure Ms where
 kind:Int:=0
 from_:Int:=0
 to_:Int:=0
 epoch:Int:=0
 inc:Int:=0
 group:Int:=0
 page:Int:=0
 lsn:Int:=0
 at_:Int:=0
 seq:Int:=0
 done:Int:=0
 recs:List Rc:= []
 spans:List Sp:= []
 body:Pg:=zPg0
structure Ms.Ok (m:Ms):Prop where
 kind:1<=m.kind/\m.kind<=15
 from_:0<=m.from_/\m.from_<=63
 to_:0<=m.to_/\m.to_<=63
 epoch:0<=m.epoch/\m.epoch<=1073741824
 inc:0<=m.inc/\m.inc<=1073741824
 group:0<=m.group/\m.group<=3
 page:0<=m.page/\m.page<=255
 lsn:0<=m.lsn/\m.lsn<=1099511627776
 at_:0<=m.at_/\m.at_<=1099511627776
 seq:0<=m.seq/\m.seq<=1073741824
 done:0<=m.done/\m.done<=1073741824
 recs:m.recs.length<=16384/\ ∀r∈m.recs,validR r=true
 spans:spansOk m.spans
 body:m.body=zPg0
def msCells (m:Ms) (vr vs ve:Value):List Value:= [.int .i64 m.kind, .int .i64 m.from_, .int .i64 m.to_, .int .i64 m.epoch, .int .i64 m.inc, .int .i64 m.group, .int .i64 m.page, .int .i64 m.lsn, .int .i64 m.at_, .int .i64 m.seq, .int .i64 m.done,vr,vs, .int .i64 m.body.id, .int .i64 m.body.lsn, .int .i64 m.body.level, .int .i64 m.body.next,ve]
def MsR (D:Sto) (vs:List Value) (m:Ms):Prop:= ∃vr vsp ve,vs=msCells m vr vsp ve/\DR 10 RcR D vr m.recs/\DR 3 SpR D vsp m.spans/\EnD D ve m.body.ents
theorem MsR.keeps:Keeps MsR:=fun D D' vs x hD ⟨a,b,c,h1,h2,h3,h4⟩=>⟨a,b,c,h1,h2.mono RcR.keeps hD,h3.mono SpR.keeps hD,h4.mono EnR.keeps hD⟩
def MsV (D:Sto) (v:Value) (m:Ms):Prop:= ∃vr vsp ve,v= .agg (msCells m vr vsp ve).toArray/\DR 10 RcR D vr m.recs/\DR 3 SpR D vsp m.spans/\EnD D ve m.body.ents
end Go.Proofs.YtikllmoofngjnaaGreatDoor.B
