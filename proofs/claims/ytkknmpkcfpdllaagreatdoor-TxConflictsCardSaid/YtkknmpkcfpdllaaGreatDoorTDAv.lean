/- What functions of the program compute, each function once: steps over the model, and the plain law of it. -/
import Derived.Test.YtkknmpkcfpdllaaGreatDoorTTx1
import Derived.Test.YtkknmpkcfpdllaaGreatDoorTFacts
import Derived.Test.YtkknmpkcfpdllaaGreatDoorTTreeLawA
namespace Go.Proofs.YtkknmpkcfpdllaaGreatDoor.B
open Go Go.Proofs
set_option linter.unusedVariables false
set_option linter.unusedSimpArgs false
set_option maxRecDepth 20000
set_option maxHeartbeats 8000000
theorem sk_177:strKeyed Tryz.prog 177=some 35:=by kernel_rfl
theorem OpsS.read {D:Sto} {p:Int×Opn}: ∀{l:List (Int×Opn)} {os:List Seg},OpsS D l os→p∈l→ ∃bm es clk m,(p.2.bo,Obj.cells #[.int .i64 (p.2.n:Nat), .map (some bm)] 179 (0,0))∈os.flatten∧(bm,Obj.map es clk)∈os.flatten∧StrMap es clk m∧OldR D m p.2.old
 |q::l,s::os,⟨h1,h2⟩,hp=>by
  rcases List.mem_cons.1 hp with rfl|hp
  ·obtain ⟨bm,es,clk,m,rfl,h3,h4⟩:=h1;exact ⟨bm,es,clk,m,by simp,by simp,h3,h4⟩
  obtain ⟨bm,es,clk,m,h3,h4,h5⟩:=OpsS.read h2 hp;exact ⟨bm,es,clk,m,by rw [List.flatten_cons];exact List.mem_append_right _ h3,by rw [List.flatten_cons];exact List.mem_append_right _ h4,h5⟩
 | [],_,_,hp=>by simp at hp
 |_::_, [],h,_=>h.elim
theorem uniq_key: ∀{l:List (Int×Opn)},((l.map ptrOf).map (·.1)).Nodup→ ∀{p p':Int×Opn},p∈l→p'∈l→p.1=p'.1→p=p'
 | [],_,p,p',h,_,_=>by simp at h
 |q::l,hn,p,p',h1,h2,he=>by
  simp only [List.map_cons,List.nodup_cons,List.map_map] at hn;have no: ∀r∈l,r.1≠q.1:=fun r hr e=>hn.1 (List.mem_map.2 ⟨r,hr,e⟩);rcases List.mem_cons.1 h1 with g1|g1<;>rcases List.mem_cons.1 h2 with g2|g2
  ·rw [g1,g2]
  ·exact (no p' g2 (by rw [←he,g1])).elim
  ·exact (no p g1 (by rw [he,g2])).elim
  exact uniq_key (by simpa using hn.2) g1 g2 he
def zUe:Value:= .agg #[.int .i64 0, .int .i64 0, .slice none 0 0, .bool false, .slice none 0 0]
def Db.other (d:Db) (tx:Int) (key:Bs) (o:Option Ent):Prop:=match o with
 |some e=> ∃p∈d.l,p.1≠tx∧lookO p.2.old key=some e
 |none=> ∀p∈d.l,p.1≠tx→lookO p.2.old key=none
theorem other_spec {w0 w:World} {D:Sto} {ss:List Seg} {s:Seg} {vd vp vk:Value} {d:Db} {key:Bs} (hI:Inv w0 D (s::ss) w) (hd:DbS D vd vp d s) (hdb:DbOk d) (hk:RB D vk key) (tx:Int) :
  Calls Tryz.prog 107 #[vd, .int .i64 tx,vk] w (Ret fun r w'=> ∃o,d.other tx key o∧((∃e,o=some e∧ ∃vs,r= .tuple #[.agg vs.toArray, .bool true]∧UeR D vs e)∨(o=none∧r= .tuple #[zUe, .bool false]))∧Inv w0 D (s::ss) w'):=by
 obtain ⟨bd,bl,esl,clkl,os,rfl,rfl,hml,hos⟩:=hd;obtain ⟨e0,e1,b0,b1,s0,s1,hids,hlen⟩:=hdb;replace hI:=hI.open_db;obtain ⟨A1,c2,rfl,_⟩:=hk.slice;have hkb:=hk.byt;refine enter (N:=40) Tryz.func107 rfl rfl rfl ?_;intro a hE;refine wsr ?_;refine l_step rfl (f_alloc (cs:= #[.int .i64 0, .int .i64 0, .slice none 0 0, .bool false, .slice none 0 0]) hE hI rfl rfl rfl zer_35 rfl ?_);clear hI hE a w;intro a b3 w hE hI;refine go 5 hE hI ?_;clear hE a;intro a hE;refine zs hE (p_nilCheck rfl) ?_;clear hE a;intro a hE;refine go 2 hE hI ?_;clear hE a;intro a hE;refine l_step rfl (f_range 2 hE hI rfl rfl rfl rfl Tryz.underlying173 rfl ?_);clear hI hE a w;intro a r4 w hE hI;refine gc 2 hE ?_;refine c_loop (X:=Array Nat×List (Int×Opn)) (fun y=> [(0,_),(1,_),(2,_),(6,_),(16,_)]) (fun y w=>Vis esl y.1 (d.l.map ptrOf) (y.2.map ptrOf)∧(∀p∈y.2,p∈d.l∧(p.1≠tx→lookO p.2.old key=none))∧Inv w0 D ([(r4, .mapIter (some bl) clkl y.1 clkl)]:: [(b3, .cells #[.int .i64 0, .int .i64 0, .slice none 0 0, .bool false, .slice none 0 0] 35 (0,0))]:: [(bd, .cells #[.int .i64 d.epoch,vp, .int .i64 d.begun, .map (some bl), .int .i64 d.seq] 175 (0,0))]:: [(bl, .map esl clkl)]::os.flatten::ss) w) (fun y=>d.l.length - y.2.length) (#[], []) (hE.pick [0,1,2,6,16]) ⟨Vis.start _ _,by simp,hI⟩ ?_;clear hE hI a w;rintro ⟨seen,vo⟩ a w hE ⟨hv,hvo,hI⟩;(try dsimp only at hE);(try dsimp only at hv);(try dsimp only at hvo);(try dsimp only at hI);refine wsr ?_;refine l_step rfl (o_next 3 0 hE hI rfl rfl rfl rfl rfl rfl hml hv ?_ ?_)
 ·clear hE a;intro hall a hE;refine go 10 hE hI ?_;clear hE a;intro a hE;refine zs hE (f_build (vs:= []) (l:= [_,_,_,_,_]) rfl built_35 rfl) ?_;clear hE a;intro a hE;refine l_step rfl (f_store (l:= [_,_,_,_,_]) (ss':=_::_::_) 1 hE hI rfl rfl rfl rfl rfl sz_35 (by simp [Value.cells,Value.oneCell',pgCells,rcCells,zPg,errV,zUe]) rfl rfl rfl ?_);clear hI w;intro w hI;refine go 3 hE hI ?_;clear hE a;intro a hE;refine retc2 rfl hE rfl agg_35 (hI.seg 1 rfl) rfl rfl ?_;replace hI:=hI.erase 1;replace hI:=hI.erase 0;refine ⟨none,fun p hp hne=> ?_, .inr ⟨rfl,rfl⟩,hI.shut_db⟩;obtain ⟨p9,hp9,he9⟩:=List.mem_map.1 (hall (ptrOf p) (List.mem_map_of_mem hp));obtain ⟨hv8,hv9⟩:=hvo p9 hp9;have he8:p9.1=p.1:=by
   show (ptrOf p9).1=(ptrOf p).1;rw [he9]
  obtain rfl:=uniq_key hml.nd hv8 hp he8;exact hv9 hne
 clear hE hI a w;intro pp hpm hpn seen2 w hv2 hlast hI a hE;obtain ⟨po,hpo,rfl⟩:=List.mem_map.1 hpm;obtain ⟨bm,eso,clko,mo,hm1,hm2,hsm,hor⟩:=OpsS.read hos hpo;have hlk:=OldR.look hkb hor;obtain ⟨oo,hoo⟩: ∃z,lookO po.2.old key=z:=⟨_,rfl⟩;rw [hoo] at hlk;have hfst:(ptrOf po).1=po.1:=rfl;refine go 8 hE hI ?_;clear hE a;intro a hE;refine zl hE (r_entry rfl (hI.seg 3 rfl) (hI.seg 0 rfl) hml hlast) ?_;clear hE a;intro a hE;refine go 5 hE hI ?_;clear hE a;intro a hE;refine wp_seq ?_;rcases oo with _|eo
 ·refine d_start [11] [] (by kernel_rfl) hI rfl rfl ?_;clear hI w;intro w hI;refine dp 0 hE rfl (p_move rfl) (fun _=>hI) (listed':= #[true,false,false,false,false,false,false,false,false,false,false,false,false]) ?_;clear hE a;intro a hE;refine dp 1 hE rfl (p_nilCheck rfl) (fun _=>hI) ?_;clear hE a;intro a hE;refine dp 2 hE rfl (p_fieldAddr (m:=1) rfl fo_179_1 rfl) (fun _=>hI) ?_;clear hE a;intro a hE;refine dl 3 hE rfl (fun w hS=>r_load rfl scal_177 (Inv.segs 4 hS rfl _ hm1) rfl) (hI) ?_;clear hE a;intro a hE;refine dp 4 hE rfl (p_move rfl) (fun _=>hI) ?_;clear hE a;intro a hE;refine dl 5 hE rfl (fun w hS=>r_toString hS rfl hk Tryz.underlying33 Tryz.underlying5 Tryz.underlying9) (hI) ?_;clear hE a;intro a hE;refine d_two 6 10 hE rfl rfl (by kernel_rfl) rfl rfl (listed':= #[true,true,true,true,true,true,true,false,false,false,false,false,false]) (listed'':= #[true,true,true,true,true,true,false,false,false,false,true,false,false]) rfl rfl ?_ ?_
  ·refine o_pure hE rfl rfl (s_lookupN rfl rfl sk_177 zer_35 (hI.segs 4 rfl _ hm2) hsm hlk) ?_;clear hE a;intro a hE;refine ⟨fun _=>hI, ?_⟩;refine dp 7 hE rfl (p_move rfl) (fun _=>hI) ?_;clear hE a;intro a hE;refine dp 8 hE rfl (f_extract rfl rfl) (fun _=>hI) ?_;clear hE a;intro a hE;refine dp 9 hE rfl (f_extract rfl rfl) (fun _=>hI) ?_;clear hE a;intro a hE;refine do1 10 hE rfl ?_;refine f_alloc (cs:= #[.int .i64 0, .int .i64 0, .slice none 0 0, .bool false, .slice none 0 0]) hE hI rfl rfl rfl zer_35 rfl ?_;clear hI hE a w;intro a b5 w hE hI;refine ⟨fun _=>(hI.dropS [0]), ?_⟩;refine do1 11 hE rfl ?_;refine f_store (l:= [_,_,_,_,_]) (ss':=_::_) 0 hE hI rfl rfl rfl rfl rfl sz_35 (by simp [Value.cells,Value.oneCell',pgCells,rcCells,zPg,errV,zUe]) rfl rfl rfl ?_;clear hI w;intro w hI;refine ⟨nl, ?_⟩;refine dp 12 hE rfl (p_assign rfl) nl ?_;clear hE a;intro a hE;refine d_done (by kernel_rfl) ?_;refine go 13 hE hI ?_;clear hE a;intro a hE;replace hI:=hI.erase 0;exact ⟨(seen2,po::vo),hE.pick [0,1,2,6,16],⟨by simpa using hv2,fun p hp=>by rcases List.mem_cons.1 hp with rfl|hp;exact ⟨hpo,fun _=>hoo⟩;exact hvo p hp,hI⟩,by have:=hv2.len;simp only [List.length_cons,List.length_map] at this;show d.l.length - (vo.length+1)<d.l.length - vo.length;omega⟩
  refine f_alloc (cs:= #[.int .i64 0, .int .i64 0, .slice none 0 0, .bool false, .slice none 0 0]) hE hI rfl rfl rfl zer_35 rfl ?_;clear hI hE a w;intro a b6 w hE hI;refine ⟨fun _=>(hI.dropS [0]), ?_⟩;refine do1 6 hE rfl ?_;refine o_pure hE rfl rfl (s_lookupN rfl rfl sk_177 zer_35 (hI.segs 5 rfl _ hm2) hsm hlk) ?_;clear hE a;intro a hE;refine ⟨fun _=>(hI.dropS [0]), ?_⟩;refine dp 7 hE rfl (p_move rfl) (fun _=>(hI.dropS [0])) ?_;clear hE a;intro a hE;refine dp 8 hE rfl (f_extract rfl rfl) (fun _=>(hI.dropS [0])) ?_;clear hE a;intro a hE;refine dp 9 hE rfl (f_extract rfl rfl) (fun _=>(hI.dropS [0])) ?_;clear hE a;intro a hE;refine do1 11 hE rfl ?_;refine f_store (l:= [_,_,_,_,_]) (ss':=_::_) 0 hE hI rfl rfl rfl rfl rfl sz_35 (by simp [Value.cells,Value.oneCell',pgCells,rcCells,zPg,errV,zUe]) rfl rfl rfl ?_;clear hI w;intro w hI;refine ⟨nl, ?_⟩;refine dp 12 hE rfl (p_assign rfl) nl ?_;clear hE a;intro a hE;refine d_done (by kernel_rfl) ?_;refine go 13 hE hI ?_;clear hE a;intro a hE;replace hI:=hI.erase 0;exact ⟨(seen2,po::vo),hE.pick [0,1,2,6,16],⟨by simpa using hv2,fun p hp=>by rcases List.mem_cons.1 hp with rfl|hp;exact ⟨hpo,fun _=>hoo⟩;exact hvo p hp,hI⟩,by have:=hv2.len;simp only [List.length_cons,List.length_map] at this;show d.l.length - (vo.length+1)<d.l.length - vo.length;omega⟩
 obtain ⟨hek,hel,vs9,hlg,hue⟩:=hlk;obtain ⟨ku,vu,rfl,hku,hvu⟩:=hue;obtain ⟨A7,c8,rfl,_⟩:=hku.slice;obtain ⟨A9,c10,rfl,_⟩:=hvu.slice;refine d_start [11] [] (by kernel_rfl) hI rfl rfl ?_;clear hI w;intro w hI;refine dp 0 hE rfl (p_move rfl) (fun _=>hI) (listed':= #[true,false,false,false,false,false,false,false,false,false,false,false,false]) ?_;clear hE a;intro a hE;refine dp 1 hE rfl (p_nilCheck rfl) (fun _=>hI) ?_;clear hE a;intro a hE;refine dp 2 hE rfl (p_fieldAddr (m:=1) rfl fo_179_1 rfl) (fun _=>hI) ?_;clear hE a;intro a hE;refine dl 3 hE rfl (fun w hS=>r_load rfl scal_177 (Inv.segs 4 hS rfl _ hm1) rfl) (hI) ?_;clear hE a;intro a hE;refine dp 4 hE rfl (p_move rfl) (fun _=>hI) ?_;clear hE a;intro a hE;refine dl 5 hE rfl (fun w hS=>r_toString hS rfl hk Tryz.underlying33 Tryz.underlying5 Tryz.underlying9) (hI) ?_;clear hE a;intro a hE;refine d_two 6 10 hE rfl rfl (by kernel_rfl) rfl rfl (listed':= #[true,true,true,true,true,true,true,false,false,false,false,false,false]) (listed'':= #[true,true,true,true,true,true,false,false,false,false,true,false,false]) rfl rfl ?_ ?_
 ·refine o_pure hE rfl rfl (s_lookupY rfl rfl sk_177 zer_35 (hI.segs 4 rfl _ hm2) hsm hlg) ?_;clear hE a;intro a hE;refine ⟨fun _=>hI, ?_⟩;refine dp 7 hE rfl (p_move rfl) (fun _=>hI) ?_;clear hE a;intro a hE;refine dp 8 hE rfl (f_extract rfl rfl) (fun _=>hI) ?_;clear hE a;intro a hE;refine dp 9 hE rfl (f_extract rfl rfl) (fun _=>hI) ?_;clear hE a;intro a hE;refine do1 10 hE rfl ?_;refine f_alloc (cs:= #[.int .i64 0, .int .i64 0, .slice none 0 0, .bool false, .slice none 0 0]) hE hI rfl rfl rfl zer_35 rfl ?_;clear hI hE a w;intro a b11 w hE hI;refine ⟨fun _=>(hI.dropS [0]), ?_⟩;refine do1 11 hE rfl ?_;refine f_store (l:= [_,_,_,_,_]) (ss':=_::_) 0 hE hI rfl rfl rfl rfl rfl sz_35 (by simp [Value.cells,Value.oneCell',pgCells,rcCells,zPg,errV,zUe]) rfl rfl rfl ?_;clear hI w;intro w hI;refine ⟨nl, ?_⟩;refine dp 12 hE rfl (p_assign rfl) nl ?_;clear hE a;intro a hE;refine d_done (by kernel_rfl) ?_;refine go 6 hE hI ?_;clear hE a;intro a hE;refine l_go hE rfl (o_cmp hE rfl rfl rfl rfl rfl rfl ?_ ?_)
  ·intro hntx;replace hntx:=neq_t hntx;clear hE a;intro a hE;refine go 5 hE hI ?_;clear hE a;intro a hE;refine l_step rfl (f_store (l:= [_,_,_,_,_]) (ss':=_::_::_::_) 2 hE hI rfl rfl rfl rfl rfl sz_35 (by simp [Value.cells,Value.oneCell',pgCells,rcCells,zPg,errV,zUe]) rfl rfl rfl ?_);clear hI w;intro w hI;refine go 7 hE hI ?_;clear hE a;intro a hE;refine retc2 rfl hE rfl agg_35 (hI.seg 2 rfl) rfl rfl ?_;replace hI:=hI.erase 2;replace hI:=hI.erase 1;replace hI:=hI.erase 0;exact ⟨some eo,⟨po,hpo,by omega,hoo⟩, .inl ⟨eo,rfl,_,rfl,⟨_,_,rfl,hku,hvu⟩⟩,hI.shut_db⟩
  intro hntx;replace hntx:=neq_f hntx;clear hE a;intro a hE;refine go 6 hE hI ?_;clear hE a;intro a hE;replace hI:=hI.erase 0;exact ⟨(seen2,po::vo),hE.pick [0,1,2,6,16],⟨by simpa using hv2,fun p hp=>by rcases List.mem_cons.1 hp with rfl|hp;exact ⟨hpo,fun hne=>absurd hne (by first|exact hntx|omega)⟩;exact hvo p hp,hI⟩,by have:=hv2.len;simp only [List.length_cons,List.length_map] at this;show d.l.length - (vo.length+1)<d.l.length - vo.length;omega⟩
 refine f_alloc (cs:= #[.int .i64 0, .int .i64 0, .slice none 0 0, .bool false, .slice none 0 0]) hE hI rfl rfl rfl zer_35 rfl ?_;clear hI hE a w;intro a b12 w hE hI;refine ⟨fun _=>(hI.dropS [0]), ?_⟩;refine do1 6 hE rfl ?_;refine o_pure hE rfl rfl (s_lookupY rfl rfl sk_177 zer_35 (hI.segs 5 rfl _ hm2) hsm hlg) ?_;clear hE a;intro a hE;refine ⟨fun _=>(hI.dropS [0]), ?_⟩;refine dp 7 hE rfl (p_move rfl) (fun _=>(hI.dropS [0])) ?_;clear hE a;intro a hE;refine dp 8 hE rfl (f_extract rfl rfl) (fun _=>(hI.dropS [0])) ?_;clear hE a;intro a hE;refine dp 9 hE rfl (f_extract rfl rfl) (fun _=>(hI.dropS [0])) ?_;clear hE a;intro a hE;refine do1 11 hE rfl ?_;refine f_store (l:= [_,_,_,_,_]) (ss':=_::_) 0 hE hI rfl rfl rfl rfl rfl sz_35 (by simp [Value.cells,Value.oneCell',pgCells,rcCells,zPg,errV,zUe]) rfl rfl rfl ?_;clear hI w;intro w hI;refine ⟨nl, ?_⟩;refine dp 12 hE rfl (p_assign rfl) nl ?_;clear hE a;intro a hE;refine d_done (by kernel_rfl) ?_;refine go 6 hE hI ?_;clear hE a;intro a hE;refine l_go hE rfl (o_cmp hE rfl rfl rfl rfl rfl rfl ?_ ?_)
 ·intro hntx;replace hntx:=neq_t hntx;clear hE a;intro a hE;refine go 5 hE hI ?_;clear hE a;intro a hE;refine l_step rfl (f_store (l:= [_,_,_,_,_]) (ss':=_::_::_::_) 2 hE hI rfl rfl rfl rfl rfl sz_35 (by simp [Value.cells,Value.oneCell',pgCells,rcCells,zPg,errV,zUe]) rfl rfl rfl ?_);clear hI w;intro w hI;refine go 7 hE hI ?_;clear hE a;intro a hE;refine retc2 rfl hE rfl agg_35 (hI.seg 2 rfl) rfl rfl ?_;replace hI:=hI.erase 2;replace hI:=hI.erase 1;replace hI:=hI.erase 0;exact ⟨some eo,⟨po,hpo,by omega,hoo⟩, .inl ⟨eo,rfl,_,rfl,⟨_,_,rfl,hku,hvu⟩⟩,hI.shut_db⟩
 intro hntx;replace hntx:=neq_f hntx;clear hE a;intro a hE;refine go 6 hE hI ?_;clear hE a;intro a hE;replace hI:=hI.erase 0;exact ⟨(seen2,po::vo),hE.pick [0,1,2,6,16],⟨by simpa using hv2,fun p hp=>by rcases List.mem_cons.1 hp with rfl|hp;exact ⟨hpo,fun hne=>absurd hne (by first|exact hntx|omega)⟩;exact hvo p hp,hI⟩,by have:=hv2.len;simp only [List.length_cons,List.length_map] at this;show d.l.length - (vo.length+1)<d.l.length - vo.length;omega⟩
theorem putS_new {k:ByteArray} {v:Value}: ∀{m:List (ByteArray×Value)},getS m k=none→putS m k v=m++ [(k,v)]
 | [],_=>rfl
 |(q,x)::r,h=>by
  simp only [getS] at h;split at h
  ·cases h
  rename_i hq;simp only [putS];rw [if_neg hq,putS_new h];rfl
theorem OldR.add {D:Sto} {e:Ent} {vs:List Value} (h:UeR D vs e): ∀{m:List (ByteArray×Value)} {l:List Ent},OldR D m l→OldR D (m++ [(strOf e.key, .agg vs.toArray)]) (l++ [e])
 | [], [],_=>⟨rfl,⟨vs,rfl,h⟩,trivial⟩
 |_::m,_::l,⟨h1,h2,h3⟩=>⟨h1,h2,OldR.add h h3⟩
 | [],_::_,h=>h.elim
 |_::_, [],h=>h.elim
theorem OldR.none {D:Sto} {key:Bs} (hk:Byt key) {m:List (ByteArray×Value)} {l:List Ent} (h:OldR D m l) (hn:lookO l key=none):getS m (strOf key)=none:=by have:=OldR.look hk h;rw [hn] at this;exact this
theorem OpsS.split {D:Sto} {p:Int×Opn}: ∀{l1 l2:List (Int×Opn)} {os:List Seg},OpsS D (l1++p::l2) os→ ∃o1 s o2,os=o1++s::o2∧OpsS D l1 o1∧OpS D p.2 s∧OpsS D l2 o2
 | [],l2,s::os,⟨h1,h2⟩=>⟨[],s,os,rfl,trivial,h1,h2⟩
 |q::l1,l2,s::os,⟨h1,h2⟩=>by
  obtain ⟨o1,s',o2,h3,h4,h5,h6⟩:=OpsS.split h2;exact ⟨s::o1,s',o2,by rw [h3];rfl,⟨h1,h4⟩,h5,h6⟩
 | [],_, [],h=>h.elim
 |_::_,_, [],h=>h.elim
theorem OpsS.join {D:Sto} {p:Int×Opn} {s:Seg}: ∀{l1 l2:List (Int×Opn)} {o1 o2:List Seg},OpsS D l1 o1→OpS D p.2 s→OpsS D l2 o2→OpsS D (l1++p::l2) (o1++s::o2)
 | [],_, [],_,_,h2,h3=>⟨h2,h3⟩
 |_::_,_,_::_,_,⟨h0,h1⟩,h2,h3=>⟨h0,OpsS.join h1 h2 h3⟩
 | [],_,_::_,_,h,_,_=>h.elim
 |_::_,_, [],_,h,_,_=>h.elim
theorem Inv.focus {w0 w:World} {D:Sto} {ss o1 o2:List Seg} {x1 x2 y1 y2:Nat×Obj}:Inv w0 D ((x1::x2::(o1++ [y1,y2]::o2).flatten)::ss) w↔Inv w0 D ([y1]:: [y2]::(x1::x2::(o1++o2).flatten)::ss) w:=by
 have e:((x1::x2::(o1++ [y1,y2]::o2).flatten)::ss).flatten.Perm ([y1]:: [y2]::(x1::x2::(o1++o2).flatten)::ss).flatten:=by simp only [List.flatten_cons,List.flatten_append,List.singleton_append,List.cons_append,List.nil_append,List.append_assoc];exact ((((List.perm_append_comm_assoc o1.flatten [y1,y2] (o2.flatten++ss.flatten)).cons x2).cons x1).trans ((List.perm_append_comm_assoc [x1,x2] [y1,y2] _)))
 exact ⟨fun h=>h.perm e.symm,fun h=>h.perm e⟩
def Opn.wrote (o:Opn) (again:Bool) (e:Ent):Opn:={o with n:=o.n+1,old:=if again then o.old else o.old++ [e]}
theorem write1_spec {w0 w:World} {D:Sto} {ss:List Seg} {o:Opn} {bm clk:Nat} {es:Array MapEntry} {m:List (ByteArray×Value)} {key:Bs} {e:Ent} {again:Bool} {vs:List Value} {vk:Value} {b0 b1 b2 b3 T0 T1 T2 T3:Nat} {f0 f1 f2 f3:Nat×Nat} (hI:Inv w0 D ([(o.bo, .cells #[.int .i64 (o.n:Nat), .map (some bm)] 179 (0,0))]:: [(bm, .map es clk)]::ss) w) (hsm:StrMap es clk m) (hor:OldR D m o.old) (hb0:D b0=some (.cells #[.pointer (some ⟨o.bo,0,none⟩)] T0 f0)) (hb1:D b1=some (.cells #[.bool again] T1 f1)) (hb2:D b2=some (.cells vs.toArray T2 f2)) (hb3:D b3=some (.cells #[vk] T3 f3)) (hue:UeR D vs e) (hk:RB D vk key) (hek:e.key=key) (hag:again=false→lookO o.old key=none) (hn:o.n≤1000000) :
  Calls Tryz.prog 158 #[.pointer (some ⟨b0,0,none⟩), .pointer (some ⟨b1,0,none⟩), .pointer (some ⟨b2,0,none⟩), .pointer (some ⟨b3,0,none⟩)] w (Ret fun r w'=> ∃es' clk' m',Inv w0 D ([(o.bo, .cells #[.int .i64 ((o.wrote again e).n:Nat), .map (some bm)] 179 (0,0))]:: [(bm, .map es' clk')]::ss) w'∧StrMap es' clk' m'∧OldR D m' (o.wrote again e).old):=by
 obtain ⟨ku,vu,rfl,hku,hvu⟩:=hue;have hkb:=hk.byt;obtain ⟨A1,c2,rfl,_⟩:=hk.slice;obtain ⟨A3,c4,rfl,_⟩:=hku.slice;obtain ⟨A5,c6,rfl,_⟩:=hvu.slice;refine enter (N:=20) Tryz.func158 rfl rfl rfl ?_;intro a hE;refine wsr ?_;refine zl hE (f_load rfl scal_176 (hI.data _ _ (hb0)) rfl) ?_;clear hE a;intro a hE;refine zs hE (p_nilCheck rfl) ?_;clear hE a;intro a hE;refine go 2 hE hI ?_;clear hE a;intro a hE;refine zs hE (p_arith (z:=((o.n+1:Nat):Int)) rfl rfl (add_z (by omega) (by omega) (by omega))) ?_;clear hE a;intro a hE;refine zs hE (p_nilCheck rfl) ?_;clear hE a;intro a hE;refine zs hE (p_fieldAddr (m:=0) rfl fo_179_0 rfl) ?_;clear hE a;intro a hE;refine l_step rfl (f_store (l:= [_,_]) (ss':=_::_) 0 hE hI rfl rfl rfl rfl rfl sz_3 (by simp [Value.cells,Value.oneCell',pgCells,rcCells,zPg,errV,zUe]) rfl rfl rfl ?_);clear hI w;intro w hI;refine wnt ?_;refine wp_seq ?_;cases again
 ·refine wp_region_list ?_;refine zl hE (f_load rfl scal_4 (hI.data _ _ (hb1)) rfl) ?_;clear hE a;intro a hE;refine zs hE (p_not rfl) ?_;clear hE a;intro a hE;refine gc 2 hE ?_;refine d_start [7] [] (by kernel_rfl) hI rfl rfl ?_;clear hI w;intro w hI;refine dl 0 hE rfl (fun w hS=>f_load rfl scal_176 (Inv.data hS _ _ (hb0)) rfl) (hI) (listed':= #[true,false,false,false,false,false,false,false]) ?_;clear hE a;intro a hE;refine dp 1 hE rfl (p_nilCheck rfl) (fun _=>hI) ?_;clear hE a;intro a hE;refine dp 2 hE rfl (p_fieldAddr (m:=1) rfl fo_179_1 rfl) (fun _=>hI) ?_;clear hE a;intro a hE;refine dl 3 hE rfl (fun w hS=>f_load rfl scal_177 (Inv.seg 0 hS rfl) rfl) (hI) ?_;clear hE a;intro a hE;refine dl 4 hE rfl (fun w hS=>f_load rfl scal_33 (Inv.data hS _ _ (hb3)) rfl) (hI) ?_;clear hE a;intro a hE;refine dl 5 hE rfl (fun w hS=>r_toString hS rfl hk Tryz.underlying33 Tryz.underlying5 Tryz.underlying9) (hI) ?_;clear hE a;intro a hE;refine dl 6 hE rfl (fun w hS=>f_loadA (vs:= [_,_,_,_,_]) rfl agg_35 (Inv.data hS _ _ (hb2)) rfl rfl) (hI) ?_;clear hE a;intro a hE;refine do1 7 hE rfl ?_;refine so_mapUpdate 1 hE hI rfl (.inl rfl) rfl rfl rfl sk_177 rfl hsm ?_;clear hI w;intro es_7 clk_7 w hm_7 hI;refine ⟨nl, ?_⟩;refine d_done (by kernel_rfl) ?_;refine ret0 rfl hE ?_;exact ⟨_,_,_,hI,hm_7,by
   have hn9:=OldR.none hkb hor (hag rfl);rw [putS_new hn9];have h9:=OldR.add (e:=e) ⟨_,_,rfl,hku,hvu⟩ hor;have e9:strOf e.key=strOf key:=by rw [hek]
   rw [e9] at h9;simpa [Opn.wrote] using h9⟩
 refine wp_region_list ?_;refine zl hE (f_load rfl scal_4 (hI.data _ _ (hb1)) rfl) ?_;clear hE a;intro a hE;refine zs hE (p_not rfl) ?_;clear hE a;intro a hE;refine gc 3 hE ?_;refine ret0 rfl hE ?_;exact ⟨_,_,_,hI,hsm,by simp only [Opn.wrote];exact hor⟩
open Go
set_option linter.unnecessarySimpa false
variable {B:Nat}
def FreeC (V:Vw):Int→List Int→Prop
 |f, []=>f=0
 |f,j::r=>f=j∧1<j∧j<256∧ ∃y,V j=some y∧y.level=0∧y.ents= []∧FreeC V (max y.next 0) r
def upTo (u:Nat):List Int:=(List.range' u (256 - u)).map fun i=>((i:Nat):Int)
theorem upTo_cons {u:Nat} (h:u<256):upTo u=(u:Int)::upTo (u+1):=by unfold upTo;rw [show 256 - u=(256 - (u+1))+1 by omega,List.range'_succ];rfl
theorem upTo_nil {u:Nat} (h:256≤u):upTo u= []:=by unfold upTo;rw [show 256 - u=0 by omega];rfl
theorem mem_upTo {u:Nat} {j:Int}:j∈upTo u↔(u:Int)≤j∧j<256:=by
 unfold upTo;rw [List.mem_map];constructor
 ·rintro ⟨i,hi,rfl⟩;rw [List.mem_range'_1] at hi;omega
 intro h;exact ⟨j.toNat,by rw [List.mem_range'_1];omega,by omega⟩
structure AvU (V:Vw) (u:Nat) (f:Int) (fr:List Int):Prop where
 m: ∃x,V 1=some x∧x.ents= [([110],twoB u++twoB f)]
 c:FreeC V f fr
 u1:1<u
 u2:u≤256
def AvV (B:Nat) (V:Vw) (av:List Int):Prop:= ∃u f fr,AvU V u f fr∧av=fr++upTo u∧(u≤B∨fr= [])
theorem FreeC.frame {V V':Vw}: ∀(fr:List Int) {f:Int},(∀j∈fr,V' j=V j)→FreeC V f fr→FreeC V' f fr
 | [],_,_,h=>h
 |j::r,_,hf,⟨h1,h2,h3,y,h4,h5,h6,h7⟩=>⟨h1,h2,h3,y,by rw [hf j (by simp)];exact h4,h5,h6,FreeC.frame r (fun k hk=>hf k (by simp [hk])) h7⟩
theorem FreeC.rg {V:Vw}: ∀(fr:List Int) {f:Int},FreeC V f fr→(∀j∈fr,1<j∧j<256)∧0≤f∧f<256
 | [],_,h=>⟨by simp,by have:_=(0:Int):=h;omega⟩
 |j::r,_,⟨h1,h2,h3,y,h4,h5,h6,h7⟩=>⟨fun k hk=>by
   rcases List.mem_cons.1 hk with q|q
   ·subst q;exact ⟨h2,h3⟩
   exact (FreeC.rg r h7).1 k q,by omega⟩
theorem AvV.frame {V V':Vw} {av:List Int} (h:AvV B V av) (h1:V' 1=V 1) (hf: ∀j∈av,V' j=V j):AvV B V' av:=by obtain ⟨u,f,fr,⟨m,c,u1,u2⟩,rfl,hB⟩:=h;exact ⟨u,f,fr,⟨by rw [h1];exact m,c.frame fr (fun j hj=>hf j (by simp [hj])),u1,u2⟩,rfl,hB⟩
theorem AvU.pages {b:Bt} {u:Nat} {f:Int} {fr:List Int} (h:AvU b.view u f fr):b.pages= .ok ((u:Int),f):=by
 obtain ⟨x,hx,hxe⟩:=h.m;have hu:=h.u2;have hf:=(FreeC.rg fr h.c).2;rw [Bt.pages,page_of_view hx];simp only [hxe];rw [if_neg (by simp [twoB])];have e1:numberP (([([110],twoB u++twoB f)]:Ens).getD 0 ([], [])).2=(u:Int):=by have:=numberP_twoB (u:=(u:Int)) (by omega) (by omega);simpa [numberP,twoB] using this
 have e2:numberP ((([([110],twoB u++twoB f)]:Ens).getD 0 ([], [])).2.drop 2)=f:=by have:=numberP_twoB (u:=f) (by omega) (by omega);simpa [numberP,twoB] using this
 rw [e1,e2]
theorem count_view {b:Bt} {u:Nat} {f:Int} {fr:List Int} (h:AvU b.view u f fr) (hi:IdsOk b.view) (a c:Int) :
  ∃b' m,b.count a c= .ok b'∧b'.view=b.view.upd 1 m∧m.id=1∧m.ents= [([110],twoB a++twoB c)]:=by
 obtain ⟨x,hx,hxe⟩:=h.m;have hid:=hi 1 x hx;obtain ⟨b',h2,hv⟩:=doR_view (b:=b) (r:={page:=1,kind:=4,val:=twoB a++twoB c}) (x:=x) (.inr ⟨by simp,hx⟩) hid;have he:effP x {page:=1,kind:=4,val:=twoB a++twoB c}={x with ents:= [([110],twoB a++twoB c)]}:=by unfold effP;rw [if_neg (by simp),if_neg (by simp),if_neg (by simp),if_pos rfl,if_pos (by rw [hxe];simp),hxe];rfl
 rw [he] at hv;exact ⟨b',_,h2,hv,hid,rfl⟩
theorem take_av {b:Bt} {p:Int} {av:List Int} (h:AvV B b.view (p::av)) (hi:IdsOk b.view) (hn:(p::av).Nodup) :
  ∃b' m,b.take= .ok (p,b')∧b'.view=b.view.upd 1 m∧m.id=1∧AvV B b'.view av:=by
 obtain ⟨u,f,fr,h,he,hB⟩:=h;have hp:=h.pages;have hu:=h.u2;have hu1:=h.u1;cases fr with
 |nil=>
  have hf:f=0:=h.c;subst hf;have hlt:u<256:=by
   rcases Nat.lt_or_ge u 256 with q|q
   ·exact q
   rw [List.nil_append,upTo_nil q] at he;cases he
  rw [List.nil_append,upTo_cons hlt] at he;injection he with h1 h2
  subst h1;obtain ⟨b',m,hc,hv,m1,m2⟩:=count_view h hi ((u:Int)+1) 0;refine ⟨b',m, ?_,hv,m1,u+1,0, [],⟨⟨m,by rw [hv,upd_same],m2⟩,rfl,by omega,by omega⟩,h2, .inr rfl⟩;rw [Bt.take,hp];simp only [if_true];rw [if_neg (by omega),hc]
 |cons j r=>
  obtain ⟨rfl,c2,c3,y,c4,c5,c6,c7⟩:=h.c;rw [List.cons_append] at he;injection he with h1 h2
  subst h1;subst h2;obtain ⟨b',m,hc,hv,m1,m2⟩:=count_view h hi u (max y.next 0);have hne: ∀k∈r,k≠1:=fun k hk=>by have:=(FreeC.rg r c7).1 k hk;omega
  refine ⟨b',m, ?_,hv,m1,u,_,r,⟨⟨m,by rw [hv,upd_same],m2⟩,c7.frame r (fun k hk=>by rw [hv,upd_other (hne k hk)]),hu1,hu⟩,rfl, .inl (hB.resolve_right (by simp))⟩;rw [Bt.take,hp];simp only [];rw [if_neg (by omega),page_of_view c4];simp only [];rw [hc]
theorem take_full {b:Bt} (h:AvV B b.view []):b.take= .fail 109 none:=by
 obtain ⟨u,f,fr,h,he,hB⟩:=h;have hp:=h.pages;have hu:=h.u2;obtain ⟨rfl,h2⟩:=List.append_eq_nil_iff.1 he.symm;have hf:f=0:=h.c;subst hf;have hge: ¬u<256:=fun q=>by rw [upTo_cons q] at h2;cases h2
 rw [Bt.take,hp];simp only [if_true];rw [if_pos (by omega)]
theorem free_av {b:Bt} {p:Int} {av:List Int} (h:AvV B b.view av) (hi:IdsOk b.view) (hp1:1<p) (hp2:p<256) (hn:p ∉ av) (hBd:256≤B+av.length) :
  ∃b' m,b.free p= .ok b'∧m.id=1∧(∃q,q.id=p∧b'.view=(b.view.upd p q).upd 1 m)∧AvV B b'.view (p::av):=by
 obtain ⟨u,f,fr,h,rfl,hB⟩:=h;have hB2:u≤B:=by
  rcases hB with hB|hB
  ·exact hB
  subst hB;simp [upTo] at hBd;have:=h.u2;omega
 have hpg:=h.pages;have hf:=(FreeC.rg fr h.c).2;have hu1:=h.u1;have hu2:=h.u2;obtain ⟨b1,t1,v1⟩:=doR_view (b:=b) (r:={page:=p,kind:=1}) (x:=newPg p) (.inl ⟨rfl,rfl⟩) rfl;have e1:effP (newPg p) {page:=p,kind:=1}=⟨p,0,0, -1, []⟩:=by unfold effP;rw [if_pos rfl];rfl
 rw [e1] at v1;obtain ⟨b2,t2,v2⟩:=doR_view (b:=b1) (r:={page:=p,kind:=5,slot:=if f=0 then 256 else f}) (x:=⟨p,0,0, -1, []⟩) (.inr ⟨by simp,by rw [v1];exact upd_same _ _ _⟩) rfl;have e2:effP ⟨p,0,0, -1, []⟩ {page:=p,kind:=5,slot:=if f=0 then 256 else f}=⟨p,0,0,if f=0 then -1 else f, []⟩:=by
  unfold effP;rw [if_neg (by simp),if_neg (by simp),if_neg (by simp),if_neg (by simp),if_pos rfl];simp only [];by_cases h0:f=0
  ·rw [if_pos h0,if_pos h0,if_pos (by omega)]
  rw [if_neg h0,if_neg h0,if_neg (by omega)]
 rw [e2] at v2;have v2':b2.view=b.view.upd p ⟨p,0,0,if f=0 then -1 else f, []⟩:=by
  rw [v2,v1];funext j;by_cases hj:j=p
  ·subst hj;simp only [upd_same]
  simp only [upd_other hj]
 have hA:AvU b2.view u f fr:=by obtain ⟨x,hx,hxe⟩:=h.m;refine ⟨⟨x,by rw [v2',upd_other (by omega)];exact hx,hxe⟩,h.c.frame fr (fun k hk=> ?_),hu1,hu2⟩;rw [v2',upd_other];rintro rfl;exact hn (by simp [hk])
 obtain ⟨b3,m,t3,v3,m1,m2⟩:=count_view hA (by rw [v2'];exact hi.upd rfl) u p;refine ⟨b3,m, ?_,m1,⟨_,rfl,by rw [v3,v2']⟩,u,p,p::fr,⟨⟨m,by rw [v3,upd_same],m2⟩,⟨rfl,hp1,hp2,_,by rw [v3,upd_other (by omega),v2',upd_same],rfl,rfl, ?_⟩,hu1,hu2⟩,by simp, .inl hB2⟩
 ·rw [Bt.free,hpg];simp only [];rw [Bt.all,t1];simp only [];rw [Bt.all,t2];simp only [];rw [Bt.count] at t3;rw [Bt.all,t3];rfl
 have e4:max (if f=0 then -1 else f) 0=f:=by split<;>omega
 simp only [];rw [e4];refine h.c.frame fr (fun k hk=> ?_);have h1:k≠p:=by rintro rfl;exact hn (by simp [hk])
 have h2:=(FreeC.rg fr h.c).1 k hk;rw [v3,upd_other (by omega),v2',upd_other h1]
end Go.Proofs.YtkknmpkcfpdllaaGreatDoor.B
