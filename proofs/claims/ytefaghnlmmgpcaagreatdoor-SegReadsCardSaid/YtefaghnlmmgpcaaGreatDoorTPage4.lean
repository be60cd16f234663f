/- What functions of the program compute, each function once: steps over the model, and the plain law of it. -/
import Derived.Test.YtefaghnlmmgpcaaGreatDoorTPage3
import Derived.Test.YtefaghnlmmgpcaaGreatDoorTFacts
namespace Go.Proofs.YtefaghnlmmgpcaaGreatDoor.B
open Go Go.Proofs
set_option linter.unusedVariables false
set_option linter.unusedSimpArgs false
set_option maxRecDepth 20000
set_option maxHeartbeats 8000000
theorem Insert_int {w0 w:World} {D:Sto} {ss:List Seg} {s:Seg} {ve:Value} {xs:Ens} {e:Bs×Bs} {b T:Nat} {i:Int} {lk lv:Value} (I:Inv w0 D (s:: [(b, .cells #[lk,lv] T (0,0))]::ss) w) (hO:OR 2 EnR D 93 ve xs s) (hx:EnR D [lk,lv] e) (h0:0<=i) (hi:i<=xs.length) (hlen:xs.length<=8) :
  Calls Tryz.prog 200 #[ve, .int .i64 i, .slice (some ⟨b,0,none⟩) 1 1] w (Ret fun r w'=> ∃s',OR 2 EnR D 93 r (xs.insertIdx i.toNat e) s'/\Inv w0 D (s'::ss) w'):=by
 obtain ⟨n,rfl⟩:=Int.eq_ofNat_of_zero_le h0;exact Insert_spec I hO hx (by omega) hlen
theorem Delete_int {w0 w:World} {D:Sto} {ss:List Seg} {s:Seg} {ve:Value} {xs:Ens} {i:Int} (I:Inv w0 D (s::ss) w) (hO:OR 2 EnR D 93 ve xs s) (h0:0<=i) (hi:i<xs.length) (hlen:xs.length<=8) :
  Calls Tryz.prog 201 #[ve, .int .i64 i, .int .i64 (i+1)] w (Ret fun r w'=> ∃s',OR 2 EnR D 93 r (xs.eraseIdx i.toNat) s'/\Inv w0 D (s'::ss) w'):=by
 obtain ⟨n,rfl⟩:=Int.eq_ofNat_of_zero_le h0;exact Delete_spec I hO (by omega) hlen
theorem OR.cut0 {A:Option Addr} {n c T:Nat} {D:Sto} {xs:Ens} {s:Seg} (h:OR 2 EnR D T (.slice A n c) xs s):(if c=0 then A else A.map (·.add (0*2)))=A:=by
 split
 ·rfl
 rcases h with ⟨h1,h2,h3⟩|⟨g,cap,cur,h1,h2,h3,h4,h5,h6⟩
 ·injection h1 with h1 _ _;subst h1;rfl
 injection h1 with h1 _ _;subst h1;simp [addr_add]
theorem applyP_ok {p:Pg} {r:Rc} (hp:POk p) (hr:ROk r):POk (applyP p r):=by
 have e1:=hp.len;have e2:=hp.ents;have l0:=hp.l0;have l1:=hp.l1;have v0:=hp.v0;have v1:=hp.v1;have n0:=hp.n0;have n1:=hp.n1;have r0:=hr.l0;have r1:=hr.l1;have s0:=hr.s0;have s1:=hr.s1;have k:=hr.k;have v:=hr.v;unfold applyP;split
 ·exact hp
 unfold effP;split
 ·exact ⟨r0,r1,by show _<=min r.slot 16;omega,by show min r.slot 16<=_;omega,by show _<=(-1:Int);omega,by show (-1:Int)<=_;omega,by simp,by simp⟩
 split
 ·split
  ·rename_i h8;refine ⟨r0,r1,v0,v1,n0,n1, ?_, ?_⟩
   ·simp only [List.length_insertIdx];split<;>omega
   intro e he;rcases (List.mem_insertIdx (by omega)).1 he with rfl|he
   ·exact ⟨k,v⟩
   exact e2 e he
  exact ⟨r0,r1,v0,v1,n0,n1,e1,e2⟩
 split
 ·split
  ·refine ⟨r0,r1,v0,v1,n0,n1, ?_,fun e he=>e2 e (List.mem_of_mem_eraseIdx he)⟩;simp only [List.length_eraseIdx];split<;>omega
  exact ⟨r0,r1,v0,v1,n0,n1,e1,e2⟩
 split
 ·split
  ·refine ⟨r0,r1,v0,v1,n0,n1,by simpa using e1,fun e he=> ?_⟩;obtain ⟨i,hi,he2⟩:=List.getElem_of_mem he;have:(p.ents.modify r.slot.toNat fun e=>(e.1,r.val))[i]? =some e:=by rw [List.getElem?_eq_getElem hi,he2]
   rw [List.getElem?_modify] at this;cases hx:p.ents[i]? with
   |none=>rw [hx] at this;cases this
   |some x=>
    rw [hx] at this;have hm:=e2 x (List.mem_of_getElem? hx);by_cases hq:r.slot.toNat=i
    ·simp [hq] at this;subst this;exact ⟨hm.1,v⟩
    simp [hq] at this;subst this;exact hm
  exact ⟨r0,r1,v0,v1,n0,n1,e1,e2⟩
 split
 ·exact ⟨r0,r1,v0,v1,by show _<=(if 256<=r.slot then (-1:Int) else r.slot);split<;>omega,by show (if 256<=r.slot then (-1:Int) else r.slot)<=_;split<;>omega,e1,e2⟩
 split
 ·refine ⟨r0,r1,v0,v1,n0,n1, ?_,fun e he=>e2 e (List.mem_of_mem_take he)⟩;simp only [List.length_take];omega
 exact ⟨r0,r1,v0,v1,n0,n1,e1,e2⟩
theorem PgV.cast {D:Sto} {v:Value} {p q:Pg} (h:PgV D v q) (e:q=p):PgV D v p:=e▸h
theorem Apply_spec {w0 w:World} {D:Sto} {ss:List Seg} (I:Inv w0 D ss w) {vp vr:Value} {p:Pg} {rc:Rc} (hp:PgV D vp p) (hr:RcV D vr rc) :
  Calls Tryz.prog 184 #[vp,vr] w (Ret fun r w'=> ∃D',Le D D'/\Inv w0 D' ss w'/\PgV D' r (applyP p rc)):=by
 obtain ⟨e1,rfl,he2,ho3⟩:=hp;have hlen_p:=ho3.len;obtain ⟨A4,c5,rfl,_⟩:=he2.slice;obtain ⟨k6,v7,rfl,hk8,hv9,ho10⟩:=hr;obtain ⟨A11,c12,rfl,_⟩:=hk8.slice;obtain ⟨A13,c14,rfl,_⟩:=hv9.slice;have hs0:=ho10.s0;have hs1:=ho10.s1;have hkl:=ho10.k;have hvl:=ho10.v;refine enter (N:=107) Tryz.func184 rfl rfl rfl ?_;intro a Z;refine wsr ?_;refine l_step rfl (f_box (cs:= #[_,_,_,_,_]) Z I rfl rfl rfl rfl rfl ?_);clear I Z a w;intro a b15 w Z I;refine l_step rfl (f_box (cs:= #[_,_,_,_,_,_,_,_,_,_]) Z I rfl rfl rfl rfl rfl ?_);clear I Z a w;intro a b16 w Z I;refine l_step rfl (f_alloc (cs:= #[.int .i64 0, .int .i64 0, .int .i64 0, .int .i64 0, .slice none 0 0]) Z I rfl rfl rfl zer_30 rfl ?_);clear I Z a w;intro a b17 w Z I;refine go 3 Z I ?_;clear Z a;intro a Z;refine l_step rfl (o_call Z rfl rfl rfl rfl ent_69 (PClone_spec I (⟨_,rfl,he2,ho3⟩:PgV D _ p)) ?_);clear I Z a;rintro r w ⟨D18,s20,ve21,hD19,rfl,hO22,I⟩ a Z;obtain ⟨A23,c24,rfl,hcap_c24⟩:=hO22.slice;refine l_step rfl (f_store (l:= [_,_,_,_,_]) (ss':=_::_::_::_::_) 3 Z I rfl rfl rfl rfl rfl sz_30 (by simp [Value.cells,Value.oneCell',pgCells,rcCells]) rfl rfl rfl ?_);clear I w;intro w I;refine go 7 Z I ?_;clear Z a;intro a Z;refine cmx Z ?_ ?_
 ·intro hpg;replace hpg:=neq_t hpg;clear Z a;intro a Z;refine go 11 Z I ?_;clear Z a;intro a Z;refine l_step rfl (f_store (l:= [_,_,_,_,_]) (ss':=_::_::_) 1 Z I rfl rfl rfl rfl rfl sz_30 (by simp [Value.cells,Value.oneCell',pgCells,rcCells]) rfl rfl rfl ?_);clear I w;intro w I;refine gc 3 Z ?_;refine retc1 rfl Z rfl agg_30 (I.seg 1 rfl) rfl ?_;have heq:p=applyP p rc:=by rw [applyP,if_pos (by omega)]
  have hok:POk p:=heq▸applyP_ok ho3 ho10;have hO9:=hO22;obtain ⟨hI9,hD9⟩:=I.shut_at 0 rfl;exact ⟨_,hD19.trans hD9,hI9.drop.drop.drop,PgV.cast (q:=p) ⟨_,rfl,hO9.shut EnR.keeps hD9,hok⟩ heq⟩
 intro hpg;replace hpg:=neq_f hpg;clear Z a;intro a Z;refine go 5 Z I ?_;clear Z a;intro a Z;refine cgx Z ?_ ?_
 ·intro hls;replace hls:=leq_t hls;clear Z a;intro a Z;refine go 5 Z I ?_;clear Z a;intro a Z;refine l_step rfl (f_store (l:= [_,_,_,_,_]) (ss':=_::_::_) 1 Z I rfl rfl rfl rfl rfl sz_30 (by simp [Value.cells,Value.oneCell',pgCells,rcCells]) rfl rfl rfl ?_);clear I w;intro w I;refine gc 3 Z ?_;refine retc1 rfl Z rfl agg_30 (I.seg 1 rfl) rfl ?_;have heq:p=applyP p rc:=by rw [applyP,if_pos (by omega)]
  have hok:POk p:=heq▸applyP_ok ho3 ho10;have hO9:=hO22;obtain ⟨hI9,hD9⟩:=I.shut_at 0 rfl;exact ⟨_,hD19.trans hD9,hI9.drop.drop.drop,PgV.cast (q:=p) ⟨_,rfl,hO9.shut EnR.keeps hD9,hok⟩ heq⟩
 intro hls;replace hls:=leq_f hls;clear Z a;intro a Z;refine go 9 Z I ?_;clear Z a;intro a Z;refine l_step rfl (f_store (l:= [_,_,_,_,_]) (ss':=_::_::_::_::_) 3 Z I rfl rfl rfl rfl rfl sz_2 (by simp [Value.cells,Value.oneCell',pgCells,rcCells]) rfl rfl rfl ?_);clear I w;intro w I;refine go 4 Z I ?_;clear Z a;intro a Z;refine zs Z (p_len rfl rfl Tryz.underlying28) ?_;clear Z a;intro a Z;refine go 9 Z I ?_;clear Z a;intro a Z;refine cmx Z ?_ ?_
 ·intro hk1;replace hk1:=eql_t hk1;clear Z a;intro a Z;refine go 6 Z I ?_;clear Z a;intro a Z;refine zs Z (p_min rfl rfl rfl) ?_;clear Z a;intro a Z;refine zs Z (p_fieldAddr (m:=2) rfl fo_30_2 rfl) ?_;clear Z a;intro a Z;refine l_step rfl (f_store (l:= [_,_,_,_,_]) (ss':=_::_::_::_::_) 3 Z I rfl rfl rfl rfl rfl sz_3 (by simp [Value.cells,Value.oneCell',pgCells,rcCells]) rfl rfl rfl ?_);clear I w;intro w I;refine zs Z (p_fieldAddr (m:=3) rfl fo_30_3 rfl) ?_;clear Z a;intro a Z;refine l_step rfl (f_store (l:= [_,_,_,_,_]) (ss':=_::_::_::_::_) 3 Z I rfl rfl rfl rfl rfl sz_3 (by simp [Value.cells,Value.oneCell',pgCells,rcCells]) rfl rfl rfl ?_);clear I w;intro w I;refine zs Z (p_fieldAddr (m:=4) rfl fo_30_4 rfl) ?_;clear Z a;intro a Z;refine l_step rfl (f_store (l:= [_,_,_,_,_]) (ss':=_::_::_::_::_) 3 Z I rfl rfl rfl rfl rfl sz_28 (by simp [Value.cells,Value.oneCell',pgCells,rcCells]) rfl rfl rfl ?_);clear I w;intro w I;refine wpList_nil ?_;refine go 4 Z I ?_;clear Z a;intro a Z;refine l_step rfl (f_store (l:= [_,_,_,_,_]) (ss':=_::_::_) 1 Z I rfl rfl rfl rfl rfl sz_30 (by simp [Value.cells,Value.oneCell',pgCells,rcCells]) rfl rfl rfl ?_);clear I w;intro w I;refine gc 2 Z ?_;refine retc1 rfl Z rfl agg_30 (I.seg 1 rfl) rfl ?_;have heq:(⟨p.id,rc.lsn,min rc.slot 16, -1, []⟩:Pg)=applyP p rc:=by
   have hno: ¬(rc.page≠p.id\/rc.lsn<=p.lsn):=by omega
   rw [applyP,if_neg hno,effP];simp [hk1]
  have hok:POk (⟨p.id,rc.lsn,min rc.slot 16, -1, []⟩:Pg):=heq▸applyP_ok ho3 ho10;exact ⟨_,hD19,I.drop.drop.drop.drop,PgV.cast (q:=(⟨p.id,rc.lsn,min rc.slot 16, -1, []⟩:Pg)) ⟨_,rfl,DR.nil _ _ _,hok⟩ heq⟩
 intro hk1;replace hk1:=eql_f hk1;clear Z a;intro a Z;refine go 4 Z I ?_;clear Z a;intro a Z;refine cmx Z ?_ ?_
 ·intro hk2;replace hk2:=eql_t hk2;clear Z a;intro a Z;refine go 5 Z I ?_;clear Z a;intro a Z;refine cmx Z ?_ ?_
  ·intro hn8;replace hn8:=lss_t hn8;clear Z a;intro a Z;refine gc 2 Z ?_;refine d_start [14,16] [] (by kernel_rfl) I rfl rfl ?_;clear I w;intro w I;refine dp 0 Z rfl (p_fieldAddr (m:=4) rfl fo_30_4 rfl) (fun _=>I) (listed':= #[true,false,false,false,false,false,false,false,false,false,false,false,false,false,false,false,false]) ?_;clear Z a;intro a Z;refine dl 1 Z rfl (fun w hS=>f_load rfl scal_28 (Inv.seg 3 hS rfl) rfl) (I) ?_;clear Z a;intro a Z;refine dp 2 Z rfl (p_fieldAddr (m:=6) rfl fo_34_6 rfl) (fun _=>I) ?_;clear Z a;intro a Z;refine dl 3 Z rfl (fun w hS=>f_load rfl scal_3 (Inv.seg 2 hS rfl) rfl) (I) ?_;clear Z a;intro a Z;refine dp 4 Z rfl (p_move rfl) (fun _=>I) ?_;clear Z a;intro a Z;refine dp 5 Z rfl (p_min rfl rfl rfl) (fun _=>I) ?_;clear Z a;intro a Z;refine dp 6 Z rfl (p_fieldAddr (m:=7) rfl fo_34_7 rfl) (fun _=>I) ?_;clear Z a;intro a Z;refine dl 7 Z rfl (fun w hS=>f_load rfl scal_32 (Inv.seg 2 hS rfl) rfl) (I) ?_;clear Z a;intro a Z;refine dp 9 Z rfl (p_fieldAddr (m:=8) rfl fo_34_8 rfl) (fun _=>I) ?_;clear Z a;intro a Z;refine dl 10 Z rfl (fun w hS=>f_load rfl scal_32 (Inv.seg 2 hS rfl) rfl) (I) ?_;clear Z a;intro a Z;refine do1 8 Z rfl ?_;refine o_call Z rfl rfl rfl rfl ent_86 (Clone_data (bs:=rc.key) I (hk8.mono hD19) (by omega)) ?_;clear I Z a;rintro r w ⟨D25,hD26,I,hb27⟩ a Z;obtain ⟨A28,c29,rfl,_⟩:=hb27.slice;refine ⟨fun _=>(Inv.weaken I hD26), ?_⟩;refine do1 11 Z rfl ?_;refine o_call Z rfl rfl rfl rfl ent_86 (Clone_data (bs:=rc.val) I (hv9.mono (hD19.trans hD26)) (by omega)) ?_;clear I Z a;rintro r w ⟨D30,hD31,I,hb32⟩ a Z;obtain ⟨A33,c34,rfl,_⟩:=hb32.slice;refine ⟨fun _=>(Inv.weaken I (hD26.trans hD31)), ?_⟩;refine dp 12 Z rfl (f_build (vs:= [(0,_),(1,_)]) (l:= [_,_]) rfl built_93 rfl) (fun _=>(Inv.weaken I (hD26.trans hD31))) ?_;clear Z a;intro a Z;refine do1 13 Z rfl ?_;refine f_lit (vs:= [(0,_)]) (l:= [_,_]) Z I rfl rfl rfl rfl Tryz.underlying28 zs_93 rfl rfl rfl ?_;clear I Z a w;intro a b35 w Z I;refine ⟨fun _=>(Inv.weaken (I.dropS [0]) (hD26.trans hD31)), ?_⟩;refine do1 14 Z rfl ?_;refine o_call Z rfl rfl rfl rfl ent_200 (Insert_int (e:=(rc.key,rc.val)) (I.bring 1) (OR.mono EnR.keeps hO22 (hD26.trans hD31)) ⟨_,_,rfl,(hb27.mono hD31),hb32,⟨hkl,hvl⟩⟩ (by omega) (by omega) (by omega)) ?_;clear I Z a;rintro r w ⟨s36,hO37,I⟩ a Z;obtain ⟨A38,c39,rfl,hcap_c39⟩:=hO37.slice;refine ⟨nl, ?_⟩;refine dp 15 Z rfl (p_fieldAddr (m:=4) rfl fo_30_4 rfl) nl ?_;clear Z a;intro a Z;refine do1 16 Z rfl ?_;refine f_store (l:= [_,_,_,_,_]) (ss':=_::_::_::_::_) 3 Z I rfl rfl rfl rfl rfl sz_28 (by simp [Value.cells,Value.oneCell',pgCells,rcCells]) rfl rfl rfl ?_;clear I w;intro w I;refine ⟨nl, ?_⟩;refine dnx ?_;refine go 4 Z I ?_;clear Z a;intro a Z;refine l_step rfl (f_store (l:= [_,_,_,_,_]) (ss':=_::_::_) 1 Z I rfl rfl rfl rfl rfl sz_30 (by simp [Value.cells,Value.oneCell',pgCells,rcCells]) rfl rfl rfl ?_);clear I w;intro w I;refine gc 2 Z ?_;refine retc1 rfl Z rfl agg_30 (I.seg 1 rfl) rfl ?_;have heq:(⟨p.id,rc.lsn,p.level,p.next,(p.ents.insertIdx (min rc.slot p.ents.length).toNat (rc.key,rc.val))⟩:Pg)=applyP p rc:=by
    have hno: ¬(rc.page≠p.id\/rc.lsn<=p.lsn):=by omega
    have hn8':(p.ents.length<8):=by omega
    rw [applyP,if_neg hno,effP];simp [hk1,hk2,hn8']
   have hok:POk (⟨p.id,rc.lsn,p.level,p.next,(p.ents.insertIdx (min rc.slot p.ents.length).toNat (rc.key,rc.val))⟩:Pg):=heq▸applyP_ok ho3 ho10;have hO9:=hO37;obtain ⟨hI9,hD9⟩:=I.shut_at 0 rfl;exact ⟨_,((hD19.trans hD26).trans hD31).trans hD9,hI9.drop.drop.drop,PgV.cast (q:=(⟨p.id,rc.lsn,p.level,p.next,(p.ents.insertIdx (min rc.slot p.ents.length).toNat (rc.key,rc.val))⟩:Pg)) ⟨_,rfl,hO9.shut EnR.keeps hD9,hok⟩ heq⟩
  intro hn8;replace hn8:=lss_f hn8;clear Z a;intro a Z;refine go 7 Z I ?_;clear Z a;intro a Z;refine l_step rfl (f_store (l:= [_,_,_,_,_]) (ss':=_::_::_) 1 Z I rfl rfl rfl rfl rfl sz_30 (by simp [Value.cells,Value.oneCell',pgCells,rcCells]) rfl rfl rfl ?_);clear I w;intro w I;refine gc 2 Z ?_;refine retc1 rfl Z rfl agg_30 (I.seg 1 rfl) rfl ?_;have heq:(⟨p.id,rc.lsn,p.level,p.next,p.ents⟩:Pg)=applyP p rc:=by
   have hno: ¬(rc.page≠p.id\/rc.lsn<=p.lsn):=by omega
   have hn8': ¬(p.ents.length<8):=by omega
   rw [applyP,if_neg hno,effP];simp [hk1,hk2,hn8']
  have hok:POk (⟨p.id,rc.lsn,p.level,p.next,p.ents⟩:Pg):=heq▸applyP_ok ho3 ho10;have hO9:=hO22;obtain ⟨hI9,hD9⟩:=I.shut_at 0 rfl;exact ⟨_,hD19.trans hD9,hI9.drop.drop.drop,PgV.cast (q:=(⟨p.id,rc.lsn,p.level,p.next,p.ents⟩:Pg)) ⟨_,rfl,hO9.shut EnR.keeps hD9,hok⟩ heq⟩
 intro hk2;replace hk2:=eql_f hk2;clear Z a;intro a Z;refine go 4 Z I ?_;clear Z a;intro a Z;refine cmx Z ?_ ?_
 ·intro hk3;replace hk3:=eql_t hk3;clear Z a;intro a Z;refine go 7 Z I ?_;clear Z a;intro a Z;refine cmx Z ?_ ?_
  ·intro hs3;replace hs3:=lss_t hs3;clear Z a;intro a Z;refine go 9 Z I ?_;clear Z a;intro a Z;refine zs Z (p_arith (z:=rc.slot+1) rfl rfl (add_z rfl (by omega) (by omega))) ?_;clear Z a;intro a Z;refine l_step rfl (o_call Z rfl rfl rfl rfl ent_201 (Delete_int I hO22 (by omega) (by omega) (by omega)) ?_);clear I Z a;rintro r w ⟨s40,hO41,I⟩ a Z;obtain ⟨A42,c43,rfl,hcap_c43⟩:=hO41.slice;refine zs Z (p_fieldAddr (m:=4) rfl fo_30_4 rfl) ?_;clear Z a;intro a Z;refine l_step rfl (f_store (l:= [_,_,_,_,_]) (ss':=_::_::_::_::_) 3 Z I rfl rfl rfl rfl rfl sz_28 (by simp [Value.cells,Value.oneCell',pgCells,rcCells]) rfl rfl rfl ?_);clear I w;intro w I;refine wpList_nil ?_;refine go 4 Z I ?_;clear Z a;intro a Z;refine l_step rfl (f_store (l:= [_,_,_,_,_]) (ss':=_::_::_) 1 Z I rfl rfl rfl rfl rfl sz_30 (by simp [Value.cells,Value.oneCell',pgCells,rcCells]) rfl rfl rfl ?_);clear I w;intro w I;refine gc 2 Z ?_;refine retc1 rfl Z rfl agg_30 (I.seg 1 rfl) rfl ?_;have heq:(⟨p.id,rc.lsn,p.level,p.next,(p.ents.eraseIdx rc.slot.toNat)⟩:Pg)=applyP p rc:=by
    have hno: ¬(rc.page≠p.id\/rc.lsn<=p.lsn):=by omega
    have hs3':(rc.slot<(p.ents.length:Int)):=by omega
    rw [applyP,if_neg hno,effP];simp [hk1,hk2,hk3,hs3']
   have hok:POk (⟨p.id,rc.lsn,p.level,p.next,(p.ents.eraseIdx rc.slot.toNat)⟩:Pg):=heq▸applyP_ok ho3 ho10;have hO9:=hO41;obtain ⟨hI9,hD9⟩:=I.shut_at 0 rfl;exact ⟨_,hD19.trans hD9,hI9.drop.drop.drop,PgV.cast (q:=(⟨p.id,rc.lsn,p.level,p.next,(p.ents.eraseIdx rc.slot.toNat)⟩:Pg)) ⟨_,rfl,hO9.shut EnR.keeps hD9,hok⟩ heq⟩
  intro hs3;replace hs3:=lss_f hs3;clear Z a;intro a Z;refine go 7 Z I ?_;clear Z a;intro a Z;refine l_step rfl (f_store (l:= [_,_,_,_,_]) (ss':=_::_::_) 1 Z I rfl rfl rfl rfl rfl sz_30 (by simp [Value.cells,Value.oneCell',pgCells,rcCells]) rfl rfl rfl ?_);clear I w;intro w I;refine gc 2 Z ?_;refine retc1 rfl Z rfl agg_30 (I.seg 1 rfl) rfl ?_;have heq:(⟨p.id,rc.lsn,p.level,p.next,p.ents⟩:Pg)=applyP p rc:=by
   have hno: ¬(rc.page≠p.id\/rc.lsn<=p.lsn):=by omega
   have hs3': ¬(rc.slot<(p.ents.length:Int)):=by omega
   rw [applyP,if_neg hno,effP];simp [hk1,hk2,hk3,hs3']
  have hok:POk (⟨p.id,rc.lsn,p.level,p.next,p.ents⟩:Pg):=heq▸applyP_ok ho3 ho10;have hO9:=hO22;obtain ⟨hI9,hD9⟩:=I.shut_at 0 rfl;exact ⟨_,hD19.trans hD9,hI9.drop.drop.drop,PgV.cast (q:=(⟨p.id,rc.lsn,p.level,p.next,p.ents⟩:Pg)) ⟨_,rfl,hO9.shut EnR.keeps hD9,hok⟩ heq⟩
 intro hk3;replace hk3:=eql_f hk3;clear Z a;intro a Z;refine go 4 Z I ?_;clear Z a;intro a Z;refine cmx Z ?_ ?_
 ·intro hk4;replace hk4:=eql_t hk4;clear Z a;intro a Z;refine go 7 Z I ?_;clear Z a;intro a Z;refine cmx Z ?_ ?_
  ·intro hs4;replace hs4:=lss_t hs4;clear Z a;intro a Z;refine gc 2 Z ?_;have hne:rc.slot.toNat<p.ents.length:=by omega
   rcases A23 with _|A23
   ·exfalso;have:=hO22.none.1;rw [this] at hne;simp at hne
   obtain ⟨g0,cur,rfl,_,rfl,_,hcm,hsz,hat⟩:=hO22.some;refine d_start [9] [] (by kernel_rfl) I rfl rfl ?_;clear I w;intro w I;refine dp 0 Z rfl (p_fieldAddr (m:=4) rfl fo_30_4 rfl) (fun _=>I) (listed':= #[true,false,false,false,false,false,false,false,false,false]) ?_;clear Z a;intro a Z;refine dl 1 Z rfl (fun w hS=>f_load rfl scal_28 (Inv.seg 3 hS rfl) rfl) (I) ?_;clear Z a;intro a Z;refine dp 2 Z rfl (p_fieldAddr (m:=6) rfl fo_34_6 rfl) (fun _=>I) ?_;clear Z a;intro a Z;refine dl 3 Z rfl (fun w hS=>f_load rfl scal_3 (Inv.seg 2 hS rfl) rfl) (I) ?_;clear Z a;intro a Z;refine dp 4 Z rfl (p_fieldAddr (m:=8) rfl fo_34_8 rfl) (fun _=>I) ?_;clear Z a;intro a Z;refine dl 5 Z rfl (fun w hS=>f_load rfl scal_32 (Inv.seg 2 hS rfl) rfl) (I) ?_;clear Z a;intro a Z;refine do1 6 Z rfl ?_;refine o_call Z rfl rfl rfl rfl ent_86 (Clone_data (bs:=rc.val) I (hv9.mono hD19) (by omega)) ?_;clear I Z a;rintro r w ⟨D44,hD45,I,hb46⟩ a Z;obtain ⟨A47,c48,rfl,_⟩:=hb46.slice;refine ⟨fun _=>(Inv.weaken I hD45), ?_⟩;refine dp 7 Z rfl (p_indexAddr (m:=0+rc.slot.toNat*2) rfl rfl Tryz.underlying28 sz_93 (by omega) (by omega) (by simp)) (fun _=>(Inv.weaken I hD45)) ?_;clear Z a;intro a Z;refine dp 8 Z rfl (p_fieldAddr rfl fo_93_1 rfl) (fun _=>(Inv.weaken I hD45)) ?_;clear Z a;intro a Z;refine do1 9 Z rfl ?_;refine o_store 0 Z I rfl rfl rfl rfl rfl sz_32 (by simp [Value.cells,Value.oneCell']) (Nat.ble_eq_true_of_le (by show _+1<=_;omega)) rfl rfl ?_;clear I w;intro w I;refine ⟨nl, ?_⟩;refine dnx ?_;refine go 4 Z I ?_;clear Z a;intro a Z;refine l_step rfl (f_store (l:= [_,_,_,_,_]) (ss':=_::_::_) 1 Z I rfl rfl rfl rfl rfl sz_30 (by simp [Value.cells,Value.oneCell',pgCells,rcCells]) rfl rfl rfl ?_);clear I w;intro w I;refine gc 2 Z ?_;refine retc1 rfl Z rfl agg_30 (I.seg 1 rfl) rfl ?_;have hO9:At 2 EnR D44 (splice cur (0+rc.slot.toNat*2+1) [.slice A47 rc.val.length c48]) 0 (p.ents.modify rc.slot.toNat fun e=>(e.1,rc.val)):=by
    refine At.modify (hat.mono EnR.keeps hD45) (fun q hq=> ?_) (fun x hx=> ?_)
    ·rw [getElem?_splice _ _ _ _ (by simp only [List.length_cons,List.length_nil];omega),if_neg (by simp only [List.length_cons,List.length_nil];omega)]
    obtain ⟨vs,hl,⟨k,v,rfl,hk,hv,hok⟩,hc⟩:=(hat.mono EnR.keeps hD45) _ x hx;refine ⟨[k,_],rfl,⟨_,_,rfl,hk,hb46,⟨hok.1,hvl⟩⟩,fun j u hj=> ?_⟩;rw [getElem?_splice _ _ _ _ (by simp only [List.length_cons,List.length_nil];omega)]
    match j,hj with
    |0,hj=>rw [if_neg (by omega)];have:=hc 0 u (by simpa using hj);rwa [Nat.zero_add] at this
    |1,hj=>rw [if_pos (by simp only [List.length_cons,List.length_nil];omega)];rw [show rc.slot.toNat*2+1 - (0+rc.slot.toNat*2+1)=0 by omega];simpa using hj
   have hno: ¬(rc.page≠p.id\/rc.lsn<=p.lsn):=by omega
   have heq:(⟨p.id,rc.lsn,p.level,p.next,(p.ents.modify rc.slot.toNat fun e=>(e.1,rc.val))⟩:Pg)=applyP p rc:=by rw [applyP,if_neg hno,effP];simp [hk1,hk2,hk3,hk4,show rc.slot<(p.ents.length:Int) by omega]
   have hok:POk (⟨p.id,rc.lsn,p.level,p.next,(p.ents.modify rc.slot.toNat fun e=>(e.1,rc.val))⟩:Pg):=heq▸applyP_ok ho3 ho10;obtain ⟨hI9,hD9⟩:=I.shut_at 0 rfl;have hO8:=OR.shut EnR.keeps (OR.ofAt (g:=g0) (cap:=c24) (n:=p.ents.length) (T:=93) (by simp) (by simpa using hcap_c24) hcm (by rw [size_splice];exact hsz) hO9) hD9;exact ⟨_,(hD19.trans hD45).trans hD9,hI9.drop.drop.drop,PgV.cast (q:=(⟨p.id,rc.lsn,p.level,p.next,(p.ents.modify rc.slot.toNat fun e=>(e.1,rc.val))⟩:Pg)) ⟨_,rfl,hO8,hok⟩ heq⟩
  intro hs4;replace hs4:=lss_f hs4;clear Z a;intro a Z;refine go 7 Z I ?_;clear Z a;intro a Z;refine l_step rfl (f_store (l:= [_,_,_,_,_]) (ss':=_::_::_) 1 Z I rfl rfl rfl rfl rfl sz_30 (by simp [Value.cells,Value.oneCell',pgCells,rcCells]) rfl rfl rfl ?_);clear I w;intro w I;refine gc 2 Z ?_;refine retc1 rfl Z rfl agg_30 (I.seg 1 rfl) rfl ?_;have heq:(⟨p.id,rc.lsn,p.level,p.next,p.ents⟩:Pg)=applyP p rc:=by
   have hno: ¬(rc.page≠p.id\/rc.lsn<=p.lsn):=by omega
   have hs4': ¬(rc.slot<(p.ents.length:Int)):=by omega
   rw [applyP,if_neg hno,effP];simp [hk1,hk2,hk3,hk4,hs4']
  have hok:POk (⟨p.id,rc.lsn,p.level,p.next,p.ents⟩:Pg):=heq▸applyP_ok ho3 ho10;have hO9:=hO22;obtain ⟨hI9,hD9⟩:=I.shut_at 0 rfl;exact ⟨_,hD19.trans hD9,hI9.drop.drop.drop,PgV.cast (q:=(⟨p.id,rc.lsn,p.level,p.next,p.ents⟩:Pg)) ⟨_,rfl,hO9.shut EnR.keeps hD9,hok⟩ heq⟩
 intro hk4;replace hk4:=eql_f hk4;clear Z a;intro a Z;refine go 4 Z I ?_;clear Z a;intro a Z;refine cmx Z ?_ ?_
 ·intro hk5;replace hk5:=eql_t hk5;clear Z a;intro a Z;refine go 7 Z I ?_;clear Z a;intro a Z;refine l_step rfl (f_store (l:= [_,_,_,_,_]) (ss':=_::_::_::_::_) 3 Z I rfl rfl rfl rfl rfl sz_3 (by simp [Value.cells,Value.oneCell',pgCells,rcCells]) rfl rfl rfl ?_);clear I w;intro w I;refine go 4 Z I ?_;clear Z a;intro a Z;refine cmx Z ?_ ?_
  ·intro hnx;replace hnx:=geq_t hnx;clear Z a;intro a Z;refine go 4 Z I ?_;clear Z a;intro a Z;refine l_step rfl (f_store (l:= [_,_,_,_,_]) (ss':=_::_::_::_::_) 3 Z I rfl rfl rfl rfl rfl sz_3 (by simp [Value.cells,Value.oneCell',pgCells,rcCells]) rfl rfl rfl ?_);clear I w;intro w I;refine wpList_nil ?_;refine go 4 Z I ?_;clear Z a;intro a Z;refine l_step rfl (f_store (l:= [_,_,_,_,_]) (ss':=_::_::_) 1 Z I rfl rfl rfl rfl rfl sz_30 (by simp [Value.cells,Value.oneCell',pgCells,rcCells]) rfl rfl rfl ?_);clear I w;intro w I;refine gc 2 Z ?_;refine retc1 rfl Z rfl agg_30 (I.seg 1 rfl) rfl ?_;have heq:(⟨p.id,rc.lsn,p.level,(-1),p.ents⟩:Pg)=applyP p rc:=by
    have hno: ¬(rc.page≠p.id\/rc.lsn<=p.lsn):=by omega
    have hnx':(256<=rc.slot):=by omega
    rw [applyP,if_neg hno,effP];simp [hk1,hk2,hk3,hk4,hk5,hnx']
   have hok:POk (⟨p.id,rc.lsn,p.level,(-1),p.ents⟩:Pg):=heq▸applyP_ok ho3 ho10;have hO9:=hO22;obtain ⟨hI9,hD9⟩:=I.shut_at 0 rfl;exact ⟨_,hD19.trans hD9,hI9.drop.drop.drop,PgV.cast (q:=(⟨p.id,rc.lsn,p.level,(-1),p.ents⟩:Pg)) ⟨_,rfl,hO9.shut EnR.keeps hD9,hok⟩ heq⟩
  intro hnx;replace hnx:=geq_f hnx;clear Z a;intro a Z;refine go 7 Z I ?_;clear Z a;intro a Z;refine l_step rfl (f_store (l:= [_,_,_,_,_]) (ss':=_::_::_) 1 Z I rfl rfl rfl rfl rfl sz_30 (by simp [Value.cells,Value.oneCell',pgCells,rcCells]) rfl rfl rfl ?_);clear I w;intro w I;refine gc 2 Z ?_;refine retc1 rfl Z rfl agg_30 (I.seg 1 rfl) rfl ?_;have heq:(⟨p.id,rc.lsn,p.level,rc.slot,p.ents⟩:Pg)=applyP p rc:=by
   have hno: ¬(rc.page≠p.id\/rc.lsn<=p.lsn):=by omega
   have hnx': ¬(256<=rc.slot):=by omega
   rw [applyP,if_neg hno,effP];simp [hk1,hk2,hk3,hk4,hk5,hnx']
  have hok:POk (⟨p.id,rc.lsn,p.level,rc.slot,p.ents⟩:Pg):=heq▸applyP_ok ho3 ho10;have hO9:=hO22;obtain ⟨hI9,hD9⟩:=I.shut_at 0 rfl;exact ⟨_,hD19.trans hD9,hI9.drop.drop.drop,PgV.cast (q:=(⟨p.id,rc.lsn,p.level,rc.slot,p.ents⟩:Pg)) ⟨_,rfl,hO9.shut EnR.keeps hD9,hok⟩ heq⟩
 intro hk5;replace hk5:=eql_f hk5;clear Z a;intro a Z;refine go 4 Z I ?_;clear Z a;intro a Z;refine cmx Z ?_ ?_
 ·intro hk6;replace hk6:=eql_t hk6;clear Z a;intro a Z;refine go 9 Z I ?_;clear Z a;intro a Z;refine zs Z (p_min rfl rfl rfl) ?_;clear Z a;intro a Z;refine zs Z (p_sliceB (l:=0) (h:=(min rc.slot p.ents.length).toNat) (B:=A23) rfl Tryz.underlying28 sz_93 rfl (lo_at rfl (by omega) (by omega)) (by omega) (by omega) hO22.cut0) ?_;clear Z a;intro a Z;refine zs Z (p_fieldAddr (m:=4) rfl fo_30_4 rfl) ?_;clear Z a;intro a Z;refine l_step rfl (f_store (l:= [_,_,_,_,_]) (ss':=_::_::_::_::_) 3 Z I rfl rfl rfl rfl rfl sz_28 (by simp [Value.cells,Value.oneCell',pgCells,rcCells]) rfl rfl rfl ?_);clear I w;intro w I;refine wpList_nil ?_;refine go 4 Z I ?_;clear Z a;intro a Z;refine l_step rfl (f_store (l:= [_,_,_,_,_]) (ss':=_::_::_) 1 Z I rfl rfl rfl rfl rfl sz_30 (by simp [Value.cells,Value.oneCell',pgCells,rcCells]) rfl rfl rfl ?_);clear I w;intro w I;refine gc 2 Z ?_;refine retc1 rfl Z rfl agg_30 (I.seg 1 rfl) rfl ?_;have heq:(⟨p.id,rc.lsn,p.level,p.next,(p.ents.take (min rc.slot p.ents.length).toNat)⟩:Pg)=applyP p rc:=by
   have hno: ¬(rc.page≠p.id\/rc.lsn<=p.lsn):=by omega
   rw [applyP,if_neg hno,effP];simp [hk1,hk2,hk3,hk4,hk5,hk6]
  have hok:POk (⟨p.id,rc.lsn,p.level,p.next,(p.ents.take (min rc.slot p.ents.length).toNat)⟩:Pg):=heq▸applyP_ok ho3 ho10;have hO9:=(OR.take (m:=(min rc.slot p.ents.length).toNat) hO22 rfl (by omega));obtain ⟨hI9,hD9⟩:=I.shut_at 0 rfl;exact ⟨_,hD19.trans hD9,hI9.drop.drop.drop,PgV.cast (q:=(⟨p.id,rc.lsn,p.level,p.next,(p.ents.take (min rc.slot p.ents.length).toNat)⟩:Pg)) ⟨_,rfl,hO9.shut EnR.keeps hD9,hok⟩ heq⟩
 intro hk6;replace hk6:=eql_f hk6;clear Z a;intro a Z;refine go 8 Z I ?_;clear Z a;intro a Z;refine l_step rfl (f_store (l:= [_,_,_,_,_]) (ss':=_::_::_) 1 Z I rfl rfl rfl rfl rfl sz_30 (by simp [Value.cells,Value.oneCell',pgCells,rcCells]) rfl rfl rfl ?_);clear I w;intro w I;refine gc 2 Z ?_;refine retc1 rfl Z rfl agg_30 (I.seg 1 rfl) rfl ?_;have heq:(⟨p.id,rc.lsn,p.level,p.next,p.ents⟩:Pg)=applyP p rc:=by
  have hno: ¬(rc.page≠p.id\/rc.lsn<=p.lsn):=by omega
  rw [applyP,if_neg hno,effP];simp [hk1,hk2,hk3,hk4,hk5,hk6]
 have hok:POk (⟨p.id,rc.lsn,p.level,p.next,p.ents⟩:Pg):=heq▸applyP_ok ho3 ho10;have hO9:=hO22;obtain ⟨hI9,hD9⟩:=I.shut_at 0 rfl;exact ⟨_,hD19.trans hD9,hI9.drop.drop.drop,PgV.cast (q:=(⟨p.id,rc.lsn,p.level,p.next,p.ents⟩:Pg)) ⟨_,rfl,hO9.shut EnR.keeps hD9,hok⟩ heq⟩
end Go.Proofs.YtefaghnlmmgpcaaGreatDoor.B
