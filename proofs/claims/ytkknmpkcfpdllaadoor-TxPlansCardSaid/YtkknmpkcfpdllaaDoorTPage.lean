/- What functions of the program compute, each function once: steps over the model, and the plain law of it. -/
import Derived.Test.YtkknmpkcfpdllaaDoorTTreeRel
import Derived.Test.YtkknmpkcfpdllaaDoorSLogB
import Derived.Test.YtkknmpkcfpdllaaDoorTFacts
namespace Go.Proofs.YtkknmpkcfpdllaaDoor.B
open Go Go.Proofs
set_option linter.unusedVariables false
set_option linter.unusedSimpArgs false
set_option maxRecDepth 20000
set_option maxHeartbeats 8000000
theorem Compare_spec {w0 w:World} {D:Sto} {ss:List Seg} (I:Inv w0 D ss w) {va vb:Value} {ka kb:List Nat} (ha:RB D va ka) (hb:RB D vb kb) :
  Calls Tryd.prog 71 #[va,vb] w (Ret fun r w'=>r= .int .i64 (cmpL ka kb)/\Inv w0 D ss w'):=by
 obtain ⟨A1,c2,rfl,_⟩:=ha.slice;obtain ⟨A3,c4,rfl,_⟩:=hb.slice;refine enter (N:=8) Tryd.func71 rfl rfl rfl ?_;intro a Z;refine go 6 Z I ?_;clear Z a;intro a Z;refine zl Z (r_extern (fn:=Tryd.f103) (e:=Extern.BytealgCompare.compare) rfl Tryd.func103 rfl rfl (by kernel_rfl) (by kernel_rfl) (compare_run I ha hb)) ?_;clear Z a;intro a Z;refine go 3 Z I ?_;clear Z a;intro a Z;refine ret1 rfl Z rfl ?_;exact ⟨rfl,I⟩
theorem right_spec {w0 w:World} {D:Sto} {ss:List Seg} (I:Inv w0 D ss w) {vk:Value} {key:List Nat} (hk:RB D vk key) :
  Calls Tryd.prog 35 #[vk] w (Ret fun r w'=>r= .bool (rightK key)/\Inv w0 D ss w'):=by
 obtain ⟨A1,c2,rfl,_⟩:=hk.slice;refine enter (N:=11) Tryd.func35 rfl rfl rfl ?_;intro a Z;refine go 5 Z I ?_;clear Z a;intro a Z;refine zs Z (p_len rfl rfl Tryd.underlying34) ?_;clear Z a;intro a Z;refine l_step rfl (o_cmp Z rfl rfl rfl rfl rfl rfl ?_ ?_)
 ·intro hc_1_2;replace hc_1_2:=geq_t hc_1_2;clear Z a;intro a Z;refine go 2 Z I ?_;clear Z a;intro a Z;refine gs Z (p_len rfl rfl Tryd.underlying34) ?_;clear Z a;intro a Z;refine l_go Z rfl (o_cmp Z rfl rfl rfl rfl rfl rfl ?_ ?_)
  ·intro hc_1_6;replace hc_1_6:=leq_t hc_1_6;clear Z a;intro a Z;refine go 4 Z I ?_;clear Z a;intro a Z;refine ret1 rfl Z rfl ?_;exact ⟨by simp [rightK];omega,I⟩
  intro hc_1_6;replace hc_1_6:=leq_f hc_1_6;clear Z a;intro a Z;refine go 4 Z I ?_;clear Z a;intro a Z;refine ret1 rfl Z rfl ?_;exact ⟨by simp [rightK];omega,I⟩
 intro hc_1_2;replace hc_1_2:=geq_f hc_1_2;clear Z a;intro a Z;refine go 8 Z I ?_;clear Z a;intro a Z;refine ret1 rfl Z rfl ?_;exact ⟨by simp [rightK];omega,I⟩
theorem full_spec {w0 w:World} {D:Sto} {ss:List Seg} (I:Inv w0 D ss w) {vp:Value} {p:Pg} (hp:PgV D vp p) :
  Calls Tryd.prog 75 #[vp] w (Ret fun r w'=>r= .bool (decide (8<=p.ents.length))/\Inv w0 D ss w'):=by
 obtain ⟨e1,rfl,he2,ho3⟩:=hp;have hlen_p:=ho3.len;obtain ⟨A4,c5,rfl,_⟩:=he2.slice;refine enter (N:=7) Tryd.func75 rfl rfl rfl ?_;intro a Z;refine wsr ?_;refine l_step rfl (f_box (cs:= #[_,_,_,_,_]) Z I rfl rfl rfl rfl rfl ?_);clear I Z a w;intro a b6 w Z I;refine go 5 Z I ?_;clear Z a;intro a Z;refine zs Z (p_len rfl rfl Tryd.underlying48) ?_;clear Z a;intro a Z;refine l_step rfl (o_cmp Z rfl rfl rfl rfl rfl rfl ?_ ?_)
 ·intro hc_1_3;replace hc_1_3:=geq_t hc_1_3;clear Z a;intro a Z;refine go 3 Z I ?_;clear Z a;intro a Z;refine ret1 rfl Z rfl ?_;exact ⟨by simp;omega,I.drop⟩
 intro hc_1_3;replace hc_1_3:=geq_f hc_1_3;clear Z a;intro a Z;refine go 3 Z I ?_;clear Z a;intro a Z;refine ret1 rfl Z rfl ?_;exact ⟨by simp;omega,I.drop⟩
theorem newPg_ok (id:Int):POk (newPg id):=⟨by simp [newPg],by simp [newPg],by simp [newPg],by simp [newPg],by simp [newPg],by simp [newPg],by simp [newPg],by simp [newPg]⟩
theorem PNew_spec {w0 w:World} {D:Sto} {ss:List Seg} (I:Inv w0 D ss w) (id:Int) :
  Calls Tryd.prog 72 #[.int .i64 id] w (Ret fun r w'=>PgV D r (newPg id)/\Inv w0 D ss w'):=by
 refine enter (N:=5) Tryd.func72 rfl rfl rfl ?_;intro a Z;refine wsr ?_;refine l_step rfl (f_alloc (cs:= #[.int .i64 0, .int .i64 0, .int .i64 0, .int .i64 0, .slice none 0 0]) Z I rfl rfl rfl zer_84 rfl ?_);clear I Z a w;intro a b1 w Z I;refine go 3 Z I ?_;clear Z a;intro a Z;refine zs Z (f_build (vs:= [(0,_),(3,_)]) (l:= [_,_,_,_,_]) rfl built_84 rfl) ?_;clear Z a;intro a Z;refine l_step rfl (f_store (l:= [_,_,_,_,_]) (ss':=_::_) 0 Z I rfl rfl rfl rfl rfl sz_84 (by simp [Value.cells,Value.oneCell',pgCells,rcCells]) rfl rfl rfl ?_);clear I w;intro w I;refine gc 2 Z ?_;refine retc1 rfl Z rfl agg_84 (I.seg 0 rfl) rfl ?_;exact ⟨⟨_,rfl,DR.nil _ _ _,newPg_ok id⟩,I.drop⟩
theorem findP_none: ∀(es:Ens) (key:Bs),(∀e∈es,ltB e.1 key=true)->findP es key=(es.length,false)
 | [],key,_=>rfl
 |e::r,key,h=>by
  have h1:=h e (by simp);have ih:=findP_none r key (fun x hx=>h x (by simp [hx]));simp [findP,h1,ih]
theorem findP_some: ∀(es:Ens) (key:Bs) (i:Nat) (e:Bs×Bs),(∀x∈es.take i,ltB x.1 key=true)->es[i]? =some e->ltB e.1 key=false->findP es key=(i,decide (e.1=key))
 | [],key,i,e,_,he,_=>by simp at he
 |x::r,key,0,e,_,he,hl=>by
  have:x=e:=by simpa using he
  subst this;simp [findP,hl]
 |x::r,key,i+1,e,h,he,hl=>by
  have h1:=h x (by simp);have ih:=findP_some r key i e (fun y hy=>h y (by simp [hy])) (by simpa using he) hl;simp [findP,h1,ih]
theorem take_all {es:Ens} {i:Nat} (h:es.length<=i) {p:(Bs×Bs)->Prop} (ha: ∀x∈es.take i,p x): ∀x∈es,p x:=by rw [List.take_of_length_le h] at ha;exact ha
theorem take_next {es:Ens} {i:Nat} {e:Bs×Bs} (he:es[i]? =some e) {p:(Bs×Bs)->Prop} (ha: ∀x∈es.take i,p x) (hp:p e): ∀x∈es.take (i+1),p x:=by
 have hi:=(List.getElem?_eq_some_iff.1 he);obtain ⟨h1,h2⟩:=hi;rw [List.take_succ_eq_append_getElem h1];intro x hx;rcases List.mem_append.1 hx with h|h
 ·exact ha x h
 have:x=e:=by rw [<-h2];simpa using h
 subst this;exact hp
theorem Find_spec {w0 w:World} {D:Sto} {ss:List Seg} (I:Inv w0 D ss w) {vp vk:Value} {p:Pg} {key:List Nat} (hp:PgV D vp p) (hk:RB D vk key) :
  Calls Tryd.prog 37 #[vp,vk] w (Ret fun r w'=>r= .tuple #[.int .i64 ((findP p.ents key).1:Nat), .bool (findP p.ents key).2]/\Inv w0 D ss w'):=by
 obtain ⟨e1,rfl,he2,ho3⟩:=hp;have hlen_p:=ho3.len;obtain ⟨A4,c5,rfl,_⟩:=he2.slice;obtain ⟨A6,c7,rfl,_⟩:=hk.slice;refine enter (N:=30) Tryd.func37 rfl rfl rfl ?_;intro a Z;refine wsr ?_;refine l_step rfl (f_box (cs:= #[_,_,_,_,_]) Z I rfl rfl rfl rfl rfl ?_);clear I Z a w;intro a b8 w Z I;refine go 7 Z I ?_;clear Z a;intro a Z;refine zs Z (p_len rfl rfl Tryd.underlying48) ?_;clear Z a;intro a Z;refine go 3 Z I ?_;clear Z a;intro a Z;refine c_loop (X:=Nat) (fun x=> [(1,_),(2,_),(10,_),(11,_),(12, .int .i64 (x:Nat))]) (fun x w=>x<=p.ents.length/\(∀y∈p.ents.take x,ltB y.1 key=true)/\Inv w0 D ([(b8, .cells (pgCells p (.slice A4 p.ents.length c5)).toArray 84 (0,0))]::ss) w) (fun x=>p.ents.length - x) 0 (Z.pick [1,2,10,11,12]) ⟨Nat.zero_le _,by simp,I⟩ ?_;clear Z I a w;rintro i a w Z ⟨hi,hall,I⟩;(try dsimp only at Z);(try dsimp only at hi);(try dsimp only at hall);(try dsimp only at I);refine wsr ?_;refine l_step rfl (o_cmp Z rfl rfl rfl rfl rfl rfl ?_ ?_)
 ·intro hlt;replace hlt:=lss_t hlt;clear Z a;intro a Z;refine go 9 Z I ?_;clear Z a;intro a Z;obtain ⟨x_9,hx_9⟩: ∃y,(p.ents)[i]? =some y:=⟨_,List.getElem?_eq_getElem (by omega)⟩;obtain ⟨b_9,o_9,cs_9,T_9,fr_9,rfl,hb_9,hat_9⟩:=he2.at_ (by intro h0;rw [h0] at hx_9;simp at hx_9);obtain ⟨vs_9,hl_9,⟨k_9,v_9,rfl,hk_9,hv_9,hok_9⟩,hex_9,hsz_9,hce_9⟩:=hat_9.extract hx_9 (by omega);obtain ⟨A10,c11,rfl,_⟩:=hk_9.slice;obtain ⟨A12,c13,rfl,_⟩:=hv_9.slice;refine zs Z (p_indexAddr (m:=o_9+i*2) rfl rfl Tryd.underlying48 sz_110 (by omega) (by omega) (by simp)) ?_;clear Z a;intro a Z;refine zl Z (r_loadA rfl agg_110 (I.data _ _ (hb_9)) hsz_9 hex_9) ?_;clear Z a;intro a Z;refine l_step rfl (f_alloc (cs:= #[.slice none 0 0, .slice none 0 0]) Z I rfl rfl rfl zer_110 rfl ?_);clear I Z a w;intro a b14 w Z I;refine za Z ?_;clear Z a;intro a Z;refine l_step rfl (f_store (l:= [_,_]) (ss':=_::_) 0 Z I rfl rfl rfl rfl rfl sz_110 (by simp [Value.cells,Value.oneCell',pgCells,rcCells]) rfl rfl rfl ?_);clear I w;intro w I;refine go 5 Z I ?_;clear Z a;intro a Z;refine l_step rfl (o_call Z rfl rfl rfl rfl ent_71 (Compare_spec I hk_9 hk) ?_);clear I Z a;rintro r w ⟨rfl,I⟩ a Z;refine go 4 Z I ?_;clear Z a;intro a Z;refine l_step rfl (o_cmp Z rfl rfl rfl rfl rfl rfl ?_ ?_)
  ·intro hge;replace hge:=geq_t hge;clear Z a;intro a Z;refine go 5 Z I ?_;clear Z a;intro a Z;refine l_step rfl (o_cmp Z rfl rfl rfl rfl rfl rfl ?_ ?_)
   ·intro heq;replace heq:=eql_t heq;clear Z a;intro a Z;refine go 9 Z I ?_;clear Z a;intro a Z;refine ret2 rfl Z rfl rfl ?_;refine ⟨?_,I.drop.drop⟩;rw [findP_some p.ents key i x_9 hall hx_9 (by cases hq:ltB x_9.1 key with|false=>rfl|true=>exact absurd ((cmpL_lt _ _).2 hq) (by omega))];simp [show x_9.1=key from (cmpL_eq _ _).1 heq]
   intro heq;replace heq:=eql_f heq;clear Z a;intro a Z;refine go 9 Z I ?_;clear Z a;intro a Z;refine ret2 rfl Z rfl rfl ?_;refine ⟨?_,I.drop.drop⟩;rw [findP_some p.ents key i x_9 hall hx_9 (by cases hq:ltB x_9.1 key with|false=>rfl|true=>exact absurd ((cmpL_lt _ _).2 hq) (by omega))];simp [show¬x_9.1=key from fun h=>heq ((cmpL_eq _ _).2 h)]
  intro hge;replace hge:=geq_f hge;clear Z a;intro a Z;refine gc 6 Z ?_;refine zs Z (p_arith (z:=((i+1:Nat):Int)) rfl rfl (add_z (by omega) (by omega) (by omega))) ?_;clear Z a;intro a Z;refine go 2 Z I ?_;clear Z a;intro a Z;exact ⟨i+1,Z.pick [1,2,10,11,12],⟨by show i+1<=_;omega,take_next hx_9 hall ((cmpL_lt _ _).1 (by omega)),I.drop⟩,by show p.ents.length - (i+1)<p.ents.length - i;omega⟩
 intro hlt;replace hlt:=lss_f hlt;clear Z a;intro a Z;refine go 11 Z I ?_;clear Z a;intro a Z;refine zs Z (p_len rfl rfl Tryd.underlying48) ?_;clear Z a;intro a Z;refine go 4 Z I ?_;clear Z a;intro a Z;refine ret2 rfl Z rfl rfl ?_;refine ⟨?_,I.drop⟩;rw [findP_none p.ents key (take_all (by omega) hall)]
end Go.Proofs.YtkknmpkcfpdllaaDoor.B
