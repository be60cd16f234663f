/- What functions of the program compute, each function once: steps over the model, and the plain law of it. -/
import Derived.Test.YtkknmpkcfpdllaaGreatDoorTPage
import Derived.Test.YtkknmpkcfpdllaaGreatDoorTFacts
namespace Go.Proofs.YtkknmpkcfpdllaaGreatDoor.B
open Go Go.Proofs
set_option linter.unusedVariables false
set_option linter.unusedSimpArgs false
set_option maxRecDepth 20000
set_option maxHeartbeats 8000000
theorem or_bytes {x y:Nat} (hx:x<256) (hy:y<256):arithZ .or .i64 ((x*256:Nat):Int) (y:Nat)=some ((x*256+y:Nat):Int):=by
 show some (IntKind.i64.wrap ((BitVec.ofInt 64 ((x*256:Nat):Int) |||BitVec.ofInt 64 ((y:Nat):Int)).toNat))=_;rw [BitVec.ofInt_natCast,BitVec.ofInt_natCast];have h3:(BitVec.ofNat 64 (x*256) |||BitVec.ofNat 64 y).toNat=x*256+y:=by rw [BitVec.toNat_or,BitVec.toNat_ofNat,BitVec.toNat_ofNat,Nat.mod_eq_of_lt (by omega),Nat.mod_eq_of_lt (by omega)];have:=Nat.shiftLeft_add_eq_or_of_lt (b:=y) (i:=8) (by omega) x;rw [Nat.shiftLeft_eq,show (2:Nat)^8=256 from rfl] at this;omega
 rw [h3];congr 1;rw [IntKind.wrap_i64];omega
theorem two_spec {w0 w:World} {D:Sto} {ss:List Seg} (I:Inv w0 D ss w) (n:Int) :
  Calls Tryz.prog 117 #[.int .i64 n] w (Ret fun r w'=> ∃s,OB r (twoB n) s/\Inv w0 D (s::ss) w'):=by
 refine enter (N:=9) Tryz.func117 rfl rfl rfl ?_;intro a Z;refine go 5 Z I ?_;clear Z a;intro a Z;refine zs Z (p_shr (z:=n.fdiv 256) rfl rfl (by omega) (by simp [IntKind.bits])) ?_;clear Z a;intro a Z;refine zs Z (p_int (z:=(((n.fdiv 256) % 256).toNat:Nat)) Tryz.underlying3 Tryz.underlying5 rfl (u8_z)) ?_;clear Z a;intro a Z;refine zm Z ?_;clear Z a;intro a Z;refine zs Z (p_int (z:=((n % 256).toNat:Nat)) Tryz.underlying3 Tryz.underlying5 rfl (u8_z)) ?_;clear Z a;intro a Z;refine l_step rfl (f_lit (vs:= [(0,_),(1,_)]) (l:= [_,_]) Z I rfl rfl rfl rfl Tryz.underlying33 zs_5 rfl rfl rfl ?_);clear I Z a w;intro a b1 w Z I;refine go 3 Z I ?_;clear Z a;intro a Z;refine rt1 Z ?_;exact ⟨_,(Row.lit (T:=5) (size:=1) (n:=2) rfl (by omega)),I⟩
theorem twoB_lt (n:Int): ∀x∈twoB n,x<256:=by intro x hx;simp only [twoB,List.mem_cons,List.not_mem_nil,or_false] at hx;rcases hx with rfl|rfl<;>omega
theorem two_data {w0 w:World} {D:Sto} {ss:List Seg} (I:Inv w0 D ss w) (n:Int):Calls Tryz.prog 117 #[.int .i64 n] w (Ret fun r w'=> ∃D',Le D D'/\Inv w0 D' ss w'/\RB D' r (twoB n)):=
 (two_spec I n).mono fun _ _ h=>h.imp fun _ _ h=>OB.data h (twoB_lt n)
theorem counts_spec {w0 w:World} {D:Sto} {ss:List Seg} (I:Inv w0 D ss w) (used free:Int) :
  Calls Tryz.prog 65 #[.int .i64 used, .int .i64 free] w (Ret fun r w'=> ∃D',Le D D'/\Inv w0 D' ss w'/\RB D' r (twoB used++twoB free)):=by
 refine enter (N:=10) Tryz.func65 rfl rfl rfl ?_;intro a Z;refine go 5 Z I ?_;clear Z a;intro a Z;refine l_step rfl (o_call Z rfl rfl rfl rfl ent_117 (two_spec I used) ?_);clear I Z a;rintro r w ⟨s1,hR2,I⟩ a Z;obtain ⟨A3,c4,rfl,_⟩:=Row.slice hR2;refine zm Z ?_;clear Z a;intro a Z;refine l_step rfl (o_call Z rfl rfl rfl rfl ent_117 (two_data I free) ?_);clear I Z a;rintro r w ⟨D5,hD6,I,hb7⟩ a Z;obtain ⟨A8,c9,rfl,_⟩:=hb7.slice;refine l_step rfl (o_appendRB 0 Z I rfl rfl rfl rfl rfl Tryz.underlying33 zsb_5 rfl hR2 hb7 (by simp [twoB]) ?_);clear I Z a w;intro v10 s11 w hR12 I a Z;obtain ⟨A13,c14,rfl,_⟩:=hR12.slice;(try simp only [nrm,Value.cells] at I);refine go 3 Z I ?_;clear Z a;intro a Z;refine rt1 Z ?_;obtain ⟨D9,hD9,I,hb⟩:=OB.data ⟨_,Row.cast (ys:=bytesV (twoB used++twoB free)) hR12 (by simp [bytesV]) (by simp [twoB]),I⟩ (by intro x hx;rcases List.mem_append.1 hx with h|h;exact twoB_lt _ x h;exact twoB_lt _ x h);exact ⟨D9,hD6.trans hD9,I,hb⟩
theorem number21_spec {w0 w:World} {D:Sto} {ss:List Seg} (I:Inv w0 D ss w) {vb:Value} {bs:List Nat} (hb:RB D vb bs) (hl:2<=bs.length) :
  Calls Tryz.prog 170 #[vb] w (Ret fun r w'=>r= .int .i64 (numberP bs)/\Inv w0 D ss w'):=by
 obtain ⟨A1,c2,rfl,_⟩:=hb.slice;have hne:bs≠ []:=by rintro rfl;simp at hl
 have l0:bs.getD 0 0<256:=by rw [List.getD_eq_getElem?_getD,List.getElem?_eq_getElem (by omega)];exact hb.lt _ (List.getElem_mem _)
 have l1:bs.getD 1 0<256:=by rw [List.getD_eq_getElem?_getD,List.getElem?_eq_getElem (by omega)];exact hb.lt _ (List.getElem_mem _)
 refine enter (N:=13) Tryz.func170 rfl rfl rfl ?_;intro a Z;refine go 3 Z I ?_;clear Z a;intro a Z;refine wp_seq ?_;refine d_start [] [] (by kernel_rfl) I rfl rfl ?_;clear I w;intro w I;refine dp 0 Z rfl (p_move rfl) (fun _=>I) (listed':= #[true,false,false,false,false,false,false,false,false,false,false]) ?_;clear Z a;intro a Z;obtain ⟨b_3,o_3,cs_3,T_3,fr_3,rfl,hb_3,hc_3⟩:=hb.at_ (hne);refine dp 1 Z rfl (p_indexAddr rfl rfl Tryz.underlying33 sz_5 (by omega) (by omega) rfl) (fun _=>I) ?_;clear Z a;intro a Z;refine dl 2 Z rfl (fun w hS=>r_load rfl scal_5 (Inv.data hS _ _ (hb_3)) (RB.cell hc_3 (by omega) (by omega))) (I) ?_;clear Z a;intro a Z;refine dp 3 Z rfl (p_int (z:=((bs.getD 0 0:Nat):Int)) Tryz.underlying5 Tryz.underlying3 rfl (by show IntKind.i64.wrap ((bs.getD 0 0:Nat):Int)=_;rw [IntKind.wrap_i64];omega)) (fun _=>I) ?_;clear Z a;intro a Z;refine dp 4 Z rfl (p_shl (z:=((bs.getD 0 0*256:Nat):Int)) rfl rfl (by omega) (by show IntKind.i64.wrap (((bs.getD 0 0:Nat):Int)*2^min (8:Int).toNat 64)=_;rw [show min (8:Int).toNat 64=8 from rfl,IntKind.wrap_i64];omega)) (fun _=>I) ?_;clear Z a;intro a Z;refine dp 5 Z rfl (p_move rfl) (fun _=>I) ?_;clear Z a;intro a Z;refine dp 6 Z rfl (p_indexAddr rfl rfl Tryz.underlying33 sz_5 (by omega) (by omega) rfl) (fun _=>I) ?_;clear Z a;intro a Z;refine dl 7 Z rfl (fun w hS=>r_load rfl scal_5 (Inv.data hS _ _ (hb_3)) (RB.cell hc_3 (by omega) (by omega))) (I) ?_;clear Z a;intro a Z;refine dp 8 Z rfl (p_int (z:=((bs.getD 1 0:Nat):Int)) Tryz.underlying5 Tryz.underlying3 rfl (by show IntKind.i64.wrap ((bs.getD 1 0:Nat):Int)=_;rw [IntKind.wrap_i64];omega)) (fun _=>I) ?_;clear Z a;intro a Z;refine dp 9 Z rfl (p_arith (z:=((bs.getD 0 0*256+bs.getD 1 0:Nat):Int)) rfl rfl (or_bytes l0 l1)) (fun _=>I) ?_;clear Z a;intro a Z;refine dp 10 Z rfl (p_assign rfl) (fun _=>I) ?_;clear Z a;intro a Z;refine dnx ?_;refine gc 2 Z ?_;refine rt1 Z ?_;exact ⟨rfl,I⟩
section
variable {P:Program} {ops:Array Oper} {Q:Exit->Act->World->Prop} {a:Act} {w0 w w':World} {D:Sto} {ss:List Seg} {rest:List Oper} {o:Oper} {N:Nat} {env:Env} {K:Act->World->Prop}
theorem o_mark {t e b n c T d:Nat} {x:Operand} {cs:Array Value} (i:Nat) (Z:EnvOk N env a) (I:Inv w0 D ss w) (hd:o.dst=some d) (hN:Nat.blt d N=true) (ho:o.op= .convert t t x) (hx:ev env x=some (.slice (some ⟨b,0,none⟩) n c))
  (ht:P.underlying t=some (.slice e)) (he:P.underlying e=some (.int .u8)) (hi:ss[i]? =some [(b, .cells cs T (0,0))])
  (k: ∀w',Inv w0 D (ss.set i [(b, .cells cs T (cs.size,cs.size+1))]) w'-> ∀a',EnvOk N ((d, .slice (some ⟨b,0,none⟩) n c)::env) a'->K a' w'):o.wp P a w K Q:=by
 have hb:=I.seg i hi;have hsh:w.shape? b=some (T,cs.size):=by simp [World.shape?,hb]
 have hfr:w.freeze ⟨b,cs.size,none⟩ 1={w with heap:=w.heap.setIfInBounds b (.cells cs T (cs.size,cs.size+1))}:=by
  unfold World.freeze;rw [if_neg (by decide)];refine heap_ext fun j=> ?_;rw [Array.getElem?_modify];by_cases hj:b=j
  ·subst hj;rw [Array.getElem?_setIfInBounds_self_of_lt (heap_lt hb)];simp [hb]
  rw [Array.getElem?_setIfInBounds_ne hj];simp [hj]
 have hrun:(execOp a.eval o).run P w= .ok (.value (.slice (some ⟨b,0,none⟩) n c)) {w with heap:=w.heap.setIfInBounds b (.cells cs T (cs.size,cs.size+1))}:=by simp [execOp,ho,Z.eval hx,convert,run_underlying ht,run_underlying he,markStringish,hsh,hfr,shape,freeze,Sem.run]
 exact o_val hrun (by rw [hd];exact k _ (I.turn_at i hi) _ (Z.put hN _))
end
theorem RB.lit {D:Sto} {b T:Nat} {fr:Nat×Nat} {bs:List Nat} (h: ∀x∈bs,x<256):RB (Sto.put D [(b, .cells (bytesV bs).toArray T fr)]) (.slice (some ⟨b,0,none⟩) bs.length bs.length) bs:=
 ⟨_,_,rfl,Nat.le_refl _,h,fun h=>(by cases h),fun _=>⟨b,0,_,T,fr,rfl,Sto.put_one _ _ _,fun i x hx=>by rw [Nat.zero_add,List.getElem?_toArray];exact bytesV_get hx⟩⟩
theorem name_spec {w0 w:World} {D:Sto} {ss:List Seg} (I:Inv w0 D ss w) :
  Calls Tryz.prog 64 #[] w (Ret fun r w'=> ∃D',Le D D'/\Inv w0 D' ss w'/\RB D' r [110]):=by
 refine enter (N:=3) Tryz.func64 rfl rfl rfl ?_;intro a Z;refine go 4 Z I ?_;clear Z a;intro a Z;refine l_step rfl (f_lit (vs:= [(0,_)]) (l:= [_]) Z I rfl rfl rfl rfl Tryz.underlying33 zs_5 rfl rfl rfl ?_);clear I Z a w;intro a b1 w Z I;refine l_step rfl (o_mark 0 Z I rfl rfl rfl rfl Tryz.underlying33 Tryz.underlying5 rfl ?_);clear Z I a w;intro w I a Z;refine go 3 Z I ?_;clear Z a;intro a Z;refine rt1 Z ?_;obtain ⟨h1,h2⟩:=I.shut_at 0 rfl;exact ⟨_,h2,h1,RB.lit (bs:= [110]) (by simp)⟩
theorem findP_le: ∀(es:Ens) (key:Bs),(findP es key).1<=es.length
 | [],_=>Nat.le_refl _
 |e::r,key=>by
  have:=findP_le r key;simp only [findP];split<;>simp<;>omega
theorem child_spec {w0 w:World} {D:Sto} {ss:List Seg} (I:Inv w0 D ss w) {vp vk:Value} {p:Pg} {key:List Nat} (hp:PgV D vp p) (hk:RB D vk key) :
  Calls Tryz.prog 120 #[vp,vk] w (Ret fun r w'=>r= .int .i64 (childP p key:Nat)/\Inv w0 D ss w'):=by
 obtain ⟨e1,rfl,he2,ho3⟩:=hp;have hlen_p:=ho3.len;obtain ⟨A4,c5,rfl,_⟩:=he2.slice;obtain ⟨A6,c7,rfl,_⟩:=hk.slice;refine enter (N:=19) Tryz.func120 rfl rfl rfl ?_;intro a Z;refine wsr ?_;refine l_step rfl (f_box (cs:= #[_,_,_,_,_]) Z I rfl rfl rfl rfl rfl ?_);clear I Z a w;intro a b8 w Z I;refine go 5 Z I ?_;clear Z a;intro a Z;refine l_step rfl (o_call Z rfl rfl rfl rfl ent_71 (Find_spec (p:=p) I ⟨_,rfl,he2,ho3⟩ hk) ?_);clear I Z a;rintro r w ⟨rfl,I⟩ a Z;have hfl:=findP_le p.ents key;obtain ⟨bf9,hbf10⟩: ∃b,(findP p.ents key).2=b:=⟨_,rfl⟩;rw [hbf10] at Z;have hbf102:bf9=true↔(findP p.ents key).2=true:=by rw [hbf10]
 replace hbf10:=hbf102;refine go 9 Z I ?_;clear Z a;intro a Z;rcases Bool.eq_false_or_eq_true bf9 with rfl|rfl
 ·replace hbf10:=iff_t hbf10;refine zs Z (p_not rfl) ?_;clear Z a;intro a Z;refine go 6 Z I ?_;clear Z a;intro a Z;refine zs Z (p_max rfl rfl rfl) ?_;clear Z a;intro a Z;refine go 3 Z I ?_;clear Z a;intro a Z;refine rt1 Z ?_;refine ⟨?_,I.drop⟩;simp only [childP];split<;>first|contradiction|(congr 1;omega)
 replace hbf10:=iff_f hbf10;refine zs Z (p_not rfl) ?_;clear Z a;intro a Z;refine go 4 Z I ?_;clear Z a;intro a Z;refine zs Z (p_arith (z:=((findP p.ents key).1:Int) - 1) rfl rfl (sub_z rfl (by omega) (by omega))) ?_;clear Z a;intro a Z;refine go 4 Z I ?_;clear Z a;intro a Z;refine zs Z (p_max rfl rfl rfl) ?_;clear Z a;intro a Z;refine go 3 Z I ?_;clear Z a;intro a Z;refine rt1 Z ?_;refine ⟨?_,I.drop⟩;simp only [childP];split<;>first|contradiction|(congr 1;omega)
theorem at_spec {w0 w:World} {D:Sto} {ss:List Seg} (I:Inv w0 D ss w) {ad:Nat->Addr} (hS:TSents D ad) {vp:Value} {p:Pg} (hp:PgV D vp p) (k:Int) :
  Calls Tryz.prog 121 #[vp, .int .i64 k] w (Ret fun r w'=>(∃i,atP p k= .ok i/\r= .tuple #[.int .i64 i, .nilIface]/\Inv w0 D ss w')\/(atP p k= .fail 103 none/\r= .tuple #[.int .i64 0,errV ad 103]/\Inv w0 D ss w')):=by
 obtain ⟨e1,rfl,he2,ho3⟩:=hp;have hlen_p:=ho3.len;obtain ⟨A4,c5,rfl,_⟩:=he2.slice;refine enter (N:=33) Tryz.func121 rfl rfl rfl ?_;intro a Z;refine wsr ?_;refine l_step rfl (f_box (cs:= #[_,_,_,_,_]) Z I rfl rfl rfl rfl rfl ?_);clear I Z a w;intro a b6 w Z I;refine go 6 Z I ?_;clear Z a;intro a Z;refine cmx Z ?_ ?_
 ·intro h1;replace h1:=lss_t h1;clear Z a;intro a Z;refine go 19 Z I ?_;clear Z a;intro a Z;refine wp_seq ?_;refine d_start [] [] (by kernel_rfl) I rfl rfl ?_;clear I w;intro w I;obtain ⟨T_7,fr_7,hg_7⟩:=hS.g103;refine dl 0 Z rfl (fun w hS=>f_load rfl scal_38 (Inv.data hS _ _ (hg_7)) rfl) (I) (listed':= #[true,false,false]) ?_;clear Z a;intro a Z;refine dp 1 Z rfl (p_assign rfl) (fun _=>I) ?_;clear Z a;intro a Z;refine dp 2 Z rfl (p_assign rfl) (fun _=>I) ?_;clear Z a;intro a Z;refine dnx ?_;refine gc 3 Z ?_;refine ret2 rfl Z rfl rfl ?_;exact .inr ⟨by rw [atP,if_pos (by omega)],rfl,I.drop⟩
 intro h1;replace h1:=lss_f h1;clear Z a;intro a Z;refine go 4 Z I ?_;clear Z a;intro a Z;refine gs Z (p_len rfl rfl Tryz.underlying57) ?_;clear Z a;intro a Z;refine cgx Z ?_ ?_
 ·intro h2;replace h2:=geq_t h2;clear Z a;intro a Z;refine go 13 Z I ?_;clear Z a;intro a Z;refine wp_seq ?_;refine d_start [] [] (by kernel_rfl) I rfl rfl ?_;clear I w;intro w I;obtain ⟨T_8,fr_8,hg_8⟩:=hS.g103;refine dl 0 Z rfl (fun w hS=>f_load rfl scal_38 (Inv.data hS _ _ (hg_8)) rfl) (I) (listed':= #[true,false,false]) ?_;clear Z a;intro a Z;refine dp 1 Z rfl (p_assign rfl) (fun _=>I) ?_;clear Z a;intro a Z;refine dp 2 Z rfl (p_assign rfl) (fun _=>I) ?_;clear Z a;intro a Z;refine dnx ?_;refine gc 3 Z ?_;refine ret2 rfl Z rfl rfl ?_;exact .inr ⟨by rw [atP,if_pos (by omega)],rfl,I.drop⟩
 intro h2;replace h2:=geq_f h2;clear Z a;intro a Z;refine go 5 Z I ?_;clear Z a;intro a Z;obtain ⟨x_9,hx_9⟩: ∃y,(p.ents)[k.toNat]? =some y:=⟨_,List.getElem?_eq_getElem (by omega)⟩;obtain ⟨b_9,o_9,cs_9,T_9,fr_9,rfl,hb_9,hat_9⟩:=he2.at_ (by intro h0;rw [h0] at hx_9;simp at hx_9);obtain ⟨vs_9,hl_9,⟨k_9,v_9,rfl,hk_9,hv_9,hok_9⟩,hex_9,hsz_9,hce_9⟩:=hat_9.extract hx_9 (by omega);obtain ⟨A10,c11,rfl,_⟩:=hk_9.slice;obtain ⟨A12,c13,rfl,_⟩:=hv_9.slice;refine gs Z (p_indexAddr (m:=o_9+k.toNat*2) rfl rfl Tryz.underlying57 sz_115 (by omega) (by omega) (by simp)) ?_;clear Z a;intro a Z;refine gs Z (p_fieldAddr rfl fo_115_1 rfl) ?_;clear Z a;intro a Z;refine gl Z (r_load rfl scal_33 (I.data _ _ (hb_9)) (hce_9 1 _ rfl)) ?_;clear Z a;intro a Z;refine gs Z (p_len rfl rfl Tryz.underlying33) ?_;clear Z a;intro a Z;refine cgx Z ?_ ?_
 ·intro h3;replace h3:=neq_t h3;clear Z a;intro a Z;refine go 3 Z I ?_;clear Z a;intro a Z;refine wp_seq ?_;refine d_start [] [] (by kernel_rfl) I rfl rfl ?_;clear I w;intro w I;obtain ⟨T_14,fr_14,hg_14⟩:=hS.g103;refine dl 0 Z rfl (fun w hS=>f_load rfl scal_38 (Inv.data hS _ _ (hg_14)) rfl) (I) (listed':= #[true,false,false]) ?_;clear Z a;intro a Z;refine dp 1 Z rfl (p_assign rfl) (fun _=>I) ?_;clear Z a;intro a Z;refine dp 2 Z rfl (p_assign rfl) (fun _=>I) ?_;clear Z a;intro a Z;refine dnx ?_;refine gc 3 Z ?_;refine ret2 rfl Z rfl rfl ?_;exact .inr ⟨by rw [atP,if_neg (by omega),show p.ents.getD k.toNat ([], [])=x_9 by rw [List.getD_eq_getElem?_getD,hx_9];rfl,if_pos (by omega)],rfl,I.drop⟩
 intro h3;replace h3:=neq_f h3;clear Z a;intro a Z;refine go 9 Z I ?_;clear Z a;intro a Z;refine zs Z (p_indexAddr (m:=o_9+k.toNat*2) rfl rfl Tryz.underlying57 sz_115 (by omega) (by omega) (by simp)) ?_;clear Z a;intro a Z;refine zs Z (p_fieldAddr rfl fo_115_1 rfl) ?_;clear Z a;intro a Z;refine zl Z (r_load rfl scal_33 (I.data _ _ (hb_9)) (hce_9 1 _ rfl)) ?_;clear Z a;intro a Z;refine l_step rfl (o_call Z rfl rfl rfl rfl ent_170 (number21_spec (bs:=x_9.2) I hv_9 (by omega)) ?_);clear I Z a;rintro r w ⟨rfl,I⟩ a Z;refine go 4 Z I ?_;clear Z a;intro a Z;refine ret2 rfl Z rfl rfl ?_;exact .inl ⟨_,by rw [atP,if_neg (by omega),show p.ents.getD k.toNat ([], [])=x_9 by rw [List.getD_eq_getElem?_getD,hx_9];rfl,if_neg (by omega)],rfl,I.drop⟩
open Go
theorem RB.one {D:Sto} {v:Value} {bs:List Nat} (h:RB D v bs):v.oneCell'=true:=by obtain ⟨A,c,rfl,_⟩:=h.slice;rfl
theorem At.one {D:Sto} {cur:Array Value} {xs:Ens} (h:At 2 EnR D cur 0 xs): ∀p,p<xs.length*2-> ∃u,cur[p]? =some u/\u.oneCell'=true:=fun p hp=>by
 obtain ⟨vs,hl,⟨k,v,rfl,hk,hv,_⟩,hc⟩:=h (p / 2) xs[p / 2] (List.getElem?_eq_getElem (by omega));rcases Nat.mod_two_eq_zero_or_one p with h0|h0
 ·exact ⟨k,by have:=hc 0 k rfl;rwa [show 0+p / 2*2+0=p by omega] at this,hk.one⟩
 exact ⟨v,by have:=hc 1 v rfl;rwa [show 0+p / 2*2+1=p by omega] at this,hv.one⟩
theorem cellsOf {D:Sto} {cur:Array Value} {xs:Ens} (h:At 2 EnR D cur 0 xs) (lo n:Nat) (hn:lo+n<=xs.length*2) :
  ∃news:List Value,news.length=n/\(∀j,j<n->news[j]? =cur[lo+j]?)/\ ∀u∈news,u.oneCell'=true:=by
 have hget: ∀j,j<n->((cur.toList.drop lo).take n)[j]? =cur[lo+j]? :=fun j hj=>by
  rw [List.getElem?_take_of_lt hj,List.getElem?_drop,Array.getElem?_toList]
 have hlen:((cur.toList.drop lo).take n).length=n:=by
  rcases Nat.eq_zero_or_pos n with h0|h0
  ·subst h0;simp
  obtain ⟨u,hu,_⟩:=h.one (lo+n - 1) (by omega);have h1:=(Array.getElem?_eq_some_iff.1 hu).1;have h2:cur.toList.length=cur.size:=Array.length_toList;simp;omega
 refine ⟨_,hlen,hget,fun u hu=> ?_⟩;obtain ⟨j,hj,rfl⟩:=List.getElem_of_mem hu;have h1:((cur.toList.drop lo).take n)[j]? =some _:=List.getElem?_eq_getElem hj;rw [hget j (by omega)] at h1;obtain ⟨u,hu,h2⟩:=h.one (lo+j) (by omega);rw [hu] at h1;injection h1 with h1
 rw [<-h1];exact h2
theorem fin_grow {D:Sto} {cur C:Array Value} {xs:Ens} {i:Nat} {e:Bs×Bs} {k v:Value} {news:List Value} (hat:At 2 EnR D cur 0 xs) (hi:i<=xs.length) (hx:EnR D [k,v] e) (hnl:news.length=(xs.length - i)*2)
  (hn: ∀j,j<(xs.length - i)*2->news[j]? =cur[i*2+j]?) (hC:(i+1)*2+news.length<=C.size) (hB: ∀p,p<i*2->C[p]? =cur[p]?) :
  At 2 EnR D (splice (splice C (i*2) [k,v]) ((i+1)*2) news) 0 (xs.insertIdx i e):=by
 have hs:(splice C (i*2) [k,v]).size=C.size:=size_splice _ _ _;refine At.insert hat hi (vs:= [k,v]) rfl hx (fun p hp=> ?_) (fun j u hj=> ?_) (fun p h1 h2=> ?_)
 ·rw [getElem?_splice _ _ _ _ (by rw [hs];omega),if_neg (by omega),getElem?_splice _ _ _ _ (by simp only [List.length_cons,List.length_nil];omega),if_neg (by omega)];exact hB p hp
 ·have hj':=(List.getElem?_eq_some_iff.1 hj).1;simp only [List.length_cons,List.length_nil] at hj';rw [getElem?_splice _ _ _ _ (by rw [hs];omega),if_neg (by omega),getElem?_splice _ _ _ _ (by simp only [List.length_cons,List.length_nil];omega),if_pos (by simp only [List.length_cons,List.length_nil];omega),show i*2+j - i*2=j by omega];exact hj
 rw [getElem?_splice _ _ _ _ (by rw [hs];omega),if_pos (by omega),show p+2 - (i+1)*2=p - i*2 by omega,hn _ (by omega),show i*2+(p - i*2)=p by omega]
theorem fin_shift {D:Sto} {cur:Array Value} {xs:Ens} {i:Nat} {e:Bs×Bs} {k v:Value} {news:List Value} (hat:At 2 EnR D cur 0 xs) (hi:i<=xs.length) (hx:EnR D [k,v] e) (hnl:news.length=(xs.length - i)*2)
  (hn: ∀j,j<(xs.length - i)*2->news[j]? =cur[i*2+j]?) (hC:(i+1)*2+news.length<=cur.size) :
  At 2 EnR D (splice (splice cur ((i+1)*2) news) (i*2) [k,v]) 0 (xs.insertIdx i e):=by
 have hs:(splice cur ((i+1)*2) news).size=cur.size:=size_splice _ _ _;refine At.insert hat hi (vs:= [k,v]) rfl hx (fun p hp=> ?_) (fun j u hj=> ?_) (fun p h1 h2=> ?_)
 ·rw [getElem?_splice _ _ _ _ (by rw [hs];simp only [List.length_cons,List.length_nil];omega),if_neg (by omega),getElem?_splice _ _ _ _ (by omega),if_neg (by omega)]
 ·have hj':=(List.getElem?_eq_some_iff.1 hj).1;simp only [List.length_cons,List.length_nil] at hj';rw [getElem?_splice _ _ _ _ (by rw [hs];simp only [List.length_cons,List.length_nil];omega),if_pos (by simp only [List.length_cons,List.length_nil];omega),show i*2+j - i*2=j by omega];exact hj
 rw [getElem?_splice _ _ _ _ (by rw [hs];simp only [List.length_cons,List.length_nil];omega),if_neg (by simp only [List.length_cons,List.length_nil];omega),getElem?_splice _ _ _ _ (by omega),if_pos (by omega),show p+2 - (i+1)*2=p - i*2 by omega,hn _ (by omega),show i*2+(p - i*2)=p by omega]
theorem fin_erase {D:Sto} {cur:Array Value} {xs:Ens} {i:Nat} {news zs:List Value} (hat:At 2 EnR D cur 0 xs) (hi:i<xs.length) (hnl:news.length=(xs.length - (i+1))*2)
  (hn: ∀j,j<(xs.length - (i+1))*2->news[j]? =cur[(i+1)*2+j]?) (hz:zs.length=2) (hC:xs.length*2<=cur.size) :
  At 2 EnR D (splice (splice cur (i*2) news) ((xs.length - 1)*2) zs) 0 (xs.eraseIdx i):=by
 have hs:(splice cur (i*2) news).size=cur.size:=size_splice _ _ _;refine At.erase hat hi (fun p hp=> ?_) (fun p h1 h2=> ?_)
 ·rw [getElem?_splice _ _ _ _ (by rw [hs];omega),if_neg (by omega),getElem?_splice _ _ _ _ (by omega),if_neg (by omega)]
 rw [getElem?_splice _ _ _ _ (by rw [hs];omega),if_neg (by omega),getElem?_splice _ _ _ _ (by omega),if_pos (by omega),hn _ (by omega),show (i+1)*2+(p - 2 - i*2)=p by omega]
section
variable {P:Program} {env:Env}
theorem p_sliceAt {t e:TypeId} {x:Operand} {lo hi:Option Operand} {g off n c size l h:Nat} (hx:ev env x=some (.slice (some ⟨g,off,none⟩) n c)) (ht:P.underlying t=some (.slice e)) (hs:(P.info? e).map (·.size)=some size)
  (hl:loE env 0 lo=some l) (hh:loE env n hi=some h) (hlh:l<=h) (hhc:h<=c) (hlt:l<c):PureOp P env (.slice t x lo hi none) (.slice (some ⟨g,off+l*size,none⟩) (h - l) (c - l)):=by
 have:=p_slice (P:=P) (lo:=lo) (hi:=hi) (l:=l) (h:=h) hx ht hs (by cases lo<;>exact hl) (by cases hi<;>exact hh) hlh hhc;rw [if_neg (by omega)] at this;simpa [addr_add] using this
theorem p_sliceL {t e:TypeId} {x:Operand} {lo hi:Option Operand} {A:Option Addr} {n c size l h:Nat} (hx:ev env x=some (.slice A n c)) (ht:P.underlying t=some (.slice e)) (hs:(P.info? e).map (·.size)=some size)
  (hl:loE env 0 lo=some l) (hh:loE env n hi=some h) (hlh:l<=h) (hhc:h<=c):PureOp P env (.slice t x lo hi none) (.slice (if c=l then A else A.map (·.add (l*size))) (h - l) (c - l)):=
 p_slice (P:=P) (lo:=lo) (hi:=hi) (l:=l) (h:=h) hx ht hs (by cases lo<;>exact hl) (by cases hi<;>exact hh) hlh hhc
theorem p_sliceB {t e:TypeId} {x:Operand} {lo hi:Option Operand} {A B:Option Addr} {n c size l h:Nat} (hx:ev env x=some (.slice A n c)) (ht:P.underlying t=some (.slice e)) (hs:(P.info? e).map (·.size)=some size)
  (hl:loE env 0 lo=some l) (hh:loE env n hi=some h) (hlh:l<=h) (hhc:h<=c) (hB:(if c=l then A else A.map (·.add (l*size)))=B):PureOp P env (.slice t x lo hi none) (.slice B (h - l) (c - l)):=by
 subst hB;exact p_sliceL (P:=P) (lo:=lo) (hi:=hi) (l:=l) (h:=h) hx ht hs hl hh hlh hhc
theorem p_slice3 {t e:TypeId} {x y z u:Operand} {A:Option Addr} {n c size l h m:Nat} {k1 k2 k3:IntKind} (hx:ev env x=some (.slice A n c)) (ht:P.underlying t=some (.slice e)) (hs:(P.info? e).map (·.size)=some size)
  (hl:ev env y=some (.int k1 (l:Nat))) (hh:ev env z=some (.int k2 (h:Nat))) (hm:ev env u=some (.int k3 (m:Nat))) (hlh:l<=h) (hhm:h<=m) (hmc:m<=c) :
  PureOp P env (.slice t x (some y) (some z) (some u)) (.slice (if m=l then A else A.map (·.add (l*size))) (h - l) (m - l)):=fun _ a w o Z ho=>by
 have e1:=Z.eval hx;obtain ⟨inf,hi',rfl⟩:=Option.map_eq_some_iff.1 hs;have hb: ∀(y:Operand) (k:IntKind) (m:Nat) (lim:Nat) (code:BoundsCode),ev env y=some (.int k (m:Nat))->m<=lim-> ∀w,(Instr.sliceBound (a.eval y) lim code).run P w= .ok m w:=fun y k m lim code hm hle w=>by
  have h2:(m:Int)<=(lim:Int):=by omega
  simp [Instr.sliceBound,Z.eval hm,asIntOf,h2]
 have h1:=hb u k3 m c .slice3Acap hm hmc;have h2:=hb z k2 h m .slice3B hh hhm;have h3:=hb y k1 l h .slice3C hl hlh;simp [execOp,ho,e1,Instr.sliceAt,Instr.slice,underlying,program,ht,Sem.run,Instr.sliceBounds,sizeOf,typeInfo,hi',h1,h2,h3]
theorem r_overlaps {f tr:Nat} {xs:Array Operand} {ts:Array TypeId} {fn:Func} {t e size b g off la ca lb cb Tb T:Nat} {cb' cur:Array Value} {w:World} (hv:xs.toList.map (ev env)= [some (.slice (some ⟨b,0,none⟩) la ca),some (.slice (some ⟨g,off,none⟩) lb cb)])
  (hf:P.funcs[f]? =some fn) (hname:(fn.name== "runtime.NumGoroutine")=false) (hb:fn.body.isNone=true) (hn:Extern.findNext fn=none) (he:Extern.find fn=some (Extern.SlicesOverlaps.overlaps #[t,t] #[tr]))
  (ht:P.underlying t=some (.slice e)) (hs:(P.info? e).map (·.size)=some size) (hbb:w.heap[b]? =some (.cells cb' Tb (0,0))) (hgg:w.heap[g]? =some (.cells cur T (0,0))) (hne:b≠g) (hc:cur.size≠0) :
  RunOp P env w (.call {callee:= .value (.func f),args:=xs,argTypes:=ts}) (.bool false):=
 r_extern (vs:= #[.slice (some ⟨b,0,none⟩) la ca, .slice (some ⟨g,off,none⟩) lb cb]) hv hf hname hb hn he
  (Lib.run_overlaps_apart w t tr e ht size (size_of hs) ⟨b,0,none⟩ ⟨g,off,none⟩ la ca lb cb hne Tb T cb'.size cur.size (by simp [World.shape?,hbb]) (by simp [World.shape?,hgg]) hc (by simp [World.frozen?,hbb]) (by simp [World.frozen?,hbb]))
end
section
open Go.ChangeMaps
variable {P:Program} {ops:Array Oper} {Q:Exit->Act->World->Prop} {a:Act} {w0 w w':World} {D:Sto} {ss:List Seg} {rest:List Oper} {o:Oper} {N:Nat} {env:Env} {K:Act->World->Prop}
theorem o_clear_ {x:Operand} {t e size g off n c T:Nat} {z:Value} {ts:Array TypeId} {cur:Array Value} (j:Nat) (Z:EnvOk N env a) (I:Inv w0 D ss w) (hd:o.dst=none)
  (ho:o.op= .call {callee:= .builtin .clear,args:= #[x],argTypes:=ts}) (hts:ts[0]? =some t) (hx:ev env x=some (.slice (some ⟨g,off,none⟩) n c)) (ht:P.underlying t=some (.slice e))
  (hz:(P.info? e).bind (·.zero)=some z) (hzs:z.cells.size=size) (h1:z.cells.all (·.oneCell')=true) (hj:ss[j]? =some [(g, .cells cur T (0,0))]) (hfit:off+n*size<=cur.size)
  (k: ∀w' zs,zs.length=n*size->Inv w0 D (ss.set j [(g, .cells (splice cur off zs) T (0,0))]) w'->K a w'):o.wp P a w K Q:=by
 have hb:=I.seg j hj;by_cases hn:n=0
 ·subst hn;have hrun:(execOp a.eval o).run P w= .ok (.value (.tuple #[])) w:=by
   simp only [execOp,ho,resolve,invoke,builtin,Sem.run_bind,Sem.run_pure,Result.andThen_ok,List.map_toArray,List.map_cons,List.map_nil,Z.eval hx];simp [Builtin.clear_,run_underlying ht,hts]
  have hI':Inv w0 D (ss.set j [(g, .cells (splice cur off []) T (0,0))]) w:=by have h2:=I.turn_at (o':= .cells cur T (0,0)) j hj;have h3:({w with heap:=w.heap.setIfInBounds g (.cells cur T (0,0))}:World)=w:=set_self hb;rw [h3] at h2;exact h2
  exact o_val hrun (by rw [hd];exact k _ [] (by simp) hI')
 have hl:(Builtin.zeroCells z.cells n).toList.length=n*size:=by rw [Array.length_toList,size_zeroCells',hzs]
 have hall: ∀u∈(Builtin.zeroCells z.cells n).toList,u.oneCell'=true:=fun u hu=>by
  simp only [Builtin.zeroCells,Array.toList_map,List.mem_map] at hu;obtain ⟨i,hi,rfl⟩:=hu;have hi':i<n*z.cells.size:=by simpa using hi
  have hpos:0<z.cells.size:=by
   rcases Nat.eq_zero_or_pos z.cells.size with h|h
   ·rw [h] at hi';omega
   exact h
  have hm:=Nat.mod_lt i hpos;rw [getElem!_pos z.cells (i % z.cells.size) hm];exact Array.all_eq_true.1 h1 _ hm
 have hst:=run_storeCells_off (P:=P) (Builtin.zeroCells z.cells n).toList off 0 cur w hb (by rw [hl];omega) hall;simp only [Nat.add_zero] at hst;obtain ⟨m,rfl⟩: ∃m,n=m+1:=⟨n - 1,by omega⟩;have hzv: ∀w,(zeroValue e).run P w= .ok z w:=fun w=>by
  obtain ⟨i,hi,hz'⟩:=Option.bind_eq_some_iff.1 hz;simp [zeroValue,typeInfo,hi,hz']
 have hrun:(execOp a.eval o).run P w= .ok (.value (.tuple #[])) {w with heap:=w.heap.setIfInBounds g (.cells (splice cur off (Builtin.zeroCells z.cells (m+1)).toList) T (0,0))}:=by simp only [execOp,ho,resolve,invoke,builtin,Sem.run_bind,Sem.run_pure,Result.andThen_ok,List.map_toArray,List.map_cons,List.map_nil,Z.eval hx];simp [Builtin.clear_,run_underlying ht,hts,hzv,hst]
 exact o_val hrun (by rw [hd];exact k _ _ hl (I.turn_at j hj))
theorem o_delete_ {t e:Nat} {x y:Operand} {b:Nat} {es:Array MapEntry} {clock:Nat} {m:List (Int×Value)} {i:Int} {ts:Array TypeId} (j:Nat) (Z:EnvOk N env a) (I:Inv w0 D ss w) (hd:o.dst=none)
  (ho:o.op= .call {callee:= .builtin .delete,args:= #[x,y],argTypes:=ts}) (hx:ev env x=some (.map (some b))) (hy:ev env y=some (.int .i64 i)) (hts:ts[0]? =some t) (ht:intKeyed P t=some e) (hj:ss[j]? =some [(b, .map es clock)]) (hm:IntMap es clock m)
  (k: ∀es' clock' w',IntMap es' clock' (delM m i)->Inv w0 D (ss.set j [(b, .map es' clock')]) w'->K a w'):o.wp P a w K Q:=by
 have hb:=I.seg j hj;obtain ⟨kt,kd,h1,h2⟩:=intKeyed_spec ht;cases hat:atM m i 0 with
 |none=>
  have hrun:(execOp a.eval o).run P w= .ok (.value (.tuple #[])) {w with heap:=w.heap.setIfInBounds b (.map es clock)}:=by simp [execOp,ho,resolve,Z.eval hx,Z.eval hy,invoke,builtin,Builtin.delete_,hts,run_underlying h1,run_getObj hb rfl,checkKey_int h2,findKey_int h2 hm,hat,run_setObj hb rfl]
  exact o_val hrun (by rw [hd];exact k es clock _ (by rw [(del_map hm i).2 hat];exact hm) (I.turn_at j hj))
 |some q=>
  obtain ⟨p,u⟩:=q;have hrun:(execOp a.eval o).run P w= .ok (.value (.tuple #[])) {w with heap:=w.heap.setIfInBounds b (.map (es.eraseIdxIfInBounds p) clock)}:=by simp [execOp,ho,resolve,Z.eval hx,Z.eval hy,invoke,builtin,Builtin.delete_,hts,run_underlying h1,run_getObj hb rfl,checkKey_int h2,findKey_int h2 hm,hat,run_setObj hb rfl]
  exact o_val hrun (by rw [hd];exact k _ clock _ ((del_map hm i).1 p u hat) (I.turn_at j hj))
end
end Go.Proofs.YtkknmpkcfpdllaaGreatDoor.B
