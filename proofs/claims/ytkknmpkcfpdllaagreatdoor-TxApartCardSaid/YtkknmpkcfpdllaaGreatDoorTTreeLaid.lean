/- What functions of the program compute, each function once: steps over the model, and the plain law of it. -/
import Derived.Test.YtkknmpkcfpdllaaGreatDoorTDPut
import Derived.Test.YtkknmpkcfpdllaaGreatDoorTTree6
import Derived.Test.YtkknmpkcfpdllaaGreatDoorTFacts
import Derived.Laws.BytesString
import Derived.Test.YtkknmpkcfpdllaaGreatDoorTTreeLawA
namespace Go.Proofs.YtkknmpkcfpdllaaGreatDoor.B
open Go
set_option linter.unusedVariables false
set_option linter.unusedSimpArgs false
set_option linter.unnecessarySimpa false
variable {B:Nat}
theorem wt_upd {V:Vw} {k:Int} {x y:Pg} {d:Nat} (hy:V k=some y) (hl:x.ents.length<=y.ents.length+d): ∀(l:List Int),l.Nodup->wt (V.upd k x) l<=wt V l+d
 | [],_=>by simp [wt]
 |j::l,hn=>by
  have hn':=List.nodup_cons.1 hn;rw [wt_cons,wt_cons];by_cases h:j=k
  ·subst h;have e2:=wt_frame (V:=V) (V':=V.upd j x) l (fun i hi=>upd_other (by rintro rfl;exact hn'.1 hi));rw [pw_some (upd_same _ _ _),pw_some hy,e2];omega
  have:=wt_upd hy hl l hn'.2;have e:pw (V.upd k x) j=pw V j:=by rw [pw,pw,upd_other h]
  omega
theorem TrA.id0 {b:Bt} {K n:Nat} {av ids:List Int} {fl:Int} {kv:Ens} (h:TrA B b K n av fl ids kv): ∃x js,b.view 0=some x/\x.level=(n:Int)/\x.ents.length<=8/\ids=0::js:=SubT.page h.s
theorem leaf_trA {b b'':Bt} {K d n:Nat} {av:List Int} {fl:Int} {ids:List Int} {kvL kvR ents':Ens} {y:Pg} {kv:Ens} (h:TrA B b K n av fl ids kv) (hy:b.view y.id=some y) (hm:y.id∈ids) (hlv:y.level=0)
  (hv:b''.view=b.view.upd y.id {y with ents:=ents'}) (hl:ents'.length<=y.ents.length+d)
  (hs:SubT b''.view n 0 [] none fl (-1) ids (kvL++ents'++kvR)):TrA B b'' (K+d) n av fl ids (kvL++ents'++kvR):=by
 have hy1:=(h.g.rgi hm).2.2;obtain ⟨x0,js,hx0,hx0l,_,hids⟩:=h.id0;have hv0:0<n->(0:Int)≠y.id:=by
  intro hn e;rw [<-e,hx0] at hy;injection hy with hy;subst hy
  omega
 refine ⟨⟨?_, ?_,h.g.nd,h.g.rg,h.g.a1⟩,hs, ?_,h.c, ?_, ?_⟩
 ·refine h.g.m.frame (by rw [hv,upd_other (Ne.symm hy1)]) (fun j hj=> ?_);rw [hv,upd_other];rintro rfl;exact h.g.dis hm hj
 ·rw [hv];exact h.g.i.upd rfl
 ·intro j hj hne x hx hl2;rw [hv] at hx;by_cases e:j=y.id
  ·subst e;rw [upd_same] at hx;injection hx with hx;subst hx
   simp only [] at hl2;omega
  rw [upd_other e] at hx;exact h.o j hj hne x hx hl2
 ·intro x hx hn;rw [hv,upd_other (hv0 hn)] at hx;exact h.r x hx hn
 intro x hx;by_cases e:(0:Int)=y.id
 ·rw [hv,e,upd_same] at hx;injection hx with hx;subst hx
  have hn:n=0:=by
   rcases Nat.eq_zero_or_pos n with q|q
   ·exact q
   exact absurd e (hv0 q)
  subst hn;have h1:=h.w y (by rw [e];exact hy);obtain ⟨_,rfl,_⟩:=h.s;simp only [List.tail_cons,wt_nil] at h1 ⊢;omega
 rw [hv,upd_other e] at hx;have h1:=h.w x hx;have h2:=wt_upd (V:=b.view) (k:=y.id) (x:={y with ents:=ents'}) hy hl ids.tail (h.g.ids.sublist (List.tail_sublist _));rw [hv];omega
theorem put_trA {b:Bt} {K n:Nat} {av:List Int} {fl:Int} {ids:List Int} {kv:Ens} {key val:Bs} (h:TrA B b K n av fl ids kv) (hk:rightK key=true) (hv:val.length<=64) :
  (∃b' n' av' fl' ids',b.put key val= .ok b'/\TrA B b' (K+1) n' av' fl' ids' (insKv kv key val))\/(av.length<8/\lookKv kv key=none/\b.put key val= .fail 109 none):=by
 have hn:=h.lvl;have hk0:key≠ []:=by rintro rfl;simp [rightK] at hk
 obtain ⟨l',ks',y,hd,hy8,hw⟩:=down_n (key:=key) h.g.i n 17 [] [] (by omega) h.g.ids h.s (InR.all key);have hlast:lastPg ([]++l'++ [y])=y:=lastPg_end _ _;obtain ⟨w1,w2,w3,kvL,kvR,lo',hi',rfl,w5,w6,w7,w8,w9⟩:=hw.keys hk0 hw.1;have hput:b.put key val=(if (findP y.ents key).2 then b.doR {page:=y.id,kind:=4,slot:=(findP y.ents key).1,val:=val} else match b.room key with
  | .fail c o=> .fail c o
  | .ok (b,y)=>b.doR {page:=y.id,kind:=2,slot:=(findP y.ents key).1,key:=key,val:=val}):=by
  rw [Bt.put,if_neg (by rw [hk];simp;omega),Bt.down,hd];simp only [hlast];rfl
 cases hf:(findP y.ents key).2 with
 |true=>
  rw [hf] at hput;have hlt:=findP_lt hf;obtain ⟨b',t,v⟩:=doR_view (b:=b) (r:={page:=y.id,kind:=4,slot:=(findP y.ents key).1,val:=val}) (x:=y) (.inr ⟨by simp,w1⟩) rfl;have he:effP y {page:=y.id,kind:=4,slot:=(findP y.ents key).1,val:=val}={y with ents:=insKv y.ents key val}:=by unfold effP;rw [if_neg (by simp),if_neg (by simp),if_neg (by simp),if_pos rfl,if_pos (by simp only [];omega)];simp only [Int.toNat_natCast];rw [insKv_found _ hf]
  rw [he] at v;refine .inl ⟨b',n,av,fl,ids,by rw [hput];exact t, ?_⟩;rw [insKv_right w8,insKv_left _ w7];have hlen8:(insKv y.ents key val).length<=8:=by rw [<-insKv_found _ hf];simpa using hy8
  exact leaf_trA h w1 w3 w2 v (insKv_len _).2 (w9 _ _ (fun j _ hne=>by rw [v,upd_other hne]) (by rw [v,upd_same]) hlen8 (insKv_ok w6 w5 hk0))
 |false=>
  rw [hf] at hput;rcases room_trA key h with ⟨b1,z,n1,av1,fl1,ids1,hr,h1,hz8,hw1⟩|⟨e1,e2⟩
  rotate_left
  ·refine .inr ⟨e1, ?_,by rw [hput];simp only [Bool.false_eq_true,if_false];rw [e2]⟩;rw [lookKv_right w8,lookKv_left _ w7,<-lookKv_find,if_neg (by rw [hf];simp)]
  obtain ⟨z1,z2,z3,kL,kR,lo2,hi2,hkv,z5,z6,z7,z8,z9⟩:=hw1.keys hk0 hw1.1;have hfz:(findP z.ents key).2=false:=by
   cases hq:(findP z.ents key).2 with
   |false=>rfl
   |true=>
    exfalso;obtain ⟨e,he,hek⟩:=findP_mem _ hq;have hmem:e∈kvL++y.ents++kvR:=by rw [hkv];simp [he]
    have hfy:(findP y.ents key).2=true:=by
     refine findP_of_mem _ w6.1 ⟨e, ?_,hek⟩;rcases List.mem_append.1 hmem with q|q
     ·rcases List.mem_append.1 q with q|q
      ·have:=w7 e q;rw [hek,ltB_irrefl] at this;cases this
      exact q
     have:=w8 e q;rw [hek,ltB_irrefl] at this;cases this
    rw [hf] at hfy;cases hfy
  obtain ⟨b',t,v⟩:=doR_view (b:=b1) (r:={page:=z.id,kind:=2,slot:=(findP z.ents key).1,key:=key,val:=val}) (x:=z) (.inr ⟨by simp,z1⟩) rfl;have he:effP z {page:=z.id,kind:=2,slot:=(findP z.ents key).1,key:=key,val:=val}={z with ents:=insKv z.ents key val}:=by unfold effP;rw [if_neg (by simp),if_pos rfl,if_pos hz8];have:=findP_le z.ents key;rw [show (min ((findP z.ents key).1:Int) (z.ents.length:Nat)).toNat=(findP z.ents key).1 by omega,insKv_new _ hfz]
  rw [he] at v;refine .inl ⟨b',n1,av1,fl1,ids1,by rw [hput];simp only [Bool.false_eq_true,if_false];rw [hr];exact t, ?_⟩;rw [hkv,insKv_right z8,insKv_left _ z7];have hlen8:(insKv z.ents key val).length<=8:=by have:=(insKv_len (k:=key) (v:=val) z.ents).2;omega
  exact leaf_trA h1 z1 z3 z2 v (insKv_len _).2 (z9 _ _ (fun j _ hne=>by rw [v,upd_other hne]) (by rw [v,upd_same]) hlen8 (insKv_ok z6 z5 hk0))
theorem get_trA {b:Bt} {K n:Nat} {av:List Int} {fl:Int} {ids:List Int} {kv:Ens} {key:Bs} (h:TrA B b K n av fl ids kv) (hk:rightK key=true):b.get key= .ok (lookKv kv key):=by
 have hn:=h.lvl;have hk0:key≠ []:=by rintro rfl;simp [rightK] at hk
 obtain ⟨l',ks',y,hd,hy8,hw⟩:=down_n (key:=key) h.g.i n 17 [] [] (by omega) h.g.ids h.s (InR.all key);have hlast:lastPg ([]++l'++ [y])=y:=lastPg_end _ _;obtain ⟨w1,w2,w3,kvL,kvR,lo',hi',rfl,w5,w6,w7,w8,w9⟩:=hw.keys hk0 hw.1;rw [lookKv_right w8,lookKv_left _ w7,<-lookKv_find,Bt.get,if_neg (by rw [hk];simp),Bt.down,hd];simp only [hlast];split<;>rfl
def HoldsA (B:Nat) (b:Bt) (K:Nat) (kv:Ens):Prop:= ∃n av fl ids,TrA B b K n av fl ids kv
theorem HoldsA.mono {b:Bt} {K K':Nat} {kv:Ens} (h:HoldsA B b K kv) (hk:K<=K'):HoldsA B b K' kv:=by obtain ⟨n,av,fl,ids,h⟩:=h;exact ⟨n,av,fl,ids,h.mono hk⟩
theorem HoldsA.sorted {b:Bt} {K:Nat} {kv:Ens} (h:HoldsA B b K kv):Sorted kv:=by obtain ⟨n,av,fl,ids,h⟩:=h;exact (SubT.kv n h.s).1
theorem HoldsA.put {b:Bt} {K:Nat} {kv:Ens} {key val:Bs} (h:HoldsA B b K kv) (hl:K<=735) (hk:rightK key=true) (hv:val.length<=64): ∃b',b.put key val= .ok b'/\HoldsA B b' (K+1) (insKv kv key val):=by
 obtain ⟨n,av,fl,ids,h⟩:=h;have h1:=h.pages;have h2:=h.c;rcases put_trA h hk hv with ⟨b',n',av',fl',ids',t,h'⟩|⟨e,_⟩
 ·exact ⟨b',t,n',av',fl',ids',h'⟩
 omega
theorem HoldsA.get {b:Bt} {K:Nat} {kv:Ens} {key:Bs} (h:HoldsA B b K kv) (hk:rightK key=true):b.get key= .ok (lookKv kv key):=by obtain ⟨n,av,fl,ids,h⟩:=h;exact get_trA h hk
open Go Go.Proofs
set_option maxRecDepth 20000
set_option maxHeartbeats 8000000
theorem refBytes_data {w0 w:World} {D:Sto} {ss:List Seg} (I:Inv w0 D ss w) {vb:Value} {bs:List Nat} (hb:RB D vb bs) (hm:bs.length<=140737488355000) :
  Calls Tryz.prog 114 #[vb] w (Ret fun r w'=> ∃D',Le D D'/\Inv w0 D' ss w'/\RB D' r bs):=
 (refBytes_spec I hb hm).mono fun _ _ h=>h.imp fun _ _ h=>OB.data h hb.lt
def E0:Pl:=((laidP Pl.empty makeR 1).getD (Pl.empty,0)).1
theorem E0_laid:laidP Pl.empty makeR 1=some (E0,4):=by
 have h:(laidP Pl.empty makeR 1).map (·.2)=some 4:=by decide+kernel
 obtain ⟨⟨P,n⟩,h1,h2⟩:=Option.map_eq_some_iff.1 h;have h3:n=4:=h2;subst h3;rw [E0,h1];rfl
theorem refRedo_spec {w0 w:World} {D:Sto} {ss:List Seg} (I:Inv w0 D ss w) {vr:Value} {rc:Rc} (hr:RcV D vr rc) :
  Calls Tryz.prog 62 #[vr] w (Ret fun r w'=> ∃D',Le D D'/\Inv w0 D' ss w'/\RcV D' r rc):=by
 obtain ⟨k1,v2,rfl,hk3,hv4,ho5⟩:=hr;obtain ⟨A6,c7,rfl,_⟩:=hk3.slice;obtain ⟨A8,c9,rfl,_⟩:=hv4.slice;refine enter (N:=26) Tryz.func62 rfl rfl rfl ?_;intro a Z;refine wsr ?_;refine l_step rfl (f_box (cs:= #[_,_,_,_,_,_,_,_,_,_]) Z I rfl rfl rfl rfl rfl ?_);clear I Z a w;intro a b10 w Z I;refine l_step rfl (f_alloc (cs:= #[.int .i64 0, .int .i64 0, .int .i64 0, .int .i64 0, .int .i64 0, .int .i64 0, .int .i64 0, .slice none 0 0, .slice none 0 0, .bool false]) Z I rfl rfl rfl zer_124 rfl ?_);clear I Z a w;intro a b11 w Z I;refine wnt ?_;refine wp_seq ?_;refine d_start [23] [] (by kernel_rfl) I rfl rfl ?_;clear I w;intro w I;refine dp 0 Z rfl (p_fieldAddr (m:=0) rfl fo_124_0 rfl) (fun _=>I) (listed':= #[true,false,false,false,false,false,false,false,false,false,false,false,false,false,false,false,false,false,false,false,false,false,false,false]) ?_;clear Z a;intro a Z;refine dl 1 Z rfl (fun w hS=>f_load rfl scal_2 (Inv.seg 1 hS rfl) rfl) (I) ?_;clear Z a;intro a Z;refine dp 2 Z rfl (p_fieldAddr (m:=1) rfl fo_124_1 rfl) (fun _=>I) ?_;clear Z a;intro a Z;refine dl 3 Z rfl (fun w hS=>f_load rfl scal_2 (Inv.seg 1 hS rfl) rfl) (I) ?_;clear Z a;intro a Z;refine dp 4 Z rfl (p_fieldAddr (m:=2) rfl fo_124_2 rfl) (fun _=>I) ?_;clear Z a;intro a Z;refine dl 5 Z rfl (fun w hS=>f_load rfl scal_3 (Inv.seg 1 hS rfl) rfl) (I) ?_;clear Z a;intro a Z;refine dp 6 Z rfl (p_fieldAddr (m:=3) rfl fo_124_3 rfl) (fun _=>I) ?_;clear Z a;intro a Z;refine dl 7 Z rfl (fun w hS=>f_load rfl scal_3 (Inv.seg 1 hS rfl) rfl) (I) ?_;clear Z a;intro a Z;refine dp 8 Z rfl (p_fieldAddr (m:=4) rfl fo_124_4 rfl) (fun _=>I) ?_;clear Z a;intro a Z;refine dl 9 Z rfl (fun w hS=>f_load rfl scal_3 (Inv.seg 1 hS rfl) rfl) (I) ?_;clear Z a;intro a Z;refine dp 10 Z rfl (p_fieldAddr (m:=5) rfl fo_124_5 rfl) (fun _=>I) ?_;clear Z a;intro a Z;refine dl 11 Z rfl (fun w hS=>f_load rfl scal_3 (Inv.seg 1 hS rfl) rfl) (I) ?_;clear Z a;intro a Z;refine dp 12 Z rfl (p_fieldAddr (m:=6) rfl fo_124_6 rfl) (fun _=>I) ?_;clear Z a;intro a Z;refine dl 13 Z rfl (fun w hS=>f_load rfl scal_3 (Inv.seg 1 hS rfl) rfl) (I) ?_;clear Z a;intro a Z;refine dp 14 Z rfl (p_fieldAddr (m:=7) rfl fo_124_7 rfl) (fun _=>I) ?_;clear Z a;intro a Z;refine dl 15 Z rfl (fun w hS=>f_load rfl scal_33 (Inv.seg 1 hS rfl) rfl) (I) ?_;clear Z a;intro a Z;refine dp 17 Z rfl (p_fieldAddr (m:=8) rfl fo_124_8 rfl) (fun _=>I) ?_;clear Z a;intro a Z;refine dl 18 Z rfl (fun w hS=>f_load rfl scal_33 (Inv.seg 1 hS rfl) rfl) (I) ?_;clear Z a;intro a Z;refine dp 20 Z rfl (p_fieldAddr (m:=9) rfl fo_124_9 rfl) (fun _=>I) ?_;clear Z a;intro a Z;refine dl 21 Z rfl (fun w hS=>f_load rfl scal_4 (Inv.seg 1 hS rfl) rfl) (I) ?_;clear Z a;intro a Z;refine do1 16 Z rfl ?_;refine o_call Z rfl rfl rfl rfl ent_114 (refBytes_data (bs:=rc.key) I hk3 (by have:=ho5.k;have:=ho5.v;omega)) ?_;clear I Z a;rintro r w ⟨D12,hD13,I,hb14⟩ a Z;obtain ⟨A15,c16,rfl,_⟩:=hb14.slice;refine ⟨fun _=>(Inv.weaken I hD13), ?_⟩;refine do1 19 Z rfl ?_;refine o_call Z rfl rfl rfl rfl ent_114 (refBytes_data (bs:=rc.val) I (hv4.mono hD13) (by have:=ho5.k;have:=ho5.v;omega)) ?_;clear I Z a;rintro r w ⟨D17,hD18,I,hb19⟩ a Z;obtain ⟨A20,c21,rfl,_⟩:=hb19.slice;refine ⟨fun _=>(Inv.weaken I (hD13.trans hD18)), ?_⟩;refine dp 22 Z rfl (f_build (vs:= [(0,_),(1,_),(2,_),(3,_),(4,_),(5,_),(6,_),(7,_),(8,_),(9,_)]) (l:= [_,_,_,_,_,_,_,_,_,_]) rfl built_124 rfl) (fun _=>(Inv.weaken I (hD13.trans hD18))) ?_;clear Z a;intro a Z;refine do1 23 Z rfl ?_;refine f_store (l:= [_,_,_,_,_,_,_,_,_,_]) (ss':=_::_) 0 Z I rfl rfl rfl rfl rfl sz_124 (by simp [Value.cells,Value.oneCell',pgCells,rcCells,zPg]) rfl rfl rfl ?_;clear I w;intro w I;refine ⟨nl, ?_⟩;refine dnx ?_;refine gc 2 Z ?_;refine retc1 rfl Z rfl agg_124 (I.seg 0 rfl) rfl ?_;exact ⟨_,(hD13.trans hD18),I.drop.drop,⟨_,_,rfl,(hb14.mono hD18),hb19,ho5⟩⟩
theorem Make_spec {w0 w:World} {D:Sto} {ss:List Seg} (I:Inv w0 D ss w) :
  Calls Tryz.prog 16 #[] w (Ret fun r w'=> ∃D',Le D D'/\Inv w0 D' ss w'/\DR 10 RcR D' r makeR):=by
 refine enter (N:=7) Tryz.func16 rfl rfl rfl ?_;intro a Z;refine go 4 Z I ?_;clear Z a;intro a Z;refine zs Z (f_build (vs:= [(4,_),(5,_)]) (l:= [_,_,_,_,_,_,_,_,_,_]) rfl built_124 rfl) ?_;clear Z a;intro a Z;refine zs Z (f_build (vs:= [(4,_),(5,_)]) (l:= [_,_,_,_,_,_,_,_,_,_]) rfl built_124 rfl) ?_;clear Z a;intro a Z;refine l_step rfl (o_call Z rfl rfl rfl rfl ent_64 (name_spec I) ?_);clear I Z a;rintro r w ⟨D1,hD2,I,hb3⟩ a Z;obtain ⟨A4,c5,rfl,_⟩:=hb3.slice;refine l_step rfl (o_call Z rfl rfl rfl rfl ent_65 (counts_spec I 2 0) ?_);clear I Z a;rintro r w ⟨D6,hD7,I,hb8⟩ a Z;obtain ⟨A9,c10,rfl,_⟩:=hb8.slice;refine zs Z (f_build (vs:= [(4,_),(5,_),(7,_),(8,_)]) (l:= [_,_,_,_,_,_,_,_,_,_]) rfl built_124 rfl) ?_;clear Z a;intro a Z;refine l_step rfl (f_lit (vs:= [(0,_),(1,_),(2,_)]) (l:= [_,_,_,_,_,_,_,_,_,_,_,_,_,_,_,_,_,_,_,_,_,_,_,_,_,_,_,_,_,_]) Z I rfl rfl rfl rfl Tryz.underlying29 zs_124 rfl rfl rfl ?_);clear I Z a w;intro a b11 w Z I;refine go 3 Z I ?_;clear Z a;intro a Z;refine rt1 Z ?_;have hr1:RcR D6 _ ({page:=0,kind:=1}:Rc):=⟨_,_,rfl,RB.nil _,RB.nil _,ROk.of0 rfl (by simp) (by simp) (by simp) (by simp)⟩;have hr2:RcR D6 _ ({page:=1,kind:=1}:Rc):=⟨_,_,rfl,RB.nil _,RB.nil _,ROk.of0 rfl (by simp) (by simp) (by simp) (by simp)⟩;have hr3:RcR D6 _ ({page:=1,kind:=2,key:= [110],val:=twoB 2++twoB 0}:Rc):=⟨_,_,rfl,(hb3.mono hD7),hb8,ROk.of0 rfl (by simp) (by simp) (by simp) (by simp [twoB])⟩;obtain ⟨D9,hDz,hIa,hL⟩:=DR.lits (n:=3) (l:= [{page:=0,kind:=1},{page:=1,kind:=1},{page:=1,kind:=2,key:= [110],val:=twoB 2++twoB 0}]) 0 I rfl rfl rfl (by omega) (At.lit3 (size:=10) (by rfl) (by rfl) (by rfl) hr1 hr2 hr3);exact ⟨D9,(hD2.trans hD7).trans hDz,hIa,hL⟩
section
variable {P:Program} {ops:Array Oper} {Q:Exit->Act->World->Prop} {a:Act} {w0 w w':World} {D:Sto} {ss:List Seg} {o:Oper} {N:Nat} {env:Env} {K:Act->World->Prop}
def strOf (bs:List Nat):ByteArray:=(bs.map (fun x=>((x:Nat):Int))).foldl (fun r n=>r.push (UInt8.ofNat n.toNat)) ByteArray.empty
theorem r_toString {src dst e:TypeId} {x:Operand} {v:Value} {bs:List Nat} (I:Inv w0 D ss w) (hx:ev env x=some v) (hr:RB D v bs) (hs:P.underlying src=some (.slice e)) (he:P.underlying e=some (.int .u8)) (hd:P.underlying dst=some .string) :
  RunOp P env w (.convert src dst x) (.string (strOf bs)):=fun _ a o Z ho=>by
 obtain ⟨A,c,rfl,hc,hlt,hA,hat⟩:=hr;have h1:=run_convert_bytes_string (P:=P) w src dst e A bs.length c hs he hd;have h2:(Conv.bytesToString (.slice A bs.length c)).run P w= .ok (.string (strOf bs)) w:=by
  cases bs with
  |nil=>
   cases A with
   |none=>rfl
   |some ad=>
    have:=run_bytesToString (P:=P) w ad 0 c [] (by simpa using run_loadCells_list (P:=P) w ad [] (by simp));simpa [strOf] using this
  |cons y r=>
   obtain ⟨b,off,cs,T,fr,rfl,h7,h8⟩:=hat (by simp);have hld:=run_loadCells_list (P:=P) w ⟨b,off,none⟩ (((y::r).map (fun x=>((x:Nat):Int))).map (Value.int .u8)) (fun j u hu=>by
    rw [addr_add,cell_of (I.data _ _ h7)];simp only [List.map_map,List.getElem?_map,Option.map_eq_some_iff] at hu;obtain ⟨z,hz,rfl⟩:=hu;exact h8 j z hz)
   simp only [List.length_map] at hld;exact run_bytesToString (P:=P) w ⟨b,off,none⟩ _ c _ hld
 simp [execOp,ho,Z.eval hx,h1,h2]
theorem p_strEql {t t':TypeId} {x y:Operand} {s u:ByteArray} {e:Bool} (hx:ev env x=some (.string s)) (hy:ev env y=some (.string u)) (he:(s.toList==u.toList)=e):PureOp P env (.binOp .eql t x y t') (.bool e):=fun _ a w o Z ho=>by
 have h1:=Z.eval hx;have h2:=Z.eval hy;subst he;simp [execOp,ho,h1,h2,eqGuard,binOp,Op.stringOp,Sem.run]
end
theorem Inv.merge {w0 w:World} {D:Sto} {ss:List Seg} {s1 s2:Seg} (h:Inv w0 D (s1::s2::ss) w):Inv w0 D ((s1++s2)::ss) w:=h.perm (List.Perm.of_eq (by simp))
theorem TreeS.join {D:Sto} {vb vp:Value} {b:Bt} {P:Pl} {sb sp:Seg} (h:BatchS D vb vp b sb) (k:PoolS D vp P sp) (hp:b.pool=P.f):TreeS D vb vp b P (sb++sp):=⟨sb,sp,rfl,h,k,hp⟩
theorem BatchS.ptr {D:Sto} {vb vp:Value} {b:Bt} {s:Seg} (h:BatchS D vb vp b s): ∃bb,vb= .pointer (some ⟨bb,0,none⟩):=by obtain ⟨bb,bo,es,clk,m,vr,sr,h1,_⟩:=h;exact ⟨bb,h1⟩
theorem Inv.parted {w0 w:World} {D:Sto} {ss:List Seg} {s1 s2:Seg} (h:Inv w0 D ((s1++s2)::ss) w):Inv w0 D (s1::s2::ss) w:=h.perm (List.Perm.of_eq (by simp))
theorem BPut_ok {w0 w:World} {D:Sto} {ss:List Seg} {sb sp:Seg} {vb vp:Value} {b b':Bt} {P:Pl} (I:Inv w0 D (sb::sp::ss) w) {ad:Nat->Addr} (hS:TSents D ad) (hB:BatchS D vb vp b sb) (hP:PoolS D vp P sp) (hpool:b.pool=P.f) {vk vv:Value} {key val:Bs} (hk:RB D vk key) (hv:RB D vv val) (hlen:b.recs.length<=1000000000 - 8000) (hok:b.put key val= .ok b') :
  Calls Tryz.prog 21 #[vb,vk,vv] w (Ret fun r w'=>r= .nilIface/\ ∃D' sb' sp',Le D D'/\BatchS D' vb vp b' sb'/\PoolS D' vp P sp'/\Inv w0 D' (sb'::sp'::ss) w'):=by
 refine (BPut_spec I.merge hS (TreeS.join hB hP hpool) hk hv hlen).mono fun e w' h=> ?_;obtain ⟨r,he,h⟩:=h;refine ⟨r,he, ?_⟩;rcases h with ⟨b1,h1,rfl,D',s',hD,hT,hI'⟩|⟨c,o,h1,_⟩
 ·rw [hok] at h1;injection h1 with h1;subst h1
  obtain ⟨sb',sp',rfl,hB',hP',_⟩:=hT;exact ⟨rfl,D',sb',sp',hD,hB',hP',hI'.parted⟩
 rw [hok] at h1;cases h1
theorem BGet_ok {w0 w:World} {D:Sto} {ss:List Seg} {sb sp:Seg} {vb vp:Value} {b:Bt} {P:Pl} (I:Inv w0 D (sb::sp::ss) w) {ad:Nat->Addr} (hS:TSents D ad) (hB:BatchS D vb vp b sb) (hP:PoolS D vp P sp) (hpool:b.pool=P.f) {vk:Value} {key:Bs} (hk:RB D vk key) {res:Option Bs} (hok:b.get key= .ok res) :
  Calls Tryz.prog 94 #[vb,vk] w (Ret fun r w'=> ∃D' vr sb' sp',Le D D'/\r= .tuple #[vr, .bool res.isSome, .nilIface]/\RB D' vr (res.getD [])/\BatchS D' vb vp b sb'/\PoolS D' vp P sp'/\Inv w0 D' (sb'::sp'::ss) w'):=by
 refine (BGet_spec I.merge hS (TreeS.join hB hP hpool) hk).mono fun e w' h=> ?_;obtain ⟨r,he,h⟩:=h;refine ⟨r,he, ?_⟩;rcases h with ⟨res',h1,D',vr,hD,rfl,hr,hT,hI'⟩|⟨c,o,h1,_⟩
 ·rw [hok] at h1;injection h1 with h1;subst h1
  obtain ⟨sb',sp',hs,hB',hP',_⟩:=hT;rw [hs] at hI';exact ⟨D',vr,sb',sp',hD,rfl,hr,hB',hP',hI'.parted⟩
 rw [hok] at h1;cases h1
theorem Redo_ok {w0 w:World} {D:Sto} {ss:List Seg} {sb sp:Seg} {vb vp:Value} {b:Bt} {P:Pl} (I:Inv w0 D (sb::sp::ss) w) {ad:Nat->Addr} (hS:TSents D ad) (hB:BatchS D vb vp b sb) (hP:PoolS D vp P sp) (hpool:b.pool=P.f) (hlen:b.recs.length<=1000000000) :
  Calls Tryz.prog 24 #[vb] w (Ret fun r w'=> ∃D' sb' sp',Le D D'/\DR 10 RcR D' r b.recs/\BatchS D' vb vp b sb'/\PoolS D' vp P sp'/\Inv w0 D' (sb'::sp'::ss) w'):=by
 refine (Redo_spec I.merge hS (TreeS.join hB hP hpool) hlen).mono fun e w' h=> ?_;obtain ⟨r,he,D',hD,hI',hr,hT⟩:=h;refine ⟨r,he, ?_⟩;obtain ⟨sb',sp',hs,hB',hP',_⟩:=hT;rw [hs] at hI';exact ⟨D',sb',sp',hD,hr,hB',hP',hI'.parted⟩
def noL (x:Pg):Pg:={x with lsn:=0}
theorem noL_eq {x y:Pg} (h:noL x=noL y):x.id=y.id/\x.level=y.level/\x.next=y.next/\x.ents=y.ents:=by
 unfold noL at h;injection h with h1 h2 h3 h4 h5
 exact ⟨h1,h3,h4,h5⟩
theorem effP_noL (x:Pg) (r:Rc):noL (effP x r)=effP (noL x) r:=by
 unfold effP noL;simp only []
 repeat' split
 all_goals first|rfl|contradiction
def PlOk (P:Pl) (n:Int):Prop:= ∀id x,P.f id=some x->PgOk x/\x.id=id/\x.lsn<n
theorem applyP_at {x:Pg} {r:Rc} {m:Int} (hid:x.id=r.page) (hl:x.lsn<m):applyP x {r with lsn:=m}={effP x r with lsn:=m}:=by unfold applyP;rw [if_neg (by simp only [];omega)];rfl
theorem pgOk_lsn {x:Pg} (h:PgOk x) (m:Int):PgOk {x with lsn:=m}:=⟨h.id,h.level,h.next,h.len,h.ents⟩
theorem PlOk.apply {P P':Pl} {r:Rc} {m:Int} (h:PlOk P m) (hm:0<m) (hr:RcOk r) (ha:P.apply {r with lsn:=m}=some P'):PlOk P' (m+1):=by
 have key: ∀(x:Pg),PgOk x->x.id=r.page->x.lsn<m->PgOk (applyP x {r with lsn:=m})/\(applyP x {r with lsn:=m}).id=r.page/\(applyP x {r with lsn:=m}).lsn<m+1:=by intro x h1 h2 h3;rw [applyP_at h2 h3];exact ⟨pgOk_lsn (effP_ok h1 hr) m,by show (effP x r).id=r.page;rw [(effP_id x r).1,h2],by show m<m+1;omega⟩
 rw [Pl.apply] at ha;simp only [] at ha;split at ha
 ·rename_i x hx;injection ha with ha;subst ha
  intro id y hy;simp only [] at hy;split at hy
  ·rename_i e;injection hy with hy;subst hy
   have:=h _ _ hx;rw [e];exact key x this.1 this.2.1 this.2.2
  have:=h _ _ hy;exact ⟨this.1,this.2.1,by omega⟩
 split at ha
 ·injection ha with ha;subst ha
  intro id y hy;simp only [] at hy;split at hy
  ·rename_i e;injection hy with hy;subst hy
   rw [e];exact key (newPg r.page) (newPg_pgok hr.page) rfl hm
  have:=h _ _ hy;exact ⟨this.1,this.2.1,by omega⟩
 cases ha
theorem laidP_ok: ∀(l:List Rc) {P P':Pl} {n m:Int},PlOk P n->0<n->(∀r∈l,RcOk r)->laidP P l n=some (P',m)->PlOk P' m
 | [],P,P',n,m,h,_,_,hl=>by rw [laidP] at hl;injection hl with hl;injection hl with h1 h2;subst h1;subst h2;exact h
 |r::l,P,P',n,m,h,hn,hr,hl=>by
  rw [laidP] at hl;split at hl
  ·cases hl
  split at hl
  ·cases hl
  rename_i P1 ha;exact laidP_ok l (h.apply hn (hr r (by simp)) ha) (by omega) (fun q hq=>hr q (by simp [hq])) hl
theorem laidP_snoc (r:Rc): ∀(l:List Rc) {P P':Pl} {n m:Int},laidP P l n=some (P',m)->laidP P (l++ [r]) n=if validR {r with lsn:=m}=false then none else match P'.apply {r with lsn:=m} with
  |none=>none
  |some P''=>some (P'',m+1)
 | [],P,P',n,m,h=>by
  rw [laidP] at h;injection h with h;injection h with h1 h2;subst h1;subst h2
  rw [List.nil_append,laidP];split
  ·rfl
  cases P.apply {r with lsn:=n}<;>rfl
 |q::l,P,P',n,m,h=>by
  rw [laidP] at h;rw [List.cons_append,laidP];split at h
  ·cases h
  rename_i hv;rw [if_neg hv];split at h
  ·cases h
  rename_i P1 ha;exact laidP_snoc r l h
theorem valid_ok {r:Rc} (h:RcOk r) {m:Int} (h1:1<=m) (h2:m<=1099511627776):validR {r with lsn:=m}=true:=by obtain ⟨⟨z1,z2,z3,z4⟩,a1,a2,a3,a4,a5⟩:=h;unfold validR;simp only [z2,z3,z4];exact decide_eq_true ⟨h1,h2,by omega,by omega,by omega,by omega,a1.1,a1.2,by omega,by omega,a3.1,a3.2,a2.1,a2.2,a4,a5⟩
def LInv (P:Pl) (n0:Int) (b:Bt):Prop:= ∃P',laidP P b.recs n0=some (P',n0+b.recs.length)/\PlOk P' (n0+b.recs.length)/\ ∀id,0<=id->id<256->(P'.f id).map noL=(b.view id).map noL
theorem view_of_page {b:Bt} {id:Int} {x:Pg} (h:b.page id= .ok x):b.view id=some x:=by
 rw [Bt.page] at h;rw [Bt.view];split at h
 ·rename_i y hy;rw [hy];injection h with h;rw [h]
 rename_i hy;rw [hy];split at h
 ·cases h
 rename_i hr;simp only [];rw [if_neg hr];split at h
 ·rename_i z hz;injection h with h;subst h;exact hz
 cases h
theorem LInv.doR {P:Pl} {n0:Int} {b b':Bt} {r:Rc} (h:LInv P n0 b) (h1:1<=n0) (h2:n0+b.recs.length<=1099511627776) (hr:RcOk r) (ha:AllOk b) (hd:b.doR r= .ok b'):LInv P n0 b'/\b'.recs.length=b.recs.length+1:=by
 obtain ⟨P',l1,l2,l3⟩:=h;have hrz:({r with lsn:=0}:Rc)=r:=by cases r;simp only [hr.z.1.symm]
 rw [Bt.doR] at hd;split at hd
 ·cases hd
 rename_i x hx;injection hd with hd
 have hx':x.id=r.page/\(r.kind≠1->b.view r.page=some x)/\(r.kind=1->x=newPg r.page):=by
  split at hx
  ·rename_i hk;injection hx with hx;subst hx;exact ⟨rfl,fun q=>absurd hk q,fun _=>rfl⟩
  rename_i hk;exact ⟨(ha _ _ hx).2,fun _=>view_of_page hx,fun q=>absurd q hk⟩
 have hlen:b'.recs.length=b.recs.length+1:=by subst hd;simp
 have hm:1<=n0+(b.recs.length:Int):=by omega
 have hvr:=valid_ok hr hm h2;have hvv:b'.view=b.view.upd r.page (effP x r):=by
  subst hd;funext k;rw [doPg_eff hx'.1.symm];by_cases hk:k=r.page
  ·subst hk;simp [Bt.view,Vw.upd]
  simp [Bt.view,Vw.upd,hk]
 have hrecs:b'.recs=b.recs++ [r]:=by subst hd;simp only [hrz]
 have hap: ∃P'' y,P'.apply {r with lsn:=n0+b.recs.length}=some P''/\(∀k,P''.f k=if k=r.page then some y else P'.f k)/\noL y=noL (effP x r):=by
  rw [Pl.apply];simp only [];have hl3:=l3 r.page hr.page.1 hr.page.2;cases hp:P'.f r.page with
  |some z=>
   have hz:=l2 _ _ hp;refine ⟨_,_,rfl,fun k=>rfl, ?_⟩;rw [applyP_at hz.2.1 hz.2.2];have e1:noL {effP z r with lsn:=n0+(b.recs.length:Int)}=noL (effP z r):=rfl;rw [e1];by_cases hk:r.kind=1
   ·rw [hx'.2.2 hk];unfold effP;rw [if_pos hk,if_pos hk];unfold noL newPg;simp only [hz.2.1]
   rw [hp,hx'.2.1 hk] at hl3;have hzx:noL z=noL x:=by simpa using hl3
   rw [effP_noL,effP_noL,hzx]
  |none=>
   have hk:r.kind=1:=by
    by_cases hk:r.kind=1
    ·exact hk
    rw [hp,hx'.2.1 hk] at hl3;simp at hl3
   rw [if_pos ⟨hk,hvr⟩];refine ⟨_,_,rfl,fun k=>rfl, ?_⟩;rw [applyP_at rfl (show (newPg r.page).lsn<n0+(b.recs.length:Int) by show (0:Int)<_;omega),hx'.2.2 hk];rfl
 obtain ⟨P'',y,a1,a2,a3⟩:=hap;have e2:n0+(b'.recs.length:Int)=n0+(b.recs.length:Int)+1:=by rw [hlen];omega
 refine ⟨⟨P'', ?_, ?_, ?_⟩,hlen⟩
 ·rw [e2,hrecs,laidP_snoc r _ l1,if_neg (by rw [hvr];simp),a1]
 ·rw [e2];exact l2.apply (by omega) hr a1
 intro id i1 i2;rw [a2 id,hvv];by_cases hk:id=r.page
 ·subst hk;rw [if_pos rfl,upd_same];simp [a3]
 rw [if_neg hk,upd_other hk];exact l3 id i1 i2
theorem LInv.all {P:Pl} {n0:Int} (h1:1<=n0) {b':Bt}: ∀(rs:List Rc) {b:Bt},LInv P n0 b->AllOk b->n0+b.recs.length+rs.length<=1099511627777->(∀r∈rs,RcOk r)->b.all rs= .ok b'->LInv P n0 b'/\b'.recs.length=b.recs.length+rs.length
 | [],b,h,_,_,_,ha=>by rw [Bt.all] at ha;injection ha with ha;subst ha;exact ⟨h,rfl⟩
 |r::rs,b,h,ho,hn,hr,ha=>by
  rw [Bt.all] at ha;split at ha
  ·cases ha
  rename_i b1 hb;simp only [List.length_cons] at hn ⊢;obtain ⟨g1,g2⟩:=h.doR h1 (by omega) (hr r (by simp)) ho hb;obtain ⟨g3,g4⟩:=LInv.all h1 rs g1 (ho.doR (hr r (by simp)) hb) (by omega) (fun q hq=>hr q (by simp [hq])) ha;exact ⟨g3,by omega⟩
theorem LInv.new {P:Pl} {n:Int} (h:PlOk P n):LInv P n (newBt P):=by
 refine ⟨P,by simp [newBt,laidP],by simpa [newBt] using h,fun id h1 h2=> ?_⟩;have:(newBt P).view id=P.f id:=by rw [Bt.view,newBt];simp only [];rw [if_neg (by omega)]
 rw [this]
theorem AllOk.new {P:Pl} {n:Int} (h:PlOk P n):AllOk (newBt P):=by
 intro id x hx;have:=view_of_page hx;rw [Bt.view,newBt] at this;simp only [] at this;split at this
 ·cases this
 exact ⟨(h _ _ this).1,(h _ _ this).2.1⟩
theorem map_noL {o:Option Pg} {x:Pg} {o':Option Pg} (h:o.map noL=o'.map noL) (hx:o'=some x): ∃y,o=some y/\noL y=noL x:=by
 subst hx;cases o with
 |none=>simp at h
 |some y=>exact ⟨y,rfl,by simpa using h⟩
theorem SubT.frameL {V V':Vw}: ∀(n:Nat) {id lo hi fl nx ids kv},(∀j∈ids,(V' j).map noL=(V j).map noL)->SubT V n id lo hi fl nx ids kv->SubT V' n id lo hi fl nx ids kv
 |0,id,lo,hi,fl,nx,ids,kv,hf,h=>by
  obtain ⟨h1,h2,x,h3,h4,h5,h6,h7,h8⟩:=h;obtain ⟨y,hy,e⟩:=map_noL (hf id (by rw [h2];simp)) h3;obtain ⟨_,e1,e2,e3⟩:=noL_eq e;exact ⟨h1,h2,y,hy,by rw [e1];exact h4,by rw [e2];exact h5,by rw [e3];exact h6,h7,h8⟩
 |n+1,id,lo,hi,fl,nx,ids,kv,hf,h=>by
  obtain ⟨js,h1,x,h2,h3,h4,h5,h6,h7⟩:=h;obtain ⟨y,hy,e⟩:=map_noL (hf id (by rw [h1];simp)) h2;obtain ⟨_,e1,e2,e3⟩:=noL_eq e;refine ⟨js,h1,y,hy,by rw [e1];exact h3,by rw [e2];exact h4,by rw [e3];exact h5,by rw [e3];exact h6, ?_⟩;rw [e3];exact Chs.mono _ (fun id lo hi fl nx is kv hj hs=>SubT.frameL n (fun j hjm=>hf j (by rw [h1];simp [hj j hjm])) hs) h7
theorem newBt_view {P:Pl} {id:Int} (h1:0<=id) (h2:id<256):(newBt P).view id=P.f id:=by rw [Bt.view,newBt];simp only [];rw [if_neg (by omega)]
theorem IdsOk.new {P:Pl} {n:Int} (h:PlOk P n):IdsOk (newBt P).view:=fun id x hx=>by
 rw [Bt.view,newBt] at hx;simp only [] at hx;split at hx
 ·cases hx
 exact (h _ _ hx).2.1
theorem makeR_ok: ∀r∈makeR,RcOk r:=by
 intro r hr;simp only [makeR,List.mem_cons,List.not_mem_nil,or_false] at hr;rcases hr with q|q|q<;>subst q
 ·exact ⟨⟨rfl,rfl,rfl,rfl⟩,⟨by simp,by simp⟩,⟨by simp,by simp⟩,⟨by simp,by simp⟩,by simp,by simp⟩
 ·exact ⟨⟨rfl,rfl,rfl,rfl⟩,⟨by simp,by simp⟩,⟨by simp,by simp⟩,⟨by simp,by simp⟩,by simp,by simp⟩
 exact ⟨⟨rfl,rfl,rfl,rfl⟩,⟨by simp,by simp⟩,⟨by simp,by simp⟩,⟨by simp,by simp⟩,by simp,by simp⟩
theorem E0_ok:PlOk E0 4:=laidP_ok makeR (P:=Pl.empty) (n:=1) (fun id x hx=>by simp [Pl.empty] at hx) (by omega) makeR_ok E0_laid
theorem E0_0: ∃x,E0.f 0=some x/\x.level=0/\x.next= -1/\x.ents= []:=by
 have h:(E0.f 0).map (fun x=>(x.level,x.next,x.ents))=some (0, -1, []):=by decide+kernel
 obtain ⟨x,h1,h2⟩:=Option.map_eq_some_iff.1 h;simp only [Prod.mk.injEq] at h2;exact ⟨x,h1,h2.1,h2.2.1,h2.2.2⟩
theorem E0_1: ∃x,E0.f 1=some x/\x.ents= [([110],twoB 2++twoB 0)]:=by
 have h:(E0.f 1).map (fun x=>x.ents)=some [([110],twoB 2++twoB 0)]:=by decide+kernel
 obtain ⟨x,h1,h2⟩:=Option.map_eq_some_iff.1 h;exact ⟨x,h1,h2⟩
end Go.Proofs.YtkknmpkcfpdllaaGreatDoor.B
