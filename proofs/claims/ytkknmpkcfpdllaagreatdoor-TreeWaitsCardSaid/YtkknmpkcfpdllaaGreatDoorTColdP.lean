/- What functions of the program compute, each function once: steps over the model, and the plain law of it. -/
import Derived.Test.YtkknmpkcfpdllaaGreatDoorTValuesP
import Derived.Test.YtkknmpkcfpdllaaGreatDoorSSlices
import Derived.Test.YtkknmpkcfpdllaaGreatDoorTFacts
import Derived.Test.YtkknmpkcfpdllaaGreatDoorTDAv
namespace Go.Proofs.YtkknmpkcfpdllaaGreatDoor.B
open Go Go.Proofs
set_option linter.unusedVariables false
set_option linter.unusedSimpArgs false
set_option maxRecDepth 20000
set_option maxHeartbeats 8000000
structure Dq where
 kind:Int
 key:Bs
 val:Bs
def DoR (D:Sto) (vs:List Value) (x:Dq):Prop:= ∃k v,vs= [.int .i64 x.kind,k,v]∧RB D k x.key∧RB D v x.val
theorem DoR.keeps:Keeps DoR:=fun D D' vs x hD h=>by obtain ⟨k,v,rfl,h1,h2⟩:=h;exact ⟨k,v,rfl,h1.mono hD,h2.mono hD⟩
def Light (l:List Dq) (most:Int):Prop:=(l.length:Int)≤most∧ ∀x∈l,(x.key.length:Int)≤40∧(x.val.length:Int)≤80
theorem light21_spec {w0 w:World} {D:Sto} {ss:List Seg} (hI:Inv w0 D ss w) {vl:Value} {l:List Dq} (hl:DR 3 DoR D vl l) {most:Int} (hm:most≤1000000000) :
  Calls Tryz.prog 39 #[vl, .int .i64 most] w (Ret fun r w'=>Ans (Light l most) (Inv w0 D ss) r w'):=by
 obtain ⟨A1,c2,rfl,_⟩:=hl.slice;refine enter (N:=32) Tryz.func39 rfl rfl rfl ?_;intro a hE;refine go 6 hE hI ?_;clear hE a;intro a hE;refine zs hE (p_len rfl rfl Tryz.underlying71) ?_;clear hE a;intro a hE;refine zm hE ?_;clear hE a;intro a hE;refine l_step rfl (o_cmp hE rfl rfl rfl rfl rfl rfl ?_ ?_)
 ·intro hgt;replace hgt:=gtr_t hgt;clear hE a;intro a hE;refine go 7 hE hI ?_;clear hE a;intro a hE;refine ret1 rfl hE rfl ?_;exact .inr ⟨rfl,fun hh=>by have:=hh.1;omega,hI⟩
 intro hgt;replace hgt:=gtr_f hgt;clear hE a;intro a hE;refine go 9 hE hI ?_;clear hE a;intro a hE;refine c_loop (X:=Nat) (fun y=> [(0,_),(1,_),(5, .int .i64 (y:Nat))]) (fun y w=>y≤l.length∧(∀q∈l.take y,(q.key.length:Int)≤40∧(q.val.length:Int)≤80)∧Inv w0 D ss w) (fun y=>l.length - y) 0 (hE.pick [0,1,5]) ⟨Nat.zero_le _,by simp,hI⟩ ?_;clear hE hI a w;rintro i a w hE ⟨hi,hall,hI⟩;(try dsimp only at hE);(try dsimp only at hi);(try dsimp only at hall);(try dsimp only at hI);refine go 4 hE hI ?_;clear hE a;intro a hE;refine zs hE (p_len rfl rfl Tryz.underlying71) ?_;clear hE a;intro a hE;refine l_step rfl (o_cmp hE rfl rfl rfl rfl rfl rfl ?_ ?_)
 ·intro hlt;replace hlt:=lss_t hlt;clear hE a;intro a hE;refine go 9 hE hI ?_;clear hE a;intro a hE;obtain ⟨x_3,hx_3⟩: ∃z9,(l)[i]? =some z9:=⟨_,List.getElem?_eq_getElem (by omega)⟩;obtain ⟨b_3,o_3,cs_3,T_3,fr_3,rfl,hb_3,hat_3⟩:=hl.at_ (by intro h0;rw [h0] at hx_3;simp at hx_3);obtain ⟨vs_3,hl_3,⟨k_3,v_3,rfl,hk_3,hv_3⟩,hex_3,hsz_3,hce_3⟩:=hat_3.extract hx_3 (by omega);obtain ⟨A4,c5,rfl,_⟩:=hk_3.slice;obtain ⟨A6,c7,rfl,_⟩:=hv_3.slice;refine zs hE (p_indexAddr (m:=o_3+i*3) rfl rfl Tryz.underlying71 sz_76 (by omega) (by omega) (by simp)) ?_;clear hE a;intro a hE;refine zs hE (p_fieldAddr rfl fo_76_1 rfl) ?_;clear hE a;intro a hE;refine zl hE (r_load rfl scal_33 (hI.data _ _ (hb_3)) (hce_3 1 _ rfl)) ?_;clear hE a;intro a hE;refine zs hE (p_len rfl rfl Tryz.underlying33) ?_;clear hE a;intro a hE;refine l_step rfl (o_cmp hE rfl rfl rfl rfl rfl rfl ?_ ?_)
  ·intro hlk;replace hlk:=gtr_t hlk;clear hE a;intro a hE;refine go 20 hE hI ?_;clear hE a;intro a hE;refine ret1 rfl hE rfl ?_;exact .inr ⟨rfl,fun hh=>by have:=hh.2 x_3 (List.mem_of_getElem? hx_3);omega,hI⟩
  intro hlk;replace hlk:=gtr_f hlk;clear hE a;intro a hE;refine go 3 hE hI ?_;clear hE a;intro a hE;refine gs hE (p_indexAddr (m:=o_3+i*3) rfl rfl Tryz.underlying71 sz_76 (by omega) (by omega) (by simp)) ?_;clear hE a;intro a hE;refine gs hE (p_fieldAddr rfl fo_76_2 rfl) ?_;clear hE a;intro a hE;refine gl hE (r_load rfl scal_33 (hI.data _ _ (hb_3)) (hce_3 2 _ rfl)) ?_;clear hE a;intro a hE;refine gs hE (p_len rfl rfl Tryz.underlying33) ?_;clear hE a;intro a hE;refine l_go hE rfl (o_cmp hE rfl rfl rfl rfl rfl rfl ?_ ?_)
  ·intro hlv;replace hlv:=gtr_t hlv;clear hE a;intro a hE;refine go 12 hE hI ?_;clear hE a;intro a hE;refine ret1 rfl hE rfl ?_;exact .inr ⟨rfl,fun hh=>by have:=hh.2 x_3 (List.mem_of_getElem? hx_3);omega,hI⟩
  intro hlv;replace hlv:=gtr_f hlv;clear hE a;intro a hE;refine go 8 hE hI ?_;clear hE a;intro a hE;refine zs hE (p_arith (z:=((i+1:Nat):Int)) rfl rfl (add_z (by omega) (by omega) (by omega))) ?_;clear hE a;intro a hE;refine go 2 hE hI ?_;clear hE a;intro a hE;exact ⟨i+1,hE.pick [0,1,5],⟨by show i+1≤_;omega,fun x hx=>by
    rw [List.take_add_one,hx_3] at hx;rcases List.mem_append.1 hx with q|q
    ·exact hall x q
    have:x=x_3:=by simpa using q
    subst this;omega,hI⟩,by show l.length - (i+1)<l.length - i;omega⟩
 intro hlt;replace hlt:=lss_f hlt;clear hE a;intro a hE;refine go 11 hE hI ?_;clear hE a;intro a hE;refine ret1 rfl hE rfl ?_;exact .inl ⟨rfl,⟨by omega,fun x hx=>hall x (by rw [List.take_of_length_le (by omega)];exact hx)⟩,hI⟩
open Go Go.Deep Go.ChangeShapes Go.WideShapes Go.ChangeAt Go.RowKit
instance:Inhabited Dq:=⟨⟨0, [], []⟩⟩
section
variable {H:Type} {enc:TypeId×Value→H} {P:Program} {W:World}
theorem open_dos {b0 base:Nat} {spare:Nat→Bool} {held:Bool} {t e q:TypeId} {v:Value} {d:DataW H} {ps:List MemPlace} {f0 f1 f2:Field} (ht:P.underlying t=some (.slice e)) (he:P.underlying e=some (.struct #[f0,f1,f2])) (hC:P.cellsOf e=3)
    (o0:f0.offset=0) (o1:f1.offset=1) (o2:f2.offset=2) (k0:P.cellsOf f0.type=1) (k1:P.cellsOf f1.type=1) (k2:P.cellsOf f2.type=1) (u0:P.underlying f0.type=some (.int .i64)) (u1:P.underlying f1.type=some (.slice q)) (u2:P.underlying f2.type=some (.slice q)) (hq:P.underlying q=some (.int .u8)) (cq:P.cellsOf q=1)
    (hv:Value.okWide P W .any b0 t v) (h:DataW.Trod enc P W base spare held t v d ps): ∃l:List Dq,DR 3 DoR (fun b=>W.heap[b]?) v l∧l.length≤maxLen:=by
  refine open_slc ht hC (by omega) (fun n cs z hz hl=> ?_) hv h;obtain ⟨y0,y1,y2,m,_,_,t0,t1,t2⟩:=trod_struct3 he hz
  match cs,hl with
  | [c0,c1,c2],_=>
    rw [o0,k0] at t0;rw [o1,k1] at t1;rw [o2,k2] at t2;obtain ⟨tx,e0,_,_⟩:=DataW.trod_int u0 t0;obtain rfl:c0= .int .i64 tx:=by simpa using e0
    obtain ⟨bk,rbk,_⟩:=open_bytesT u1 hq cq t1;obtain ⟨bv,rbv,_⟩:=open_bytesT u2 hq cq t2;exact ⟨⟨tx,bk,bv⟩,c1,c2,rfl,rbk,rbv⟩
end
theorem SameRedo_ok {w0 w:World} {D:Sto} {ss:List Seg} (hI:Inv w0 D ss w) {v1 v2:Value} {rc:Rc} (h1:RcV D v1 rc) (h2:RcV D v2 rc) (hl1:rc.key.length≤100000) (hl2:rc.val.length≤100000) :
  Calls Tryz.prog 98 #[v1,v2] w (Ret fun r w'=>r= .bool true∧Inv w0 D ss w'):=by
 obtain ⟨k1,v2,rfl,hk3,hv4,ho5⟩:=h1;obtain ⟨A6,c7,rfl,_⟩:=hk3.slice;obtain ⟨A8,c9,rfl,_⟩:=hv4.slice;obtain ⟨k10,v11,rfl,hk12,hv13,ho14⟩:=h2;obtain ⟨A15,c16,rfl,_⟩:=hk12.slice;obtain ⟨A17,c18,rfl,_⟩:=hv13.slice;refine enter (N:=77) Tryz.func98 rfl rfl rfl ?_;intro a hE;refine wsr ?_;refine l_step rfl (f_box (cs:= #[_,_,_,_,_,_,_,_,_,_]) hE hI rfl rfl rfl rfl rfl ?_);clear hI hE a w;intro a b19 w hE hI;refine l_step rfl (f_box (cs:= #[_,_,_,_,_,_,_,_,_,_]) hE hI rfl rfl rfl rfl rfl ?_);clear hI hE a w;intro a b20 w hE hI;refine go 7 hE hI ?_;clear hE a;intro a hE;refine l_step rfl (o_call hE rfl rfl rfl rfl ent_82 (SameBytes_spec hI hk3 hk12 (by omega)) ?_);clear hI hE a;rintro r w h a hE;rcases h with ⟨rfl,hsm,hI⟩|⟨rfl,hsm,hI⟩
 ·refine go 7 hE hI ?_;clear hE a;intro a hE;refine l_step rfl (o_call hE rfl rfl rfl rfl ent_82 (SameBytes_spec hI hv4 hv13 (by omega)) ?_);clear hI hE a;rintro r w h a hE;rcases h with ⟨rfl,hsm,hI⟩|⟨rfl,hsm,hI⟩
  ·refine go 12 hE hI ?_;clear hE a;intro a hE;refine gs hE (p_cmp rfl rfl (eql_y (rfl))) ?_;clear hE a;intro a hE;refine go 6 hE hI ?_;clear hE a;intro a hE;refine gs hE (p_cmp rfl rfl (eql_y (rfl))) ?_;clear hE a;intro a hE;refine go 6 hE hI ?_;clear hE a;intro a hE;refine gs hE (p_cmp rfl rfl (eql_y (rfl))) ?_;clear hE a;intro a hE;refine go 6 hE hI ?_;clear hE a;intro a hE;refine gs hE (p_cmp rfl rfl (eql_y (rfl))) ?_;clear hE a;intro a hE;refine go 6 hE hI ?_;clear hE a;intro a hE;refine gs hE (p_cmp rfl rfl (eql_y (rfl))) ?_;clear hE a;intro a hE;refine go 6 hE hI ?_;clear hE a;intro a hE;refine gs hE (p_cmp rfl rfl (eql_y (rfl))) ?_;clear hE a;intro a hE;refine go 6 hE hI ?_;clear hE a;intro a hE;refine gs hE (p_cmp rfl rfl (eql_y (rfl))) ?_;clear hE a;intro a hE;refine go 6 hE hI ?_;clear hE a;intro a hE;refine gs hE (p_boolEq (b:=true) Tryz.underlying4 rfl rfl (by simp [eqB])) ?_;clear hE a;intro a hE;refine go 4 hE hI ?_;clear hE a;intro a hE;refine ret1 rfl hE rfl ?_;exact ⟨rfl,hI.drop.drop⟩
  exfalso;exact hsm rfl
 exfalso;exact hsm rfl
theorem SameRedos_ok {w0 w:World} {D:Sto} {ss:List Seg} (hI:Inv w0 D ss w) {v1 v2:Value} {l:List Rc} (h1:DR 10 RcR D v1 l) (h2:DR 10 RcR D v2 l) (hll:l.length≤1000000000) :
  Calls Tryz.prog 43 #[v1,v2] w (Ret fun r w'=>r= .bool true∧Inv w0 D ss w'):=by
 obtain ⟨A1,c2,rfl,_⟩:=h1.slice;obtain ⟨A3,c4,rfl,_⟩:=h2.slice;refine enter (N:=29) Tryz.func43 rfl rfl rfl ?_;intro a hE;refine go 6 hE hI ?_;clear hE a;intro a hE;refine zs hE (p_len rfl rfl Tryz.underlying29) ?_;clear hE a;intro a hE;refine zm hE ?_;clear hE a;intro a hE;refine zs hE (p_len rfl rfl Tryz.underlying29) ?_;clear hE a;intro a hE;refine zs hE (p_cmp rfl rfl (neq_n (rfl))) ?_;clear hE a;intro a hE;refine go 9 hE hI ?_;clear hE a;intro a hE;refine c_loop (X:=Nat) (fun x=> [(0,_),(1,_),(5, .int .i64 (x:Nat))]) (fun x w=>x≤l.length∧Inv w0 D ss w) (fun x=>l.length - x) 0 (hE.pick [0,1,5]) ⟨Nat.zero_le _,hI⟩ ?_;clear hE hI a w;rintro i a w hE ⟨hi,hI⟩;(try dsimp only at hE);(try dsimp only at hi);(try dsimp only at hI);refine go 4 hE hI ?_;clear hE a;intro a hE;refine zs hE (p_len rfl rfl Tryz.underlying29) ?_;clear hE a;intro a hE;refine l_step rfl (o_cmp hE rfl rfl rfl rfl rfl rfl ?_ ?_)
 ·intro hlt;replace hlt:=lss_t hlt;clear hE a;intro a hE;refine gc 6 hE ?_;refine wp_seq ?_;refine d_start [] [] (by kernel_rfl) hI rfl rfl ?_;clear hI w;intro w hI;refine dp 0 hE rfl (p_move rfl) (fun _=>hI) (listed':= #[true,false,false,false,false,false,false,false,false,false]) ?_;clear hE a;intro a hE;refine dp 1 hE rfl (p_move rfl) (fun _=>hI) ?_;clear hE a;intro a hE;obtain ⟨x_5,hx_5⟩: ∃z9,(l)[i]? =some z9:=⟨_,List.getElem?_eq_getElem (by omega)⟩;obtain ⟨b_5,o_5,cs_5,T_5,fr_5,rfl,hb_5,hat_5⟩:=h1.at_ (by intro h0;rw [h0] at hx_5;simp at hx_5);obtain ⟨vs_5,hl_5,⟨k_5,v_5,rfl,hk_5,hv_5,hok_5⟩,hex_5,hsz_5,hce_5⟩:=hat_5.extract hx_5 (by omega);obtain ⟨A6,c7,rfl,_⟩:=hk_5.slice;obtain ⟨A8,c9,rfl,_⟩:=hv_5.slice;refine dp 2 hE rfl (p_indexAddr (m:=o_5+i*10) rfl rfl Tryz.underlying29 sz_124 (by omega) (by omega) (by simp)) (fun _=>hI) ?_;clear hE a;intro a hE;refine dl 3 hE rfl (fun w hS=>r_loadA rfl agg_124 (Inv.data hS _ _ (hb_5)) hsz_5 hex_5) (hI) ?_;clear hE a;intro a hE;refine dp 4 hE rfl (p_move rfl) (fun _=>hI) ?_;clear hE a;intro a hE;refine dp 5 hE rfl (p_move rfl) (fun _=>hI) ?_;clear hE a;intro a hE;obtain ⟨x_10,hx_10⟩: ∃z9,(l)[i]? =some z9:=⟨_,List.getElem?_eq_getElem (by omega)⟩;obtain ⟨b_10,o_10,cs_10,T_10,fr_10,rfl,hb_10,hat_10⟩:=h2.at_ (by intro h0;rw [h0] at hx_10;simp at hx_10);obtain ⟨vs_10,hl_10,⟨k_10,v_10,rfl,hk_10,hv_10,hok_10⟩,hex_10,hsz_10,hce_10⟩:=hat_10.extract hx_10 (by omega);obtain ⟨A11,c12,rfl,_⟩:=hk_10.slice;obtain ⟨A13,c14,rfl,_⟩:=hv_10.slice;refine dp 6 hE rfl (p_indexAddr (m:=o_10+i*10) rfl rfl Tryz.underlying29 sz_124 (by omega) (by omega) (by simp)) (fun _=>hI) ?_;clear hE a;intro a hE;refine dl 7 hE rfl (fun w hS=>r_loadA rfl agg_124 (Inv.data hS _ _ (hb_10)) hsz_10 hex_10) (hI) ?_;clear hE a;intro a hE;refine do1 8 hE rfl ?_;obtain rfl:x_5=x_10:=by rw [hx_5] at hx_10;injection hx_10
  refine o_call hE rfl rfl rfl rfl ent_98 (SameRedo_ok (rc:=x_5) hI ⟨_,_,rfl,hk_5,hv_5,hok_5⟩ ⟨_,_,rfl,hk_10,hv_10,hok_10⟩ hok_5.k hok_5.v) ?_;clear hI hE a;rintro r w ⟨rfl,hI⟩ a hE;refine ⟨fun _=>hI, ?_⟩;refine dp 9 hE rfl (p_assign rfl) (fun _=>hI) ?_;clear hE a;intro a hE;refine d_done (by kernel_rfl) ?_;refine go 3 hE hI ?_;clear hE a;intro a hE;refine zs hE (p_not rfl) ?_;clear hE a;intro a hE;refine go 7 hE hI ?_;clear hE a;intro a hE;refine zs hE (p_arith (z:=((i+1:Nat):Int)) rfl rfl (add_z (by omega) (by omega) (by omega))) ?_;clear hE a;intro a hE;refine go 2 hE hI ?_;clear hE a;intro a hE;exact ⟨i+1,hE.pick [0,1,5],⟨by show i+1≤_;omega,hI⟩,by show l.length - (i+1)<l.length - i;omega⟩
 intro hlt;replace hlt:=lss_f hlt;clear hE a;intro a hE;refine go 11 hE hI ?_;clear hE a;intro a hE;refine ret1 rfl hE rfl ?_;exact ⟨rfl,hI⟩
def SubF (C Q:Int→Option Pg):Prop:= ∀id x,Q id=some x→C id=some x∨C id=none
def Lacks (C Q:Int→Option Pg) (id:Int):Prop:=C id=none∧Q id≠none∧0≤id∧id<256
theorem cold_page {C Q:Pl} (h:SubF C.f Q.f) {id:Int} {x:Pg} (hp:(newBt Q).page id= .ok x):(newBt C).page id= .ok x∨((newBt C).page id= .fail 113 (some id)∧Lacks C.f Q.f id):=by
 simp only [Bt.page,newBt] at hp ⊢;split at hp
 ·cases hp
 rename_i hr;rw [if_neg hr];cases hq:Q.f id with
 |none=>rw [hq] at hp;cases hp
 |some y=>
  rw [hq] at hp;simp only [] at hp;rcases h id y hq with h1|h1
  ·rw [h1];exact .inl hp
  rw [h1];exact .inr ⟨rfl,h1,by simp [hq],by omega,by omega⟩
theorem cold_downF {C Q:Pl} (h:SubF C.f Q.f) {key:Bs}: ∀(n:Nat) (id:Int) (l:List Pg) (ks:List Nat) {r},(newBt Q).downF key n id l ks= .ok r→
  (newBt C).downF key n id l ks= .ok r∨ ∃j,(newBt C).downF key n id l ks= .fail 113 (some j)∧Lacks C.f Q.f j
 |0,id,l,ks,r,hq=>by rw [Bt.downF] at hq;cases hq
 |n+1,id,l,ks,r,hq=>by
  rw [Bt.downF] at hq;rw [Bt.downF];cases hp:(newBt Q).page id with
  |fail c o=>rw [hp] at hq;cases hq
  |ok x=>
   rw [hp] at hq;simp only [] at hq;rcases cold_page h hp with h1|⟨h1,h2⟩
   ·rw [h1];simp only [];split at hq
    ·rename_i hl;rw [if_pos hl];exact .inl hq
    rename_i hl;rw [if_neg hl];cases ha:atP x (childP x key) with
    |fail c o=>rw [ha] at hq;cases hq
    |ok id'=>rw [ha] at hq;simp only [] at hq ⊢;exact cold_downF h n id' _ _ hq
   rw [h1];exact .inr ⟨id,rfl,h2⟩
theorem cold_fromF {C Q:Pl} (h:SubF C.f Q.f) {key:Bs} {above:Bool}: ∀(n:Nat) (x:Pg) {r},(newBt Q).fromF key above n x= .ok r→
  (newBt C).fromF key above n x= .ok r∨ ∃j,(newBt C).fromF key above n x= .fail 113 (some j)∧Lacks C.f Q.f j
 |0,x,r,hq=> .inl hq
 |n+1,x,r,hq=>by
  rw [Bt.fromF] at hq;rw [Bt.fromF];by_cases h1:(if ((findP x.ents key).2 && above)=true then (findP x.ents key).1+1 else (findP x.ents key).1)<x.ents.length
  ·rw [if_pos h1] at hq ⊢;exact .inl hq
  rw [if_neg h1] at hq ⊢;by_cases h2:x.next= -1
  ·rw [if_pos h2] at hq ⊢;exact .inl hq
  rw [if_neg h2] at hq ⊢;cases hp:(newBt Q).page x.next with
  |fail c o=>rw [hp] at hq;cases hq
  |ok y=>
   rw [hp] at hq;simp only [] at hq;rcases cold_page h hp with h3|⟨h3,h4⟩
   ·rw [h3];exact cold_fromF h n y hq
   rw [h3];exact .inr ⟨_,rfl,h4⟩
theorem cold_from {C Q:Pl} (h:SubF C.f Q.f) {key:Bs} {above:Bool} {r} (hq:(newBt Q).from_ key above= .ok r) :
  (newBt C).from_ key above= .ok r∨ ∃j,(newBt C).from_ key above= .fail 113 (some j)∧Lacks C.f Q.f j:=by
 rw [Bt.from_] at hq;rw [Bt.from_];split at hq
 ·cases hq
 rename_i hl;rw [if_neg hl];rw [Bt.down] at hq;rw [Bt.down];cases hd:(newBt Q).downF key 17 0 [] [] with
 |fail c o=>rw [hd] at hq;cases hq
 |ok p=>
  obtain ⟨l,ks⟩:=p;rw [hd] at hq;simp only [] at hq;rcases cold_downF h _ _ _ _ hd with h1|⟨j,h1,h2⟩
  ·rw [h1];exact cold_fromF h _ _ hq
  rw [h1];exact .inr ⟨j,rfl,h2⟩
def LsnOk (P:Pl):Prop:= ∀id x,P.f id=some x→0≤x.lsn
theorem applyP_lsn {x:Pg} {r:Rc} (hx:0≤x.lsn) (hr:0≤r.lsn):0≤(applyP x r).lsn:=by
 unfold applyP;split
 ·exact hx
 exact hr
theorem LsnOk.apply {P P':Pl} {r:Rc} (h:LsnOk P) (hr:0≤r.lsn) (ht:P.apply r=some P'):LsnOk P':=by
 unfold Pl.apply at ht;split at ht
 ·rename_i x hx;injection ht with ht;subst ht
  intro id y hy;simp only [] at hy;split at hy
  ·injection hy with hy;subst hy;exact applyP_lsn (h _ _ hx) hr
  exact h _ _ hy
 split at ht
 ·injection ht with ht;subst ht
  intro id y hy;simp only [] at hy;split at hy
  ·injection hy with hy;subst hy;exact applyP_lsn (by simp [newPg]) hr
  exact h _ _ hy
 cases ht
theorem LsnOk.laid: ∀(l:List Rc) {P P':Pl} {n m:Int},LsnOk P→0≤n→laidP P l n=some (P',m)→LsnOk P'
 | [],P,P',n,m,h,hn,ht=>by
  rw [laidP] at ht;injection ht with ht;injection ht with h1 h2;subst h1;exact h
 |r::l,P,P',n,m,h,hn,ht=>by
  rw [laidP] at ht;split at ht
  ·cases ht
  cases ha:P.apply {r with lsn:=n} with
  |none=>rw [ha] at ht;cases ht
  |some P1=>
   rw [ha] at ht;exact LsnOk.laid l (h.apply hn ha) (by omega) ht
theorem E0_lsn:LsnOk E0:=LsnOk.laid makeR (P:=Pl.empty) (fun id x hx=>by simp [Pl.empty] at hx) (by omega) E0_laid
def Warm (P:Pl) (kv:Ens):Prop:=LsnOk P∧ ∃n,n≤1000000000∧PHolds P n kv
structure PgFine (p:Pg):Prop where
 id0:0≤p.id
 id1:p.id<256
 l0:0≤p.lsn
 l1:p.lsn≤1099511627776
 v0:0≤p.level
 v1:p.level≤16
 n0: -1≤p.next
 n1:p.next<256
 len:p.ents.length≤8
 ents: ∀e∈p.ents,e.1.length≤32∧e.2.length≤64
def only (f:Int→Option Pg) (ids:List Int):Int→Option Pg:=fun id=>if id∈ids then f id else none
def Stands (P:Pl) (kv:Ens) (ids:List Int):Prop:=ids.length≤190∧(∀j∈ids,0≤j∧j<256∧(P.f j).isSome=true)∧
 ∀C:Pl,(∀id x,C.f id=some x→P.f id=some x)→ ∀key above,key.length≤32→
  (newBt C).from_ key above= .ok (fromKv key above kv)∨ ∃j,(newBt C).from_ key above= .fail 113 (some j)∧C.f j=none∧j∈ids
theorem Chs.has {C:CP} {V:Vw}: ∀(es:Ens) {lo hi fl nx ids kv},(∀id lo hi fl nx js kv,C id lo hi fl nx js kv→ ∀j∈js,(V j).isSome=true)→Chs C es lo hi fl nx ids kv→ ∀j∈ids,(V j).isSome=true
 | [],_,_,_,_,_,_,_,h=>h.elim
 | [e],_,_,_,_,_,_,hC,h=>hC _ _ _ _ _ _ _ h.2
 |e::e2::r,_,_,_,_,_,_,hC,h=>by
  obtain ⟨h0,h1,h2,md,i1,i2,k1,k2,rfl,rfl,h3,h4⟩:=h;intro j hj;rcases List.mem_append.1 hj with q|q
  ·exact hC _ _ _ _ _ _ _ h3 j q
  exact Chs.has (e2::r) hC h4 j q
theorem SubT.has {V:Vw}: ∀(n:Nat) {id lo hi fl nx ids kv},SubT V n id lo hi fl nx ids kv→ ∀j∈ids,(V j).isSome=true
 |0,id,lo,hi,fl,nx,ids,kv,⟨_,h2,x,h3,_⟩,j,hj=>by
  rw [h2] at hj;simp only [List.mem_singleton] at hj;rw [hj,h3];rfl
 |n+1,id,lo,hi,fl,nx,ids,kv,⟨js,h1,x,h2,h3,h4,h5,h6,h7⟩,j,hj=>by
  rw [h1] at hj;rcases List.mem_cons.1 hj with rfl|hj
  ·rw [h2];rfl
  exact Chs.has _ (fun _ _ _ _ _ _ _ hs=>SubT.has n hs) h7 j hj
theorem Warm.stands {P:Pl} {kv:Ens} (h:Warm P kv) (hl:kv.length≤500): ∃ids,Stands P kv ids:=by
 obtain ⟨_,nn,_,hOk,hH⟩:=h;have hso:=hH.sorted;have hA:=AllOk.new hOk;obtain ⟨n,u,fl,ids,h⟩:=hH;obtain ⟨h1,h2⟩:=tr_small h (by omega);obtain ⟨h3,_⟩:=tr_bound h;have hc:=h.c;have hrg:=h.g.rg;have hv: ∀j∈ids,(newBt P).view j=P.f j:=fun j hj=>newBt_view (hrg j hj).1 (by have:=(hrg j hj).2.1;omega);refine ⟨ids,by omega,fun j hj=>⟨(hrg j hj).1,by have:=(hrg j hj).2.1;omega,by rw [←hv j hj];exact SubT.has n h.s j hj⟩,fun C hC key above hk=> ?_⟩;have hQv: ∀j∈ids,(newBt ⟨only P.f ids,0, []⟩).view j=(newBt P).view j:=fun j hj=>by
  rw [hv j hj,newBt_view (hrg j hj).1 (by have:=(hrg j hj).2.1;omega)];simp only [only];rw [if_pos hj]
 have hsub: ∀j x,only P.f ids j=some x→P.f j=some x∧j∈ids:=fun j x hx=>by
  unfold only at hx;split at hx
  ·exact ⟨hx,by assumption⟩
  cases hx
 have hOkQ:PlOk ⟨only P.f ids,0, []⟩ nn:=fun j x hx=>hOk j x (hsub j x hx).1;have hs:=SubT.frame n hQv h.s;obtain ⟨l',ks',y,kvL,kvR,m,hd,rfl,w1,w2,w3,w4,w5⟩:=down_sides (key:=key) (IdsOk.new hOkQ) n 17 [] [] (by omega) hs (InR.all key);have hlast:lastPg ([]++l'++ [y])=y:=lastPg_end _ _;have hsR:Sorted kvR:=(List.pairwise_append.1 hso).2.1;have hq:(newBt ⟨only P.f ids,0, []⟩).from_ key above= .ok (fromKv key above (kvL++y.ents++kvR)):=by rw [Bt.from_,if_neg (by omega),Bt.down,hd];simp only [hlast];rw [List.append_assoc,fromKv_left _ w2];exact fromF_law (AllOk.new hOkQ) m 256 (by omega) w4 w1 w3 hsR
 have hS:SubF C.f (only P.f ids):=fun j x hx=>by
  cases hc:C.f j with
  |none=>exact .inr rfl
  |some z=>have:=hC j z hc;rw [(hsub j x hx).1] at this;exact .inl (this.symm▸rfl)
 rcases cold_from (C:=C) (Q:=⟨only P.f ids,0, []⟩) hS hq with h4|⟨j,h4,h5,h6,_⟩
 ·exact .inl h4
 refine .inr ⟨j,h4,h5, ?_⟩;cases ho:only P.f ids j with
 |none=>exact absurd ho h6
 |some x=>exact (hsub j x ho).2
def missing (C:Pl) (ids:List Int):Nat:=ids.countP fun j=>(C.f j).isNone
theorem missing_less {C C':Pl} {ids:List Int} {j:Int} (hj:j∈ids) (h1:C.f j=none) (h2:(C'.f j).isSome=true) (h3: ∀k,(C.f k).isSome=true→(C'.f k).isSome=true):missing C' ids<missing C ids:=by
 unfold missing;have hle: ∀l:List Int,(l.countP fun k=>(C'.f k).isNone)≤l.countP fun k=>(C.f k).isNone:=fun l=>by
  refine List.countP_mono_left fun k _ hk=> ?_;cases hc:C.f k with
  |none=>rfl
  |some x=>have:=h3 k (by rw [hc];rfl);cases hd:C'.f k with
   |none=>rw [hd] at this;cases this
   |some y=>rw [hd] at hk;cases hk
 obtain ⟨l1,l2,rfl⟩:=List.append_of_mem hj;rw [List.countP_append,List.countP_append,List.countP_cons,List.countP_cons];have e1:(C'.f j).isNone=false:=by cases hd:C'.f j with
  |none=>rw [hd] at h2;cases h2
  |some y=>rfl
 have e2:(C.f j).isNone=true:=by rw [h1];rfl
 rw [e1,e2];have:=hle l1;have:=hle l2;simp;omega
end Go.Proofs.YtkknmpkcfpdllaaGreatDoor.B
