/- What functions of the program compute, each function once: steps over the model, and the plain law of it. -/
import Derived.Test.YtkknmpkcfpdllaaDoorTFinds
import Derived.Test.YtkknmpkcfpdllaaDoorTTx10
import Derived.Test.YtkknmpkcfpdllaaDoorTTx6
import Derived.Test.YtkknmpkcfpdllaaDoorTFacts
import Derived.Test.YtkknmpkcfpdllaaDoorTTx4
namespace Go.Proofs.YtkknmpkcfpdllaaDoor.B
open Go Go.Proofs
set_option linter.unusedVariables false
set_option linter.unusedSimpArgs false
set_option maxRecDepth 20000
set_option maxHeartbeats 8000000
structure KRounds (w0:World) (D0:Sto) (l:Nat) (bw:Nat) (es:Array MapEntry) (clk:Nat) (m:List (Int×Value)) (J:List (Int×Value)->Sto->List Seg->Prop):Prop where
 mono: ∀vis D D' ms,Le D D'->J vis D ms->J vis D' ms
 round: ∀vis p D ms rest w,p∈m->p ∉ vis->vis.length<m.length->Le D0 D->J vis D ms->Inv w0 D ([(bw, .map es clk)]::(ms++rest)) w->
  YieldOk l #[.int .i64 p.1] w fun en w'=> ∃D' ms',en= .returned (.bool true)/\Le D D'/\J (p::vis) D' ms'/\Inv w0 D' ([(bw, .map es clk)]::(ms'++rest)) w'
structure AllOf (m vis:List (Int×Value)):Prop where
 all: ∀p∈m,p∈vis
 sub: ∀p∈vis,p∈m
 nd:(vis.map (·.1)).Nodup
def KeySeqOk (D:Sto) (v:Value) (bw:Nat) (es:Array MapEntry) (clk:Nat) (m:List (Int×Value)):Prop:= ∃f cap,v= .func (.func f) #[] cap/\enters Tryd.prog f=true/\
 ∀(w0 w:World) (D':Sto) (ms ss:List Seg) (l:Nat) (J:List (Int×Value)->Sto->List Seg->Prop),Le D D'->Inv w0 D' ([(bw, .map es clk)]::(ms++ss)) w->KRounds w0 D' l bw es clk m J->J [] D' ms->
  Calls Tryd.prog f (#[.func (.yield l) #[] #[]]++cap) w (Ret fun _ w'=> ∃vis D2 ms',Le D' D2/\AllOf m vis/\J vis D2 ms'/\Inv w0 D2 ([(bw, .map es clk)]::(ms'++ss)) w')
theorem Vis.less {es:Array MapEntry} {seen:Array Nat} {m vis:List (Int×Value)} {p:Int×Value} (h:Vis es seen m (p::vis)):vis.length<m.length:=by have:=h.len;simp only [List.length_cons] at this;omega
theorem NaR.le {D D':Sto} {T:Nat} {v:Value} {xs:List Nat} {s:Seg} (h:OR 1 NaR D T v xs s) (hD:Le D D'):OR 1 NaR D' T v xs s:=h.mono NaR.keeps hD
def keysN (vis:List (Int×Value)):List Nat:=vis.reverse.map fun p=>p.1.toNat
theorem keysN_cons (p:Int×Value) (vis:List (Int×Value)):keysN (p::vis)=keysN vis++ [p.1.toNat]:=by simp [keysN]
theorem x_round1 {l:Nat} {r:Loop} {v1:Value} {t1:Tmp} {tm:Array Value} {R:Ending->World->Prop} {N:Nat} {env:Env} {w:World} (Z:EnvOk N env ⟨tm, []⟩) (ht:r.tmps=tm) (hp:r.params= #[t1]) (h1:Nat.blt t1 N=true)
  (h: ∀a',EnvOk N ((t1,v1)::env) a'->wpX (some l) Tryd.prog [] r.assign (beginX Tryd.prog l r.body R) a' w):RoundAt Tryd.prog l r #[v1] w R:=
 x_round (ps:= [(t1,v1)]) Z ht (by rw [hp];simp) (by simp [h1]) h
theorem AllOf.len {m vis:List (Int×Value)} (h:AllOf m vis):vis.length<=m.length:=
 Vis.len (es:= #[]) (seen:= #[]) ⟨h.sub,h.nd,fun e he=>by simp at he⟩
def GetIs (d:Db) (U:Ens) (tx:Int) (key:Bs) (bs:Bs) (had:Bool) (c:Nat):Prop:=(c=107/\(∀p∈d.l,p.1≠tx)/\bs= []/\had=false)\/(c=105/\(∃o,(tx,o)∈d.l)/\ ¬(1<=key.length/\key.length<=20)/\bs= []/\had=false)\/
 (c=0/\(∃o,(tx,o)∈d.l)/\(1<=key.length/\key.length<=20)/\((∃e,d.other tx key (some e)/\bs=e.value/\had=e.had)\/(d.other tx key none/\bs=(lookKv U key).getD []/\had=(lookKv U key).isSome)))
def errC (ad:Nat->Addr) (c:Nat):Value:=if c=0 then .nilIface else errV ad c
theorem TGet_spec {B:Nat} {w0 w:World} {D:Sto} {ss:List Seg} {s sp:Seg} {vd vp vk:Value} {d:Db} {P:Pl} {n:Int} {K:Nat} {U:Ens} {es:List Ent} {key:Bs} (I:Inv w0 D (s::sp::ss) w) {ad:Nat->Addr} (hS17:Sents D ad) (hd:DbS D vd vp d s) (hP:PoolS D vp P sp) (hx:TxI B d P n K U es) (hk:RB D vk key) (tx:Int) :
  Calls Tryd.prog 29 #[vd, .int .i64 tx,vk] w (Ret fun r w'=> ∃c bs had vr D',r= .tuple #[vr, .bool had,errC ad c]/\RB D' vr bs/\GetIs d U tx key bs had c/\Le D D'/\ ∃s' sp',DbS D' vd vp d s'/\PoolS D' vp P sp'/\Inv w0 D' (s'::sp'::ss) w'):=by
 have hS:=hS17.t;have hdb:=hx.ok;obtain ⟨q,hq⟩:=hP.ptr;subst hq;have hkb:=hk.byt;have hd9:=hd;have hdb9:=hdb;obtain ⟨bd,bl,esl,clkl,os,rfl,rfl,hml,hos⟩:=hd;obtain ⟨ge0,ge1,gb0,gb1,gs0,gs1,hids,hdlen⟩:=hdb;replace I:=I.open_db;obtain ⟨A1,c2,rfl,_⟩:=hk.slice;have hval9: ∀e,d.other tx key (some e)->e.value.length<=100000:=fun e ⟨p,hp,_,hl⟩=>by have:=(hx.old_ok (tx:=p.1) (o:=p.2) hp e (lookO_some hl).1).2.2.1;omega
 refine enter (N:=52) Tryd.func29 rfl rfl rfl ?_;intro a Z;refine go 5 Z I ?_;clear Z a;intro a Z;refine wp_seq ?_;refine wp_seq ?_;rcases Classical.em (∃o,(tx,o)∈d.l) with ⟨o,hpo⟩|hno
 ·have hgt:(getM (d.l.map ptrOf) tx).getD (.pointer none)= .pointer (some ⟨o.bo,0,none⟩):=by rw [getM_of_mem hml.nd (List.mem_map_of_mem (f:=ptrOf) hpo)];rfl
  refine go 2 Z I ?_;clear Z a;intro a Z;refine zs Z (p_nilCheck rfl) ?_;clear Z a;intro a Z;refine go 3 Z I ?_;clear Z a;intro a Z;refine zl Z (r_lookup rfl rfl ik_117 zer_120 (I.seg 1 rfl) hml hgt) ?_;clear Z a;intro a Z;refine zs Z (p_eq rfl rfl (g_none rfl) (e_ptrNil Tryd.underlying120 rfl) rfl rfl) ?_;clear Z a;intro a Z;refine go 6 Z I ?_;clear Z a;intro a Z;refine l_step rfl (o_call Z rfl rfl rfl rfl ent_59 (UserKey_spec I hS.g105 hk) ?_);clear I Z a;rintro r w h a Z;rcases h with ⟨v3,D4,hu1,hu2,rfl,hD5,I,hb6⟩|⟨hu,rfl,I⟩
  ·obtain ⟨A7,c8,rfl,_⟩:=hb6.slice;refine go 19 Z I ?_;clear Z a;intro a Z;refine l_step rfl (o_call Z rfl rfl rfl rfl ent_63 (other_spec I.shut_db (hd9.mono hD5) hdb9 (hk.mono hD5) tx) ?_);clear I Z a;rintro r w ⟨o9,hoth,h9,I⟩ a Z;replace I:=I.open_db;rcases h9 with ⟨e9,rfl,vs9,rfl,hue9⟩|⟨rfl,rfl⟩
   ·obtain ⟨ku9,vu9,rfl,hku9,hvu9⟩:=hue9;obtain ⟨A9,c10,rfl,_⟩:=hku9.slice;obtain ⟨A11,c12,rfl,_⟩:=hvu9.slice;refine go 3 Z I ?_;clear Z a;intro a Z;refine l_step rfl (f_alloc (cs:= #[.int .i64 0, .int .i64 0, .slice none 0 0, .bool false, .slice none 0 0]) Z I rfl rfl rfl zer_132 rfl ?_);clear I Z a w;intro a b13 w Z I;refine l_step rfl (f_store (l:= [_,_,_,_,_]) (ss':=_::_) 0 Z I rfl rfl rfl rfl rfl sz_132 (by simp [Value.cells,Value.oneCell',pgCells,rcCells,zPg,errV,zUe,zPlan]) rfl rfl rfl ?_);clear I w;intro w I;refine go 6 Z I ?_;clear Z a;intro a Z;refine wp_seq ?_;refine d_start [2] [] (by kernel_rfl) I rfl rfl ?_;clear I w;intro w I;refine dp 0 Z rfl (p_fieldAddr (m:=4) rfl fo_132_4 rfl) (fun _=>I) (listed':= #[true,false,false,false,false,false,false,false]) ?_;clear Z a;intro a Z;refine dl 1 Z rfl (fun w hS=>f_load rfl scal_34 (Inv.seg 0 hS rfl) rfl) (I) ?_;clear Z a;intro a Z;refine dp 3 Z rfl (p_fieldAddr (m:=3) rfl fo_132_3 rfl) (fun _=>I) ?_;clear Z a;intro a Z;refine d_two 2 4 Z rfl rfl (by kernel_rfl) rfl rfl (listed':= #[true,true,true,true,false,false,false,false]) (listed'':= #[true,true,false,true,true,false,false,false]) rfl rfl ?_ ?_
    ·have hcv9:e9.value.length<=100000:=hval9 _ hoth;refine o_call Z rfl rfl rfl rfl ent_39 (Clone_data (bs:=e9.value) I hvu9 (by omega)) ?_;clear I Z a;rintro r w ⟨D14,hD15,I,hb16⟩ a Z;obtain ⟨A17,c18,rfl,_⟩:=hb16.slice;refine ⟨nl, ?_⟩;refine dp 5 Z rfl (p_assign rfl) nl ?_;clear Z a;intro a Z;refine do1 4 Z rfl ?_;refine o_pure Z rfl rfl (f_load rfl scal_4 (I.seg 0 rfl) rfl) ?_;clear Z a;intro a Z;refine ⟨nl, ?_⟩;refine dp 6 Z rfl (p_assign rfl) nl ?_;clear Z a;intro a Z;refine dp 7 Z rfl (p_assign rfl) nl ?_;clear Z a;intro a Z;refine d_done (by kernel_rfl) ?_;refine gc 3 Z ?_;refine ret3 rfl Z rfl rfl rfl ?_;replace I:=I.erase 0;exact ⟨0,_,_,_,D14,rfl,hb16, .inr (.inr ⟨rfl,⟨o,hpo⟩,⟨hu1,hu2⟩, .inl ⟨e9,hoth,rfl,rfl⟩⟩),(hD5.trans hD15),_,_,hd9.mono (hD5.trans hD15),(hP.mono (hD5.trans hD15)),I.shut_db⟩
    refine o_pure Z rfl rfl (f_load rfl scal_4 (I.seg 0 rfl) rfl) ?_;clear Z a;intro a Z;refine ⟨fun _=>I, ?_⟩;refine do1 2 Z rfl ?_;have hcv9:e9.value.length<=100000:=hval9 _ hoth;refine o_call Z rfl rfl rfl rfl ent_39 (Clone_data (bs:=e9.value) I hvu9 (by omega)) ?_;clear I Z a;rintro r w ⟨D19,hD20,I,hb21⟩ a Z;obtain ⟨A22,c23,rfl,_⟩:=hb21.slice;refine ⟨nl, ?_⟩;refine dp 5 Z rfl (p_assign rfl) nl ?_;clear Z a;intro a Z;refine dp 6 Z rfl (p_assign rfl) nl ?_;clear Z a;intro a Z;refine dp 7 Z rfl (p_assign rfl) nl ?_;clear Z a;intro a Z;refine d_done (by kernel_rfl) ?_;refine gc 3 Z ?_;refine ret3 rfl Z rfl rfl rfl ?_;replace I:=I.erase 0;exact ⟨0,_,_,_,D19,rfl,hb21, .inr (.inr ⟨rfl,⟨o,hpo⟩,⟨hu1,hu2⟩, .inl ⟨e9,hoth,rfl,rfl⟩⟩),(hD5.trans hD20),_,_,hd9.mono (hD5.trans hD20),(hP.mono (hD5.trans hD20)),I.shut_db⟩
   refine go 3 Z I ?_;clear Z a;intro a Z;refine l_step rfl (f_alloc (cs:= #[.int .i64 0, .int .i64 0, .slice none 0 0, .bool false, .slice none 0 0]) Z I rfl rfl rfl zer_132 rfl ?_);clear I Z a w;intro a b24 w Z I;refine l_step rfl (f_store (l:= [_,_,_,_,_]) (ss':=_::_) 0 Z I rfl rfl rfl rfl rfl sz_132 (by simp [Value.cells,Value.oneCell',pgCells,rcCells,zPg,errV,zUe,zPlan]) rfl rfl rfl ?_);clear I w;intro w I;refine go 10 Z I ?_;clear Z a;intro a Z;refine zs Z (p_nilCheck rfl) ?_;clear Z a;intro a Z;refine go 2 Z I ?_;clear Z a;intro a Z;refine l_step rfl (o_call Z rfl rfl rfl rfl ent_9 (New_spec I P (some ⟨q,0,none⟩)) ?_);clear I Z a;rintro r w ⟨sb25,hB26,I⟩ a Z;obtain ⟨bb27,hvb⟩:=BatchS.ptr hB26;subst hvb;refine zm Z ?_;clear Z a;intro a Z;replace I:=I.bring 5;replace I:=I.bring 1;refine l_step rfl (o_call Z rfl rfl rfl rfl ent_32 (BGet_ok I (hS.mono hD5) hB26 (hP.mono hD5) rfl hb6 (hx.get hu2)) ?_);clear I Z a;rintro r w ⟨D28,vr28,sb28,sp28,hD28,rfl,hr28,hB28,hP28,I⟩ a Z;obtain ⟨A28,c28,rfl,_⟩:=hr28.slice;refine go 8 Z I ?_;clear Z a;intro a Z;refine ret3 rfl Z rfl rfl rfl ?_;replace I:=I.erase 2;replace I:=I.erase 0;replace I:=I.bring 3;replace I:=I.bring 3;replace I:=I.bring 3;exact ⟨0,_,_,_,D28,rfl,hr28, .inr (.inr ⟨rfl,⟨o,hpo⟩,⟨hu1,hu2⟩, .inr ⟨hoth,rfl,rfl⟩⟩),(hD5.trans hD28),_,_,hd9.mono (hD5.trans hD28),hP28,I.shut_db⟩
  refine go 20 Z I ?_;clear Z a;intro a Z;refine ret3 rfl Z rfl rfl rfl ?_;exact ⟨105, [],false,_,D,rfl,RB.nil _, .inr (.inl ⟨rfl,⟨o,hpo⟩,hu,rfl,rfl⟩),(Le.refl _),_,_,hd9,hP,I.shut_db⟩
 obtain ⟨hno1,hgt⟩:=tx_no hno;refine go 2 Z I ?_;clear Z a;intro a Z;refine zs Z (p_nilCheck rfl) ?_;clear Z a;intro a Z;refine go 3 Z I ?_;clear Z a;intro a Z;refine zl Z (r_lookup rfl rfl ik_117 zer_120 (I.seg 1 rfl) hml hgt) ?_;clear Z a;intro a Z;refine zs Z (p_eq rfl rfl (g_none rfl) (e_ptrNil Tryd.underlying120 rfl) rfl rfl) ?_;clear Z a;intro a Z;refine gc 2 Z ?_;refine wp_seq ?_;refine d_start [] [] (by kernel_rfl) I rfl rfl ?_;clear I w;intro w I;obtain ⟨T_29,fr_29,hg_29⟩:=hS17.g107;refine dl 0 Z rfl (fun w hS=>f_load rfl scal_31 (Inv.data hS _ _ (hg_29)) rfl) (I) (listed':= #[true,false,false,false]) ?_;clear Z a;intro a Z;refine dp 1 Z rfl (p_assign rfl) (fun _=>I) ?_;clear Z a;intro a Z;refine dp 2 Z rfl (p_assign rfl) (fun _=>I) ?_;clear Z a;intro a Z;refine dp 3 Z rfl (p_assign rfl) (fun _=>I) ?_;clear Z a;intro a Z;refine d_done (by kernel_rfl) ?_;refine gc 3 Z ?_;refine ret3 rfl Z rfl rfl rfl ?_;exact ⟨107, [],false,_,D,rfl,RB.nil _, .inl ⟨rfl,hno1,rfl,rfl⟩,(Le.refl _),_,_,hd9,hP,I.shut_db⟩
variable {B:Nat}
theorem Chs.kvlen {C:CP}: ∀(es:Ens) {lo hi fl nx ids kv},(∀id lo hi fl nx js kv,C id lo hi fl nx js kv->kv.length<=8*js.length)->Chs C es lo hi fl nx ids kv->kv.length<=8*ids.length
 | [],_,_,_,_,_,_,_,h=>h.elim
 | [e],_,_,_,_,_,_,hC,h=>hC _ _ _ _ _ _ _ h.2
 |e::e2::r,_,_,_,_,_,_,hC,h=>by
  obtain ⟨h0,h1,h2,md,i1,i2,k1,k2,rfl,rfl,h3,h4⟩:=h;have a:=hC _ _ _ _ _ _ _ h3;have b:=Chs.kvlen (e2::r) hC h4;rw [List.length_append,List.length_append];omega
theorem SubT.kvlen {V:Vw}: ∀(n:Nat) {id lo hi fl nx ids kv},SubT V n id lo hi fl nx ids kv->kv.length<=8*ids.length
 |0,_,_,_,_,_,_,_,h=>by obtain ⟨_,rfl,x,_,_,_,_,h8,_⟩:=h;simpa using h8
 |n+1,_,_,_,_,_,_,_,h=>by
  obtain ⟨js,rfl,x,_,_,_,_,_,h7⟩:=h;have:=Chs.kvlen _ (fun _ _ _ _ _ _ _ hs=>SubT.kvlen n hs) h7;simp only [List.length_cons];omega
theorem HoldsA.few {b:Bt} {K:Nat} {kv:Ens} (h:HoldsA B b K kv):kv.length<=2040:=by obtain ⟨n,av,fl,ids,h⟩:=h;have h1:=SubT.kvlen n h.s;have h2:=h.c;omega
end Go.Proofs.YtkknmpkcfpdllaaDoor.B
